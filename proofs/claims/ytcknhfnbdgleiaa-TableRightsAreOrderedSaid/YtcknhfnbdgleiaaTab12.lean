/- Unmap and Map. -/
import Derived.Test.YtcknhfnbdgleiaaTab11
set_option linter.unusedVariables false
set_option linter.unusedSimpArgs false
namespace Go.Proofs.Ytcknhfnbdgleiaa
open Go.AE

theorem err_good28 (l : List AV) (c : Int) : goodF Pg 28 (.tuple [.agg 23 [.slice 118 l false], .int .i64 c]) = true := by kernel_rfl
theorem err_good26 (l : List AV) (c : Int) : goodF Pg 26 (.tuple [.agg 23 [.slice 118 l false], .int .i64 c]) = true := by kernel_rfl
theorem err_good31 (l : List AV) (c : Int) : goodF Pg 31 (.agg 58 [.agg 23 [.slice 118 l false], .int .i64 c]) = true := by kernel_rfl
theorem err_good29 (l : List AV) (c : Int) : goodF Pg 29 (.agg 58 [.agg 23 [.slice 118 l false], .int .i64 c]) = true := by kernel_rfl
def fitU (m : Pgs) (root va : Nat) : Bool := cond (decide (va < 131072)) (cond (root == 0) false (pgd m root)) false
theorem fitU_of {m : Pgs} {root va : Nat} (h : fitU m root va = true) : va < 131072 ∧ (root == 0) = false ∧ pgd m root = true := by
  unfold fitU at h
  cases h1 : decide (va < 131072) <;> cases h2 : root == 0 <;> rw [h1, h2] at h <;> first | exact ⟨by simpa using h1, rfl, h⟩ | (simp at h; done)
def um (m : Pgs) (root va : Nat) : Pgs × Nat :=
  cond (fitU m root va) (cond (hb (wo m (at1 root va)) 1) (cond (right m (wo m (at1 root va)))
    (cond (hb (wo m (at1 root va)) 64) (sw m (at1 root va) 0, 0)
      (cond (hb (wo m (at2 (wo m (at1 root va)) va)) 1) (sw m (at2 (wo m (at1 root va)) va) 0, 0) (m, 5))) (m, 3)) (m, 5)) (m, 1)
theorem r_um (k : Nat) {m : Pgs} (w : Wm m) (root va : Nat) (hr : root < 4294967296) (hv : va < 4294967296) :
    Rt Pg (D (k + 4)) 28 [mv m, .int .u32 (root : Int), .int .u32 (va : Int)] (errT (um m root va)) := .of (by
  have hl := w.le
  have eB : decide ((131072 : Int) ≤ (va : Int)) = !decide (va < 131072) := by rw [← decide_not]; exact decide_eq_decide.mpr (by omega)
  have eR : ((root : Int) == 0) = (root == 0) := beqN _ 0
  have r1 := r_paged (k + 2) w root hr
  rw [Dk, nf_table_Unmap]
  simp only [eB, eR, r1.ok, r1.val, bO]
  unfold um
  cases hf : fitU m root va with
  | false =>
    unfold fitU at hf
    revert hf
    cases decide (va < 131072) <;> cases root == 0 <;> cases pgd m root <;> intro hf <;> first | (simp at hf; done) | rfl
  | true =>
  obtain ⟨f1, f2, f3⟩ := fitU_of hf
  have gg3 := pgd_of f3
  have l1 : at1 root va < 4294967296 := by unfold at1; omega
  have e1 := at1_eq (show root < 8192 by omega) f1
  have r2 := r_tload (k + 1) w (at1 root va) l1
  have hw := wo_lt w (at1 root va)
  have s0 := r_set k w (at1 root va) 0 l1 (by omega)
  rw [decide_eq_true f1, f2, f3]
  simp only [Bool.not_true, e1, r2.ok, r2.val, iO]
  rw [cond_false]
  have ha : ∀ e : Nat, right m e = true → hb e 64 = false → pa e < 8192 := fun e => right_small w
  generalize wo m (at1 root va) = e at hw ⊢
  have r3 := r_has1 (k + 2) hw
  have r4 := r_has64 (k + 2) hw
  have r5 := r_right (k + 1) w hw
  have r6 := r_page (k + 2) hw
  simp only [show ((0 : Nat) : Int) = 0 from rfl] at s0
  simp only [r3.ok, r3.val, r4.ok, r4.val, r5.ok, r5.val, r6.ok, r6.val, bO, iO]
  cases h1 : hb e 1 with
  | false =>
    simp only [cond_false, cond_true, condB_t', Bool.not_false, Bool.true_or]
    simp only [r3.ok, r3.val, bO, h1]
    rfl
  | true =>
  cases h2 : right m e with
  | false => rfl
  | true =>
  cases h3 : hb e 64 with
  | true =>
    simp only [cond_false, cond_true, condB_t', Bool.not_false, Bool.not_true, Bool.true_or, Bool.false_or]
    simp only [r3.ok, r3.val, bO, h1, s0.ok, s0.val, pO, g0, lO]
    rfl
  | false =>
  have hp := ha e h2 h3
  have l2 : at2 e va < 4294967296 := by unfold at2; omega
  have r7 := r_tload (k + 1) w (at2 e va) l2
  have hw2 := wo_lt w (at2 e va)
  have r8 := r_has1 (k + 2) hw2
  have s1 := r_set k w (at2 e va) 0 l2 (by omega)
  simp only [show ((0 : Nat) : Int) = 0 from rfl] at s1
  simp only [cond_false, cond_true, condB_t', Bool.not_false, Bool.not_true, Bool.true_or, Bool.false_or, Bool.or_true, at2_eq hp, r7.ok, r7.val, iO, r8.ok, r8.val, bO, s1.ok, s1.val, pO, g0, lO]
  cases hb (wo m (at2 e va)) 1 <;> rfl) (err_good28 ..)
theorem r_rum (k : Nat) {m : Pgs} (w : Wm m) (root va : Nat) (hr : root < 4294967296) (hv : va < 4294967296) :
    Rt Pg (D (k + 6)) 31 [mv m, .int .u32 (root : Int), .int .u32 (va : Int)] (errR (um m root va)) := .of (by
  have hl := w.le
  have eB : decide ((131072 : Int) ≤ (va : Int)) = !decide (va < 131072) := by rw [← decide_not]; exact decide_eq_decide.mpr (by omega)
  have eR : ((root : Int) == 0) = (root == 0) := beqN _ 0
  have r1 := r_rpage (k + 3) w root (by omega)
  rw [Dk, nf_ref10_Unmap]
  simp only [w64 (show va < 9223372036854775808 by omega), w64 (show root < 9223372036854775808 by omega), eB, eR, r1.ok, r1.val, bO]
  unfold um
  cases hf : fitU m root va with
  | false =>
    unfold fitU at hf
    revert hf
    cases decide (va < 131072) <;> cases root == 0 <;> cases pgd m root <;> intro hf <;> first | (simp at hf; done) | rfl
  | true =>
  obtain ⟨f1, f2, f3⟩ := fitU_of hf
  have gg3 := pgd_of f3
  have l1 : at1 root va < 4294967296 := by unfold at1; omega
  have r2 := r_top k w root va (by omega) f1
  have hw := wo_lt w (at1 root va)
  have s0 := r_rset (k + 1) w (at1 root va) 0 l1 (by omega)
  simp only [show ((0 : Nat) : Int) = 0 from rfl] at s0
  rw [decide_eq_true f1, f2, f3]
  simp only [Bool.not_true, r2.ok, r2.val, pO, g0, g1, g2, g3, g4, bO, iO]
  rw [cond_false]
  have ha : ∀ e : Nat, right m e = true → hb e 64 = false → pa e < 8192 := fun e => right_small w
  have r3 := r_below (k + 3) (at1 root va) (wo m (at1 root va)) va (hb (wo m (at1 root va)) 1) (right m (wo m (at1 root va))) (hb (wo m (at1 root va)) 64) hw (by omega)
  simp only [r3.ok, r3.val, iO, s0.ok, s0.val, pO, g0, lO]
  generalize wo m (at1 root va) = e at hw ⊢
  cases h1 : hb e 1 with
  | false => rfl
  | true =>
  cases h2 : right m e with
  | false => rfl
  | true =>
  cases h3 : hb e 64 with
  | true => rfl
  | false =>
  have hp := ha e h2 h3
  have l2 : at2 e va < 4294967296 := by unfold at2; omega
  have r7 := r_word (k + 1) w (at2 e va) l2
  have hw2 := wo_lt w (at2 e va)
  have r8 := r_rhas (k + 4) hw2 1 (by omega)
  simp only [show ((1 : Nat) : Int) = 1 from rfl] at r8
  have s1 := r_rset (k + 1) w (at2 e va) 0 l2 (by omega)
  simp only [show ((0 : Nat) : Int) = 0 from rfl] at s1
  simp only [cond_false, cond_true, Bool.not_false, Bool.not_true, r7.ok, r7.val, iO, r8.ok, r8.val, bO, s1.ok, s1.val, pO, g0, lO]
  cases hb (wo m (at2 e va)) 1 <;> rfl) (err_good31 ..)
/-! ### Map -/
def bad2 (m : Pgs) (root t : Nat) : Bool := cond (t == 0) true (cond (t == root) true (!pgd m t))
def at3 (t va : Nat) : Nat := t + va / 128 % 32 * 4
def m2 (m : Pgs) (root va t : Nat) : Pgs := sw (wz m t) (at1 root va) (t + 1)
def mp (m : Pgs) (root va pa' : Nat) (r : Int) (t : Nat) : Pgs × Nat :=
  cond (fit m root va pa' r 128) (cond (hb (wo m (at1 root va)) 1)
    (cond (right m (wo m (at1 root va))) (cond (hb (wo m (at1 root va)) 64) (m, 6)
      (cond (hb (wo m (at2 (wo m (at1 root va)) va)) 1) (m, 6) (sw m (at2 (wo m (at1 root va)) va) (pa' + (r.toNat + 1)), 0))) (m, 3))
    (cond (bad2 m root t) (m, 1) (cond (hb (wo (m2 m root va t) (at3 t va)) 1) (m, 6) (sw (m2 m root va t) (at3 t va) (pa' + (r.toNat + 1)), 0)))) (m, 1)
theorem bad2_of {m : Pgs} {root t : Nat} (h : bad2 m root t = false) : (t == 0) = false ∧ (t == root) = false ∧ pgd m t = true := by
  unfold bad2 at h
  cases h1 : t == 0 <;> cases h2 : t == root <;> rw [h1, h2] at h <;> first | (simp at h; done) | exact ⟨rfl, rfl, by simpa using h⟩
theorem m2_wm {m : Pgs} (w : Wm m) {root va t : Nat} (ht : pgd m t = true) (l1 : at1 root va < 4294967296) : Wm (wz m t) ∧ Wm (m2 m root va t) := by
  have := w.le
  have g := pgd_of ht
  have hz := wz_wm w g.2 g.1
  exact ⟨hz, (sw_wm hz l1 (by omega)).1⟩
set_option maxHeartbeats 1000000 in
theorem r_mp (k : Nat) {m : Pgs} (w : Wm m) (root va pa' t : Nat) (r : Int) (hr : root < 4294967296) (hv : va < 4294967296) (hp : pa' < 4294967296) (ht : t < 4294967296) (h0 : -9223372036854775808 ≤ r) (h1 : r < 9223372036854775808) :
    Rt Pg (D (k + 4)) 26 [mv m, .int .u32 (root : Int), .int .u32 (va : Int), .int .u32 (pa' : Int), .int .i64 r, .int .u32 (t : Int)] (errT (mp m root va pa' r t)) := .of (by
  have hl := w.le
  have r1 := r_fits (k + 1) w root va pa' 128 r hr hv hp h0 h1 (by omega)
  simp only [show ((128 : Nat) : Int) = 128 from rfl] at r1
  rw [Dk, nf_table_Map]
  simp only [r1.ok, r1.val, bO]
  unfold mp
  cases hf : fit m root va pa' r 128 with
  | false => rfl
  | true =>
  obtain ⟨f1, f2, f3, f4, f5, f6, f7⟩ := fit_of hf
  have g7 := pgd_of f7
  have g3' := pgd_of f3
  obtain ⟨n, rfl, n1, n2⟩ := rts_nat f5
  have l1 : at1 root va < 4294967296 := by unfold at1; omega
  have e1 := at1_eq (show root < 8192 by omega) f1
  have r2 := r_tload (k + 1) w (at1 root va) l1
  have hw := wo_lt w (at1 root va)
  have ha : ∀ e : Nat, right m e = true → hb e 64 = false → pa e < 8192 := fun e => right_small w
  simp only [Bool.not_true, e1, r2.ok, r2.val, iO, leaf_eq (show pa' < 4294967168 by omega) g3'.1 n1 n2, Int.toNat_natCast]
  rw [cond_true, cond_false, cond_true]
  generalize he : wo m (at1 root va) = e at hw ⊢
  have r3 := r_has1 (k + 2) hw
  have r4 := r_has65 (k + 2) hw
  have r5 := r_right (k + 1) w hw
  have r6 := r_page (k + 2) hw
  simp only [r3.ok, r3.val, r4.ok, r4.val, r5.ok, r5.val, r6.ok, r6.val, bO, iO, cond_true]
  cases h1 : hb e 1 with
  | false =>
    have rt := r_paged (k + 2) w t ht
    have eT : ((t : Int) == 0) = (t == 0) := beqN _ 0
    have eU : ((t : Int) == (root : Int)) = (t == root) := beqN _ _
    simp only [cond_false, cond_true, condB_t', Bool.not_false, Bool.true_or, Bool.false_and, rt.ok, rt.val, bO, eT, eU, condB_tt]
    cases hb2 : bad2 m root t with
    | true =>
      unfold bad2 at hb2
      rw [hb2]
      cases t == 0 <;> cases t == root <;> rfl
    | false =>
    obtain ⟨b1, b2, b3⟩ := bad2_of hb2
    have g := pgd_of b3
    obtain ⟨wz', wm2⟩ := m2_wm (va := va) w b3 l1
    have q1 := r_write (k + 2) w g.2 g.1
    have q2 := r_set k wz' (at1 root va) (t + 1) l1 (by omega)
    have l3 : at3 t va < 4294967296 := by unfold at3; omega
    have q3 := r_tload (k + 1) wm2 (at3 t va) l3
    have q4 := r_has1 (k + 2) (wo_lt wm2 (at3 t va))
    have q5 := r_set k wm2 (at3 t va) (pa' + (n + 1)) l3 (by omega)
    have q6 := r_page (k + 2) (show t + 1 < 4294967296 by omega)
    have et : ibits .or .u32 (t : Int) 1 = ((t + 1 : Nat) : Int) := or_lo (c := 1) (by omega) g.1 (by omega)
    have ep : pa (t + 1) = t := by unfold pa; omega
    rw [ep] at q6
    have ea : IntKind.u32.wrap ((t : Int) + IntKind.u32.wrap ((((va : Int).fdiv 128).tmod 32) * 4)) = ((at3 t va : Nat) : Int) := by
      rw [fd128, show ((va / 128 : Nat) : Int).tmod 32 = ((va / 128 % 32 : Nat) : Int) from tmN _ 32, wrap_u32_id (n := ((va / 128 % 32 : Nat) : Int) * 4) (by omega) (by omega), wrap_u32_id (by omega) (by omega)]; unfold at3; omega
    have ew : IntKind.i64.wrap (t : Int) = (t : Int) := w64 (by omega)
    rw [show sw (wz m t) (at1 root va) (t + 1) = m2 m root va t from rfl] at q2
    simp only [b1, b2, b3, Bool.not_true, cond_false, condB_t, Bool.or_true, cond_true, et, ew, q1.ok, q1.val, tO, g0, pO, lO, q2.ok, q2.val, q6.ok, q6.val, iO, ea, q3.ok, q3.val, q4.ok, q4.val, bO, q5.ok, q5.val]
    cases hb (wo (m2 m root va t) (at3 t va)) 1 <;> rfl
  | true =>
  cases h2 : right m e with
  | false => rfl
  | true =>
  cases h3 : hb e 64 with
  | true => rfl
  | false =>
  have hp' := ha e h2 h3
  have l2 : at2 e va < 4294967296 := by unfold at2; omega
  have r7 := r_tload (k + 1) w (at2 e va) l2
  have hw2 := wo_lt w (at2 e va)
  have r8 := r_has1 (k + 2) hw2
  have s1 := r_set k w (at2 e va) (pa' + (n + 1)) l2 (by omega)
  simp only [cond_false, cond_true, condB_t', Bool.not_false, Bool.not_true, Bool.true_or, Bool.false_or, Bool.and_false, at2_eq hp', r7.ok, r7.val, iO, r8.ok, r8.val, bO, s1.ok, s1.val, pO, g0, lO]
  cases hb (wo m (at2 e va)) 1 <;> rfl) (err_good26 ..)
set_option maxHeartbeats 1000000 in
theorem r_rmp (k : Nat) {m : Pgs} (w : Wm m) (root va pa' t : Nat) (r : Int) (hr : root < 4294967296) (hv : va < 4294967296) (hp : pa' < 4294967296) (ht : t < 4294967296) :
    Rt Pg (D (k + 6)) 29 [mv m, .int .u32 (root : Int), .int .u32 (va : Int), .int .u32 (pa' : Int), .int .i64 r, .int .u32 (t : Int)] (errR (mp m root va pa' r t)) := .of (by
  have hl := w.le
  have eB : decide ((131072 : Int) ≤ (va : Int)) = !decide (va < 131072) := by rw [← decide_not]; exact decide_eq_decide.mpr (by omega)
  have eR : ((root : Int) == 0) = (root == 0) := beqN _ 0
  have e1 : ∀ x : Nat, ((x : Int).tmod 128 != 0) = !(x % 128 == 0) := fun x => by rw [m128]; exact bneN _ 0
  have r1 := r_rpage (k + 3) w pa' (by omega)
  have r2 := r_rights (k + 4) r
  have r3 := r_rpage (k + 3) w root (by omega)
  rw [Dk, nf_ref10_Map]
  simp only [w64 (show va < 9223372036854775808 by omega), w64 (show root < 9223372036854775808 by omega), w64 (show pa' < 9223372036854775808 by omega), w64 (show t < 9223372036854775808 by omega), eB, eR, e1, r1.ok, r1.val, r2.ok, r2.val, r3.ok, r3.val, bO]
  unfold mp
  cases hf : fit m root va pa' r 128 with
  | false =>
    have hpp : pgd m pa' = true → (pa' % 128 == 0) = true := fun h => by have := pgd_of h; simp [this.1]
    unfold fit at hf
    revert hf hpp
    cases decide (va < 131072) <;> cases va % 128 == 0 <;> cases pgd m pa' <;> cases pa' % 128 == 0 <;> cases rts r <;> cases root == 0 <;> cases pgd m root <;> intro hpp hf <;> first | (simp at hf; done) | (simp at hpp; done) | rfl
  | true =>
  obtain ⟨f1, f2, f3, f4, f5, f6, f7⟩ := fit_of hf
  have g7 := pgd_of f7
  have g3' := pgd_of f3
  obtain ⟨n, rfl, n1, n2⟩ := rts_nat f5
  have l1 : at1 root va < 4294967296 := by unfold at1; omega
  have r4 := r_top k w root va (by omega) f1
  have hw := wo_lt w (at1 root va)
  have ha : ∀ e : Nat, right m e = true → hb e 64 = false → pa e < 8192 := fun e => right_small w
  have ex : IntKind.i64.wrap (IntKind.i64.wrap ((pa' : Int) + 1) + (n : Int)) = ((pa' + (n + 1) : Nat) : Int) := by
    rw [wrap_i64_id (n := (pa' : Int) + 1) (by omega) (by omega), wrap_i64_id (by omega) (by omega)]; omega
  rw [decide_eq_true f1, beq_iff_eq.mpr f2, f3, f5, beq_eq_false_iff_ne.mpr f6, f7]
  simp only [r4.ok, r4.val, pO, g0, g1, g2, g3, g4, bO, iO, ex, Int.toNat_natCast]
  have r5 := r_below (k + 3) (at1 root va) (wo m (at1 root va)) va (hb (wo m (at1 root va)) 1) (right m (wo m (at1 root va))) (hb (wo m (at1 root va)) 64) hw (by omega)
  simp only [r5.ok, r5.val, iO]
  generalize he : wo m (at1 root va) = e at hw ⊢
  cases h1 : hb e 1 with
  | false =>
    have rt := r_rpage (k + 3) w t (by omega)
    have eT : ((t : Int) == 0) = (t == 0) := beqN _ 0
    have eU : ((t : Int) == (root : Int)) = (t == root) := beqN _ _
    simp only [cond_false, cond_true, condB_t, condB_t', Bool.not_false, Bool.not_true, Bool.or_true, Bool.true_or, Bool.false_or, Bool.false_and, rt.ok, rt.val, bO, eT, eU, condB_tt]
    cases hb2 : bad2 m root t with
    | true =>
      unfold bad2 at hb2
      rw [hb2]
      cases t == 0 <;> cases t == root <;> rfl
    | false =>
    obtain ⟨b1, b2, b3⟩ := bad2_of hb2
    have g := pgd_of b3
    obtain ⟨wz', wm2⟩ := m2_wm (va := va) w b3 l1
    have q1 := r_rwrite (k + 3) w g.2 g.1
    have q2 := r_rset (k + 1) wz' (at1 root va) (t + 1) l1 (by omega)
    have l3 : at3 t va < 4294967296 := by unfold at3; omega
    have q3 := r_word (k + 1) wm2 (at3 t va) l3
    have q4 := r_rhas (k + 4) (wo_lt wm2 (at3 t va)) 1 (by omega)
    have q5 := r_rset (k + 1) wm2 (at3 t va) (pa' + (n + 1)) l3 (by omega)
    simp only [show ((1 : Nat) : Int) = 1 from rfl] at q4
    have et : IntKind.i64.wrap ((t : Int) + 1) = ((t + 1 : Nat) : Int) := by rw [wrap_i64_id (by omega) (by omega)]; rfl
    have ea : IntKind.i64.wrap ((t : Int) + IntKind.i64.wrap (4 * ((IntKind.i64.wrap ((va : Int).tdiv 128)).tmod 32))) = ((at3 t va : Nat) : Int) := by
      rw [q128, w64 (by omega), show ((va / 128 : Nat) : Int).tmod 32 = ((va / 128 % 32 : Nat) : Int) from tmN _ 32, wrap_i64_id (n := 4 * ((va / 128 % 32 : Nat) : Int)) (by omega) (by omega), wrap_i64_id (by omega) (by omega)]; unfold at3; omega
    rw [show sw (wz m t) (at1 root va) (t + 1) = m2 m root va t from rfl] at q2
    simp only [b1, b2, b3, Bool.not_true, cond_false, condB_t, Bool.or_true, Bool.false_or, cond_true, et, q1.ok, q1.val, g0, pO, lO, q2.ok, q2.val, iO, ea, q3.ok, q3.val, q4.ok, q4.val, bO, q5.ok, q5.val]
    cases hb (wo (m2 m root va t) (at3 t va)) 1 <;> rfl
  | true =>
  cases h2 : right m e with
  | false => rfl
  | true =>
  cases h3 : hb e 64 with
  | true => rfl
  | false =>
  have hp' := ha e h2 h3
  have l2 : at2 e va < 4294967296 := by unfold at2; omega
  have r7 := r_word (k + 1) w (at2 e va) l2
  have hw2 := wo_lt w (at2 e va)
  have r8 := r_rhas (k + 4) hw2 1 (by omega)
  simp only [show ((1 : Nat) : Int) = 1 from rfl] at r8
  have s1 := r_rset (k + 1) w (at2 e va) (pa' + (n + 1)) l2 (by omega)
  simp only [cond_false, cond_true, condB_t, condB_t', Bool.not_false, Bool.not_true, Bool.true_or, Bool.false_or, Bool.and_false, r7.ok, r7.val, iO, r8.ok, r8.val, bO, s1.ok, s1.val, pO, g0, lO]
  cases hb (wo m (at2 e va)) 1 <;> rfl) (err_good29 ..)
end Go.Proofs.Ytcknhfnbdgleiaa
