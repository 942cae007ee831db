/- Entries that are made; MapLarge. -/
import Derived.Test.YtcknhfnbdgleiaaTab10
set_option linter.unusedVariables false
set_option linter.unusedSimpArgs false
namespace Go.Proofs.Ytcknhfnbdgleiaa
open Go.AE

/-- A memory with a word. -/
def sw (m : Pgs) (a v : Nat) : Pgs := stR m ⟨a, 4, v⟩
theorem sw_wm {m : Pgs} (w : Wm m) {a v : Nat} (ha : a < 4294967296) (hv : v < 4294967296) : Wm (sw m a v) ∧ (sw m a v).length = m.length := by
  unfold sw stR
  cases h : th m a 4 with
  | false => exact ⟨w, rfl⟩
  | true => exact ⟨st_w w ⟨ha, .inr rfl, hv⟩ h, st_len ..⟩
theorem r_set (k : Nat) {m : Pgs} (w : Wm m) (a v : Nat) (ha : a < 4294967296) (hv : v < 4294967296) : Rt Pg (D (k + 3)) 82 [mv m, .int .u32 (a : Int), .int .u32 (v : Int)] (mv (sw m a v)) := .of (by
  have r := r_store k w (x := ⟨a, 4, v⟩) ⟨ha, .inr rfl, hv⟩
  have e : wv ⟨a, 4, v⟩ = .agg 41 [.int .i64 (a : Int), .int .i64 4, .int .u32 (v : Int)] := rfl
  rw [e] at r
  rw [Dk, nf_table_set, w64 (by omega)]
  simp only [r.ok, r.val, tO, g0, pO, lO]
  rfl) (by kernel_rfl)
theorem r_rset (k : Nat) {m : Pgs} (w : Wm m) (a v : Nat) (ha : a < 4294967296) (hv : v < 4294967296) : Rt Pg (D (k + 4)) 87 [mv m, .int .i64 (a : Int), .int .i64 (v : Int)] (mv (sw m a v)) := .of (by
  have r := r_rstore k w (x := ⟨a, 4, v⟩) ⟨ha, .inr rfl, hv⟩
  have e : wv ⟨a, 4, v⟩ = .agg 41 [.int .i64 (a : Int), .int .i64 4, .int .u32 (v : Int)] := rfl
  rw [e] at r
  rw [Dk, nf_ref10_set, w32 hv]
  simp only [r.ok, r.val, g0, pO, lO]
  rfl) (by kernel_rfl)
/-! ### rights -/
def rts (r : Int) : Bool := cond (decide (0 ≤ r)) (cond (r.tmod 2 == 0) (decide (r ≤ 14)) false) false
theorem rts_nat {r : Int} (h : rts r = true) : ∃ n : Nat, r = n ∧ n ≤ 14 ∧ n % 2 = 0 := by
  unfold rts at h
  simp only [c_and, Bool.and_eq_true, decide_eq_true_eq, beq_iff_eq] at h
  obtain ⟨n, rfl⟩ : ∃ n : Nat, r = n := ⟨r.toNat, by omega⟩
  refine ⟨n, rfl, by omega, ?_⟩
  have := h.2.1
  rw [show ((n : Int)).tmod 2 = ((n % 2 : Nat) : Int) from tmN _ 2] at this
  omega
theorem andNot0 {a b : BitVec 64} (h : a &&& ~~~b = 0#64) : a = a &&& b := by
  apply BitVec.eq_of_getLsbD_eq
  intro i hi
  have := congrArg (fun v : BitVec 64 => v.getLsbD i) h
  simp only [BitVec.getLsbD_and, BitVec.getLsbD_not, hi, decide_true, Bool.true_and, BitVec.getLsbD_zero] at this
  rw [BitVec.getLsbD_and]
  revert this
  cases a.getLsbD i <;> cases b.getLsbD i <;> simp
theorem rts_in : ∀ n : Nat, n < 16 → (ibits .andNot .i64 (n : Int) 14 == 0) = rts n := by decide +kernel
theorem rts_eq {r : Int} (h0 : -9223372036854775808 ≤ r) (h1 : r < 9223372036854775808) : (ibits .andNot .i64 r 14 == 0) = rts r := by
  by_cases h : 0 ≤ r ∧ r < 16
  · obtain ⟨n, rfl⟩ : ∃ n : Nat, r = n := ⟨r.toNat, by omega⟩
    exact rts_in n (by omega)
  · have e : rts r = false := by
      unfold rts
      by_cases h2 : 0 ≤ r
      · rw [decide_eq_true h2, decide_eq_false (show ¬ r ≤ 14 by omega)]; cases r.tmod 2 == 0 <;> rfl
      · rw [decide_eq_false h2]; rfl
    rw [e]
    cases hb' : ibits .andNot .i64 r 14 == 0 with
    | false => rfl
    | true =>
      exfalso
      apply h
      have e : IntKind.i64.wrap ((BitVec.ofInt 64 r &&& ~~~(14#64)).toNat : Int) = 0 := by
        have : ibits .andNot .i64 r 14 = 0 := by simpa using hb'
        exact this
      have e2 : BitVec.ofInt 64 r &&& ~~~(14#64) = 0#64 := by
        apply BitVec.eq_of_toNat_eq
        have hl := (BitVec.ofInt 64 r &&& ~~~(14#64)).isLt
        generalize (BitVec.ofInt 64 r &&& ~~~(14#64)).toNat = m at e hl ⊢
        rw [wrap_i64] at e
        simp only [BitVec.toNat_ofNat, Nat.zero_mod]
        omega
      have e3 := andNot0 e2
      have e4 : (BitVec.ofInt 64 r).toNat ≤ 14 := by
        rw [e3, BitVec.toNat_and]
        exact Nat.and_le_right
      rw [BitVec.toNat_ofInt] at e4
      omega
def fit (m : Pgs) (root va pa' : Nat) (r : Int) (s : Nat) : Bool :=
  cond (decide (va < 131072)) (cond (va % s == 0) (cond (pgd m pa') (cond (pa' % s == 0) (cond (rts r) (cond (!(root == 0)) (pgd m root) false) false) false) false) false) false
theorem r_fits (k : Nat) {m : Pgs} (w : Wm m) (root va pa' s : Nat) (r : Int) (hr : root < 4294967296) (hv : va < 4294967296) (hp : pa' < 4294967296) (h0 : -9223372036854775808 ≤ r) (h1 : r < 9223372036854775808) (hs : 0 < s) :
    Rt Pg (D (k + 2)) 80 [mv m, .int .u32 (root : Int), .int .u32 (va : Int), .int .u32 (pa' : Int), .int .i64 r, .int .u32 (s : Int)] (.bool (fit m root va pa' r s)) := .of (by
  have r1 := r_paged k w pa' hp
  have r2 := r_paged k w root hr
  have eB : decide ((va : Int) < 131072) = decide (va < 131072) := decide_eq_decide.mpr (by omega)
  have eZ : ((s : Int) == 0) = false := (beqN s 0).trans (beq_eq_false_iff_ne.mpr (by omega))
  have eR : ((root : Int) != 0) = !(root == 0) := bneN _ 0
  have e1 : ∀ x : Nat, ((x : Int).tmod (s : Int) == 0) = (x % s == 0) := fun x => by rw [tmN]; exact beqN _ 0
  rw [Dk, nf_table_fits]
  simp only [eB, eZ, eR, e1, rts_eq h0 h1, r1.ok, r1.val, r2.ok, r2.val, bO, Bool.not_false]
  unfold fit
  cases decide (va < 131072) <;> cases va % s == 0 <;> cases pgd m pa' <;> cases pa' % s == 0 <;> cases rts r <;> cases root == 0 <;> rfl) (by kernel_rfl)
theorem r_rights (k : Nat) (r : Int) : Rt Pg (D (k + 1)) 83 [.int .i64 r] (.bool (rts r)) := .of (by rw [Dk, nf_ref10_rights]; rfl) (by kernel_rfl)
theorem or_lo {p c : Nat} (hp : p < 4294967168) (h0 : p % 128 = 0) (hc : c < 128) : ibits .or .u32 (p : Int) (c : Int) = ((p + c : Nat) : Int) := or_u32N 7 (by omega) (by omega) (by omega)
theorem or_in {p a c : Nat} (hp : p < 4294967168) (h0 : p % 128 = 0) (ha : a < 128) (hc : c < 128) : ibits .or .u32 ((p + a : Nat) : Int) (c : Int) = ((p + (a ||| c) : Nat) : Int) := by
  have h2 : (a ||| c) < 2 ^ 7 := Nat.or_lt_two_pow (by omega) (by omega)
  rw [ibits_or_u32 (by omega) (by omega) (by omega) (by omega), Int.toNat_natCast, Int.toNat_natCast]
  congr 1
  have e : p = 2 ^ 7 * (p / 128) := by omega
  rw [e, Nat.two_pow_add_eq_or_of_lt (show a < 2 ^ 7 by omega), Nat.two_pow_add_eq_or_of_lt h2, Nat.or_assoc]
theorem or1 : ∀ n : Nat, n < 16 → n % 2 = 0 → (1 ||| n) = n + 1 ∧ (65 ||| n) = n + 65 := by decide +kernel
theorem leaf_eq {p n : Nat} (hp : p < 4294967168) (h0 : p % 128 = 0) (hn : n ≤ 14) (h2 : n % 2 = 0) : ibits .or .u32 (ibits .or .u32 (p : Int) 1) (IntKind.u32.wrap (n : Int)) = ((p + (n + 1) : Nat) : Int) := by
  rw [show (1 : Int) = ((1 : Nat) : Int) from rfl, or_lo hp h0 (by omega), w32 (by omega), or_in hp h0 (by omega) (by omega), (or1 n (by omega) h2).1]
theorem large_eq {p n : Nat} (hp : p < 4294967168) (h0 : p % 128 = 0) (hn : n ≤ 14) (h2 : n % 2 = 0) : ibits .or .u32 (ibits .or .u32 (ibits .or .u32 (p : Int) 1) 64) (IntKind.u32.wrap (n : Int)) = ((p + (n + 65) : Nat) : Int) := by
  rw [show (1 : Int) = ((1 : Nat) : Int) from rfl, show (64 : Int) = ((64 : Nat) : Int) from rfl, or_lo hp h0 (by omega), w32 (by omega), or_in hp h0 (by omega) (by omega), or_in hp h0 (by decide) (by omega), show (1 ||| 64 : Nat) = 65 from rfl, (or1 n (by omega) h2).2]
/-! ### MapLarge -/
def ml (m : Pgs) (root va pa' : Nat) (r : Int) : Pgs × Nat :=
  cond (fit m root va pa' r 4096) (cond (hb (wo m (at1 root va)) 1) (m, 6) (sw m (at1 root va) (pa' + (r.toNat + 65)), 0)) (m, 1)
def errT (x : Pgs × Nat) : AV := .tuple [mv x.1, .int .i64 (x.2 : Int)]
def errR (x : Pgs × Nat) : AV := .agg 58 [mv x.1, .int .i64 (x.2 : Int)]
theorem fit_of {m : Pgs} {root va pa' s : Nat} {r : Int} (h : fit m root va pa' r s = true) : va < 131072 ∧ va % s = 0 ∧ pgd m pa' = true ∧ pa' % s = 0 ∧ rts r = true ∧ root ≠ 0 ∧ pgd m root = true := by
  simp only [fit, c_and, Bool.and_eq_true, decide_eq_true_eq, beq_iff_eq, Bool.not_eq_true', beq_eq_false_iff_ne] at h
  exact ⟨h.1, h.2.1, h.2.2.1, h.2.2.2.1, h.2.2.2.2.1, h.2.2.2.2.2.1, h.2.2.2.2.2.2⟩
theorem err_good (l : List AV) (c : Int) : goodF Pg 27 (.tuple [.agg 23 [.slice 118 l false], .int .i64 c]) = true := by kernel_rfl
theorem err_good' (l : List AV) (c : Int) : goodF Pg 30 (.agg 58 [.agg 23 [.slice 118 l false], .int .i64 c]) = true := by kernel_rfl
theorem r_ml (k : Nat) {m : Pgs} (w : Wm m) (root va pa' : Nat) (r : Int) (hr : root < 4294967296) (hv : va < 4294967296) (hp : pa' < 4294967296) (h0 : -9223372036854775808 ≤ r) (h1 : r < 9223372036854775808) :
    Rt Pg (D (k + 4)) 27 [mv m, .int .u32 (root : Int), .int .u32 (va : Int), .int .u32 (pa' : Int), .int .i64 r] (errT (ml m root va pa' r)) := .of (by
  have hl := w.le
  have r1 := r_fits (k + 1) w root va pa' 4096 r hr hv hp h0 h1 (by omega)
  simp only [show ((4096 : Nat) : Int) = 4096 from rfl] at r1
  rw [Dk, nf_table_MapLarge]
  simp only [r1.ok, r1.val, bO]
  unfold ml
  cases hf : fit m root va pa' r 4096 with
  | false => rfl
  | true =>
  obtain ⟨f1, f2, f3, f4, f5, f6, f7⟩ := fit_of hf
  have g7 := pgd_of f7
  have g3 := pgd_of f3
  obtain ⟨n, rfl, n1, n2⟩ := rts_nat f5
  have l1 : at1 root va < 4294967296 := by unfold at1; omega
  have e1 := at1_eq (show root < 8192 by omega) f1
  have r2 := r_tload (k + 1) w (at1 root va) l1
  have hw := wo_lt w (at1 root va)
  have r3 := r_has1 (k + 2) hw
  have r4 := r_set k w (at1 root va) (pa' + (n + 65)) l1 (by omega)
  simp only [Bool.not_true, e1, r2.ok, r2.val, iO]
  simp only [r3.ok, r3.val, bO, large_eq (show pa' < 4294967168 by omega) g3.1 n1 n2, r4.ok, r4.val, pO, g0, lO, Int.toNat_natCast]
  cases hb (wo m (at1 root va)) 1 <;> rfl) (err_good ..)
theorem r_rml (k : Nat) {m : Pgs} (w : Wm m) (root va pa' : Nat) (r : Int) (hr : root < 4294967296) (hv : va < 4294967296) (hp : pa' < 4294967296) :
    Rt Pg (D (k + 6)) 30 [mv m, .int .u32 (root : Int), .int .u32 (va : Int), .int .u32 (pa' : Int), .int .i64 r] (errR (ml m root va pa' r)) := .of (by
  have hl := w.le
  have eB : decide ((131072 : Int) ≤ (va : Int)) = !decide (va < 131072) := by rw [← decide_not]; exact decide_eq_decide.mpr (by omega)
  have eR : ((root : Int) == 0) = (root == 0) := beqN _ 0
  have e1 : ∀ x : Nat, ((x : Int).tmod 4096 != 0) = !(x % 4096 == 0) := fun x => by rw [show (x : Int).tmod 4096 = ((x % 4096 : Nat) : Int) from tmN _ 4096]; exact bneN _ 0
  have r1 := r_rpage (k + 3) w pa' (by omega)
  have r2 := r_rights (k + 4) r
  have r3 := r_rpage (k + 3) w root (by omega)
  rw [Dk, nf_ref10_MapLarge]
  simp only [w64 (show va < 9223372036854775808 by omega), w64 (show root < 9223372036854775808 by omega), w64 (show pa' < 9223372036854775808 by omega), eB, eR, e1, r1.ok, r1.val, r2.ok, r2.val, r3.ok, r3.val, bO]
  unfold ml
  cases hf : fit m root va pa' r 4096 with
  | false =>
    unfold fit at hf
    revert hf
    cases decide (va < 131072) <;> cases va % 4096 == 0 <;> cases pgd m pa' <;> cases pa' % 4096 == 0 <;> cases rts r <;> cases root == 0 <;> cases pgd m root <;> intro hf <;> first | (simp at hf; done) | rfl
  | true =>
  obtain ⟨f1, f2, f3, f4, f5, f6, f7⟩ := fit_of hf
  have g7 := pgd_of f7
  have g3 := pgd_of f3
  obtain ⟨n, rfl, n1, n2⟩ := rts_nat f5
  have l1 : at1 root va < 4294967296 := by unfold at1; omega
  have r4 := r_top k w root va (by omega) f1
  have r5 := r_rset (k + 1) w (at1 root va) (pa' + (n + 65)) l1 (by omega)
  have ex : IntKind.i64.wrap (IntKind.i64.wrap (IntKind.i64.wrap ((pa' : Int) + 1) + 64) + (n : Int)) = ((pa' + (n + 65) : Nat) : Int) := by
    rw [wrap_i64_id (n := (pa' : Int) + 1) (by omega) (by omega), wrap_i64_id (n := (pa' : Int) + 1 + 64) (by omega) (by omega), wrap_i64_id (by omega) (by omega)]; omega
  rw [decide_eq_true f1, beq_iff_eq.mpr f2, f3, beq_iff_eq.mpr f4, f5, beq_eq_false_iff_ne.mpr f6, f7]
  simp only [r4.ok, r4.val, pO, g0, g2, bO, iO, ex, r5.ok, r5.val, lO, Int.toNat_natCast]
  cases hb (wo m (at1 root va)) 1 <;> rfl) (err_good' ..)
end Go.Proofs.Ytcknhfnbdgleiaa
