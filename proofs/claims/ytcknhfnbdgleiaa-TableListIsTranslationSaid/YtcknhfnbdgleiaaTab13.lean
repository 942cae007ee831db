/- List. -/
import Derived.Test.YtcknhfnbdgleiaaTab12
set_option linter.unusedVariables false
set_option linter.unusedSimpArgs false
namespace Go.Proofs.Ytcknhfnbdgleiaa
open Go.AE

/-- A mapping. -/
structure Mg where
  va : Nat
  pa : Nat
  bits : Nat
deriving DecidableEq
abbrev mgv (x : Mg) : AV := .agg 51 [.int .u32 (x.va : Int), .int .u32 (x.pa : Int), .int .i64 (x.bits : Int)]
def itm (m : Pgs) (e i k : Nat) : List Mg :=
  cond (hb (wo m (pa e + 4 * k)) 1) (cond (hb (wo m (pa e + 4 * k)) 64) [] (cond (pgd m (pa (wo m (pa e + 4 * k)))) [⟨4096 * i + 128 * k, pa (wo m (pa e + 4 * k)), wo m (pa e + 4 * k) % 128⟩] [])) []
def row1 (m : Pgs) (root i : Nat) : List Mg :=
  cond (hb (wo m (root + 4 * i)) 1) (cond (right m (wo m (root + 4 * i))) (cond (hb (wo m (root + 4 * i)) 64)
    (cond (pgd m (pa (wo m (root + 4 * i)))) [⟨4096 * i, pa (wo m (root + 4 * i)), wo m (root + 4 * i) % 128⟩] [])
    ((List.range 32).flatMap (itm m (wo m (root + 4 * i)) i))) []) []
def lst (m : Pgs) (root : Nat) : List Mg := cond (cond (root == 0) true (!pgd m root)) [] ((List.range 32).flatMap (row1 m root))
/-- A loop that appends. -/
theorem flatL {σ : Type} {st : σ → Tr σ} (mk : Nat → List Mg → σ) (N B A : Nat) (f : Nat → List Mg) (R : List Mg → LO) (hB : ∀ n, (f n).length ≤ B)
    (hs : ∀ (n : Nat) (acc : List Mg) (K : σ → LO), n < N → acc.length ≤ A + B * n → (st (mk n acc)).eval K = K (mk (n + 1) (acc ++ f n)))
    (he : ∀ (acc : List Mg) (K : σ → LO), (st (mk N acc)).eval K = R acc) (acc0 : List Mg) (h0 : acc0.length ≤ A) {fuel : Nat} (hf : N < fuel) :
    Tr.run st fuel (mk 0 acc0) = R (acc0 ++ (List.range N).flatMap f) := by
  have key : ∀ (j n : Nat) (acc : List Mg) (fuel : Nat), n + j = N → acc.length ≤ A + B * n → j < fuel → Tr.run st fuel (mk n acc) = R (acc ++ (List.range' n j).flatMap f) := by
    intro j
    induction j with
    | zero =>
      intro n acc fuel hn ha hf
      obtain ⟨g, rfl⟩ : ∃ g, fuel = g + 1 := ⟨fuel - 1, by omega⟩
      obtain rfl : n = N := by omega
      rw [Tr.run, he]; simp
    | succ j ih =>
      intro n acc fuel hn ha hf
      obtain ⟨g, rfl⟩ : ∃ g, fuel = g + 1 := ⟨fuel - 1, by omega⟩
      have := hB n
      rw [Tr.run, hs n acc _ (by omega) ha, ih (n + 1) _ g (by omega) (by rw [List.length_append, Nat.mul_succ]; omega) (by omega), List.range'_succ, List.flatMap_cons, List.append_assoc]
  have := key N 0 acc0 fuel (by omega) (by omega) hf
  rwa [← List.range_eq_range'] at this
theorem itm_len (m : Pgs) (e i k : Nat) : (itm m e i k).length ≤ 1 := by
  unfold itm
  cases hb (wo m (pa e + 4 * k)) 1
  · simp
  · cases hb (wo m (pa e + 4 * k)) 64
    · simp only [cond_true, cond_false]; cases pgd m (pa (wo m (pa e + 4 * k))) <;> simp
    · simp
theorem flat_len {f : Nat → List Mg} {B : Nat} (h : ∀ n, (f n).length ≤ B) : ∀ l : List Nat, (l.flatMap f).length ≤ B * l.length
  | [] => by simp
  | a :: l => by
    have := h a
    have := flat_len h l
    rw [List.flatMap_cons, List.length_append, List.length_cons, Nat.mul_succ]; omega
theorem row1_len (m : Pgs) (root i : Nat) : (row1 m root i).length ≤ 32 := by
  unfold row1
  cases hb (wo m (root + 4 * i)) 1
  · simp
  · cases right m (wo m (root + 4 * i))
    · simp
    · cases hb (wo m (root + 4 * i)) 64
      · have := flat_len (itm_len m (wo m (root + 4 * i)) i) (List.range 32)
        simpa using this
      · simp only [cond_true]; cases pgd m (pa (wo m (root + 4 * i))) <;> simp
theorem room {l : List Mg} {n : Nat} (h : l.length ≤ n) (hn : n ≤ 10000) : decide (((l.map mgv).length + 1) * 16 ≤ 140737488355328) = true := by
  rw [List.length_map]; exact decide_eq_true (by omega)
theorem and127 (e : Nat) (he : e < 4294967296) : IntKind.i64.wrap (ibits .and .u32 (e : Int) 127) = ((e % 128 : Nat) : Int) := by
  rw [show (127 : Int) = 2 ^ 7 - 1 by decide, and_u32 7 _ (by decide), show ((e : Int) % 2 ^ 7) = ((e % 128 : Nat) : Int) by omega, w64 (by omega)]
theorem nx32 {n : Nat} (h : n < 1000000) : IntKind.u32.wrap ((n : Int) + 1) = ((n + 1 : Nat) : Int) := by
  rw [wrap_u32_id (by omega) (by omega)]; rfl
theorem lt32 {n : Nat} (h : n < 32) : decide ((n : Int) < 32) = true := decide_eq_true (by omega)
/-! ### the code's -/
theorem in_step (k : Nat) {m : Pgs} (w : Wm m) {i e : Nat} (hi : i < 32) (he : e < 4294967296) (hp : pa e < 8192) (a b : Int) {n : Nat} (hn : n < 32) (acc : List Mg) (hacc : acc.length ≤ 5000) (K : Int × List AV → LO) :
    (st_table_leaves_1_8 (D (k + 3)) i e a (m.map pg) (m.map pg) b ((n : Int), acc.map mgv)).eval K = K (((n + 1 : Nat) : Int), (acc ++ itm m e i n).map mgv) := by
  have hl := w.le
  have e1 : IntKind.u32.wrap (((pa e : Nat) : Int) + IntKind.u32.wrap (4 * (n : Int))) = ((pa e + 4 * n : Nat) : Int) := by
    rw [wrap_u32_id (n := 4 * (n : Int)) (by omega) (by omega), wrap_u32_id (by omega) (by omega)]; omega
  have e2 : IntKind.u32.wrap (IntKind.u32.wrap (4096 * (i : Int)) + IntKind.u32.wrap (128 * (n : Int))) = ((4096 * i + 128 * n : Nat) : Int) := by
    rw [wrap_u32_id (n := 4096 * (i : Int)) (by omega) (by omega), wrap_u32_id (n := 128 * (n : Int)) (by omega) (by omega), wrap_u32_id (by omega) (by omega)]; omega
  have r1 := r_page (k + 2) he
  have r2 := r_tload (k + 1) w (pa e + 4 * n) (by omega)
  have hw := wo_lt w (pa e + 4 * n)
  have r3 := r_has1 (k + 2) hw
  have r4 := r_has64 (k + 2) hw
  have r5 := r_page (k + 2) hw
  have r6 := r_paged (k + 2) w (pa (wo m (pa e + 4 * n))) (by have := pa_le (wo m (pa e + 4 * n)); omega)
  simp only [st_table_leaves_1_8, sp_table_leaves_1_8, Tr.eval, r1.ok, r1.val, iO, e1, r2.ok, r2.val]
  simp only [r3.ok, r3.val, r4.ok, r4.val, r5.ok, r5.val, r6.ok, r6.val, bO, iO, lt32 hn, nx32 (show n < 1000000 by omega), e2, and127 _ hw, room hacc (by omega), cond_true]
  unfold itm
  cases hb (wo m (pa e + 4 * n)) 1
  · simp
  · cases hb (wo m (pa e + 4 * n)) 64
    · simp only [cond_true, cond_false, Bool.not_false]
      cases pgd m (pa (wo m (pa e + 4 * n)))
      · simp only [cond_false, List.append_nil]
      · simp only [cond_true, List.map_append]; rfl
    · simp
theorem out_step (k : Nat) {m : Pgs} (w : Wm m) {root : Nat} (hr : root < 8192) {n : Nat} (hn : n < 32) (acc : List Mg) (hacc : acc.length ≤ 32 * n) (K : Int × List AV → LO) :
    (st_table_leaves_1_1 (D (k + 3)) (m.map pg) (m.map pg) root ((n : Int), acc.map mgv)).eval K = K (((n + 1 : Nat) : Int), (acc ++ row1 m root n).map mgv) := by
  have hl := w.le
  have e1 : IntKind.u32.wrap ((root : Int) + IntKind.u32.wrap (4 * (n : Int))) = ((root + 4 * n : Nat) : Int) := by
    rw [wrap_u32_id (n := 4 * (n : Int)) (by omega) (by omega), wrap_u32_id (by omega) (by omega)]; omega
  have e2 : IntKind.u32.wrap (4096 * (n : Int)) = ((4096 * n : Nat) : Int) := by rw [wrap_u32_id (by omega) (by omega)]; omega
  have r2 := r_tload (k + 1) w (root + 4 * n) (by omega)
  have hw := wo_lt w (root + 4 * n)
  have r3 := r_has1 (k + 2) hw
  have r4 := r_has64 (k + 2) hw
  have r5 := r_page (k + 2) hw
  have r6 := r_paged (k + 2) w (pa (wo m (root + 4 * n))) (by have := pa_le (wo m (root + 4 * n)); omega)
  have r7 := r_right (k + 1) w hw
  simp only [st_table_leaves_1_1, sp_table_leaves_1_1, Tr.eval, e1, r2.ok, r2.val, iO]
  have ha : ∀ e : Nat, right m e = true → hb e 64 = false → pa e < 8192 := fun e => right_small w
  unfold row1
  generalize wo m (root + 4 * n) = e at *
  simp only [r3.ok, r3.val, r4.ok, r4.val, r5.ok, r5.val, r6.ok, r6.val, r7.ok, r7.val, bO, iO, lt32 hn, nx32 (show n < 1000000 by omega), e2, and127 _ hw, room hacc (by omega), cond_true, condB_tt]
  cases h1 : hb e 1 with
  | false => simp
  | true =>
  cases h2 : right m e with
  | false => simp
  | true =>
  cases h3 : hb e 64 with
  | true =>
    simp only [cond_true, cond_false, Bool.not_true]
    cases pgd m (pa e)
    · simp only [cond_false, List.append_nil]
    · simp only [cond_true, List.map_append]; rfl
  | false =>
    have hp := ha e h2 h3
    have := flatL (st := st_table_leaves_1_8 (D (k + 3)) n e n (m.map pg) (m.map pg) root) (fun n acc => ((n : Int), acc.map mgv)) 32 1 (32 * n) (itm m e n) (fun acc => ⟨1, [], [], [acc.map mgv], [], [], []⟩) (itm_len m e n)
      (fun n' acc K h1 h2 => in_step k w hn hw hp n root h1 acc (by omega) K) (fun acc K => rfl) acc hacc (fuel := 100000) (by omega)
    simp only [cond_true, cond_false, Bool.not_true]
    unfold lf_table_leaves_1_8
    rw [show ((0 : Nat) : Int) = 0 from rfl] at this
    rw [this]
    rfl
theorem r_list (k : Nat) {m : Pgs} (w : Wm m) (root : Nat) (hr : root < 4294967296) : Rt Pg (D (k + 4)) 25 [mv m, .int .u32 (root : Int)] (.slice 52 ((lst m root).map mgv) false) := .of (by
  have hl := w.le
  have r1 := r_paged (k + 2) w root hr
  have eR : ((root : Int) == 0) = (root == 0) := beqN _ 0
  rw [Dk, nf_table_List]
  simp only [r1.ok, r1.val, bO, eR, condB_tt, cond_true]
  unfold lst
  cases h1 : root == 0 with
  | true => rfl
  | false =>
  cases h2 : pgd m root with
  | false => rfl
  | true =>
  have g := pgd_of h2
  have := flatL (st := st_table_leaves_1_1 (D (k + 3)) (m.map pg) (m.map pg) root) (fun n acc => ((n : Int), acc.map mgv)) 32 32 0 (row1 m root) (fun acc => ⟨1, [], [], [acc.map mgv], [], [], []⟩) (row1_len m root)
    (fun n' acc K h1 h2 => out_step k w (by omega) h1 acc (by omega) K) (fun acc K => rfl) [] (by simp) (fuel := 100000) (by omega)
  simp only [cond_true, cond_false, Bool.not_true]
  unfold lf_table_leaves_1_1
  simp only [List.map_nil] at this
  rw [show ((0 : Nat) : Int) = 0 from rfl] at this
  rw [this]
  rfl) (by kernel_rfl)
/-! ### the specification's -/
theorem rin_step (k : Nat) {m : Pgs} (w : Wm m) {i e t : Nat} (hi : i < 32) (he : e < 4294967296) (hp : pa e < 8192) (b0 b1 b2 : Bool) (a : Int) {n : Nat} (hn : n < 32) (acc : List Mg) (hacc : acc.length ≤ 5000) (K : List AV × Int → LO) :
    (st_ref10_List_13 (D (k + 5)) a i (m.map pg) t e b0 b1 b2 (acc.map mgv, (n : Int))).eval K = K ((acc ++ itm m e i n).map mgv, ((n + 1 : Nat) : Int)) := by
  have hl := w.le
  have e1 : IntKind.i64.wrap (128 * (n : Int)) = ((128 * n : Nat) : Int) := by rw [wrap_i64_id (by omega) (by omega)]; omega
  have e2 : IntKind.u32.wrap (IntKind.i64.wrap (IntKind.i64.wrap (4096 * (i : Int)) + ((128 * n : Nat) : Int))) = ((4096 * i + 128 * n : Nat) : Int) := by
    rw [wrap_i64_id (n := 4096 * (i : Int)) (by omega) (by omega), wrap_i64_id (by omega) (by omega), wrap_u32_id (by omega) (by omega)]; omega
  have ea : at2 e (128 * n) = pa e + 4 * n := by unfold at2; omega
  have r1 := r_below (k + 3) t e (128 * n) b0 b1 b2 he (by omega)
  rw [ea] at r1
  have r2 := r_word (k + 1) w (pa e + 4 * n) (by omega)
  have hw := wo_lt w (pa e + 4 * n)
  have r3 := r_rhas (k + 4) hw 1 (by omega)
  have r4 := r_rhas (k + 4) hw 64 (by omega)
  simp only [show ((1 : Nat) : Int) = 1 from rfl] at r3
  simp only [show ((64 : Nat) : Int) = 64 from rfl] at r4
  have r5 := r_addr (k + 4) hw
  have hpl := pa_le (wo m (pa e + 4 * n))
  have r6 := r_rpage (k + 3) w (pa (wo m (pa e + 4 * n))) (by omega)
  simp only [st_ref10_List_13, sp_ref10_List_13, Tr.eval, e2, e1, r1.ok, r1.val, iO, r2.ok, r2.val]
  simp only [r3.ok, r3.val, r4.ok, r4.val, r5.ok, r5.val, r6.ok, r6.val, bO, iO, lt32 hn, nx_n (show n < 1000000 by omega), m128, w32 (show pa (wo m (pa e + 4 * n)) < 4294967296 by omega), room hacc (by omega), cond_true, condB_t', Bool.or_true]
  unfold itm
  cases hb (wo m (pa e + 4 * n)) 1
  · simp only [cond_false, List.append_nil]
  · cases hb (wo m (pa e + 4 * n)) 64
    · simp only [cond_true, cond_false, Bool.not_false]
      cases pgd m (pa (wo m (pa e + 4 * n)))
      · simp only [cond_false, List.append_nil]
      · simp only [cond_true, List.map_append]; rfl
    · simp only [cond_true, cond_false, Bool.not_true, List.append_nil]
theorem rout_step (k : Nat) {m : Pgs} (w : Wm m) {root : Nat} (hr : root < 8192) {n : Nat} (hn : n < 32) (acc : List Mg) (hacc : acc.length ≤ 32 * n) (K : List AV × Int → LO) :
    (st_ref10_List_5 (D (k + 5)) root (m.map pg) (acc.map mgv, (n : Int))).eval K = K ((acc ++ row1 m root n).map mgv, ((n + 1 : Nat) : Int)) := by
  have hl := w.le
  have e1 : IntKind.i64.wrap (root : Int) = (root : Int) := w64 (by omega)
  have e2 : IntKind.i64.wrap (4096 * (n : Int)) = ((4096 * n : Nat) : Int) := by rw [wrap_i64_id (by omega) (by omega)]; omega
  have e3 : IntKind.u32.wrap ((4096 * n : Nat) : Int) = ((4096 * n : Nat) : Int) := w32 (by omega)
  have ea : at1 root (4096 * n) = root + 4 * n := by unfold at1; omega
  have r2 := r_top k w root (4096 * n) hr (by omega)
  have hw := wo_lt w (root + 4 * n)
  unfold topv at r2
  rw [ea] at r2
  have r5 := r_addr (k + 4) hw
  have hpl := pa_le (wo m (root + 4 * n))
  have r6 := r_rpage (k + 3) w (pa (wo m (root + 4 * n))) (by omega)
  simp only [st_ref10_List_5, sp_ref10_List_5, Tr.eval, e1, e2, r2.ok, r2.val, pO, g0, g1, g2, g3, g4, iO, bO]
  have ha : ∀ e : Nat, right m e = true → hb e 64 = false → pa e < 8192 := fun e => right_small w
  unfold row1
  generalize wo m (root + 4 * n) = e at *
  simp only [r5.ok, r5.val, r6.ok, r6.val, bO, iO, lt32 hn, nx_n (show n < 1000000 by omega), e3, m128, w32 (show pa e < 4294967296 by omega), room hacc (by omega), cond_true]
  cases h1 : hb e 1 with
  | false => simp only [cond_false, cond_true, Bool.not_false, List.append_nil]
  | true =>
  cases h2 : right m e with
  | false => simp only [cond_false, cond_true, Bool.not_false, Bool.not_true, List.append_nil]
  | true =>
  cases h3 : hb e 64 with
  | true =>
    simp only [cond_true, cond_false, Bool.not_true]
    cases pgd m (pa e)
    · simp only [cond_false, List.append_nil]
    · simp only [cond_true, List.map_append]; rfl
  | false =>
    have hp := ha e h2 h3
    have := flatL (st := st_ref10_List_13 (D (k + 5)) root n (m.map pg) (root + 4 * n : Nat) e true true false) (fun n acc => (acc.map mgv, (n : Int))) 32 1 (32 * n) (itm m e n) (fun acc => ⟨1, [], [], [acc.map mgv], [], [], []⟩) (itm_len m e n)
      (fun n' acc K h1 h2 => rin_step k w hn hw hp true true false root h1 acc (by omega) K) (fun acc K => rfl) acc hacc (fuel := 100000) (by omega)
    simp only [cond_true, cond_false, Bool.not_true]
    unfold lf_ref10_List_13
    rw [show ((0 : Nat) : Int) = 0 from rfl] at this
    rw [this]
    rfl
theorem r_rlist (k : Nat) {m : Pgs} (w : Wm m) (root : Nat) (hr : root < 4294967296) : Rt Pg (D (k + 6)) 34 [mv m, .int .u32 (root : Int)] (.slice 52 ((lst m root).map mgv) false) := .of (by
  have hl := w.le
  have r1 := r_rpage (k + 3) w root (by omega)
  have eR : ((root : Int) == 0) = (root == 0) := beqN _ 0
  rw [Dk, nf_ref10_List]
  simp only [w64 (show root < 9223372036854775808 by omega), r1.ok, r1.val, bO, eR, condB_tt, cond_true]
  unfold lst
  cases h1 : root == 0 with
  | true => rfl
  | false =>
  cases h2 : pgd m root with
  | false => rfl
  | true =>
  have g := pgd_of h2
  have := flatL (st := st_ref10_List_5 (D (k + 5)) root (m.map pg)) (fun n acc => (acc.map mgv, (n : Int))) 32 32 0 (row1 m root) (fun acc => ⟨1, [], [], [acc.map mgv], [], [], []⟩) (row1_len m root)
    (fun n' acc K h1 h2 => rout_step k w (by omega) h1 acc (by omega) K) (fun acc K => rfl) [] (by simp) (fuel := 100000) (by omega)
  simp only [cond_true, cond_false, Bool.not_true]
  unfold lf_ref10_List_5
  simp only [List.map_nil] at this
  rw [show ((0 : Nat) : Int) = 0 from rfl] at this
  rw [this]
  rfl) (by kernel_rfl)
end Go.Proofs.Ytcknhfnbdgleiaa
