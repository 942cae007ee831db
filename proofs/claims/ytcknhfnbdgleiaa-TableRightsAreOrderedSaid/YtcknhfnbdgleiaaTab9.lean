/- The specification's Walk. -/
import Derived.Test.YtcknhfnbdgleiaaTab8
set_option linter.unusedVariables false
set_option linter.unusedSimpArgs false
namespace Go.Proofs.Ytcknhfnbdgleiaa
open Go.AE

theorem r_cause (k : Nat) {acc : Nat} (ha : 1 ≤ acc ∧ acc ≤ 4) : Rt Pg (D (k + 1)) 70 [.int .i64 (acc : Int)] (.int .i64 (cz acc : Int)) := .of (by
  rw [Dk, nf_ref10_Cause]
  obtain rfl | rfl | rfl | rfl : acc = 1 ∨ acc = 2 ∨ acc = 3 ∨ acc = 4 := by omega
  all_goals rfl) (by kernel_rfl)
theorem rat1_eq {root va : Nat} (hr : root < 4294967296) (hv : va < 4294967296) : IntKind.i64.wrap ((root : Int) + IntKind.i64.wrap (4 * IntKind.i64.wrap ((va : Int).tdiv 4096))) = ((at1 root va : Nat) : Int) := by
  rw [show (va : Int).tdiv 4096 = ((va / 4096 : Nat) : Int) from tdN _ 4096, w64 (by omega), wrap_i64_id (n := 4 * ((va / 4096 : Nat) : Int)) (by omega) (by omega), wrap_i64_id (by omega) (by omega)]; unfold at1; omega
abbrev topv (m : Pgs) (root va : Nat) : AV := .agg 165 [.int .i64 (at1 root va : Nat), .int .i64 (wo m (at1 root va) : Nat), .bool (hb (wo m (at1 root va)) 1), .bool (right m (wo m (at1 root va))), .bool (hb (wo m (at1 root va)) 64)]
theorem top_good (a b : Int) (c d e : Bool) : goodF Pg 84 (.agg 165 [.int .i64 a, .int .i64 b, .bool c, .bool d, .bool e]) = true := by kernel_rfl
theorem r_top (k : Nat) {m : Pgs} (w : Wm m) (root va : Nat) (hr : root < 8192) (hv : va < 131072) : Rt Pg (D (k + 5)) 84 [mv m, .int .i64 (root : Int), .int .i64 (va : Int)] (topv m root va) := .of (by
  have l1 : at1 root va < 4294967296 := by unfold at1; omega
  have hw := wo_lt w (at1 root va)
  have r1 := r_word k w (at1 root va) l1
  rw [Dk, nf_ref10_top]
  have e1 := rat1_eq (show root < 4294967296 by omega) (show va < 4294967296 by omega)
  generalize IntKind.i64.wrap ((root : Int) + IntKind.i64.wrap (4 * IntKind.i64.wrap ((va : Int).tdiv 4096))) = t at e1 ⊢
  subst e1
  simp only [r1.ok, r1.val, iO]
  rw [cond_true]
  unfold topv
  generalize wo m (at1 root va) = e at hw ⊢
  generalize at1 root va = t1
  have h1 := r_rhas (k + 3) hw 1 (by omega)
  have h2 := r_rhas (k + 3) hw 64 (by omega)
  have h3 := r_addr (k + 3) hw
  have h4 := r_rpage (k + 2) w (pa e) (by have := pa_le e; omega)
  rw [show ((1 : Nat) : Int) = 1 from rfl] at h1
  rw [show ((64 : Nat) : Int) = 64 from rfl] at h2
  have t1 : ((pa e : Nat) : Int).tmod 4096 = ((pa e % 4096 : Nat) : Int) := tmN _ 4096
  have t2 : (((pa e % 4096 : Nat) : Int) == 0) = (pa e % 4096 == 0) := beqN _ 0
  have t3 : (e : Int).tdiv 2 = ((e / 2 : Nat) : Int) := tdN _ 2
  have t4 : ((e / 2 : Nat) : Int).tmod 32 = ((e / 2 % 32 : Nat) : Int) := tmN _ 32
  have t5 : (((e / 2 % 32 : Nat) : Int) == 0) = (e / 2 % 32 == 0) := beqN _ 0
  have t6 : IntKind.i64.wrap ((e / 2 : Nat) : Int) = ((e / 2 : Nat) : Int) := w64 (by omega)
  simp only [h1.ok, h1.val, h2.ok, h2.val, h3.ok, h3.val, h4.ok, h4.val, iO, bO, cond_true, condB_t', Bool.or_true, t1, t2, t3, t6, t4, t5]
  unfold right
  cases hb e 64 <;> rfl) (top_good _ _ _ _ _)
theorem r_below (k : Nat) (a e va : Nat) (b0 b1 b2 : Bool) (he : e < 4294967296) (hv : va < 4294967296) : Rt Pg (D (k + 2)) 85 [.agg 165 [.int .i64 (a : Int), .int .i64 (e : Int), .bool b0, .bool b1, .bool b2], .int .i64 (va : Int)] (.int .i64 (at2 e va : Nat)) := .of (by
  have r := r_addr k he
  have := pa_le e
  rw [Dk, nf_ref10_below]
  simp only [r.ok, r.val, iO, cond_true]
  rw [q128, w64 (by omega), show ((va / 128 : Nat) : Int).tmod 32 = ((va / 128 % 32 : Nat) : Int) from tmN _ 32, wrap_i64_id (n := 4 * ((va / 128 % 32 : Nat) : Int)) (by omega) (by omega), wrap_i64_id (by omega) (by omega)]
  unfold at2
  congr 3; omega) (by kernel_rfl)
structure Lf where
  a : Nat
  e : Nat
  p : Nat
  reads : List Nat
  is : Bool
def lfv (x : Lf) : AV := .agg 150 [.int .i64 (x.a : Int), .int .i64 (x.e : Int), .int .i64 (x.p : Int), .slice 3 (x.reads.map iv) false, .bool x.is]
def fnd (m : Pgs) (root va : Nat) : Lf :=
  cond (hb (wo m (at1 root va)) 1) (cond (right m (wo m (at1 root va)))
    (cond (hb (wo m (at1 root va)) 64) ⟨at1 root va, wo m (at1 root va), pg1 (wo m (at1 root va)) va, [at1 root va], true⟩
      ⟨at2 (wo m (at1 root va)) va, wo m (at2 (wo m (at1 root va)) va), pa (wo m (at2 (wo m (at1 root va)) va)), [at1 root va, at2 (wo m (at1 root va)) va], cond (hb (wo m (at2 (wo m (at1 root va)) va)) 1) (!hb (wo m (at2 (wo m (at1 root va)) va)) 64) false⟩)
    ⟨0, 0, 0, [at1 root va], false⟩) ⟨0, 0, 0, [at1 root va], false⟩
theorem right_small {m : Pgs} (w : Wm m) {e : Nat} (h : right m e = true) (h5 : hb e 64 = false) : pa e < 8192 := by
  have := w.le
  simp [right, h5] at h
  have := pgd_of h.2
  omega
theorem right_large {m : Pgs} {e : Nat} (h : right m e = true) (h5 : hb e 64 = true) : pa e % 4096 = 0 := by simpa [right, h5] using h
set_option maxRecDepth 100000 in
theorem r_find (k : Nat) {m : Pgs} (w : Wm m) (root va : Nat) (hr : root < 8192) (hv : va < 131072) : Rt Pg (D (k + 6)) 73 [mv m, .int .i64 (root : Int), .int .i64 (va : Int)] (lfv (fnd m root va)) := .of (by
  have r0 := r_top k w root va hr hv
  have l1 : at1 root va < 4294967296 := by unfold at1; omega
  have hw := wo_lt w (at1 root va)
  have r1 := r_below (k + 3) (at1 root va) (wo m (at1 root va)) va (hb (wo m (at1 root va)) 1) (right m (wo m (at1 root va))) (hb (wo m (at1 root va)) 64) hw (by omega)
  have r2 := r_addr (k + 4) hw
  rw [Dk, nf_ref10_find]
  simp only [r0.ok, r0.val, pO, g0, g1, g2, g3, g4, iO, bO, cond_true, r1.ok, r1.val, r2.ok, r2.val]
  unfold fnd
  cases h3 : hb (wo m (at1 root va)) 1 with
  | false => rfl
  | true =>
  cases h4 : right m (wo m (at1 root va)) with
  | false => rfl
  | true =>
  simp only [Bool.not_true, cond_true, cond_false]
  cases h5 : hb (wo m (at1 root va)) 64 with
  | true =>
    simp only [cond_true]
    have := pa_le (wo m (at1 root va))
    rw [q128, w64 (by omega), show ((va / 128 : Nat) : Int).tmod 32 = ((va / 128 % 32 : Nat) : Int) from tmN _ 32, wrap_i64_id (n := 128 * ((va / 128 % 32 : Nat) : Int)) (by omega) (by omega), wrap_i64_id (by omega) (by omega)]
    rw [show ((pa (wo m (at1 root va)) : Nat) : Int) + 128 * ((va / 128 % 32 : Nat) : Int) = ((pg1 (wo m (at1 root va)) va : Nat) : Int) by unfold pg1; omega]
    rfl
  | false =>
    have hp := right_small w h4 h5
    have l2 : at2 (wo m (at1 root va)) va < 4294967296 := by unfold at2; omega
    have hw2 := wo_lt w (at2 (wo m (at1 root va)) va)
    have r3 := r_word (k + 1) w (at2 (wo m (at1 root va)) va) l2
    have r4 := r_addr (k + 4) hw2
    have r5 := r_rhas (k + 4) hw2 1 (by omega)
    have r6 := r_rhas (k + 4) hw2 64 (by omega)
    rw [show ((1 : Nat) : Int) = 1 from rfl] at r5
    rw [show ((64 : Nat) : Int) = 64 from rfl] at r6
    simp only [cond_false, cond_true, r3.ok, r3.val, iO, r4.ok, r4.val, r5.ok, r5.val, r6.ok, r6.val, bO, condB_t', Bool.or_true]
    cases hb (wo m (at2 (wo m (at1 root va)) va)) 1 <;> rfl) (by kernel_rfl)
/-- Walk in terms of the leaf. -/
def walk' (m : Pgs) (root va acc : Nat) (user : Bool) : Wk :=
  cond (root == 0) (cond (decide (va < 128 * m.length)) ⟨(va : Int), -1, [], [], 0⟩ (bad acc []))
    (cond (decide (va < 131072)) (cond (pgd m root)
      (cond (fnd m root va).is (fin m acc user (fnd m root va).e (fnd m root va).p (fnd m root va).a va (fnd m root va).reads) (bad acc (fnd m root va).reads)) (bad acc [])) (bad acc []))
theorem walk_eq (m : Pgs) (root va acc : Nat) (user : Bool) : walk m root va acc user = walk' m root va acc user := by
  unfold walk walk' fnd
  cases root == 0
  · cases decide (va < 131072)
    · rfl
    · cases pgd m root
      · rfl
      · cases hb (wo m (at1 root va)) 1
        · rfl
        · cases right m (wo m (at1 root va))
          · rfl
          · cases hb (wo m (at1 root va)) 64
            · simp only [cond_true, cond_false]
              cases hb (wo m (at2 (wo m (at1 root va)) va)) 1
              · rfl
              · cases hb (wo m (at2 (wo m (at1 root va)) va)) 64 <;> rfl
            · rfl
  · rfl
end Go.Proofs.Ytcknhfnbdgleiaa
