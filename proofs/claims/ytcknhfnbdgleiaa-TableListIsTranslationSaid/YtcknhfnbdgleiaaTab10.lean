/- The specification's Walk; the same walks. -/
import Derived.Test.YtcknhfnbdgleiaaTab9
set_option linter.unusedVariables false
set_option linter.unusedSimpArgs false
namespace Go.Proofs.Ytcknhfnbdgleiaa
open Go.AE

theorem upd_eq' (e acc : Nat) (he : e < 4294967296) : cond (cond (stor acc) (!(hb (cond (hb e 16) e (e + 16)) 32)) false) (IntKind.i64.wrap (((cond (hb e 16) e (e + 16) : Nat) : Int) + 32)) ((cond (hb e 16) e (e + 16) : Nat) : Int) = ((upd e acc : Nat) : Int) := by
  have h16 := a16_lt e he
  rw [wrap_i64_id (by omega) (by omega), hb32_16]
  unfold upd
  cases stor acc with
  | false => rfl
  | true => cases hb e 32 <;> rfl
theorem wk_good (a b c : Int) (l1 l2 : List AV) : goodF Pg 20 (.agg 35 [.agg 31 [.int .i64 a, .int .i64 b, .slice 42 l1 false, .slice 3 l2 false], .int .i64 c]) = true := by kernel_rfl
set_option maxRecDepth 4000 in
set_option maxHeartbeats 1000000 in
theorem r_rwalk (k : Nat) {m : Pgs} (w : Wm m) (root va acc : Nat) (user : Bool) (hr : root < 4294967296) (hv : va < 4294967296) (ha : 1 ≤ acc ∧ acc ≤ 4) :
    Rt Pg (D (k + 7)) 20 [mv m, .int .u32 (root : Int), .int .u32 (va : Int), .int .i64 (acc : Int), .bool user] (wkR (walk m root va acc user)) := .of (by
  have hl := w.le
  obtain ⟨a1, a2, a3, a4⟩ := acc_facts ha
  have a5 : ((acc : Int) == 4) = (acc == 4) := beqN _ 4
  have eA : ((root : Int) == 0) = (root == 0) := beqN _ 0
  have eB : decide ((131072 : Int) ≤ (va : Int)) = !decide (va < 131072) := by rw [← decide_not]; exact decide_eq_decide.mpr (by omega)
  have eC : decide (((128 * m.length : Nat) : Int) ≤ ((va : Nat) : Int)) = !decide (va < 128 * m.length) := by rw [← decide_not]; exact decide_eq_decide.mpr (by omega)
  have rC := r_cause (k + 5) ha
  have rS := r_size (k + 5) w
  have rP := r_rpage (k + 4) w root (by omega)
  rw [Dk, nf_ref10_Walk, walk_eq]
  simp only [a1, a5, eA, w64 (show va < 9223372036854775808 by omega), w64 (show root < 9223372036854775808 by omega), eB, rC.ok, rC.val, rS.ok, rS.val, eC, rP.ok, rP.val, bO, iO]
  unfold walk'
  cases h0 : root == 0 with
  | true => cases decide (va < 128 * m.length) <;> rfl
  | false =>
  rw [cond_true, cond_false, cond_false]
  cases h1 : decide (va < 131072) with
  | false => rfl
  | true =>
  cases h2 : pgd m root with
  | false => rfl
  | true =>
  have h2' := pgd_of h2
  have hva : va < 131072 := by simpa using h1
  have rF := r_find k w root va (by omega) hva
  simp only [Bool.not_true, cond_false, cond_true, condB_tt, rF.ok, rF.val]
  have hf : (fnd m root va).is = true → (fnd m root va).e < 4294967296 ∧ (fnd m root va).p < 4294967296 := by
    intro his
    have hw1 := wo_lt w (at1 root va)
    have hw2 := wo_lt w (at2 (wo m (at1 root va)) va)
    have hp2 := pa_le (wo m (at2 (wo m (at1 root va)) va))
    have hp1 := pa_le (wo m (at1 root va))
    unfold fnd
    cases hb (wo m (at1 root va)) 1 with
    | false => exact ⟨(show (0 : Nat) < 4294967296 by decide), (show (0 : Nat) < 4294967296 by decide)⟩
    | true =>
    cases h4 : right m (wo m (at1 root va)) with
    | false => exact ⟨(show (0 : Nat) < 4294967296 by decide), (show (0 : Nat) < 4294967296 by decide)⟩
    | true =>
    cases h5 : hb (wo m (at1 root va)) 64 with
    | true => have := right_large h4 h5; exact ⟨hw1, by show pg1 _ _ < _; unfold pg1; omega⟩
    | false => exact ⟨hw2, by show pa _ < _; omega⟩
  generalize fnd m root va = x at hf ⊢
  clear rF
  unfold lfv
  simp only [pO, g0, g1, g2, g3, g4, iO, bO, lO]
  cases h3 : x.is with
  | false =>
    simp only [Bool.not_false, condB_t, Bool.true_or, cond_true, cond_false]
    rfl
  | true =>
  obtain ⟨he, hp⟩ := hf h3
  obtain ⟨xa, xe, xp, xr, xi⟩ := x
  simp only at he hp h3
  subst h3
  have r1 := r_rpage (k + 4) w xp (by omega)
  have r2 := r_rhas (k + 5) he 2 (by omega)
  have r3 := r_rhas (k + 5) he 8 (by omega)
  have r4 := r_rhas (k + 5) he 4 (by omega)
  have r5 := r_rhas (k + 5) he 16 (by omega)
  have r6 := r_rhas (k + 5) (a16_lt xe he) 32 (by omega)
  have h16 := a16_lt xe he
  have e16 : cond (!(hb xe 16)) (IntKind.i64.wrap ((xe : Int) + 16)) (xe : Int) = ((cond (hb xe 16) xe (xe + 16) : Nat) : Int) := by
    rw [wrap_i64_id (by omega) (by omega)]; cases hb xe 16 <;> rfl
  simp only [show ((2 : Nat) : Int) = 2 from rfl] at r2
  simp only [show ((8 : Nat) : Int) = 8 from rfl] at r3
  simp only [show ((4 : Nat) : Int) = 4 from rfl] at r4
  simp only [show ((16 : Nat) : Int) = 16 from rfl] at r5
  simp only [show ((32 : Nat) : Int) = 32 from rfl] at r6
  simp only [Bool.not_true, cond_false, cond_true, r1.ok, r1.val, r2.ok, r2.val, r3.ok, r3.val, r4.ok, r4.val, r5.ok, r5.val, bO, e16, r6.ok, r6.val, condB_tt, condB_t']
  rw [upd_eq' xe acc he, show (((upd xe acc : Nat) : Int) != (xe : Int)) = !(upd xe acc == xe) from bneN _ _, w32 (upd_lt xe acc he)]
  unfold fin
  cases h6 : pgd m xp with
  | false => rfl
  | true =>
  have h6' := pgd_of h6
  have ex : IntKind.i64.wrap ((xp : Int) + (va : Int).tmod 128) = ((xp + va % 128 : Nat) : Int) := by
    rw [m128, wrap_i64_id (by omega) (by omega)]; omega
  rw [ex]
  unfold may
  generalize (upd xe acc == xe) = b1
  generalize hb xe 2 = b2
  generalize hb xe 4 = b3
  generalize hb xe 8 = b4
  generalize (acc == 4) = b5
  cases stor acc <;> cases b5 <;> cases user <;> cases b1 <;> cases b2 <;> cases b3 <;> cases b4 <;> rfl) (wk_good ..)
end Go.Proofs.Ytcknhfnbdgleiaa
