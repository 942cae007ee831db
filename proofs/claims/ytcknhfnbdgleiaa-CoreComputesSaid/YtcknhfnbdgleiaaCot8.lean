/- Walk returns that. -/
import Derived.Test.YtcknhfnbdgleiaaCot7
set_option linter.unusedVariables false
set_option linter.unusedSimpArgs false
namespace Go.Proofs.Ytcknhfnbdgleiaa
open Go.AE

theorem Ci {m : Pgs} {a : Nat} (h : pgd m a = true) : a % 128 = 0 ∧ a < 128 * m.length := by simpa [pgd] using h
theorem Ns {acc : Nat} (ha : 1 ≤ acc ∧ acc ≤ 4) : cond ((acc : Int) == 2) true ((acc : Int) == 3) = stor acc ∧ ((acc : Int) != 4) = !(acc == 4) ∧ inB (acc : Int) 5 = true ∧
    intOf (([.int .i64 0, .int .i64 5, .int .i64 6, .int .i64 6, .int .i64 4] : List AV).getD (acc : Int).toNat .dead) = (cz acc : Int) := by
 obtain rfl | rfl | rfl | rfl : acc = 1 ∨ acc = 2 ∨ acc = 3 ∨ acc = 4 := by omega
 all_goals exact ⟨rfl, rfl, rfl, rfl⟩
theorem bneN (a b : Nat) : ((a : Int) != (b : Int)) = !(a == b) := by rw [bne, beqN]
theorem fd4096 (a : Nat) : (a : Int).fdiv 4096 = ((a / 4096 : Nat) : Int) := by rw [mY (by decide)]; rfl
theorem fd128 (a : Nat) : (a : Int).fdiv 128 = ((a / 128 : Nat) : Int) := by rw [mY (by decide)]; rfl
theorem at1_eq {root va : Nat} (hr : root < 8192) (hv : va < 131072) : IntKind.u32.wrap ((root : Int) + IntKind.u32.wrap (4 * (va : Int).fdiv 4096)) = ((at1 root va : Nat) : Int) := by
 rw [fd4096, bq (n := 4 * ((va / 4096 : Nat) : Int)) (by omega) (by omega), bq (by omega) (by omega)]; unfold at1; omega
theorem at2_eq {e va : Nat} (he : pa e < 8192) : IntKind.u32.wrap (((pa e : Nat) : Int) + IntKind.u32.wrap ((((va : Int).fdiv 128).tmod 32) * 4)) = ((at2 e va : Nat) : Int) := by
 rw [fd128, show ((va / 128 : Nat) : Int).tmod 32 = ((va / 128 % 32 : Nat) : Int) from tmN _ 32, bq (n := ((va / 128 % 32 : Nat) : Int) * 4) (by omega) (by omega), bq (by omega) (by omega)]; unfold at2; omega
theorem pg1_eq {e va : Nat} (he : e < 4294967296) (h : pa e % 4096 = 0) : IntKind.u32.wrap (((pa e : Nat) : Int) + IntKind.u32.wrap ((((va : Int).fdiv 128).tmod 32) * 128)) = ((pg1 e va : Nat) : Int) := by
 have := NS e
 rw [fd128, show ((va / 128 : Nat) : Int).tmod 32 = ((va / 128 % 32 : Nat) : Int) from tmN _ 32, bq (n := ((va / 128 % 32 : Nat) : Int) * 128) (by omega) (by omega), bq (by omega) (by omega)]; unfold pg1; omega
theorem in_pg {m : Pgs} (w : Wm m) {p va : Nat} (h : pgd m p = true) : IntKind.i64.wrap (IntKind.u32.wrap ((p : Int) + (va : Int).tmod 128)) = ((p + va % 128 : Nat) : Int) := by
 have := w.le
 have := Ci h
 rw [m128, bq (by omega) (by omega), av (by omega) (by omega)]; omega
set_option maxRecDepth 4000 in
set_option maxHeartbeats 1000000 in
theorem Pf (k : Nat) {m : Pgs} (w : Wm m) (root va acc : Nat) (user : Bool) (hr : root < 4294967296) (hv : va < 4294967296) (ha : 1 ≤ acc ∧ acc ≤ 4) :
    Rt Pg (D (k + 3)) 19 [mv m, .int .u32 (root : Int), .int .u32 (va : Int), .int .i64 (acc : Int), .bool user] (wkT (walk m root va acc user)) := .of (by
 have hl := w.le
 obtain ⟨a1, a2, a3, a4⟩ := Ns ha
 have eA : ((root : Int) == 0) = (root == 0) := beqN _ 0
 have eB : decide ((va : Int) < 131072) = decide (va < 131072) := decide_eq_decide.mpr (by omega)
 have eC : decide (((va : Nat) : Int) < ((128 * m.length : Nat) : Int)) = decide (va < 128 * m.length) := decide_eq_decide.mpr (by omega)
 have rP := Gf (k + 1) w root hr
 rw [Dk, FB]
 simp only [a1, a2, a3, a4, eA, eB, Ki w, w64 (show va < 9223372036854775808 by omega), eC, rP.ok, rP.val, bO, cond_true]
 unfold walk
 cases h0 : root == 0 with
 | true => simp only [cond_true]; cases decide (va < 128 * m.length) <;> rfl
 | false =>
 simp only [cond_false]
 cases h1 : decide (va < 131072) with
 | false => rfl
 | true =>
 simp only [cond_true]
 cases h2 : pgd m root with
 | false => rfl
 | true =>
 have h2' := Ci h2
 have hva : va < 131072 := by simpa using h1
 have e1 := at1_eq (show root < 8192 by omega) hva
 have l1 : at1 root va < 4294967296 := by unfold at1; omega
 have r1 := Nn k w (at1 root va) l1
 have hw1 := QO w (at1 root va)
 simp only [Bool.not_true, cond_false, e1, r1.ok, r1.val, iO, cond_true, w64 (show at1 root va < 9223372036854775808 by omega)]
 generalize wo m (at1 root va) = e at hw1 ⊢
 generalize at1 root va = t1 at l1 ⊢
 clear r1 e1
 have r11 := Pv (k + 1) hw1
 have r12 := Pq (k + 1) hw1
 have r14 := O1 (k + 1) hw1
 have r18 := O8 (k + 1) hw1
 have r164 := I5 (k + 1) hw1
 have r1p := LW (k + 1) hw1
 have r1r := Qo k w hw1
 simp only [r11.ok, r11.val, r12.ok, r12.val, r14.ok, r14.val, r18.ok, r18.val, r164.ok, r164.val, r1p.ok, r1p.val, r1r.ok, r1r.val, bO, iO, cond_true, Pp e acc hw1, bneN]
 cases h3 : hb e 1 with
 | false => rfl
 | true =>
 simp only [cond_true]
 cases h4 : right m e with
 | false => rfl
 | true =>
 simp only [cond_true, Bool.not_true, cond_false]
 cases h5 : hb e 64 with
 | true =>
  have hp : pa e % 4096 = 0 := by simpa [right, h5] using h4
  have lp : pg1 e va < 4294967296 := by have := NS e; unfold pg1; omega
  have rq := Gf (k + 1) w (pg1 e va) lp
  simp only [Bool.not_true, cond_false, cond_true, pg1_eq hw1 hp, rq.ok, rq.val, bO]
  unfold fin
  cases h6 : pgd m (pg1 e va) with
  | false => rfl
  | true =>
  simp only [Bool.not_true, cond_false, cond_true, in_pg w h6]
  unfold may
  generalize (upd e acc == e) = b1
  generalize hb e 2 = b2
  generalize hb e 4 = b3
  generalize hb e 8 = b4
  generalize (acc == 4) = b5
  cases stor acc <;> cases b5 <;> cases user <;> cases b1 <;> cases b2 <;> cases b3 <;> cases b4 <;> rfl
 | false =>
  have hp : pa e < 8192 := by
   simp [right, h5] at h4
   have := Ci h4.2
   omega
  have l2 : at2 e va < 4294967296 := by unfold at2; omega
  have r2 := Nn k w (at2 e va) l2
  have hw2 := QO w (at2 e va)
  simp only [Bool.not_false, cond_true, cond_false, at2_eq hp, r2.ok, r2.val, iO, w64 (show at2 e va < 9223372036854775808 by omega)]
  generalize wo m (at2 e va) = f at hw2 ⊢
  generalize at2 e va = t2 at l2 ⊢
  clear r2
  have r21 := Pv (k + 1) hw2
  have r22 := Pq (k + 1) hw2
  have r24 := O1 (k + 1) hw2
  have r28 := O8 (k + 1) hw2
  have r264 := I5 (k + 1) hw2
  have r2p := LW (k + 1) hw2
  simp only [r21.ok, r21.val, r22.ok, r22.val, r24.ok, r24.val, r28.ok, r28.val, r264.ok, r264.val, r2p.ok, r2p.val, bO, iO, cond_true, Pp f acc hw2, bneN]
  cases h6 : hb f 1 with
  | false => rfl
  | true =>
  simp only [cond_true]
  cases h7 : hb f 64 with
  | true => rfl
  | false =>
  have rq := Gf (k + 1) w (pa f) (by have := NS f; omega)
  simp only [Bool.not_true, Bool.not_false, cond_false, cond_true, rq.ok, rq.val, bO]
  unfold fin
  cases h8 : pgd m (pa f) with
  | false => rfl
  | true =>
  simp only [Bool.not_true, cond_false, cond_true, in_pg w h8]
  unfold may
  generalize (upd f acc == f) = b1
  generalize hb f 2 = b2
  generalize hb f 4 = b3
  generalize hb f 8 = b4
  generalize (acc == 4) = b5
  cases stor acc <;> cases b5 <;> cases user <;> cases b1 <;> cases b2 <;> cases b3 <;> cases b4 <;> rfl) (by kernel_rfl)
end Go.Proofs.Ytcknhfnbdgleiaa
