/- Walk returns that. -/
import Derived.Test.YtcknhfnbdgleiaaCot7
set_option linter.unusedVariables false
set_option linter.unusedSimpArgs false
namespace Go.Proofs.Ytcknhfnbdgleiaa
open Go.AE
theorem ku {m : av} {a : Nat} (h : bE m a = true) : a % 128 = 0 /\ a < 128 * m.length := by simpa [bE] using h
theorem PE {acc : Nat} (ha : 1 <= acc /\ acc <= 4) : cond ((acc : Int) == 2) true ((acc : Int) == 3) = lJ acc /\ ((acc : Int) != 4) = !(acc == 4) /\ aH (acc : Int) 5 = true /\
    intOf (([.int .i64 0, .int .i64 5, .int .i64 6, .int .i64 6, .int .i64 4] : List AV).getD (acc : Int).toNat .dead) = (cz acc : Int) := by
 obtain rfl | rfl | rfl | rfl : acc = 1 \/ acc = 2 \/ acc = 3 \/ acc = 4 := by omega
 all_goals exact ⟨rfl, rfl, rfl, rfl⟩
theorem dX (a b : Nat) : ((a : Int) != (b : Int)) = !(a == b) := by rw [bne, bP]
theorem VU (a : Nat) : (a : Int).fdiv 4096 = ((a / 4096 : Nat) : Int) := by rw [kM (by decide)]; rfl
theorem JN (a : Nat) : (a : Int).fdiv 128 = ((a / 128 : Nat) : Int) := by rw [kM (by decide)]; rfl
theorem PW {root va : Nat} (hr : root < 8192) (hv : va < 131072) : IntKind.u32.wrap ((root : Int) + IntKind.u32.wrap (4 * (va : Int).fdiv 4096)) = ((aJ root va : Nat) : Int) := by
 rw [VU, jA (n := 4 * ((va / 4096 : Nat) : Int)) (by omega) (by omega), jA (by omega) (by omega)]; unfold aJ; omega
theorem Qz {e va : Nat} (he : pa e < 8192) : IntKind.u32.wrap (((pa e : Nat) : Int) + IntKind.u32.wrap ((((va : Int).fdiv 128).tmod 32) * 4)) = ((at2 e va : Nat) : Int) := by
 rw [JN, show ((va / 128 : Nat) : Int).tmod 32 = ((va / 128 % 32 : Nat) : Int) from jo _ 32, jA (n := ((va / 128 % 32 : Nat) : Int) * 4) (by omega) (by omega), jA (by omega) (by omega)]; unfold at2; omega
theorem Sq {e va : Nat} (he : e < 4294967296) (h : pa e % 4096 = 0) : IntKind.u32.wrap (((pa e : Nat) : Int) + IntKind.u32.wrap ((((va : Int).fdiv 128).tmod 32) * 128)) = ((jG e va : Nat) : Int) := by
 have := lZ e
 rw [JN, show ((va / 128 : Nat) : Int).tmod 32 = ((va / 128 % 32 : Nat) : Int) from jo _ 32, jA (n := ((va / 128 % 32 : Nat) : Int) * 128) (by omega) (by omega), jA (by omega) (by omega)]; unfold jG; omega
theorem Ow {m : av} (w : Wm m) {p va : Nat} (h : bE m p = true) : IntKind.i64.wrap (IntKind.u32.wrap ((p : Int) + (va : Int).tmod 128)) = ((p + va % 128 : Nat) : Int) := by
 have := w.le
 have := ku h
 rw [kR, jA (by omega) (by omega), dP (by omega) (by omega)]; omega
set_option maxRecDepth 4000 in
set_option maxHeartbeats 1000000 in
theorem JX (k : Nat) {m : av} (w : Wm m) (root va acc : Nat) (user : Bool) (hr : root < 4294967296) (hv : va < 4294967296) (ha : 1 <= acc /\ acc <= 4) :
    Rt Pg (D (k + 3)) 19 [mv m, .int .u32 (root : Int), .int .u32 (va : Int), .int .i64 (acc : Int), .bool user] (GZ (walk m root va acc user)) := .of (by
 have hl := w.le
 obtain ⟨a1, a2, a3, a4⟩ := PE ha
 have eA : ((root : Int) == 0) = (root == 0) := bP _ 0
 have eB : decide ((va : Int) < 131072) = decide (va < 131072) := decide_eq_decide.mpr (by omega)
 have eC : decide (((va : Nat) : Int) < ((128 * m.length : Nat) : Int)) = decide (va < 128 * m.length) := decide_eq_decide.mpr (by omega)
 have rP := zG (k + 1) w root hr
 rw [Dk, Xy]
 simp only [a1, a2, a3, a4, eA, eB, Bl w, eH (show va < 9223372036854775808 by omega), eC, rP.ok, rP.val, bO, cond_true]
 unfold walk
 cases h0 : root == 0 with
 | true => simp only [cond_true]; cases decide (va < 128 * m.length) <;> rfl
 | false =>
 simp only [cond_false]
 cases h1 : decide (va < 131072) with
 | false => rfl
 | true =>
 simp only [cond_true]
 cases h2 : bE m root with
 | false => rfl
 | true =>
 have h2' := ku h2
 have hva : va < 131072 := by simpa using h1
 have e1 := PW (show root < 8192 by omega) hva
 have l1 : aJ root va < 4294967296 := by unfold aJ; omega
 have r1 := Jj k w (aJ root va) l1
 have hw1 := oD w (aJ root va)
 simp only [Bool.not_true, cond_false, e1, r1.ok, r1.val, iO, cond_true, eH (show aJ root va < 9223372036854775808 by omega)]
 generalize wo m (aJ root va) = e at hw1 ⊢
 generalize aJ root va = t1 at l1 ⊢
 clear r1 e1
 have r11 := N7 (k + 1) hw1
 have r12 := KW (k + 1) hw1
 have r14 := Mf (k + 1) hw1
 have r18 := MV (k + 1) hw1
 have r164 := Fa (k + 1) hw1
 have r1p := Fq (k + 1) hw1
 have r1r := aan k w hw1
 simp only [r11.ok, r11.val, r12.ok, r12.val, r14.ok, r14.val, r18.ok, r18.val, r164.ok, r164.val, r1p.ok, r1p.val, r1r.ok, r1r.val, bO, iO, cond_true, J3 e acc hw1, dX]
 cases h3 : hb e 1 with
 | false => rfl
 | true =>
 simp only [cond_true]
 cases h4 : right m e with
 | false => rfl
 | true =>
 simp only [cond_true, Bool.not_true, cond_false]
 cases h5 : hb e 64 with
 | true =>
  have hp : pa e % 4096 = 0 := by simpa [right, h5] using h4
  have lp : jG e va < 4294967296 := by have := lZ e; unfold jG; omega
  have rq := zG (k + 1) w (jG e va) lp
  simp only [Bool.not_true, cond_false, cond_true, Sq hw1 hp, rq.ok, rq.val, bO]
  unfold fin
  cases h6 : bE m (jG e va) with
  | false => rfl
  | true =>
  simp only [Bool.not_true, cond_false, cond_true, Ow w h6]
  unfold may
  generalize (upd e acc == e) = b1
  generalize hb e 2 = b2
  generalize hb e 4 = b3
  generalize hb e 8 = b4
  generalize (acc == 4) = b5
  cases lJ acc <;> cases b5 <;> cases user <;> cases b1 <;> cases b2 <;> cases b3 <;> cases b4 <;> rfl
 | false =>
  have hp : pa e < 8192 := by
   simp [right, h5] at h4
   have := ku h4.2
   omega
  have l2 : at2 e va < 4294967296 := by unfold at2; omega
  have r2 := Jj k w (at2 e va) l2
  have hw2 := oD w (at2 e va)
  simp only [Bool.not_false, cond_true, cond_false, Qz hp, r2.ok, r2.val, iO, eH (show at2 e va < 9223372036854775808 by omega)]
  generalize wo m (at2 e va) = f at hw2 ⊢
  generalize at2 e va = t2 at l2 ⊢
  clear r2
  have r21 := N7 (k + 1) hw2
  have r22 := KW (k + 1) hw2
  have r24 := Mf (k + 1) hw2
  have r28 := MV (k + 1) hw2
  have r264 := Fa (k + 1) hw2
  have r2p := Fq (k + 1) hw2
  simp only [r21.ok, r21.val, r22.ok, r22.val, r24.ok, r24.val, r28.ok, r28.val, r264.ok, r264.val, r2p.ok, r2p.val, bO, iO, cond_true, J3 f acc hw2, dX]
  cases h6 : hb f 1 with
  | false => rfl
  | true =>
  simp only [cond_true]
  cases h7 : hb f 64 with
  | true => rfl
  | false =>
  have rq := zG (k + 1) w (pa f) (by have := lZ f; omega)
  simp only [Bool.not_true, Bool.not_false, cond_false, cond_true, rq.ok, rq.val, bO]
  unfold fin
  cases h8 : bE m (pa f) with
  | false => rfl
  | true =>
  simp only [Bool.not_true, cond_false, cond_true, Ow w h8]
  unfold may
  generalize (upd f acc == f) = b1
  generalize hb f 2 = b2
  generalize hb f 4 = b3
  generalize hb f 8 = b4
  generalize (acc == 4) = b5
  cases lJ acc <;> cases b5 <;> cases user <;> cases b1 <;> cases b2 <;> cases b3 <;> cases b4 <;> rfl) (by kernel_rfl)
end Go.Proofs.Ytcknhfnbdgleiaa
