/- The specification's Walk. -/
import Derived.Test.YtcknhfnbdgleiaaCot8
set_option linter.unusedVariables false
set_option linter.unusedSimpArgs false
namespace Go.Proofs.Ytcknhfnbdgleiaa
open Go.AE
theorem Pb {root va : Nat} (hr : root < 4294967296) (hv : va < 4294967296) : IntKind.i64.wrap ((root : Int) + IntKind.i64.wrap (4 * IntKind.i64.wrap ((va : Int).tdiv 4096))) = ((aJ root va : Nat) : Int) := by
 rw [show (va : Int).tdiv 4096 = ((va / 4096 : Nat) : Int) from zR _ 4096, eH (by omega), dP (n := 4 * ((va / 4096 : Nat) : Int)) (by omega) (by omega), dP (by omega) (by omega)]; unfold aJ; omega
abbrev Gc (m : av) (root va : Nat) : AV := .agg 165 [.int .i64 (aJ root va : Nat), .int .i64 (wo m (aJ root va) : Nat), .bool (hb (wo m (aJ root va)) 1), .bool (right m (wo m (aJ root va))), .bool (hb (wo m (aJ root va)) 64)]
theorem XJ (a b : Int) (c d e : Bool) : EA Pg 84 (.agg 165 [.int .i64 a, .int .i64 b, .bool c, .bool d, .bool e]) = true := by kernel_rfl
theorem aap (k : Nat) {m : av} (w : Wm m) (root va : Nat) (hr : root < 8192) (hv : va < 131072) : Rt Pg (D (k + 5)) 84 [mv m, .int .i64 (root : Int), .int .i64 (va : Int)] (Gc m root va) := .of (by
 have l1 : aJ root va < 4294967296 := by unfold aJ; omega
 have hw := oD w (aJ root va)
 have r1 := JA k w (aJ root va) l1
 rw [Dk, Ws]
 have e1 := Pb (show root < 4294967296 by omega) (show va < 4294967296 by omega)
 generalize IntKind.i64.wrap ((root : Int) + IntKind.i64.wrap (4 * IntKind.i64.wrap ((va : Int).tdiv 4096))) = t at e1 ⊢
 subst e1
 simp only [r1.ok, r1.val, iO]
 rw [cond_true]
 unfold Gc
 generalize wo m (aJ root va) = e at hw ⊢
 generalize aJ root va = t1
 have h1 := Cg (k + 3) hw 1 (by omega)
 have h2 := Cg (k + 3) hw 64 (by omega)
 have h3 := ze (k + 3) hw
 have h4 := zZ (k + 2) w (pa e) (by have := lZ e; omega)
 rw [show ((1 : Nat) : Int) = 1 from rfl] at h1
 rw [show ((64 : Nat) : Int) = 64 from rfl] at h2
 have t1 : ((pa e : Nat) : Int).tmod 4096 = ((pa e % 4096 : Nat) : Int) := jo _ 4096
 have t2 : (((pa e % 4096 : Nat) : Int) == 0) = (pa e % 4096 == 0) := bP _ 0
 have t3 : (e : Int).tdiv 2 = ((e / 2 : Nat) : Int) := zR _ 2
 have t4 : ((e / 2 : Nat) : Int).tmod 32 = ((e / 2 % 32 : Nat) : Int) := jo _ 32
 have t5 : (((e / 2 % 32 : Nat) : Int) == 0) = (e / 2 % 32 == 0) := bP _ 0
 have t6 : IntKind.i64.wrap ((e / 2 : Nat) : Int) = ((e / 2 : Nat) : Int) := eH (by omega)
 simp only [h1.ok, h1.val, h2.ok, h2.val, h3.ok, h3.val, h4.ok, h4.val, iO, bO, cond_true, nE, Bool.or_true, t1, t2, t3, t6, t4, t5]
 unfold right
 cases hb e 64 <;> rfl) (XJ _ _ _ _ _)
theorem Qy (k : Nat) (a e va : Nat) (b0 b1 b2 : Bool) (he : e < 4294967296) (hv : va < 4294967296) : Rt Pg (D (k + 2)) 85 [.agg 165 [.int .i64 (a : Int), .int .i64 (e : Int), .bool b0, .bool b1, .bool b2], .int .i64 (va : Int)] (.int .i64 (at2 e va : Nat)) := .of (by
 have r := ze k he
 have := lZ e
 rw [Dk, Tz]
 simp only [r.ok, r.val, iO, cond_true]
 rw [qK, eH (by omega), show ((va / 128 : Nat) : Int).tmod 32 = ((va / 128 % 32 : Nat) : Int) from jo _ 32, dP (n := 4 * ((va / 128 % 32 : Nat) : Int)) (by omega) (by omega), dP (by omega) (by omega)]
 unfold at2
 congr 3; omega) (by kernel_rfl)
theorem JO {m : av} (w : Wm m) {e : Nat} (h : right m e = true) (h5 : hb e 64 = false) : pa e < 8192 := by
 have := w.le
 simp [right, h5] at h
 have := ku h.2
 omega
end Go.Proofs.Ytcknhfnbdgleiaa
