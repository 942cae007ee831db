/- Parts of a step: translate. -/
import Derived.Test.YtcknhfnbdgleiaaCor5
set_option linter.unusedVariables false
set_option linter.unusedSimpArgs false
namespace Go.Proofs.Ytcknhfnbdgleiaa
open Go.AE
def rX (m : av) (ws : List Wr) (acc : List Ac) (x : Wk) : LO :=
 cond (x.cause == 0) ⟨2, [x.at'], [], [(bR m x.set').map pg, (ws ++ x.set').map wv, (bB acc x.reads ++ dw x.set').map bI], [], [], []⟩
  ⟨1, [x.at', x.leaf, (x.cause : Int)], [], [(bR m x.set').map pg, (ws ++ x.set').map wv, (bB acc x.reads ++ dw x.set').map bI, x.set'.map wv, x.reads.map iv], [], [], []⟩
theorem Qg (k : Nat) {m : av} (w : Wm m) (va : Nat) (hv : va < 4294967296) (c : List Nat) (hc : c.length = 9) (hc2 : ∀ n ∈ c, n < 4294967296) (user : Bool)
    (i1 : Int) (l0 l1 : List AV) (b0 b1 b2 : Bool) (i2 : Int) (l2 : List AV) (i3 : Int) (l3 l4 : List AV) (b3 b4 : Bool) (i4 i5 i6 : Int) (l6 : List AV) (b6 b7 : Bool) (i7 : Int) :
    Ar (D (k + 3)) va i1 l0 l1 b0 b1 b2 i2 l2 i3 l3 l4 b3 b4 i4 (m.map pg) i5 i6 l6 (c.map uv) user b6 b7 i7 = rX m [] [] (walk m (ru c 0) va 4 user) := by
 have r := JX k w (ru c 0) va 4 user (gu hc2 0) hv ⟨by omega, by omega⟩
 simp only [show ((4 : Nat) : Int) = 4 from rfl] at r
 have ok := jw w (ru c 0) va 4 user
 have h0 : (c.map uv).getD 0 .dead = uv (ru c 0) := eO (by omega)
 generalize walk m (ru c 0) va 4 user = x at r ok
 unfold GZ Gg at r
 have h3 := fun i0 i1 i4 l1 l2 b0 b1 b2 i5 l3 i6 l4 l5 b3 b4 i7 i8 i9 l7 l8 b5 b6 b7 i10 i11 l9 i12 i13 i14 i15 i16 i17 i18 l11 l12 =>
  CB (k + 2) w x.reads (by have := ok.few; omega) ok.reads [] (by simp) i0 i1 i4 l1 l2 b0 b1 b2 i5 l3 i6 l4 l5 b3 b4 i7 i8 i9 l7 l8 b5 b6 b7 i10 i11 l9 i12 i13 i14 i15 i16 i17 i18 l11 l12 x.reads.length 0 100000 (by omega) (by have := ok.few; omega)
 have h8 := fun i0 i1 i4 l1 l2 b0 b1 b2 i5 l3 i6 l4 l5 b3 b4 i7 i8 i9 l7 l8 b5 b6 b7 i10 i11 i12 i13 i14 i15 i16 i17 i18 l11 l12 =>
  Kt (k + 1) w x.set' ok.one (fun y hy => (ok.set y hy).1) [] (by simp) (bB [] x.reads) (by have := ok.few; simp [bB]; omega) i0 i1 i4 l1 l2 b0 b1 b2 i5 l3 i6 l4 l5 b3 b4 i7 i8 i9 l7 l8 b5 b6 b7 i10 i11 i12 i13 i14 i15 i16 i17 i18 l11 l12
 simp only [show ((0 : Nat) : Int) = 0 from rfl, List.take_zero, show bB [] [] = [] from rfl, List.map_nil] at h3
 simp only [List.map_nil] at h8
 unfold Ar GQ
 unfold wL
 simp only [Tr.eval, h0, iO, r.ok, r.val, tO, pO, g0, g1, g2, g3, lO, List.length_map, h3]
 simp only [show (⟨1, [], [], [(bB [] x.reads).map bI], [], [], []⟩ : LO).l.getD 0 [] = (bB [] x.reads).map bI from rfl, h8]
 unfold rX R3
 rw [show (((x.cause : Nat) : Int) != 0) = !(x.cause == 0) from dX _ 0]
 cases x.cause == 0 <;> rfl
theorem QJ (k : Nat) {m : av} (w : Wm m) (va acc : Nat) (hv : va < 4294967296) (ha : 1 <= acc /\ acc <= 4) (c : List Nat) (hc : c.length = 9) (hc2 : ∀ n ∈ c, n < 4294967296) (user : Bool) (ws : List Wr) (hws : ws.length < 100) (ac0 : List Ac) (hac0 : ac0.length < 100)
    (i2 : Int) (l0 l1 : List AV) (b0 b1 b2 : Bool) (i3 : Int) (l2 : List AV) (i4 : Int) (l3 l4 : List AV) (b3 b4 : Bool) (i5 i6 i7 : Int) (l6 : List AV) (b6 b7 : Bool) (i8 i9 i10 i11 i12 i13 i14 : Int) :
    Am (D (k + 3)) va acc i2 l0 l1 b0 b1 b2 i3 l2 i4 l3 l4 b3 b4 i5 (m.map pg) i6 i7 l6 (c.map uv) user b6 b7 i8 i9 (ws.map wv) (ac0.map bI) i10 i11 i12 i13 i14 = rX m ws ac0 (walk m (ru c 0) va acc user) := by
 have r := JX k w (ru c 0) va acc user (gu hc2 0) hv ha
 have ok := jw w (ru c 0) va acc user
 have h0 : (c.map uv).getD 0 .dead = uv (ru c 0) := eO (by omega)
 generalize walk m (ru c 0) va acc user = x at r ok
 unfold GZ Gg at r
 have h3 := fun i0 i1 i4 l1 l2 b0 b1 b2 i5 l3 i6 l4 l5 b3 b4 i7 i8 i9 l7 l8 b5 b6 b7 i10 i11 l9 i12 i13 i14 i15 i16 i17 i18 l11 l12 =>
  CB (k + 2) w x.reads (by have := ok.few; omega) ok.reads ac0 hac0 i0 i1 i4 l1 l2 b0 b1 b2 i5 l3 i6 l4 l5 b3 b4 i7 i8 i9 l7 l8 b5 b6 b7 i10 i11 l9 i12 i13 i14 i15 i16 i17 i18 l11 l12 x.reads.length 0 100000 (by omega) (by have := ok.few; omega)
 have h8 := fun i0 i1 i4 l1 l2 b0 b1 b2 i5 l3 i6 l4 l5 b3 b4 i7 i8 i9 l7 l8 b5 b6 b7 i10 i11 i12 i13 i14 i15 i16 i17 i18 l11 l12 =>
  Kt (k + 1) w x.set' ok.one (fun y hy => (ok.set y hy).1) ws hws (bB ac0 x.reads) (by have := ok.few; simp [bB]; omega) i0 i1 i4 l1 l2 b0 b1 b2 i5 l3 i6 l4 l5 b3 b4 i7 i8 i9 l7 l8 b5 b6 b7 i10 i11 i12 i13 i14 i15 i16 i17 i18 l11 l12
 simp only [show ((0 : Nat) : Int) = 0 from rfl, List.take_zero, show bB ac0 [] = ac0 by simp [bB]] at h3
 unfold Am Dh
 unfold wL
 simp only [Tr.eval, h0, iO, r.ok, r.val, tO, pO, g0, g1, g2, g3, lO, List.length_map, h3]
 simp only [show (⟨1, [], [], [(bB ac0 x.reads).map bI], [], [], []⟩ : LO).l.getD 0 [] = (bB ac0 x.reads).map bI from rfl, h8]
 unfold rX R3
 rw [show (((x.cause : Nat) : Int) != 0) = !(x.cause == 0) from dX _ 0]
 cases x.cause == 0 <;> rfl
end Go.Proofs.Ytcknhfnbdgleiaa
