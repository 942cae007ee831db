/- The loops come to what their functions say. (Printed by a program of mine, gen.py.) -/
import Derived.Test.YtcknhfnbdgleiaaCoC
set_option linter.unusedVariables false
set_option linter.unusedSimpArgs false
set_option maxRecDepth 100000
namespace Go.Proofs.Ytcknhfnbdgleiaa
open Go.AE
noncomputable section
theorem Ti {R : Type} (l1 : List AV) (n0 : Nat) (i1 i2 i3 : Int) (n1 : Nat) (i4 i5 i6 : Int) (n2 : Nat) (K : AX -> Fr -> Mm -> Option R) : (wT l1 n0 i1 i2 i3 n1 i4 i5 i6 n2 LO.bad).go K = none := by kernel_rfl
noncomputable def qx : Code := ((Try.f121.body.bind fun c => cK c 1).getD .skip)
theorem Vi (F : Tab) {R : Type} (call : bL R) (dep : Nat) (K : AX -> Fr -> Mm -> Option R) (kk : Fr -> Mm -> Option R) (l1 : List AV) (n0 : Nat) (i1 i2 i3 : Int) (n1 : Nat) (i4 i5 i6 : Int) (n2 : Nat) (s : Int × List AV × List AV) :
    aI (cx F) 121 call dep qx (wY l1 n0 i1 i2 i3 n1 i4 i5 i6 n2 s) (yu l1 n0 i1 i2 i3 n1 i4 i5 i6 n2 s) (aN Pg [] 8 (some ([1, 2, 3], [])) K kk) =
    (sH F l1 n0 i1 i2 i3 n1 i4 i5 i6 n2 s).go (wT l1 n0 i1 i2 i3 n1 i4 i5 i6 n2) K (fun s => kk (wY l1 n0 i1 i2 i3 n1 i4 i5 i6 n2 s) (yu l1 n0 i1 i2 i3 n1 i4 i5 i6 n2 s)) := by kernel_rfl
theorem Ut (F : Tab) {R : Type} (call : bL R) (dep : Nat) (K : AX -> Fr -> Mm -> Option R) (l1 : List AV) (n0 : Nat) (i1 i2 i3 : Int) (n1 : Nat) (i4 i5 i6 : Int) (n2 : Nat) (fuel : Nat) (s : Int × List AV × List AV) :
    iter fuel (fun fr M' k => aI (cx F) 121 call dep qx fr M' (aN Pg [] 8 (some ([1, 2, 3], [])) K k)) (wY l1 n0 i1 i2 i3 n1 i4 i5 i6 n2 s) (yu l1 n0 i1 i2 i3 n1 i4 i5 i6 n2 s) = (wT l1 n0 i1 i2 i3 n1 i4 i5 i6 n2 (Tr.run (sH F l1 n0 i1 i2 i3 n1 i4 i5 i6 n2) fuel s)).go K :=
 iN (B := fun fr M' k => aI (cx F) 121 call dep qx fr M' (aN Pg [] 8 (some ([1, 2, 3], [])) K k)) (step := sH F l1 n0 i1 i2 i3 n1 i4 i5 i6 n2) (lt := wT l1 n0 i1 i2 i3 n1 i4 i5 i6 n2) (sF := wY l1 n0 i1 i2 i3 n1 i4 i5 i6 n2) (sM := yu l1 n0 i1 i2 i3 n1 i4 i5 i6 n2) (K := K) (Ti l1 n0 i1 i2 i3 n1 i4 i5 i6 n2 K) (fun s kk => Vi F call dep K kk l1 n0 i1 i2 i3 n1 i4 i5 i6 n2 s) fuel s
theorem SS (fr : Fr) (M : Mm) : FC.fr fr = wY (ak (pA (vR M 0) 0)) (dS (pA (vR M 3) 0)) (intOf (pA (vR M 4) 0)) (intOf (pA (vR M 4) 1)) (intOf (pA (vR M 4) 2)) (dS (pA (vR M 5) 0)) (intOf (pA (vR M 6) 0)) (intOf (pA (vR M 6) 1)) (intOf (pA (vR M 6) 2)) (dS (pA (vR M 7) 0)) ((intOf (tA fr 1)), (ak (tA fr 2)), (iL (oR M 2))) := by kernel_rfl
theorem QB (fr : Fr) (M : Mm) : FC.mm M = yu (ak (pA (vR M 0) 0)) (dS (pA (vR M 3) 0)) (intOf (pA (vR M 4) 0)) (intOf (pA (vR M 4) 1)) (intOf (pA (vR M 4) 2)) (dS (pA (vR M 5) 0)) (intOf (pA (vR M 6) 0)) (intOf (pA (vR M 6) 1)) (intOf (pA (vR M 6) 2)) (dS (pA (vR M 7) 0)) ((intOf (tA fr 1)), (ak (tA fr 2)), (iL (oR M 2))) := by kernel_rfl
theorem VA (F : Tab) {dep : Nat} {fr : Fr} {M : Mm} {t : LT} (ht : GK F dep fr M = some t) {R : Type} (K : AX -> Fr -> Mm -> Option R) (r : R) (hgo : t.go K = some r) :
    iter 100000 (fun fr' M' k => aI (cx F) 121 (aF (cx F) dep) dep qx fr' M' (aN Pg [] M.rows.length (some ([1, 2, 3], [])) K k)) fr M = some r := by
 unfold GK at ht
 split at ht
 . rename_i hok
   obtain ⟨h1, h2⟩ := StP.ok_eq hok
   obtain rfl := Option.some.inj ht
   exact ji (X := fun fr M => iter 100000 (fun fr' M' k => aI (cx F) 121 (aF (cx F) dep) dep qx fr' M' (aN Pg [] M.rows.length (some ([1, 2, 3], [])) K k)) fr M) (h1.trans (SS fr M)) (h2.trans (QB fr M)) (Ut F _ _ K _ _ _ _ _ _ _ _ _ _ 100000 _) hgo
 . exact absurd ht (by simp)
theorem PI : (Try.f121.body.bind fun c => cK c 1) = some qx := by kernel_rfl
theorem WB {R : Type} (n0 : Nat) (l0 : List AV) (i0 : Int) (l1 : List AV) (n1 : Nat) (K : AX -> Fr -> Mm -> Option R) : (wE n0 l0 i0 l1 n1 LO.bad).go K = none := by kernel_rfl
noncomputable def qV : Code := ((Try.f24.body.bind fun c => cK c 4).getD .skip)
theorem Vj (F : Tab) {R : Type} (K : AX -> Fr -> Mm -> Option R) (kk : Fr -> Mm -> Option R) (n0 : Nat) (l0 : List AV) (i0 : Int) (l1 : List AV) (n1 : Nat) (s : Int × List AV) :
    aI (cx F) 24 (aF (cx F) 5) 5 qV (wz n0 l0 i0 l1 n1 s) (xL n0 l0 i0 l1 n1 s) (aN Pg [] 4 (some ([2, 4, 6, 7, 16, 17, 18], [4, 5, 6])) K kk) =
    (nR F n0 l0 i0 l1 n1 s).go (wE n0 l0 i0 l1 n1) K (fun s => kk (wz n0 l0 i0 l1 n1 s) (xL n0 l0 i0 l1 n1 s)) := by kernel_rfl
theorem Xu (F : Tab) {R : Type} (K : AX -> Fr -> Mm -> Option R) (n0 : Nat) (l0 : List AV) (i0 : Int) (l1 : List AV) (n1 : Nat) (fuel : Nat) (s : Int × List AV) :
    iter fuel (fun fr M' k => aI (cx F) 24 (aF (cx F) 5) 5 qV fr M' (aN Pg [] 4 (some ([2, 4, 6, 7, 16, 17, 18], [4, 5, 6])) K k)) (wz n0 l0 i0 l1 n1 s) (xL n0 l0 i0 l1 n1 s) = (wE n0 l0 i0 l1 n1 (Tr.run (nR F n0 l0 i0 l1 n1) fuel s)).go K :=
 iN (B := fun fr M' k => aI (cx F) 24 (aF (cx F) 5) 5 qV fr M' (aN Pg [] 4 (some ([2, 4, 6, 7, 16, 17, 18], [4, 5, 6])) K k)) (step := nR F n0 l0 i0 l1 n1) (lt := wE n0 l0 i0 l1 n1) (sF := wz n0 l0 i0 l1 n1) (sM := xL n0 l0 i0 l1 n1) (K := K) (WB n0 l0 i0 l1 n1 K) (fun s kk => Vj F K kk n0 l0 i0 l1 n1 s) fuel s
theorem UY (fr : Fr) (M : Mm) : Cw.fr fr = wz (dS (pA ((xD (tA fr 7)).getD 0 .dead) 0)) (ak (tA fr 16)) (intOf (tA fr 17)) (ak (pA (vR M 0) 0)) (dS (pA (vR M 3) 0)) ((intOf (tA fr 18)), (iL (oR M 2))) := by kernel_rfl
theorem YM (fr : Fr) (M : Mm) : Cw.mm M = xL (dS (pA ((xD (tA fr 7)).getD 0 .dead) 0)) (ak (tA fr 16)) (intOf (tA fr 17)) (ak (pA (vR M 0) 0)) (dS (pA (vR M 3) 0)) ((intOf (tA fr 18)), (iL (oR M 2))) := by kernel_rfl
theorem Ur (F : Tab) {dep : Nat} {fr : Fr} {M : Mm} {t : LT} (ht : Ew F dep fr M = some t) {R : Type} (K : AX -> Fr -> Mm -> Option R) (r : R) (hgo : t.go K = some r) :
    iter 100000 (fun fr' M' k => aI (cx F) 24 (aF (cx F) dep) dep qV fr' M' (aN Pg [] M.rows.length (some ([2, 4, 6, 7, 16, 17, 18], [4, 5, 6])) K k)) fr M = some r := by
 unfold Ew at ht
 split at ht
 . rename_i hok
   simp only [Bool.and_eq_true, Nat.beq_eq] at hok
   obtain ⟨rfl, hok⟩ := hok
   obtain ⟨h1, h2⟩ := StP.ok_eq hok
   obtain rfl := Option.some.inj ht
   exact ji (X := fun fr M => iter 100000 (fun fr' M' k => aI (cx F) 24 (aF (cx F) 5) 5 qV fr' M' (aN Pg [] M.rows.length (some ([2, 4, 6, 7, 16, 17, 18], [4, 5, 6])) K k)) fr M) (h1.trans (UY fr M)) (h2.trans (YM fr M)) (Xu F K _ _ _ _ _ 100000 _) hgo
 . exact absurd ht (by simp)
theorem RP : (Try.f24.body.bind fun c => cK c 4) = some qV := by kernel_rfl
theorem PV {R : Type} (i0 i1 : Int) (l1 : List AV) (i3 i4 : Int) (b0 b1 b2 : Bool) (K : AX -> Fr -> Mm -> Option R) : (vL i0 i1 l1 i3 i4 b0 b1 b2 LO.bad).go K = none := by kernel_rfl
noncomputable def p9 : Code := ((Try.f34.body.bind fun c => cK c 13).getD .skip)
theorem PO (F : Tab) {R : Type} (call : bL R) (dep : Nat) (K : AX -> Fr -> Mm -> Option R) (kk : Fr -> Mm -> Option R) (i0 i1 : Int) (l1 : List AV) (i3 i4 : Int) (b0 b1 b2 : Bool) (s : List AV × Int) :
    aI (cx F) 34 call dep p9 (xH i0 i1 l1 i3 i4 b0 b1 b2 s) (xU i0 i1 l1 i3 i4 b0 b1 b2 s) (aN Pg [] 2 (some ([1, 2, 5, 6, 7, 8], [1, 2, 5, 6])) K kk) =
    (qg F i0 i1 l1 i3 i4 b0 b1 b2 s).go (vL i0 i1 l1 i3 i4 b0 b1 b2) K (fun s => kk (xH i0 i1 l1 i3 i4 b0 b1 b2 s) (xU i0 i1 l1 i3 i4 b0 b1 b2 s)) := by kernel_rfl
theorem aam (F : Tab) {R : Type} (call : bL R) (dep : Nat) (K : AX -> Fr -> Mm -> Option R) (i0 i1 : Int) (l1 : List AV) (i3 i4 : Int) (b0 b1 b2 : Bool) (fuel : Nat) (s : List AV × Int) :
    iter fuel (fun fr M' k => aI (cx F) 34 call dep p9 fr M' (aN Pg [] 2 (some ([1, 2, 5, 6, 7, 8], [1, 2, 5, 6])) K k)) (xH i0 i1 l1 i3 i4 b0 b1 b2 s) (xU i0 i1 l1 i3 i4 b0 b1 b2 s) = (vL i0 i1 l1 i3 i4 b0 b1 b2 (Tr.run (qg F i0 i1 l1 i3 i4 b0 b1 b2) fuel s)).go K :=
 iN (B := fun fr M' k => aI (cx F) 34 call dep p9 fr M' (aN Pg [] 2 (some ([1, 2, 5, 6, 7, 8], [1, 2, 5, 6])) K k)) (step := qg F i0 i1 l1 i3 i4 b0 b1 b2) (lt := vL i0 i1 l1 i3 i4 b0 b1 b2) (sF := xH i0 i1 l1 i3 i4 b0 b1 b2) (sM := xU i0 i1 l1 i3 i4 b0 b1 b2) (K := K) (PV i0 i1 l1 i3 i4 b0 b1 b2 K) (fun s kk => PO F call dep K kk i0 i1 l1 i3 i4 b0 b1 b2 s) fuel s
theorem QW (fr : Fr) (M : Mm) : Ik.fr fr = xH (intOf (tA fr 1)) (intOf (tA fr 6)) (ak (pA (vR M 0) 0)) (intOf (pA (vR M 1) 0)) (intOf (pA (vR M 1) 1)) (aj (pA (vR M 1) 2)) (aj (pA (vR M 1) 3)) (aj (pA (vR M 1) 4)) ((ak (tA fr 5)), (intOf (tA fr 8))) := by kernel_rfl
theorem XR (fr : Fr) (M : Mm) : Ik.mm M = xU (intOf (tA fr 1)) (intOf (tA fr 6)) (ak (pA (vR M 0) 0)) (intOf (pA (vR M 1) 0)) (intOf (pA (vR M 1) 1)) (aj (pA (vR M 1) 2)) (aj (pA (vR M 1) 3)) (aj (pA (vR M 1) 4)) ((ak (tA fr 5)), (intOf (tA fr 8))) := by kernel_rfl
theorem QE (F : Tab) {dep : Nat} {fr : Fr} {M : Mm} {t : LT} (ht : Gq F dep fr M = some t) {R : Type} (K : AX -> Fr -> Mm -> Option R) (r : R) (hgo : t.go K = some r) :
    iter 100000 (fun fr' M' k => aI (cx F) 34 (aF (cx F) dep) dep p9 fr' M' (aN Pg [] M.rows.length (some ([1, 2, 5, 6, 7, 8], [1, 2, 5, 6])) K k)) fr M = some r := by
 unfold Gq at ht
 split at ht
 . rename_i hok
   obtain ⟨h1, h2⟩ := StP.ok_eq hok
   obtain rfl := Option.some.inj ht
   exact ji (X := fun fr M => iter 100000 (fun fr' M' k => aI (cx F) 34 (aF (cx F) dep) dep p9 fr' M' (aN Pg [] M.rows.length (some ([1, 2, 5, 6, 7, 8], [1, 2, 5, 6])) K k)) fr M) (h1.trans (QW fr M)) (h2.trans (XR fr M)) (aam F _ _ K _ _ _ _ _ _ _ _ 100000 _) hgo
 . exact absurd ht (by simp)
theorem O5 : (Try.f34.body.bind fun c => cK c 13) = some p9 := by kernel_rfl
theorem ZP {R : Type} (i0 : Int) (l1 : List AV) (K : AX -> Fr -> Mm -> Option R) : (yV i0 l1 LO.bad).go K = none := by kernel_rfl
noncomputable def qA : Code := ((Try.f34.body.bind fun c => cK c 5).getD .skip)
theorem UK (F : Tab) {R : Type} (call : bL R) (dep : Nat) (K : AX -> Fr -> Mm -> Option R) (kk : Fr -> Mm -> Option R) (i0 : Int) (l1 : List AV) (s : List AV × Int) :
    aI (cx F) 34 call dep qA (wD i0 l1 s) (vZ i0 l1 s) (aN Pg [] 1 (some ([1, 2, 5, 6], [5])) K kk) =
    (q8 F i0 l1 s).go (yV i0 l1) K (fun s => kk (wD i0 l1 s) (vZ i0 l1 s)) := by kernel_rfl
theorem Yq (F : Tab) {R : Type} (call : bL R) (dep : Nat) (K : AX -> Fr -> Mm -> Option R) (i0 : Int) (l1 : List AV) (fuel : Nat) (s : List AV × Int) :
    iter fuel (fun fr M' k => aI (cx F) 34 call dep qA fr M' (aN Pg [] 1 (some ([1, 2, 5, 6], [5])) K k)) (wD i0 l1 s) (vZ i0 l1 s) = (yV i0 l1 (Tr.run (q8 F i0 l1) fuel s)).go K :=
 iN (B := fun fr M' k => aI (cx F) 34 call dep qA fr M' (aN Pg [] 1 (some ([1, 2, 5, 6], [5])) K k)) (step := q8 F i0 l1) (lt := yV i0 l1) (sF := wD i0 l1) (sM := vZ i0 l1) (K := K) (ZP i0 l1 K) (fun s kk => UK F call dep K kk i0 l1 s) fuel s
theorem OU (fr : Fr) (M : Mm) : CV.fr fr = wD (intOf (tA fr 1)) (ak (pA (vR M 0) 0)) ((ak (tA fr 5)), (intOf (tA fr 6))) := by kernel_rfl
theorem RS (fr : Fr) (M : Mm) : CV.mm M = vZ (intOf (tA fr 1)) (ak (pA (vR M 0) 0)) ((ak (tA fr 5)), (intOf (tA fr 6))) := by kernel_rfl
theorem aat (F : Tab) {dep : Nat} {fr : Fr} {M : Mm} {t : LT} (ht : FK F dep fr M = some t) {R : Type} (K : AX -> Fr -> Mm -> Option R) (r : R) (hgo : t.go K = some r) :
    iter 100000 (fun fr' M' k => aI (cx F) 34 (aF (cx F) dep) dep qA fr' M' (aN Pg [] M.rows.length (some ([1, 2, 5, 6], [5])) K k)) fr M = some r := by
 unfold FK at ht
 split at ht
 . rename_i hok
   obtain ⟨h1, h2⟩ := StP.ok_eq hok
   obtain rfl := Option.some.inj ht
   exact ji (X := fun fr M => iter 100000 (fun fr' M' k => aI (cx F) 34 (aF (cx F) dep) dep qA fr' M' (aN Pg [] M.rows.length (some ([1, 2, 5, 6], [5])) K k)) fr M) (h1.trans (OU fr M)) (h2.trans (RS fr M)) (Yq F _ _ K _ _ 100000 _) hgo
 . exact absurd ht (by simp)
theorem YO : (Try.f34.body.bind fun c => cK c 5) = some qA := by kernel_rfl
theorem PN {R : Type} (i0 i1 i2 : Int) (l0 l1 : List AV) (b0 b1 b2 : Bool) (i3 : Int) (l2 : List AV) (i4 : Int) (l3 l4 : List AV) (b3 b4 : Bool) (i5 : Int) (l5 : List AV) (i6 i7 : Int) (l6 l7 : List AV) (b5 b6 b7 : Bool) (i8 i9 : Int) (l8 l9 : List AV) (i10 i11 i12 i13 i14 i15 i16 : Int) (l10 l11 : List AV) (K : AX -> Fr -> Mm -> Option R) : (GY i0 i1 i2 l0 l1 b0 b1 b2 i3 l2 i4 l3 l4 b3 b4 i5 l5 i6 i7 l6 l7 b5 b6 b7 i8 i9 l8 l9 i10 i11 i12 i13 i14 i15 i16 l10 l11 LO.bad).go K = none := by kernel_rfl
theorem Zx (F : Tab) {R : Type} (K : Res -> Mm -> Option R) (i0 i1 i2 : Int) (l0 l1 : List AV) (b0 b1 b2 : Bool) (i3 : Int) (l2 : List AV) (i4 : Int) (l3 l4 : List AV) (b3 b4 : Bool) (i5 : Int) (l5 : List AV) (i6 i7 : Int) (l6 l7 : List AV) (b5 b6 b7 : Bool) (i8 i9 : Int) (l8 l9 : List AV) (i10 i11 i12 i13 i14 i15 i16 : Int) (l10 l11 : List AV) :
    aW (cx F) (aF (cx F) 1) 1 155 (K8 i0 i1 i2 l0 l1 b0 b1 b2 i3 l2 i4 l3 l4 b3 b4 i5 l5 i6 i7 l6 l7 b5 b6 b7 i8 i9 l8 l9 i10 i11 i12 i13 i14 i15 i16 l10 l11) (Ml i0 i1 i2 l0 l1 b0 b1 b2 i3 l2 i4 l3 l4 b3 b4 i5 l5 i6 i7 l6 l7 b5 b6 b7 i8 i9 l8 l9 i10 i11 i12 i13 i14 i15 i16 l10 l11) K = (Ia F i0 i1 i2 l0 l1 b0 b1 b2 i3 l2 i4 l3 l4 b3 b4 i5 l5 i6 i7 l6 l7 b5 b6 b7 i8 i9 l8 l9 i10 i11 i12 i13 i14 i15 i16 l10 l11).go (GY i0 i1 i2 l0 l1 b0 b1 b2 i3 l2 i4 l3 l4 b3 b4 i5 l5 i6 i7 l6 l7 b5 b6 b7 i8 i9 l8 l9 i10 i11 i12 i13 i14 i15 i16 l10 l11) (bJ K) (fun _ => none) := by kernel_rfl
theorem P5 (args : List AV) (M : Mm) : FH.args args = K8 (intOf (args.getD 1 .dead)) (intOf (args.getD 2 .dead)) (intOf (pA (vR M 0) 0)) (partsOf (pA (vR M 0) 1)) (partsOf (pA (vR M 0) 2)) (aj (pA (vR M 0) 3)) (aj (pA (vR M 0) 4)) (aj (pA (vR M 0) 5)) (intOf (pA (vR M 0) 6)) (ak (pA (vR M 1) 0)) (intOf (pA (pA (vR M 3) 0) 0)) (partsOf (pA (pA (vR M 3) 0) 1)) (partsOf (pA (pA (vR M 3) 0) 2)) (aj (pA (pA (vR M 3) 0) 3)) (aj (pA (pA (vR M 3) 0) 5)) (intOf (pA (pA (vR M 3) 0) 6)) (ak (pA (pA (vR M 3) 1) 0)) (intOf (pA (vR M 3) 2)) (intOf (pA (pA (pA (vR M 3) 3) 2) 0)) (partsOf (pA (pA (pA (vR M 3) 3) 2) 1)) (partsOf (pA (pA (pA (vR M 3) 3) 2) 2)) (aj (pA (pA (pA (vR M 3) 3) 2) 3)) (aj (pA (pA (pA (vR M 3) 3) 2) 4)) (aj (pA (pA (pA (vR M 3) 3) 2) 5)) (intOf (pA (pA (pA (vR M 3) 3) 2) 6)) (intOf (pA (pA (vR M 3) 3) 3)) (ak (pA (pA (vR M 3) 3) 4)) (ak (pA (pA (vR M 3) 3) 5)) (intOf (pA (pA (vR M 3) 4) 0)) (intOf (pA (pA (vR M 3) 4) 1)) (intOf (pA (pA (vR M 3) 4) 2)) (intOf (pA (pA (vR M 3) 4) 3)) (intOf (pA (pA (vR M 3) 4) 4)) (intOf (pA (vR M 5) 0)) (intOf (pA (vR M 5) 1)) (ak (pA (vR M 5) 2)) (ak (pA (vR M 5) 3)) := by kernel_rfl
theorem W9 (args : List AV) (M : Mm) : FH.mm M = Ml (intOf (args.getD 1 .dead)) (intOf (args.getD 2 .dead)) (intOf (pA (vR M 0) 0)) (partsOf (pA (vR M 0) 1)) (partsOf (pA (vR M 0) 2)) (aj (pA (vR M 0) 3)) (aj (pA (vR M 0) 4)) (aj (pA (vR M 0) 5)) (intOf (pA (vR M 0) 6)) (ak (pA (vR M 1) 0)) (intOf (pA (pA (vR M 3) 0) 0)) (partsOf (pA (pA (vR M 3) 0) 1)) (partsOf (pA (pA (vR M 3) 0) 2)) (aj (pA (pA (vR M 3) 0) 3)) (aj (pA (pA (vR M 3) 0) 5)) (intOf (pA (pA (vR M 3) 0) 6)) (ak (pA (pA (vR M 3) 1) 0)) (intOf (pA (vR M 3) 2)) (intOf (pA (pA (pA (vR M 3) 3) 2) 0)) (partsOf (pA (pA (pA (vR M 3) 3) 2) 1)) (partsOf (pA (pA (pA (vR M 3) 3) 2) 2)) (aj (pA (pA (pA (vR M 3) 3) 2) 3)) (aj (pA (pA (pA (vR M 3) 3) 2) 4)) (aj (pA (pA (pA (vR M 3) 3) 2) 5)) (intOf (pA (pA (pA (vR M 3) 3) 2) 6)) (intOf (pA (pA (vR M 3) 3) 3)) (ak (pA (pA (vR M 3) 3) 4)) (ak (pA (pA (vR M 3) 3) 5)) (intOf (pA (pA (vR M 3) 4) 0)) (intOf (pA (pA (vR M 3) 4) 1)) (intOf (pA (pA (vR M 3) 4) 2)) (intOf (pA (pA (vR M 3) 4) 3)) (intOf (pA (pA (vR M 3) 4) 4)) (intOf (pA (vR M 5) 0)) (intOf (pA (vR M 5) 1)) (ak (pA (vR M 5) 2)) (ak (pA (vR M 5) 3)) := by kernel_rfl
theorem Wt (F : Tab) {dep : Nat} {args : List AV} {M : Mm} {t : LT} (ht : He F dep args M = some t) {R : Type} (K : Res -> Mm -> Option R) (r : R) (hgo : t.go (bJ K) = some r) :
    aW (cx F) (aF (cx F) dep) dep 155 args M K = some r := by
 unfold He at ht
 split at ht
 . rename_i hok
   simp only [Bool.and_eq_true, Nat.beq_eq] at hok
   obtain ⟨rfl, hok⟩ := hok
   obtain ⟨h1, h2⟩ := ArP.ok_eq hok
   obtain rfl := Option.some.inj ht
   exact iq (X := fun args M => aW (cx F) (aF (cx F) 1) 1 155 args M K) (h1.trans (P5 args M)) (h2.trans (W9 args M)) (gW (PN _ _ _ _ _ _ _ _ _ _ _ _ _ _ _ _ _ _ _ _ _ _ _ _ _ _ _ _ _ _ _ _ _ _ _ _ _ _) (Zx F K _ _ _ _ _ _ _ _ _ _ _ _ _ _ _ _ _ _ _ _ _ _ _ _ _ _ _ _ _ _ _ _ _ _ _ _ _)) hgo
 . exact absurd ht (by simp)
theorem Sm {R : Type} (i0 i1 : Int) (l0 : List AV) (i2 i4 : Int) (l1 l2 : List AV) (b0 b1 b2 : Bool) (i5 : Int) (l3 : List AV) (i6 : Int) (l4 l5 : List AV) (b3 b4 : Bool) (i7 : Int) (l6 : List AV) (i8 i9 : Int) (l7 l8 : List AV) (b5 b6 b7 : Bool) (i10 i11 : Int) (l9 : List AV) (i12 i13 i14 i15 i16 i17 i18 : Int) (l11 l12 : List AV) (K : AX -> Fr -> Mm -> Option R) : (xq i0 i1 l0 i2 i4 l1 l2 b0 b1 b2 i5 l3 i6 l4 l5 b3 b4 i7 l6 i8 i9 l7 l8 b5 b6 b7 i10 i11 l9 i12 i13 i14 i15 i16 i17 i18 l11 l12 LO.bad).go K = none := by kernel_rfl
noncomputable def qz : Code := ((Try.f156.body.bind fun c => cK c 3).getD .skip)
theorem U0 (F : Tab) {R : Type} (K : AX -> Fr -> Mm -> Option R) (kk : Fr -> Mm -> Option R) (i0 i1 : Int) (l0 : List AV) (i2 i4 : Int) (l1 l2 : List AV) (b0 b1 b2 : Bool) (i5 : Int) (l3 : List AV) (i6 : Int) (l4 l5 : List AV) (b3 b4 : Bool) (i7 : Int) (l6 : List AV) (i8 i9 : Int) (l7 l8 : List AV) (b5 b6 b7 : Bool) (i10 i11 : Int) (l9 : List AV) (i12 i13 i14 i15 i16 i17 i18 : Int) (l11 l12 : List AV) (s : Int × List AV) :
    aI (cx F) 156 (aF (cx F) 2) 2 qz (vB i0 i1 l0 i2 i4 l1 l2 b0 b1 b2 i5 l3 i6 l4 l5 b3 b4 i7 l6 i8 i9 l7 l8 b5 b6 b7 i10 i11 l9 i12 i13 i14 i15 i16 i17 i18 l11 l12 s) (wW i0 i1 l0 i2 i4 l1 l2 b0 b1 b2 i5 l3 i6 l4 l5 b3 b4 i7 l6 i8 i9 l7 l8 b5 b6 b7 i10 i11 l9 i12 i13 i14 i15 i16 i17 i18 l11 l12 s) (aN Pg [] 6 (some ([0, 1, 7, 8, 37, 38, 39], [0, 1, 7, 8])) K kk) =
    (qE F i0 i1 l0 i2 i4 l1 l2 b0 b1 b2 i5 l3 i6 l4 l5 b3 b4 i7 l6 i8 i9 l7 l8 b5 b6 b7 i10 i11 l9 i12 i13 i14 i15 i16 i17 i18 l11 l12 s).go (xq i0 i1 l0 i2 i4 l1 l2 b0 b1 b2 i5 l3 i6 l4 l5 b3 b4 i7 l6 i8 i9 l7 l8 b5 b6 b7 i10 i11 l9 i12 i13 i14 i15 i16 i17 i18 l11 l12) K (fun s => kk (vB i0 i1 l0 i2 i4 l1 l2 b0 b1 b2 i5 l3 i6 l4 l5 b3 b4 i7 l6 i8 i9 l7 l8 b5 b6 b7 i10 i11 l9 i12 i13 i14 i15 i16 i17 i18 l11 l12 s) (wW i0 i1 l0 i2 i4 l1 l2 b0 b1 b2 i5 l3 i6 l4 l5 b3 b4 i7 l6 i8 i9 l7 l8 b5 b6 b7 i10 i11 l9 i12 i13 i14 i15 i16 i17 i18 l11 l12 s)) := by kernel_rfl
theorem SC (F : Tab) {R : Type} (K : AX -> Fr -> Mm -> Option R) (i0 i1 : Int) (l0 : List AV) (i2 i4 : Int) (l1 l2 : List AV) (b0 b1 b2 : Bool) (i5 : Int) (l3 : List AV) (i6 : Int) (l4 l5 : List AV) (b3 b4 : Bool) (i7 : Int) (l6 : List AV) (i8 i9 : Int) (l7 l8 : List AV) (b5 b6 b7 : Bool) (i10 i11 : Int) (l9 : List AV) (i12 i13 i14 i15 i16 i17 i18 : Int) (l11 l12 : List AV) (fuel : Nat) (s : Int × List AV) :
    iter fuel (fun fr M' k => aI (cx F) 156 (aF (cx F) 2) 2 qz fr M' (aN Pg [] 6 (some ([0, 1, 7, 8, 37, 38, 39], [0, 1, 7, 8])) K k)) (vB i0 i1 l0 i2 i4 l1 l2 b0 b1 b2 i5 l3 i6 l4 l5 b3 b4 i7 l6 i8 i9 l7 l8 b5 b6 b7 i10 i11 l9 i12 i13 i14 i15 i16 i17 i18 l11 l12 s) (wW i0 i1 l0 i2 i4 l1 l2 b0 b1 b2 i5 l3 i6 l4 l5 b3 b4 i7 l6 i8 i9 l7 l8 b5 b6 b7 i10 i11 l9 i12 i13 i14 i15 i16 i17 i18 l11 l12 s) = (xq i0 i1 l0 i2 i4 l1 l2 b0 b1 b2 i5 l3 i6 l4 l5 b3 b4 i7 l6 i8 i9 l7 l8 b5 b6 b7 i10 i11 l9 i12 i13 i14 i15 i16 i17 i18 l11 l12 (Tr.run (qE F i0 i1 l0 i2 i4 l1 l2 b0 b1 b2 i5 l3 i6 l4 l5 b3 b4 i7 l6 i8 i9 l7 l8 b5 b6 b7 i10 i11 l9 i12 i13 i14 i15 i16 i17 i18 l11 l12) fuel s)).go K :=
 iN (B := fun fr M' k => aI (cx F) 156 (aF (cx F) 2) 2 qz fr M' (aN Pg [] 6 (some ([0, 1, 7, 8, 37, 38, 39], [0, 1, 7, 8])) K k)) (step := qE F i0 i1 l0 i2 i4 l1 l2 b0 b1 b2 i5 l3 i6 l4 l5 b3 b4 i7 l6 i8 i9 l7 l8 b5 b6 b7 i10 i11 l9 i12 i13 i14 i15 i16 i17 i18 l11 l12) (lt := xq i0 i1 l0 i2 i4 l1 l2 b0 b1 b2 i5 l3 i6 l4 l5 b3 b4 i7 l6 i8 i9 l7 l8 b5 b6 b7 i10 i11 l9 i12 i13 i14 i15 i16 i17 i18 l11 l12) (sF := vB i0 i1 l0 i2 i4 l1 l2 b0 b1 b2 i5 l3 i6 l4 l5 b3 b4 i7 l6 i8 i9 l7 l8 b5 b6 b7 i10 i11 l9 i12 i13 i14 i15 i16 i17 i18 l11 l12) (sM := wW i0 i1 l0 i2 i4 l1 l2 b0 b1 b2 i5 l3 i6 l4 l5 b3 b4 i7 l6 i8 i9 l7 l8 b5 b6 b7 i10 i11 l9 i12 i13 i14 i15 i16 i17 i18 l11 l12) (K := K) (Sm i0 i1 l0 i2 i4 l1 l2 b0 b1 b2 i5 l3 i6 l4 l5 b3 b4 i7 l6 i8 i9 l7 l8 b5 b6 b7 i10 i11 l9 i12 i13 i14 i15 i16 i17 i18 l11 l12 K) (fun s kk => U0 F K kk i0 i1 l0 i2 i4 l1 l2 b0 b1 b2 i5 l3 i6 l4 l5 b3 b4 i7 l6 i8 i9 l7 l8 b5 b6 b7 i10 i11 l9 i12 i13 i14 i15 i16 i17 i18 l11 l12 s) fuel s
theorem QY (fr : Fr) (M : Mm) : EZ.fr fr = vB (intOf (tA fr 1)) (intOf (tA fr 8)) (ak (tA fr 37)) (intOf (tA fr 38)) (intOf (pA (vR M 0) 0)) (partsOf (pA (vR M 0) 1)) (partsOf (pA (vR M 0) 2)) (aj (pA (vR M 0) 3)) (aj (pA (vR M 0) 4)) (aj (pA (vR M 0) 5)) (intOf (pA (vR M 0) 6)) (ak (pA (vR M 1) 0)) (intOf (pA (pA (vR M 3) 0) 0)) (partsOf (pA (pA (vR M 3) 0) 1)) (partsOf (pA (pA (vR M 3) 0) 2)) (aj (pA (pA (vR M 3) 0) 3)) (aj (pA (pA (vR M 3) 0) 5)) (intOf (pA (pA (vR M 3) 0) 6)) (ak (pA (pA (vR M 3) 1) 0)) (intOf (pA (vR M 3) 2)) (intOf (pA (pA (pA (vR M 3) 3) 2) 0)) (partsOf (pA (pA (pA (vR M 3) 3) 2) 1)) (partsOf (pA (pA (pA (vR M 3) 3) 2) 2)) (aj (pA (pA (pA (vR M 3) 3) 2) 3)) (aj (pA (pA (pA (vR M 3) 3) 2) 4)) (aj (pA (pA (pA (vR M 3) 3) 2) 5)) (intOf (pA (pA (pA (vR M 3) 3) 2) 6)) (intOf (pA (pA (vR M 3) 3) 3)) (ak (pA (pA (vR M 3) 3) 4)) (intOf (pA (pA (vR M 3) 4) 0)) (intOf (pA (pA (vR M 3) 4) 1)) (intOf (pA (pA (vR M 3) 4) 2)) (intOf (pA (pA (vR M 3) 4) 3)) (intOf (pA (pA (vR M 3) 4) 4)) (intOf (pA (vR M 5) 0)) (intOf (pA (vR M 5) 1)) (ak (pA (vR M 5) 2)) (ak (pA (vR M 5) 3)) ((intOf (tA fr 39)), (ak (pA (pA (vR M 3) 3) 5))) := by kernel_rfl
theorem Qo (fr : Fr) (M : Mm) : EZ.mm M = wW (intOf (tA fr 1)) (intOf (tA fr 8)) (ak (tA fr 37)) (intOf (tA fr 38)) (intOf (pA (vR M 0) 0)) (partsOf (pA (vR M 0) 1)) (partsOf (pA (vR M 0) 2)) (aj (pA (vR M 0) 3)) (aj (pA (vR M 0) 4)) (aj (pA (vR M 0) 5)) (intOf (pA (vR M 0) 6)) (ak (pA (vR M 1) 0)) (intOf (pA (pA (vR M 3) 0) 0)) (partsOf (pA (pA (vR M 3) 0) 1)) (partsOf (pA (pA (vR M 3) 0) 2)) (aj (pA (pA (vR M 3) 0) 3)) (aj (pA (pA (vR M 3) 0) 5)) (intOf (pA (pA (vR M 3) 0) 6)) (ak (pA (pA (vR M 3) 1) 0)) (intOf (pA (vR M 3) 2)) (intOf (pA (pA (pA (vR M 3) 3) 2) 0)) (partsOf (pA (pA (pA (vR M 3) 3) 2) 1)) (partsOf (pA (pA (pA (vR M 3) 3) 2) 2)) (aj (pA (pA (pA (vR M 3) 3) 2) 3)) (aj (pA (pA (pA (vR M 3) 3) 2) 4)) (aj (pA (pA (pA (vR M 3) 3) 2) 5)) (intOf (pA (pA (pA (vR M 3) 3) 2) 6)) (intOf (pA (pA (vR M 3) 3) 3)) (ak (pA (pA (vR M 3) 3) 4)) (intOf (pA (pA (vR M 3) 4) 0)) (intOf (pA (pA (vR M 3) 4) 1)) (intOf (pA (pA (vR M 3) 4) 2)) (intOf (pA (pA (vR M 3) 4) 3)) (intOf (pA (pA (vR M 3) 4) 4)) (intOf (pA (vR M 5) 0)) (intOf (pA (vR M 5) 1)) (ak (pA (vR M 5) 2)) (ak (pA (vR M 5) 3)) ((intOf (tA fr 39)), (ak (pA (pA (vR M 3) 3) 5))) := by kernel_rfl
theorem P6 (F : Tab) {dep : Nat} {fr : Fr} {M : Mm} {t : LT} (ht : Ev F dep fr M = some t) {R : Type} (K : AX -> Fr -> Mm -> Option R) (r : R) (hgo : t.go K = some r) :
    iter 100000 (fun fr' M' k => aI (cx F) 156 (aF (cx F) dep) dep qz fr' M' (aN Pg [] M.rows.length (some ([0, 1, 7, 8, 37, 38, 39], [0, 1, 7, 8])) K k)) fr M = some r := by
 unfold Ev at ht
 split at ht
 . rename_i hok
   simp only [Bool.and_eq_true, Nat.beq_eq] at hok
   obtain ⟨rfl, hok⟩ := hok
   obtain ⟨h1, h2⟩ := StP.ok_eq hok
   obtain rfl := Option.some.inj ht
   exact ji (X := fun fr M => iter 100000 (fun fr' M' k => aI (cx F) 156 (aF (cx F) 2) 2 qz fr' M' (aN Pg [] M.rows.length (some ([0, 1, 7, 8, 37, 38, 39], [0, 1, 7, 8])) K k)) fr M) (h1.trans (QY fr M)) (h2.trans (Qo fr M)) (SC F K _ _ _ _ _ _ _ _ _ _ _ _ _ _ _ _ _ _ _ _ _ _ _ _ _ _ _ _ _ _ _ _ _ _ _ _ _ _ 100000 _) hgo
 . exact absurd ht (by simp)
theorem Q7 : (Try.f156.body.bind fun c => cK c 3) = some qz := by kernel_rfl
theorem VD {R : Type} (i0 i1 i2 i3 : Int) (l0 l1 : List AV) (b0 b1 b2 : Bool) (i4 : Int) (l2 : List AV) (i5 : Int) (l3 l4 : List AV) (b3 b4 : Bool) (i6 : Int) (l5 : List AV) (i7 i8 : Int) (l6 l7 : List AV) (b5 b6 b7 : Bool) (i9 i10 : Int) (l8 l9 : List AV) (i11 i12 i13 i14 i15 i16 i17 : Int) (l10 l11 : List AV) (i18 i19 i20 : Int) (K : AX -> Fr -> Mm -> Option R) : (Ii i0 i1 i2 i3 l0 l1 b0 b1 b2 i4 l2 i5 l3 l4 b3 b4 i6 l5 i7 i8 l6 l7 b5 b6 b7 i9 i10 l8 l9 i11 i12 i13 i14 i15 i16 i17 l10 l11 i18 i19 i20 LO.bad).go K = none := by kernel_rfl
theorem Ql (F : Tab) {R : Type} (K : Res -> Mm -> Option R) (i0 i1 i2 i3 : Int) (l0 l1 : List AV) (b0 b1 b2 : Bool) (i4 : Int) (l2 : List AV) (i5 : Int) (l3 l4 : List AV) (b3 b4 : Bool) (i6 : Int) (l5 : List AV) (i7 i8 : Int) (l6 l7 : List AV) (b5 b6 b7 : Bool) (i9 i10 : Int) (l8 l9 : List AV) (i11 i12 i13 i14 i15 i16 i17 : Int) (l10 l11 : List AV) (i18 i19 i20 : Int) :
    aW (cx F) (aF (cx F) 1) 1 159 (MW i0 i1 i2 i3 l0 l1 b0 b1 b2 i4 l2 i5 l3 l4 b3 b4 i6 l5 i7 i8 l6 l7 b5 b6 b7 i9 i10 l8 l9 i11 i12 i13 i14 i15 i16 i17 l10 l11 i18 i19 i20) (Kr i0 i1 i2 i3 l0 l1 b0 b1 b2 i4 l2 i5 l3 l4 b3 b4 i6 l5 i7 i8 l6 l7 b5 b6 b7 i9 i10 l8 l9 i11 i12 i13 i14 i15 i16 i17 l10 l11 i18 i19 i20) K = (FW F i0 i1 i2 i3 l0 l1 b0 b1 b2 i4 l2 i5 l3 l4 b3 b4 i6 l5 i7 i8 l6 l7 b5 b6 b7 i9 i10 l8 l9 i11 i12 i13 i14 i15 i16 i17 l10 l11 i18 i19 i20).go (Ii i0 i1 i2 i3 l0 l1 b0 b1 b2 i4 l2 i5 l3 l4 b3 b4 i6 l5 i7 i8 l6 l7 b5 b6 b7 i9 i10 l8 l9 i11 i12 i13 i14 i15 i16 i17 l10 l11 i18 i19 i20) (bJ K) (fun _ => none) := by kernel_rfl
theorem YQ (args : List AV) (M : Mm) : Gx.args args = MW (intOf (pA (args.getD 1 .dead) 0)) (intOf (pA (args.getD 1 .dead) 1)) (intOf (pA (args.getD 1 .dead) 2)) (intOf (pA (vR M 0) 0)) (partsOf (pA (vR M 0) 1)) (partsOf (pA (vR M 0) 2)) (aj (pA (vR M 0) 3)) (aj (pA (vR M 0) 4)) (aj (pA (vR M 0) 5)) (intOf (pA (vR M 0) 6)) (ak (pA (vR M 1) 0)) (intOf (pA (pA (vR M 3) 0) 0)) (partsOf (pA (pA (vR M 3) 0) 1)) (partsOf (pA (pA (vR M 3) 0) 2)) (aj (pA (pA (vR M 3) 0) 3)) (aj (pA (pA (vR M 3) 0) 5)) (intOf (pA (pA (vR M 3) 0) 6)) (ak (pA (pA (vR M 3) 1) 0)) (intOf (pA (vR M 3) 2)) (intOf (pA (pA (pA (vR M 3) 3) 2) 0)) (partsOf (pA (pA (pA (vR M 3) 3) 2) 1)) (partsOf (pA (pA (pA (vR M 3) 3) 2) 2)) (aj (pA (pA (pA (vR M 3) 3) 2) 3)) (aj (pA (pA (pA (vR M 3) 3) 2) 4)) (aj (pA (pA (pA (vR M 3) 3) 2) 5)) (intOf (pA (pA (pA (vR M 3) 3) 2) 6)) (intOf (pA (pA (vR M 3) 3) 3)) (ak (pA (pA (vR M 3) 3) 4)) (ak (pA (pA (vR M 3) 3) 5)) (intOf (pA (pA (vR M 3) 4) 0)) (intOf (pA (pA (vR M 3) 4) 1)) (intOf (pA (pA (vR M 3) 4) 2)) (intOf (pA (pA (vR M 3) 4) 3)) (intOf (pA (pA (vR M 3) 4) 4)) (intOf (pA (vR M 5) 0)) (intOf (pA (vR M 5) 1)) (ak (pA (vR M 5) 2)) (ak (pA (vR M 5) 3)) (intOf (pA (vR M 6) 0)) (intOf (pA (vR M 6) 1)) (intOf (pA (vR M 6) 2)) := by kernel_rfl
theorem Zv (args : List AV) (M : Mm) : Gx.mm M = Kr (intOf (pA (args.getD 1 .dead) 0)) (intOf (pA (args.getD 1 .dead) 1)) (intOf (pA (args.getD 1 .dead) 2)) (intOf (pA (vR M 0) 0)) (partsOf (pA (vR M 0) 1)) (partsOf (pA (vR M 0) 2)) (aj (pA (vR M 0) 3)) (aj (pA (vR M 0) 4)) (aj (pA (vR M 0) 5)) (intOf (pA (vR M 0) 6)) (ak (pA (vR M 1) 0)) (intOf (pA (pA (vR M 3) 0) 0)) (partsOf (pA (pA (vR M 3) 0) 1)) (partsOf (pA (pA (vR M 3) 0) 2)) (aj (pA (pA (vR M 3) 0) 3)) (aj (pA (pA (vR M 3) 0) 5)) (intOf (pA (pA (vR M 3) 0) 6)) (ak (pA (pA (vR M 3) 1) 0)) (intOf (pA (vR M 3) 2)) (intOf (pA (pA (pA (vR M 3) 3) 2) 0)) (partsOf (pA (pA (pA (vR M 3) 3) 2) 1)) (partsOf (pA (pA (pA (vR M 3) 3) 2) 2)) (aj (pA (pA (pA (vR M 3) 3) 2) 3)) (aj (pA (pA (pA (vR M 3) 3) 2) 4)) (aj (pA (pA (pA (vR M 3) 3) 2) 5)) (intOf (pA (pA (pA (vR M 3) 3) 2) 6)) (intOf (pA (pA (vR M 3) 3) 3)) (ak (pA (pA (vR M 3) 3) 4)) (ak (pA (pA (vR M 3) 3) 5)) (intOf (pA (pA (vR M 3) 4) 0)) (intOf (pA (pA (vR M 3) 4) 1)) (intOf (pA (pA (vR M 3) 4) 2)) (intOf (pA (pA (vR M 3) 4) 3)) (intOf (pA (pA (vR M 3) 4) 4)) (intOf (pA (vR M 5) 0)) (intOf (pA (vR M 5) 1)) (ak (pA (vR M 5) 2)) (ak (pA (vR M 5) 3)) (intOf (pA (vR M 6) 0)) (intOf (pA (vR M 6) 1)) (intOf (pA (vR M 6) 2)) := by kernel_rfl
theorem TT (F : Tab) {dep : Nat} {args : List AV} {M : Mm} {t : LT} (ht : Ej F dep args M = some t) {R : Type} (K : Res -> Mm -> Option R) (r : R) (hgo : t.go (bJ K) = some r) :
    aW (cx F) (aF (cx F) dep) dep 159 args M K = some r := by
 unfold Ej at ht
 split at ht
 . rename_i hok
   simp only [Bool.and_eq_true, Nat.beq_eq] at hok
   obtain ⟨rfl, hok⟩ := hok
   obtain ⟨h1, h2⟩ := ArP.ok_eq hok
   obtain rfl := Option.some.inj ht
   exact iq (X := fun args M => aW (cx F) (aF (cx F) 1) 1 159 args M K) (h1.trans (YQ args M)) (h2.trans (Zv args M)) (gW (VD _ _ _ _ _ _ _ _ _ _ _ _ _ _ _ _ _ _ _ _ _ _ _ _ _ _ _ _ _ _ _ _ _ _ _ _ _ _ _ _ _ _) (Ql F K _ _ _ _ _ _ _ _ _ _ _ _ _ _ _ _ _ _ _ _ _ _ _ _ _ _ _ _ _ _ _ _ _ _ _ _ _ _ _ _ _)) hgo
 . exact absurd ht (by simp)
theorem aaL {R : Type} (i0 i1 : Int) (l0 : List AV) (i2 i4 : Int) (l1 l2 : List AV) (b0 b1 b2 : Bool) (i5 : Int) (l3 : List AV) (i6 : Int) (l4 l5 : List AV) (b3 b4 : Bool) (i7 i8 i9 : Int) (l7 l8 : List AV) (b5 b6 b7 : Bool) (i10 i11 i12 i13 i14 i15 i16 i17 i18 : Int) (l11 l12 : List AV) (K : AX -> Fr -> Mm -> Option R) : (xV i0 i1 l0 i2 i4 l1 l2 b0 b1 b2 i5 l3 i6 l4 l5 b3 b4 i7 i8 i9 l7 l8 b5 b6 b7 i10 i11 i12 i13 i14 i15 i16 i17 i18 l11 l12 LO.bad).go K = none := by kernel_rfl
noncomputable def qZ : Code := ((Try.f156.body.bind fun c => cK c 8).getD .skip)
theorem WY (F : Tab) {R : Type} (K : AX -> Fr -> Mm -> Option R) (kk : Fr -> Mm -> Option R) (i0 i1 : Int) (l0 : List AV) (i2 i4 : Int) (l1 l2 : List AV) (b0 b1 b2 : Bool) (i5 : Int) (l3 : List AV) (i6 : Int) (l4 l5 : List AV) (b3 b4 : Bool) (i7 i8 i9 : Int) (l7 l8 : List AV) (b5 b6 b7 : Bool) (i10 i11 i12 i13 i14 i15 i16 i17 i18 : Int) (l11 l12 : List AV) (s : Int × List AV × List AV × List AV) :
    aI (cx F) 156 (aF (cx F) 2) 2 qZ (wX i0 i1 l0 i2 i4 l1 l2 b0 b1 b2 i5 l3 i6 l4 l5 b3 b4 i7 i8 i9 l7 l8 b5 b6 b7 i10 i11 i12 i13 i14 i15 i16 i17 i18 l11 l12 s) (y8 i0 i1 l0 i2 i4 l1 l2 b0 b1 b2 i5 l3 i6 l4 l5 b3 b4 i7 i8 i9 l7 l8 b5 b6 b7 i10 i11 i12 i13 i14 i15 i16 i17 i18 l11 l12 s) (aN Pg [] 6 (some ([0, 1, 7, 8, 48, 49, 50], [0, 1, 7, 8])) K kk) =
    (ql F i0 i1 l0 i2 i4 l1 l2 b0 b1 b2 i5 l3 i6 l4 l5 b3 b4 i7 i8 i9 l7 l8 b5 b6 b7 i10 i11 i12 i13 i14 i15 i16 i17 i18 l11 l12 s).go (xV i0 i1 l0 i2 i4 l1 l2 b0 b1 b2 i5 l3 i6 l4 l5 b3 b4 i7 i8 i9 l7 l8 b5 b6 b7 i10 i11 i12 i13 i14 i15 i16 i17 i18 l11 l12) K (fun s => kk (wX i0 i1 l0 i2 i4 l1 l2 b0 b1 b2 i5 l3 i6 l4 l5 b3 b4 i7 i8 i9 l7 l8 b5 b6 b7 i10 i11 i12 i13 i14 i15 i16 i17 i18 l11 l12 s) (y8 i0 i1 l0 i2 i4 l1 l2 b0 b1 b2 i5 l3 i6 l4 l5 b3 b4 i7 i8 i9 l7 l8 b5 b6 b7 i10 i11 i12 i13 i14 i15 i16 i17 i18 l11 l12 s)) := by kernel_rfl
theorem YV (F : Tab) {R : Type} (K : AX -> Fr -> Mm -> Option R) (i0 i1 : Int) (l0 : List AV) (i2 i4 : Int) (l1 l2 : List AV) (b0 b1 b2 : Bool) (i5 : Int) (l3 : List AV) (i6 : Int) (l4 l5 : List AV) (b3 b4 : Bool) (i7 i8 i9 : Int) (l7 l8 : List AV) (b5 b6 b7 : Bool) (i10 i11 i12 i13 i14 i15 i16 i17 i18 : Int) (l11 l12 : List AV) (fuel : Nat) (s : Int × List AV × List AV × List AV) :
    iter fuel (fun fr M' k => aI (cx F) 156 (aF (cx F) 2) 2 qZ fr M' (aN Pg [] 6 (some ([0, 1, 7, 8, 48, 49, 50], [0, 1, 7, 8])) K k)) (wX i0 i1 l0 i2 i4 l1 l2 b0 b1 b2 i5 l3 i6 l4 l5 b3 b4 i7 i8 i9 l7 l8 b5 b6 b7 i10 i11 i12 i13 i14 i15 i16 i17 i18 l11 l12 s) (y8 i0 i1 l0 i2 i4 l1 l2 b0 b1 b2 i5 l3 i6 l4 l5 b3 b4 i7 i8 i9 l7 l8 b5 b6 b7 i10 i11 i12 i13 i14 i15 i16 i17 i18 l11 l12 s) = (xV i0 i1 l0 i2 i4 l1 l2 b0 b1 b2 i5 l3 i6 l4 l5 b3 b4 i7 i8 i9 l7 l8 b5 b6 b7 i10 i11 i12 i13 i14 i15 i16 i17 i18 l11 l12 (Tr.run (ql F i0 i1 l0 i2 i4 l1 l2 b0 b1 b2 i5 l3 i6 l4 l5 b3 b4 i7 i8 i9 l7 l8 b5 b6 b7 i10 i11 i12 i13 i14 i15 i16 i17 i18 l11 l12) fuel s)).go K :=
 iN (B := fun fr M' k => aI (cx F) 156 (aF (cx F) 2) 2 qZ fr M' (aN Pg [] 6 (some ([0, 1, 7, 8, 48, 49, 50], [0, 1, 7, 8])) K k)) (step := ql F i0 i1 l0 i2 i4 l1 l2 b0 b1 b2 i5 l3 i6 l4 l5 b3 b4 i7 i8 i9 l7 l8 b5 b6 b7 i10 i11 i12 i13 i14 i15 i16 i17 i18 l11 l12) (lt := xV i0 i1 l0 i2 i4 l1 l2 b0 b1 b2 i5 l3 i6 l4 l5 b3 b4 i7 i8 i9 l7 l8 b5 b6 b7 i10 i11 i12 i13 i14 i15 i16 i17 i18 l11 l12) (sF := wX i0 i1 l0 i2 i4 l1 l2 b0 b1 b2 i5 l3 i6 l4 l5 b3 b4 i7 i8 i9 l7 l8 b5 b6 b7 i10 i11 i12 i13 i14 i15 i16 i17 i18 l11 l12) (sM := y8 i0 i1 l0 i2 i4 l1 l2 b0 b1 b2 i5 l3 i6 l4 l5 b3 b4 i7 i8 i9 l7 l8 b5 b6 b7 i10 i11 i12 i13 i14 i15 i16 i17 i18 l11 l12) (K := K) (aaL i0 i1 l0 i2 i4 l1 l2 b0 b1 b2 i5 l3 i6 l4 l5 b3 b4 i7 i8 i9 l7 l8 b5 b6 b7 i10 i11 i12 i13 i14 i15 i16 i17 i18 l11 l12 K) (fun s kk => WY F K kk i0 i1 l0 i2 i4 l1 l2 b0 b1 b2 i5 l3 i6 l4 l5 b3 b4 i7 i8 i9 l7 l8 b5 b6 b7 i10 i11 i12 i13 i14 i15 i16 i17 i18 l11 l12 s) fuel s
theorem Zo (fr : Fr) (M : Mm) : G6.fr fr = wX (intOf (tA fr 1)) (intOf (tA fr 8)) (ak (tA fr 48)) (intOf (tA fr 49)) (intOf (pA (vR M 0) 0)) (partsOf (pA (vR M 0) 1)) (partsOf (pA (vR M 0) 2)) (aj (pA (vR M 0) 3)) (aj (pA (vR M 0) 4)) (aj (pA (vR M 0) 5)) (intOf (pA (vR M 0) 6)) (ak (pA (vR M 1) 0)) (intOf (pA (pA (vR M 3) 0) 0)) (partsOf (pA (pA (vR M 3) 0) 1)) (partsOf (pA (pA (vR M 3) 0) 2)) (aj (pA (pA (vR M 3) 0) 3)) (aj (pA (pA (vR M 3) 0) 5)) (intOf (pA (pA (vR M 3) 0) 6)) (intOf (pA (vR M 3) 2)) (intOf (pA (pA (pA (vR M 3) 3) 2) 0)) (partsOf (pA (pA (pA (vR M 3) 3) 2) 1)) (partsOf (pA (pA (pA (vR M 3) 3) 2) 2)) (aj (pA (pA (pA (vR M 3) 3) 2) 3)) (aj (pA (pA (pA (vR M 3) 3) 2) 4)) (aj (pA (pA (pA (vR M 3) 3) 2) 5)) (intOf (pA (pA (pA (vR M 3) 3) 2) 6)) (intOf (pA (pA (vR M 3) 3) 3)) (intOf (pA (pA (vR M 3) 4) 0)) (intOf (pA (pA (vR M 3) 4) 1)) (intOf (pA (pA (vR M 3) 4) 2)) (intOf (pA (pA (vR M 3) 4) 3)) (intOf (pA (pA (vR M 3) 4) 4)) (intOf (pA (vR M 5) 0)) (intOf (pA (vR M 5) 1)) (ak (pA (vR M 5) 2)) (ak (pA (vR M 5) 3)) ((intOf (tA fr 50)), (ak (pA (pA (vR M 3) 1) 0)), (ak (pA (pA (vR M 3) 3) 4)), (ak (pA (pA (vR M 3) 3) 5))) := by kernel_rfl
theorem Pp (fr : Fr) (M : Mm) : G6.mm M = y8 (intOf (tA fr 1)) (intOf (tA fr 8)) (ak (tA fr 48)) (intOf (tA fr 49)) (intOf (pA (vR M 0) 0)) (partsOf (pA (vR M 0) 1)) (partsOf (pA (vR M 0) 2)) (aj (pA (vR M 0) 3)) (aj (pA (vR M 0) 4)) (aj (pA (vR M 0) 5)) (intOf (pA (vR M 0) 6)) (ak (pA (vR M 1) 0)) (intOf (pA (pA (vR M 3) 0) 0)) (partsOf (pA (pA (vR M 3) 0) 1)) (partsOf (pA (pA (vR M 3) 0) 2)) (aj (pA (pA (vR M 3) 0) 3)) (aj (pA (pA (vR M 3) 0) 5)) (intOf (pA (pA (vR M 3) 0) 6)) (intOf (pA (vR M 3) 2)) (intOf (pA (pA (pA (vR M 3) 3) 2) 0)) (partsOf (pA (pA (pA (vR M 3) 3) 2) 1)) (partsOf (pA (pA (pA (vR M 3) 3) 2) 2)) (aj (pA (pA (pA (vR M 3) 3) 2) 3)) (aj (pA (pA (pA (vR M 3) 3) 2) 4)) (aj (pA (pA (pA (vR M 3) 3) 2) 5)) (intOf (pA (pA (pA (vR M 3) 3) 2) 6)) (intOf (pA (pA (vR M 3) 3) 3)) (intOf (pA (pA (vR M 3) 4) 0)) (intOf (pA (pA (vR M 3) 4) 1)) (intOf (pA (pA (vR M 3) 4) 2)) (intOf (pA (pA (vR M 3) 4) 3)) (intOf (pA (pA (vR M 3) 4) 4)) (intOf (pA (vR M 5) 0)) (intOf (pA (vR M 5) 1)) (ak (pA (vR M 5) 2)) (ak (pA (vR M 5) 3)) ((intOf (tA fr 50)), (ak (pA (pA (vR M 3) 1) 0)), (ak (pA (pA (vR M 3) 3) 4)), (ak (pA (pA (vR M 3) 3) 5))) := by kernel_rfl
theorem Xv (F : Tab) {dep : Nat} {fr : Fr} {M : Mm} {t : LT} (ht : Ey F dep fr M = some t) {R : Type} (K : AX -> Fr -> Mm -> Option R) (r : R) (hgo : t.go K = some r) :
    iter 100000 (fun fr' M' k => aI (cx F) 156 (aF (cx F) dep) dep qZ fr' M' (aN Pg [] M.rows.length (some ([0, 1, 7, 8, 48, 49, 50], [0, 1, 7, 8])) K k)) fr M = some r := by
 unfold Ey at ht
 split at ht
 . rename_i hok
   simp only [Bool.and_eq_true, Nat.beq_eq] at hok
   obtain ⟨rfl, hok⟩ := hok
   obtain ⟨h1, h2⟩ := StP.ok_eq hok
   obtain rfl := Option.some.inj ht
   exact ji (X := fun fr M => iter 100000 (fun fr' M' k => aI (cx F) 156 (aF (cx F) 2) 2 qZ fr' M' (aN Pg [] M.rows.length (some ([0, 1, 7, 8, 48, 49, 50], [0, 1, 7, 8])) K k)) fr M) (h1.trans (Zo fr M)) (h2.trans (Pp fr M)) (YV F K _ _ _ _ _ _ _ _ _ _ _ _ _ _ _ _ _ _ _ _ _ _ _ _ _ _ _ _ _ _ _ _ _ _ _ _ 100000 _) hgo
 . exact absurd ht (by simp)
theorem Zh : (Try.f156.body.bind fun c => cK c 8) = some qZ := by kernel_rfl
theorem U7 {R : Type} (l0 : List AV) (i1 i2 i3 : Int) (l1 : List AV) (n0 n1 : Nat) (K : AX -> Fr -> Mm -> Option R) : (uY l0 i1 i2 i3 l1 n0 n1 LO.bad).go K = none := by kernel_rfl
noncomputable def qH : Code := ((Try.f57.body.bind fun c => cK c 6).getD .skip)
theorem Yp (F : Tab) {R : Type} (call : bL R) (dep : Nat) (K : AX -> Fr -> Mm -> Option R) (kk : Fr -> Mm -> Option R) (l0 : List AV) (i1 i2 i3 : Int) (l1 : List AV) (n0 n1 : Nat) (s : Int × List AV) :
    aI (cx F) 57 call dep qH (xP l0 i1 i2 i3 l1 n0 n1 s) (xB l0 i1 i2 i3 l1 n0 n1 s) (aN Pg [] 7 (some ([3, 4, 6, 7], [4, 6])) K kk) =
    (lS F l0 i1 i2 i3 l1 n0 n1 s).go (uY l0 i1 i2 i3 l1 n0 n1) K (fun s => kk (xP l0 i1 i2 i3 l1 n0 n1 s) (xB l0 i1 i2 i3 l1 n0 n1 s)) := by kernel_rfl
theorem aai (F : Tab) {R : Type} (call : bL R) (dep : Nat) (K : AX -> Fr -> Mm -> Option R) (l0 : List AV) (i1 i2 i3 : Int) (l1 : List AV) (n0 n1 : Nat) (fuel : Nat) (s : Int × List AV) :
    iter fuel (fun fr M' k => aI (cx F) 57 call dep qH fr M' (aN Pg [] 7 (some ([3, 4, 6, 7], [4, 6])) K k)) (xP l0 i1 i2 i3 l1 n0 n1 s) (xB l0 i1 i2 i3 l1 n0 n1 s) = (uY l0 i1 i2 i3 l1 n0 n1 (Tr.run (lS F l0 i1 i2 i3 l1 n0 n1) fuel s)).go K :=
 iN (B := fun fr M' k => aI (cx F) 57 call dep qH fr M' (aN Pg [] 7 (some ([3, 4, 6, 7], [4, 6])) K k)) (step := lS F l0 i1 i2 i3 l1 n0 n1) (lt := uY l0 i1 i2 i3 l1 n0 n1) (sF := xP l0 i1 i2 i3 l1 n0 n1) (sM := xB l0 i1 i2 i3 l1 n0 n1) (K := K) (U7 l0 i1 i2 i3 l1 n0 n1 K) (fun s kk => Yp F call dep K kk l0 i1 i2 i3 l1 n0 n1 s) fuel s
theorem Rh (fr : Fr) (M : Mm) : Co.fr fr = xP (ak (pA (vR M 0) 0)) (intOf (pA (vR M 1) 0)) (intOf (pA (vR M 1) 1)) (intOf (pA (vR M 1) 2)) (ak (pA (vR M 3) 0)) (dS (pA (vR M 4) 0)) (dS (pA (vR M 6) 0)) ((intOf (tA fr 7)), (iL (oR M 5))) := by kernel_rfl
theorem Rj (fr : Fr) (M : Mm) : Co.mm M = xB (ak (pA (vR M 0) 0)) (intOf (pA (vR M 1) 0)) (intOf (pA (vR M 1) 1)) (intOf (pA (vR M 1) 2)) (ak (pA (vR M 3) 0)) (dS (pA (vR M 4) 0)) (dS (pA (vR M 6) 0)) ((intOf (tA fr 7)), (iL (oR M 5))) := by kernel_rfl
theorem SI (F : Tab) {dep : Nat} {fr : Fr} {M : Mm} {t : LT} (ht : Dy F dep fr M = some t) {R : Type} (K : AX -> Fr -> Mm -> Option R) (r : R) (hgo : t.go K = some r) :
    iter 100000 (fun fr' M' k => aI (cx F) 57 (aF (cx F) dep) dep qH fr' M' (aN Pg [] M.rows.length (some ([3, 4, 6, 7], [4, 6])) K k)) fr M = some r := by
 unfold Dy at ht
 split at ht
 . rename_i hok
   obtain ⟨h1, h2⟩ := StP.ok_eq hok
   obtain rfl := Option.some.inj ht
   exact ji (X := fun fr M => iter 100000 (fun fr' M' k => aI (cx F) 57 (aF (cx F) dep) dep qH fr' M' (aN Pg [] M.rows.length (some ([3, 4, 6, 7], [4, 6])) K k)) fr M) (h1.trans (Rh fr M)) (h2.trans (Rj fr M)) (aai F _ _ K _ _ _ _ _ _ _ 100000 _) hgo
 . exact absurd ht (by simp)
theorem Vn : (Try.f57.body.bind fun c => cK c 6) = some qH := by kernel_rfl
theorem Ub {R : Type} (l0 l1 : List AV) (K : AX -> Fr -> Mm -> Option R) : (y5 l0 l1 LO.bad).go K = none := by kernel_rfl
noncomputable def qb : Code := ((Try.f75.body.bind fun c => cK c 4).getD .skip)
theorem QC (F : Tab) {R : Type} (call : bL R) (dep : Nat) (K : AX -> Fr -> Mm -> Option R) (kk : Fr -> Mm -> Option R) (l0 l1 : List AV) (s : Int) :
    aI (cx F) 75 call dep qb (yA l0 l1 s) (xk l0 l1 s) (aN Pg [] 0 (some ([0, 1, 5], [4])) K kk) =
    (Bc F l0 l1 s).go (y5 l0 l1) K (fun s => kk (yA l0 l1 s) (xk l0 l1 s)) := by kernel_rfl
theorem aaf (F : Tab) {R : Type} (call : bL R) (dep : Nat) (K : AX -> Fr -> Mm -> Option R) (l0 l1 : List AV) (fuel : Nat) (s : Int) :
    iter fuel (fun fr M' k => aI (cx F) 75 call dep qb fr M' (aN Pg [] 0 (some ([0, 1, 5], [4])) K k)) (yA l0 l1 s) (xk l0 l1 s) = (y5 l0 l1 (Tr.run (Bc F l0 l1) fuel s)).go K :=
 iN (B := fun fr M' k => aI (cx F) 75 call dep qb fr M' (aN Pg [] 0 (some ([0, 1, 5], [4])) K k)) (step := Bc F l0 l1) (lt := y5 l0 l1) (sF := yA l0 l1) (sM := xk l0 l1) (K := K) (Ub l0 l1 K) (fun s kk => QC F call dep K kk l0 l1 s) fuel s
theorem O1 (fr : Fr) (M : Mm) : Iw.fr fr = yA (ak (tA fr 0)) (ak (tA fr 1)) ((intOf (tA fr 5))) := by kernel_rfl
theorem Xe (fr : Fr) (M : Mm) : Iw.mm M = xk (ak (tA fr 0)) (ak (tA fr 1)) ((intOf (tA fr 5))) := by kernel_rfl
theorem Yl (F : Tab) {dep : Nat} {fr : Fr} {M : Mm} {t : LT} (ht : Hg F dep fr M = some t) {R : Type} (K : AX -> Fr -> Mm -> Option R) (r : R) (hgo : t.go K = some r) :
    iter 100000 (fun fr' M' k => aI (cx F) 75 (aF (cx F) dep) dep qb fr' M' (aN Pg [] M.rows.length (some ([0, 1, 5], [4])) K k)) fr M = some r := by
 unfold Hg at ht
 split at ht
 . rename_i hok
   obtain ⟨h1, h2⟩ := StP.ok_eq hok
   obtain rfl := Option.some.inj ht
   exact ji (X := fun fr M => iter 100000 (fun fr' M' k => aI (cx F) 75 (aF (cx F) dep) dep qb fr' M' (aN Pg [] M.rows.length (some ([0, 1, 5], [4])) K k)) fr M) (h1.trans (O1 fr M)) (h2.trans (Xe fr M)) (aaf F _ _ K _ _ 100000 _) hgo
 . exact absurd ht (by simp)
theorem Yo : (Try.f75.body.bind fun c => cK c 4) = some qb := by kernel_rfl
theorem Yu {R : Type} (i0 : Int) (l0 : List AV) (K : AX -> Fr -> Mm -> Option R) : (yg i0 l0 LO.bad).go K = none := by kernel_rfl
noncomputable def q9 : Code := ((Try.f123.body.bind fun c => cK c 6).getD .skip)
theorem QT (F : Tab) {R : Type} (call : bL R) (dep : Nat) (K : AX -> Fr -> Mm -> Option R) (kk : Fr -> Mm -> Option R) (i0 : Int) (l0 : List AV) (s : Int × Int) :
    aI (cx F) 123 call dep q9 (vO i0 l0 s) (xK i0 l0 s) (aN Pg [] 2 (some ([1, 3, 6, 8, 9], [6, 8])) K kk) =
    (kV F i0 l0 s).go (yg i0 l0) K (fun s => kk (vO i0 l0 s) (xK i0 l0 s)) := by kernel_rfl
theorem T9 (F : Tab) {R : Type} (call : bL R) (dep : Nat) (K : AX -> Fr -> Mm -> Option R) (i0 : Int) (l0 : List AV) (fuel : Nat) (s : Int × Int) :
    iter fuel (fun fr M' k => aI (cx F) 123 call dep q9 fr M' (aN Pg [] 2 (some ([1, 3, 6, 8, 9], [6, 8])) K k)) (vO i0 l0 s) (xK i0 l0 s) = (yg i0 l0 (Tr.run (kV F i0 l0) fuel s)).go K :=
 iN (B := fun fr M' k => aI (cx F) 123 call dep q9 fr M' (aN Pg [] 2 (some ([1, 3, 6, 8, 9], [6, 8])) K k)) (step := kV F i0 l0) (lt := yg i0 l0) (sF := vO i0 l0) (sM := xK i0 l0) (K := K) (Yu i0 l0 K) (fun s kk => QT F call dep K kk i0 l0 s) fuel s
theorem Z7 (fr : Fr) (M : Mm) : HZ.fr fr = vO (intOf (tA fr 1)) (ak (pA (vR M 0) 0)) ((intOf (tA fr 8)), (intOf (tA fr 9))) := by kernel_rfl
theorem XG (fr : Fr) (M : Mm) : HZ.mm M = xK (intOf (tA fr 1)) (ak (pA (vR M 0) 0)) ((intOf (tA fr 8)), (intOf (tA fr 9))) := by kernel_rfl
theorem VK (F : Tab) {dep : Nat} {fr : Fr} {M : Mm} {t : LT} (ht : Ei F dep fr M = some t) {R : Type} (K : AX -> Fr -> Mm -> Option R) (r : R) (hgo : t.go K = some r) :
    iter 100000 (fun fr' M' k => aI (cx F) 123 (aF (cx F) dep) dep q9 fr' M' (aN Pg [] M.rows.length (some ([1, 3, 6, 8, 9], [6, 8])) K k)) fr M = some r := by
 unfold Ei at ht
 split at ht
 . rename_i hok
   obtain ⟨h1, h2⟩ := StP.ok_eq hok
   obtain rfl := Option.some.inj ht
   exact ji (X := fun fr M => iter 100000 (fun fr' M' k => aI (cx F) 123 (aF (cx F) dep) dep q9 fr' M' (aN Pg [] M.rows.length (some ([1, 3, 6, 8, 9], [6, 8])) K k)) fr M) (h1.trans (Z7 fr M)) (h2.trans (XG fr M)) (T9 F _ _ K _ _ 100000 _) hgo
 . exact absurd ht (by simp)
theorem XI : (Try.f123.body.bind fun c => cK c 6) = some q9 := by kernel_rfl
theorem WU {R : Type} (i0 i2 : Int) (l0 l1 : List AV) (b0 b1 b2 : Bool) (i3 : Int) (K : AX -> Fr -> Mm -> Option R) : (vK i0 i2 l0 l1 b0 b1 b2 i3 LO.bad).go K = none := by kernel_rfl
noncomputable def oK : Code := ((Try.f129.body.bind fun c => cK c 4).getD .skip)
theorem Tk (F : Tab) {R : Type} (call : bL R) (dep : Nat) (K : AX -> Fr -> Mm -> Option R) (kk : Fr -> Mm -> Option R) (i0 i2 : Int) (l0 l1 : List AV) (b0 b1 b2 : Bool) (i3 : Int) (s : Int) :
    aI (cx F) 129 call dep oK (uX i0 i2 l0 l1 b0 b1 b2 i3 s) (wJ i0 i2 l0 l1 b0 b1 b2 i3 s) (aN Pg [] 1 (some ([1, 12], [4, 5])) K kk) =
    (tq F i0 i2 l0 l1 b0 b1 b2 i3 s).go (vK i0 i2 l0 l1 b0 b1 b2 i3) K (fun s => kk (uX i0 i2 l0 l1 b0 b1 b2 i3 s) (wJ i0 i2 l0 l1 b0 b1 b2 i3 s)) := by kernel_rfl
theorem Yy (F : Tab) {R : Type} (call : bL R) (dep : Nat) (K : AX -> Fr -> Mm -> Option R) (i0 i2 : Int) (l0 l1 : List AV) (b0 b1 b2 : Bool) (i3 : Int) (fuel : Nat) (s : Int) :
    iter fuel (fun fr M' k => aI (cx F) 129 call dep oK fr M' (aN Pg [] 1 (some ([1, 12], [4, 5])) K k)) (uX i0 i2 l0 l1 b0 b1 b2 i3 s) (wJ i0 i2 l0 l1 b0 b1 b2 i3 s) = (vK i0 i2 l0 l1 b0 b1 b2 i3 (Tr.run (tq F i0 i2 l0 l1 b0 b1 b2 i3) fuel s)).go K :=
 iN (B := fun fr M' k => aI (cx F) 129 call dep oK fr M' (aN Pg [] 1 (some ([1, 12], [4, 5])) K k)) (step := tq F i0 i2 l0 l1 b0 b1 b2 i3) (lt := vK i0 i2 l0 l1 b0 b1 b2 i3) (sF := uX i0 i2 l0 l1 b0 b1 b2 i3) (sM := wJ i0 i2 l0 l1 b0 b1 b2 i3) (K := K) (WU i0 i2 l0 l1 b0 b1 b2 i3 K) (fun s kk => Tk F call dep K kk i0 i2 l0 l1 b0 b1 b2 i3 s) fuel s
theorem WR (fr : Fr) (M : Mm) : ED.fr fr = uX (intOf (tA fr 1)) (intOf (pA (vR M 0) 0)) (partsOf (pA (vR M 0) 1)) (partsOf (pA (vR M 0) 2)) (aj (pA (vR M 0) 3)) (aj (pA (vR M 0) 4)) (aj (pA (vR M 0) 5)) (intOf (pA (vR M 0) 6)) ((intOf (tA fr 12))) := by kernel_rfl
theorem SE (fr : Fr) (M : Mm) : ED.mm M = wJ (intOf (tA fr 1)) (intOf (pA (vR M 0) 0)) (partsOf (pA (vR M 0) 1)) (partsOf (pA (vR M 0) 2)) (aj (pA (vR M 0) 3)) (aj (pA (vR M 0) 4)) (aj (pA (vR M 0) 5)) (intOf (pA (vR M 0) 6)) ((intOf (tA fr 12))) := by kernel_rfl
theorem Pe (F : Tab) {dep : Nat} {fr : Fr} {M : Mm} {t : LT} (ht : Fe F dep fr M = some t) {R : Type} (K : AX -> Fr -> Mm -> Option R) (r : R) (hgo : t.go K = some r) :
    iter 100000 (fun fr' M' k => aI (cx F) 129 (aF (cx F) dep) dep oK fr' M' (aN Pg [] M.rows.length (some ([1, 12], [4, 5])) K k)) fr M = some r := by
 unfold Fe at ht
 split at ht
 . rename_i hok
   obtain ⟨h1, h2⟩ := StP.ok_eq hok
   obtain rfl := Option.some.inj ht
   exact ji (X := fun fr M => iter 100000 (fun fr' M' k => aI (cx F) 129 (aF (cx F) dep) dep oK fr' M' (aN Pg [] M.rows.length (some ([1, 12], [4, 5])) K k)) fr M) (h1.trans (WR fr M)) (h2.trans (SE fr M)) (Yy F _ _ K _ _ _ _ _ _ _ _ 100000 _) hgo
 . exact absurd ht (by simp)
theorem RH : (Try.f129.body.bind fun c => cK c 4) = some oK := by kernel_rfl
theorem Xd {R : Type} (i0 i1 : Int) (l0 l1 : List AV) (b0 b1 b2 : Bool) (i2 : Int) (l2 : List AV) (i3 : Int) (l3 l4 : List AV) (b3 b4 : Bool) (i4 : Int) (l5 : List AV) (i5 i6 : Int) (l6 l7 : List AV) (b5 b6 b7 : Bool) (i7 : Int) (K : AX -> Fr -> Mm -> Option R) : (CW i0 i1 l0 l1 b0 b1 b2 i2 l2 i3 l3 l4 b3 b4 i4 l5 i5 i6 l6 l7 b5 b6 b7 i7 LO.bad).go K = none := by kernel_rfl
theorem aav (F : Tab) {R : Type} (K : Res -> Mm -> Option R) (i0 i1 : Int) (l0 l1 : List AV) (b0 b1 b2 : Bool) (i2 : Int) (l2 : List AV) (i3 : Int) (l3 l4 : List AV) (b3 b4 : Bool) (i4 : Int) (l5 : List AV) (i5 i6 : Int) (l6 l7 : List AV) (b5 b6 b7 : Bool) (i7 : Int) :
    aW (cx F) (aF (cx F) 2) 2 156 (MH i0 i1 l0 l1 b0 b1 b2 i2 l2 i3 l3 l4 b3 b4 i4 l5 i5 i6 l6 l7 b5 b6 b7 i7) (Nc i0 i1 l0 l1 b0 b1 b2 i2 l2 i3 l3 l4 b3 b4 i4 l5 i5 i6 l6 l7 b5 b6 b7 i7) K = (GQ F i0 i1 l0 l1 b0 b1 b2 i2 l2 i3 l3 l4 b3 b4 i4 l5 i5 i6 l6 l7 b5 b6 b7 i7).go (CW i0 i1 l0 l1 b0 b1 b2 i2 l2 i3 l3 l4 b3 b4 i4 l5 i5 i6 l6 l7 b5 b6 b7 i7) (bJ K) (fun _ => none) := by kernel_rfl
theorem Va (args : List AV) (M : Mm) : CZ.args args = MH (intOf (args.getD 1 .dead)) (intOf (pA (vR M 0) 0)) (partsOf (pA (vR M 0) 1)) (partsOf (pA (vR M 0) 2)) (aj (pA (vR M 0) 3)) (aj (pA (vR M 0) 4)) (aj (pA (vR M 0) 5)) (intOf (pA (vR M 0) 6)) (ak (pA (vR M 1) 0)) (intOf (pA (pA (vR M 3) 0) 0)) (partsOf (pA (pA (vR M 3) 0) 1)) (partsOf (pA (pA (vR M 3) 0) 2)) (aj (pA (pA (vR M 3) 0) 3)) (aj (pA (pA (vR M 3) 0) 5)) (intOf (pA (pA (vR M 3) 0) 6)) (ak (pA (pA (vR M 3) 1) 0)) (intOf (pA (vR M 3) 2)) (intOf (pA (pA (pA (vR M 3) 3) 2) 0)) (partsOf (pA (pA (pA (vR M 3) 3) 2) 1)) (partsOf (pA (pA (pA (vR M 3) 3) 2) 2)) (aj (pA (pA (pA (vR M 3) 3) 2) 3)) (aj (pA (pA (pA (vR M 3) 3) 2) 4)) (aj (pA (pA (pA (vR M 3) 3) 2) 5)) (intOf (pA (pA (pA (vR M 3) 3) 2) 6)) := by kernel_rfl
theorem Yb (args : List AV) (M : Mm) : CZ.mm M = Nc (intOf (args.getD 1 .dead)) (intOf (pA (vR M 0) 0)) (partsOf (pA (vR M 0) 1)) (partsOf (pA (vR M 0) 2)) (aj (pA (vR M 0) 3)) (aj (pA (vR M 0) 4)) (aj (pA (vR M 0) 5)) (intOf (pA (vR M 0) 6)) (ak (pA (vR M 1) 0)) (intOf (pA (pA (vR M 3) 0) 0)) (partsOf (pA (pA (vR M 3) 0) 1)) (partsOf (pA (pA (vR M 3) 0) 2)) (aj (pA (pA (vR M 3) 0) 3)) (aj (pA (pA (vR M 3) 0) 5)) (intOf (pA (pA (vR M 3) 0) 6)) (ak (pA (pA (vR M 3) 1) 0)) (intOf (pA (vR M 3) 2)) (intOf (pA (pA (pA (vR M 3) 3) 2) 0)) (partsOf (pA (pA (pA (vR M 3) 3) 2) 1)) (partsOf (pA (pA (pA (vR M 3) 3) 2) 2)) (aj (pA (pA (pA (vR M 3) 3) 2) 3)) (aj (pA (pA (pA (vR M 3) 3) 2) 4)) (aj (pA (pA (pA (vR M 3) 3) 2) 5)) (intOf (pA (pA (pA (vR M 3) 3) 2) 6)) := by kernel_rfl
theorem SN (F : Tab) {dep : Nat} {args : List AV} {M : Mm} {t : LT} (ht : Db F dep args M = some t) {R : Type} (K : Res -> Mm -> Option R) (r : R) (hgo : t.go (bJ K) = some r) :
    aW (cx F) (aF (cx F) dep) dep 156 args M K = some r := by
 unfold Db at ht
 split at ht
 . rename_i hok
   simp only [Bool.and_eq_true, Nat.beq_eq] at hok
   obtain ⟨rfl, hok⟩ := hok
   obtain ⟨h1, h2⟩ := ArP.ok_eq hok
   obtain rfl := Option.some.inj ht
   exact iq (X := fun args M => aW (cx F) (aF (cx F) 2) 2 156 args M K) (h1.trans (Va args M)) (h2.trans (Yb args M)) (gW (Xd _ _ _ _ _ _ _ _ _ _ _ _ _ _ _ _ _ _ _ _ _ _ _ _ _) (aav F K _ _ _ _ _ _ _ _ _ _ _ _ _ _ _ _ _ _ _ _ _ _ _ _)) hgo
 . exact absurd ht (by simp)
end
end Go.Proofs.Ytcknhfnbdgleiaa
