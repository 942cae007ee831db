/- The loops come to what their functions say. (Printed by a program of mine, gen.py.) -/
import Derived.Test.YtcknhfnbdgleiaaCoC
set_option linter.unusedVariables false
set_option linter.unusedSimpArgs false
namespace Go.Proofs.Ytcknhfnbdgleiaa
open Go.AE
noncomputable section
theorem uq {R : Type} (l1 : List AV) (n0 : Nat) (i1 i2 i3 : Int) (n1 : Nat) (i4 i5 i6 : Int) (n2 : Nat) (K : AX → Fr → Mm → Option R) : (cB l1 n0 i1 i2 i3 n1 i4 i5 i6 n2 LO.bad).go K = none := by kernel_rfl
noncomputable def aR : Code := ((Try.f121.body.bind fun c => ku c 1).getD .skip)
set_option maxRecDepth 100000 in
theorem vU (F : Tab) {R : Type} (call : lX R) (dep : Nat) (K : AX → Fr → Mm → Option R) (kk : Fr → Mm → Option R) (l1 : List AV) (n0 : Nat) (i1 i2 i3 : Int) (n1 : Nat) (i4 i5 i6 : Int) (n2 : Nat) (s : Int × List AV × List AV) :
    evC (cx F) 121 call dep aR (cO l1 n0 i1 i2 i3 n1 i4 i5 i6 n2 s) (dh l1 n0 i1 i2 i3 n1 i4 i5 i6 n2 s) (aS Pg [] 8 (some ([1, 2, 3], [])) K kk) =
    (bM F l1 n0 i1 i2 i3 n1 i4 i5 i6 n2 s).go (cB l1 n0 i1 i2 i3 n1 i4 i5 i6 n2) K (fun s => kk (cO l1 n0 i1 i2 i3 n1 i4 i5 i6 n2 s) (dh l1 n0 i1 i2 i3 n1 i4 i5 i6 n2 s)) := by kernel_rfl
set_option maxRecDepth 100000 in
theorem vI (F : Tab) {R : Type} (call : lX R) (dep : Nat) (K : AX → Fr → Mm → Option R) (l1 : List AV) (n0 : Nat) (i1 i2 i3 : Int) (n1 : Nat) (i4 i5 i6 : Int) (n2 : Nat) (fuel : Nat) (s : Int × List AV × List AV) :
    iter fuel (fun fr M' k => evC (cx F) 121 call dep aR fr M' (aS Pg [] 8 (some ([1, 2, 3], [])) K k)) (cO l1 n0 i1 i2 i3 n1 i4 i5 i6 n2 s) (dh l1 n0 i1 i2 i3 n1 i4 i5 i6 n2 s) = (cB l1 n0 i1 i2 i3 n1 i4 i5 i6 n2 (Tr.run (bM F l1 n0 i1 i2 i3 n1 i4 i5 i6 n2) fuel s)).go K :=
 qg (B := fun fr M' k => evC (cx F) 121 call dep aR fr M' (aS Pg [] 8 (some ([1, 2, 3], [])) K k)) (step := bM F l1 n0 i1 i2 i3 n1 i4 i5 i6 n2) (lt := cB l1 n0 i1 i2 i3 n1 i4 i5 i6 n2) (sF := cO l1 n0 i1 i2 i3 n1 i4 i5 i6 n2) (sM := dh l1 n0 i1 i2 i3 n1 i4 i5 i6 n2) (K := K) (uq l1 n0 i1 i2 i3 n1 i4 i5 i6 n2 K) (fun s kk => vU F call dep K kk l1 n0 i1 i2 i3 n1 i4 i5 i6 n2 s) fuel s
set_option maxRecDepth 100000 in
theorem uM (fr : Fr) (M : Mm) : jE.fr fr = cO (ak (pA (vR M 0) 0)) (jG (pA (vR M 3) 0)) (intOf (pA (vR M 4) 0)) (intOf (pA (vR M 4) 1)) (intOf (pA (vR M 4) 2)) (jG (pA (vR M 5) 0)) (intOf (pA (vR M 6) 0)) (intOf (pA (vR M 6) 1)) (intOf (pA (vR M 6) 2)) (jG (pA (vR M 7) 0)) ((intOf (tA fr 1)), (ak (tA fr 2)), (xU (oR M 2))) := by kernel_rfl
set_option maxRecDepth 100000 in
theorem uP (fr : Fr) (M : Mm) : jE.mm M = dh (ak (pA (vR M 0) 0)) (jG (pA (vR M 3) 0)) (intOf (pA (vR M 4) 0)) (intOf (pA (vR M 4) 1)) (intOf (pA (vR M 4) 2)) (jG (pA (vR M 5) 0)) (intOf (pA (vR M 6) 0)) (intOf (pA (vR M 6) 1)) (intOf (pA (vR M 6) 2)) (jG (pA (vR M 7) 0)) ((intOf (tA fr 1)), (ak (tA fr 2)), (xU (oR M 2))) := by kernel_rfl
set_option maxRecDepth 100000 in
theorem vg (F : Tab) {dep : Nat} {fr : Fr} {M : Mm} {t : LT} (ht : jK F dep fr M = some t) {R : Type} (K : AX → Fr → Mm → Option R) (r : R) (hgo : t.go K = some r) :
    iter 100000 (fun fr' M' k => evC (cx F) 121 (evF (cx F) dep) dep aR fr' M' (aS Pg [] M.rows.length (some ([1, 2, 3], [])) K k)) fr M = some r := by
 unfold jK at ht
 split at ht
 · rename_i hok
   obtain ⟨h1, h2⟩ := StP.ok_eq hok
   obtain rfl := Option.some.inj ht
   exact EN (X := fun fr M => iter 100000 (fun fr' M' k => evC (cx F) 121 (evF (cx F) dep) dep aR fr' M' (aS Pg [] M.rows.length (some ([1, 2, 3], [])) K k)) fr M) (h1.trans (uM fr M)) (h2.trans (uP fr M)) (vI F _ _ K _ _ _ _ _ _ _ _ _ _ 100000 _) hgo
 · exact absurd ht (by simp)
set_option maxRecDepth 100000 in
theorem vv : (Try.f121.body.bind fun c => ku c 1) = some aR := by kernel_rfl
theorem zm {R : Type} (n0 : Nat) (l0 : List AV) (i0 : Int) (l1 : List AV) (n1 : Nat) (K : AX → Fr → Mm → Option R) : (fG n0 l0 i0 l1 n1 LO.bad).go K = none := by kernel_rfl
noncomputable def bA : Code := ((Try.f24.body.bind fun c => ku c 4).getD .skip)
set_option maxRecDepth 100000 in
theorem zN (F : Tab) {R : Type} (K : AX → Fr → Mm → Option R) (kk : Fr → Mm → Option R) (n0 : Nat) (l0 : List AV) (i0 : Int) (l1 : List AV) (n1 : Nat) (s : Int × List AV) :
    evC (cx F) 24 (evF (cx F) 5) 5 bA (fM n0 l0 i0 l1 n1 s) (gH n0 l0 i0 l1 n1 s) (aS Pg [] 4 (some ([2, 4, 6, 7, 16, 17, 18], [4, 5, 6])) K kk) =
    (bJ F n0 l0 i0 l1 n1 s).go (fG n0 l0 i0 l1 n1) K (fun s => kk (fM n0 l0 i0 l1 n1 s) (gH n0 l0 i0 l1 n1 s)) := by kernel_rfl
set_option maxRecDepth 100000 in
theorem zK (F : Tab) {R : Type} (K : AX → Fr → Mm → Option R) (n0 : Nat) (l0 : List AV) (i0 : Int) (l1 : List AV) (n1 : Nat) (fuel : Nat) (s : Int × List AV) :
    iter fuel (fun fr M' k => evC (cx F) 24 (evF (cx F) 5) 5 bA fr M' (aS Pg [] 4 (some ([2, 4, 6, 7, 16, 17, 18], [4, 5, 6])) K k)) (fM n0 l0 i0 l1 n1 s) (gH n0 l0 i0 l1 n1 s) = (fG n0 l0 i0 l1 n1 (Tr.run (bJ F n0 l0 i0 l1 n1) fuel s)).go K :=
 qg (B := fun fr M' k => evC (cx F) 24 (evF (cx F) 5) 5 bA fr M' (aS Pg [] 4 (some ([2, 4, 6, 7, 16, 17, 18], [4, 5, 6])) K k)) (step := bJ F n0 l0 i0 l1 n1) (lt := fG n0 l0 i0 l1 n1) (sF := fM n0 l0 i0 l1 n1) (sM := gH n0 l0 i0 l1 n1) (K := K) (zm n0 l0 i0 l1 n1 K) (fun s kk => zN F K kk n0 l0 i0 l1 n1 s) fuel s
set_option maxRecDepth 100000 in
theorem zQ (fr : Fr) (M : Mm) : mM.fr fr = fM (jG (pA ((BD (tA fr 7)).getD 0 .dead) 0)) (ak (tA fr 16)) (intOf (tA fr 17)) (ak (pA (vR M 0) 0)) (jG (pA (vR M 3) 0)) ((intOf (tA fr 18)), (xU (oR M 2))) := by kernel_rfl
set_option maxRecDepth 100000 in
theorem zO (fr : Fr) (M : Mm) : mM.mm M = gH (jG (pA ((BD (tA fr 7)).getD 0 .dead) 0)) (ak (tA fr 16)) (intOf (tA fr 17)) (ak (pA (vR M 0) 0)) (jG (pA (vR M 3) 0)) ((intOf (tA fr 18)), (xU (oR M 2))) := by kernel_rfl
set_option maxRecDepth 100000 in
theorem Aa (F : Tab) {dep : Nat} {fr : Fr} {M : Mm} {t : LT} (ht : mJ F dep fr M = some t) {R : Type} (K : AX → Fr → Mm → Option R) (r : R) (hgo : t.go K = some r) :
    iter 100000 (fun fr' M' k => evC (cx F) 24 (evF (cx F) dep) dep bA fr' M' (aS Pg [] M.rows.length (some ([2, 4, 6, 7, 16, 17, 18], [4, 5, 6])) K k)) fr M = some r := by
 unfold mJ at ht
 split at ht
 · rename_i hok
   simp only [Bool.and_eq_true, Nat.beq_eq] at hok
   obtain ⟨rfl, hok⟩ := hok
   obtain ⟨h1, h2⟩ := StP.ok_eq hok
   obtain rfl := Option.some.inj ht
   exact EN (X := fun fr M => iter 100000 (fun fr' M' k => evC (cx F) 24 (evF (cx F) 5) 5 bA fr' M' (aS Pg [] M.rows.length (some ([2, 4, 6, 7, 16, 17, 18], [4, 5, 6])) K k)) fr M) (h1.trans (zQ fr M)) (h2.trans (zO fr M)) (zK F K _ _ _ _ _ 100000 _) hgo
 · exact absurd ht (by simp)
set_option maxRecDepth 100000 in
theorem zW : (Try.f24.body.bind fun c => ku c 4) = some bA := by kernel_rfl
theorem uH {R : Type} (i0 i1 i2 : Int) (l0 l1 : List AV) (b0 b1 b2 : Bool) (i3 : Int) (l2 : List AV) (i4 : Int) (l3 l4 : List AV) (b3 b4 : Bool) (i5 : Int) (l5 : List AV) (i6 i7 : Int) (l6 l7 : List AV) (b5 b6 b7 : Bool) (i8 i9 : Int) (l8 l9 : List AV) (i10 i11 i12 i13 i14 i15 i16 : Int) (l10 l11 : List AV) (K : AX → Fr → Mm → Option R) : (jy i0 i1 i2 l0 l1 b0 b1 b2 i3 l2 i4 l3 l4 b3 b4 i5 l5 i6 i7 l6 l7 b5 b6 b7 i8 i9 l8 l9 i10 i11 i12 i13 i14 i15 i16 l10 l11 LO.bad).go K = none := by kernel_rfl
set_option maxRecDepth 100000 in
theorem uJ (F : Tab) {R : Type} (K : Res → Mm → Option R) (i0 i1 i2 : Int) (l0 l1 : List AV) (b0 b1 b2 : Bool) (i3 : Int) (l2 : List AV) (i4 : Int) (l3 l4 : List AV) (b3 b4 : Bool) (i5 : Int) (l5 : List AV) (i6 i7 : Int) (l6 l7 : List AV) (b5 b6 b7 : Bool) (i8 i9 : Int) (l8 l9 : List AV) (i10 i11 i12 i13 i14 i15 i16 : Int) (l10 l11 : List AV) :
    evB (cx F) (evF (cx F) 1) 1 155 (nA i0 i1 i2 l0 l1 b0 b1 b2 i3 l2 i4 l3 l4 b3 b4 i5 l5 i6 i7 l6 l7 b5 b6 b7 i8 i9 l8 l9 i10 i11 i12 i13 i14 i15 i16 l10 l11) (ny i0 i1 i2 l0 l1 b0 b1 b2 i3 l2 i4 l3 l4 b3 b4 i5 l5 i6 i7 l6 l7 b5 b6 b7 i8 i9 l8 l9 i10 i11 i12 i13 i14 i15 i16 l10 l11) K = (jL F i0 i1 i2 l0 l1 b0 b1 b2 i3 l2 i4 l3 l4 b3 b4 i5 l5 i6 i7 l6 l7 b5 b6 b7 i8 i9 l8 l9 i10 i11 i12 i13 i14 i15 i16 l10 l11).go (jy i0 i1 i2 l0 l1 b0 b1 b2 i3 l2 i4 l3 l4 b3 b4 i5 l5 i6 i7 l6 l7 b5 b6 b7 i8 i9 l8 l9 i10 i11 i12 i13 i14 i15 i16 l10 l11) (resK K) (fun _ => none) := by kernel_rfl
set_option maxRecDepth 100000 in
theorem uU (args : List AV) (M : Mm) : jv.args args = nA (intOf (args.getD 1 .dead)) (intOf (args.getD 2 .dead)) (intOf (pA (vR M 0) 0)) (partsOf (pA (vR M 0) 1)) (partsOf (pA (vR M 0) 2)) (aj (pA (vR M 0) 3)) (aj (pA (vR M 0) 4)) (aj (pA (vR M 0) 5)) (intOf (pA (vR M 0) 6)) (ak (pA (vR M 1) 0)) (intOf (pA (pA (vR M 3) 0) 0)) (partsOf (pA (pA (vR M 3) 0) 1)) (partsOf (pA (pA (vR M 3) 0) 2)) (aj (pA (pA (vR M 3) 0) 3)) (aj (pA (pA (vR M 3) 0) 5)) (intOf (pA (pA (vR M 3) 0) 6)) (ak (pA (pA (vR M 3) 1) 0)) (intOf (pA (vR M 3) 2)) (intOf (pA (pA (pA (vR M 3) 3) 2) 0)) (partsOf (pA (pA (pA (vR M 3) 3) 2) 1)) (partsOf (pA (pA (pA (vR M 3) 3) 2) 2)) (aj (pA (pA (pA (vR M 3) 3) 2) 3)) (aj (pA (pA (pA (vR M 3) 3) 2) 4)) (aj (pA (pA (pA (vR M 3) 3) 2) 5)) (intOf (pA (pA (pA (vR M 3) 3) 2) 6)) (intOf (pA (pA (vR M 3) 3) 3)) (ak (pA (pA (vR M 3) 3) 4)) (ak (pA (pA (vR M 3) 3) 5)) (intOf (pA (pA (vR M 3) 4) 0)) (intOf (pA (pA (vR M 3) 4) 1)) (intOf (pA (pA (vR M 3) 4) 2)) (intOf (pA (pA (vR M 3) 4) 3)) (intOf (pA (pA (vR M 3) 4) 4)) (intOf (pA (vR M 5) 0)) (intOf (pA (vR M 5) 1)) (ak (pA (vR M 5) 2)) (ak (pA (vR M 5) 3)) := by kernel_rfl
set_option maxRecDepth 100000 in
theorem vJ (args : List AV) (M : Mm) : jv.mm M = ny (intOf (args.getD 1 .dead)) (intOf (args.getD 2 .dead)) (intOf (pA (vR M 0) 0)) (partsOf (pA (vR M 0) 1)) (partsOf (pA (vR M 0) 2)) (aj (pA (vR M 0) 3)) (aj (pA (vR M 0) 4)) (aj (pA (vR M 0) 5)) (intOf (pA (vR M 0) 6)) (ak (pA (vR M 1) 0)) (intOf (pA (pA (vR M 3) 0) 0)) (partsOf (pA (pA (vR M 3) 0) 1)) (partsOf (pA (pA (vR M 3) 0) 2)) (aj (pA (pA (vR M 3) 0) 3)) (aj (pA (pA (vR M 3) 0) 5)) (intOf (pA (pA (vR M 3) 0) 6)) (ak (pA (pA (vR M 3) 1) 0)) (intOf (pA (vR M 3) 2)) (intOf (pA (pA (pA (vR M 3) 3) 2) 0)) (partsOf (pA (pA (pA (vR M 3) 3) 2) 1)) (partsOf (pA (pA (pA (vR M 3) 3) 2) 2)) (aj (pA (pA (pA (vR M 3) 3) 2) 3)) (aj (pA (pA (pA (vR M 3) 3) 2) 4)) (aj (pA (pA (pA (vR M 3) 3) 2) 5)) (intOf (pA (pA (pA (vR M 3) 3) 2) 6)) (intOf (pA (pA (vR M 3) 3) 3)) (ak (pA (pA (vR M 3) 3) 4)) (ak (pA (pA (vR M 3) 3) 5)) (intOf (pA (pA (vR M 3) 4) 0)) (intOf (pA (pA (vR M 3) 4) 1)) (intOf (pA (pA (vR M 3) 4) 2)) (intOf (pA (pA (vR M 3) 4) 3)) (intOf (pA (pA (vR M 3) 4) 4)) (intOf (pA (vR M 5) 0)) (intOf (pA (vR M 5) 1)) (ak (pA (vR M 5) 2)) (ak (pA (vR M 5) 3)) := by kernel_rfl
set_option maxRecDepth 100000 in
theorem vL (F : Tab) {dep : Nat} {args : List AV} {M : Mm} {t : LT} (ht : jo F dep args M = some t) {R : Type} (K : Res → Mm → Option R) (r : R) (hgo : t.go (resK K) = some r) :
    evB (cx F) (evF (cx F) dep) dep 155 args M K = some r := by
 unfold jo at ht
 split at ht
 · rename_i hok
   simp only [Bool.and_eq_true, Nat.beq_eq] at hok
   obtain ⟨rfl, hok⟩ := hok
   obtain ⟨h1, h2⟩ := ArP.ok_eq hok
   obtain rfl := Option.some.inj ht
   exact nM (X := fun args M => evB (cx F) (evF (cx F) 1) 1 155 args M K) (h1.trans (uU args M)) (h2.trans (vJ args M)) (nN (uH _ _ _ _ _ _ _ _ _ _ _ _ _ _ _ _ _ _ _ _ _ _ _ _ _ _ _ _ _ _ _ _ _ _ _ _ _ _) (uJ F K _ _ _ _ _ _ _ _ _ _ _ _ _ _ _ _ _ _ _ _ _ _ _ _ _ _ _ _ _ _ _ _ _ _ _ _ _)) hgo
 · exact absurd ht (by simp)
theorem qd {R : Type} (i0 i1 : Int) (l0 : List AV) (i2 i4 : Int) (l1 l2 : List AV) (b0 b1 b2 : Bool) (i5 : Int) (l3 : List AV) (i6 : Int) (l4 l5 : List AV) (b3 b4 : Bool) (i7 : Int) (l6 : List AV) (i8 i9 : Int) (l7 l8 : List AV) (b5 b6 b7 : Bool) (i10 i11 : Int) (l9 : List AV) (i12 i13 i14 i15 i16 i17 i18 : Int) (l11 l12 : List AV) (K : AX → Fr → Mm → Option R) : (bB i0 i1 l0 i2 i4 l1 l2 b0 b1 b2 i5 l3 i6 l4 l5 b3 b4 i7 l6 i8 i9 l7 l8 b5 b6 b7 i10 i11 l9 i12 i13 i14 i15 i16 i17 i18 l11 l12 LO.bad).go K = none := by kernel_rfl
noncomputable def aK : Code := ((Try.f156.body.bind fun c => ku c 3).getD .skip)
set_option maxRecDepth 100000 in
theorem rX (F : Tab) {R : Type} (K : AX → Fr → Mm → Option R) (kk : Fr → Mm → Option R) (i0 i1 : Int) (l0 : List AV) (i2 i4 : Int) (l1 l2 : List AV) (b0 b1 b2 : Bool) (i5 : Int) (l3 : List AV) (i6 : Int) (l4 l5 : List AV) (b3 b4 : Bool) (i7 : Int) (l6 : List AV) (i8 i9 : Int) (l7 l8 : List AV) (b5 b6 b7 : Bool) (i10 i11 : Int) (l9 : List AV) (i12 i13 i14 i15 i16 i17 i18 : Int) (l11 l12 : List AV) (s : Int × List AV) :
    evC (cx F) 156 (evF (cx F) 2) 2 aK (bI i0 i1 l0 i2 i4 l1 l2 b0 b1 b2 i5 l3 i6 l4 l5 b3 b4 i7 l6 i8 i9 l7 l8 b5 b6 b7 i10 i11 l9 i12 i13 i14 i15 i16 i17 i18 l11 l12 s) (bF i0 i1 l0 i2 i4 l1 l2 b0 b1 b2 i5 l3 i6 l4 l5 b3 b4 i7 l6 i8 i9 l7 l8 b5 b6 b7 i10 i11 l9 i12 i13 i14 i15 i16 i17 i18 l11 l12 s) (aS Pg [] 6 (some ([0, 1, 7, 8, 37, 38, 39], [0, 1, 7, 8])) K kk) =
    (aN F i0 i1 l0 i2 i4 l1 l2 b0 b1 b2 i5 l3 i6 l4 l5 b3 b4 i7 l6 i8 i9 l7 l8 b5 b6 b7 i10 i11 l9 i12 i13 i14 i15 i16 i17 i18 l11 l12 s).go (bB i0 i1 l0 i2 i4 l1 l2 b0 b1 b2 i5 l3 i6 l4 l5 b3 b4 i7 l6 i8 i9 l7 l8 b5 b6 b7 i10 i11 l9 i12 i13 i14 i15 i16 i17 i18 l11 l12) K (fun s => kk (bI i0 i1 l0 i2 i4 l1 l2 b0 b1 b2 i5 l3 i6 l4 l5 b3 b4 i7 l6 i8 i9 l7 l8 b5 b6 b7 i10 i11 l9 i12 i13 i14 i15 i16 i17 i18 l11 l12 s) (bF i0 i1 l0 i2 i4 l1 l2 b0 b1 b2 i5 l3 i6 l4 l5 b3 b4 i7 l6 i8 i9 l7 l8 b5 b6 b7 i10 i11 l9 i12 i13 i14 i15 i16 i17 i18 l11 l12 s)) := by kernel_rfl
set_option maxRecDepth 100000 in
theorem qO (F : Tab) {R : Type} (K : AX → Fr → Mm → Option R) (i0 i1 : Int) (l0 : List AV) (i2 i4 : Int) (l1 l2 : List AV) (b0 b1 b2 : Bool) (i5 : Int) (l3 : List AV) (i6 : Int) (l4 l5 : List AV) (b3 b4 : Bool) (i7 : Int) (l6 : List AV) (i8 i9 : Int) (l7 l8 : List AV) (b5 b6 b7 : Bool) (i10 i11 : Int) (l9 : List AV) (i12 i13 i14 i15 i16 i17 i18 : Int) (l11 l12 : List AV) (fuel : Nat) (s : Int × List AV) :
    iter fuel (fun fr M' k => evC (cx F) 156 (evF (cx F) 2) 2 aK fr M' (aS Pg [] 6 (some ([0, 1, 7, 8, 37, 38, 39], [0, 1, 7, 8])) K k)) (bI i0 i1 l0 i2 i4 l1 l2 b0 b1 b2 i5 l3 i6 l4 l5 b3 b4 i7 l6 i8 i9 l7 l8 b5 b6 b7 i10 i11 l9 i12 i13 i14 i15 i16 i17 i18 l11 l12 s) (bF i0 i1 l0 i2 i4 l1 l2 b0 b1 b2 i5 l3 i6 l4 l5 b3 b4 i7 l6 i8 i9 l7 l8 b5 b6 b7 i10 i11 l9 i12 i13 i14 i15 i16 i17 i18 l11 l12 s) = (bB i0 i1 l0 i2 i4 l1 l2 b0 b1 b2 i5 l3 i6 l4 l5 b3 b4 i7 l6 i8 i9 l7 l8 b5 b6 b7 i10 i11 l9 i12 i13 i14 i15 i16 i17 i18 l11 l12 (Tr.run (aN F i0 i1 l0 i2 i4 l1 l2 b0 b1 b2 i5 l3 i6 l4 l5 b3 b4 i7 l6 i8 i9 l7 l8 b5 b6 b7 i10 i11 l9 i12 i13 i14 i15 i16 i17 i18 l11 l12) fuel s)).go K :=
 qg (B := fun fr M' k => evC (cx F) 156 (evF (cx F) 2) 2 aK fr M' (aS Pg [] 6 (some ([0, 1, 7, 8, 37, 38, 39], [0, 1, 7, 8])) K k)) (step := aN F i0 i1 l0 i2 i4 l1 l2 b0 b1 b2 i5 l3 i6 l4 l5 b3 b4 i7 l6 i8 i9 l7 l8 b5 b6 b7 i10 i11 l9 i12 i13 i14 i15 i16 i17 i18 l11 l12) (lt := bB i0 i1 l0 i2 i4 l1 l2 b0 b1 b2 i5 l3 i6 l4 l5 b3 b4 i7 l6 i8 i9 l7 l8 b5 b6 b7 i10 i11 l9 i12 i13 i14 i15 i16 i17 i18 l11 l12) (sF := bI i0 i1 l0 i2 i4 l1 l2 b0 b1 b2 i5 l3 i6 l4 l5 b3 b4 i7 l6 i8 i9 l7 l8 b5 b6 b7 i10 i11 l9 i12 i13 i14 i15 i16 i17 i18 l11 l12) (sM := bF i0 i1 l0 i2 i4 l1 l2 b0 b1 b2 i5 l3 i6 l4 l5 b3 b4 i7 l6 i8 i9 l7 l8 b5 b6 b7 i10 i11 l9 i12 i13 i14 i15 i16 i17 i18 l11 l12) (K := K) (qd i0 i1 l0 i2 i4 l1 l2 b0 b1 b2 i5 l3 i6 l4 l5 b3 b4 i7 l6 i8 i9 l7 l8 b5 b6 b7 i10 i11 l9 i12 i13 i14 i15 i16 i17 i18 l11 l12 K) (fun s kk => rX F K kk i0 i1 l0 i2 i4 l1 l2 b0 b1 b2 i5 l3 i6 l4 l5 b3 b4 i7 l6 i8 i9 l7 l8 b5 b6 b7 i10 i11 l9 i12 i13 i14 i15 i16 i17 i18 l11 l12 s) fuel s
set_option maxRecDepth 100000 in
theorem rQ (fr : Fr) (M : Mm) : fT.fr fr = bI (intOf (tA fr 1)) (intOf (tA fr 8)) (ak (tA fr 37)) (intOf (tA fr 38)) (intOf (pA (vR M 0) 0)) (partsOf (pA (vR M 0) 1)) (partsOf (pA (vR M 0) 2)) (aj (pA (vR M 0) 3)) (aj (pA (vR M 0) 4)) (aj (pA (vR M 0) 5)) (intOf (pA (vR M 0) 6)) (ak (pA (vR M 1) 0)) (intOf (pA (pA (vR M 3) 0) 0)) (partsOf (pA (pA (vR M 3) 0) 1)) (partsOf (pA (pA (vR M 3) 0) 2)) (aj (pA (pA (vR M 3) 0) 3)) (aj (pA (pA (vR M 3) 0) 5)) (intOf (pA (pA (vR M 3) 0) 6)) (ak (pA (pA (vR M 3) 1) 0)) (intOf (pA (vR M 3) 2)) (intOf (pA (pA (pA (vR M 3) 3) 2) 0)) (partsOf (pA (pA (pA (vR M 3) 3) 2) 1)) (partsOf (pA (pA (pA (vR M 3) 3) 2) 2)) (aj (pA (pA (pA (vR M 3) 3) 2) 3)) (aj (pA (pA (pA (vR M 3) 3) 2) 4)) (aj (pA (pA (pA (vR M 3) 3) 2) 5)) (intOf (pA (pA (pA (vR M 3) 3) 2) 6)) (intOf (pA (pA (vR M 3) 3) 3)) (ak (pA (pA (vR M 3) 3) 4)) (intOf (pA (pA (vR M 3) 4) 0)) (intOf (pA (pA (vR M 3) 4) 1)) (intOf (pA (pA (vR M 3) 4) 2)) (intOf (pA (pA (vR M 3) 4) 3)) (intOf (pA (pA (vR M 3) 4) 4)) (intOf (pA (vR M 5) 0)) (intOf (pA (vR M 5) 1)) (ak (pA (vR M 5) 2)) (ak (pA (vR M 5) 3)) ((intOf (tA fr 39)), (ak (pA (pA (vR M 3) 3) 5))) := by kernel_rfl
set_option maxRecDepth 100000 in
theorem q8 (fr : Fr) (M : Mm) : fT.mm M = bF (intOf (tA fr 1)) (intOf (tA fr 8)) (ak (tA fr 37)) (intOf (tA fr 38)) (intOf (pA (vR M 0) 0)) (partsOf (pA (vR M 0) 1)) (partsOf (pA (vR M 0) 2)) (aj (pA (vR M 0) 3)) (aj (pA (vR M 0) 4)) (aj (pA (vR M 0) 5)) (intOf (pA (vR M 0) 6)) (ak (pA (vR M 1) 0)) (intOf (pA (pA (vR M 3) 0) 0)) (partsOf (pA (pA (vR M 3) 0) 1)) (partsOf (pA (pA (vR M 3) 0) 2)) (aj (pA (pA (vR M 3) 0) 3)) (aj (pA (pA (vR M 3) 0) 5)) (intOf (pA (pA (vR M 3) 0) 6)) (ak (pA (pA (vR M 3) 1) 0)) (intOf (pA (vR M 3) 2)) (intOf (pA (pA (pA (vR M 3) 3) 2) 0)) (partsOf (pA (pA (pA (vR M 3) 3) 2) 1)) (partsOf (pA (pA (pA (vR M 3) 3) 2) 2)) (aj (pA (pA (pA (vR M 3) 3) 2) 3)) (aj (pA (pA (pA (vR M 3) 3) 2) 4)) (aj (pA (pA (pA (vR M 3) 3) 2) 5)) (intOf (pA (pA (pA (vR M 3) 3) 2) 6)) (intOf (pA (pA (vR M 3) 3) 3)) (ak (pA (pA (vR M 3) 3) 4)) (intOf (pA (pA (vR M 3) 4) 0)) (intOf (pA (pA (vR M 3) 4) 1)) (intOf (pA (pA (vR M 3) 4) 2)) (intOf (pA (pA (vR M 3) 4) 3)) (intOf (pA (pA (vR M 3) 4) 4)) (intOf (pA (vR M 5) 0)) (intOf (pA (vR M 5) 1)) (ak (pA (vR M 5) 2)) (ak (pA (vR M 5) 3)) ((intOf (tA fr 39)), (ak (pA (pA (vR M 3) 3) 5))) := by kernel_rfl
set_option maxRecDepth 100000 in
theorem qE (F : Tab) {dep : Nat} {fr : Fr} {M : Mm} {t : LT} (ht : gD F dep fr M = some t) {R : Type} (K : AX → Fr → Mm → Option R) (r : R) (hgo : t.go K = some r) :
    iter 100000 (fun fr' M' k => evC (cx F) 156 (evF (cx F) dep) dep aK fr' M' (aS Pg [] M.rows.length (some ([0, 1, 7, 8, 37, 38, 39], [0, 1, 7, 8])) K k)) fr M = some r := by
 unfold gD at ht
 split at ht
 · rename_i hok
   simp only [Bool.and_eq_true, Nat.beq_eq] at hok
   obtain ⟨rfl, hok⟩ := hok
   obtain ⟨h1, h2⟩ := StP.ok_eq hok
   obtain rfl := Option.some.inj ht
   exact EN (X := fun fr M => iter 100000 (fun fr' M' k => evC (cx F) 156 (evF (cx F) 2) 2 aK fr' M' (aS Pg [] M.rows.length (some ([0, 1, 7, 8, 37, 38, 39], [0, 1, 7, 8])) K k)) fr M) (h1.trans (rQ fr M)) (h2.trans (q8 fr M)) (qO F K _ _ _ _ _ _ _ _ _ _ _ _ _ _ _ _ _ _ _ _ _ _ _ _ _ _ _ _ _ _ _ _ _ _ _ _ _ _ 100000 _) hgo
 · exact absurd ht (by simp)
set_option maxRecDepth 100000 in
theorem rV : (Try.f156.body.bind fun c => ku c 3) = some aK := by kernel_rfl
theorem sj {R : Type} (i0 i1 i2 i3 : Int) (l0 l1 : List AV) (b0 b1 b2 : Bool) (i4 : Int) (l2 : List AV) (i5 : Int) (l3 l4 : List AV) (b3 b4 : Bool) (i6 : Int) (l5 : List AV) (i7 i8 : Int) (l6 l7 : List AV) (b5 b6 b7 : Bool) (i9 i10 : Int) (l8 l9 : List AV) (i11 i12 i13 i14 i15 i16 i17 : Int) (l10 l11 : List AV) (i18 i19 i20 : Int) (K : AX → Fr → Mm → Option R) : (iT i0 i1 i2 i3 l0 l1 b0 b1 b2 i4 l2 i5 l3 l4 b3 b4 i6 l5 i7 i8 l6 l7 b5 b6 b7 i9 i10 l8 l9 i11 i12 i13 i14 i15 i16 i17 l10 l11 i18 i19 i20 LO.bad).go K = none := by kernel_rfl
set_option maxRecDepth 100000 in
theorem tY (F : Tab) {R : Type} (K : Res → Mm → Option R) (i0 i1 i2 i3 : Int) (l0 l1 : List AV) (b0 b1 b2 : Bool) (i4 : Int) (l2 : List AV) (i5 : Int) (l3 l4 : List AV) (b3 b4 : Bool) (i6 : Int) (l5 : List AV) (i7 i8 : Int) (l6 l7 : List AV) (b5 b6 b7 : Bool) (i9 i10 : Int) (l8 l9 : List AV) (i11 i12 i13 i14 i15 i16 i17 : Int) (l10 l11 : List AV) (i18 i19 i20 : Int) :
    evB (cx F) (evF (cx F) 1) 1 159 (mo i0 i1 i2 i3 l0 l1 b0 b1 b2 i4 l2 i5 l3 l4 b3 b4 i6 l5 i7 i8 l6 l7 b5 b6 b7 i9 i10 l8 l9 i11 i12 i13 i14 i15 i16 i17 l10 l11 i18 i19 i20) (mg i0 i1 i2 i3 l0 l1 b0 b1 b2 i4 l2 i5 l3 l4 b3 b4 i6 l5 i7 i8 l6 l7 b5 b6 b7 i9 i10 l8 l9 i11 i12 i13 i14 i15 i16 i17 l10 l11 i18 i19 i20) K = (iZ F i0 i1 i2 i3 l0 l1 b0 b1 b2 i4 l2 i5 l3 l4 b3 b4 i6 l5 i7 i8 l6 l7 b5 b6 b7 i9 i10 l8 l9 i11 i12 i13 i14 i15 i16 i17 l10 l11 i18 i19 i20).go (iT i0 i1 i2 i3 l0 l1 b0 b1 b2 i4 l2 i5 l3 l4 b3 b4 i6 l5 i7 i8 l6 l7 b5 b6 b7 i9 i10 l8 l9 i11 i12 i13 i14 i15 i16 i17 l10 l11 i18 i19 i20) (resK K) (fun _ => none) := by kernel_rfl
set_option maxRecDepth 100000 in
theorem uE (args : List AV) (M : Mm) : jf.args args = mo (intOf (pA (args.getD 1 .dead) 0)) (intOf (pA (args.getD 1 .dead) 1)) (intOf (pA (args.getD 1 .dead) 2)) (intOf (pA (vR M 0) 0)) (partsOf (pA (vR M 0) 1)) (partsOf (pA (vR M 0) 2)) (aj (pA (vR M 0) 3)) (aj (pA (vR M 0) 4)) (aj (pA (vR M 0) 5)) (intOf (pA (vR M 0) 6)) (ak (pA (vR M 1) 0)) (intOf (pA (pA (vR M 3) 0) 0)) (partsOf (pA (pA (vR M 3) 0) 1)) (partsOf (pA (pA (vR M 3) 0) 2)) (aj (pA (pA (vR M 3) 0) 3)) (aj (pA (pA (vR M 3) 0) 5)) (intOf (pA (pA (vR M 3) 0) 6)) (ak (pA (pA (vR M 3) 1) 0)) (intOf (pA (vR M 3) 2)) (intOf (pA (pA (pA (vR M 3) 3) 2) 0)) (partsOf (pA (pA (pA (vR M 3) 3) 2) 1)) (partsOf (pA (pA (pA (vR M 3) 3) 2) 2)) (aj (pA (pA (pA (vR M 3) 3) 2) 3)) (aj (pA (pA (pA (vR M 3) 3) 2) 4)) (aj (pA (pA (pA (vR M 3) 3) 2) 5)) (intOf (pA (pA (pA (vR M 3) 3) 2) 6)) (intOf (pA (pA (vR M 3) 3) 3)) (ak (pA (pA (vR M 3) 3) 4)) (ak (pA (pA (vR M 3) 3) 5)) (intOf (pA (pA (vR M 3) 4) 0)) (intOf (pA (pA (vR M 3) 4) 1)) (intOf (pA (pA (vR M 3) 4) 2)) (intOf (pA (pA (vR M 3) 4) 3)) (intOf (pA (pA (vR M 3) 4) 4)) (intOf (pA (vR M 5) 0)) (intOf (pA (vR M 5) 1)) (ak (pA (vR M 5) 2)) (ak (pA (vR M 5) 3)) (intOf (pA (vR M 6) 0)) (intOf (pA (vR M 6) 1)) (intOf (pA (vR M 6) 2)) := by kernel_rfl
set_option maxRecDepth 100000 in
theorem uy (args : List AV) (M : Mm) : jf.mm M = mg (intOf (pA (args.getD 1 .dead) 0)) (intOf (pA (args.getD 1 .dead) 1)) (intOf (pA (args.getD 1 .dead) 2)) (intOf (pA (vR M 0) 0)) (partsOf (pA (vR M 0) 1)) (partsOf (pA (vR M 0) 2)) (aj (pA (vR M 0) 3)) (aj (pA (vR M 0) 4)) (aj (pA (vR M 0) 5)) (intOf (pA (vR M 0) 6)) (ak (pA (vR M 1) 0)) (intOf (pA (pA (vR M 3) 0) 0)) (partsOf (pA (pA (vR M 3) 0) 1)) (partsOf (pA (pA (vR M 3) 0) 2)) (aj (pA (pA (vR M 3) 0) 3)) (aj (pA (pA (vR M 3) 0) 5)) (intOf (pA (pA (vR M 3) 0) 6)) (ak (pA (pA (vR M 3) 1) 0)) (intOf (pA (vR M 3) 2)) (intOf (pA (pA (pA (vR M 3) 3) 2) 0)) (partsOf (pA (pA (pA (vR M 3) 3) 2) 1)) (partsOf (pA (pA (pA (vR M 3) 3) 2) 2)) (aj (pA (pA (pA (vR M 3) 3) 2) 3)) (aj (pA (pA (pA (vR M 3) 3) 2) 4)) (aj (pA (pA (pA (vR M 3) 3) 2) 5)) (intOf (pA (pA (pA (vR M 3) 3) 2) 6)) (intOf (pA (pA (vR M 3) 3) 3)) (ak (pA (pA (vR M 3) 3) 4)) (ak (pA (pA (vR M 3) 3) 5)) (intOf (pA (pA (vR M 3) 4) 0)) (intOf (pA (pA (vR M 3) 4) 1)) (intOf (pA (pA (vR M 3) 4) 2)) (intOf (pA (pA (vR M 3) 4) 3)) (intOf (pA (pA (vR M 3) 4) 4)) (intOf (pA (vR M 5) 0)) (intOf (pA (vR M 5) 1)) (ak (pA (vR M 5) 2)) (ak (pA (vR M 5) 3)) (intOf (pA (vR M 6) 0)) (intOf (pA (vR M 6) 1)) (intOf (pA (vR M 6) 2)) := by kernel_rfl
set_option maxRecDepth 100000 in
theorem uI (F : Tab) {dep : Nat} {args : List AV} {M : Mm} {t : LT} (ht : je F dep args M = some t) {R : Type} (K : Res → Mm → Option R) (r : R) (hgo : t.go (resK K) = some r) :
    evB (cx F) (evF (cx F) dep) dep 159 args M K = some r := by
 unfold je at ht
 split at ht
 · rename_i hok
   simp only [Bool.and_eq_true, Nat.beq_eq] at hok
   obtain ⟨rfl, hok⟩ := hok
   obtain ⟨h1, h2⟩ := ArP.ok_eq hok
   obtain rfl := Option.some.inj ht
   exact nM (X := fun args M => evB (cx F) (evF (cx F) 1) 1 159 args M K) (h1.trans (uE args M)) (h2.trans (uy args M)) (nN (sj _ _ _ _ _ _ _ _ _ _ _ _ _ _ _ _ _ _ _ _ _ _ _ _ _ _ _ _ _ _ _ _ _ _ _ _ _ _ _ _ _ _) (tY F K _ _ _ _ _ _ _ _ _ _ _ _ _ _ _ _ _ _ _ _ _ _ _ _ _ _ _ _ _ _ _ _ _ _ _ _ _ _ _ _ _)) hgo
 · exact absurd ht (by simp)
theorem ql {R : Type} (i0 i1 : Int) (l0 : List AV) (i2 i4 : Int) (l1 l2 : List AV) (b0 b1 b2 : Bool) (i5 : Int) (l3 : List AV) (i6 : Int) (l4 l5 : List AV) (b3 b4 : Bool) (i7 i8 i9 : Int) (l7 l8 : List AV) (b5 b6 b7 : Bool) (i10 i11 i12 i13 i14 i15 i16 i17 i18 : Int) (l11 l12 : List AV) (K : AX → Fr → Mm → Option R) : (bN i0 i1 l0 i2 i4 l1 l2 b0 b1 b2 i5 l3 i6 l4 l5 b3 b4 i7 i8 i9 l7 l8 b5 b6 b7 i10 i11 i12 i13 i14 i15 i16 i17 i18 l11 l12 LO.bad).go K = none := by kernel_rfl
noncomputable def aM : Code := ((Try.f156.body.bind fun c => ku c 8).getD .skip)
set_option maxRecDepth 100000 in
theorem qX (F : Tab) {R : Type} (K : AX → Fr → Mm → Option R) (kk : Fr → Mm → Option R) (i0 i1 : Int) (l0 : List AV) (i2 i4 : Int) (l1 l2 : List AV) (b0 b1 b2 : Bool) (i5 : Int) (l3 : List AV) (i6 : Int) (l4 l5 : List AV) (b3 b4 : Bool) (i7 i8 i9 : Int) (l7 l8 : List AV) (b5 b6 b7 : Bool) (i10 i11 i12 i13 i14 i15 i16 i17 i18 : Int) (l11 l12 : List AV) (s : Int × List AV × List AV × List AV) :
    evC (cx F) 156 (evF (cx F) 2) 2 aM (bC i0 i1 l0 i2 i4 l1 l2 b0 b1 b2 i5 l3 i6 l4 l5 b3 b4 i7 i8 i9 l7 l8 b5 b6 b7 i10 i11 i12 i13 i14 i15 i16 i17 i18 l11 l12 s) (bH i0 i1 l0 i2 i4 l1 l2 b0 b1 b2 i5 l3 i6 l4 l5 b3 b4 i7 i8 i9 l7 l8 b5 b6 b7 i10 i11 i12 i13 i14 i15 i16 i17 i18 l11 l12 s) (aS Pg [] 6 (some ([0, 1, 7, 8, 48, 49, 50], [0, 1, 7, 8])) K kk) =
    (aO F i0 i1 l0 i2 i4 l1 l2 b0 b1 b2 i5 l3 i6 l4 l5 b3 b4 i7 i8 i9 l7 l8 b5 b6 b7 i10 i11 i12 i13 i14 i15 i16 i17 i18 l11 l12 s).go (bN i0 i1 l0 i2 i4 l1 l2 b0 b1 b2 i5 l3 i6 l4 l5 b3 b4 i7 i8 i9 l7 l8 b5 b6 b7 i10 i11 i12 i13 i14 i15 i16 i17 i18 l11 l12) K (fun s => kk (bC i0 i1 l0 i2 i4 l1 l2 b0 b1 b2 i5 l3 i6 l4 l5 b3 b4 i7 i8 i9 l7 l8 b5 b6 b7 i10 i11 i12 i13 i14 i15 i16 i17 i18 l11 l12 s) (bH i0 i1 l0 i2 i4 l1 l2 b0 b1 b2 i5 l3 i6 l4 l5 b3 b4 i7 i8 i9 l7 l8 b5 b6 b7 i10 i11 i12 i13 i14 i15 i16 i17 i18 l11 l12 s)) := by kernel_rfl
set_option maxRecDepth 100000 in
theorem rz (F : Tab) {R : Type} (K : AX → Fr → Mm → Option R) (i0 i1 : Int) (l0 : List AV) (i2 i4 : Int) (l1 l2 : List AV) (b0 b1 b2 : Bool) (i5 : Int) (l3 : List AV) (i6 : Int) (l4 l5 : List AV) (b3 b4 : Bool) (i7 i8 i9 : Int) (l7 l8 : List AV) (b5 b6 b7 : Bool) (i10 i11 i12 i13 i14 i15 i16 i17 i18 : Int) (l11 l12 : List AV) (fuel : Nat) (s : Int × List AV × List AV × List AV) :
    iter fuel (fun fr M' k => evC (cx F) 156 (evF (cx F) 2) 2 aM fr M' (aS Pg [] 6 (some ([0, 1, 7, 8, 48, 49, 50], [0, 1, 7, 8])) K k)) (bC i0 i1 l0 i2 i4 l1 l2 b0 b1 b2 i5 l3 i6 l4 l5 b3 b4 i7 i8 i9 l7 l8 b5 b6 b7 i10 i11 i12 i13 i14 i15 i16 i17 i18 l11 l12 s) (bH i0 i1 l0 i2 i4 l1 l2 b0 b1 b2 i5 l3 i6 l4 l5 b3 b4 i7 i8 i9 l7 l8 b5 b6 b7 i10 i11 i12 i13 i14 i15 i16 i17 i18 l11 l12 s) = (bN i0 i1 l0 i2 i4 l1 l2 b0 b1 b2 i5 l3 i6 l4 l5 b3 b4 i7 i8 i9 l7 l8 b5 b6 b7 i10 i11 i12 i13 i14 i15 i16 i17 i18 l11 l12 (Tr.run (aO F i0 i1 l0 i2 i4 l1 l2 b0 b1 b2 i5 l3 i6 l4 l5 b3 b4 i7 i8 i9 l7 l8 b5 b6 b7 i10 i11 i12 i13 i14 i15 i16 i17 i18 l11 l12) fuel s)).go K :=
 qg (B := fun fr M' k => evC (cx F) 156 (evF (cx F) 2) 2 aM fr M' (aS Pg [] 6 (some ([0, 1, 7, 8, 48, 49, 50], [0, 1, 7, 8])) K k)) (step := aO F i0 i1 l0 i2 i4 l1 l2 b0 b1 b2 i5 l3 i6 l4 l5 b3 b4 i7 i8 i9 l7 l8 b5 b6 b7 i10 i11 i12 i13 i14 i15 i16 i17 i18 l11 l12) (lt := bN i0 i1 l0 i2 i4 l1 l2 b0 b1 b2 i5 l3 i6 l4 l5 b3 b4 i7 i8 i9 l7 l8 b5 b6 b7 i10 i11 i12 i13 i14 i15 i16 i17 i18 l11 l12) (sF := bC i0 i1 l0 i2 i4 l1 l2 b0 b1 b2 i5 l3 i6 l4 l5 b3 b4 i7 i8 i9 l7 l8 b5 b6 b7 i10 i11 i12 i13 i14 i15 i16 i17 i18 l11 l12) (sM := bH i0 i1 l0 i2 i4 l1 l2 b0 b1 b2 i5 l3 i6 l4 l5 b3 b4 i7 i8 i9 l7 l8 b5 b6 b7 i10 i11 i12 i13 i14 i15 i16 i17 i18 l11 l12) (K := K) (ql i0 i1 l0 i2 i4 l1 l2 b0 b1 b2 i5 l3 i6 l4 l5 b3 b4 i7 i8 i9 l7 l8 b5 b6 b7 i10 i11 i12 i13 i14 i15 i16 i17 i18 l11 l12 K) (fun s kk => qX F K kk i0 i1 l0 i2 i4 l1 l2 b0 b1 b2 i5 l3 i6 l4 l5 b3 b4 i7 i8 i9 l7 l8 b5 b6 b7 i10 i11 i12 i13 i14 i15 i16 i17 i18 l11 l12 s) fuel s
set_option maxRecDepth 100000 in
theorem qY (fr : Fr) (M : Mm) : fO.fr fr = bC (intOf (tA fr 1)) (intOf (tA fr 8)) (ak (tA fr 48)) (intOf (tA fr 49)) (intOf (pA (vR M 0) 0)) (partsOf (pA (vR M 0) 1)) (partsOf (pA (vR M 0) 2)) (aj (pA (vR M 0) 3)) (aj (pA (vR M 0) 4)) (aj (pA (vR M 0) 5)) (intOf (pA (vR M 0) 6)) (ak (pA (vR M 1) 0)) (intOf (pA (pA (vR M 3) 0) 0)) (partsOf (pA (pA (vR M 3) 0) 1)) (partsOf (pA (pA (vR M 3) 0) 2)) (aj (pA (pA (vR M 3) 0) 3)) (aj (pA (pA (vR M 3) 0) 5)) (intOf (pA (pA (vR M 3) 0) 6)) (intOf (pA (vR M 3) 2)) (intOf (pA (pA (pA (vR M 3) 3) 2) 0)) (partsOf (pA (pA (pA (vR M 3) 3) 2) 1)) (partsOf (pA (pA (pA (vR M 3) 3) 2) 2)) (aj (pA (pA (pA (vR M 3) 3) 2) 3)) (aj (pA (pA (pA (vR M 3) 3) 2) 4)) (aj (pA (pA (pA (vR M 3) 3) 2) 5)) (intOf (pA (pA (pA (vR M 3) 3) 2) 6)) (intOf (pA (pA (vR M 3) 3) 3)) (intOf (pA (pA (vR M 3) 4) 0)) (intOf (pA (pA (vR M 3) 4) 1)) (intOf (pA (pA (vR M 3) 4) 2)) (intOf (pA (pA (vR M 3) 4) 3)) (intOf (pA (pA (vR M 3) 4) 4)) (intOf (pA (vR M 5) 0)) (intOf (pA (vR M 5) 1)) (ak (pA (vR M 5) 2)) (ak (pA (vR M 5) 3)) ((intOf (tA fr 50)), (ak (pA (pA (vR M 3) 1) 0)), (ak (pA (pA (vR M 3) 3) 4)), (ak (pA (pA (vR M 3) 3) 5))) := by kernel_rfl
set_option maxRecDepth 100000 in
theorem qV (fr : Fr) (M : Mm) : fO.mm M = bH (intOf (tA fr 1)) (intOf (tA fr 8)) (ak (tA fr 48)) (intOf (tA fr 49)) (intOf (pA (vR M 0) 0)) (partsOf (pA (vR M 0) 1)) (partsOf (pA (vR M 0) 2)) (aj (pA (vR M 0) 3)) (aj (pA (vR M 0) 4)) (aj (pA (vR M 0) 5)) (intOf (pA (vR M 0) 6)) (ak (pA (vR M 1) 0)) (intOf (pA (pA (vR M 3) 0) 0)) (partsOf (pA (pA (vR M 3) 0) 1)) (partsOf (pA (pA (vR M 3) 0) 2)) (aj (pA (pA (vR M 3) 0) 3)) (aj (pA (pA (vR M 3) 0) 5)) (intOf (pA (pA (vR M 3) 0) 6)) (intOf (pA (vR M 3) 2)) (intOf (pA (pA (pA (vR M 3) 3) 2) 0)) (partsOf (pA (pA (pA (vR M 3) 3) 2) 1)) (partsOf (pA (pA (pA (vR M 3) 3) 2) 2)) (aj (pA (pA (pA (vR M 3) 3) 2) 3)) (aj (pA (pA (pA (vR M 3) 3) 2) 4)) (aj (pA (pA (pA (vR M 3) 3) 2) 5)) (intOf (pA (pA (pA (vR M 3) 3) 2) 6)) (intOf (pA (pA (vR M 3) 3) 3)) (intOf (pA (pA (vR M 3) 4) 0)) (intOf (pA (pA (vR M 3) 4) 1)) (intOf (pA (pA (vR M 3) 4) 2)) (intOf (pA (pA (vR M 3) 4) 3)) (intOf (pA (pA (vR M 3) 4) 4)) (intOf (pA (vR M 5) 0)) (intOf (pA (vR M 5) 1)) (ak (pA (vR M 5) 2)) (ak (pA (vR M 5) 3)) ((intOf (tA fr 50)), (ak (pA (pA (vR M 3) 1) 0)), (ak (pA (pA (vR M 3) 3) 4)), (ak (pA (pA (vR M 3) 3) 5))) := by kernel_rfl
set_option maxRecDepth 100000 in
theorem qD (F : Tab) {dep : Nat} {fr : Fr} {M : Mm} {t : LT} (ht : gy F dep fr M = some t) {R : Type} (K : AX → Fr → Mm → Option R) (r : R) (hgo : t.go K = some r) :
    iter 100000 (fun fr' M' k => evC (cx F) 156 (evF (cx F) dep) dep aM fr' M' (aS Pg [] M.rows.length (some ([0, 1, 7, 8, 48, 49, 50], [0, 1, 7, 8])) K k)) fr M = some r := by
 unfold gy at ht
 split at ht
 · rename_i hok
   simp only [Bool.and_eq_true, Nat.beq_eq] at hok
   obtain ⟨rfl, hok⟩ := hok
   obtain ⟨h1, h2⟩ := StP.ok_eq hok
   obtain rfl := Option.some.inj ht
   exact EN (X := fun fr M => iter 100000 (fun fr' M' k => evC (cx F) 156 (evF (cx F) 2) 2 aM fr' M' (aS Pg [] M.rows.length (some ([0, 1, 7, 8, 48, 49, 50], [0, 1, 7, 8])) K k)) fr M) (h1.trans (qY fr M)) (h2.trans (qV fr M)) (rz F K _ _ _ _ _ _ _ _ _ _ _ _ _ _ _ _ _ _ _ _ _ _ _ _ _ _ _ _ _ _ _ _ _ _ _ _ 100000 _) hgo
 · exact absurd ht (by simp)
set_option maxRecDepth 100000 in
theorem rC : (Try.f156.body.bind fun c => ku c 8) = some aM := by kernel_rfl
theorem zT {R : Type} (l0 : List AV) (i1 i2 i3 : Int) (l1 : List AV) (n0 n1 : Nat) (K : AX → Fr → Mm → Option R) : (iL l0 i1 i2 i3 l1 n0 n1 LO.bad).go K = none := by kernel_rfl
noncomputable def bT : Code := ((Try.f57.body.bind fun c => ku c 6).getD .skip)
set_option maxRecDepth 100000 in
theorem Bj (F : Tab) {R : Type} (call : lX R) (dep : Nat) (K : AX → Fr → Mm → Option R) (kk : Fr → Mm → Option R) (l0 : List AV) (i1 i2 i3 : Int) (l1 : List AV) (n0 n1 : Nat) (s : Int × List AV) :
    evC (cx F) 57 call dep bT (iK l0 i1 i2 i3 l1 n0 n1 s) (iI l0 i1 i2 i3 l1 n0 n1 s) (aS Pg [] 7 (some ([3, 4, 6, 7], [4, 6])) K kk) =
    (aX F l0 i1 i2 i3 l1 n0 n1 s).go (iL l0 i1 i2 i3 l1 n0 n1) K (fun s => kk (iK l0 i1 i2 i3 l1 n0 n1 s) (iI l0 i1 i2 i3 l1 n0 n1 s)) := by kernel_rfl
set_option maxRecDepth 100000 in
theorem AY (F : Tab) {R : Type} (call : lX R) (dep : Nat) (K : AX → Fr → Mm → Option R) (l0 : List AV) (i1 i2 i3 : Int) (l1 : List AV) (n0 n1 : Nat) (fuel : Nat) (s : Int × List AV) :
    iter fuel (fun fr M' k => evC (cx F) 57 call dep bT fr M' (aS Pg [] 7 (some ([3, 4, 6, 7], [4, 6])) K k)) (iK l0 i1 i2 i3 l1 n0 n1 s) (iI l0 i1 i2 i3 l1 n0 n1 s) = (iL l0 i1 i2 i3 l1 n0 n1 (Tr.run (aX F l0 i1 i2 i3 l1 n0 n1) fuel s)).go K :=
 qg (B := fun fr M' k => evC (cx F) 57 call dep bT fr M' (aS Pg [] 7 (some ([3, 4, 6, 7], [4, 6])) K k)) (step := aX F l0 i1 i2 i3 l1 n0 n1) (lt := iL l0 i1 i2 i3 l1 n0 n1) (sF := iK l0 i1 i2 i3 l1 n0 n1) (sM := iI l0 i1 i2 i3 l1 n0 n1) (K := K) (zT l0 i1 i2 i3 l1 n0 n1 K) (fun s kk => Bj F call dep K kk l0 i1 i2 i3 l1 n0 n1 s) fuel s
set_option maxRecDepth 100000 in
theorem A8 (fr : Fr) (M : Mm) : nE.fr fr = iK (ak (pA (vR M 0) 0)) (intOf (pA (vR M 1) 0)) (intOf (pA (vR M 1) 1)) (intOf (pA (vR M 1) 2)) (ak (pA (vR M 3) 0)) (jG (pA (vR M 4) 0)) (jG (pA (vR M 6) 0)) ((intOf (tA fr 7)), (xU (oR M 5))) := by kernel_rfl
set_option maxRecDepth 100000 in
theorem Bg (fr : Fr) (M : Mm) : nE.mm M = iI (ak (pA (vR M 0) 0)) (intOf (pA (vR M 1) 0)) (intOf (pA (vR M 1) 1)) (intOf (pA (vR M 1) 2)) (ak (pA (vR M 3) 0)) (jG (pA (vR M 4) 0)) (jG (pA (vR M 6) 0)) ((intOf (tA fr 7)), (xU (oR M 5))) := by kernel_rfl
set_option maxRecDepth 100000 in
theorem AQ (F : Tab) {dep : Nat} {fr : Fr} {M : Mm} {t : LT} (ht : nD F dep fr M = some t) {R : Type} (K : AX → Fr → Mm → Option R) (r : R) (hgo : t.go K = some r) :
    iter 100000 (fun fr' M' k => evC (cx F) 57 (evF (cx F) dep) dep bT fr' M' (aS Pg [] M.rows.length (some ([3, 4, 6, 7], [4, 6])) K k)) fr M = some r := by
 unfold nD at ht
 split at ht
 · rename_i hok
   obtain ⟨h1, h2⟩ := StP.ok_eq hok
   obtain rfl := Option.some.inj ht
   exact EN (X := fun fr M => iter 100000 (fun fr' M' k => evC (cx F) 57 (evF (cx F) dep) dep bT fr' M' (aS Pg [] M.rows.length (some ([3, 4, 6, 7], [4, 6])) K k)) fr M) (h1.trans (A8 fr M)) (h2.trans (Bg fr M)) (AY F _ _ K _ _ _ _ _ _ _ 100000 _) hgo
 · exact absurd ht (by simp)
set_option maxRecDepth 100000 in
theorem Bb : (Try.f57.body.bind fun c => ku c 6) = some bT := by kernel_rfl
theorem xG {R : Type} (l0 l1 : List AV) (K : AX → Fr → Mm → Option R) : (dQ l0 l1 LO.bad).go K = none := by kernel_rfl
noncomputable def aW : Code := ((Try.f75.body.bind fun c => ku c 4).getD .skip)
set_option maxRecDepth 100000 in
theorem yM (F : Tab) {R : Type} (call : lX R) (dep : Nat) (K : AX → Fr → Mm → Option R) (kk : Fr → Mm → Option R) (l0 l1 : List AV) (s : Int) :
    evC (cx F) 75 call dep aW (dS l0 l1 s) (dR l0 l1 s) (aS Pg [] 0 (some ([0, 1, 5], [4])) K kk) =
    (gY F l0 l1 s).go (dQ l0 l1) K (fun s => kk (dS l0 l1 s) (dR l0 l1 s)) := by kernel_rfl
set_option maxRecDepth 100000 in
theorem xX (F : Tab) {R : Type} (call : lX R) (dep : Nat) (K : AX → Fr → Mm → Option R) (l0 l1 : List AV) (fuel : Nat) (s : Int) :
    iter fuel (fun fr M' k => evC (cx F) 75 call dep aW fr M' (aS Pg [] 0 (some ([0, 1, 5], [4])) K k)) (dS l0 l1 s) (dR l0 l1 s) = (dQ l0 l1 (Tr.run (gY F l0 l1) fuel s)).go K :=
 qg (B := fun fr M' k => evC (cx F) 75 call dep aW fr M' (aS Pg [] 0 (some ([0, 1, 5], [4])) K k)) (step := gY F l0 l1) (lt := dQ l0 l1) (sF := dS l0 l1) (sM := dR l0 l1) (K := K) (xG l0 l1 K) (fun s kk => yM F call dep K kk l0 l1 s) fuel s
set_option maxRecDepth 100000 in
theorem yJ (fr : Fr) (M : Mm) : kL.fr fr = dS (ak (tA fr 0)) (ak (tA fr 1)) ((intOf (tA fr 5))) := by kernel_rfl
set_option maxRecDepth 100000 in
theorem yB (fr : Fr) (M : Mm) : kL.mm M = dR (ak (tA fr 0)) (ak (tA fr 1)) ((intOf (tA fr 5))) := by kernel_rfl
set_option maxRecDepth 100000 in
theorem yt (F : Tab) {dep : Nat} {fr : Fr} {M : Mm} {t : LT} (ht : kM F dep fr M = some t) {R : Type} (K : AX → Fr → Mm → Option R) (r : R) (hgo : t.go K = some r) :
    iter 100000 (fun fr' M' k => evC (cx F) 75 (evF (cx F) dep) dep aW fr' M' (aS Pg [] M.rows.length (some ([0, 1, 5], [4])) K k)) fr M = some r := by
 unfold kM at ht
 split at ht
 · rename_i hok
   obtain ⟨h1, h2⟩ := StP.ok_eq hok
   obtain rfl := Option.some.inj ht
   exact EN (X := fun fr M => iter 100000 (fun fr' M' k => evC (cx F) 75 (evF (cx F) dep) dep aW fr' M' (aS Pg [] M.rows.length (some ([0, 1, 5], [4])) K k)) fr M) (h1.trans (yJ fr M)) (h2.trans (yB fr M)) (xX F _ _ K _ _ 100000 _) hgo
 · exact absurd ht (by simp)
set_option maxRecDepth 100000 in
theorem yN : (Try.f75.body.bind fun c => ku c 4) = some aW := by kernel_rfl
theorem Bf {R : Type} (i0 : Int) (l0 : List AV) (K : AX → Fr → Mm → Option R) : (jr i0 l0 LO.bad).go K = none := by kernel_rfl
noncomputable def bY : Code := ((Try.f123.body.bind fun c => ku c 6).getD .skip)
set_option maxRecDepth 100000 in
theorem BG (F : Tab) {R : Type} (call : lX R) (dep : Nat) (K : AX → Fr → Mm → Option R) (kk : Fr → Mm → Option R) (i0 : Int) (l0 : List AV) (s : Int × Int) :
    evC (cx F) 123 call dep bY (jD i0 l0 s) (jm i0 l0 s) (aS Pg [] 2 (some ([1, 3, 6, 8, 9], [6, 8])) K kk) =
    (lV F i0 l0 s).go (jr i0 l0) K (fun s => kk (jD i0 l0 s) (jm i0 l0 s)) := by kernel_rfl
set_option maxRecDepth 100000 in
theorem CX (F : Tab) {R : Type} (call : lX R) (dep : Nat) (K : AX → Fr → Mm → Option R) (i0 : Int) (l0 : List AV) (fuel : Nat) (s : Int × Int) :
    iter fuel (fun fr M' k => evC (cx F) 123 call dep bY fr M' (aS Pg [] 2 (some ([1, 3, 6, 8, 9], [6, 8])) K k)) (jD i0 l0 s) (jm i0 l0 s) = (jr i0 l0 (Tr.run (lV F i0 l0) fuel s)).go K :=
 qg (B := fun fr M' k => evC (cx F) 123 call dep bY fr M' (aS Pg [] 2 (some ([1, 3, 6, 8, 9], [6, 8])) K k)) (step := lV F i0 l0) (lt := jr i0 l0) (sF := jD i0 l0) (sM := jm i0 l0) (K := K) (Bf i0 l0 K) (fun s kk => BG F call dep K kk i0 l0 s) fuel s
set_option maxRecDepth 100000 in
theorem C8 (fr : Fr) (M : Mm) : oG.fr fr = jD (intOf (tA fr 1)) (ak (pA (vR M 0) 0)) ((intOf (tA fr 8)), (intOf (tA fr 9))) := by kernel_rfl
set_option maxRecDepth 100000 in
theorem CF (fr : Fr) (M : Mm) : oG.mm M = jm (intOf (tA fr 1)) (ak (pA (vR M 0) 0)) ((intOf (tA fr 8)), (intOf (tA fr 9))) := by kernel_rfl
set_option maxRecDepth 100000 in
theorem Co (F : Tab) {dep : Nat} {fr : Fr} {M : Mm} {t : LT} (ht : oC F dep fr M = some t) {R : Type} (K : AX → Fr → Mm → Option R) (r : R) (hgo : t.go K = some r) :
    iter 100000 (fun fr' M' k => evC (cx F) 123 (evF (cx F) dep) dep bY fr' M' (aS Pg [] M.rows.length (some ([1, 3, 6, 8, 9], [6, 8])) K k)) fr M = some r := by
 unfold oC at ht
 split at ht
 · rename_i hok
   obtain ⟨h1, h2⟩ := StP.ok_eq hok
   obtain rfl := Option.some.inj ht
   exact EN (X := fun fr M => iter 100000 (fun fr' M' k => evC (cx F) 123 (evF (cx F) dep) dep bY fr' M' (aS Pg [] M.rows.length (some ([1, 3, 6, 8, 9], [6, 8])) K k)) fr M) (h1.trans (C8 fr M)) (h2.trans (CF fr M)) (CX F _ _ K _ _ 100000 _) hgo
 · exact absurd ht (by simp)
set_option maxRecDepth 100000 in
theorem Cx : (Try.f123.body.bind fun c => ku c 6) = some bY := by kernel_rfl
theorem Di {R : Type} (i0 i2 : Int) (l0 l1 : List AV) (b0 b1 b2 : Bool) (i3 : Int) (K : AX → Fr → Mm → Option R) : (lI i0 i2 l0 l1 b0 b1 b2 i3 LO.bad).go K = none := by kernel_rfl
noncomputable def dV : Code := ((Try.f129.body.bind fun c => ku c 4).getD .skip)
set_option maxRecDepth 100000 in
theorem Gb (F : Tab) {R : Type} (call : lX R) (dep : Nat) (K : AX → Fr → Mm → Option R) (kk : Fr → Mm → Option R) (i0 i2 : Int) (l0 l1 : List AV) (b0 b1 b2 : Bool) (i3 : Int) (s : Int) :
    evC (cx F) 129 call dep dV (lQ i0 i2 l0 l1 b0 b1 b2 i3 s) (lq i0 i2 l0 l1 b0 b1 b2 i3 s) (aS Pg [] 1 (some ([1, 12], [4, 5])) K kk) =
    (jP F i0 i2 l0 l1 b0 b1 b2 i3 s).go (lI i0 i2 l0 l1 b0 b1 b2 i3) K (fun s => kk (lQ i0 i2 l0 l1 b0 b1 b2 i3 s) (lq i0 i2 l0 l1 b0 b1 b2 i3 s)) := by kernel_rfl
set_option maxRecDepth 100000 in
theorem FV (F : Tab) {R : Type} (call : lX R) (dep : Nat) (K : AX → Fr → Mm → Option R) (i0 i2 : Int) (l0 l1 : List AV) (b0 b1 b2 : Bool) (i3 : Int) (fuel : Nat) (s : Int) :
    iter fuel (fun fr M' k => evC (cx F) 129 call dep dV fr M' (aS Pg [] 1 (some ([1, 12], [4, 5])) K k)) (lQ i0 i2 l0 l1 b0 b1 b2 i3 s) (lq i0 i2 l0 l1 b0 b1 b2 i3 s) = (lI i0 i2 l0 l1 b0 b1 b2 i3 (Tr.run (jP F i0 i2 l0 l1 b0 b1 b2 i3) fuel s)).go K :=
 qg (B := fun fr M' k => evC (cx F) 129 call dep dV fr M' (aS Pg [] 1 (some ([1, 12], [4, 5])) K k)) (step := jP F i0 i2 l0 l1 b0 b1 b2 i3) (lt := lI i0 i2 l0 l1 b0 b1 b2 i3) (sF := lQ i0 i2 l0 l1 b0 b1 b2 i3) (sM := lq i0 i2 l0 l1 b0 b1 b2 i3) (K := K) (Di i0 i2 l0 l1 b0 b1 b2 i3 K) (fun s kk => Gb F call dep K kk i0 i2 l0 l1 b0 b1 b2 i3 s) fuel s
set_option maxRecDepth 100000 in
theorem F7 (fr : Fr) (M : Mm) : sH.fr fr = lQ (intOf (tA fr 1)) (intOf (pA (vR M 0) 0)) (partsOf (pA (vR M 0) 1)) (partsOf (pA (vR M 0) 2)) (aj (pA (vR M 0) 3)) (aj (pA (vR M 0) 4)) (aj (pA (vR M 0) 5)) (intOf (pA (vR M 0) 6)) ((intOf (tA fr 12))) := by kernel_rfl
set_option maxRecDepth 100000 in
theorem FK (fr : Fr) (M : Mm) : sH.mm M = lq (intOf (tA fr 1)) (intOf (pA (vR M 0) 0)) (partsOf (pA (vR M 0) 1)) (partsOf (pA (vR M 0) 2)) (aj (pA (vR M 0) 3)) (aj (pA (vR M 0) 4)) (aj (pA (vR M 0) 5)) (intOf (pA (vR M 0) 6)) ((intOf (tA fr 12))) := by kernel_rfl
set_option maxRecDepth 100000 in
theorem FL (F : Tab) {dep : Nat} {fr : Fr} {M : Mm} {t : LT} (ht : sS F dep fr M = some t) {R : Type} (K : AX → Fr → Mm → Option R) (r : R) (hgo : t.go K = some r) :
    iter 100000 (fun fr' M' k => evC (cx F) 129 (evF (cx F) dep) dep dV fr' M' (aS Pg [] M.rows.length (some ([1, 12], [4, 5])) K k)) fr M = some r := by
 unfold sS at ht
 split at ht
 · rename_i hok
   obtain ⟨h1, h2⟩ := StP.ok_eq hok
   obtain rfl := Option.some.inj ht
   exact EN (X := fun fr M => iter 100000 (fun fr' M' k => evC (cx F) 129 (evF (cx F) dep) dep dV fr' M' (aS Pg [] M.rows.length (some ([1, 12], [4, 5])) K k)) fr M) (h1.trans (F7 fr M)) (h2.trans (FK fr M)) (FV F _ _ K _ _ _ _ _ _ _ _ 100000 _) hgo
 · exact absurd ht (by simp)
set_option maxRecDepth 100000 in
theorem E9 : (Try.f129.body.bind fun c => ku c 4) = some dV := by kernel_rfl
theorem oH {R : Type} (i0 i1 : Int) (l0 l1 : List AV) (b0 b1 b2 : Bool) (i2 : Int) (l2 : List AV) (i3 : Int) (l3 l4 : List AV) (b3 b4 : Bool) (i4 : Int) (l5 : List AV) (i5 i6 : Int) (l6 l7 : List AV) (b5 b6 b7 : Bool) (i7 : Int) (K : AX → Fr → Mm → Option R) : (eO i0 i1 l0 l1 b0 b1 b2 i2 l2 i3 l3 l4 b3 b4 i4 l5 i5 i6 l6 l7 b5 b6 b7 i7 LO.bad).go K = none := by kernel_rfl
set_option maxRecDepth 100000 in
theorem pz (F : Tab) {R : Type} (K : Res → Mm → Option R) (i0 i1 : Int) (l0 l1 : List AV) (b0 b1 b2 : Bool) (i2 : Int) (l2 : List AV) (i3 : Int) (l3 l4 : List AV) (b3 b4 : Bool) (i4 : Int) (l5 : List AV) (i5 i6 : Int) (l6 l7 : List AV) (b5 b6 b7 : Bool) (i7 : Int) :
    evB (cx F) (evF (cx F) 2) 2 156 (jQ i0 i1 l0 l1 b0 b1 b2 i2 l2 i3 l3 l4 b3 b4 i4 l5 i5 i6 l6 l7 b5 b6 b7 i7) (jR i0 i1 l0 l1 b0 b1 b2 i2 l2 i3 l3 l4 b3 b4 i4 l5 i5 i6 l6 l7 b5 b6 b7 i7) K = (eD F i0 i1 l0 l1 b0 b1 b2 i2 l2 i3 l3 l4 b3 b4 i4 l5 i5 i6 l6 l7 b5 b6 b7 i7).go (eO i0 i1 l0 l1 b0 b1 b2 i2 l2 i3 l3 l4 b3 b4 i4 l5 i5 i6 l6 l7 b5 b6 b7 i7) (resK K) (fun _ => none) := by kernel_rfl
set_option maxRecDepth 100000 in
theorem pJ (args : List AV) (M : Mm) : eG.args args = jQ (intOf (args.getD 1 .dead)) (intOf (pA (vR M 0) 0)) (partsOf (pA (vR M 0) 1)) (partsOf (pA (vR M 0) 2)) (aj (pA (vR M 0) 3)) (aj (pA (vR M 0) 4)) (aj (pA (vR M 0) 5)) (intOf (pA (vR M 0) 6)) (ak (pA (vR M 1) 0)) (intOf (pA (pA (vR M 3) 0) 0)) (partsOf (pA (pA (vR M 3) 0) 1)) (partsOf (pA (pA (vR M 3) 0) 2)) (aj (pA (pA (vR M 3) 0) 3)) (aj (pA (pA (vR M 3) 0) 5)) (intOf (pA (pA (vR M 3) 0) 6)) (ak (pA (pA (vR M 3) 1) 0)) (intOf (pA (vR M 3) 2)) (intOf (pA (pA (pA (vR M 3) 3) 2) 0)) (partsOf (pA (pA (pA (vR M 3) 3) 2) 1)) (partsOf (pA (pA (pA (vR M 3) 3) 2) 2)) (aj (pA (pA (pA (vR M 3) 3) 2) 3)) (aj (pA (pA (pA (vR M 3) 3) 2) 4)) (aj (pA (pA (pA (vR M 3) 3) 2) 5)) (intOf (pA (pA (pA (vR M 3) 3) 2) 6)) := by kernel_rfl
set_option maxRecDepth 100000 in
theorem o9 (args : List AV) (M : Mm) : eG.mm M = jR (intOf (args.getD 1 .dead)) (intOf (pA (vR M 0) 0)) (partsOf (pA (vR M 0) 1)) (partsOf (pA (vR M 0) 2)) (aj (pA (vR M 0) 3)) (aj (pA (vR M 0) 4)) (aj (pA (vR M 0) 5)) (intOf (pA (vR M 0) 6)) (ak (pA (vR M 1) 0)) (intOf (pA (pA (vR M 3) 0) 0)) (partsOf (pA (pA (vR M 3) 0) 1)) (partsOf (pA (pA (vR M 3) 0) 2)) (aj (pA (pA (vR M 3) 0) 3)) (aj (pA (pA (vR M 3) 0) 5)) (intOf (pA (pA (vR M 3) 0) 6)) (ak (pA (pA (vR M 3) 1) 0)) (intOf (pA (vR M 3) 2)) (intOf (pA (pA (pA (vR M 3) 3) 2) 0)) (partsOf (pA (pA (pA (vR M 3) 3) 2) 1)) (partsOf (pA (pA (pA (vR M 3) 3) 2) 2)) (aj (pA (pA (pA (vR M 3) 3) 2) 3)) (aj (pA (pA (pA (vR M 3) 3) 2) 4)) (aj (pA (pA (pA (vR M 3) 3) 2) 5)) (intOf (pA (pA (pA (vR M 3) 3) 2) 6)) := by kernel_rfl
set_option maxRecDepth 100000 in
theorem pQ (F : Tab) {dep : Nat} {args : List AV} {M : Mm} {t : LT} (ht : eu F dep args M = some t) {R : Type} (K : Res → Mm → Option R) (r : R) (hgo : t.go (resK K) = some r) :
    evB (cx F) (evF (cx F) dep) dep 156 args M K = some r := by
 unfold eu at ht
 split at ht
 · rename_i hok
   simp only [Bool.and_eq_true, Nat.beq_eq] at hok
   obtain ⟨rfl, hok⟩ := hok
   obtain ⟨h1, h2⟩ := ArP.ok_eq hok
   obtain rfl := Option.some.inj ht
   exact nM (X := fun args M => evB (cx F) (evF (cx F) 2) 2 156 args M K) (h1.trans (pJ args M)) (h2.trans (o9 args M)) (nN (oH _ _ _ _ _ _ _ _ _ _ _ _ _ _ _ _ _ _ _ _ _ _ _ _ _) (pz F K _ _ _ _ _ _ _ _ _ _ _ _ _ _ _ _ _ _ _ _ _ _ _ _)) hgo
 · exact absurd ht (by simp)
theorem rG {R : Type} (i0 i1 i2 : Int) (l0 l1 : List AV) (b0 b1 b2 : Bool) (i3 : Int) (l2 : List AV) (i4 : Int) (l3 l4 : List AV) (b3 b4 : Bool) (i5 : Int) (l5 : List AV) (i6 i7 : Int) (l6 l7 : List AV) (b5 b6 b7 : Bool) (i8 i9 : Int) (l8 l9 : List AV) (i10 i11 i12 i13 i14 : Int) (K : AX → Fr → Mm → Option R) : (gW i0 i1 i2 l0 l1 b0 b1 b2 i3 l2 i4 l3 l4 b3 b4 i5 l5 i6 i7 l6 l7 b5 b6 b7 i8 i9 l8 l9 i10 i11 i12 i13 i14 LO.bad).go K = none := by kernel_rfl
set_option maxRecDepth 100000 in
theorem sI (F : Tab) {R : Type} (K : Res → Mm → Option R) (i0 i1 i2 : Int) (l0 l1 : List AV) (b0 b1 b2 : Bool) (i3 : Int) (l2 : List AV) (i4 : Int) (l3 l4 : List AV) (b3 b4 : Bool) (i5 : Int) (l5 : List AV) (i6 i7 : Int) (l6 l7 : List AV) (b5 b6 b7 : Bool) (i8 i9 : Int) (l8 l9 : List AV) (i10 i11 i12 i13 i14 : Int) :
    evB (cx F) (evF (cx F) 2) 2 155 (lg i0 i1 i2 l0 l1 b0 b1 b2 i3 l2 i4 l3 l4 b3 b4 i5 l5 i6 i7 l6 l7 b5 b6 b7 i8 i9 l8 l9 i10 i11 i12 i13 i14) (lW i0 i1 i2 l0 l1 b0 b1 b2 i3 l2 i4 l3 l4 b3 b4 i5 l5 i6 i7 l6 l7 b5 b6 b7 i8 i9 l8 l9 i10 i11 i12 i13 i14) K = (gU F i0 i1 i2 l0 l1 b0 b1 b2 i3 l2 i4 l3 l4 b3 b4 i5 l5 i6 i7 l6 l7 b5 b6 b7 i8 i9 l8 l9 i10 i11 i12 i13 i14).go (gW i0 i1 i2 l0 l1 b0 b1 b2 i3 l2 i4 l3 l4 b3 b4 i5 l5 i6 i7 l6 l7 b5 b6 b7 i8 i9 l8 l9 i10 i11 i12 i13 i14) (resK K) (fun _ => none) := by kernel_rfl
set_option maxRecDepth 100000 in
theorem sV (args : List AV) (M : Mm) : gZ.args args = lg (intOf (args.getD 1 .dead)) (intOf (args.getD 2 .dead)) (intOf (pA (vR M 0) 0)) (partsOf (pA (vR M 0) 1)) (partsOf (pA (vR M 0) 2)) (aj (pA (vR M 0) 3)) (aj (pA (vR M 0) 4)) (aj (pA (vR M 0) 5)) (intOf (pA (vR M 0) 6)) (ak (pA (vR M 1) 0)) (intOf (pA (pA (vR M 3) 0) 0)) (partsOf (pA (pA (vR M 3) 0) 1)) (partsOf (pA (pA (vR M 3) 0) 2)) (aj (pA (pA (vR M 3) 0) 3)) (aj (pA (pA (vR M 3) 0) 5)) (intOf (pA (pA (vR M 3) 0) 6)) (ak (pA (pA (vR M 3) 1) 0)) (intOf (pA (vR M 3) 2)) (intOf (pA (pA (pA (vR M 3) 3) 2) 0)) (partsOf (pA (pA (pA (vR M 3) 3) 2) 1)) (partsOf (pA (pA (pA (vR M 3) 3) 2) 2)) (aj (pA (pA (pA (vR M 3) 3) 2) 3)) (aj (pA (pA (pA (vR M 3) 3) 2) 4)) (aj (pA (pA (pA (vR M 3) 3) 2) 5)) (intOf (pA (pA (pA (vR M 3) 3) 2) 6)) (intOf (pA (pA (vR M 3) 3) 3)) (ak (pA (pA (vR M 3) 3) 4)) (ak (pA (pA (vR M 3) 3) 5)) (intOf (pA (pA (vR M 3) 4) 0)) (intOf (pA (pA (vR M 3) 4) 1)) (intOf (pA (pA (vR M 3) 4) 2)) (intOf (pA (pA (vR M 3) 4) 3)) (intOf (pA (pA (vR M 3) 4) 4)) := by kernel_rfl
set_option maxRecDepth 100000 in
theorem r9 (args : List AV) (M : Mm) : gZ.mm M = lW (intOf (args.getD 1 .dead)) (intOf (args.getD 2 .dead)) (intOf (pA (vR M 0) 0)) (partsOf (pA (vR M 0) 1)) (partsOf (pA (vR M 0) 2)) (aj (pA (vR M 0) 3)) (aj (pA (vR M 0) 4)) (aj (pA (vR M 0) 5)) (intOf (pA (vR M 0) 6)) (ak (pA (vR M 1) 0)) (intOf (pA (pA (vR M 3) 0) 0)) (partsOf (pA (pA (vR M 3) 0) 1)) (partsOf (pA (pA (vR M 3) 0) 2)) (aj (pA (pA (vR M 3) 0) 3)) (aj (pA (pA (vR M 3) 0) 5)) (intOf (pA (pA (vR M 3) 0) 6)) (ak (pA (pA (vR M 3) 1) 0)) (intOf (pA (vR M 3) 2)) (intOf (pA (pA (pA (vR M 3) 3) 2) 0)) (partsOf (pA (pA (pA (vR M 3) 3) 2) 1)) (partsOf (pA (pA (pA (vR M 3) 3) 2) 2)) (aj (pA (pA (pA (vR M 3) 3) 2) 3)) (aj (pA (pA (pA (vR M 3) 3) 2) 4)) (aj (pA (pA (pA (vR M 3) 3) 2) 5)) (intOf (pA (pA (pA (vR M 3) 3) 2) 6)) (intOf (pA (pA (vR M 3) 3) 3)) (ak (pA (pA (vR M 3) 3) 4)) (ak (pA (pA (vR M 3) 3) 5)) (intOf (pA (pA (vR M 3) 4) 0)) (intOf (pA (pA (vR M 3) 4) 1)) (intOf (pA (pA (vR M 3) 4) 2)) (intOf (pA (pA (vR M 3) 4) 3)) (intOf (pA (pA (vR M 3) 4) 4)) := by kernel_rfl
set_option maxRecDepth 100000 in
theorem tT (F : Tab) {dep : Nat} {args : List AV} {M : Mm} {t : LT} (ht : iB F dep args M = some t) {R : Type} (K : Res → Mm → Option R) (r : R) (hgo : t.go (resK K) = some r) :
    evB (cx F) (evF (cx F) dep) dep 155 args M K = some r := by
 unfold iB at ht
 split at ht
 · rename_i hok
   simp only [Bool.and_eq_true, Nat.beq_eq] at hok
   obtain ⟨rfl, hok⟩ := hok
   obtain ⟨h1, h2⟩ := ArP.ok_eq hok
   obtain rfl := Option.some.inj ht
   exact nM (X := fun args M => evB (cx F) (evF (cx F) 2) 2 155 args M K) (h1.trans (sV args M)) (h2.trans (r9 args M)) (nN (rG _ _ _ _ _ _ _ _ _ _ _ _ _ _ _ _ _ _ _ _ _ _ _ _ _ _ _ _ _ _ _ _ _ _) (sI F K _ _ _ _ _ _ _ _ _ _ _ _ _ _ _ _ _ _ _ _ _ _ _ _ _ _ _ _ _ _ _ _ _)) hgo
 · exact absurd ht (by simp)
end
end Go.Proofs.Ytcknhfnbdgleiaa
