/- The loops come to what their functions say. (Printed by a program of mine, gen.py.) -/
import Derived.Test.YtcknhfnbdgleiaaCoC
set_option linter.unusedVariables false
set_option linter.unusedSimpArgs false
namespace Go.Proofs.Ytcknhfnbdgleiaa
open Go.AE
noncomputable section
theorem uE {R : Type} (l1 : List AV) (n0 : Nat) (i1 i2 i3 : Int) (n1 : Nat) (i4 i5 i6 : Int) (n2 : Nat) (K : AX → Fr → Mm → Option R) : (dn l1 n0 i1 i2 i3 n1 i4 i5 i6 n2 LO.bad).go K = none := by kernel_rfl
noncomputable def aR : Code := ((Try.f121.body.bind fun c => kC c 1).getD .skip)
set_option maxRecDepth 100000 in
theorem uT (F : Tab) {R : Type} (call : mo R) (dep : Nat) (K : AX → Fr → Mm → Option R) (kk : Fr → Mm → Option R) (l1 : List AV) (n0 : Nat) (i1 i2 i3 : Int) (n1 : Nat) (i4 i5 i6 : Int) (n2 : Nat) (s : Int × List AV × List AV) :
    evC (cx F) 121 call dep aR (dh l1 n0 i1 i2 i3 n1 i4 i5 i6 n2 s) (dw l1 n0 i1 i2 i3 n1 i4 i5 i6 n2 s) (aS Pg [] 8 (some ([1, 2, 3], [])) K kk) =
    (bF F l1 n0 i1 i2 i3 n1 i4 i5 i6 n2 s).go (dn l1 n0 i1 i2 i3 n1 i4 i5 i6 n2) K (fun s => kk (dh l1 n0 i1 i2 i3 n1 i4 i5 i6 n2 s) (dw l1 n0 i1 i2 i3 n1 i4 i5 i6 n2 s)) := by kernel_rfl
set_option maxRecDepth 100000 in
theorem wE (F : Tab) {R : Type} (call : mo R) (dep : Nat) (K : AX → Fr → Mm → Option R) (l1 : List AV) (n0 : Nat) (i1 i2 i3 : Int) (n1 : Nat) (i4 i5 i6 : Int) (n2 : Nat) (fuel : Nat) (s : Int × List AV × List AV) :
    iter fuel (fun fr M' k => evC (cx F) 121 call dep aR fr M' (aS Pg [] 8 (some ([1, 2, 3], [])) K k)) (dh l1 n0 i1 i2 i3 n1 i4 i5 i6 n2 s) (dw l1 n0 i1 i2 i3 n1 i4 i5 i6 n2 s) = (dn l1 n0 i1 i2 i3 n1 i4 i5 i6 n2 (Tr.run (bF F l1 n0 i1 i2 i3 n1 i4 i5 i6 n2) fuel s)).go K :=
 qc (B := fun fr M' k => evC (cx F) 121 call dep aR fr M' (aS Pg [] 8 (some ([1, 2, 3], [])) K k)) (step := bF F l1 n0 i1 i2 i3 n1 i4 i5 i6 n2) (lt := dn l1 n0 i1 i2 i3 n1 i4 i5 i6 n2) (sF := dh l1 n0 i1 i2 i3 n1 i4 i5 i6 n2) (sM := dw l1 n0 i1 i2 i3 n1 i4 i5 i6 n2) (K := K) (uE l1 n0 i1 i2 i3 n1 i4 i5 i6 n2 K) (fun s kk => uT F call dep K kk l1 n0 i1 i2 i3 n1 i4 i5 i6 n2 s) fuel s
set_option maxRecDepth 100000 in
theorem uV (fr : Fr) (M : Mm) : jI.fr fr = dh (ak (pA (vR M 0) 0)) (jB (pA (vR M 3) 0)) (intOf (pA (vR M 4) 0)) (intOf (pA (vR M 4) 1)) (intOf (pA (vR M 4) 2)) (jB (pA (vR M 5) 0)) (intOf (pA (vR M 6) 0)) (intOf (pA (vR M 6) 1)) (intOf (pA (vR M 6) 2)) (jB (pA (vR M 7) 0)) ((intOf (tA fr 1)), (ak (tA fr 2)), (yD (oR M 2))) := by kernel_rfl
set_option maxRecDepth 100000 in
theorem uX (fr : Fr) (M : Mm) : jI.mm M = dw (ak (pA (vR M 0) 0)) (jB (pA (vR M 3) 0)) (intOf (pA (vR M 4) 0)) (intOf (pA (vR M 4) 1)) (intOf (pA (vR M 4) 2)) (jB (pA (vR M 5) 0)) (intOf (pA (vR M 6) 0)) (intOf (pA (vR M 6) 1)) (intOf (pA (vR M 6) 2)) (jB (pA (vR M 7) 0)) ((intOf (tA fr 1)), (ak (tA fr 2)), (yD (oR M 2))) := by kernel_rfl
set_option maxRecDepth 100000 in
theorem uU (F : Tab) {dep : Nat} {fr : Fr} {M : Mm} {t : LT} (ht : jH F dep fr M = some t) {R : Type} (K : AX → Fr → Mm → Option R) (r : R) (hgo : t.go K = some r) :
    iter 100000 (fun fr' M' k => evC (cx F) 121 (evF (cx F) dep) dep aR fr' M' (aS Pg [] M.rows.length (some ([1, 2, 3], [])) K k)) fr M = some r := by
 unfold jH at ht
 split at ht
 · rename_i hok
   obtain ⟨h1, h2⟩ := StP.ok_eq hok
   obtain rfl := Option.some.inj ht
   exact Gl (X := fun fr M => iter 100000 (fun fr' M' k => evC (cx F) 121 (evF (cx F) dep) dep aR fr' M' (aS Pg [] M.rows.length (some ([1, 2, 3], [])) K k)) fr M) (h1.trans (uV fr M)) (h2.trans (uX fr M)) (wE F _ _ K _ _ _ _ _ _ _ _ _ _ 100000 _) hgo
 · exact absurd ht (by simp)
set_option maxRecDepth 100000 in
theorem uS : (Try.f121.body.bind fun c => kC c 1) = some aR := by kernel_rfl
theorem zx {R : Type} (n0 : Nat) (l0 : List AV) (i0 : Int) (l1 : List AV) (n1 : Nat) (K : AX → Fr → Mm → Option R) : (fQ n0 l0 i0 l1 n1 LO.bad).go K = none := by kernel_rfl
noncomputable def bn : Code := ((Try.f24.body.bind fun c => kC c 4).getD .skip)
set_option maxRecDepth 100000 in
theorem zY (F : Tab) {R : Type} (K : AX → Fr → Mm → Option R) (kk : Fr → Mm → Option R) (n0 : Nat) (l0 : List AV) (i0 : Int) (l1 : List AV) (n1 : Nat) (s : Int × List AV) :
    evC (cx F) 24 (evF (cx F) 5) 5 bn (gP n0 l0 i0 l1 n1 s) (fP n0 l0 i0 l1 n1 s) (aS Pg [] 4 (some ([2, 4, 6, 7, 16, 17, 18], [4, 5, 6])) K kk) =
    (bJ F n0 l0 i0 l1 n1 s).go (fQ n0 l0 i0 l1 n1) K (fun s => kk (gP n0 l0 i0 l1 n1 s) (fP n0 l0 i0 l1 n1 s)) := by kernel_rfl
set_option maxRecDepth 100000 in
theorem zT (F : Tab) {R : Type} (K : AX → Fr → Mm → Option R) (n0 : Nat) (l0 : List AV) (i0 : Int) (l1 : List AV) (n1 : Nat) (fuel : Nat) (s : Int × List AV) :
    iter fuel (fun fr M' k => evC (cx F) 24 (evF (cx F) 5) 5 bn fr M' (aS Pg [] 4 (some ([2, 4, 6, 7, 16, 17, 18], [4, 5, 6])) K k)) (gP n0 l0 i0 l1 n1 s) (fP n0 l0 i0 l1 n1 s) = (fQ n0 l0 i0 l1 n1 (Tr.run (bJ F n0 l0 i0 l1 n1) fuel s)).go K :=
 qc (B := fun fr M' k => evC (cx F) 24 (evF (cx F) 5) 5 bn fr M' (aS Pg [] 4 (some ([2, 4, 6, 7, 16, 17, 18], [4, 5, 6])) K k)) (step := bJ F n0 l0 i0 l1 n1) (lt := fQ n0 l0 i0 l1 n1) (sF := gP n0 l0 i0 l1 n1) (sM := fP n0 l0 i0 l1 n1) (K := K) (zx n0 l0 i0 l1 n1 K) (fun s kk => zY F K kk n0 l0 i0 l1 n1 s) fuel s
set_option maxRecDepth 100000 in
theorem Ad (fr : Fr) (M : Mm) : mU.fr fr = gP (jB (pA ((BQ (tA fr 7)).getD 0 .dead) 0)) (ak (tA fr 16)) (intOf (tA fr 17)) (ak (pA (vR M 0) 0)) (jB (pA (vR M 3) 0)) ((intOf (tA fr 18)), (yD (oR M 2))) := by kernel_rfl
set_option maxRecDepth 100000 in
theorem zU (fr : Fr) (M : Mm) : mU.mm M = fP (jB (pA ((BQ (tA fr 7)).getD 0 .dead) 0)) (ak (tA fr 16)) (intOf (tA fr 17)) (ak (pA (vR M 0) 0)) (jB (pA (vR M 3) 0)) ((intOf (tA fr 18)), (yD (oR M 2))) := by kernel_rfl
set_option maxRecDepth 100000 in
theorem Af (F : Tab) {dep : Nat} {fr : Fr} {M : Mm} {t : LT} (ht : mO F dep fr M = some t) {R : Type} (K : AX → Fr → Mm → Option R) (r : R) (hgo : t.go K = some r) :
    iter 100000 (fun fr' M' k => evC (cx F) 24 (evF (cx F) dep) dep bn fr' M' (aS Pg [] M.rows.length (some ([2, 4, 6, 7, 16, 17, 18], [4, 5, 6])) K k)) fr M = some r := by
 unfold mO at ht
 split at ht
 · rename_i hok
   simp only [Bool.and_eq_true, Nat.beq_eq] at hok
   obtain ⟨rfl, hok⟩ := hok
   obtain ⟨h1, h2⟩ := StP.ok_eq hok
   obtain rfl := Option.some.inj ht
   exact Gl (X := fun fr M => iter 100000 (fun fr' M' k => evC (cx F) 24 (evF (cx F) 5) 5 bn fr' M' (aS Pg [] M.rows.length (some ([2, 4, 6, 7, 16, 17, 18], [4, 5, 6])) K k)) fr M) (h1.trans (Ad fr M)) (h2.trans (zU fr M)) (zT F K _ _ _ _ _ 100000 _) hgo
 · exact absurd ht (by simp)
set_option maxRecDepth 100000 in
theorem zR : (Try.f24.body.bind fun c => kC c 4) = some bn := by kernel_rfl
theorem uq {R : Type} (i0 i1 i2 : Int) (l0 l1 : List AV) (b0 b1 b2 : Bool) (i3 : Int) (l2 : List AV) (i4 : Int) (l3 l4 : List AV) (b3 b4 : Bool) (i5 : Int) (l5 : List AV) (i6 i7 : Int) (l6 l7 : List AV) (b5 b6 b7 : Bool) (i8 i9 : Int) (l8 l9 : List AV) (i10 i11 i12 i13 i14 i15 i16 : Int) (l10 l11 : List AV) (K : AX → Fr → Mm → Option R) : (jK i0 i1 i2 l0 l1 b0 b1 b2 i3 l2 i4 l3 l4 b3 b4 i5 l5 i6 i7 l6 l7 b5 b6 b7 i8 i9 l8 l9 i10 i11 i12 i13 i14 i15 i16 l10 l11 LO.bad).go K = none := by kernel_rfl
set_option maxRecDepth 100000 in
theorem vQ (F : Tab) {R : Type} (K : Res → Mm → Option R) (i0 i1 i2 : Int) (l0 l1 : List AV) (b0 b1 b2 : Bool) (i3 : Int) (l2 : List AV) (i4 : Int) (l3 l4 : List AV) (b3 b4 : Bool) (i5 : Int) (l5 : List AV) (i6 i7 : Int) (l6 l7 : List AV) (b5 b6 b7 : Bool) (i8 i9 : Int) (l8 l9 : List AV) (i10 i11 i12 i13 i14 i15 i16 : Int) (l10 l11 : List AV) :
    evB (cx F) (evF (cx F) 1) 1 155 (nu i0 i1 i2 l0 l1 b0 b1 b2 i3 l2 i4 l3 l4 b3 b4 i5 l5 i6 i7 l6 l7 b5 b6 b7 i8 i9 l8 l9 i10 i11 i12 i13 i14 i15 i16 l10 l11) (nE i0 i1 i2 l0 l1 b0 b1 b2 i3 l2 i4 l3 l4 b3 b4 i5 l5 i6 i7 l6 l7 b5 b6 b7 i8 i9 l8 l9 i10 i11 i12 i13 i14 i15 i16 l10 l11) K = (jr F i0 i1 i2 l0 l1 b0 b1 b2 i3 l2 i4 l3 l4 b3 b4 i5 l5 i6 i7 l6 l7 b5 b6 b7 i8 i9 l8 l9 i10 i11 i12 i13 i14 i15 i16 l10 l11).go (jK i0 i1 i2 l0 l1 b0 b1 b2 i3 l2 i4 l3 l4 b3 b4 i5 l5 i6 i7 l6 l7 b5 b6 b7 i8 i9 l8 l9 i10 i11 i12 i13 i14 i15 i16 l10 l11) (resK K) (fun _ => none) := by kernel_rfl
set_option maxRecDepth 100000 in
theorem vZ (args : List AV) (M : Mm) : jv.args args = nu (intOf (args.getD 1 .dead)) (intOf (args.getD 2 .dead)) (intOf (pA (vR M 0) 0)) (partsOf (pA (vR M 0) 1)) (partsOf (pA (vR M 0) 2)) (aj (pA (vR M 0) 3)) (aj (pA (vR M 0) 4)) (aj (pA (vR M 0) 5)) (intOf (pA (vR M 0) 6)) (ak (pA (vR M 1) 0)) (intOf (pA (pA (vR M 3) 0) 0)) (partsOf (pA (pA (vR M 3) 0) 1)) (partsOf (pA (pA (vR M 3) 0) 2)) (aj (pA (pA (vR M 3) 0) 3)) (aj (pA (pA (vR M 3) 0) 5)) (intOf (pA (pA (vR M 3) 0) 6)) (ak (pA (pA (vR M 3) 1) 0)) (intOf (pA (vR M 3) 2)) (intOf (pA (pA (pA (vR M 3) 3) 2) 0)) (partsOf (pA (pA (pA (vR M 3) 3) 2) 1)) (partsOf (pA (pA (pA (vR M 3) 3) 2) 2)) (aj (pA (pA (pA (vR M 3) 3) 2) 3)) (aj (pA (pA (pA (vR M 3) 3) 2) 4)) (aj (pA (pA (pA (vR M 3) 3) 2) 5)) (intOf (pA (pA (pA (vR M 3) 3) 2) 6)) (intOf (pA (pA (vR M 3) 3) 3)) (ak (pA (pA (vR M 3) 3) 4)) (ak (pA (pA (vR M 3) 3) 5)) (intOf (pA (pA (vR M 3) 4) 0)) (intOf (pA (pA (vR M 3) 4) 1)) (intOf (pA (pA (vR M 3) 4) 2)) (intOf (pA (pA (vR M 3) 4) 3)) (intOf (pA (pA (vR M 3) 4) 4)) (intOf (pA (vR M 5) 0)) (intOf (pA (vR M 5) 1)) (ak (pA (vR M 5) 2)) (ak (pA (vR M 5) 3)) := by kernel_rfl
set_option maxRecDepth 100000 in
theorem vJ (args : List AV) (M : Mm) : jv.mm M = nE (intOf (args.getD 1 .dead)) (intOf (args.getD 2 .dead)) (intOf (pA (vR M 0) 0)) (partsOf (pA (vR M 0) 1)) (partsOf (pA (vR M 0) 2)) (aj (pA (vR M 0) 3)) (aj (pA (vR M 0) 4)) (aj (pA (vR M 0) 5)) (intOf (pA (vR M 0) 6)) (ak (pA (vR M 1) 0)) (intOf (pA (pA (vR M 3) 0) 0)) (partsOf (pA (pA (vR M 3) 0) 1)) (partsOf (pA (pA (vR M 3) 0) 2)) (aj (pA (pA (vR M 3) 0) 3)) (aj (pA (pA (vR M 3) 0) 5)) (intOf (pA (pA (vR M 3) 0) 6)) (ak (pA (pA (vR M 3) 1) 0)) (intOf (pA (vR M 3) 2)) (intOf (pA (pA (pA (vR M 3) 3) 2) 0)) (partsOf (pA (pA (pA (vR M 3) 3) 2) 1)) (partsOf (pA (pA (pA (vR M 3) 3) 2) 2)) (aj (pA (pA (pA (vR M 3) 3) 2) 3)) (aj (pA (pA (pA (vR M 3) 3) 2) 4)) (aj (pA (pA (pA (vR M 3) 3) 2) 5)) (intOf (pA (pA (pA (vR M 3) 3) 2) 6)) (intOf (pA (pA (vR M 3) 3) 3)) (ak (pA (pA (vR M 3) 3) 4)) (ak (pA (pA (vR M 3) 3) 5)) (intOf (pA (pA (vR M 3) 4) 0)) (intOf (pA (pA (vR M 3) 4) 1)) (intOf (pA (pA (vR M 3) 4) 2)) (intOf (pA (pA (vR M 3) 4) 3)) (intOf (pA (pA (vR M 3) 4) 4)) (intOf (pA (vR M 5) 0)) (intOf (pA (vR M 5) 1)) (ak (pA (vR M 5) 2)) (ak (pA (vR M 5) 3)) := by kernel_rfl
set_option maxRecDepth 100000 in
theorem wu (F : Tab) {dep : Nat} {args : List AV} {M : Mm} {t : LT} (ht : jD F dep args M = some t) {R : Type} (K : Res → Mm → Option R) (r : R) (hgo : t.go (resK K) = some r) :
    evB (cx F) (evF (cx F) dep) dep 155 args M K = some r := by
 unfold jD at ht
 split at ht
 · rename_i hok
   simp only [Bool.and_eq_true, Nat.beq_eq] at hok
   obtain ⟨rfl, hok⟩ := hok
   obtain ⟨h1, h2⟩ := ArP.ok_eq hok
   obtain rfl := Option.some.inj ht
   exact nS (X := fun args M => evB (cx F) (evF (cx F) 1) 1 155 args M K) (h1.trans (vZ args M)) (h2.trans (vJ args M)) (nP (uq _ _ _ _ _ _ _ _ _ _ _ _ _ _ _ _ _ _ _ _ _ _ _ _ _ _ _ _ _ _ _ _ _ _ _ _ _ _) (vQ F K _ _ _ _ _ _ _ _ _ _ _ _ _ _ _ _ _ _ _ _ _ _ _ _ _ _ _ _ _ _ _ _ _ _ _ _ _)) hgo
 · exact absurd ht (by simp)
theorem p9 {R : Type} (i0 i1 : Int) (l0 : List AV) (i2 i4 : Int) (l1 l2 : List AV) (b0 b1 b2 : Bool) (i5 : Int) (l3 : List AV) (i6 : Int) (l4 l5 : List AV) (b3 b4 : Bool) (i7 : Int) (l6 : List AV) (i8 i9 : Int) (l7 l8 : List AV) (b5 b6 b7 : Bool) (i10 i11 : Int) (l9 : List AV) (i12 i13 i14 i15 i16 i17 i18 : Int) (l11 l12 : List AV) (K : AX → Fr → Mm → Option R) : (bK i0 i1 l0 i2 i4 l1 l2 b0 b1 b2 i5 l3 i6 l4 l5 b3 b4 i7 l6 i8 i9 l7 l8 b5 b6 b7 i10 i11 l9 i12 i13 i14 i15 i16 i17 i18 l11 l12 LO.bad).go K = none := by kernel_rfl
noncomputable def aK : Code := ((Try.f156.body.bind fun c => kC c 3).getD .skip)
set_option maxRecDepth 100000 in
theorem qK (F : Tab) {R : Type} (K : AX → Fr → Mm → Option R) (kk : Fr → Mm → Option R) (i0 i1 : Int) (l0 : List AV) (i2 i4 : Int) (l1 l2 : List AV) (b0 b1 b2 : Bool) (i5 : Int) (l3 : List AV) (i6 : Int) (l4 l5 : List AV) (b3 b4 : Bool) (i7 : Int) (l6 : List AV) (i8 i9 : Int) (l7 l8 : List AV) (b5 b6 b7 : Bool) (i10 i11 : Int) (l9 : List AV) (i12 i13 i14 i15 i16 i17 i18 : Int) (l11 l12 : List AV) (s : Int × List AV) :
    evC (cx F) 156 (evF (cx F) 2) 2 aK (bR i0 i1 l0 i2 i4 l1 l2 b0 b1 b2 i5 l3 i6 l4 l5 b3 b4 i7 l6 i8 i9 l7 l8 b5 b6 b7 i10 i11 l9 i12 i13 i14 i15 i16 i17 i18 l11 l12 s) (bB i0 i1 l0 i2 i4 l1 l2 b0 b1 b2 i5 l3 i6 l4 l5 b3 b4 i7 l6 i8 i9 l7 l8 b5 b6 b7 i10 i11 l9 i12 i13 i14 i15 i16 i17 i18 l11 l12 s) (aS Pg [] 6 (some ([0, 1, 7, 8, 37, 38, 39], [0, 1, 7, 8])) K kk) =
    (aP F i0 i1 l0 i2 i4 l1 l2 b0 b1 b2 i5 l3 i6 l4 l5 b3 b4 i7 l6 i8 i9 l7 l8 b5 b6 b7 i10 i11 l9 i12 i13 i14 i15 i16 i17 i18 l11 l12 s).go (bK i0 i1 l0 i2 i4 l1 l2 b0 b1 b2 i5 l3 i6 l4 l5 b3 b4 i7 l6 i8 i9 l7 l8 b5 b6 b7 i10 i11 l9 i12 i13 i14 i15 i16 i17 i18 l11 l12) K (fun s => kk (bR i0 i1 l0 i2 i4 l1 l2 b0 b1 b2 i5 l3 i6 l4 l5 b3 b4 i7 l6 i8 i9 l7 l8 b5 b6 b7 i10 i11 l9 i12 i13 i14 i15 i16 i17 i18 l11 l12 s) (bB i0 i1 l0 i2 i4 l1 l2 b0 b1 b2 i5 l3 i6 l4 l5 b3 b4 i7 l6 i8 i9 l7 l8 b5 b6 b7 i10 i11 l9 i12 i13 i14 i15 i16 i17 i18 l11 l12 s)) := by kernel_rfl
set_option maxRecDepth 100000 in
theorem q9 (F : Tab) {R : Type} (K : AX → Fr → Mm → Option R) (i0 i1 : Int) (l0 : List AV) (i2 i4 : Int) (l1 l2 : List AV) (b0 b1 b2 : Bool) (i5 : Int) (l3 : List AV) (i6 : Int) (l4 l5 : List AV) (b3 b4 : Bool) (i7 : Int) (l6 : List AV) (i8 i9 : Int) (l7 l8 : List AV) (b5 b6 b7 : Bool) (i10 i11 : Int) (l9 : List AV) (i12 i13 i14 i15 i16 i17 i18 : Int) (l11 l12 : List AV) (fuel : Nat) (s : Int × List AV) :
    iter fuel (fun fr M' k => evC (cx F) 156 (evF (cx F) 2) 2 aK fr M' (aS Pg [] 6 (some ([0, 1, 7, 8, 37, 38, 39], [0, 1, 7, 8])) K k)) (bR i0 i1 l0 i2 i4 l1 l2 b0 b1 b2 i5 l3 i6 l4 l5 b3 b4 i7 l6 i8 i9 l7 l8 b5 b6 b7 i10 i11 l9 i12 i13 i14 i15 i16 i17 i18 l11 l12 s) (bB i0 i1 l0 i2 i4 l1 l2 b0 b1 b2 i5 l3 i6 l4 l5 b3 b4 i7 l6 i8 i9 l7 l8 b5 b6 b7 i10 i11 l9 i12 i13 i14 i15 i16 i17 i18 l11 l12 s) = (bK i0 i1 l0 i2 i4 l1 l2 b0 b1 b2 i5 l3 i6 l4 l5 b3 b4 i7 l6 i8 i9 l7 l8 b5 b6 b7 i10 i11 l9 i12 i13 i14 i15 i16 i17 i18 l11 l12 (Tr.run (aP F i0 i1 l0 i2 i4 l1 l2 b0 b1 b2 i5 l3 i6 l4 l5 b3 b4 i7 l6 i8 i9 l7 l8 b5 b6 b7 i10 i11 l9 i12 i13 i14 i15 i16 i17 i18 l11 l12) fuel s)).go K :=
 qc (B := fun fr M' k => evC (cx F) 156 (evF (cx F) 2) 2 aK fr M' (aS Pg [] 6 (some ([0, 1, 7, 8, 37, 38, 39], [0, 1, 7, 8])) K k)) (step := aP F i0 i1 l0 i2 i4 l1 l2 b0 b1 b2 i5 l3 i6 l4 l5 b3 b4 i7 l6 i8 i9 l7 l8 b5 b6 b7 i10 i11 l9 i12 i13 i14 i15 i16 i17 i18 l11 l12) (lt := bK i0 i1 l0 i2 i4 l1 l2 b0 b1 b2 i5 l3 i6 l4 l5 b3 b4 i7 l6 i8 i9 l7 l8 b5 b6 b7 i10 i11 l9 i12 i13 i14 i15 i16 i17 i18 l11 l12) (sF := bR i0 i1 l0 i2 i4 l1 l2 b0 b1 b2 i5 l3 i6 l4 l5 b3 b4 i7 l6 i8 i9 l7 l8 b5 b6 b7 i10 i11 l9 i12 i13 i14 i15 i16 i17 i18 l11 l12) (sM := bB i0 i1 l0 i2 i4 l1 l2 b0 b1 b2 i5 l3 i6 l4 l5 b3 b4 i7 l6 i8 i9 l7 l8 b5 b6 b7 i10 i11 l9 i12 i13 i14 i15 i16 i17 i18 l11 l12) (K := K) (p9 i0 i1 l0 i2 i4 l1 l2 b0 b1 b2 i5 l3 i6 l4 l5 b3 b4 i7 l6 i8 i9 l7 l8 b5 b6 b7 i10 i11 l9 i12 i13 i14 i15 i16 i17 i18 l11 l12 K) (fun s kk => qK F K kk i0 i1 l0 i2 i4 l1 l2 b0 b1 b2 i5 l3 i6 l4 l5 b3 b4 i7 l6 i8 i9 l7 l8 b5 b6 b7 i10 i11 l9 i12 i13 i14 i15 i16 i17 i18 l11 l12 s) fuel s
set_option maxRecDepth 100000 in
theorem rG (fr : Fr) (M : Mm) : fU.fr fr = bR (intOf (tA fr 1)) (intOf (tA fr 8)) (ak (tA fr 37)) (intOf (tA fr 38)) (intOf (pA (vR M 0) 0)) (partsOf (pA (vR M 0) 1)) (partsOf (pA (vR M 0) 2)) (aj (pA (vR M 0) 3)) (aj (pA (vR M 0) 4)) (aj (pA (vR M 0) 5)) (intOf (pA (vR M 0) 6)) (ak (pA (vR M 1) 0)) (intOf (pA (pA (vR M 3) 0) 0)) (partsOf (pA (pA (vR M 3) 0) 1)) (partsOf (pA (pA (vR M 3) 0) 2)) (aj (pA (pA (vR M 3) 0) 3)) (aj (pA (pA (vR M 3) 0) 5)) (intOf (pA (pA (vR M 3) 0) 6)) (ak (pA (pA (vR M 3) 1) 0)) (intOf (pA (vR M 3) 2)) (intOf (pA (pA (pA (vR M 3) 3) 2) 0)) (partsOf (pA (pA (pA (vR M 3) 3) 2) 1)) (partsOf (pA (pA (pA (vR M 3) 3) 2) 2)) (aj (pA (pA (pA (vR M 3) 3) 2) 3)) (aj (pA (pA (pA (vR M 3) 3) 2) 4)) (aj (pA (pA (pA (vR M 3) 3) 2) 5)) (intOf (pA (pA (pA (vR M 3) 3) 2) 6)) (intOf (pA (pA (vR M 3) 3) 3)) (ak (pA (pA (vR M 3) 3) 4)) (intOf (pA (pA (vR M 3) 4) 0)) (intOf (pA (pA (vR M 3) 4) 1)) (intOf (pA (pA (vR M 3) 4) 2)) (intOf (pA (pA (vR M 3) 4) 3)) (intOf (pA (pA (vR M 3) 4) 4)) (intOf (pA (vR M 5) 0)) (intOf (pA (vR M 5) 1)) (ak (pA (vR M 5) 2)) (ak (pA (vR M 5) 3)) ((intOf (tA fr 39)), (ak (pA (pA (vR M 3) 3) 5))) := by kernel_rfl
set_option maxRecDepth 100000 in
theorem qZ (fr : Fr) (M : Mm) : fU.mm M = bB (intOf (tA fr 1)) (intOf (tA fr 8)) (ak (tA fr 37)) (intOf (tA fr 38)) (intOf (pA (vR M 0) 0)) (partsOf (pA (vR M 0) 1)) (partsOf (pA (vR M 0) 2)) (aj (pA (vR M 0) 3)) (aj (pA (vR M 0) 4)) (aj (pA (vR M 0) 5)) (intOf (pA (vR M 0) 6)) (ak (pA (vR M 1) 0)) (intOf (pA (pA (vR M 3) 0) 0)) (partsOf (pA (pA (vR M 3) 0) 1)) (partsOf (pA (pA (vR M 3) 0) 2)) (aj (pA (pA (vR M 3) 0) 3)) (aj (pA (pA (vR M 3) 0) 5)) (intOf (pA (pA (vR M 3) 0) 6)) (ak (pA (pA (vR M 3) 1) 0)) (intOf (pA (vR M 3) 2)) (intOf (pA (pA (pA (vR M 3) 3) 2) 0)) (partsOf (pA (pA (pA (vR M 3) 3) 2) 1)) (partsOf (pA (pA (pA (vR M 3) 3) 2) 2)) (aj (pA (pA (pA (vR M 3) 3) 2) 3)) (aj (pA (pA (pA (vR M 3) 3) 2) 4)) (aj (pA (pA (pA (vR M 3) 3) 2) 5)) (intOf (pA (pA (pA (vR M 3) 3) 2) 6)) (intOf (pA (pA (vR M 3) 3) 3)) (ak (pA (pA (vR M 3) 3) 4)) (intOf (pA (pA (vR M 3) 4) 0)) (intOf (pA (pA (vR M 3) 4) 1)) (intOf (pA (pA (vR M 3) 4) 2)) (intOf (pA (pA (vR M 3) 4) 3)) (intOf (pA (pA (vR M 3) 4) 4)) (intOf (pA (vR M 5) 0)) (intOf (pA (vR M 5) 1)) (ak (pA (vR M 5) 2)) (ak (pA (vR M 5) 3)) ((intOf (tA fr 39)), (ak (pA (pA (vR M 3) 3) 5))) := by kernel_rfl
set_option maxRecDepth 100000 in
theorem qC (F : Tab) {dep : Nat} {fr : Fr} {M : Mm} {t : LT} (ht : gK F dep fr M = some t) {R : Type} (K : AX → Fr → Mm → Option R) (r : R) (hgo : t.go K = some r) :
    iter 100000 (fun fr' M' k => evC (cx F) 156 (evF (cx F) dep) dep aK fr' M' (aS Pg [] M.rows.length (some ([0, 1, 7, 8, 37, 38, 39], [0, 1, 7, 8])) K k)) fr M = some r := by
 unfold gK at ht
 split at ht
 · rename_i hok
   simp only [Bool.and_eq_true, Nat.beq_eq] at hok
   obtain ⟨rfl, hok⟩ := hok
   obtain ⟨h1, h2⟩ := StP.ok_eq hok
   obtain rfl := Option.some.inj ht
   exact Gl (X := fun fr M => iter 100000 (fun fr' M' k => evC (cx F) 156 (evF (cx F) 2) 2 aK fr' M' (aS Pg [] M.rows.length (some ([0, 1, 7, 8, 37, 38, 39], [0, 1, 7, 8])) K k)) fr M) (h1.trans (rG fr M)) (h2.trans (qZ fr M)) (q9 F K _ _ _ _ _ _ _ _ _ _ _ _ _ _ _ _ _ _ _ _ _ _ _ _ _ _ _ _ _ _ _ _ _ _ _ _ _ _ 100000 _) hgo
 · exact absurd ht (by simp)
set_option maxRecDepth 100000 in
theorem qU : (Try.f156.body.bind fun c => kC c 3) = some aK := by kernel_rfl
theorem uf {R : Type} (i0 i1 i2 i3 : Int) (l0 l1 : List AV) (b0 b1 b2 : Bool) (i4 : Int) (l2 : List AV) (i5 : Int) (l3 l4 : List AV) (b3 b4 : Bool) (i6 : Int) (l5 : List AV) (i7 i8 : Int) (l6 l7 : List AV) (b5 b6 b7 : Bool) (i9 i10 : Int) (l8 l9 : List AV) (i11 i12 i13 i14 i15 i16 i17 : Int) (l10 l11 : List AV) (i18 i19 i20 : Int) (K : AX → Fr → Mm → Option R) : (ji i0 i1 i2 i3 l0 l1 b0 b1 b2 i4 l2 i5 l3 l4 b3 b4 i6 l5 i7 i8 l6 l7 b5 b6 b7 i9 i10 l8 l9 i11 i12 i13 i14 i15 i16 i17 l10 l11 i18 i19 i20 LO.bad).go K = none := by kernel_rfl
set_option maxRecDepth 100000 in
theorem uL (F : Tab) {R : Type} (K : Res → Mm → Option R) (i0 i1 i2 i3 : Int) (l0 l1 : List AV) (b0 b1 b2 : Bool) (i4 : Int) (l2 : List AV) (i5 : Int) (l3 l4 : List AV) (b3 b4 : Bool) (i6 : Int) (l5 : List AV) (i7 i8 : Int) (l6 l7 : List AV) (b5 b6 b7 : Bool) (i9 i10 : Int) (l8 l9 : List AV) (i11 i12 i13 i14 i15 i16 i17 : Int) (l10 l11 : List AV) (i18 i19 i20 : Int) :
    evB (cx F) (evF (cx F) 1) 1 159 (mI i0 i1 i2 i3 l0 l1 b0 b1 b2 i4 l2 i5 l3 l4 b3 b4 i6 l5 i7 i8 l6 l7 b5 b6 b7 i9 i10 l8 l9 i11 i12 i13 i14 i15 i16 i17 l10 l11 i18 i19 i20) (mG i0 i1 i2 i3 l0 l1 b0 b1 b2 i4 l2 i5 l3 l4 b3 b4 i6 l5 i7 i8 l6 l7 b5 b6 b7 i9 i10 l8 l9 i11 i12 i13 i14 i15 i16 i17 l10 l11 i18 i19 i20) K = (iY F i0 i1 i2 i3 l0 l1 b0 b1 b2 i4 l2 i5 l3 l4 b3 b4 i6 l5 i7 i8 l6 l7 b5 b6 b7 i9 i10 l8 l9 i11 i12 i13 i14 i15 i16 i17 l10 l11 i18 i19 i20).go (ji i0 i1 i2 i3 l0 l1 b0 b1 b2 i4 l2 i5 l3 l4 b3 b4 i6 l5 i7 i8 l6 l7 b5 b6 b7 i9 i10 l8 l9 i11 i12 i13 i14 i15 i16 i17 l10 l11 i18 i19 i20) (resK K) (fun _ => none) := by kernel_rfl
set_option maxRecDepth 100000 in
theorem uG (args : List AV) (M : Mm) : je.args args = mI (intOf (pA (args.getD 1 .dead) 0)) (intOf (pA (args.getD 1 .dead) 1)) (intOf (pA (args.getD 1 .dead) 2)) (intOf (pA (vR M 0) 0)) (partsOf (pA (vR M 0) 1)) (partsOf (pA (vR M 0) 2)) (aj (pA (vR M 0) 3)) (aj (pA (vR M 0) 4)) (aj (pA (vR M 0) 5)) (intOf (pA (vR M 0) 6)) (ak (pA (vR M 1) 0)) (intOf (pA (pA (vR M 3) 0) 0)) (partsOf (pA (pA (vR M 3) 0) 1)) (partsOf (pA (pA (vR M 3) 0) 2)) (aj (pA (pA (vR M 3) 0) 3)) (aj (pA (pA (vR M 3) 0) 5)) (intOf (pA (pA (vR M 3) 0) 6)) (ak (pA (pA (vR M 3) 1) 0)) (intOf (pA (vR M 3) 2)) (intOf (pA (pA (pA (vR M 3) 3) 2) 0)) (partsOf (pA (pA (pA (vR M 3) 3) 2) 1)) (partsOf (pA (pA (pA (vR M 3) 3) 2) 2)) (aj (pA (pA (pA (vR M 3) 3) 2) 3)) (aj (pA (pA (pA (vR M 3) 3) 2) 4)) (aj (pA (pA (pA (vR M 3) 3) 2) 5)) (intOf (pA (pA (pA (vR M 3) 3) 2) 6)) (intOf (pA (pA (vR M 3) 3) 3)) (ak (pA (pA (vR M 3) 3) 4)) (ak (pA (pA (vR M 3) 3) 5)) (intOf (pA (pA (vR M 3) 4) 0)) (intOf (pA (pA (vR M 3) 4) 1)) (intOf (pA (pA (vR M 3) 4) 2)) (intOf (pA (pA (vR M 3) 4) 3)) (intOf (pA (pA (vR M 3) 4) 4)) (intOf (pA (vR M 5) 0)) (intOf (pA (vR M 5) 1)) (ak (pA (vR M 5) 2)) (ak (pA (vR M 5) 3)) (intOf (pA (vR M 6) 0)) (intOf (pA (vR M 6) 1)) (intOf (pA (vR M 6) 2)) := by kernel_rfl
set_option maxRecDepth 100000 in
theorem uI (args : List AV) (M : Mm) : je.mm M = mG (intOf (pA (args.getD 1 .dead) 0)) (intOf (pA (args.getD 1 .dead) 1)) (intOf (pA (args.getD 1 .dead) 2)) (intOf (pA (vR M 0) 0)) (partsOf (pA (vR M 0) 1)) (partsOf (pA (vR M 0) 2)) (aj (pA (vR M 0) 3)) (aj (pA (vR M 0) 4)) (aj (pA (vR M 0) 5)) (intOf (pA (vR M 0) 6)) (ak (pA (vR M 1) 0)) (intOf (pA (pA (vR M 3) 0) 0)) (partsOf (pA (pA (vR M 3) 0) 1)) (partsOf (pA (pA (vR M 3) 0) 2)) (aj (pA (pA (vR M 3) 0) 3)) (aj (pA (pA (vR M 3) 0) 5)) (intOf (pA (pA (vR M 3) 0) 6)) (ak (pA (pA (vR M 3) 1) 0)) (intOf (pA (vR M 3) 2)) (intOf (pA (pA (pA (vR M 3) 3) 2) 0)) (partsOf (pA (pA (pA (vR M 3) 3) 2) 1)) (partsOf (pA (pA (pA (vR M 3) 3) 2) 2)) (aj (pA (pA (pA (vR M 3) 3) 2) 3)) (aj (pA (pA (pA (vR M 3) 3) 2) 4)) (aj (pA (pA (pA (vR M 3) 3) 2) 5)) (intOf (pA (pA (pA (vR M 3) 3) 2) 6)) (intOf (pA (pA (vR M 3) 3) 3)) (ak (pA (pA (vR M 3) 3) 4)) (ak (pA (pA (vR M 3) 3) 5)) (intOf (pA (pA (vR M 3) 4) 0)) (intOf (pA (pA (vR M 3) 4) 1)) (intOf (pA (pA (vR M 3) 4) 2)) (intOf (pA (pA (vR M 3) 4) 3)) (intOf (pA (pA (vR M 3) 4) 4)) (intOf (pA (vR M 5) 0)) (intOf (pA (vR M 5) 1)) (ak (pA (vR M 5) 2)) (ak (pA (vR M 5) 3)) (intOf (pA (vR M 6) 0)) (intOf (pA (vR M 6) 1)) (intOf (pA (vR M 6) 2)) := by kernel_rfl
set_option maxRecDepth 100000 in
theorem uj (F : Tab) {dep : Nat} {args : List AV} {M : Mm} {t : LT} (ht : jf F dep args M = some t) {R : Type} (K : Res → Mm → Option R) (r : R) (hgo : t.go (resK K) = some r) :
    evB (cx F) (evF (cx F) dep) dep 159 args M K = some r := by
 unfold jf at ht
 split at ht
 · rename_i hok
   simp only [Bool.and_eq_true, Nat.beq_eq] at hok
   obtain ⟨rfl, hok⟩ := hok
   obtain ⟨h1, h2⟩ := ArP.ok_eq hok
   obtain rfl := Option.some.inj ht
   exact nS (X := fun args M => evB (cx F) (evF (cx F) 1) 1 159 args M K) (h1.trans (uG args M)) (h2.trans (uI args M)) (nP (uf _ _ _ _ _ _ _ _ _ _ _ _ _ _ _ _ _ _ _ _ _ _ _ _ _ _ _ _ _ _ _ _ _ _ _ _ _ _ _ _ _ _) (uL F K _ _ _ _ _ _ _ _ _ _ _ _ _ _ _ _ _ _ _ _ _ _ _ _ _ _ _ _ _ _ _ _ _ _ _ _ _ _ _ _ _)) hgo
 · exact absurd ht (by simp)
theorem qd {R : Type} (i0 i1 : Int) (l0 : List AV) (i2 i4 : Int) (l1 l2 : List AV) (b0 b1 b2 : Bool) (i5 : Int) (l3 : List AV) (i6 : Int) (l4 l5 : List AV) (b3 b4 : Bool) (i7 i8 i9 : Int) (l7 l8 : List AV) (b5 b6 b7 : Bool) (i10 i11 i12 i13 i14 i15 i16 i17 i18 : Int) (l11 l12 : List AV) (K : AX → Fr → Mm → Option R) : (bH i0 i1 l0 i2 i4 l1 l2 b0 b1 b2 i5 l3 i6 l4 l5 b3 b4 i7 i8 i9 l7 l8 b5 b6 b7 i10 i11 i12 i13 i14 i15 i16 i17 i18 l11 l12 LO.bad).go K = none := by kernel_rfl
noncomputable def aM : Code := ((Try.f156.body.bind fun c => kC c 8).getD .skip)
set_option maxRecDepth 100000 in
theorem qL (F : Tab) {R : Type} (K : AX → Fr → Mm → Option R) (kk : Fr → Mm → Option R) (i0 i1 : Int) (l0 : List AV) (i2 i4 : Int) (l1 l2 : List AV) (b0 b1 b2 : Bool) (i5 : Int) (l3 : List AV) (i6 : Int) (l4 l5 : List AV) (b3 b4 : Bool) (i7 i8 i9 : Int) (l7 l8 : List AV) (b5 b6 b7 : Bool) (i10 i11 i12 i13 i14 i15 i16 i17 i18 : Int) (l11 l12 : List AV) (s : Int × List AV × List AV × List AV) :
    evC (cx F) 156 (evF (cx F) 2) 2 aM (bM i0 i1 l0 i2 i4 l1 l2 b0 b1 b2 i5 l3 i6 l4 l5 b3 b4 i7 i8 i9 l7 l8 b5 b6 b7 i10 i11 i12 i13 i14 i15 i16 i17 i18 l11 l12 s) (bQ i0 i1 l0 i2 i4 l1 l2 b0 b1 b2 i5 l3 i6 l4 l5 b3 b4 i7 i8 i9 l7 l8 b5 b6 b7 i10 i11 i12 i13 i14 i15 i16 i17 i18 l11 l12 s) (aS Pg [] 6 (some ([0, 1, 7, 8, 48, 49, 50], [0, 1, 7, 8])) K kk) =
    (aO F i0 i1 l0 i2 i4 l1 l2 b0 b1 b2 i5 l3 i6 l4 l5 b3 b4 i7 i8 i9 l7 l8 b5 b6 b7 i10 i11 i12 i13 i14 i15 i16 i17 i18 l11 l12 s).go (bH i0 i1 l0 i2 i4 l1 l2 b0 b1 b2 i5 l3 i6 l4 l5 b3 b4 i7 i8 i9 l7 l8 b5 b6 b7 i10 i11 i12 i13 i14 i15 i16 i17 i18 l11 l12) K (fun s => kk (bM i0 i1 l0 i2 i4 l1 l2 b0 b1 b2 i5 l3 i6 l4 l5 b3 b4 i7 i8 i9 l7 l8 b5 b6 b7 i10 i11 i12 i13 i14 i15 i16 i17 i18 l11 l12 s) (bQ i0 i1 l0 i2 i4 l1 l2 b0 b1 b2 i5 l3 i6 l4 l5 b3 b4 i7 i8 i9 l7 l8 b5 b6 b7 i10 i11 i12 i13 i14 i15 i16 i17 i18 l11 l12 s)) := by kernel_rfl
set_option maxRecDepth 100000 in
theorem rZ (F : Tab) {R : Type} (K : AX → Fr → Mm → Option R) (i0 i1 : Int) (l0 : List AV) (i2 i4 : Int) (l1 l2 : List AV) (b0 b1 b2 : Bool) (i5 : Int) (l3 : List AV) (i6 : Int) (l4 l5 : List AV) (b3 b4 : Bool) (i7 i8 i9 : Int) (l7 l8 : List AV) (b5 b6 b7 : Bool) (i10 i11 i12 i13 i14 i15 i16 i17 i18 : Int) (l11 l12 : List AV) (fuel : Nat) (s : Int × List AV × List AV × List AV) :
    iter fuel (fun fr M' k => evC (cx F) 156 (evF (cx F) 2) 2 aM fr M' (aS Pg [] 6 (some ([0, 1, 7, 8, 48, 49, 50], [0, 1, 7, 8])) K k)) (bM i0 i1 l0 i2 i4 l1 l2 b0 b1 b2 i5 l3 i6 l4 l5 b3 b4 i7 i8 i9 l7 l8 b5 b6 b7 i10 i11 i12 i13 i14 i15 i16 i17 i18 l11 l12 s) (bQ i0 i1 l0 i2 i4 l1 l2 b0 b1 b2 i5 l3 i6 l4 l5 b3 b4 i7 i8 i9 l7 l8 b5 b6 b7 i10 i11 i12 i13 i14 i15 i16 i17 i18 l11 l12 s) = (bH i0 i1 l0 i2 i4 l1 l2 b0 b1 b2 i5 l3 i6 l4 l5 b3 b4 i7 i8 i9 l7 l8 b5 b6 b7 i10 i11 i12 i13 i14 i15 i16 i17 i18 l11 l12 (Tr.run (aO F i0 i1 l0 i2 i4 l1 l2 b0 b1 b2 i5 l3 i6 l4 l5 b3 b4 i7 i8 i9 l7 l8 b5 b6 b7 i10 i11 i12 i13 i14 i15 i16 i17 i18 l11 l12) fuel s)).go K :=
 qc (B := fun fr M' k => evC (cx F) 156 (evF (cx F) 2) 2 aM fr M' (aS Pg [] 6 (some ([0, 1, 7, 8, 48, 49, 50], [0, 1, 7, 8])) K k)) (step := aO F i0 i1 l0 i2 i4 l1 l2 b0 b1 b2 i5 l3 i6 l4 l5 b3 b4 i7 i8 i9 l7 l8 b5 b6 b7 i10 i11 i12 i13 i14 i15 i16 i17 i18 l11 l12) (lt := bH i0 i1 l0 i2 i4 l1 l2 b0 b1 b2 i5 l3 i6 l4 l5 b3 b4 i7 i8 i9 l7 l8 b5 b6 b7 i10 i11 i12 i13 i14 i15 i16 i17 i18 l11 l12) (sF := bM i0 i1 l0 i2 i4 l1 l2 b0 b1 b2 i5 l3 i6 l4 l5 b3 b4 i7 i8 i9 l7 l8 b5 b6 b7 i10 i11 i12 i13 i14 i15 i16 i17 i18 l11 l12) (sM := bQ i0 i1 l0 i2 i4 l1 l2 b0 b1 b2 i5 l3 i6 l4 l5 b3 b4 i7 i8 i9 l7 l8 b5 b6 b7 i10 i11 i12 i13 i14 i15 i16 i17 i18 l11 l12) (K := K) (qd i0 i1 l0 i2 i4 l1 l2 b0 b1 b2 i5 l3 i6 l4 l5 b3 b4 i7 i8 i9 l7 l8 b5 b6 b7 i10 i11 i12 i13 i14 i15 i16 i17 i18 l11 l12 K) (fun s kk => qL F K kk i0 i1 l0 i2 i4 l1 l2 b0 b1 b2 i5 l3 i6 l4 l5 b3 b4 i7 i8 i9 l7 l8 b5 b6 b7 i10 i11 i12 i13 i14 i15 i16 i17 i18 l11 l12 s) fuel s
set_option maxRecDepth 100000 in
theorem qo (fr : Fr) (M : Mm) : gQ.fr fr = bM (intOf (tA fr 1)) (intOf (tA fr 8)) (ak (tA fr 48)) (intOf (tA fr 49)) (intOf (pA (vR M 0) 0)) (partsOf (pA (vR M 0) 1)) (partsOf (pA (vR M 0) 2)) (aj (pA (vR M 0) 3)) (aj (pA (vR M 0) 4)) (aj (pA (vR M 0) 5)) (intOf (pA (vR M 0) 6)) (ak (pA (vR M 1) 0)) (intOf (pA (pA (vR M 3) 0) 0)) (partsOf (pA (pA (vR M 3) 0) 1)) (partsOf (pA (pA (vR M 3) 0) 2)) (aj (pA (pA (vR M 3) 0) 3)) (aj (pA (pA (vR M 3) 0) 5)) (intOf (pA (pA (vR M 3) 0) 6)) (intOf (pA (vR M 3) 2)) (intOf (pA (pA (pA (vR M 3) 3) 2) 0)) (partsOf (pA (pA (pA (vR M 3) 3) 2) 1)) (partsOf (pA (pA (pA (vR M 3) 3) 2) 2)) (aj (pA (pA (pA (vR M 3) 3) 2) 3)) (aj (pA (pA (pA (vR M 3) 3) 2) 4)) (aj (pA (pA (pA (vR M 3) 3) 2) 5)) (intOf (pA (pA (pA (vR M 3) 3) 2) 6)) (intOf (pA (pA (vR M 3) 3) 3)) (intOf (pA (pA (vR M 3) 4) 0)) (intOf (pA (pA (vR M 3) 4) 1)) (intOf (pA (pA (vR M 3) 4) 2)) (intOf (pA (pA (vR M 3) 4) 3)) (intOf (pA (pA (vR M 3) 4) 4)) (intOf (pA (vR M 5) 0)) (intOf (pA (vR M 5) 1)) (ak (pA (vR M 5) 2)) (ak (pA (vR M 5) 3)) ((intOf (tA fr 50)), (ak (pA (pA (vR M 3) 1) 0)), (ak (pA (pA (vR M 3) 3) 4)), (ak (pA (pA (vR M 3) 3) 5))) := by kernel_rfl
set_option maxRecDepth 100000 in
theorem rC (fr : Fr) (M : Mm) : gQ.mm M = bQ (intOf (tA fr 1)) (intOf (tA fr 8)) (ak (tA fr 48)) (intOf (tA fr 49)) (intOf (pA (vR M 0) 0)) (partsOf (pA (vR M 0) 1)) (partsOf (pA (vR M 0) 2)) (aj (pA (vR M 0) 3)) (aj (pA (vR M 0) 4)) (aj (pA (vR M 0) 5)) (intOf (pA (vR M 0) 6)) (ak (pA (vR M 1) 0)) (intOf (pA (pA (vR M 3) 0) 0)) (partsOf (pA (pA (vR M 3) 0) 1)) (partsOf (pA (pA (vR M 3) 0) 2)) (aj (pA (pA (vR M 3) 0) 3)) (aj (pA (pA (vR M 3) 0) 5)) (intOf (pA (pA (vR M 3) 0) 6)) (intOf (pA (vR M 3) 2)) (intOf (pA (pA (pA (vR M 3) 3) 2) 0)) (partsOf (pA (pA (pA (vR M 3) 3) 2) 1)) (partsOf (pA (pA (pA (vR M 3) 3) 2) 2)) (aj (pA (pA (pA (vR M 3) 3) 2) 3)) (aj (pA (pA (pA (vR M 3) 3) 2) 4)) (aj (pA (pA (pA (vR M 3) 3) 2) 5)) (intOf (pA (pA (pA (vR M 3) 3) 2) 6)) (intOf (pA (pA (vR M 3) 3) 3)) (intOf (pA (pA (vR M 3) 4) 0)) (intOf (pA (pA (vR M 3) 4) 1)) (intOf (pA (pA (vR M 3) 4) 2)) (intOf (pA (pA (vR M 3) 4) 3)) (intOf (pA (pA (vR M 3) 4) 4)) (intOf (pA (vR M 5) 0)) (intOf (pA (vR M 5) 1)) (ak (pA (vR M 5) 2)) (ak (pA (vR M 5) 3)) ((intOf (tA fr 50)), (ak (pA (pA (vR M 3) 1) 0)), (ak (pA (pA (vR M 3) 3) 4)), (ak (pA (pA (vR M 3) 3) 5))) := by kernel_rfl
set_option maxRecDepth 100000 in
theorem qz (F : Tab) {dep : Nat} {fr : Fr} {M : Mm} {t : LT} (ht : gy F dep fr M = some t) {R : Type} (K : AX → Fr → Mm → Option R) (r : R) (hgo : t.go K = some r) :
    iter 100000 (fun fr' M' k => evC (cx F) 156 (evF (cx F) dep) dep aM fr' M' (aS Pg [] M.rows.length (some ([0, 1, 7, 8, 48, 49, 50], [0, 1, 7, 8])) K k)) fr M = some r := by
 unfold gy at ht
 split at ht
 · rename_i hok
   simp only [Bool.and_eq_true, Nat.beq_eq] at hok
   obtain ⟨rfl, hok⟩ := hok
   obtain ⟨h1, h2⟩ := StP.ok_eq hok
   obtain rfl := Option.some.inj ht
   exact Gl (X := fun fr M => iter 100000 (fun fr' M' k => evC (cx F) 156 (evF (cx F) 2) 2 aM fr' M' (aS Pg [] M.rows.length (some ([0, 1, 7, 8, 48, 49, 50], [0, 1, 7, 8])) K k)) fr M) (h1.trans (qo fr M)) (h2.trans (rC fr M)) (rZ F K _ _ _ _ _ _ _ _ _ _ _ _ _ _ _ _ _ _ _ _ _ _ _ _ _ _ _ _ _ _ _ _ _ _ _ _ 100000 _) hgo
 · exact absurd ht (by simp)
set_option maxRecDepth 100000 in
theorem rU : (Try.f156.body.bind fun c => kC c 8) = some aM := by kernel_rfl
theorem zQ {R : Type} (l0 : List AV) (i1 i2 i3 : Int) (l1 : List AV) (n0 n1 : Nat) (K : AX → Fr → Mm → Option R) : (iL l0 i1 i2 i3 l1 n0 n1 LO.bad).go K = none := by kernel_rfl
noncomputable def bV : Code := ((Try.f57.body.bind fun c => kC c 6).getD .skip)
set_option maxRecDepth 100000 in
theorem Ba (F : Tab) {R : Type} (call : mo R) (dep : Nat) (K : AX → Fr → Mm → Option R) (kk : Fr → Mm → Option R) (l0 : List AV) (i1 i2 i3 : Int) (l1 : List AV) (n0 n1 : Nat) (s : Int × List AV) :
    evC (cx F) 57 call dep bV (iM l0 i1 i2 i3 l1 n0 n1 s) (iN l0 i1 i2 i3 l1 n0 n1 s) (aS Pg [] 7 (some ([3, 4, 6, 7], [4, 6])) K kk) =
    (aY F l0 i1 i2 i3 l1 n0 n1 s).go (iL l0 i1 i2 i3 l1 n0 n1) K (fun s => kk (iM l0 i1 i2 i3 l1 n0 n1 s) (iN l0 i1 i2 i3 l1 n0 n1 s)) := by kernel_rfl
set_option maxRecDepth 100000 in
theorem Bf (F : Tab) {R : Type} (call : mo R) (dep : Nat) (K : AX → Fr → Mm → Option R) (l0 : List AV) (i1 i2 i3 : Int) (l1 : List AV) (n0 n1 : Nat) (fuel : Nat) (s : Int × List AV) :
    iter fuel (fun fr M' k => evC (cx F) 57 call dep bV fr M' (aS Pg [] 7 (some ([3, 4, 6, 7], [4, 6])) K k)) (iM l0 i1 i2 i3 l1 n0 n1 s) (iN l0 i1 i2 i3 l1 n0 n1 s) = (iL l0 i1 i2 i3 l1 n0 n1 (Tr.run (aY F l0 i1 i2 i3 l1 n0 n1) fuel s)).go K :=
 qc (B := fun fr M' k => evC (cx F) 57 call dep bV fr M' (aS Pg [] 7 (some ([3, 4, 6, 7], [4, 6])) K k)) (step := aY F l0 i1 i2 i3 l1 n0 n1) (lt := iL l0 i1 i2 i3 l1 n0 n1) (sF := iM l0 i1 i2 i3 l1 n0 n1) (sM := iN l0 i1 i2 i3 l1 n0 n1) (K := K) (zQ l0 i1 i2 i3 l1 n0 n1 K) (fun s kk => Ba F call dep K kk l0 i1 i2 i3 l1 n0 n1 s) fuel s
set_option maxRecDepth 100000 in
theorem Bn (fr : Fr) (M : Mm) : nL.fr fr = iM (ak (pA (vR M 0) 0)) (intOf (pA (vR M 1) 0)) (intOf (pA (vR M 1) 1)) (intOf (pA (vR M 1) 2)) (ak (pA (vR M 3) 0)) (jB (pA (vR M 4) 0)) (jB (pA (vR M 6) 0)) ((intOf (tA fr 7)), (yD (oR M 5))) := by kernel_rfl
set_option maxRecDepth 100000 in
theorem Bc (fr : Fr) (M : Mm) : nL.mm M = iN (ak (pA (vR M 0) 0)) (intOf (pA (vR M 1) 0)) (intOf (pA (vR M 1) 1)) (intOf (pA (vR M 1) 2)) (ak (pA (vR M 3) 0)) (jB (pA (vR M 4) 0)) (jB (pA (vR M 6) 0)) ((intOf (tA fr 7)), (yD (oR M 5))) := by kernel_rfl
set_option maxRecDepth 100000 in
theorem A9 (F : Tab) {dep : Nat} {fr : Fr} {M : Mm} {t : LT} (ht : nO F dep fr M = some t) {R : Type} (K : AX → Fr → Mm → Option R) (r : R) (hgo : t.go K = some r) :
    iter 100000 (fun fr' M' k => evC (cx F) 57 (evF (cx F) dep) dep bV fr' M' (aS Pg [] M.rows.length (some ([3, 4, 6, 7], [4, 6])) K k)) fr M = some r := by
 unfold nO at ht
 split at ht
 · rename_i hok
   obtain ⟨h1, h2⟩ := StP.ok_eq hok
   obtain rfl := Option.some.inj ht
   exact Gl (X := fun fr M => iter 100000 (fun fr' M' k => evC (cx F) 57 (evF (cx F) dep) dep bV fr' M' (aS Pg [] M.rows.length (some ([3, 4, 6, 7], [4, 6])) K k)) fr M) (h1.trans (Bn fr M)) (h2.trans (Bc fr M)) (Bf F _ _ K _ _ _ _ _ _ _ 100000 _) hgo
 · exact absurd ht (by simp)
set_option maxRecDepth 100000 in
theorem A8 : (Try.f57.body.bind fun c => kC c 6) = some bV := by kernel_rfl
theorem xH {R : Type} (l0 l1 : List AV) (K : AX → Fr → Mm → Option R) : (dR l0 l1 LO.bad).go K = none := by kernel_rfl
noncomputable def aX : Code := ((Try.f75.body.bind fun c => kC c 4).getD .skip)
set_option maxRecDepth 100000 in
theorem yw (F : Tab) {R : Type} (call : mo R) (dep : Nat) (K : AX → Fr → Mm → Option R) (kk : Fr → Mm → Option R) (l0 l1 : List AV) (s : Int) :
    evC (cx F) 75 call dep aX (dV l0 l1 s) (dW l0 l1 s) (aS Pg [] 0 (some ([0, 1, 5], [4])) K kk) =
    (iE F l0 l1 s).go (dR l0 l1) K (fun s => kk (dV l0 l1 s) (dW l0 l1 s)) := by kernel_rfl
set_option maxRecDepth 100000 in
theorem yT (F : Tab) {R : Type} (call : mo R) (dep : Nat) (K : AX → Fr → Mm → Option R) (l0 l1 : List AV) (fuel : Nat) (s : Int) :
    iter fuel (fun fr M' k => evC (cx F) 75 call dep aX fr M' (aS Pg [] 0 (some ([0, 1, 5], [4])) K k)) (dV l0 l1 s) (dW l0 l1 s) = (dR l0 l1 (Tr.run (iE F l0 l1) fuel s)).go K :=
 qc (B := fun fr M' k => evC (cx F) 75 call dep aX fr M' (aS Pg [] 0 (some ([0, 1, 5], [4])) K k)) (step := iE F l0 l1) (lt := dR l0 l1) (sF := dV l0 l1) (sM := dW l0 l1) (K := K) (xH l0 l1 K) (fun s kk => yw F call dep K kk l0 l1 s) fuel s
set_option maxRecDepth 100000 in
theorem yH (fr : Fr) (M : Mm) : kK.fr fr = dV (ak (tA fr 0)) (ak (tA fr 1)) ((intOf (tA fr 5))) := by kernel_rfl
set_option maxRecDepth 100000 in
theorem yB (fr : Fr) (M : Mm) : kK.mm M = dW (ak (tA fr 0)) (ak (tA fr 1)) ((intOf (tA fr 5))) := by kernel_rfl
set_option maxRecDepth 100000 in
theorem yj (F : Tab) {dep : Nat} {fr : Fr} {M : Mm} {t : LT} (ht : kP F dep fr M = some t) {R : Type} (K : AX → Fr → Mm → Option R) (r : R) (hgo : t.go K = some r) :
    iter 100000 (fun fr' M' k => evC (cx F) 75 (evF (cx F) dep) dep aX fr' M' (aS Pg [] M.rows.length (some ([0, 1, 5], [4])) K k)) fr M = some r := by
 unfold kP at ht
 split at ht
 · rename_i hok
   obtain ⟨h1, h2⟩ := StP.ok_eq hok
   obtain rfl := Option.some.inj ht
   exact Gl (X := fun fr M => iter 100000 (fun fr' M' k => evC (cx F) 75 (evF (cx F) dep) dep aX fr' M' (aS Pg [] M.rows.length (some ([0, 1, 5], [4])) K k)) fr M) (h1.trans (yH fr M)) (h2.trans (yB fr M)) (yT F _ _ K _ _ 100000 _) hgo
 · exact absurd ht (by simp)
set_option maxRecDepth 100000 in
theorem yJ : (Try.f75.body.bind fun c => kC c 4) = some aX := by kernel_rfl
theorem AZ {R : Type} (i0 : Int) (l0 : List AV) (K : AX → Fr → Mm → Option R) : (jA i0 l0 LO.bad).go K = none := by kernel_rfl
noncomputable def bZ : Code := ((Try.f123.body.bind fun c => kC c 6).getD .skip)
set_option maxRecDepth 100000 in
theorem Cy (F : Tab) {R : Type} (call : mo R) (dep : Nat) (K : AX → Fr → Mm → Option R) (kk : Fr → Mm → Option R) (i0 : Int) (l0 : List AV) (s : Int × Int) :
    evC (cx F) 123 call dep bZ (jy i0 l0 s) (jM i0 l0 s) (aS Pg [] 2 (some ([1, 3, 6, 8, 9], [6, 8])) K kk) =
    (lT F i0 l0 s).go (jA i0 l0) K (fun s => kk (jy i0 l0 s) (jM i0 l0 s)) := by kernel_rfl
set_option maxRecDepth 100000 in
theorem BL (F : Tab) {R : Type} (call : mo R) (dep : Nat) (K : AX → Fr → Mm → Option R) (i0 : Int) (l0 : List AV) (fuel : Nat) (s : Int × Int) :
    iter fuel (fun fr M' k => evC (cx F) 123 call dep bZ fr M' (aS Pg [] 2 (some ([1, 3, 6, 8, 9], [6, 8])) K k)) (jy i0 l0 s) (jM i0 l0 s) = (jA i0 l0 (Tr.run (lT F i0 l0) fuel s)).go K :=
 qc (B := fun fr M' k => evC (cx F) 123 call dep bZ fr M' (aS Pg [] 2 (some ([1, 3, 6, 8, 9], [6, 8])) K k)) (step := lT F i0 l0) (lt := jA i0 l0) (sF := jy i0 l0) (sM := jM i0 l0) (K := K) (AZ i0 l0 K) (fun s kk => Cy F call dep K kk i0 l0 s) fuel s
set_option maxRecDepth 100000 in
theorem CJ (fr : Fr) (M : Mm) : oF.fr fr = jy (intOf (tA fr 1)) (ak (pA (vR M 0) 0)) ((intOf (tA fr 8)), (intOf (tA fr 9))) := by kernel_rfl
set_option maxRecDepth 100000 in
theorem BS (fr : Fr) (M : Mm) : oF.mm M = jM (intOf (tA fr 1)) (ak (pA (vR M 0) 0)) ((intOf (tA fr 8)), (intOf (tA fr 9))) := by kernel_rfl
set_option maxRecDepth 100000 in
theorem Di (F : Tab) {dep : Nat} {fr : Fr} {M : Mm} {t : LT} (ht : oQ F dep fr M = some t) {R : Type} (K : AX → Fr → Mm → Option R) (r : R) (hgo : t.go K = some r) :
    iter 100000 (fun fr' M' k => evC (cx F) 123 (evF (cx F) dep) dep bZ fr' M' (aS Pg [] M.rows.length (some ([1, 3, 6, 8, 9], [6, 8])) K k)) fr M = some r := by
 unfold oQ at ht
 split at ht
 · rename_i hok
   obtain ⟨h1, h2⟩ := StP.ok_eq hok
   obtain rfl := Option.some.inj ht
   exact Gl (X := fun fr M => iter 100000 (fun fr' M' k => evC (cx F) 123 (evF (cx F) dep) dep bZ fr' M' (aS Pg [] M.rows.length (some ([1, 3, 6, 8, 9], [6, 8])) K k)) fr M) (h1.trans (CJ fr M)) (h2.trans (BS fr M)) (BL F _ _ K _ _ 100000 _) hgo
 · exact absurd ht (by simp)
set_option maxRecDepth 100000 in
theorem BN : (Try.f123.body.bind fun c => kC c 6) = some bZ := by kernel_rfl
theorem DW {R : Type} (i0 i2 : Int) (l0 l1 : List AV) (b0 b1 b2 : Bool) (i3 : Int) (K : AX → Fr → Mm → Option R) : (lG i0 i2 l0 l1 b0 b1 b2 i3 LO.bad).go K = none := by kernel_rfl
noncomputable def dS : Code := ((Try.f129.body.bind fun c => kC c 4).getD .skip)
set_option maxRecDepth 100000 in
theorem Gq (F : Tab) {R : Type} (call : mo R) (dep : Nat) (K : AX → Fr → Mm → Option R) (kk : Fr → Mm → Option R) (i0 i2 : Int) (l0 l1 : List AV) (b0 b1 b2 : Bool) (i3 : Int) (s : Int) :
    evC (cx F) 129 call dep dS (lZ i0 i2 l0 l1 b0 b1 b2 i3 s) (lI i0 i2 l0 l1 b0 b1 b2 i3 s) (aS Pg [] 1 (some ([1, 12], [4, 5])) K kk) =
    (jS F i0 i2 l0 l1 b0 b1 b2 i3 s).go (lG i0 i2 l0 l1 b0 b1 b2 i3) K (fun s => kk (lZ i0 i2 l0 l1 b0 b1 b2 i3 s) (lI i0 i2 l0 l1 b0 b1 b2 i3 s)) := by kernel_rfl
set_option maxRecDepth 100000 in
theorem Gh (F : Tab) {R : Type} (call : mo R) (dep : Nat) (K : AX → Fr → Mm → Option R) (i0 i2 : Int) (l0 l1 : List AV) (b0 b1 b2 : Bool) (i3 : Int) (fuel : Nat) (s : Int) :
    iter fuel (fun fr M' k => evC (cx F) 129 call dep dS fr M' (aS Pg [] 1 (some ([1, 12], [4, 5])) K k)) (lZ i0 i2 l0 l1 b0 b1 b2 i3 s) (lI i0 i2 l0 l1 b0 b1 b2 i3 s) = (lG i0 i2 l0 l1 b0 b1 b2 i3 (Tr.run (jS F i0 i2 l0 l1 b0 b1 b2 i3) fuel s)).go K :=
 qc (B := fun fr M' k => evC (cx F) 129 call dep dS fr M' (aS Pg [] 1 (some ([1, 12], [4, 5])) K k)) (step := jS F i0 i2 l0 l1 b0 b1 b2 i3) (lt := lG i0 i2 l0 l1 b0 b1 b2 i3) (sF := lZ i0 i2 l0 l1 b0 b1 b2 i3) (sM := lI i0 i2 l0 l1 b0 b1 b2 i3) (K := K) (DW i0 i2 l0 l1 b0 b1 b2 i3 K) (fun s kk => Gq F call dep K kk i0 i2 l0 l1 b0 b1 b2 i3 s) fuel s
set_option maxRecDepth 100000 in
theorem E5 (fr : Fr) (M : Mm) : tF.fr fr = lZ (intOf (tA fr 1)) (intOf (pA (vR M 0) 0)) (partsOf (pA (vR M 0) 1)) (partsOf (pA (vR M 0) 2)) (aj (pA (vR M 0) 3)) (aj (pA (vR M 0) 4)) (aj (pA (vR M 0) 5)) (intOf (pA (vR M 0) 6)) ((intOf (tA fr 12))) := by kernel_rfl
set_option maxRecDepth 100000 in
theorem Gd (fr : Fr) (M : Mm) : tF.mm M = lI (intOf (tA fr 1)) (intOf (pA (vR M 0) 0)) (partsOf (pA (vR M 0) 1)) (partsOf (pA (vR M 0) 2)) (aj (pA (vR M 0) 3)) (aj (pA (vR M 0) 4)) (aj (pA (vR M 0) 5)) (intOf (pA (vR M 0) 6)) ((intOf (tA fr 12))) := by kernel_rfl
set_option maxRecDepth 100000 in
theorem F5 (F : Tab) {dep : Nat} {fr : Fr} {M : Mm} {t : LT} (ht : tQ F dep fr M = some t) {R : Type} (K : AX → Fr → Mm → Option R) (r : R) (hgo : t.go K = some r) :
    iter 100000 (fun fr' M' k => evC (cx F) 129 (evF (cx F) dep) dep dS fr' M' (aS Pg [] M.rows.length (some ([1, 12], [4, 5])) K k)) fr M = some r := by
 unfold tQ at ht
 split at ht
 · rename_i hok
   obtain ⟨h1, h2⟩ := StP.ok_eq hok
   obtain rfl := Option.some.inj ht
   exact Gl (X := fun fr M => iter 100000 (fun fr' M' k => evC (cx F) 129 (evF (cx F) dep) dep dS fr' M' (aS Pg [] M.rows.length (some ([1, 12], [4, 5])) K k)) fr M) (h1.trans (E5 fr M)) (h2.trans (Gd fr M)) (Gh F _ _ K _ _ _ _ _ _ _ _ 100000 _) hgo
 · exact absurd ht (by simp)
set_option maxRecDepth 100000 in
theorem FM : (Try.f129.body.bind fun c => kC c 4) = some dS := by kernel_rfl
theorem oM {R : Type} (i0 i1 : Int) (l0 l1 : List AV) (b0 b1 b2 : Bool) (i2 : Int) (l2 : List AV) (i3 : Int) (l3 l4 : List AV) (b3 b4 : Bool) (i4 : Int) (l5 : List AV) (i5 i6 : Int) (l6 l7 : List AV) (b5 b6 b7 : Bool) (i7 : Int) (K : AX → Fr → Mm → Option R) : (eG i0 i1 l0 l1 b0 b1 b2 i2 l2 i3 l3 l4 b3 b4 i4 l5 i5 i6 l6 l7 b5 b6 b7 i7 LO.bad).go K = none := by kernel_rfl
set_option maxRecDepth 100000 in
theorem pz (F : Tab) {R : Type} (K : Res → Mm → Option R) (i0 i1 : Int) (l0 l1 : List AV) (b0 b1 b2 : Bool) (i2 : Int) (l2 : List AV) (i3 : Int) (l3 l4 : List AV) (b3 b4 : Bool) (i4 : Int) (l5 : List AV) (i5 i6 : Int) (l6 l7 : List AV) (b5 b6 b7 : Bool) (i7 : Int) :
    evB (cx F) (evF (cx F) 2) 2 156 (jV i0 i1 l0 l1 b0 b1 b2 i2 l2 i3 l3 l4 b3 b4 i4 l5 i5 i6 l6 l7 b5 b6 b7 i7) (jU i0 i1 l0 l1 b0 b1 b2 i2 l2 i3 l3 l4 b3 b4 i4 l5 i5 i6 l6 l7 b5 b6 b7 i7) K = (eF F i0 i1 l0 l1 b0 b1 b2 i2 l2 i3 l3 l4 b3 b4 i4 l5 i5 i6 l6 l7 b5 b6 b7 i7).go (eG i0 i1 l0 l1 b0 b1 b2 i2 l2 i3 l3 l4 b3 b4 i4 l5 i5 i6 l6 l7 b5 b6 b7 i7) (resK K) (fun _ => none) := by kernel_rfl
set_option maxRecDepth 100000 in
theorem pE (args : List AV) (M : Mm) : eO.args args = jV (intOf (args.getD 1 .dead)) (intOf (pA (vR M 0) 0)) (partsOf (pA (vR M 0) 1)) (partsOf (pA (vR M 0) 2)) (aj (pA (vR M 0) 3)) (aj (pA (vR M 0) 4)) (aj (pA (vR M 0) 5)) (intOf (pA (vR M 0) 6)) (ak (pA (vR M 1) 0)) (intOf (pA (pA (vR M 3) 0) 0)) (partsOf (pA (pA (vR M 3) 0) 1)) (partsOf (pA (pA (vR M 3) 0) 2)) (aj (pA (pA (vR M 3) 0) 3)) (aj (pA (pA (vR M 3) 0) 5)) (intOf (pA (pA (vR M 3) 0) 6)) (ak (pA (pA (vR M 3) 1) 0)) (intOf (pA (vR M 3) 2)) (intOf (pA (pA (pA (vR M 3) 3) 2) 0)) (partsOf (pA (pA (pA (vR M 3) 3) 2) 1)) (partsOf (pA (pA (pA (vR M 3) 3) 2) 2)) (aj (pA (pA (pA (vR M 3) 3) 2) 3)) (aj (pA (pA (pA (vR M 3) 3) 2) 4)) (aj (pA (pA (pA (vR M 3) 3) 2) 5)) (intOf (pA (pA (pA (vR M 3) 3) 2) 6)) := by kernel_rfl
set_option maxRecDepth 100000 in
theorem pF (args : List AV) (M : Mm) : eO.mm M = jU (intOf (args.getD 1 .dead)) (intOf (pA (vR M 0) 0)) (partsOf (pA (vR M 0) 1)) (partsOf (pA (vR M 0) 2)) (aj (pA (vR M 0) 3)) (aj (pA (vR M 0) 4)) (aj (pA (vR M 0) 5)) (intOf (pA (vR M 0) 6)) (ak (pA (vR M 1) 0)) (intOf (pA (pA (vR M 3) 0) 0)) (partsOf (pA (pA (vR M 3) 0) 1)) (partsOf (pA (pA (vR M 3) 0) 2)) (aj (pA (pA (vR M 3) 0) 3)) (aj (pA (pA (vR M 3) 0) 5)) (intOf (pA (pA (vR M 3) 0) 6)) (ak (pA (pA (vR M 3) 1) 0)) (intOf (pA (vR M 3) 2)) (intOf (pA (pA (pA (vR M 3) 3) 2) 0)) (partsOf (pA (pA (pA (vR M 3) 3) 2) 1)) (partsOf (pA (pA (pA (vR M 3) 3) 2) 2)) (aj (pA (pA (pA (vR M 3) 3) 2) 3)) (aj (pA (pA (pA (vR M 3) 3) 2) 4)) (aj (pA (pA (pA (vR M 3) 3) 2) 5)) (intOf (pA (pA (pA (vR M 3) 3) 2) 6)) := by kernel_rfl
set_option maxRecDepth 100000 in
theorem pG (F : Tab) {dep : Nat} {args : List AV} {M : Mm} {t : LT} (ht : eH F dep args M = some t) {R : Type} (K : Res → Mm → Option R) (r : R) (hgo : t.go (resK K) = some r) :
    evB (cx F) (evF (cx F) dep) dep 156 args M K = some r := by
 unfold eH at ht
 split at ht
 · rename_i hok
   simp only [Bool.and_eq_true, Nat.beq_eq] at hok
   obtain ⟨rfl, hok⟩ := hok
   obtain ⟨h1, h2⟩ := ArP.ok_eq hok
   obtain rfl := Option.some.inj ht
   exact nS (X := fun args M => evB (cx F) (evF (cx F) 2) 2 156 args M K) (h1.trans (pE args M)) (h2.trans (pF args M)) (nP (oM _ _ _ _ _ _ _ _ _ _ _ _ _ _ _ _ _ _ _ _ _ _ _ _ _) (pz F K _ _ _ _ _ _ _ _ _ _ _ _ _ _ _ _ _ _ _ _ _ _ _ _)) hgo
 · exact absurd ht (by simp)
theorem rW {R : Type} (i0 i1 i2 : Int) (l0 l1 : List AV) (b0 b1 b2 : Bool) (i3 : Int) (l2 : List AV) (i4 : Int) (l3 l4 : List AV) (b3 b4 : Bool) (i5 : Int) (l5 : List AV) (i6 i7 : Int) (l6 l7 : List AV) (b5 b6 b7 : Bool) (i8 i9 : Int) (l8 l9 : List AV) (i10 i11 i12 i13 i14 : Int) (K : AX → Fr → Mm → Option R) : (iJ i0 i1 i2 l0 l1 b0 b1 b2 i3 l2 i4 l3 l4 b3 b4 i5 l5 i6 i7 l6 l7 b5 b6 b7 i8 i9 l8 l9 i10 i11 i12 i13 i14 LO.bad).go K = none := by kernel_rfl
set_option maxRecDepth 100000 in
theorem tX (F : Tab) {R : Type} (K : Res → Mm → Option R) (i0 i1 i2 : Int) (l0 l1 : List AV) (b0 b1 b2 : Bool) (i3 : Int) (l2 : List AV) (i4 : Int) (l3 l4 : List AV) (b3 b4 : Bool) (i5 : Int) (l5 : List AV) (i6 i7 : Int) (l6 l7 : List AV) (b5 b6 b7 : Bool) (i8 i9 : Int) (l8 l9 : List AV) (i10 i11 i12 i13 i14 : Int) :
    evB (cx F) (evF (cx F) 2) 2 155 (lF i0 i1 i2 l0 l1 b0 b1 b2 i3 l2 i4 l3 l4 b3 b4 i5 l5 i6 i7 l6 l7 b5 b6 b7 i8 i9 l8 l9 i10 i11 i12 i13 i14) (lU i0 i1 i2 l0 l1 b0 b1 b2 i3 l2 i4 l3 l4 b3 b4 i5 l5 i6 i7 l6 l7 b5 b6 b7 i8 i9 l8 l9 i10 i11 i12 i13 i14) K = (iy F i0 i1 i2 l0 l1 b0 b1 b2 i3 l2 i4 l3 l4 b3 b4 i5 l5 i6 i7 l6 l7 b5 b6 b7 i8 i9 l8 l9 i10 i11 i12 i13 i14).go (iJ i0 i1 i2 l0 l1 b0 b1 b2 i3 l2 i4 l3 l4 b3 b4 i5 l5 i6 i7 l6 l7 b5 b6 b7 i8 i9 l8 l9 i10 i11 i12 i13 i14) (resK K) (fun _ => none) := by kernel_rfl
set_option maxRecDepth 100000 in
theorem sZ (args : List AV) (M : Mm) : iH.args args = lF (intOf (args.getD 1 .dead)) (intOf (args.getD 2 .dead)) (intOf (pA (vR M 0) 0)) (partsOf (pA (vR M 0) 1)) (partsOf (pA (vR M 0) 2)) (aj (pA (vR M 0) 3)) (aj (pA (vR M 0) 4)) (aj (pA (vR M 0) 5)) (intOf (pA (vR M 0) 6)) (ak (pA (vR M 1) 0)) (intOf (pA (pA (vR M 3) 0) 0)) (partsOf (pA (pA (vR M 3) 0) 1)) (partsOf (pA (pA (vR M 3) 0) 2)) (aj (pA (pA (vR M 3) 0) 3)) (aj (pA (pA (vR M 3) 0) 5)) (intOf (pA (pA (vR M 3) 0) 6)) (ak (pA (pA (vR M 3) 1) 0)) (intOf (pA (vR M 3) 2)) (intOf (pA (pA (pA (vR M 3) 3) 2) 0)) (partsOf (pA (pA (pA (vR M 3) 3) 2) 1)) (partsOf (pA (pA (pA (vR M 3) 3) 2) 2)) (aj (pA (pA (pA (vR M 3) 3) 2) 3)) (aj (pA (pA (pA (vR M 3) 3) 2) 4)) (aj (pA (pA (pA (vR M 3) 3) 2) 5)) (intOf (pA (pA (pA (vR M 3) 3) 2) 6)) (intOf (pA (pA (vR M 3) 3) 3)) (ak (pA (pA (vR M 3) 3) 4)) (ak (pA (pA (vR M 3) 3) 5)) (intOf (pA (pA (vR M 3) 4) 0)) (intOf (pA (pA (vR M 3) 4) 1)) (intOf (pA (pA (vR M 3) 4) 2)) (intOf (pA (pA (vR M 3) 4) 3)) (intOf (pA (pA (vR M 3) 4) 4)) := by kernel_rfl
set_option maxRecDepth 100000 in
theorem sP (args : List AV) (M : Mm) : iH.mm M = lU (intOf (args.getD 1 .dead)) (intOf (args.getD 2 .dead)) (intOf (pA (vR M 0) 0)) (partsOf (pA (vR M 0) 1)) (partsOf (pA (vR M 0) 2)) (aj (pA (vR M 0) 3)) (aj (pA (vR M 0) 4)) (aj (pA (vR M 0) 5)) (intOf (pA (vR M 0) 6)) (ak (pA (vR M 1) 0)) (intOf (pA (pA (vR M 3) 0) 0)) (partsOf (pA (pA (vR M 3) 0) 1)) (partsOf (pA (pA (vR M 3) 0) 2)) (aj (pA (pA (vR M 3) 0) 3)) (aj (pA (pA (vR M 3) 0) 5)) (intOf (pA (pA (vR M 3) 0) 6)) (ak (pA (pA (vR M 3) 1) 0)) (intOf (pA (vR M 3) 2)) (intOf (pA (pA (pA (vR M 3) 3) 2) 0)) (partsOf (pA (pA (pA (vR M 3) 3) 2) 1)) (partsOf (pA (pA (pA (vR M 3) 3) 2) 2)) (aj (pA (pA (pA (vR M 3) 3) 2) 3)) (aj (pA (pA (pA (vR M 3) 3) 2) 4)) (aj (pA (pA (pA (vR M 3) 3) 2) 5)) (intOf (pA (pA (pA (vR M 3) 3) 2) 6)) (intOf (pA (pA (vR M 3) 3) 3)) (ak (pA (pA (vR M 3) 3) 4)) (ak (pA (pA (vR M 3) 3) 5)) (intOf (pA (pA (vR M 3) 4) 0)) (intOf (pA (pA (vR M 3) 4) 1)) (intOf (pA (pA (vR M 3) 4) 2)) (intOf (pA (pA (vR M 3) 4) 3)) (intOf (pA (pA (vR M 3) 4) 4)) := by kernel_rfl
set_option maxRecDepth 100000 in
theorem sD (F : Tab) {dep : Nat} {args : List AV} {M : Mm} {t : LT} (ht : iG F dep args M = some t) {R : Type} (K : Res → Mm → Option R) (r : R) (hgo : t.go (resK K) = some r) :
    evB (cx F) (evF (cx F) dep) dep 155 args M K = some r := by
 unfold iG at ht
 split at ht
 · rename_i hok
   simp only [Bool.and_eq_true, Nat.beq_eq] at hok
   obtain ⟨rfl, hok⟩ := hok
   obtain ⟨h1, h2⟩ := ArP.ok_eq hok
   obtain rfl := Option.some.inj ht
   exact nS (X := fun args M => evB (cx F) (evF (cx F) 2) 2 155 args M K) (h1.trans (sZ args M)) (h2.trans (sP args M)) (nP (rW _ _ _ _ _ _ _ _ _ _ _ _ _ _ _ _ _ _ _ _ _ _ _ _ _ _ _ _ _ _ _ _ _ _) (tX F K _ _ _ _ _ _ _ _ _ _ _ _ _ _ _ _ _ _ _ _ _ _ _ _ _ _ _ _ _ _ _ _ _)) hgo
 · exact absurd ht (by simp)
end
end Go.Proofs.Ytcknhfnbdgleiaa
