/- The loops come to what their functions say. (Printed by a program of mine, gen.py.) -/
import Derived.Test.YtcknhfnbdgleiaaCoC
set_option linter.unusedVariables false
set_option linter.unusedSimpArgs false
set_option maxRecDepth 100000
namespace Go.Proofs.Ytcknhfnbdgleiaa
open Go.AE
noncomputable section
theorem Te {R : Type} (l0 l1 : List AV) (K : AX -> Fr -> Mm -> Option R) : (xU l0 l1 LO.bad).go K = none := by kernel_rfl
noncomputable def pE : Code := ((Try.f75.body.bind fun c => dh c 4).getD .skip)
theorem SH (F : Tab) {R : Type} (call : bP R) (dep : Nat) (K : AX -> Fr -> Mm -> Option R) (kk : Fr -> Mm -> Option R) (l0 l1 : List AV) (s : Int) :
    aK (cx F) 75 call dep pE (xL l0 l1 s) (yN l0 l1 s) (aP Pg [] 0 (some ([0, 1, 5], [4])) K kk) =
    (Av F l0 l1 s).go (xU l0 l1) K (fun s => kk (xL l0 l1 s) (yN l0 l1 s)) := by kernel_rfl
theorem Vz (F : Tab) {R : Type} (call : bP R) (dep : Nat) (K : AX -> Fr -> Mm -> Option R) (l0 l1 : List AV) (fuel : Nat) (s : Int) :
    iter fuel (fun fr M' k => aK (cx F) 75 call dep pE fr M' (aP Pg [] 0 (some ([0, 1, 5], [4])) K k)) (xL l0 l1 s) (yN l0 l1 s) = (xU l0 l1 (Tr.run (Av F l0 l1) fuel s)).go K :=
 iY (B := fun fr M' k => aK (cx F) 75 call dep pE fr M' (aP Pg [] 0 (some ([0, 1, 5], [4])) K k)) (step := Av F l0 l1) (lt := xU l0 l1) (sF := xL l0 l1) (sM := yN l0 l1) (K := K) (Te l0 l1 K) (fun s kk => SH F call dep K kk l0 l1 s) fuel s
theorem VH (fr : Fr) (M : Mm) : Cr.fr fr = xL (av (tA fr 0)) (av (tA fr 1)) ((aj (tA fr 5))) := by kernel_rfl
theorem Qj (fr : Fr) (M : Mm) : Cr.mm M = yN (av (tA fr 0)) (av (tA fr 1)) ((aj (tA fr 5))) := by kernel_rfl
theorem VU (F : Tab) {dep : Nat} {fr : Fr} {M : Mm} {t : LT} (ht : Fe F dep fr M = some t) {R : Type} (K : AX -> Fr -> Mm -> Option R) (r : R) (hgo : t.go K = some r) :
    iter 100000 (fun fr' M' k => aK (cx F) 75 (aD (cx F) dep) dep pE fr' M' (aP Pg [] M.rows.length (some ([0, 1, 5], [4])) K k)) fr M = some r := by
 unfold Fe at ht
 split at ht
 . rename_i hok
   obtain ⟨h1, h2⟩ := StP.ok_eq hok
   obtain rfl := Option.some.inj ht
   exact jl (X := fun fr M => iter 100000 (fun fr' M' k => aK (cx F) 75 (aD (cx F) dep) dep pE fr' M' (aP Pg [] M.rows.length (some ([0, 1, 5], [4])) K k)) fr M) (h1.trans (VH fr M)) (h2.trans (Qj fr M)) (Vz F _ _ K _ _ 100000 _) hgo
 . exact absurd ht (by simp)
theorem WW : (Try.f75.body.bind fun c => dh c 4) = some pE := by kernel_rfl
theorem V7 {R : Type} (i0 : Int) (l0 : List AV) (K : AX -> Fr -> Mm -> Option R) : (wU i0 l0 LO.bad).go K = none := by kernel_rfl
noncomputable def qW : Code := ((Try.f123.body.bind fun c => dh c 6).getD .skip)
theorem OL (F : Tab) {R : Type} (call : bP R) (dep : Nat) (K : AX -> Fr -> Mm -> Option R) (kk : Fr -> Mm -> Option R) (i0 : Int) (l0 : List AV) (s : Int × Int) :
    aK (cx F) 123 call dep qW (yS i0 l0 s) (uP i0 l0 s) (aP Pg [] 2 (some ([1, 3, 6, 8, 9], [6, 8])) K kk) =
    (y5 F i0 l0 s).go (wU i0 l0) K (fun s => kk (yS i0 l0 s) (uP i0 l0 s)) := by kernel_rfl
theorem V8 (F : Tab) {R : Type} (call : bP R) (dep : Nat) (K : AX -> Fr -> Mm -> Option R) (i0 : Int) (l0 : List AV) (fuel : Nat) (s : Int × Int) :
    iter fuel (fun fr M' k => aK (cx F) 123 call dep qW fr M' (aP Pg [] 2 (some ([1, 3, 6, 8, 9], [6, 8])) K k)) (yS i0 l0 s) (uP i0 l0 s) = (wU i0 l0 (Tr.run (y5 F i0 l0) fuel s)).go K :=
 iY (B := fun fr M' k => aK (cx F) 123 call dep qW fr M' (aP Pg [] 2 (some ([1, 3, 6, 8, 9], [6, 8])) K k)) (step := y5 F i0 l0) (lt := wU i0 l0) (sF := yS i0 l0) (sM := uP i0 l0) (K := K) (V7 i0 l0 K) (fun s kk => OL F call dep K kk i0 l0 s) fuel s
theorem OV (fr : Fr) (M : Mm) : Fp.fr fr = yS (aj (tA fr 1)) (av (pA (vR M 0) 0)) ((aj (tA fr 8)), (aj (tA fr 9))) := by kernel_rfl
theorem UC (fr : Fr) (M : Mm) : Fp.mm M = uP (aj (tA fr 1)) (av (pA (vR M 0) 0)) ((aj (tA fr 8)), (aj (tA fr 9))) := by kernel_rfl
theorem aaj (F : Tab) {dep : Nat} {fr : Fr} {M : Mm} {t : LT} (ht : He F dep fr M = some t) {R : Type} (K : AX -> Fr -> Mm -> Option R) (r : R) (hgo : t.go K = some r) :
    iter 100000 (fun fr' M' k => aK (cx F) 123 (aD (cx F) dep) dep qW fr' M' (aP Pg [] M.rows.length (some ([1, 3, 6, 8, 9], [6, 8])) K k)) fr M = some r := by
 unfold He at ht
 split at ht
 . rename_i hok
   obtain ⟨h1, h2⟩ := StP.ok_eq hok
   obtain rfl := Option.some.inj ht
   exact jl (X := fun fr M => iter 100000 (fun fr' M' k => aK (cx F) 123 (aD (cx F) dep) dep qW fr' M' (aP Pg [] M.rows.length (some ([1, 3, 6, 8, 9], [6, 8])) K k)) fr M) (h1.trans (OV fr M)) (h2.trans (UC fr M)) (V8 F _ _ K _ _ 100000 _) hgo
 . exact absurd ht (by simp)
theorem Vi : (Try.f123.body.bind fun c => dh c 6) = some qW := by kernel_rfl
theorem ZQ {R : Type} (i0 i2 : Int) (l0 l1 : List AV) (b0 b1 b2 : Bool) (i3 : Int) (K : AX -> Fr -> Mm -> Option R) : (wW i0 i2 l0 l1 b0 b1 b2 i3 LO.bad).go K = none := by kernel_rfl
noncomputable def oZ : Code := ((Try.f129.body.bind fun c => dh c 4).getD .skip)
theorem Qt (F : Tab) {R : Type} (call : bP R) (dep : Nat) (K : AX -> Fr -> Mm -> Option R) (kk : Fr -> Mm -> Option R) (i0 i2 : Int) (l0 l1 : List AV) (b0 b1 b2 : Bool) (i3 : Int) (s : Int) :
    aK (cx F) 129 call dep oZ (yH i0 i2 l0 l1 b0 b1 b2 i3 s) (vk i0 i2 l0 l1 b0 b1 b2 i3 s) (aP Pg [] 1 (some ([1, 12], [4, 5])) K kk) =
    (tX F i0 i2 l0 l1 b0 b1 b2 i3 s).go (wW i0 i2 l0 l1 b0 b1 b2 i3) K (fun s => kk (yH i0 i2 l0 l1 b0 b1 b2 i3 s) (vk i0 i2 l0 l1 b0 b1 b2 i3 s)) := by kernel_rfl
theorem WH (F : Tab) {R : Type} (call : bP R) (dep : Nat) (K : AX -> Fr -> Mm -> Option R) (i0 i2 : Int) (l0 l1 : List AV) (b0 b1 b2 : Bool) (i3 : Int) (fuel : Nat) (s : Int) :
    iter fuel (fun fr M' k => aK (cx F) 129 call dep oZ fr M' (aP Pg [] 1 (some ([1, 12], [4, 5])) K k)) (yH i0 i2 l0 l1 b0 b1 b2 i3 s) (vk i0 i2 l0 l1 b0 b1 b2 i3 s) = (wW i0 i2 l0 l1 b0 b1 b2 i3 (Tr.run (tX F i0 i2 l0 l1 b0 b1 b2 i3) fuel s)).go K :=
 iY (B := fun fr M' k => aK (cx F) 129 call dep oZ fr M' (aP Pg [] 1 (some ([1, 12], [4, 5])) K k)) (step := tX F i0 i2 l0 l1 b0 b1 b2 i3) (lt := wW i0 i2 l0 l1 b0 b1 b2 i3) (sF := yH i0 i2 l0 l1 b0 b1 b2 i3) (sM := vk i0 i2 l0 l1 b0 b1 b2 i3) (K := K) (ZQ i0 i2 l0 l1 b0 b1 b2 i3 K) (fun s kk => Qt F call dep K kk i0 i2 l0 l1 b0 b1 b2 i3 s) fuel s
theorem Qy (fr : Fr) (M : Mm) : EW.fr fr = yH (aj (tA fr 1)) (aj (pA (vR M 0) 0)) (au (pA (vR M 0) 1)) (au (pA (vR M 0) 2)) (ak (pA (vR M 0) 3)) (ak (pA (vR M 0) 4)) (ak (pA (vR M 0) 5)) (aj (pA (vR M 0) 6)) ((aj (tA fr 12))) := by kernel_rfl
theorem XI (fr : Fr) (M : Mm) : EW.mm M = vk (aj (tA fr 1)) (aj (pA (vR M 0) 0)) (au (pA (vR M 0) 1)) (au (pA (vR M 0) 2)) (ak (pA (vR M 0) 3)) (ak (pA (vR M 0) 4)) (ak (pA (vR M 0) 5)) (aj (pA (vR M 0) 6)) ((aj (tA fr 12))) := by kernel_rfl
theorem SY (F : Tab) {dep : Nat} {fr : Fr} {M : Mm} {t : LT} (ht : EB F dep fr M = some t) {R : Type} (K : AX -> Fr -> Mm -> Option R) (r : R) (hgo : t.go K = some r) :
    iter 100000 (fun fr' M' k => aK (cx F) 129 (aD (cx F) dep) dep oZ fr' M' (aP Pg [] M.rows.length (some ([1, 12], [4, 5])) K k)) fr M = some r := by
 unfold EB at ht
 split at ht
 . rename_i hok
   obtain ⟨h1, h2⟩ := StP.ok_eq hok
   obtain rfl := Option.some.inj ht
   exact jl (X := fun fr M => iter 100000 (fun fr' M' k => aK (cx F) 129 (aD (cx F) dep) dep oZ fr' M' (aP Pg [] M.rows.length (some ([1, 12], [4, 5])) K k)) fr M) (h1.trans (Qy fr M)) (h2.trans (XI fr M)) (WH F _ _ K _ _ _ _ _ _ _ _ 100000 _) hgo
 . exact absurd ht (by simp)
theorem YD : (Try.f129.body.bind fun c => dh c 4) = some oZ := by kernel_rfl
theorem OX {R : Type} (i0 i1 : Int) (l0 l1 : List AV) (b0 b1 b2 : Bool) (i2 : Int) (l2 : List AV) (i3 : Int) (l3 l4 : List AV) (b3 b4 : Bool) (i4 : Int) (l5 : List AV) (i5 i6 : Int) (l6 l7 : List AV) (b5 b6 b7 : Bool) (i7 : Int) (K : AX -> Fr -> Mm -> Option R) : (GV i0 i1 l0 l1 b0 b1 b2 i2 l2 i3 l3 l4 b3 b4 i4 l5 i5 i6 l6 l7 b5 b6 b7 i7 LO.bad).go K = none := by kernel_rfl
theorem Q7 (F : Tab) {R : Type} (K : Res -> Mm -> Option R) (i0 i1 : Int) (l0 l1 : List AV) (b0 b1 b2 : Bool) (i2 : Int) (l2 : List AV) (i3 : Int) (l3 l4 : List AV) (b3 b4 : Bool) (i4 : Int) (l5 : List AV) (i5 i6 : Int) (l6 l7 : List AV) (b5 b6 b7 : Bool) (i7 : Int) :
    aW (cx F) (aD (cx F) 2) 2 156 (Ku i0 i1 l0 l1 b0 b1 b2 i2 l2 i3 l3 l4 b3 b4 i4 l5 i5 i6 l6 l7 b5 b6 b7 i7) (Kg i0 i1 l0 l1 b0 b1 b2 i2 l2 i3 l3 l4 b3 b4 i4 l5 i5 i6 l6 l7 b5 b6 b7 i7) K = (Ib F i0 i1 l0 l1 b0 b1 b2 i2 l2 i3 l3 l4 b3 b4 i4 l5 i5 i6 l6 l7 b5 b6 b7 i7).go (GV i0 i1 l0 l1 b0 b1 b2 i2 l2 i3 l3 l4 b3 b4 i4 l5 i5 i6 l6 l7 b5 b6 b7 i7) (bM K) (fun _ => none) := by kernel_rfl
theorem QB (args : List AV) (M : Mm) : Er.args args = Ku (aj (args.getD 1 .dead)) (aj (pA (vR M 0) 0)) (au (pA (vR M 0) 1)) (au (pA (vR M 0) 2)) (ak (pA (vR M 0) 3)) (ak (pA (vR M 0) 4)) (ak (pA (vR M 0) 5)) (aj (pA (vR M 0) 6)) (av (pA (vR M 1) 0)) (aj (pA (pA (vR M 3) 0) 0)) (au (pA (pA (vR M 3) 0) 1)) (au (pA (pA (vR M 3) 0) 2)) (ak (pA (pA (vR M 3) 0) 3)) (ak (pA (pA (vR M 3) 0) 5)) (aj (pA (pA (vR M 3) 0) 6)) (av (pA (pA (vR M 3) 1) 0)) (aj (pA (vR M 3) 2)) (aj (pA (pA (pA (vR M 3) 3) 2) 0)) (au (pA (pA (pA (vR M 3) 3) 2) 1)) (au (pA (pA (pA (vR M 3) 3) 2) 2)) (ak (pA (pA (pA (vR M 3) 3) 2) 3)) (ak (pA (pA (pA (vR M 3) 3) 2) 4)) (ak (pA (pA (pA (vR M 3) 3) 2) 5)) (aj (pA (pA (pA (vR M 3) 3) 2) 6)) := by kernel_rfl
theorem Py (args : List AV) (M : Mm) : Er.mm M = Kg (aj (args.getD 1 .dead)) (aj (pA (vR M 0) 0)) (au (pA (vR M 0) 1)) (au (pA (vR M 0) 2)) (ak (pA (vR M 0) 3)) (ak (pA (vR M 0) 4)) (ak (pA (vR M 0) 5)) (aj (pA (vR M 0) 6)) (av (pA (vR M 1) 0)) (aj (pA (pA (vR M 3) 0) 0)) (au (pA (pA (vR M 3) 0) 1)) (au (pA (pA (vR M 3) 0) 2)) (ak (pA (pA (vR M 3) 0) 3)) (ak (pA (pA (vR M 3) 0) 5)) (aj (pA (pA (vR M 3) 0) 6)) (av (pA (pA (vR M 3) 1) 0)) (aj (pA (vR M 3) 2)) (aj (pA (pA (pA (vR M 3) 3) 2) 0)) (au (pA (pA (pA (vR M 3) 3) 2) 1)) (au (pA (pA (pA (vR M 3) 3) 2) 2)) (ak (pA (pA (pA (vR M 3) 3) 2) 3)) (ak (pA (pA (pA (vR M 3) 3) 2) 4)) (ak (pA (pA (pA (vR M 3) 3) 2) 5)) (aj (pA (pA (pA (vR M 3) 3) 2) 6)) := by kernel_rfl
theorem U6 (F : Tab) {dep : Nat} {args : List AV} {M : Mm} {t : LT} (ht : EI F dep args M = some t) {R : Type} (K : Res -> Mm -> Option R) (r : R) (hgo : t.go (bM K) = some r) :
    aW (cx F) (aD (cx F) dep) dep 156 args M K = some r := by
 unfold EI at ht
 split at ht
 . rename_i hok
   simp only [Bool.and_eq_true, Nat.beq_eq] at hok
   obtain ⟨rfl, hok⟩ := hok
   obtain ⟨h1, h2⟩ := ArP.ok_eq hok
   obtain rfl := Option.some.inj ht
   exact iD (X := fun args M => aW (cx F) (aD (cx F) 2) 2 156 args M K) (h1.trans (QB args M)) (h2.trans (Py args M)) (gT (OX _ _ _ _ _ _ _ _ _ _ _ _ _ _ _ _ _ _ _ _ _ _ _ _ _) (Q7 F K _ _ _ _ _ _ _ _ _ _ _ _ _ _ _ _ _ _ _ _ _ _ _ _)) hgo
 . exact absurd ht (by simp)
theorem X5 {R : Type} (i0 i1 i2 : Int) (l0 l1 : List AV) (b0 b1 b2 : Bool) (i3 : Int) (l2 : List AV) (i4 : Int) (l3 l4 : List AV) (b3 b4 : Bool) (i5 : Int) (l5 : List AV) (i6 i7 : Int) (l6 l7 : List AV) (b5 b6 b7 : Bool) (i8 i9 : Int) (l8 l9 : List AV) (i10 i11 i12 i13 i14 : Int) (K : AX -> Fr -> Mm -> Option R) : (Gp i0 i1 i2 l0 l1 b0 b1 b2 i3 l2 i4 l3 l4 b3 b4 i5 l5 i6 i7 l6 l7 b5 b6 b7 i8 i9 l8 l9 i10 i11 i12 i13 i14 LO.bad).go K = none := by kernel_rfl
theorem Zt (F : Tab) {R : Type} (K : Res -> Mm -> Option R) (i0 i1 i2 : Int) (l0 l1 : List AV) (b0 b1 b2 : Bool) (i3 : Int) (l2 : List AV) (i4 : Int) (l3 l4 : List AV) (b3 b4 : Bool) (i5 : Int) (l5 : List AV) (i6 i7 : Int) (l6 l7 : List AV) (b5 b6 b7 : Bool) (i8 i9 : Int) (l8 l9 : List AV) (i10 i11 i12 i13 i14 : Int) :
    aW (cx F) (aD (cx F) 2) 2 155 (Li i0 i1 i2 l0 l1 b0 b1 b2 i3 l2 i4 l3 l4 b3 b4 i5 l5 i6 i7 l6 l7 b5 b6 b7 i8 i9 l8 l9 i10 i11 i12 i13 i14) (KP i0 i1 i2 l0 l1 b0 b1 b2 i3 l2 i4 l3 l4 b3 b4 i5 l5 i6 i7 l6 l7 b5 b6 b7 i8 i9 l8 l9 i10 i11 i12 i13 i14) K = (GU F i0 i1 i2 l0 l1 b0 b1 b2 i3 l2 i4 l3 l4 b3 b4 i5 l5 i6 i7 l6 l7 b5 b6 b7 i8 i9 l8 l9 i10 i11 i12 i13 i14).go (Gp i0 i1 i2 l0 l1 b0 b1 b2 i3 l2 i4 l3 l4 b3 b4 i5 l5 i6 i7 l6 l7 b5 b6 b7 i8 i9 l8 l9 i10 i11 i12 i13 i14) (bM K) (fun _ => none) := by kernel_rfl
theorem OP (args : List AV) (M : Mm) : D7.args args = Li (aj (args.getD 1 .dead)) (aj (args.getD 2 .dead)) (aj (pA (vR M 0) 0)) (au (pA (vR M 0) 1)) (au (pA (vR M 0) 2)) (ak (pA (vR M 0) 3)) (ak (pA (vR M 0) 4)) (ak (pA (vR M 0) 5)) (aj (pA (vR M 0) 6)) (av (pA (vR M 1) 0)) (aj (pA (pA (vR M 3) 0) 0)) (au (pA (pA (vR M 3) 0) 1)) (au (pA (pA (vR M 3) 0) 2)) (ak (pA (pA (vR M 3) 0) 3)) (ak (pA (pA (vR M 3) 0) 5)) (aj (pA (pA (vR M 3) 0) 6)) (av (pA (pA (vR M 3) 1) 0)) (aj (pA (vR M 3) 2)) (aj (pA (pA (pA (vR M 3) 3) 2) 0)) (au (pA (pA (pA (vR M 3) 3) 2) 1)) (au (pA (pA (pA (vR M 3) 3) 2) 2)) (ak (pA (pA (pA (vR M 3) 3) 2) 3)) (ak (pA (pA (pA (vR M 3) 3) 2) 4)) (ak (pA (pA (pA (vR M 3) 3) 2) 5)) (aj (pA (pA (pA (vR M 3) 3) 2) 6)) (aj (pA (pA (vR M 3) 3) 3)) (av (pA (pA (vR M 3) 3) 4)) (av (pA (pA (vR M 3) 3) 5)) (aj (pA (pA (vR M 3) 4) 0)) (aj (pA (pA (vR M 3) 4) 1)) (aj (pA (pA (vR M 3) 4) 2)) (aj (pA (pA (vR M 3) 4) 3)) (aj (pA (pA (vR M 3) 4) 4)) := by kernel_rfl
theorem WZ (args : List AV) (M : Mm) : D7.mm M = KP (aj (args.getD 1 .dead)) (aj (args.getD 2 .dead)) (aj (pA (vR M 0) 0)) (au (pA (vR M 0) 1)) (au (pA (vR M 0) 2)) (ak (pA (vR M 0) 3)) (ak (pA (vR M 0) 4)) (ak (pA (vR M 0) 5)) (aj (pA (vR M 0) 6)) (av (pA (vR M 1) 0)) (aj (pA (pA (vR M 3) 0) 0)) (au (pA (pA (vR M 3) 0) 1)) (au (pA (pA (vR M 3) 0) 2)) (ak (pA (pA (vR M 3) 0) 3)) (ak (pA (pA (vR M 3) 0) 5)) (aj (pA (pA (vR M 3) 0) 6)) (av (pA (pA (vR M 3) 1) 0)) (aj (pA (vR M 3) 2)) (aj (pA (pA (pA (vR M 3) 3) 2) 0)) (au (pA (pA (pA (vR M 3) 3) 2) 1)) (au (pA (pA (pA (vR M 3) 3) 2) 2)) (ak (pA (pA (pA (vR M 3) 3) 2) 3)) (ak (pA (pA (pA (vR M 3) 3) 2) 4)) (ak (pA (pA (pA (vR M 3) 3) 2) 5)) (aj (pA (pA (pA (vR M 3) 3) 2) 6)) (aj (pA (pA (vR M 3) 3) 3)) (av (pA (pA (vR M 3) 3) 4)) (av (pA (pA (vR M 3) 3) 5)) (aj (pA (pA (vR M 3) 4) 0)) (aj (pA (pA (vR M 3) 4) 1)) (aj (pA (pA (vR M 3) 4) 2)) (aj (pA (pA (vR M 3) 4) 3)) (aj (pA (pA (vR M 3) 4) 4)) := by kernel_rfl
theorem SV (F : Tab) {dep : Nat} {args : List AV} {M : Mm} {t : LT} (ht : CZ F dep args M = some t) {R : Type} (K : Res -> Mm -> Option R) (r : R) (hgo : t.go (bM K) = some r) :
    aW (cx F) (aD (cx F) dep) dep 155 args M K = some r := by
 unfold CZ at ht
 split at ht
 . rename_i hok
   simp only [Bool.and_eq_true, Nat.beq_eq] at hok
   obtain ⟨rfl, hok⟩ := hok
   obtain ⟨h1, h2⟩ := ArP.ok_eq hok
   obtain rfl := Option.some.inj ht
   exact iD (X := fun args M => aW (cx F) (aD (cx F) 2) 2 155 args M K) (h1.trans (OP args M)) (h2.trans (WZ args M)) (gT (X5 _ _ _ _ _ _ _ _ _ _ _ _ _ _ _ _ _ _ _ _ _ _ _ _ _ _ _ _ _ _ _ _ _ _) (Zt F K _ _ _ _ _ _ _ _ _ _ _ _ _ _ _ _ _ _ _ _ _ _ _ _ _ _ _ _ _ _ _ _ _)) hgo
 . exact absurd ht (by simp)
theorem Uj {R : Type} (i0 : Int) (l0 l1 : List AV) (b0 b1 b2 : Bool) (i1 : Int) (l2 : List AV) (i2 : Int) (l3 l4 : List AV) (b3 b4 : Bool) (i3 : Int) (l5 : List AV) (i4 i5 : Int) (l6 l7 : List AV) (b5 b6 b7 : Bool) (i6 : Int) (K : AX -> Fr -> Mm -> Option R) : (Gg i0 l0 l1 b0 b1 b2 i1 l2 i2 l3 l4 b3 b4 i3 l5 i4 i5 l6 l7 b5 b6 b7 i6 LO.bad).go K = none := by kernel_rfl
theorem V9 (F : Tab) {R : Type} (K : Res -> Mm -> Option R) (i0 : Int) (l0 l1 : List AV) (b0 b1 b2 : Bool) (i1 : Int) (l2 : List AV) (i2 : Int) (l3 l4 : List AV) (b3 b4 : Bool) (i3 : Int) (l5 : List AV) (i4 i5 : Int) (l6 l7 : List AV) (b5 b6 b7 : Bool) (i6 : Int) :
    aW (cx F) (aD (cx F) 3) 3 131 (Nv i0 l0 l1 b0 b1 b2 i1 l2 i2 l3 l4 b3 b4 i3 l5 i4 i5 l6 l7 b5 b6 b7 i6) (MK i0 l0 l1 b0 b1 b2 i1 l2 i2 l3 l4 b3 b4 i3 l5 i4 i5 l6 l7 b5 b6 b7 i6) K = (EY F i0 l0 l1 b0 b1 b2 i1 l2 i2 l3 l4 b3 b4 i3 l5 i4 i5 l6 l7 b5 b6 b7 i6).go (Gg i0 l0 l1 b0 b1 b2 i1 l2 i2 l3 l4 b3 b4 i3 l5 i4 i5 l6 l7 b5 b6 b7 i6) (bM K) (fun _ => none) := by kernel_rfl
theorem RL (args : List AV) (M : Mm) : DY.args args = Nv (aj (pA (vR M 0) 0)) (au (pA (vR M 0) 1)) (au (pA (vR M 0) 2)) (ak (pA (vR M 0) 3)) (ak (pA (vR M 0) 4)) (ak (pA (vR M 0) 5)) (aj (pA (vR M 0) 6)) (av (pA (vR M 1) 0)) (aj (pA (pA (vR M 3) 0) 0)) (au (pA (pA (vR M 3) 0) 1)) (au (pA (pA (vR M 3) 0) 2)) (ak (pA (pA (vR M 3) 0) 3)) (ak (pA (pA (vR M 3) 0) 5)) (aj (pA (pA (vR M 3) 0) 6)) (av (pA (pA (vR M 3) 1) 0)) (aj (pA (vR M 3) 2)) (aj (pA (pA (pA (vR M 3) 3) 2) 0)) (au (pA (pA (pA (vR M 3) 3) 2) 1)) (au (pA (pA (pA (vR M 3) 3) 2) 2)) (ak (pA (pA (pA (vR M 3) 3) 2) 3)) (ak (pA (pA (pA (vR M 3) 3) 2) 4)) (ak (pA (pA (pA (vR M 3) 3) 2) 5)) (aj (pA (pA (pA (vR M 3) 3) 2) 6)) := by kernel_rfl
theorem Rj (args : List AV) (M : Mm) : DY.mm M = MK (aj (pA (vR M 0) 0)) (au (pA (vR M 0) 1)) (au (pA (vR M 0) 2)) (ak (pA (vR M 0) 3)) (ak (pA (vR M 0) 4)) (ak (pA (vR M 0) 5)) (aj (pA (vR M 0) 6)) (av (pA (vR M 1) 0)) (aj (pA (pA (vR M 3) 0) 0)) (au (pA (pA (vR M 3) 0) 1)) (au (pA (pA (vR M 3) 0) 2)) (ak (pA (pA (vR M 3) 0) 3)) (ak (pA (pA (vR M 3) 0) 5)) (aj (pA (pA (vR M 3) 0) 6)) (av (pA (pA (vR M 3) 1) 0)) (aj (pA (vR M 3) 2)) (aj (pA (pA (pA (vR M 3) 3) 2) 0)) (au (pA (pA (pA (vR M 3) 3) 2) 1)) (au (pA (pA (pA (vR M 3) 3) 2) 2)) (ak (pA (pA (pA (vR M 3) 3) 2) 3)) (ak (pA (pA (pA (vR M 3) 3) 2) 4)) (ak (pA (pA (pA (vR M 3) 3) 2) 5)) (aj (pA (pA (pA (vR M 3) 3) 2) 6)) := by kernel_rfl
theorem Pe (F : Tab) {dep : Nat} {args : List AV} {M : Mm} {t : LT} (ht : Du F dep args M = some t) {R : Type} (K : Res -> Mm -> Option R) (r : R) (hgo : t.go (bM K) = some r) :
    aW (cx F) (aD (cx F) dep) dep 131 args M K = some r := by
 unfold Du at ht
 split at ht
 . rename_i hok
   simp only [Bool.and_eq_true, Nat.beq_eq] at hok
   obtain ⟨rfl, hok⟩ := hok
   obtain ⟨h1, h2⟩ := ArP.ok_eq hok
   obtain rfl := Option.some.inj ht
   exact iD (X := fun args M => aW (cx F) (aD (cx F) 3) 3 131 args M K) (h1.trans (RL args M)) (h2.trans (Rj args M)) (gT (Uj _ _ _ _ _ _ _ _ _ _ _ _ _ _ _ _ _ _ _ _ _ _ _ _) (V9 F K _ _ _ _ _ _ _ _ _ _ _ _ _ _ _ _ _ _ _ _ _ _ _)) hgo
 . exact absurd ht (by simp)
theorem ZO {R : Type} (i0 i1 i2 : Int) (l0 l1 : List AV) (b0 b1 b2 : Bool) (i3 : Int) (l2 : List AV) (i4 : Int) (l3 l4 : List AV) (b3 b4 : Bool) (i5 : Int) (l5 : List AV) (i6 i7 : Int) (l6 l7 : List AV) (b5 b6 b7 : Bool) (i8 i9 : Int) (l8 l9 : List AV) (i10 i11 i12 i13 i14 : Int) (K : AX -> Fr -> Mm -> Option R) : (GH i0 i1 i2 l0 l1 b0 b1 b2 i3 l2 i4 l3 l4 b3 b4 i5 l5 i6 i7 l6 l7 b5 b6 b7 i8 i9 l8 l9 i10 i11 i12 i13 i14 LO.bad).go K = none := by kernel_rfl
theorem Vx (F : Tab) {R : Type} (K : Res -> Mm -> Option R) (i0 i1 i2 : Int) (l0 l1 : List AV) (b0 b1 b2 : Bool) (i3 : Int) (l2 : List AV) (i4 : Int) (l3 l4 : List AV) (b3 b4 : Bool) (i5 : Int) (l5 : List AV) (i6 i7 : Int) (l6 l7 : List AV) (b5 b6 b7 : Bool) (i8 i9 : Int) (l8 l9 : List AV) (i10 i11 i12 i13 i14 : Int) :
    aW (cx F) (aD (cx F) 2) 2 156 (IZ i0 i1 i2 l0 l1 b0 b1 b2 i3 l2 i4 l3 l4 b3 b4 i5 l5 i6 i7 l6 l7 b5 b6 b7 i8 i9 l8 l9 i10 i11 i12 i13 i14) (Jt i0 i1 i2 l0 l1 b0 b1 b2 i3 l2 i4 l3 l4 b3 b4 i5 l5 i6 i7 l6 l7 b5 b6 b7 i8 i9 l8 l9 i10 i11 i12 i13 i14) K = (G9 F i0 i1 i2 l0 l1 b0 b1 b2 i3 l2 i4 l3 l4 b3 b4 i5 l5 i6 i7 l6 l7 b5 b6 b7 i8 i9 l8 l9 i10 i11 i12 i13 i14).go (GH i0 i1 i2 l0 l1 b0 b1 b2 i3 l2 i4 l3 l4 b3 b4 i5 l5 i6 i7 l6 l7 b5 b6 b7 i8 i9 l8 l9 i10 i11 i12 i13 i14) (bM K) (fun _ => none) := by kernel_rfl
theorem Zg (args : List AV) (M : Mm) : Gm.args args = IZ (aj (args.getD 1 .dead)) (aj (args.getD 2 .dead)) (aj (pA (vR M 0) 0)) (au (pA (vR M 0) 1)) (au (pA (vR M 0) 2)) (ak (pA (vR M 0) 3)) (ak (pA (vR M 0) 4)) (ak (pA (vR M 0) 5)) (aj (pA (vR M 0) 6)) (av (pA (vR M 1) 0)) (aj (pA (pA (vR M 3) 0) 0)) (au (pA (pA (vR M 3) 0) 1)) (au (pA (pA (vR M 3) 0) 2)) (ak (pA (pA (vR M 3) 0) 3)) (ak (pA (pA (vR M 3) 0) 5)) (aj (pA (pA (vR M 3) 0) 6)) (av (pA (pA (vR M 3) 1) 0)) (aj (pA (vR M 3) 2)) (aj (pA (pA (pA (vR M 3) 3) 2) 0)) (au (pA (pA (pA (vR M 3) 3) 2) 1)) (au (pA (pA (pA (vR M 3) 3) 2) 2)) (ak (pA (pA (pA (vR M 3) 3) 2) 3)) (ak (pA (pA (pA (vR M 3) 3) 2) 4)) (ak (pA (pA (pA (vR M 3) 3) 2) 5)) (aj (pA (pA (pA (vR M 3) 3) 2) 6)) (aj (pA (pA (vR M 3) 3) 3)) (av (pA (pA (vR M 3) 3) 4)) (av (pA (pA (vR M 3) 3) 5)) (aj (pA (pA (vR M 3) 4) 0)) (aj (pA (pA (vR M 3) 4) 1)) (aj (pA (pA (vR M 3) 4) 2)) (aj (pA (pA (vR M 3) 4) 3)) (aj (pA (pA (vR M 3) 4) 4)) := by kernel_rfl
theorem YE (args : List AV) (M : Mm) : Gm.mm M = Jt (aj (args.getD 1 .dead)) (aj (args.getD 2 .dead)) (aj (pA (vR M 0) 0)) (au (pA (vR M 0) 1)) (au (pA (vR M 0) 2)) (ak (pA (vR M 0) 3)) (ak (pA (vR M 0) 4)) (ak (pA (vR M 0) 5)) (aj (pA (vR M 0) 6)) (av (pA (vR M 1) 0)) (aj (pA (pA (vR M 3) 0) 0)) (au (pA (pA (vR M 3) 0) 1)) (au (pA (pA (vR M 3) 0) 2)) (ak (pA (pA (vR M 3) 0) 3)) (ak (pA (pA (vR M 3) 0) 5)) (aj (pA (pA (vR M 3) 0) 6)) (av (pA (pA (vR M 3) 1) 0)) (aj (pA (vR M 3) 2)) (aj (pA (pA (pA (vR M 3) 3) 2) 0)) (au (pA (pA (pA (vR M 3) 3) 2) 1)) (au (pA (pA (pA (vR M 3) 3) 2) 2)) (ak (pA (pA (pA (vR M 3) 3) 2) 3)) (ak (pA (pA (pA (vR M 3) 3) 2) 4)) (ak (pA (pA (pA (vR M 3) 3) 2) 5)) (aj (pA (pA (pA (vR M 3) 3) 2) 6)) (aj (pA (pA (vR M 3) 3) 3)) (av (pA (pA (vR M 3) 3) 4)) (av (pA (pA (vR M 3) 3) 5)) (aj (pA (pA (vR M 3) 4) 0)) (aj (pA (pA (vR M 3) 4) 1)) (aj (pA (pA (vR M 3) 4) 2)) (aj (pA (pA (vR M 3) 4) 3)) (aj (pA (pA (vR M 3) 4) 4)) := by kernel_rfl
theorem Tt (F : Tab) {dep : Nat} {args : List AV} {M : Mm} {t : LT} (ht : F8 F dep args M = some t) {R : Type} (K : Res -> Mm -> Option R) (r : R) (hgo : t.go (bM K) = some r) :
    aW (cx F) (aD (cx F) dep) dep 156 args M K = some r := by
 unfold F8 at ht
 split at ht
 . rename_i hok
   simp only [Bool.and_eq_true, Nat.beq_eq] at hok
   obtain ⟨rfl, hok⟩ := hok
   obtain ⟨h1, h2⟩ := ArP.ok_eq hok
   obtain rfl := Option.some.inj ht
   exact iD (X := fun args M => aW (cx F) (aD (cx F) 2) 2 156 args M K) (h1.trans (Zg args M)) (h2.trans (YE args M)) (gT (ZO _ _ _ _ _ _ _ _ _ _ _ _ _ _ _ _ _ _ _ _ _ _ _ _ _ _ _ _ _ _ _ _ _ _) (Vx F K _ _ _ _ _ _ _ _ _ _ _ _ _ _ _ _ _ _ _ _ _ _ _ _ _ _ _ _ _ _ _ _ _)) hgo
 . exact absurd ht (by simp)
theorem PS {R : Type} (i0 i1 i2 i3 : Int) (l0 l1 : List AV) (b0 b1 b2 : Bool) (i4 : Int) (l2 : List AV) (i5 : Int) (l3 l4 : List AV) (b3 b4 : Bool) (i6 : Int) (l5 : List AV) (i7 i8 : Int) (l6 l7 : List AV) (b5 b6 b7 : Bool) (i9 i10 : Int) (l8 l9 : List AV) (i11 i12 i13 i14 i15 : Int) (K : AX -> Fr -> Mm -> Option R) : (Et i0 i1 i2 i3 l0 l1 b0 b1 b2 i4 l2 i5 l3 l4 b3 b4 i6 l5 i7 i8 l6 l7 b5 b6 b7 i9 i10 l8 l9 i11 i12 i13 i14 i15 LO.bad).go K = none := by kernel_rfl
theorem Vb (F : Tab) {R : Type} (K : Res -> Mm -> Option R) (i0 i1 i2 i3 : Int) (l0 l1 : List AV) (b0 b1 b2 : Bool) (i4 : Int) (l2 : List AV) (i5 : Int) (l3 l4 : List AV) (b3 b4 : Bool) (i6 : Int) (l5 : List AV) (i7 i8 : Int) (l6 l7 : List AV) (b5 b6 b7 : Bool) (i9 i10 : Int) (l8 l9 : List AV) (i11 i12 i13 i14 i15 : Int) :
    aW (cx F) (aD (cx F) 2) 2 159 (Je i0 i1 i2 i3 l0 l1 b0 b1 b2 i4 l2 i5 l3 l4 b3 b4 i6 l5 i7 i8 l6 l7 b5 b6 b7 i9 i10 l8 l9 i11 i12 i13 i14 i15) (Jm i0 i1 i2 i3 l0 l1 b0 b1 b2 i4 l2 i5 l3 l4 b3 b4 i6 l5 i7 i8 l6 l7 b5 b6 b7 i9 i10 l8 l9 i11 i12 i13 i14 i15) K = (Fy F i0 i1 i2 i3 l0 l1 b0 b1 b2 i4 l2 i5 l3 l4 b3 b4 i6 l5 i7 i8 l6 l7 b5 b6 b7 i9 i10 l8 l9 i11 i12 i13 i14 i15).go (Et i0 i1 i2 i3 l0 l1 b0 b1 b2 i4 l2 i5 l3 l4 b3 b4 i6 l5 i7 i8 l6 l7 b5 b6 b7 i9 i10 l8 l9 i11 i12 i13 i14 i15) (bM K) (fun _ => none) := by kernel_rfl
theorem TS (args : List AV) (M : Mm) : Dc.args args = Je (aj (pA (args.getD 1 .dead) 0)) (aj (pA (args.getD 1 .dead) 1)) (aj (pA (args.getD 1 .dead) 2)) (aj (pA (vR M 0) 0)) (au (pA (vR M 0) 1)) (au (pA (vR M 0) 2)) (ak (pA (vR M 0) 3)) (ak (pA (vR M 0) 4)) (ak (pA (vR M 0) 5)) (aj (pA (vR M 0) 6)) (av (pA (vR M 1) 0)) (aj (pA (pA (vR M 3) 0) 0)) (au (pA (pA (vR M 3) 0) 1)) (au (pA (pA (vR M 3) 0) 2)) (ak (pA (pA (vR M 3) 0) 3)) (ak (pA (pA (vR M 3) 0) 5)) (aj (pA (pA (vR M 3) 0) 6)) (av (pA (pA (vR M 3) 1) 0)) (aj (pA (vR M 3) 2)) (aj (pA (pA (pA (vR M 3) 3) 2) 0)) (au (pA (pA (pA (vR M 3) 3) 2) 1)) (au (pA (pA (pA (vR M 3) 3) 2) 2)) (ak (pA (pA (pA (vR M 3) 3) 2) 3)) (ak (pA (pA (pA (vR M 3) 3) 2) 4)) (ak (pA (pA (pA (vR M 3) 3) 2) 5)) (aj (pA (pA (pA (vR M 3) 3) 2) 6)) (aj (pA (pA (vR M 3) 3) 3)) (av (pA (pA (vR M 3) 3) 4)) (av (pA (pA (vR M 3) 3) 5)) (aj (pA (pA (vR M 3) 4) 0)) (aj (pA (pA (vR M 3) 4) 1)) (aj (pA (pA (vR M 3) 4) 2)) (aj (pA (pA (vR M 3) 4) 3)) (aj (pA (pA (vR M 3) 4) 4)) := by kernel_rfl
theorem Xq (args : List AV) (M : Mm) : Dc.mm M = Jm (aj (pA (args.getD 1 .dead) 0)) (aj (pA (args.getD 1 .dead) 1)) (aj (pA (args.getD 1 .dead) 2)) (aj (pA (vR M 0) 0)) (au (pA (vR M 0) 1)) (au (pA (vR M 0) 2)) (ak (pA (vR M 0) 3)) (ak (pA (vR M 0) 4)) (ak (pA (vR M 0) 5)) (aj (pA (vR M 0) 6)) (av (pA (vR M 1) 0)) (aj (pA (pA (vR M 3) 0) 0)) (au (pA (pA (vR M 3) 0) 1)) (au (pA (pA (vR M 3) 0) 2)) (ak (pA (pA (vR M 3) 0) 3)) (ak (pA (pA (vR M 3) 0) 5)) (aj (pA (pA (vR M 3) 0) 6)) (av (pA (pA (vR M 3) 1) 0)) (aj (pA (vR M 3) 2)) (aj (pA (pA (pA (vR M 3) 3) 2) 0)) (au (pA (pA (pA (vR M 3) 3) 2) 1)) (au (pA (pA (pA (vR M 3) 3) 2) 2)) (ak (pA (pA (pA (vR M 3) 3) 2) 3)) (ak (pA (pA (pA (vR M 3) 3) 2) 4)) (ak (pA (pA (pA (vR M 3) 3) 2) 5)) (aj (pA (pA (pA (vR M 3) 3) 2) 6)) (aj (pA (pA (vR M 3) 3) 3)) (av (pA (pA (vR M 3) 3) 4)) (av (pA (pA (vR M 3) 3) 5)) (aj (pA (pA (vR M 3) 4) 0)) (aj (pA (pA (vR M 3) 4) 1)) (aj (pA (pA (vR M 3) 4) 2)) (aj (pA (pA (vR M 3) 4) 3)) (aj (pA (pA (vR M 3) 4) 4)) := by kernel_rfl
theorem Xx (F : Tab) {dep : Nat} {args : List AV} {M : Mm} {t : LT} (ht : Eb F dep args M = some t) {R : Type} (K : Res -> Mm -> Option R) (r : R) (hgo : t.go (bM K) = some r) :
    aW (cx F) (aD (cx F) dep) dep 159 args M K = some r := by
 unfold Eb at ht
 split at ht
 . rename_i hok
   simp only [Bool.and_eq_true, Nat.beq_eq] at hok
   obtain ⟨rfl, hok⟩ := hok
   obtain ⟨h1, h2⟩ := ArP.ok_eq hok
   obtain rfl := Option.some.inj ht
   exact iD (X := fun args M => aW (cx F) (aD (cx F) 2) 2 159 args M K) (h1.trans (TS args M)) (h2.trans (Xq args M)) (gT (PS _ _ _ _ _ _ _ _ _ _ _ _ _ _ _ _ _ _ _ _ _ _ _ _ _ _ _ _ _ _ _ _ _ _ _) (Vb F K _ _ _ _ _ _ _ _ _ _ _ _ _ _ _ _ _ _ _ _ _ _ _ _ _ _ _ _ _ _ _ _ _ _)) hgo
 . exact absurd ht (by simp)
theorem Qi {R : Type} (i0 i1 i2 i3 : Int) (l0 l1 : List AV) (b0 b1 b2 : Bool) (i4 : Int) (l2 : List AV) (i5 : Int) (l3 l4 : List AV) (b3 b4 : Bool) (i6 : Int) (l5 : List AV) (i7 i8 : Int) (l6 l7 : List AV) (b5 b6 b7 : Bool) (i9 i10 : Int) (l8 l9 : List AV) (i11 i12 i13 i14 i15 : Int) (K : AX -> Fr -> Mm -> Option R) : (EG i0 i1 i2 i3 l0 l1 b0 b1 b2 i4 l2 i5 l3 l4 b3 b4 i6 l5 i7 i8 l6 l7 b5 b6 b7 i9 i10 l8 l9 i11 i12 i13 i14 i15 LO.bad).go K = none := by kernel_rfl
theorem UJ (F : Tab) {R : Type} (K : Res -> Mm -> Option R) (i0 i1 i2 i3 : Int) (l0 l1 : List AV) (b0 b1 b2 : Bool) (i4 : Int) (l2 : List AV) (i5 : Int) (l3 l4 : List AV) (b3 b4 : Bool) (i6 : Int) (l5 : List AV) (i7 i8 : Int) (l6 l7 : List AV) (b5 b6 b7 : Bool) (i9 i10 : Int) (l8 l9 : List AV) (i11 i12 i13 i14 i15 : Int) :
    aW (cx F) (aD (cx F) 2) 2 159 (KA i0 i1 i2 i3 l0 l1 b0 b1 b2 i4 l2 i5 l3 l4 b3 b4 i6 l5 i7 i8 l6 l7 b5 b6 b7 i9 i10 l8 l9 i11 i12 i13 i14 i15) (Iy i0 i1 i2 i3 l0 l1 b0 b1 b2 i4 l2 i5 l3 l4 b3 b4 i6 l5 i7 i8 l6 l7 b5 b6 b7 i9 i10 l8 l9 i11 i12 i13 i14 i15) K = (F6 F i0 i1 i2 i3 l0 l1 b0 b1 b2 i4 l2 i5 l3 l4 b3 b4 i6 l5 i7 i8 l6 l7 b5 b6 b7 i9 i10 l8 l9 i11 i12 i13 i14 i15).go (EG i0 i1 i2 i3 l0 l1 b0 b1 b2 i4 l2 i5 l3 l4 b3 b4 i6 l5 i7 i8 l6 l7 b5 b6 b7 i9 i10 l8 l9 i11 i12 i13 i14 i15) (bM K) (fun _ => none) := by kernel_rfl
theorem Yl (args : List AV) (M : Mm) : Em.args args = KA (aj (pA (args.getD 1 .dead) 0)) (aj (pA (args.getD 1 .dead) 1)) (aj (pA (args.getD 1 .dead) 2)) (aj (pA (vR M 0) 0)) (au (pA (vR M 0) 1)) (au (pA (vR M 0) 2)) (ak (pA (vR M 0) 3)) (ak (pA (vR M 0) 4)) (ak (pA (vR M 0) 5)) (aj (pA (vR M 0) 6)) (av (pA (vR M 1) 0)) (aj (pA (pA (vR M 3) 0) 0)) (au (pA (pA (vR M 3) 0) 1)) (au (pA (pA (vR M 3) 0) 2)) (ak (pA (pA (vR M 3) 0) 3)) (ak (pA (pA (vR M 3) 0) 5)) (aj (pA (pA (vR M 3) 0) 6)) (av (pA (pA (vR M 3) 1) 0)) (aj (pA (vR M 3) 2)) (aj (pA (pA (pA (vR M 3) 3) 2) 0)) (au (pA (pA (pA (vR M 3) 3) 2) 1)) (au (pA (pA (pA (vR M 3) 3) 2) 2)) (ak (pA (pA (pA (vR M 3) 3) 2) 3)) (ak (pA (pA (pA (vR M 3) 3) 2) 4)) (ak (pA (pA (pA (vR M 3) 3) 2) 5)) (aj (pA (pA (pA (vR M 3) 3) 2) 6)) (aj (pA (pA (vR M 3) 3) 3)) (av (pA (pA (vR M 3) 3) 4)) (av (pA (pA (vR M 3) 3) 5)) (aj (pA (pA (vR M 3) 4) 0)) (aj (pA (pA (vR M 3) 4) 1)) (aj (pA (pA (vR M 3) 4) 2)) (aj (pA (pA (vR M 3) 4) 3)) (aj (pA (pA (vR M 3) 4) 4)) := by kernel_rfl
theorem Z9 (args : List AV) (M : Mm) : Em.mm M = Iy (aj (pA (args.getD 1 .dead) 0)) (aj (pA (args.getD 1 .dead) 1)) (aj (pA (args.getD 1 .dead) 2)) (aj (pA (vR M 0) 0)) (au (pA (vR M 0) 1)) (au (pA (vR M 0) 2)) (ak (pA (vR M 0) 3)) (ak (pA (vR M 0) 4)) (ak (pA (vR M 0) 5)) (aj (pA (vR M 0) 6)) (av (pA (vR M 1) 0)) (aj (pA (pA (vR M 3) 0) 0)) (au (pA (pA (vR M 3) 0) 1)) (au (pA (pA (vR M 3) 0) 2)) (ak (pA (pA (vR M 3) 0) 3)) (ak (pA (pA (vR M 3) 0) 5)) (aj (pA (pA (vR M 3) 0) 6)) (av (pA (pA (vR M 3) 1) 0)) (aj (pA (vR M 3) 2)) (aj (pA (pA (pA (vR M 3) 3) 2) 0)) (au (pA (pA (pA (vR M 3) 3) 2) 1)) (au (pA (pA (pA (vR M 3) 3) 2) 2)) (ak (pA (pA (pA (vR M 3) 3) 2) 3)) (ak (pA (pA (pA (vR M 3) 3) 2) 4)) (ak (pA (pA (pA (vR M 3) 3) 2) 5)) (aj (pA (pA (pA (vR M 3) 3) 2) 6)) (aj (pA (pA (vR M 3) 3) 3)) (av (pA (pA (vR M 3) 3) 4)) (av (pA (pA (vR M 3) 3) 5)) (aj (pA (pA (vR M 3) 4) 0)) (aj (pA (pA (vR M 3) 4) 1)) (aj (pA (pA (vR M 3) 4) 2)) (aj (pA (pA (vR M 3) 4) 3)) (aj (pA (pA (vR M 3) 4) 4)) := by kernel_rfl
theorem P6 (F : Tab) {dep : Nat} {args : List AV} {M : Mm} {t : LT} (ht : FQ F dep args M = some t) {R : Type} (K : Res -> Mm -> Option R) (r : R) (hgo : t.go (bM K) = some r) :
    aW (cx F) (aD (cx F) dep) dep 159 args M K = some r := by
 unfold FQ at ht
 split at ht
 . rename_i hok
   simp only [Bool.and_eq_true, Nat.beq_eq] at hok
   obtain ⟨rfl, hok⟩ := hok
   obtain ⟨h1, h2⟩ := ArP.ok_eq hok
   obtain rfl := Option.some.inj ht
   exact iD (X := fun args M => aW (cx F) (aD (cx F) 2) 2 159 args M K) (h1.trans (Yl args M)) (h2.trans (Z9 args M)) (gT (Qi _ _ _ _ _ _ _ _ _ _ _ _ _ _ _ _ _ _ _ _ _ _ _ _ _ _ _ _ _ _ _ _ _ _ _) (UJ F K _ _ _ _ _ _ _ _ _ _ _ _ _ _ _ _ _ _ _ _ _ _ _ _ _ _ _ _ _ _ _ _ _ _)) hgo
 . exact absurd ht (by simp)
theorem YZ {R : Type} (i0 i1 i2 : Int) (l0 l1 : List AV) (b0 b1 b2 : Bool) (i3 : Int) (l2 : List AV) (i4 : Int) (l3 l4 : List AV) (b3 b4 : Bool) (i5 : Int) (l5 : List AV) (i6 i7 : Int) (l6 l7 : List AV) (b5 b6 b7 : Bool) (i8 i9 : Int) (l8 l9 : List AV) (i10 i11 i12 i13 i14 : Int) (K : AX -> Fr -> Mm -> Option R) : (Dx i0 i1 i2 l0 l1 b0 b1 b2 i3 l2 i4 l3 l4 b3 b4 i5 l5 i6 i7 l6 l7 b5 b6 b7 i8 i9 l8 l9 i10 i11 i12 i13 i14 LO.bad).go K = none := by kernel_rfl
theorem U5 (F : Tab) {R : Type} (K : Res -> Mm -> Option R) (i0 i1 i2 : Int) (l0 l1 : List AV) (b0 b1 b2 : Bool) (i3 : Int) (l2 : List AV) (i4 : Int) (l3 l4 : List AV) (b3 b4 : Bool) (i5 : Int) (l5 : List AV) (i6 i7 : Int) (l6 l7 : List AV) (b5 b6 b7 : Bool) (i8 i9 : Int) (l8 l9 : List AV) (i10 i11 i12 i13 i14 : Int) :
    aW (cx F) (aD (cx F) 3) 3 133 (Lr i0 i1 i2 l0 l1 b0 b1 b2 i3 l2 i4 l3 l4 b3 b4 i5 l5 i6 i7 l6 l7 b5 b6 b7 i8 i9 l8 l9 i10 i11 i12 i13 i14) (J3 i0 i1 i2 l0 l1 b0 b1 b2 i3 l2 i4 l3 l4 b3 b4 i5 l5 i6 i7 l6 l7 b5 b6 b7 i8 i9 l8 l9 i10 i11 i12 i13 i14) K = (Hl F i0 i1 i2 l0 l1 b0 b1 b2 i3 l2 i4 l3 l4 b3 b4 i5 l5 i6 i7 l6 l7 b5 b6 b7 i8 i9 l8 l9 i10 i11 i12 i13 i14).go (Dx i0 i1 i2 l0 l1 b0 b1 b2 i3 l2 i4 l3 l4 b3 b4 i5 l5 i6 i7 l6 l7 b5 b6 b7 i8 i9 l8 l9 i10 i11 i12 i13 i14) (bM K) (fun _ => none) := by kernel_rfl
theorem Uv (args : List AV) (M : Mm) : DC.args args = Lr (aj (args.getD 1 .dead)) (aj (args.getD 2 .dead)) (aj (pA (vR M 0) 0)) (au (pA (vR M 0) 1)) (au (pA (vR M 0) 2)) (ak (pA (vR M 0) 3)) (ak (pA (vR M 0) 4)) (ak (pA (vR M 0) 5)) (aj (pA (vR M 0) 6)) (av (pA (vR M 1) 0)) (aj (pA (pA (vR M 3) 0) 0)) (au (pA (pA (vR M 3) 0) 1)) (au (pA (pA (vR M 3) 0) 2)) (ak (pA (pA (vR M 3) 0) 3)) (ak (pA (pA (vR M 3) 0) 5)) (aj (pA (pA (vR M 3) 0) 6)) (av (pA (pA (vR M 3) 1) 0)) (aj (pA (vR M 3) 2)) (aj (pA (pA (pA (vR M 3) 3) 2) 0)) (au (pA (pA (pA (vR M 3) 3) 2) 1)) (au (pA (pA (pA (vR M 3) 3) 2) 2)) (ak (pA (pA (pA (vR M 3) 3) 2) 3)) (ak (pA (pA (pA (vR M 3) 3) 2) 4)) (ak (pA (pA (pA (vR M 3) 3) 2) 5)) (aj (pA (pA (pA (vR M 3) 3) 2) 6)) (aj (pA (pA (vR M 3) 3) 3)) (av (pA (pA (vR M 3) 3) 4)) (av (pA (pA (vR M 3) 3) 5)) (aj (pA (pA (vR M 3) 4) 0)) (aj (pA (pA (vR M 3) 4) 1)) (aj (pA (pA (vR M 3) 4) 2)) (aj (pA (pA (vR M 3) 4) 3)) (aj (pA (pA (vR M 3) 4) 4)) := by kernel_rfl
theorem Sy (args : List AV) (M : Mm) : DC.mm M = J3 (aj (args.getD 1 .dead)) (aj (args.getD 2 .dead)) (aj (pA (vR M 0) 0)) (au (pA (vR M 0) 1)) (au (pA (vR M 0) 2)) (ak (pA (vR M 0) 3)) (ak (pA (vR M 0) 4)) (ak (pA (vR M 0) 5)) (aj (pA (vR M 0) 6)) (av (pA (vR M 1) 0)) (aj (pA (pA (vR M 3) 0) 0)) (au (pA (pA (vR M 3) 0) 1)) (au (pA (pA (vR M 3) 0) 2)) (ak (pA (pA (vR M 3) 0) 3)) (ak (pA (pA (vR M 3) 0) 5)) (aj (pA (pA (vR M 3) 0) 6)) (av (pA (pA (vR M 3) 1) 0)) (aj (pA (vR M 3) 2)) (aj (pA (pA (pA (vR M 3) 3) 2) 0)) (au (pA (pA (pA (vR M 3) 3) 2) 1)) (au (pA (pA (pA (vR M 3) 3) 2) 2)) (ak (pA (pA (pA (vR M 3) 3) 2) 3)) (ak (pA (pA (pA (vR M 3) 3) 2) 4)) (ak (pA (pA (pA (vR M 3) 3) 2) 5)) (aj (pA (pA (pA (vR M 3) 3) 2) 6)) (aj (pA (pA (vR M 3) 3) 3)) (av (pA (pA (vR M 3) 3) 4)) (av (pA (pA (vR M 3) 3) 5)) (aj (pA (pA (vR M 3) 4) 0)) (aj (pA (pA (vR M 3) 4) 1)) (aj (pA (pA (vR M 3) 4) 2)) (aj (pA (pA (vR M 3) 4) 3)) (aj (pA (pA (vR M 3) 4) 4)) := by kernel_rfl
theorem Xd (F : Tab) {dep : Nat} {args : List AV} {M : Mm} {t : LT} (ht : Im F dep args M = some t) {R : Type} (K : Res -> Mm -> Option R) (r : R) (hgo : t.go (bM K) = some r) :
    aW (cx F) (aD (cx F) dep) dep 133 args M K = some r := by
 unfold Im at ht
 split at ht
 . rename_i hok
   simp only [Bool.and_eq_true, Nat.beq_eq] at hok
   obtain ⟨rfl, hok⟩ := hok
   obtain ⟨h1, h2⟩ := ArP.ok_eq hok
   obtain rfl := Option.some.inj ht
   exact iD (X := fun args M => aW (cx F) (aD (cx F) 3) 3 133 args M K) (h1.trans (Uv args M)) (h2.trans (Sy args M)) (gT (YZ _ _ _ _ _ _ _ _ _ _ _ _ _ _ _ _ _ _ _ _ _ _ _ _ _ _ _ _ _ _ _ _ _ _) (U5 F K _ _ _ _ _ _ _ _ _ _ _ _ _ _ _ _ _ _ _ _ _ _ _ _ _ _ _ _ _ _ _ _ _)) hgo
 . exact absurd ht (by simp)
theorem Sb {R : Type} (i0 : Int) (l0 l1 : List AV) (b0 b1 b2 : Bool) (i1 : Int) (l2 : List AV) (i2 : Int) (l3 l4 : List AV) (b3 b4 : Bool) (i3 : Int) (l5 : List AV) (i4 i5 : Int) (l6 l7 : List AV) (b5 b6 b7 : Bool) (i6 i7 : Int) (l8 l9 : List AV) (i8 i9 i10 i11 i12 : Int) (K : AX -> Fr -> Mm -> Option R) : (C8 i0 l0 l1 b0 b1 b2 i1 l2 i2 l3 l4 b3 b4 i3 l5 i4 i5 l6 l7 b5 b6 b7 i6 i7 l8 l9 i8 i9 i10 i11 i12 LO.bad).go K = none := by kernel_rfl
theorem YU (F : Tab) {R : Type} (K : Res -> Mm -> Option R) (i0 : Int) (l0 l1 : List AV) (b0 b1 b2 : Bool) (i1 : Int) (l2 : List AV) (i2 : Int) (l3 l4 : List AV) (b3 b4 : Bool) (i3 : Int) (l5 : List AV) (i4 i5 : Int) (l6 l7 : List AV) (b5 b6 b7 : Bool) (i6 i7 : Int) (l8 l9 : List AV) (i8 i9 i10 i11 i12 : Int) :
    aW (cx F) (aD (cx F) 3) 3 160 (MR i0 l0 l1 b0 b1 b2 i1 l2 i2 l3 l4 b3 b4 i3 l5 i4 i5 l6 l7 b5 b6 b7 i6 i7 l8 l9 i8 i9 i10 i11 i12) (Jy i0 l0 l1 b0 b1 b2 i1 l2 i2 l3 l4 b3 b4 i3 l5 i4 i5 l6 l7 b5 b6 b7 i6 i7 l8 l9 i8 i9 i10 i11 i12) K = (Ic F i0 l0 l1 b0 b1 b2 i1 l2 i2 l3 l4 b3 b4 i3 l5 i4 i5 l6 l7 b5 b6 b7 i6 i7 l8 l9 i8 i9 i10 i11 i12).go (C8 i0 l0 l1 b0 b1 b2 i1 l2 i2 l3 l4 b3 b4 i3 l5 i4 i5 l6 l7 b5 b6 b7 i6 i7 l8 l9 i8 i9 i10 i11 i12) (bM K) (fun _ => none) := by kernel_rfl
theorem Ue (args : List AV) (M : Mm) : Dh.args args = MR (aj (pA (vR M 0) 0)) (au (pA (vR M 0) 1)) (au (pA (vR M 0) 2)) (ak (pA (vR M 0) 3)) (ak (pA (vR M 0) 4)) (ak (pA (vR M 0) 5)) (aj (pA (vR M 0) 6)) (av (pA (vR M 1) 0)) (aj (pA (pA (vR M 3) 0) 0)) (au (pA (pA (vR M 3) 0) 1)) (au (pA (pA (vR M 3) 0) 2)) (ak (pA (pA (vR M 3) 0) 3)) (ak (pA (pA (vR M 3) 0) 5)) (aj (pA (pA (vR M 3) 0) 6)) (av (pA (pA (vR M 3) 1) 0)) (aj (pA (vR M 3) 2)) (aj (pA (pA (pA (vR M 3) 3) 2) 0)) (au (pA (pA (pA (vR M 3) 3) 2) 1)) (au (pA (pA (pA (vR M 3) 3) 2) 2)) (ak (pA (pA (pA (vR M 3) 3) 2) 3)) (ak (pA (pA (pA (vR M 3) 3) 2) 4)) (ak (pA (pA (pA (vR M 3) 3) 2) 5)) (aj (pA (pA (pA (vR M 3) 3) 2) 6)) (aj (pA (pA (vR M 3) 3) 3)) (av (pA (pA (vR M 3) 3) 4)) (av (pA (pA (vR M 3) 3) 5)) (aj (pA (pA (vR M 3) 4) 0)) (aj (pA (pA (vR M 3) 4) 1)) (aj (pA (pA (vR M 3) 4) 2)) (aj (pA (pA (vR M 3) 4) 3)) (aj (pA (pA (vR M 3) 4) 4)) := by kernel_rfl
theorem Z0 (args : List AV) (M : Mm) : Dh.mm M = Jy (aj (pA (vR M 0) 0)) (au (pA (vR M 0) 1)) (au (pA (vR M 0) 2)) (ak (pA (vR M 0) 3)) (ak (pA (vR M 0) 4)) (ak (pA (vR M 0) 5)) (aj (pA (vR M 0) 6)) (av (pA (vR M 1) 0)) (aj (pA (pA (vR M 3) 0) 0)) (au (pA (pA (vR M 3) 0) 1)) (au (pA (pA (vR M 3) 0) 2)) (ak (pA (pA (vR M 3) 0) 3)) (ak (pA (pA (vR M 3) 0) 5)) (aj (pA (pA (vR M 3) 0) 6)) (av (pA (pA (vR M 3) 1) 0)) (aj (pA (vR M 3) 2)) (aj (pA (pA (pA (vR M 3) 3) 2) 0)) (au (pA (pA (pA (vR M 3) 3) 2) 1)) (au (pA (pA (pA (vR M 3) 3) 2) 2)) (ak (pA (pA (pA (vR M 3) 3) 2) 3)) (ak (pA (pA (pA (vR M 3) 3) 2) 4)) (ak (pA (pA (pA (vR M 3) 3) 2) 5)) (aj (pA (pA (pA (vR M 3) 3) 2) 6)) (aj (pA (pA (vR M 3) 3) 3)) (av (pA (pA (vR M 3) 3) 4)) (av (pA (pA (vR M 3) 3) 5)) (aj (pA (pA (vR M 3) 4) 0)) (aj (pA (pA (vR M 3) 4) 1)) (aj (pA (pA (vR M 3) 4) 2)) (aj (pA (pA (vR M 3) 4) 3)) (aj (pA (pA (vR M 3) 4) 4)) := by kernel_rfl
theorem TM (F : Tab) {dep : Nat} {args : List AV} {M : Mm} {t : LT} (ht : Gy F dep args M = some t) {R : Type} (K : Res -> Mm -> Option R) (r : R) (hgo : t.go (bM K) = some r) :
    aW (cx F) (aD (cx F) dep) dep 160 args M K = some r := by
 unfold Gy at ht
 split at ht
 . rename_i hok
   simp only [Bool.and_eq_true, Nat.beq_eq] at hok
   obtain ⟨rfl, hok⟩ := hok
   obtain ⟨h1, h2⟩ := ArP.ok_eq hok
   obtain rfl := Option.some.inj ht
   exact iD (X := fun args M => aW (cx F) (aD (cx F) 3) 3 160 args M K) (h1.trans (Ue args M)) (h2.trans (Z0 args M)) (gT (Sb _ _ _ _ _ _ _ _ _ _ _ _ _ _ _ _ _ _ _ _ _ _ _ _ _ _ _ _ _ _ _ _) (YU F K _ _ _ _ _ _ _ _ _ _ _ _ _ _ _ _ _ _ _ _ _ _ _ _ _ _ _ _ _ _ _)) hgo
 . exact absurd ht (by simp)
theorem Pp {R : Type} (i0 : Int) (l0 l1 : List AV) (b0 b1 b2 : Bool) (i1 : Int) (l2 : List AV) (i2 : Int) (l3 l4 : List AV) (b3 b4 : Bool) (i3 : Int) (l5 : List AV) (i4 i5 : Int) (l6 l7 : List AV) (b5 b6 b7 : Bool) (i6 i7 : Int) (l8 l9 : List AV) (i8 i9 i10 i11 i12 : Int) (K : AX -> Fr -> Mm -> Option R) : (Dp i0 l0 l1 b0 b1 b2 i1 l2 i2 l3 l4 b3 b4 i3 l5 i4 i5 l6 l7 b5 b6 b7 i6 i7 l8 l9 i8 i9 i10 i11 i12 LO.bad).go K = none := by kernel_rfl
theorem R5 (F : Tab) {R : Type} (K : Res -> Mm -> Option R) (i0 : Int) (l0 l1 : List AV) (b0 b1 b2 : Bool) (i1 : Int) (l2 : List AV) (i2 : Int) (l3 l4 : List AV) (b3 b4 : Bool) (i3 : Int) (l5 : List AV) (i4 i5 : Int) (l6 l7 : List AV) (b5 b6 b7 : Bool) (i6 i7 : Int) (l8 l9 : List AV) (i8 i9 i10 i11 i12 : Int) :
    aW (cx F) (aD (cx F) 3) 3 161 (M8 i0 l0 l1 b0 b1 b2 i1 l2 i2 l3 l4 b3 b4 i3 l5 i4 i5 l6 l7 b5 b6 b7 i6 i7 l8 l9 i8 i9 i10 i11 i12) (K9 i0 l0 l1 b0 b1 b2 i1 l2 i2 l3 l4 b3 b4 i3 l5 i4 i5 l6 l7 b5 b6 b7 i6 i7 l8 l9 i8 i9 i10 i11 i12) K = (Db F i0 l0 l1 b0 b1 b2 i1 l2 i2 l3 l4 b3 b4 i3 l5 i4 i5 l6 l7 b5 b6 b7 i6 i7 l8 l9 i8 i9 i10 i11 i12).go (Dp i0 l0 l1 b0 b1 b2 i1 l2 i2 l3 l4 b3 b4 i3 l5 i4 i5 l6 l7 b5 b6 b7 i6 i7 l8 l9 i8 i9 i10 i11 i12) (bM K) (fun _ => none) := by kernel_rfl
theorem VK (args : List AV) (M : Mm) : Gz.args args = M8 (aj (pA (vR M 0) 0)) (au (pA (vR M 0) 1)) (au (pA (vR M 0) 2)) (ak (pA (vR M 0) 3)) (ak (pA (vR M 0) 4)) (ak (pA (vR M 0) 5)) (aj (pA (vR M 0) 6)) (av (pA (vR M 1) 0)) (aj (pA (pA (vR M 3) 0) 0)) (au (pA (pA (vR M 3) 0) 1)) (au (pA (pA (vR M 3) 0) 2)) (ak (pA (pA (vR M 3) 0) 3)) (ak (pA (pA (vR M 3) 0) 5)) (aj (pA (pA (vR M 3) 0) 6)) (av (pA (pA (vR M 3) 1) 0)) (aj (pA (vR M 3) 2)) (aj (pA (pA (pA (vR M 3) 3) 2) 0)) (au (pA (pA (pA (vR M 3) 3) 2) 1)) (au (pA (pA (pA (vR M 3) 3) 2) 2)) (ak (pA (pA (pA (vR M 3) 3) 2) 3)) (ak (pA (pA (pA (vR M 3) 3) 2) 4)) (ak (pA (pA (pA (vR M 3) 3) 2) 5)) (aj (pA (pA (pA (vR M 3) 3) 2) 6)) (aj (pA (pA (vR M 3) 3) 3)) (av (pA (pA (vR M 3) 3) 4)) (av (pA (pA (vR M 3) 3) 5)) (aj (pA (pA (vR M 3) 4) 0)) (aj (pA (pA (vR M 3) 4) 1)) (aj (pA (pA (vR M 3) 4) 2)) (aj (pA (pA (vR M 3) 4) 3)) (aj (pA (pA (vR M 3) 4) 4)) := by kernel_rfl
theorem VP (args : List AV) (M : Mm) : Gz.mm M = K9 (aj (pA (vR M 0) 0)) (au (pA (vR M 0) 1)) (au (pA (vR M 0) 2)) (ak (pA (vR M 0) 3)) (ak (pA (vR M 0) 4)) (ak (pA (vR M 0) 5)) (aj (pA (vR M 0) 6)) (av (pA (vR M 1) 0)) (aj (pA (pA (vR M 3) 0) 0)) (au (pA (pA (vR M 3) 0) 1)) (au (pA (pA (vR M 3) 0) 2)) (ak (pA (pA (vR M 3) 0) 3)) (ak (pA (pA (vR M 3) 0) 5)) (aj (pA (pA (vR M 3) 0) 6)) (av (pA (pA (vR M 3) 1) 0)) (aj (pA (vR M 3) 2)) (aj (pA (pA (pA (vR M 3) 3) 2) 0)) (au (pA (pA (pA (vR M 3) 3) 2) 1)) (au (pA (pA (pA (vR M 3) 3) 2) 2)) (ak (pA (pA (pA (vR M 3) 3) 2) 3)) (ak (pA (pA (pA (vR M 3) 3) 2) 4)) (ak (pA (pA (pA (vR M 3) 3) 2) 5)) (aj (pA (pA (pA (vR M 3) 3) 2) 6)) (aj (pA (pA (vR M 3) 3) 3)) (av (pA (pA (vR M 3) 3) 4)) (av (pA (pA (vR M 3) 3) 5)) (aj (pA (pA (vR M 3) 4) 0)) (aj (pA (pA (vR M 3) 4) 1)) (aj (pA (pA (vR M 3) 4) 2)) (aj (pA (pA (vR M 3) 4) 3)) (aj (pA (pA (vR M 3) 4) 4)) := by kernel_rfl
theorem UR (F : Tab) {dep : Nat} {args : List AV} {M : Mm} {t : LT} (ht : G7 F dep args M = some t) {R : Type} (K : Res -> Mm -> Option R) (r : R) (hgo : t.go (bM K) = some r) :
    aW (cx F) (aD (cx F) dep) dep 161 args M K = some r := by
 unfold G7 at ht
 split at ht
 . rename_i hok
   simp only [Bool.and_eq_true, Nat.beq_eq] at hok
   obtain ⟨rfl, hok⟩ := hok
   obtain ⟨h1, h2⟩ := ArP.ok_eq hok
   obtain rfl := Option.some.inj ht
   exact iD (X := fun args M => aW (cx F) (aD (cx F) 3) 3 161 args M K) (h1.trans (VK args M)) (h2.trans (VP args M)) (gT (Pp _ _ _ _ _ _ _ _ _ _ _ _ _ _ _ _ _ _ _ _ _ _ _ _ _ _ _ _ _ _ _ _) (R5 F K _ _ _ _ _ _ _ _ _ _ _ _ _ _ _ _ _ _ _ _ _ _ _ _ _ _ _ _ _ _ _)) hgo
 . exact absurd ht (by simp)
theorem Uu {R : Type} (i0 : Int) (l0 l1 : List AV) (b0 b1 b2 : Bool) (i1 : Int) (l2 : List AV) (i2 : Int) (l3 l4 : List AV) (b3 b4 : Bool) (i3 : Int) (l5 : List AV) (i4 i5 : Int) (l6 l7 : List AV) (b5 b6 b7 : Bool) (i6 i7 : Int) (l8 l9 : List AV) (i8 i9 i10 i11 i12 : Int) (K : AX -> Fr -> Mm -> Option R) : (H9 i0 l0 l1 b0 b1 b2 i1 l2 i2 l3 l4 b3 b4 i3 l5 i4 i5 l6 l7 b5 b6 b7 i6 i7 l8 l9 i8 i9 i10 i11 i12 LO.bad).go K = none := by kernel_rfl
theorem ZU (F : Tab) {R : Type} (K : Res -> Mm -> Option R) (i0 : Int) (l0 l1 : List AV) (b0 b1 b2 : Bool) (i1 : Int) (l2 : List AV) (i2 : Int) (l3 l4 : List AV) (b3 b4 : Bool) (i3 : Int) (l5 : List AV) (i4 i5 : Int) (l6 l7 : List AV) (b5 b6 b7 : Bool) (i6 i7 : Int) (l8 l9 : List AV) (i8 i9 i10 i11 i12 : Int) :
    aW (cx F) (aD (cx F) 3) 3 162 (Ns i0 l0 l1 b0 b1 b2 i1 l2 i2 l3 l4 b3 b4 i3 l5 i4 i5 l6 l7 b5 b6 b7 i6 i7 l8 l9 i8 i9 i10 i11 i12) (LB i0 l0 l1 b0 b1 b2 i1 l2 i2 l3 l4 b3 b4 i3 l5 i4 i5 l6 l7 b5 b6 b7 i6 i7 l8 l9 i8 i9 i10 i11 i12) K = (F5 F i0 l0 l1 b0 b1 b2 i1 l2 i2 l3 l4 b3 b4 i3 l5 i4 i5 l6 l7 b5 b6 b7 i6 i7 l8 l9 i8 i9 i10 i11 i12).go (H9 i0 l0 l1 b0 b1 b2 i1 l2 i2 l3 l4 b3 b4 i3 l5 i4 i5 l6 l7 b5 b6 b7 i6 i7 l8 l9 i8 i9 i10 i11 i12) (bM K) (fun _ => none) := by kernel_rfl
theorem Qv (args : List AV) (M : Mm) : Ec.args args = Ns (aj (pA (vR M 0) 0)) (au (pA (vR M 0) 1)) (au (pA (vR M 0) 2)) (ak (pA (vR M 0) 3)) (ak (pA (vR M 0) 4)) (ak (pA (vR M 0) 5)) (aj (pA (vR M 0) 6)) (av (pA (vR M 1) 0)) (aj (pA (pA (vR M 3) 0) 0)) (au (pA (pA (vR M 3) 0) 1)) (au (pA (pA (vR M 3) 0) 2)) (ak (pA (pA (vR M 3) 0) 3)) (ak (pA (pA (vR M 3) 0) 5)) (aj (pA (pA (vR M 3) 0) 6)) (av (pA (pA (vR M 3) 1) 0)) (aj (pA (vR M 3) 2)) (aj (pA (pA (pA (vR M 3) 3) 2) 0)) (au (pA (pA (pA (vR M 3) 3) 2) 1)) (au (pA (pA (pA (vR M 3) 3) 2) 2)) (ak (pA (pA (pA (vR M 3) 3) 2) 3)) (ak (pA (pA (pA (vR M 3) 3) 2) 4)) (ak (pA (pA (pA (vR M 3) 3) 2) 5)) (aj (pA (pA (pA (vR M 3) 3) 2) 6)) (aj (pA (pA (vR M 3) 3) 3)) (av (pA (pA (vR M 3) 3) 4)) (av (pA (pA (vR M 3) 3) 5)) (aj (pA (pA (vR M 3) 4) 0)) (aj (pA (pA (vR M 3) 4) 1)) (aj (pA (pA (vR M 3) 4) 2)) (aj (pA (pA (vR M 3) 4) 3)) (aj (pA (pA (vR M 3) 4) 4)) := by kernel_rfl
theorem TV (args : List AV) (M : Mm) : Ec.mm M = LB (aj (pA (vR M 0) 0)) (au (pA (vR M 0) 1)) (au (pA (vR M 0) 2)) (ak (pA (vR M 0) 3)) (ak (pA (vR M 0) 4)) (ak (pA (vR M 0) 5)) (aj (pA (vR M 0) 6)) (av (pA (vR M 1) 0)) (aj (pA (pA (vR M 3) 0) 0)) (au (pA (pA (vR M 3) 0) 1)) (au (pA (pA (vR M 3) 0) 2)) (ak (pA (pA (vR M 3) 0) 3)) (ak (pA (pA (vR M 3) 0) 5)) (aj (pA (pA (vR M 3) 0) 6)) (av (pA (pA (vR M 3) 1) 0)) (aj (pA (vR M 3) 2)) (aj (pA (pA (pA (vR M 3) 3) 2) 0)) (au (pA (pA (pA (vR M 3) 3) 2) 1)) (au (pA (pA (pA (vR M 3) 3) 2) 2)) (ak (pA (pA (pA (vR M 3) 3) 2) 3)) (ak (pA (pA (pA (vR M 3) 3) 2) 4)) (ak (pA (pA (pA (vR M 3) 3) 2) 5)) (aj (pA (pA (pA (vR M 3) 3) 2) 6)) (aj (pA (pA (vR M 3) 3) 3)) (av (pA (pA (vR M 3) 3) 4)) (av (pA (pA (vR M 3) 3) 5)) (aj (pA (pA (vR M 3) 4) 0)) (aj (pA (pA (vR M 3) 4) 1)) (aj (pA (pA (vR M 3) 4) 2)) (aj (pA (pA (vR M 3) 4) 3)) (aj (pA (pA (vR M 3) 4) 4)) := by kernel_rfl
theorem Yp (F : Tab) {dep : Nat} {args : List AV} {M : Mm} {t : LT} (ht : Cm F dep args M = some t) {R : Type} (K : Res -> Mm -> Option R) (r : R) (hgo : t.go (bM K) = some r) :
    aW (cx F) (aD (cx F) dep) dep 162 args M K = some r := by
 unfold Cm at ht
 split at ht
 . rename_i hok
   simp only [Bool.and_eq_true, Nat.beq_eq] at hok
   obtain ⟨rfl, hok⟩ := hok
   obtain ⟨h1, h2⟩ := ArP.ok_eq hok
   obtain rfl := Option.some.inj ht
   exact iD (X := fun args M => aW (cx F) (aD (cx F) 3) 3 162 args M K) (h1.trans (Qv args M)) (h2.trans (TV args M)) (gT (Uu _ _ _ _ _ _ _ _ _ _ _ _ _ _ _ _ _ _ _ _ _ _ _ _ _ _ _ _ _ _ _ _) (ZU F K _ _ _ _ _ _ _ _ _ _ _ _ _ _ _ _ _ _ _ _ _ _ _ _ _ _ _ _ _ _ _)) hgo
 . exact absurd ht (by simp)
end
end Go.Proofs.Ytcknhfnbdgleiaa
