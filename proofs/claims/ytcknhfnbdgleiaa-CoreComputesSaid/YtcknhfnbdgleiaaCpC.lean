/- What the loops come to, as functions of their own; the context. (Printed by a program of mine, gen.py.) -/
import Derived.Test.YtcknhfnbdgleiaaCoD
set_option linter.unusedVariables false
set_option linter.unusedSimpArgs false
namespace Go.Proofs.Ytcknhfnbdgleiaa.Computes
open Go.AE

noncomputable section

/-- Loop 13 of law12.CoreComputes. -/
def kU (F : Tab) (i0 i2 : Int) (l0 l1 : List AV) (b0 b1 b2 : Bool) (i3 : Int) (l2 : List AV) (i4 i5 i6 i7 i8 i9 i10 : Int) (l3 : List AV) (b3 b4 : Bool) (i11 : Int) (l4 l5 : List AV) (b5 b6 b7 : Bool) (i12 i13 : Int) (l6 l7 : List AV) (b8 b9 b10 : Bool) (i14 i15 : Int) (l8 l9 : List AV) (b11 b12 : Bool) (i16 i17 i18 i19 i20 : Int) (i1 : Int) : Tr (Int) :=
    let x0 : Bool := cond (i1 != i5) ((intOf (l4.getD i1.toNat .dead)) != (intOf (l0.getD i1.toNat .dead))) (cond (i1 == 0) ((intOf (l4.getD i1.toNat .dead)) != (intOf (l0.getD i1.toNat .dead))) false);
    let x1 : Bool := jo (i1 != i5) (cond (inB i1 16) (cond (inB i1 16) true false) false) (jo (i1 == 0) (cond (inB i1 16) (cond (inB i1 16) true false) false) true);
    .br (decide (i1 < 16))
     (.br (jo (i1 == i5) (jo (i1 != 0) (cond (inB i1 16) (jo ((intOf (l4.getD i1.toNat .dead)) != i0) true x1) false) x1) x1)
      (.br (cond (i1 == i5) (cond (i1 != 0) (cond ((intOf (l4.getD i1.toNat .dead)) != i0) true x0) x0) x0)
       (.out ⟨1, [], [], [], [], [], []⟩)
       (.next (IntKind.i64.wrap (i1 + 1))))
      (.bad))
     (.out ⟨2, [], [], [], [], [], []⟩)
def aW (F : Tab) (i0 i2 : Int) (l0 l1 : List AV) (b0 b1 b2 : Bool) (i3 : Int) (l2 : List AV) (i4 i5 i6 i7 i8 i9 i10 : Int) (l3 : List AV) (b3 b4 : Bool) (i11 : Int) (l4 l5 : List AV) (b5 b6 b7 : Bool) (i12 i13 : Int) (l6 l7 : List AV) (b8 b9 b10 : Bool) (i14 i15 : Int) (l8 l9 : List AV) (b11 b12 : Bool) (i16 i17 i18 i19 i20 : Int) (s : Int) : Tr (Int) := kU F i0 i2 l0 l1 b0 b1 b2 i3 l2 i4 i5 i6 i7 i8 i9 i10 l3 b3 b4 i11 l4 l5 b5 b6 b7 i12 i13 l6 l7 b8 b9 b10 i14 i15 l8 l9 b11 b12 i16 i17 i18 i19 i20 s
def bD (i0 i2 : Int) (l0 l1 : List AV) (b0 b1 b2 : Bool) (i3 : Int) (l2 : List AV) (i4 i5 i6 i7 i8 i9 i10 : Int) (l3 : List AV) (b3 b4 : Bool) (i11 : Int) (l4 l5 : List AV) (b5 b6 b7 : Bool) (i12 i13 : Int) (l6 l7 : List AV) (b8 b9 b10 : Bool) (i14 i15 : Int) (l8 l9 : List AV) (b11 b12 : Bool) (i16 i17 i18 i19 i20 : Int) (s : Int) : Fr := (mkFr 186 [(3, .ptr 0 [] 105 0), (5, .ptr 2 [] 123 0), (10, .ptr 5 [] 112 0), (11, .int .u32 i0), (13, .int .i64 s)] [])
def bL (i0 i2 : Int) (l0 l1 : List AV) (b0 b1 b2 : Bool) (i3 : Int) (l2 : List AV) (i4 i5 i6 i7 i8 i9 i10 : Int) (l3 : List AV) (b3 b4 : Bool) (i11 : Int) (l4 l5 : List AV) (b5 b6 b7 : Bool) (i12 i13 : Int) (l6 l7 : List AV) (b8 b9 b10 : Bool) (i14 i15 : Int) (l8 l9 : List AV) (b11 b12 : Bool) (i16 i17 i18 i19 i20 : Int) (s : Int) : Mm := ⟨[.var 105 (.agg 104 [.int .u32 i2, .agg 102 l0, .agg 103 l1, .bool b0, .bool b1, .bool b2, .int .i64 i3]), .var 24 (.agg 23 [.slice 118 l2 false]), .var 123 (.agg 122 [.int .i64 i4, .int .i64 i5, .int .i64 i6, .int .i64 i7, .int .i64 i8]), .var 126 (.agg 125 [.int .u32 i9, .int .i64 i10]), .var 129 (.agg 128 [.agg 23 [.slice 118 l3 false], .bool b3]), .var 112 (.agg 111 [.bool b4, .agg 104 [.int .u32 i11, .agg 102 l4, .agg 103 l5, .bool b5, .bool b6, .bool b7, .int .i64 i12], .agg 104 [.int .u32 i13, .agg 102 l6, .agg 103 l7, .bool b8, .bool b9, .bool b10, .int .i64 i14], .int .u32 i15, .slice 42 l8 false, .slice 116 l9 false, .bool b11, .agg 109 [.bool b12, .int .i64 i16, .int .u32 i17], .int .i64 i18, .int .u32 i19, .int .i64 i20])], []⟩
def aN (F : Tab) (i0 i2 : Int) (l0 l1 : List AV) (b0 b1 b2 : Bool) (i3 : Int) (l2 : List AV) (i4 i5 i6 i7 i8 i9 i10 : Int) (l3 : List AV) (b3 b4 : Bool) (i11 : Int) (l4 l5 : List AV) (b5 b6 b7 : Bool) (i12 i13 : Int) (l6 l7 : List AV) (b8 b9 b10 : Bool) (i14 i15 : Int) (l8 l9 : List AV) (b11 b12 : Bool) (i16 i17 i18 i19 i20 : Int) (fuel : Nat) (i1 : Int) : LO := Tr.run (aW F i0 i2 l0 l1 b0 b1 b2 i3 l2 i4 i5 i6 i7 i8 i9 i10 l3 b3 b4 i11 l4 l5 b5 b6 b7 i12 i13 l6 l7 b8 b9 b10 i14 i15 l8 l9 b11 b12 i16 i17 i18 i19 i20) fuel (i1)
def bN (i0 i2 : Int) (l0 l1 : List AV) (b0 b1 b2 : Bool) (i3 : Int) (l2 : List AV) (i4 i5 i6 i7 i8 i9 i10 : Int) (l3 : List AV) (b3 b4 : Bool) (i11 : Int) (l4 l5 : List AV) (b5 b6 b7 : Bool) (i12 i13 : Int) (l6 l7 : List AV) (b8 b9 b10 : Bool) (i14 i15 : Int) (l8 l9 : List AV) (b11 b12 : Bool) (i16 i17 i18 i19 i20 : Int) (lo : LO) : LT :=
 .br (lo.k == 1) (.done .ret (mkFr 186 [(6, .bool false)] []) ⟨[.var 105 (.agg 104 [.int .u32 i2, .agg 102 l0, .agg 103 l1, .bool b0, .bool b1, .bool b2, .int .i64 i3]), .var 24 (.agg 23 [.slice 118 l2 false]), .var 123 (.agg 122 [.int .i64 i4, .int .i64 i5, .int .i64 i6, .int .i64 i7, .int .i64 i8]), .var 126 (.agg 125 [.int .u32 i9, .int .i64 i10]), .var 129 (.agg 128 [.agg 23 [.slice 118 l3 false], .bool b3]), .var 112 (.agg 111 [.bool b4, .agg 104 [.int .u32 i11, .agg 102 l4, .agg 103 l5, .bool b5, .bool b6, .bool b7, .int .i64 i12], .agg 104 [.int .u32 i13, .agg 102 l6, .agg 103 l7, .bool b8, .bool b9, .bool b10, .int .i64 i14], .int .u32 i15, .slice 42 l8 false, .slice 116 l9 false, .bool b11, .agg 109 [.bool b12, .int .i64 i16, .int .u32 i17], .int .i64 i18, .int .u32 i19, .int .i64 i20])], []⟩) (.br (lo.k == 2) (.done (.exit 0) (mkFr 186 [] []) ⟨[.var 105 (.agg 104 [.int .u32 i2, .agg 102 l0, .agg 103 l1, .bool b0, .bool b1, .bool b2, .int .i64 i3]), .var 24 (.agg 23 [.slice 118 l2 false]), .var 123 (.agg 122 [.int .i64 i4, .int .i64 i5, .int .i64 i6, .int .i64 i7, .int .i64 i8]), .var 126 (.agg 125 [.int .u32 i9, .int .i64 i10]), .var 129 (.agg 128 [.agg 23 [.slice 118 l3 false], .bool b3]), .var 112 (.agg 111 [.bool b4, .agg 104 [.int .u32 i11, .agg 102 l4, .agg 103 l5, .bool b5, .bool b6, .bool b7, .int .i64 i12], .agg 104 [.int .u32 i13, .agg 102 l6, .agg 103 l7, .bool b8, .bool b9, .bool b10, .int .i64 i14], .int .u32 i15, .slice 42 l8 false, .slice 116 l9 false, .bool b11, .agg 109 [.bool b12, .int .i64 i16, .int .u32 i17], .int .i64 i18, .int .u32 i19, .int .i64 i20])], []⟩) (.fail))
def fT : StP := ⟨186, [(3, .ptr 0 [] 105 (some 0)), (5, .ptr 2 [] 123 (some 0)), (10, .ptr 5 [] 112 (some 0)), (11, .int .u32), (13, .int .i64)], [], [.var 105 (.agg 104 [.int .u32, .aggO 102, .aggO 103, .bool, .bool, .bool, .int .i64]), .var 24 (.agg 23 [.slice 118 false]), .var 123 (.agg 122 [.int .i64, .int .i64, .int .i64, .int .i64, .int .i64]), .var 126 (.agg 125 [.int .u32, .int .i64]), .var 129 (.agg 128 [.agg 23 [.slice 118 false], .bool]), .var 112 (.agg 111 [.bool, .agg 104 [.int .u32, .aggO 102, .aggO 103, .bool, .bool, .bool, .int .i64], .agg 104 [.int .u32, .aggO 102, .aggO 103, .bool, .bool, .bool, .int .i64], .int .u32, .slice 42 false, .slice 116 false, .bool, .agg 109 [.bool, .int .i64, .int .u32], .int .i64, .int .u32, .int .i64])], []⟩
def sw (F : Tab) (i0 i2 : Int) (l0 l1 : List AV) (b0 b1 b2 : Bool) (i3 : Int) (l2 : List AV) (i4 i5 i6 i7 i8 i9 i10 : Int) (l3 : List AV) (b3 b4 : Bool) (i11 : Int) (l4 l5 : List AV) (b5 b6 b7 : Bool) (i12 i13 : Int) (l6 l7 : List AV) (b8 b9 b10 : Bool) (i14 i15 : Int) (l8 l9 : List AV) (b11 b12 : Bool) (i16 i17 i18 i19 i20 : Int) (i1 : Int) : LT := bN i0 i2 l0 l1 b0 b1 b2 i3 l2 i4 i5 i6 i7 i8 i9 i10 l3 b3 b4 i11 l4 l5 b5 b6 b7 i12 i13 l6 l7 b8 b9 b10 i14 i15 l8 l9 b11 b12 i16 i17 i18 i19 i20 (aN F i0 i2 l0 l1 b0 b1 b2 i3 l2 i4 i5 i6 i7 i8 i9 i10 l3 b3 b4 i11 l4 l5 b5 b6 b7 i12 i13 l6 l7 b8 b9 b10 i14 i15 l8 l9 b11 b12 i16 i17 i18 i19 i20 100000 i1)
def gN (F : Tab) (dep : Nat) (fr : Fr) (M : Mm) : Option LT :=
 if fT.ok fr M then some (sw F (intOf (tA fr 11)) (intOf (pA (vR M 0) 0)) (partsOf (pA (vR M 0) 1)) (partsOf (pA (vR M 0) 2)) (aj (pA (vR M 0) 3)) (aj (pA (vR M 0) 4)) (aj (pA (vR M 0) 5)) (intOf (pA (vR M 0) 6)) (ak (pA (vR M 1) 0)) (intOf (pA (vR M 2) 0)) (intOf (pA (vR M 2) 1)) (intOf (pA (vR M 2) 2)) (intOf (pA (vR M 2) 3)) (intOf (pA (vR M 2) 4)) (intOf (pA (vR M 3) 0)) (intOf (pA (vR M 3) 1)) (ak (pA (pA (vR M 4) 0) 0)) (aj (pA (vR M 4) 1)) (aj (pA (vR M 5) 0)) (intOf (pA (pA (vR M 5) 1) 0)) (partsOf (pA (pA (vR M 5) 1) 1)) (partsOf (pA (pA (vR M 5) 1) 2)) (aj (pA (pA (vR M 5) 1) 3)) (aj (pA (pA (vR M 5) 1) 4)) (aj (pA (pA (vR M 5) 1) 5)) (intOf (pA (pA (vR M 5) 1) 6)) (intOf (pA (pA (vR M 5) 2) 0)) (partsOf (pA (pA (vR M 5) 2) 1)) (partsOf (pA (pA (vR M 5) 2) 2)) (aj (pA (pA (vR M 5) 2) 3)) (aj (pA (pA (vR M 5) 2) 4)) (aj (pA (pA (vR M 5) 2) 5)) (intOf (pA (pA (vR M 5) 2) 6)) (intOf (pA (vR M 5) 3)) (ak (pA (vR M 5) 4)) (ak (pA (vR M 5) 5)) (aj (pA (vR M 5) 6)) (aj (pA (pA (vR M 5) 7) 0)) (intOf (pA (pA (vR M 5) 7) 1)) (intOf (pA (pA (vR M 5) 7) 2)) (intOf (pA (vR M 5) 8)) (intOf (pA (vR M 5) 9)) (intOf (pA (vR M 5) 10)) (intOf (tA fr 13))) else none
def kn : List FuncId := [14, 16, 19, 23, 24, 51, 52, 53, 55, 56, 57, 58, 59, 60, 61, 65, 66, 67, 68, 69, 71, 75, 93, 108, 109, 110, 112, 113, 114, 115, 118, 119, 120, 123, 129, 132, 147, 149, 151, 152, 153, 154, 157, 165, 166, 168, 169, 170, 171, 172]
noncomputable def cx (F : Tab) : Ctx where
 P := Pg
 n := 100000
 muta := fun f => memN f [77, 116]
 spec := JA Pg kn F
 kept := fun f id => match f, id with
  | 14, 13 => some ([3, 5, 10, 11, 13], [6])
  | _, _ => none
 ends := fun dep f id fr M => match f, id with
  | 14, 13 => gN F dep fr M
  | _, _ => none
 newf := fun f => memN f [134]
 pln := fun t => memN t [22]
 actf := fun f => memN f [156]
end
end Go.Proofs.Ytcknhfnbdgleiaa.Computes
