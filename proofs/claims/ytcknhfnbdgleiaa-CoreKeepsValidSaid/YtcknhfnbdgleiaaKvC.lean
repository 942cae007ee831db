/- What the loops come to, as functions of their own; the context. (Printed by a program of mine, gen.py.) -/
import Derived.Test.YtcknhfnbdgleiaaCoD
set_option linter.unusedVariables false
set_option linter.unusedSimpArgs false
namespace Go.Proofs.Ytcknhfnbdgleiaa.Keeps
open Go.AE

noncomputable section

/-- Loop 11 of law12.CoreKeepsValid. -/
def eF (F : Tab) (b0 : Bool) (i2 : Int) (l0 l1 : List AV) (b1 b2 b3 : Bool) (i3 : Int) (l2 : List AV) (b4 : Bool) (i4 : Int) (l3 l4 : List AV) (b5 b6 b7 : Bool) (i5 i6 : Int) (l5 l6 : List AV) (b8 b9 b10 : Bool) (i7 i8 : Int) (l7 l8 : List AV) (b11 b12 : Bool) (i9 i10 i11 i12 i13 : Int) (l9 : List AV) (i0 i1 : Int) : Tr (Int × Int) :=
    let x0 : Bool := (intOf ((partsOf (l7.getD i0.toNat .dead)).getD 0 .dead)) != (intOf ((partsOf (l8.getD i1.toNat .dead)).getD 0 .dead));
    .br (decide (i1 < ((l8.length : Nat) : Int)))
     (.br (inB i1 l8.length)
      (.br (okT Pg F 23 [.agg 23 [.slice 118 l2 false], .int .i64 (intOf ((partsOf (l8.getD i1.toNat .dead)).getD 0 .dead)), .int .i64 (intOf ((partsOf (l8.getD i1.toNat .dead)).getD 1 .dead))])
       (.br (!(aj ((nV (valT F 23 [.agg 23 [.slice 118 l2 false], .int .i64 (intOf ((partsOf (l8.getD i1.toNat .dead)).getD 0 .dead)), .int .i64 (intOf ((partsOf (l8.getD i1.toNat .dead)).getD 1 .dead))])).getD 1 .dead)))
        (.out ⟨1, [i0], [], [], [], [], []⟩)
        (.br (aj ((partsOf (l8.getD i1.toNat .dead)).getD 2 .dead))
         (.br (qz (decide (((l7.length : Nat) : Int) ≤ i0)) true (cond (inB i0 l7.length) (qz x0 true (cond (inB i0 l7.length) true false)) false))
          (.br (cond (decide (((l7.length : Nat) : Int) ≤ i0)) true (cond x0 true ((intOf ((partsOf (l7.getD i0.toNat .dead)).getD 1 .dead)) != (intOf ((partsOf (l8.getD i1.toNat .dead)).getD 1 .dead)))))
           (.out ⟨1, [i0], [], [], [], [], []⟩)
           (.next (IntKind.i64.wrap (i0 + 1), IntKind.i64.wrap (i1 + 1))))
          (.bad))
         (.next (i0, IntKind.i64.wrap (i1 + 1)))))
       (.bad))
      (.bad))
     (.out ⟨2, [i0], [], [], [], [], []⟩)
def aL (F : Tab) (b0 : Bool) (i2 : Int) (l0 l1 : List AV) (b1 b2 b3 : Bool) (i3 : Int) (l2 : List AV) (b4 : Bool) (i4 : Int) (l3 l4 : List AV) (b5 b6 b7 : Bool) (i5 i6 : Int) (l5 l6 : List AV) (b8 b9 b10 : Bool) (i7 i8 : Int) (l7 l8 : List AV) (b11 b12 : Bool) (i9 i10 i11 i12 i13 : Int) (l9 : List AV) (s : Int × Int) : Tr (Int × Int) := eF F b0 i2 l0 l1 b1 b2 b3 i3 l2 b4 i4 l3 l4 b5 b6 b7 i5 i6 l5 l6 b8 b9 b10 i7 i8 l7 l8 b11 b12 i9 i10 i11 i12 i13 l9 s.1 s.2
def aY (b0 : Bool) (i2 : Int) (l0 l1 : List AV) (b1 b2 b3 : Bool) (i3 : Int) (l2 : List AV) (b4 : Bool) (i4 : Int) (l3 l4 : List AV) (b5 b6 b7 : Bool) (i5 i6 : Int) (l5 l6 : List AV) (b8 b9 b10 : Bool) (i7 i8 : Int) (l7 l8 : List AV) (b11 b12 : Bool) (i9 i10 i11 i12 i13 : Int) (l9 : List AV) (s : Int × Int) : Fr := (mkFr 208 [(5, .ptr 0 [] 105 0), (6, .ptr 1 [] 24 0), (11, .ptr 2 [] 112 0), (13, .bool b0), (14, .int .i64 s.1), (15, .int .i64 s.2)] [])
def bg (b0 : Bool) (i2 : Int) (l0 l1 : List AV) (b1 b2 b3 : Bool) (i3 : Int) (l2 : List AV) (b4 : Bool) (i4 : Int) (l3 l4 : List AV) (b5 b6 b7 : Bool) (i5 i6 : Int) (l5 l6 : List AV) (b8 b9 b10 : Bool) (i7 i8 : Int) (l7 l8 : List AV) (b11 b12 : Bool) (i9 i10 i11 i12 i13 : Int) (l9 : List AV) (s : Int × Int) : Mm := ⟨[.var 105 (.agg 104 [.int .u32 i2, .agg 102 l0, .agg 103 l1, .bool b1, .bool b2, .bool b3, .int .i64 i3]), .var 24 (.agg 23 [.slice 118 l2 false]), .var 112 (.agg 111 [.bool b4, .agg 104 [.int .u32 i4, .agg 102 l3, .agg 103 l4, .bool b5, .bool b6, .bool b7, .int .i64 i5], .agg 104 [.int .u32 i6, .agg 102 l5, .agg 103 l6, .bool b8, .bool b9, .bool b10, .int .i64 i7], .int .u32 i8, .slice 42 l7 false, .slice 116 l8 false, .bool b11, .agg 109 [.bool b12, .int .i64 i9, .int .u32 i10], .int .i64 i11, .int .u32 i12, .int .i64 i13]), .var 24 (.agg 23 [.slice 118 l9 false])], []⟩
def aQ (F : Tab) (b0 : Bool) (i2 : Int) (l0 l1 : List AV) (b1 b2 b3 : Bool) (i3 : Int) (l2 : List AV) (b4 : Bool) (i4 : Int) (l3 l4 : List AV) (b5 b6 b7 : Bool) (i5 i6 : Int) (l5 l6 : List AV) (b8 b9 b10 : Bool) (i7 i8 : Int) (l7 l8 : List AV) (b11 b12 : Bool) (i9 i10 i11 i12 i13 : Int) (l9 : List AV) (fuel : Nat) (i0 i1 : Int) : LO := Tr.run (aL F b0 i2 l0 l1 b1 b2 b3 i3 l2 b4 i4 l3 l4 b5 b6 b7 i5 i6 l5 l6 b8 b9 b10 i7 i8 l7 l8 b11 b12 i9 i10 i11 i12 i13 l9) fuel (i0, i1)
def aZ (b0 : Bool) (i2 : Int) (l0 l1 : List AV) (b1 b2 b3 : Bool) (i3 : Int) (l2 : List AV) (b4 : Bool) (i4 : Int) (l3 l4 : List AV) (b5 b6 b7 : Bool) (i5 i6 : Int) (l5 l6 : List AV) (b8 b9 b10 : Bool) (i7 i8 : Int) (l7 l8 : List AV) (b11 b12 : Bool) (i9 i10 i11 i12 i13 : Int) (l9 : List AV) (lo : LO) : LT :=
 .br (lo.k == 1) (.done .ret (mkFr 208 [(5, .ptr 0 [] 105 0), (10, .bool false), (11, .ptr 2 [] 112 0), (13, .bool b0), (14, .int .i64 (lo.i.getD 0 0))] []) ⟨[.var 105 (.agg 104 [.int .u32 i2, .agg 102 l0, .agg 103 l1, .bool b1, .bool b2, .bool b3, .int .i64 i3]), .var 24 (.agg 23 [.slice 118 l2 false]), .var 112 (.agg 111 [.bool b4, .agg 104 [.int .u32 i4, .agg 102 l3, .agg 103 l4, .bool b5, .bool b6, .bool b7, .int .i64 i5], .agg 104 [.int .u32 i6, .agg 102 l5, .agg 103 l6, .bool b8, .bool b9, .bool b10, .int .i64 i7], .int .u32 i8, .slice 42 l7 false, .slice 116 l8 false, .bool b11, .agg 109 [.bool b12, .int .i64 i9, .int .u32 i10], .int .i64 i11, .int .u32 i12, .int .i64 i13]), .var 24 (.agg 23 [.slice 118 l9 false])], []⟩) (.br (lo.k == 2) (.done (.exit 0) (mkFr 208 [(5, .ptr 0 [] 105 0), (11, .ptr 2 [] 112 0), (13, .bool b0), (14, .int .i64 (lo.i.getD 0 0))] []) ⟨[.var 105 (.agg 104 [.int .u32 i2, .agg 102 l0, .agg 103 l1, .bool b1, .bool b2, .bool b3, .int .i64 i3]), .var 24 (.agg 23 [.slice 118 l2 false]), .var 112 (.agg 111 [.bool b4, .agg 104 [.int .u32 i4, .agg 102 l3, .agg 103 l4, .bool b5, .bool b6, .bool b7, .int .i64 i5], .agg 104 [.int .u32 i6, .agg 102 l5, .agg 103 l6, .bool b8, .bool b9, .bool b10, .int .i64 i7], .int .u32 i8, .slice 42 l7 false, .slice 116 l8 false, .bool b11, .agg 109 [.bool b12, .int .i64 i9, .int .u32 i10], .int .i64 i11, .int .u32 i12, .int .i64 i13]), .var 24 (.agg 23 [.slice 118 l9 false])], []⟩) (.fail))
def eH : StP := ⟨208, [(5, .ptr 0 [] 105 (some 0)), (6, .ptr 1 [] 24 (some 0)), (11, .ptr 2 [] 112 (some 0)), (13, .bool), (14, .int .i64), (15, .int .i64)], [], [.var 105 (.agg 104 [.int .u32, .aggO 102, .aggO 103, .bool, .bool, .bool, .int .i64]), .var 24 (.agg 23 [.slice 118 false]), .var 112 (.agg 111 [.bool, .agg 104 [.int .u32, .aggO 102, .aggO 103, .bool, .bool, .bool, .int .i64], .agg 104 [.int .u32, .aggO 102, .aggO 103, .bool, .bool, .bool, .int .i64], .int .u32, .slice 42 false, .slice 116 false, .bool, .agg 109 [.bool, .int .i64, .int .u32], .int .i64, .int .u32, .int .i64]), .var 24 (.agg 23 [.slice 118 false])], []⟩
def pE (F : Tab) (b0 : Bool) (i2 : Int) (l0 l1 : List AV) (b1 b2 b3 : Bool) (i3 : Int) (l2 : List AV) (b4 : Bool) (i4 : Int) (l3 l4 : List AV) (b5 b6 b7 : Bool) (i5 i6 : Int) (l5 l6 : List AV) (b8 b9 b10 : Bool) (i7 i8 : Int) (l7 l8 : List AV) (b11 b12 : Bool) (i9 i10 i11 i12 i13 : Int) (l9 : List AV) (i0 i1 : Int) : LT := aZ b0 i2 l0 l1 b1 b2 b3 i3 l2 b4 i4 l3 l4 b5 b6 b7 i5 i6 l5 l6 b8 b9 b10 i7 i8 l7 l8 b11 b12 i9 i10 i11 i12 i13 l9 (aQ F b0 i2 l0 l1 b1 b2 b3 i3 l2 b4 i4 l3 l4 b5 b6 b7 i5 i6 l5 l6 b8 b9 b10 i7 i8 l7 l8 b11 b12 i9 i10 i11 i12 i13 l9 100000 i0 i1)
def eP (F : Tab) (dep : Nat) (fr : Fr) (M : Mm) : Option LT :=
 if eH.ok fr M then some (pE F (aj (tA fr 13)) (intOf (pA (vR M 0) 0)) (partsOf (pA (vR M 0) 1)) (partsOf (pA (vR M 0) 2)) (aj (pA (vR M 0) 3)) (aj (pA (vR M 0) 4)) (aj (pA (vR M 0) 5)) (intOf (pA (vR M 0) 6)) (ak (pA (vR M 1) 0)) (aj (pA (vR M 2) 0)) (intOf (pA (pA (vR M 2) 1) 0)) (partsOf (pA (pA (vR M 2) 1) 1)) (partsOf (pA (pA (vR M 2) 1) 2)) (aj (pA (pA (vR M 2) 1) 3)) (aj (pA (pA (vR M 2) 1) 4)) (aj (pA (pA (vR M 2) 1) 5)) (intOf (pA (pA (vR M 2) 1) 6)) (intOf (pA (pA (vR M 2) 2) 0)) (partsOf (pA (pA (vR M 2) 2) 1)) (partsOf (pA (pA (vR M 2) 2) 2)) (aj (pA (pA (vR M 2) 2) 3)) (aj (pA (pA (vR M 2) 2) 4)) (aj (pA (pA (vR M 2) 2) 5)) (intOf (pA (pA (vR M 2) 2) 6)) (intOf (pA (vR M 2) 3)) (ak (pA (vR M 2) 4)) (ak (pA (vR M 2) 5)) (aj (pA (vR M 2) 6)) (aj (pA (pA (vR M 2) 7) 0)) (intOf (pA (pA (vR M 2) 7) 1)) (intOf (pA (pA (vR M 2) 7) 2)) (intOf (pA (vR M 2) 8)) (intOf (pA (vR M 2) 9)) (intOf (pA (vR M 2) 10)) (ak (pA (vR M 3) 0)) (intOf (tA fr 14)) (intOf (tA fr 15))) else none
def kn : List FuncId := [15, 16, 19, 23, 24, 51, 52, 53, 55, 56, 57, 58, 59, 60, 61, 65, 66, 67, 68, 69, 71, 75, 93, 108, 109, 110, 112, 113, 114, 115, 118, 119, 120, 123, 129, 132, 147, 149, 151, 152, 153, 154, 157, 165, 166, 168, 169, 170, 171, 172]
noncomputable def cx (F : Tab) : Ctx where
 P := Pg
 n := 100000
 muta := fun f => memN f [77, 116]
 spec := I4 Pg kn F
 kept := fun f id => match f, id with
  | 15, 11 => some ([5, 6, 11, 13, 14, 15], [5, 10, 11, 13, 14])
  | _, _ => none
 ends := fun dep f id fr M => match f, id with
  | 15, 11 => eP F dep fr M
  | _, _ => none
 newf := fun f => memN f [134]
 pln := fun t => memN t [22]
 actf := fun f => memN f [156]
end
end Go.Proofs.Ytcknhfnbdgleiaa.Keeps
