/- What the loops come to, as functions of their own; the context. (Printed by a program of mine, gen.py.) -/
import Derived.Test.YtcknhfnbdgleiaaTaD
set_option linter.unusedVariables false
set_option linter.unusedSimpArgs false
namespace Go.Proofs.Ytcknhfnbdgleiaa.S2
open Go.AE

noncomputable section

/-- Loop 13 of law10.TableStaysInMemory. -/
def sp_law10_TableStaysInMemory_13 (F : Tab) (i0 i1 i2 : Int) (b0 : Bool) (l0 : List AV) (i3 : Int) (l1 : List AV) (i5 i6 : Int) (l2 l3 : List AV) (i4 : Int) : Tr (Int) :=
    let x0 : Int := intOf ((tupOf (valT F 23 [.agg 23 [.slice 118 l1 false], .int .i64 i6, .int .i64 4])).getD 0 .dead);
    .br (decide (i4 < i3))
     (.br (inB i4 l0.length)
      (.br (okT Pg F 23 [.agg 23 [.slice 118 l1 false], .int .i64 i6, .int .i64 4])
       (.br (cond (!(boolOf ((tupOf (valT F 23 [.agg 23 [.slice 118 l1 false], .int .i64 i6, .int .i64 4])).getD 1 .dead))) true (cond ((intOf ((partsOf (l0.getD i4.toNat .dead)).getD 0 .dead)) != i6) true (cond ((intOf ((partsOf (l0.getD i4.toNat .dead)).getD 1 .dead)) != 4) true (cond ((ibits .andNot .u32 (ibits .xor .u32 x0 (intOf ((partsOf (l0.getD i4.toNat .dead)).getD 2 .dead))) 48) != 0) true (cond ((ibits .andNot .u32 x0 (intOf ((partsOf (l0.getD i4.toNat .dead)).getD 2 .dead))) != 0) true (x0 == (intOf ((partsOf (l0.getD i4.toNat .dead)).getD 2 .dead))))))))
        (.out ⟨1, [], [], [], [], [], []⟩)
        (.next (IntKind.i64.wrap (i4 + 1))))
       (.bad))
      (.bad))
     (.out ⟨2, [], [], [], [], [], []⟩)
def st_law10_TableStaysInMemory_13 (F : Tab) (i0 i1 i2 : Int) (b0 : Bool) (l0 : List AV) (i3 : Int) (l1 : List AV) (i5 i6 : Int) (l2 l3 : List AV) (s : Int) : Tr (Int) := sp_law10_TableStaysInMemory_13 F i0 i1 i2 b0 l0 i3 l1 i5 i6 l2 l3 s
def sF_law10_TableStaysInMemory_13 (i0 i1 i2 : Int) (b0 : Bool) (l0 : List AV) (i3 : Int) (l1 : List AV) (i5 i6 : Int) (l2 l3 : List AV) (s : Int) : Fr := (mkFr 250 [(1, .int .u32 i0), (2, .int .u32 i1), (3, .int .i64 i2), (4, .bool b0), (5, .ptr 0 [] 24 0), (11, .ptr 1 [] 32 0), (143, .slice 42 l0 false), (144, .int .i64 i3), (145, .int .i64 s)] [])
def sM_law10_TableStaysInMemory_13 (i0 i1 i2 : Int) (b0 : Bool) (l0 : List AV) (i3 : Int) (l1 : List AV) (i5 i6 : Int) (l2 l3 : List AV) (s : Int) : Mm := ⟨[.var 24 (.agg 23 [.slice 118 l1 false]), .var 32 (.agg 31 [.int .i64 i5, .int .i64 i6, .slice 42 l2 false, .slice 3 l3 false])], []⟩
def lf_law10_TableStaysInMemory_13 (F : Tab) (i0 i1 i2 : Int) (b0 : Bool) (l0 : List AV) (i3 : Int) (l1 : List AV) (i5 i6 : Int) (l2 l3 : List AV) (fuel : Nat) (i4 : Int) : LO := Tr.run (st_law10_TableStaysInMemory_13 F i0 i1 i2 b0 l0 i3 l1 i5 i6 l2 l3) fuel (i4)
def lt_law10_TableStaysInMemory_13 (i0 i1 i2 : Int) (b0 : Bool) (l0 : List AV) (i3 : Int) (l1 : List AV) (i5 i6 : Int) (l2 l3 : List AV) (lo : LO) : LT :=
  .br (lo.k == 1) (.done .ret (mkFr 250 [(1, .int .u32 i0), (2, .int .u32 i1), (3, .int .i64 i2), (4, .bool b0), (5, .ptr 0 [] 24 0), (10, .bool false), (11, .ptr 1 [] 32 0)] []) ⟨[.var 24 (.agg 23 [.slice 118 l1 false]), .var 32 (.agg 31 [.int .i64 i5, .int .i64 i6, .slice 42 l2 false, .slice 3 l3 false])], []⟩) (.br (lo.k == 2) (.done (.exit 0) (mkFr 250 [(1, .int .u32 i0), (2, .int .u32 i1), (3, .int .i64 i2), (4, .bool b0), (5, .ptr 0 [] 24 0), (11, .ptr 1 [] 32 0)] []) ⟨[.var 24 (.agg 23 [.slice 118 l1 false]), .var 32 (.agg 31 [.int .i64 i5, .int .i64 i6, .slice 42 l2 false, .slice 3 l3 false])], []⟩) (.fail))
def pt_law10_TableStaysInMemory_13 : StP := ⟨250, [(1, .int .u32), (2, .int .u32), (3, .int .i64), (4, .bool), (5, .ptr 0 [] 24 (some 0)), (11, .ptr 1 [] 32 (some 0)), (143, .slice 42 false), (144, .int .i64), (145, .int .i64)], [], [.var 24 (.agg 23 [.slice 118 false]), .var 32 (.agg 31 [.int .i64, .int .i64, .slice 42 false, .slice 3 false])], []⟩
def lp_law10_TableStaysInMemory_13 (F : Tab) (dep : Nat) (fr : Fr) (M : Mm) : Option LT :=
  if pt_law10_TableStaysInMemory_13.ok fr M then some (lt_law10_TableStaysInMemory_13 (intOf (fr.tmps.getD 1 .dead)) (intOf (fr.tmps.getD 2 .dead)) (intOf (fr.tmps.getD 3 .dead)) (boolOf (fr.tmps.getD 4 .dead)) (listOf (fr.tmps.getD 143 .dead)) (intOf (fr.tmps.getD 144 .dead)) (listOf ((partsOf (valR (M.rows.getD 0 (.arr 0 [])))).getD 0 .dead)) (intOf ((partsOf (valR (M.rows.getD 1 (.arr 0 [])))).getD 0 .dead)) (intOf ((partsOf (valR (M.rows.getD 1 (.arr 0 [])))).getD 1 .dead)) (listOf ((partsOf (valR (M.rows.getD 1 (.arr 0 [])))).getD 2 .dead)) (listOf ((partsOf (valR (M.rows.getD 1 (.arr 0 [])))).getD 3 .dead)) (lf_law10_TableStaysInMemory_13 F (intOf (fr.tmps.getD 1 .dead)) (intOf (fr.tmps.getD 2 .dead)) (intOf (fr.tmps.getD 3 .dead)) (boolOf (fr.tmps.getD 4 .dead)) (listOf (fr.tmps.getD 143 .dead)) (intOf (fr.tmps.getD 144 .dead)) (listOf ((partsOf (valR (M.rows.getD 0 (.arr 0 [])))).getD 0 .dead)) (intOf ((partsOf (valR (M.rows.getD 1 (.arr 0 [])))).getD 0 .dead)) (intOf ((partsOf (valR (M.rows.getD 1 (.arr 0 [])))).getD 1 .dead)) (listOf ((partsOf (valR (M.rows.getD 1 (.arr 0 [])))).getD 2 .dead)) (listOf ((partsOf (valR (M.rows.getD 1 (.arr 0 [])))).getD 3 .dead)) 100000 (intOf (fr.tmps.getD 145 .dead)))) else none
def kn : List FuncId := [3, 4, 5, 6, 7, 16, 17, 18, 19, 20, 21, 22, 23, 24, 25, 26, 27, 28, 29, 30, 31, 32, 33, 34, 57, 62, 65, 66, 67, 68, 69, 70, 71, 72, 73, 74, 75, 80, 81, 82, 83, 84, 85, 86, 87, 88, 89, 90, 93, 115, 123, 154]
noncomputable def cx (F : Tab) : Ctx where
  P := Pg
  n := 100000
  muta := fun f => memN f [77, 116]
  spec := specT Pg kn F
  kept := fun f id => match f, id with
    | 4, 13 => some ([1, 2, 3, 4, 5, 11, 143, 144, 145], [1, 2, 3, 4, 5, 10, 11])
    | _, _ => none
  ends := fun dep f id fr M => match f, id with
    | 4, 13 => lp_law10_TableStaysInMemory_13 F dep fr M
    | _, _ => none
end
end Go.Proofs.Ytcknhfnbdgleiaa.S2
