/- What the loops come to, as functions of their own; the context. (Printed by a program of mine, gen.py.) -/
import Derived.Test.YtcknhfnbdgleiaaEvD
import Derived.Test.YtcknhfnbdgleiaaRows
set_option linter.unusedVariables false
set_option linter.unusedSimpArgs false
namespace Go.Proofs.Ytcknhfnbdgleiaa
open Go.AE

noncomputable section
abbrev Pg : Program := Try.checked.prog

/-- Loop 4 of law10.TableRightsAreOrdered. -/
def sp_law10_TableRightsAreOrdered_4 (F : Tab) (i0 i1 : Int) (l0 : List AV) (i2 : Int) : Tr (Int) :=
    let x0 : List AV := tupOf (valT F 19 [.agg 23 [.slice 118 l0 false], .int .u32 i0, .int .u32 i1, .int .i64 1, .bool false]);
    let x1 : List AV := tupOf (valT F 19 [.agg 23 [.slice 118 l0 false], .int .u32 i0, .int .u32 i1, .int .i64 i2, .bool true]);
    let x2 : List AV := partsOf (x1.getD 0 .dead);
    let x3 : Int := intOf (x1.getD 1 .dead);
    let x4 : List AV := tupOf (valT F 19 [.agg 23 [.slice 118 l0 false], .int .u32 i0, .int .u32 i1, .int .i64 i2, .bool false]);
    let x5 : List AV := partsOf (x4.getD 0 .dead);
    let x6 : Int := intOf (x5.getD 0 .dead);
    let x7 : Int := intOf (x4.getD 1 .dead);
    let x8 : Bool := x7 != 0;
    let x9 : Bool := cond (x7 == 0) (cond ((intOf (x0.getD 1 .dead)) != 0) true ((intOf ((partsOf (x0.getD 0 .dead)).getD 0 .dead)) != x6)) false;
    let x10 : Int := intOf (([.int .i64 0, .int .i64 5, .int .i64 6, .int .i64 6, .int .i64 4] : List AV).getD i2.toNat .dead);
    let x11 : Bool := cond x8 (x7 != x10) false;
    .br (decide (i2 ≤ 4))
     (.br (okT Pg F 19 [.agg 23 [.slice 118 l0 false], .int .u32 i0, .int .u32 i1, .int .i64 i2, .bool true])
      (.br (okT Pg F 19 [.agg 23 [.slice 118 l0 false], .int .u32 i0, .int .u32 i1, .int .i64 i2, .bool false])
       (.br (okT Pg F 19 [.agg 23 [.slice 118 l0 false], .int .u32 i0, .int .u32 i1, .int .i64 1, .bool false])
        (.br (cond (x3 == 0) (cond x8 true (cond ((intOf (x2.getD 0 .dead)) != x6) true (cond ((intOf (x2.getD 1 .dead)) != (intOf (x5.getD 1 .dead))) true x9))) x9)
         (.out ⟨1, [], [], [], [], [], []⟩)
         (.br (inB i2 5)
          (.br (cond (x3 != 0) (cond (x3 != x10) true x11) x11)
           (.out ⟨1, [], [], [], [], [], []⟩)
           (.next (IntKind.i64.wrap (i2 + 1))))
          (.bad)))
        (.bad))
       (.bad))
      (.bad))
     (.out ⟨2, [], [], [], [], [], []⟩)
def st_law10_TableRightsAreOrdered_4 (F : Tab) (i0 i1 : Int) (l0 : List AV) (s : Int) : Tr (Int) := sp_law10_TableRightsAreOrdered_4 F i0 i1 l0 s
def sF_law10_TableRightsAreOrdered_4 (i0 i1 : Int) (l0 : List AV) (s : Int) : Fr := (mkFr 124 [(1, .int .u32 i0), (2, .int .u32 i1), (3, .ptr 0 [] 24 0), (7, .int .i64 s)] [])
def sM_law10_TableRightsAreOrdered_4 (i0 i1 : Int) (l0 : List AV) (s : Int) : Mm := ⟨[.var 24 (.agg 23 [.slice 118 l0 false])], []⟩
def lf_law10_TableRightsAreOrdered_4 (F : Tab) (i0 i1 : Int) (l0 : List AV) (fuel : Nat) (i2 : Int) : LO := Tr.run (st_law10_TableRightsAreOrdered_4 F i0 i1 l0) fuel (i2)
def lt_law10_TableRightsAreOrdered_4 (i0 i1 : Int) (l0 : List AV) (lo : LO) : LT :=
  .br (lo.k == 1) (.done .ret (mkFr 124 [(1, .int .u32 i0), (2, .int .u32 i1), (3, .ptr 0 [] 24 0), (6, .bool false)] []) ⟨[.var 24 (.agg 23 [.slice 118 l0 false])], []⟩) (.br (lo.k == 2) (.done (.exit 0) (mkFr 124 [(1, .int .u32 i0), (2, .int .u32 i1), (3, .ptr 0 [] 24 0)] []) ⟨[.var 24 (.agg 23 [.slice 118 l0 false])], []⟩) (.fail))
def pt_law10_TableRightsAreOrdered_4 : StP := ⟨124, [(1, .int .u32), (2, .int .u32), (3, .ptr 0 [] 24 (some 0)), (7, .int .i64)], [], [.var 24 (.agg 23 [.slice 118 false])], []⟩
def lp_law10_TableRightsAreOrdered_4 (F : Tab) (dep : Nat) (fr : Fr) (M : Mm) : Option LT :=
  if pt_law10_TableRightsAreOrdered_4.ok fr M then some (lt_law10_TableRightsAreOrdered_4 (intOf (fr.tmps.getD 1 .dead)) (intOf (fr.tmps.getD 2 .dead)) (listOf ((partsOf (valR (M.rows.getD 0 (.arr 0 [])))).getD 0 .dead)) (lf_law10_TableRightsAreOrdered_4 F (intOf (fr.tmps.getD 1 .dead)) (intOf (fr.tmps.getD 2 .dead)) (listOf ((partsOf (valR (M.rows.getD 0 (.arr 0 [])))).getD 0 .dead)) 100000 (intOf (fr.tmps.getD 7 .dead)))) else none
/-- Loop 7 of law10.TableListIsTranslation. -/
def sp_law10_TableListIsTranslation_7 (F : Tab) (i0 i1 : Int) (l0 : List AV) (i4 : Int) (l1 : List AV) (i6 i7 : Int) (l2 l3 : List AV) (i2 i3 i5 : Int) : Tr (Int × Int × Int) :=
    let x0 : Bool := ((intOf ((partsOf (l0.getD i5.toNat .dead)).getD 0 .dead)).tmod (cond ((ibits .and .i64 (intOf ((partsOf (l0.getD i5.toNat .dead)).getD 2 .dead)) 64) != 0) (4096 : Int) 128)) != 0;
    .br (decide (i5 < i4))
     (.br (inB i5 l0.length)
      (.br (condB (decide ((IntKind.i64.wrap (intOf ((partsOf (l0.getD i5.toNat .dead)).getD 0 .dead))) ≤ i3)) true (cond (!((cond ((ibits .and .i64 (intOf ((partsOf (l0.getD i5.toNat .dead)).getD 2 .dead)) 64) != 0) (4096 : Int) 128) == 0)) (condB x0 true (cond (!((cond ((ibits .and .i64 (intOf ((partsOf (l0.getD i5.toNat .dead)).getD 2 .dead)) 64) != 0) (4096 : Int) 128) == 0)) true false)) false))
       (.br (cond (decide ((IntKind.i64.wrap (intOf ((partsOf (l0.getD i5.toNat .dead)).getD 0 .dead))) ≤ i3)) true (cond x0 true (cond (((intOf ((partsOf (l0.getD i5.toNat .dead)).getD 1 .dead)).tmod (cond ((ibits .and .i64 (intOf ((partsOf (l0.getD i5.toNat .dead)).getD 2 .dead)) 64) != 0) (4096 : Int) 128)) != 0) true ((ibits .and .i64 (intOf ((partsOf (l0.getD i5.toNat .dead)).getD 2 .dead)) 1) == 0))))
        (.out ⟨1, [i2], [], [], [], [], []⟩)
        (.next (cond (cond (decide ((intOf ((partsOf (l0.getD i5.toNat .dead)).getD 0 .dead)) ≤ i0)) (decide ((IntKind.u32.wrap (i0 - (intOf ((partsOf (l0.getD i5.toNat .dead)).getD 0 .dead)))) < (cond ((ibits .and .i64 (intOf ((partsOf (l0.getD i5.toNat .dead)).getD 2 .dead)) 64) != 0) (4096 : Int) 128))) false) (IntKind.i64.wrap (IntKind.u32.wrap ((IntKind.u32.wrap ((intOf ((partsOf (l0.getD i5.toNat .dead)).getD 1 .dead)) + i0)) - (intOf ((partsOf (l0.getD i5.toNat .dead)).getD 0 .dead))))) i2, IntKind.i64.wrap (intOf ((partsOf (l0.getD i5.toNat .dead)).getD 0 .dead)), IntKind.i64.wrap (i5 + 1))))
       (.bad))
      (.bad))
     (.out ⟨2, [i2], [], [], [], [], []⟩)
def st_law10_TableListIsTranslation_7 (F : Tab) (i0 i1 : Int) (l0 : List AV) (i4 : Int) (l1 : List AV) (i6 i7 : Int) (l2 l3 : List AV) (s : Int × Int × Int) : Tr (Int × Int × Int) := sp_law10_TableListIsTranslation_7 F i0 i1 l0 i4 l1 i6 i7 l2 l3 s.1 s.2.1 s.2.2
def sF_law10_TableListIsTranslation_7 (i0 i1 : Int) (l0 : List AV) (i4 : Int) (l1 : List AV) (i6 i7 : Int) (l2 l3 : List AV) (s : Int × Int × Int) : Fr := (mkFr 114 [(2, .int .u32 i0), (3, .ptr 0 [] 24 0), (7, .ptr 1 [] 32 0), (8, .int .i64 i1), (9, .int .i64 s.1), (10, .int .i64 s.2.1), (31, .slice 52 l0 false), (32, .int .i64 i4), (33, .int .i64 s.2.2)] [])
def sM_law10_TableListIsTranslation_7 (i0 i1 : Int) (l0 : List AV) (i4 : Int) (l1 : List AV) (i6 i7 : Int) (l2 l3 : List AV) (s : Int × Int × Int) : Mm := ⟨[.var 24 (.agg 23 [.slice 118 l1 false]), .var 32 (.agg 31 [.int .i64 i6, .int .i64 i7, .slice 42 l2 false, .slice 3 l3 false])], []⟩
def lf_law10_TableListIsTranslation_7 (F : Tab) (i0 i1 : Int) (l0 : List AV) (i4 : Int) (l1 : List AV) (i6 i7 : Int) (l2 l3 : List AV) (fuel : Nat) (i2 i3 i5 : Int) : LO := Tr.run (st_law10_TableListIsTranslation_7 F i0 i1 l0 i4 l1 i6 i7 l2 l3) fuel (i2, i3, i5)
def lt_law10_TableListIsTranslation_7 (i0 i1 : Int) (l0 : List AV) (i4 : Int) (l1 : List AV) (i6 i7 : Int) (l2 l3 : List AV) (lo : LO) : LT :=
  .br (lo.k == 1) (.done .ret (mkFr 114 [(3, .ptr 0 [] 24 0), (6, .bool false), (7, .ptr 1 [] 32 0), (8, .int .i64 i1), (9, .int .i64 (lo.i.getD 0 0))] []) ⟨[.var 24 (.agg 23 [.slice 118 l1 false]), .var 32 (.agg 31 [.int .i64 i6, .int .i64 i7, .slice 42 l2 false, .slice 3 l3 false])], []⟩) (.br (lo.k == 2) (.done (.exit 0) (mkFr 114 [(3, .ptr 0 [] 24 0), (7, .ptr 1 [] 32 0), (8, .int .i64 i1), (9, .int .i64 (lo.i.getD 0 0))] []) ⟨[.var 24 (.agg 23 [.slice 118 l1 false]), .var 32 (.agg 31 [.int .i64 i6, .int .i64 i7, .slice 42 l2 false, .slice 3 l3 false])], []⟩) (.fail))
def pt_law10_TableListIsTranslation_7 : StP := ⟨114, [(2, .int .u32), (3, .ptr 0 [] 24 (some 0)), (7, .ptr 1 [] 32 (some 0)), (8, .int .i64), (9, .int .i64), (10, .int .i64), (31, .slice 52 false), (32, .int .i64), (33, .int .i64)], [], [.var 24 (.agg 23 [.slice 118 false]), .var 32 (.agg 31 [.int .i64, .int .i64, .slice 42 false, .slice 3 false])], []⟩
def lp_law10_TableListIsTranslation_7 (F : Tab) (dep : Nat) (fr : Fr) (M : Mm) : Option LT :=
  if pt_law10_TableListIsTranslation_7.ok fr M then some (lt_law10_TableListIsTranslation_7 (intOf (fr.tmps.getD 2 .dead)) (intOf (fr.tmps.getD 8 .dead)) (listOf (fr.tmps.getD 31 .dead)) (intOf (fr.tmps.getD 32 .dead)) (listOf ((partsOf (valR (M.rows.getD 0 (.arr 0 [])))).getD 0 .dead)) (intOf ((partsOf (valR (M.rows.getD 1 (.arr 0 [])))).getD 0 .dead)) (intOf ((partsOf (valR (M.rows.getD 1 (.arr 0 [])))).getD 1 .dead)) (listOf ((partsOf (valR (M.rows.getD 1 (.arr 0 [])))).getD 2 .dead)) (listOf ((partsOf (valR (M.rows.getD 1 (.arr 0 [])))).getD 3 .dead)) (lf_law10_TableListIsTranslation_7 F (intOf (fr.tmps.getD 2 .dead)) (intOf (fr.tmps.getD 8 .dead)) (listOf (fr.tmps.getD 31 .dead)) (intOf (fr.tmps.getD 32 .dead)) (listOf ((partsOf (valR (M.rows.getD 0 (.arr 0 [])))).getD 0 .dead)) (intOf ((partsOf (valR (M.rows.getD 1 (.arr 0 [])))).getD 0 .dead)) (intOf ((partsOf (valR (M.rows.getD 1 (.arr 0 [])))).getD 1 .dead)) (listOf ((partsOf (valR (M.rows.getD 1 (.arr 0 [])))).getD 2 .dead)) (listOf ((partsOf (valR (M.rows.getD 1 (.arr 0 [])))).getD 3 .dead)) 100000 (intOf (fr.tmps.getD 9 .dead)) (intOf (fr.tmps.getD 10 .dead)) (intOf (fr.tmps.getD 33 .dead)))) else none
/-- Loop 4 of ref10.Same. -/
def sp_ref10_Same_4 (F : Tab) (i1 i2 : Int) (l0 l1 : List AV) (i3 i4 : Int) (l2 l3 : List AV) (i0 : Int) : Tr (Int) :=
    .br (decide (i0 < ((l0.length : Nat) : Int)))
     (.br (cond (inB i0 l0.length) (cond (inB i0 l2.length) true false) false)
      (.br (!(((intOf ((partsOf (l0.getD i0.toNat .dead)).getD 0 .dead)) == (intOf ((partsOf (l2.getD i0.toNat .dead)).getD 0 .dead))) && (((intOf ((partsOf (l0.getD i0.toNat .dead)).getD 1 .dead)) == (intOf ((partsOf (l2.getD i0.toNat .dead)).getD 1 .dead))) && (((intOf ((partsOf (l0.getD i0.toNat .dead)).getD 2 .dead)) == (intOf ((partsOf (l2.getD i0.toNat .dead)).getD 2 .dead))) && true))))
       (.out ⟨1, [], [], [], [], [], []⟩)
       (.next (IntKind.i64.wrap (i0 + 1))))
      (.bad))
     (.out ⟨2, [], [], [], [], [], []⟩)
def st_ref10_Same_4 (F : Tab) (i1 i2 : Int) (l0 l1 : List AV) (i3 i4 : Int) (l2 l3 : List AV) (s : Int) : Tr (Int) := sp_ref10_Same_4 F i1 i2 l0 l1 i3 i4 l2 l3 s
def sF_ref10_Same_4 (i1 i2 : Int) (l0 l1 : List AV) (i3 i4 : Int) (l2 l3 : List AV) (s : Int) : Fr := (mkFr 53 [(2, .ptr 0 [] 32 0), (3, .ptr 1 [] 32 0), (5, .int .i64 s)] [])
def sM_ref10_Same_4 (i1 i2 : Int) (l0 l1 : List AV) (i3 i4 : Int) (l2 l3 : List AV) (s : Int) : Mm := ⟨[.var 32 (.agg 31 [.int .i64 i1, .int .i64 i2, .slice 42 l0 false, .slice 3 l1 false]), .var 32 (.agg 31 [.int .i64 i3, .int .i64 i4, .slice 42 l2 false, .slice 3 l3 false])], []⟩
def lf_ref10_Same_4 (F : Tab) (i1 i2 : Int) (l0 l1 : List AV) (i3 i4 : Int) (l2 l3 : List AV) (fuel : Nat) (i0 : Int) : LO := Tr.run (st_ref10_Same_4 F i1 i2 l0 l1 i3 i4 l2 l3) fuel (i0)
def lt_ref10_Same_4 (i1 i2 : Int) (l0 l1 : List AV) (i3 i4 : Int) (l2 l3 : List AV) (lo : LO) : LT :=
  .br (lo.k == 1) (.done .ret (mkFr 53 [(4, .bool false)] []) ⟨[.var 32 (.agg 31 [.int .i64 i1, .int .i64 i2, .slice 42 l0 false, .slice 3 l1 false]), .var 32 (.agg 31 [.int .i64 i3, .int .i64 i4, .slice 42 l2 false, .slice 3 l3 false])], []⟩) (.br (lo.k == 2) (.done (.exit 0) (mkFr 53 [] []) ⟨[.var 32 (.agg 31 [.int .i64 i1, .int .i64 i2, .slice 42 l0 false, .slice 3 l1 false]), .var 32 (.agg 31 [.int .i64 i3, .int .i64 i4, .slice 42 l2 false, .slice 3 l3 false])], []⟩) (.fail))
def pt_ref10_Same_4 : StP := ⟨53, [(2, .ptr 0 [] 32 (some 0)), (3, .ptr 1 [] 32 (some 0)), (5, .int .i64)], [], [.var 32 (.agg 31 [.int .i64, .int .i64, .slice 42 false, .slice 3 false]), .var 32 (.agg 31 [.int .i64, .int .i64, .slice 42 false, .slice 3 false])], []⟩
def lp_ref10_Same_4 (F : Tab) (dep : Nat) (fr : Fr) (M : Mm) : Option LT :=
  if pt_ref10_Same_4.ok fr M then some (lt_ref10_Same_4 (intOf ((partsOf (valR (M.rows.getD 0 (.arr 0 [])))).getD 0 .dead)) (intOf ((partsOf (valR (M.rows.getD 0 (.arr 0 [])))).getD 1 .dead)) (listOf ((partsOf (valR (M.rows.getD 0 (.arr 0 [])))).getD 2 .dead)) (listOf ((partsOf (valR (M.rows.getD 0 (.arr 0 [])))).getD 3 .dead)) (intOf ((partsOf (valR (M.rows.getD 1 (.arr 0 [])))).getD 0 .dead)) (intOf ((partsOf (valR (M.rows.getD 1 (.arr 0 [])))).getD 1 .dead)) (listOf ((partsOf (valR (M.rows.getD 1 (.arr 0 [])))).getD 2 .dead)) (listOf ((partsOf (valR (M.rows.getD 1 (.arr 0 [])))).getD 3 .dead)) (lf_ref10_Same_4 F (intOf ((partsOf (valR (M.rows.getD 0 (.arr 0 [])))).getD 0 .dead)) (intOf ((partsOf (valR (M.rows.getD 0 (.arr 0 [])))).getD 1 .dead)) (listOf ((partsOf (valR (M.rows.getD 0 (.arr 0 [])))).getD 2 .dead)) (listOf ((partsOf (valR (M.rows.getD 0 (.arr 0 [])))).getD 3 .dead)) (intOf ((partsOf (valR (M.rows.getD 1 (.arr 0 [])))).getD 0 .dead)) (intOf ((partsOf (valR (M.rows.getD 1 (.arr 0 [])))).getD 1 .dead)) (listOf ((partsOf (valR (M.rows.getD 1 (.arr 0 [])))).getD 2 .dead)) (listOf ((partsOf (valR (M.rows.getD 1 (.arr 0 [])))).getD 3 .dead)) 100000 (intOf (fr.tmps.getD 5 .dead)))) else none
/-- Loop 1 of (memory.draft).put. -/
def sp_memory_draft_put_1 (F : Tab) (l1 : List AV) (n0 : Nat) (i1 i2 i3 : Int) (n1 : Nat) (i4 i5 i6 : Int) (n2 : Nat) (i0 : Int) (l0 l2 : List AV) : Tr (Int × List AV × List AV) :=
    .br (decide ((0 : Int) < ((l0.length : Nat) : Int)))
     (.br (inB (IntKind.i64.wrap (i0.tdiv 128)) n2)
      (.br ((decide ((0 : Int) ≤ (i0.tmod 128))) && (decide ((i0.tmod 128) ≤ 128)))
       (.br (cond ((decide ((0 : Int) ≤ ((min l0.length (128 - ((i0.tmod 128).toNat)) : Nat) : Int))) && (decide (((min l0.length (128 - ((i0.tmod 128).toNat)) : Nat) : Int) ≤ ((l0.length : Nat) : Int)))) true false)
        (.next (IntKind.i64.wrap (i0 + ((min l0.length (128 - ((i0.tmod 128).toNat)) : Nat) : Int)), sub l0 (((min l0.length (128 - ((i0.tmod 128).toNat)) : Nat) : Int).toNat) l0.length, l2.set (0 + ((IntKind.i64.wrap (i0.tdiv 128)).toNat)) (.agg (aggT (l2.getD (0 + ((IntKind.i64.wrap (i0.tdiv 128)).toNat)) .dead)) (((partsOf (l2.getD (0 + ((IntKind.i64.wrap (i0.tdiv 128)).toNat)) .dead)).take ((i0.tmod 128).toNat)) ++ ((l0.take (min l0.length (128 - ((i0.tmod 128).toNat)))) ++ ((partsOf (l2.getD (0 + ((IntKind.i64.wrap (i0.tdiv 128)).toNat)) .dead)).drop (((i0.tmod 128).toNat) + (min l0.length (128 - ((i0.tmod 128).toNat))))))))))
        (.bad))
       (.bad))
      (.bad))
     (.out ⟨1, [], [], [l2], [], [], []⟩)
def st_memory_draft_put_1 (F : Tab) (l1 : List AV) (n0 : Nat) (i1 i2 i3 : Int) (n1 : Nat) (i4 i5 i6 : Int) (n2 : Nat) (s : Int × List AV × List AV) : Tr (Int × List AV × List AV) := sp_memory_draft_put_1 F l1 n0 i1 i2 i3 n1 i4 i5 i6 n2 s.1 s.2.1 s.2.2
def sF_memory_draft_put_1 (l1 : List AV) (n0 : Nat) (i1 i2 i3 : Int) (n1 : Nat) (i4 i5 i6 : Int) (n2 : Nat) (s : Int × List AV × List AV) : Fr := (mkFr 26 [(1, .int .i64 s.1), (2, .slice 5 s.2.1 false), (3, .ptr 7 [] 158 0)] [])
def sM_memory_draft_put_1 (l1 : List AV) (n0 : Nat) (i1 i2 i3 : Int) (n1 : Nat) (i4 i5 i6 : Int) (n2 : Nat) (s : Int × List AV × List AV) : Mm := ⟨[.var 24 (.agg 23 [.slice 118 l1 false]), .var 24 (.agg 23 [.slice 118 [] false]), .arr 118 s.2.2, .var 158 (.agg 157 [.msl 2 [] 118 0 0 n0]), .var 42 (.agg 41 [.int .i64 i1, .int .i64 i2, .int .u32 i3]), .var 158 (.agg 157 [.msl 2 [] 118 0 0 n1]), .var 42 (.agg 41 [.int .i64 i4, .int .i64 i5, .int .u32 i6]), .var 158 (.agg 157 [.msl 2 [] 118 0 0 n2])], [(1, [0])]⟩
def lf_memory_draft_put_1 (F : Tab) (l1 : List AV) (n0 : Nat) (i1 i2 i3 : Int) (n1 : Nat) (i4 i5 i6 : Int) (n2 : Nat) (fuel : Nat) (i0 : Int) (l0 l2 : List AV) : LO := Tr.run (st_memory_draft_put_1 F l1 n0 i1 i2 i3 n1 i4 i5 i6 n2) fuel (i0, l0, l2)
def lt_memory_draft_put_1 (l1 : List AV) (n0 : Nat) (i1 i2 i3 : Int) (n1 : Nat) (i4 i5 i6 : Int) (n2 : Nat) (lo : LO) : LT :=
  .br (lo.k == 1) (.done (.exit 0) (mkFr 26 [] []) ⟨[.var 24 (.agg 23 [.slice 118 l1 false]), .var 24 (.agg 23 [.slice 118 [] false]), .arr 118 (lo.l.getD 0 []), .var 158 (.agg 157 [.msl 2 [] 118 0 0 n0]), .var 42 (.agg 41 [.int .i64 i1, .int .i64 i2, .int .u32 i3]), .var 158 (.agg 157 [.msl 2 [] 118 0 0 n1]), .var 42 (.agg 41 [.int .i64 i4, .int .i64 i5, .int .u32 i6]), .var 158 (.agg 157 [.msl 2 [] 118 0 0 n2])], [(1, [0])]⟩) (.fail)
def pt_memory_draft_put_1 : StP := ⟨26, [(1, .int .i64), (2, .slice 5 false), (3, .ptr 7 [] 158 (some 0))], [], [.var 24 (.agg 23 [.slice 118 false]), .var 24 (.agg 23 [.sliceL 118 [] false]), .arr 118, .var 158 (.agg 157 [.msl 2 [] 118 (some 0) (some 0) none]), .var 42 (.agg 41 [.int .i64, .int .i64, .int .u32]), .var 158 (.agg 157 [.msl 2 [] 118 (some 0) (some 0) none]), .var 42 (.agg 41 [.int .i64, .int .i64, .int .u32]), .var 158 (.agg 157 [.msl 2 [] 118 (some 0) (some 0) none])], [(1, [0])]⟩
def lp_memory_draft_put_1 (F : Tab) (dep : Nat) (fr : Fr) (M : Mm) : Option LT :=
  if pt_memory_draft_put_1.ok fr M then some (lt_memory_draft_put_1 (listOf ((partsOf (valR (M.rows.getD 0 (.arr 0 [])))).getD 0 .dead)) (mlenOf ((partsOf (valR (M.rows.getD 3 (.arr 0 [])))).getD 0 .dead)) (intOf ((partsOf (valR (M.rows.getD 4 (.arr 0 [])))).getD 0 .dead)) (intOf ((partsOf (valR (M.rows.getD 4 (.arr 0 [])))).getD 1 .dead)) (intOf ((partsOf (valR (M.rows.getD 4 (.arr 0 [])))).getD 2 .dead)) (mlenOf ((partsOf (valR (M.rows.getD 5 (.arr 0 [])))).getD 0 .dead)) (intOf ((partsOf (valR (M.rows.getD 6 (.arr 0 [])))).getD 0 .dead)) (intOf ((partsOf (valR (M.rows.getD 6 (.arr 0 [])))).getD 1 .dead)) (intOf ((partsOf (valR (M.rows.getD 6 (.arr 0 [])))).getD 2 .dead)) (mlenOf ((partsOf (valR (M.rows.getD 7 (.arr 0 [])))).getD 0 .dead)) (lf_memory_draft_put_1 F (listOf ((partsOf (valR (M.rows.getD 0 (.arr 0 [])))).getD 0 .dead)) (mlenOf ((partsOf (valR (M.rows.getD 3 (.arr 0 [])))).getD 0 .dead)) (intOf ((partsOf (valR (M.rows.getD 4 (.arr 0 [])))).getD 0 .dead)) (intOf ((partsOf (valR (M.rows.getD 4 (.arr 0 [])))).getD 1 .dead)) (intOf ((partsOf (valR (M.rows.getD 4 (.arr 0 [])))).getD 2 .dead)) (mlenOf ((partsOf (valR (M.rows.getD 5 (.arr 0 [])))).getD 0 .dead)) (intOf ((partsOf (valR (M.rows.getD 6 (.arr 0 [])))).getD 0 .dead)) (intOf ((partsOf (valR (M.rows.getD 6 (.arr 0 [])))).getD 1 .dead)) (intOf ((partsOf (valR (M.rows.getD 6 (.arr 0 [])))).getD 2 .dead)) (mlenOf ((partsOf (valR (M.rows.getD 7 (.arr 0 [])))).getD 0 .dead)) 100000 (intOf (fr.tmps.getD 1 .dead)) (listOf (fr.tmps.getD 2 .dead)) (listR (M.rows.getD 2 (.arr 0 []))))) else none
/-- Loop 4 of memory.Apply. -/
def sp_memory_Apply_4 (F : Tab) (n0 : Nat) (l0 : List AV) (i0 : Int) (l1 : List AV) (n1 : Nat) (i1 : Int) (l2 : List AV) : Tr (Int × List AV) :=
    let x0 : Bool := ((intOf ((partsOf (l0.getD i1.toNat .dead)).getD 0 .dead)).tmod (intOf ((partsOf (l0.getD i1.toNat .dead)).getD 1 .dead))) == 0;
    let x1 : Bool := !(decide ((intOf ((partsOf (l0.getD i1.toNat .dead)).getD 0 .dead)) ≤ (IntKind.i64.wrap ((IntKind.i64.wrap (((n0 : Nat) : Int) * 128)) - (intOf ((partsOf (l0.getD i1.toNat .dead)).getD 1 .dead))))));
    let x2 : Bool := cond ((decide ((0 : Int) ≤ (intOf ((partsOf (l0.getD i1.toNat .dead)).getD 1 .dead)))) && (decide ((intOf ((partsOf (l0.getD i1.toNat .dead)).getD 1 .dead)) ≤ 4))) true false;
    let x3 : LO := lf_memory_draft_put_1 F l1 n1 (intOf ((partsOf (l0.getD i1.toNat .dead)).getD 0 .dead)) (intOf ((partsOf (l0.getD i1.toNat .dead)).getD 1 .dead)) (intOf ((partsOf (l0.getD i1.toNat .dead)).getD 2 .dead)) n0 (intOf ((partsOf (l0.getD i1.toNat .dead)).getD 0 .dead)) (intOf ((partsOf (l0.getD i1.toNat .dead)).getD 1 .dead)) (intOf ((partsOf (l0.getD i1.toNat .dead)).getD 2 .dead)) n0 100000 (intOf ((partsOf (l0.getD i1.toNat .dead)).getD 0 .dead)) (sub [.int .u8 (IntKind.u8.wrap (intOf ((partsOf (l0.getD i1.toNat .dead)).getD 2 .dead))), .int .u8 (IntKind.u8.wrap ((intOf ((partsOf (l0.getD i1.toNat .dead)).getD 2 .dead)).fdiv 256)), .int .u8 (IntKind.u8.wrap ((intOf ((partsOf (l0.getD i1.toNat .dead)).getD 2 .dead)).fdiv 65536)), .int .u8 (IntKind.u8.wrap ((intOf ((partsOf (l0.getD i1.toNat .dead)).getD 2 .dead)).fdiv 16777216))] 0 ((intOf ((partsOf (l0.getD i1.toNat .dead)).getD 1 .dead)).toNat)) l2;
    let x4 : List AV := x3.l.getD 0 [];
    let x5 : Bool := x3.k == 1;
    .br (decide (i1 < i0))
     (.br (inB i1 l0.length)
      (.br ((intOf ((partsOf (l0.getD i1.toNat .dead)).getD 1 .dead)) == 1)
       (.br (decide ((0 : Int) ≤ (intOf ((partsOf (l0.getD i1.toNat .dead)).getD 0 .dead))))
        (.br (!((intOf ((partsOf (l0.getD i1.toNat .dead)).getD 1 .dead)) == 0))
         (.br x0
          (.br x1
           (.out ⟨1, [], [], [l2], [], [], []⟩)
           (.br x2
            (.br x5
             (.next (IntKind.i64.wrap (i1 + 1), x4))
             (.bad))
            (.bad)))
          (.out ⟨1, [], [], [l2], [], [], []⟩))
         (.bad))
        (.out ⟨1, [], [], [l2], [], [], []⟩))
       (.br ((intOf ((partsOf (l0.getD i1.toNat .dead)).getD 1 .dead)) == 4)
        (.br (decide ((0 : Int) ≤ (intOf ((partsOf (l0.getD i1.toNat .dead)).getD 0 .dead))))
         (.br (!((intOf ((partsOf (l0.getD i1.toNat .dead)).getD 1 .dead)) == 0))
          (.br x0
           (.br x1
            (.out ⟨1, [], [], [l2], [], [], []⟩)
            (.br x2
             (.br x5
              (.next (IntKind.i64.wrap (i1 + 1), x4))
              (.bad))
             (.bad)))
           (.out ⟨1, [], [], [l2], [], [], []⟩))
          (.bad))
         (.out ⟨1, [], [], [l2], [], [], []⟩))
        (.out ⟨1, [], [], [l2], [], [], []⟩)))
      (.bad))
     (.out ⟨2, [], [], [l2], [], [], []⟩)
def st_memory_Apply_4 (F : Tab) (n0 : Nat) (l0 : List AV) (i0 : Int) (l1 : List AV) (n1 : Nat) (s : Int × List AV) : Tr (Int × List AV) := sp_memory_Apply_4 F n0 l0 i0 l1 n1 s.1 s.2
def sF_memory_Apply_4 (n0 : Nat) (l0 : List AV) (i0 : Int) (l1 : List AV) (n1 : Nat) (s : Int × List AV) : Fr := (mkFr 31 [(2, .ptr 0 [] 24 0), (4, .ptr 1 [] 24 0), (6, .ptr 3 [] 158 0), (7, .func (.func 78) [.agg 157 [.msl 2 [] 118 0 0 n0]] []), (16, .slice 42 l0 false), (17, .int .i64 i0), (18, .int .i64 s.1)] [])
def sM_memory_Apply_4 (n0 : Nat) (l0 : List AV) (i0 : Int) (l1 : List AV) (n1 : Nat) (s : Int × List AV) : Mm := ⟨[.var 24 (.agg 23 [.slice 118 l1 false]), .var 24 (.agg 23 [.slice 118 [] false]), .arr 118 s.2, .var 158 (.agg 157 [.msl 2 [] 118 0 0 n1])], [(1, [0])]⟩
def lf_memory_Apply_4 (F : Tab) (n0 : Nat) (l0 : List AV) (i0 : Int) (l1 : List AV) (n1 : Nat) (fuel : Nat) (i1 : Int) (l2 : List AV) : LO := Tr.run (st_memory_Apply_4 F n0 l0 i0 l1 n1) fuel (i1, l2)
def lt_memory_Apply_4 (n0 : Nat) (l0 : List AV) (i0 : Int) (l1 : List AV) (n1 : Nat) (lo : LO) : LT :=
  .br (lo.k == 1) (.done .ret (mkFr 31 [(4, .ptr 1 [] 24 0), (5, .bool false), (6, .ptr 3 [] 158 0)] []) ⟨[.var 24 (.agg 23 [.slice 118 l1 false]), .var 24 (.agg 23 [.slice 118 l1 false]), .arr 118 (lo.l.getD 0 []), .var 158 (.agg 157 [.msl 2 [] 118 0 0 n1])], []⟩) (.br (lo.k == 2) (.done (.exit 0) (mkFr 31 [(4, .ptr 1 [] 24 0), (6, .ptr 3 [] 158 0)] []) ⟨[.var 24 (.agg 23 [.slice 118 l1 false]), .var 24 (.agg 23 [.slice 118 [] false]), .arr 118 (lo.l.getD 0 []), .var 158 (.agg 157 [.msl 2 [] 118 0 0 n1])], [(1, [0])]⟩) (.fail))
def pt_memory_Apply_4 : StP := ⟨31, [(2, .ptr 0 [] 24 (some 0)), (4, .ptr 1 [] 24 (some 0)), (6, .ptr 3 [] 158 (some 0)), (7, .func 78 [.agg 157 [.msl 2 [] 118 (some 0) (some 0) none]] []), (16, .slice 42 false), (17, .int .i64), (18, .int .i64)], [], [.var 24 (.agg 23 [.slice 118 false]), .var 24 (.agg 23 [.sliceL 118 [] false]), .arr 118, .var 158 (.agg 157 [.msl 2 [] 118 (some 0) (some 0) none])], [(1, [0])]⟩
def lp_memory_Apply_4 (F : Tab) (dep : Nat) (fr : Fr) (M : Mm) : Option LT :=
  if Nat.beq dep 5 && pt_memory_Apply_4.ok fr M then some (lt_memory_Apply_4 (mlenOf ((partsOf ((firstOf (fr.tmps.getD 7 .dead)).getD 0 .dead)).getD 0 .dead)) (listOf (fr.tmps.getD 16 .dead)) (intOf (fr.tmps.getD 17 .dead)) (listOf ((partsOf (valR (M.rows.getD 0 (.arr 0 [])))).getD 0 .dead)) (mlenOf ((partsOf (valR (M.rows.getD 3 (.arr 0 [])))).getD 0 .dead)) (lf_memory_Apply_4 F (mlenOf ((partsOf ((firstOf (fr.tmps.getD 7 .dead)).getD 0 .dead)).getD 0 .dead)) (listOf (fr.tmps.getD 16 .dead)) (intOf (fr.tmps.getD 17 .dead)) (listOf ((partsOf (valR (M.rows.getD 0 (.arr 0 [])))).getD 0 .dead)) (mlenOf ((partsOf (valR (M.rows.getD 3 (.arr 0 [])))).getD 0 .dead)) 100000 (intOf (fr.tmps.getD 18 .dead)) (listR (M.rows.getD 2 (.arr 0 []))))) else none
/-- Loop 1 of (memory.draft).put. -/
def sp_memory_draft_put_1a (F : Tab) (l1 : List AV) (n0 n1 : Nat) (i0 : Int) (l0 l2 : List AV) : Tr (Int × List AV × List AV) :=
    .br (decide ((0 : Int) < ((l0.length : Nat) : Int)))
     (.br (inB (IntKind.i64.wrap (i0.tdiv 128)) n1)
      (.br ((decide ((0 : Int) ≤ (i0.tmod 128))) && (decide ((i0.tmod 128) ≤ 128)))
       (.br (cond ((decide ((0 : Int) ≤ ((min l0.length (128 - ((i0.tmod 128).toNat)) : Nat) : Int))) && (decide (((min l0.length (128 - ((i0.tmod 128).toNat)) : Nat) : Int) ≤ ((l0.length : Nat) : Int)))) true false)
        (.next (IntKind.i64.wrap (i0 + ((min l0.length (128 - ((i0.tmod 128).toNat)) : Nat) : Int)), sub l0 (((min l0.length (128 - ((i0.tmod 128).toNat)) : Nat) : Int).toNat) l0.length, l2.set (0 + ((IntKind.i64.wrap (i0.tdiv 128)).toNat)) (.agg (aggT (l2.getD (0 + ((IntKind.i64.wrap (i0.tdiv 128)).toNat)) .dead)) (((partsOf (l2.getD (0 + ((IntKind.i64.wrap (i0.tdiv 128)).toNat)) .dead)).take ((i0.tmod 128).toNat)) ++ ((l0.take (min l0.length (128 - ((i0.tmod 128).toNat)))) ++ ((partsOf (l2.getD (0 + ((IntKind.i64.wrap (i0.tdiv 128)).toNat)) .dead)).drop (((i0.tmod 128).toNat) + (min l0.length (128 - ((i0.tmod 128).toNat))))))))))
        (.bad))
       (.bad))
      (.bad))
     (.out ⟨1, [], [], [l2], [], [], []⟩)
def st_memory_draft_put_1a (F : Tab) (l1 : List AV) (n0 n1 : Nat) (s : Int × List AV × List AV) : Tr (Int × List AV × List AV) := sp_memory_draft_put_1a F l1 n0 n1 s.1 s.2.1 s.2.2
def sF_memory_draft_put_1a (l1 : List AV) (n0 n1 : Nat) (s : Int × List AV × List AV) : Fr := (mkFr 26 [(1, .int .i64 s.1), (2, .slice 5 s.2.1 false), (3, .ptr 4 [] 158 0)] [])
def sM_memory_draft_put_1a (l1 : List AV) (n0 n1 : Nat) (s : Int × List AV × List AV) : Mm := ⟨[.var 24 (.agg 23 [.slice 118 l1 false]), .var 24 (.agg 23 [.slice 118 [] false]), .arr 118 s.2.2, .var 158 (.agg 157 [.msl 2 [] 118 0 0 n0]), .var 158 (.agg 157 [.msl 2 [] 118 0 0 n1])], [(1, [0])]⟩
def lf_memory_draft_put_1a (F : Tab) (l1 : List AV) (n0 n1 : Nat) (fuel : Nat) (i0 : Int) (l0 l2 : List AV) : LO := Tr.run (st_memory_draft_put_1a F l1 n0 n1) fuel (i0, l0, l2)
def lt_memory_draft_put_1a (l1 : List AV) (n0 n1 : Nat) (lo : LO) : LT :=
  .br (lo.k == 1) (.done (.exit 0) (mkFr 26 [] []) ⟨[.var 24 (.agg 23 [.slice 118 l1 false]), .var 24 (.agg 23 [.slice 118 [] false]), .arr 118 (lo.l.getD 0 []), .var 158 (.agg 157 [.msl 2 [] 118 0 0 n0]), .var 158 (.agg 157 [.msl 2 [] 118 0 0 n1])], [(1, [0])]⟩) (.fail)
def pt_memory_draft_put_1a : StP := ⟨26, [(1, .int .i64), (2, .slice 5 false), (3, .ptr 4 [] 158 (some 0))], [], [.var 24 (.agg 23 [.slice 118 false]), .var 24 (.agg 23 [.sliceL 118 [] false]), .arr 118, .var 158 (.agg 157 [.msl 2 [] 118 (some 0) (some 0) none]), .var 158 (.agg 157 [.msl 2 [] 118 (some 0) (some 0) none])], [(1, [0])]⟩
def lp_memory_draft_put_1a (F : Tab) (dep : Nat) (fr : Fr) (M : Mm) : Option LT :=
  if pt_memory_draft_put_1a.ok fr M then some (lt_memory_draft_put_1a (listOf ((partsOf (valR (M.rows.getD 0 (.arr 0 [])))).getD 0 .dead)) (mlenOf ((partsOf (valR (M.rows.getD 3 (.arr 0 [])))).getD 0 .dead)) (mlenOf ((partsOf (valR (M.rows.getD 4 (.arr 0 [])))).getD 0 .dead)) (lf_memory_draft_put_1a F (listOf ((partsOf (valR (M.rows.getD 0 (.arr 0 [])))).getD 0 .dead)) (mlenOf ((partsOf (valR (M.rows.getD 3 (.arr 0 [])))).getD 0 .dead)) (mlenOf ((partsOf (valR (M.rows.getD 4 (.arr 0 [])))).getD 0 .dead)) 100000 (intOf (fr.tmps.getD 1 .dead)) (listOf (fr.tmps.getD 2 .dead)) (listR (M.rows.getD 2 (.arr 0 []))))) else none
/-- Loop 8 of table.leaves$1. -/
def sp_table_leaves_1_8 (F : Tab) (i0 i1 i2 : Int) (l0 l2 : List AV) (i4 : Int) (i3 : Int) (l1 : List AV) : Tr (Int × List AV) :=
    let x0 : Int := intOf (valT F 66 [.agg 23 [.slice 118 l2 false], .int .u32 (IntKind.u32.wrap ((intOf (valT F 69 [.int .u32 i1])) + (IntKind.u32.wrap (4 * i3))))]);
    let x1 : Bool := okT Pg F 69 [.int .u32 x0];
    let x2 : Int := intOf (valT F 69 [.int .u32 x0]);
    .br (decide (i3 < 32))
     (.br (cond (okT Pg F 69 [.int .u32 i1]) (cond (okT Pg F 66 [.agg 23 [.slice 118 l2 false], .int .u32 (IntKind.u32.wrap ((intOf (valT F 69 [.int .u32 i1])) + (IntKind.u32.wrap (4 * i3))))]) true false) false)
      (.br (okT Pg F 67 [.int .u32 x0, .int .u32 1])
       (.br (boolOf (valT F 67 [.int .u32 x0, .int .u32 1]))
        (.br (okT Pg F 67 [.int .u32 x0, .int .u32 64])
         (.br (!(boolOf (valT F 67 [.int .u32 x0, .int .u32 64])))
          (.br (cond x1 (cond (okT Pg F 65 [.agg 23 [.slice 118 l0 false], .int .u32 x2]) true false) false)
           (.br (boolOf (valT F 65 [.agg 23 [.slice 118 l0 false], .int .u32 x2]))
            (.br x1
             (.br (decide (((l1.length + 1) * 16) ≤ 140737488355328))
              (.next (IntKind.u32.wrap (i3 + 1), l1 ++ [.agg 51 [.int .u32 (IntKind.u32.wrap ((IntKind.u32.wrap (4096 * i0)) + (IntKind.u32.wrap (128 * i3)))), .int .u32 x2, .int .i64 (IntKind.i64.wrap (ibits .and .u32 x0 127))]]))
              (.bad))
             (.bad))
            (.next (IntKind.u32.wrap (i3 + 1), l1)))
           (.bad))
          (.next (IntKind.u32.wrap (i3 + 1), l1)))
         (.bad))
        (.next (IntKind.u32.wrap (i3 + 1), l1)))
       (.bad))
      (.bad))
     (.out ⟨1, [], [], [l1], [], [], []⟩)
def st_table_leaves_1_8 (F : Tab) (i0 i1 i2 : Int) (l0 l2 : List AV) (i4 : Int) (s : Int × List AV) : Tr (Int × List AV) := sp_table_leaves_1_8 F i0 i1 i2 l0 l2 i4 s.1 s.2
def sF_table_leaves_1_8 (i0 i1 i2 : Int) (l0 l2 : List AV) (i4 : Int) (s : Int × List AV) : Fr := (mkFr 64 [(0, .yld 4), (1, .ptr 2 [] 24 0), (2, .ptr 3 [] 25 0), (4, .int .u32 i0), (5, .int .u32 i1), (8, .int .u32 i2), (34, .int .u32 s.1)] [])
def sM_table_leaves_1_8 (i0 i1 i2 : Int) (l0 l2 : List AV) (i4 : Int) (s : Int × List AV) : Mm := ⟨[.var 24 (.agg 23 [.slice 118 l0 false]), .var 49 (.slice 52 s.2 false), .var 24 (.agg 23 [.slice 118 l2 false]), .var 25 (.int .u32 i4), .loop 25 5 (mkFr 36 [(2, .ptr 0 [] 24 0), (5, .ptr 1 [] 49 0)] []).tmps 0 0], [(1, [])]⟩
def lf_table_leaves_1_8 (F : Tab) (i0 i1 i2 : Int) (l0 l2 : List AV) (i4 : Int) (fuel : Nat) (i3 : Int) (l1 : List AV) : LO := Tr.run (st_table_leaves_1_8 F i0 i1 i2 l0 l2 i4) fuel (i3, l1)
def lt_table_leaves_1_8 (i0 i1 i2 : Int) (l0 l2 : List AV) (i4 : Int) (lo : LO) : LT :=
  .br (lo.k == 1) (.done (.exit 2) (mkFr 64 [(0, .yld 4), (1, .ptr 2 [] 24 0), (2, .ptr 3 [] 25 0), (8, .int .u32 i2)] []) ⟨[.var 24 (.agg 23 [.slice 118 l0 false]), .var 49 (.slice 52 (lo.l.getD 0 []) false), .var 24 (.agg 23 [.slice 118 l2 false]), .var 25 (.int .u32 i4), .loop 25 5 (mkFr 36 [(2, .ptr 0 [] 24 0), (5, .ptr 1 [] 49 0)] []).tmps 0 0], [(1, [])]⟩) (.fail)
def pt_table_leaves_1_8 : StP := ⟨64, [(0, .yld 4), (1, .ptr 2 [] 24 (some 0)), (2, .ptr 3 [] 25 (some 0)), (4, .int .u32), (5, .int .u32), (8, .int .u32), (34, .int .u32)], [], [.var 24 (.agg 23 [.slice 118 false]), .var 49 (.slice 52 false), .var 24 (.agg 23 [.slice 118 false]), .var 25 (.int .u32), .loop 25 5 36 [(2, .ptr 0 [] 24 (some 0)), (5, .ptr 1 [] 49 (some 0))] 0 0], [(1, [])]⟩
def lp_table_leaves_1_8 (F : Tab) (dep : Nat) (fr : Fr) (M : Mm) : Option LT :=
  if Nat.beq dep 4 && pt_table_leaves_1_8.ok fr M then some (lt_table_leaves_1_8 (intOf (fr.tmps.getD 4 .dead)) (intOf (fr.tmps.getD 5 .dead)) (intOf (fr.tmps.getD 8 .dead)) (listOf ((partsOf (valR (M.rows.getD 0 (.arr 0 [])))).getD 0 .dead)) (listOf ((partsOf (valR (M.rows.getD 2 (.arr 0 [])))).getD 0 .dead)) (intOf (valR (M.rows.getD 3 (.arr 0 [])))) (lf_table_leaves_1_8 F (intOf (fr.tmps.getD 4 .dead)) (intOf (fr.tmps.getD 5 .dead)) (intOf (fr.tmps.getD 8 .dead)) (listOf ((partsOf (valR (M.rows.getD 0 (.arr 0 [])))).getD 0 .dead)) (listOf ((partsOf (valR (M.rows.getD 2 (.arr 0 [])))).getD 0 .dead)) (intOf (valR (M.rows.getD 3 (.arr 0 [])))) 100000 (intOf (fr.tmps.getD 34 .dead)) (listOf (valR (M.rows.getD 1 (.arr 0 [])))))) else none
/-- Loop 1 of table.leaves$1. -/
def sp_table_leaves_1_1 (F : Tab) (l0 l2 : List AV) (i1 : Int) (i0 : Int) (l1 : List AV) : Tr (Int × List AV) :=
    let x0 : Int := intOf (valT F 66 [.agg 23 [.slice 118 l2 false], .int .u32 (IntKind.u32.wrap (i1 + (IntKind.u32.wrap (4 * i0))))]);
    let x1 : Bool := !(boolOf (valT F 67 [.int .u32 x0, .int .u32 1]));
    let x2 : Bool := okT Pg F 69 [.int .u32 x0];
    let x3 : Int := intOf (valT F 69 [.int .u32 x0]);
    let x4 : LO := lf_table_leaves_1_8 F i0 x0 i0 l0 l2 i1 100000 0 l1;
    .br (decide (i0 < 32))
     (.br (okT Pg F 66 [.agg 23 [.slice 118 l2 false], .int .u32 (IntKind.u32.wrap (i1 + (IntKind.u32.wrap (4 * i0))))])
      (.br (cond (okT Pg F 67 [.int .u32 x0, .int .u32 1]) (condB x1 true (cond (okT Pg F 68 [.int .u32 x0, .agg 23 [.slice 118 l2 false]]) true false)) false)
       (.br (cond x1 true (!(boolOf (valT F 68 [.int .u32 x0, .agg 23 [.slice 118 l2 false]]))))
        (.next (IntKind.u32.wrap (i0 + 1), l1))
        (.br (okT Pg F 67 [.int .u32 x0, .int .u32 64])
         (.br (boolOf (valT F 67 [.int .u32 x0, .int .u32 64]))
          (.br (cond x2 (cond (okT Pg F 65 [.agg 23 [.slice 118 l0 false], .int .u32 x3]) true false) false)
           (.br (boolOf (valT F 65 [.agg 23 [.slice 118 l0 false], .int .u32 x3]))
            (.br x2
             (.br (decide (((l1.length + 1) * 16) ≤ 140737488355328))
              (.next (IntKind.u32.wrap (i0 + 1), l1 ++ [.agg 51 [.int .u32 (IntKind.u32.wrap (4096 * i0)), .int .u32 x3, .int .i64 (IntKind.i64.wrap (ibits .and .u32 x0 127))]]))
              (.bad))
             (.bad))
            (.next (IntKind.u32.wrap (i0 + 1), l1)))
           (.bad))
          (.br (x4.k == 1)
           (.next (IntKind.u32.wrap (i0 + 1), x4.l.getD 0 []))
           (.bad)))
         (.bad)))
       (.bad))
      (.bad))
     (.out ⟨1, [], [], [l1], [], [], []⟩)
def st_table_leaves_1_1 (F : Tab) (l0 l2 : List AV) (i1 : Int) (s : Int × List AV) : Tr (Int × List AV) := sp_table_leaves_1_1 F l0 l2 i1 s.1 s.2
def sF_table_leaves_1_1 (l0 l2 : List AV) (i1 : Int) (s : Int × List AV) : Fr := (mkFr 64 [(0, .yld 4), (1, .ptr 2 [] 24 0), (2, .ptr 3 [] 25 0), (8, .int .u32 s.1)] [])
def sM_table_leaves_1_1 (l0 l2 : List AV) (i1 : Int) (s : Int × List AV) : Mm := ⟨[.var 24 (.agg 23 [.slice 118 l0 false]), .var 49 (.slice 52 s.2 false), .var 24 (.agg 23 [.slice 118 l2 false]), .var 25 (.int .u32 i1), .loop 25 5 (mkFr 36 [(2, .ptr 0 [] 24 0), (5, .ptr 1 [] 49 0)] []).tmps 0 0], [(1, [])]⟩
def lf_table_leaves_1_1 (F : Tab) (l0 l2 : List AV) (i1 : Int) (fuel : Nat) (i0 : Int) (l1 : List AV) : LO := Tr.run (st_table_leaves_1_1 F l0 l2 i1) fuel (i0, l1)
def lt_table_leaves_1_1 (l0 l2 : List AV) (i1 : Int) (lo : LO) : LT :=
  .br (lo.k == 1) (.done (.exit 0) (mkFr 64 [] []) ⟨[.var 24 (.agg 23 [.slice 118 l0 false]), .var 49 (.slice 52 (lo.l.getD 0 []) false), .var 24 (.agg 23 [.slice 118 l2 false]), .var 25 (.int .u32 i1), .loop 25 5 (mkFr 36 [(2, .ptr 0 [] 24 0), (5, .ptr 1 [] 49 0)] []).tmps 0 0], [(1, [])]⟩) (.fail)
def pt_table_leaves_1_1 : StP := ⟨64, [(0, .yld 4), (1, .ptr 2 [] 24 (some 0)), (2, .ptr 3 [] 25 (some 0)), (8, .int .u32)], [], [.var 24 (.agg 23 [.slice 118 false]), .var 49 (.slice 52 false), .var 24 (.agg 23 [.slice 118 false]), .var 25 (.int .u32), .loop 25 5 36 [(2, .ptr 0 [] 24 (some 0)), (5, .ptr 1 [] 49 (some 0))] 0 0], [(1, [])]⟩
def lp_table_leaves_1_1 (F : Tab) (dep : Nat) (fr : Fr) (M : Mm) : Option LT :=
  if Nat.beq dep 4 && pt_table_leaves_1_1.ok fr M then some (lt_table_leaves_1_1 (listOf ((partsOf (valR (M.rows.getD 0 (.arr 0 [])))).getD 0 .dead)) (listOf ((partsOf (valR (M.rows.getD 2 (.arr 0 [])))).getD 0 .dead)) (intOf (valR (M.rows.getD 3 (.arr 0 [])))) (lf_table_leaves_1_1 F (listOf ((partsOf (valR (M.rows.getD 0 (.arr 0 [])))).getD 0 .dead)) (listOf ((partsOf (valR (M.rows.getD 2 (.arr 0 [])))).getD 0 .dead)) (intOf (valR (M.rows.getD 3 (.arr 0 [])))) 100000 (intOf (fr.tmps.getD 8 .dead)) (listOf (valR (M.rows.getD 1 (.arr 0 [])))))) else none
/-- Loop 4 of ref10.SameMappings. -/
def sp_ref10_SameMappings_4 (F : Tab) (l0 l1 : List AV) (i0 : Int) : Tr (Int) :=
    .br (decide (i0 < ((l0.length : Nat) : Int)))
     (.br (cond (inB i0 l0.length) (cond (inB i0 l1.length) true false) false)
      (.br (!(((intOf ((partsOf (l0.getD i0.toNat .dead)).getD 0 .dead)) == (intOf ((partsOf (l1.getD i0.toNat .dead)).getD 0 .dead))) && (((intOf ((partsOf (l0.getD i0.toNat .dead)).getD 1 .dead)) == (intOf ((partsOf (l1.getD i0.toNat .dead)).getD 1 .dead))) && (((intOf ((partsOf (l0.getD i0.toNat .dead)).getD 2 .dead)) == (intOf ((partsOf (l1.getD i0.toNat .dead)).getD 2 .dead))) && true))))
       (.out ⟨1, [], [], [], [], [], []⟩)
       (.next (IntKind.i64.wrap (i0 + 1))))
      (.bad))
     (.out ⟨2, [], [], [], [], [], []⟩)
def st_ref10_SameMappings_4 (F : Tab) (l0 l1 : List AV) (s : Int) : Tr (Int) := sp_ref10_SameMappings_4 F l0 l1 s
def sF_ref10_SameMappings_4 (l0 l1 : List AV) (s : Int) : Fr := (mkFr 26 [(0, .slice 52 l0 false), (1, .slice 52 l1 false), (5, .int .i64 s)] [])
def sM_ref10_SameMappings_4 (l0 l1 : List AV) (s : Int) : Mm := ⟨[], []⟩
def lf_ref10_SameMappings_4 (F : Tab) (l0 l1 : List AV) (fuel : Nat) (i0 : Int) : LO := Tr.run (st_ref10_SameMappings_4 F l0 l1) fuel (i0)
def lt_ref10_SameMappings_4 (l0 l1 : List AV) (lo : LO) : LT :=
  .br (lo.k == 1) (.done .ret (mkFr 26 [(4, .bool false)] []) ⟨[], []⟩) (.br (lo.k == 2) (.done (.exit 0) (mkFr 26 [] []) ⟨[], []⟩) (.fail))
def pt_ref10_SameMappings_4 : StP := ⟨26, [(0, .slice 52 false), (1, .slice 52 false), (5, .int .i64)], [], [], []⟩
def lp_ref10_SameMappings_4 (F : Tab) (dep : Nat) (fr : Fr) (M : Mm) : Option LT :=
  if pt_ref10_SameMappings_4.ok fr M then some (lt_ref10_SameMappings_4 (listOf (fr.tmps.getD 0 .dead)) (listOf (fr.tmps.getD 1 .dead)) (lf_ref10_SameMappings_4 F (listOf (fr.tmps.getD 0 .dead)) (listOf (fr.tmps.getD 1 .dead)) 100000 (intOf (fr.tmps.getD 5 .dead)))) else none
/-- Loop 13 of ref10.List. -/
def sp_ref10_List_13 (F : Tab) (i0 i1 : Int) (l1 : List AV) (i3 i4 : Int) (b0 b1 b2 : Bool) (l0 : List AV) (i2 : Int) : Tr (List AV × Int) :=
    let x0 : Int := intOf (valT F 88 [.agg 23 [.slice 118 l1 false], .int .i64 (intOf (valT F 85 [.agg 165 [.int .i64 i3, .int .i64 i4, .bool b0, .bool b1, .bool b2], .int .i64 (IntKind.i64.wrap (128 * i2))]))]);
    let x1 : Bool := boolOf (valT F 74 [.int .i64 x0, .int .i64 1]);
    let x2 : Bool := !(boolOf (valT F 74 [.int .i64 x0, .int .i64 64]));
    let x3 : Bool := okT Pg F 90 [.int .i64 x0];
    let x4 : Int := intOf (valT F 90 [.int .i64 x0]);
    .br (decide (i2 < 32))
     (.br (cond (okT Pg F 85 [.agg 165 [.int .i64 i3, .int .i64 i4, .bool b0, .bool b1, .bool b2], .int .i64 (IntKind.i64.wrap (128 * i2))]) (cond (okT Pg F 88 [.agg 23 [.slice 118 l1 false], .int .i64 (intOf (valT F 85 [.agg 165 [.int .i64 i3, .int .i64 i4, .bool b0, .bool b1, .bool b2], .int .i64 (IntKind.i64.wrap (128 * i2))]))]) true false) false)
      (.br (cond (okT Pg F 74 [.int .i64 x0, .int .i64 1]) (condB x1 (cond (okT Pg F 74 [.int .i64 x0, .int .i64 64]) (condB x2 (cond x3 (cond (okT Pg F 72 [.agg 23 [.slice 118 l1 false], .int .i64 x4]) true false) false) true) false) true) false)
       (.br (cond x1 (cond x2 (boolOf (valT F 72 [.agg 23 [.slice 118 l1 false], .int .i64 x4])) false) false)
        (.br x3
         (.br (decide (((l0.length + 1) * 16) ≤ 140737488355328))
          (.next (l0 ++ [.agg 51 [.int .u32 (IntKind.u32.wrap (IntKind.i64.wrap ((IntKind.i64.wrap (4096 * i1)) + (IntKind.i64.wrap (128 * i2))))), .int .u32 (IntKind.u32.wrap x4), .int .i64 (x0.tmod 128)]], IntKind.i64.wrap (i2 + 1)))
          (.bad))
         (.bad))
        (.next (l0, IntKind.i64.wrap (i2 + 1))))
       (.bad))
      (.bad))
     (.out ⟨1, [], [], [l0], [], [], []⟩)
def st_ref10_List_13 (F : Tab) (i0 i1 : Int) (l1 : List AV) (i3 i4 : Int) (b0 b1 b2 : Bool) (s : List AV × Int) : Tr (List AV × Int) := sp_ref10_List_13 F i0 i1 l1 i3 i4 b0 b1 b2 s.1 s.2
def sF_ref10_List_13 (i0 i1 : Int) (l1 : List AV) (i3 i4 : Int) (b0 b1 b2 : Bool) (s : List AV × Int) : Fr := (mkFr 98 [(1, .int .u32 i0), (2, .ptr 0 [] 24 0), (5, .slice 52 s.1 false), (6, .int .i64 i1), (7, .ptr 1 [] 166 0), (8, .int .i64 s.2)] [(5, .own)])
def sM_ref10_List_13 (i0 i1 : Int) (l1 : List AV) (i3 i4 : Int) (b0 b1 b2 : Bool) (s : List AV × Int) : Mm := ⟨[.var 24 (.agg 23 [.slice 118 l1 false]), .var 166 (.agg 165 [.int .i64 i3, .int .i64 i4, .bool b0, .bool b1, .bool b2])], []⟩
def lf_ref10_List_13 (F : Tab) (i0 i1 : Int) (l1 : List AV) (i3 i4 : Int) (b0 b1 b2 : Bool) (fuel : Nat) (l0 : List AV) (i2 : Int) : LO := Tr.run (st_ref10_List_13 F i0 i1 l1 i3 i4 b0 b1 b2) fuel (l0, i2)
def lt_ref10_List_13 (i0 i1 : Int) (l1 : List AV) (i3 i4 : Int) (b0 b1 b2 : Bool) (lo : LO) : LT :=
  .br (lo.k == 1) (.done (.exit 2) (mkFr 98 [(1, .int .u32 i0), (2, .ptr 0 [] 24 0), (5, .slice 52 (lo.l.getD 0 []) false), (6, .int .i64 i1)] [(5, .own)]) ⟨[.var 24 (.agg 23 [.slice 118 l1 false]), .var 166 (.agg 165 [.int .i64 i3, .int .i64 i4, .bool b0, .bool b1, .bool b2])], []⟩) (.fail)
def pt_ref10_List_13 : StP := ⟨98, [(1, .int .u32), (2, .ptr 0 [] 24 (some 0)), (5, .slice 52 false), (6, .int .i64), (7, .ptr 1 [] 166 (some 0)), (8, .int .i64)], [(5, .own)], [.var 24 (.agg 23 [.slice 118 false]), .var 166 (.agg 165 [.int .i64, .int .i64, .bool, .bool, .bool])], []⟩
def lp_ref10_List_13 (F : Tab) (dep : Nat) (fr : Fr) (M : Mm) : Option LT :=
  if pt_ref10_List_13.ok fr M then some (lt_ref10_List_13 (intOf (fr.tmps.getD 1 .dead)) (intOf (fr.tmps.getD 6 .dead)) (listOf ((partsOf (valR (M.rows.getD 0 (.arr 0 [])))).getD 0 .dead)) (intOf ((partsOf (valR (M.rows.getD 1 (.arr 0 [])))).getD 0 .dead)) (intOf ((partsOf (valR (M.rows.getD 1 (.arr 0 [])))).getD 1 .dead)) (boolOf ((partsOf (valR (M.rows.getD 1 (.arr 0 [])))).getD 2 .dead)) (boolOf ((partsOf (valR (M.rows.getD 1 (.arr 0 [])))).getD 3 .dead)) (boolOf ((partsOf (valR (M.rows.getD 1 (.arr 0 [])))).getD 4 .dead)) (lf_ref10_List_13 F (intOf (fr.tmps.getD 1 .dead)) (intOf (fr.tmps.getD 6 .dead)) (listOf ((partsOf (valR (M.rows.getD 0 (.arr 0 [])))).getD 0 .dead)) (intOf ((partsOf (valR (M.rows.getD 1 (.arr 0 [])))).getD 0 .dead)) (intOf ((partsOf (valR (M.rows.getD 1 (.arr 0 [])))).getD 1 .dead)) (boolOf ((partsOf (valR (M.rows.getD 1 (.arr 0 [])))).getD 2 .dead)) (boolOf ((partsOf (valR (M.rows.getD 1 (.arr 0 [])))).getD 3 .dead)) (boolOf ((partsOf (valR (M.rows.getD 1 (.arr 0 [])))).getD 4 .dead)) 100000 (listOf (fr.tmps.getD 5 .dead)) (intOf (fr.tmps.getD 8 .dead)))) else none
/-- Loop 5 of ref10.List. -/
def sp_ref10_List_5 (F : Tab) (i0 : Int) (l1 : List AV) (l0 : List AV) (i1 : Int) : Tr (List AV × Int) :=
    let x0 : List AV := partsOf (valT F 84 [.agg 23 [.slice 118 l1 false], .int .i64 (IntKind.i64.wrap i0), .int .i64 (IntKind.i64.wrap (4096 * i1))]);
    let x1 : Int := intOf (x0.getD 1 .dead);
    let x2 : Bool := boolOf (x0.getD 2 .dead);
    let x3 : Bool := boolOf (x0.getD 3 .dead);
    let x4 : Bool := boolOf (x0.getD 4 .dead);
    let x5 : Bool := okT Pg F 90 [.int .i64 x1];
    let x6 : Int := intOf (valT F 90 [.int .i64 x1]);
    let x7 : LO := lf_ref10_List_13 F i0 i1 l1 (intOf (x0.getD 0 .dead)) x1 x2 x3 x4 100000 l0 0;
    .br (decide (i1 < 32))
     (.br (okT Pg F 84 [.agg 23 [.slice 118 l1 false], .int .i64 (IntKind.i64.wrap i0), .int .i64 (IntKind.i64.wrap (4096 * i1))])
      (.br (cond (!x2) true (!x3))
       (.next (l0, IntKind.i64.wrap (i1 + 1)))
       (.br x4
        (.br (cond x5 (cond (okT Pg F 72 [.agg 23 [.slice 118 l1 false], .int .i64 x6]) true false) false)
         (.br (boolOf (valT F 72 [.agg 23 [.slice 118 l1 false], .int .i64 x6]))
          (.br x5
           (.br (decide (((l0.length + 1) * 16) ≤ 140737488355328))
            (.next (l0 ++ [.agg 51 [.int .u32 (IntKind.u32.wrap (IntKind.i64.wrap (4096 * i1))), .int .u32 (IntKind.u32.wrap x6), .int .i64 (x1.tmod 128)]], IntKind.i64.wrap (i1 + 1)))
            (.bad))
           (.bad))
          (.next (l0, IntKind.i64.wrap (i1 + 1))))
         (.bad))
        (.br (x7.k == 1)
         (.next (x7.l.getD 0 [], IntKind.i64.wrap (i1 + 1)))
         (.bad))))
      (.bad))
     (.out ⟨1, [], [], [l0], [], [], []⟩)
def st_ref10_List_5 (F : Tab) (i0 : Int) (l1 : List AV) (s : List AV × Int) : Tr (List AV × Int) := sp_ref10_List_5 F i0 l1 s.1 s.2
def sF_ref10_List_5 (i0 : Int) (l1 : List AV) (s : List AV × Int) : Fr := (mkFr 98 [(1, .int .u32 i0), (2, .ptr 0 [] 24 0), (5, .slice 52 s.1 false), (6, .int .i64 s.2)] [(5, .own)])
def sM_ref10_List_5 (i0 : Int) (l1 : List AV) (s : List AV × Int) : Mm := ⟨[.var 24 (.agg 23 [.slice 118 l1 false])], []⟩
def lf_ref10_List_5 (F : Tab) (i0 : Int) (l1 : List AV) (fuel : Nat) (l0 : List AV) (i1 : Int) : LO := Tr.run (st_ref10_List_5 F i0 l1) fuel (l0, i1)
def lt_ref10_List_5 (i0 : Int) (l1 : List AV) (lo : LO) : LT :=
  .br (lo.k == 1) (.done (.exit 0) (mkFr 98 [(5, .slice 52 (lo.l.getD 0 []) false)] [(5, .own)]) ⟨[.var 24 (.agg 23 [.slice 118 l1 false])], []⟩) (.fail)
def pt_ref10_List_5 : StP := ⟨98, [(1, .int .u32), (2, .ptr 0 [] 24 (some 0)), (5, .slice 52 false), (6, .int .i64)], [(5, .own)], [.var 24 (.agg 23 [.slice 118 false])], []⟩
def lp_ref10_List_5 (F : Tab) (dep : Nat) (fr : Fr) (M : Mm) : Option LT :=
  if pt_ref10_List_5.ok fr M then some (lt_ref10_List_5 (intOf (fr.tmps.getD 1 .dead)) (listOf ((partsOf (valR (M.rows.getD 0 (.arr 0 [])))).getD 0 .dead)) (lf_ref10_List_5 F (intOf (fr.tmps.getD 1 .dead)) (listOf ((partsOf (valR (M.rows.getD 0 (.arr 0 [])))).getD 0 .dead)) 100000 (listOf (fr.tmps.getD 5 .dead)) (intOf (fr.tmps.getD 6 .dead)))) else none
/-- Loop 6 of ref06.Store. -/
def sp_ref06_Store_6 (F : Tab) (l0 : List AV) (i1 i2 i3 : Int) (l1 : List AV) (n0 n1 : Nat) (i0 : Int) (l2 : List AV) : Tr (Int × List AV) :=
    .br (decide (i0 < i2))
     (.br (cond (decide ((0 : Int) ≤ (IntKind.i64.wrap (8 * i0)))) (cond (inB (IntKind.i64.wrap ((IntKind.i64.wrap (i1 + i0)).tdiv 128)) n1) (cond (inB ((IntKind.i64.wrap (i1 + i0)).tmod 128) 128) true false) false) false)
      (.next (IntKind.i64.wrap (i0 + 1), l2.set (0 + ((IntKind.i64.wrap ((IntKind.i64.wrap (i1 + i0)).tdiv 128)).toNat)) (.agg (aggT (l2.getD (0 + ((IntKind.i64.wrap ((IntKind.i64.wrap (i1 + i0)).tdiv 128)).toNat)) .dead)) ((partsOf (l2.getD (0 + ((IntKind.i64.wrap ((IntKind.i64.wrap (i1 + i0)).tdiv 128)).toNat)) .dead)).set (((IntKind.i64.wrap (i1 + i0)).tmod 128).toNat) (.int .u8 (IntKind.u8.wrap (i3.fdiv (2 ^ min (IntKind.i64.wrap (8 * i0)).toNat 32))))))))
      (.bad))
     (.out ⟨1, [], [], [l2], [], [], []⟩)
def st_ref06_Store_6 (F : Tab) (l0 : List AV) (i1 i2 i3 : Int) (l1 : List AV) (n0 n1 : Nat) (s : Int × List AV) : Tr (Int × List AV) := sp_ref06_Store_6 F l0 i1 i2 i3 l1 n0 n1 s.1 s.2
def sF_ref06_Store_6 (l0 : List AV) (i1 i2 i3 : Int) (l1 : List AV) (n0 n1 : Nat) (s : Int × List AV) : Fr := (mkFr 48 [(3, .ptr 1 [] 42 0), (4, .ptr 2 [] 129 0), (6, .ptr 6 [] 24 0), (7, .int .i64 s.1)] [])
def sM_ref06_Store_6 (l0 : List AV) (i1 i2 i3 : Int) (l1 : List AV) (n0 n1 : Nat) (s : Int × List AV) : Mm := ⟨[.var 24 (.agg 23 [.slice 118 l0 false]), .var 42 (.agg 41 [.int .i64 i1, .int .i64 i2, .int .u32 i3]), .var 129 (.agg 128 [.agg 23 [.slice 118 [] false], .bool false]), .var 24 (.agg 23 [.slice 118 l1 false]), .var 24 (.agg 23 [.msl 5 [] 118 0 0 n0]), .arr 118 s.2, .var 24 (.agg 23 [.msl 5 [] 118 0 0 n1])], [(2, [0, 0])]⟩
def lf_ref06_Store_6 (F : Tab) (l0 : List AV) (i1 i2 i3 : Int) (l1 : List AV) (n0 n1 : Nat) (fuel : Nat) (i0 : Int) (l2 : List AV) : LO := Tr.run (st_ref06_Store_6 F l0 i1 i2 i3 l1 n0 n1) fuel (i0, l2)
def lt_ref06_Store_6 (l0 : List AV) (i1 i2 i3 : Int) (l1 : List AV) (n0 n1 : Nat) (lo : LO) : LT :=
  .br (lo.k == 1) (.done (.exit 0) (mkFr 48 [(4, .ptr 2 [] 129 0), (6, .ptr 6 [] 24 0)] []) ⟨[.var 24 (.agg 23 [.slice 118 l0 false]), .var 42 (.agg 41 [.int .i64 i1, .int .i64 i2, .int .u32 i3]), .var 129 (.agg 128 [.agg 23 [.slice 118 [] false], .bool false]), .var 24 (.agg 23 [.slice 118 l1 false]), .var 24 (.agg 23 [.msl 5 [] 118 0 0 n0]), .arr 118 (lo.l.getD 0 []), .var 24 (.agg 23 [.msl 5 [] 118 0 0 n1])], [(2, [0, 0])]⟩) (.fail)
def pt_ref06_Store_6 : StP := ⟨48, [(3, .ptr 1 [] 42 (some 0)), (4, .ptr 2 [] 129 (some 0)), (6, .ptr 6 [] 24 (some 0)), (7, .int .i64)], [], [.var 24 (.agg 23 [.slice 118 false]), .var 42 (.agg 41 [.int .i64, .int .i64, .int .u32]), .var 129 (.agg 128 [.agg 23 [.sliceL 118 [] false], .boolC false]), .var 24 (.agg 23 [.slice 118 false]), .var 24 (.agg 23 [.msl 5 [] 118 (some 0) (some 0) none]), .arr 118, .var 24 (.agg 23 [.msl 5 [] 118 (some 0) (some 0) none])], [(2, [0, 0])]⟩
def lp_ref06_Store_6 (F : Tab) (dep : Nat) (fr : Fr) (M : Mm) : Option LT :=
  if pt_ref06_Store_6.ok fr M then some (lt_ref06_Store_6 (listOf ((partsOf (valR (M.rows.getD 0 (.arr 0 [])))).getD 0 .dead)) (intOf ((partsOf (valR (M.rows.getD 1 (.arr 0 [])))).getD 0 .dead)) (intOf ((partsOf (valR (M.rows.getD 1 (.arr 0 [])))).getD 1 .dead)) (intOf ((partsOf (valR (M.rows.getD 1 (.arr 0 [])))).getD 2 .dead)) (listOf ((partsOf (valR (M.rows.getD 3 (.arr 0 [])))).getD 0 .dead)) (mlenOf ((partsOf (valR (M.rows.getD 4 (.arr 0 [])))).getD 0 .dead)) (mlenOf ((partsOf (valR (M.rows.getD 6 (.arr 0 [])))).getD 0 .dead)) (lf_ref06_Store_6 F (listOf ((partsOf (valR (M.rows.getD 0 (.arr 0 [])))).getD 0 .dead)) (intOf ((partsOf (valR (M.rows.getD 1 (.arr 0 [])))).getD 0 .dead)) (intOf ((partsOf (valR (M.rows.getD 1 (.arr 0 [])))).getD 1 .dead)) (intOf ((partsOf (valR (M.rows.getD 1 (.arr 0 [])))).getD 2 .dead)) (listOf ((partsOf (valR (M.rows.getD 3 (.arr 0 [])))).getD 0 .dead)) (mlenOf ((partsOf (valR (M.rows.getD 4 (.arr 0 [])))).getD 0 .dead)) (mlenOf ((partsOf (valR (M.rows.getD 6 (.arr 0 [])))).getD 0 .dead)) 100000 (intOf (fr.tmps.getD 7 .dead)) (listR (M.rows.getD 5 (.arr 0 []))))) else none
/-- Loop 4 of ref06.SameInts. -/
def sp_ref06_SameInts_4 (F : Tab) (l0 l1 : List AV) (i0 : Int) : Tr (Int) :=
    .br (decide (i0 < ((l0.length : Nat) : Int)))
     (.br (cond (inB i0 l0.length) (cond (inB i0 l1.length) true false) false)
      (.br ((intOf (l0.getD i0.toNat .dead)) != (intOf (l1.getD i0.toNat .dead)))
       (.out ⟨1, [], [], [], [], [], []⟩)
       (.next (IntKind.i64.wrap (i0 + 1))))
      (.bad))
     (.out ⟨2, [], [], [], [], [], []⟩)
def st_ref06_SameInts_4 (F : Tab) (l0 l1 : List AV) (s : Int) : Tr (Int) := sp_ref06_SameInts_4 F l0 l1 s
def sF_ref06_SameInts_4 (l0 l1 : List AV) (s : Int) : Fr := (mkFr 26 [(0, .slice 3 l0 false), (1, .slice 3 l1 false), (5, .int .i64 s)] [])
def sM_ref06_SameInts_4 (l0 l1 : List AV) (s : Int) : Mm := ⟨[], []⟩
def lf_ref06_SameInts_4 (F : Tab) (l0 l1 : List AV) (fuel : Nat) (i0 : Int) : LO := Tr.run (st_ref06_SameInts_4 F l0 l1) fuel (i0)
def lt_ref06_SameInts_4 (l0 l1 : List AV) (lo : LO) : LT :=
  .br (lo.k == 1) (.done .ret (mkFr 26 [(4, .bool false)] []) ⟨[], []⟩) (.br (lo.k == 2) (.done (.exit 0) (mkFr 26 [] []) ⟨[], []⟩) (.fail))
def pt_ref06_SameInts_4 : StP := ⟨26, [(0, .slice 3 false), (1, .slice 3 false), (5, .int .i64)], [], [], []⟩
def lp_ref06_SameInts_4 (F : Tab) (dep : Nat) (fr : Fr) (M : Mm) : Option LT :=
  if pt_ref06_SameInts_4.ok fr M then some (lt_ref06_SameInts_4 (listOf (fr.tmps.getD 0 .dead)) (listOf (fr.tmps.getD 1 .dead)) (lf_ref06_SameInts_4 F (listOf (fr.tmps.getD 0 .dead)) (listOf (fr.tmps.getD 1 .dead)) 100000 (intOf (fr.tmps.getD 5 .dead)))) else none
/-- Loop 5 of ref06.Write. -/
def sp_ref06_Write_5 (F : Tab) (i0 : Int) (s0 : List UInt8) (l0 l1 : List AV) (n0 n1 : Nat) (i1 : Int) (l2 : List AV) : Tr (Int × List AV) :=
    .br (decide (i1 < ((s0.length : Nat) : Int)))
     (.br (cond (inB i1 s0.length) (cond (inB (IntKind.i64.wrap ((IntKind.i64.wrap (i0 + i1)).tdiv 128)) n1) (cond (inB ((IntKind.i64.wrap (i0 + i1)).tmod 128) 128) true false) false) false)
      (.next (IntKind.i64.wrap (i1 + 1), l2.set (0 + ((IntKind.i64.wrap ((IntKind.i64.wrap (i0 + i1)).tdiv 128)).toNat)) (.agg (aggT (l2.getD (0 + ((IntKind.i64.wrap ((IntKind.i64.wrap (i0 + i1)).tdiv 128)).toNat)) .dead)) ((partsOf (l2.getD (0 + ((IntKind.i64.wrap ((IntKind.i64.wrap (i0 + i1)).tdiv 128)).toNat)) .dead)).set (((IntKind.i64.wrap (i0 + i1)).tmod 128).toNat) (.int .u8 ((s0.getD i1.toNat 0).toNat : Int))))))
      (.bad))
     (.out ⟨1, [], [], [l2], [], [], []⟩)
def st_ref06_Write_5 (F : Tab) (i0 : Int) (s0 : List UInt8) (l0 l1 : List AV) (n0 n1 : Nat) (s : Int × List AV) : Tr (Int × List AV) := sp_ref06_Write_5 F i0 s0 l0 l1 n0 n1 s.1 s.2
def sF_ref06_Write_5 (i0 : Int) (s0 : List UInt8) (l0 l1 : List AV) (n0 n1 : Nat) (s : Int × List AV) : Fr := (mkFr 53 [(1, .int .i64 i0), (2, .str s0), (6, .ptr 1 [] 129 0), (7, .ptr 5 [] 24 0), (8, .int .i64 s.1)] [])
def sM_ref06_Write_5 (i0 : Int) (s0 : List UInt8) (l0 l1 : List AV) (n0 n1 : Nat) (s : Int × List AV) : Mm := ⟨[.var 24 (.agg 23 [.slice 118 l0 false]), .var 129 (.agg 128 [.agg 23 [.slice 118 [] false], .bool false]), .var 24 (.agg 23 [.slice 118 l1 false]), .var 24 (.agg 23 [.msl 4 [] 118 0 0 n0]), .arr 118 s.2, .var 24 (.agg 23 [.msl 4 [] 118 0 0 n1])], [(1, [0, 0])]⟩
def lf_ref06_Write_5 (F : Tab) (i0 : Int) (s0 : List UInt8) (l0 l1 : List AV) (n0 n1 : Nat) (fuel : Nat) (i1 : Int) (l2 : List AV) : LO := Tr.run (st_ref06_Write_5 F i0 s0 l0 l1 n0 n1) fuel (i1, l2)
def lt_ref06_Write_5 (i0 : Int) (s0 : List UInt8) (l0 l1 : List AV) (n0 n1 : Nat) (lo : LO) : LT :=
  .br (lo.k == 1) (.done (.exit 0) (mkFr 53 [(6, .ptr 1 [] 129 0), (7, .ptr 5 [] 24 0)] []) ⟨[.var 24 (.agg 23 [.slice 118 l0 false]), .var 129 (.agg 128 [.agg 23 [.slice 118 [] false], .bool false]), .var 24 (.agg 23 [.slice 118 l1 false]), .var 24 (.agg 23 [.msl 4 [] 118 0 0 n0]), .arr 118 (lo.l.getD 0 []), .var 24 (.agg 23 [.msl 4 [] 118 0 0 n1])], [(1, [0, 0])]⟩) (.fail)
def pt_ref06_Write_5 : StP := ⟨53, [(1, .int .i64), (2, .str), (6, .ptr 1 [] 129 (some 0)), (7, .ptr 5 [] 24 (some 0)), (8, .int .i64)], [], [.var 24 (.agg 23 [.slice 118 false]), .var 129 (.agg 128 [.agg 23 [.sliceL 118 [] false], .boolC false]), .var 24 (.agg 23 [.slice 118 false]), .var 24 (.agg 23 [.msl 4 [] 118 (some 0) (some 0) none]), .arr 118, .var 24 (.agg 23 [.msl 4 [] 118 (some 0) (some 0) none])], [(1, [0, 0])]⟩
def lp_ref06_Write_5 (F : Tab) (dep : Nat) (fr : Fr) (M : Mm) : Option LT :=
  if pt_ref06_Write_5.ok fr M then some (lt_ref06_Write_5 (intOf (fr.tmps.getD 1 .dead)) (strOf (fr.tmps.getD 2 .dead)) (listOf ((partsOf (valR (M.rows.getD 0 (.arr 0 [])))).getD 0 .dead)) (listOf ((partsOf (valR (M.rows.getD 2 (.arr 0 [])))).getD 0 .dead)) (mlenOf ((partsOf (valR (M.rows.getD 3 (.arr 0 [])))).getD 0 .dead)) (mlenOf ((partsOf (valR (M.rows.getD 5 (.arr 0 [])))).getD 0 .dead)) (lf_ref06_Write_5 F (intOf (fr.tmps.getD 1 .dead)) (strOf (fr.tmps.getD 2 .dead)) (listOf ((partsOf (valR (M.rows.getD 0 (.arr 0 [])))).getD 0 .dead)) (listOf ((partsOf (valR (M.rows.getD 2 (.arr 0 [])))).getD 0 .dead)) (mlenOf ((partsOf (valR (M.rows.getD 3 (.arr 0 [])))).getD 0 .dead)) (mlenOf ((partsOf (valR (M.rows.getD 5 (.arr 0 [])))).getD 0 .dead)) 100000 (intOf (fr.tmps.getD 8 .dead)) (listR (M.rows.getD 4 (.arr 0 []))))) else none
/-- Loop 3 of ref06.Diff. -/
def sp_ref06_Diff_3 (F : Tab) (l1 l2 : List AV) (l0 : List AV) (i0 : Int) : Tr (List AV × Int) :=
    .br (decide (i0 < (if ((l2.length : Nat) : Int) > ((l1.length : Nat) : Int) then ((l2.length : Nat) : Int) else ((l1.length : Nat) : Int))))
     (.br (condB (decide (((l1.length : Nat) : Int) ≤ i0)) true (condB (decide (((l2.length : Nat) : Int) ≤ i0)) true (cond (inB i0 l1.length) (cond (inB i0 l2.length) true false) false)))
      (.br (cond (decide (((l1.length : Nat) : Int) ≤ i0)) true (cond (decide (((l2.length : Nat) : Int) ≤ i0)) true (!(eqVs (partsOf (l1.getD i0.toNat .dead)) (partsOf (l2.getD i0.toNat .dead))))))
       (.br (decide (((l0.length + 1) * 8) ≤ 140737488355328))
        (.next (l0 ++ [.int .i64 i0], IntKind.i64.wrap (i0 + 1)))
        (.bad))
       (.next (l0, IntKind.i64.wrap (i0 + 1))))
      (.bad))
     (.out ⟨1, [], [], [l0], [], [], []⟩)
def st_ref06_Diff_3 (F : Tab) (l1 l2 : List AV) (s : List AV × Int) : Tr (List AV × Int) := sp_ref06_Diff_3 F l1 l2 s.1 s.2
def sF_ref06_Diff_3 (l1 l2 : List AV) (s : List AV × Int) : Fr := (mkFr 48 [(2, .ptr 0 [] 24 0), (3, .ptr 1 [] 24 0), (5, .slice 3 s.1 false), (6, .int .i64 s.2)] [(5, .own)])
def sM_ref06_Diff_3 (l1 l2 : List AV) (s : List AV × Int) : Mm := ⟨[.var 24 (.agg 23 [.slice 118 l1 false]), .var 24 (.agg 23 [.slice 118 l2 false])], []⟩
def lf_ref06_Diff_3 (F : Tab) (l1 l2 : List AV) (fuel : Nat) (l0 : List AV) (i0 : Int) : LO := Tr.run (st_ref06_Diff_3 F l1 l2) fuel (l0, i0)
def lt_ref06_Diff_3 (l1 l2 : List AV) (lo : LO) : LT :=
  .br (lo.k == 1) (.done (.exit 0) (mkFr 48 [(5, .slice 3 (lo.l.getD 0 []) false)] [(5, .own)]) ⟨[.var 24 (.agg 23 [.slice 118 l1 false]), .var 24 (.agg 23 [.slice 118 l2 false])], []⟩) (.fail)
def pt_ref06_Diff_3 : StP := ⟨48, [(2, .ptr 0 [] 24 (some 0)), (3, .ptr 1 [] 24 (some 0)), (5, .slice 3 false), (6, .int .i64)], [(5, .own)], [.var 24 (.agg 23 [.slice 118 false]), .var 24 (.agg 23 [.slice 118 false])], []⟩
def lp_ref06_Diff_3 (F : Tab) (dep : Nat) (fr : Fr) (M : Mm) : Option LT :=
  if pt_ref06_Diff_3.ok fr M then some (lt_ref06_Diff_3 (listOf ((partsOf (valR (M.rows.getD 0 (.arr 0 [])))).getD 0 .dead)) (listOf ((partsOf (valR (M.rows.getD 1 (.arr 0 [])))).getD 0 .dead)) (lf_ref06_Diff_3 F (listOf ((partsOf (valR (M.rows.getD 0 (.arr 0 [])))).getD 0 .dead)) (listOf ((partsOf (valR (M.rows.getD 1 (.arr 0 [])))).getD 0 .dead)) 100000 (listOf (fr.tmps.getD 5 .dead)) (intOf (fr.tmps.getD 6 .dead)))) else none
/-- Loop 6 of ref06.Load. -/
def sp_ref06_Load_6 (F : Tab) (i0 : Int) (l0 : List AV) (i1 i2 : Int) : Tr (Int × Int) :=
    .br (decide ((0 : Int) ≤ i2))
     (.br (okT Pg F 154 [.agg 23 [.slice 118 l0 false], .int .i64 (IntKind.i64.wrap (i0 + i2))])
      (.next (ibits .or .u32 (IntKind.u32.wrap (i1 * 256)) (IntKind.u32.wrap (intOf (valT F 154 [.agg 23 [.slice 118 l0 false], .int .i64 (IntKind.i64.wrap (i0 + i2))]))), IntKind.i64.wrap (i2 - 1)))
      (.bad))
     (.out ⟨1, [i1], [], [], [], [], []⟩)
def st_ref06_Load_6 (F : Tab) (i0 : Int) (l0 : List AV) (s : Int × Int) : Tr (Int × Int) := sp_ref06_Load_6 F i0 l0 s.1 s.2
def sF_ref06_Load_6 (i0 : Int) (l0 : List AV) (s : Int × Int) : Fr := (mkFr 34 [(1, .int .i64 i0), (3, .ptr 0 [] 24 0), (6, .ptr 1 [] 199 0), (8, .int .u32 s.1), (9, .int .i64 s.2)] [])
def sM_ref06_Load_6 (i0 : Int) (l0 : List AV) (s : Int × Int) : Mm := ⟨[.var 24 (.agg 23 [.slice 118 l0 false]), .var 199 (.agg 198 [.int .u32 0, .bool false])], []⟩
def lf_ref06_Load_6 (F : Tab) (i0 : Int) (l0 : List AV) (fuel : Nat) (i1 i2 : Int) : LO := Tr.run (st_ref06_Load_6 F i0 l0) fuel (i1, i2)
def lt_ref06_Load_6 (i0 : Int) (l0 : List AV) (lo : LO) : LT :=
  .br (lo.k == 1) (.done (.exit 0) (mkFr 34 [(6, .ptr 1 [] 199 0), (8, .int .u32 (lo.i.getD 0 0))] []) ⟨[.var 24 (.agg 23 [.slice 118 l0 false]), .var 199 (.agg 198 [.int .u32 0, .bool false])], []⟩) (.fail)
def pt_ref06_Load_6 : StP := ⟨34, [(1, .int .i64), (3, .ptr 0 [] 24 (some 0)), (6, .ptr 1 [] 199 (some 0)), (8, .int .u32), (9, .int .i64)], [], [.var 24 (.agg 23 [.slice 118 false]), .var 199 (.agg 198 [.intC .u32 0, .boolC false])], []⟩
def lp_ref06_Load_6 (F : Tab) (dep : Nat) (fr : Fr) (M : Mm) : Option LT :=
  if pt_ref06_Load_6.ok fr M then some (lt_ref06_Load_6 (intOf (fr.tmps.getD 1 .dead)) (listOf ((partsOf (valR (M.rows.getD 0 (.arr 0 [])))).getD 0 .dead)) (lf_ref06_Load_6 F (intOf (fr.tmps.getD 1 .dead)) (listOf ((partsOf (valR (M.rows.getD 0 (.arr 0 [])))).getD 0 .dead)) 100000 (intOf (fr.tmps.getD 8 .dead)) (intOf (fr.tmps.getD 9 .dead)))) else none
def kn : List FuncId := [3, 4, 5, 6, 7, 16, 17, 18, 19, 20, 21, 23, 24, 25, 26, 27, 28, 29, 30, 31, 32, 33, 34, 57, 62, 65, 66, 67, 68, 69, 70, 71, 72, 73, 74, 75, 80, 81, 82, 83, 84, 85, 86, 87, 88, 89, 90, 93, 115, 123, 154]
noncomputable def cx (F : Tab) : Ctx where
  P := Pg
  n := 100000
  muta := fun f => memN f [77, 116]
  spec := specT Pg kn F
  kept := fun f id => match f, id with
    | 5, 4 => some ([1, 2, 3, 7], [1, 2, 3, 6])
    | 6, 7 => some ([2, 3, 7, 8, 9, 10, 31, 32, 33], [3, 6, 7, 8, 9])
    | 21, 4 => some ([2, 3, 5], [4])
    | 24, 4 => some ([2, 4, 6, 7, 16, 17, 18], [4, 5, 6])
    | 25, 5 => some ([2, 5], [])
    | 33, 4 => some ([0, 1, 5], [4])
    | 34, 5 => some ([1, 2, 5, 6], [5])
    | 34, 13 => some ([1, 2, 5, 6, 7, 8], [1, 2, 5, 6])
    | 57, 6 => some ([3, 4, 6, 7], [4, 6])
    | 75, 4 => some ([0, 1, 5], [4])
    | 86, 5 => some ([1, 2, 6, 7, 8], [6, 7])
    | 89, 3 => some ([2, 3, 5, 6], [5])
    | 121, 1 => some ([1, 2, 3], [])
    | 122, 1 => some ([0, 1, 2, 8], [])
    | 122, 8 => some ([0, 1, 2, 4, 5, 8, 34], [0, 1, 2, 8])
    | 123, 6 => some ([1, 3, 6, 8, 9], [6, 8])
    | _, _ => none
  ends := fun dep f id fr M => match f, id with
    | 5, 4 => lp_law10_TableRightsAreOrdered_4 F dep fr M
    | 6, 7 => lp_law10_TableListIsTranslation_7 F dep fr M
    | 21, 4 => lp_ref10_Same_4 F dep fr M
    | 24, 4 => lp_memory_Apply_4 F dep fr M
    | 33, 4 => lp_ref10_SameMappings_4 F dep fr M
    | 34, 5 => lp_ref10_List_5 F dep fr M
    | 34, 13 => lp_ref10_List_13 F dep fr M
    | 57, 6 => lp_ref06_Store_6 F dep fr M
    | 75, 4 => lp_ref06_SameInts_4 F dep fr M
    | 86, 5 => lp_ref06_Write_5 F dep fr M
    | 89, 3 => lp_ref06_Diff_3 F dep fr M
    | 121, 1 => (match lp_memory_draft_put_1 F dep fr M with | some t => some t | none => lp_memory_draft_put_1a F dep fr M)
    | 122, 1 => lp_table_leaves_1_1 F dep fr M
    | 122, 8 => lp_table_leaves_1_8 F dep fr M
    | 123, 6 => lp_ref06_Load_6 F dep fr M
    | _, _ => none
end
end Go.Proofs.Ytcknhfnbdgleiaa
