/- What the loops come to, as functions of their own; the context. (Printed by a program of mine, gen.py.) -/
import Derived.Test.YtcknhfnbdgleiaaEvD
import Derived.Test.YtcknhfnbdgleiaaRows
set_option linter.unusedVariables false
set_option linter.unusedSimpArgs false
namespace Go.Proofs.Ytcknhfnbdgleiaa
open Go.AE

noncomputable section
abbrev Pg : Program := Try.checked.prog

/-- Loop 8 of law25.TlbWorksAsSpecified. -/
def sp_law25_TlbWorksAsSpecified_8 (F : Tab) (i0 i1 i2 : Int) (b0 : Bool) (l0 : List AV) (i3 : Int) (i4 : Int) (l1 : List AV) : Tr (Int × List AV) :=
    let x0 : List AV := tupOf (valT F 41 [.agg 67 [.slice 70 l1 false], .agg 78 [.int .u8 (intOf ((partsOf (l0.getD i4.toNat .dead)).getD 0 .dead)), .agg 69 [.int .u32 (intOf ((partsOf ((partsOf (l0.getD i4.toNat .dead)).getD 1 .dead)).getD 0 .dead)), .int .i64 (intOf ((partsOf ((partsOf (l0.getD i4.toNat .dead)).getD 1 .dead)).getD 1 .dead)), .int .i64 (intOf ((partsOf ((partsOf (l0.getD i4.toNat .dead)).getD 1 .dead)).getD 2 .dead)), .int .i64 (intOf ((partsOf ((partsOf (l0.getD i4.toNat .dead)).getD 1 .dead)).getD 3 .dead)), .int .i64 (intOf ((partsOf ((partsOf (l0.getD i4.toNat .dead)).getD 1 .dead)).getD 4 .dead)), .slice 3 (listOf ((partsOf ((partsOf (l0.getD i4.toNat .dead)).getD 1 .dead)).getD 5 .dead)) false], .int .i64 (intOf ((partsOf (l0.getD i4.toNat .dead)).getD 2 .dead)), .int .i64 (intOf ((partsOf (l0.getD i4.toNat .dead)).getD 3 .dead))]]);
    let x1 : List AV := listOf ((partsOf (x0.getD 0 .dead)).getD 0 .dead);
    let x2 : List AV := listOf ((partsOf (x0.getD 1 .dead)).getD 0 .dead);
    let x3 : List AV := tupOf (valT F 39 [.agg 67 [.slice 70 x1 false], .int .u32 i0, .int .u32 i1, .int .i64 i2, .bool b0]);
    let x4 : List AV := partsOf (valT F 42 [.agg 67 [.slice 70 x2 false], .int .u32 i0, .int .u32 i1, .int .i64 i2, .bool b0]);
    let x5 : Bool := !(boolOf (valT F 43 [.agg 67 [.slice 70 x1 false], .agg 67 [.slice 70 x2 false]]));
    .br (decide (i4 < i3))
     (.br (inB i4 l0.length)
      (.br (okT Pg F 41 [.agg 67 [.slice 70 l1 false], .agg 78 [.int .u8 (intOf ((partsOf (l0.getD i4.toNat .dead)).getD 0 .dead)), .agg 69 [.int .u32 (intOf ((partsOf ((partsOf (l0.getD i4.toNat .dead)).getD 1 .dead)).getD 0 .dead)), .int .i64 (intOf ((partsOf ((partsOf (l0.getD i4.toNat .dead)).getD 1 .dead)).getD 1 .dead)), .int .i64 (intOf ((partsOf ((partsOf (l0.getD i4.toNat .dead)).getD 1 .dead)).getD 2 .dead)), .int .i64 (intOf ((partsOf ((partsOf (l0.getD i4.toNat .dead)).getD 1 .dead)).getD 3 .dead)), .int .i64 (intOf ((partsOf ((partsOf (l0.getD i4.toNat .dead)).getD 1 .dead)).getD 4 .dead)), .slice 3 (listOf ((partsOf ((partsOf (l0.getD i4.toNat .dead)).getD 1 .dead)).getD 5 .dead)) false], .int .i64 (intOf ((partsOf (l0.getD i4.toNat .dead)).getD 2 .dead)), .int .i64 (intOf ((partsOf (l0.getD i4.toNat .dead)).getD 3 .dead))]])
       (.br (okT Pg F 39 [.agg 67 [.slice 70 x1 false], .int .u32 i0, .int .u32 i1, .int .i64 i2, .bool b0])
        (.br (okT Pg F 42 [.agg 67 [.slice 70 x2 false], .int .u32 i0, .int .u32 i1, .int .i64 i2, .bool b0])
         (.br (cond (okT Pg F 43 [.agg 67 [.slice 70 x1 false], .agg 67 [.slice 70 x2 false]]) (condB x5 true (cond (okT Pg F 40 [.agg 67 [.slice 70 x1 false]]) true false)) false)
          (.br (cond x5 true (cond (!(boolOf (valT F 40 [.agg 67 [.slice 70 x1 false]]))) true (cond ((intOf (x3.getD 0 .dead)) != (intOf (x4.getD 0 .dead))) true (cond ((intOf (x3.getD 1 .dead)) != (intOf (x4.getD 1 .dead))) true (!((boolOf (x3.getD 2 .dead)) == (boolOf (x4.getD 2 .dead))))))))
           (.out ⟨1, [], [], [l1], [], [], []⟩)
           (.next (IntKind.i64.wrap (i4 + 1), x1)))
          (.bad))
         (.bad))
        (.bad))
       (.bad))
      (.bad))
     (.out ⟨2, [], [], [l1], [], [], []⟩)
def st_law25_TlbWorksAsSpecified_8 (F : Tab) (i0 i1 i2 : Int) (b0 : Bool) (l0 : List AV) (i3 : Int) (s : Int × List AV) : Tr (Int × List AV) := sp_law25_TlbWorksAsSpecified_8 F i0 i1 i2 b0 l0 i3 s.1 s.2
def sF_law25_TlbWorksAsSpecified_8 (i0 i1 i2 : Int) (b0 : Bool) (l0 : List AV) (i3 : Int) (s : Int × List AV) : Fr := (mkFr 103 [(2, .int .u32 i0), (3, .int .u32 i1), (4, .int .i64 i2), (5, .bool b0), (6, .ptr 0 [] 68 0), (45, .slice 79 l0 false), (46, .int .i64 i3), (47, .int .i64 s.1)] [])
def sM_law25_TlbWorksAsSpecified_8 (i0 i1 i2 : Int) (b0 : Bool) (l0 : List AV) (i3 : Int) (s : Int × List AV) : Mm := ⟨[.var 68 (.agg 67 [.slice 70 s.2 false])], []⟩
def lf_law25_TlbWorksAsSpecified_8 (F : Tab) (i0 i1 i2 : Int) (b0 : Bool) (l0 : List AV) (i3 : Int) (fuel : Nat) (i4 : Int) (l1 : List AV) : LO := Tr.run (st_law25_TlbWorksAsSpecified_8 F i0 i1 i2 b0 l0 i3) fuel (i4, l1)
def lt_law25_TlbWorksAsSpecified_8 (i0 i1 i2 : Int) (b0 : Bool) (l0 : List AV) (i3 : Int) (lo : LO) : LT :=
  .br (lo.k == 1) (.done .ret (mkFr 103 [(12, .bool false)] []) ⟨[.var 68 (.agg 67 [.slice 70 (lo.l.getD 0 []) false])], []⟩) (.br (lo.k == 2) (.done (.exit 0) (mkFr 103 [] []) ⟨[.var 68 (.agg 67 [.slice 70 (lo.l.getD 0 []) false])], []⟩) (.fail))
def pt_law25_TlbWorksAsSpecified_8 : StP := ⟨103, [(2, .int .u32), (3, .int .u32), (4, .int .i64), (5, .bool), (6, .ptr 0 [] 68 (some 0)), (45, .slice 79 false), (46, .int .i64), (47, .int .i64)], [], [.var 68 (.agg 67 [.slice 70 false])], []⟩
def lp_law25_TlbWorksAsSpecified_8 (F : Tab) (dep : Nat) (fr : Fr) (M : Mm) : Option LT :=
  if pt_law25_TlbWorksAsSpecified_8.ok fr M then some (lt_law25_TlbWorksAsSpecified_8 (intOf (fr.tmps.getD 2 .dead)) (intOf (fr.tmps.getD 3 .dead)) (intOf (fr.tmps.getD 4 .dead)) (boolOf (fr.tmps.getD 5 .dead)) (listOf (fr.tmps.getD 45 .dead)) (intOf (fr.tmps.getD 46 .dead)) (lf_law25_TlbWorksAsSpecified_8 F (intOf (fr.tmps.getD 2 .dead)) (intOf (fr.tmps.getD 3 .dead)) (intOf (fr.tmps.getD 4 .dead)) (boolOf (fr.tmps.getD 5 .dead)) (listOf (fr.tmps.getD 45 .dead)) (intOf (fr.tmps.getD 46 .dead)) 100000 (intOf (fr.tmps.getD 47 .dead)) (listOf ((partsOf (valR (M.rows.getD 0 (.arr 0 [])))).getD 0 .dead)))) else none
/-- Loop 4 of ref10.Same. -/
def sp_ref10_Same_4 (F : Tab) (i1 i2 : Int) (l0 l1 : List AV) (i3 i4 : Int) (l2 l3 : List AV) (i0 : Int) : Tr (Int) :=
    .br (decide (i0 < ((l0.length : Nat) : Int)))
     (.br (cond (inB i0 l0.length) (cond (inB i0 l2.length) true false) false)
      (.br (!(((intOf ((partsOf (l0.getD i0.toNat .dead)).getD 0 .dead)) == (intOf ((partsOf (l2.getD i0.toNat .dead)).getD 0 .dead))) && (((intOf ((partsOf (l0.getD i0.toNat .dead)).getD 1 .dead)) == (intOf ((partsOf (l2.getD i0.toNat .dead)).getD 1 .dead))) && (((intOf ((partsOf (l0.getD i0.toNat .dead)).getD 2 .dead)) == (intOf ((partsOf (l2.getD i0.toNat .dead)).getD 2 .dead))) && true))))
       (.out ⟨1, [], [], [], [], [], []⟩)
       (.next (IntKind.i64.wrap (i0 + 1))))
      (.bad))
     (.out ⟨2, [], [], [], [], [], []⟩)
def st_ref10_Same_4 (F : Tab) (i1 i2 : Int) (l0 l1 : List AV) (i3 i4 : Int) (l2 l3 : List AV) (s : Int) : Tr (Int) := sp_ref10_Same_4 F i1 i2 l0 l1 i3 i4 l2 l3 s
def sF_ref10_Same_4 (i1 i2 : Int) (l0 l1 : List AV) (i3 i4 : Int) (l2 l3 : List AV) (s : Int) : Fr := (mkFr 53 [(2, .ptr 0 [] 32 0), (3, .ptr 1 [] 32 0), (5, .int .i64 s)] [])
def sM_ref10_Same_4 (i1 i2 : Int) (l0 l1 : List AV) (i3 i4 : Int) (l2 l3 : List AV) (s : Int) : Mm := ⟨[.var 32 (.agg 31 [.int .i64 i1, .int .i64 i2, .slice 42 l0 false, .slice 3 l1 false]), .var 32 (.agg 31 [.int .i64 i3, .int .i64 i4, .slice 42 l2 false, .slice 3 l3 false])], []⟩
def lf_ref10_Same_4 (F : Tab) (i1 i2 : Int) (l0 l1 : List AV) (i3 i4 : Int) (l2 l3 : List AV) (fuel : Nat) (i0 : Int) : LO := Tr.run (st_ref10_Same_4 F i1 i2 l0 l1 i3 i4 l2 l3) fuel (i0)
def lt_ref10_Same_4 (i1 i2 : Int) (l0 l1 : List AV) (i3 i4 : Int) (l2 l3 : List AV) (lo : LO) : LT :=
  .br (lo.k == 1) (.done .ret (mkFr 53 [(4, .bool false)] []) ⟨[.var 32 (.agg 31 [.int .i64 i1, .int .i64 i2, .slice 42 l0 false, .slice 3 l1 false]), .var 32 (.agg 31 [.int .i64 i3, .int .i64 i4, .slice 42 l2 false, .slice 3 l3 false])], []⟩) (.br (lo.k == 2) (.done (.exit 0) (mkFr 53 [] []) ⟨[.var 32 (.agg 31 [.int .i64 i1, .int .i64 i2, .slice 42 l0 false, .slice 3 l1 false]), .var 32 (.agg 31 [.int .i64 i3, .int .i64 i4, .slice 42 l2 false, .slice 3 l3 false])], []⟩) (.fail))
def pt_ref10_Same_4 : StP := ⟨53, [(2, .ptr 0 [] 32 (some 0)), (3, .ptr 1 [] 32 (some 0)), (5, .int .i64)], [], [.var 32 (.agg 31 [.int .i64, .int .i64, .slice 42 false, .slice 3 false]), .var 32 (.agg 31 [.int .i64, .int .i64, .slice 42 false, .slice 3 false])], []⟩
def lp_ref10_Same_4 (F : Tab) (dep : Nat) (fr : Fr) (M : Mm) : Option LT :=
  if pt_ref10_Same_4.ok fr M then some (lt_ref10_Same_4 (intOf ((partsOf (valR (M.rows.getD 0 (.arr 0 [])))).getD 0 .dead)) (intOf ((partsOf (valR (M.rows.getD 0 (.arr 0 [])))).getD 1 .dead)) (listOf ((partsOf (valR (M.rows.getD 0 (.arr 0 [])))).getD 2 .dead)) (listOf ((partsOf (valR (M.rows.getD 0 (.arr 0 [])))).getD 3 .dead)) (intOf ((partsOf (valR (M.rows.getD 1 (.arr 0 [])))).getD 0 .dead)) (intOf ((partsOf (valR (M.rows.getD 1 (.arr 0 [])))).getD 1 .dead)) (listOf ((partsOf (valR (M.rows.getD 1 (.arr 0 [])))).getD 2 .dead)) (listOf ((partsOf (valR (M.rows.getD 1 (.arr 0 [])))).getD 3 .dead)) (lf_ref10_Same_4 F (intOf ((partsOf (valR (M.rows.getD 0 (.arr 0 [])))).getD 0 .dead)) (intOf ((partsOf (valR (M.rows.getD 0 (.arr 0 [])))).getD 1 .dead)) (listOf ((partsOf (valR (M.rows.getD 0 (.arr 0 [])))).getD 2 .dead)) (listOf ((partsOf (valR (M.rows.getD 0 (.arr 0 [])))).getD 3 .dead)) (intOf ((partsOf (valR (M.rows.getD 1 (.arr 0 [])))).getD 0 .dead)) (intOf ((partsOf (valR (M.rows.getD 1 (.arr 0 [])))).getD 1 .dead)) (listOf ((partsOf (valR (M.rows.getD 1 (.arr 0 [])))).getD 2 .dead)) (listOf ((partsOf (valR (M.rows.getD 1 (.arr 0 [])))).getD 3 .dead)) 100000 (intOf (fr.tmps.getD 5 .dead)))) else none
/-- Loop 1 of (memory.draft).put. -/
def sp_memory_draft_put_1 (F : Tab) (l1 : List AV) (n0 : Nat) (i1 i2 i3 : Int) (n1 : Nat) (i4 i5 i6 : Int) (n2 : Nat) (i0 : Int) (l0 l2 : List AV) : Tr (Int × List AV × List AV) :=
    .br (decide ((0 : Int) < ((l0.length : Nat) : Int)))
     (.br (inB (IntKind.i64.wrap (i0.tdiv 128)) n2)
      (.br ((decide ((0 : Int) ≤ (i0.tmod 128))) && (decide ((i0.tmod 128) ≤ 128)))
       (.br (cond ((decide ((0 : Int) ≤ ((min l0.length (128 - ((i0.tmod 128).toNat)) : Nat) : Int))) && (decide (((min l0.length (128 - ((i0.tmod 128).toNat)) : Nat) : Int) ≤ ((l0.length : Nat) : Int)))) true false)
        (.next (IntKind.i64.wrap (i0 + ((min l0.length (128 - ((i0.tmod 128).toNat)) : Nat) : Int)), sub l0 (((min l0.length (128 - ((i0.tmod 128).toNat)) : Nat) : Int).toNat) l0.length, l2.set (0 + ((IntKind.i64.wrap (i0.tdiv 128)).toNat)) (.agg (aggT (l2.getD (0 + ((IntKind.i64.wrap (i0.tdiv 128)).toNat)) .dead)) (((partsOf (l2.getD (0 + ((IntKind.i64.wrap (i0.tdiv 128)).toNat)) .dead)).take ((i0.tmod 128).toNat)) ++ ((l0.take (min l0.length (128 - ((i0.tmod 128).toNat)))) ++ ((partsOf (l2.getD (0 + ((IntKind.i64.wrap (i0.tdiv 128)).toNat)) .dead)).drop (((i0.tmod 128).toNat) + (min l0.length (128 - ((i0.tmod 128).toNat))))))))))
        (.bad))
       (.bad))
      (.bad))
     (.out ⟨1, [], [], [l2], [], [], []⟩)
def st_memory_draft_put_1 (F : Tab) (l1 : List AV) (n0 : Nat) (i1 i2 i3 : Int) (n1 : Nat) (i4 i5 i6 : Int) (n2 : Nat) (s : Int × List AV × List AV) : Tr (Int × List AV × List AV) := sp_memory_draft_put_1 F l1 n0 i1 i2 i3 n1 i4 i5 i6 n2 s.1 s.2.1 s.2.2
def sF_memory_draft_put_1 (l1 : List AV) (n0 : Nat) (i1 i2 i3 : Int) (n1 : Nat) (i4 i5 i6 : Int) (n2 : Nat) (s : Int × List AV × List AV) : Fr := (mkFr 26 [(1, .int .i64 s.1), (2, .slice 5 s.2.1 false), (3, .ptr 7 [] 158 0)] [])
def sM_memory_draft_put_1 (l1 : List AV) (n0 : Nat) (i1 i2 i3 : Int) (n1 : Nat) (i4 i5 i6 : Int) (n2 : Nat) (s : Int × List AV × List AV) : Mm := ⟨[.var 24 (.agg 23 [.slice 118 l1 false]), .var 24 (.agg 23 [.slice 118 [] false]), .arr 118 s.2.2, .var 158 (.agg 157 [.msl 2 [] 118 0 0 n0]), .var 42 (.agg 41 [.int .i64 i1, .int .i64 i2, .int .u32 i3]), .var 158 (.agg 157 [.msl 2 [] 118 0 0 n1]), .var 42 (.agg 41 [.int .i64 i4, .int .i64 i5, .int .u32 i6]), .var 158 (.agg 157 [.msl 2 [] 118 0 0 n2])], [(1, [0])]⟩
def lf_memory_draft_put_1 (F : Tab) (l1 : List AV) (n0 : Nat) (i1 i2 i3 : Int) (n1 : Nat) (i4 i5 i6 : Int) (n2 : Nat) (fuel : Nat) (i0 : Int) (l0 l2 : List AV) : LO := Tr.run (st_memory_draft_put_1 F l1 n0 i1 i2 i3 n1 i4 i5 i6 n2) fuel (i0, l0, l2)
def lt_memory_draft_put_1 (l1 : List AV) (n0 : Nat) (i1 i2 i3 : Int) (n1 : Nat) (i4 i5 i6 : Int) (n2 : Nat) (lo : LO) : LT :=
  .br (lo.k == 1) (.done (.exit 0) (mkFr 26 [] []) ⟨[.var 24 (.agg 23 [.slice 118 l1 false]), .var 24 (.agg 23 [.slice 118 [] false]), .arr 118 (lo.l.getD 0 []), .var 158 (.agg 157 [.msl 2 [] 118 0 0 n0]), .var 42 (.agg 41 [.int .i64 i1, .int .i64 i2, .int .u32 i3]), .var 158 (.agg 157 [.msl 2 [] 118 0 0 n1]), .var 42 (.agg 41 [.int .i64 i4, .int .i64 i5, .int .u32 i6]), .var 158 (.agg 157 [.msl 2 [] 118 0 0 n2])], [(1, [0])]⟩) (.fail)
def pt_memory_draft_put_1 : StP := ⟨26, [(1, .int .i64), (2, .slice 5 false), (3, .ptr 7 [] 158 (some 0))], [], [.var 24 (.agg 23 [.slice 118 false]), .var 24 (.agg 23 [.sliceL 118 [] false]), .arr 118, .var 158 (.agg 157 [.msl 2 [] 118 (some 0) (some 0) none]), .var 42 (.agg 41 [.int .i64, .int .i64, .int .u32]), .var 158 (.agg 157 [.msl 2 [] 118 (some 0) (some 0) none]), .var 42 (.agg 41 [.int .i64, .int .i64, .int .u32]), .var 158 (.agg 157 [.msl 2 [] 118 (some 0) (some 0) none])], [(1, [0])]⟩
def lp_memory_draft_put_1 (F : Tab) (dep : Nat) (fr : Fr) (M : Mm) : Option LT :=
  if pt_memory_draft_put_1.ok fr M then some (lt_memory_draft_put_1 (listOf ((partsOf (valR (M.rows.getD 0 (.arr 0 [])))).getD 0 .dead)) (mlenOf ((partsOf (valR (M.rows.getD 3 (.arr 0 [])))).getD 0 .dead)) (intOf ((partsOf (valR (M.rows.getD 4 (.arr 0 [])))).getD 0 .dead)) (intOf ((partsOf (valR (M.rows.getD 4 (.arr 0 [])))).getD 1 .dead)) (intOf ((partsOf (valR (M.rows.getD 4 (.arr 0 [])))).getD 2 .dead)) (mlenOf ((partsOf (valR (M.rows.getD 5 (.arr 0 [])))).getD 0 .dead)) (intOf ((partsOf (valR (M.rows.getD 6 (.arr 0 [])))).getD 0 .dead)) (intOf ((partsOf (valR (M.rows.getD 6 (.arr 0 [])))).getD 1 .dead)) (intOf ((partsOf (valR (M.rows.getD 6 (.arr 0 [])))).getD 2 .dead)) (mlenOf ((partsOf (valR (M.rows.getD 7 (.arr 0 [])))).getD 0 .dead)) (lf_memory_draft_put_1 F (listOf ((partsOf (valR (M.rows.getD 0 (.arr 0 [])))).getD 0 .dead)) (mlenOf ((partsOf (valR (M.rows.getD 3 (.arr 0 [])))).getD 0 .dead)) (intOf ((partsOf (valR (M.rows.getD 4 (.arr 0 [])))).getD 0 .dead)) (intOf ((partsOf (valR (M.rows.getD 4 (.arr 0 [])))).getD 1 .dead)) (intOf ((partsOf (valR (M.rows.getD 4 (.arr 0 [])))).getD 2 .dead)) (mlenOf ((partsOf (valR (M.rows.getD 5 (.arr 0 [])))).getD 0 .dead)) (intOf ((partsOf (valR (M.rows.getD 6 (.arr 0 [])))).getD 0 .dead)) (intOf ((partsOf (valR (M.rows.getD 6 (.arr 0 [])))).getD 1 .dead)) (intOf ((partsOf (valR (M.rows.getD 6 (.arr 0 [])))).getD 2 .dead)) (mlenOf ((partsOf (valR (M.rows.getD 7 (.arr 0 [])))).getD 0 .dead)) 100000 (intOf (fr.tmps.getD 1 .dead)) (listOf (fr.tmps.getD 2 .dead)) (listR (M.rows.getD 2 (.arr 0 []))))) else none
/-- Loop 4 of memory.Apply. -/
def sp_memory_Apply_4 (F : Tab) (n0 : Nat) (l0 : List AV) (i0 : Int) (l1 : List AV) (n1 : Nat) (i1 : Int) (l2 : List AV) : Tr (Int × List AV) :=
    let x0 : Bool := ((intOf ((partsOf (l0.getD i1.toNat .dead)).getD 0 .dead)).tmod (intOf ((partsOf (l0.getD i1.toNat .dead)).getD 1 .dead))) == 0;
    let x1 : Bool := !(decide ((intOf ((partsOf (l0.getD i1.toNat .dead)).getD 0 .dead)) ≤ (IntKind.i64.wrap ((IntKind.i64.wrap (((n0 : Nat) : Int) * 128)) - (intOf ((partsOf (l0.getD i1.toNat .dead)).getD 1 .dead))))));
    let x2 : Bool := cond ((decide ((0 : Int) ≤ (intOf ((partsOf (l0.getD i1.toNat .dead)).getD 1 .dead)))) && (decide ((intOf ((partsOf (l0.getD i1.toNat .dead)).getD 1 .dead)) ≤ 4))) true false;
    let x3 : LO := lf_memory_draft_put_1 F l1 n1 (intOf ((partsOf (l0.getD i1.toNat .dead)).getD 0 .dead)) (intOf ((partsOf (l0.getD i1.toNat .dead)).getD 1 .dead)) (intOf ((partsOf (l0.getD i1.toNat .dead)).getD 2 .dead)) n0 (intOf ((partsOf (l0.getD i1.toNat .dead)).getD 0 .dead)) (intOf ((partsOf (l0.getD i1.toNat .dead)).getD 1 .dead)) (intOf ((partsOf (l0.getD i1.toNat .dead)).getD 2 .dead)) n0 100000 (intOf ((partsOf (l0.getD i1.toNat .dead)).getD 0 .dead)) (sub [.int .u8 (IntKind.u8.wrap (intOf ((partsOf (l0.getD i1.toNat .dead)).getD 2 .dead))), .int .u8 (IntKind.u8.wrap ((intOf ((partsOf (l0.getD i1.toNat .dead)).getD 2 .dead)).fdiv 256)), .int .u8 (IntKind.u8.wrap ((intOf ((partsOf (l0.getD i1.toNat .dead)).getD 2 .dead)).fdiv 65536)), .int .u8 (IntKind.u8.wrap ((intOf ((partsOf (l0.getD i1.toNat .dead)).getD 2 .dead)).fdiv 16777216))] 0 ((intOf ((partsOf (l0.getD i1.toNat .dead)).getD 1 .dead)).toNat)) l2;
    let x4 : List AV := x3.l.getD 0 [];
    let x5 : Bool := x3.k == 1;
    .br (decide (i1 < i0))
     (.br (inB i1 l0.length)
      (.br ((intOf ((partsOf (l0.getD i1.toNat .dead)).getD 1 .dead)) == 1)
       (.br (decide ((0 : Int) ≤ (intOf ((partsOf (l0.getD i1.toNat .dead)).getD 0 .dead))))
        (.br (!((intOf ((partsOf (l0.getD i1.toNat .dead)).getD 1 .dead)) == 0))
         (.br x0
          (.br x1
           (.out ⟨1, [], [], [l2], [], [], []⟩)
           (.br x2
            (.br x5
             (.next (IntKind.i64.wrap (i1 + 1), x4))
             (.bad))
            (.bad)))
          (.out ⟨1, [], [], [l2], [], [], []⟩))
         (.bad))
        (.out ⟨1, [], [], [l2], [], [], []⟩))
       (.br ((intOf ((partsOf (l0.getD i1.toNat .dead)).getD 1 .dead)) == 4)
        (.br (decide ((0 : Int) ≤ (intOf ((partsOf (l0.getD i1.toNat .dead)).getD 0 .dead))))
         (.br (!((intOf ((partsOf (l0.getD i1.toNat .dead)).getD 1 .dead)) == 0))
          (.br x0
           (.br x1
            (.out ⟨1, [], [], [l2], [], [], []⟩)
            (.br x2
             (.br x5
              (.next (IntKind.i64.wrap (i1 + 1), x4))
              (.bad))
             (.bad)))
           (.out ⟨1, [], [], [l2], [], [], []⟩))
          (.bad))
         (.out ⟨1, [], [], [l2], [], [], []⟩))
        (.out ⟨1, [], [], [l2], [], [], []⟩)))
      (.bad))
     (.out ⟨2, [], [], [l2], [], [], []⟩)
def st_memory_Apply_4 (F : Tab) (n0 : Nat) (l0 : List AV) (i0 : Int) (l1 : List AV) (n1 : Nat) (s : Int × List AV) : Tr (Int × List AV) := sp_memory_Apply_4 F n0 l0 i0 l1 n1 s.1 s.2
def sF_memory_Apply_4 (n0 : Nat) (l0 : List AV) (i0 : Int) (l1 : List AV) (n1 : Nat) (s : Int × List AV) : Fr := (mkFr 31 [(2, .ptr 0 [] 24 0), (4, .ptr 1 [] 24 0), (6, .ptr 3 [] 158 0), (7, .func (.func 78) [.agg 157 [.msl 2 [] 118 0 0 n0]] []), (16, .slice 42 l0 false), (17, .int .i64 i0), (18, .int .i64 s.1)] [])
def sM_memory_Apply_4 (n0 : Nat) (l0 : List AV) (i0 : Int) (l1 : List AV) (n1 : Nat) (s : Int × List AV) : Mm := ⟨[.var 24 (.agg 23 [.slice 118 l1 false]), .var 24 (.agg 23 [.slice 118 [] false]), .arr 118 s.2, .var 158 (.agg 157 [.msl 2 [] 118 0 0 n1])], [(1, [0])]⟩
def lf_memory_Apply_4 (F : Tab) (n0 : Nat) (l0 : List AV) (i0 : Int) (l1 : List AV) (n1 : Nat) (fuel : Nat) (i1 : Int) (l2 : List AV) : LO := Tr.run (st_memory_Apply_4 F n0 l0 i0 l1 n1) fuel (i1, l2)
def lt_memory_Apply_4 (n0 : Nat) (l0 : List AV) (i0 : Int) (l1 : List AV) (n1 : Nat) (lo : LO) : LT :=
  .br (lo.k == 1) (.done .ret (mkFr 31 [(4, .ptr 1 [] 24 0), (5, .bool false), (6, .ptr 3 [] 158 0)] []) ⟨[.var 24 (.agg 23 [.slice 118 l1 false]), .var 24 (.agg 23 [.slice 118 l1 false]), .arr 118 (lo.l.getD 0 []), .var 158 (.agg 157 [.msl 2 [] 118 0 0 n1])], []⟩) (.br (lo.k == 2) (.done (.exit 0) (mkFr 31 [(4, .ptr 1 [] 24 0), (6, .ptr 3 [] 158 0)] []) ⟨[.var 24 (.agg 23 [.slice 118 l1 false]), .var 24 (.agg 23 [.slice 118 [] false]), .arr 118 (lo.l.getD 0 []), .var 158 (.agg 157 [.msl 2 [] 118 0 0 n1])], [(1, [0])]⟩) (.fail))
def pt_memory_Apply_4 : StP := ⟨31, [(2, .ptr 0 [] 24 (some 0)), (4, .ptr 1 [] 24 (some 0)), (6, .ptr 3 [] 158 (some 0)), (7, .func 78 [.agg 157 [.msl 2 [] 118 (some 0) (some 0) none]] []), (16, .slice 42 false), (17, .int .i64), (18, .int .i64)], [], [.var 24 (.agg 23 [.slice 118 false]), .var 24 (.agg 23 [.sliceL 118 [] false]), .arr 118, .var 158 (.agg 157 [.msl 2 [] 118 (some 0) (some 0) none])], [(1, [0])]⟩
def lp_memory_Apply_4 (F : Tab) (dep : Nat) (fr : Fr) (M : Mm) : Option LT :=
  if Nat.beq dep 5 && pt_memory_Apply_4.ok fr M then some (lt_memory_Apply_4 (mlenOf ((partsOf ((firstOf (fr.tmps.getD 7 .dead)).getD 0 .dead)).getD 0 .dead)) (listOf (fr.tmps.getD 16 .dead)) (intOf (fr.tmps.getD 17 .dead)) (listOf ((partsOf (valR (M.rows.getD 0 (.arr 0 [])))).getD 0 .dead)) (mlenOf ((partsOf (valR (M.rows.getD 3 (.arr 0 [])))).getD 0 .dead)) (lf_memory_Apply_4 F (mlenOf ((partsOf ((firstOf (fr.tmps.getD 7 .dead)).getD 0 .dead)).getD 0 .dead)) (listOf (fr.tmps.getD 16 .dead)) (intOf (fr.tmps.getD 17 .dead)) (listOf ((partsOf (valR (M.rows.getD 0 (.arr 0 [])))).getD 0 .dead)) (mlenOf ((partsOf (valR (M.rows.getD 3 (.arr 0 [])))).getD 0 .dead)) 100000 (intOf (fr.tmps.getD 18 .dead)) (listR (M.rows.getD 2 (.arr 0 []))))) else none
/-- Loop 1 of (memory.draft).put. -/
def sp_memory_draft_put_1a (F : Tab) (l1 : List AV) (n0 n1 : Nat) (i0 : Int) (l0 l2 : List AV) : Tr (Int × List AV × List AV) :=
    .br (decide ((0 : Int) < ((l0.length : Nat) : Int)))
     (.br (inB (IntKind.i64.wrap (i0.tdiv 128)) n1)
      (.br ((decide ((0 : Int) ≤ (i0.tmod 128))) && (decide ((i0.tmod 128) ≤ 128)))
       (.br (cond ((decide ((0 : Int) ≤ ((min l0.length (128 - ((i0.tmod 128).toNat)) : Nat) : Int))) && (decide (((min l0.length (128 - ((i0.tmod 128).toNat)) : Nat) : Int) ≤ ((l0.length : Nat) : Int)))) true false)
        (.next (IntKind.i64.wrap (i0 + ((min l0.length (128 - ((i0.tmod 128).toNat)) : Nat) : Int)), sub l0 (((min l0.length (128 - ((i0.tmod 128).toNat)) : Nat) : Int).toNat) l0.length, l2.set (0 + ((IntKind.i64.wrap (i0.tdiv 128)).toNat)) (.agg (aggT (l2.getD (0 + ((IntKind.i64.wrap (i0.tdiv 128)).toNat)) .dead)) (((partsOf (l2.getD (0 + ((IntKind.i64.wrap (i0.tdiv 128)).toNat)) .dead)).take ((i0.tmod 128).toNat)) ++ ((l0.take (min l0.length (128 - ((i0.tmod 128).toNat)))) ++ ((partsOf (l2.getD (0 + ((IntKind.i64.wrap (i0.tdiv 128)).toNat)) .dead)).drop (((i0.tmod 128).toNat) + (min l0.length (128 - ((i0.tmod 128).toNat))))))))))
        (.bad))
       (.bad))
      (.bad))
     (.out ⟨1, [], [], [l2], [], [], []⟩)
def st_memory_draft_put_1a (F : Tab) (l1 : List AV) (n0 n1 : Nat) (s : Int × List AV × List AV) : Tr (Int × List AV × List AV) := sp_memory_draft_put_1a F l1 n0 n1 s.1 s.2.1 s.2.2
def sF_memory_draft_put_1a (l1 : List AV) (n0 n1 : Nat) (s : Int × List AV × List AV) : Fr := (mkFr 26 [(1, .int .i64 s.1), (2, .slice 5 s.2.1 false), (3, .ptr 4 [] 158 0)] [])
def sM_memory_draft_put_1a (l1 : List AV) (n0 n1 : Nat) (s : Int × List AV × List AV) : Mm := ⟨[.var 24 (.agg 23 [.slice 118 l1 false]), .var 24 (.agg 23 [.slice 118 [] false]), .arr 118 s.2.2, .var 158 (.agg 157 [.msl 2 [] 118 0 0 n0]), .var 158 (.agg 157 [.msl 2 [] 118 0 0 n1])], [(1, [0])]⟩
def lf_memory_draft_put_1a (F : Tab) (l1 : List AV) (n0 n1 : Nat) (fuel : Nat) (i0 : Int) (l0 l2 : List AV) : LO := Tr.run (st_memory_draft_put_1a F l1 n0 n1) fuel (i0, l0, l2)
def lt_memory_draft_put_1a (l1 : List AV) (n0 n1 : Nat) (lo : LO) : LT :=
  .br (lo.k == 1) (.done (.exit 0) (mkFr 26 [] []) ⟨[.var 24 (.agg 23 [.slice 118 l1 false]), .var 24 (.agg 23 [.slice 118 [] false]), .arr 118 (lo.l.getD 0 []), .var 158 (.agg 157 [.msl 2 [] 118 0 0 n0]), .var 158 (.agg 157 [.msl 2 [] 118 0 0 n1])], [(1, [0])]⟩) (.fail)
def pt_memory_draft_put_1a : StP := ⟨26, [(1, .int .i64), (2, .slice 5 false), (3, .ptr 4 [] 158 (some 0))], [], [.var 24 (.agg 23 [.slice 118 false]), .var 24 (.agg 23 [.sliceL 118 [] false]), .arr 118, .var 158 (.agg 157 [.msl 2 [] 118 (some 0) (some 0) none]), .var 158 (.agg 157 [.msl 2 [] 118 (some 0) (some 0) none])], [(1, [0])]⟩
def lp_memory_draft_put_1a (F : Tab) (dep : Nat) (fr : Fr) (M : Mm) : Option LT :=
  if pt_memory_draft_put_1a.ok fr M then some (lt_memory_draft_put_1a (listOf ((partsOf (valR (M.rows.getD 0 (.arr 0 [])))).getD 0 .dead)) (mlenOf ((partsOf (valR (M.rows.getD 3 (.arr 0 [])))).getD 0 .dead)) (mlenOf ((partsOf (valR (M.rows.getD 4 (.arr 0 [])))).getD 0 .dead)) (lf_memory_draft_put_1a F (listOf ((partsOf (valR (M.rows.getD 0 (.arr 0 [])))).getD 0 .dead)) (mlenOf ((partsOf (valR (M.rows.getD 3 (.arr 0 [])))).getD 0 .dead)) (mlenOf ((partsOf (valR (M.rows.getD 4 (.arr 0 [])))).getD 0 .dead)) 100000 (intOf (fr.tmps.getD 1 .dead)) (listOf (fr.tmps.getD 2 .dead)) (listR (M.rows.getD 2 (.arr 0 []))))) else none
/-- Loop 4 of ref25.Valid. -/
def sp_ref25_Valid_4 (F : Tab) (l0 : List AV) (i0 : Int) : Tr (Int) :=
    let x0 : Bool := !(boolOf (valT F 36 [.agg 69 [.int .u32 (intOf ((partsOf (l0.getD i0.toNat .dead)).getD 0 .dead)), .int .i64 (intOf ((partsOf (l0.getD i0.toNat .dead)).getD 1 .dead)), .int .i64 (intOf ((partsOf (l0.getD i0.toNat .dead)).getD 2 .dead)), .int .i64 (intOf ((partsOf (l0.getD i0.toNat .dead)).getD 3 .dead)), .int .i64 (intOf ((partsOf (l0.getD i0.toNat .dead)).getD 4 .dead)), .slice 3 (listOf ((partsOf (l0.getD i0.toNat .dead)).getD 5 .dead)) false]]));
    .br (decide (i0 < ((l0.length : Nat) : Int)))
     (.br (cond (inB i0 l0.length) (cond (okT Pg F 36 [.agg 69 [.int .u32 (intOf ((partsOf (l0.getD i0.toNat .dead)).getD 0 .dead)), .int .i64 (intOf ((partsOf (l0.getD i0.toNat .dead)).getD 1 .dead)), .int .i64 (intOf ((partsOf (l0.getD i0.toNat .dead)).getD 2 .dead)), .int .i64 (intOf ((partsOf (l0.getD i0.toNat .dead)).getD 3 .dead)), .int .i64 (intOf ((partsOf (l0.getD i0.toNat .dead)).getD 4 .dead)), .slice 3 (listOf ((partsOf (l0.getD i0.toNat .dead)).getD 5 .dead)) false]]) (condB x0 true (cond ((decide ((0 : Int) ≤ i0)) && (decide (i0 ≤ ((l0.length : Nat) : Int)))) (cond (inB i0 l0.length) (cond (inB i0 l0.length) (cond (okT Pg F 91 [.agg 67 [.slice 70 (sub l0 0 i0.toNat) false], .int .u32 (intOf ((partsOf (l0.getD i0.toNat .dead)).getD 0 .dead)), .int .i64 (intOf ((partsOf (l0.getD i0.toNat .dead)).getD 1 .dead))]) true false) false) false) false)) false) false)
      (.br (cond x0 true (decide ((0 : Int) ≤ (intOf (valT F 91 [.agg 67 [.slice 70 (sub l0 0 i0.toNat) false], .int .u32 (intOf ((partsOf (l0.getD i0.toNat .dead)).getD 0 .dead)), .int .i64 (intOf ((partsOf (l0.getD i0.toNat .dead)).getD 1 .dead))])))))
       (.out ⟨1, [], [], [], [], [], []⟩)
       (.next (IntKind.i64.wrap (i0 + 1))))
      (.bad))
     (.out ⟨2, [], [], [], [], [], []⟩)
def st_ref25_Valid_4 (F : Tab) (l0 : List AV) (s : Int) : Tr (Int) := sp_ref25_Valid_4 F l0 s
def sF_ref25_Valid_4 (l0 : List AV) (s : Int) : Fr := (mkFr 43 [(1, .ptr 0 [] 68 0), (3, .int .i64 s)] [])
def sM_ref25_Valid_4 (l0 : List AV) (s : Int) : Mm := ⟨[.var 68 (.agg 67 [.slice 70 l0 false])], []⟩
def lf_ref25_Valid_4 (F : Tab) (l0 : List AV) (fuel : Nat) (i0 : Int) : LO := Tr.run (st_ref25_Valid_4 F l0) fuel (i0)
def lt_ref25_Valid_4 (l0 : List AV) (lo : LO) : LT :=
  .br (lo.k == 1) (.done .ret (mkFr 43 [(2, .bool false)] []) ⟨[.var 68 (.agg 67 [.slice 70 l0 false])], []⟩) (.br (lo.k == 2) (.done (.exit 0) (mkFr 43 [] []) ⟨[.var 68 (.agg 67 [.slice 70 l0 false])], []⟩) (.fail))
def pt_ref25_Valid_4 : StP := ⟨43, [(1, .ptr 0 [] 68 (some 0)), (3, .int .i64)], [], [.var 68 (.agg 67 [.slice 70 false])], []⟩
def lp_ref25_Valid_4 (F : Tab) (dep : Nat) (fr : Fr) (M : Mm) : Option LT :=
  if pt_ref25_Valid_4.ok fr M then some (lt_ref25_Valid_4 (listOf ((partsOf (valR (M.rows.getD 0 (.arr 0 [])))).getD 0 .dead)) (lf_ref25_Valid_4 F (listOf ((partsOf (valR (M.rows.getD 0 (.arr 0 [])))).getD 0 .dead)) 100000 (intOf (fr.tmps.getD 3 .dead)))) else none
/-- Loop 4 of ref25.Right. -/
def sp_ref25_Right_4 (F : Tab) (i1 i2 i3 i4 i5 : Int) (l0 : List AV) (i0 : Int) : Tr (Int) :=
    .br (decide (i0 < ((l0.length : Nat) : Int)))
     (.br (cond (inB i0 l0.length) (condB (decide ((intOf (l0.getD i0.toNat .dead)) < 0)) true (cond (inB i0 l0.length) (condB (decide ((8192 : Int) ≤ (intOf (l0.getD i0.toNat .dead)))) true (cond (inB i0 l0.length) true false)) false)) false)
      (.br (cond (decide ((intOf (l0.getD i0.toNat .dead)) < 0)) true (cond (decide ((8192 : Int) ≤ (intOf (l0.getD i0.toNat .dead)))) true (((intOf (l0.getD i0.toNat .dead)).tmod 4) != 0)))
       (.out ⟨1, [], [], [], [], [], []⟩)
       (.next (IntKind.i64.wrap (i0 + 1))))
      (.bad))
     (.out ⟨2, [], [], [], [], [], []⟩)
def st_ref25_Right_4 (F : Tab) (i1 i2 i3 i4 i5 : Int) (l0 : List AV) (s : Int) : Tr (Int) := sp_ref25_Right_4 F i1 i2 i3 i4 i5 l0 s
def sF_ref25_Right_4 (i1 i2 i3 i4 i5 : Int) (l0 : List AV) (s : Int) : Fr := (mkFr 74 [(1, .ptr 0 [] 70 0), (3, .int .i64 s)] [])
def sM_ref25_Right_4 (i1 i2 i3 i4 i5 : Int) (l0 : List AV) (s : Int) : Mm := ⟨[.var 70 (.agg 69 [.int .u32 i1, .int .i64 i2, .int .i64 i3, .int .i64 i4, .int .i64 i5, .slice 3 l0 false])], []⟩
def lf_ref25_Right_4 (F : Tab) (i1 i2 i3 i4 i5 : Int) (l0 : List AV) (fuel : Nat) (i0 : Int) : LO := Tr.run (st_ref25_Right_4 F i1 i2 i3 i4 i5 l0) fuel (i0)
def lt_ref25_Right_4 (i1 i2 i3 i4 i5 : Int) (l0 : List AV) (lo : LO) : LT :=
  .br (lo.k == 1) (.done .ret (mkFr 74 [(2, .bool false)] []) ⟨[.var 70 (.agg 69 [.int .u32 i1, .int .i64 i2, .int .i64 i3, .int .i64 i4, .int .i64 i5, .slice 3 l0 false])], []⟩) (.br (lo.k == 2) (.done (.exit 0) (mkFr 74 [] []) ⟨[.var 70 (.agg 69 [.int .u32 i1, .int .i64 i2, .int .i64 i3, .int .i64 i4, .int .i64 i5, .slice 3 l0 false])], []⟩) (.fail))
def pt_ref25_Right_4 : StP := ⟨74, [(1, .ptr 0 [] 70 (some 0)), (3, .int .i64)], [], [.var 70 (.agg 69 [.int .u32, .int .i64, .int .i64, .int .i64, .int .i64, .slice 3 false])], []⟩
def lp_ref25_Right_4 (F : Tab) (dep : Nat) (fr : Fr) (M : Mm) : Option LT :=
  if pt_ref25_Right_4.ok fr M then some (lt_ref25_Right_4 (intOf ((partsOf (valR (M.rows.getD 0 (.arr 0 [])))).getD 0 .dead)) (intOf ((partsOf (valR (M.rows.getD 0 (.arr 0 [])))).getD 1 .dead)) (intOf ((partsOf (valR (M.rows.getD 0 (.arr 0 [])))).getD 2 .dead)) (intOf ((partsOf (valR (M.rows.getD 0 (.arr 0 [])))).getD 3 .dead)) (intOf ((partsOf (valR (M.rows.getD 0 (.arr 0 [])))).getD 4 .dead)) (listOf ((partsOf (valR (M.rows.getD 0 (.arr 0 [])))).getD 5 .dead)) (lf_ref25_Right_4 F (intOf ((partsOf (valR (M.rows.getD 0 (.arr 0 [])))).getD 0 .dead)) (intOf ((partsOf (valR (M.rows.getD 0 (.arr 0 [])))).getD 1 .dead)) (intOf ((partsOf (valR (M.rows.getD 0 (.arr 0 [])))).getD 2 .dead)) (intOf ((partsOf (valR (M.rows.getD 0 (.arr 0 [])))).getD 3 .dead)) (intOf ((partsOf (valR (M.rows.getD 0 (.arr 0 [])))).getD 4 .dead)) (listOf ((partsOf (valR (M.rows.getD 0 (.arr 0 [])))).getD 5 .dead)) 100000 (intOf (fr.tmps.getD 3 .dead)))) else none
/-- Loop 3 of tlb.keep[api.Trans]. -/
def sp_tlb_keep_api_Trans_3 (F : Tab) (l1 : List AV) (i0 : Int) (l2 : List AV) (i2 i3 i4 i5 i6 : Int) (l3 : List AV) (l0 : List AV) (i1 : Int) : Tr (List AV × Int) :=
    .br (decide (i1 < i0))
     (.br (inB i1 l1.length)
      (.br (cond ((intOf ((partsOf (l1.getD i1.toNat .dead)).getD 0 .dead)) != i2) true ((intOf ((partsOf (l1.getD i1.toNat .dead)).getD 1 .dead)) != i3))
       (.br (decide (((l0.length + 1) * 64) ≤ 140737488355328))
        (.next (l0 ++ [.agg 69 [.int .u32 (intOf ((partsOf (l1.getD i1.toNat .dead)).getD 0 .dead)), .int .i64 (intOf ((partsOf (l1.getD i1.toNat .dead)).getD 1 .dead)), .int .i64 (intOf ((partsOf (l1.getD i1.toNat .dead)).getD 2 .dead)), .int .i64 (intOf ((partsOf (l1.getD i1.toNat .dead)).getD 3 .dead)), .int .i64 (intOf ((partsOf (l1.getD i1.toNat .dead)).getD 4 .dead)), .slice 3 (listOf ((partsOf (l1.getD i1.toNat .dead)).getD 5 .dead)) false]], IntKind.i64.wrap (i1 + 1)))
        (.bad))
       (.next (l0, IntKind.i64.wrap (i1 + 1))))
      (.bad))
     (.out ⟨1, [], [], [l0], [], [], []⟩)
def st_tlb_keep_api_Trans_3 (F : Tab) (l1 : List AV) (i0 : Int) (l2 : List AV) (i2 i3 i4 i5 i6 : Int) (l3 : List AV) (s : List AV × Int) : Tr (List AV × Int) := sp_tlb_keep_api_Trans_3 F l1 i0 l2 i2 i3 i4 i5 i6 l3 s.1 s.2
def sF_tlb_keep_api_Trans_3 (l1 : List AV) (i0 : Int) (l2 : List AV) (i2 i3 i4 i5 i6 : Int) (l3 : List AV) (s : List AV × Int) : Fr := (mkFr 23 [(1, .func (.func 95) [] [.ptr 1 [] 70 0]), (5, .slice 70 s.1 false), (8, .slice 70 l1 false), (9, .int .i64 i0), (10, .int .i64 s.2)] [(5, .own)])
def sM_tlb_keep_api_Trans_3 (l1 : List AV) (i0 : Int) (l2 : List AV) (i2 i3 i4 i5 i6 : Int) (l3 : List AV) (s : List AV × Int) : Mm := ⟨[.var 68 (.agg 67 [.slice 70 l2 false]), .var 70 (.agg 69 [.int .u32 i2, .int .i64 i3, .int .i64 i4, .int .i64 i5, .int .i64 i6, .slice 3 l3 false]), .var 68 (.agg 67 [.slice 70 [] false])], [(2, [0])]⟩
def lf_tlb_keep_api_Trans_3 (F : Tab) (l1 : List AV) (i0 : Int) (l2 : List AV) (i2 i3 i4 i5 i6 : Int) (l3 : List AV) (fuel : Nat) (l0 : List AV) (i1 : Int) : LO := Tr.run (st_tlb_keep_api_Trans_3 F l1 i0 l2 i2 i3 i4 i5 i6 l3) fuel (l0, i1)
def lt_tlb_keep_api_Trans_3 (l1 : List AV) (i0 : Int) (l2 : List AV) (i2 i3 i4 i5 i6 : Int) (l3 : List AV) (lo : LO) : LT :=
  .br (lo.k == 1) (.done (.exit 0) (mkFr 23 [(5, .slice 70 (lo.l.getD 0 []) false)] [(5, .own)]) ⟨[.var 68 (.agg 67 [.slice 70 l2 false]), .var 70 (.agg 69 [.int .u32 i2, .int .i64 i3, .int .i64 i4, .int .i64 i5, .int .i64 i6, .slice 3 l3 false]), .var 68 (.agg 67 [.slice 70 [] false])], [(2, [0])]⟩) (.fail)
def pt_tlb_keep_api_Trans_3 : StP := ⟨23, [(1, .func 95 [] [.ptr 1 [] 70 (some 0)]), (5, .slice 70 false), (8, .slice 70 false), (9, .int .i64), (10, .int .i64)], [(5, .own)], [.var 68 (.agg 67 [.slice 70 false]), .var 70 (.agg 69 [.int .u32, .int .i64, .int .i64, .int .i64, .int .i64, .slice 3 false]), .var 68 (.agg 67 [.sliceL 70 [] false])], [(2, [0])]⟩
def lp_tlb_keep_api_Trans_3 (F : Tab) (dep : Nat) (fr : Fr) (M : Mm) : Option LT :=
  if Nat.beq dep 4 && pt_tlb_keep_api_Trans_3.ok fr M then some (lt_tlb_keep_api_Trans_3 (listOf (fr.tmps.getD 8 .dead)) (intOf (fr.tmps.getD 9 .dead)) (listOf ((partsOf (valR (M.rows.getD 0 (.arr 0 [])))).getD 0 .dead)) (intOf ((partsOf (valR (M.rows.getD 1 (.arr 0 [])))).getD 0 .dead)) (intOf ((partsOf (valR (M.rows.getD 1 (.arr 0 [])))).getD 1 .dead)) (intOf ((partsOf (valR (M.rows.getD 1 (.arr 0 [])))).getD 2 .dead)) (intOf ((partsOf (valR (M.rows.getD 1 (.arr 0 [])))).getD 3 .dead)) (intOf ((partsOf (valR (M.rows.getD 1 (.arr 0 [])))).getD 4 .dead)) (listOf ((partsOf (valR (M.rows.getD 1 (.arr 0 [])))).getD 5 .dead)) (lf_tlb_keep_api_Trans_3 F (listOf (fr.tmps.getD 8 .dead)) (intOf (fr.tmps.getD 9 .dead)) (listOf ((partsOf (valR (M.rows.getD 0 (.arr 0 [])))).getD 0 .dead)) (intOf ((partsOf (valR (M.rows.getD 1 (.arr 0 [])))).getD 0 .dead)) (intOf ((partsOf (valR (M.rows.getD 1 (.arr 0 [])))).getD 1 .dead)) (intOf ((partsOf (valR (M.rows.getD 1 (.arr 0 [])))).getD 2 .dead)) (intOf ((partsOf (valR (M.rows.getD 1 (.arr 0 [])))).getD 3 .dead)) (intOf ((partsOf (valR (M.rows.getD 1 (.arr 0 [])))).getD 4 .dead)) (listOf ((partsOf (valR (M.rows.getD 1 (.arr 0 [])))).getD 5 .dead)) 100000 (listOf (fr.tmps.getD 5 .dead)) (intOf (fr.tmps.getD 10 .dead)))) else none
/-- Loop 3 of tlb.keep[api.Trans]. -/
def sp_tlb_keep_api_Trans_3a (F : Tab) (l1 : List AV) (i0 : Int) (l2 : List AV) (i2 i3 i4 i5 i6 : Int) (l3 : List AV) (l0 : List AV) (i1 : Int) : Tr (List AV × Int) :=
    .br (decide (i1 < i0))
     (.br (inB i1 l1.length)
      (.br (cond ((intOf ((partsOf (l1.getD i1.toNat .dead)).getD 0 .dead)) == i2) ((intOf ((partsOf (l1.getD i1.toNat .dead)).getD 1 .dead)) == i3) false)
       (.br (decide (((l0.length + 1) * 64) ≤ 140737488355328))
        (.next (l0 ++ [.agg 69 [.int .u32 (intOf ((partsOf (l1.getD i1.toNat .dead)).getD 0 .dead)), .int .i64 (intOf ((partsOf (l1.getD i1.toNat .dead)).getD 1 .dead)), .int .i64 (intOf ((partsOf (l1.getD i1.toNat .dead)).getD 2 .dead)), .int .i64 (intOf ((partsOf (l1.getD i1.toNat .dead)).getD 3 .dead)), .int .i64 (intOf ((partsOf (l1.getD i1.toNat .dead)).getD 4 .dead)), .slice 3 (listOf ((partsOf (l1.getD i1.toNat .dead)).getD 5 .dead)) false]], IntKind.i64.wrap (i1 + 1)))
        (.bad))
       (.next (l0, IntKind.i64.wrap (i1 + 1))))
      (.bad))
     (.out ⟨1, [], [], [l0], [], [], []⟩)
def st_tlb_keep_api_Trans_3a (F : Tab) (l1 : List AV) (i0 : Int) (l2 : List AV) (i2 i3 i4 i5 i6 : Int) (l3 : List AV) (s : List AV × Int) : Tr (List AV × Int) := sp_tlb_keep_api_Trans_3a F l1 i0 l2 i2 i3 i4 i5 i6 l3 s.1 s.2
def sF_tlb_keep_api_Trans_3a (l1 : List AV) (i0 : Int) (l2 : List AV) (i2 i3 i4 i5 i6 : Int) (l3 : List AV) (s : List AV × Int) : Fr := (mkFr 23 [(1, .func (.func 96) [] [.ptr 1 [] 70 0]), (5, .slice 70 s.1 false), (8, .slice 70 l1 false), (9, .int .i64 i0), (10, .int .i64 s.2)] [(5, .own)])
def sM_tlb_keep_api_Trans_3a (l1 : List AV) (i0 : Int) (l2 : List AV) (i2 i3 i4 i5 i6 : Int) (l3 : List AV) (s : List AV × Int) : Mm := ⟨[.var 68 (.agg 67 [.slice 70 l2 false]), .var 70 (.agg 69 [.int .u32 i2, .int .i64 i3, .int .i64 i4, .int .i64 i5, .int .i64 i6, .slice 3 l3 false])], []⟩
def lf_tlb_keep_api_Trans_3a (F : Tab) (l1 : List AV) (i0 : Int) (l2 : List AV) (i2 i3 i4 i5 i6 : Int) (l3 : List AV) (fuel : Nat) (l0 : List AV) (i1 : Int) : LO := Tr.run (st_tlb_keep_api_Trans_3a F l1 i0 l2 i2 i3 i4 i5 i6 l3) fuel (l0, i1)
def lt_tlb_keep_api_Trans_3a (l1 : List AV) (i0 : Int) (l2 : List AV) (i2 i3 i4 i5 i6 : Int) (l3 : List AV) (lo : LO) : LT :=
  .br (lo.k == 1) (.done (.exit 0) (mkFr 23 [(5, .slice 70 (lo.l.getD 0 []) false)] [(5, .own)]) ⟨[.var 68 (.agg 67 [.slice 70 l2 false]), .var 70 (.agg 69 [.int .u32 i2, .int .i64 i3, .int .i64 i4, .int .i64 i5, .int .i64 i6, .slice 3 l3 false])], []⟩) (.fail)
def pt_tlb_keep_api_Trans_3a : StP := ⟨23, [(1, .func 96 [] [.ptr 1 [] 70 (some 0)]), (5, .slice 70 false), (8, .slice 70 false), (9, .int .i64), (10, .int .i64)], [(5, .own)], [.var 68 (.agg 67 [.slice 70 false]), .var 70 (.agg 69 [.int .u32, .int .i64, .int .i64, .int .i64, .int .i64, .slice 3 false])], []⟩
def lp_tlb_keep_api_Trans_3a (F : Tab) (dep : Nat) (fr : Fr) (M : Mm) : Option LT :=
  if Nat.beq dep 4 && pt_tlb_keep_api_Trans_3a.ok fr M then some (lt_tlb_keep_api_Trans_3a (listOf (fr.tmps.getD 8 .dead)) (intOf (fr.tmps.getD 9 .dead)) (listOf ((partsOf (valR (M.rows.getD 0 (.arr 0 [])))).getD 0 .dead)) (intOf ((partsOf (valR (M.rows.getD 1 (.arr 0 [])))).getD 0 .dead)) (intOf ((partsOf (valR (M.rows.getD 1 (.arr 0 [])))).getD 1 .dead)) (intOf ((partsOf (valR (M.rows.getD 1 (.arr 0 [])))).getD 2 .dead)) (intOf ((partsOf (valR (M.rows.getD 1 (.arr 0 [])))).getD 3 .dead)) (intOf ((partsOf (valR (M.rows.getD 1 (.arr 0 [])))).getD 4 .dead)) (listOf ((partsOf (valR (M.rows.getD 1 (.arr 0 [])))).getD 5 .dead)) (lf_tlb_keep_api_Trans_3a F (listOf (fr.tmps.getD 8 .dead)) (intOf (fr.tmps.getD 9 .dead)) (listOf ((partsOf (valR (M.rows.getD 0 (.arr 0 [])))).getD 0 .dead)) (intOf ((partsOf (valR (M.rows.getD 1 (.arr 0 [])))).getD 0 .dead)) (intOf ((partsOf (valR (M.rows.getD 1 (.arr 0 [])))).getD 1 .dead)) (intOf ((partsOf (valR (M.rows.getD 1 (.arr 0 [])))).getD 2 .dead)) (intOf ((partsOf (valR (M.rows.getD 1 (.arr 0 [])))).getD 3 .dead)) (intOf ((partsOf (valR (M.rows.getD 1 (.arr 0 [])))).getD 4 .dead)) (listOf ((partsOf (valR (M.rows.getD 1 (.arr 0 [])))).getD 5 .dead)) 100000 (listOf (fr.tmps.getD 5 .dead)) (intOf (fr.tmps.getD 10 .dead)))) else none
/-- Loop 3 of tlb.keep[api.Trans]. -/
def sp_tlb_keep_api_Trans_3b (F : Tab) (l1 : List AV) (i0 : Int) (l2 : List AV) (i2 : Int) (l0 : List AV) (i1 : Int) : Tr (List AV × Int) :=
    .br (decide (i1 < i0))
     (.br (inB i1 l1.length)
      (.br (cond (decide (i2 < 131072)) ((intOf ((partsOf (l1.getD i1.toNat .dead)).getD 1 .dead)) != (IntKind.i64.wrap (IntKind.u32.wrap (i2.tdiv 128)))) false)
       (.br (decide (((l0.length + 1) * 64) ≤ 140737488355328))
        (.next (l0 ++ [.agg 69 [.int .u32 (intOf ((partsOf (l1.getD i1.toNat .dead)).getD 0 .dead)), .int .i64 (intOf ((partsOf (l1.getD i1.toNat .dead)).getD 1 .dead)), .int .i64 (intOf ((partsOf (l1.getD i1.toNat .dead)).getD 2 .dead)), .int .i64 (intOf ((partsOf (l1.getD i1.toNat .dead)).getD 3 .dead)), .int .i64 (intOf ((partsOf (l1.getD i1.toNat .dead)).getD 4 .dead)), .slice 3 (listOf ((partsOf (l1.getD i1.toNat .dead)).getD 5 .dead)) false]], IntKind.i64.wrap (i1 + 1)))
        (.bad))
       (.next (l0, IntKind.i64.wrap (i1 + 1))))
      (.bad))
     (.out ⟨1, [], [], [l0], [], [], []⟩)
def st_tlb_keep_api_Trans_3b (F : Tab) (l1 : List AV) (i0 : Int) (l2 : List AV) (i2 : Int) (s : List AV × Int) : Tr (List AV × Int) := sp_tlb_keep_api_Trans_3b F l1 i0 l2 i2 s.1 s.2
def sF_tlb_keep_api_Trans_3b (l1 : List AV) (i0 : Int) (l2 : List AV) (i2 : Int) (s : List AV × Int) : Fr := (mkFr 23 [(1, .func (.func 104) [] [.ptr 1 [] 25 0]), (5, .slice 70 s.1 false), (8, .slice 70 l1 false), (9, .int .i64 i0), (10, .int .i64 s.2)] [(5, .own)])
def sM_tlb_keep_api_Trans_3b (l1 : List AV) (i0 : Int) (l2 : List AV) (i2 : Int) (s : List AV × Int) : Mm := ⟨[.var 68 (.agg 67 [.slice 70 l2 false]), .var 25 (.int .u32 i2), .var 68 (.agg 67 [.slice 70 [] false])], [(2, [0])]⟩
def lf_tlb_keep_api_Trans_3b (F : Tab) (l1 : List AV) (i0 : Int) (l2 : List AV) (i2 : Int) (fuel : Nat) (l0 : List AV) (i1 : Int) : LO := Tr.run (st_tlb_keep_api_Trans_3b F l1 i0 l2 i2) fuel (l0, i1)
def lt_tlb_keep_api_Trans_3b (l1 : List AV) (i0 : Int) (l2 : List AV) (i2 : Int) (lo : LO) : LT :=
  .br (lo.k == 1) (.done (.exit 0) (mkFr 23 [(5, .slice 70 (lo.l.getD 0 []) false)] [(5, .own)]) ⟨[.var 68 (.agg 67 [.slice 70 l2 false]), .var 25 (.int .u32 i2), .var 68 (.agg 67 [.slice 70 [] false])], [(2, [0])]⟩) (.fail)
def pt_tlb_keep_api_Trans_3b : StP := ⟨23, [(1, .func 104 [] [.ptr 1 [] 25 (some 0)]), (5, .slice 70 false), (8, .slice 70 false), (9, .int .i64), (10, .int .i64)], [(5, .own)], [.var 68 (.agg 67 [.slice 70 false]), .var 25 (.int .u32), .var 68 (.agg 67 [.sliceL 70 [] false])], [(2, [0])]⟩
def lp_tlb_keep_api_Trans_3b (F : Tab) (dep : Nat) (fr : Fr) (M : Mm) : Option LT :=
  if Nat.beq dep 4 && pt_tlb_keep_api_Trans_3b.ok fr M then some (lt_tlb_keep_api_Trans_3b (listOf (fr.tmps.getD 8 .dead)) (intOf (fr.tmps.getD 9 .dead)) (listOf ((partsOf (valR (M.rows.getD 0 (.arr 0 [])))).getD 0 .dead)) (intOf (valR (M.rows.getD 1 (.arr 0 [])))) (lf_tlb_keep_api_Trans_3b F (listOf (fr.tmps.getD 8 .dead)) (intOf (fr.tmps.getD 9 .dead)) (listOf ((partsOf (valR (M.rows.getD 0 (.arr 0 [])))).getD 0 .dead)) (intOf (valR (M.rows.getD 1 (.arr 0 [])))) 100000 (listOf (fr.tmps.getD 5 .dead)) (intOf (fr.tmps.getD 10 .dead)))) else none
/-- Loop 3 of tlb.keep[api.Trans]. -/
def sp_tlb_keep_api_Trans_3c (F : Tab) (l1 : List AV) (i0 : Int) (l2 : List AV) (i2 i3 : Int) (l0 : List AV) (i1 : Int) : Tr (List AV × Int) :=
    .br (decide (i1 < i0))
     (.br (inB i1 l1.length)
      (.br (okT Pg F 106 [.agg 69 [.int .u32 (intOf ((partsOf (l1.getD i1.toNat .dead)).getD 0 .dead)), .int .i64 (intOf ((partsOf (l1.getD i1.toNat .dead)).getD 1 .dead)), .int .i64 (intOf ((partsOf (l1.getD i1.toNat .dead)).getD 2 .dead)), .int .i64 (intOf ((partsOf (l1.getD i1.toNat .dead)).getD 3 .dead)), .int .i64 (intOf ((partsOf (l1.getD i1.toNat .dead)).getD 4 .dead)), .slice 3 (listOf ((partsOf (l1.getD i1.toNat .dead)).getD 5 .dead)) false], .int .i64 i2, .int .i64 i3])
       (.br (!(boolOf (valT F 106 [.agg 69 [.int .u32 (intOf ((partsOf (l1.getD i1.toNat .dead)).getD 0 .dead)), .int .i64 (intOf ((partsOf (l1.getD i1.toNat .dead)).getD 1 .dead)), .int .i64 (intOf ((partsOf (l1.getD i1.toNat .dead)).getD 2 .dead)), .int .i64 (intOf ((partsOf (l1.getD i1.toNat .dead)).getD 3 .dead)), .int .i64 (intOf ((partsOf (l1.getD i1.toNat .dead)).getD 4 .dead)), .slice 3 (listOf ((partsOf (l1.getD i1.toNat .dead)).getD 5 .dead)) false], .int .i64 i2, .int .i64 i3])))
        (.br (decide (((l0.length + 1) * 64) ≤ 140737488355328))
         (.next (l0 ++ [.agg 69 [.int .u32 (intOf ((partsOf (l1.getD i1.toNat .dead)).getD 0 .dead)), .int .i64 (intOf ((partsOf (l1.getD i1.toNat .dead)).getD 1 .dead)), .int .i64 (intOf ((partsOf (l1.getD i1.toNat .dead)).getD 2 .dead)), .int .i64 (intOf ((partsOf (l1.getD i1.toNat .dead)).getD 3 .dead)), .int .i64 (intOf ((partsOf (l1.getD i1.toNat .dead)).getD 4 .dead)), .slice 3 (listOf ((partsOf (l1.getD i1.toNat .dead)).getD 5 .dead)) false]], IntKind.i64.wrap (i1 + 1)))
         (.bad))
        (.next (l0, IntKind.i64.wrap (i1 + 1))))
       (.bad))
      (.bad))
     (.out ⟨1, [], [], [l0], [], [], []⟩)
def st_tlb_keep_api_Trans_3c (F : Tab) (l1 : List AV) (i0 : Int) (l2 : List AV) (i2 i3 : Int) (s : List AV × Int) : Tr (List AV × Int) := sp_tlb_keep_api_Trans_3c F l1 i0 l2 i2 i3 s.1 s.2
def sF_tlb_keep_api_Trans_3c (l1 : List AV) (i0 : Int) (l2 : List AV) (i2 i3 : Int) (s : List AV × Int) : Fr := (mkFr 23 [(1, .func (.func 105) [] [.ptr 1 [] 3 0, .ptr 2 [] 3 0]), (5, .slice 70 s.1 false), (8, .slice 70 l1 false), (9, .int .i64 i0), (10, .int .i64 s.2)] [(5, .own)])
def sM_tlb_keep_api_Trans_3c (l1 : List AV) (i0 : Int) (l2 : List AV) (i2 i3 : Int) (s : List AV × Int) : Mm := ⟨[.var 68 (.agg 67 [.slice 70 l2 false]), .var 3 (.int .i64 i2), .var 3 (.int .i64 i3), .var 68 (.agg 67 [.slice 70 [] false])], [(3, [0])]⟩
def lf_tlb_keep_api_Trans_3c (F : Tab) (l1 : List AV) (i0 : Int) (l2 : List AV) (i2 i3 : Int) (fuel : Nat) (l0 : List AV) (i1 : Int) : LO := Tr.run (st_tlb_keep_api_Trans_3c F l1 i0 l2 i2 i3) fuel (l0, i1)
def lt_tlb_keep_api_Trans_3c (l1 : List AV) (i0 : Int) (l2 : List AV) (i2 i3 : Int) (lo : LO) : LT :=
  .br (lo.k == 1) (.done (.exit 0) (mkFr 23 [(5, .slice 70 (lo.l.getD 0 []) false)] [(5, .own)]) ⟨[.var 68 (.agg 67 [.slice 70 l2 false]), .var 3 (.int .i64 i2), .var 3 (.int .i64 i3), .var 68 (.agg 67 [.slice 70 [] false])], [(3, [0])]⟩) (.fail)
def pt_tlb_keep_api_Trans_3c : StP := ⟨23, [(1, .func 105 [] [.ptr 1 [] 3 (some 0), .ptr 2 [] 3 (some 0)]), (5, .slice 70 false), (8, .slice 70 false), (9, .int .i64), (10, .int .i64)], [(5, .own)], [.var 68 (.agg 67 [.slice 70 false]), .var 3 (.int .i64), .var 3 (.int .i64), .var 68 (.agg 67 [.sliceL 70 [] false])], [(3, [0])]⟩
def lp_tlb_keep_api_Trans_3c (F : Tab) (dep : Nat) (fr : Fr) (M : Mm) : Option LT :=
  if Nat.beq dep 4 && pt_tlb_keep_api_Trans_3c.ok fr M then some (lt_tlb_keep_api_Trans_3c (listOf (fr.tmps.getD 8 .dead)) (intOf (fr.tmps.getD 9 .dead)) (listOf ((partsOf (valR (M.rows.getD 0 (.arr 0 [])))).getD 0 .dead)) (intOf (valR (M.rows.getD 1 (.arr 0 [])))) (intOf (valR (M.rows.getD 2 (.arr 0 [])))) (lf_tlb_keep_api_Trans_3c F (listOf (fr.tmps.getD 8 .dead)) (intOf (fr.tmps.getD 9 .dead)) (listOf ((partsOf (valR (M.rows.getD 0 (.arr 0 [])))).getD 0 .dead)) (intOf (valR (M.rows.getD 1 (.arr 0 [])))) (intOf (valR (M.rows.getD 2 (.arr 0 [])))) 100000 (listOf (fr.tmps.getD 5 .dead)) (intOf (fr.tmps.getD 10 .dead)))) else none
/-- Loop 3 of tlb.keep[api.Trans]. -/
def sp_tlb_keep_api_Trans_3d (F : Tab) (l1 : List AV) (i0 : Int) (l2 : List AV) (i2 : Int) (l0 : List AV) (i1 : Int) : Tr (List AV × Int) :=
    .br (decide (i1 < i0))
     (.br (inB i1 l1.length)
      (.br (condB ((intOf ((partsOf (l1.getD i1.toNat .dead)).getD 2 .dead)) != i2) (cond (okT Pg F 106 [.agg 69 [.int .u32 (intOf ((partsOf (l1.getD i1.toNat .dead)).getD 0 .dead)), .int .i64 (intOf ((partsOf (l1.getD i1.toNat .dead)).getD 1 .dead)), .int .i64 (intOf ((partsOf (l1.getD i1.toNat .dead)).getD 2 .dead)), .int .i64 (intOf ((partsOf (l1.getD i1.toNat .dead)).getD 3 .dead)), .int .i64 (intOf ((partsOf (l1.getD i1.toNat .dead)).getD 4 .dead)), .slice 3 (listOf ((partsOf (l1.getD i1.toNat .dead)).getD 5 .dead)) false], .int .i64 (IntKind.i64.wrap (128 * i2)), .int .i64 128]) true false) true)
       (.br (cond ((intOf ((partsOf (l1.getD i1.toNat .dead)).getD 2 .dead)) != i2) (!(boolOf (valT F 106 [.agg 69 [.int .u32 (intOf ((partsOf (l1.getD i1.toNat .dead)).getD 0 .dead)), .int .i64 (intOf ((partsOf (l1.getD i1.toNat .dead)).getD 1 .dead)), .int .i64 (intOf ((partsOf (l1.getD i1.toNat .dead)).getD 2 .dead)), .int .i64 (intOf ((partsOf (l1.getD i1.toNat .dead)).getD 3 .dead)), .int .i64 (intOf ((partsOf (l1.getD i1.toNat .dead)).getD 4 .dead)), .slice 3 (listOf ((partsOf (l1.getD i1.toNat .dead)).getD 5 .dead)) false], .int .i64 (IntKind.i64.wrap (128 * i2)), .int .i64 128]))) false)
        (.br (decide (((l0.length + 1) * 64) ≤ 140737488355328))
         (.next (l0 ++ [.agg 69 [.int .u32 (intOf ((partsOf (l1.getD i1.toNat .dead)).getD 0 .dead)), .int .i64 (intOf ((partsOf (l1.getD i1.toNat .dead)).getD 1 .dead)), .int .i64 (intOf ((partsOf (l1.getD i1.toNat .dead)).getD 2 .dead)), .int .i64 (intOf ((partsOf (l1.getD i1.toNat .dead)).getD 3 .dead)), .int .i64 (intOf ((partsOf (l1.getD i1.toNat .dead)).getD 4 .dead)), .slice 3 (listOf ((partsOf (l1.getD i1.toNat .dead)).getD 5 .dead)) false]], IntKind.i64.wrap (i1 + 1)))
         (.bad))
        (.next (l0, IntKind.i64.wrap (i1 + 1))))
       (.bad))
      (.bad))
     (.out ⟨1, [], [], [l0], [], [], []⟩)
def st_tlb_keep_api_Trans_3d (F : Tab) (l1 : List AV) (i0 : Int) (l2 : List AV) (i2 : Int) (s : List AV × Int) : Tr (List AV × Int) := sp_tlb_keep_api_Trans_3d F l1 i0 l2 i2 s.1 s.2
def sF_tlb_keep_api_Trans_3d (l1 : List AV) (i0 : Int) (l2 : List AV) (i2 : Int) (s : List AV × Int) : Fr := (mkFr 23 [(1, .func (.func 107) [] [.ptr 1 [] 3 0]), (5, .slice 70 s.1 false), (8, .slice 70 l1 false), (9, .int .i64 i0), (10, .int .i64 s.2)] [(5, .own)])
def sM_tlb_keep_api_Trans_3d (l1 : List AV) (i0 : Int) (l2 : List AV) (i2 : Int) (s : List AV × Int) : Mm := ⟨[.var 68 (.agg 67 [.slice 70 l2 false]), .var 3 (.int .i64 i2), .var 68 (.agg 67 [.slice 70 [] false])], [(2, [0])]⟩
def lf_tlb_keep_api_Trans_3d (F : Tab) (l1 : List AV) (i0 : Int) (l2 : List AV) (i2 : Int) (fuel : Nat) (l0 : List AV) (i1 : Int) : LO := Tr.run (st_tlb_keep_api_Trans_3d F l1 i0 l2 i2) fuel (l0, i1)
def lt_tlb_keep_api_Trans_3d (l1 : List AV) (i0 : Int) (l2 : List AV) (i2 : Int) (lo : LO) : LT :=
  .br (lo.k == 1) (.done (.exit 0) (mkFr 23 [(5, .slice 70 (lo.l.getD 0 []) false)] [(5, .own)]) ⟨[.var 68 (.agg 67 [.slice 70 l2 false]), .var 3 (.int .i64 i2), .var 68 (.agg 67 [.slice 70 [] false])], [(2, [0])]⟩) (.fail)
def pt_tlb_keep_api_Trans_3d : StP := ⟨23, [(1, .func 107 [] [.ptr 1 [] 3 (some 0)]), (5, .slice 70 false), (8, .slice 70 false), (9, .int .i64), (10, .int .i64)], [(5, .own)], [.var 68 (.agg 67 [.slice 70 false]), .var 3 (.int .i64), .var 68 (.agg 67 [.sliceL 70 [] false])], [(2, [0])]⟩
def lp_tlb_keep_api_Trans_3d (F : Tab) (dep : Nat) (fr : Fr) (M : Mm) : Option LT :=
  if Nat.beq dep 4 && pt_tlb_keep_api_Trans_3d.ok fr M then some (lt_tlb_keep_api_Trans_3d (listOf (fr.tmps.getD 8 .dead)) (intOf (fr.tmps.getD 9 .dead)) (listOf ((partsOf (valR (M.rows.getD 0 (.arr 0 [])))).getD 0 .dead)) (intOf (valR (M.rows.getD 1 (.arr 0 [])))) (lf_tlb_keep_api_Trans_3d F (listOf (fr.tmps.getD 8 .dead)) (intOf (fr.tmps.getD 9 .dead)) (listOf ((partsOf (valR (M.rows.getD 0 (.arr 0 [])))).getD 0 .dead)) (intOf (valR (M.rows.getD 1 (.arr 0 [])))) 100000 (listOf (fr.tmps.getD 5 .dead)) (intOf (fr.tmps.getD 10 .dead)))) else none
/-- Loop 11 of tlb.Lookup. -/
def sp_tlb_Lookup_11 (F : Tab) (i0 i1 i2 : Int) (l0 : List AV) (i3 : Int) (l1 : List AV) (i4 : Int) : Tr (Int) :=
    .br (decide (i4 < i3))
     (.br (inB i4 l0.length)
      (.br (cond ((intOf ((partsOf (l0.getD i4.toNat .dead)).getD 0 .dead)) == i0) (cond ((intOf ((partsOf (l0.getD i4.toNat .dead)).getD 1 .dead)) == (IntKind.i64.wrap (IntKind.u32.wrap (i1.tdiv 128)))) ((ibits .and .i64 (intOf ((partsOf (l0.getD i4.toNat .dead)).getD 4 .dead)) i2) == i2) false) false)
       (.out ⟨1, [IntKind.i64.wrap ((IntKind.i64.wrap (128 * (intOf ((partsOf (l0.getD i4.toNat .dead)).getD 3 .dead)))) + (IntKind.i64.wrap (i1.tmod 128))), IntKind.i64.wrap ((IntKind.i64.wrap (128 * (intOf ((partsOf (l0.getD i4.toNat .dead)).getD 2 .dead)))) + (IntKind.i64.wrap (i1.tmod 128)))], [], [], [], [], []⟩)
       (.next (IntKind.i64.wrap (i4 + 1))))
      (.bad))
     (.out ⟨2, [], [], [], [], [], []⟩)
def st_tlb_Lookup_11 (F : Tab) (i0 i1 i2 : Int) (l0 : List AV) (i3 : Int) (l1 : List AV) (s : Int) : Tr (Int) := sp_tlb_Lookup_11 F i0 i1 i2 l0 i3 l1 s
def sF_tlb_Lookup_11 (i0 i1 i2 : Int) (l0 : List AV) (i3 : Int) (l1 : List AV) (s : Int) : Fr := (mkFr 67 [(1, .int .u32 i0), (2, .int .u32 i1), (13, .int .i64 i2), (27, .slice 70 l0 false), (28, .int .i64 i3), (29, .int .i64 s)] [])
def sM_tlb_Lookup_11 (i0 i1 i2 : Int) (l0 : List AV) (i3 : Int) (l1 : List AV) (s : Int) : Mm := ⟨[.var 68 (.agg 67 [.slice 70 l1 false])], []⟩
def lf_tlb_Lookup_11 (F : Tab) (i0 i1 i2 : Int) (l0 : List AV) (i3 : Int) (l1 : List AV) (fuel : Nat) (i4 : Int) : LO := Tr.run (st_tlb_Lookup_11 F i0 i1 i2 l0 i3 l1) fuel (i4)
def lt_tlb_Lookup_11 (i0 i1 i2 : Int) (l0 : List AV) (i3 : Int) (l1 : List AV) (lo : LO) : LT :=
  .br (lo.k == 1) (.done .ret (mkFr 67 [(10, .int .i64 (lo.i.getD 0 0)), (11, .int .i64 (lo.i.getD 1 0)), (12, .bool true)] []) ⟨[.var 68 (.agg 67 [.slice 70 l1 false])], []⟩) (.br (lo.k == 2) (.done (.exit 1) (mkFr 67 [] []) ⟨[.var 68 (.agg 67 [.slice 70 l1 false])], []⟩) (.fail))
def pt_tlb_Lookup_11 : StP := ⟨67, [(1, .int .u32), (2, .int .u32), (13, .int .i64), (27, .slice 70 false), (28, .int .i64), (29, .int .i64)], [], [.var 68 (.agg 67 [.slice 70 false])], []⟩
def lp_tlb_Lookup_11 (F : Tab) (dep : Nat) (fr : Fr) (M : Mm) : Option LT :=
  if pt_tlb_Lookup_11.ok fr M then some (lt_tlb_Lookup_11 (intOf (fr.tmps.getD 1 .dead)) (intOf (fr.tmps.getD 2 .dead)) (intOf (fr.tmps.getD 13 .dead)) (listOf (fr.tmps.getD 27 .dead)) (intOf (fr.tmps.getD 28 .dead)) (listOf ((partsOf (valR (M.rows.getD 0 (.arr 0 [])))).getD 0 .dead)) (lf_tlb_Lookup_11 F (intOf (fr.tmps.getD 1 .dead)) (intOf (fr.tmps.getD 2 .dead)) (intOf (fr.tmps.getD 13 .dead)) (listOf (fr.tmps.getD 27 .dead)) (intOf (fr.tmps.getD 28 .dead)) (listOf ((partsOf (valR (M.rows.getD 0 (.arr 0 [])))).getD 0 .dead)) 100000 (intOf (fr.tmps.getD 29 .dead)))) else none
/-- Loop 4 of tlb.Valid. -/
def sp_tlb_Valid_4 (F : Tab) (i0 : Int) (l0 : List AV) (i1 : Int) : Tr (Int) :=
    let x0 : LO := lf_tlb_keep_api_Trans_3a F l0 ((l0.length : Nat) : Int) l0 (intOf ((partsOf (l0.getD i1.toNat .dead)).getD 0 .dead)) (intOf ((partsOf (l0.getD i1.toNat .dead)).getD 1 .dead)) (intOf ((partsOf (l0.getD i1.toNat .dead)).getD 2 .dead)) (intOf ((partsOf (l0.getD i1.toNat .dead)).getD 3 .dead)) (intOf ((partsOf (l0.getD i1.toNat .dead)).getD 4 .dead)) (listOf ((partsOf (l0.getD i1.toNat .dead)).getD 5 .dead)) 100000 [] 0;
    .br (decide (i1 < i0))
     (.br (inB i1 l0.length)
      (.br (x0.k == 1)
       (.br (cond (okT Pg F 97 [.agg 69 [.int .u32 (intOf ((partsOf (l0.getD i1.toNat .dead)).getD 0 .dead)), .int .i64 (intOf ((partsOf (l0.getD i1.toNat .dead)).getD 1 .dead)), .int .i64 (intOf ((partsOf (l0.getD i1.toNat .dead)).getD 2 .dead)), .int .i64 (intOf ((partsOf (l0.getD i1.toNat .dead)).getD 3 .dead)), .int .i64 (intOf ((partsOf (l0.getD i1.toNat .dead)).getD 4 .dead)), .slice 3 (listOf ((partsOf (l0.getD i1.toNat .dead)).getD 5 .dead)) false]]) true false)
        (.br (cond (!(boolOf (valT F 97 [.agg 69 [.int .u32 (intOf ((partsOf (l0.getD i1.toNat .dead)).getD 0 .dead)), .int .i64 (intOf ((partsOf (l0.getD i1.toNat .dead)).getD 1 .dead)), .int .i64 (intOf ((partsOf (l0.getD i1.toNat .dead)).getD 2 .dead)), .int .i64 (intOf ((partsOf (l0.getD i1.toNat .dead)).getD 3 .dead)), .int .i64 (intOf ((partsOf (l0.getD i1.toNat .dead)).getD 4 .dead)), .slice 3 (listOf ((partsOf (l0.getD i1.toNat .dead)).getD 5 .dead)) false]]))) true ((((x0.l.getD 0 []).length : Nat) : Int) != 1))
         (.out ⟨1, [], [], [], [], [], []⟩)
         (.next (IntKind.i64.wrap (i1 + 1))))
        (.bad))
       (.bad))
      (.bad))
     (.out ⟨2, [], [], [], [], [], []⟩)
def st_tlb_Valid_4 (F : Tab) (i0 : Int) (l0 : List AV) (s : Int) : Tr (Int) := sp_tlb_Valid_4 F i0 l0 s
def sF_tlb_Valid_4 (i0 : Int) (l0 : List AV) (s : Int) : Fr := (mkFr 34 [(1, .ptr 0 [] 68 0), (12, .int .i64 i0), (13, .int .i64 s)] [])
def sM_tlb_Valid_4 (i0 : Int) (l0 : List AV) (s : Int) : Mm := ⟨[.var 68 (.agg 67 [.slice 70 l0 false])], []⟩
def lf_tlb_Valid_4 (F : Tab) (i0 : Int) (l0 : List AV) (fuel : Nat) (i1 : Int) : LO := Tr.run (st_tlb_Valid_4 F i0 l0) fuel (i1)
def lt_tlb_Valid_4 (i0 : Int) (l0 : List AV) (lo : LO) : LT :=
  .br (lo.k == 1) (.done .ret (mkFr 34 [(2, .bool false)] []) ⟨[.var 68 (.agg 67 [.slice 70 l0 false])], []⟩) (.br (lo.k == 2) (.done (.exit 0) (mkFr 34 [] []) ⟨[.var 68 (.agg 67 [.slice 70 l0 false])], []⟩) (.fail))
def pt_tlb_Valid_4 : StP := ⟨34, [(1, .ptr 0 [] 68 (some 0)), (12, .int .i64), (13, .int .i64)], [], [.var 68 (.agg 67 [.slice 70 false])], []⟩
def lp_tlb_Valid_4 (F : Tab) (dep : Nat) (fr : Fr) (M : Mm) : Option LT :=
  if Nat.beq dep 5 && pt_tlb_Valid_4.ok fr M then some (lt_tlb_Valid_4 (intOf (fr.tmps.getD 12 .dead)) (listOf ((partsOf (valR (M.rows.getD 0 (.arr 0 [])))).getD 0 .dead)) (lf_tlb_Valid_4 F (intOf (fr.tmps.getD 12 .dead)) (listOf ((partsOf (valR (M.rows.getD 0 (.arr 0 [])))).getD 0 .dead)) 100000 (intOf (fr.tmps.getD 13 .dead)))) else none
/-- Loop 4 of ref25.Same. -/
def sp_ref25_Same_4 (F : Tab) (l0 l1 : List AV) (i0 : Int) : Tr (Int) :=
    .br (decide (i0 < ((l0.length : Nat) : Int)))
     (.br (cond (inB i0 l0.length) (cond (inB i0 l1.length) (cond (okT Pg F 103 [.agg 69 [.int .u32 (intOf ((partsOf (l0.getD i0.toNat .dead)).getD 0 .dead)), .int .i64 (intOf ((partsOf (l0.getD i0.toNat .dead)).getD 1 .dead)), .int .i64 (intOf ((partsOf (l0.getD i0.toNat .dead)).getD 2 .dead)), .int .i64 (intOf ((partsOf (l0.getD i0.toNat .dead)).getD 3 .dead)), .int .i64 (intOf ((partsOf (l0.getD i0.toNat .dead)).getD 4 .dead)), .slice 3 (listOf ((partsOf (l0.getD i0.toNat .dead)).getD 5 .dead)) false], .agg 69 [.int .u32 (intOf ((partsOf (l1.getD i0.toNat .dead)).getD 0 .dead)), .int .i64 (intOf ((partsOf (l1.getD i0.toNat .dead)).getD 1 .dead)), .int .i64 (intOf ((partsOf (l1.getD i0.toNat .dead)).getD 2 .dead)), .int .i64 (intOf ((partsOf (l1.getD i0.toNat .dead)).getD 3 .dead)), .int .i64 (intOf ((partsOf (l1.getD i0.toNat .dead)).getD 4 .dead)), .slice 3 (listOf ((partsOf (l1.getD i0.toNat .dead)).getD 5 .dead)) false]]) true false) false) false)
      (.br (!(boolOf (valT F 103 [.agg 69 [.int .u32 (intOf ((partsOf (l0.getD i0.toNat .dead)).getD 0 .dead)), .int .i64 (intOf ((partsOf (l0.getD i0.toNat .dead)).getD 1 .dead)), .int .i64 (intOf ((partsOf (l0.getD i0.toNat .dead)).getD 2 .dead)), .int .i64 (intOf ((partsOf (l0.getD i0.toNat .dead)).getD 3 .dead)), .int .i64 (intOf ((partsOf (l0.getD i0.toNat .dead)).getD 4 .dead)), .slice 3 (listOf ((partsOf (l0.getD i0.toNat .dead)).getD 5 .dead)) false], .agg 69 [.int .u32 (intOf ((partsOf (l1.getD i0.toNat .dead)).getD 0 .dead)), .int .i64 (intOf ((partsOf (l1.getD i0.toNat .dead)).getD 1 .dead)), .int .i64 (intOf ((partsOf (l1.getD i0.toNat .dead)).getD 2 .dead)), .int .i64 (intOf ((partsOf (l1.getD i0.toNat .dead)).getD 3 .dead)), .int .i64 (intOf ((partsOf (l1.getD i0.toNat .dead)).getD 4 .dead)), .slice 3 (listOf ((partsOf (l1.getD i0.toNat .dead)).getD 5 .dead)) false]])))
       (.out ⟨1, [], [], [], [], [], []⟩)
       (.next (IntKind.i64.wrap (i0 + 1))))
      (.bad))
     (.out ⟨2, [], [], [], [], [], []⟩)
def st_ref25_Same_4 (F : Tab) (l0 l1 : List AV) (s : Int) : Tr (Int) := sp_ref25_Same_4 F l0 l1 s
def sF_ref25_Same_4 (l0 l1 : List AV) (s : Int) : Fr := (mkFr 32 [(2, .ptr 0 [] 68 0), (3, .ptr 1 [] 68 0), (5, .int .i64 s)] [])
def sM_ref25_Same_4 (l0 l1 : List AV) (s : Int) : Mm := ⟨[.var 68 (.agg 67 [.slice 70 l0 false]), .var 68 (.agg 67 [.slice 70 l1 false])], []⟩
def lf_ref25_Same_4 (F : Tab) (l0 l1 : List AV) (fuel : Nat) (i0 : Int) : LO := Tr.run (st_ref25_Same_4 F l0 l1) fuel (i0)
def lt_ref25_Same_4 (l0 l1 : List AV) (lo : LO) : LT :=
  .br (lo.k == 1) (.done .ret (mkFr 32 [(4, .bool false)] []) ⟨[.var 68 (.agg 67 [.slice 70 l0 false]), .var 68 (.agg 67 [.slice 70 l1 false])], []⟩) (.br (lo.k == 2) (.done (.exit 0) (mkFr 32 [] []) ⟨[.var 68 (.agg 67 [.slice 70 l0 false]), .var 68 (.agg 67 [.slice 70 l1 false])], []⟩) (.fail))
def pt_ref25_Same_4 : StP := ⟨32, [(2, .ptr 0 [] 68 (some 0)), (3, .ptr 1 [] 68 (some 0)), (5, .int .i64)], [], [.var 68 (.agg 67 [.slice 70 false]), .var 68 (.agg 67 [.slice 70 false])], []⟩
def lp_ref25_Same_4 (F : Tab) (dep : Nat) (fr : Fr) (M : Mm) : Option LT :=
  if pt_ref25_Same_4.ok fr M then some (lt_ref25_Same_4 (listOf ((partsOf (valR (M.rows.getD 0 (.arr 0 [])))).getD 0 .dead)) (listOf ((partsOf (valR (M.rows.getD 1 (.arr 0 [])))).getD 0 .dead)) (lf_ref25_Same_4 F (listOf ((partsOf (valR (M.rows.getD 0 (.arr 0 [])))).getD 0 .dead)) (listOf ((partsOf (valR (M.rows.getD 1 (.arr 0 [])))).getD 0 .dead)) 100000 (intOf (fr.tmps.getD 5 .dead)))) else none
/-- Loop 3 of ref25.Within. -/
def sp_ref25_Within_3 (F : Tab) (l0 l1 : List AV) (i0 i1 : Int) : Tr (Int × Int) :=
    .br (cond (decide (i1 < ((l1.length : Nat) : Int))) (decide (i0 < ((l0.length : Nat) : Int))) false)
     (.br (cond (inB i0 l0.length) (cond (inB i1 l1.length) (cond (okT Pg F 103 [.agg 69 [.int .u32 (intOf ((partsOf (l0.getD i0.toNat .dead)).getD 0 .dead)), .int .i64 (intOf ((partsOf (l0.getD i0.toNat .dead)).getD 1 .dead)), .int .i64 (intOf ((partsOf (l0.getD i0.toNat .dead)).getD 2 .dead)), .int .i64 (intOf ((partsOf (l0.getD i0.toNat .dead)).getD 3 .dead)), .int .i64 (intOf ((partsOf (l0.getD i0.toNat .dead)).getD 4 .dead)), .slice 3 (listOf ((partsOf (l0.getD i0.toNat .dead)).getD 5 .dead)) false], .agg 69 [.int .u32 (intOf ((partsOf (l1.getD i1.toNat .dead)).getD 0 .dead)), .int .i64 (intOf ((partsOf (l1.getD i1.toNat .dead)).getD 1 .dead)), .int .i64 (intOf ((partsOf (l1.getD i1.toNat .dead)).getD 2 .dead)), .int .i64 (intOf ((partsOf (l1.getD i1.toNat .dead)).getD 3 .dead)), .int .i64 (intOf ((partsOf (l1.getD i1.toNat .dead)).getD 4 .dead)), .slice 3 (listOf ((partsOf (l1.getD i1.toNat .dead)).getD 5 .dead)) false]]) true false) false) false)
      (.next (cond (boolOf (valT F 103 [.agg 69 [.int .u32 (intOf ((partsOf (l0.getD i0.toNat .dead)).getD 0 .dead)), .int .i64 (intOf ((partsOf (l0.getD i0.toNat .dead)).getD 1 .dead)), .int .i64 (intOf ((partsOf (l0.getD i0.toNat .dead)).getD 2 .dead)), .int .i64 (intOf ((partsOf (l0.getD i0.toNat .dead)).getD 3 .dead)), .int .i64 (intOf ((partsOf (l0.getD i0.toNat .dead)).getD 4 .dead)), .slice 3 (listOf ((partsOf (l0.getD i0.toNat .dead)).getD 5 .dead)) false], .agg 69 [.int .u32 (intOf ((partsOf (l1.getD i1.toNat .dead)).getD 0 .dead)), .int .i64 (intOf ((partsOf (l1.getD i1.toNat .dead)).getD 1 .dead)), .int .i64 (intOf ((partsOf (l1.getD i1.toNat .dead)).getD 2 .dead)), .int .i64 (intOf ((partsOf (l1.getD i1.toNat .dead)).getD 3 .dead)), .int .i64 (intOf ((partsOf (l1.getD i1.toNat .dead)).getD 4 .dead)), .slice 3 (listOf ((partsOf (l1.getD i1.toNat .dead)).getD 5 .dead)) false]])) (IntKind.i64.wrap (i0 + 1)) i0, IntKind.i64.wrap (i1 + 1)))
      (.bad))
     (.out ⟨1, [i0], [], [], [], [], []⟩)
def st_ref25_Within_3 (F : Tab) (l0 l1 : List AV) (s : Int × Int) : Tr (Int × Int) := sp_ref25_Within_3 F l0 l1 s.1 s.2
def sF_ref25_Within_3 (l0 l1 : List AV) (s : Int × Int) : Fr := (mkFr 39 [(2, .ptr 0 [] 68 0), (3, .ptr 1 [] 68 0), (5, .int .i64 s.1), (6, .int .i64 s.2)] [])
def sM_ref25_Within_3 (l0 l1 : List AV) (s : Int × Int) : Mm := ⟨[.var 68 (.agg 67 [.slice 70 l0 false]), .var 68 (.agg 67 [.slice 70 l1 false])], []⟩
def lf_ref25_Within_3 (F : Tab) (l0 l1 : List AV) (fuel : Nat) (i0 i1 : Int) : LO := Tr.run (st_ref25_Within_3 F l0 l1) fuel (i0, i1)
def lt_ref25_Within_3 (l0 l1 : List AV) (lo : LO) : LT :=
  .br (lo.k == 1) (.done (.exit 0) (mkFr 39 [(2, .ptr 0 [] 68 0), (5, .int .i64 (lo.i.getD 0 0))] []) ⟨[.var 68 (.agg 67 [.slice 70 l0 false]), .var 68 (.agg 67 [.slice 70 l1 false])], []⟩) (.fail)
def pt_ref25_Within_3 : StP := ⟨39, [(2, .ptr 0 [] 68 (some 0)), (3, .ptr 1 [] 68 (some 0)), (5, .int .i64), (6, .int .i64)], [], [.var 68 (.agg 67 [.slice 70 false]), .var 68 (.agg 67 [.slice 70 false])], []⟩
def lp_ref25_Within_3 (F : Tab) (dep : Nat) (fr : Fr) (M : Mm) : Option LT :=
  if pt_ref25_Within_3.ok fr M then some (lt_ref25_Within_3 (listOf ((partsOf (valR (M.rows.getD 0 (.arr 0 [])))).getD 0 .dead)) (listOf ((partsOf (valR (M.rows.getD 1 (.arr 0 [])))).getD 0 .dead)) (lf_ref25_Within_3 F (listOf ((partsOf (valR (M.rows.getD 0 (.arr 0 [])))).getD 0 .dead)) (listOf ((partsOf (valR (M.rows.getD 1 (.arr 0 [])))).getD 0 .dead)) 100000 (intOf (fr.tmps.getD 5 .dead)) (intOf (fr.tmps.getD 6 .dead)))) else none
/-- Loop 6 of ref06.Store. -/
def sp_ref06_Store_6 (F : Tab) (l0 : List AV) (i1 i2 i3 : Int) (l1 : List AV) (n0 n1 : Nat) (i0 : Int) (l2 : List AV) : Tr (Int × List AV) :=
    .br (decide (i0 < i2))
     (.br (cond (decide ((0 : Int) ≤ (IntKind.i64.wrap (8 * i0)))) (cond (inB (IntKind.i64.wrap ((IntKind.i64.wrap (i1 + i0)).tdiv 128)) n1) (cond (inB ((IntKind.i64.wrap (i1 + i0)).tmod 128) 128) true false) false) false)
      (.next (IntKind.i64.wrap (i0 + 1), l2.set (0 + ((IntKind.i64.wrap ((IntKind.i64.wrap (i1 + i0)).tdiv 128)).toNat)) (.agg (aggT (l2.getD (0 + ((IntKind.i64.wrap ((IntKind.i64.wrap (i1 + i0)).tdiv 128)).toNat)) .dead)) ((partsOf (l2.getD (0 + ((IntKind.i64.wrap ((IntKind.i64.wrap (i1 + i0)).tdiv 128)).toNat)) .dead)).set (((IntKind.i64.wrap (i1 + i0)).tmod 128).toNat) (.int .u8 (IntKind.u8.wrap (i3.fdiv (2 ^ min (IntKind.i64.wrap (8 * i0)).toNat 32))))))))
      (.bad))
     (.out ⟨1, [], [], [l2], [], [], []⟩)
def st_ref06_Store_6 (F : Tab) (l0 : List AV) (i1 i2 i3 : Int) (l1 : List AV) (n0 n1 : Nat) (s : Int × List AV) : Tr (Int × List AV) := sp_ref06_Store_6 F l0 i1 i2 i3 l1 n0 n1 s.1 s.2
def sF_ref06_Store_6 (l0 : List AV) (i1 i2 i3 : Int) (l1 : List AV) (n0 n1 : Nat) (s : Int × List AV) : Fr := (mkFr 48 [(3, .ptr 1 [] 42 0), (4, .ptr 2 [] 129 0), (6, .ptr 6 [] 24 0), (7, .int .i64 s.1)] [])
def sM_ref06_Store_6 (l0 : List AV) (i1 i2 i3 : Int) (l1 : List AV) (n0 n1 : Nat) (s : Int × List AV) : Mm := ⟨[.var 24 (.agg 23 [.slice 118 l0 false]), .var 42 (.agg 41 [.int .i64 i1, .int .i64 i2, .int .u32 i3]), .var 129 (.agg 128 [.agg 23 [.slice 118 [] false], .bool false]), .var 24 (.agg 23 [.slice 118 l1 false]), .var 24 (.agg 23 [.msl 5 [] 118 0 0 n0]), .arr 118 s.2, .var 24 (.agg 23 [.msl 5 [] 118 0 0 n1])], [(2, [0, 0])]⟩
def lf_ref06_Store_6 (F : Tab) (l0 : List AV) (i1 i2 i3 : Int) (l1 : List AV) (n0 n1 : Nat) (fuel : Nat) (i0 : Int) (l2 : List AV) : LO := Tr.run (st_ref06_Store_6 F l0 i1 i2 i3 l1 n0 n1) fuel (i0, l2)
def lt_ref06_Store_6 (l0 : List AV) (i1 i2 i3 : Int) (l1 : List AV) (n0 n1 : Nat) (lo : LO) : LT :=
  .br (lo.k == 1) (.done (.exit 0) (mkFr 48 [(4, .ptr 2 [] 129 0), (6, .ptr 6 [] 24 0)] []) ⟨[.var 24 (.agg 23 [.slice 118 l0 false]), .var 42 (.agg 41 [.int .i64 i1, .int .i64 i2, .int .u32 i3]), .var 129 (.agg 128 [.agg 23 [.slice 118 [] false], .bool false]), .var 24 (.agg 23 [.slice 118 l1 false]), .var 24 (.agg 23 [.msl 5 [] 118 0 0 n0]), .arr 118 (lo.l.getD 0 []), .var 24 (.agg 23 [.msl 5 [] 118 0 0 n1])], [(2, [0, 0])]⟩) (.fail)
def pt_ref06_Store_6 : StP := ⟨48, [(3, .ptr 1 [] 42 (some 0)), (4, .ptr 2 [] 129 (some 0)), (6, .ptr 6 [] 24 (some 0)), (7, .int .i64)], [], [.var 24 (.agg 23 [.slice 118 false]), .var 42 (.agg 41 [.int .i64, .int .i64, .int .u32]), .var 129 (.agg 128 [.agg 23 [.sliceL 118 [] false], .boolC false]), .var 24 (.agg 23 [.slice 118 false]), .var 24 (.agg 23 [.msl 5 [] 118 (some 0) (some 0) none]), .arr 118, .var 24 (.agg 23 [.msl 5 [] 118 (some 0) (some 0) none])], [(2, [0, 0])]⟩
def lp_ref06_Store_6 (F : Tab) (dep : Nat) (fr : Fr) (M : Mm) : Option LT :=
  if pt_ref06_Store_6.ok fr M then some (lt_ref06_Store_6 (listOf ((partsOf (valR (M.rows.getD 0 (.arr 0 [])))).getD 0 .dead)) (intOf ((partsOf (valR (M.rows.getD 1 (.arr 0 [])))).getD 0 .dead)) (intOf ((partsOf (valR (M.rows.getD 1 (.arr 0 [])))).getD 1 .dead)) (intOf ((partsOf (valR (M.rows.getD 1 (.arr 0 [])))).getD 2 .dead)) (listOf ((partsOf (valR (M.rows.getD 3 (.arr 0 [])))).getD 0 .dead)) (mlenOf ((partsOf (valR (M.rows.getD 4 (.arr 0 [])))).getD 0 .dead)) (mlenOf ((partsOf (valR (M.rows.getD 6 (.arr 0 [])))).getD 0 .dead)) (lf_ref06_Store_6 F (listOf ((partsOf (valR (M.rows.getD 0 (.arr 0 [])))).getD 0 .dead)) (intOf ((partsOf (valR (M.rows.getD 1 (.arr 0 [])))).getD 0 .dead)) (intOf ((partsOf (valR (M.rows.getD 1 (.arr 0 [])))).getD 1 .dead)) (intOf ((partsOf (valR (M.rows.getD 1 (.arr 0 [])))).getD 2 .dead)) (listOf ((partsOf (valR (M.rows.getD 3 (.arr 0 [])))).getD 0 .dead)) (mlenOf ((partsOf (valR (M.rows.getD 4 (.arr 0 [])))).getD 0 .dead)) (mlenOf ((partsOf (valR (M.rows.getD 6 (.arr 0 [])))).getD 0 .dead)) 100000 (intOf (fr.tmps.getD 7 .dead)) (listR (M.rows.getD 5 (.arr 0 []))))) else none
/-- Loop 4 of ref06.SameInts. -/
def sp_ref06_SameInts_4 (F : Tab) (l0 l1 : List AV) (i0 : Int) : Tr (Int) :=
    .br (decide (i0 < ((l0.length : Nat) : Int)))
     (.br (cond (inB i0 l0.length) (cond (inB i0 l1.length) true false) false)
      (.br ((intOf (l0.getD i0.toNat .dead)) != (intOf (l1.getD i0.toNat .dead)))
       (.out ⟨1, [], [], [], [], [], []⟩)
       (.next (IntKind.i64.wrap (i0 + 1))))
      (.bad))
     (.out ⟨2, [], [], [], [], [], []⟩)
def st_ref06_SameInts_4 (F : Tab) (l0 l1 : List AV) (s : Int) : Tr (Int) := sp_ref06_SameInts_4 F l0 l1 s
def sF_ref06_SameInts_4 (l0 l1 : List AV) (s : Int) : Fr := (mkFr 26 [(0, .slice 3 l0 false), (1, .slice 3 l1 false), (5, .int .i64 s)] [])
def sM_ref06_SameInts_4 (l0 l1 : List AV) (s : Int) : Mm := ⟨[], []⟩
def lf_ref06_SameInts_4 (F : Tab) (l0 l1 : List AV) (fuel : Nat) (i0 : Int) : LO := Tr.run (st_ref06_SameInts_4 F l0 l1) fuel (i0)
def lt_ref06_SameInts_4 (l0 l1 : List AV) (lo : LO) : LT :=
  .br (lo.k == 1) (.done .ret (mkFr 26 [(4, .bool false)] []) ⟨[], []⟩) (.br (lo.k == 2) (.done (.exit 0) (mkFr 26 [] []) ⟨[], []⟩) (.fail))
def pt_ref06_SameInts_4 : StP := ⟨26, [(0, .slice 3 false), (1, .slice 3 false), (5, .int .i64)], [], [], []⟩
def lp_ref06_SameInts_4 (F : Tab) (dep : Nat) (fr : Fr) (M : Mm) : Option LT :=
  if pt_ref06_SameInts_4.ok fr M then some (lt_ref06_SameInts_4 (listOf (fr.tmps.getD 0 .dead)) (listOf (fr.tmps.getD 1 .dead)) (lf_ref06_SameInts_4 F (listOf (fr.tmps.getD 0 .dead)) (listOf (fr.tmps.getD 1 .dead)) 100000 (intOf (fr.tmps.getD 5 .dead)))) else none
/-- Loop 5 of ref06.Write. -/
def sp_ref06_Write_5 (F : Tab) (i0 : Int) (s0 : List UInt8) (l0 l1 : List AV) (n0 n1 : Nat) (i1 : Int) (l2 : List AV) : Tr (Int × List AV) :=
    .br (decide (i1 < ((s0.length : Nat) : Int)))
     (.br (cond (inB i1 s0.length) (cond (inB (IntKind.i64.wrap ((IntKind.i64.wrap (i0 + i1)).tdiv 128)) n1) (cond (inB ((IntKind.i64.wrap (i0 + i1)).tmod 128) 128) true false) false) false)
      (.next (IntKind.i64.wrap (i1 + 1), l2.set (0 + ((IntKind.i64.wrap ((IntKind.i64.wrap (i0 + i1)).tdiv 128)).toNat)) (.agg (aggT (l2.getD (0 + ((IntKind.i64.wrap ((IntKind.i64.wrap (i0 + i1)).tdiv 128)).toNat)) .dead)) ((partsOf (l2.getD (0 + ((IntKind.i64.wrap ((IntKind.i64.wrap (i0 + i1)).tdiv 128)).toNat)) .dead)).set (((IntKind.i64.wrap (i0 + i1)).tmod 128).toNat) (.int .u8 ((s0.getD i1.toNat 0).toNat : Int))))))
      (.bad))
     (.out ⟨1, [], [], [l2], [], [], []⟩)
def st_ref06_Write_5 (F : Tab) (i0 : Int) (s0 : List UInt8) (l0 l1 : List AV) (n0 n1 : Nat) (s : Int × List AV) : Tr (Int × List AV) := sp_ref06_Write_5 F i0 s0 l0 l1 n0 n1 s.1 s.2
def sF_ref06_Write_5 (i0 : Int) (s0 : List UInt8) (l0 l1 : List AV) (n0 n1 : Nat) (s : Int × List AV) : Fr := (mkFr 53 [(1, .int .i64 i0), (2, .str s0), (6, .ptr 1 [] 129 0), (7, .ptr 5 [] 24 0), (8, .int .i64 s.1)] [])
def sM_ref06_Write_5 (i0 : Int) (s0 : List UInt8) (l0 l1 : List AV) (n0 n1 : Nat) (s : Int × List AV) : Mm := ⟨[.var 24 (.agg 23 [.slice 118 l0 false]), .var 129 (.agg 128 [.agg 23 [.slice 118 [] false], .bool false]), .var 24 (.agg 23 [.slice 118 l1 false]), .var 24 (.agg 23 [.msl 4 [] 118 0 0 n0]), .arr 118 s.2, .var 24 (.agg 23 [.msl 4 [] 118 0 0 n1])], [(1, [0, 0])]⟩
def lf_ref06_Write_5 (F : Tab) (i0 : Int) (s0 : List UInt8) (l0 l1 : List AV) (n0 n1 : Nat) (fuel : Nat) (i1 : Int) (l2 : List AV) : LO := Tr.run (st_ref06_Write_5 F i0 s0 l0 l1 n0 n1) fuel (i1, l2)
def lt_ref06_Write_5 (i0 : Int) (s0 : List UInt8) (l0 l1 : List AV) (n0 n1 : Nat) (lo : LO) : LT :=
  .br (lo.k == 1) (.done (.exit 0) (mkFr 53 [(6, .ptr 1 [] 129 0), (7, .ptr 5 [] 24 0)] []) ⟨[.var 24 (.agg 23 [.slice 118 l0 false]), .var 129 (.agg 128 [.agg 23 [.slice 118 [] false], .bool false]), .var 24 (.agg 23 [.slice 118 l1 false]), .var 24 (.agg 23 [.msl 4 [] 118 0 0 n0]), .arr 118 (lo.l.getD 0 []), .var 24 (.agg 23 [.msl 4 [] 118 0 0 n1])], [(1, [0, 0])]⟩) (.fail)
def pt_ref06_Write_5 : StP := ⟨53, [(1, .int .i64), (2, .str), (6, .ptr 1 [] 129 (some 0)), (7, .ptr 5 [] 24 (some 0)), (8, .int .i64)], [], [.var 24 (.agg 23 [.slice 118 false]), .var 129 (.agg 128 [.agg 23 [.sliceL 118 [] false], .boolC false]), .var 24 (.agg 23 [.slice 118 false]), .var 24 (.agg 23 [.msl 4 [] 118 (some 0) (some 0) none]), .arr 118, .var 24 (.agg 23 [.msl 4 [] 118 (some 0) (some 0) none])], [(1, [0, 0])]⟩
def lp_ref06_Write_5 (F : Tab) (dep : Nat) (fr : Fr) (M : Mm) : Option LT :=
  if pt_ref06_Write_5.ok fr M then some (lt_ref06_Write_5 (intOf (fr.tmps.getD 1 .dead)) (strOf (fr.tmps.getD 2 .dead)) (listOf ((partsOf (valR (M.rows.getD 0 (.arr 0 [])))).getD 0 .dead)) (listOf ((partsOf (valR (M.rows.getD 2 (.arr 0 [])))).getD 0 .dead)) (mlenOf ((partsOf (valR (M.rows.getD 3 (.arr 0 [])))).getD 0 .dead)) (mlenOf ((partsOf (valR (M.rows.getD 5 (.arr 0 [])))).getD 0 .dead)) (lf_ref06_Write_5 F (intOf (fr.tmps.getD 1 .dead)) (strOf (fr.tmps.getD 2 .dead)) (listOf ((partsOf (valR (M.rows.getD 0 (.arr 0 [])))).getD 0 .dead)) (listOf ((partsOf (valR (M.rows.getD 2 (.arr 0 [])))).getD 0 .dead)) (mlenOf ((partsOf (valR (M.rows.getD 3 (.arr 0 [])))).getD 0 .dead)) (mlenOf ((partsOf (valR (M.rows.getD 5 (.arr 0 [])))).getD 0 .dead)) 100000 (intOf (fr.tmps.getD 8 .dead)) (listR (M.rows.getD 4 (.arr 0 []))))) else none
/-- Loop 3 of ref06.Diff. -/
def sp_ref06_Diff_3 (F : Tab) (l1 l2 : List AV) (l0 : List AV) (i0 : Int) : Tr (List AV × Int) :=
    .br (decide (i0 < (if ((l2.length : Nat) : Int) > ((l1.length : Nat) : Int) then ((l2.length : Nat) : Int) else ((l1.length : Nat) : Int))))
     (.br (condB (decide (((l1.length : Nat) : Int) ≤ i0)) true (condB (decide (((l2.length : Nat) : Int) ≤ i0)) true (cond (inB i0 l1.length) (cond (inB i0 l2.length) true false) false)))
      (.br (cond (decide (((l1.length : Nat) : Int) ≤ i0)) true (cond (decide (((l2.length : Nat) : Int) ≤ i0)) true (!(eqVs (partsOf (l1.getD i0.toNat .dead)) (partsOf (l2.getD i0.toNat .dead))))))
       (.br (decide (((l0.length + 1) * 8) ≤ 140737488355328))
        (.next (l0 ++ [.int .i64 i0], IntKind.i64.wrap (i0 + 1)))
        (.bad))
       (.next (l0, IntKind.i64.wrap (i0 + 1))))
      (.bad))
     (.out ⟨1, [], [], [l0], [], [], []⟩)
def st_ref06_Diff_3 (F : Tab) (l1 l2 : List AV) (s : List AV × Int) : Tr (List AV × Int) := sp_ref06_Diff_3 F l1 l2 s.1 s.2
def sF_ref06_Diff_3 (l1 l2 : List AV) (s : List AV × Int) : Fr := (mkFr 48 [(2, .ptr 0 [] 24 0), (3, .ptr 1 [] 24 0), (5, .slice 3 s.1 false), (6, .int .i64 s.2)] [(5, .own)])
def sM_ref06_Diff_3 (l1 l2 : List AV) (s : List AV × Int) : Mm := ⟨[.var 24 (.agg 23 [.slice 118 l1 false]), .var 24 (.agg 23 [.slice 118 l2 false])], []⟩
def lf_ref06_Diff_3 (F : Tab) (l1 l2 : List AV) (fuel : Nat) (l0 : List AV) (i0 : Int) : LO := Tr.run (st_ref06_Diff_3 F l1 l2) fuel (l0, i0)
def lt_ref06_Diff_3 (l1 l2 : List AV) (lo : LO) : LT :=
  .br (lo.k == 1) (.done (.exit 0) (mkFr 48 [(5, .slice 3 (lo.l.getD 0 []) false)] [(5, .own)]) ⟨[.var 24 (.agg 23 [.slice 118 l1 false]), .var 24 (.agg 23 [.slice 118 l2 false])], []⟩) (.fail)
def pt_ref06_Diff_3 : StP := ⟨48, [(2, .ptr 0 [] 24 (some 0)), (3, .ptr 1 [] 24 (some 0)), (5, .slice 3 false), (6, .int .i64)], [(5, .own)], [.var 24 (.agg 23 [.slice 118 false]), .var 24 (.agg 23 [.slice 118 false])], []⟩
def lp_ref06_Diff_3 (F : Tab) (dep : Nat) (fr : Fr) (M : Mm) : Option LT :=
  if pt_ref06_Diff_3.ok fr M then some (lt_ref06_Diff_3 (listOf ((partsOf (valR (M.rows.getD 0 (.arr 0 [])))).getD 0 .dead)) (listOf ((partsOf (valR (M.rows.getD 1 (.arr 0 [])))).getD 0 .dead)) (lf_ref06_Diff_3 F (listOf ((partsOf (valR (M.rows.getD 0 (.arr 0 [])))).getD 0 .dead)) (listOf ((partsOf (valR (M.rows.getD 1 (.arr 0 [])))).getD 0 .dead)) 100000 (listOf (fr.tmps.getD 5 .dead)) (intOf (fr.tmps.getD 6 .dead)))) else none
/-- Loop 2 of ref25.find. -/
def sp_ref25_find_2 (F : Tab) (i0 i1 : Int) (l0 : List AV) (i2 : Int) : Tr (Int) :=
    .br (decide (i2 < ((l0.length : Nat) : Int)))
     (.br (cond (inB i2 l0.length) (condB ((intOf ((partsOf (l0.getD i2.toNat .dead)).getD 0 .dead)) == i0) (cond (inB i2 l0.length) true false) true) false)
      (.br (cond ((intOf ((partsOf (l0.getD i2.toNat .dead)).getD 0 .dead)) == i0) ((intOf ((partsOf (l0.getD i2.toNat .dead)).getD 1 .dead)) == i1) false)
       (.out ⟨1, [i2], [], [], [], [], []⟩)
       (.next (IntKind.i64.wrap (i2 + 1))))
      (.bad))
     (.out ⟨2, [], [], [], [], [], []⟩)
def st_ref25_find_2 (F : Tab) (i0 i1 : Int) (l0 : List AV) (s : Int) : Tr (Int) := sp_ref25_find_2 F i0 i1 l0 s
def sF_ref25_find_2 (i0 i1 : Int) (l0 : List AV) (s : Int) : Fr := (mkFr 34 [(1, .int .u32 i0), (2, .int .i64 i1), (3, .ptr 0 [] 68 0), (7, .int .i64 s)] [])
def sM_ref25_find_2 (i0 i1 : Int) (l0 : List AV) (s : Int) : Mm := ⟨[.var 68 (.agg 67 [.slice 70 l0 false])], []⟩
def lf_ref25_find_2 (F : Tab) (i0 i1 : Int) (l0 : List AV) (fuel : Nat) (i2 : Int) : LO := Tr.run (st_ref25_find_2 F i0 i1 l0) fuel (i2)
def lt_ref25_find_2 (i0 i1 : Int) (l0 : List AV) (lo : LO) : LT :=
  .br (lo.k == 1) (.done .ret (mkFr 34 [(6, .int .i64 (lo.i.getD 0 0))] []) ⟨[.var 68 (.agg 67 [.slice 70 l0 false])], []⟩) (.br (lo.k == 2) (.done (.exit 0) (mkFr 34 [] []) ⟨[.var 68 (.agg 67 [.slice 70 l0 false])], []⟩) (.fail))
def pt_ref25_find_2 : StP := ⟨34, [(1, .int .u32), (2, .int .i64), (3, .ptr 0 [] 68 (some 0)), (7, .int .i64)], [], [.var 68 (.agg 67 [.slice 70 false])], []⟩
def lp_ref25_find_2 (F : Tab) (dep : Nat) (fr : Fr) (M : Mm) : Option LT :=
  if pt_ref25_find_2.ok fr M then some (lt_ref25_find_2 (intOf (fr.tmps.getD 1 .dead)) (intOf (fr.tmps.getD 2 .dead)) (listOf ((partsOf (valR (M.rows.getD 0 (.arr 0 [])))).getD 0 .dead)) (lf_ref25_find_2 F (intOf (fr.tmps.getD 1 .dead)) (intOf (fr.tmps.getD 2 .dead)) (listOf ((partsOf (valR (M.rows.getD 0 (.arr 0 [])))).getD 0 .dead)) 100000 (intOf (fr.tmps.getD 7 .dead)))) else none
/-- Loop 3 of ref25.bits. -/
def sp_ref25_bits_3 (F : Tab) (i0 : Int) (i1 : Int) : Tr (Int) :=
    .br (decide (i1 ≤ 128))
     (.br (cond (!(i1 == 0)) (condB (((IntKind.i64.wrap (i0.tdiv i1)).tmod 2) == 1) (cond (!(i1 == 0)) true false) true) false)
      (.br (cond (((IntKind.i64.wrap (i0.tdiv i1)).tmod 2) == 1) (((IntKind.i64.wrap ((46 : Int).tdiv i1)).tmod 2) == 0) false)
       (.out ⟨1, [], [], [], [], [], []⟩)
       (.next (IntKind.i64.wrap (2 * i1))))
      (.bad))
     (.out ⟨2, [], [], [], [], [], []⟩)
def st_ref25_bits_3 (F : Tab) (i0 : Int) (s : Int) : Tr (Int) := sp_ref25_bits_3 F i0 s
def sF_ref25_bits_3 (i0 : Int) (s : Int) : Fr := (mkFr 27 [(0, .int .i64 i0), (3, .int .i64 46), (4, .int .i64 s)] [])
def sM_ref25_bits_3 (i0 : Int) (s : Int) : Mm := ⟨[], []⟩
def lf_ref25_bits_3 (F : Tab) (i0 : Int) (fuel : Nat) (i1 : Int) : LO := Tr.run (st_ref25_bits_3 F i0) fuel (i1)
def lt_ref25_bits_3 (i0 : Int) (lo : LO) : LT :=
  .br (lo.k == 1) (.done .ret (mkFr 27 [(0, .int .i64 i0), (2, .bool false)] []) ⟨[], []⟩) (.br (lo.k == 2) (.done (.exit 0) (mkFr 27 [(0, .int .i64 i0)] []) ⟨[], []⟩) (.fail))
def pt_ref25_bits_3 : StP := ⟨27, [(0, .int .i64), (3, .intC .i64 46), (4, .int .i64)], [], [], []⟩
def lp_ref25_bits_3 (F : Tab) (dep : Nat) (fr : Fr) (M : Mm) : Option LT :=
  if pt_ref25_bits_3.ok fr M then some (lt_ref25_bits_3 (intOf (fr.tmps.getD 0 .dead)) (lf_ref25_bits_3 F (intOf (fr.tmps.getD 0 .dead)) 100000 (intOf (fr.tmps.getD 4 .dead)))) else none
/-- Loop 3 of tlb.keep[int]. -/
def sp_tlb_keep_int_3 (F : Tab) (l1 : List AV) (i0 i2 i3 i4 i5 i6 : Int) (l2 : List AV) (l0 : List AV) (i1 : Int) : Tr (List AV × Int) :=
    .br (decide (i1 < i0))
     (.br (inB i1 l1.length)
      (.br (cond (decide ((intOf (l1.getD i1.toNat .dead)) < 0)) true (cond (decide ((8192 : Int) ≤ (intOf (l1.getD i1.toNat .dead)))) true (((intOf (l1.getD i1.toNat .dead)).tmod 4) != 0)))
       (.br (decide (((l0.length + 1) * 8) ≤ 140737488355328))
        (.next (l0 ++ [.int .i64 (intOf (l1.getD i1.toNat .dead))], IntKind.i64.wrap (i1 + 1)))
        (.bad))
       (.next (l0, IntKind.i64.wrap (i1 + 1))))
      (.bad))
     (.out ⟨1, [], [], [l0], [], [], []⟩)
def st_tlb_keep_int_3 (F : Tab) (l1 : List AV) (i0 i2 i3 i4 i5 i6 : Int) (l2 : List AV) (s : List AV × Int) : Tr (List AV × Int) := sp_tlb_keep_int_3 F l1 i0 i2 i3 i4 i5 i6 l2 s.1 s.2
def sF_tlb_keep_int_3 (l1 : List AV) (i0 i2 i3 i4 i5 i6 : Int) (l2 : List AV) (s : List AV × Int) : Fr := (mkFr 23 [(1, .func (.func 125) [] []), (5, .slice 3 s.1 false), (8, .slice 3 l1 false), (9, .int .i64 i0), (10, .int .i64 s.2)] [(5, .own)])
def sM_tlb_keep_int_3 (l1 : List AV) (i0 i2 i3 i4 i5 i6 : Int) (l2 : List AV) (s : List AV × Int) : Mm := ⟨[.var 70 (.agg 69 [.int .u32 i2, .int .i64 i3, .int .i64 i4, .int .i64 i5, .int .i64 i6, .slice 3 l2 false])], []⟩
def lf_tlb_keep_int_3 (F : Tab) (l1 : List AV) (i0 i2 i3 i4 i5 i6 : Int) (l2 : List AV) (fuel : Nat) (l0 : List AV) (i1 : Int) : LO := Tr.run (st_tlb_keep_int_3 F l1 i0 i2 i3 i4 i5 i6 l2) fuel (l0, i1)
def lt_tlb_keep_int_3 (l1 : List AV) (i0 i2 i3 i4 i5 i6 : Int) (l2 : List AV) (lo : LO) : LT :=
  .br (lo.k == 1) (.done (.exit 0) (mkFr 23 [(5, .slice 3 (lo.l.getD 0 []) false)] [(5, .own)]) ⟨[.var 70 (.agg 69 [.int .u32 i2, .int .i64 i3, .int .i64 i4, .int .i64 i5, .int .i64 i6, .slice 3 l2 false])], []⟩) (.fail)
def pt_tlb_keep_int_3 : StP := ⟨23, [(1, .func 125 [] []), (5, .slice 3 false), (8, .slice 3 false), (9, .int .i64), (10, .int .i64)], [(5, .own)], [.var 70 (.agg 69 [.int .u32, .int .i64, .int .i64, .int .i64, .int .i64, .slice 3 false])], []⟩
def lp_tlb_keep_int_3 (F : Tab) (dep : Nat) (fr : Fr) (M : Mm) : Option LT :=
  if Nat.beq dep 4 && pt_tlb_keep_int_3.ok fr M then some (lt_tlb_keep_int_3 (listOf (fr.tmps.getD 8 .dead)) (intOf (fr.tmps.getD 9 .dead)) (intOf ((partsOf (valR (M.rows.getD 0 (.arr 0 [])))).getD 0 .dead)) (intOf ((partsOf (valR (M.rows.getD 0 (.arr 0 [])))).getD 1 .dead)) (intOf ((partsOf (valR (M.rows.getD 0 (.arr 0 [])))).getD 2 .dead)) (intOf ((partsOf (valR (M.rows.getD 0 (.arr 0 [])))).getD 3 .dead)) (intOf ((partsOf (valR (M.rows.getD 0 (.arr 0 [])))).getD 4 .dead)) (listOf ((partsOf (valR (M.rows.getD 0 (.arr 0 [])))).getD 5 .dead)) (lf_tlb_keep_int_3 F (listOf (fr.tmps.getD 8 .dead)) (intOf (fr.tmps.getD 9 .dead)) (intOf ((partsOf (valR (M.rows.getD 0 (.arr 0 [])))).getD 0 .dead)) (intOf ((partsOf (valR (M.rows.getD 0 (.arr 0 [])))).getD 1 .dead)) (intOf ((partsOf (valR (M.rows.getD 0 (.arr 0 [])))).getD 2 .dead)) (intOf ((partsOf (valR (M.rows.getD 0 (.arr 0 [])))).getD 3 .dead)) (intOf ((partsOf (valR (M.rows.getD 0 (.arr 0 [])))).getD 4 .dead)) (listOf ((partsOf (valR (M.rows.getD 0 (.arr 0 [])))).getD 5 .dead)) 100000 (listOf (fr.tmps.getD 5 .dead)) (intOf (fr.tmps.getD 10 .dead)))) else none
/-- Loop 3 of tlb.keep[int]. -/
def sp_tlb_keep_int_3a (F : Tab) (l1 : List AV) (i0 i2 i3 i4 i5 i6 : Int) (l2 : List AV) (i7 i8 : Int) (l0 : List AV) (i1 : Int) : Tr (List AV × Int) :=
    .br (decide (i1 < i0))
     (.br (inB i1 l1.length)
      (.br (cond (decide (i7 < (IntKind.i64.wrap ((intOf (l1.getD i1.toNat .dead)) + 4)))) (decide ((intOf (l1.getD i1.toNat .dead)) < (IntKind.i64.wrap (i7 + i8)))) false)
       (.br (decide (((l0.length + 1) * 8) ≤ 140737488355328))
        (.next (l0 ++ [.int .i64 (intOf (l1.getD i1.toNat .dead))], IntKind.i64.wrap (i1 + 1)))
        (.bad))
       (.next (l0, IntKind.i64.wrap (i1 + 1))))
      (.bad))
     (.out ⟨1, [], [], [l0], [], [], []⟩)
def st_tlb_keep_int_3a (F : Tab) (l1 : List AV) (i0 i2 i3 i4 i5 i6 : Int) (l2 : List AV) (i7 i8 : Int) (s : List AV × Int) : Tr (List AV × Int) := sp_tlb_keep_int_3a F l1 i0 i2 i3 i4 i5 i6 l2 i7 i8 s.1 s.2
def sF_tlb_keep_int_3a (l1 : List AV) (i0 i2 i3 i4 i5 i6 : Int) (l2 : List AV) (i7 i8 : Int) (s : List AV × Int) : Fr := (mkFr 23 [(1, .func (.func 127) [] [.ptr 1 [] 3 0, .ptr 2 [] 3 0]), (5, .slice 3 s.1 false), (8, .slice 3 l1 false), (9, .int .i64 i0), (10, .int .i64 s.2)] [(5, .own)])
def sM_tlb_keep_int_3a (l1 : List AV) (i0 i2 i3 i4 i5 i6 : Int) (l2 : List AV) (i7 i8 : Int) (s : List AV × Int) : Mm := ⟨[.var 70 (.agg 69 [.int .u32 i2, .int .i64 i3, .int .i64 i4, .int .i64 i5, .int .i64 i6, .slice 3 l2 false]), .var 3 (.int .i64 i7), .var 3 (.int .i64 i8)], []⟩
def lf_tlb_keep_int_3a (F : Tab) (l1 : List AV) (i0 i2 i3 i4 i5 i6 : Int) (l2 : List AV) (i7 i8 : Int) (fuel : Nat) (l0 : List AV) (i1 : Int) : LO := Tr.run (st_tlb_keep_int_3a F l1 i0 i2 i3 i4 i5 i6 l2 i7 i8) fuel (l0, i1)
def lt_tlb_keep_int_3a (l1 : List AV) (i0 i2 i3 i4 i5 i6 : Int) (l2 : List AV) (i7 i8 : Int) (lo : LO) : LT :=
  .br (lo.k == 1) (.done (.exit 0) (mkFr 23 [(5, .slice 3 (lo.l.getD 0 []) false)] [(5, .own)]) ⟨[.var 70 (.agg 69 [.int .u32 i2, .int .i64 i3, .int .i64 i4, .int .i64 i5, .int .i64 i6, .slice 3 l2 false]), .var 3 (.int .i64 i7), .var 3 (.int .i64 i8)], []⟩) (.fail)
def pt_tlb_keep_int_3a : StP := ⟨23, [(1, .func 127 [] [.ptr 1 [] 3 (some 0), .ptr 2 [] 3 (some 0)]), (5, .slice 3 false), (8, .slice 3 false), (9, .int .i64), (10, .int .i64)], [(5, .own)], [.var 70 (.agg 69 [.int .u32, .int .i64, .int .i64, .int .i64, .int .i64, .slice 3 false]), .var 3 (.int .i64), .var 3 (.int .i64)], []⟩
def lp_tlb_keep_int_3a (F : Tab) (dep : Nat) (fr : Fr) (M : Mm) : Option LT :=
  if Nat.beq dep 4 && pt_tlb_keep_int_3a.ok fr M then some (lt_tlb_keep_int_3a (listOf (fr.tmps.getD 8 .dead)) (intOf (fr.tmps.getD 9 .dead)) (intOf ((partsOf (valR (M.rows.getD 0 (.arr 0 [])))).getD 0 .dead)) (intOf ((partsOf (valR (M.rows.getD 0 (.arr 0 [])))).getD 1 .dead)) (intOf ((partsOf (valR (M.rows.getD 0 (.arr 0 [])))).getD 2 .dead)) (intOf ((partsOf (valR (M.rows.getD 0 (.arr 0 [])))).getD 3 .dead)) (intOf ((partsOf (valR (M.rows.getD 0 (.arr 0 [])))).getD 4 .dead)) (listOf ((partsOf (valR (M.rows.getD 0 (.arr 0 [])))).getD 5 .dead)) (intOf (valR (M.rows.getD 1 (.arr 0 [])))) (intOf (valR (M.rows.getD 2 (.arr 0 [])))) (lf_tlb_keep_int_3a F (listOf (fr.tmps.getD 8 .dead)) (intOf (fr.tmps.getD 9 .dead)) (intOf ((partsOf (valR (M.rows.getD 0 (.arr 0 [])))).getD 0 .dead)) (intOf ((partsOf (valR (M.rows.getD 0 (.arr 0 [])))).getD 1 .dead)) (intOf ((partsOf (valR (M.rows.getD 0 (.arr 0 [])))).getD 2 .dead)) (intOf ((partsOf (valR (M.rows.getD 0 (.arr 0 [])))).getD 3 .dead)) (intOf ((partsOf (valR (M.rows.getD 0 (.arr 0 [])))).getD 4 .dead)) (listOf ((partsOf (valR (M.rows.getD 0 (.arr 0 [])))).getD 5 .dead)) (intOf (valR (M.rows.getD 1 (.arr 0 [])))) (intOf (valR (M.rows.getD 2 (.arr 0 [])))) 100000 (listOf (fr.tmps.getD 5 .dead)) (intOf (fr.tmps.getD 10 .dead)))) else none
/-- Loop 3 of ref25.Fill. -/
def sp_ref25_Fill_3 (F : Tab) (l0 : List AV) (i1 i2 i3 i4 i5 : Int) (l1 : List AV) (i0 : Int) (l2 : List AV) : Tr (Int × List AV) :=
    .br (decide (i0 < ((l0.length : Nat) : Int)))
     (.br (cond (inB i0 l0.length) (condB ((intOf ((partsOf (l0.getD i0.toNat .dead)).getD 0 .dead)) != i1) true (cond (inB i0 l0.length) true false)) false)
      (.br (cond ((intOf ((partsOf (l0.getD i0.toNat .dead)).getD 0 .dead)) != i1) true ((intOf ((partsOf (l0.getD i0.toNat .dead)).getD 1 .dead)) != i2))
       (.br (inB i0 l0.length)
        (.br (decide (((l2.length + 1) * 64) ≤ 140737488355328))
         (.next (IntKind.i64.wrap (i0 + 1), l2 ++ [.agg 69 [.int .u32 (intOf ((partsOf (l0.getD i0.toNat .dead)).getD 0 .dead)), .int .i64 (intOf ((partsOf (l0.getD i0.toNat .dead)).getD 1 .dead)), .int .i64 (intOf ((partsOf (l0.getD i0.toNat .dead)).getD 2 .dead)), .int .i64 (intOf ((partsOf (l0.getD i0.toNat .dead)).getD 3 .dead)), .int .i64 (intOf ((partsOf (l0.getD i0.toNat .dead)).getD 4 .dead)), .slice 3 (listOf ((partsOf (l0.getD i0.toNat .dead)).getD 5 .dead)) false]]))
         (.bad))
        (.bad))
       (.next (IntKind.i64.wrap (i0 + 1), l2)))
      (.bad))
     (.out ⟨1, [], [], [l2], [], [], []⟩)
def st_ref25_Fill_3 (F : Tab) (l0 : List AV) (i1 i2 i3 i4 i5 : Int) (l1 : List AV) (s : Int × List AV) : Tr (Int × List AV) := sp_ref25_Fill_3 F l0 i1 i2 i3 i4 i5 l1 s.1 s.2
def sF_ref25_Fill_3 (l0 : List AV) (i1 i2 i3 i4 i5 : Int) (l1 : List AV) (s : Int × List AV) : Fr := (mkFr 59 [(2, .ptr 0 [] 68 0), (3, .ptr 1 [] 70 0), (4, .ptr 2 [] 68 0), (5, .ptr 3 [] 68 0), (6, .int .i64 s.1)] [])
def sM_ref25_Fill_3 (l0 : List AV) (i1 i2 i3 i4 i5 : Int) (l1 : List AV) (s : Int × List AV) : Mm := ⟨[.var 68 (.agg 67 [.slice 70 l0 false]), .var 70 (.agg 69 [.int .u32 i1, .int .i64 i2, .int .i64 i3, .int .i64 i4, .int .i64 i5, .slice 3 l1 false]), .var 68 (.agg 67 [.slice 70 [] false]), .var 68 (.agg 67 [.slice 70 s.2 false])], [(2, [0]), (3, [0])]⟩
def lf_ref25_Fill_3 (F : Tab) (l0 : List AV) (i1 i2 i3 i4 i5 : Int) (l1 : List AV) (fuel : Nat) (i0 : Int) (l2 : List AV) : LO := Tr.run (st_ref25_Fill_3 F l0 i1 i2 i3 i4 i5 l1) fuel (i0, l2)
def lt_ref25_Fill_3 (l0 : List AV) (i1 i2 i3 i4 i5 : Int) (l1 : List AV) (lo : LO) : LT :=
  .br (lo.k == 1) (.done (.exit 0) (mkFr 59 [(3, .ptr 1 [] 70 0), (4, .ptr 2 [] 68 0), (5, .ptr 3 [] 68 0)] []) ⟨[.var 68 (.agg 67 [.slice 70 l0 false]), .var 70 (.agg 69 [.int .u32 i1, .int .i64 i2, .int .i64 i3, .int .i64 i4, .int .i64 i5, .slice 3 l1 false]), .var 68 (.agg 67 [.slice 70 [] false]), .var 68 (.agg 67 [.slice 70 (lo.l.getD 0 []) false])], [(2, [0]), (3, [0])]⟩) (.fail)
def pt_ref25_Fill_3 : StP := ⟨59, [(2, .ptr 0 [] 68 (some 0)), (3, .ptr 1 [] 70 (some 0)), (4, .ptr 2 [] 68 (some 0)), (5, .ptr 3 [] 68 (some 0)), (6, .int .i64)], [], [.var 68 (.agg 67 [.slice 70 false]), .var 70 (.agg 69 [.int .u32, .int .i64, .int .i64, .int .i64, .int .i64, .slice 3 false]), .var 68 (.agg 67 [.sliceL 70 [] false]), .var 68 (.agg 67 [.slice 70 false])], [(2, [0]), (3, [0])]⟩
def lp_ref25_Fill_3 (F : Tab) (dep : Nat) (fr : Fr) (M : Mm) : Option LT :=
  if pt_ref25_Fill_3.ok fr M then some (lt_ref25_Fill_3 (listOf ((partsOf (valR (M.rows.getD 0 (.arr 0 [])))).getD 0 .dead)) (intOf ((partsOf (valR (M.rows.getD 1 (.arr 0 [])))).getD 0 .dead)) (intOf ((partsOf (valR (M.rows.getD 1 (.arr 0 [])))).getD 1 .dead)) (intOf ((partsOf (valR (M.rows.getD 1 (.arr 0 [])))).getD 2 .dead)) (intOf ((partsOf (valR (M.rows.getD 1 (.arr 0 [])))).getD 3 .dead)) (intOf ((partsOf (valR (M.rows.getD 1 (.arr 0 [])))).getD 4 .dead)) (listOf ((partsOf (valR (M.rows.getD 1 (.arr 0 [])))).getD 5 .dead)) (lf_ref25_Fill_3 F (listOf ((partsOf (valR (M.rows.getD 0 (.arr 0 [])))).getD 0 .dead)) (intOf ((partsOf (valR (M.rows.getD 1 (.arr 0 [])))).getD 0 .dead)) (intOf ((partsOf (valR (M.rows.getD 1 (.arr 0 [])))).getD 1 .dead)) (intOf ((partsOf (valR (M.rows.getD 1 (.arr 0 [])))).getD 2 .dead)) (intOf ((partsOf (valR (M.rows.getD 1 (.arr 0 [])))).getD 3 .dead)) (intOf ((partsOf (valR (M.rows.getD 1 (.arr 0 [])))).getD 4 .dead)) (listOf ((partsOf (valR (M.rows.getD 1 (.arr 0 [])))).getD 5 .dead)) 100000 (intOf (fr.tmps.getD 6 .dead)) (listOf ((partsOf (valR (M.rows.getD 3 (.arr 0 [])))).getD 0 .dead)))) else none
/-- Loop 3 of ref25.Flush. -/
def sp_ref25_Flush_3 (F : Tab) (i0 : Int) (l0 : List AV) (i1 : Int) (l1 : List AV) : Tr (Int × List AV) :=
    .br (decide (i1 < ((l0.length : Nat) : Int)))
     (.br (condB (decide (i0 < 131072)) (cond (inB i1 l0.length) true false) true)
      (.br (cond (decide (i0 < 131072)) ((intOf ((partsOf (l0.getD i1.toNat .dead)).getD 1 .dead)) != (IntKind.i64.wrap (IntKind.u32.wrap (i0.tdiv 128)))) false)
       (.br (inB i1 l0.length)
        (.br (decide (((l1.length + 1) * 64) ≤ 140737488355328))
         (.next (IntKind.i64.wrap (i1 + 1), l1 ++ [.agg 69 [.int .u32 (intOf ((partsOf (l0.getD i1.toNat .dead)).getD 0 .dead)), .int .i64 (intOf ((partsOf (l0.getD i1.toNat .dead)).getD 1 .dead)), .int .i64 (intOf ((partsOf (l0.getD i1.toNat .dead)).getD 2 .dead)), .int .i64 (intOf ((partsOf (l0.getD i1.toNat .dead)).getD 3 .dead)), .int .i64 (intOf ((partsOf (l0.getD i1.toNat .dead)).getD 4 .dead)), .slice 3 (listOf ((partsOf (l0.getD i1.toNat .dead)).getD 5 .dead)) false]]))
         (.bad))
        (.bad))
       (.next (IntKind.i64.wrap (i1 + 1), l1)))
      (.bad))
     (.out ⟨1, [], [], [l1], [], [], []⟩)
def st_ref25_Flush_3 (F : Tab) (i0 : Int) (l0 : List AV) (s : Int × List AV) : Tr (Int × List AV) := sp_ref25_Flush_3 F i0 l0 s.1 s.2
def sF_ref25_Flush_3 (i0 : Int) (l0 : List AV) (s : Int × List AV) : Fr := (mkFr 39 [(1, .int .u32 i0), (2, .ptr 0 [] 68 0), (4, .ptr 1 [] 68 0), (5, .ptr 2 [] 68 0), (6, .int .i64 s.1)] [])
def sM_ref25_Flush_3 (i0 : Int) (l0 : List AV) (s : Int × List AV) : Mm := ⟨[.var 68 (.agg 67 [.slice 70 l0 false]), .var 68 (.agg 67 [.slice 70 [] false]), .var 68 (.agg 67 [.slice 70 s.2 false])], [(1, [0]), (2, [0])]⟩
def lf_ref25_Flush_3 (F : Tab) (i0 : Int) (l0 : List AV) (fuel : Nat) (i1 : Int) (l1 : List AV) : LO := Tr.run (st_ref25_Flush_3 F i0 l0) fuel (i1, l1)
def lt_ref25_Flush_3 (i0 : Int) (l0 : List AV) (lo : LO) : LT :=
  .br (lo.k == 1) (.done (.exit 0) (mkFr 39 [(4, .ptr 1 [] 68 0), (5, .ptr 2 [] 68 0)] []) ⟨[.var 68 (.agg 67 [.slice 70 l0 false]), .var 68 (.agg 67 [.slice 70 [] false]), .var 68 (.agg 67 [.slice 70 (lo.l.getD 0 []) false])], [(1, [0]), (2, [0])]⟩) (.fail)
def pt_ref25_Flush_3 : StP := ⟨39, [(1, .int .u32), (2, .ptr 0 [] 68 (some 0)), (4, .ptr 1 [] 68 (some 0)), (5, .ptr 2 [] 68 (some 0)), (6, .int .i64)], [], [.var 68 (.agg 67 [.slice 70 false]), .var 68 (.agg 67 [.sliceL 70 [] false]), .var 68 (.agg 67 [.slice 70 false])], [(1, [0]), (2, [0])]⟩
def lp_ref25_Flush_3 (F : Tab) (dep : Nat) (fr : Fr) (M : Mm) : Option LT :=
  if pt_ref25_Flush_3.ok fr M then some (lt_ref25_Flush_3 (intOf (fr.tmps.getD 1 .dead)) (listOf ((partsOf (valR (M.rows.getD 0 (.arr 0 [])))).getD 0 .dead)) (lf_ref25_Flush_3 F (intOf (fr.tmps.getD 1 .dead)) (listOf ((partsOf (valR (M.rows.getD 0 (.arr 0 [])))).getD 0 .dead)) 100000 (intOf (fr.tmps.getD 6 .dead)) (listOf ((partsOf (valR (M.rows.getD 2 (.arr 0 [])))).getD 0 .dead)))) else none
/-- Loop 3 of ref25.Touch. -/
def sp_ref25_Touch_3 (F : Tab) (i0 i1 : Int) (l0 : List AV) (i2 : Int) (l1 : List AV) : Tr (Int × List AV) :=
    .br (decide (i2 < ((l0.length : Nat) : Int)))
     (.br (inB i2 l0.length)
      (.br (okT Pg F 126 [.agg 69 [.int .u32 (intOf ((partsOf (l0.getD i2.toNat .dead)).getD 0 .dead)), .int .i64 (intOf ((partsOf (l0.getD i2.toNat .dead)).getD 1 .dead)), .int .i64 (intOf ((partsOf (l0.getD i2.toNat .dead)).getD 2 .dead)), .int .i64 (intOf ((partsOf (l0.getD i2.toNat .dead)).getD 3 .dead)), .int .i64 (intOf ((partsOf (l0.getD i2.toNat .dead)).getD 4 .dead)), .slice 3 (listOf ((partsOf (l0.getD i2.toNat .dead)).getD 5 .dead)) false], .int .i64 i0, .int .i64 i1])
       (.br (!(boolOf (valT F 126 [.agg 69 [.int .u32 (intOf ((partsOf (l0.getD i2.toNat .dead)).getD 0 .dead)), .int .i64 (intOf ((partsOf (l0.getD i2.toNat .dead)).getD 1 .dead)), .int .i64 (intOf ((partsOf (l0.getD i2.toNat .dead)).getD 2 .dead)), .int .i64 (intOf ((partsOf (l0.getD i2.toNat .dead)).getD 3 .dead)), .int .i64 (intOf ((partsOf (l0.getD i2.toNat .dead)).getD 4 .dead)), .slice 3 (listOf ((partsOf (l0.getD i2.toNat .dead)).getD 5 .dead)) false], .int .i64 i0, .int .i64 i1])))
        (.br (inB i2 l0.length)
         (.br (decide (((l1.length + 1) * 64) ≤ 140737488355328))
          (.next (IntKind.i64.wrap (i2 + 1), l1 ++ [.agg 69 [.int .u32 (intOf ((partsOf (l0.getD i2.toNat .dead)).getD 0 .dead)), .int .i64 (intOf ((partsOf (l0.getD i2.toNat .dead)).getD 1 .dead)), .int .i64 (intOf ((partsOf (l0.getD i2.toNat .dead)).getD 2 .dead)), .int .i64 (intOf ((partsOf (l0.getD i2.toNat .dead)).getD 3 .dead)), .int .i64 (intOf ((partsOf (l0.getD i2.toNat .dead)).getD 4 .dead)), .slice 3 (listOf ((partsOf (l0.getD i2.toNat .dead)).getD 5 .dead)) false]]))
          (.bad))
         (.bad))
        (.next (IntKind.i64.wrap (i2 + 1), l1)))
       (.bad))
      (.bad))
     (.out ⟨1, [], [], [l1], [], [], []⟩)
def st_ref25_Touch_3 (F : Tab) (i0 i1 : Int) (l0 : List AV) (s : Int × List AV) : Tr (Int × List AV) := sp_ref25_Touch_3 F i0 i1 l0 s.1 s.2
def sF_ref25_Touch_3 (i0 i1 : Int) (l0 : List AV) (s : Int × List AV) : Fr := (mkFr 36 [(1, .int .i64 i0), (2, .int .i64 i1), (3, .ptr 0 [] 68 0), (6, .ptr 1 [] 68 0), (7, .ptr 2 [] 68 0), (8, .int .i64 s.1)] [])
def sM_ref25_Touch_3 (i0 i1 : Int) (l0 : List AV) (s : Int × List AV) : Mm := ⟨[.var 68 (.agg 67 [.slice 70 l0 false]), .var 68 (.agg 67 [.slice 70 [] false]), .var 68 (.agg 67 [.slice 70 s.2 false])], [(1, [0]), (2, [0])]⟩
def lf_ref25_Touch_3 (F : Tab) (i0 i1 : Int) (l0 : List AV) (fuel : Nat) (i2 : Int) (l1 : List AV) : LO := Tr.run (st_ref25_Touch_3 F i0 i1 l0) fuel (i2, l1)
def lt_ref25_Touch_3 (i0 i1 : Int) (l0 : List AV) (lo : LO) : LT :=
  .br (lo.k == 1) (.done (.exit 0) (mkFr 36 [(6, .ptr 1 [] 68 0), (7, .ptr 2 [] 68 0)] []) ⟨[.var 68 (.agg 67 [.slice 70 l0 false]), .var 68 (.agg 67 [.slice 70 [] false]), .var 68 (.agg 67 [.slice 70 (lo.l.getD 0 []) false])], [(1, [0]), (2, [0])]⟩) (.fail)
def pt_ref25_Touch_3 : StP := ⟨36, [(1, .int .i64), (2, .int .i64), (3, .ptr 0 [] 68 (some 0)), (6, .ptr 1 [] 68 (some 0)), (7, .ptr 2 [] 68 (some 0)), (8, .int .i64)], [], [.var 68 (.agg 67 [.slice 70 false]), .var 68 (.agg 67 [.sliceL 70 [] false]), .var 68 (.agg 67 [.slice 70 false])], [(1, [0]), (2, [0])]⟩
def lp_ref25_Touch_3 (F : Tab) (dep : Nat) (fr : Fr) (M : Mm) : Option LT :=
  if pt_ref25_Touch_3.ok fr M then some (lt_ref25_Touch_3 (intOf (fr.tmps.getD 1 .dead)) (intOf (fr.tmps.getD 2 .dead)) (listOf ((partsOf (valR (M.rows.getD 0 (.arr 0 [])))).getD 0 .dead)) (lf_ref25_Touch_3 F (intOf (fr.tmps.getD 1 .dead)) (intOf (fr.tmps.getD 2 .dead)) (listOf ((partsOf (valR (M.rows.getD 0 (.arr 0 [])))).getD 0 .dead)) 100000 (intOf (fr.tmps.getD 8 .dead)) (listOf ((partsOf (valR (M.rows.getD 2 (.arr 0 [])))).getD 0 .dead)))) else none
/-- Loop 3 of ref25.Evict. -/
def sp_ref25_Evict_3 (F : Tab) (i0 : Int) (l0 : List AV) (i1 : Int) (l1 : List AV) : Tr (Int × List AV) :=
    .br (decide (i1 < ((l0.length : Nat) : Int)))
     (.br (cond (inB i1 l0.length) (condB ((intOf ((partsOf (l0.getD i1.toNat .dead)).getD 2 .dead)) != i0) (cond (inB i1 l0.length) (cond (okT Pg F 126 [.agg 69 [.int .u32 (intOf ((partsOf (l0.getD i1.toNat .dead)).getD 0 .dead)), .int .i64 (intOf ((partsOf (l0.getD i1.toNat .dead)).getD 1 .dead)), .int .i64 (intOf ((partsOf (l0.getD i1.toNat .dead)).getD 2 .dead)), .int .i64 (intOf ((partsOf (l0.getD i1.toNat .dead)).getD 3 .dead)), .int .i64 (intOf ((partsOf (l0.getD i1.toNat .dead)).getD 4 .dead)), .slice 3 (listOf ((partsOf (l0.getD i1.toNat .dead)).getD 5 .dead)) false], .int .i64 (IntKind.i64.wrap (128 * i0)), .int .i64 128]) true false) false) true) false)
      (.br (cond ((intOf ((partsOf (l0.getD i1.toNat .dead)).getD 2 .dead)) != i0) (!(boolOf (valT F 126 [.agg 69 [.int .u32 (intOf ((partsOf (l0.getD i1.toNat .dead)).getD 0 .dead)), .int .i64 (intOf ((partsOf (l0.getD i1.toNat .dead)).getD 1 .dead)), .int .i64 (intOf ((partsOf (l0.getD i1.toNat .dead)).getD 2 .dead)), .int .i64 (intOf ((partsOf (l0.getD i1.toNat .dead)).getD 3 .dead)), .int .i64 (intOf ((partsOf (l0.getD i1.toNat .dead)).getD 4 .dead)), .slice 3 (listOf ((partsOf (l0.getD i1.toNat .dead)).getD 5 .dead)) false], .int .i64 (IntKind.i64.wrap (128 * i0)), .int .i64 128]))) false)
       (.br (inB i1 l0.length)
        (.br (decide (((l1.length + 1) * 64) ≤ 140737488355328))
         (.next (IntKind.i64.wrap (i1 + 1), l1 ++ [.agg 69 [.int .u32 (intOf ((partsOf (l0.getD i1.toNat .dead)).getD 0 .dead)), .int .i64 (intOf ((partsOf (l0.getD i1.toNat .dead)).getD 1 .dead)), .int .i64 (intOf ((partsOf (l0.getD i1.toNat .dead)).getD 2 .dead)), .int .i64 (intOf ((partsOf (l0.getD i1.toNat .dead)).getD 3 .dead)), .int .i64 (intOf ((partsOf (l0.getD i1.toNat .dead)).getD 4 .dead)), .slice 3 (listOf ((partsOf (l0.getD i1.toNat .dead)).getD 5 .dead)) false]]))
         (.bad))
        (.bad))
       (.next (IntKind.i64.wrap (i1 + 1), l1)))
      (.bad))
     (.out ⟨1, [], [], [l1], [], [], []⟩)
def st_ref25_Evict_3 (F : Tab) (i0 : Int) (l0 : List AV) (s : Int × List AV) : Tr (Int × List AV) := sp_ref25_Evict_3 F i0 l0 s.1 s.2
def sF_ref25_Evict_3 (i0 : Int) (l0 : List AV) (s : Int × List AV) : Fr := (mkFr 44 [(1, .int .i64 i0), (2, .ptr 0 [] 68 0), (4, .ptr 1 [] 68 0), (5, .ptr 2 [] 68 0), (6, .int .i64 s.1)] [])
def sM_ref25_Evict_3 (i0 : Int) (l0 : List AV) (s : Int × List AV) : Mm := ⟨[.var 68 (.agg 67 [.slice 70 l0 false]), .var 68 (.agg 67 [.slice 70 [] false]), .var 68 (.agg 67 [.slice 70 s.2 false])], [(1, [0]), (2, [0])]⟩
def lf_ref25_Evict_3 (F : Tab) (i0 : Int) (l0 : List AV) (fuel : Nat) (i1 : Int) (l1 : List AV) : LO := Tr.run (st_ref25_Evict_3 F i0 l0) fuel (i1, l1)
def lt_ref25_Evict_3 (i0 : Int) (l0 : List AV) (lo : LO) : LT :=
  .br (lo.k == 1) (.done (.exit 0) (mkFr 44 [(4, .ptr 1 [] 68 0), (5, .ptr 2 [] 68 0)] []) ⟨[.var 68 (.agg 67 [.slice 70 l0 false]), .var 68 (.agg 67 [.slice 70 [] false]), .var 68 (.agg 67 [.slice 70 (lo.l.getD 0 []) false])], [(1, [0]), (2, [0])]⟩) (.fail)
def pt_ref25_Evict_3 : StP := ⟨44, [(1, .int .i64), (2, .ptr 0 [] 68 (some 0)), (4, .ptr 1 [] 68 (some 0)), (5, .ptr 2 [] 68 (some 0)), (6, .int .i64)], [], [.var 68 (.agg 67 [.slice 70 false]), .var 68 (.agg 67 [.sliceL 70 [] false]), .var 68 (.agg 67 [.slice 70 false])], [(1, [0]), (2, [0])]⟩
def lp_ref25_Evict_3 (F : Tab) (dep : Nat) (fr : Fr) (M : Mm) : Option LT :=
  if pt_ref25_Evict_3.ok fr M then some (lt_ref25_Evict_3 (intOf (fr.tmps.getD 1 .dead)) (listOf ((partsOf (valR (M.rows.getD 0 (.arr 0 [])))).getD 0 .dead)) (lf_ref25_Evict_3 F (intOf (fr.tmps.getD 1 .dead)) (listOf ((partsOf (valR (M.rows.getD 0 (.arr 0 [])))).getD 0 .dead)) 100000 (intOf (fr.tmps.getD 6 .dead)) (listOf ((partsOf (valR (M.rows.getD 2 (.arr 0 [])))).getD 0 .dead)))) else none
/-- Loop 4 of ref25.same. -/
def sp_ref25_same_4 (F : Tab) (i1 i2 i3 i4 i5 : Int) (l0 : List AV) (i6 i7 i8 i9 i10 : Int) (l1 : List AV) (i0 : Int) : Tr (Int) :=
    .br (decide (i0 < ((l0.length : Nat) : Int)))
     (.br (cond (inB i0 l0.length) (cond (inB i0 l1.length) true false) false)
      (.br ((intOf (l0.getD i0.toNat .dead)) != (intOf (l1.getD i0.toNat .dead)))
       (.out ⟨1, [], [], [], [], [], []⟩)
       (.next (IntKind.i64.wrap (i0 + 1))))
      (.bad))
     (.out ⟨2, [], [], [], [], [], []⟩)
def st_ref25_same_4 (F : Tab) (i1 i2 i3 i4 i5 : Int) (l0 : List AV) (i6 i7 i8 i9 i10 : Int) (l1 : List AV) (s : Int) : Tr (Int) := sp_ref25_same_4 F i1 i2 i3 i4 i5 l0 i6 i7 i8 i9 i10 l1 s
def sF_ref25_same_4 (i1 i2 i3 i4 i5 : Int) (l0 : List AV) (i6 i7 i8 i9 i10 : Int) (l1 : List AV) (s : Int) : Fr := (mkFr 66 [(2, .ptr 0 [] 70 0), (3, .ptr 1 [] 70 0), (5, .int .i64 s)] [])
def sM_ref25_same_4 (i1 i2 i3 i4 i5 : Int) (l0 : List AV) (i6 i7 i8 i9 i10 : Int) (l1 : List AV) (s : Int) : Mm := ⟨[.var 70 (.agg 69 [.int .u32 i1, .int .i64 i2, .int .i64 i3, .int .i64 i4, .int .i64 i5, .slice 3 l0 false]), .var 70 (.agg 69 [.int .u32 i6, .int .i64 i7, .int .i64 i8, .int .i64 i9, .int .i64 i10, .slice 3 l1 false])], []⟩
def lf_ref25_same_4 (F : Tab) (i1 i2 i3 i4 i5 : Int) (l0 : List AV) (i6 i7 i8 i9 i10 : Int) (l1 : List AV) (fuel : Nat) (i0 : Int) : LO := Tr.run (st_ref25_same_4 F i1 i2 i3 i4 i5 l0 i6 i7 i8 i9 i10 l1) fuel (i0)
def lt_ref25_same_4 (i1 i2 i3 i4 i5 : Int) (l0 : List AV) (i6 i7 i8 i9 i10 : Int) (l1 : List AV) (lo : LO) : LT :=
  .br (lo.k == 1) (.done .ret (mkFr 66 [(4, .bool false)] []) ⟨[.var 70 (.agg 69 [.int .u32 i1, .int .i64 i2, .int .i64 i3, .int .i64 i4, .int .i64 i5, .slice 3 l0 false]), .var 70 (.agg 69 [.int .u32 i6, .int .i64 i7, .int .i64 i8, .int .i64 i9, .int .i64 i10, .slice 3 l1 false])], []⟩) (.br (lo.k == 2) (.done (.exit 0) (mkFr 66 [] []) ⟨[.var 70 (.agg 69 [.int .u32 i1, .int .i64 i2, .int .i64 i3, .int .i64 i4, .int .i64 i5, .slice 3 l0 false]), .var 70 (.agg 69 [.int .u32 i6, .int .i64 i7, .int .i64 i8, .int .i64 i9, .int .i64 i10, .slice 3 l1 false])], []⟩) (.fail))
def pt_ref25_same_4 : StP := ⟨66, [(2, .ptr 0 [] 70 (some 0)), (3, .ptr 1 [] 70 (some 0)), (5, .int .i64)], [], [.var 70 (.agg 69 [.int .u32, .int .i64, .int .i64, .int .i64, .int .i64, .slice 3 false]), .var 70 (.agg 69 [.int .u32, .int .i64, .int .i64, .int .i64, .int .i64, .slice 3 false])], []⟩
def lp_ref25_same_4 (F : Tab) (dep : Nat) (fr : Fr) (M : Mm) : Option LT :=
  if pt_ref25_same_4.ok fr M then some (lt_ref25_same_4 (intOf ((partsOf (valR (M.rows.getD 0 (.arr 0 [])))).getD 0 .dead)) (intOf ((partsOf (valR (M.rows.getD 0 (.arr 0 [])))).getD 1 .dead)) (intOf ((partsOf (valR (M.rows.getD 0 (.arr 0 [])))).getD 2 .dead)) (intOf ((partsOf (valR (M.rows.getD 0 (.arr 0 [])))).getD 3 .dead)) (intOf ((partsOf (valR (M.rows.getD 0 (.arr 0 [])))).getD 4 .dead)) (listOf ((partsOf (valR (M.rows.getD 0 (.arr 0 [])))).getD 5 .dead)) (intOf ((partsOf (valR (M.rows.getD 1 (.arr 0 [])))).getD 0 .dead)) (intOf ((partsOf (valR (M.rows.getD 1 (.arr 0 [])))).getD 1 .dead)) (intOf ((partsOf (valR (M.rows.getD 1 (.arr 0 [])))).getD 2 .dead)) (intOf ((partsOf (valR (M.rows.getD 1 (.arr 0 [])))).getD 3 .dead)) (intOf ((partsOf (valR (M.rows.getD 1 (.arr 0 [])))).getD 4 .dead)) (listOf ((partsOf (valR (M.rows.getD 1 (.arr 0 [])))).getD 5 .dead)) (lf_ref25_same_4 F (intOf ((partsOf (valR (M.rows.getD 0 (.arr 0 [])))).getD 0 .dead)) (intOf ((partsOf (valR (M.rows.getD 0 (.arr 0 [])))).getD 1 .dead)) (intOf ((partsOf (valR (M.rows.getD 0 (.arr 0 [])))).getD 2 .dead)) (intOf ((partsOf (valR (M.rows.getD 0 (.arr 0 [])))).getD 3 .dead)) (intOf ((partsOf (valR (M.rows.getD 0 (.arr 0 [])))).getD 4 .dead)) (listOf ((partsOf (valR (M.rows.getD 0 (.arr 0 [])))).getD 5 .dead)) (intOf ((partsOf (valR (M.rows.getD 1 (.arr 0 [])))).getD 0 .dead)) (intOf ((partsOf (valR (M.rows.getD 1 (.arr 0 [])))).getD 1 .dead)) (intOf ((partsOf (valR (M.rows.getD 1 (.arr 0 [])))).getD 2 .dead)) (intOf ((partsOf (valR (M.rows.getD 1 (.arr 0 [])))).getD 3 .dead)) (intOf ((partsOf (valR (M.rows.getD 1 (.arr 0 [])))).getD 4 .dead)) (listOf ((partsOf (valR (M.rows.getD 1 (.arr 0 [])))).getD 5 .dead)) 100000 (intOf (fr.tmps.getD 5 .dead)))) else none
/-- Loop 6 of ref06.Load. -/
def sp_ref06_Load_6 (F : Tab) (i0 : Int) (l0 : List AV) (i1 i2 : Int) : Tr (Int × Int) :=
    .br (decide ((0 : Int) ≤ i2))
     (.br (okT Pg F 154 [.agg 23 [.slice 118 l0 false], .int .i64 (IntKind.i64.wrap (i0 + i2))])
      (.next (ibits .or .u32 (IntKind.u32.wrap (i1 * 256)) (IntKind.u32.wrap (intOf (valT F 154 [.agg 23 [.slice 118 l0 false], .int .i64 (IntKind.i64.wrap (i0 + i2))]))), IntKind.i64.wrap (i2 - 1)))
      (.bad))
     (.out ⟨1, [i1], [], [], [], [], []⟩)
def st_ref06_Load_6 (F : Tab) (i0 : Int) (l0 : List AV) (s : Int × Int) : Tr (Int × Int) := sp_ref06_Load_6 F i0 l0 s.1 s.2
def sF_ref06_Load_6 (i0 : Int) (l0 : List AV) (s : Int × Int) : Fr := (mkFr 34 [(1, .int .i64 i0), (3, .ptr 0 [] 24 0), (6, .ptr 1 [] 199 0), (8, .int .u32 s.1), (9, .int .i64 s.2)] [])
def sM_ref06_Load_6 (i0 : Int) (l0 : List AV) (s : Int × Int) : Mm := ⟨[.var 24 (.agg 23 [.slice 118 l0 false]), .var 199 (.agg 198 [.int .u32 0, .bool false])], []⟩
def lf_ref06_Load_6 (F : Tab) (i0 : Int) (l0 : List AV) (fuel : Nat) (i1 i2 : Int) : LO := Tr.run (st_ref06_Load_6 F i0 l0) fuel (i1, i2)
def lt_ref06_Load_6 (i0 : Int) (l0 : List AV) (lo : LO) : LT :=
  .br (lo.k == 1) (.done (.exit 0) (mkFr 34 [(6, .ptr 1 [] 199 0), (8, .int .u32 (lo.i.getD 0 0))] []) ⟨[.var 24 (.agg 23 [.slice 118 l0 false]), .var 199 (.agg 198 [.int .u32 0, .bool false])], []⟩) (.fail)
def pt_ref06_Load_6 : StP := ⟨34, [(1, .int .i64), (3, .ptr 0 [] 24 (some 0)), (6, .ptr 1 [] 199 (some 0)), (8, .int .u32), (9, .int .i64)], [], [.var 24 (.agg 23 [.slice 118 false]), .var 199 (.agg 198 [.intC .u32 0, .boolC false])], []⟩
def lp_ref06_Load_6 (F : Tab) (dep : Nat) (fr : Fr) (M : Mm) : Option LT :=
  if pt_ref06_Load_6.ok fr M then some (lt_ref06_Load_6 (intOf (fr.tmps.getD 1 .dead)) (listOf ((partsOf (valR (M.rows.getD 0 (.arr 0 [])))).getD 0 .dead)) (lf_ref06_Load_6 F (intOf (fr.tmps.getD 1 .dead)) (listOf ((partsOf (valR (M.rows.getD 0 (.arr 0 [])))).getD 0 .dead)) 100000 (intOf (fr.tmps.getD 8 .dead)) (intOf (fr.tmps.getD 9 .dead)))) else none
/-- Loop 2 of ref25.reads. -/
def sp_ref25_reads_2 (F : Tab) (i0 i1 i3 i4 i5 i6 i7 : Int) (l0 : List AV) (i2 : Int) : Tr (Int) :=
    .br (decide (i2 < ((l0.length : Nat) : Int)))
     (.br (cond (inB i2 l0.length) (condB (decide (i0 < (IntKind.i64.wrap ((intOf (l0.getD i2.toNat .dead)) + 4)))) (cond (inB i2 l0.length) true false) true) false)
      (.br (cond (decide (i0 < (IntKind.i64.wrap ((intOf (l0.getD i2.toNat .dead)) + 4)))) (decide ((intOf (l0.getD i2.toNat .dead)) < (IntKind.i64.wrap (i0 + i1)))) false)
       (.out ⟨1, [], [], [], [], [], []⟩)
       (.next (IntKind.i64.wrap (i2 + 1))))
      (.bad))
     (.out ⟨2, [], [], [], [], [], []⟩)
def st_ref25_reads_2 (F : Tab) (i0 i1 i3 i4 i5 i6 i7 : Int) (l0 : List AV) (s : Int) : Tr (Int) := sp_ref25_reads_2 F i0 i1 i3 i4 i5 i6 i7 l0 s
def sF_ref25_reads_2 (i0 i1 i3 i4 i5 i6 i7 : Int) (l0 : List AV) (s : Int) : Fr := (mkFr 34 [(1, .int .i64 i0), (2, .int .i64 i1), (3, .ptr 0 [] 70 0), (7, .int .i64 s)] [])
def sM_ref25_reads_2 (i0 i1 i3 i4 i5 i6 i7 : Int) (l0 : List AV) (s : Int) : Mm := ⟨[.var 70 (.agg 69 [.int .u32 i3, .int .i64 i4, .int .i64 i5, .int .i64 i6, .int .i64 i7, .slice 3 l0 false])], []⟩
def lf_ref25_reads_2 (F : Tab) (i0 i1 i3 i4 i5 i6 i7 : Int) (l0 : List AV) (fuel : Nat) (i2 : Int) : LO := Tr.run (st_ref25_reads_2 F i0 i1 i3 i4 i5 i6 i7 l0) fuel (i2)
def lt_ref25_reads_2 (i0 i1 i3 i4 i5 i6 i7 : Int) (l0 : List AV) (lo : LO) : LT :=
  .br (lo.k == 1) (.done .ret (mkFr 34 [(6, .bool true)] []) ⟨[.var 70 (.agg 69 [.int .u32 i3, .int .i64 i4, .int .i64 i5, .int .i64 i6, .int .i64 i7, .slice 3 l0 false])], []⟩) (.br (lo.k == 2) (.done (.exit 0) (mkFr 34 [] []) ⟨[.var 70 (.agg 69 [.int .u32 i3, .int .i64 i4, .int .i64 i5, .int .i64 i6, .int .i64 i7, .slice 3 l0 false])], []⟩) (.fail))
def pt_ref25_reads_2 : StP := ⟨34, [(1, .int .i64), (2, .int .i64), (3, .ptr 0 [] 70 (some 0)), (7, .int .i64)], [], [.var 70 (.agg 69 [.int .u32, .int .i64, .int .i64, .int .i64, .int .i64, .slice 3 false])], []⟩
def lp_ref25_reads_2 (F : Tab) (dep : Nat) (fr : Fr) (M : Mm) : Option LT :=
  if pt_ref25_reads_2.ok fr M then some (lt_ref25_reads_2 (intOf (fr.tmps.getD 1 .dead)) (intOf (fr.tmps.getD 2 .dead)) (intOf ((partsOf (valR (M.rows.getD 0 (.arr 0 [])))).getD 0 .dead)) (intOf ((partsOf (valR (M.rows.getD 0 (.arr 0 [])))).getD 1 .dead)) (intOf ((partsOf (valR (M.rows.getD 0 (.arr 0 [])))).getD 2 .dead)) (intOf ((partsOf (valR (M.rows.getD 0 (.arr 0 [])))).getD 3 .dead)) (intOf ((partsOf (valR (M.rows.getD 0 (.arr 0 [])))).getD 4 .dead)) (listOf ((partsOf (valR (M.rows.getD 0 (.arr 0 [])))).getD 5 .dead)) (lf_ref25_reads_2 F (intOf (fr.tmps.getD 1 .dead)) (intOf (fr.tmps.getD 2 .dead)) (intOf ((partsOf (valR (M.rows.getD 0 (.arr 0 [])))).getD 0 .dead)) (intOf ((partsOf (valR (M.rows.getD 0 (.arr 0 [])))).getD 1 .dead)) (intOf ((partsOf (valR (M.rows.getD 0 (.arr 0 [])))).getD 2 .dead)) (intOf ((partsOf (valR (M.rows.getD 0 (.arr 0 [])))).getD 3 .dead)) (intOf ((partsOf (valR (M.rows.getD 0 (.arr 0 [])))).getD 4 .dead)) (listOf ((partsOf (valR (M.rows.getD 0 (.arr 0 [])))).getD 5 .dead)) 100000 (intOf (fr.tmps.getD 7 .dead)))) else none
def kn : List FuncId := [8, 9, 10, 16, 17, 19, 21, 23, 24, 26, 32, 35, 36, 37, 38, 39, 40, 41, 42, 43, 44, 45, 46, 47, 57, 62, 65, 66, 67, 68, 69, 70, 71, 72, 73, 74, 75, 80, 81, 82, 83, 84, 85, 86, 87, 88, 89, 90, 91, 92, 93, 97, 98, 99, 100, 101, 102, 103, 106, 115, 123, 126, 154]
noncomputable def cx (F : Tab) : Ctx where
  P := Pg
  n := 100000
  muta := fun f => memN f [77, 116]
  spec := specT Pg kn F
  kept := fun f id => match f, id with
    | 9, 8 => some ([2, 3, 4, 5, 6, 45, 46, 47], [12])
    | 21, 4 => some ([2, 3, 5], [4])
    | 24, 4 => some ([2, 4, 6, 7, 16, 17, 18], [4, 5, 6])
    | 35, 4 => some ([1, 3], [2])
    | 36, 4 => some ([1, 3], [2])
    | 39, 11 => some ([1, 2, 13, 27, 28, 29], [10, 11, 12])
    | 40, 4 => some ([1, 12, 13], [2])
    | 43, 4 => some ([2, 3, 5], [4])
    | 47, 3 => some ([2, 3, 5, 6], [2, 5])
    | 57, 6 => some ([3, 4, 6, 7], [4, 6])
    | 75, 4 => some ([0, 1, 5], [4])
    | 86, 5 => some ([1, 2, 6, 7, 8], [6, 7])
    | 89, 3 => some ([2, 3, 5, 6], [5])
    | 91, 2 => some ([1, 2, 3, 7], [6])
    | 92, 3 => some ([0, 3, 4], [0, 2])
    | 94, 3 => some ([1, 5, 8, 9, 10], [5])
    | 98, 3 => some ([2, 3, 4, 5, 6], [3, 4, 5])
    | 99, 3 => some ([1, 2, 4, 5, 6], [4, 5])
    | 100, 3 => some ([1, 2, 3, 6, 7, 8], [6, 7])
    | 101, 3 => some ([1, 2, 4, 5, 6], [4, 5])
    | 103, 4 => some ([2, 3, 5], [4])
    | 121, 1 => some ([1, 2, 3], [])
    | 123, 6 => some ([1, 3, 6, 8, 9], [6, 8])
    | 124, 3 => some ([1, 5, 8, 9, 10], [5])
    | 126, 2 => some ([1, 2, 3, 7], [6])
    | _, _ => none
  ends := fun dep f id fr M => match f, id with
    | 9, 8 => lp_law25_TlbWorksAsSpecified_8 F dep fr M
    | 21, 4 => lp_ref10_Same_4 F dep fr M
    | 24, 4 => lp_memory_Apply_4 F dep fr M
    | 35, 4 => lp_ref25_Valid_4 F dep fr M
    | 36, 4 => lp_ref25_Right_4 F dep fr M
    | 39, 11 => lp_tlb_Lookup_11 F dep fr M
    | 40, 4 => lp_tlb_Valid_4 F dep fr M
    | 43, 4 => lp_ref25_Same_4 F dep fr M
    | 47, 3 => lp_ref25_Within_3 F dep fr M
    | 57, 6 => lp_ref06_Store_6 F dep fr M
    | 75, 4 => lp_ref06_SameInts_4 F dep fr M
    | 86, 5 => lp_ref06_Write_5 F dep fr M
    | 89, 3 => lp_ref06_Diff_3 F dep fr M
    | 91, 2 => lp_ref25_find_2 F dep fr M
    | 92, 3 => lp_ref25_bits_3 F dep fr M
    | 94, 3 => (match lp_tlb_keep_api_Trans_3 F dep fr M with | some t => some t | none => (match lp_tlb_keep_api_Trans_3a F dep fr M with | some t => some t | none => (match lp_tlb_keep_api_Trans_3b F dep fr M with | some t => some t | none => (match lp_tlb_keep_api_Trans_3c F dep fr M with | some t => some t | none => lp_tlb_keep_api_Trans_3d F dep fr M))))
    | 98, 3 => lp_ref25_Fill_3 F dep fr M
    | 99, 3 => lp_ref25_Flush_3 F dep fr M
    | 100, 3 => lp_ref25_Touch_3 F dep fr M
    | 101, 3 => lp_ref25_Evict_3 F dep fr M
    | 103, 4 => lp_ref25_same_4 F dep fr M
    | 121, 1 => (match lp_memory_draft_put_1 F dep fr M with | some t => some t | none => lp_memory_draft_put_1a F dep fr M)
    | 123, 6 => lp_ref06_Load_6 F dep fr M
    | 124, 3 => (match lp_tlb_keep_int_3 F dep fr M with | some t => some t | none => lp_tlb_keep_int_3a F dep fr M)
    | 126, 2 => lp_ref25_reads_2 F dep fr M
    | _, _ => none
  take := fun f => memN f [38, 98]
  lose := fun f id => match f, id with
    | 49, 11 => [(1, [2, 0])]
    | _, _ => []
end
end Go.Proofs.Ytcknhfnbdgleiaa
