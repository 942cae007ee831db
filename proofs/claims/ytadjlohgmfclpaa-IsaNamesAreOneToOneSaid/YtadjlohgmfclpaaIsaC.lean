/- What the loops come to, as functions of their own; the context. (Printed by a program of mine, gen.py.) -/
import Derived.Test.YtadjlohgmfclpaaEvC
import Derived.Test.YtadjlohgmfclpaaRows
set_option linter.unusedVariables false
set_option linter.unusedSimpArgs false
namespace Go.Proofs.Ytadjlohgmfclpaa
open Go.AE

noncomputable abbrev Pg : Program := Try.checked.prog

/-- Loop 5 of law04.IsaNamesAreOneToOne. -/
def lf_law04_IsaNamesAreOneToOne_5 (F : Tab) (s0 : List UInt8) : Nat → Int → LO
  | 0, _ => LO.bad
  | fuel + 1, i0 =>
    cond (decide (i0 < ((s0.length : Nat) : Int)))
     (cond (cond (inB i0 s0.length) (condB (decide (((s0.getD i0.toNat 0).toNat : Int) < 97)) true (cond (inB i0 s0.length) true false)) false)
      (cond (cond (decide (((s0.getD i0.toNat 0).toNat : Int) < 97)) true (decide ((122 : Int) < ((s0.getD i0.toNat 0).toNat : Int))))
       (⟨1, [], [], [], [], [], []⟩)
       (lf_law04_IsaNamesAreOneToOne_5 F s0 fuel (IntKind.i64.wrap (i0 + 1))))
      (LO.bad))
     (⟨2, [], [], [], [], [], []⟩)
def lt_law04_IsaNamesAreOneToOne_5 (s0 : List UInt8) (lo : LO) : LT :=
  .br (lo.k == 1) (.done .ret (mkFr 63 [(4, .bool false)] []) ⟨[], []⟩) (.br (lo.k == 2) (.done (.exit 0) (mkFr 63 [] []) ⟨[], []⟩) (.fail))
def lp_law04_IsaNamesAreOneToOne_5 (F : Tab) (dep : Nat) (fr : Fr) (M : Mm) : Option LT :=
  if okFr 63 [5, 7] fr then
    match fr.tmps.getD 5 .dead, fr.tmps.getD 7 .dead, fr.tf, M with
    | .str s0, .int .i64 i0, [], ⟨[], []⟩ => some (lt_law04_IsaNamesAreOneToOne_5 s0 (lf_law04_IsaNamesAreOneToOne_5 F s0 100000 i0))
    | _, _, _, _ => none
  else none
/-- Loop 5 of law04.IsaTargetsTurnBack. -/
def lf_law04_IsaTargetsTurnBack_5 (F : Tab) (i0 : Int) (l0 l1 : List AV) (i1 i3 i4 i5 i6 i7 : Int) : Nat → Int → LO
  | 0, _ => LO.bad
  | fuel + 1, i2 =>
    cond (decide (i2 < i1))
     (cond (inB i2 l1.length)
      (cond (condB (decide ((intOf (l1.getD i2.toNat .dead)) < 1)) true (condB (decide ((16 : Int) ≤ (intOf (l1.getD i2.toNat .dead)))) true (condB (decide ((0 : Int) < i2)) (cond (inB (IntKind.i64.wrap (i2 - 1)) l0.length) true false) true)))
       (cond (cond (decide ((intOf (l1.getD i2.toNat .dead)) < 1)) true (cond (decide ((16 : Int) ≤ (intOf (l1.getD i2.toNat .dead)))) true (cond (decide ((0 : Int) < i2)) (decide ((intOf (l1.getD i2.toNat .dead)) ≤ (intOf (l0.getD ((IntKind.i64.wrap (i2 - 1)).toNat) .dead)))) false)))
        (⟨1, [], [], [], [], [], []⟩)
        (lf_law04_IsaTargetsTurnBack_5 F i0 l0 l1 i1 i3 i4 i5 i6 i7 fuel (IntKind.i64.wrap (i2 + 1))))
       (LO.bad))
      (LO.bad))
     (⟨2, [], [], [], [], [], []⟩)
def lt_law04_IsaTargetsTurnBack_5 (i0 : Int) (l0 l1 : List AV) (i1 i3 i4 i5 i6 i7 : Int) (lo : LO) : LT :=
  .br (lo.k == 1) (.done .ret (mkFr 99 [(1, .int .u32 i0), (2, .ptr 0 [] 23 0), (4, .bool false)] []) ⟨[.var 23 (.agg 22 [.int .i64 i3, .int .i64 i4, .int .i64 i5, .int .i64 i6, .int .i64 i7])], []⟩) (.br (lo.k == 2) (.done (.exit 0) (mkFr 99 [(1, .int .u32 i0), (2, .ptr 0 [] 23 0)] []) ⟨[.var 23 (.agg 22 [.int .i64 i3, .int .i64 i4, .int .i64 i5, .int .i64 i6, .int .i64 i7])], []⟩) (.fail))
def lp_law04_IsaTargetsTurnBack_5 (F : Tab) (dep : Nat) (fr : Fr) (M : Mm) : Option LT :=
  if okFr 99 [1, 2, 5, 20, 21, 22] fr then
    match fr.tmps.getD 1 .dead, fr.tmps.getD 2 .dead, fr.tmps.getD 5 .dead, fr.tmps.getD 20 .dead, fr.tmps.getD 21 .dead, fr.tmps.getD 22 .dead, fr.tf, M with
    | .int .u32 i0, .ptr 0 [] 23 0, .slice 3 l0 false, .slice 3 l1 false, .int .i64 i1, .int .i64 i2, [], ⟨[.var 23 (.agg 22 [.int .i64 i3, .int .i64 i4, .int .i64 i5, .int .i64 i6, .int .i64 i7])], []⟩ => some (lt_law04_IsaTargetsTurnBack_5 i0 l0 l1 i1 i3 i4 i5 i6 i7 (lf_law04_IsaTargetsTurnBack_5 F i0 l0 l1 i1 i3 i4 i5 i6 i7 100000 i2))
    | _, _, _, _, _, _, _, _ => none
  else none
/-- Loop 4 of ref04.Same. -/
def lf_ref04_Same_4 (F : Tab) (l0 l1 : List AV) : Nat → Int → LO
  | 0, _ => LO.bad
  | fuel + 1, i0 =>
    cond (decide (i0 < ((l0.length : Nat) : Int)))
     (cond (cond (inB i0 l0.length) (cond (inB i0 l1.length) true false) false)
      (cond ((intOf (l0.getD i0.toNat .dead)) != (intOf (l1.getD i0.toNat .dead)))
       (⟨1, [], [], [], [], [], []⟩)
       (lf_ref04_Same_4 F l0 l1 fuel (IntKind.i64.wrap (i0 + 1))))
      (LO.bad))
     (⟨2, [], [], [], [], [], []⟩)
def lt_ref04_Same_4 (l0 l1 : List AV) (lo : LO) : LT :=
  .br (lo.k == 1) (.done .ret (mkFr 26 [(4, .bool false)] []) ⟨[], []⟩) (.br (lo.k == 2) (.done (.exit 0) (mkFr 26 [] []) ⟨[], []⟩) (.fail))
def lp_ref04_Same_4 (F : Tab) (dep : Nat) (fr : Fr) (M : Mm) : Option LT :=
  if okFr 26 [0, 1, 5] fr then
    match fr.tmps.getD 0 .dead, fr.tmps.getD 1 .dead, fr.tmps.getD 5 .dead, fr.tf, M with
    | .slice 3 l0 false, .slice 3 l1 false, .int .i64 i0, [], ⟨[], []⟩ => some (lt_ref04_Same_4 l0 l1 (lf_ref04_Same_4 F l0 l1 100000 i0))
    | _, _, _, _, _ => none
  else none
/-- Loop 10 of isa.Reads. -/
def lf_isa_Reads_10 (F : Tab) (l1 : List AV) (i1 i2 i3 i4 i5 : Int) (l2 : List AV) : Nat → List AV → Int → LO
  | 0, _, _ => LO.bad
  | fuel + 1, l0, i0 =>
    cond (decide (i0 < 16))
     (cond (inB i0 16)
      (cond (cond (boolOf (l1.getD i0.toNat .dead)) (decide ((0 : Int) < i0)) false)
       (cond (decide (((l0.length + 1) * 8) ≤ 140737488355328))
        (lf_isa_Reads_10 F l1 i1 i2 i3 i4 i5 l2 fuel (l0 ++ [.int .i64 i0]) (IntKind.i64.wrap (i0 + 1)))
        (LO.bad))
       (lf_isa_Reads_10 F l1 i1 i2 i3 i4 i5 l2 fuel l0 (IntKind.i64.wrap (i0 + 1))))
      (LO.bad))
     (⟨1, [], [], [l0], [], [], []⟩)
def lt_isa_Reads_10 (l1 : List AV) (i1 i2 i3 i4 i5 : Int) (l2 : List AV) (lo : LO) : LT :=
  .br (lo.k == 1) (.done (.exit 1) (mkFr 71 [(4, .slice 3 (lo.l.getD 0 []) false)] [(4, .own)]) ⟨[.var 23 (.agg 22 [.int .i64 i1, .int .i64 i2, .int .i64 i3, .int .i64 i4, .int .i64 i5]), .var 63 (.agg 63 l2)], []⟩) (.fail)
def lp_isa_Reads_10 (F : Tab) (dep : Nat) (fr : Fr) (M : Mm) : Option LT :=
  if okFr 71 [4, 55, 56] fr then
    match fr.tmps.getD 4 .dead, fr.tmps.getD 55 .dead, fr.tmps.getD 56 .dead, fr.tf, M with
    | .slice 3 l0 false, .agg 63 l1, .int .i64 i0, [(4, .own)], ⟨[.var 23 (.agg 22 [.int .i64 i1, .int .i64 i2, .int .i64 i3, .int .i64 i4, .int .i64 i5]), .var 63 (.agg 63 l2)], []⟩ => some (lt_isa_Reads_10 l1 i1 i2 i3 i4 i5 l2 (lf_isa_Reads_10 F l1 i1 i2 i3 i4 i5 l2 100000 l0 i0))
    | _, _, _, _, _ => none
  else none
/-- Loop 5 of ref04.Reads. -/
def lf_ref04_Reads_5 (F : Tab) (b0 b1 : Bool) (i1 i2 i3 i4 i5 : Int) : Nat → List AV → Int → LO
  | 0, _, _ => LO.bad
  | fuel + 1, l0, i0 =>
    cond (decide (i0 < 16))
     (cond (cond b0 (cond (i2 == i0) true (cond b1 (cond (i3 == i0) true (i4 == i0)) (i4 == i0))) (cond b1 (cond (i3 == i0) true (i4 == i0)) (i4 == i0)))
      (cond (decide (((l0.length + 1) * 8) ≤ 140737488355328))
       (lf_ref04_Reads_5 F b0 b1 i1 i2 i3 i4 i5 fuel (l0 ++ [.int .i64 i0]) (IntKind.i64.wrap (i0 + 1)))
       (LO.bad))
      (lf_ref04_Reads_5 F b0 b1 i1 i2 i3 i4 i5 fuel l0 (IntKind.i64.wrap (i0 + 1))))
     (⟨1, [], [], [l0], [], [], []⟩)
def lt_ref04_Reads_5 (b0 b1 : Bool) (i1 i2 i3 i4 i5 : Int) (lo : LO) : LT :=
  .br (lo.k == 1) (.done (.exit 0) (mkFr 81 [(5, .slice 3 (lo.l.getD 0 []) false)] [(5, .own)]) ⟨[.var 23 (.agg 22 [.int .i64 i1, .int .i64 i2, .int .i64 i3, .int .i64 i4, .int .i64 i5])], []⟩) (.fail)
def lp_ref04_Reads_5 (F : Tab) (dep : Nat) (fr : Fr) (M : Mm) : Option LT :=
  if okFr 81 [1, 3, 4, 5, 6] fr then
    match fr.tmps.getD 1 .dead, fr.tmps.getD 3 .dead, fr.tmps.getD 4 .dead, fr.tmps.getD 5 .dead, fr.tmps.getD 6 .dead, fr.tf, M with
    | .ptr 0 [] 23 0, .bool b0, .bool b1, .slice 3 l0 false, .int .i64 i0, [(5, .own)], ⟨[.var 23 (.agg 22 [.int .i64 i1, .int .i64 i2, .int .i64 i3, .int .i64 i4, .int .i64 i5])], []⟩ => some (lt_ref04_Reads_5 b0 b1 i1 i2 i3 i4 i5 (lf_ref04_Reads_5 F b0 b1 i1 i2 i3 i4 i5 100000 l0 i0))
    | _, _, _, _, _, _, _ => none
  else none
/-- Loop 2 of isa.Find. -/
def lf_isa_Find_2 (F : Tab) (s0 : List UInt8) (l0 : List AV) : Nat → Int → LO
  | 0, _ => LO.bad
  | fuel + 1, i0 =>
    cond (decide (i0 < 49))
     (cond (inB i0 49)
      (cond (cond (!(s0 == [])) ((strOf ((partsOf (l0.getD i0.toNat .dead)).getD 0 .dead)) == s0) false)
       (⟨1, [i0], [], [], [], [], []⟩)
       (lf_isa_Find_2 F s0 l0 fuel (IntKind.i64.wrap (i0 + 1))))
      (LO.bad))
     (⟨2, [], [], [], [], [], []⟩)
def lt_isa_Find_2 (s0 : List UInt8) (l0 : List AV) (lo : LO) : LT :=
  .br (lo.k == 1) (.done .ret (mkFr 20 [(2, .int .i64 (lo.i.getD 0 0))] []) ⟨[], []⟩) (.br (lo.k == 2) (.done (.exit 0) (mkFr 20 [] []) ⟨[], []⟩) (.fail))
def lp_isa_Find_2 (F : Tab) (dep : Nat) (fr : Fr) (M : Mm) : Option LT :=
  if okFr 20 [0, 5, 6] fr then
    match fr.tmps.getD 0 .dead, fr.tmps.getD 5 .dead, fr.tmps.getD 6 .dead, fr.tf, M with
    | .str s0, .agg 67 l0, .int .i64 i0, [], ⟨[], []⟩ => some (lt_isa_Find_2 s0 l0 (lf_isa_Find_2 F s0 l0 100000 i0))
    | _, _, _, _, _ => none
  else none
/-- Loop 3 of ref04.Find. -/
def lf_ref04_Find_3 (F : Tab) (s0 : List UInt8) (l0 : List AV) : Nat → Int → LO
  | 0, _ => LO.bad
  | fuel + 1, i0 =>
    cond (decide (i0 < ((l0.length : Nat) : Int)))
     (cond (cond (inB i0 l0.length) true false)
      (cond (cond ((strOf (l0.getD i0.toNat .dead)) == s0) (!(s0 == [])) false)
       (⟨1, [i0], [], [], [], [], []⟩)
       (lf_ref04_Find_3 F s0 l0 fuel (IntKind.i64.wrap (i0 + 1))))
      (LO.bad))
     (⟨2, [], [], [], [], [], []⟩)
def lt_ref04_Find_3 (s0 : List UInt8) (l0 : List AV) (lo : LO) : LT :=
  .br (lo.k == 1) (.done .ret (mkFr 23 [(2, .int .i64 (lo.i.getD 0 0))] []) ⟨[], []⟩) (.br (lo.k == 2) (.done (.exit 0) (mkFr 23 [] []) ⟨[], []⟩) (.fail))
def lp_ref04_Find_3 (F : Tab) (dep : Nat) (fr : Fr) (M : Mm) : Option LT :=
  if okFr 23 [0, 3, 4] fr then
    match fr.tmps.getD 0 .dead, fr.tmps.getD 3 .dead, fr.tmps.getD 4 .dead, fr.tf, M with
    | .str s0, .slice 9 l0 false, .int .i64 i0, [], ⟨[], []⟩ => some (lt_ref04_Find_3 s0 l0 (lf_ref04_Find_3 F s0 l0 100000 i0))
    | _, _, _, _, _ => none
  else none
def kn : List FuncId := [3, 4, 5, 6, 7, 8, 9, 10, 11, 12, 13, 14, 15, 16, 17, 18, 19, 20, 21, 22, 23, 24, 25, 26, 27, 28, 29, 30, 31, 32, 34, 35, 36, 37, 39, 40]
noncomputable def cx (F : Tab) : Ctx where
  P := Pg
  n := 100000
  muta := fun f => memN f []
  spec := specT Pg kn F
  kept := fun f id => match f, id with
    | 6, 5 => some ([5, 7], [4])
    | 7, 5 => some ([1, 2, 5, 20, 21, 22], [1, 2, 4])
    | 16, 4 => some ([0, 1, 5], [4])
    | 17, 10 => some ([4, 55, 56], [4])
    | 18, 5 => some ([1, 3, 4, 5, 6], [5])
    | 25, 2 => some ([0, 5, 6], [2])
    | 32, 3 => some ([0, 3, 4], [2])
    | _, _ => none
  ends := fun dep f id fr M => match f, id with
    | 6, 5 => lp_law04_IsaNamesAreOneToOne_5 F dep fr M
    | 7, 5 => lp_law04_IsaTargetsTurnBack_5 F dep fr M
    | 16, 4 => lp_ref04_Same_4 F dep fr M
    | 17, 10 => lp_isa_Reads_10 F dep fr M
    | 18, 5 => lp_ref04_Reads_5 F dep fr M
    | 25, 2 => lp_isa_Find_2 F dep fr M
    | 32, 3 => lp_ref04_Find_3 F dep fr M
    | _, _ => none
end Go.Proofs.Ytadjlohgmfclpaa
