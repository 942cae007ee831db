/- What the functions return, in terms of what they call. (Printed by a program of mine, gen.py.) -/
import Derived.Test.YtcknhfnbdgleiaaTaC
set_option linter.unusedVariables false
set_option linter.unusedSimpArgs false
namespace Go.Proofs.Ytcknhfnbdgleiaa
open Go.AE
set_option maxRecDepth 100000 in
theorem nf_ref10_MapLarge (F : Tab) (l0 : List AV) (a0 a1 a2 a3 : Int) : fnV (cx F) 6 30 [.agg 23 [.slice 118 l0 false], .int .u32 a0, .int .u32 a1, .int .u32 a2, .int .i64 a3] =
  (let x0 : Bool := !(boolOf (valT F 72 [.agg 23 [.slice 118 l0 false], .int .i64 (IntKind.i64.wrap a2)]));
   let x1 : Bool := !(boolOf (valT F 83 [.int .i64 a3]));
   let x2 : List AV := partsOf (valT F 84 [.agg 23 [.slice 118 l0 false], .int .i64 (IntKind.i64.wrap a0), .int .i64 (IntKind.i64.wrap a1)]);
   cond (condB (decide ((131072 : Int) ≤ (IntKind.i64.wrap a1))) true (condB (((IntKind.i64.wrap a1).tmod 4096) != 0) true (cond (okT Pg F 72 [.agg 23 [.slice 118 l0 false], .int .i64 (IntKind.i64.wrap a2)]) (condB x0 true (condB ((a2.tmod 4096) != 0) true (cond (okT Pg F 83 [.int .i64 a3]) (condB x1 true (condB (a0 == 0) true (cond (okT Pg F 72 [.agg 23 [.slice 118 l0 false], .int .i64 (IntKind.i64.wrap a0)]) true false))) false))) false)))
    (cond (cond (decide ((131072 : Int) ≤ (IntKind.i64.wrap a1))) true (cond (((IntKind.i64.wrap a1).tmod 4096) != 0) true (cond x0 true (cond ((a2.tmod 4096) != 0) true (cond x1 true (cond (a0 == 0) true (!(boolOf (valT F 72 [.agg 23 [.slice 118 l0 false], .int .i64 (IntKind.i64.wrap a0)])))))))))
     (some (.agg 58 [.agg 23 [.slice 118 l0 false], .int .i64 1]))
     (cond (okT Pg F 84 [.agg 23 [.slice 118 l0 false], .int .i64 (IntKind.i64.wrap a0), .int .i64 (IntKind.i64.wrap a1)])
      (cond (boolOf (x2.getD 2 .dead))
       (some (.agg 58 [.agg 23 [.slice 118 l0 false], .int .i64 6]))
       (cond (okT Pg F 87 [.agg 23 [.slice 118 l0 false], .int .i64 (intOf (x2.getD 0 .dead)), .int .i64 (IntKind.i64.wrap ((IntKind.i64.wrap ((IntKind.i64.wrap ((IntKind.i64.wrap a2) + 1)) + 64)) + a3))])
        (some (.agg 58 [.agg 23 [.slice 118 (listOf ((partsOf (valT F 87 [.agg 23 [.slice 118 l0 false], .int .i64 (intOf (x2.getD 0 .dead)), .int .i64 (IntKind.i64.wrap ((IntKind.i64.wrap ((IntKind.i64.wrap ((IntKind.i64.wrap a2) + 1)) + 64)) + a3))])).getD 0 .dead)) false], .int .i64 0]))
        (none)))
      (none)))
    (none)) := by kernel_rfl
set_option maxRecDepth 100000 in
theorem nf_ref10_Unmap (F : Tab) (l0 : List AV) (a0 a1 : Int) : fnV (cx F) 6 31 [.agg 23 [.slice 118 l0 false], .int .u32 a0, .int .u32 a1] =
  (let x0 : List AV := partsOf (valT F 84 [.agg 23 [.slice 118 l0 false], .int .i64 (IntKind.i64.wrap a0), .int .i64 (IntKind.i64.wrap a1)]);
   let x1 : Int := intOf (x0.getD 0 .dead);
   let x2 : Bool := boolOf (x0.getD 2 .dead);
   let x3 : Bool := boolOf (x0.getD 3 .dead);
   let x4 : Bool := boolOf (x0.getD 4 .dead);
   let x5 : Bool := okT Pg F 85 [.agg 165 [.int .i64 x1, .int .i64 (intOf (x0.getD 1 .dead)), .bool x2, .bool x3, .bool x4], .int .i64 (IntKind.i64.wrap a1)];
   let x6 : Int := intOf (valT F 85 [.agg 165 [.int .i64 x1, .int .i64 (intOf (x0.getD 1 .dead)), .bool x2, .bool x3, .bool x4], .int .i64 (IntKind.i64.wrap a1)]);
   cond (condB (decide ((131072 : Int) ≤ (IntKind.i64.wrap a1))) true (condB (a0 == 0) true (cond (okT Pg F 72 [.agg 23 [.slice 118 l0 false], .int .i64 (IntKind.i64.wrap a0)]) true false)))
    (cond (cond (decide ((131072 : Int) ≤ (IntKind.i64.wrap a1))) true (cond (a0 == 0) true (!(boolOf (valT F 72 [.agg 23 [.slice 118 l0 false], .int .i64 (IntKind.i64.wrap a0)])))))
     (some (.agg 58 [.agg 23 [.slice 118 l0 false], .int .i64 1]))
     (cond (okT Pg F 84 [.agg 23 [.slice 118 l0 false], .int .i64 (IntKind.i64.wrap a0), .int .i64 (IntKind.i64.wrap a1)])
      (cond (cond x2 (!x3) false)
       (some (.agg 58 [.agg 23 [.slice 118 l0 false], .int .i64 3]))
       (cond (!x2)
        (some (.agg 58 [.agg 23 [.slice 118 l0 false], .int .i64 5]))
        (cond x4
         (cond (okT Pg F 87 [.agg 23 [.slice 118 l0 false], .int .i64 x1, .int .i64 0])
          (some (.agg 58 [.agg 23 [.slice 118 (listOf ((partsOf (valT F 87 [.agg 23 [.slice 118 l0 false], .int .i64 x1, .int .i64 0])).getD 0 .dead)) false], .int .i64 0]))
          (none))
         (cond (cond x5 (cond (okT Pg F 88 [.agg 23 [.slice 118 l0 false], .int .i64 x6]) (cond (okT Pg F 74 [.int .i64 (intOf (valT F 88 [.agg 23 [.slice 118 l0 false], .int .i64 x6])), .int .i64 1]) true false) false) false)
          (cond (!(boolOf (valT F 74 [.int .i64 (intOf (valT F 88 [.agg 23 [.slice 118 l0 false], .int .i64 x6])), .int .i64 1])))
           (some (.agg 58 [.agg 23 [.slice 118 l0 false], .int .i64 5]))
           (cond (cond x5 (cond (okT Pg F 87 [.agg 23 [.slice 118 l0 false], .int .i64 x6, .int .i64 0]) true false) false)
            (some (.agg 58 [.agg 23 [.slice 118 (listOf ((partsOf (valT F 87 [.agg 23 [.slice 118 l0 false], .int .i64 x6, .int .i64 0])).getD 0 .dead)) false], .int .i64 0]))
            (none)))
          (none)))))
      (none)))
    (none)) := by kernel_rfl
set_option maxRecDepth 100000 in
theorem nf_ref06_Same (F : Tab) (l0 l1 : List AV) : fnV (cx F) 6 32 [.agg 23 [.slice 118 l0 false], .agg 23 [.slice 118 l1 false]] =
  cond (okT Pg F 89 [.agg 23 [.slice 118 l0 false], .agg 23 [.slice 118 l1 false]])
    (some (.bool ((((listOf (valT F 89 [.agg 23 [.slice 118 l0 false], .agg 23 [.slice 118 l1 false]])).length : Nat) : Int) == 0)))
    (none) := by kernel_rfl
set_option maxRecDepth 100000 in
theorem nf_ref10_SameMappings (F : Tab) (l0 l1 : List AV) : fnV (cx F) 6 33 [.slice 52 l0 false, .slice 52 l1 false] =
  cond (((l0.length : Nat) : Int) != ((l1.length : Nat) : Int))
    (some (.bool false))
    (cond ((lf_ref10_SameMappings_4 F l0 l1 100000 0).k == 1)
     (some (.bool false))
     (cond ((lf_ref10_SameMappings_4 F l0 l1 100000 0).k == 2)
      (some (.bool true))
      (none))) := by kernel_rfl
set_option maxRecDepth 100000 in
theorem nf_ref10_List (F : Tab) (l0 : List AV) (a0 : Int) : fnV (cx F) 6 34 [.agg 23 [.slice 118 l0 false], .int .u32 a0] =
  cond (condB (a0 == 0) true (cond (okT Pg F 72 [.agg 23 [.slice 118 l0 false], .int .i64 (IntKind.i64.wrap a0)]) true false))
    (cond (cond (a0 == 0) true (!(boolOf (valT F 72 [.agg 23 [.slice 118 l0 false], .int .i64 (IntKind.i64.wrap a0)]))))
     (some (.slice 52 [] false))
     (cond ((lf_ref10_List_5 F a0 l0 100000 [] 0).k == 1)
      (some (.slice 52 ((lf_ref10_List_5 F a0 l0 100000 [] 0).l.getD 0 []) false))
      (none)))
    (none) := by kernel_rfl
set_option maxRecDepth 100000 in
theorem nf_ref06_Store (F : Tab) (l0 : List AV) (a0 a1 a2 : Int) : fnV (cx F) 6 57 [.agg 23 [.slice 118 l0 false], .agg 41 [.int .i64 a0, .int .i64 a1, .int .u32 a2]] =
  cond (okT Pg F 115 [.agg 23 [.slice 118 l0 false], .int .i64 a0, .int .i64 a1])
    (cond (!(boolOf (valT F 115 [.agg 23 [.slice 118 l0 false], .int .i64 a0, .int .i64 a1])))
     (some (.agg 128 [.agg 23 [.slice 118 l0 false], .bool false]))
     (cond (decide (((0 + l0.length) * 128) ≤ 140737488355328))
      (cond (decide ((0 : Nat) < l0.length))
       (cond ((lf_ref06_Store_6 F l0 a0 a1 a2 l0 l0.length l0.length 100000 0 l0).k == 1)
        (some (.agg 128 [.agg 23 [.slice 118 (sub ((lf_ref06_Store_6 F l0 a0 a1 a2 l0 l0.length l0.length 100000 0 l0).l.getD 0 []) 0 (0 + l0.length)) false], .bool true]))
        (none))
       (none))
      (none)))
    (none) := by kernel_rfl
set_option maxRecDepth 100000 in
theorem nf_memory_New (F : Tab) (a0 : Int) : fnV (cx F) 6 62 [.int .i64 a0] =
  cond (cond (decide (a0 < 1)) true (decide ((64 : Int) < a0)))
    (some (.tuple [.agg 23 [.slice 118 [] false], .int .i64 1]))
    (cond (((decide ((0 : Int) ≤ a0)) && (decide ((a0 * 128) ≤ 140737488355328))) && (decide (a0 ≤ 140737488355328)))
     (some (.tuple [.agg 23 [.slice 118 (sub (List.replicate a0.toNat (.agg 117 [.int .u8 0, .int .u8 0, .int .u8 0, .int .u8 0, .int .u8 0, .int .u8 0, .int .u8 0, .int .u8 0, .int .u8 0, .int .u8 0, .int .u8 0, .int .u8 0, .int .u8 0, .int .u8 0, .int .u8 0, .int .u8 0, .int .u8 0, .int .u8 0, .int .u8 0, .int .u8 0, .int .u8 0, .int .u8 0, .int .u8 0, .int .u8 0, .int .u8 0, .int .u8 0, .int .u8 0, .int .u8 0, .int .u8 0, .int .u8 0, .int .u8 0, .int .u8 0, .int .u8 0, .int .u8 0, .int .u8 0, .int .u8 0, .int .u8 0, .int .u8 0, .int .u8 0, .int .u8 0, .int .u8 0, .int .u8 0, .int .u8 0, .int .u8 0, .int .u8 0, .int .u8 0, .int .u8 0, .int .u8 0, .int .u8 0, .int .u8 0, .int .u8 0, .int .u8 0, .int .u8 0, .int .u8 0, .int .u8 0, .int .u8 0, .int .u8 0, .int .u8 0, .int .u8 0, .int .u8 0, .int .u8 0, .int .u8 0, .int .u8 0, .int .u8 0, .int .u8 0, .int .u8 0, .int .u8 0, .int .u8 0, .int .u8 0, .int .u8 0, .int .u8 0, .int .u8 0, .int .u8 0, .int .u8 0, .int .u8 0, .int .u8 0, .int .u8 0, .int .u8 0, .int .u8 0, .int .u8 0, .int .u8 0, .int .u8 0, .int .u8 0, .int .u8 0, .int .u8 0, .int .u8 0, .int .u8 0, .int .u8 0, .int .u8 0, .int .u8 0, .int .u8 0, .int .u8 0, .int .u8 0, .int .u8 0, .int .u8 0, .int .u8 0, .int .u8 0, .int .u8 0, .int .u8 0, .int .u8 0, .int .u8 0, .int .u8 0, .int .u8 0, .int .u8 0, .int .u8 0, .int .u8 0, .int .u8 0, .int .u8 0, .int .u8 0, .int .u8 0, .int .u8 0, .int .u8 0, .int .u8 0, .int .u8 0, .int .u8 0, .int .u8 0, .int .u8 0, .int .u8 0, .int .u8 0, .int .u8 0, .int .u8 0, .int .u8 0, .int .u8 0, .int .u8 0, .int .u8 0, .int .u8 0, .int .u8 0, .int .u8 0])) 0 (0 + a0.toNat)) false], .int .i64 0]))
     (none)) := by kernel_rfl
set_option maxRecDepth 100000 in
theorem nf_table_paged (F : Tab) (l0 : List AV) (a0 : Int) : fnV (cx F) 6 65 [.agg 23 [.slice 118 l0 false], .int .u32 a0] =
  cond ((a0.tmod 128) == 0)
    (some (.bool (decide ((IntKind.i64.wrap a0) < (IntKind.i64.wrap (((l0.length : Nat) : Int) * 128))))))
    (some (.bool false)) := by kernel_rfl
set_option maxRecDepth 100000 in
theorem nf_table_load (F : Tab) (l0 : List AV) (a0 : Int) : fnV (cx F) 6 66 [.agg 23 [.slice 118 l0 false], .int .u32 a0] =
  cond (okT Pg F 23 [.agg 23 [.slice 118 l0 false], .int .i64 (IntKind.i64.wrap a0), .int .i64 4])
    (some (.int .u32 (intOf ((tupOf (valT F 23 [.agg 23 [.slice 118 l0 false], .int .i64 (IntKind.i64.wrap a0), .int .i64 4])).getD 0 .dead))))
    (none) := by kernel_rfl
set_option maxRecDepth 100000 in
theorem nf_table_entry_has (F : Tab) (a0 a1 : Int) : fnV (cx F) 6 67 [.int .u32 a0, .int .u32 a1] =
  some (.bool ((ibits .and .u32 a0 a1) == a1)) := by kernel_rfl
set_option maxRecDepth 100000 in
theorem nf_table_entry_right (F : Tab) (a0 : Int) (l0 : List AV) : fnV (cx F) 6 68 [.int .u32 a0, .agg 23 [.slice 118 l0 false]] =
  (let x0 : Int := intOf (valT F 69 [.int .u32 a0]);
   cond (okT Pg F 67 [.int .u32 a0, .int .u32 64])
    (cond (boolOf (valT F 67 [.int .u32 a0, .int .u32 64]))
     (cond (okT Pg F 69 [.int .u32 a0])
      (some (.bool ((x0.tmod 4096) == 0)))
      (none))
     (cond (condB ((ibits .and .u32 a0 62) == 0) (cond (okT Pg F 69 [.int .u32 a0]) (cond (okT Pg F 65 [.agg 23 [.slice 118 l0 false], .int .u32 x0]) true false) false) true)
      (some (.bool (cond ((ibits .and .u32 a0 62) == 0) (boolOf (valT F 65 [.agg 23 [.slice 118 l0 false], .int .u32 x0])) false)))
      (none)))
    (none)) := by kernel_rfl
set_option maxRecDepth 100000 in
theorem nf_table_entry_page (F : Tab) (a0 : Int) : fnV (cx F) 6 69 [.int .u32 a0] =
  some (.int .u32 (ibits .andNot .u32 a0 127)) := by kernel_rfl
set_option maxRecDepth 100000 in
theorem nf_ref10_Cause (F : Tab) (a0 : Int) : fnV (cx F) 6 70 [.int .i64 a0] =
  cond (a0 == 1)
    (some (.int .i64 5))
    (cond (a0 == 4)
     (some (.int .i64 4))
     (some (.int .i64 6))) := by kernel_rfl
set_option maxRecDepth 100000 in
theorem nf_ref06_Size (F : Tab) (l0 : List AV) : fnV (cx F) 6 71 [.agg 23 [.slice 118 l0 false]] =
  some (.int .i64 (IntKind.i64.wrap (((l0.length : Nat) : Int) * 128))) := by kernel_rfl
set_option maxRecDepth 100000 in
theorem nf_ref10_page (F : Tab) (l0 : List AV) (a0 : Int) : fnV (cx F) 6 72 [.agg 23 [.slice 118 l0 false], .int .i64 a0] =
  cond (condB (decide ((0 : Int) ≤ a0)) (condB ((a0.tmod 128) == 0) (cond (okT Pg F 71 [.agg 23 [.slice 118 l0 false]]) true false) true) true)
    (some (.bool (cond (decide ((0 : Int) ≤ a0)) (cond ((a0.tmod 128) == 0) (decide (a0 < (intOf (valT F 71 [.agg 23 [.slice 118 l0 false]])))) false) false)))
    (none) := by kernel_rfl
set_option maxRecDepth 100000 in
theorem nf_ref10_find (F : Tab) (l0 : List AV) (a0 a1 : Int) : fnV (cx F) 6 73 [.agg 23 [.slice 118 l0 false], .int .i64 a0, .int .i64 a1] =
  (let x0 : List AV := partsOf (valT F 84 [.agg 23 [.slice 118 l0 false], .int .i64 a0, .int .i64 a1]);
   let x1 : Int := intOf (x0.getD 0 .dead);
   let x2 : Int := intOf (x0.getD 1 .dead);
   let x3 : Bool := boolOf (x0.getD 2 .dead);
   let x4 : Bool := boolOf (x0.getD 3 .dead);
   let x5 : Bool := boolOf (x0.getD 4 .dead);
   let x6 : Int := intOf (valT F 85 [.agg 165 [.int .i64 x1, .int .i64 x2, .bool x3, .bool x4, .bool x5], .int .i64 a1]);
   let x7 : Int := intOf (valT F 88 [.agg 23 [.slice 118 l0 false], .int .i64 x6]);
   let x8 : Int := intOf (valT F 90 [.int .i64 x7]);
   let x9 : Bool := boolOf (valT F 74 [.int .i64 x7, .int .i64 1]);
   cond (okT Pg F 84 [.agg 23 [.slice 118 l0 false], .int .i64 a0, .int .i64 a1])
    (cond (cond (!x3) true (!x4))
     (some (.agg 150 [.int .i64 0, .int .i64 0, .int .i64 0, .slice 3 [.int .i64 x1] false, .bool false]))
     (cond x5
      (cond (cond (okT Pg F 90 [.int .i64 x2]) true false)
       (some (.agg 150 [.int .i64 x1, .int .i64 x2, .int .i64 (IntKind.i64.wrap ((intOf (valT F 90 [.int .i64 x2])) + (IntKind.i64.wrap (128 * ((IntKind.i64.wrap (a1.tdiv 128)).tmod 32))))), .slice 3 [.int .i64 x1] false, .bool true]))
       (none))
      (cond (okT Pg F 85 [.agg 165 [.int .i64 x1, .int .i64 x2, .bool x3, .bool x4, .bool x5], .int .i64 a1])
       (cond (okT Pg F 88 [.agg 23 [.slice 118 l0 false], .int .i64 x6])
        (cond (cond (okT Pg F 90 [.int .i64 x7]) (cond (okT Pg F 74 [.int .i64 x7, .int .i64 1]) (condB x9 (cond (okT Pg F 74 [.int .i64 x7, .int .i64 64]) true false) true) false) false)
         (some (.agg 150 [.int .i64 (cond x9 x6 x6), .int .i64 (cond x9 x7 x7), .int .i64 (cond x9 x8 x8), .slice 3 (cond x9 [.int .i64 x1, .int .i64 x6] [.int .i64 x1, .int .i64 x6]) false, .bool (cond x9 (!(boolOf (valT F 74 [.int .i64 x7, .int .i64 64]))) false)]))
         (none))
        (none))
       (none))))
    (none)) := by kernel_rfl
set_option maxRecDepth 100000 in
theorem nf_ref10_has (F : Tab) (a0 a1 : Int) : fnV (cx F) 6 74 [.int .i64 a0, .int .i64 a1] =
  cond (!(a1 == 0))
    (some (.bool (((IntKind.i64.wrap (a0.tdiv a1)).tmod 2) == 1)))
    (none) := by kernel_rfl
set_option maxRecDepth 100000 in
theorem nf_ref06_SameInts (F : Tab) (l0 l1 : List AV) : fnV (cx F) 6 75 [.slice 3 l0 false, .slice 3 l1 false] =
  cond (((l0.length : Nat) : Int) != ((l1.length : Nat) : Int))
    (some (.bool false))
    (cond ((lf_ref06_SameInts_4 F l0 l1 100000 0).k == 1)
     (some (.bool false))
     (cond ((lf_ref06_SameInts_4 F l0 l1 100000 0).k == 2)
      (some (.bool true))
      (none))) := by kernel_rfl
set_option maxRecDepth 100000 in
theorem nf_table_fits (F : Tab) (l0 : List AV) (a0 a1 a2 a3 a4 : Int) : fnV (cx F) 6 80 [.agg 23 [.slice 118 l0 false], .int .u32 a0, .int .u32 a1, .int .u32 a2, .int .i64 a3, .int .u32 a4] =
  (let x0 : Bool := boolOf (valT F 65 [.agg 23 [.slice 118 l0 false], .int .u32 a2]);
   cond (condB (decide (a1 < 131072)) (cond (!(a4 == 0)) (condB ((a1.tmod a4) == 0) (cond (okT Pg F 65 [.agg 23 [.slice 118 l0 false], .int .u32 a2]) (condB x0 (cond (!(a4 == 0)) (condB ((a2.tmod a4) == 0) (condB ((ibits .andNot .i64 a3 14) == 0) (condB (a0 != 0) (cond (okT Pg F 65 [.agg 23 [.slice 118 l0 false], .int .u32 a0]) true false) true) true) true) false) true) false) true) false) true)
    (some (.bool (cond (decide (a1 < 131072)) (cond ((a1.tmod a4) == 0) (cond x0 (cond ((a2.tmod a4) == 0) (cond ((ibits .andNot .i64 a3 14) == 0) (cond (a0 != 0) (boolOf (valT F 65 [.agg 23 [.slice 118 l0 false], .int .u32 a0])) false) false) false) false) false) false)))
    (none)) := by kernel_rfl
set_option maxRecDepth 100000 in
theorem nf_memory_Write (F : Tab) (l0 : List AV) (a0 : Int) (s0 : List UInt8) : fnV (cx F) 6 81 [.agg 23 [.slice 118 l0 false], .int .i64 a0, .str s0] =
  cond (decide (a0 < 0))
    (some (.tuple [.agg 23 [.slice 118 l0 false], .bool false]))
    (cond (decide ((IntKind.i64.wrap (((l0.length : Nat) : Int) * 128)) < a0))
     (some (.tuple [.agg 23 [.slice 118 l0 false], .bool false]))
     (cond (decide ((IntKind.i64.wrap ((IntKind.i64.wrap (((l0.length : Nat) : Int) * 128)) - a0)) < ((s0.length : Nat) : Int)))
      (some (.tuple [.agg 23 [.slice 118 l0 false], .bool false]))
      (cond (decide ((0 : Nat) < l0.length))
       (cond (decide (((0 + l0.length) * 128) ≤ 140737488355328))
        (cond (decide ((0 : Nat) < l0.length))
         (cond ((lf_memory_draft_put_1a F l0 l0.length l0.length 100000 a0 (s0.map byteAV) l0).k == 1)
          (some (.tuple [.agg 23 [.slice 118 (sub ((lf_memory_draft_put_1a F l0 l0.length l0.length 100000 a0 (s0.map byteAV) l0).l.getD 0 []) 0 (0 + l0.length)) false], .bool true]))
          (none))
         (none))
        (none))
       (none)))) := by kernel_rfl
set_option maxRecDepth 100000 in
theorem nf_table_set (F : Tab) (l0 : List AV) (a0 a1 : Int) : fnV (cx F) 6 82 [.agg 23 [.slice 118 l0 false], .int .u32 a0, .int .u32 a1] =
  cond (okT Pg F 93 [.agg 23 [.slice 118 l0 false], .agg 41 [.int .i64 (IntKind.i64.wrap a0), .int .i64 4, .int .u32 a1]])
    (some (.agg 23 [.slice 118 (listOf ((partsOf ((tupOf (valT F 93 [.agg 23 [.slice 118 l0 false], .agg 41 [.int .i64 (IntKind.i64.wrap a0), .int .i64 4, .int .u32 a1]])).getD 0 .dead)).getD 0 .dead)) false]))
    (none) := by kernel_rfl
set_option maxRecDepth 100000 in
theorem nf_ref10_rights (F : Tab) (a0 : Int) : fnV (cx F) 6 83 [.int .i64 a0] =
  some (.bool (cond (decide ((0 : Int) ≤ a0)) (cond ((a0.tmod 2) == 0) (decide (a0 ≤ 14)) false) false)) := by kernel_rfl
set_option maxRecDepth 100000 in
theorem nf_ref10_top (F : Tab) (l0 : List AV) (a0 a1 : Int) : fnV (cx F) 6 84 [.agg 23 [.slice 118 l0 false], .int .i64 a0, .int .i64 a1] =
  (let x0 : Int := IntKind.i64.wrap (a0 + (IntKind.i64.wrap (4 * (IntKind.i64.wrap (a1.tdiv 4096)))));
   let x1 : Int := intOf (valT F 88 [.agg 23 [.slice 118 l0 false], .int .i64 x0]);
   let x2 : Bool := boolOf (valT F 74 [.int .i64 x1, .int .i64 1]);
   let x3 : Bool := boolOf (valT F 74 [.int .i64 x1, .int .i64 64]);
   let x4 : Bool := okT Pg F 90 [.int .i64 x1];
   let x5 : Int := intOf (valT F 90 [.int .i64 x1]);
   let x6 : Bool := ((IntKind.i64.wrap (x1.tdiv 2)).tmod 32) == 0;
   cond (okT Pg F 88 [.agg 23 [.slice 118 l0 false], .int .i64 x0])
    (cond (okT Pg F 74 [.int .i64 x1, .int .i64 1])
     (cond (okT Pg F 74 [.int .i64 x1, .int .i64 64])
      (cond x3
       (cond x4
        (some (.agg 165 [.int .i64 x0, .int .i64 x1, .bool x2, .bool ((x5.tmod 4096) == 0), .bool x3]))
        (none))
       (cond (condB x6 (cond x4 (cond (okT Pg F 72 [.agg 23 [.slice 118 l0 false], .int .i64 x5]) true false) false) true)
        (some (.agg 165 [.int .i64 x0, .int .i64 x1, .bool x2, .bool (cond x6 (boolOf (valT F 72 [.agg 23 [.slice 118 l0 false], .int .i64 x5])) false), .bool x3]))
        (none)))
      (none))
     (none))
    (none)) := by kernel_rfl
set_option maxRecDepth 100000 in
theorem nf_ref10_below (F : Tab) (a0 a1 : Int) (b0 b1 b2 : Bool) (a2 : Int) : fnV (cx F) 6 85 [.agg 165 [.int .i64 a0, .int .i64 a1, .bool b0, .bool b1, .bool b2], .int .i64 a2] =
  cond (okT Pg F 90 [.int .i64 a1])
    (some (.int .i64 (IntKind.i64.wrap ((intOf (valT F 90 [.int .i64 a1])) + (IntKind.i64.wrap (4 * ((IntKind.i64.wrap (a2.tdiv 128)).tmod 32)))))))
    (none) := by kernel_rfl
set_option maxRecDepth 100000 in
theorem nf_ref06_Write (F : Tab) (l0 : List AV) (a0 : Int) (s0 : List UInt8) : fnV (cx F) 6 86 [.agg 23 [.slice 118 l0 false], .int .i64 a0, .str s0] =
  (let x0 : Bool := okT Pg F 71 [.agg 23 [.slice 118 l0 false]];
   let x1 : Int := intOf (valT F 71 [.agg 23 [.slice 118 l0 false]]);
   let x2 : Bool := decide (x1 < a0);
   cond (condB (decide (a0 < 0)) true (cond x0 (condB x2 true (cond x0 true false)) false))
    (cond (cond (decide (a0 < 0)) true (cond x2 true (decide ((IntKind.i64.wrap (x1 - a0)) < ((s0.length : Nat) : Int)))))
     (some (.agg 128 [.agg 23 [.slice 118 l0 false], .bool false]))
     (cond (decide (((0 + l0.length) * 128) ≤ 140737488355328))
      (cond (decide ((0 : Nat) < l0.length))
       (cond ((lf_ref06_Write_5 F a0 s0 l0 l0 l0.length l0.length 100000 0 l0).k == 1)
        (some (.agg 128 [.agg 23 [.slice 118 (sub ((lf_ref06_Write_5 F a0 s0 l0 l0 l0.length l0.length 100000 0 l0).l.getD 0 []) 0 (0 + l0.length)) false], .bool true]))
        (none))
       (none))
      (none)))
    (none)) := by kernel_rfl
set_option maxRecDepth 100000 in
theorem nf_ref10_set (F : Tab) (l0 : List AV) (a0 a1 : Int) : fnV (cx F) 6 87 [.agg 23 [.slice 118 l0 false], .int .i64 a0, .int .i64 a1] =
  cond (okT Pg F 57 [.agg 23 [.slice 118 l0 false], .agg 41 [.int .i64 a0, .int .i64 4, .int .u32 (IntKind.u32.wrap a1)]])
    (some (.agg 23 [.slice 118 (listOf ((partsOf ((partsOf (valT F 57 [.agg 23 [.slice 118 l0 false], .agg 41 [.int .i64 a0, .int .i64 4, .int .u32 (IntKind.u32.wrap a1)]])).getD 0 .dead)).getD 0 .dead)) false]))
    (none) := by kernel_rfl
set_option maxRecDepth 100000 in
theorem nf_ref10_word (F : Tab) (l0 : List AV) (a0 : Int) : fnV (cx F) 6 88 [.agg 23 [.slice 118 l0 false], .int .i64 a0] =
  cond (okT Pg F 123 [.agg 23 [.slice 118 l0 false], .int .i64 a0, .int .i64 4])
    (some (.int .i64 (IntKind.i64.wrap (intOf ((partsOf (valT F 123 [.agg 23 [.slice 118 l0 false], .int .i64 a0, .int .i64 4])).getD 0 .dead)))))
    (none) := by kernel_rfl
set_option maxRecDepth 100000 in
theorem nf_ref06_Diff (F : Tab) (l0 l1 : List AV) : fnV (cx F) 6 89 [.agg 23 [.slice 118 l0 false], .agg 23 [.slice 118 l1 false]] =
  cond ((lf_ref06_Diff_3 F l0 l1 100000 [] 0).k == 1)
    (some (.slice 3 ((lf_ref06_Diff_3 F l0 l1 100000 [] 0).l.getD 0 []) false))
    (none) := by kernel_rfl
set_option maxRecDepth 100000 in
theorem nf_ref10_address (F : Tab) (a0 : Int) : fnV (cx F) 6 90 [.int .i64 a0] =
  some (.int .i64 (IntKind.i64.wrap ((IntKind.i64.wrap (a0.tdiv 128)) * 128))) := by kernel_rfl
set_option maxRecDepth 100000 in
theorem nf_memory_Store (F : Tab) (l0 : List AV) (a0 a1 a2 : Int) : fnV (cx F) 6 93 [.agg 23 [.slice 118 l0 false], .agg 41 [.int .i64 a0, .int .i64 a1, .int .u32 a2]] =
  (let x0 : List AV := tupOf (valT F 24 [.agg 23 [.slice 118 l0 false], .slice 42 [.agg 41 [.int .i64 a0, .int .i64 a1, .int .u32 a2]] false]);
   cond (okT Pg F 24 [.agg 23 [.slice 118 l0 false], .slice 42 [.agg 41 [.int .i64 a0, .int .i64 a1, .int .u32 a2]] false])
    (some (.tuple [.agg 23 [.slice 118 (listOf ((partsOf (x0.getD 0 .dead)).getD 0 .dead)) false], .bool (boolOf (x0.getD 1 .dead))]))
    (none)) := by kernel_rfl
set_option maxRecDepth 100000 in
theorem nf_ref06_There (F : Tab) (l0 : List AV) (a0 a1 : Int) : fnV (cx F) 6 115 [.agg 23 [.slice 118 l0 false], .int .i64 a0, .int .i64 a1] =
  cond (cond (a1 != 1) (a1 != 4) false)
    (some (.bool false))
    (cond (condB (decide ((0 : Int) ≤ a0)) (cond (!(a1 == 0)) (condB ((a0.tmod a1) == 0) (cond (okT Pg F 71 [.agg 23 [.slice 118 l0 false]]) true false) true) false) true)
     (some (.bool (cond (decide ((0 : Int) ≤ a0)) (cond ((a0.tmod a1) == 0) (decide (a0 ≤ (IntKind.i64.wrap ((intOf (valT F 71 [.agg 23 [.slice 118 l0 false]])) - a1)))) false) false)))
     (none)) := by kernel_rfl
set_option maxRecDepth 100000 in
theorem nf_ref06_Load (F : Tab) (l0 : List AV) (a0 a1 : Int) : fnV (cx F) 6 123 [.agg 23 [.slice 118 l0 false], .int .i64 a0, .int .i64 a1] =
  cond (okT Pg F 115 [.agg 23 [.slice 118 l0 false], .int .i64 a0, .int .i64 a1])
    (cond (!(boolOf (valT F 115 [.agg 23 [.slice 118 l0 false], .int .i64 a0, .int .i64 a1])))
     (some (.agg 198 [.int .u32 0, .bool false]))
     (cond ((lf_ref06_Load_6 F a0 l0 100000 0 (IntKind.i64.wrap (a1 - 1))).k == 1)
      (some (.agg 198 [.int .u32 ((lf_ref06_Load_6 F a0 l0 100000 0 (IntKind.i64.wrap (a1 - 1))).i.getD 0 0), .bool true]))
      (none)))
    (none) := by kernel_rfl
set_option maxRecDepth 100000 in
theorem nf_ref06_Byte (F : Tab) (l0 : List AV) (a0 : Int) : fnV (cx F) 6 154 [.agg 23 [.slice 118 l0 false], .int .i64 a0] =
  cond (inB (IntKind.i64.wrap (a0.tdiv 128)) l0.length)
    (cond (inB (a0.tmod 128) 128)
     (some (.int .u8 (intOf ((partsOf (l0.getD ((IntKind.i64.wrap (a0.tdiv 128)).toNat) .dead)).getD ((a0.tmod 128).toNat) .dead))))
     (none))
    (none) := by kernel_rfl
end Go.Proofs.Ytcknhfnbdgleiaa
