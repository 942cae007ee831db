/- What the functions return, in terms of what they call. (Printed by a program of mine, gen.py.) -/
import Derived.Test.YtcknhfnbdgleiaaTbC
set_option linter.unusedVariables false
set_option linter.unusedSimpArgs false
namespace Go.Proofs.Ytcknhfnbdgleiaa
open Go.AE
set_option maxRecDepth 100000 in
theorem nf_table_fits (F : Tab) (l0 : List AV) (a0 a1 a2 a3 a4 : Int) : fnV (cx F) 6 80 [.agg 23 [.slice 118 l0 false], .int .u32 a0, .int .u32 a1, .int .u32 a2, .int .i64 a3, .int .u32 a4] =
  (let x0 : Bool := boolOf (valT F 65 [.agg 23 [.slice 118 l0 false], .int .u32 a2]);
   cond (condB (decide (a1 < 131072)) (cond (!(a4 == 0)) (condB ((a1.tmod a4) == 0) (cond (okT Pg F 65 [.agg 23 [.slice 118 l0 false], .int .u32 a2]) (condB x0 (cond (!(a4 == 0)) (condB ((a2.tmod a4) == 0) (condB ((ibits .andNot .i64 a3 14) == 0) (condB (a0 != 0) (cond (okT Pg F 65 [.agg 23 [.slice 118 l0 false], .int .u32 a0]) true false) true) true) true) false) true) false) true) false) true)
    (some (.bool (cond (decide (a1 < 131072)) (cond ((a1.tmod a4) == 0) (cond x0 (cond ((a2.tmod a4) == 0) (cond ((ibits .andNot .i64 a3 14) == 0) (cond (a0 != 0) (boolOf (valT F 65 [.agg 23 [.slice 118 l0 false], .int .u32 a0])) false) false) false) false) false) false)))
    (none)) := by kernel_rfl
set_option maxRecDepth 100000 in
theorem nf_memory_Write (F : Tab) (l0 : List AV) (a0 : Int) (s0 : List UInt8) : fnV (cx F) 6 81 [.agg 23 [.slice 118 l0 false], .int .i64 a0, .str s0] =
  cond (decide (a0 < 0))
    (some (.tuple [.agg 23 [.slice 118 l0 false], .bool false]))
    (cond (decide ((IntKind.i64.wrap (((l0.length : Nat) : Int) * 128)) < a0))
     (some (.tuple [.agg 23 [.slice 118 l0 false], .bool false]))
     (cond (decide ((IntKind.i64.wrap ((IntKind.i64.wrap (((l0.length : Nat) : Int) * 128)) - a0)) < ((s0.length : Nat) : Int)))
      (some (.tuple [.agg 23 [.slice 118 l0 false], .bool false]))
      (cond (decide ((0 : Nat) < l0.length))
       (cond (decide (((0 + l0.length) * 128) ≤ 140737488355328))
        (cond (decide ((0 : Nat) < l0.length))
         (cond ((lf_memory_draft_put_1a F l0 l0.length l0.length 100000 a0 (s0.map byteAV) l0).k == 1)
          (some (.tuple [.agg 23 [.slice 118 (sub ((lf_memory_draft_put_1a F l0 l0.length l0.length 100000 a0 (s0.map byteAV) l0).l.getD 0 []) 0 (0 + l0.length)) false], .bool true]))
          (none))
         (none))
        (none))
       (none)))) := by kernel_rfl
set_option maxRecDepth 100000 in
theorem nf_table_set (F : Tab) (l0 : List AV) (a0 a1 : Int) : fnV (cx F) 6 82 [.agg 23 [.slice 118 l0 false], .int .u32 a0, .int .u32 a1] =
  cond (okT Pg F 93 [.agg 23 [.slice 118 l0 false], .agg 41 [.int .i64 (IntKind.i64.wrap a0), .int .i64 4, .int .u32 a1]])
    (some (.agg 23 [.slice 118 (listOf ((partsOf ((tupOf (valT F 93 [.agg 23 [.slice 118 l0 false], .agg 41 [.int .i64 (IntKind.i64.wrap a0), .int .i64 4, .int .u32 a1]])).getD 0 .dead)).getD 0 .dead)) false]))
    (none) := by kernel_rfl
set_option maxRecDepth 100000 in
theorem nf_ref10_rights (F : Tab) (a0 : Int) : fnV (cx F) 6 83 [.int .i64 a0] =
  some (.bool (cond (decide ((0 : Int) ≤ a0)) (cond ((a0.tmod 2) == 0) (decide (a0 ≤ 14)) false) false)) := by kernel_rfl
set_option maxRecDepth 100000 in
theorem nf_ref10_top (F : Tab) (l0 : List AV) (a0 a1 : Int) : fnV (cx F) 6 84 [.agg 23 [.slice 118 l0 false], .int .i64 a0, .int .i64 a1] =
  (let x0 : Int := IntKind.i64.wrap (a0 + (IntKind.i64.wrap (4 * (IntKind.i64.wrap (a1.tdiv 4096)))));
   let x1 : Int := intOf (valT F 88 [.agg 23 [.slice 118 l0 false], .int .i64 x0]);
   let x2 : Bool := boolOf (valT F 74 [.int .i64 x1, .int .i64 1]);
   let x3 : Bool := boolOf (valT F 74 [.int .i64 x1, .int .i64 64]);
   let x4 : Bool := okT Pg F 90 [.int .i64 x1];
   let x5 : Int := intOf (valT F 90 [.int .i64 x1]);
   let x6 : Bool := ((IntKind.i64.wrap (x1.tdiv 2)).tmod 32) == 0;
   cond (okT Pg F 88 [.agg 23 [.slice 118 l0 false], .int .i64 x0])
    (cond (okT Pg F 74 [.int .i64 x1, .int .i64 1])
     (cond (okT Pg F 74 [.int .i64 x1, .int .i64 64])
      (cond x3
       (cond x4
        (some (.agg 165 [.int .i64 x0, .int .i64 x1, .bool x2, .bool ((x5.tmod 4096) == 0), .bool x3]))
        (none))
       (cond (condB x6 (cond x4 (cond (okT Pg F 72 [.agg 23 [.slice 118 l0 false], .int .i64 x5]) true false) false) true)
        (some (.agg 165 [.int .i64 x0, .int .i64 x1, .bool x2, .bool (cond x6 (boolOf (valT F 72 [.agg 23 [.slice 118 l0 false], .int .i64 x5])) false), .bool x3]))
        (none)))
      (none))
     (none))
    (none)) := by kernel_rfl
set_option maxRecDepth 100000 in
theorem nf_ref10_below (F : Tab) (a0 a1 : Int) (b0 b1 b2 : Bool) (a2 : Int) : fnV (cx F) 6 85 [.agg 165 [.int .i64 a0, .int .i64 a1, .bool b0, .bool b1, .bool b2], .int .i64 a2] =
  cond (okT Pg F 90 [.int .i64 a1])
    (some (.int .i64 (IntKind.i64.wrap ((intOf (valT F 90 [.int .i64 a1])) + (IntKind.i64.wrap (4 * ((IntKind.i64.wrap (a2.tdiv 128)).tmod 32)))))))
    (none) := by kernel_rfl
set_option maxRecDepth 100000 in
theorem nf_ref06_Write (F : Tab) (l0 : List AV) (a0 : Int) (s0 : List UInt8) : fnV (cx F) 6 86 [.agg 23 [.slice 118 l0 false], .int .i64 a0, .str s0] =
  (let x0 : Bool := okT Pg F 71 [.agg 23 [.slice 118 l0 false]];
   let x1 : Int := intOf (valT F 71 [.agg 23 [.slice 118 l0 false]]);
   let x2 : Bool := decide (x1 < a0);
   cond (condB (decide (a0 < 0)) true (cond x0 (condB x2 true (cond x0 true false)) false))
    (cond (cond (decide (a0 < 0)) true (cond x2 true (decide ((IntKind.i64.wrap (x1 - a0)) < ((s0.length : Nat) : Int)))))
     (some (.agg 128 [.agg 23 [.slice 118 l0 false], .bool false]))
     (cond (decide (((0 + l0.length) * 128) ≤ 140737488355328))
      (cond (decide ((0 : Nat) < l0.length))
       (cond ((lf_ref06_Write_5 F a0 s0 l0 l0 l0.length l0.length 100000 0 l0).k == 1)
        (some (.agg 128 [.agg 23 [.slice 118 (sub ((lf_ref06_Write_5 F a0 s0 l0 l0 l0.length l0.length 100000 0 l0).l.getD 0 []) 0 (0 + l0.length)) false], .bool true]))
        (none))
       (none))
      (none)))
    (none)) := by kernel_rfl
set_option maxRecDepth 100000 in
theorem nf_ref10_set (F : Tab) (l0 : List AV) (a0 a1 : Int) : fnV (cx F) 6 87 [.agg 23 [.slice 118 l0 false], .int .i64 a0, .int .i64 a1] =
  cond (okT Pg F 57 [.agg 23 [.slice 118 l0 false], .agg 41 [.int .i64 a0, .int .i64 4, .int .u32 (IntKind.u32.wrap a1)]])
    (some (.agg 23 [.slice 118 (listOf ((partsOf ((partsOf (valT F 57 [.agg 23 [.slice 118 l0 false], .agg 41 [.int .i64 a0, .int .i64 4, .int .u32 (IntKind.u32.wrap a1)]])).getD 0 .dead)).getD 0 .dead)) false]))
    (none) := by kernel_rfl
set_option maxRecDepth 100000 in
theorem nf_ref10_word (F : Tab) (l0 : List AV) (a0 : Int) : fnV (cx F) 6 88 [.agg 23 [.slice 118 l0 false], .int .i64 a0] =
  cond (okT Pg F 123 [.agg 23 [.slice 118 l0 false], .int .i64 a0, .int .i64 4])
    (some (.int .i64 (IntKind.i64.wrap (intOf ((partsOf (valT F 123 [.agg 23 [.slice 118 l0 false], .int .i64 a0, .int .i64 4])).getD 0 .dead)))))
    (none) := by kernel_rfl
set_option maxRecDepth 100000 in
theorem nf_ref06_Diff (F : Tab) (l0 l1 : List AV) : fnV (cx F) 6 89 [.agg 23 [.slice 118 l0 false], .agg 23 [.slice 118 l1 false]] =
  cond ((lf_ref06_Diff_3 F l0 l1 100000 [] 0).k == 1)
    (some (.slice 3 ((lf_ref06_Diff_3 F l0 l1 100000 [] 0).l.getD 0 []) false))
    (none) := by kernel_rfl
set_option maxRecDepth 100000 in
theorem nf_ref10_address (F : Tab) (a0 : Int) : fnV (cx F) 6 90 [.int .i64 a0] =
  some (.int .i64 (IntKind.i64.wrap ((IntKind.i64.wrap (a0.tdiv 128)) * 128))) := by kernel_rfl
set_option maxRecDepth 100000 in
theorem nf_ref25_find (F : Tab) (l0 : List AV) (a0 a1 : Int) : fnV (cx F) 6 91 [.agg 67 [.slice 70 l0 false], .int .u32 a0, .int .i64 a1] =
  cond ((lf_ref25_find_2 F a0 a1 l0 100000 0).k == 1)
    (some (.int .i64 ((lf_ref25_find_2 F a0 a1 l0 100000 0).i.getD 0 0)))
    (cond ((lf_ref25_find_2 F a0 a1 l0 100000 0).k == 2)
     (some (.int .i64 (-1)))
     (none)) := by kernel_rfl
set_option maxRecDepth 100000 in
theorem nf_ref25_bits (F : Tab) (a0 : Int) : fnV (cx F) 6 92 [.int .i64 a0] =
  cond ((lf_ref25_bits_3 F a0 100000 1).k == 1)
    (some (.bool false))
    (cond ((lf_ref25_bits_3 F a0 100000 1).k == 2)
     (some (.bool (cond (decide ((0 : Int) ≤ a0)) (decide (a0 < 256)) false)))
     (none)) := by kernel_rfl
set_option maxRecDepth 100000 in
theorem nf_memory_Store (F : Tab) (l0 : List AV) (a0 a1 a2 : Int) : fnV (cx F) 6 93 [.agg 23 [.slice 118 l0 false], .agg 41 [.int .i64 a0, .int .i64 a1, .int .u32 a2]] =
  (let x0 : List AV := tupOf (valT F 24 [.agg 23 [.slice 118 l0 false], .slice 42 [.agg 41 [.int .i64 a0, .int .i64 a1, .int .u32 a2]] false]);
   cond (okT Pg F 24 [.agg 23 [.slice 118 l0 false], .slice 42 [.agg 41 [.int .i64 a0, .int .i64 a1, .int .u32 a2]] false])
    (some (.tuple [.agg 23 [.slice 118 (listOf ((partsOf (x0.getD 0 .dead)).getD 0 .dead)) false], .bool (boolOf (x0.getD 1 .dead))]))
    (none)) := by kernel_rfl
set_option maxRecDepth 100000 in
theorem nf_tlb_right (F : Tab) (a0 a1 a2 a3 a4 : Int) (l0 : List AV) : fnV (cx F) 6 97 [.agg 69 [.int .u32 a0, .int .i64 a1, .int .i64 a2, .int .i64 a3, .int .i64 a4, .slice 3 l0 false]] =
  cond (cond (decide (a1 < 0)) true (cond (decide ((1024 : Int) ≤ a1)) true (cond (decide (a2 < 0)) true (cond (decide ((64 : Int) ≤ a2)) true (cond (decide (a3 < 0)) true (cond (decide ((1048576 : Int) < a3)) true (cond ((ibits .andNot .i64 a4 46) != 0) true (decide ((2 : Int) < ((l0.length : Nat) : Int))))))))))
    (some (.bool false))
    (cond ((lf_tlb_keep_int_3 F l0 ((l0.length : Nat) : Int) a0 a1 a2 a3 a4 l0 100000 [] 0).k == 1)
     (some (.bool (((((lf_tlb_keep_int_3 F l0 ((l0.length : Nat) : Int) a0 a1 a2 a3 a4 l0 100000 [] 0).l.getD 0 []).length : Nat) : Int) == 0)))
     (none)) := by kernel_rfl
set_option maxRecDepth 100000 in
theorem nf_ref25_Fill (F : Tab) (l0 : List AV) (a0 a1 a2 a3 a4 : Int) (l1 : List AV) : fnV (cx F) 6 98 [.agg 67 [.slice 70 l0 false], .agg 69 [.int .u32 a0, .int .i64 a1, .int .i64 a2, .int .i64 a3, .int .i64 a4, .slice 3 l1 false]] =
  (let x0 : List AV := (lf_ref25_Fill_3 F l0 a0 a1 a2 a3 a4 l1 100000 0 []).l.getD 0 [];
   let x1 : Nat := x0.length;
   let x2 : Int := ((x1 : Nat) : Int);
   let x3 : List AV := sub x0 1 x1;
   cond ((lf_ref25_Fill_3 F l0 a0 a1 a2 a3 a4 l1 100000 0 []).k == 1)
    (cond (decide ((8 : Int) ≤ x2))
     (cond (decide ((1 : Int) ≤ x2))
      (cond (decide (((x3.length + 1) * 64) ≤ 140737488355328))
       (some (.agg 67 [.slice 70 (x3 ++ [.agg 69 [.int .u32 a0, .int .i64 a1, .int .i64 a2, .int .i64 a3, .int .i64 a4, .slice 3 l1 false]]) false]))
       (none))
      (none))
     (cond (decide (((x1 + 1) * 64) ≤ 140737488355328))
      (some (.agg 67 [.slice 70 (x0 ++ [.agg 69 [.int .u32 a0, .int .i64 a1, .int .i64 a2, .int .i64 a3, .int .i64 a4, .slice 3 l1 false]]) false]))
      (none)))
    (none)) := by kernel_rfl
set_option maxRecDepth 100000 in
theorem nf_ref25_Flush (F : Tab) (l0 : List AV) (a0 : Int) : fnV (cx F) 6 99 [.agg 67 [.slice 70 l0 false], .int .u32 a0] =
  cond ((lf_ref25_Flush_3 F a0 l0 100000 0 []).k == 1)
    (some (.agg 67 [.slice 70 ((lf_ref25_Flush_3 F a0 l0 100000 0 []).l.getD 0 []) false]))
    (none) := by kernel_rfl
set_option maxRecDepth 100000 in
theorem nf_ref25_Touch (F : Tab) (l0 : List AV) (a0 a1 : Int) : fnV (cx F) 6 100 [.agg 67 [.slice 70 l0 false], .int .i64 a0, .int .i64 a1] =
  cond ((lf_ref25_Touch_3 F a0 a1 l0 100000 0 []).k == 1)
    (some (.agg 67 [.slice 70 ((lf_ref25_Touch_3 F a0 a1 l0 100000 0 []).l.getD 0 []) false]))
    (none) := by kernel_rfl
set_option maxRecDepth 100000 in
theorem nf_ref25_Evict (F : Tab) (l0 : List AV) (a0 : Int) : fnV (cx F) 6 101 [.agg 67 [.slice 70 l0 false], .int .i64 a0] =
  cond ((lf_ref25_Evict_3 F a0 l0 100000 0 []).k == 1)
    (some (.agg 67 [.slice 70 ((lf_ref25_Evict_3 F a0 l0 100000 0 []).l.getD 0 []) false]))
    (none) := by kernel_rfl
set_option maxRecDepth 100000 in
theorem nf_ref25_has (F : Tab) (a0 a1 : Int) : fnV (cx F) 6 102 [.int .i64 a0, .int .i64 a1] =
  cond (!(a1 == 0))
    (some (.bool (((IntKind.i64.wrap (a0.tdiv a1)).tmod 2) == 1)))
    (none) := by kernel_rfl
set_option maxRecDepth 100000 in
theorem nf_ref25_same (F : Tab) (a0 a1 a2 a3 a4 : Int) (l0 : List AV) (a5 a6 a7 a8 a9 : Int) (l1 : List AV) : fnV (cx F) 6 103 [.agg 69 [.int .u32 a0, .int .i64 a1, .int .i64 a2, .int .i64 a3, .int .i64 a4, .slice 3 l0 false], .agg 69 [.int .u32 a5, .int .i64 a6, .int .i64 a7, .int .i64 a8, .int .i64 a9, .slice 3 l1 false]] =
  cond (cond (a0 != a5) true (cond (a1 != a6) true (cond (a2 != a7) true (cond (a3 != a8) true (cond (a4 != a9) true (((l0.length : Nat) : Int) != ((l1.length : Nat) : Int)))))))
    (some (.bool false))
    (cond ((lf_ref25_same_4 F a0 a1 a2 a3 a4 l0 a5 a6 a7 a8 a9 l1 100000 0).k == 1)
     (some (.bool false))
     (cond ((lf_ref25_same_4 F a0 a1 a2 a3 a4 l0 a5 a6 a7 a8 a9 l1 100000 0).k == 2)
      (some (.bool true))
      (none))) := by kernel_rfl
set_option maxRecDepth 100000 in
theorem nf_tlb_reads (F : Tab) (a0 a1 a2 a3 a4 : Int) (l0 : List AV) (a5 a6 : Int) : fnV (cx F) 6 106 [.agg 69 [.int .u32 a0, .int .i64 a1, .int .i64 a2, .int .i64 a3, .int .i64 a4, .slice 3 l0 false], .int .i64 a5, .int .i64 a6] =
  cond ((lf_tlb_keep_int_3a F l0 ((l0.length : Nat) : Int) a0 a1 a2 a3 a4 l0 a5 a6 100000 [] 0).k == 1)
    (some (.bool (decide ((0 : Int) < ((((lf_tlb_keep_int_3a F l0 ((l0.length : Nat) : Int) a0 a1 a2 a3 a4 l0 a5 a6 100000 [] 0).l.getD 0 []).length : Nat) : Int)))))
    (none) := by kernel_rfl
set_option maxRecDepth 100000 in
theorem nf_ref06_There (F : Tab) (l0 : List AV) (a0 a1 : Int) : fnV (cx F) 6 115 [.agg 23 [.slice 118 l0 false], .int .i64 a0, .int .i64 a1] =
  cond (cond (a1 != 1) (a1 != 4) false)
    (some (.bool false))
    (cond (condB (decide ((0 : Int) ≤ a0)) (cond (!(a1 == 0)) (condB ((a0.tmod a1) == 0) (cond (okT Pg F 71 [.agg 23 [.slice 118 l0 false]]) true false) true) false) true)
     (some (.bool (cond (decide ((0 : Int) ≤ a0)) (cond ((a0.tmod a1) == 0) (decide (a0 ≤ (IntKind.i64.wrap ((intOf (valT F 71 [.agg 23 [.slice 118 l0 false]])) - a1)))) false) false)))
     (none)) := by kernel_rfl
set_option maxRecDepth 100000 in
theorem nf_ref06_Load (F : Tab) (l0 : List AV) (a0 a1 : Int) : fnV (cx F) 6 123 [.agg 23 [.slice 118 l0 false], .int .i64 a0, .int .i64 a1] =
  cond (okT Pg F 115 [.agg 23 [.slice 118 l0 false], .int .i64 a0, .int .i64 a1])
    (cond (!(boolOf (valT F 115 [.agg 23 [.slice 118 l0 false], .int .i64 a0, .int .i64 a1])))
     (some (.agg 198 [.int .u32 0, .bool false]))
     (cond ((lf_ref06_Load_6 F a0 l0 100000 0 (IntKind.i64.wrap (a1 - 1))).k == 1)
      (some (.agg 198 [.int .u32 ((lf_ref06_Load_6 F a0 l0 100000 0 (IntKind.i64.wrap (a1 - 1))).i.getD 0 0), .bool true]))
      (none)))
    (none) := by kernel_rfl
set_option maxRecDepth 100000 in
theorem nf_ref25_reads (F : Tab) (a0 a1 a2 a3 a4 : Int) (l0 : List AV) (a5 a6 : Int) : fnV (cx F) 6 126 [.agg 69 [.int .u32 a0, .int .i64 a1, .int .i64 a2, .int .i64 a3, .int .i64 a4, .slice 3 l0 false], .int .i64 a5, .int .i64 a6] =
  cond ((lf_ref25_reads_2 F a5 a6 a0 a1 a2 a3 a4 l0 100000 0).k == 1)
    (some (.bool true))
    (cond ((lf_ref25_reads_2 F a5 a6 a0 a1 a2 a3 a4 l0 100000 0).k == 2)
     (some (.bool false))
     (none)) := by kernel_rfl
set_option maxRecDepth 100000 in
theorem nf_ref06_Byte (F : Tab) (l0 : List AV) (a0 : Int) : fnV (cx F) 6 154 [.agg 23 [.slice 118 l0 false], .int .i64 a0] =
  cond (inB (IntKind.i64.wrap (a0.tdiv 128)) l0.length)
    (cond (inB (a0.tmod 128) 128)
     (some (.int .u8 (intOf ((partsOf (l0.getD ((IntKind.i64.wrap (a0.tdiv 128)).toNat) .dead)).getD ((a0.tmod 128).toNat) .dead))))
     (none))
    (none) := by kernel_rfl
end Go.Proofs.Ytcknhfnbdgleiaa
