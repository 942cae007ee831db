/- What the functions return, in terms of what they call. (Printed by a program of mine, gen.py.) -/
import Derived.Test.YtcknhfnbdgleiaaCoC
set_option linter.unusedVariables false
set_option linter.unusedSimpArgs false
set_option maxRecDepth 100000
namespace Go.Proofs.Ytcknhfnbdgleiaa
open Go.AE
theorem SL (F : Tab) (a0 a1 a2 a3 a4 : Int) : aY (cx F) 6 110 [.agg 122 [.int .i64 a0, .int .i64 a1, .int .i64 a2, .int .i64 a3, .int .i64 a4]] =
 cond (aH Pg F 56 [.agg 122 [.int .i64 a0, .int .i64 a1, .int .i64 a2, .int .i64 a3, .int .i64 a4]])
  (cond (aH Pg F 57 [.agg 23 [.slice 118 [.agg 117 [.int .u8 0, .int .u8 0, .int .u8 0, .int .u8 0, .int .u8 0, .int .u8 0, .int .u8 0, .int .u8 0, .int .u8 0, .int .u8 0, .int .u8 0, .int .u8 0, .int .u8 0, .int .u8 0, .int .u8 0, .int .u8 0, .int .u8 0, .int .u8 0, .int .u8 0, .int .u8 0, .int .u8 0, .int .u8 0, .int .u8 0, .int .u8 0, .int .u8 0, .int .u8 0, .int .u8 0, .int .u8 0, .int .u8 0, .int .u8 0, .int .u8 0, .int .u8 0, .int .u8 0, .int .u8 0, .int .u8 0, .int .u8 0, .int .u8 0, .int .u8 0, .int .u8 0, .int .u8 0, .int .u8 0, .int .u8 0, .int .u8 0, .int .u8 0, .int .u8 0, .int .u8 0, .int .u8 0, .int .u8 0, .int .u8 0, .int .u8 0, .int .u8 0, .int .u8 0, .int .u8 0, .int .u8 0, .int .u8 0, .int .u8 0, .int .u8 0, .int .u8 0, .int .u8 0, .int .u8 0, .int .u8 0, .int .u8 0, .int .u8 0, .int .u8 0, .int .u8 0, .int .u8 0, .int .u8 0, .int .u8 0, .int .u8 0, .int .u8 0, .int .u8 0, .int .u8 0, .int .u8 0, .int .u8 0, .int .u8 0, .int .u8 0, .int .u8 0, .int .u8 0, .int .u8 0, .int .u8 0, .int .u8 0, .int .u8 0, .int .u8 0, .int .u8 0, .int .u8 0, .int .u8 0, .int .u8 0, .int .u8 0, .int .u8 0, .int .u8 0, .int .u8 0, .int .u8 0, .int .u8 0, .int .u8 0, .int .u8 0, .int .u8 0, .int .u8 0, .int .u8 0, .int .u8 0, .int .u8 0, .int .u8 0, .int .u8 0, .int .u8 0, .int .u8 0, .int .u8 0, .int .u8 0, .int .u8 0, .int .u8 0, .int .u8 0, .int .u8 0, .int .u8 0, .int .u8 0, .int .u8 0, .int .u8 0, .int .u8 0, .int .u8 0, .int .u8 0, .int .u8 0, .int .u8 0, .int .u8 0, .int .u8 0, .int .u8 0, .int .u8 0, .int .u8 0, .int .u8 0, .int .u8 0, .int .u8 0, .int .u8 0]] false], .agg 41 [.int .i64 0, .int .i64 4, .int .u32 (aj ((au (aG F 56 [.agg 122 [.int .i64 a0, .int .i64 a1, .int .i64 a2, .int .i64 a3, .int .i64 a4]])).getD 0 .dead))]])
   (some (.agg 23 [.slice 118 (av ((au ((au (aG F 57 [.agg 23 [.slice 118 [.agg 117 [.int .u8 0, .int .u8 0, .int .u8 0, .int .u8 0, .int .u8 0, .int .u8 0, .int .u8 0, .int .u8 0, .int .u8 0, .int .u8 0, .int .u8 0, .int .u8 0, .int .u8 0, .int .u8 0, .int .u8 0, .int .u8 0, .int .u8 0, .int .u8 0, .int .u8 0, .int .u8 0, .int .u8 0, .int .u8 0, .int .u8 0, .int .u8 0, .int .u8 0, .int .u8 0, .int .u8 0, .int .u8 0, .int .u8 0, .int .u8 0, .int .u8 0, .int .u8 0, .int .u8 0, .int .u8 0, .int .u8 0, .int .u8 0, .int .u8 0, .int .u8 0, .int .u8 0, .int .u8 0, .int .u8 0, .int .u8 0, .int .u8 0, .int .u8 0, .int .u8 0, .int .u8 0, .int .u8 0, .int .u8 0, .int .u8 0, .int .u8 0, .int .u8 0, .int .u8 0, .int .u8 0, .int .u8 0, .int .u8 0, .int .u8 0, .int .u8 0, .int .u8 0, .int .u8 0, .int .u8 0, .int .u8 0, .int .u8 0, .int .u8 0, .int .u8 0, .int .u8 0, .int .u8 0, .int .u8 0, .int .u8 0, .int .u8 0, .int .u8 0, .int .u8 0, .int .u8 0, .int .u8 0, .int .u8 0, .int .u8 0, .int .u8 0, .int .u8 0, .int .u8 0, .int .u8 0, .int .u8 0, .int .u8 0, .int .u8 0, .int .u8 0, .int .u8 0, .int .u8 0, .int .u8 0, .int .u8 0, .int .u8 0, .int .u8 0, .int .u8 0, .int .u8 0, .int .u8 0, .int .u8 0, .int .u8 0, .int .u8 0, .int .u8 0, .int .u8 0, .int .u8 0, .int .u8 0, .int .u8 0, .int .u8 0, .int .u8 0, .int .u8 0, .int .u8 0, .int .u8 0, .int .u8 0, .int .u8 0, .int .u8 0, .int .u8 0, .int .u8 0, .int .u8 0, .int .u8 0, .int .u8 0, .int .u8 0, .int .u8 0, .int .u8 0, .int .u8 0, .int .u8 0, .int .u8 0, .int .u8 0, .int .u8 0, .int .u8 0, .int .u8 0, .int .u8 0, .int .u8 0, .int .u8 0, .int .u8 0, .int .u8 0]] false], .agg 41 [.int .i64 0, .int .i64 4, .int .u32 (aj ((au (aG F 56 [.agg 122 [.int .i64 a0, .int .i64 a1, .int .i64 a2, .int .i64 a3, .int .i64 a4]])).getD 0 .dead))]])).getD 0 .dead)).getD 0 .dead)) false]))
   (none))
  (none) := by kernel_rfl
theorem VI (F : Tab) (l0 : List AV) (a0 a1 : Int) : aY (cx F) 6 115 [.agg 23 [.slice 118 l0 false], .int .i64 a0, .int .i64 a1] =
 cond (cond (a1 != 1) (a1 != 4) false)
  (some (.bool false))
  (cond (fV (decide ((0 : Int) <= a0)) (cond (!(a1 == 0)) (fV ((a0.tmod a1) == 0) (cond (aH Pg F 71 [.agg 23 [.slice 118 l0 false]]) true false) true) false) true)
   (some (.bool (cond (decide ((0 : Int) <= a0)) (cond ((a0.tmod a1) == 0) (decide (a0 <= (IntKind.i64.wrap ((aj (aG F 71 [.agg 23 [.slice 118 l0 false]])) - a1)))) false) false)))
   (none)) := by kernel_rfl
theorem Pf (F : Tab) (a0 : Int) : aY (cx F) 6 118 [.int .u32 a0] =
 (let x0 : Int := (IntKind.i64.wrap ((IntKind.i64.wrap (aJ .and .u32 (a0.fdiv 1) 262143)) * 70368744177664)).fdiv 70368744177664;
  cond (aH Pg F 151 [.int .i64 (IntKind.i64.wrap (aJ .and .u32 (a0.fdiv 67108864) 63))])
   (cond ((aj (aG F 151 [.int .i64 (IntKind.i64.wrap (aJ .and .u32 (a0.fdiv 67108864) 63))])) == 1)
    (cond ((IntKind.i64.wrap (aJ .and .u32 (a0.fdiv 1) 16383)) != 0)
     (some (.tuple [.agg 122 [.int .i64 0, .int .i64 0, .int .i64 0, .int .i64 0, .int .i64 0], .bool false]))
     (cond (aH Pg F 152 [.agg 122 [.int .i64 (IntKind.i64.wrap (aJ .and .u32 (a0.fdiv 67108864) 63)), .int .i64 (IntKind.i64.wrap (aJ .and .u32 (a0.fdiv 4194304) 15)), .int .i64 (IntKind.i64.wrap (aJ .and .u32 (a0.fdiv 262144) 15)), .int .i64 (IntKind.i64.wrap (aJ .and .u32 (a0.fdiv 16384) 15)), .int .i64 0]])
      (cond (!(ak (aG F 152 [.agg 122 [.int .i64 (IntKind.i64.wrap (aJ .and .u32 (a0.fdiv 67108864) 63)), .int .i64 (IntKind.i64.wrap (aJ .and .u32 (a0.fdiv 4194304) 15)), .int .i64 (IntKind.i64.wrap (aJ .and .u32 (a0.fdiv 262144) 15)), .int .i64 (IntKind.i64.wrap (aJ .and .u32 (a0.fdiv 16384) 15)), .int .i64 0]])))
       (some (.tuple [.agg 122 [.int .i64 0, .int .i64 0, .int .i64 0, .int .i64 0, .int .i64 0], .bool false]))
       (some (.tuple [.agg 122 [.int .i64 (IntKind.i64.wrap (aJ .and .u32 (a0.fdiv 67108864) 63)), .int .i64 (IntKind.i64.wrap (aJ .and .u32 (a0.fdiv 4194304) 15)), .int .i64 (IntKind.i64.wrap (aJ .and .u32 (a0.fdiv 262144) 15)), .int .i64 (IntKind.i64.wrap (aJ .and .u32 (a0.fdiv 16384) 15)), .int .i64 0], .bool true])))
      (none)))
    (cond (aH Pg F 152 [.agg 122 [.int .i64 (IntKind.i64.wrap (aJ .and .u32 (a0.fdiv 67108864) 63)), .int .i64 (IntKind.i64.wrap (aJ .and .u32 (a0.fdiv 4194304) 15)), .int .i64 (IntKind.i64.wrap (aJ .and .u32 (a0.fdiv 262144) 15)), .int .i64 0, .int .i64 x0]])
     (cond (!(ak (aG F 152 [.agg 122 [.int .i64 (IntKind.i64.wrap (aJ .and .u32 (a0.fdiv 67108864) 63)), .int .i64 (IntKind.i64.wrap (aJ .and .u32 (a0.fdiv 4194304) 15)), .int .i64 (IntKind.i64.wrap (aJ .and .u32 (a0.fdiv 262144) 15)), .int .i64 0, .int .i64 x0]])))
      (some (.tuple [.agg 122 [.int .i64 0, .int .i64 0, .int .i64 0, .int .i64 0, .int .i64 0], .bool false]))
      (some (.tuple [.agg 122 [.int .i64 (IntKind.i64.wrap (aJ .and .u32 (a0.fdiv 67108864) 63)), .int .i64 (IntKind.i64.wrap (aJ .and .u32 (a0.fdiv 4194304) 15)), .int .i64 (IntKind.i64.wrap (aJ .and .u32 (a0.fdiv 262144) 15)), .int .i64 0, .int .i64 x0], .bool true])))
     (none)))
   (none)) := by kernel_rfl
theorem Xf (F : Tab) (a0 : Int) (l0 l1 : List AV) (b0 b1 b2 : Bool) (a1 a2 a3 a4 : Int) : aY (cx F) 6 119 [.agg 104 [.int .u32 a0, .agg 102 l0, .agg 103 l1, .bool b0, .bool b1, .bool b2, .int .i64 a1], .agg 192 [.int .i64 a2, .int .u32 a3, .int .u32 a4]] =
 (let x0 : List AV := au (aG F 153 [.agg 104 [.int .u32 a0, .agg 102 l0, .agg 103 l1, .bool b0, .bool false, .bool b2, .int .i64 (IntKind.i64.wrap (a1 + 1))], .int .u32 (IntKind.u32.wrap a2), .int .u32 a3, .int .u32 a4]);
  cond (aH Pg F 153 [.agg 104 [.int .u32 a0, .agg 102 l0, .agg 103 l1, .bool b0, .bool false, .bool b2, .int .i64 (IntKind.i64.wrap (a1 + 1))], .int .u32 (IntKind.u32.wrap a2), .int .u32 a3, .int .u32 a4])
   (some (.agg 104 [.int .u32 (aj (x0.getD 0 .dead)), .agg 102 (au (x0.getD 1 .dead)), .agg 103 (au (x0.getD 2 .dead)), .bool (ak (x0.getD 3 .dead)), .bool (ak (x0.getD 4 .dead)), .bool (ak (x0.getD 5 .dead)), .int .i64 (aj (x0.getD 6 .dead))]))
   (none)) := by kernel_rfl
theorem Yb (F : Tab) (a0 : Int) : aY (cx F) 6 120 [.int .u32 a0] =
 some (.int .u32 (aJ .and .u32 a0 31)) := by kernel_rfl
theorem Yi (F : Tab) (a0 : Int) (l0 l1 : List AV) (b0 b1 b2 : Bool) (a1 a2 : Int) : aY (cx F) 6 129 [.agg 104 [.int .u32 a0, .agg 102 l0, .agg 103 l1, .bool b0, .bool b1, .bool b2, .int .i64 a1], .int .u32 a2] =
 cond ((aJ .and .u32 (aj (l1.getD 5 .dead)) 1) == 0)
  (some (.tuple [.int .i64 0, .bool false]))
  (cond ((xB F a2 a0 l0 l1 b0 b1 b2 a1 100000 0).k == 1)
   (some (.tuple [.int .i64 ((xB F a2 a0 l0 l1 b0 b1 b2 a1 100000 0).i.getD 0 0), .bool true]))
   (cond ((xB F a2 a0 l0 l1 b0 b1 b2 a1 100000 0).k == 2)
    (some (.tuple [.int .i64 0, .bool false]))
    (none))) := by kernel_rfl
theorem Qh (F : Tab) (a0 : Int) : aY (cx F) 6 132 [.int .i64 a0] =
 cond (a0 == 20)
  (some (.tuple [.int .i64 1, .int .i64 4]))
  (cond (a0 == 22)
   (some (.tuple [.int .i64 1, .int .i64 1]))
   (cond (a0 == 21)
    (some (.tuple [.int .i64 2, .int .i64 4]))
    (cond (a0 == 23)
     (some (.tuple [.int .i64 2, .int .i64 1]))
     (cond (a0 == 24)
      (some (.tuple [.int .i64 3, .int .i64 4]))
      (some (.tuple [.int .i64 0, .int .i64 0])))))) := by kernel_rfl
theorem Tf (F : Tab) (a0 a1 : Int) : aY (cx F) 6 147 [.int .i32 a0, .int .i32 a1] =
 cond (decide (a0 < a1))
  (some (.int .u32 1))
  (some (.int .u32 0)) := by kernel_rfl
theorem O5 (F : Tab) (a0 a1 : Int) : aY (cx F) 6 149 [.int .u32 a0, .int .u32 a1] =
 cond (decide (a0 < a1))
  (some (.int .u32 1))
  (some (.int .u32 0)) := by kernel_rfl
theorem Y7 (F : Tab) (a0 : Int) : aY (cx F) 6 151 [.int .i64 a0] =
 cond (aH Pg F 166 [])
  (cond (cond (decide ((0 : Int) <= a0)) (decide (a0 < 49)) false)
   (cond (aL a0 49)
    (some (.int .i64 (aj ((au ((au (aG F 166 [])).getD a0.toNat .dead)).getD 1 .dead))))
    (none))
   (some (.int .i64 0)))
  (none) := by kernel_rfl
theorem WA (F : Tab) (a0 a1 a2 a3 a4 : Int) : aY (cx F) 6 152 [.agg 122 [.int .i64 a0, .int .i64 a1, .int .i64 a2, .int .i64 a3, .int .i64 a4]] =
 (let x0 : Int := aj (aG F 151 [.int .i64 a0]);
  cond (aH Pg F 151 [.int .i64 a0])
   (cond (x0 == 1)
    (cond (cond (decide ((0 : Int) <= a1)) (decide (a1 < 16)) false)
     (cond (cond (decide ((0 : Int) <= a2)) (decide (a2 < 16)) false)
      (cond (cond (decide ((0 : Int) <= a3)) (decide (a3 < 16)) false)
       (some (.bool (a4 == 0)))
       (some (.bool false)))
      (some (.bool false)))
     (some (.bool false)))
    (cond (x0 == 2)
     (cond (cond (decide ((0 : Int) <= a1)) (decide (a1 < 16)) false)
      (cond (cond (decide ((0 : Int) <= a2)) (decide (a2 < 16)) false)
       (cond (cond (decide ((-131072 : Int) <= a4)) (decide (a4 <= 131071)) false)
        (some (.bool (a3 == 0)))
        (some (.bool false)))
       (some (.bool false)))
      (some (.bool false)))
     (cond (x0 == 3)
      (cond (cond (decide ((0 : Int) <= a1)) (decide (a1 < 16)) false)
       (cond (cond (decide ((-131072 : Int) <= a4)) (decide (a4 <= 131071)) false)
        (cond (a2 == 0)
         (some (.bool (a3 == 0)))
         (some (.bool false)))
        (some (.bool false)))
       (some (.bool false)))
      (cond (x0 == 4)
       (cond ((a0 == a0) && ((a1 == 0) && ((a2 == a2) && ((a3 == 0) && ((a4 == 0) && true)))))
        (some (.bool (cond (decide ((0 : Int) <= a2)) (decide (a2 < 16)) false)))
        (some (.bool false)))
       (cond (x0 == 5)
        (some (.bool ((a0 == a0) && ((a1 == 0) && ((a2 == 0) && ((a3 == 0) && ((a4 == 0) && true)))))))
        (some (.bool false)))))))
   (none)) := by kernel_rfl
theorem aad (F : Tab) (a0 : Int) (l0 l1 : List AV) (b0 b1 b2 : Bool) (a1 a2 a3 a4 : Int) : aY (cx F) 6 153 [.agg 104 [.int .u32 a0, .agg 102 l0, .agg 103 l1, .bool b0, .bool b1, .bool b2, .int .i64 a1], .int .u32 a2, .int .u32 a3, .int .u32 a4] =
 (let x0 : Int := cond ((aJ .and .u32 (aj (l1.getD 5 .dead)) 1) != 0) (2 : Int) 0;
  let x1 : List AV := (((l1.set 5 (.int .u32 (cond b0 (aJ .or .u32 x0 4) x0))).set 3 (.int .u32 a2)).set 4 (.int .u32 a3)).set 2 (.int .u32 a4);
  some (.agg 104 [.int .u32 (aj (x1.getD 1 .dead)), .agg 102 l0, .agg 103 x1, .bool false, .bool false, .bool b2, .int .i64 a1])) := by kernel_rfl
theorem XW (F : Tab) (a0 : Int) : aY (cx F) 6 157 [.int .i64 a0] =
 some (.bool (cond (decide ((41 : Int) <= a0)) (decide (a0 <= 48)) false)) := by kernel_rfl
theorem TP (F : Tab) (a0 : Int) (l0 l1 : List AV) (b0 b1 b2 : Bool) (a1 : Int) : aY (cx F) 6 165 [.agg 104 [.int .u32 a0, .agg 102 l0, .agg 103 l1, .bool b0, .bool b1, .bool b2, .int .i64 a1]] =
 (let x0 : Bool := (aJ .and .u32 (aj (l1.getD 5 .dead)) 4) != 0;
  cond ((aJ .and .u32 (aj (l1.getD 5 .dead)) 2) != 0)
   (some (.agg 104 [.int .u32 (aj (l1.getD 2 .dead)), .agg 102 l0, .agg 103 ((l1.set 5 (.int .u32 2)).set 5 (.int .u32 (aJ .or .u32 (aj ((l1.set 5 (.int .u32 2)).getD 5 .dead)) 1))), .bool x0, .bool b1, .bool b2, .int .i64 a1]))
   (some (.agg 104 [.int .u32 (aj (l1.getD 2 .dead)), .agg 102 l0, .agg 103 (l1.set 5 (.int .u32 2)), .bool x0, .bool b1, .bool b2, .int .i64 a1]))) := by kernel_rfl
def yI : AV := .agg 222 [.agg 220 [.str [], .int .i64 0], .agg 220 [.str [97, 100, 100], .int .i64 1], .agg 220 [.str [115, 117, 98], .int .i64 1], .agg 220 [.str [97, 110, 100], .int .i64 1], .agg 220 [.str [111, 114], .int .i64 1], .agg 220 [.str [120, 111, 114], .int .i64 1], .agg 220 [.str [115, 104, 108], .int .i64 1], .agg 220 [.str [115, 104, 114], .int .i64 1], .agg 220 [.str [109, 117, 108], .int .i64 1], .agg 220 [.str [100, 105, 118], .int .i64 1], .agg 220 [.str [114, 101, 109], .int .i64 1], .agg 220 [.str [115, 108, 116], .int .i64 1], .agg 220 [.str [115, 108, 116, 117], .int .i64 1], .agg 220 [.str [], .int .i64 0], .agg 220 [.str [], .int .i64 0], .agg 220 [.str [], .int .i64 0], .agg 220 [.str [97, 100, 100, 105], .int .i64 2], .agg 220 [.str [104, 105, 103, 104], .int .i64 3], .agg 220 [.str [], .int .i64 0], .agg 220 [.str [], .int .i64 0], .agg 220 [.str [108, 119], .int .i64 2], .agg 220 [.str [115, 119], .int .i64 2], .agg 220 [.str [108, 98], .int .i64 2], .agg 220 [.str [115, 98], .int .i64 2], .agg 220 [.str [115, 119, 97, 112], .int .i64 2], .agg 220 [.str [], .int .i64 0], .agg 220 [.str [], .int .i64 0], .agg 220 [.str [], .int .i64 0], .agg 220 [.str [98, 101, 113], .int .i64 2], .agg 220 [.str [98, 110, 101], .int .i64 2], .agg 220 [.str [98, 108, 116], .int .i64 2], .agg 220 [.str [98, 108, 116, 117], .int .i64 2], .agg 220 [.str [106, 97, 108], .int .i64 3], .agg 220 [.str [106, 97, 108, 114], .int .i64 2], .agg 220 [.str [], .int .i64 0], .agg 220 [.str [], .int .i64 0], .agg 220 [.str [], .int .i64 0], .agg 220 [.str [], .int .i64 0], .agg 220 [.str [], .int .i64 0], .agg 220 [.str [], .int .i64 0], .agg 220 [.str [101, 99, 97, 108, 108], .int .i64 5], .agg 220 [.str [101, 114, 101, 116], .int .i64 5], .agg 220 [.str [99, 115, 114, 114], .int .i64 3], .agg 220 [.str [99, 115, 114, 119], .int .i64 3], .agg 220 [.str [102, 108, 117, 115, 104], .int .i64 4], .agg 220 [.str [119, 97, 105, 116], .int .i64 5], .agg 220 [.str [105, 110], .int .i64 3], .agg 220 [.str [111, 117, 116], .int .i64 3], .agg 220 [.str [104, 97, 108, 116], .int .i64 5]]
theorem YM (F : Tab) : aY (cx F) 6 166 [] = some yI := by kernel_rfl
theorem P5 (F : Tab) (a0 a1 a2 : Int) : aY (cx F) 6 168 [.int .i64 a0, .int .u32 a1, .int .u32 a2] =
 cond (a0 == 28)
  (some (.bool (a1 == a2)))
  (cond (a0 == 29)
   (some (.bool (a1 != a2)))
   (cond (a0 == 30)
    (cond (aH Pg F 147 [.int .i32 (IntKind.i32.wrap a1), .int .i32 (IntKind.i32.wrap a2)])
     (some (.bool ((aj (aG F 147 [.int .i32 (IntKind.i32.wrap a1), .int .i32 (IntKind.i32.wrap a2)])) == 1)))
     (none))
    (cond (a0 == 31)
     (cond (aH Pg F 149 [.int .u32 a1, .int .u32 a2])
      (some (.bool ((aj (aG F 149 [.int .u32 a1, .int .u32 a2])) == 1)))
      (none))
     (some (.bool false))))) := by kernel_rfl
theorem Tw (F : Tab) (a0 a1 a2 a3 a4 a5 : Int) : aY (cx F) 6 169 [.int .u32 a0, .agg 122 [.int .i64 a1, .int .i64 a2, .int .i64 a3, .int .i64 a4, .int .i64 a5]] =
 cond (cond (aH Pg F 172 [.int .i64 a1]) true false)
  (cond (cond (!(ak (aG F 172 [.int .i64 a1]))) (a1 != 32) false)
   (some (.tuple [.int .u32 0, .bool false]))
   (some (.tuple [.int .u32 (IntKind.u32.wrap (a0 + (IntKind.u32.wrap ((IntKind.u32.wrap a5) * 4)))), .bool true])))
  (none) := by kernel_rfl
theorem Zq (F : Tab) (a0 : Int) (l0 l1 : List AV) (b0 b1 b2 : Bool) (a1 a2 a3 : Int) : aY (cx F) 6 170 [.agg 104 [.int .u32 a0, .agg 102 l0, .agg 103 l1, .bool b0, .bool b1, .bool b2, .int .i64 a1], .int .i64 a2, .int .u32 a3] =
 cond (cond (decide (a2 < 0)) true (decide ((9 : Int) <= a2)))
  (some (.tuple [.int .u32 0, .int .i64 1]))
  (cond (a2 == 7)
   (cond (aH Pg F 120 [.int .u32 a3])
    (some (.tuple [.int .u32 (aj (aG F 120 [.int .u32 a3])), .int .i64 0]))
    (none))
   (cond (aL a2 9)
    (some (.tuple [.int .u32 (aj (l1.getD a2.toNat .dead)), .int .i64 0]))
    (none))) := by kernel_rfl
theorem YN (F : Tab) (a0 : Int) (l0 l1 : List AV) (b0 b1 b2 : Bool) (a1 a2 a3 : Int) : aY (cx F) 6 171 [.agg 104 [.int .u32 a0, .agg 102 l0, .agg 103 l1, .bool b0, .bool b1, .bool b2, .int .i64 a1], .int .i64 a2, .int .u32 a3] =
 cond (cond (decide (a2 < 0)) true (decide ((7 : Int) <= a2)))
  (some (.tuple [.agg 104 [.int .u32 a0, .agg 102 l0, .agg 103 l1, .bool b0, .bool b1, .bool b2, .int .i64 a1], .int .i64 1]))
  (cond (aL a2 9)
   (some (.tuple [.agg 104 [.int .u32 a0, .agg 102 l0, .agg 103 (l1.set a2.toNat (.int .u32 (cond (a2 == 5) (aJ .and .u32 a3 7) a3))), .bool b0, .bool b1, .bool b2, .int .i64 a1], .int .i64 0]))
   (none)) := by kernel_rfl
theorem OQ (F : Tab) (a0 : Int) : aY (cx F) 6 172 [.int .i64 a0] =
 some (.bool (cond (decide ((28 : Int) <= a0)) (decide (a0 <= 31)) false)) := by kernel_rfl
end Go.Proofs.Ytcknhfnbdgleiaa
