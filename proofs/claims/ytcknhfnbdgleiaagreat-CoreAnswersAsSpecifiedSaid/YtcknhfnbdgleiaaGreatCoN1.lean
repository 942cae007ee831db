/- What the functions return, in terms of what they call. (Printed by a program of mine, gen.py.) -/
import Derived.Test.YtcknhfnbdgleiaaGreatCoC
set_option linter.unusedVariables false
set_option linter.unusedSimpArgs false
set_option maxRecDepth 100000
namespace Go.Proofs.YtcknhfnbdgleiaaGreat
open Go.AE
theorem Lj (F : Tab) (b0 : Bool) (a0 : Int) (l0 l1 : List AV) (b1 b2 b3 : Bool) (a1 a2 : Int) (l2 l3 : List AV) (b4 b5 b6 : Bool) (a3 a4 : Int) (l4 l5 : List AV) (b7 b8 : Bool) (a5 a6 a7 a8 a9 a10 : Int) (b9 : Bool) : aP (cx F) 6 12 [cu b0 a0 l0 l1 b1 b2 b3 a1 a2 l2 l3 b4 b5 b6 a3 a4 l4 l5 b7 b8 a5 a6 a7 a8 a9, .int .u32 a10, .bool b9] =
 (let x0 : List AV := au ((au (aA F 24 [aO b0 a0 l0 l1 b1 b2 b3 a1 a2 l2 l3 b4 b5 b6 a3 a4 l4 l5 b7 b8 a5 a6 a7 a8 a9 [], .int .i64 2, .int .u32 a4, .int .u32 a2])).getD 0 .dead);
  let x1 : List AV := au (x0.getD 1 .dead);
  let x2 : List AV := au (x0.getD 2 .dead);
  let x3 : List AV := au ((au (aA F 35 [aO b0 a0 l0 l1 b1 b2 b3 a1 a2 l2 l3 b4 b5 b6 a3 a4 l4 l5 b7 b8 a5 a6 a7 a8 a9 [], .int .i64 (aj ((au ((au (aA F 28 [.int .u32 a4])).getD 0 .dead)).getD 1 .dead)), .int .u32 a10])).getD 0 .dead);
  let x4 : List AV := au (x3.getD 1 .dead);
  let x5 : List AV := au (x3.getD 2 .dead);
  cond (!b7)
   (some (cu b0 a0 l0 l1 b1 b2 b3 a1 a2 l2 l3 b4 b5 b6 a3 a4 l4 l5 b7 b8 a5 a6 a7 a8 a9))
   (cond (!b9)
    (cond (aB Pg F 24 [aO b0 a0 l0 l1 b1 b2 b3 a1 a2 l2 l3 b4 b5 b6 a3 a4 l4 l5 b7 b8 a5 a6 a7 a8 a9 [], .int .i64 2, .int .u32 a4, .int .u32 a2])
     (some (lQ (av (x0.getD 0 .dead)) (aj (x1.getD 0 .dead)) (au (x1.getD 1 .dead)) (au (x1.getD 2 .dead)) (av (x1.getD 3 .dead)) (av (x1.getD 4 .dead)) (av (x1.getD 5 .dead)) (aj (x1.getD 6 .dead)) (aj (x2.getD 0 .dead)) (au (x2.getD 1 .dead)) (au (x2.getD 2 .dead)) (av (x2.getD 3 .dead)) (av (x2.getD 4 .dead)) (av (x2.getD 5 .dead)) (aj (x2.getD 6 .dead)) (aj (x0.getD 3 .dead)) (ay (x0.getD 4 .dead)) (ay (x0.getD 5 .dead)) false aZ (aj (x0.getD 8 .dead)) (aj (x0.getD 9 .dead)) (aj (x0.getD 10 .dead))))
     (none))
    (cond b8
     (cond (aB Pg F 28 [.int .u32 a4])
      (cond (aB Pg F 35 [aO b0 a0 l0 l1 b1 b2 b3 a1 a2 l2 l3 b4 b5 b6 a3 a4 l4 l5 b7 b8 a5 a6 a7 a8 a9 [], .int .i64 (aj ((au ((au (aA F 28 [.int .u32 a4])).getD 0 .dead)).getD 1 .dead)), .int .u32 a10])
       (some (lQ (av (x3.getD 0 .dead)) (aj (x4.getD 0 .dead)) (au (x4.getD 1 .dead)) (au (x4.getD 2 .dead)) (av (x4.getD 3 .dead)) (av (x4.getD 4 .dead)) (av (x4.getD 5 .dead)) (aj (x4.getD 6 .dead)) (aj (x5.getD 0 .dead)) (au (x5.getD 1 .dead)) (au (x5.getD 2 .dead)) (av (x5.getD 3 .dead)) (av (x5.getD 4 .dead)) (av (x5.getD 5 .dead)) (aj (x5.getD 6 .dead)) (aj (x3.getD 3 .dead)) (ay (x3.getD 4 .dead)) (ay (x3.getD 5 .dead)) false aZ (aj (x3.getD 8 .dead)) (aj (x3.getD 9 .dead)) (aj (x3.getD 10 .dead))))
       (none))
      (none))
     (some (lQ b0 a0 l0 l1 b1 b2 b3 a1 a2 l2 l3 b4 b5 b6 a3 a4 l4 l5 false aZ a7 a8 a9))))) := by kernel_rfl
theorem acX (F : Tab) (a0 : Int) (l0 l1 : List AV) (b0 b1 b2 : Bool) (a1 : Int) : aP (cx F) 6 16 [aG a0 l0 l1 b0 b1 b2 a1] =
 some (.bool (cond ((aj (l0.getD 0 .dead)) == 0) (cond (decide ((aj (l1.getD 5 .dead)) <= 7)) (cond ((aj (l1.getD 7 .dead)) == 0) (cond (decide ((aj (l1.getD 8 .dead)) <= 3)) (cond (decide ((0 : Int) <= a1)) (cond (decide (a1 <= 1099511627776)) (cond (!b1) true (!b2)) false) false) false) false) false) false)) := by kernel_rfl
theorem SA (F : Tab) (l0 : List AV) : aP (cx F) 6 17 [aD l0] =
 some (.bool (cond (decide ((1 : Int) <= ((l0.length : Nat) : Int))) (decide (((l0.length : Nat) : Int) <= 64)) false)) := by kernel_rfl
theorem ZH (F : Tab) (a0 a1 : Int) : aP (cx F) 6 18 [.int .i64 a0, .int .u32 a1] =
 some (.agg 25 [.int .u32 a1, zz2, .agg 24 [.int .u32 0, .int .u32 0, .int .u32 0, .int .u32 0, .int .u32 0, .int .u32 0, .int .u32 0, .int .u32 0, .int .u32 (IntKind.u32.wrap a0)], .bool false, .bool (a0 != 0), .bool false, .int .i64 0]) := by kernel_rfl
theorem Ru (F : Tab) (a0 a1 a2 a3 a4 : Int) : aP (cx F) 6 19 [bG a0 a1 a2 a3 a4] =
 cond (aB Pg F 39 [bG a0 a1 a2 a3 a4])
  (cond (aB Pg F 40 [sO, bq 0 4 (aj ((au (aA F 39 [bG a0 a1 a2 a3 a4])).getD 0 .dead))])
   (some (aD (ay ((au ((au (aA F 40 [sO, bq 0 4 (aj ((au (aA F 39 [bG a0 a1 a2 a3 a4])).getD 0 .dead))])).getD 0 .dead)).getD 0 .dead))))
   (none))
  (none) := by kernel_rfl
theorem aaY (F : Tab) (a0 : Int) (l0 l1 : List AV) (b0 b1 b2 : Bool) (a1 a2 : Int) : aP (cx F) 6 20 [aG a0 l0 l1 b0 b1 b2 a1, .int .u32 a2] =
 cond (bX (!b2) (bX (!b1) true (cond (aB Pg F 41 [.int .u32 a2]) true false)) true)
  (some (.bool (cond (!b2) (cond (!b1) true ((aj (aA F 41 [.int .u32 a2])) != 0)) false)))
  (none) := by kernel_rfl
theorem YZ (F : Tab) (a0 : Int) (l0 l1 : List AV) (b0 b1 b2 : Bool) (a1 a2 : Int) : aP (cx F) 6 22 [aG a0 l0 l1 b0 b1 b2 a1, .int .u32 a2] =
 cond b2
  (some (.bool false))
  (some (.bool (cond (!b1) true (decide ((0 : Int) < (a2.tmod 32)))))) := by kernel_rfl
theorem Yt (F : Tab) (a0 : Int) (l0 l1 : List AV) (b0 b1 b2 : Bool) (a1 a2 : Int) : aP (cx F) 6 23 [aG a0 l0 l1 b0 b1 b2 a1, .int .u32 a2] =
 (let x0 : LO := OV F a2 (av (aA F 50 [.int .u32 (aj (l1.getD 5 .dead)), .int .i64 0])) a0 l0 l1 b0 b1 b2 a1 100000 0;
  cond (aB Pg F 50 [.int .u32 (aj (l1.getD 5 .dead)), .int .i64 0])
   (cond (x0.k == 1)
    (some (.agg 66 [.int .i64 (x0.i.getD 0 0), .bool true]))
    (cond (x0.k == 2)
     (some (.agg 66 [.int .i64 0, .bool false]))
     (none)))
   (none)) := by kernel_rfl
theorem adl (F : Tab) (b0 : Bool) (a0 : Int) (l0 l1 : List AV) (b1 b2 b3 : Bool) (a1 a2 : Int) (l2 l3 : List AV) (b4 b5 b6 : Bool) (a3 a4 : Int) (l4 l5 : List AV) (b7 b8 : Bool) (a5 a6 a7 a8 a9 : Int) (l6 : List AV) (a10 a11 a12 : Int) : aP (cx F) 6 24 [aO b0 a0 l0 l1 b1 b2 b3 a1 a2 l2 l3 b4 b5 b6 a3 a4 l4 l5 b7 b8 a5 a6 a7 a8 a9 l6, .int .i64 a10, .int .u32 a11, .int .u32 a12] =
 (let x0 : List AV := au (aA F 51 [aG a2 l2 l3 b4 false b6 (IntKind.i64.wrap (a3 + 1)), .int .u32 (IntKind.u32.wrap a10), .int .u32 a11, .int .u32 a12]);
  cond (aB Pg F 51 [aG a2 l2 l3 b4 false b6 (IntKind.i64.wrap (a3 + 1)), .int .u32 (IntKind.u32.wrap a10), .int .u32 a11, .int .u32 a12])
   (some (aO b0 (aj (x0.getD 0 .dead)) (au (x0.getD 1 .dead)) (au (x0.getD 2 .dead)) (av (x0.getD 3 .dead)) (av (x0.getD 4 .dead)) (av (x0.getD 5 .dead)) (aj (x0.getD 6 .dead)) a2 l2 l3 b4 b5 b6 a3 a4 l4 l5 b7 b8 a5 a6 a7 a8 a10 l6))
   (none)) := by kernel_rfl
theorem Vz (F : Tab) (b0 : Bool) (a0 : Int) (l0 l1 : List AV) (b1 b2 b3 : Bool) (a1 a2 : Int) (l2 l3 : List AV) (b4 b5 b6 : Bool) (a3 a4 : Int) (l4 l5 : List AV) (b7 b8 : Bool) (a5 a6 a7 a8 a9 : Int) (l6 : List AV) (a10 a11 : Int) : aP (cx F) 6 25 [aO b0 a0 l0 l1 b1 b2 b3 a1 a2 l2 l3 b4 b5 b6 a3 a4 l4 l5 b7 b8 a5 a6 a7 a8 a9 l6, .int .u32 a10, .int .i64 a11] =
 (let x0 : List AV := au (aA F 52 [aD l6, .int .u32 (aj (l3.getD 0 .dead)), .int .u32 a10, .int .i64 a11, .bool b4]);
  let x1 : List AV := au (x0.getD 0 .dead);
  let x2 : Int := aj (x1.getD 0 .dead);
  let x3 : Int := aj (x1.getD 1 .dead);
  let x4 : List AV := ay (x1.getD 2 .dead);
  let x5 : List AV := ay (x1.getD 3 .dead);
  let x6 : Int := aj (x0.getD 1 .dead);
  let x7 : LO := Jh F x2 x3 x4 x5 x6 100000 0 b0 a0 l0 l1 b1 b2 b3 a1 a2 l2 l3 b4 b5 b6 a3 a4 l4 l5 b7 b8 a5 a6 a7 a8 a9 l6;
  let x8 : LO := PL F x2 x3 x4 x5 x6 100000 0 (x7.b.getD 0 false) (x7.i.getD 0 0) (x7.l.getD 0 []) (x7.l.getD 1 []) (x7.b.getD 1 false) (x7.b.getD 2 false) (x7.b.getD 3 false) (x7.i.getD 1 0) (x7.i.getD 2 0) (x7.l.getD 2 []) (x7.l.getD 3 []) (x7.b.getD 4 false) (x7.b.getD 5 false) (x7.b.getD 6 false) (x7.i.getD 3 0) (x7.i.getD 4 0) (x7.l.getD 4 []) (x7.l.getD 5 []) (x7.b.getD 7 false) (x7.b.getD 8 false) (x7.i.getD 5 0) (x7.i.getD 6 0) (x7.i.getD 7 0) (x7.i.getD 8 0) (x7.i.getD 9 0) (x7.l.getD 6 []);
  cond (aB Pg F 52 [aD l6, .int .u32 (aj (l3.getD 0 .dead)), .int .u32 a10, .int .i64 a11, .bool b4])
   (cond (x7.k == 1)
    (cond (x8.k == 1)
     (some (.agg 70 [aO (x8.b.getD 0 false) (x8.i.getD 0 0) (x8.l.getD 0 []) (x8.l.getD 1 []) (x8.b.getD 1 false) (x8.b.getD 2 false) (x8.b.getD 3 false) (x8.i.getD 1 0) (x8.i.getD 2 0) (x8.l.getD 2 []) (x8.l.getD 3 []) (x8.b.getD 4 false) (x8.b.getD 5 false) (x8.b.getD 6 false) (x8.i.getD 3 0) (x8.i.getD 4 0) (x8.l.getD 4 []) (x8.l.getD 5 []) (x8.b.getD 7 false) (x8.b.getD 8 false) (x8.i.getD 5 0) (x8.i.getD 6 0) (x8.i.getD 7 0) (x8.i.getD 8 0) (x8.i.getD 9 0) (x8.l.getD 6 []), .int .i64 x2, .int .i64 x6]))
     (none))
    (none))
   (none)) := by kernel_rfl
theorem R5 (F : Tab) (b0 : Bool) (a0 : Int) (l0 l1 : List AV) (b1 b2 b3 : Bool) (a1 a2 : Int) (l2 l3 : List AV) (b4 b5 b6 : Bool) (a3 a4 : Int) (l4 l5 : List AV) (b7 b8 : Bool) (a5 a6 a7 a8 a9 : Int) (l6 : List AV) (a10 a11 : Int) : aP (cx F) 6 26 [aO b0 a0 l0 l1 b1 b2 b3 a1 a2 l2 l3 b4 b5 b6 a3 a4 l4 l5 b7 b8 a5 a6 a7 a8 a9 l6, .int .i64 a10, .int .i64 a11] =
 cond (decide (((0 + l5.length) * 24) <= 140737488355328))
  (cond (decide (((l5.length + 1) * 24) <= 140737488355328))
   (some (aO b0 a0 l0 l1 b1 b2 b3 a1 a2 l2 l3 b4 b5 b6 a3 a4 l4 (l5 ++ [mY a10 a11 false]) b7 b8 a5 a6 a7 a8 a9 l6))
   (none))
  (none) := by kernel_rfl
theorem Ve (F : Tab) (l0 : List AV) (a0 a1 : Int) : aP (cx F) 6 27 [aD l0, .int .i64 a0, .int .i64 a1] =
 (let x0 : LO := FD F a0 l0 100000 0 (IntKind.i64.wrap (a1 - 1));
  cond (aB Pg F 54 [aD l0, .int .i64 a0, .int .i64 a1])
   (cond (!(av (aA F 54 [aD l0, .int .i64 a0, .int .i64 a1])))
    (some (.agg 74 [.int .u32 0, .bool false]))
    (cond (x0.k == 1)
     (some (.agg 74 [.int .u32 (x0.i.getD 0 0), .bool true]))
     (none)))
   (none)) := by kernel_rfl
theorem ab3 (F : Tab) (a0 : Int) : aP (cx F) 6 28 [.int .u32 a0] =
 (let x0 : List AV := au (aA F 39 [bG ((IntKind.i64.wrap a0).fdiv 67108864) (aL .and .i64 ((IntKind.i64.wrap a0).fdiv 4194304) 15) (aL .and .i64 ((IntKind.i64.wrap a0).fdiv 262144) 15) (aL .and .i64 ((IntKind.i64.wrap a0).fdiv 16384) 15) 0]);
  let x1 : Int := IntKind.i64.wrap ((aL .and .i64 (IntKind.i64.wrap a0) 262143) - 262144);
  let x2 : List AV := au (aA F 39 [bG ((IntKind.i64.wrap a0).fdiv 67108864) (aL .and .i64 ((IntKind.i64.wrap a0).fdiv 4194304) 15) (aL .and .i64 ((IntKind.i64.wrap a0).fdiv 262144) 15) 0 x1]);
  let x3 : List AV := au (aA F 39 [bG ((IntKind.i64.wrap a0).fdiv 67108864) (aL .and .i64 ((IntKind.i64.wrap a0).fdiv 4194304) 15) (aL .and .i64 ((IntKind.i64.wrap a0).fdiv 262144) 15) 0 (aL .and .i64 (IntKind.i64.wrap a0) 262143)]);
  cond (aB Pg F 56 [.int .i64 ((IntKind.i64.wrap a0).fdiv 67108864)])
   (cond ((aj (aA F 56 [.int .i64 ((IntKind.i64.wrap a0).fdiv 67108864)])) == 1)
    (cond (aB Pg F 39 [bG ((IntKind.i64.wrap a0).fdiv 67108864) (aL .and .i64 ((IntKind.i64.wrap a0).fdiv 4194304) 15) (aL .and .i64 ((IntKind.i64.wrap a0).fdiv 262144) 15) (aL .and .i64 ((IntKind.i64.wrap a0).fdiv 16384) 15) 0])
     (cond (cond ((aj (x0.getD 1 .dead)) != 0) true ((aj (x0.getD 0 .dead)) != a0))
      (some (FQ))
      (some (.agg 77 [bG ((IntKind.i64.wrap a0).fdiv 67108864) (aL .and .i64 ((IntKind.i64.wrap a0).fdiv 4194304) 15) (aL .and .i64 ((IntKind.i64.wrap a0).fdiv 262144) 15) (aL .and .i64 ((IntKind.i64.wrap a0).fdiv 16384) 15) 0, .bool true])))
     (none))
    (cond (decide ((131071 : Int) < (aL .and .i64 (IntKind.i64.wrap a0) 262143)))
     (cond (aB Pg F 39 [bG ((IntKind.i64.wrap a0).fdiv 67108864) (aL .and .i64 ((IntKind.i64.wrap a0).fdiv 4194304) 15) (aL .and .i64 ((IntKind.i64.wrap a0).fdiv 262144) 15) 0 x1])
      (cond (cond ((aj (x2.getD 1 .dead)) != 0) true ((aj (x2.getD 0 .dead)) != a0))
       (some (FQ))
       (some (.agg 77 [bG ((IntKind.i64.wrap a0).fdiv 67108864) (aL .and .i64 ((IntKind.i64.wrap a0).fdiv 4194304) 15) (aL .and .i64 ((IntKind.i64.wrap a0).fdiv 262144) 15) 0 x1, .bool true])))
      (none))
     (cond (aB Pg F 39 [bG ((IntKind.i64.wrap a0).fdiv 67108864) (aL .and .i64 ((IntKind.i64.wrap a0).fdiv 4194304) 15) (aL .and .i64 ((IntKind.i64.wrap a0).fdiv 262144) 15) 0 (aL .and .i64 (IntKind.i64.wrap a0) 262143)])
      (cond (cond ((aj (x3.getD 1 .dead)) != 0) true ((aj (x3.getD 0 .dead)) != a0))
       (some (FQ))
       (some (.agg 77 [bG ((IntKind.i64.wrap a0).fdiv 67108864) (aL .and .i64 ((IntKind.i64.wrap a0).fdiv 4194304) 15) (aL .and .i64 ((IntKind.i64.wrap a0).fdiv 262144) 15) 0 (aL .and .i64 (IntKind.i64.wrap a0) 262143), .bool true])))
      (none))))
   (none)) := by kernel_rfl
theorem Xr (F : Tab) (a0 : Int) : aP (cx F) 6 29 [.int .i64 a0] =
 some (.bool (cond (decide ((41 : Int) <= a0)) (decide (a0 <= 48)) false)) := by kernel_rfl
theorem XQ (F : Tab) (a0 : Int) : aP (cx F) 6 30 [.int .i64 a0] =
 cond (a0 == 20)
  (some (.agg 81 [.int .i64 1, .int .i64 4]))
  (cond (a0 == 22)
   (some (.agg 81 [.int .i64 1, .int .i64 1]))
   (cond (a0 == 21)
    (some (.agg 81 [.int .i64 2, .int .i64 4]))
    (cond (a0 == 23)
     (some (.agg 81 [.int .i64 2, .int .i64 1]))
     (cond (a0 == 24)
      (some (.agg 81 [.int .i64 3, .int .i64 4]))
      (some (.agg 81 [.int .i64 0, .int .i64 0])))))) := by kernel_rfl
theorem xW (F : Tab) (b0 : Bool) (a0 : Int) (l0 l1 : List AV) (b1 b2 b3 : Bool) (a1 a2 : Int) (l2 l3 : List AV) (b4 b5 b6 : Bool) (a3 a4 : Int) (l4 l5 : List AV) (b7 b8 : Bool) (a5 a6 a7 a8 a9 : Int) (l6 : List AV) (a10 a11 a12 a13 a14 : Int) : aP (cx F) 6 31 [aO b0 a0 l0 l1 b1 b2 b3 a1 a2 l2 l3 b4 b5 b6 a3 a4 l4 l5 b7 b8 a5 a6 a7 a8 a9 l6, bG a10 a11 a12 a13 a14] =
 (let x0 : Int := IntKind.u32.wrap ((aj (l2.getD a12.toNat .dead)) + (IntKind.u32.wrap a14));
  let x1 : List AV := au (aA F 30 [.int .i64 a10]);
  let x2 : Int := aj (x1.getD 0 .dead);
  let x3 : Int := aj (x1.getD 1 .dead);
  let x4 : Int := IntKind.u32.wrap x3;
  let x5 : List AV := au (aA F 24 [aO b0 a0 l0 l1 b1 b2 b3 a1 a2 l2 l3 b4 b5 b6 a3 a4 l4 l5 b7 b8 a5 a6 a7 a8 a9 l6, .int .i64 3, .int .u32 x0, .int .u32 a2]);
  let x6 : List AV := au (x5.getD 0 .dead);
  let x7 : List AV := au (x6.getD 1 .dead);
  let x8 : List AV := au (x6.getD 2 .dead);
  let x9 : List AV := au (x6.getD 7 .dead);
  let x10 : List AV := au (aA F 25 [aO b0 a0 l0 l1 b1 b2 b3 a1 a2 l2 l3 b4 b5 b6 a3 a4 l4 l5 b7 b8 a5 a6 a7 a8 a9 l6, .int .u32 x0, .int .i64 x2]);
  let x11 : List AV := au (x10.getD 0 .dead);
  let x12 : List AV := au (x11.getD 0 .dead);
  let x13 : Bool := av (x12.getD 0 .dead);
  let x14 : List AV := au (x12.getD 1 .dead);
  let x15 : Int := aj (x14.getD 0 .dead);
  let x16 : List AV := au (x14.getD 1 .dead);
  let x17 : List AV := au (x14.getD 2 .dead);
  let x18 : Bool := av (x14.getD 3 .dead);
  let x19 : Bool := av (x14.getD 4 .dead);
  let x20 : Bool := av (x14.getD 5 .dead);
  let x21 : Int := aj (x14.getD 6 .dead);
  let x22 : List AV := au (x12.getD 2 .dead);
  let x23 : Int := aj (x22.getD 0 .dead);
  let x24 : List AV := au (x22.getD 1 .dead);
  let x25 : List AV := au (x22.getD 2 .dead);
  let x26 : Bool := av (x22.getD 3 .dead);
  let x27 : Bool := av (x22.getD 4 .dead);
  let x28 : Bool := av (x22.getD 5 .dead);
  let x29 : Int := aj (x22.getD 6 .dead);
  let x30 : Int := aj (x12.getD 3 .dead);
  let x31 : List AV := ay (x12.getD 4 .dead);
  let x32 : List AV := ay (x12.getD 5 .dead);
  let x33 : Bool := av (x12.getD 6 .dead);
  let x34 : List AV := au (x12.getD 7 .dead);
  let x35 : Bool := av (x34.getD 0 .dead);
  let x36 : Int := aj (x34.getD 1 .dead);
  let x37 : Int := aj (x34.getD 2 .dead);
  let x38 : Int := aj (x12.getD 8 .dead);
  let x39 : Int := aj (x12.getD 9 .dead);
  let x40 : Int := aj (x12.getD 10 .dead);
  let x41 : List AV := ay ((au (x11.getD 1 .dead)).getD 0 .dead);
  let x42 : Int := aj (x10.getD 1 .dead);
  let x43 : Int := aj (x10.getD 2 .dead);
  let x44 : List AV := au (aA F 24 [aO x13 x15 x16 x17 x18 x19 x20 x21 x23 x24 x25 x26 x27 x28 x29 x30 x31 x32 x33 x35 x36 x37 x38 x39 x40 x41, .int .i64 x43, .int .u32 x0, .int .u32 a2]);
  let x45 : List AV := au (x44.getD 0 .dead);
  let x46 : List AV := au (x45.getD 1 .dead);
  let x47 : List AV := au (x45.getD 2 .dead);
  let x48 : List AV := au (x45.getD 7 .dead);
  let x49 : Bool := x2 != 2;
  let x50 : List AV := au (aA F 26 [aO x13 x15 x16 x17 x18 x19 x20 x21 x23 x24 x25 x26 x27 x28 x29 x30 x31 x32 x33 x35 x36 x37 x38 x39 x40 x41, .int .i64 x42, .int .i64 x3]);
  let x51 : List AV := au (x50.getD 0 .dead);
  let x52 : Bool := av (x51.getD 0 .dead);
  let x53 : List AV := au (x51.getD 1 .dead);
  let x54 : Int := aj (x53.getD 0 .dead);
  let x55 : List AV := au (x53.getD 1 .dead);
  let x56 : List AV := au (x53.getD 2 .dead);
  let x57 : Bool := av (x53.getD 3 .dead);
  let x58 : Bool := av (x53.getD 4 .dead);
  let x59 : Bool := av (x53.getD 5 .dead);
  let x60 : Int := aj (x53.getD 6 .dead);
  let x61 : List AV := au (x51.getD 2 .dead);
  let x62 : Int := aj (x61.getD 0 .dead);
  let x63 : List AV := au (x61.getD 1 .dead);
  let x64 : List AV := au (x61.getD 2 .dead);
  let x65 : Bool := av (x61.getD 3 .dead);
  let x66 : Bool := av (x61.getD 4 .dead);
  let x67 : Bool := av (x61.getD 5 .dead);
  let x68 : Int := aj (x61.getD 6 .dead);
  let x69 : Int := aj (x51.getD 3 .dead);
  let x70 : List AV := ay (x51.getD 4 .dead);
  let x71 : List AV := ay (x51.getD 5 .dead);
  let x72 : Bool := av (x51.getD 6 .dead);
  let x73 : List AV := au (x51.getD 7 .dead);
  let x74 : Bool := av (x73.getD 0 .dead);
  let x75 : Int := aj (x73.getD 1 .dead);
  let x76 : Int := aj (x73.getD 2 .dead);
  let x77 : Int := aj (x51.getD 8 .dead);
  let x78 : Int := aj (x51.getD 9 .dead);
  let x79 : Int := aj (x51.getD 10 .dead);
  let x80 : List AV := ay ((au (x50.getD 1 .dead)).getD 0 .dead);
  let x81 : Int := aj ((au (aA F 27 [aD x80, .int .i64 x42, .int .i64 x3])).getD 0 .dead);
  let x82 : Bool := x2 != 1;
  let x83 : List AV := au (aA F 53 [aO x52 x54 x55 x56 x57 x58 x59 x60 x62 x63 x64 x65 x66 x67 x68 x69 x70 x71 x72 x74 x75 x76 x77 x78 x79 x80, bq x42 x3 (aj (l2.getD a11.toNat .dead))]);
  let x84 : List AV := au (x83.getD 0 .dead);
  let x85 : Bool := av (x84.getD 0 .dead);
  let x86 : List AV := au (x84.getD 1 .dead);
  let x87 : Int := aj (x86.getD 0 .dead);
  let x88 : List AV := au (x86.getD 1 .dead);
  let x89 : List AV := au (x86.getD 2 .dead);
  let x90 : Bool := av (x86.getD 3 .dead);
  let x91 : Bool := av (x86.getD 4 .dead);
  let x92 : Bool := av (x86.getD 5 .dead);
  let x93 : Int := aj (x86.getD 6 .dead);
  let x94 : List AV := au (x84.getD 2 .dead);
  let x95 : Int := aj (x94.getD 0 .dead);
  let x96 : List AV := au (x94.getD 1 .dead);
  let x97 : List AV := au (x94.getD 2 .dead);
  let x98 : Bool := av (x94.getD 3 .dead);
  let x99 : Bool := av (x94.getD 4 .dead);
  let x100 : Bool := av (x94.getD 5 .dead);
  let x101 : Int := aj (x94.getD 6 .dead);
  let x102 : Int := aj (x84.getD 3 .dead);
  let x103 : List AV := ay (x84.getD 4 .dead);
  let x104 : List AV := ay (x84.getD 5 .dead);
  let x105 : Bool := av (x84.getD 6 .dead);
  let x106 : List AV := au (x84.getD 7 .dead);
  let x107 : Bool := av (x106.getD 0 .dead);
  let x108 : Int := aj (x106.getD 1 .dead);
  let x109 : Int := aj (x106.getD 2 .dead);
  let x110 : Int := aj (x84.getD 8 .dead);
  let x111 : Int := aj (x84.getD 9 .dead);
  let x112 : Int := aj (x84.getD 10 .dead);
  let x113 : List AV := ay ((au (x83.getD 1 .dead)).getD 0 .dead);
  let x114 : List AV := au (aA F 35 [aO x85 x87 x88 x89 x90 x91 x92 x93 x95 x96 x97 x98 x99 x100 x101 x102 x103 x104 x105 x107 x108 x109 x110 x111 x112 x113, .int .i64 a11, .int .u32 x81]);
  let x115 : List AV := au (x114.getD 0 .dead);
  let x116 : List AV := au (x115.getD 1 .dead);
  let x117 : List AV := au (x115.getD 2 .dead);
  let x118 : List AV := au (x115.getD 7 .dead);
  let x119 : List AV := au (aA F 35 [aO x52 x54 x55 x56 x57 x58 x59 x60 x62 x63 x64 x65 x66 x67 x68 x69 x70 x71 x72 x74 x75 x76 x77 x78 x79 x80, .int .i64 a11, .int .u32 x81]);
  let x120 : List AV := au (x119.getD 0 .dead);
  let x121 : List AV := au (x120.getD 1 .dead);
  let x122 : List AV := au (x120.getD 2 .dead);
  let x123 : List AV := au (x120.getD 7 .dead);
  let x124 : Int := aj ((au (aA F 27 [aD x41, .int .i64 x42, .int .i64 x3])).getD 0 .dead);
  let x125 : List AV := au (aA F 53 [aO x13 x15 x16 x17 x18 x19 x20 x21 x23 x24 x25 x26 x27 x28 x29 x30 x31 x32 x33 x35 x36 x37 x38 x39 x40 x41, bq x42 x3 (aj (l2.getD a11.toNat .dead))]);
  let x126 : List AV := au (x125.getD 0 .dead);
  let x127 : Bool := av (x126.getD 0 .dead);
  let x128 : List AV := au (x126.getD 1 .dead);
  let x129 : Int := aj (x128.getD 0 .dead);
  let x130 : List AV := au (x128.getD 1 .dead);
  let x131 : List AV := au (x128.getD 2 .dead);
  let x132 : Bool := av (x128.getD 3 .dead);
  let x133 : Bool := av (x128.getD 4 .dead);
  let x134 : Bool := av (x128.getD 5 .dead);
  let x135 : Int := aj (x128.getD 6 .dead);
  let x136 : List AV := au (x126.getD 2 .dead);
  let x137 : Int := aj (x136.getD 0 .dead);
  let x138 : List AV := au (x136.getD 1 .dead);
  let x139 : List AV := au (x136.getD 2 .dead);
  let x140 : Bool := av (x136.getD 3 .dead);
  let x141 : Bool := av (x136.getD 4 .dead);
  let x142 : Bool := av (x136.getD 5 .dead);
  let x143 : Int := aj (x136.getD 6 .dead);
  let x144 : Int := aj (x126.getD 3 .dead);
  let x145 : List AV := ay (x126.getD 4 .dead);
  let x146 : List AV := ay (x126.getD 5 .dead);
  let x147 : Bool := av (x126.getD 6 .dead);
  let x148 : List AV := au (x126.getD 7 .dead);
  let x149 : Bool := av (x148.getD 0 .dead);
  let x150 : Int := aj (x148.getD 1 .dead);
  let x151 : Int := aj (x148.getD 2 .dead);
  let x152 : Int := aj (x126.getD 8 .dead);
  let x153 : Int := aj (x126.getD 9 .dead);
  let x154 : Int := aj (x126.getD 10 .dead);
  let x155 : List AV := ay ((au (x125.getD 1 .dead)).getD 0 .dead);
  let x156 : List AV := au (aA F 35 [aO x127 x129 x130 x131 x132 x133 x134 x135 x137 x138 x139 x140 x141 x142 x143 x144 x145 x146 x147 x149 x150 x151 x152 x153 x154 x155, .int .i64 a11, .int .u32 x124]);
  let x157 : List AV := au (x156.getD 0 .dead);
  let x158 : List AV := au (x157.getD 1 .dead);
  let x159 : List AV := au (x157.getD 2 .dead);
  let x160 : List AV := au (x157.getD 7 .dead);
  let x161 : List AV := au (aA F 35 [aO x13 x15 x16 x17 x18 x19 x20 x21 x23 x24 x25 x26 x27 x28 x29 x30 x31 x32 x33 x35 x36 x37 x38 x39 x40 x41, .int .i64 a11, .int .u32 x124]);
  let x162 : List AV := au (x161.getD 0 .dead);
  let x163 : List AV := au (x162.getD 1 .dead);
  let x164 : List AV := au (x162.getD 2 .dead);
  let x165 : List AV := au (x162.getD 7 .dead);
  cond (cond (aN a12 16) true false)
   (cond (aB Pg F 30 [.int .i64 a10])
    (cond (!(x4 == 0))
     (cond ((x0.tmod x4) != 0)
      (cond (aB Pg F 24 [aO b0 a0 l0 l1 b1 b2 b3 a1 a2 l2 l3 b4 b5 b6 a3 a4 l4 l5 b7 b8 a5 a6 a7 a8 a9 l6, .int .i64 3, .int .u32 x0, .int .u32 a2])
       (some (aO (av (x6.getD 0 .dead)) (aj (x7.getD 0 .dead)) (au (x7.getD 1 .dead)) (au (x7.getD 2 .dead)) (av (x7.getD 3 .dead)) (av (x7.getD 4 .dead)) (av (x7.getD 5 .dead)) (aj (x7.getD 6 .dead)) (aj (x8.getD 0 .dead)) (au (x8.getD 1 .dead)) (au (x8.getD 2 .dead)) (av (x8.getD 3 .dead)) (av (x8.getD 4 .dead)) (av (x8.getD 5 .dead)) (aj (x8.getD 6 .dead)) (aj (x6.getD 3 .dead)) (ay (x6.getD 4 .dead)) (ay (x6.getD 5 .dead)) (av (x6.getD 6 .dead)) (av (x9.getD 0 .dead)) (aj (x9.getD 1 .dead)) (aj (x9.getD 2 .dead)) (aj (x6.getD 8 .dead)) (aj (x6.getD 9 .dead)) (aj (x6.getD 10 .dead)) (ay ((au (x5.getD 1 .dead)).getD 0 .dead))))
       (none))
      (cond (aB Pg F 25 [aO b0 a0 l0 l1 b1 b2 b3 a1 a2 l2 l3 b4 b5 b6 a3 a4 l4 l5 b7 b8 a5 a6 a7 a8 a9 l6, .int .u32 x0, .int .i64 x2])
       (cond (x43 != 0)
        (cond (aB Pg F 24 [aO x13 x15 x16 x17 x18 x19 x20 x21 x23 x24 x25 x26 x27 x28 x29 x30 x31 x32 x33 x35 x36 x37 x38 x39 x40 x41, .int .i64 x43, .int .u32 x0, .int .u32 a2])
         (some (aO (av (x45.getD 0 .dead)) (aj (x46.getD 0 .dead)) (au (x46.getD 1 .dead)) (au (x46.getD 2 .dead)) (av (x46.getD 3 .dead)) (av (x46.getD 4 .dead)) (av (x46.getD 5 .dead)) (aj (x46.getD 6 .dead)) (aj (x47.getD 0 .dead)) (au (x47.getD 1 .dead)) (au (x47.getD 2 .dead)) (av (x47.getD 3 .dead)) (av (x47.getD 4 .dead)) (av (x47.getD 5 .dead)) (aj (x47.getD 6 .dead)) (aj (x45.getD 3 .dead)) (ay (x45.getD 4 .dead)) (ay (x45.getD 5 .dead)) (av (x45.getD 6 .dead)) (av (x48.getD 0 .dead)) (aj (x48.getD 1 .dead)) (aj (x48.getD 2 .dead)) (aj (x45.getD 8 .dead)) (aj (x45.getD 9 .dead)) (aj (x45.getD 10 .dead)) (ay ((au (x44.getD 1 .dead)).getD 0 .dead))))
         (none))
        (cond x49
         (cond (aB Pg F 26 [aO x13 x15 x16 x17 x18 x19 x20 x21 x23 x24 x25 x26 x27 x28 x29 x30 x31 x32 x33 x35 x36 x37 x38 x39 x40 x41, .int .i64 x42, .int .i64 x3])
          (cond (aB Pg F 27 [aD x80, .int .i64 x42, .int .i64 x3])
           (cond x82
            (cond (cond (aN a11 16) (cond (aB Pg F 53 [aO x52 x54 x55 x56 x57 x58 x59 x60 x62 x63 x64 x65 x66 x67 x68 x69 x70 x71 x72 x74 x75 x76 x77 x78 x79 x80, bq x42 x3 (aj (l2.getD a11.toNat .dead))]) true false) false)
             (cond x49
              (cond (aB Pg F 35 [aO x85 x87 x88 x89 x90 x91 x92 x93 x95 x96 x97 x98 x99 x100 x101 x102 x103 x104 x105 x107 x108 x109 x110 x111 x112 x113, .int .i64 a11, .int .u32 x81])
               (some (aO (av (x115.getD 0 .dead)) (aj (x116.getD 0 .dead)) (au (x116.getD 1 .dead)) (au (x116.getD 2 .dead)) (av (x116.getD 3 .dead)) (av (x116.getD 4 .dead)) (av (x116.getD 5 .dead)) (aj (x116.getD 6 .dead)) (aj (x117.getD 0 .dead)) (au (x117.getD 1 .dead)) (au (x117.getD 2 .dead)) (av (x117.getD 3 .dead)) (av (x117.getD 4 .dead)) (av (x117.getD 5 .dead)) (aj (x117.getD 6 .dead)) (aj (x115.getD 3 .dead)) (ay (x115.getD 4 .dead)) (ay (x115.getD 5 .dead)) (av (x115.getD 6 .dead)) (av (x118.getD 0 .dead)) (aj (x118.getD 1 .dead)) (aj (x118.getD 2 .dead)) (aj (x115.getD 8 .dead)) (aj (x115.getD 9 .dead)) (aj (x115.getD 10 .dead)) (ay ((au (x114.getD 1 .dead)).getD 0 .dead))))
               (none))
              (some (aO x85 x87 x88 x89 x90 x91 x92 x93 x95 x96 x97 x98 x99 x100 x101 x102 x103 x104 x105 x107 x108 x109 x110 x111 x112 x113)))
             (none))
            (cond x49
             (cond (aB Pg F 35 [aO x52 x54 x55 x56 x57 x58 x59 x60 x62 x63 x64 x65 x66 x67 x68 x69 x70 x71 x72 x74 x75 x76 x77 x78 x79 x80, .int .i64 a11, .int .u32 x81])
              (some (aO (av (x120.getD 0 .dead)) (aj (x121.getD 0 .dead)) (au (x121.getD 1 .dead)) (au (x121.getD 2 .dead)) (av (x121.getD 3 .dead)) (av (x121.getD 4 .dead)) (av (x121.getD 5 .dead)) (aj (x121.getD 6 .dead)) (aj (x122.getD 0 .dead)) (au (x122.getD 1 .dead)) (au (x122.getD 2 .dead)) (av (x122.getD 3 .dead)) (av (x122.getD 4 .dead)) (av (x122.getD 5 .dead)) (aj (x122.getD 6 .dead)) (aj (x120.getD 3 .dead)) (ay (x120.getD 4 .dead)) (ay (x120.getD 5 .dead)) (av (x120.getD 6 .dead)) (av (x123.getD 0 .dead)) (aj (x123.getD 1 .dead)) (aj (x123.getD 2 .dead)) (aj (x120.getD 8 .dead)) (aj (x120.getD 9 .dead)) (aj (x120.getD 10 .dead)) (ay ((au (x119.getD 1 .dead)).getD 0 .dead))))
              (none))
             (some (aO x52 x54 x55 x56 x57 x58 x59 x60 x62 x63 x64 x65 x66 x67 x68 x69 x70 x71 x72 x74 x75 x76 x77 x78 x79 x80))))
           (none))
          (none))
         (cond (aB Pg F 27 [aD x41, .int .i64 x42, .int .i64 x3])
          (cond x82
           (cond (cond (aN a11 16) (cond (aB Pg F 53 [aO x13 x15 x16 x17 x18 x19 x20 x21 x23 x24 x25 x26 x27 x28 x29 x30 x31 x32 x33 x35 x36 x37 x38 x39 x40 x41, bq x42 x3 (aj (l2.getD a11.toNat .dead))]) true false) false)
            (cond x49
             (cond (aB Pg F 35 [aO x127 x129 x130 x131 x132 x133 x134 x135 x137 x138 x139 x140 x141 x142 x143 x144 x145 x146 x147 x149 x150 x151 x152 x153 x154 x155, .int .i64 a11, .int .u32 x124])
              (some (aO (av (x157.getD 0 .dead)) (aj (x158.getD 0 .dead)) (au (x158.getD 1 .dead)) (au (x158.getD 2 .dead)) (av (x158.getD 3 .dead)) (av (x158.getD 4 .dead)) (av (x158.getD 5 .dead)) (aj (x158.getD 6 .dead)) (aj (x159.getD 0 .dead)) (au (x159.getD 1 .dead)) (au (x159.getD 2 .dead)) (av (x159.getD 3 .dead)) (av (x159.getD 4 .dead)) (av (x159.getD 5 .dead)) (aj (x159.getD 6 .dead)) (aj (x157.getD 3 .dead)) (ay (x157.getD 4 .dead)) (ay (x157.getD 5 .dead)) (av (x157.getD 6 .dead)) (av (x160.getD 0 .dead)) (aj (x160.getD 1 .dead)) (aj (x160.getD 2 .dead)) (aj (x157.getD 8 .dead)) (aj (x157.getD 9 .dead)) (aj (x157.getD 10 .dead)) (ay ((au (x156.getD 1 .dead)).getD 0 .dead))))
              (none))
             (some (aO x127 x129 x130 x131 x132 x133 x134 x135 x137 x138 x139 x140 x141 x142 x143 x144 x145 x146 x147 x149 x150 x151 x152 x153 x154 x155)))
            (none))
           (cond x49
            (cond (aB Pg F 35 [aO x13 x15 x16 x17 x18 x19 x20 x21 x23 x24 x25 x26 x27 x28 x29 x30 x31 x32 x33 x35 x36 x37 x38 x39 x40 x41, .int .i64 a11, .int .u32 x124])
             (some (aO (av (x162.getD 0 .dead)) (aj (x163.getD 0 .dead)) (au (x163.getD 1 .dead)) (au (x163.getD 2 .dead)) (av (x163.getD 3 .dead)) (av (x163.getD 4 .dead)) (av (x163.getD 5 .dead)) (aj (x163.getD 6 .dead)) (aj (x164.getD 0 .dead)) (au (x164.getD 1 .dead)) (au (x164.getD 2 .dead)) (av (x164.getD 3 .dead)) (av (x164.getD 4 .dead)) (av (x164.getD 5 .dead)) (aj (x164.getD 6 .dead)) (aj (x162.getD 3 .dead)) (ay (x162.getD 4 .dead)) (ay (x162.getD 5 .dead)) (av (x162.getD 6 .dead)) (av (x165.getD 0 .dead)) (aj (x165.getD 1 .dead)) (aj (x165.getD 2 .dead)) (aj (x162.getD 8 .dead)) (aj (x162.getD 9 .dead)) (aj (x162.getD 10 .dead)) (ay ((au (x161.getD 1 .dead)).getD 0 .dead))))
             (none))
            (some (aO x13 x15 x16 x17 x18 x19 x20 x21 x23 x24 x25 x26 x27 x28 x29 x30 x31 x32 x33 x35 x36 x37 x38 x39 x40 x41))))
          (none))))
       (none)))
     (none))
    (none))
   (none)) := by kernel_rfl
end Go.Proofs.YtcknhfnbdgleiaaGreat
