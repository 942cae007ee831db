/- What the functions return, in terms of what they call. (Printed by a program of mine, gen.py.) -/
import Derived.Test.YtcknhfnbdgleiaaGreatCoC
set_option linter.unusedVariables false
set_option linter.unusedSimpArgs false
set_option maxRecDepth 100000
namespace Go.Proofs.YtcknhfnbdgleiaaGreat
open Go.AE
theorem aaW (F : Tab) (a0 a1 a2 a3 a4 : Int) : aO (cx F) 6 19 [bE a0 a1 a2 a3 a4] =
 cond (aA Pg F 39 [bE a0 a1 a2 a3 a4])
  (cond (aA Pg F 40 [vL, bg 0 4 (aj ((ak (ay F 39 [bE a0 a1 a2 a3 a4])).getD 0 .dead))])
   (some (aC (av ((ak ((ak (ay F 40 [vL, bg 0 4 (aj ((ak (ay F 39 [bE a0 a1 a2 a3 a4])).getD 0 .dead))])).getD 0 .dead)).getD 0 .dead))))
   (none))
  (none) := by kernel_rfl
theorem Zr (F : Tab) (a0 : Int) (l0 l1 : List AV) (b0 b1 b2 : Bool) (a1 a2 : Int) : aO (cx F) 6 20 [aD a0 l0 l1 b0 b1 b2 a1, .int .u32 a2] =
 cond (bT (!b2) (bT (!b1) true (cond (aA Pg F 41 [.int .u32 a2]) true false)) true)
  (some (.bool (cond (!b2) (cond (!b1) true ((aj (ay F 41 [.int .u32 a2])) != 0)) false)))
  (none) := by kernel_rfl
theorem aaz (F : Tab) (a0 : Int) (l0 l1 : List AV) (b0 b1 b2 : Bool) (a1 a2 : Int) : aO (cx F) 6 22 [aD a0 l0 l1 b0 b1 b2 a1, .int .u32 a2] =
 cond b2
  (some (.bool false))
  (some (.bool (cond (!b1) true (decide ((0 : Int) < (a2.tmod 32)))))) := by kernel_rfl
theorem ZK (F : Tab) (a0 : Int) (l0 l1 : List AV) (b0 b1 b2 : Bool) (a1 a2 : Int) : aO (cx F) 6 23 [aD a0 l0 l1 b0 b1 b2 a1, .int .u32 a2] =
 (let x0 : LO := K8 F a2 (au (ay F 50 [.int .u32 (aj (l1.getD 5 .dead)), .int .i64 0])) a0 l0 l1 b0 b1 b2 a1 100000 0;
  cond (aA Pg F 50 [.int .u32 (aj (l1.getD 5 .dead)), .int .i64 0])
   (cond (x0.k == 1)
    (some (.agg 66 [.int .i64 (x0.i.getD 0 0), .bool true]))
    (cond (x0.k == 2)
     (some (.agg 66 [.int .i64 0, .bool false]))
     (none)))
   (none)) := by kernel_rfl
theorem ZW (F : Tab) (b0 : Bool) (a0 : Int) (l0 l1 : List AV) (b1 b2 b3 : Bool) (a1 a2 : Int) (l2 l3 : List AV) (b4 b5 b6 : Bool) (a3 a4 : Int) (l4 l5 : List AV) (b7 b8 : Bool) (a5 a6 a7 a8 a9 : Int) (l6 : List AV) (a10 a11 a12 : Int) : aO (cx F) 6 24 [aN b0 a0 l0 l1 b1 b2 b3 a1 a2 l2 l3 b4 b5 b6 a3 a4 l4 l5 b7 b8 a5 a6 a7 a8 a9 l6, .int .i64 a10, .int .u32 a11, .int .u32 a12] =
 (let x0 : List AV := ak (ay F 51 [aD a2 l2 l3 b4 false b6 (IntKind.i64.wrap (a3 + 1)), .int .u32 (IntKind.u32.wrap a10), .int .u32 a11, .int .u32 a12]);
  cond (aA Pg F 51 [aD a2 l2 l3 b4 false b6 (IntKind.i64.wrap (a3 + 1)), .int .u32 (IntKind.u32.wrap a10), .int .u32 a11, .int .u32 a12])
   (some (aN b0 (aj (x0.getD 0 .dead)) (ak (x0.getD 1 .dead)) (ak (x0.getD 2 .dead)) (au (x0.getD 3 .dead)) (au (x0.getD 4 .dead)) (au (x0.getD 5 .dead)) (aj (x0.getD 6 .dead)) a2 l2 l3 b4 b5 b6 a3 a4 l4 l5 b7 b8 a5 a6 a7 a8 a10 l6))
   (none)) := by kernel_rfl
theorem TJ (F : Tab) (b0 : Bool) (a0 : Int) (l0 l1 : List AV) (b1 b2 b3 : Bool) (a1 a2 : Int) (l2 l3 : List AV) (b4 b5 b6 : Bool) (a3 a4 : Int) (l4 l5 : List AV) (b7 b8 : Bool) (a5 a6 a7 a8 a9 : Int) (l6 : List AV) (a10 a11 : Int) : aO (cx F) 6 25 [aN b0 a0 l0 l1 b1 b2 b3 a1 a2 l2 l3 b4 b5 b6 a3 a4 l4 l5 b7 b8 a5 a6 a7 a8 a9 l6, .int .u32 a10, .int .i64 a11] =
 (let x0 : List AV := ak (ay F 52 [aC l6, .int .u32 (aj (l3.getD 0 .dead)), .int .u32 a10, .int .i64 a11, .bool b4]);
  let x1 : List AV := ak (x0.getD 0 .dead);
  let x2 : Int := aj (x1.getD 0 .dead);
  let x3 : Int := aj (x1.getD 1 .dead);
  let x4 : List AV := av (x1.getD 2 .dead);
  let x5 : List AV := av (x1.getD 3 .dead);
  let x6 : Int := aj (x0.getD 1 .dead);
  let x7 : LO := LY F x2 x3 x4 x5 x6 100000 0 b0 a0 l0 l1 b1 b2 b3 a1 a2 l2 l3 b4 b5 b6 a3 a4 l4 l5 b7 b8 a5 a6 a7 a8 a9 l6;
  let x8 : LO := J7 F x2 x3 x4 x5 x6 100000 0 (x7.b.getD 0 false) (x7.i.getD 0 0) (x7.l.getD 0 []) (x7.l.getD 1 []) (x7.b.getD 1 false) (x7.b.getD 2 false) (x7.b.getD 3 false) (x7.i.getD 1 0) (x7.i.getD 2 0) (x7.l.getD 2 []) (x7.l.getD 3 []) (x7.b.getD 4 false) (x7.b.getD 5 false) (x7.b.getD 6 false) (x7.i.getD 3 0) (x7.i.getD 4 0) (x7.l.getD 4 []) (x7.l.getD 5 []) (x7.b.getD 7 false) (x7.b.getD 8 false) (x7.i.getD 5 0) (x7.i.getD 6 0) (x7.i.getD 7 0) (x7.i.getD 8 0) (x7.i.getD 9 0) (x7.l.getD 6 []);
  cond (aA Pg F 52 [aC l6, .int .u32 (aj (l3.getD 0 .dead)), .int .u32 a10, .int .i64 a11, .bool b4])
   (cond (x7.k == 1)
    (cond (x8.k == 1)
     (some (.agg 70 [aN (x8.b.getD 0 false) (x8.i.getD 0 0) (x8.l.getD 0 []) (x8.l.getD 1 []) (x8.b.getD 1 false) (x8.b.getD 2 false) (x8.b.getD 3 false) (x8.i.getD 1 0) (x8.i.getD 2 0) (x8.l.getD 2 []) (x8.l.getD 3 []) (x8.b.getD 4 false) (x8.b.getD 5 false) (x8.b.getD 6 false) (x8.i.getD 3 0) (x8.i.getD 4 0) (x8.l.getD 4 []) (x8.l.getD 5 []) (x8.b.getD 7 false) (x8.b.getD 8 false) (x8.i.getD 5 0) (x8.i.getD 6 0) (x8.i.getD 7 0) (x8.i.getD 8 0) (x8.i.getD 9 0) (x8.l.getD 6 []), .int .i64 x2, .int .i64 x6]))
     (none))
    (none))
   (none)) := by kernel_rfl
theorem Sr (F : Tab) (b0 : Bool) (a0 : Int) (l0 l1 : List AV) (b1 b2 b3 : Bool) (a1 a2 : Int) (l2 l3 : List AV) (b4 b5 b6 : Bool) (a3 a4 : Int) (l4 l5 : List AV) (b7 b8 : Bool) (a5 a6 a7 a8 a9 : Int) (l6 : List AV) (a10 a11 : Int) : aO (cx F) 6 26 [aN b0 a0 l0 l1 b1 b2 b3 a1 a2 l2 l3 b4 b5 b6 a3 a4 l4 l5 b7 b8 a5 a6 a7 a8 a9 l6, .int .i64 a10, .int .i64 a11] =
 cond (decide (((0 + l5.length) * 24) <= 140737488355328))
  (cond (decide (((l5.length + 1) * 24) <= 140737488355328))
   (some (aN b0 a0 l0 l1 b1 b2 b3 a1 a2 l2 l3 b4 b5 b6 a3 a4 l4 (l5 ++ [mO a10 a11 false]) b7 b8 a5 a6 a7 a8 a9 l6))
   (none))
  (none) := by kernel_rfl
theorem ZG (F : Tab) (l0 : List AV) (a0 a1 : Int) : aO (cx F) 6 27 [aC l0, .int .i64 a0, .int .i64 a1] =
 (let x0 : LO := Ea F a0 l0 100000 0 (IntKind.i64.wrap (a1 - 1));
  cond (aA Pg F 54 [aC l0, .int .i64 a0, .int .i64 a1])
   (cond (!(au (ay F 54 [aC l0, .int .i64 a0, .int .i64 a1])))
    (some (.agg 74 [.int .u32 0, .bool false]))
    (cond (x0.k == 1)
     (some (.agg 74 [.int .u32 (x0.i.getD 0 0), .bool true]))
     (none)))
   (none)) := by kernel_rfl
theorem VK (F : Tab) (a0 : Int) : aO (cx F) 6 28 [.int .u32 a0] =
 (let x0 : List AV := ak (ay F 39 [bE ((IntKind.i64.wrap a0).fdiv 67108864) (aK .and .i64 ((IntKind.i64.wrap a0).fdiv 4194304) 15) (aK .and .i64 ((IntKind.i64.wrap a0).fdiv 262144) 15) (aK .and .i64 ((IntKind.i64.wrap a0).fdiv 16384) 15) 0]);
  let x1 : Int := IntKind.i64.wrap ((aK .and .i64 (IntKind.i64.wrap a0) 262143) - 262144);
  let x2 : List AV := ak (ay F 39 [bE ((IntKind.i64.wrap a0).fdiv 67108864) (aK .and .i64 ((IntKind.i64.wrap a0).fdiv 4194304) 15) (aK .and .i64 ((IntKind.i64.wrap a0).fdiv 262144) 15) 0 x1]);
  let x3 : List AV := ak (ay F 39 [bE ((IntKind.i64.wrap a0).fdiv 67108864) (aK .and .i64 ((IntKind.i64.wrap a0).fdiv 4194304) 15) (aK .and .i64 ((IntKind.i64.wrap a0).fdiv 262144) 15) 0 (aK .and .i64 (IntKind.i64.wrap a0) 262143)]);
  cond (aA Pg F 56 [.int .i64 ((IntKind.i64.wrap a0).fdiv 67108864)])
   (cond ((aj (ay F 56 [.int .i64 ((IntKind.i64.wrap a0).fdiv 67108864)])) == 1)
    (cond (aA Pg F 39 [bE ((IntKind.i64.wrap a0).fdiv 67108864) (aK .and .i64 ((IntKind.i64.wrap a0).fdiv 4194304) 15) (aK .and .i64 ((IntKind.i64.wrap a0).fdiv 262144) 15) (aK .and .i64 ((IntKind.i64.wrap a0).fdiv 16384) 15) 0])
     (cond (cond ((aj (x0.getD 1 .dead)) != 0) true ((aj (x0.getD 0 .dead)) != a0))
      (some (GV))
      (some (.agg 77 [bE ((IntKind.i64.wrap a0).fdiv 67108864) (aK .and .i64 ((IntKind.i64.wrap a0).fdiv 4194304) 15) (aK .and .i64 ((IntKind.i64.wrap a0).fdiv 262144) 15) (aK .and .i64 ((IntKind.i64.wrap a0).fdiv 16384) 15) 0, .bool true])))
     (none))
    (cond (decide ((131071 : Int) < (aK .and .i64 (IntKind.i64.wrap a0) 262143)))
     (cond (aA Pg F 39 [bE ((IntKind.i64.wrap a0).fdiv 67108864) (aK .and .i64 ((IntKind.i64.wrap a0).fdiv 4194304) 15) (aK .and .i64 ((IntKind.i64.wrap a0).fdiv 262144) 15) 0 x1])
      (cond (cond ((aj (x2.getD 1 .dead)) != 0) true ((aj (x2.getD 0 .dead)) != a0))
       (some (GV))
       (some (.agg 77 [bE ((IntKind.i64.wrap a0).fdiv 67108864) (aK .and .i64 ((IntKind.i64.wrap a0).fdiv 4194304) 15) (aK .and .i64 ((IntKind.i64.wrap a0).fdiv 262144) 15) 0 x1, .bool true])))
      (none))
     (cond (aA Pg F 39 [bE ((IntKind.i64.wrap a0).fdiv 67108864) (aK .and .i64 ((IntKind.i64.wrap a0).fdiv 4194304) 15) (aK .and .i64 ((IntKind.i64.wrap a0).fdiv 262144) 15) 0 (aK .and .i64 (IntKind.i64.wrap a0) 262143)])
      (cond (cond ((aj (x3.getD 1 .dead)) != 0) true ((aj (x3.getD 0 .dead)) != a0))
       (some (GV))
       (some (.agg 77 [bE ((IntKind.i64.wrap a0).fdiv 67108864) (aK .and .i64 ((IntKind.i64.wrap a0).fdiv 4194304) 15) (aK .and .i64 ((IntKind.i64.wrap a0).fdiv 262144) 15) 0 (aK .and .i64 (IntKind.i64.wrap a0) 262143), .bool true])))
      (none))))
   (none)) := by kernel_rfl
theorem abL (F : Tab) (a0 : Int) : aO (cx F) 6 29 [.int .i64 a0] =
 some (.bool (cond (decide ((41 : Int) <= a0)) (decide (a0 <= 48)) false)) := by kernel_rfl
theorem VQ (F : Tab) (a0 : Int) : aO (cx F) 6 30 [.int .i64 a0] =
 cond (a0 == 20)
  (some (.agg 81 [.int .i64 1, .int .i64 4]))
  (cond (a0 == 22)
   (some (.agg 81 [.int .i64 1, .int .i64 1]))
   (cond (a0 == 21)
    (some (.agg 81 [.int .i64 2, .int .i64 4]))
    (cond (a0 == 23)
     (some (.agg 81 [.int .i64 2, .int .i64 1]))
     (cond (a0 == 24)
      (some (.agg 81 [.int .i64 3, .int .i64 4]))
      (some (.agg 81 [.int .i64 0, .int .i64 0])))))) := by kernel_rfl
theorem yw (F : Tab) (b0 : Bool) (a0 : Int) (l0 l1 : List AV) (b1 b2 b3 : Bool) (a1 a2 : Int) (l2 l3 : List AV) (b4 b5 b6 : Bool) (a3 a4 : Int) (l4 l5 : List AV) (b7 b8 : Bool) (a5 a6 a7 a8 a9 : Int) (l6 : List AV) (a10 a11 a12 a13 a14 : Int) : aO (cx F) 6 31 [aN b0 a0 l0 l1 b1 b2 b3 a1 a2 l2 l3 b4 b5 b6 a3 a4 l4 l5 b7 b8 a5 a6 a7 a8 a9 l6, bE a10 a11 a12 a13 a14] =
 (let x0 : Int := IntKind.u32.wrap ((aj (l2.getD a12.toNat .dead)) + (IntKind.u32.wrap a14));
  let x1 : List AV := ak (ay F 30 [.int .i64 a10]);
  let x2 : Int := aj (x1.getD 0 .dead);
  let x3 : Int := aj (x1.getD 1 .dead);
  let x4 : Int := IntKind.u32.wrap x3;
  let x5 : List AV := ak (ay F 24 [aN b0 a0 l0 l1 b1 b2 b3 a1 a2 l2 l3 b4 b5 b6 a3 a4 l4 l5 b7 b8 a5 a6 a7 a8 a9 l6, .int .i64 3, .int .u32 x0, .int .u32 a2]);
  let x6 : List AV := ak (x5.getD 0 .dead);
  let x7 : List AV := ak (x6.getD 1 .dead);
  let x8 : List AV := ak (x6.getD 2 .dead);
  let x9 : List AV := ak (x6.getD 7 .dead);
  let x10 : List AV := ak (ay F 25 [aN b0 a0 l0 l1 b1 b2 b3 a1 a2 l2 l3 b4 b5 b6 a3 a4 l4 l5 b7 b8 a5 a6 a7 a8 a9 l6, .int .u32 x0, .int .i64 x2]);
  let x11 : List AV := ak (x10.getD 0 .dead);
  let x12 : List AV := ak (x11.getD 0 .dead);
  let x13 : Bool := au (x12.getD 0 .dead);
  let x14 : List AV := ak (x12.getD 1 .dead);
  let x15 : Int := aj (x14.getD 0 .dead);
  let x16 : List AV := ak (x14.getD 1 .dead);
  let x17 : List AV := ak (x14.getD 2 .dead);
  let x18 : Bool := au (x14.getD 3 .dead);
  let x19 : Bool := au (x14.getD 4 .dead);
  let x20 : Bool := au (x14.getD 5 .dead);
  let x21 : Int := aj (x14.getD 6 .dead);
  let x22 : List AV := ak (x12.getD 2 .dead);
  let x23 : Int := aj (x22.getD 0 .dead);
  let x24 : List AV := ak (x22.getD 1 .dead);
  let x25 : List AV := ak (x22.getD 2 .dead);
  let x26 : Bool := au (x22.getD 3 .dead);
  let x27 : Bool := au (x22.getD 4 .dead);
  let x28 : Bool := au (x22.getD 5 .dead);
  let x29 : Int := aj (x22.getD 6 .dead);
  let x30 : Int := aj (x12.getD 3 .dead);
  let x31 : List AV := av (x12.getD 4 .dead);
  let x32 : List AV := av (x12.getD 5 .dead);
  let x33 : Bool := au (x12.getD 6 .dead);
  let x34 : List AV := ak (x12.getD 7 .dead);
  let x35 : Bool := au (x34.getD 0 .dead);
  let x36 : Int := aj (x34.getD 1 .dead);
  let x37 : Int := aj (x34.getD 2 .dead);
  let x38 : Int := aj (x12.getD 8 .dead);
  let x39 : Int := aj (x12.getD 9 .dead);
  let x40 : Int := aj (x12.getD 10 .dead);
  let x41 : List AV := av ((ak (x11.getD 1 .dead)).getD 0 .dead);
  let x42 : Int := aj (x10.getD 1 .dead);
  let x43 : Int := aj (x10.getD 2 .dead);
  let x44 : List AV := ak (ay F 24 [aN x13 x15 x16 x17 x18 x19 x20 x21 x23 x24 x25 x26 x27 x28 x29 x30 x31 x32 x33 x35 x36 x37 x38 x39 x40 x41, .int .i64 x43, .int .u32 x0, .int .u32 a2]);
  let x45 : List AV := ak (x44.getD 0 .dead);
  let x46 : List AV := ak (x45.getD 1 .dead);
  let x47 : List AV := ak (x45.getD 2 .dead);
  let x48 : List AV := ak (x45.getD 7 .dead);
  let x49 : Bool := x2 != 2;
  let x50 : List AV := ak (ay F 26 [aN x13 x15 x16 x17 x18 x19 x20 x21 x23 x24 x25 x26 x27 x28 x29 x30 x31 x32 x33 x35 x36 x37 x38 x39 x40 x41, .int .i64 x42, .int .i64 x3]);
  let x51 : List AV := ak (x50.getD 0 .dead);
  let x52 : Bool := au (x51.getD 0 .dead);
  let x53 : List AV := ak (x51.getD 1 .dead);
  let x54 : Int := aj (x53.getD 0 .dead);
  let x55 : List AV := ak (x53.getD 1 .dead);
  let x56 : List AV := ak (x53.getD 2 .dead);
  let x57 : Bool := au (x53.getD 3 .dead);
  let x58 : Bool := au (x53.getD 4 .dead);
  let x59 : Bool := au (x53.getD 5 .dead);
  let x60 : Int := aj (x53.getD 6 .dead);
  let x61 : List AV := ak (x51.getD 2 .dead);
  let x62 : Int := aj (x61.getD 0 .dead);
  let x63 : List AV := ak (x61.getD 1 .dead);
  let x64 : List AV := ak (x61.getD 2 .dead);
  let x65 : Bool := au (x61.getD 3 .dead);
  let x66 : Bool := au (x61.getD 4 .dead);
  let x67 : Bool := au (x61.getD 5 .dead);
  let x68 : Int := aj (x61.getD 6 .dead);
  let x69 : Int := aj (x51.getD 3 .dead);
  let x70 : List AV := av (x51.getD 4 .dead);
  let x71 : List AV := av (x51.getD 5 .dead);
  let x72 : Bool := au (x51.getD 6 .dead);
  let x73 : List AV := ak (x51.getD 7 .dead);
  let x74 : Bool := au (x73.getD 0 .dead);
  let x75 : Int := aj (x73.getD 1 .dead);
  let x76 : Int := aj (x73.getD 2 .dead);
  let x77 : Int := aj (x51.getD 8 .dead);
  let x78 : Int := aj (x51.getD 9 .dead);
  let x79 : Int := aj (x51.getD 10 .dead);
  let x80 : List AV := av ((ak (x50.getD 1 .dead)).getD 0 .dead);
  let x81 : Int := aj ((ak (ay F 27 [aC x80, .int .i64 x42, .int .i64 x3])).getD 0 .dead);
  let x82 : Bool := x2 != 1;
  let x83 : List AV := ak (ay F 53 [aN x52 x54 x55 x56 x57 x58 x59 x60 x62 x63 x64 x65 x66 x67 x68 x69 x70 x71 x72 x74 x75 x76 x77 x78 x79 x80, bg x42 x3 (aj (l2.getD a11.toNat .dead))]);
  let x84 : List AV := ak (x83.getD 0 .dead);
  let x85 : Bool := au (x84.getD 0 .dead);
  let x86 : List AV := ak (x84.getD 1 .dead);
  let x87 : Int := aj (x86.getD 0 .dead);
  let x88 : List AV := ak (x86.getD 1 .dead);
  let x89 : List AV := ak (x86.getD 2 .dead);
  let x90 : Bool := au (x86.getD 3 .dead);
  let x91 : Bool := au (x86.getD 4 .dead);
  let x92 : Bool := au (x86.getD 5 .dead);
  let x93 : Int := aj (x86.getD 6 .dead);
  let x94 : List AV := ak (x84.getD 2 .dead);
  let x95 : Int := aj (x94.getD 0 .dead);
  let x96 : List AV := ak (x94.getD 1 .dead);
  let x97 : List AV := ak (x94.getD 2 .dead);
  let x98 : Bool := au (x94.getD 3 .dead);
  let x99 : Bool := au (x94.getD 4 .dead);
  let x100 : Bool := au (x94.getD 5 .dead);
  let x101 : Int := aj (x94.getD 6 .dead);
  let x102 : Int := aj (x84.getD 3 .dead);
  let x103 : List AV := av (x84.getD 4 .dead);
  let x104 : List AV := av (x84.getD 5 .dead);
  let x105 : Bool := au (x84.getD 6 .dead);
  let x106 : List AV := ak (x84.getD 7 .dead);
  let x107 : Bool := au (x106.getD 0 .dead);
  let x108 : Int := aj (x106.getD 1 .dead);
  let x109 : Int := aj (x106.getD 2 .dead);
  let x110 : Int := aj (x84.getD 8 .dead);
  let x111 : Int := aj (x84.getD 9 .dead);
  let x112 : Int := aj (x84.getD 10 .dead);
  let x113 : List AV := av ((ak (x83.getD 1 .dead)).getD 0 .dead);
  let x114 : List AV := ak (ay F 35 [aN x85 x87 x88 x89 x90 x91 x92 x93 x95 x96 x97 x98 x99 x100 x101 x102 x103 x104 x105 x107 x108 x109 x110 x111 x112 x113, .int .i64 a11, .int .u32 x81]);
  let x115 : List AV := ak (x114.getD 0 .dead);
  let x116 : List AV := ak (x115.getD 1 .dead);
  let x117 : List AV := ak (x115.getD 2 .dead);
  let x118 : List AV := ak (x115.getD 7 .dead);
  let x119 : List AV := ak (ay F 35 [aN x52 x54 x55 x56 x57 x58 x59 x60 x62 x63 x64 x65 x66 x67 x68 x69 x70 x71 x72 x74 x75 x76 x77 x78 x79 x80, .int .i64 a11, .int .u32 x81]);
  let x120 : List AV := ak (x119.getD 0 .dead);
  let x121 : List AV := ak (x120.getD 1 .dead);
  let x122 : List AV := ak (x120.getD 2 .dead);
  let x123 : List AV := ak (x120.getD 7 .dead);
  let x124 : Int := aj ((ak (ay F 27 [aC x41, .int .i64 x42, .int .i64 x3])).getD 0 .dead);
  let x125 : List AV := ak (ay F 53 [aN x13 x15 x16 x17 x18 x19 x20 x21 x23 x24 x25 x26 x27 x28 x29 x30 x31 x32 x33 x35 x36 x37 x38 x39 x40 x41, bg x42 x3 (aj (l2.getD a11.toNat .dead))]);
  let x126 : List AV := ak (x125.getD 0 .dead);
  let x127 : Bool := au (x126.getD 0 .dead);
  let x128 : List AV := ak (x126.getD 1 .dead);
  let x129 : Int := aj (x128.getD 0 .dead);
  let x130 : List AV := ak (x128.getD 1 .dead);
  let x131 : List AV := ak (x128.getD 2 .dead);
  let x132 : Bool := au (x128.getD 3 .dead);
  let x133 : Bool := au (x128.getD 4 .dead);
  let x134 : Bool := au (x128.getD 5 .dead);
  let x135 : Int := aj (x128.getD 6 .dead);
  let x136 : List AV := ak (x126.getD 2 .dead);
  let x137 : Int := aj (x136.getD 0 .dead);
  let x138 : List AV := ak (x136.getD 1 .dead);
  let x139 : List AV := ak (x136.getD 2 .dead);
  let x140 : Bool := au (x136.getD 3 .dead);
  let x141 : Bool := au (x136.getD 4 .dead);
  let x142 : Bool := au (x136.getD 5 .dead);
  let x143 : Int := aj (x136.getD 6 .dead);
  let x144 : Int := aj (x126.getD 3 .dead);
  let x145 : List AV := av (x126.getD 4 .dead);
  let x146 : List AV := av (x126.getD 5 .dead);
  let x147 : Bool := au (x126.getD 6 .dead);
  let x148 : List AV := ak (x126.getD 7 .dead);
  let x149 : Bool := au (x148.getD 0 .dead);
  let x150 : Int := aj (x148.getD 1 .dead);
  let x151 : Int := aj (x148.getD 2 .dead);
  let x152 : Int := aj (x126.getD 8 .dead);
  let x153 : Int := aj (x126.getD 9 .dead);
  let x154 : Int := aj (x126.getD 10 .dead);
  let x155 : List AV := av ((ak (x125.getD 1 .dead)).getD 0 .dead);
  let x156 : List AV := ak (ay F 35 [aN x127 x129 x130 x131 x132 x133 x134 x135 x137 x138 x139 x140 x141 x142 x143 x144 x145 x146 x147 x149 x150 x151 x152 x153 x154 x155, .int .i64 a11, .int .u32 x124]);
  let x157 : List AV := ak (x156.getD 0 .dead);
  let x158 : List AV := ak (x157.getD 1 .dead);
  let x159 : List AV := ak (x157.getD 2 .dead);
  let x160 : List AV := ak (x157.getD 7 .dead);
  let x161 : List AV := ak (ay F 35 [aN x13 x15 x16 x17 x18 x19 x20 x21 x23 x24 x25 x26 x27 x28 x29 x30 x31 x32 x33 x35 x36 x37 x38 x39 x40 x41, .int .i64 a11, .int .u32 x124]);
  let x162 : List AV := ak (x161.getD 0 .dead);
  let x163 : List AV := ak (x162.getD 1 .dead);
  let x164 : List AV := ak (x162.getD 2 .dead);
  let x165 : List AV := ak (x162.getD 7 .dead);
  cond (cond (aM a12 16) true false)
   (cond (aA Pg F 30 [.int .i64 a10])
    (cond (!(x4 == 0))
     (cond ((x0.tmod x4) != 0)
      (cond (aA Pg F 24 [aN b0 a0 l0 l1 b1 b2 b3 a1 a2 l2 l3 b4 b5 b6 a3 a4 l4 l5 b7 b8 a5 a6 a7 a8 a9 l6, .int .i64 3, .int .u32 x0, .int .u32 a2])
       (some (aN (au (x6.getD 0 .dead)) (aj (x7.getD 0 .dead)) (ak (x7.getD 1 .dead)) (ak (x7.getD 2 .dead)) (au (x7.getD 3 .dead)) (au (x7.getD 4 .dead)) (au (x7.getD 5 .dead)) (aj (x7.getD 6 .dead)) (aj (x8.getD 0 .dead)) (ak (x8.getD 1 .dead)) (ak (x8.getD 2 .dead)) (au (x8.getD 3 .dead)) (au (x8.getD 4 .dead)) (au (x8.getD 5 .dead)) (aj (x8.getD 6 .dead)) (aj (x6.getD 3 .dead)) (av (x6.getD 4 .dead)) (av (x6.getD 5 .dead)) (au (x6.getD 6 .dead)) (au (x9.getD 0 .dead)) (aj (x9.getD 1 .dead)) (aj (x9.getD 2 .dead)) (aj (x6.getD 8 .dead)) (aj (x6.getD 9 .dead)) (aj (x6.getD 10 .dead)) (av ((ak (x5.getD 1 .dead)).getD 0 .dead))))
       (none))
      (cond (aA Pg F 25 [aN b0 a0 l0 l1 b1 b2 b3 a1 a2 l2 l3 b4 b5 b6 a3 a4 l4 l5 b7 b8 a5 a6 a7 a8 a9 l6, .int .u32 x0, .int .i64 x2])
       (cond (x43 != 0)
        (cond (aA Pg F 24 [aN x13 x15 x16 x17 x18 x19 x20 x21 x23 x24 x25 x26 x27 x28 x29 x30 x31 x32 x33 x35 x36 x37 x38 x39 x40 x41, .int .i64 x43, .int .u32 x0, .int .u32 a2])
         (some (aN (au (x45.getD 0 .dead)) (aj (x46.getD 0 .dead)) (ak (x46.getD 1 .dead)) (ak (x46.getD 2 .dead)) (au (x46.getD 3 .dead)) (au (x46.getD 4 .dead)) (au (x46.getD 5 .dead)) (aj (x46.getD 6 .dead)) (aj (x47.getD 0 .dead)) (ak (x47.getD 1 .dead)) (ak (x47.getD 2 .dead)) (au (x47.getD 3 .dead)) (au (x47.getD 4 .dead)) (au (x47.getD 5 .dead)) (aj (x47.getD 6 .dead)) (aj (x45.getD 3 .dead)) (av (x45.getD 4 .dead)) (av (x45.getD 5 .dead)) (au (x45.getD 6 .dead)) (au (x48.getD 0 .dead)) (aj (x48.getD 1 .dead)) (aj (x48.getD 2 .dead)) (aj (x45.getD 8 .dead)) (aj (x45.getD 9 .dead)) (aj (x45.getD 10 .dead)) (av ((ak (x44.getD 1 .dead)).getD 0 .dead))))
         (none))
        (cond x49
         (cond (aA Pg F 26 [aN x13 x15 x16 x17 x18 x19 x20 x21 x23 x24 x25 x26 x27 x28 x29 x30 x31 x32 x33 x35 x36 x37 x38 x39 x40 x41, .int .i64 x42, .int .i64 x3])
          (cond (aA Pg F 27 [aC x80, .int .i64 x42, .int .i64 x3])
           (cond x82
            (cond (cond (aM a11 16) (cond (aA Pg F 53 [aN x52 x54 x55 x56 x57 x58 x59 x60 x62 x63 x64 x65 x66 x67 x68 x69 x70 x71 x72 x74 x75 x76 x77 x78 x79 x80, bg x42 x3 (aj (l2.getD a11.toNat .dead))]) true false) false)
             (cond x49
              (cond (aA Pg F 35 [aN x85 x87 x88 x89 x90 x91 x92 x93 x95 x96 x97 x98 x99 x100 x101 x102 x103 x104 x105 x107 x108 x109 x110 x111 x112 x113, .int .i64 a11, .int .u32 x81])
               (some (aN (au (x115.getD 0 .dead)) (aj (x116.getD 0 .dead)) (ak (x116.getD 1 .dead)) (ak (x116.getD 2 .dead)) (au (x116.getD 3 .dead)) (au (x116.getD 4 .dead)) (au (x116.getD 5 .dead)) (aj (x116.getD 6 .dead)) (aj (x117.getD 0 .dead)) (ak (x117.getD 1 .dead)) (ak (x117.getD 2 .dead)) (au (x117.getD 3 .dead)) (au (x117.getD 4 .dead)) (au (x117.getD 5 .dead)) (aj (x117.getD 6 .dead)) (aj (x115.getD 3 .dead)) (av (x115.getD 4 .dead)) (av (x115.getD 5 .dead)) (au (x115.getD 6 .dead)) (au (x118.getD 0 .dead)) (aj (x118.getD 1 .dead)) (aj (x118.getD 2 .dead)) (aj (x115.getD 8 .dead)) (aj (x115.getD 9 .dead)) (aj (x115.getD 10 .dead)) (av ((ak (x114.getD 1 .dead)).getD 0 .dead))))
               (none))
              (some (aN x85 x87 x88 x89 x90 x91 x92 x93 x95 x96 x97 x98 x99 x100 x101 x102 x103 x104 x105 x107 x108 x109 x110 x111 x112 x113)))
             (none))
            (cond x49
             (cond (aA Pg F 35 [aN x52 x54 x55 x56 x57 x58 x59 x60 x62 x63 x64 x65 x66 x67 x68 x69 x70 x71 x72 x74 x75 x76 x77 x78 x79 x80, .int .i64 a11, .int .u32 x81])
              (some (aN (au (x120.getD 0 .dead)) (aj (x121.getD 0 .dead)) (ak (x121.getD 1 .dead)) (ak (x121.getD 2 .dead)) (au (x121.getD 3 .dead)) (au (x121.getD 4 .dead)) (au (x121.getD 5 .dead)) (aj (x121.getD 6 .dead)) (aj (x122.getD 0 .dead)) (ak (x122.getD 1 .dead)) (ak (x122.getD 2 .dead)) (au (x122.getD 3 .dead)) (au (x122.getD 4 .dead)) (au (x122.getD 5 .dead)) (aj (x122.getD 6 .dead)) (aj (x120.getD 3 .dead)) (av (x120.getD 4 .dead)) (av (x120.getD 5 .dead)) (au (x120.getD 6 .dead)) (au (x123.getD 0 .dead)) (aj (x123.getD 1 .dead)) (aj (x123.getD 2 .dead)) (aj (x120.getD 8 .dead)) (aj (x120.getD 9 .dead)) (aj (x120.getD 10 .dead)) (av ((ak (x119.getD 1 .dead)).getD 0 .dead))))
              (none))
             (some (aN x52 x54 x55 x56 x57 x58 x59 x60 x62 x63 x64 x65 x66 x67 x68 x69 x70 x71 x72 x74 x75 x76 x77 x78 x79 x80))))
           (none))
          (none))
         (cond (aA Pg F 27 [aC x41, .int .i64 x42, .int .i64 x3])
          (cond x82
           (cond (cond (aM a11 16) (cond (aA Pg F 53 [aN x13 x15 x16 x17 x18 x19 x20 x21 x23 x24 x25 x26 x27 x28 x29 x30 x31 x32 x33 x35 x36 x37 x38 x39 x40 x41, bg x42 x3 (aj (l2.getD a11.toNat .dead))]) true false) false)
            (cond x49
             (cond (aA Pg F 35 [aN x127 x129 x130 x131 x132 x133 x134 x135 x137 x138 x139 x140 x141 x142 x143 x144 x145 x146 x147 x149 x150 x151 x152 x153 x154 x155, .int .i64 a11, .int .u32 x124])
              (some (aN (au (x157.getD 0 .dead)) (aj (x158.getD 0 .dead)) (ak (x158.getD 1 .dead)) (ak (x158.getD 2 .dead)) (au (x158.getD 3 .dead)) (au (x158.getD 4 .dead)) (au (x158.getD 5 .dead)) (aj (x158.getD 6 .dead)) (aj (x159.getD 0 .dead)) (ak (x159.getD 1 .dead)) (ak (x159.getD 2 .dead)) (au (x159.getD 3 .dead)) (au (x159.getD 4 .dead)) (au (x159.getD 5 .dead)) (aj (x159.getD 6 .dead)) (aj (x157.getD 3 .dead)) (av (x157.getD 4 .dead)) (av (x157.getD 5 .dead)) (au (x157.getD 6 .dead)) (au (x160.getD 0 .dead)) (aj (x160.getD 1 .dead)) (aj (x160.getD 2 .dead)) (aj (x157.getD 8 .dead)) (aj (x157.getD 9 .dead)) (aj (x157.getD 10 .dead)) (av ((ak (x156.getD 1 .dead)).getD 0 .dead))))
              (none))
             (some (aN x127 x129 x130 x131 x132 x133 x134 x135 x137 x138 x139 x140 x141 x142 x143 x144 x145 x146 x147 x149 x150 x151 x152 x153 x154 x155)))
            (none))
           (cond x49
            (cond (aA Pg F 35 [aN x13 x15 x16 x17 x18 x19 x20 x21 x23 x24 x25 x26 x27 x28 x29 x30 x31 x32 x33 x35 x36 x37 x38 x39 x40 x41, .int .i64 a11, .int .u32 x124])
             (some (aN (au (x162.getD 0 .dead)) (aj (x163.getD 0 .dead)) (ak (x163.getD 1 .dead)) (ak (x163.getD 2 .dead)) (au (x163.getD 3 .dead)) (au (x163.getD 4 .dead)) (au (x163.getD 5 .dead)) (aj (x163.getD 6 .dead)) (aj (x164.getD 0 .dead)) (ak (x164.getD 1 .dead)) (ak (x164.getD 2 .dead)) (au (x164.getD 3 .dead)) (au (x164.getD 4 .dead)) (au (x164.getD 5 .dead)) (aj (x164.getD 6 .dead)) (aj (x162.getD 3 .dead)) (av (x162.getD 4 .dead)) (av (x162.getD 5 .dead)) (au (x162.getD 6 .dead)) (au (x165.getD 0 .dead)) (aj (x165.getD 1 .dead)) (aj (x165.getD 2 .dead)) (aj (x162.getD 8 .dead)) (aj (x162.getD 9 .dead)) (aj (x162.getD 10 .dead)) (av ((ak (x161.getD 1 .dead)).getD 0 .dead))))
             (none))
            (some (aN x13 x15 x16 x17 x18 x19 x20 x21 x23 x24 x25 x26 x27 x28 x29 x30 x31 x32 x33 x35 x36 x37 x38 x39 x40 x41))))
          (none))))
       (none)))
     (none))
    (none))
   (none)) := by kernel_rfl
end Go.Proofs.YtcknhfnbdgleiaaGreat
