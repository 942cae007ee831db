/- What the functions return, in terms of what they call. (Printed by a program of mine, gen.py.) -/
import Derived.Test.YtcknhfnbdgleiaaGreatCoC
set_option linter.unusedVariables false
set_option linter.unusedSimpArgs false
set_option maxRecDepth 100000
namespace Go.Proofs.YtcknhfnbdgleiaaGreat
open Go.AE
theorem iX (F : Tab) (b0 : Bool) (a0 : Int) (l0 l1 : List AV) (b1 b2 b3 : Bool) (a1 a2 : Int) (l2 l3 : List AV) (b4 b5 b6 : Bool) (a3 a4 : Int) (l4 l5 : List AV) (b7 b8 : Bool) (a5 a6 a7 a8 a9 : Int) (l6 : List AV) (a10 a11 a12 a13 a14 a15 : Int) : aP (cx F) 6 32 [aO b0 a0 l0 l1 b1 b2 b3 a1 a2 l2 l3 b4 b5 b6 a3 a4 l4 l5 b7 b8 a5 a6 a7 a8 a9 l6, bG a10 a11 a12 a13 a14, .int .u32 a15] =
 (let x0 : Int := IntKind.u32.wrap ((aj (l2.getD a12.toNat .dead)) + (IntKind.u32.wrap a14));
  let x1 : List AV := au (aA F 35 [aO b0 a0 l0 l1 b1 b2 b3 a1 a2 l2 l3 b4 b5 b6 a3 a4 l4 l5 b7 b8 a5 a6 a7 a8 a9 l6, .int .i64 a11, .int .u32 x0]);
  let x2 : List AV := au (x1.getD 0 .dead);
  let x3 : List AV := au (x2.getD 1 .dead);
  let x4 : List AV := au (x2.getD 2 .dead);
  let x5 : List AV := au (x2.getD 7 .dead);
  let x6 : List AV := au (aA F 35 [aO b0 a0 l0 l1 b1 b2 b3 a1 a2 l2 l3 b4 b5 b6 a3 a4 l4 l5 b7 b8 a5 a6 a7 a8 a9 l6, .int .i64 a11, .int .u32 (IntKind.u32.wrap ((IntKind.u32.wrap a14) * 16384))]);
  let x7 : List AV := au (x6.getD 0 .dead);
  let x8 : List AV := au (x7.getD 1 .dead);
  let x9 : List AV := au (x7.getD 2 .dead);
  let x10 : List AV := au (x7.getD 7 .dead);
  let x11 : Bool := aB Pg F 58 [.int .u32 a2, bG a10 a11 a12 a13 a14];
  let x12 : Int := aj ((au (aA F 58 [.int .u32 a2, bG a10 a11 a12 a13 a14])).getD 0 .dead);
  let x13 : List AV := au (aA F 35 [aO b0 x12 l0 l1 b1 b2 b3 a1 a2 l2 l3 b4 b5 b6 a3 a4 l4 l5 b7 b8 a5 a6 a7 a8 a9 l6, .int .i64 a11, .int .u32 (IntKind.u32.wrap (a2 + 4))]);
  let x14 : List AV := au (x13.getD 0 .dead);
  let x15 : List AV := au (x14.getD 1 .dead);
  let x16 : List AV := au (x14.getD 2 .dead);
  let x17 : List AV := au (x14.getD 7 .dead);
  let x18 : List AV := au (aA F 35 [aO b0 x0 l0 l1 b1 b2 b3 a1 a2 l2 l3 b4 b5 b6 a3 a4 l4 l5 b7 b8 a5 a6 a7 a8 a9 l6, .int .i64 a11, .int .u32 (IntKind.u32.wrap (a2 + 4))]);
  let x19 : List AV := au (x18.getD 0 .dead);
  let x20 : List AV := au (x19.getD 1 .dead);
  let x21 : List AV := au (x19.getD 2 .dead);
  let x22 : List AV := au (x19.getD 7 .dead);
  let x23 : List AV := au (aA F 24 [aO b0 a0 l0 l1 b1 b2 b3 a1 a2 l2 l3 b4 b5 b6 a3 a4 l4 l5 b7 b8 a5 a6 a7 a8 a9 l6, .int .i64 1, .int .u32 0, .int .u32 (IntKind.u32.wrap (a2 + 4))]);
  let x24 : List AV := au (x23.getD 0 .dead);
  let x25 : List AV := au (x24.getD 1 .dead);
  let x26 : List AV := au (x24.getD 2 .dead);
  let x27 : List AV := au (x24.getD 7 .dead);
  let x28 : List AV := au (aA F 59 [aG a0 l0 l1 b1 b2 b3 a1]);
  let x29 : List AV := au (aA F 60 [aO b0 a0 l0 l1 b1 b2 b3 a1 a2 l2 l3 b4 b5 b6 a3 a4 l4 l5 b7 b8 a5 a6 a7 a8 a9 l6, bG a10 a11 a12 a13 a14, .int .u32 a15]);
  let x30 : List AV := au (x29.getD 0 .dead);
  let x31 : List AV := au (x30.getD 1 .dead);
  let x32 : List AV := au (x30.getD 2 .dead);
  let x33 : List AV := au (x30.getD 7 .dead);
  let x34 : List AV := au (aA F 35 [aO b0 a0 l0 l1 b1 b2 b3 a1 a2 l2 l3 b4 b5 b6 a3 a4 l4 l5 b7 b8 a5 a6 a7 a8 a9 l6, .int .i64 a11, .int .u32 (aj ((au (aA F 61 [.int .i64 a10, .int .u32 (aj (l2.getD a12.toNat .dead)), .int .u32 (aj (l2.getD a13.toNat .dead))])).getD 0 .dead))]);
  let x35 : List AV := au (x34.getD 0 .dead);
  let x36 : List AV := au (x35.getD 1 .dead);
  let x37 : List AV := au (x35.getD 2 .dead);
  let x38 : List AV := au (x35.getD 7 .dead);
  cond (a10 == 16)
   (cond (cond (aN a12 16) (cond (aB Pg F 35 [aO b0 a0 l0 l1 b1 b2 b3 a1 a2 l2 l3 b4 b5 b6 a3 a4 l4 l5 b7 b8 a5 a6 a7 a8 a9 l6, .int .i64 a11, .int .u32 x0]) true false) false)
    (some (aO (av (x2.getD 0 .dead)) (aj (x3.getD 0 .dead)) (au (x3.getD 1 .dead)) (au (x3.getD 2 .dead)) (av (x3.getD 3 .dead)) (av (x3.getD 4 .dead)) (av (x3.getD 5 .dead)) (aj (x3.getD 6 .dead)) (aj (x4.getD 0 .dead)) (au (x4.getD 1 .dead)) (au (x4.getD 2 .dead)) (av (x4.getD 3 .dead)) (av (x4.getD 4 .dead)) (av (x4.getD 5 .dead)) (aj (x4.getD 6 .dead)) (aj (x2.getD 3 .dead)) (ay (x2.getD 4 .dead)) (ay (x2.getD 5 .dead)) (av (x2.getD 6 .dead)) (av (x5.getD 0 .dead)) (aj (x5.getD 1 .dead)) (aj (x5.getD 2 .dead)) (aj (x2.getD 8 .dead)) (aj (x2.getD 9 .dead)) (aj (x2.getD 10 .dead)) (ay ((au (x1.getD 1 .dead)).getD 0 .dead))))
    (none))
   (cond (a10 == 17)
    (cond (aB Pg F 35 [aO b0 a0 l0 l1 b1 b2 b3 a1 a2 l2 l3 b4 b5 b6 a3 a4 l4 l5 b7 b8 a5 a6 a7 a8 a9 l6, .int .i64 a11, .int .u32 (IntKind.u32.wrap ((IntKind.u32.wrap a14) * 16384))])
     (some (aO (av (x7.getD 0 .dead)) (aj (x8.getD 0 .dead)) (au (x8.getD 1 .dead)) (au (x8.getD 2 .dead)) (av (x8.getD 3 .dead)) (av (x8.getD 4 .dead)) (av (x8.getD 5 .dead)) (aj (x8.getD 6 .dead)) (aj (x9.getD 0 .dead)) (au (x9.getD 1 .dead)) (au (x9.getD 2 .dead)) (av (x9.getD 3 .dead)) (av (x9.getD 4 .dead)) (av (x9.getD 5 .dead)) (aj (x9.getD 6 .dead)) (aj (x7.getD 3 .dead)) (ay (x7.getD 4 .dead)) (ay (x7.getD 5 .dead)) (av (x7.getD 6 .dead)) (av (x10.getD 0 .dead)) (aj (x10.getD 1 .dead)) (aj (x10.getD 2 .dead)) (aj (x7.getD 8 .dead)) (aj (x7.getD 9 .dead)) (aj (x7.getD 10 .dead)) (ay ((au (x6.getD 1 .dead)).getD 0 .dead))))
     (none))
    (cond (cond (a10 == 28) (a10 == 28) (cond (a10 == 29) (a10 == 29) (cond (a10 == 30) (a10 == 30) (a10 == 31))))
     (cond (cond (aN a11 16) (cond (aN a12 16) (cond (aB Pg F 57 [.int .i64 a10, .int .u32 (aj (l2.getD a11.toNat .dead)), .int .u32 (aj (l2.getD a12.toNat .dead))]) true false) false) false)
      (cond (av (aA F 57 [.int .i64 a10, .int .u32 (aj (l2.getD a11.toNat .dead)), .int .u32 (aj (l2.getD a12.toNat .dead))]))
       (cond x11
        (some (aO b0 x12 l0 l1 b1 b2 b3 a1 a2 l2 l3 b4 b5 b6 a3 a4 l4 l5 b7 b8 a5 a6 a7 a8 a9 l6))
        (none))
       (some (aO b0 a0 l0 l1 b1 b2 b3 a1 a2 l2 l3 b4 b5 b6 a3 a4 l4 l5 b7 b8 a5 a6 a7 a8 a9 l6)))
      (none))
     (cond (a10 == 32)
      (cond x11
       (cond (aB Pg F 35 [aO b0 x12 l0 l1 b1 b2 b3 a1 a2 l2 l3 b4 b5 b6 a3 a4 l4 l5 b7 b8 a5 a6 a7 a8 a9 l6, .int .i64 a11, .int .u32 (IntKind.u32.wrap (a2 + 4))])
        (some (aO (av (x14.getD 0 .dead)) (aj (x15.getD 0 .dead)) (au (x15.getD 1 .dead)) (au (x15.getD 2 .dead)) (av (x15.getD 3 .dead)) (av (x15.getD 4 .dead)) (av (x15.getD 5 .dead)) (aj (x15.getD 6 .dead)) (aj (x16.getD 0 .dead)) (au (x16.getD 1 .dead)) (au (x16.getD 2 .dead)) (av (x16.getD 3 .dead)) (av (x16.getD 4 .dead)) (av (x16.getD 5 .dead)) (aj (x16.getD 6 .dead)) (aj (x14.getD 3 .dead)) (ay (x14.getD 4 .dead)) (ay (x14.getD 5 .dead)) (av (x14.getD 6 .dead)) (av (x17.getD 0 .dead)) (aj (x17.getD 1 .dead)) (aj (x17.getD 2 .dead)) (aj (x14.getD 8 .dead)) (aj (x14.getD 9 .dead)) (aj (x14.getD 10 .dead)) (ay ((au (x13.getD 1 .dead)).getD 0 .dead))))
        (none))
       (none))
      (cond (a10 == 33)
       (cond (cond (aN a12 16) true false)
        (cond (aB Pg F 35 [aO b0 x0 l0 l1 b1 b2 b3 a1 a2 l2 l3 b4 b5 b6 a3 a4 l4 l5 b7 b8 a5 a6 a7 a8 a9 l6, .int .i64 a11, .int .u32 (IntKind.u32.wrap (a2 + 4))])
         (some (aO (av (x19.getD 0 .dead)) (aj (x20.getD 0 .dead)) (au (x20.getD 1 .dead)) (au (x20.getD 2 .dead)) (av (x20.getD 3 .dead)) (av (x20.getD 4 .dead)) (av (x20.getD 5 .dead)) (aj (x20.getD 6 .dead)) (aj (x21.getD 0 .dead)) (au (x21.getD 1 .dead)) (au (x21.getD 2 .dead)) (av (x21.getD 3 .dead)) (av (x21.getD 4 .dead)) (av (x21.getD 5 .dead)) (aj (x21.getD 6 .dead)) (aj (x19.getD 3 .dead)) (ay (x19.getD 4 .dead)) (ay (x19.getD 5 .dead)) (av (x19.getD 6 .dead)) (av (x22.getD 0 .dead)) (aj (x22.getD 1 .dead)) (aj (x22.getD 2 .dead)) (aj (x19.getD 8 .dead)) (aj (x19.getD 9 .dead)) (aj (x19.getD 10 .dead)) (ay ((au (x18.getD 1 .dead)).getD 0 .dead))))
         (none))
        (none))
       (cond (a10 == 40)
        (cond (aB Pg F 24 [aO b0 a0 l0 l1 b1 b2 b3 a1 a2 l2 l3 b4 b5 b6 a3 a4 l4 l5 b7 b8 a5 a6 a7 a8 a9 l6, .int .i64 1, .int .u32 0, .int .u32 (IntKind.u32.wrap (a2 + 4))])
         (some (aO (av (x24.getD 0 .dead)) (aj (x25.getD 0 .dead)) (au (x25.getD 1 .dead)) (au (x25.getD 2 .dead)) (av (x25.getD 3 .dead)) (av (x25.getD 4 .dead)) (av (x25.getD 5 .dead)) (aj (x25.getD 6 .dead)) (aj (x26.getD 0 .dead)) (au (x26.getD 1 .dead)) (au (x26.getD 2 .dead)) (av (x26.getD 3 .dead)) (av (x26.getD 4 .dead)) (av (x26.getD 5 .dead)) (aj (x26.getD 6 .dead)) (aj (x24.getD 3 .dead)) (ay (x24.getD 4 .dead)) (ay (x24.getD 5 .dead)) (av (x24.getD 6 .dead)) (av (x27.getD 0 .dead)) (aj (x27.getD 1 .dead)) (aj (x27.getD 2 .dead)) (aj (x24.getD 8 .dead)) (aj (x24.getD 9 .dead)) (aj (x24.getD 10 .dead)) (ay ((au (x23.getD 1 .dead)).getD 0 .dead))))
         (none))
        (cond (a10 == 41)
         (cond (aB Pg F 59 [aG a0 l0 l1 b1 b2 b3 a1])
          (some (aO b0 (aj (x28.getD 0 .dead)) (au (x28.getD 1 .dead)) (au (x28.getD 2 .dead)) (av (x28.getD 3 .dead)) (av (x28.getD 4 .dead)) (av (x28.getD 5 .dead)) (aj (x28.getD 6 .dead)) a2 l2 l3 b4 b5 b6 a3 a4 l4 l5 b7 b8 a5 a6 a7 a8 a9 l6))
          (none))
         (cond (cond (a10 == 42) (a10 == 42) (a10 == 43))
          (cond (aB Pg F 60 [aO b0 a0 l0 l1 b1 b2 b3 a1 a2 l2 l3 b4 b5 b6 a3 a4 l4 l5 b7 b8 a5 a6 a7 a8 a9 l6, bG a10 a11 a12 a13 a14, .int .u32 a15])
           (some (aO (av (x30.getD 0 .dead)) (aj (x31.getD 0 .dead)) (au (x31.getD 1 .dead)) (au (x31.getD 2 .dead)) (av (x31.getD 3 .dead)) (av (x31.getD 4 .dead)) (av (x31.getD 5 .dead)) (aj (x31.getD 6 .dead)) (aj (x32.getD 0 .dead)) (au (x32.getD 1 .dead)) (au (x32.getD 2 .dead)) (av (x32.getD 3 .dead)) (av (x32.getD 4 .dead)) (av (x32.getD 5 .dead)) (aj (x32.getD 6 .dead)) (aj (x30.getD 3 .dead)) (ay (x30.getD 4 .dead)) (ay (x30.getD 5 .dead)) (av (x30.getD 6 .dead)) (av (x33.getD 0 .dead)) (aj (x33.getD 1 .dead)) (aj (x33.getD 2 .dead)) (aj (x30.getD 8 .dead)) (aj (x30.getD 9 .dead)) (aj (x30.getD 10 .dead)) (ay ((au (x29.getD 1 .dead)).getD 0 .dead))))
           (none))
          (cond (a10 == 44)
           (cond (a12 != 0)
            (cond (aN a12 16)
             (some (aO b0 a0 l0 l1 b1 b2 b3 a1 a2 l2 l3 b4 b5 b6 a3 a4 l4 l5 b7 b8 a5 a6 1 (aj (l2.getD a12.toNat .dead)) a9 l6))
             (none))
            (some (aO b0 a0 l0 l1 b1 b2 b3 a1 a2 l2 l3 b4 b5 b6 a3 a4 l4 l5 b7 b8 a5 a6 2 a8 a9 l6)))
           (cond (a10 == 45)
            (some (aO b0 a0 l0 l1 b1 true b3 a1 a2 l2 l3 b4 b5 b6 a3 a4 l4 l5 b7 b8 a5 a6 a7 a8 a9 l6))
            (cond (a10 == 48)
             (some (aO b0 a0 l0 l1 b1 b2 true a1 a2 l2 l3 b4 b5 b6 a3 a4 l4 l5 b7 b8 a5 a6 a7 a8 a9 l6))
             (cond (a10 == 46)
              (some (aO b0 a0 l0 l1 b1 b2 b3 a1 a2 l2 l3 b4 b5 b6 a3 a4 l4 l5 true true a14 0 a7 a8 a9 l6))
              (cond (a10 == 47)
               (cond (cond (aN a11 16) true false)
                (some (aO b0 a0 l0 l1 b1 b2 b3 a1 a2 l2 l3 b4 b5 b6 a3 a4 l4 l5 true false a14 (aj (l2.getD a11.toNat .dead)) a7 a8 a9 l6))
                (none))
               (cond (cond (aN a12 16) (cond (aN a13 16) (cond (aB Pg F 61 [.int .i64 a10, .int .u32 (aj (l2.getD a12.toNat .dead)), .int .u32 (aj (l2.getD a13.toNat .dead))]) (cond (aB Pg F 35 [aO b0 a0 l0 l1 b1 b2 b3 a1 a2 l2 l3 b4 b5 b6 a3 a4 l4 l5 b7 b8 a5 a6 a7 a8 a9 l6, .int .i64 a11, .int .u32 (aj ((au (aA F 61 [.int .i64 a10, .int .u32 (aj (l2.getD a12.toNat .dead)), .int .u32 (aj (l2.getD a13.toNat .dead))])).getD 0 .dead))]) true false) false) false) false)
                (some (aO (av (x35.getD 0 .dead)) (aj (x36.getD 0 .dead)) (au (x36.getD 1 .dead)) (au (x36.getD 2 .dead)) (av (x36.getD 3 .dead)) (av (x36.getD 4 .dead)) (av (x36.getD 5 .dead)) (aj (x36.getD 6 .dead)) (aj (x37.getD 0 .dead)) (au (x37.getD 1 .dead)) (au (x37.getD 2 .dead)) (av (x37.getD 3 .dead)) (av (x37.getD 4 .dead)) (av (x37.getD 5 .dead)) (aj (x37.getD 6 .dead)) (aj (x35.getD 3 .dead)) (ay (x35.getD 4 .dead)) (ay (x35.getD 5 .dead)) (av (x35.getD 6 .dead)) (av (x38.getD 0 .dead)) (aj (x38.getD 1 .dead)) (aj (x38.getD 2 .dead)) (aj (x35.getD 8 .dead)) (aj (x35.getD 9 .dead)) (aj (x35.getD 10 .dead)) (ay ((au (x34.getD 1 .dead)).getD 0 .dead))))
                (none))))))))))))))) := by kernel_rfl
theorem Y0 (F : Tab) (a0 : Int) : aP (cx F) 6 33 [.int .u32 a0] =
 (let x0 : Int := (IntKind.i64.wrap ((IntKind.i64.wrap (aL .and .u32 (a0.fdiv 1) 262143)) * 70368744177664)).fdiv 70368744177664;
  cond (aB Pg F 63 [.int .i64 (IntKind.i64.wrap (aL .and .u32 (a0.fdiv 67108864) 63))])
   (cond ((aj (aA F 63 [.int .i64 (IntKind.i64.wrap (aL .and .u32 (a0.fdiv 67108864) 63))])) == 1)
    (cond ((IntKind.i64.wrap (aL .and .u32 (a0.fdiv 1) 16383)) != 0)
     (some (.tuple zx))
     (cond (aB Pg F 64 [bG (IntKind.i64.wrap (aL .and .u32 (a0.fdiv 67108864) 63)) (IntKind.i64.wrap (aL .and .u32 (a0.fdiv 4194304) 15)) (IntKind.i64.wrap (aL .and .u32 (a0.fdiv 262144) 15)) (IntKind.i64.wrap (aL .and .u32 (a0.fdiv 16384) 15)) 0])
      (cond (!(av (aA F 64 [bG (IntKind.i64.wrap (aL .and .u32 (a0.fdiv 67108864) 63)) (IntKind.i64.wrap (aL .and .u32 (a0.fdiv 4194304) 15)) (IntKind.i64.wrap (aL .and .u32 (a0.fdiv 262144) 15)) (IntKind.i64.wrap (aL .and .u32 (a0.fdiv 16384) 15)) 0])))
       (some (.tuple zx))
       (some (.tuple [bG (IntKind.i64.wrap (aL .and .u32 (a0.fdiv 67108864) 63)) (IntKind.i64.wrap (aL .and .u32 (a0.fdiv 4194304) 15)) (IntKind.i64.wrap (aL .and .u32 (a0.fdiv 262144) 15)) (IntKind.i64.wrap (aL .and .u32 (a0.fdiv 16384) 15)) 0, .bool true])))
      (none)))
    (cond (aB Pg F 64 [bG (IntKind.i64.wrap (aL .and .u32 (a0.fdiv 67108864) 63)) (IntKind.i64.wrap (aL .and .u32 (a0.fdiv 4194304) 15)) (IntKind.i64.wrap (aL .and .u32 (a0.fdiv 262144) 15)) 0 x0])
     (cond (!(av (aA F 64 [bG (IntKind.i64.wrap (aL .and .u32 (a0.fdiv 67108864) 63)) (IntKind.i64.wrap (aL .and .u32 (a0.fdiv 4194304) 15)) (IntKind.i64.wrap (aL .and .u32 (a0.fdiv 262144) 15)) 0 x0])))
      (some (.tuple zx))
      (some (.tuple [bG (IntKind.i64.wrap (aL .and .u32 (a0.fdiv 67108864) 63)) (IntKind.i64.wrap (aL .and .u32 (a0.fdiv 4194304) 15)) (IntKind.i64.wrap (aL .and .u32 (a0.fdiv 262144) 15)) 0 x0, .bool true])))
     (none)))
   (none)) := by kernel_rfl
theorem XI (F : Tab) (a0 : Int) (l0 l1 : List AV) (b0 b1 b2 : Bool) (a1 a2 a3 a4 : Int) : aP (cx F) 6 34 [aG a0 l0 l1 b0 b1 b2 a1, dR a2 a3 a4] =
 (let x0 : List AV := au (aA F 65 [aG a0 l0 l1 b0 false b2 (IntKind.i64.wrap (a1 + 1)), .int .u32 (IntKind.u32.wrap a2), .int .u32 a3, .int .u32 a4]);
  cond (aB Pg F 65 [aG a0 l0 l1 b0 false b2 (IntKind.i64.wrap (a1 + 1)), .int .u32 (IntKind.u32.wrap a2), .int .u32 a3, .int .u32 a4])
   (some (aG (aj (x0.getD 0 .dead)) (au (x0.getD 1 .dead)) (au (x0.getD 2 .dead)) (av (x0.getD 3 .dead)) (av (x0.getD 4 .dead)) (av (x0.getD 5 .dead)) (aj (x0.getD 6 .dead))))
   (none)) := by kernel_rfl
theorem YM (F : Tab) (b0 : Bool) (a0 : Int) (l0 l1 : List AV) (b1 b2 b3 : Bool) (a1 a2 : Int) (l2 l3 : List AV) (b4 b5 b6 : Bool) (a3 a4 : Int) (l4 l5 : List AV) (b7 b8 : Bool) (a5 a6 a7 a8 a9 : Int) (l6 : List AV) (a10 a11 : Int) : aP (cx F) 6 35 [aO b0 a0 l0 l1 b1 b2 b3 a1 a2 l2 l3 b4 b5 b6 a3 a4 l4 l5 b7 b8 a5 a6 a7 a8 a9 l6, .int .i64 a10, .int .u32 a11] =
 cond (a10 != 0)
  (cond (aN a10 16)
   (some (aO b0 a0 (l0.set a10.toNat (.int .u32 a11)) l1 b1 b2 b3 a1 a2 l2 l3 b4 b5 b6 a3 a4 l4 l5 b7 b8 a5 a6 a7 a8 a9 l6))
   (none))
  (some (aO b0 a0 l0 l1 b1 b2 b3 a1 a2 l2 l3 b4 b5 b6 a3 a4 l4 l5 b7 b8 a5 a6 a7 a8 a9 l6)) := by kernel_rfl
theorem Si (F : Tab) (l0 l1 : List AV) : aP (cx F) 6 36 [aD l0, .slice 57 l1 false] =
 (let x0 : LO := NS F l0.length l1 ((l1.length : Nat) : Int) l0 l0.length 100000 0 l0;
  cond (decide ((0 : Nat) < l0.length))
   (cond (decide (((0 + l0.length) * 128) <= 140737488355328))
    (cond (decide ((0 : Nat) < l0.length))
     (cond (x0.k == 1)
      (some (.tuple [aD l0, .bool false]))
      (cond (x0.k == 2)
       (some (.tuple [aD (sub (x0.l.getD 0 []) 0 (0 + l0.length)), .bool true]))
       (none)))
     (none))
    (none))
   (none)) := by kernel_rfl
theorem aaG (F : Tab) (a0 a1 a2 a3 a4 : Int) : aP (cx F) 6 39 [bG a0 a1 a2 a3 a4] =
 (let x0 : Int := IntKind.i64.wrap ((IntKind.i64.wrap ((IntKind.i64.wrap ((IntKind.i64.wrap (a0 * 67108864)) + (IntKind.i64.wrap (a1 * 4194304)))) + (IntKind.i64.wrap (a2 * 262144)))) + (IntKind.i64.wrap (a3 * 16384)));
  cond (aB Pg F 68 [bG a0 a1 a2 a3 a4])
   (cond (!(av (aA F 68 [bG a0 a1 a2 a3 a4])))
    (some (.agg 100 [.int .u32 0, .int .i64 1]))
    (some (.agg 100 [.int .u32 (IntKind.u32.wrap (IntKind.i64.wrap ((cond (decide (a4 < 0)) (IntKind.i64.wrap (x0 + 262144)) x0) + a4))), .int .i64 0])))
   (none)) := by kernel_rfl
theorem ZN (F : Tab) (l0 : List AV) (a0 a1 a2 : Int) : aP (cx F) 6 40 [aD l0, bq a0 a1 a2] =
 (let x0 : LO := FP F l0 a0 a1 a2 l0 l0.length l0.length 100000 0 l0;
  cond (aB Pg F 54 [aD l0, .int .i64 a0, .int .i64 a1])
   (cond (!(av (aA F 54 [aD l0, .int .i64 a0, .int .i64 a1])))
    (some (vF l0 false))
    (cond (decide (((0 + l0.length) * 128) <= 140737488355328))
     (cond (decide ((0 : Nat) < l0.length))
      (cond (x0.k == 1)
       (some (vF (sub (x0.l.getD 0 []) 0 (0 + l0.length)) true))
       (none))
      (none))
     (none)))
   (none)) := by kernel_rfl
theorem U6 (F : Tab) (a0 : Int) : aP (cx F) 6 41 [.int .u32 a0] =
 some (.int .u32 (aL .and .u32 a0 31)) := by kernel_rfl
theorem SF (F : Tab) (a0 : Int) (l0 l1 : List AV) (b0 b1 b2 : Bool) (a1 a2 : Int) : aP (cx F) 6 43 [aG a0 l0 l1 b0 b1 b2 a1, .int .u32 a2] =
 (let x0 : LO := I9 F a2 a0 l0 l1 b0 b1 b2 a1 100000 0;
  cond ((aL .and .u32 (aj (l1.getD 5 .dead)) 1) == 0)
   (some (.tuple [.int .i64 0, .bool false]))
   (cond (x0.k == 1)
    (some (.tuple [.int .i64 (x0.i.getD 0 0), .bool true]))
    (cond (x0.k == 2)
     (some (.tuple [.int .i64 0, .bool false]))
     (none)))) := by kernel_rfl
theorem abY (F : Tab) (a0 : Int) : aP (cx F) 6 46 [.int .i64 a0] =
 cond (a0 == 20)
  (some (.tuple [.int .i64 1, .int .i64 4]))
  (cond (a0 == 22)
   (some (.tuple [.int .i64 1, .int .i64 1]))
   (cond (a0 == 21)
    (some (.tuple [.int .i64 2, .int .i64 4]))
    (cond (a0 == 23)
     (some (.tuple [.int .i64 2, .int .i64 1]))
     (cond (a0 == 24)
      (some (.tuple [.int .i64 3, .int .i64 4]))
      (some (.tuple [.int .i64 0, .int .i64 0])))))) := by kernel_rfl
theorem TQ (F : Tab) (a0 a1 : Int) : aP (cx F) 6 50 [.int .u32 a0, .int .i64 a1] =
 cond (decide ((0 : Int) <= (IntKind.u32.wrap a1)))
  (some (.bool ((aL .and .u32 (a0.fdiv (2 ^ min (IntKind.u32.wrap a1).toNat 32)) 1) == 1)))
  (none) := by kernel_rfl
theorem Ri (F : Tab) (a0 : Int) (l0 l1 : List AV) (b0 b1 b2 : Bool) (a1 a2 a3 a4 : Int) : aP (cx F) 6 51 [aG a0 l0 l1 b0 b1 b2 a1, .int .u32 a2, .int .u32 a3, .int .u32 a4] =
 cond (cond (aB Pg F 50 [.int .u32 (aj (l1.getD 5 .dead)), .int .i64 0]) (cond (aB Pg F 82 [.bool (av (aA F 50 [.int .u32 (aj (l1.getD 5 .dead)), .int .i64 0])), .int .u32 2]) (cond (aB Pg F 82 [.bool b0, .int .u32 4]) true false) false) false)
  (some (aG (aj (l1.getD 1 .dead)) l0 ((((l1.set 5 (.int .u32 (IntKind.u32.wrap ((aj (aA F 82 [.bool (av (aA F 50 [.int .u32 (aj (l1.getD 5 .dead)), .int .i64 0])), .int .u32 2])) + (aj (aA F 82 [.bool b0, .int .u32 4])))))).set 3 (.int .u32 a2)).set 4 (.int .u32 a3)).set 2 (.int .u32 a4)) false false b2 a1))
  (none) := by kernel_rfl
theorem Rs (F : Tab) (l0 : List AV) (a0 a1 a2 : Int) (b0 : Bool) : aP (cx F) 6 52 [aD l0, .int .u32 a0, .int .u32 a1, .int .i64 a2, .bool b0] =
 (let x0 : Int := aj (aA F 83 [.int .i64 a2]);
  let x1 : List AV := au (aA F 86 [aD l0, .int .i64 (IntKind.i64.wrap a0), .int .i64 (IntKind.i64.wrap a1)]);
  let x2 : Int := aj (x1.getD 0 .dead);
  let x3 : Int := aj (x1.getD 1 .dead);
  let x4 : Int := aj (x1.getD 2 .dead);
  let x5 : List AV := ay (x1.getD 3 .dead);
  let x6 : Bool := !(av (x1.getD 4 .dead));
  let x7 : Bool := !(av (aA F 87 [.int .i64 x3, .int .i64 2]));
  let x8 : Bool := !(av (aA F 87 [.int .i64 x3, .int .i64 8]));
  let x9 : Bool := cond b0 (!(av (aA F 87 [.int .i64 x3, .int .i64 4]))) false;
  let x10 : Bool := bX b0 (cond (aB Pg F 87 [.int .i64 x3, .int .i64 4]) true false) true;
  let x11 : Bool := cond (a2 == 4) (cond x8 true x9) x9;
  let x12 : Bool := bX (a2 == 4) (cond (aB Pg F 87 [.int .i64 x3, .int .i64 8]) (bX x8 true x10) false) x10;
  let x13 : Int := IntKind.i64.wrap (x4 + ((IntKind.i64.wrap a1).tmod 128));
  let x14 : Int := cond (!(av (aA F 87 [.int .i64 x3, .int .i64 16]))) (IntKind.i64.wrap (x3 + 16)) x3;
  let x15 : Int := cond (cond (cond (a2 == 2) true (a2 == 3)) (!(av (aA F 87 [.int .i64 x14, .int .i64 32]))) false) (IntKind.i64.wrap (x14 + 32)) x14;
  cond (aB Pg F 83 [.int .i64 a2])
   (cond (a0 == 0)
    (cond (aB Pg F 84 [aD l0])
     (cond (decide ((aj (aA F 84 [aD l0])) <= (IntKind.i64.wrap a1)))
      (some (.agg 119 [vZ, .int .i64 x0]))
      (some (mV (IntKind.i64.wrap a1) (-1) [] [] 0)))
     (none))
    (cond (bX (decide ((131072 : Int) <= (IntKind.i64.wrap a1))) true (cond (aB Pg F 85 [aD l0, .int .i64 (IntKind.i64.wrap a0)]) true false))
     (cond (cond (decide ((131072 : Int) <= (IntKind.i64.wrap a1))) true (!(av (aA F 85 [aD l0, .int .i64 (IntKind.i64.wrap a0)]))))
      (some (.agg 119 [vZ, .int .i64 x0]))
      (cond (aB Pg F 86 [aD l0, .int .i64 (IntKind.i64.wrap a0), .int .i64 (IntKind.i64.wrap a1)])
       (cond (bX x6 true (cond (aB Pg F 85 [aD l0, .int .i64 x4]) true false))
        (cond (cond x6 true (!(av (aA F 85 [aD l0, .int .i64 x4]))))
         (some (mV 0 0 [] x5 x0))
         (cond (bX (cond (a2 == 2) true (a2 == 3)) (cond (aB Pg F 87 [.int .i64 x3, .int .i64 2]) (bX x7 true x12) false) x12)
          (cond (cond (cond (a2 == 2) true (a2 == 3)) (cond x7 true x11) x11)
           (some (mV 0 0 [] x5 x0))
           (cond (aB Pg F 87 [.int .i64 x3, .int .i64 16])
            (cond (bX (cond (a2 == 2) true (a2 == 3)) (cond (aB Pg F 87 [.int .i64 x14, .int .i64 32]) true false) true)
             (cond (x15 != x3)
              (some (mV x13 x2 [bq x2 4 (IntKind.u32.wrap x15)] x5 0))
              (some (mV x13 x2 [] x5 0)))
             (none))
            (none)))
          (none)))
        (none))
       (none)))
     (none)))
   (none)) := by kernel_rfl
theorem VA (F : Tab) (b0 : Bool) (a0 : Int) (l0 l1 : List AV) (b1 b2 b3 : Bool) (a1 a2 : Int) (l2 l3 : List AV) (b4 b5 b6 : Bool) (a3 a4 : Int) (l4 l5 : List AV) (b7 b8 : Bool) (a5 a6 a7 a8 a9 : Int) (l6 : List AV) (a10 a11 a12 : Int) : aP (cx F) 6 53 [aO b0 a0 l0 l1 b1 b2 b3 a1 a2 l2 l3 b4 b5 b6 a3 a4 l4 l5 b7 b8 a5 a6 a7 a8 a9 l6, bq a10 a11 a12] =
 cond (decide (((0 + l5.length) * 24) <= 140737488355328))
  (cond (decide (((l5.length + 1) * 24) <= 140737488355328))
   (cond (decide (((0 + l4.length) * 24) <= 140737488355328))
    (cond (decide (((l4.length + 1) * 24) <= 140737488355328))
     (cond (aB Pg F 40 [aD l6, bq a10 a11 a12])
      (some (aO b0 a0 l0 l1 b1 b2 b3 a1 a2 l2 l3 b4 b5 b6 a3 a4 (l4 ++ [bq a10 a11 a12]) (l5 ++ [mY a10 a11 true]) b7 b8 a5 a6 a7 a8 a9 (ay ((au ((au (aA F 40 [aD l6, bq a10 a11 a12])).getD 0 .dead)).getD 0 .dead))))
      (none))
     (none))
    (none))
   (none))
  (none) := by kernel_rfl
theorem abl (F : Tab) (l0 : List AV) (a0 a1 : Int) : aP (cx F) 6 54 [aD l0, .int .i64 a0, .int .i64 a1] =
 cond (cond (a1 != 1) (a1 != 4) false)
  (some (.bool false))
  (cond (bX (decide ((0 : Int) <= a0)) (cond (!(a1 == 0)) (bX ((a0.tmod a1) == 0) (cond (aB Pg F 84 [aD l0]) true false) true) false) true)
   (some (.bool (cond (decide ((0 : Int) <= a0)) (cond ((a0.tmod a1) == 0) (decide (a0 <= (IntKind.i64.wrap ((aj (aA F 84 [aD l0])) - a1)))) false) false)))
   (none)) := by kernel_rfl
theorem abm (F : Tab) (l0 : List AV) (a0 : Int) : aP (cx F) 6 55 [aD l0, .int .i64 a0] =
 cond (aN (IntKind.i64.wrap (a0.tdiv 128)) l0.length)
  (cond (aN (a0.tmod 128) 128)
   (some (.int .u8 (aj ((au (l0.getD ((IntKind.i64.wrap (a0.tdiv 128)).toNat) .dead)).getD ((a0.tmod 128).toNat) .dead))))
   (none))
  (none) := by kernel_rfl
theorem Yd (F : Tab) (a0 : Int) : aP (cx F) 6 56 [.int .i64 a0] =
 (let x0 : Bool := cond (decide ((28 : Int) <= a0)) (cond (decide (a0 <= 31)) true (a0 == 33)) (a0 == 33);
  cond (cond (decide ((1 : Int) <= a0)) (decide (a0 <= 12)) false)
   (some (.int .i64 1))
   (cond (cond (a0 == 16) true (cond (decide ((20 : Int) <= a0)) (cond (decide (a0 <= 24)) true x0) x0))
    (some (.int .i64 2))
    (cond (cond (a0 == 17) true (cond (a0 == 32) true (cond (a0 == 42) true (cond (a0 == 43) true (cond (a0 == 46) true (a0 == 47))))))
     (some (.int .i64 3))
     (cond (a0 == 44)
      (some (.int .i64 4))
      (cond (cond (a0 == 40) true (cond (a0 == 41) true (cond (a0 == 45) true (a0 == 48))))
       (some (.int .i64 5))
       (some (.int .i64 0))))))) := by kernel_rfl
theorem SB (F : Tab) (a0 a1 a2 : Int) : aP (cx F) 6 57 [.int .i64 a0, .int .u32 a1, .int .u32 a2] =
 cond (a0 == 28)
  (some (.bool (a1 == a2)))
  (cond (a0 == 29)
   (some (.bool (a1 != a2)))
   (cond (a0 == 30)
    (cond (aB Pg F 88 [.int .u32 a1])
     (cond (aB Pg F 88 [.int .u32 a2])
      (some (.bool (decide ((aj (aA F 88 [.int .u32 a1])) < (aj (aA F 88 [.int .u32 a2]))))))
      (none))
     (none))
    (cond (a0 == 31)
     (some (.bool (decide (a1 < a2))))
     (some (.bool false))))) := by kernel_rfl
theorem Vr (F : Tab) (a0 a1 a2 a3 a4 a5 : Int) : aP (cx F) 6 58 [.int .u32 a0, bG a1 a2 a3 a4 a5] =
 cond (cond (aB Pg F 89 [.int .i64 a1]) true false)
  (cond (cond (!(av (aA F 89 [.int .i64 a1]))) (a1 != 32) false)
   (some (.agg 128 [.int .u32 0, .bool false]))
   (some (.agg 128 [.int .u32 (IntKind.u32.wrap (a0 + (IntKind.u32.wrap (IntKind.i32.wrap (IntKind.i64.wrap (4 * a5)))))), .bool true])))
  (none) := by kernel_rfl
theorem XR (F : Tab) (a0 : Int) (l0 l1 : List AV) (b0 b1 b2 : Bool) (a1 : Int) : aP (cx F) 6 59 [aG a0 l0 l1 b0 b1 b2 a1] =
 cond (aB Pg F 50 [.int .u32 (aj (l1.getD 5 .dead)), .int .i64 2])
  (cond (aB Pg F 50 [.int .u32 (aj (l1.getD 5 .dead)), .int .i64 1])
   (cond (aB Pg F 82 [.bool (av (aA F 50 [.int .u32 (aj (l1.getD 5 .dead)), .int .i64 1])), .int .u32 1])
    (some (aG (aj (l1.getD 2 .dead)) l0 (l1.set 5 (.int .u32 (IntKind.u32.wrap ((aj (aA F 82 [.bool (av (aA F 50 [.int .u32 (aj (l1.getD 5 .dead)), .int .i64 1])), .int .u32 1])) + 2)))) (av (aA F 50 [.int .u32 (aj (l1.getD 5 .dead)), .int .i64 2])) b1 b2 a1))
    (none))
   (none))
  (none) := by kernel_rfl
theorem zX (F : Tab) (b0 : Bool) (a0 : Int) (l0 l1 : List AV) (b1 b2 b3 : Bool) (a1 a2 : Int) (l2 l3 : List AV) (b4 b5 b6 : Bool) (a3 a4 : Int) (l4 l5 : List AV) (b7 b8 : Bool) (a5 a6 a7 a8 a9 : Int) (l6 : List AV) (a10 a11 a12 a13 a14 a15 : Int) : aP (cx F) 6 60 [aO b0 a0 l0 l1 b1 b2 b3 a1 a2 l2 l3 b4 b5 b6 a3 a4 l4 l5 b7 b8 a5 a6 a7 a8 a9 l6, bG a10 a11 a12 a13 a14, .int .u32 a15] =
 (let x0 : List AV := au (aA F 90 [aG a2 l2 l3 b4 b5 b6 a3, .int .i64 a14, .int .u32 a15]);
  let x1 : Bool := aB Pg F 24 [aO b0 a0 l0 l1 b1 b2 b3 a1 a2 l2 l3 b4 b5 b6 a3 a4 l4 l5 b7 b8 a5 a6 a7 a8 a9 l6, .int .i64 2, .int .u32 a4, .int .u32 a2];
  let x2 : List AV := au (aA F 24 [aO b0 a0 l0 l1 b1 b2 b3 a1 a2 l2 l3 b4 b5 b6 a3 a4 l4 l5 b7 b8 a5 a6 a7 a8 a9 l6, .int .i64 2, .int .u32 a4, .int .u32 a2]);
  let x3 : List AV := au (x2.getD 0 .dead);
  let x4 : Bool := av (x3.getD 0 .dead);
  let x5 : List AV := au (x3.getD 1 .dead);
  let x6 : Int := aj (x5.getD 0 .dead);
  let x7 : List AV := au (x5.getD 1 .dead);
  let x8 : List AV := au (x5.getD 2 .dead);
  let x9 : Bool := av (x5.getD 3 .dead);
  let x10 : Bool := av (x5.getD 4 .dead);
  let x11 : Bool := av (x5.getD 5 .dead);
  let x12 : Int := aj (x5.getD 6 .dead);
  let x13 : List AV := au (x3.getD 2 .dead);
  let x14 : Int := aj (x13.getD 0 .dead);
  let x15 : List AV := au (x13.getD 1 .dead);
  let x16 : List AV := au (x13.getD 2 .dead);
  let x17 : Bool := av (x13.getD 3 .dead);
  let x18 : Bool := av (x13.getD 4 .dead);
  let x19 : Bool := av (x13.getD 5 .dead);
  let x20 : Int := aj (x13.getD 6 .dead);
  let x21 : Int := aj (x3.getD 3 .dead);
  let x22 : List AV := ay (x3.getD 4 .dead);
  let x23 : List AV := ay (x3.getD 5 .dead);
  let x24 : Bool := av (x3.getD 6 .dead);
  let x25 : List AV := au (x3.getD 7 .dead);
  let x26 : Bool := av (x25.getD 0 .dead);
  let x27 : Int := aj (x25.getD 1 .dead);
  let x28 : Int := aj (x25.getD 2 .dead);
  let x29 : Int := aj (x3.getD 8 .dead);
  let x30 : Int := aj (x3.getD 9 .dead);
  let x31 : Int := aj (x3.getD 10 .dead);
  let x32 : List AV := ay ((au (x2.getD 1 .dead)).getD 0 .dead);
  let x33 : List AV := au (aA F 35 [aO b0 a0 l0 l1 b1 b2 b3 a1 a2 l2 l3 b4 b5 b6 a3 a4 l4 l5 b7 b8 a5 a6 a7 a8 a9 l6, .int .i64 a11, .int .u32 (aj (x0.getD 0 .dead))]);
  let x34 : List AV := au (x33.getD 0 .dead);
  let x35 : List AV := au (x34.getD 1 .dead);
  let x36 : List AV := au (x34.getD 2 .dead);
  let x37 : List AV := au (x34.getD 7 .dead);
  let x38 : List AV := au (aA F 91 [aG a0 l0 l1 b1 b2 b3 a1, .int .i64 a14, .int .u32 (aj (l2.getD a11.toNat .dead))]);
  let x39 : List AV := au (x38.getD 1 .dead);
  cond (a10 == 42)
   (cond (aB Pg F 90 [aG a2 l2 l3 b4 b5 b6 a3, .int .i64 a14, .int .u32 a15])
    (cond ((aj (x0.getD 2 .dead)) != 0)
     (cond x1
      (some (aO x4 x6 x7 x8 x9 x10 x11 x12 x14 x15 x16 x17 x18 x19 x20 x21 x22 x23 x24 x26 x27 x28 x29 x30 x31 x32))
      (none))
     (cond (aB Pg F 35 [aO b0 a0 l0 l1 b1 b2 b3 a1 a2 l2 l3 b4 b5 b6 a3 a4 l4 l5 b7 b8 a5 a6 a7 a8 a9 l6, .int .i64 a11, .int .u32 (aj (x0.getD 0 .dead))])
      (some (aO (av (x34.getD 0 .dead)) (aj (x35.getD 0 .dead)) (au (x35.getD 1 .dead)) (au (x35.getD 2 .dead)) (av (x35.getD 3 .dead)) (av (x35.getD 4 .dead)) (av (x35.getD 5 .dead)) (aj (x35.getD 6 .dead)) (aj (x36.getD 0 .dead)) (au (x36.getD 1 .dead)) (au (x36.getD 2 .dead)) (av (x36.getD 3 .dead)) (av (x36.getD 4 .dead)) (av (x36.getD 5 .dead)) (aj (x36.getD 6 .dead)) (aj (x34.getD 3 .dead)) (ay (x34.getD 4 .dead)) (ay (x34.getD 5 .dead)) (av (x34.getD 6 .dead)) (av (x37.getD 0 .dead)) (aj (x37.getD 1 .dead)) (aj (x37.getD 2 .dead)) (aj (x34.getD 8 .dead)) (aj (x34.getD 9 .dead)) (aj (x34.getD 10 .dead)) (ay ((au (x33.getD 1 .dead)).getD 0 .dead))))
      (none)))
    (none))
   (cond (aN a11 16)
    (cond (aB Pg F 91 [aG a0 l0 l1 b1 b2 b3 a1, .int .i64 a14, .int .u32 (aj (l2.getD a11.toNat .dead))])
     (cond ((aj (x38.getD 2 .dead)) != 0)
      (cond x1
       (some (aO x4 x6 x7 x8 x9 x10 x11 x12 x14 x15 x16 x17 x18 x19 x20 x21 x22 x23 x24 x26 x27 x28 x29 x30 x31 x32))
       (none))
      (some (aO b0 (aj (x39.getD 0 .dead)) (au (x39.getD 1 .dead)) (au (x39.getD 2 .dead)) (av (x39.getD 3 .dead)) (av (x39.getD 4 .dead)) (av (x39.getD 5 .dead)) (aj (x39.getD 6 .dead)) a2 l2 l3 b4 b5 b6 a3 a4 l4 l5 b7 b8 a5 a6 a7 a8 a9 l6)))
     (none))
    (none))) := by kernel_rfl
theorem Td (F : Tab) (a0 a1 a2 : Int) : aP (cx F) 6 61 [.int .i64 a0, .int .u32 a1, .int .u32 a2] =
 (let x0 : Bool := aB Pg F 94 [.int .i64 (IntKind.i64.wrap (a2.tmod 32))];
  let x1 : Int := aj (aA F 94 [.int .i64 (IntKind.i64.wrap (a2.tmod 32))]);
  cond (a0 == 1)
   (cond (aB Pg F 92 [.int .i64 (IntKind.i64.wrap ((IntKind.i64.wrap a1) + (IntKind.i64.wrap a2)))])
    (some (jA (aj (aA F 92 [.int .i64 (IntKind.i64.wrap ((IntKind.i64.wrap a1) + (IntKind.i64.wrap a2)))])) 0))
    (none))
   (cond (a0 == 2)
    (cond (aB Pg F 92 [.int .i64 (IntKind.i64.wrap ((IntKind.i64.wrap a1) - (IntKind.i64.wrap a2)))])
     (some (jA (aj (aA F 92 [.int .i64 (IntKind.i64.wrap ((IntKind.i64.wrap a1) - (IntKind.i64.wrap a2)))])) 0))
     (none))
    (cond (cond (a0 == 3) (a0 == 3) (cond (a0 == 4) (a0 == 4) (a0 == 5)))
     (cond (aB Pg F 93 [.int .i64 a0, .int .u32 a1, .int .u32 a2])
      (some (jA (aj (aA F 93 [.int .i64 a0, .int .u32 a1, .int .u32 a2])) 0))
      (none))
     (cond (a0 == 6)
      (cond x0
       (some (jA (IntKind.u32.wrap (a1 * x1)) 0))
       (none))
      (cond (a0 == 7)
       (cond x0
        (cond (!(x1 == 0))
         (some (jA (IntKind.u32.wrap (a1.tdiv x1)) 0))
         (none))
        (none))
       (cond (a0 == 8)
        (some (jA (IntKind.u32.wrap (a1 * a2)) 0))
        (cond (a0 == 9)
         (cond (a2 == 0)
          (some (jA 4294967295 0))
          (cond (!(a2 == 0))
           (some (jA (IntKind.u32.wrap (a1.tdiv a2)) 0))
           (none)))
         (cond (a0 == 10)
          (cond (a2 == 0)
           (some (jA a1 0))
           (cond (!(a2 == 0))
            (some (jA (IntKind.u32.wrap (a1 - (IntKind.u32.wrap ((IntKind.u32.wrap (a1.tdiv a2)) * a2)))) 0))
            (none)))
          (cond (a0 == 11)
           (cond (aB Pg F 88 [.int .u32 a1])
            (cond (aB Pg F 88 [.int .u32 a2])
             (cond (aB Pg F 95 [.bool (decide ((aj (aA F 88 [.int .u32 a1])) < (aj (aA F 88 [.int .u32 a2]))))])
              (some (jA (aj (aA F 95 [.bool (decide ((aj (aA F 88 [.int .u32 a1])) < (aj (aA F 88 [.int .u32 a2]))))])) 0))
              (none))
             (none))
            (none))
           (cond (a0 == 12)
            (cond (aB Pg F 95 [.bool (decide (a1 < a2))])
             (some (jA (aj (aA F 95 [.bool (decide (a1 < a2))])) 0))
             (none))
            (some (jA 0 1)))))))))))) := by kernel_rfl
theorem U4 (F : Tab) (a0 : Int) : aP (cx F) 6 63 [.int .i64 a0] =
 cond (aB Pg F 96 [])
  (cond (cond (decide ((0 : Int) <= a0)) (decide (a0 < 49)) false)
   (cond (aN a0 49)
    (some (.int .i64 (aj ((au ((au (aA F 96 [])).getD a0.toNat .dead)).getD 1 .dead))))
    (none))
   (some (.int .i64 0)))
  (none) := by kernel_rfl
theorem Y3 (F : Tab) (a0 a1 a2 a3 a4 : Int) : aP (cx F) 6 64 [bG a0 a1 a2 a3 a4] =
 (let x0 : Int := aj (aA F 63 [.int .i64 a0]);
  cond (aB Pg F 63 [.int .i64 a0])
   (cond (x0 == 1)
    (cond (cond (decide ((0 : Int) <= a1)) (decide (a1 < 16)) false)
     (cond (cond (decide ((0 : Int) <= a2)) (decide (a2 < 16)) false)
      (cond (cond (decide ((0 : Int) <= a3)) (decide (a3 < 16)) false)
       (some (.bool (a4 == 0)))
       (some (.bool false)))
      (some (.bool false)))
     (some (.bool false)))
    (cond (x0 == 2)
     (cond (cond (decide ((0 : Int) <= a1)) (decide (a1 < 16)) false)
      (cond (cond (decide ((0 : Int) <= a2)) (decide (a2 < 16)) false)
       (cond (cond (decide ((-131072 : Int) <= a4)) (decide (a4 <= 131071)) false)
        (some (.bool (a3 == 0)))
        (some (.bool false)))
       (some (.bool false)))
      (some (.bool false)))
     (cond (x0 == 3)
      (cond (cond (decide ((0 : Int) <= a1)) (decide (a1 < 16)) false)
       (cond (cond (decide ((-131072 : Int) <= a4)) (decide (a4 <= 131071)) false)
        (cond (a2 == 0)
         (some (.bool (a3 == 0)))
         (some (.bool false)))
        (some (.bool false)))
       (some (.bool false)))
      (cond (x0 == 4)
       (cond ((a0 == a0) && ((a1 == 0) && ((a2 == a2) && ((a3 == 0) && ((a4 == 0) && true)))))
        (some (.bool (cond (decide ((0 : Int) <= a2)) (decide (a2 < 16)) false)))
        (some (.bool false)))
       (cond (x0 == 5)
        (some (.bool ((a0 == a0) && ((a1 == 0) && ((a2 == 0) && ((a3 == 0) && ((a4 == 0) && true)))))))
        (some (.bool false)))))))
   (none)) := by kernel_rfl
theorem abF (F : Tab) (a0 : Int) (l0 l1 : List AV) (b0 b1 b2 : Bool) (a1 a2 a3 a4 : Int) : aP (cx F) 6 65 [aG a0 l0 l1 b0 b1 b2 a1, .int .u32 a2, .int .u32 a3, .int .u32 a4] =
 (let x0 : Int := cond ((aL .and .u32 (aj (l1.getD 5 .dead)) 1) != 0) (2 : Int) 0;
  let x1 : List AV := (((l1.set 5 (.int .u32 (cond b0 (aL .or .u32 x0 4) x0))).set 3 (.int .u32 a2)).set 4 (.int .u32 a3)).set 2 (.int .u32 a4);
  some (aG (aj (x1.getD 1 .dead)) l0 x1 false false b2 a1)) := by kernel_rfl
theorem RD (F : Tab) (a0 a1 a2 a3 a4 : Int) : aP (cx F) 6 68 [bG a0 a1 a2 a3 a4] =
 (let x0 : Int := aj (aA F 56 [.int .i64 a0]);
  let x1 : Bool := x0 == 0;
  let x2 : Bool := !(av (aA F 100 [.int .i64 a1, .bool (av (aA F 101 [.int .i64 x0, .int .i64 1]))]));
  let x3 : Bool := !(av (aA F 100 [.int .i64 a2, .bool (av (aA F 101 [.int .i64 x0, .int .i64 2]))]));
  cond (aB Pg F 56 [.int .i64 a0])
   (cond (bX x1 true (cond (aB Pg F 101 [.int .i64 x0, .int .i64 1]) (cond (aB Pg F 100 [.int .i64 a1, .bool (av (aA F 101 [.int .i64 x0, .int .i64 1]))]) (bX x2 true (cond (aB Pg F 101 [.int .i64 x0, .int .i64 2]) (cond (aB Pg F 100 [.int .i64 a2, .bool (av (aA F 101 [.int .i64 x0, .int .i64 2]))]) (bX x3 true (cond (aB Pg F 101 [.int .i64 x0, .int .i64 3]) (cond (aB Pg F 100 [.int .i64 a3, .bool (av (aA F 101 [.int .i64 x0, .int .i64 3]))]) true false) false)) false) false)) false) false))
    (cond (cond x1 true (cond x2 true (cond x3 true (!(av (aA F 100 [.int .i64 a3, .bool (av (aA F 101 [.int .i64 x0, .int .i64 3]))]))))))
     (some (.bool false))
     (cond (bX (a4 == 0) true (cond (aB Pg F 101 [.int .i64 x0, .int .i64 4]) true false))
      (some (.bool (cond (a4 == 0) true (cond (av (aA F 101 [.int .i64 x0, .int .i64 4])) (cond (decide ((-131072 : Int) <= a4)) (decide (a4 <= 131071)) false) false))))
      (none)))
    (none))
   (none)) := by kernel_rfl
theorem aa5 (F : Tab) (a0 : Int) : aP (cx F) 6 72 [.int .i64 a0] =
 some (.bool (cond (decide ((41 : Int) <= a0)) (decide (a0 <= 48)) false)) := by kernel_rfl
end Go.Proofs.YtcknhfnbdgleiaaGreat
