/- What the functions return, in terms of what they call. (Printed by a program of mine, gen.py.) -/
import Derived.Test.YtcknhfnbdgleiaaGreatCoC
set_option linter.unusedVariables false
set_option linter.unusedSimpArgs false
set_option maxRecDepth 100000
namespace Go.Proofs.YtcknhfnbdgleiaaGreat
open Go.AE
theorem YF (F : Tab) (a0 : Int) (l0 l1 : List AV) (b0 b1 b2 : Bool) (a1 : Int) : aP (cx F) 6 80 [aG a0 l0 l1 b0 b1 b2 a1] =
 (let x0 : Bool := (aL .and .u32 (aj (l1.getD 5 .dead)) 4) != 0;
  cond ((aL .and .u32 (aj (l1.getD 5 .dead)) 2) != 0)
   (some (aG (aj (l1.getD 2 .dead)) l0 ((l1.set 5 (.int .u32 2)).set 5 (.int .u32 (aL .or .u32 (aj ((l1.set 5 (.int .u32 2)).getD 5 .dead)) 1))) x0 b1 b2 a1))
   (some (aG (aj (l1.getD 2 .dead)) l0 (l1.set 5 (.int .u32 2)) x0 b1 b2 a1))) := by kernel_rfl
theorem aa8 (F : Tab) (a0 a1 a2 : Int) : aP (cx F) 6 81 [.int .i64 a0, .int .u32 a1, .int .u32 a2] =
 cond (a0 == 1)
  (some (.tuple [.int .u32 (IntKind.u32.wrap (a1 + a2)), .int .i64 0]))
  (cond (a0 == 2)
   (some (.tuple [.int .u32 (IntKind.u32.wrap (a1 - a2)), .int .i64 0]))
   (cond (a0 == 1)
    (some (.tuple [.int .u32 (IntKind.u32.wrap (a1 + a2)), .int .i64 0]))
    (cond (a0 == 2)
     (some (.tuple [.int .u32 (IntKind.u32.wrap (a1 - a2)), .int .i64 0]))
     (cond (a0 == 3)
      (some (.tuple [.int .u32 (aL .and .u32 a1 a2), .int .i64 0]))
      (cond (a0 == 4)
       (some (.tuple [.int .u32 (aL .or .u32 a1 a2), .int .i64 0]))
       (cond (a0 == 5)
        (some (.tuple [.int .u32 (aL .xor .u32 a1 a2), .int .i64 0]))
        (cond (a0 == 6)
         (cond (decide ((0 : Int) <= (aL .and .u32 a2 31)))
          (some (.tuple [.int .u32 (IntKind.u32.wrap (a1 * (2 ^ min (aL .and .u32 a2 31).toNat 32))), .int .i64 0]))
          (none))
         (cond (a0 == 7)
          (cond (decide ((0 : Int) <= (aL .and .u32 a2 31)))
           (some (.tuple [.int .u32 (a1.fdiv (2 ^ min (aL .and .u32 a2 31).toNat 32)), .int .i64 0]))
           (none))
          (cond (a0 == 8)
           (some (.tuple [.int .u32 (IntKind.u32.wrap (a1 * a2)), .int .i64 0]))
           (cond (a0 == 9)
            (cond (a2 == 0)
             (some (.tuple [.int .u32 (aL .xor .u32 4294967295 a2), .int .i64 0]))
             (cond (!(a2 == 0))
              (some (.tuple [.int .u32 (IntKind.u32.wrap (a1.tdiv a2)), .int .i64 0]))
              (none)))
            (cond (a0 == 10)
             (cond (a2 == 0)
              (some (.tuple [.int .u32 a1, .int .i64 0]))
              (cond (!(a2 == 0))
               (some (.tuple [.int .u32 (a1.tmod a2), .int .i64 0]))
               (none)))
             (cond (a0 == 11)
              (cond (aB Pg F 123 [.int .i32 (IntKind.i32.wrap a1), .int .i32 (IntKind.i32.wrap a2)])
               (some (.tuple [.int .u32 (aj (aA F 123 [.int .i32 (IntKind.i32.wrap a1), .int .i32 (IntKind.i32.wrap a2)])), .int .i64 0]))
               (none))
              (cond (a0 == 12)
               (cond (aB Pg F 124 [.int .u32 a1, .int .u32 a2])
                (some (.tuple [.int .u32 (aj (aA F 124 [.int .u32 a1, .int .u32 a2])), .int .i64 0]))
                (none))
               (some (.tuple [.int .u32 0, .int .i64 1]))))))))))))))) := by kernel_rfl
theorem V5 (F : Tab) (b0 : Bool) (a0 : Int) : aP (cx F) 6 82 [.bool b0, .int .u32 a0] =
 cond b0
  (some (.int .u32 a0))
  (some (.int .u32 0)) := by kernel_rfl
theorem aa6 (F : Tab) (a0 : Int) : aP (cx F) 6 83 [.int .i64 a0] =
 cond (a0 == 1)
  (some (.int .i64 5))
  (cond (a0 == 4)
   (some (.int .i64 4))
   (some (.int .i64 6))) := by kernel_rfl
theorem WQ (F : Tab) (l0 : List AV) : aP (cx F) 6 84 [aD l0] =
 some (.int .i64 (IntKind.i64.wrap (((l0.length : Nat) : Int) * 128))) := by kernel_rfl
theorem XO (F : Tab) (l0 : List AV) (a0 : Int) : aP (cx F) 6 85 [aD l0, .int .i64 a0] =
 cond (bX (decide ((0 : Int) <= a0)) (bX ((a0.tmod 128) == 0) (cond (aB Pg F 84 [aD l0]) true false) true) true)
  (some (.bool (cond (decide ((0 : Int) <= a0)) (cond ((a0.tmod 128) == 0) (decide (a0 < (aj (aA F 84 [aD l0])))) false) false)))
  (none) := by kernel_rfl
theorem ab7 (F : Tab) (l0 : List AV) (a0 a1 : Int) : aP (cx F) 6 86 [aD l0, .int .i64 a0, .int .i64 a1] =
 (let x0 : List AV := au (aA F 110 [aD l0, .int .i64 a0, .int .i64 a1]);
  let x1 : Int := aj (x0.getD 0 .dead);
  let x2 : Int := aj (x0.getD 1 .dead);
  let x3 : Bool := av (x0.getD 2 .dead);
  let x4 : Bool := av (x0.getD 3 .dead);
  let x5 : Bool := av (x0.getD 4 .dead);
  let x6 : Int := aj (aA F 112 [qc x1 x2 x3 x4 x5, .int .i64 a1]);
  let x7 : Int := aj (aA F 113 [aD l0, .int .i64 x6]);
  let x8 : Int := aj (aA F 111 [.int .i64 x7]);
  let x9 : Bool := av (aA F 87 [.int .i64 x7, .int .i64 1]);
  cond (aB Pg F 110 [aD l0, .int .i64 a0, .int .i64 a1])
   (cond (cond (!x3) true (!x4))
    (some (BL 0 0 0 [.int .i64 x1] false))
    (cond x5
     (cond (cond (aB Pg F 111 [.int .i64 x2]) true false)
      (some (BL x1 x2 (IntKind.i64.wrap ((aj (aA F 111 [.int .i64 x2])) + (IntKind.i64.wrap (128 * ((IntKind.i64.wrap (a1.tdiv 128)).tmod 32))))) [.int .i64 x1] true))
      (none))
     (cond (aB Pg F 112 [qc x1 x2 x3 x4 x5, .int .i64 a1])
      (cond (aB Pg F 113 [aD l0, .int .i64 x6])
       (cond (cond (aB Pg F 111 [.int .i64 x7]) (cond (aB Pg F 87 [.int .i64 x7, .int .i64 1]) (bX x9 (cond (aB Pg F 87 [.int .i64 x7, .int .i64 64]) true false) true) false) false)
        (some (BL (cond x9 x6 x6) (cond x9 x7 x7) (cond x9 x8 x8) (cond x9 [.int .i64 x1, .int .i64 x6] [.int .i64 x1, .int .i64 x6]) (cond x9 (!(av (aA F 87 [.int .i64 x7, .int .i64 64]))) false)))
        (none))
       (none))
      (none))))
   (none)) := by kernel_rfl
theorem YE (F : Tab) (a0 a1 : Int) : aP (cx F) 6 87 [.int .i64 a0, .int .i64 a1] =
 cond (!(a1 == 0))
  (some (.bool (((IntKind.i64.wrap (a0.tdiv a1)).tmod 2) == 1)))
  (none) := by kernel_rfl
theorem ZR (F : Tab) (a0 : Int) : aP (cx F) 6 88 [.int .u32 a0] =
 cond (decide (a0 < 2147483648))
  (some (.int .i64 (IntKind.i64.wrap a0)))
  (some (.int .i64 (IntKind.i64.wrap ((IntKind.i64.wrap a0) - 4294967296)))) := by kernel_rfl
theorem YX (F : Tab) (a0 : Int) : aP (cx F) 6 89 [.int .i64 a0] =
 some (.bool (cond (decide ((28 : Int) <= a0)) (decide (a0 <= 31)) false)) := by kernel_rfl
theorem VH (F : Tab) (a0 : Int) (l0 l1 : List AV) (b0 b1 b2 : Bool) (a1 a2 a3 : Int) : aP (cx F) 6 90 [aG a0 l0 l1 b0 b1 b2 a1, .int .i64 a2, .int .u32 a3] =
 cond (cond (decide (a2 < 0)) true (decide ((8 : Int) < a2)))
  (some (.agg 158 [.int .u32 0, fQ, .int .i64 1]))
  (cond (a2 == 7)
   (some (.agg 158 [.int .u32 (a3.tmod 32), fQ, .int .i64 0]))
   (cond (aN a2 9)
    (some (.agg 158 [.int .u32 (aj (l1.getD a2.toNat .dead)), fQ, .int .i64 0]))
    (none))) := by kernel_rfl
theorem abV (F : Tab) (a0 : Int) (l0 l1 : List AV) (b0 b1 b2 : Bool) (a1 a2 a3 : Int) : aP (cx F) 6 91 [aG a0 l0 l1 b0 b1 b2 a1, .int .i64 a2, .int .u32 a3] =
 cond (cond (decide (a2 < 0)) true (decide ((6 : Int) < a2)))
  (some (.agg 158 [.int .u32 0, aG a0 l0 l1 b0 b1 b2 a1, .int .i64 1]))
  (cond (aN a2 9)
   (cond (a2 == 5)
    (cond (aN a2 9)
     (some (.agg 158 [.int .u32 0, aG a0 l0 ((l1.set a2.toNat (.int .u32 a3)).set a2.toNat (.int .u32 (a3.tmod 8))) b0 b1 b2 a1, .int .i64 0]))
     (none))
    (some (.agg 158 [.int .u32 0, aG a0 l0 (l1.set a2.toNat (.int .u32 a3)) b0 b1 b2 a1, .int .i64 0])))
   (none)) := by kernel_rfl
theorem UG (F : Tab) (a0 : Int) : aP (cx F) 6 92 [.int .i64 a0] =
 some (.int .u32 (IntKind.u32.wrap a0)) := by kernel_rfl
theorem adA (F : Tab) (a0 a1 a2 : Int) : aP (cx F) 6 93 [.int .i64 a0, .int .u32 a1, .int .u32 a2] =
 (let x0 : LO := I4 F a0 a1 a2 100000 0 0;
  cond (x0.k == 1)
   (some (.int .u32 (x0.i.getD 0 0)))
   (none)) := by kernel_rfl
theorem Vg (F : Tab) (a0 : Int) : aP (cx F) 6 94 [.int .i64 a0] =
 cond ((Et F a0 100000 1 0).k == 1)
  (some (.int .u32 ((Et F a0 100000 1 0).i.getD 0 0)))
  (none) := by kernel_rfl
theorem UU (F : Tab) (b0 : Bool) : aP (cx F) 6 95 [.bool b0] =
 cond b0
  (some (.int .u32 1))
  (some (.int .u32 0)) := by kernel_rfl
def yh : AV := .agg 166 [.agg 164 [.str [], .int .i64 0], .agg 164 [.str [97, 100, 100], .int .i64 1], .agg 164 [.str [115, 117, 98], .int .i64 1], .agg 164 [.str [97, 110, 100], .int .i64 1], .agg 164 [.str [111, 114], .int .i64 1], .agg 164 [.str [120, 111, 114], .int .i64 1], .agg 164 [.str [115, 104, 108], .int .i64 1], .agg 164 [.str [115, 104, 114], .int .i64 1], .agg 164 [.str [109, 117, 108], .int .i64 1], .agg 164 [.str [100, 105, 118], .int .i64 1], .agg 164 [.str [114, 101, 109], .int .i64 1], .agg 164 [.str [115, 108, 116], .int .i64 1], .agg 164 [.str [115, 108, 116, 117], .int .i64 1], .agg 164 [.str [], .int .i64 0], .agg 164 [.str [], .int .i64 0], .agg 164 [.str [], .int .i64 0], .agg 164 [.str [97, 100, 100, 105], .int .i64 2], .agg 164 [.str [104, 105, 103, 104], .int .i64 3], .agg 164 [.str [], .int .i64 0], .agg 164 [.str [], .int .i64 0], .agg 164 [.str [108, 119], .int .i64 2], .agg 164 [.str [115, 119], .int .i64 2], .agg 164 [.str [108, 98], .int .i64 2], .agg 164 [.str [115, 98], .int .i64 2], .agg 164 [.str [115, 119, 97, 112], .int .i64 2], .agg 164 [.str [], .int .i64 0], .agg 164 [.str [], .int .i64 0], .agg 164 [.str [], .int .i64 0], .agg 164 [.str [98, 101, 113], .int .i64 2], .agg 164 [.str [98, 110, 101], .int .i64 2], .agg 164 [.str [98, 108, 116], .int .i64 2], .agg 164 [.str [98, 108, 116, 117], .int .i64 2], .agg 164 [.str [106, 97, 108], .int .i64 3], .agg 164 [.str [106, 97, 108, 114], .int .i64 2], .agg 164 [.str [], .int .i64 0], .agg 164 [.str [], .int .i64 0], .agg 164 [.str [], .int .i64 0], .agg 164 [.str [], .int .i64 0], .agg 164 [.str [], .int .i64 0], .agg 164 [.str [], .int .i64 0], .agg 164 [.str [101, 99, 97, 108, 108], .int .i64 5], .agg 164 [.str [101, 114, 101, 116], .int .i64 5], .agg 164 [.str [99, 115, 114, 114], .int .i64 3], .agg 164 [.str [99, 115, 114, 119], .int .i64 3], .agg 164 [.str [102, 108, 117, 115, 104], .int .i64 4], .agg 164 [.str [119, 97, 105, 116], .int .i64 5], .agg 164 [.str [105, 110], .int .i64 3], .agg 164 [.str [111, 117, 116], .int .i64 3], .agg 164 [.str [104, 97, 108, 116], .int .i64 5]]
theorem YA (F : Tab) : aP (cx F) 6 96 [] = some yh := by kernel_rfl
theorem VO (F : Tab) (a0 : Int) (b0 : Bool) : aP (cx F) 6 100 [.int .i64 a0, .bool b0] =
 some (.bool (cond (a0 == 0) true (cond b0 (cond (decide ((1 : Int) <= a0)) (decide (a0 < 16)) false) false))) := by kernel_rfl
theorem YC (F : Tab) (a0 a1 : Int) : aP (cx F) 6 101 [.int .i64 a0, .int .i64 a1] =
 cond (a0 == 1)
  (some (.bool (decide (a1 <= 3))))
  (cond (a0 == 2)
   (some (.bool (a1 != 3)))
   (cond (a0 == 3)
    (some (.bool (cond (a1 == 1) true (a1 == 4))))
    (cond (a0 == 4)
     (some (.bool (a1 == 2)))
     (some (.bool false))))) := by kernel_rfl
theorem UM (F : Tab) (l0 : List AV) (a0 a1 : Int) : aP (cx F) 6 102 [aD l0, .int .i64 a0, .int .i64 a1] =
 (let x0 : Bool := !(decide (a0 <= (IntKind.i64.wrap ((IntKind.i64.wrap (((l0.length : Nat) : Int) * 128)) - a1))));
  let x1 : Bool := (decide ((0 : Int) <= (a0.tmod 128))) && (decide ((a0.tmod 128) <= 128));
  let x2 : List AV := sub (au (l0.getD ((IntKind.i64.wrap (a0.tdiv 128)).toNat) .dead)) ((a0.tmod 128).toNat) 128;
  let x3 : Nat := x2.length;
  let x4 : Bool := aN 0 x3;
  let x5 : Int := IntKind.u32.wrap (aj (x2.getD 0 .dead));
  let x6 : Int := aL .or .u32 (aL .or .u32 (aL .or .u32 x5 (IntKind.u32.wrap ((IntKind.u32.wrap (aj (x2.getD 1 .dead))) * 256))) (IntKind.u32.wrap ((IntKind.u32.wrap (aj (x2.getD 2 .dead))) * 65536))) (IntKind.u32.wrap ((IntKind.u32.wrap (aj (x2.getD 3 .dead))) * 16777216));
  let x7 : Bool := cond x4 (cond (aN 1 x3) (cond (aN 2 x3) (cond (aN 3 x3) true false) false) false) false;
  cond (a1 == 1)
   (cond (decide ((0 : Int) <= a0))
    (cond (!(a1 == 0))
     (cond ((a0.tmod a1) == 0)
      (cond x0
       (some (.tuple [.int .u32 0, .bool false]))
       (cond (aN (IntKind.i64.wrap (a0.tdiv 128)) l0.length)
        (cond x1
         (cond (a1 == 1)
          (cond x4
           (some (.tuple [.int .u32 x5, .bool true]))
           (none))
          (cond x7
           (some (.tuple [.int .u32 x6, .bool true]))
           (none)))
         (none))
        (none)))
      (some (.tuple [.int .u32 0, .bool false])))
     (none))
    (some (.tuple [.int .u32 0, .bool false])))
   (cond (a1 == 4)
    (cond (decide ((0 : Int) <= a0))
     (cond (!(a1 == 0))
      (cond ((a0.tmod a1) == 0)
       (cond x0
        (some (.tuple [.int .u32 0, .bool false]))
        (cond (aN (IntKind.i64.wrap (a0.tdiv 128)) l0.length)
         (cond x1
          (cond (a1 == 1)
           (cond x4
            (some (.tuple [.int .u32 x5, .bool true]))
            (none))
           (cond x7
            (some (.tuple [.int .u32 x6, .bool true]))
            (none)))
          (none))
         (none)))
       (some (.tuple [.int .u32 0, .bool false])))
      (none))
     (some (.tuple [.int .u32 0, .bool false])))
    (some (.tuple [.int .u32 0, .bool false])))) := by kernel_rfl
theorem Y7 (F : Tab) (l0 : List AV) (a0 a1 a2 : Int) (b0 : Bool) : aP (cx F) 6 103 [aD l0, .int .u32 a0, .int .u32 a1, .int .i64 a2, .bool b0] =
 (let x0 : Int := aj ((Jo : List AV).getD a2.toNat .dead);
  let x1 : Int := IntKind.u32.wrap (a0 + (IntKind.u32.wrap (4 * (a1.fdiv 4096))));
  let x2 : Int := aj (aA F 119 [aD l0, .int .u32 x1]);
  let x3 : Int := IntKind.i64.wrap x1;
  let x4 : Bool := aB Pg F 122 [.int .u32 x2];
  let x5 : Int := aj (aA F 122 [.int .u32 x2]);
  let x6 : Int := IntKind.u32.wrap (x5 + (IntKind.u32.wrap (((a1.fdiv 128).tmod 32) * 128)));
  let x7 : Int := IntKind.u32.wrap (x5 + (IntKind.u32.wrap (((a1.fdiv 128).tmod 32) * 4)));
  let x8 : Int := aj (aA F 119 [aD l0, .int .u32 x7]);
  let x9 : Int := IntKind.i64.wrap x7;
  let x10 : Int := aj (aA F 122 [.int .u32 x8]);
  let x11 : Int := IntKind.i64.wrap (IntKind.u32.wrap (x10 + (a1.tmod 128)));
  let x12 : Int := aL .or .u32 x8 16;
  let x13 : Int := cond (cond (a2 == 2) true (a2 == 3)) (aL .or .u32 x12 32) x12;
  let x14 : Bool := x13 != x8;
  let x15 : Bool := aB Pg F 120 [.int .u32 x8, .int .u32 4];
  let x16 : Bool := !(av (aA F 120 [.int .u32 x8, .int .u32 4]));
  let x17 : Bool := aB Pg F 120 [.int .u32 x8, .int .u32 8];
  let x18 : Bool := !(av (aA F 120 [.int .u32 x8, .int .u32 8]));
  let x19 : Int := IntKind.i64.wrap (IntKind.u32.wrap (x6 + (a1.tmod 128)));
  let x20 : Int := aL .or .u32 x2 16;
  let x21 : Int := cond (cond (a2 == 2) true (a2 == 3)) (aL .or .u32 x20 32) x20;
  let x22 : Bool := x21 != x2;
  let x23 : Bool := aB Pg F 120 [.int .u32 x2, .int .u32 4];
  let x24 : Bool := !(av (aA F 120 [.int .u32 x2, .int .u32 4]));
  let x25 : Bool := aB Pg F 120 [.int .u32 x2, .int .u32 8];
  let x26 : Bool := !(av (aA F 120 [.int .u32 x2, .int .u32 8]));
  cond (a0 == 0)
   (cond (!(decide ((IntKind.i64.wrap a1) < (IntKind.i64.wrap (((l0.length : Nat) : Int) * 128)))))
    (cond (aN a2 5)
     (some (.tuple [vZ, .int .i64 x0]))
     (none))
    (some (.tuple [aW (IntKind.i64.wrap a1) (-1) [] [], .int .i64 0])))
   (cond (decide (a1 < 131072))
    (cond (aB Pg F 118 [aD l0, .int .u32 a0])
     (cond (!(av (aA F 118 [aD l0, .int .u32 a0])))
      (cond (aN a2 5)
       (some (.tuple [vZ, .int .i64 x0]))
       (none))
      (cond (aB Pg F 119 [aD l0, .int .u32 x1])
       (cond (aB Pg F 120 [.int .u32 x2, .int .u32 1])
        (cond (av (aA F 120 [.int .u32 x2, .int .u32 1]))
         (cond (aB Pg F 121 [.int .u32 x2, aD l0])
          (cond (!(av (aA F 121 [.int .u32 x2, aD l0])))
           (cond (aN a2 5)
            (some (.tuple [aW 0 0 [] [.int .i64 x3], .int .i64 x0]))
            (none))
           (cond x4
            (cond (aB Pg F 120 [.int .u32 x2, .int .u32 64])
             (cond (!(av (aA F 120 [.int .u32 x2, .int .u32 64])))
              (cond x4
               (cond (aB Pg F 119 [aD l0, .int .u32 x7])
                (cond (aB Pg F 120 [.int .u32 x8, .int .u32 1])
                 (cond (av (aA F 120 [.int .u32 x8, .int .u32 1]))
                  (cond (aB Pg F 120 [.int .u32 x8, .int .u32 64])
                   (cond (!(!(av (aA F 120 [.int .u32 x8, .int .u32 64]))))
                    (cond (aN a2 5)
                     (some (.tuple [aW 0 0 [] [.int .i64 x3, .int .i64 x9], .int .i64 x0]))
                     (none))
                    (cond (aB Pg F 122 [.int .u32 x8])
                     (cond (aB Pg F 118 [aD l0, .int .u32 x10])
                      (cond (!(av (aA F 118 [aD l0, .int .u32 x10])))
                       (cond (aN a2 5)
                        (some (.tuple [aW 0 0 [] [.int .i64 x3, .int .i64 x9], .int .i64 x0]))
                        (none))
                       (cond (!(cond (a2 == 2) true (a2 == 3)))
                        (cond (a2 != 4)
                         (cond (!b0)
                          (cond x14
                           (some (.tuple [aW x11 x9 [bq x9 4 x13] [.int .i64 x3, .int .i64 x9], .int .i64 0]))
                           (some (.tuple [aW x11 x9 [] [.int .i64 x3, .int .i64 x9], .int .i64 0])))
                          (cond x15
                           (cond x16
                            (cond (aN a2 5)
                             (some (.tuple [aW 0 0 [] [.int .i64 x3, .int .i64 x9], .int .i64 x0]))
                             (none))
                            (cond x14
                             (some (.tuple [aW x11 x9 [bq x9 4 x13] [.int .i64 x3, .int .i64 x9], .int .i64 0]))
                             (some (.tuple [aW x11 x9 [] [.int .i64 x3, .int .i64 x9], .int .i64 0]))))
                           (none)))
                         (cond x17
                          (cond x18
                           (cond (aN a2 5)
                            (some (.tuple [aW 0 0 [] [.int .i64 x3, .int .i64 x9], .int .i64 x0]))
                            (none))
                           (cond (!b0)
                            (cond x14
                             (some (.tuple [aW x11 x9 [bq x9 4 x13] [.int .i64 x3, .int .i64 x9], .int .i64 0]))
                             (some (.tuple [aW x11 x9 [] [.int .i64 x3, .int .i64 x9], .int .i64 0])))
                            (cond x15
                             (cond x16
                              (cond (aN a2 5)
                               (some (.tuple [aW 0 0 [] [.int .i64 x3, .int .i64 x9], .int .i64 x0]))
                               (none))
                              (cond x14
                               (some (.tuple [aW x11 x9 [bq x9 4 x13] [.int .i64 x3, .int .i64 x9], .int .i64 0]))
                               (some (.tuple [aW x11 x9 [] [.int .i64 x3, .int .i64 x9], .int .i64 0]))))
                             (none))))
                          (none)))
                        (cond (aB Pg F 120 [.int .u32 x8, .int .u32 2])
                         (cond (!(av (aA F 120 [.int .u32 x8, .int .u32 2])))
                          (cond (aN a2 5)
                           (some (.tuple [aW 0 0 [] [.int .i64 x3, .int .i64 x9], .int .i64 x0]))
                           (none))
                          (cond (a2 != 4)
                           (cond (!b0)
                            (cond x14
                             (some (.tuple [aW x11 x9 [bq x9 4 x13] [.int .i64 x3, .int .i64 x9], .int .i64 0]))
                             (some (.tuple [aW x11 x9 [] [.int .i64 x3, .int .i64 x9], .int .i64 0])))
                            (cond x15
                             (cond x16
                              (cond (aN a2 5)
                               (some (.tuple [aW 0 0 [] [.int .i64 x3, .int .i64 x9], .int .i64 x0]))
                               (none))
                              (cond x14
                               (some (.tuple [aW x11 x9 [bq x9 4 x13] [.int .i64 x3, .int .i64 x9], .int .i64 0]))
                               (some (.tuple [aW x11 x9 [] [.int .i64 x3, .int .i64 x9], .int .i64 0]))))
                             (none)))
                           (cond x17
                            (cond x18
                             (cond (aN a2 5)
                              (some (.tuple [aW 0 0 [] [.int .i64 x3, .int .i64 x9], .int .i64 x0]))
                              (none))
                             (cond (!b0)
                              (cond x14
                               (some (.tuple [aW x11 x9 [bq x9 4 x13] [.int .i64 x3, .int .i64 x9], .int .i64 0]))
                               (some (.tuple [aW x11 x9 [] [.int .i64 x3, .int .i64 x9], .int .i64 0])))
                              (cond x15
                               (cond x16
                                (cond (aN a2 5)
                                 (some (.tuple [aW 0 0 [] [.int .i64 x3, .int .i64 x9], .int .i64 x0]))
                                 (none))
                                (cond x14
                                 (some (.tuple [aW x11 x9 [bq x9 4 x13] [.int .i64 x3, .int .i64 x9], .int .i64 0]))
                                 (some (.tuple [aW x11 x9 [] [.int .i64 x3, .int .i64 x9], .int .i64 0]))))
                               (none))))
                            (none))))
                         (none))))
                      (none))
                     (none)))
                   (none))
                  (cond (aN a2 5)
                   (some (.tuple [aW 0 0 [] [.int .i64 x3, .int .i64 x9], .int .i64 x0]))
                   (none)))
                 (none))
                (none))
               (none))
              (cond (aB Pg F 118 [aD l0, .int .u32 x6])
               (cond (!(av (aA F 118 [aD l0, .int .u32 x6])))
                (cond (aN a2 5)
                 (some (.tuple [aW 0 0 [] [.int .i64 x3], .int .i64 x0]))
                 (none))
                (cond (!(cond (a2 == 2) true (a2 == 3)))
                 (cond (a2 != 4)
                  (cond (!b0)
                   (cond x22
                    (some (.tuple [aW x19 x3 [bq x3 4 x21] [.int .i64 x3], .int .i64 0]))
                    (some (.tuple [aW x19 x3 [] [.int .i64 x3], .int .i64 0])))
                   (cond x23
                    (cond x24
                     (cond (aN a2 5)
                      (some (.tuple [aW 0 0 [] [.int .i64 x3], .int .i64 x0]))
                      (none))
                     (cond x22
                      (some (.tuple [aW x19 x3 [bq x3 4 x21] [.int .i64 x3], .int .i64 0]))
                      (some (.tuple [aW x19 x3 [] [.int .i64 x3], .int .i64 0]))))
                    (none)))
                  (cond x25
                   (cond x26
                    (cond (aN a2 5)
                     (some (.tuple [aW 0 0 [] [.int .i64 x3], .int .i64 x0]))
                     (none))
                    (cond (!b0)
                     (cond x22
                      (some (.tuple [aW x19 x3 [bq x3 4 x21] [.int .i64 x3], .int .i64 0]))
                      (some (.tuple [aW x19 x3 [] [.int .i64 x3], .int .i64 0])))
                     (cond x23
                      (cond x24
                       (cond (aN a2 5)
                        (some (.tuple [aW 0 0 [] [.int .i64 x3], .int .i64 x0]))
                        (none))
                       (cond x22
                        (some (.tuple [aW x19 x3 [bq x3 4 x21] [.int .i64 x3], .int .i64 0]))
                        (some (.tuple [aW x19 x3 [] [.int .i64 x3], .int .i64 0]))))
                      (none))))
                   (none)))
                 (cond (aB Pg F 120 [.int .u32 x2, .int .u32 2])
                  (cond (!(av (aA F 120 [.int .u32 x2, .int .u32 2])))
                   (cond (aN a2 5)
                    (some (.tuple [aW 0 0 [] [.int .i64 x3], .int .i64 x0]))
                    (none))
                   (cond (a2 != 4)
                    (cond (!b0)
                     (cond x22
                      (some (.tuple [aW x19 x3 [bq x3 4 x21] [.int .i64 x3], .int .i64 0]))
                      (some (.tuple [aW x19 x3 [] [.int .i64 x3], .int .i64 0])))
                     (cond x23
                      (cond x24
                       (cond (aN a2 5)
                        (some (.tuple [aW 0 0 [] [.int .i64 x3], .int .i64 x0]))
                        (none))
                       (cond x22
                        (some (.tuple [aW x19 x3 [bq x3 4 x21] [.int .i64 x3], .int .i64 0]))
                        (some (.tuple [aW x19 x3 [] [.int .i64 x3], .int .i64 0]))))
                      (none)))
                    (cond x25
                     (cond x26
                      (cond (aN a2 5)
                       (some (.tuple [aW 0 0 [] [.int .i64 x3], .int .i64 x0]))
                       (none))
                      (cond (!b0)
                       (cond x22
                        (some (.tuple [aW x19 x3 [bq x3 4 x21] [.int .i64 x3], .int .i64 0]))
                        (some (.tuple [aW x19 x3 [] [.int .i64 x3], .int .i64 0])))
                       (cond x23
                        (cond x24
                         (cond (aN a2 5)
                          (some (.tuple [aW 0 0 [] [.int .i64 x3], .int .i64 x0]))
                          (none))
                         (cond x22
                          (some (.tuple [aW x19 x3 [bq x3 4 x21] [.int .i64 x3], .int .i64 0]))
                          (some (.tuple [aW x19 x3 [] [.int .i64 x3], .int .i64 0]))))
                        (none))))
                     (none))))
                  (none))))
               (none)))
             (none))
            (none)))
          (none))
         (cond (aN a2 5)
          (some (.tuple [aW 0 0 [] [.int .i64 x3], .int .i64 x0]))
          (none)))
        (none))
       (none)))
     (none))
    (cond (aN a2 5)
     (some (.tuple [vZ, .int .i64 x0]))
     (none)))) := by kernel_rfl
theorem WO (F : Tab) (l0 : List AV) (a0 a1 a2 : Int) : aP (cx F) 6 104 [aD l0, bq a0 a1 a2] =
 (let x0 : List AV := fG (aA F 36 [aD l0, .slice 57 [bq a0 a1 a2] false]);
  cond (aB Pg F 36 [aD l0, .slice 57 [bq a0 a1 a2] false])
   (some (.tuple [aD (ay ((au (x0.getD 0 .dead)).getD 0 .dead)), .bool (av (x0.getD 1 .dead))]))
   (none)) := by kernel_rfl
theorem Xf (F : Tab) (a0 a1 a2 : Int) : aP (cx F) 6 105 [.int .i64 a0, .int .u32 a1, .int .u32 a2] =
 cond (a0 == 28)
  (some (.bool (a1 == a2)))
  (cond (a0 == 29)
   (some (.bool (a1 != a2)))
   (cond (a0 == 30)
    (cond (aB Pg F 123 [.int .i32 (IntKind.i32.wrap a1), .int .i32 (IntKind.i32.wrap a2)])
     (some (.bool ((aj (aA F 123 [.int .i32 (IntKind.i32.wrap a1), .int .i32 (IntKind.i32.wrap a2)])) == 1)))
     (none))
    (cond (a0 == 31)
     (cond (aB Pg F 124 [.int .u32 a1, .int .u32 a2])
      (some (.bool ((aj (aA F 124 [.int .u32 a1, .int .u32 a2])) == 1)))
      (none))
     (some (.bool false))))) := by kernel_rfl
theorem YO (F : Tab) (a0 a1 a2 a3 a4 a5 : Int) : aP (cx F) 6 106 [.int .u32 a0, bG a1 a2 a3 a4 a5] =
 cond (cond (aB Pg F 125 [.int .i64 a1]) true false)
  (cond (cond (!(av (aA F 125 [.int .i64 a1]))) (a1 != 32) false)
   (some (.tuple [.int .u32 0, .bool false]))
   (some (.tuple [.int .u32 (IntKind.u32.wrap (a0 + (IntKind.u32.wrap ((IntKind.u32.wrap a5) * 4)))), .bool true])))
  (none) := by kernel_rfl
theorem X7 (F : Tab) (a0 : Int) (l0 l1 : List AV) (b0 b1 b2 : Bool) (a1 a2 a3 : Int) : aP (cx F) 6 107 [aG a0 l0 l1 b0 b1 b2 a1, .int .i64 a2, .int .u32 a3] =
 cond (cond (decide (a2 < 0)) true (decide ((9 : Int) <= a2)))
  (some (.tuple [.int .u32 0, .int .i64 1]))
  (cond (a2 == 7)
   (cond (aB Pg F 41 [.int .u32 a3])
    (some (.tuple [.int .u32 (aj (aA F 41 [.int .u32 a3])), .int .i64 0]))
    (none))
   (cond (aN a2 9)
    (some (.tuple [.int .u32 (aj (l1.getD a2.toNat .dead)), .int .i64 0]))
    (none))) := by kernel_rfl
theorem ac5 (F : Tab) (a0 : Int) (l0 l1 : List AV) (b0 b1 b2 : Bool) (a1 a2 a3 : Int) : aP (cx F) 6 108 [aG a0 l0 l1 b0 b1 b2 a1, .int .i64 a2, .int .u32 a3] =
 cond (cond (decide (a2 < 0)) true (decide ((7 : Int) <= a2)))
  (some (.tuple [aG a0 l0 l1 b0 b1 b2 a1, .int .i64 1]))
  (cond (aN a2 9)
   (some (.tuple [aG a0 l0 (l1.set a2.toNat (.int .u32 (cond (a2 == 5) (aL .and .u32 a3 7) a3))) b0 b1 b2 a1, .int .i64 0]))
   (none)) := by kernel_rfl
theorem Sg (F : Tab) (l0 : List AV) (a0 a1 : Int) : aP (cx F) 6 110 [aD l0, .int .i64 a0, .int .i64 a1] =
 (let x0 : Int := IntKind.i64.wrap (a0 + (IntKind.i64.wrap (4 * (IntKind.i64.wrap (a1.tdiv 4096)))));
  let x1 : Int := aj (aA F 113 [aD l0, .int .i64 x0]);
  let x2 : Bool := av (aA F 87 [.int .i64 x1, .int .i64 1]);
  let x3 : Bool := av (aA F 87 [.int .i64 x1, .int .i64 64]);
  let x4 : Bool := aB Pg F 111 [.int .i64 x1];
  let x5 : Int := aj (aA F 111 [.int .i64 x1]);
  let x6 : Bool := ((IntKind.i64.wrap (x1.tdiv 2)).tmod 32) == 0;
  cond (aB Pg F 113 [aD l0, .int .i64 x0])
   (cond (aB Pg F 87 [.int .i64 x1, .int .i64 1])
    (cond (aB Pg F 87 [.int .i64 x1, .int .i64 64])
     (cond x3
      (cond x4
       (some (qc x0 x1 x2 ((x5.tmod 4096) == 0) x3))
       (none))
      (cond (bX x6 (cond x4 (cond (aB Pg F 85 [aD l0, .int .i64 x5]) true false) false) true)
       (some (qc x0 x1 x2 (cond x6 (av (aA F 85 [aD l0, .int .i64 x5])) false) x3))
       (none)))
     (none))
    (none))
   (none)) := by kernel_rfl
theorem X4 (F : Tab) (a0 : Int) : aP (cx F) 6 111 [.int .i64 a0] =
 some (.int .i64 (IntKind.i64.wrap ((IntKind.i64.wrap (a0.tdiv 128)) * 128))) := by kernel_rfl
theorem Zx (F : Tab) (a0 a1 : Int) (b0 b1 b2 : Bool) (a2 : Int) : aP (cx F) 6 112 [qc a0 a1 b0 b1 b2, .int .i64 a2] =
 cond (aB Pg F 111 [.int .i64 a1])
  (some (.int .i64 (IntKind.i64.wrap ((aj (aA F 111 [.int .i64 a1])) + (IntKind.i64.wrap (4 * ((IntKind.i64.wrap (a2.tdiv 128)).tmod 32)))))))
  (none) := by kernel_rfl
theorem Rq (F : Tab) (l0 : List AV) (a0 : Int) : aP (cx F) 6 113 [aD l0, .int .i64 a0] =
 cond (aB Pg F 27 [aD l0, .int .i64 a0, .int .i64 4])
  (some (.int .i64 (IntKind.i64.wrap (aj ((au (aA F 27 [aD l0, .int .i64 a0, .int .i64 4])).getD 0 .dead)))))
  (none) := by kernel_rfl
theorem acA (F : Tab) (a0 a1 : Int) : aP (cx F) 6 114 [.int .u32 a0, .int .i64 a1] =
 (let x0 : Int := aj (aA F 94 [.int .i64 a1]);
  cond (aB Pg F 94 [.int .i64 a1])
   (cond (!(x0 == 0))
    (some (.int .u32 ((IntKind.u32.wrap (a0.tdiv x0)).tmod 2)))
    (none))
   (none)) := by kernel_rfl
theorem WB (F : Tab) (l0 : List AV) (a0 : Int) : aP (cx F) 6 118 [aD l0, .int .u32 a0] =
 cond ((a0.tmod 128) == 0)
  (some (.bool (decide ((IntKind.i64.wrap a0) < (IntKind.i64.wrap (((l0.length : Nat) : Int) * 128))))))
  (some (.bool false)) := by kernel_rfl
theorem Uk (F : Tab) (l0 : List AV) (a0 : Int) : aP (cx F) 6 119 [aD l0, .int .u32 a0] =
 cond (aB Pg F 102 [aD l0, .int .i64 (IntKind.i64.wrap a0), .int .i64 4])
  (some (.int .u32 (aj ((fG (aA F 102 [aD l0, .int .i64 (IntKind.i64.wrap a0), .int .i64 4])).getD 0 .dead))))
  (none) := by kernel_rfl
theorem wE (F : Tab) (a0 a1 : Int) : aP (cx F) 6 120 [.int .u32 a0, .int .u32 a1] =
 some (.bool ((aL .and .u32 a0 a1) == a1)) := by kernel_rfl
theorem Sy (F : Tab) (a0 : Int) (l0 : List AV) : aP (cx F) 6 121 [.int .u32 a0, aD l0] =
 (let x0 : Int := aj (aA F 122 [.int .u32 a0]);
  cond (aB Pg F 120 [.int .u32 a0, .int .u32 64])
   (cond (av (aA F 120 [.int .u32 a0, .int .u32 64]))
    (cond (aB Pg F 122 [.int .u32 a0])
     (some (.bool ((x0.tmod 4096) == 0)))
     (none))
    (cond (bX ((aL .and .u32 a0 62) == 0) (cond (aB Pg F 122 [.int .u32 a0]) (cond (aB Pg F 118 [aD l0, .int .u32 x0]) true false) false) true)
     (some (.bool (cond ((aL .and .u32 a0 62) == 0) (av (aA F 118 [aD l0, .int .u32 x0])) false)))
     (none)))
   (none)) := by kernel_rfl
theorem Yq (F : Tab) (a0 : Int) : aP (cx F) 6 122 [.int .u32 a0] =
 some (.int .u32 (aL .andNot .u32 a0 127)) := by kernel_rfl
theorem acw (F : Tab) (a0 a1 : Int) : aP (cx F) 6 123 [.int .i32 a0, .int .i32 a1] =
 cond (decide (a0 < a1))
  (some (.int .u32 1))
  (some (.int .u32 0)) := by kernel_rfl
theorem acV (F : Tab) (a0 a1 : Int) : aP (cx F) 6 124 [.int .u32 a0, .int .u32 a1] =
 cond (decide (a0 < a1))
  (some (.int .u32 1))
  (some (.int .u32 0)) := by kernel_rfl
theorem Rj (F : Tab) (a0 : Int) : aP (cx F) 6 125 [.int .i64 a0] =
 some (.bool (cond (decide ((28 : Int) <= a0)) (decide (a0 <= 31)) false)) := by kernel_rfl
end Go.Proofs.YtcknhfnbdgleiaaGreat
