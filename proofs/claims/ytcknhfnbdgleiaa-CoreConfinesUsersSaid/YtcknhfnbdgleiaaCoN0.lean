/- What the functions return, in terms of what they call. (Printed by a program of mine, gen.py.) -/
import Derived.Test.YtcknhfnbdgleiaaCoC
set_option linter.unusedVariables false
set_option linter.unusedSimpArgs false
set_option maxRecDepth 100000
namespace Go.Proofs.Ytcknhfnbdgleiaa
open Go.AE
theorem R6 (F : Tab) (l0 : List AV) : aS (cx F) 6 16 [.agg 23 [.slice 118 l0 false]] =
 some (.bool (cond (decide ((1 : Int) <= ((l0.length : Nat) : Int))) (decide (((l0.length : Nat) : Int) <= 64)) false)) := by kernel_rfl
theorem Xy (F : Tab) (l0 : List AV) (a0 a1 a2 : Int) (b0 : Bool) : aS (cx F) 6 19 [.agg 23 [.slice 118 l0 false], .int .u32 a0, .int .u32 a1, .int .i64 a2, .bool b0] =
 (let x0 : Int := intOf (([.int .i64 0, .int .i64 5, .int .i64 6, .int .i64 6, .int .i64 4] : List AV).getD a2.toNat .dead);
  let x1 : Int := IntKind.u32.wrap (a0 + (IntKind.u32.wrap (4 * (a1.fdiv 4096))));
  let x2 : Int := intOf (aB F 66 [.agg 23 [.slice 118 l0 false], .int .u32 x1]);
  let x3 : Int := IntKind.i64.wrap x1;
  let x4 : Bool := aC Pg F 69 [.int .u32 x2];
  let x5 : Int := intOf (aB F 69 [.int .u32 x2]);
  let x6 : Int := IntKind.u32.wrap (x5 + (IntKind.u32.wrap (((a1.fdiv 128).tmod 32) * 128)));
  let x7 : Int := IntKind.u32.wrap (x5 + (IntKind.u32.wrap (((a1.fdiv 128).tmod 32) * 4)));
  let x8 : Int := intOf (aB F 66 [.agg 23 [.slice 118 l0 false], .int .u32 x7]);
  let x9 : Int := IntKind.i64.wrap x7;
  let x10 : Int := intOf (aB F 69 [.int .u32 x8]);
  let x11 : Int := IntKind.i64.wrap (IntKind.u32.wrap (x10 + (a1.tmod 128)));
  let x12 : Int := aD .or .u32 x8 16;
  let x13 : Int := cond (cond (a2 == 2) true (a2 == 3)) (aD .or .u32 x12 32) x12;
  let x14 : Bool := x13 != x8;
  let x15 : Bool := aC Pg F 67 [.int .u32 x8, .int .u32 4];
  let x16 : Bool := !(aj (aB F 67 [.int .u32 x8, .int .u32 4]));
  let x17 : Bool := aC Pg F 67 [.int .u32 x8, .int .u32 8];
  let x18 : Bool := !(aj (aB F 67 [.int .u32 x8, .int .u32 8]));
  let x19 : Int := IntKind.i64.wrap (IntKind.u32.wrap (x6 + (a1.tmod 128)));
  let x20 : Int := aD .or .u32 x2 16;
  let x21 : Int := cond (cond (a2 == 2) true (a2 == 3)) (aD .or .u32 x20 32) x20;
  let x22 : Bool := x21 != x2;
  let x23 : Bool := aC Pg F 67 [.int .u32 x2, .int .u32 4];
  let x24 : Bool := !(aj (aB F 67 [.int .u32 x2, .int .u32 4]));
  let x25 : Bool := aC Pg F 67 [.int .u32 x2, .int .u32 8];
  let x26 : Bool := !(aj (aB F 67 [.int .u32 x2, .int .u32 8]));
  cond (a0 == 0)
   (cond (!(decide ((IntKind.i64.wrap a1) < (IntKind.i64.wrap (((l0.length : Nat) : Int) * 128)))))
    (cond (aH a2 5)
     (some (.tuple [.agg 31 [.int .i64 0, .int .i64 0, .slice 42 [] false, .slice 3 [] false], .int .i64 x0]))
     (none))
    (some (.tuple [.agg 31 [.int .i64 (IntKind.i64.wrap a1), .int .i64 (-1), .slice 42 [] false, .slice 3 [] false], .int .i64 0])))
   (cond (decide (a1 < 131072))
    (cond (aC Pg F 65 [.agg 23 [.slice 118 l0 false], .int .u32 a0])
     (cond (!(aj (aB F 65 [.agg 23 [.slice 118 l0 false], .int .u32 a0])))
      (cond (aH a2 5)
       (some (.tuple [.agg 31 [.int .i64 0, .int .i64 0, .slice 42 [] false, .slice 3 [] false], .int .i64 x0]))
       (none))
      (cond (aC Pg F 66 [.agg 23 [.slice 118 l0 false], .int .u32 x1])
       (cond (aC Pg F 67 [.int .u32 x2, .int .u32 1])
        (cond (aj (aB F 67 [.int .u32 x2, .int .u32 1]))
         (cond (aC Pg F 68 [.int .u32 x2, .agg 23 [.slice 118 l0 false]])
          (cond (!(aj (aB F 68 [.int .u32 x2, .agg 23 [.slice 118 l0 false]])))
           (cond (aH a2 5)
            (some (.tuple [.agg 31 [.int .i64 0, .int .i64 0, .slice 42 [] false, .slice 3 [.int .i64 x3] false], .int .i64 x0]))
            (none))
           (cond x4
            (cond (aC Pg F 67 [.int .u32 x2, .int .u32 64])
             (cond (!(aj (aB F 67 [.int .u32 x2, .int .u32 64])))
              (cond x4
               (cond (aC Pg F 66 [.agg 23 [.slice 118 l0 false], .int .u32 x7])
                (cond (aC Pg F 67 [.int .u32 x8, .int .u32 1])
                 (cond (aj (aB F 67 [.int .u32 x8, .int .u32 1]))
                  (cond (aC Pg F 67 [.int .u32 x8, .int .u32 64])
                   (cond (!(!(aj (aB F 67 [.int .u32 x8, .int .u32 64]))))
                    (cond (aH a2 5)
                     (some (.tuple [.agg 31 [.int .i64 0, .int .i64 0, .slice 42 [] false, .slice 3 [.int .i64 x3, .int .i64 x9] false], .int .i64 x0]))
                     (none))
                    (cond (aC Pg F 69 [.int .u32 x8])
                     (cond (aC Pg F 65 [.agg 23 [.slice 118 l0 false], .int .u32 x10])
                      (cond (!(aj (aB F 65 [.agg 23 [.slice 118 l0 false], .int .u32 x10])))
                       (cond (aH a2 5)
                        (some (.tuple [.agg 31 [.int .i64 0, .int .i64 0, .slice 42 [] false, .slice 3 [.int .i64 x3, .int .i64 x9] false], .int .i64 x0]))
                        (none))
                       (cond (!(cond (a2 == 2) true (a2 == 3)))
                        (cond (a2 != 4)
                         (cond (!b0)
                          (cond x14
                           (some (.tuple [.agg 31 [.int .i64 x11, .int .i64 x9, .slice 42 [.agg 41 [.int .i64 x9, .int .i64 4, .int .u32 x13]] false, .slice 3 [.int .i64 x3, .int .i64 x9] false], .int .i64 0]))
                           (some (.tuple [.agg 31 [.int .i64 x11, .int .i64 x9, .slice 42 [] false, .slice 3 [.int .i64 x3, .int .i64 x9] false], .int .i64 0])))
                          (cond x15
                           (cond x16
                            (cond (aH a2 5)
                             (some (.tuple [.agg 31 [.int .i64 0, .int .i64 0, .slice 42 [] false, .slice 3 [.int .i64 x3, .int .i64 x9] false], .int .i64 x0]))
                             (none))
                            (cond x14
                             (some (.tuple [.agg 31 [.int .i64 x11, .int .i64 x9, .slice 42 [.agg 41 [.int .i64 x9, .int .i64 4, .int .u32 x13]] false, .slice 3 [.int .i64 x3, .int .i64 x9] false], .int .i64 0]))
                             (some (.tuple [.agg 31 [.int .i64 x11, .int .i64 x9, .slice 42 [] false, .slice 3 [.int .i64 x3, .int .i64 x9] false], .int .i64 0]))))
                           (none)))
                         (cond x17
                          (cond x18
                           (cond (aH a2 5)
                            (some (.tuple [.agg 31 [.int .i64 0, .int .i64 0, .slice 42 [] false, .slice 3 [.int .i64 x3, .int .i64 x9] false], .int .i64 x0]))
                            (none))
                           (cond (!b0)
                            (cond x14
                             (some (.tuple [.agg 31 [.int .i64 x11, .int .i64 x9, .slice 42 [.agg 41 [.int .i64 x9, .int .i64 4, .int .u32 x13]] false, .slice 3 [.int .i64 x3, .int .i64 x9] false], .int .i64 0]))
                             (some (.tuple [.agg 31 [.int .i64 x11, .int .i64 x9, .slice 42 [] false, .slice 3 [.int .i64 x3, .int .i64 x9] false], .int .i64 0])))
                            (cond x15
                             (cond x16
                              (cond (aH a2 5)
                               (some (.tuple [.agg 31 [.int .i64 0, .int .i64 0, .slice 42 [] false, .slice 3 [.int .i64 x3, .int .i64 x9] false], .int .i64 x0]))
                               (none))
                              (cond x14
                               (some (.tuple [.agg 31 [.int .i64 x11, .int .i64 x9, .slice 42 [.agg 41 [.int .i64 x9, .int .i64 4, .int .u32 x13]] false, .slice 3 [.int .i64 x3, .int .i64 x9] false], .int .i64 0]))
                               (some (.tuple [.agg 31 [.int .i64 x11, .int .i64 x9, .slice 42 [] false, .slice 3 [.int .i64 x3, .int .i64 x9] false], .int .i64 0]))))
                             (none))))
                          (none)))
                        (cond (aC Pg F 67 [.int .u32 x8, .int .u32 2])
                         (cond (!(aj (aB F 67 [.int .u32 x8, .int .u32 2])))
                          (cond (aH a2 5)
                           (some (.tuple [.agg 31 [.int .i64 0, .int .i64 0, .slice 42 [] false, .slice 3 [.int .i64 x3, .int .i64 x9] false], .int .i64 x0]))
                           (none))
                          (cond (a2 != 4)
                           (cond (!b0)
                            (cond x14
                             (some (.tuple [.agg 31 [.int .i64 x11, .int .i64 x9, .slice 42 [.agg 41 [.int .i64 x9, .int .i64 4, .int .u32 x13]] false, .slice 3 [.int .i64 x3, .int .i64 x9] false], .int .i64 0]))
                             (some (.tuple [.agg 31 [.int .i64 x11, .int .i64 x9, .slice 42 [] false, .slice 3 [.int .i64 x3, .int .i64 x9] false], .int .i64 0])))
                            (cond x15
                             (cond x16
                              (cond (aH a2 5)
                               (some (.tuple [.agg 31 [.int .i64 0, .int .i64 0, .slice 42 [] false, .slice 3 [.int .i64 x3, .int .i64 x9] false], .int .i64 x0]))
                               (none))
                              (cond x14
                               (some (.tuple [.agg 31 [.int .i64 x11, .int .i64 x9, .slice 42 [.agg 41 [.int .i64 x9, .int .i64 4, .int .u32 x13]] false, .slice 3 [.int .i64 x3, .int .i64 x9] false], .int .i64 0]))
                               (some (.tuple [.agg 31 [.int .i64 x11, .int .i64 x9, .slice 42 [] false, .slice 3 [.int .i64 x3, .int .i64 x9] false], .int .i64 0]))))
                             (none)))
                           (cond x17
                            (cond x18
                             (cond (aH a2 5)
                              (some (.tuple [.agg 31 [.int .i64 0, .int .i64 0, .slice 42 [] false, .slice 3 [.int .i64 x3, .int .i64 x9] false], .int .i64 x0]))
                              (none))
                             (cond (!b0)
                              (cond x14
                               (some (.tuple [.agg 31 [.int .i64 x11, .int .i64 x9, .slice 42 [.agg 41 [.int .i64 x9, .int .i64 4, .int .u32 x13]] false, .slice 3 [.int .i64 x3, .int .i64 x9] false], .int .i64 0]))
                               (some (.tuple [.agg 31 [.int .i64 x11, .int .i64 x9, .slice 42 [] false, .slice 3 [.int .i64 x3, .int .i64 x9] false], .int .i64 0])))
                              (cond x15
                               (cond x16
                                (cond (aH a2 5)
                                 (some (.tuple [.agg 31 [.int .i64 0, .int .i64 0, .slice 42 [] false, .slice 3 [.int .i64 x3, .int .i64 x9] false], .int .i64 x0]))
                                 (none))
                                (cond x14
                                 (some (.tuple [.agg 31 [.int .i64 x11, .int .i64 x9, .slice 42 [.agg 41 [.int .i64 x9, .int .i64 4, .int .u32 x13]] false, .slice 3 [.int .i64 x3, .int .i64 x9] false], .int .i64 0]))
                                 (some (.tuple [.agg 31 [.int .i64 x11, .int .i64 x9, .slice 42 [] false, .slice 3 [.int .i64 x3, .int .i64 x9] false], .int .i64 0]))))
                               (none))))
                            (none))))
                         (none))))
                      (none))
                     (none)))
                   (none))
                  (cond (aH a2 5)
                   (some (.tuple [.agg 31 [.int .i64 0, .int .i64 0, .slice 42 [] false, .slice 3 [.int .i64 x3, .int .i64 x9] false], .int .i64 x0]))
                   (none)))
                 (none))
                (none))
               (none))
              (cond (aC Pg F 65 [.agg 23 [.slice 118 l0 false], .int .u32 x6])
               (cond (!(aj (aB F 65 [.agg 23 [.slice 118 l0 false], .int .u32 x6])))
                (cond (aH a2 5)
                 (some (.tuple [.agg 31 [.int .i64 0, .int .i64 0, .slice 42 [] false, .slice 3 [.int .i64 x3] false], .int .i64 x0]))
                 (none))
                (cond (!(cond (a2 == 2) true (a2 == 3)))
                 (cond (a2 != 4)
                  (cond (!b0)
                   (cond x22
                    (some (.tuple [.agg 31 [.int .i64 x19, .int .i64 x3, .slice 42 [.agg 41 [.int .i64 x3, .int .i64 4, .int .u32 x21]] false, .slice 3 [.int .i64 x3] false], .int .i64 0]))
                    (some (.tuple [.agg 31 [.int .i64 x19, .int .i64 x3, .slice 42 [] false, .slice 3 [.int .i64 x3] false], .int .i64 0])))
                   (cond x23
                    (cond x24
                     (cond (aH a2 5)
                      (some (.tuple [.agg 31 [.int .i64 0, .int .i64 0, .slice 42 [] false, .slice 3 [.int .i64 x3] false], .int .i64 x0]))
                      (none))
                     (cond x22
                      (some (.tuple [.agg 31 [.int .i64 x19, .int .i64 x3, .slice 42 [.agg 41 [.int .i64 x3, .int .i64 4, .int .u32 x21]] false, .slice 3 [.int .i64 x3] false], .int .i64 0]))
                      (some (.tuple [.agg 31 [.int .i64 x19, .int .i64 x3, .slice 42 [] false, .slice 3 [.int .i64 x3] false], .int .i64 0]))))
                    (none)))
                  (cond x25
                   (cond x26
                    (cond (aH a2 5)
                     (some (.tuple [.agg 31 [.int .i64 0, .int .i64 0, .slice 42 [] false, .slice 3 [.int .i64 x3] false], .int .i64 x0]))
                     (none))
                    (cond (!b0)
                     (cond x22
                      (some (.tuple [.agg 31 [.int .i64 x19, .int .i64 x3, .slice 42 [.agg 41 [.int .i64 x3, .int .i64 4, .int .u32 x21]] false, .slice 3 [.int .i64 x3] false], .int .i64 0]))
                      (some (.tuple [.agg 31 [.int .i64 x19, .int .i64 x3, .slice 42 [] false, .slice 3 [.int .i64 x3] false], .int .i64 0])))
                     (cond x23
                      (cond x24
                       (cond (aH a2 5)
                        (some (.tuple [.agg 31 [.int .i64 0, .int .i64 0, .slice 42 [] false, .slice 3 [.int .i64 x3] false], .int .i64 x0]))
                        (none))
                       (cond x22
                        (some (.tuple [.agg 31 [.int .i64 x19, .int .i64 x3, .slice 42 [.agg 41 [.int .i64 x3, .int .i64 4, .int .u32 x21]] false, .slice 3 [.int .i64 x3] false], .int .i64 0]))
                        (some (.tuple [.agg 31 [.int .i64 x19, .int .i64 x3, .slice 42 [] false, .slice 3 [.int .i64 x3] false], .int .i64 0]))))
                      (none))))
                   (none)))
                 (cond (aC Pg F 67 [.int .u32 x2, .int .u32 2])
                  (cond (!(aj (aB F 67 [.int .u32 x2, .int .u32 2])))
                   (cond (aH a2 5)
                    (some (.tuple [.agg 31 [.int .i64 0, .int .i64 0, .slice 42 [] false, .slice 3 [.int .i64 x3] false], .int .i64 x0]))
                    (none))
                   (cond (a2 != 4)
                    (cond (!b0)
                     (cond x22
                      (some (.tuple [.agg 31 [.int .i64 x19, .int .i64 x3, .slice 42 [.agg 41 [.int .i64 x3, .int .i64 4, .int .u32 x21]] false, .slice 3 [.int .i64 x3] false], .int .i64 0]))
                      (some (.tuple [.agg 31 [.int .i64 x19, .int .i64 x3, .slice 42 [] false, .slice 3 [.int .i64 x3] false], .int .i64 0])))
                     (cond x23
                      (cond x24
                       (cond (aH a2 5)
                        (some (.tuple [.agg 31 [.int .i64 0, .int .i64 0, .slice 42 [] false, .slice 3 [.int .i64 x3] false], .int .i64 x0]))
                        (none))
                       (cond x22
                        (some (.tuple [.agg 31 [.int .i64 x19, .int .i64 x3, .slice 42 [.agg 41 [.int .i64 x3, .int .i64 4, .int .u32 x21]] false, .slice 3 [.int .i64 x3] false], .int .i64 0]))
                        (some (.tuple [.agg 31 [.int .i64 x19, .int .i64 x3, .slice 42 [] false, .slice 3 [.int .i64 x3] false], .int .i64 0]))))
                      (none)))
                    (cond x25
                     (cond x26
                      (cond (aH a2 5)
                       (some (.tuple [.agg 31 [.int .i64 0, .int .i64 0, .slice 42 [] false, .slice 3 [.int .i64 x3] false], .int .i64 x0]))
                       (none))
                      (cond (!b0)
                       (cond x22
                        (some (.tuple [.agg 31 [.int .i64 x19, .int .i64 x3, .slice 42 [.agg 41 [.int .i64 x3, .int .i64 4, .int .u32 x21]] false, .slice 3 [.int .i64 x3] false], .int .i64 0]))
                        (some (.tuple [.agg 31 [.int .i64 x19, .int .i64 x3, .slice 42 [] false, .slice 3 [.int .i64 x3] false], .int .i64 0])))
                       (cond x23
                        (cond x24
                         (cond (aH a2 5)
                          (some (.tuple [.agg 31 [.int .i64 0, .int .i64 0, .slice 42 [] false, .slice 3 [.int .i64 x3] false], .int .i64 x0]))
                          (none))
                         (cond x22
                          (some (.tuple [.agg 31 [.int .i64 x19, .int .i64 x3, .slice 42 [.agg 41 [.int .i64 x3, .int .i64 4, .int .u32 x21]] false, .slice 3 [.int .i64 x3] false], .int .i64 0]))
                          (some (.tuple [.agg 31 [.int .i64 x19, .int .i64 x3, .slice 42 [] false, .slice 3 [.int .i64 x3] false], .int .i64 0]))))
                        (none))))
                     (none))))
                  (none))))
               (none)))
             (none))
            (none)))
          (none))
         (cond (aH a2 5)
          (some (.tuple [.agg 31 [.int .i64 0, .int .i64 0, .slice 42 [] false, .slice 3 [.int .i64 x3] false], .int .i64 x0]))
          (none)))
        (none))
       (none)))
     (none))
    (cond (aH a2 5)
     (some (.tuple [.agg 31 [.int .i64 0, .int .i64 0, .slice 42 [] false, .slice 3 [] false], .int .i64 x0]))
     (none)))) := by kernel_rfl
theorem ZL (F : Tab) (l0 : List AV) (a0 a1 : Int) : aS (cx F) 6 23 [.agg 23 [.slice 118 l0 false], .int .i64 a0, .int .i64 a1] =
 (let x0 : Bool := !(decide (a0 <= (IntKind.i64.wrap ((IntKind.i64.wrap (((l0.length : Nat) : Int) * 128)) - a1))));
  let x1 : Bool := (decide ((0 : Int) <= (a0.tmod 128))) && (decide ((a0.tmod 128) <= 128));
  let x2 : List AV := sub (partsOf (l0.getD ((IntKind.i64.wrap (a0.tdiv 128)).toNat) .dead)) ((a0.tmod 128).toNat) 128;
  let x3 : Nat := x2.length;
  let x4 : Bool := aH 0 x3;
  let x5 : Int := IntKind.u32.wrap (intOf (x2.getD 0 .dead));
  let x6 : Int := aD .or .u32 (aD .or .u32 (aD .or .u32 x5 (IntKind.u32.wrap ((IntKind.u32.wrap (intOf (x2.getD 1 .dead))) * 256))) (IntKind.u32.wrap ((IntKind.u32.wrap (intOf (x2.getD 2 .dead))) * 65536))) (IntKind.u32.wrap ((IntKind.u32.wrap (intOf (x2.getD 3 .dead))) * 16777216));
  let x7 : Bool := cond x4 (cond (aH 1 x3) (cond (aH 2 x3) (cond (aH 3 x3) true false) false) false) false;
  cond (a1 == 1)
   (cond (decide ((0 : Int) <= a0))
    (cond (!(a1 == 0))
     (cond ((a0.tmod a1) == 0)
      (cond x0
       (some (.tuple [.int .u32 0, .bool false]))
       (cond (aH (IntKind.i64.wrap (a0.tdiv 128)) l0.length)
        (cond x1
         (cond (a1 == 1)
          (cond x4
           (some (.tuple [.int .u32 x5, .bool true]))
           (none))
          (cond x7
           (some (.tuple [.int .u32 x6, .bool true]))
           (none)))
         (none))
        (none)))
      (some (.tuple [.int .u32 0, .bool false])))
     (none))
    (some (.tuple [.int .u32 0, .bool false])))
   (cond (a1 == 4)
    (cond (decide ((0 : Int) <= a0))
     (cond (!(a1 == 0))
      (cond ((a0.tmod a1) == 0)
       (cond x0
        (some (.tuple [.int .u32 0, .bool false]))
        (cond (aH (IntKind.i64.wrap (a0.tdiv 128)) l0.length)
         (cond x1
          (cond (a1 == 1)
           (cond x4
            (some (.tuple [.int .u32 x5, .bool true]))
            (none))
           (cond x7
            (some (.tuple [.int .u32 x6, .bool true]))
            (none)))
          (none))
         (none)))
       (some (.tuple [.int .u32 0, .bool false])))
      (none))
     (some (.tuple [.int .u32 0, .bool false])))
    (some (.tuple [.int .u32 0, .bool false])))) := by kernel_rfl
theorem Y7 (F : Tab) (l0 l1 : List AV) : aS (cx F) 6 24 [.agg 23 [.slice 118 l0 false], .slice 42 l1 false] =
 cond (decide ((0 : Nat) < l0.length))
  (cond (decide (((0 + l0.length) * 128) <= 140737488355328))
   (cond (decide ((0 : Nat) < l0.length))
    (cond ((yj F l0.length l1 ((l1.length : Nat) : Int) l0 l0.length 100000 0 l0).k == 1)
     (some (.tuple [.agg 23 [.slice 118 l0 false], .bool false]))
     (cond ((yj F l0.length l1 ((l1.length : Nat) : Int) l0 l0.length 100000 0 l0).k == 2)
      (some (.tuple [.agg 23 [.slice 118 (sub ((yj F l0.length l1 ((l1.length : Nat) : Int) l0 l0.length 100000 0 l0).l.getD 0 []) 0 (0 + l0.length)) false], .bool true]))
      (none)))
    (none))
   (none))
  (none) := by kernel_rfl
theorem Rk (F : Tab) (l0 : List AV) (a0 : Int) : aS (cx F) 6 34 [.agg 23 [.slice 118 l0 false], .int .u32 a0] =
 cond (cO (a0 == 0) true (cond (aC Pg F 72 [.agg 23 [.slice 118 l0 false], .int .i64 (IntKind.i64.wrap a0)]) true false))
  (cond (cond (a0 == 0) true (!(aj (aB F 72 [.agg 23 [.slice 118 l0 false], .int .i64 (IntKind.i64.wrap a0)]))))
   (some (.slice 52 [] false))
   (cond ((Bp F a0 l0 100000 [] 0).k == 1)
    (some (.slice 52 ((Bp F a0 l0 100000 [] 0).l.getD 0 []) false))
    (none)))
  (none) := by kernel_rfl
theorem WA (F : Tab) (a0 : Int) (l0 l1 : List AV) (b0 b1 b2 : Bool) (a1 : Int) (l2 : List AV) : aS (cx F) 6 51 [.agg 104 [.int .u32 a0, .agg 102 l0, .agg 103 l1, .bool b0, .bool b1, .bool b2, .int .i64 a1], .agg 23 [.slice 118 l2 false]] =
 (let x0 : Bool := aj (aB F 108 [.agg 104 [.int .u32 a0, .agg 102 l0, .agg 103 l1, .bool b0, .bool b1, .bool b2, .int .i64 a1]]);
  cond (aC Pg F 108 [.agg 104 [.int .u32 a0, .agg 102 l0, .agg 103 l1, .bool b0, .bool b1, .bool b2, .int .i64 a1]])
   (cond (cO x0 (cO (decide (a1 < 1099511627776)) (cond (aC Pg F 16 [.agg 23 [.slice 118 l2 false]]) true false) true) true)
    (some (.bool (cond x0 (cond (decide (a1 < 1099511627776)) (aj (aB F 16 [.agg 23 [.slice 118 l2 false]])) false) false)))
    (none))
   (none)) := by kernel_rfl
theorem Z4 (F : Tab)  : aS (cx F) 6 52 [] =
 (let x0 : List AV := partsOf (aB F 109 [.int .i64 0, .int .u32 0]);
  let x1 : Int := intOf (x0.getD 0 .dead);
  let x2 : Bool := aj (x0.getD 3 .dead);
  let x3 : Bool := aj (x0.getD 4 .dead);
  let x4 : Bool := aj (x0.getD 5 .dead);
  let x5 : Int := intOf (x0.getD 6 .dead);
  let x6 : List AV := (partsOf (x0.getD 2 .dead)).set 1 (.int .u32 64);
  let x7 : List AV := (partsOf (x0.getD 1 .dead)).set 2 (.int .u32 7);
  let x8 : List AV := partsOf (aB F 53 [.agg 104 [.int .u32 x1, .agg 102 x7, .agg 103 x6, .bool x2, .bool x3, .bool x4, .int .i64 x5], .agg 23 [.slice 118 (ak ((partsOf (aB F 110 [.agg 122 [.int .i64 16, .int .i64 1, .int .i64 0, .int .i64 0, .int .i64 5]])).getD 0 .dead)) false], .int .u32 0]);
  let x9 : List AV := partsOf (x8.getD 1 .dead);
  let x10 : List AV := partsOf (aB F 53 [.agg 104 [.int .u32 x1, .agg 102 x7, .agg 103 x6, .bool x2, .bool x3, .bool x4, .int .i64 x5], .agg 23 [.slice 118 (ak ((partsOf (aB F 110 [.agg 122 [.int .i64 21, .int .i64 2, .int .i64 0, .int .i64 0, .int .i64 8]])).getD 0 .dead)) false], .int .u32 0]);
  let x11 : List AV := ak (x10.getD 4 .dead);
  let x12 : List AV := ak (x10.getD 5 .dead);
  let x13 : List AV := partsOf (aB F 53 [.agg 104 [.int .u32 x1, .agg 102 x7, .agg 103 x6, .bool x2, .bool x3, .bool x4, .int .i64 x5], .agg 23 [.slice 118 (ak ((partsOf (aB F 110 [.agg 122 [.int .i64 20, .int .i64 1, .int .i64 0, .int .i64 0, .int .i64 130]])).getD 0 .dead)) false], .int .u32 0]);
  let x14 : List AV := partsOf (x13.getD 1 .dead);
  let x15 : List AV := partsOf (aB F 53 [.agg 104 [.int .u32 x1, .agg 102 x7, .agg 103 x6, .bool x2, .bool x3, .bool x4, .int .i64 x5], .agg 23 [.slice 118 (ak ((partsOf (aB F 110 [.agg 122 [.int .i64 20, .int .i64 1, .int .i64 0, .int .i64 0, .int .i64 128]])).getD 0 .dead)) false], .int .u32 0]);
  let x16 : List AV := partsOf (aB F 53 [.agg 104 [.int .u32 x1, .agg 102 x7, .agg 103 x6, .bool x2, .bool x3, .bool x4, .int .i64 x5], .agg 23 [.slice 118 [.agg 117 [.int .u8 0, .int .u8 0, .int .u8 0, .int .u8 0, .int .u8 0, .int .u8 0, .int .u8 0, .int .u8 0, .int .u8 0, .int .u8 0, .int .u8 0, .int .u8 0, .int .u8 0, .int .u8 0, .int .u8 0, .int .u8 0, .int .u8 0, .int .u8 0, .int .u8 0, .int .u8 0, .int .u8 0, .int .u8 0, .int .u8 0, .int .u8 0, .int .u8 0, .int .u8 0, .int .u8 0, .int .u8 0, .int .u8 0, .int .u8 0, .int .u8 0, .int .u8 0, .int .u8 0, .int .u8 0, .int .u8 0, .int .u8 0, .int .u8 0, .int .u8 0, .int .u8 0, .int .u8 0, .int .u8 0, .int .u8 0, .int .u8 0, .int .u8 0, .int .u8 0, .int .u8 0, .int .u8 0, .int .u8 0, .int .u8 0, .int .u8 0, .int .u8 0, .int .u8 0, .int .u8 0, .int .u8 0, .int .u8 0, .int .u8 0, .int .u8 0, .int .u8 0, .int .u8 0, .int .u8 0, .int .u8 0, .int .u8 0, .int .u8 0, .int .u8 0, .int .u8 0, .int .u8 0, .int .u8 0, .int .u8 0, .int .u8 0, .int .u8 0, .int .u8 0, .int .u8 0, .int .u8 0, .int .u8 0, .int .u8 0, .int .u8 0, .int .u8 0, .int .u8 0, .int .u8 0, .int .u8 0, .int .u8 0, .int .u8 0, .int .u8 0, .int .u8 0, .int .u8 0, .int .u8 0, .int .u8 0, .int .u8 0, .int .u8 0, .int .u8 0, .int .u8 0, .int .u8 0, .int .u8 0, .int .u8 0, .int .u8 0, .int .u8 0, .int .u8 0, .int .u8 0, .int .u8 0, .int .u8 0, .int .u8 0, .int .u8 0, .int .u8 0, .int .u8 0, .int .u8 0, .int .u8 0, .int .u8 0, .int .u8 0, .int .u8 0, .int .u8 0, .int .u8 0, .int .u8 0, .int .u8 0, .int .u8 0, .int .u8 0, .int .u8 0, .int .u8 0, .int .u8 0, .int .u8 0, .int .u8 0, .int .u8 0, .int .u8 0, .int .u8 0, .int .u8 0, .int .u8 0, .int .u8 0, .int .u8 0, .int .u8 0]] false], .int .u32 0]);
  let x17 : List AV := partsOf (aB F 53 [.agg 104 [.int .u32 x1, .agg 102 x7, .agg 103 x6, .bool x2, .bool x3, .bool x4, .int .i64 x5], .agg 23 [.slice 118 (ak ((partsOf (aB F 110 [.agg 122 [.int .i64 40, .int .i64 0, .int .i64 0, .int .i64 0, .int .i64 0]])).getD 0 .dead)) false], .int .u32 0]);
  let x18 : List AV := partsOf (aB F 53 [.agg 104 [.int .u32 x1, .agg 102 x7, .agg 103 x6, .bool x2, .bool x3, .bool x4, .int .i64 x5], .agg 23 [.slice 118 (ak ((partsOf (aB F 110 [.agg 122 [.int .i64 46, .int .i64 1, .int .i64 0, .int .i64 0, .int .i64 33]])).getD 0 .dead)) false], .int .u32 0]);
  let x19 : List AV := partsOf (x18.getD 1 .dead);
  let x20 : List AV := partsOf (x18.getD 2 .dead);
  let x21 : Bool := aj (x18.getD 6 .dead);
  let x22 : List AV := partsOf (x18.getD 7 .dead);
  let x23 : Int := intOf (x22.getD 1 .dead);
  let x24 : List AV := partsOf (aB F 59 [.agg 111 [.bool (aj (x18.getD 0 .dead)), .agg 104 [.int .u32 (intOf (x19.getD 0 .dead)), .agg 102 (partsOf (x19.getD 1 .dead)), .agg 103 (partsOf (x19.getD 2 .dead)), .bool (aj (x19.getD 3 .dead)), .bool (aj (x19.getD 4 .dead)), .bool (aj (x19.getD 5 .dead)), .int .i64 (intOf (x19.getD 6 .dead))], .agg 104 [.int .u32 (intOf (x20.getD 0 .dead)), .agg 102 (partsOf (x20.getD 1 .dead)), .agg 103 (partsOf (x20.getD 2 .dead)), .bool (aj (x20.getD 3 .dead)), .bool (aj (x20.getD 4 .dead)), .bool (aj (x20.getD 5 .dead)), .int .i64 (intOf (x20.getD 6 .dead))], .int .u32 (intOf (x18.getD 3 .dead)), .slice 42 (ak (x18.getD 4 .dead)) false, .slice 116 (ak (x18.getD 5 .dead)) false, .bool x21, .agg 109 [.bool (aj (x22.getD 0 .dead)), .int .i64 x23, .int .u32 (intOf (x22.getD 2 .dead))], .int .i64 (intOf (x18.getD 8 .dead)), .int .u32 (intOf (x18.getD 9 .dead)), .int .i64 (intOf (x18.getD 10 .dead))], .int .u32 9, .bool true]);
  let x25 : List AV := partsOf (x24.getD 1 .dead);
  let x26 : Nat := x11.length;
  let x27 : Nat := x12.length;
  let x28 : List AV := partsOf (x11.getD 0 .dead);
  let x29 : Bool := ((intOf (x28.getD 0 .dead)) == 8) && (((intOf (x28.getD 1 .dead)) == 4) && (((intOf (x28.getD 2 .dead)) == 7) && true));
  let x30 : Bool := aH 0 x27;
  let x31 : List AV := partsOf (x12.getD 0 .dead);
  let x32 : Bool := (intOf (x31.getD 0 .dead)) == 0;
  let x33 : Bool := !(aj (x31.getD 2 .dead));
  let x34 : Bool := aH 1 x27;
  let x35 : List AV := partsOf (x12.getD 1 .dead);
  let x36 : Bool := (intOf (x35.getD 0 .dead)) == 8;
  cond (aC Pg F 109 [.int .i64 0, .int .u32 0])
   (cond (aC Pg F 110 [.agg 122 [.int .i64 16, .int .i64 1, .int .i64 0, .int .i64 0, .int .i64 5]])
    (cond (aC Pg F 53 [.agg 104 [.int .u32 x1, .agg 102 x7, .agg 103 x6, .bool x2, .bool x3, .bool x4, .int .i64 x5], .agg 23 [.slice 118 (ak ((partsOf (aB F 110 [.agg 122 [.int .i64 16, .int .i64 1, .int .i64 0, .int .i64 0, .int .i64 5]])).getD 0 .dead)) false], .int .u32 0])
     (cond (aC Pg F 110 [.agg 122 [.int .i64 21, .int .i64 2, .int .i64 0, .int .i64 0, .int .i64 8]])
      (cond (aC Pg F 53 [.agg 104 [.int .u32 x1, .agg 102 x7, .agg 103 x6, .bool x2, .bool x3, .bool x4, .int .i64 x5], .agg 23 [.slice 118 (ak ((partsOf (aB F 110 [.agg 122 [.int .i64 21, .int .i64 2, .int .i64 0, .int .i64 0, .int .i64 8]])).getD 0 .dead)) false], .int .u32 0])
       (cond (aC Pg F 110 [.agg 122 [.int .i64 20, .int .i64 1, .int .i64 0, .int .i64 0, .int .i64 130]])
        (cond (aC Pg F 53 [.agg 104 [.int .u32 x1, .agg 102 x7, .agg 103 x6, .bool x2, .bool x3, .bool x4, .int .i64 x5], .agg 23 [.slice 118 (ak ((partsOf (aB F 110 [.agg 122 [.int .i64 20, .int .i64 1, .int .i64 0, .int .i64 0, .int .i64 130]])).getD 0 .dead)) false], .int .u32 0])
         (cond (aC Pg F 110 [.agg 122 [.int .i64 20, .int .i64 1, .int .i64 0, .int .i64 0, .int .i64 128]])
          (cond (aC Pg F 53 [.agg 104 [.int .u32 x1, .agg 102 x7, .agg 103 x6, .bool x2, .bool x3, .bool x4, .int .i64 x5], .agg 23 [.slice 118 (ak ((partsOf (aB F 110 [.agg 122 [.int .i64 20, .int .i64 1, .int .i64 0, .int .i64 0, .int .i64 128]])).getD 0 .dead)) false], .int .u32 0])
           (cond (aC Pg F 53 [.agg 104 [.int .u32 x1, .agg 102 x7, .agg 103 x6, .bool x2, .bool x3, .bool x4, .int .i64 x5], .agg 23 [.slice 118 [.agg 117 [.int .u8 0, .int .u8 0, .int .u8 0, .int .u8 0, .int .u8 0, .int .u8 0, .int .u8 0, .int .u8 0, .int .u8 0, .int .u8 0, .int .u8 0, .int .u8 0, .int .u8 0, .int .u8 0, .int .u8 0, .int .u8 0, .int .u8 0, .int .u8 0, .int .u8 0, .int .u8 0, .int .u8 0, .int .u8 0, .int .u8 0, .int .u8 0, .int .u8 0, .int .u8 0, .int .u8 0, .int .u8 0, .int .u8 0, .int .u8 0, .int .u8 0, .int .u8 0, .int .u8 0, .int .u8 0, .int .u8 0, .int .u8 0, .int .u8 0, .int .u8 0, .int .u8 0, .int .u8 0, .int .u8 0, .int .u8 0, .int .u8 0, .int .u8 0, .int .u8 0, .int .u8 0, .int .u8 0, .int .u8 0, .int .u8 0, .int .u8 0, .int .u8 0, .int .u8 0, .int .u8 0, .int .u8 0, .int .u8 0, .int .u8 0, .int .u8 0, .int .u8 0, .int .u8 0, .int .u8 0, .int .u8 0, .int .u8 0, .int .u8 0, .int .u8 0, .int .u8 0, .int .u8 0, .int .u8 0, .int .u8 0, .int .u8 0, .int .u8 0, .int .u8 0, .int .u8 0, .int .u8 0, .int .u8 0, .int .u8 0, .int .u8 0, .int .u8 0, .int .u8 0, .int .u8 0, .int .u8 0, .int .u8 0, .int .u8 0, .int .u8 0, .int .u8 0, .int .u8 0, .int .u8 0, .int .u8 0, .int .u8 0, .int .u8 0, .int .u8 0, .int .u8 0, .int .u8 0, .int .u8 0, .int .u8 0, .int .u8 0, .int .u8 0, .int .u8 0, .int .u8 0, .int .u8 0, .int .u8 0, .int .u8 0, .int .u8 0, .int .u8 0, .int .u8 0, .int .u8 0, .int .u8 0, .int .u8 0, .int .u8 0, .int .u8 0, .int .u8 0, .int .u8 0, .int .u8 0, .int .u8 0, .int .u8 0, .int .u8 0, .int .u8 0, .int .u8 0, .int .u8 0, .int .u8 0, .int .u8 0, .int .u8 0, .int .u8 0, .int .u8 0, .int .u8 0, .int .u8 0, .int .u8 0, .int .u8 0, .int .u8 0]] false], .int .u32 0])
            (cond (aC Pg F 110 [.agg 122 [.int .i64 40, .int .i64 0, .int .i64 0, .int .i64 0, .int .i64 0]])
             (cond (aC Pg F 53 [.agg 104 [.int .u32 x1, .agg 102 x7, .agg 103 x6, .bool x2, .bool x3, .bool x4, .int .i64 x5], .agg 23 [.slice 118 (ak ((partsOf (aB F 110 [.agg 122 [.int .i64 40, .int .i64 0, .int .i64 0, .int .i64 0, .int .i64 0]])).getD 0 .dead)) false], .int .u32 0])
              (cond (aC Pg F 110 [.agg 122 [.int .i64 46, .int .i64 1, .int .i64 0, .int .i64 0, .int .i64 33]])
               (cond (aC Pg F 53 [.agg 104 [.int .u32 x1, .agg 102 x7, .agg 103 x6, .bool x2, .bool x3, .bool x4, .int .i64 x5], .agg 23 [.slice 118 (ak ((partsOf (aB F 110 [.agg 122 [.int .i64 46, .int .i64 1, .int .i64 0, .int .i64 0, .int .i64 33]])).getD 0 .dead)) false], .int .u32 0])
                (cond (aC Pg F 59 [.agg 111 [.bool (aj (x18.getD 0 .dead)), .agg 104 [.int .u32 (intOf (x19.getD 0 .dead)), .agg 102 (partsOf (x19.getD 1 .dead)), .agg 103 (partsOf (x19.getD 2 .dead)), .bool (aj (x19.getD 3 .dead)), .bool (aj (x19.getD 4 .dead)), .bool (aj (x19.getD 5 .dead)), .int .i64 (intOf (x19.getD 6 .dead))], .agg 104 [.int .u32 (intOf (x20.getD 0 .dead)), .agg 102 (partsOf (x20.getD 1 .dead)), .agg 103 (partsOf (x20.getD 2 .dead)), .bool (aj (x20.getD 3 .dead)), .bool (aj (x20.getD 4 .dead)), .bool (aj (x20.getD 5 .dead)), .int .i64 (intOf (x20.getD 6 .dead))], .int .u32 (intOf (x18.getD 3 .dead)), .slice 42 (ak (x18.getD 4 .dead)) false, .slice 116 (ak (x18.getD 5 .dead)) false, .bool x21, .agg 109 [.bool (aj (x22.getD 0 .dead)), .int .i64 x23, .int .u32 (intOf (x22.getD 2 .dead))], .int .i64 (intOf (x18.getD 8 .dead)), .int .u32 (intOf (x18.getD 9 .dead)), .int .i64 (intOf (x18.getD 10 .dead))], .int .u32 9, .bool true])
                 (cond (cond (!(aj (x8.getD 0 .dead))) true (cond ((intOf ((partsOf (x9.getD 1 .dead)).getD 1 .dead)) != 5) true (cond ((intOf (x9.getD 0 .dead)) != 4) true (cond ((intOf (x9.getD 6 .dead)) != 1) true (cond (((x26 : Nat) : Int) != 1) true (((x27 : Nat) : Int) != 2))))))
                  (some (.bool false))
                  (cond (cond (aH 0 x26) (cO x29 (cond x30 (cO x32 (cond x30 (cO x33 (cond x34 (cO x36 (cond x34 true false) true) false) true) false) true) false) true) false)
                   (some (.bool (cond (cond x29 (cond x32 (cond x33 (cond x36 (aj (x35.getD 2 .dead)) false) false) false) false) (cond (cond ((intOf (x13.getD 10 .dead)) == 3) (cond ((intOf ((partsOf (x14.getD 2 .dead)).getD 4 .dead)) == 130) (cond ((intOf (x14.getD 0 .dead)) == 64) (cond ((intOf (x15.getD 10 .dead)) == 5) (cond ((intOf ((partsOf ((partsOf (x15.getD 1 .dead)).getD 2 .dead)).getD 4 .dead)) == 128) (cond ((intOf (x16.getD 10 .dead)) == 2) ((intOf ((partsOf ((partsOf (x16.getD 1 .dead)).getD 2 .dead)).getD 2 .dead)) == 0) false) false) false) false) false) false) (cond ((intOf (x17.getD 10 .dead)) == 1) (cond ((intOf ((partsOf ((partsOf (x17.getD 1 .dead)).getD 2 .dead)).getD 2 .dead)) == 4) (cond x21 (cond (x23 == 33) (cond (!(aj (x24.getD 6 .dead))) (cond ((intOf ((partsOf (x25.getD 1 .dead)).getD 1 .dead)) == 9) ((intOf (x25.getD 0 .dead)) == 4) false) false) false) false) false) false) false) false)))
                   (none)))
                 (none))
                (none))
               (none))
              (none))
             (none))
            (none))
           (none))
          (none))
         (none))
        (none))
       (none))
      (none))
     (none))
    (none))
   (none)) := by kernel_rfl
theorem aaH (F : Tab) (a0 : Int) (l0 l1 : List AV) (b0 b1 b2 : Bool) (a1 : Int) (l2 : List AV) (a2 : Int) : aS (cx F) 6 53 [.agg 104 [.int .u32 a0, .agg 102 l0, .agg 103 l1, .bool b0, .bool b1, .bool b2, .int .i64 a1], .agg 23 [.slice 118 l2 false], .int .u32 a2] =
 (let x0 : List AV := (bQ F a0 l0 l1 b0 b1 b2 a1 l2 a0 l0 l1 b0 b2 (IntKind.i64.wrap (a1 + 1)) l2 a2 a0 l0 l1 b0 b1 b2 a1).l.getD 1 [];
  let x1 : Int := (bQ F a0 l0 l1 b0 b1 b2 a1 l2 a0 l0 l1 b0 b2 (IntKind.i64.wrap (a1 + 1)) l2 a2 a0 l0 l1 b0 b1 b2 a1).i.getD 1 0;
  let x2 : List AV := (bQ F a0 l0 l1 b0 b1 b2 a1 l2 a0 l0 l1 b0 b2 (IntKind.i64.wrap (a1 + 1)) l2 a2 a0 l0 l1 b0 b1 b2 a1).l.getD 2 [];
  let x3 : Int := (bQ F a0 l0 l1 b0 b1 b2 a1 l2 a0 l0 l1 b0 b2 (IntKind.i64.wrap (a1 + 1)) l2 a2 a0 l0 l1 b0 b1 b2 a1).i.getD 2 0;
  let x4 : List AV := (bQ F a0 l0 l1 b0 b1 b2 a1 l2 a0 l0 l1 b0 b2 (IntKind.i64.wrap (a1 + 1)) l2 a2 a0 l0 l1 b0 b1 b2 a1).l.getD 3 [];
  let x5 : List AV := (bQ F a0 l0 l1 b0 b1 b2 a1 l2 a0 l0 l1 b0 b2 (IntKind.i64.wrap (a1 + 1)) l2 a2 a0 l0 l1 b0 b1 b2 a1).l.getD 4 [];
  let x6 : Int := (bQ F a0 l0 l1 b0 b1 b2 a1 l2 a0 l0 l1 b0 b2 (IntKind.i64.wrap (a1 + 1)) l2 a2 a0 l0 l1 b0 b1 b2 a1).i.getD 3 0;
  let x7 : Int := (bQ F a0 l0 l1 b0 b1 b2 a1 l2 a0 l0 l1 b0 b2 (IntKind.i64.wrap (a1 + 1)) l2 a2 a0 l0 l1 b0 b1 b2 a1).i.getD 4 0;
  let x8 : Bool := (bQ F a0 l0 l1 b0 b1 b2 a1 l2 a0 l0 l1 b0 b2 (IntKind.i64.wrap (a1 + 1)) l2 a2 a0 l0 l1 b0 b1 b2 a1).b.getD 0 false;
  let x9 : Bool := (bQ F a0 l0 l1 b0 b1 b2 a1 l2 a0 l0 l1 b0 b2 (IntKind.i64.wrap (a1 + 1)) l2 a2 a0 l0 l1 b0 b1 b2 a1).b.getD 1 false;
  let x10 : Bool := (bQ F a0 l0 l1 b0 b1 b2 a1 l2 a0 l0 l1 b0 b2 (IntKind.i64.wrap (a1 + 1)) l2 a2 a0 l0 l1 b0 b1 b2 a1).b.getD 2 false;
  cond (aC Pg F 60 [.agg 104 [.int .u32 a0, .agg 102 l0, .agg 103 l1, .bool b0, .bool b1, .bool b2, .int .i64 a1], .int .u32 a2])
   (cond (!(aj (aB F 60 [.agg 104 [.int .u32 a0, .agg 102 l0, .agg 103 l1, .bool b0, .bool b1, .bool b2, .int .i64 a1], .int .u32 a2])))
    (some (.agg 111 [.bool false, .agg 104 [.int .u32 a0, .agg 102 l0, .agg 103 l1, .bool b0, .bool b1, .bool b2, .int .i64 a1], .agg 104 [.int .u32 0, .agg 102 [.int .u32 0, .int .u32 0, .int .u32 0, .int .u32 0, .int .u32 0, .int .u32 0, .int .u32 0, .int .u32 0, .int .u32 0, .int .u32 0, .int .u32 0, .int .u32 0, .int .u32 0, .int .u32 0, .int .u32 0, .int .u32 0], .agg 103 [.int .u32 0, .int .u32 0, .int .u32 0, .int .u32 0, .int .u32 0, .int .u32 0, .int .u32 0, .int .u32 0, .int .u32 0], .bool false, .bool false, .bool false, .int .i64 0], .int .u32 0, .slice 42 [] false, .slice 116 [] false, .bool false, .agg 109 [.bool false, .int .i64 0, .int .u32 0], .int .i64 0, .int .u32 0, .int .i64 0]))
    (cond ((bQ F a0 l0 l1 b0 b1 b2 a1 l2 a0 l0 l1 b0 b2 (IntKind.i64.wrap (a1 + 1)) l2 a2 a0 l0 l1 b0 b1 b2 a1).k == 1)
     (some (.agg 111 [.bool true, .agg 104 [.int .u32 ((bQ F a0 l0 l1 b0 b1 b2 a1 l2 a0 l0 l1 b0 b2 (IntKind.i64.wrap (a1 + 1)) l2 a2 a0 l0 l1 b0 b1 b2 a1).i.getD 0 0), .agg 102 ((bQ F a0 l0 l1 b0 b1 b2 a1 l2 a0 l0 l1 b0 b2 (IntKind.i64.wrap (a1 + 1)) l2 a2 a0 l0 l1 b0 b1 b2 a1).l.getD 0 []), .agg 103 x0, .bool x8, .bool x9, .bool x10, .int .i64 x1], .agg 104 [.int .u32 a0, .agg 102 l0, .agg 103 l1, .bool b0, .bool b1, .bool b2, .int .i64 a1], .int .u32 0, .slice 42 [] false, .slice 116 [] false, .bool false, .agg 109 [.bool false, .int .i64 0, .int .u32 0], .int .i64 0, .int .u32 0, .int .i64 x3]))
     (cond ((bQ F a0 l0 l1 b0 b1 b2 a1 l2 a0 l0 l1 b0 b2 (IntKind.i64.wrap (a1 + 1)) l2 a2 a0 l0 l1 b0 b1 b2 a1).k == 2)
      (some (.agg 111 [.bool true, .agg 104 [.int .u32 x1, .agg 102 x0, .agg 103 x2, .bool x8, .bool x9, .bool x10, .int .i64 x3], .agg 104 [.int .u32 a0, .agg 102 l0, .agg 103 l1, .bool b0, .bool b1, .bool b2, .int .i64 a1], .int .u32 x6, .slice 42 x4 false, .slice 116 x5 false, .bool false, .agg 109 [.bool false, .int .i64 0, .int .u32 0], .int .i64 0, .int .u32 0, .int .i64 x7]))
      (cond ((bQ F a0 l0 l1 b0 b1 b2 a1 l2 a0 l0 l1 b0 b2 (IntKind.i64.wrap (a1 + 1)) l2 a2 a0 l0 l1 b0 b1 b2 a1).k == 3)
       (some (.agg 111 [.bool true, .agg 104 [.int .u32 x3, .agg 102 x4, .agg 103 x5, .bool ((bQ F a0 l0 l1 b0 b1 b2 a1 l2 a0 l0 l1 b0 b2 (IntKind.i64.wrap (a1 + 1)) l2 a2 a0 l0 l1 b0 b1 b2 a1).b.getD 3 false), .bool ((bQ F a0 l0 l1 b0 b1 b2 a1 l2 a0 l0 l1 b0 b2 (IntKind.i64.wrap (a1 + 1)) l2 a2 a0 l0 l1 b0 b1 b2 a1).b.getD 4 false), .bool ((bQ F a0 l0 l1 b0 b1 b2 a1 l2 a0 l0 l1 b0 b2 (IntKind.i64.wrap (a1 + 1)) l2 a2 a0 l0 l1 b0 b1 b2 a1).b.getD 5 false), .int .i64 x6], .agg 104 [.int .u32 a0, .agg 102 l0, .agg 103 l1, .bool b0, .bool b1, .bool b2, .int .i64 a1], .int .u32 x7, .slice 42 ((bQ F a0 l0 l1 b0 b1 b2 a1 l2 a0 l0 l1 b0 b2 (IntKind.i64.wrap (a1 + 1)) l2 a2 a0 l0 l1 b0 b1 b2 a1).l.getD 5 []) false, .slice 116 ((bQ F a0 l0 l1 b0 b1 b2 a1 l2 a0 l0 l1 b0 b2 (IntKind.i64.wrap (a1 + 1)) l2 a2 a0 l0 l1 b0 b1 b2 a1).l.getD 6 []) false, .bool ((bQ F a0 l0 l1 b0 b1 b2 a1 l2 a0 l0 l1 b0 b2 (IntKind.i64.wrap (a1 + 1)) l2 a2 a0 l0 l1 b0 b1 b2 a1).b.getD 6 false), .agg 109 [.bool ((bQ F a0 l0 l1 b0 b1 b2 a1 l2 a0 l0 l1 b0 b2 (IntKind.i64.wrap (a1 + 1)) l2 a2 a0 l0 l1 b0 b1 b2 a1).b.getD 7 false), .int .i64 ((bQ F a0 l0 l1 b0 b1 b2 a1 l2 a0 l0 l1 b0 b2 (IntKind.i64.wrap (a1 + 1)) l2 a2 a0 l0 l1 b0 b1 b2 a1).i.getD 5 0), .int .u32 ((bQ F a0 l0 l1 b0 b1 b2 a1 l2 a0 l0 l1 b0 b2 (IntKind.i64.wrap (a1 + 1)) l2 a2 a0 l0 l1 b0 b1 b2 a1).i.getD 6 0)], .int .i64 ((bQ F a0 l0 l1 b0 b1 b2 a1 l2 a0 l0 l1 b0 b2 (IntKind.i64.wrap (a1 + 1)) l2 a2 a0 l0 l1 b0 b1 b2 a1).i.getD 7 0), .int .u32 ((bQ F a0 l0 l1 b0 b1 b2 a1 l2 a0 l0 l1 b0 b2 (IntKind.i64.wrap (a1 + 1)) l2 a2 a0 l0 l1 b0 b1 b2 a1).i.getD 8 0), .int .i64 ((bQ F a0 l0 l1 b0 b1 b2 a1 l2 a0 l0 l1 b0 b2 (IntKind.i64.wrap (a1 + 1)) l2 a2 a0 l0 l1 b0 b1 b2 a1).i.getD 9 0)]))
       (cond ((bQ F a0 l0 l1 b0 b1 b2 a1 l2 a0 l0 l1 b0 b2 (IntKind.i64.wrap (a1 + 1)) l2 a2 a0 l0 l1 b0 b1 b2 a1).k == 4)
        (some (.agg 111 [.bool true, .agg 104 [.int .u32 x1, .agg 102 x2, .agg 103 l1, .bool b0, .bool false, .bool b2, .int .i64 (IntKind.i64.wrap (a1 + 1))], .agg 104 [.int .u32 a0, .agg 102 l0, .agg 103 l1, .bool b0, .bool b1, .bool b2, .int .i64 a1], .int .u32 x3, .slice 42 x4 false, .slice 116 x5 false, .bool false, .agg 109 [.bool false, .int .i64 0, .int .u32 0], .int .i64 0, .int .u32 0, .int .i64 0]))
        (none))))))
   (none)) := by kernel_rfl
theorem O6 (F : Tab) (l0 : List AV) (a0 a1 a2 : Int) : aS (cx F) 6 57 [.agg 23 [.slice 118 l0 false], .agg 41 [.int .i64 a0, .int .i64 a1, .int .u32 a2]] =
 cond (aC Pg F 115 [.agg 23 [.slice 118 l0 false], .int .i64 a0, .int .i64 a1])
  (cond (!(aj (aB F 115 [.agg 23 [.slice 118 l0 false], .int .i64 a0, .int .i64 a1])))
   (some (.agg 128 [.agg 23 [.slice 118 l0 false], .bool false]))
   (cond (decide (((0 + l0.length) * 128) <= 140737488355328))
    (cond (decide ((0 : Nat) < l0.length))
     (cond ((vg F l0 a0 a1 a2 l0 l0.length l0.length 100000 0 l0).k == 1)
      (some (.agg 128 [.agg 23 [.slice 118 (sub ((vg F l0 a0 a1 a2 l0 l0.length l0.length 100000 0 l0).l.getD 0 []) 0 (0 + l0.length)) false], .bool true]))
      (none))
     (none))
    (none)))
  (none) := by kernel_rfl
theorem TQ (F : Tab) (a0 a1 a2 : Int) : aS (cx F) 6 58 [.int .i64 a0, .int .u32 a1, .int .u32 a2] =
 cond (a0 == 1)
  (some (.tuple [.int .u32 (IntKind.u32.wrap (a1 + a2)), .int .i64 0]))
  (cond (a0 == 2)
   (some (.tuple [.int .u32 (IntKind.u32.wrap (a1 - a2)), .int .i64 0]))
   (cond (a0 == 1)
    (some (.tuple [.int .u32 (IntKind.u32.wrap (a1 + a2)), .int .i64 0]))
    (cond (a0 == 2)
     (some (.tuple [.int .u32 (IntKind.u32.wrap (a1 - a2)), .int .i64 0]))
     (cond (a0 == 3)
      (some (.tuple [.int .u32 (aD .and .u32 a1 a2), .int .i64 0]))
      (cond (a0 == 4)
       (some (.tuple [.int .u32 (aD .or .u32 a1 a2), .int .i64 0]))
       (cond (a0 == 5)
        (some (.tuple [.int .u32 (aD .xor .u32 a1 a2), .int .i64 0]))
        (cond (a0 == 6)
         (cond (decide ((0 : Int) <= (aD .and .u32 a2 31)))
          (some (.tuple [.int .u32 (IntKind.u32.wrap (a1 * (2 ^ min (aD .and .u32 a2 31).toNat 32))), .int .i64 0]))
          (none))
         (cond (a0 == 7)
          (cond (decide ((0 : Int) <= (aD .and .u32 a2 31)))
           (some (.tuple [.int .u32 (a1.fdiv (2 ^ min (aD .and .u32 a2 31).toNat 32)), .int .i64 0]))
           (none))
          (cond (a0 == 8)
           (some (.tuple [.int .u32 (IntKind.u32.wrap (a1 * a2)), .int .i64 0]))
           (cond (a0 == 9)
            (cond (a2 == 0)
             (some (.tuple [.int .u32 (aD .xor .u32 4294967295 a2), .int .i64 0]))
             (cond (!(a2 == 0))
              (some (.tuple [.int .u32 (IntKind.u32.wrap (a1.tdiv a2)), .int .i64 0]))
              (none)))
            (cond (a0 == 10)
             (cond (a2 == 0)
              (some (.tuple [.int .u32 a1, .int .i64 0]))
              (cond (!(a2 == 0))
               (some (.tuple [.int .u32 (a1.tmod a2), .int .i64 0]))
               (none)))
             (cond (a0 == 11)
              (cond (aC Pg F 147 [.int .i32 (IntKind.i32.wrap a1), .int .i32 (IntKind.i32.wrap a2)])
               (some (.tuple [.int .u32 (intOf (aB F 147 [.int .i32 (IntKind.i32.wrap a1), .int .i32 (IntKind.i32.wrap a2)])), .int .i64 0]))
               (none))
              (cond (a0 == 12)
               (cond (aC Pg F 149 [.int .u32 a1, .int .u32 a2])
                (some (.tuple [.int .u32 (intOf (aB F 149 [.int .u32 a1, .int .u32 a2])), .int .i64 0]))
                (none))
               (some (.tuple [.int .u32 0, .int .i64 1]))))))))))))))) := by kernel_rfl
theorem RQ (F : Tab) (b0 : Bool) (a0 : Int) (l0 l1 : List AV) (b1 b2 b3 : Bool) (a1 a2 : Int) (l2 l3 : List AV) (b4 b5 b6 : Bool) (a3 a4 : Int) (l4 l5 : List AV) (b7 b8 : Bool) (a5 a6 a7 a8 a9 a10 : Int) (b9 : Bool) : aS (cx F) 6 59 [.agg 111 [.bool b0, .agg 104 [.int .u32 a0, .agg 102 l0, .agg 103 l1, .bool b1, .bool b2, .bool b3, .int .i64 a1], .agg 104 [.int .u32 a2, .agg 102 l2, .agg 103 l3, .bool b4, .bool b5, .bool b6, .int .i64 a3], .int .u32 a4, .slice 42 l4 false, .slice 116 l5 false, .bool b7, .agg 109 [.bool b8, .int .i64 a5, .int .u32 a6], .int .i64 a7, .int .u32 a8, .int .i64 a9], .int .u32 a10, .bool b9] =
 (let x0 : Int := intOf ((partsOf ((dY (aB F 118 [.int .u32 a4])).getD 0 .dead)).getD 1 .dead);
  let x1 : List AV := partsOf (aB F 119 [.agg 104 [.int .u32 a2, .agg 102 l2, .agg 103 l3, .bool b4, .bool b5, .bool b6, .int .i64 a3], .agg 192 [.int .i64 2, .int .u32 a4, .int .u32 a2]]);
  cond (!b7)
   (some (.agg 111 [.bool b0, .agg 104 [.int .u32 a0, .agg 102 l0, .agg 103 l1, .bool b1, .bool b2, .bool b3, .int .i64 a1], .agg 104 [.int .u32 a2, .agg 102 l2, .agg 103 l3, .bool b4, .bool b5, .bool b6, .int .i64 a3], .int .u32 a4, .slice 42 l4 false, .slice 116 l5 false, .bool b7, .agg 109 [.bool b8, .int .i64 a5, .int .u32 a6], .int .i64 a7, .int .u32 a8, .int .i64 a9]))
   (cond (aC Pg F 118 [.int .u32 a4])
    (cond (!b9)
     (cond (aC Pg F 119 [.agg 104 [.int .u32 a2, .agg 102 l2, .agg 103 l3, .bool b4, .bool b5, .bool b6, .int .i64 a3], .agg 192 [.int .i64 2, .int .u32 a4, .int .u32 a2]])
      (some (.agg 111 [.bool b0, .agg 104 [.int .u32 (intOf (x1.getD 0 .dead)), .agg 102 (partsOf (x1.getD 1 .dead)), .agg 103 (partsOf (x1.getD 2 .dead)), .bool (aj (x1.getD 3 .dead)), .bool (aj (x1.getD 4 .dead)), .bool (aj (x1.getD 5 .dead)), .int .i64 (intOf (x1.getD 6 .dead))], .agg 104 [.int .u32 a2, .agg 102 l2, .agg 103 l3, .bool b4, .bool b5, .bool b6, .int .i64 a3], .int .u32 a4, .slice 42 l4 false, .slice 116 l5 false, .bool false, .agg 109 [.bool false, .int .i64 0, .int .u32 0], .int .i64 a7, .int .u32 a8, .int .i64 2]))
      (none))
     (cond (cond b8 (x0 != 0) false)
      (cond (aH x0 16)
       (some (.agg 111 [.bool b0, .agg 104 [.int .u32 a0, .agg 102 (l0.set x0.toNat (.int .u32 a10)), .agg 103 l1, .bool b1, .bool b2, .bool b3, .int .i64 a1], .agg 104 [.int .u32 a2, .agg 102 l2, .agg 103 l3, .bool b4, .bool b5, .bool b6, .int .i64 a3], .int .u32 a4, .slice 42 l4 false, .slice 116 l5 false, .bool false, .agg 109 [.bool false, .int .i64 0, .int .u32 0], .int .i64 a7, .int .u32 a8, .int .i64 a9]))
       (none))
      (some (.agg 111 [.bool b0, .agg 104 [.int .u32 a0, .agg 102 l0, .agg 103 l1, .bool b1, .bool b2, .bool b3, .int .i64 a1], .agg 104 [.int .u32 a2, .agg 102 l2, .agg 103 l3, .bool b4, .bool b5, .bool b6, .int .i64 a3], .int .u32 a4, .slice 42 l4 false, .slice 116 l5 false, .bool false, .agg 109 [.bool false, .int .i64 0, .int .u32 0], .int .i64 a7, .int .u32 a8, .int .i64 a9]))))
    (none))) := by kernel_rfl
theorem PZ (F : Tab) (a0 : Int) (l0 l1 : List AV) (b0 b1 b2 : Bool) (a1 a2 : Int) : aS (cx F) 6 60 [.agg 104 [.int .u32 a0, .agg 102 l0, .agg 103 l1, .bool b0, .bool b1, .bool b2, .int .i64 a1], .int .u32 a2] =
 cond (cO (!b2) (cO (!b1) true (cond (aC Pg F 120 [.int .u32 a2]) true false)) true)
  (some (.bool (cond (!b2) (cond (!b1) true ((intOf (aB F 120 [.int .u32 a2])) != 0)) false)))
  (none) := by kernel_rfl
theorem Vf (F : Tab) (l0 : List AV) (a0 : Int) : aS (cx F) 6 65 [.agg 23 [.slice 118 l0 false], .int .u32 a0] =
 cond ((a0.tmod 128) == 0)
  (some (.bool (decide ((IntKind.i64.wrap a0) < (IntKind.i64.wrap (((l0.length : Nat) : Int) * 128))))))
  (some (.bool false)) := by kernel_rfl
theorem Te (F : Tab) (l0 : List AV) (a0 : Int) : aS (cx F) 6 66 [.agg 23 [.slice 118 l0 false], .int .u32 a0] =
 cond (aC Pg F 23 [.agg 23 [.slice 118 l0 false], .int .i64 (IntKind.i64.wrap a0), .int .i64 4])
  (some (.int .u32 (intOf ((dY (aB F 23 [.agg 23 [.slice 118 l0 false], .int .i64 (IntKind.i64.wrap a0), .int .i64 4])).getD 0 .dead))))
  (none) := by kernel_rfl
theorem vE (F : Tab) (a0 a1 : Int) : aS (cx F) 6 67 [.int .u32 a0, .int .u32 a1] =
 some (.bool ((aD .and .u32 a0 a1) == a1)) := by kernel_rfl
theorem ZQ (F : Tab) (a0 : Int) (l0 : List AV) : aS (cx F) 6 68 [.int .u32 a0, .agg 23 [.slice 118 l0 false]] =
 (let x0 : Int := intOf (aB F 69 [.int .u32 a0]);
  cond (aC Pg F 67 [.int .u32 a0, .int .u32 64])
   (cond (aj (aB F 67 [.int .u32 a0, .int .u32 64]))
    (cond (aC Pg F 69 [.int .u32 a0])
     (some (.bool ((x0.tmod 4096) == 0)))
     (none))
    (cond (cO ((aD .and .u32 a0 62) == 0) (cond (aC Pg F 69 [.int .u32 a0]) (cond (aC Pg F 65 [.agg 23 [.slice 118 l0 false], .int .u32 x0]) true false) false) true)
     (some (.bool (cond ((aD .and .u32 a0 62) == 0) (aj (aB F 65 [.agg 23 [.slice 118 l0 false], .int .u32 x0])) false)))
     (none)))
   (none)) := by kernel_rfl
theorem Rf (F : Tab) (a0 : Int) : aS (cx F) 6 69 [.int .u32 a0] =
 some (.int .u32 (aD .andNot .u32 a0 127)) := by kernel_rfl
theorem RB (F : Tab) (l0 : List AV) : aS (cx F) 6 71 [.agg 23 [.slice 118 l0 false]] =
 some (.int .i64 (IntKind.i64.wrap (((l0.length : Nat) : Int) * 128))) := by kernel_rfl
theorem QZ (F : Tab) (l0 : List AV) (a0 : Int) : aS (cx F) 6 72 [.agg 23 [.slice 118 l0 false], .int .i64 a0] =
 cond (cO (decide ((0 : Int) <= a0)) (cO ((a0.tmod 128) == 0) (cond (aC Pg F 71 [.agg 23 [.slice 118 l0 false]]) true false) true) true)
  (some (.bool (cond (decide ((0 : Int) <= a0)) (cond ((a0.tmod 128) == 0) (decide (a0 < (intOf (aB F 71 [.agg 23 [.slice 118 l0 false]])))) false) false)))
  (none) := by kernel_rfl
theorem YJ (F : Tab) (a0 a1 : Int) : aS (cx F) 6 74 [.int .i64 a0, .int .i64 a1] =
 cond (!(a1 == 0))
  (some (.bool (((IntKind.i64.wrap (a0.tdiv a1)).tmod 2) == 1)))
  (none) := by kernel_rfl
theorem Ws (F : Tab) (l0 : List AV) (a0 a1 : Int) : aS (cx F) 6 84 [.agg 23 [.slice 118 l0 false], .int .i64 a0, .int .i64 a1] =
 (let x0 : Int := IntKind.i64.wrap (a0 + (IntKind.i64.wrap (4 * (IntKind.i64.wrap (a1.tdiv 4096)))));
  let x1 : Int := intOf (aB F 88 [.agg 23 [.slice 118 l0 false], .int .i64 x0]);
  let x2 : Bool := aj (aB F 74 [.int .i64 x1, .int .i64 1]);
  let x3 : Bool := aj (aB F 74 [.int .i64 x1, .int .i64 64]);
  let x4 : Bool := aC Pg F 90 [.int .i64 x1];
  let x5 : Int := intOf (aB F 90 [.int .i64 x1]);
  let x6 : Bool := ((IntKind.i64.wrap (x1.tdiv 2)).tmod 32) == 0;
  cond (aC Pg F 88 [.agg 23 [.slice 118 l0 false], .int .i64 x0])
   (cond (aC Pg F 74 [.int .i64 x1, .int .i64 1])
    (cond (aC Pg F 74 [.int .i64 x1, .int .i64 64])
     (cond x3
      (cond x4
       (some (.agg 165 [.int .i64 x0, .int .i64 x1, .bool x2, .bool ((x5.tmod 4096) == 0), .bool x3]))
       (none))
      (cond (cO x6 (cond x4 (cond (aC Pg F 72 [.agg 23 [.slice 118 l0 false], .int .i64 x5]) true false) false) true)
       (some (.agg 165 [.int .i64 x0, .int .i64 x1, .bool x2, .bool (cond x6 (aj (aB F 72 [.agg 23 [.slice 118 l0 false], .int .i64 x5])) false), .bool x3]))
       (none)))
     (none))
    (none))
   (none)) := by kernel_rfl
theorem Tz (F : Tab) (a0 a1 : Int) (b0 b1 b2 : Bool) (a2 : Int) : aS (cx F) 6 85 [.agg 165 [.int .i64 a0, .int .i64 a1, .bool b0, .bool b1, .bool b2], .int .i64 a2] =
 cond (aC Pg F 90 [.int .i64 a1])
  (some (.int .i64 (IntKind.i64.wrap ((intOf (aB F 90 [.int .i64 a1])) + (IntKind.i64.wrap (4 * ((IntKind.i64.wrap (a2.tdiv 128)).tmod 32)))))))
  (none) := by kernel_rfl
theorem Tw (F : Tab) (l0 : List AV) (a0 : Int) : aS (cx F) 6 88 [.agg 23 [.slice 118 l0 false], .int .i64 a0] =
 cond (aC Pg F 123 [.agg 23 [.slice 118 l0 false], .int .i64 a0, .int .i64 4])
  (some (.int .i64 (IntKind.i64.wrap (intOf ((partsOf (aB F 123 [.agg 23 [.slice 118 l0 false], .int .i64 a0, .int .i64 4])).getD 0 .dead)))))
  (none) := by kernel_rfl
theorem Ud (F : Tab) (a0 : Int) : aS (cx F) 6 90 [.int .i64 a0] =
 some (.int .i64 (IntKind.i64.wrap ((IntKind.i64.wrap (a0.tdiv 128)) * 128))) := by kernel_rfl
theorem ZW (F : Tab) (l0 : List AV) (a0 a1 a2 : Int) : aS (cx F) 6 93 [.agg 23 [.slice 118 l0 false], .agg 41 [.int .i64 a0, .int .i64 a1, .int .u32 a2]] =
 (let x0 : List AV := dY (aB F 24 [.agg 23 [.slice 118 l0 false], .slice 42 [.agg 41 [.int .i64 a0, .int .i64 a1, .int .u32 a2]] false]);
  cond (aC Pg F 24 [.agg 23 [.slice 118 l0 false], .slice 42 [.agg 41 [.int .i64 a0, .int .i64 a1, .int .u32 a2]] false])
   (some (.tuple [.agg 23 [.slice 118 (ak ((partsOf (x0.getD 0 .dead)).getD 0 .dead)) false], .bool (aj (x0.getD 1 .dead))]))
   (none)) := by kernel_rfl
theorem TI (F : Tab) (a0 : Int) (l0 l1 : List AV) (b0 b1 b2 : Bool) (a1 : Int) : aS (cx F) 6 108 [.agg 104 [.int .u32 a0, .agg 102 l0, .agg 103 l1, .bool b0, .bool b1, .bool b2, .int .i64 a1]] =
 some (.bool (cond ((intOf (l0.getD 0 .dead)) == 0) (cond (decide ((intOf (l1.getD 5 .dead)) <= 7)) (cond ((intOf (l1.getD 7 .dead)) == 0) (cond (decide ((intOf (l1.getD 8 .dead)) <= 3)) (cond (decide ((0 : Int) <= a1)) (cond (decide (a1 <= 1099511627776)) (cond (!b1) true (!b2)) false) false) false) false) false) false)) := by kernel_rfl
end Go.Proofs.Ytcknhfnbdgleiaa
