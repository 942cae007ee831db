/- What the functions return, in terms of what they call. (Printed by a program of mine, gen.py.) -/
import Derived.Test.YtcknhfnbdgleiaaCoC
set_option linter.unusedVariables false
set_option linter.unusedSimpArgs false
set_option maxRecDepth 100000
namespace Go.Proofs.Ytcknhfnbdgleiaa
open Go.AE
theorem TW (F : Tab) (l0 : List AV) : aY (cx F) 6 16 [.agg 23 [.slice 118 l0 false]] =
 some (.bool (cond (decide ((1 : Int) <= ((l0.length : Nat) : Int))) (decide (((l0.length : Nat) : Int) <= 64)) false)) := by kernel_rfl
theorem Ui (F : Tab) (l0 : List AV) (a0 a1 a2 : Int) (b0 : Bool) : aY (cx F) 6 19 [.agg 23 [.slice 118 l0 false], .int .u32 a0, .int .u32 a1, .int .i64 a2, .bool b0] =
 (let x0 : Int := aj (([.int .i64 0, .int .i64 5, .int .i64 6, .int .i64 6, .int .i64 4] : List AV).getD a2.toNat .dead);
  let x1 : Int := IntKind.u32.wrap (a0 + (IntKind.u32.wrap (4 * (a1.fdiv 4096))));
  let x2 : Int := aj (aG F 66 [.agg 23 [.slice 118 l0 false], .int .u32 x1]);
  let x3 : Int := IntKind.i64.wrap x1;
  let x4 : Bool := aH Pg F 69 [.int .u32 x2];
  let x5 : Int := aj (aG F 69 [.int .u32 x2]);
  let x6 : Int := IntKind.u32.wrap (x5 + (IntKind.u32.wrap (((a1.fdiv 128).tmod 32) * 128)));
  let x7 : Int := IntKind.u32.wrap (x5 + (IntKind.u32.wrap (((a1.fdiv 128).tmod 32) * 4)));
  let x8 : Int := aj (aG F 66 [.agg 23 [.slice 118 l0 false], .int .u32 x7]);
  let x9 : Int := IntKind.i64.wrap x7;
  let x10 : Int := aj (aG F 69 [.int .u32 x8]);
  let x11 : Int := IntKind.i64.wrap (IntKind.u32.wrap (x10 + (a1.tmod 128)));
  let x12 : Int := aJ .or .u32 x8 16;
  let x13 : Int := cond (cond (a2 == 2) true (a2 == 3)) (aJ .or .u32 x12 32) x12;
  let x14 : Bool := x13 != x8;
  let x15 : Bool := aH Pg F 67 [.int .u32 x8, .int .u32 4];
  let x16 : Bool := !(ak (aG F 67 [.int .u32 x8, .int .u32 4]));
  let x17 : Bool := aH Pg F 67 [.int .u32 x8, .int .u32 8];
  let x18 : Bool := !(ak (aG F 67 [.int .u32 x8, .int .u32 8]));
  let x19 : Int := IntKind.i64.wrap (IntKind.u32.wrap (x6 + (a1.tmod 128)));
  let x20 : Int := aJ .or .u32 x2 16;
  let x21 : Int := cond (cond (a2 == 2) true (a2 == 3)) (aJ .or .u32 x20 32) x20;
  let x22 : Bool := x21 != x2;
  let x23 : Bool := aH Pg F 67 [.int .u32 x2, .int .u32 4];
  let x24 : Bool := !(ak (aG F 67 [.int .u32 x2, .int .u32 4]));
  let x25 : Bool := aH Pg F 67 [.int .u32 x2, .int .u32 8];
  let x26 : Bool := !(ak (aG F 67 [.int .u32 x2, .int .u32 8]));
  cond (a0 == 0)
   (cond (!(decide ((IntKind.i64.wrap a1) < (IntKind.i64.wrap (((l0.length : Nat) : Int) * 128)))))
    (cond (aL a2 5)
     (some (.tuple [.agg 31 [.int .i64 0, .int .i64 0, .slice 42 [] false, .slice 3 [] false], .int .i64 x0]))
     (none))
    (some (.tuple [.agg 31 [.int .i64 (IntKind.i64.wrap a1), .int .i64 (-1), .slice 42 [] false, .slice 3 [] false], .int .i64 0])))
   (cond (decide (a1 < 131072))
    (cond (aH Pg F 65 [.agg 23 [.slice 118 l0 false], .int .u32 a0])
     (cond (!(ak (aG F 65 [.agg 23 [.slice 118 l0 false], .int .u32 a0])))
      (cond (aL a2 5)
       (some (.tuple [.agg 31 [.int .i64 0, .int .i64 0, .slice 42 [] false, .slice 3 [] false], .int .i64 x0]))
       (none))
      (cond (aH Pg F 66 [.agg 23 [.slice 118 l0 false], .int .u32 x1])
       (cond (aH Pg F 67 [.int .u32 x2, .int .u32 1])
        (cond (ak (aG F 67 [.int .u32 x2, .int .u32 1]))
         (cond (aH Pg F 68 [.int .u32 x2, .agg 23 [.slice 118 l0 false]])
          (cond (!(ak (aG F 68 [.int .u32 x2, .agg 23 [.slice 118 l0 false]])))
           (cond (aL a2 5)
            (some (.tuple [.agg 31 [.int .i64 0, .int .i64 0, .slice 42 [] false, .slice 3 [.int .i64 x3] false], .int .i64 x0]))
            (none))
           (cond x4
            (cond (aH Pg F 67 [.int .u32 x2, .int .u32 64])
             (cond (!(ak (aG F 67 [.int .u32 x2, .int .u32 64])))
              (cond x4
               (cond (aH Pg F 66 [.agg 23 [.slice 118 l0 false], .int .u32 x7])
                (cond (aH Pg F 67 [.int .u32 x8, .int .u32 1])
                 (cond (ak (aG F 67 [.int .u32 x8, .int .u32 1]))
                  (cond (aH Pg F 67 [.int .u32 x8, .int .u32 64])
                   (cond (!(!(ak (aG F 67 [.int .u32 x8, .int .u32 64]))))
                    (cond (aL a2 5)
                     (some (.tuple [.agg 31 [.int .i64 0, .int .i64 0, .slice 42 [] false, .slice 3 [.int .i64 x3, .int .i64 x9] false], .int .i64 x0]))
                     (none))
                    (cond (aH Pg F 69 [.int .u32 x8])
                     (cond (aH Pg F 65 [.agg 23 [.slice 118 l0 false], .int .u32 x10])
                      (cond (!(ak (aG F 65 [.agg 23 [.slice 118 l0 false], .int .u32 x10])))
                       (cond (aL a2 5)
                        (some (.tuple [.agg 31 [.int .i64 0, .int .i64 0, .slice 42 [] false, .slice 3 [.int .i64 x3, .int .i64 x9] false], .int .i64 x0]))
                        (none))
                       (cond (!(cond (a2 == 2) true (a2 == 3)))
                        (cond (a2 != 4)
                         (cond (!b0)
                          (cond x14
                           (some (.tuple [.agg 31 [.int .i64 x11, .int .i64 x9, .slice 42 [.agg 41 [.int .i64 x9, .int .i64 4, .int .u32 x13]] false, .slice 3 [.int .i64 x3, .int .i64 x9] false], .int .i64 0]))
                           (some (.tuple [.agg 31 [.int .i64 x11, .int .i64 x9, .slice 42 [] false, .slice 3 [.int .i64 x3, .int .i64 x9] false], .int .i64 0])))
                          (cond x15
                           (cond x16
                            (cond (aL a2 5)
                             (some (.tuple [.agg 31 [.int .i64 0, .int .i64 0, .slice 42 [] false, .slice 3 [.int .i64 x3, .int .i64 x9] false], .int .i64 x0]))
                             (none))
                            (cond x14
                             (some (.tuple [.agg 31 [.int .i64 x11, .int .i64 x9, .slice 42 [.agg 41 [.int .i64 x9, .int .i64 4, .int .u32 x13]] false, .slice 3 [.int .i64 x3, .int .i64 x9] false], .int .i64 0]))
                             (some (.tuple [.agg 31 [.int .i64 x11, .int .i64 x9, .slice 42 [] false, .slice 3 [.int .i64 x3, .int .i64 x9] false], .int .i64 0]))))
                           (none)))
                         (cond x17
                          (cond x18
                           (cond (aL a2 5)
                            (some (.tuple [.agg 31 [.int .i64 0, .int .i64 0, .slice 42 [] false, .slice 3 [.int .i64 x3, .int .i64 x9] false], .int .i64 x0]))
                            (none))
                           (cond (!b0)
                            (cond x14
                             (some (.tuple [.agg 31 [.int .i64 x11, .int .i64 x9, .slice 42 [.agg 41 [.int .i64 x9, .int .i64 4, .int .u32 x13]] false, .slice 3 [.int .i64 x3, .int .i64 x9] false], .int .i64 0]))
                             (some (.tuple [.agg 31 [.int .i64 x11, .int .i64 x9, .slice 42 [] false, .slice 3 [.int .i64 x3, .int .i64 x9] false], .int .i64 0])))
                            (cond x15
                             (cond x16
                              (cond (aL a2 5)
                               (some (.tuple [.agg 31 [.int .i64 0, .int .i64 0, .slice 42 [] false, .slice 3 [.int .i64 x3, .int .i64 x9] false], .int .i64 x0]))
                               (none))
                              (cond x14
                               (some (.tuple [.agg 31 [.int .i64 x11, .int .i64 x9, .slice 42 [.agg 41 [.int .i64 x9, .int .i64 4, .int .u32 x13]] false, .slice 3 [.int .i64 x3, .int .i64 x9] false], .int .i64 0]))
                               (some (.tuple [.agg 31 [.int .i64 x11, .int .i64 x9, .slice 42 [] false, .slice 3 [.int .i64 x3, .int .i64 x9] false], .int .i64 0]))))
                             (none))))
                          (none)))
                        (cond (aH Pg F 67 [.int .u32 x8, .int .u32 2])
                         (cond (!(ak (aG F 67 [.int .u32 x8, .int .u32 2])))
                          (cond (aL a2 5)
                           (some (.tuple [.agg 31 [.int .i64 0, .int .i64 0, .slice 42 [] false, .slice 3 [.int .i64 x3, .int .i64 x9] false], .int .i64 x0]))
                           (none))
                          (cond (a2 != 4)
                           (cond (!b0)
                            (cond x14
                             (some (.tuple [.agg 31 [.int .i64 x11, .int .i64 x9, .slice 42 [.agg 41 [.int .i64 x9, .int .i64 4, .int .u32 x13]] false, .slice 3 [.int .i64 x3, .int .i64 x9] false], .int .i64 0]))
                             (some (.tuple [.agg 31 [.int .i64 x11, .int .i64 x9, .slice 42 [] false, .slice 3 [.int .i64 x3, .int .i64 x9] false], .int .i64 0])))
                            (cond x15
                             (cond x16
                              (cond (aL a2 5)
                               (some (.tuple [.agg 31 [.int .i64 0, .int .i64 0, .slice 42 [] false, .slice 3 [.int .i64 x3, .int .i64 x9] false], .int .i64 x0]))
                               (none))
                              (cond x14
                               (some (.tuple [.agg 31 [.int .i64 x11, .int .i64 x9, .slice 42 [.agg 41 [.int .i64 x9, .int .i64 4, .int .u32 x13]] false, .slice 3 [.int .i64 x3, .int .i64 x9] false], .int .i64 0]))
                               (some (.tuple [.agg 31 [.int .i64 x11, .int .i64 x9, .slice 42 [] false, .slice 3 [.int .i64 x3, .int .i64 x9] false], .int .i64 0]))))
                             (none)))
                           (cond x17
                            (cond x18
                             (cond (aL a2 5)
                              (some (.tuple [.agg 31 [.int .i64 0, .int .i64 0, .slice 42 [] false, .slice 3 [.int .i64 x3, .int .i64 x9] false], .int .i64 x0]))
                              (none))
                             (cond (!b0)
                              (cond x14
                               (some (.tuple [.agg 31 [.int .i64 x11, .int .i64 x9, .slice 42 [.agg 41 [.int .i64 x9, .int .i64 4, .int .u32 x13]] false, .slice 3 [.int .i64 x3, .int .i64 x9] false], .int .i64 0]))
                               (some (.tuple [.agg 31 [.int .i64 x11, .int .i64 x9, .slice 42 [] false, .slice 3 [.int .i64 x3, .int .i64 x9] false], .int .i64 0])))
                              (cond x15
                               (cond x16
                                (cond (aL a2 5)
                                 (some (.tuple [.agg 31 [.int .i64 0, .int .i64 0, .slice 42 [] false, .slice 3 [.int .i64 x3, .int .i64 x9] false], .int .i64 x0]))
                                 (none))
                                (cond x14
                                 (some (.tuple [.agg 31 [.int .i64 x11, .int .i64 x9, .slice 42 [.agg 41 [.int .i64 x9, .int .i64 4, .int .u32 x13]] false, .slice 3 [.int .i64 x3, .int .i64 x9] false], .int .i64 0]))
                                 (some (.tuple [.agg 31 [.int .i64 x11, .int .i64 x9, .slice 42 [] false, .slice 3 [.int .i64 x3, .int .i64 x9] false], .int .i64 0]))))
                               (none))))
                            (none))))
                         (none))))
                      (none))
                     (none)))
                   (none))
                  (cond (aL a2 5)
                   (some (.tuple [.agg 31 [.int .i64 0, .int .i64 0, .slice 42 [] false, .slice 3 [.int .i64 x3, .int .i64 x9] false], .int .i64 x0]))
                   (none)))
                 (none))
                (none))
               (none))
              (cond (aH Pg F 65 [.agg 23 [.slice 118 l0 false], .int .u32 x6])
               (cond (!(ak (aG F 65 [.agg 23 [.slice 118 l0 false], .int .u32 x6])))
                (cond (aL a2 5)
                 (some (.tuple [.agg 31 [.int .i64 0, .int .i64 0, .slice 42 [] false, .slice 3 [.int .i64 x3] false], .int .i64 x0]))
                 (none))
                (cond (!(cond (a2 == 2) true (a2 == 3)))
                 (cond (a2 != 4)
                  (cond (!b0)
                   (cond x22
                    (some (.tuple [.agg 31 [.int .i64 x19, .int .i64 x3, .slice 42 [.agg 41 [.int .i64 x3, .int .i64 4, .int .u32 x21]] false, .slice 3 [.int .i64 x3] false], .int .i64 0]))
                    (some (.tuple [.agg 31 [.int .i64 x19, .int .i64 x3, .slice 42 [] false, .slice 3 [.int .i64 x3] false], .int .i64 0])))
                   (cond x23
                    (cond x24
                     (cond (aL a2 5)
                      (some (.tuple [.agg 31 [.int .i64 0, .int .i64 0, .slice 42 [] false, .slice 3 [.int .i64 x3] false], .int .i64 x0]))
                      (none))
                     (cond x22
                      (some (.tuple [.agg 31 [.int .i64 x19, .int .i64 x3, .slice 42 [.agg 41 [.int .i64 x3, .int .i64 4, .int .u32 x21]] false, .slice 3 [.int .i64 x3] false], .int .i64 0]))
                      (some (.tuple [.agg 31 [.int .i64 x19, .int .i64 x3, .slice 42 [] false, .slice 3 [.int .i64 x3] false], .int .i64 0]))))
                    (none)))
                  (cond x25
                   (cond x26
                    (cond (aL a2 5)
                     (some (.tuple [.agg 31 [.int .i64 0, .int .i64 0, .slice 42 [] false, .slice 3 [.int .i64 x3] false], .int .i64 x0]))
                     (none))
                    (cond (!b0)
                     (cond x22
                      (some (.tuple [.agg 31 [.int .i64 x19, .int .i64 x3, .slice 42 [.agg 41 [.int .i64 x3, .int .i64 4, .int .u32 x21]] false, .slice 3 [.int .i64 x3] false], .int .i64 0]))
                      (some (.tuple [.agg 31 [.int .i64 x19, .int .i64 x3, .slice 42 [] false, .slice 3 [.int .i64 x3] false], .int .i64 0])))
                     (cond x23
                      (cond x24
                       (cond (aL a2 5)
                        (some (.tuple [.agg 31 [.int .i64 0, .int .i64 0, .slice 42 [] false, .slice 3 [.int .i64 x3] false], .int .i64 x0]))
                        (none))
                       (cond x22
                        (some (.tuple [.agg 31 [.int .i64 x19, .int .i64 x3, .slice 42 [.agg 41 [.int .i64 x3, .int .i64 4, .int .u32 x21]] false, .slice 3 [.int .i64 x3] false], .int .i64 0]))
                        (some (.tuple [.agg 31 [.int .i64 x19, .int .i64 x3, .slice 42 [] false, .slice 3 [.int .i64 x3] false], .int .i64 0]))))
                      (none))))
                   (none)))
                 (cond (aH Pg F 67 [.int .u32 x2, .int .u32 2])
                  (cond (!(ak (aG F 67 [.int .u32 x2, .int .u32 2])))
                   (cond (aL a2 5)
                    (some (.tuple [.agg 31 [.int .i64 0, .int .i64 0, .slice 42 [] false, .slice 3 [.int .i64 x3] false], .int .i64 x0]))
                    (none))
                   (cond (a2 != 4)
                    (cond (!b0)
                     (cond x22
                      (some (.tuple [.agg 31 [.int .i64 x19, .int .i64 x3, .slice 42 [.agg 41 [.int .i64 x3, .int .i64 4, .int .u32 x21]] false, .slice 3 [.int .i64 x3] false], .int .i64 0]))
                      (some (.tuple [.agg 31 [.int .i64 x19, .int .i64 x3, .slice 42 [] false, .slice 3 [.int .i64 x3] false], .int .i64 0])))
                     (cond x23
                      (cond x24
                       (cond (aL a2 5)
                        (some (.tuple [.agg 31 [.int .i64 0, .int .i64 0, .slice 42 [] false, .slice 3 [.int .i64 x3] false], .int .i64 x0]))
                        (none))
                       (cond x22
                        (some (.tuple [.agg 31 [.int .i64 x19, .int .i64 x3, .slice 42 [.agg 41 [.int .i64 x3, .int .i64 4, .int .u32 x21]] false, .slice 3 [.int .i64 x3] false], .int .i64 0]))
                        (some (.tuple [.agg 31 [.int .i64 x19, .int .i64 x3, .slice 42 [] false, .slice 3 [.int .i64 x3] false], .int .i64 0]))))
                      (none)))
                    (cond x25
                     (cond x26
                      (cond (aL a2 5)
                       (some (.tuple [.agg 31 [.int .i64 0, .int .i64 0, .slice 42 [] false, .slice 3 [.int .i64 x3] false], .int .i64 x0]))
                       (none))
                      (cond (!b0)
                       (cond x22
                        (some (.tuple [.agg 31 [.int .i64 x19, .int .i64 x3, .slice 42 [.agg 41 [.int .i64 x3, .int .i64 4, .int .u32 x21]] false, .slice 3 [.int .i64 x3] false], .int .i64 0]))
                        (some (.tuple [.agg 31 [.int .i64 x19, .int .i64 x3, .slice 42 [] false, .slice 3 [.int .i64 x3] false], .int .i64 0])))
                       (cond x23
                        (cond x24
                         (cond (aL a2 5)
                          (some (.tuple [.agg 31 [.int .i64 0, .int .i64 0, .slice 42 [] false, .slice 3 [.int .i64 x3] false], .int .i64 x0]))
                          (none))
                         (cond x22
                          (some (.tuple [.agg 31 [.int .i64 x19, .int .i64 x3, .slice 42 [.agg 41 [.int .i64 x3, .int .i64 4, .int .u32 x21]] false, .slice 3 [.int .i64 x3] false], .int .i64 0]))
                          (some (.tuple [.agg 31 [.int .i64 x19, .int .i64 x3, .slice 42 [] false, .slice 3 [.int .i64 x3] false], .int .i64 0]))))
                        (none))))
                     (none))))
                  (none))))
               (none)))
             (none))
            (none)))
          (none))
         (cond (aL a2 5)
          (some (.tuple [.agg 31 [.int .i64 0, .int .i64 0, .slice 42 [] false, .slice 3 [.int .i64 x3] false], .int .i64 x0]))
          (none)))
        (none))
       (none)))
     (none))
    (cond (aL a2 5)
     (some (.tuple [.agg 31 [.int .i64 0, .int .i64 0, .slice 42 [] false, .slice 3 [] false], .int .i64 x0]))
     (none)))) := by kernel_rfl
theorem VN (F : Tab) (l0 : List AV) (a0 a1 : Int) : aY (cx F) 6 23 [.agg 23 [.slice 118 l0 false], .int .i64 a0, .int .i64 a1] =
 (let x0 : Bool := !(decide (a0 <= (IntKind.i64.wrap ((IntKind.i64.wrap (((l0.length : Nat) : Int) * 128)) - a1))));
  let x1 : Bool := (decide ((0 : Int) <= (a0.tmod 128))) && (decide ((a0.tmod 128) <= 128));
  let x2 : List AV := sub (au (l0.getD ((IntKind.i64.wrap (a0.tdiv 128)).toNat) .dead)) ((a0.tmod 128).toNat) 128;
  let x3 : Nat := x2.length;
  let x4 : Bool := aL 0 x3;
  let x5 : Int := IntKind.u32.wrap (aj (x2.getD 0 .dead));
  let x6 : Int := aJ .or .u32 (aJ .or .u32 (aJ .or .u32 x5 (IntKind.u32.wrap ((IntKind.u32.wrap (aj (x2.getD 1 .dead))) * 256))) (IntKind.u32.wrap ((IntKind.u32.wrap (aj (x2.getD 2 .dead))) * 65536))) (IntKind.u32.wrap ((IntKind.u32.wrap (aj (x2.getD 3 .dead))) * 16777216));
  let x7 : Bool := cond x4 (cond (aL 1 x3) (cond (aL 2 x3) (cond (aL 3 x3) true false) false) false) false;
  cond (a1 == 1)
   (cond (decide ((0 : Int) <= a0))
    (cond (!(a1 == 0))
     (cond ((a0.tmod a1) == 0)
      (cond x0
       (some (.tuple [.int .u32 0, .bool false]))
       (cond (aL (IntKind.i64.wrap (a0.tdiv 128)) l0.length)
        (cond x1
         (cond (a1 == 1)
          (cond x4
           (some (.tuple [.int .u32 x5, .bool true]))
           (none))
          (cond x7
           (some (.tuple [.int .u32 x6, .bool true]))
           (none)))
         (none))
        (none)))
      (some (.tuple [.int .u32 0, .bool false])))
     (none))
    (some (.tuple [.int .u32 0, .bool false])))
   (cond (a1 == 4)
    (cond (decide ((0 : Int) <= a0))
     (cond (!(a1 == 0))
      (cond ((a0.tmod a1) == 0)
       (cond x0
        (some (.tuple [.int .u32 0, .bool false]))
        (cond (aL (IntKind.i64.wrap (a0.tdiv 128)) l0.length)
         (cond x1
          (cond (a1 == 1)
           (cond x4
            (some (.tuple [.int .u32 x5, .bool true]))
            (none))
           (cond x7
            (some (.tuple [.int .u32 x6, .bool true]))
            (none)))
          (none))
         (none)))
       (some (.tuple [.int .u32 0, .bool false])))
      (none))
     (some (.tuple [.int .u32 0, .bool false])))
    (some (.tuple [.int .u32 0, .bool false])))) := by kernel_rfl
theorem OU (F : Tab) (l0 l1 : List AV) : aY (cx F) 6 24 [.agg 23 [.slice 118 l0 false], .slice 42 l1 false] =
 cond (decide ((0 : Nat) < l0.length))
  (cond (decide (((0 + l0.length) * 128) <= 140737488355328))
   (cond (decide ((0 : Nat) < l0.length))
    (cond ((vo F l0.length l1 ((l1.length : Nat) : Int) l0 l0.length 100000 0 l0).k == 1)
     (some (.tuple [.agg 23 [.slice 118 l0 false], .bool false]))
     (cond ((vo F l0.length l1 ((l1.length : Nat) : Int) l0 l0.length 100000 0 l0).k == 2)
      (some (.tuple [.agg 23 [.slice 118 (sub ((vo F l0.length l1 ((l1.length : Nat) : Int) l0 l0.length 100000 0 l0).l.getD 0 []) 0 (0 + l0.length)) false], .bool true]))
      (none)))
    (none))
   (none))
  (none) := by kernel_rfl
theorem Qg (F : Tab) (a0 : Int) (l0 l1 : List AV) (b0 b1 b2 : Bool) (a1 : Int) (l2 : List AV) : aY (cx F) 6 51 [.agg 104 [.int .u32 a0, .agg 102 l0, .agg 103 l1, .bool b0, .bool b1, .bool b2, .int .i64 a1], .agg 23 [.slice 118 l2 false]] =
 (let x0 : Bool := ak (aG F 108 [.agg 104 [.int .u32 a0, .agg 102 l0, .agg 103 l1, .bool b0, .bool b1, .bool b2, .int .i64 a1]]);
  cond (aH Pg F 108 [.agg 104 [.int .u32 a0, .agg 102 l0, .agg 103 l1, .bool b0, .bool b1, .bool b2, .int .i64 a1]])
   (cond (fV x0 (fV (decide (a1 < 1099511627776)) (cond (aH Pg F 16 [.agg 23 [.slice 118 l2 false]]) true false) true) true)
    (some (.bool (cond x0 (cond (decide (a1 < 1099511627776)) (ak (aG F 16 [.agg 23 [.slice 118 l2 false]])) false) false)))
    (none))
   (none)) := by kernel_rfl
theorem Zr (F : Tab)  : aY (cx F) 6 52 [] =
 (let x0 : List AV := au (aG F 109 [.int .i64 0, .int .u32 0]);
  let x1 : Int := aj (x0.getD 0 .dead);
  let x2 : Bool := ak (x0.getD 3 .dead);
  let x3 : Bool := ak (x0.getD 4 .dead);
  let x4 : Bool := ak (x0.getD 5 .dead);
  let x5 : Int := aj (x0.getD 6 .dead);
  let x6 : List AV := (au (x0.getD 2 .dead)).set 1 (.int .u32 64);
  let x7 : List AV := (au (x0.getD 1 .dead)).set 2 (.int .u32 7);
  let x8 : List AV := au (aG F 53 [.agg 104 [.int .u32 x1, .agg 102 x7, .agg 103 x6, .bool x2, .bool x3, .bool x4, .int .i64 x5], .agg 23 [.slice 118 (av ((au (aG F 110 [.agg 122 [.int .i64 16, .int .i64 1, .int .i64 0, .int .i64 0, .int .i64 5]])).getD 0 .dead)) false], .int .u32 0]);
  let x9 : List AV := au (x8.getD 1 .dead);
  let x10 : List AV := au (aG F 53 [.agg 104 [.int .u32 x1, .agg 102 x7, .agg 103 x6, .bool x2, .bool x3, .bool x4, .int .i64 x5], .agg 23 [.slice 118 (av ((au (aG F 110 [.agg 122 [.int .i64 21, .int .i64 2, .int .i64 0, .int .i64 0, .int .i64 8]])).getD 0 .dead)) false], .int .u32 0]);
  let x11 : List AV := av (x10.getD 4 .dead);
  let x12 : List AV := av (x10.getD 5 .dead);
  let x13 : List AV := au (aG F 53 [.agg 104 [.int .u32 x1, .agg 102 x7, .agg 103 x6, .bool x2, .bool x3, .bool x4, .int .i64 x5], .agg 23 [.slice 118 (av ((au (aG F 110 [.agg 122 [.int .i64 20, .int .i64 1, .int .i64 0, .int .i64 0, .int .i64 130]])).getD 0 .dead)) false], .int .u32 0]);
  let x14 : List AV := au (x13.getD 1 .dead);
  let x15 : List AV := au (aG F 53 [.agg 104 [.int .u32 x1, .agg 102 x7, .agg 103 x6, .bool x2, .bool x3, .bool x4, .int .i64 x5], .agg 23 [.slice 118 (av ((au (aG F 110 [.agg 122 [.int .i64 20, .int .i64 1, .int .i64 0, .int .i64 0, .int .i64 128]])).getD 0 .dead)) false], .int .u32 0]);
  let x16 : List AV := au (aG F 53 [.agg 104 [.int .u32 x1, .agg 102 x7, .agg 103 x6, .bool x2, .bool x3, .bool x4, .int .i64 x5], .agg 23 [.slice 118 [.agg 117 [.int .u8 0, .int .u8 0, .int .u8 0, .int .u8 0, .int .u8 0, .int .u8 0, .int .u8 0, .int .u8 0, .int .u8 0, .int .u8 0, .int .u8 0, .int .u8 0, .int .u8 0, .int .u8 0, .int .u8 0, .int .u8 0, .int .u8 0, .int .u8 0, .int .u8 0, .int .u8 0, .int .u8 0, .int .u8 0, .int .u8 0, .int .u8 0, .int .u8 0, .int .u8 0, .int .u8 0, .int .u8 0, .int .u8 0, .int .u8 0, .int .u8 0, .int .u8 0, .int .u8 0, .int .u8 0, .int .u8 0, .int .u8 0, .int .u8 0, .int .u8 0, .int .u8 0, .int .u8 0, .int .u8 0, .int .u8 0, .int .u8 0, .int .u8 0, .int .u8 0, .int .u8 0, .int .u8 0, .int .u8 0, .int .u8 0, .int .u8 0, .int .u8 0, .int .u8 0, .int .u8 0, .int .u8 0, .int .u8 0, .int .u8 0, .int .u8 0, .int .u8 0, .int .u8 0, .int .u8 0, .int .u8 0, .int .u8 0, .int .u8 0, .int .u8 0, .int .u8 0, .int .u8 0, .int .u8 0, .int .u8 0, .int .u8 0, .int .u8 0, .int .u8 0, .int .u8 0, .int .u8 0, .int .u8 0, .int .u8 0, .int .u8 0, .int .u8 0, .int .u8 0, .int .u8 0, .int .u8 0, .int .u8 0, .int .u8 0, .int .u8 0, .int .u8 0, .int .u8 0, .int .u8 0, .int .u8 0, .int .u8 0, .int .u8 0, .int .u8 0, .int .u8 0, .int .u8 0, .int .u8 0, .int .u8 0, .int .u8 0, .int .u8 0, .int .u8 0, .int .u8 0, .int .u8 0, .int .u8 0, .int .u8 0, .int .u8 0, .int .u8 0, .int .u8 0, .int .u8 0, .int .u8 0, .int .u8 0, .int .u8 0, .int .u8 0, .int .u8 0, .int .u8 0, .int .u8 0, .int .u8 0, .int .u8 0, .int .u8 0, .int .u8 0, .int .u8 0, .int .u8 0, .int .u8 0, .int .u8 0, .int .u8 0, .int .u8 0, .int .u8 0, .int .u8 0, .int .u8 0, .int .u8 0, .int .u8 0, .int .u8 0]] false], .int .u32 0]);
  let x17 : List AV := au (aG F 53 [.agg 104 [.int .u32 x1, .agg 102 x7, .agg 103 x6, .bool x2, .bool x3, .bool x4, .int .i64 x5], .agg 23 [.slice 118 (av ((au (aG F 110 [.agg 122 [.int .i64 40, .int .i64 0, .int .i64 0, .int .i64 0, .int .i64 0]])).getD 0 .dead)) false], .int .u32 0]);
  let x18 : List AV := au (aG F 53 [.agg 104 [.int .u32 x1, .agg 102 x7, .agg 103 x6, .bool x2, .bool x3, .bool x4, .int .i64 x5], .agg 23 [.slice 118 (av ((au (aG F 110 [.agg 122 [.int .i64 46, .int .i64 1, .int .i64 0, .int .i64 0, .int .i64 33]])).getD 0 .dead)) false], .int .u32 0]);
  let x19 : List AV := au (x18.getD 1 .dead);
  let x20 : List AV := au (x18.getD 2 .dead);
  let x21 : Bool := ak (x18.getD 6 .dead);
  let x22 : List AV := au (x18.getD 7 .dead);
  let x23 : Int := aj (x22.getD 1 .dead);
  let x24 : List AV := au (aG F 59 [.agg 111 [.bool (ak (x18.getD 0 .dead)), .agg 104 [.int .u32 (aj (x19.getD 0 .dead)), .agg 102 (au (x19.getD 1 .dead)), .agg 103 (au (x19.getD 2 .dead)), .bool (ak (x19.getD 3 .dead)), .bool (ak (x19.getD 4 .dead)), .bool (ak (x19.getD 5 .dead)), .int .i64 (aj (x19.getD 6 .dead))], .agg 104 [.int .u32 (aj (x20.getD 0 .dead)), .agg 102 (au (x20.getD 1 .dead)), .agg 103 (au (x20.getD 2 .dead)), .bool (ak (x20.getD 3 .dead)), .bool (ak (x20.getD 4 .dead)), .bool (ak (x20.getD 5 .dead)), .int .i64 (aj (x20.getD 6 .dead))], .int .u32 (aj (x18.getD 3 .dead)), .slice 42 (av (x18.getD 4 .dead)) false, .slice 116 (av (x18.getD 5 .dead)) false, .bool x21, .agg 109 [.bool (ak (x22.getD 0 .dead)), .int .i64 x23, .int .u32 (aj (x22.getD 2 .dead))], .int .i64 (aj (x18.getD 8 .dead)), .int .u32 (aj (x18.getD 9 .dead)), .int .i64 (aj (x18.getD 10 .dead))], .int .u32 9, .bool true]);
  let x25 : List AV := au (x24.getD 1 .dead);
  let x26 : Nat := x11.length;
  let x27 : Nat := x12.length;
  let x28 : List AV := au (x11.getD 0 .dead);
  let x29 : Bool := ((aj (x28.getD 0 .dead)) == 8) && (((aj (x28.getD 1 .dead)) == 4) && (((aj (x28.getD 2 .dead)) == 7) && true));
  let x30 : Bool := aL 0 x27;
  let x31 : List AV := au (x12.getD 0 .dead);
  let x32 : Bool := (aj (x31.getD 0 .dead)) == 0;
  let x33 : Bool := !(ak (x31.getD 2 .dead));
  let x34 : Bool := aL 1 x27;
  let x35 : List AV := au (x12.getD 1 .dead);
  let x36 : Bool := (aj (x35.getD 0 .dead)) == 8;
  cond (aH Pg F 109 [.int .i64 0, .int .u32 0])
   (cond (aH Pg F 110 [.agg 122 [.int .i64 16, .int .i64 1, .int .i64 0, .int .i64 0, .int .i64 5]])
    (cond (aH Pg F 53 [.agg 104 [.int .u32 x1, .agg 102 x7, .agg 103 x6, .bool x2, .bool x3, .bool x4, .int .i64 x5], .agg 23 [.slice 118 (av ((au (aG F 110 [.agg 122 [.int .i64 16, .int .i64 1, .int .i64 0, .int .i64 0, .int .i64 5]])).getD 0 .dead)) false], .int .u32 0])
     (cond (aH Pg F 110 [.agg 122 [.int .i64 21, .int .i64 2, .int .i64 0, .int .i64 0, .int .i64 8]])
      (cond (aH Pg F 53 [.agg 104 [.int .u32 x1, .agg 102 x7, .agg 103 x6, .bool x2, .bool x3, .bool x4, .int .i64 x5], .agg 23 [.slice 118 (av ((au (aG F 110 [.agg 122 [.int .i64 21, .int .i64 2, .int .i64 0, .int .i64 0, .int .i64 8]])).getD 0 .dead)) false], .int .u32 0])
       (cond (aH Pg F 110 [.agg 122 [.int .i64 20, .int .i64 1, .int .i64 0, .int .i64 0, .int .i64 130]])
        (cond (aH Pg F 53 [.agg 104 [.int .u32 x1, .agg 102 x7, .agg 103 x6, .bool x2, .bool x3, .bool x4, .int .i64 x5], .agg 23 [.slice 118 (av ((au (aG F 110 [.agg 122 [.int .i64 20, .int .i64 1, .int .i64 0, .int .i64 0, .int .i64 130]])).getD 0 .dead)) false], .int .u32 0])
         (cond (aH Pg F 110 [.agg 122 [.int .i64 20, .int .i64 1, .int .i64 0, .int .i64 0, .int .i64 128]])
          (cond (aH Pg F 53 [.agg 104 [.int .u32 x1, .agg 102 x7, .agg 103 x6, .bool x2, .bool x3, .bool x4, .int .i64 x5], .agg 23 [.slice 118 (av ((au (aG F 110 [.agg 122 [.int .i64 20, .int .i64 1, .int .i64 0, .int .i64 0, .int .i64 128]])).getD 0 .dead)) false], .int .u32 0])
           (cond (aH Pg F 53 [.agg 104 [.int .u32 x1, .agg 102 x7, .agg 103 x6, .bool x2, .bool x3, .bool x4, .int .i64 x5], .agg 23 [.slice 118 [.agg 117 [.int .u8 0, .int .u8 0, .int .u8 0, .int .u8 0, .int .u8 0, .int .u8 0, .int .u8 0, .int .u8 0, .int .u8 0, .int .u8 0, .int .u8 0, .int .u8 0, .int .u8 0, .int .u8 0, .int .u8 0, .int .u8 0, .int .u8 0, .int .u8 0, .int .u8 0, .int .u8 0, .int .u8 0, .int .u8 0, .int .u8 0, .int .u8 0, .int .u8 0, .int .u8 0, .int .u8 0, .int .u8 0, .int .u8 0, .int .u8 0, .int .u8 0, .int .u8 0, .int .u8 0, .int .u8 0, .int .u8 0, .int .u8 0, .int .u8 0, .int .u8 0, .int .u8 0, .int .u8 0, .int .u8 0, .int .u8 0, .int .u8 0, .int .u8 0, .int .u8 0, .int .u8 0, .int .u8 0, .int .u8 0, .int .u8 0, .int .u8 0, .int .u8 0, .int .u8 0, .int .u8 0, .int .u8 0, .int .u8 0, .int .u8 0, .int .u8 0, .int .u8 0, .int .u8 0, .int .u8 0, .int .u8 0, .int .u8 0, .int .u8 0, .int .u8 0, .int .u8 0, .int .u8 0, .int .u8 0, .int .u8 0, .int .u8 0, .int .u8 0, .int .u8 0, .int .u8 0, .int .u8 0, .int .u8 0, .int .u8 0, .int .u8 0, .int .u8 0, .int .u8 0, .int .u8 0, .int .u8 0, .int .u8 0, .int .u8 0, .int .u8 0, .int .u8 0, .int .u8 0, .int .u8 0, .int .u8 0, .int .u8 0, .int .u8 0, .int .u8 0, .int .u8 0, .int .u8 0, .int .u8 0, .int .u8 0, .int .u8 0, .int .u8 0, .int .u8 0, .int .u8 0, .int .u8 0, .int .u8 0, .int .u8 0, .int .u8 0, .int .u8 0, .int .u8 0, .int .u8 0, .int .u8 0, .int .u8 0, .int .u8 0, .int .u8 0, .int .u8 0, .int .u8 0, .int .u8 0, .int .u8 0, .int .u8 0, .int .u8 0, .int .u8 0, .int .u8 0, .int .u8 0, .int .u8 0, .int .u8 0, .int .u8 0, .int .u8 0, .int .u8 0, .int .u8 0, .int .u8 0, .int .u8 0, .int .u8 0, .int .u8 0]] false], .int .u32 0])
            (cond (aH Pg F 110 [.agg 122 [.int .i64 40, .int .i64 0, .int .i64 0, .int .i64 0, .int .i64 0]])
             (cond (aH Pg F 53 [.agg 104 [.int .u32 x1, .agg 102 x7, .agg 103 x6, .bool x2, .bool x3, .bool x4, .int .i64 x5], .agg 23 [.slice 118 (av ((au (aG F 110 [.agg 122 [.int .i64 40, .int .i64 0, .int .i64 0, .int .i64 0, .int .i64 0]])).getD 0 .dead)) false], .int .u32 0])
              (cond (aH Pg F 110 [.agg 122 [.int .i64 46, .int .i64 1, .int .i64 0, .int .i64 0, .int .i64 33]])
               (cond (aH Pg F 53 [.agg 104 [.int .u32 x1, .agg 102 x7, .agg 103 x6, .bool x2, .bool x3, .bool x4, .int .i64 x5], .agg 23 [.slice 118 (av ((au (aG F 110 [.agg 122 [.int .i64 46, .int .i64 1, .int .i64 0, .int .i64 0, .int .i64 33]])).getD 0 .dead)) false], .int .u32 0])
                (cond (aH Pg F 59 [.agg 111 [.bool (ak (x18.getD 0 .dead)), .agg 104 [.int .u32 (aj (x19.getD 0 .dead)), .agg 102 (au (x19.getD 1 .dead)), .agg 103 (au (x19.getD 2 .dead)), .bool (ak (x19.getD 3 .dead)), .bool (ak (x19.getD 4 .dead)), .bool (ak (x19.getD 5 .dead)), .int .i64 (aj (x19.getD 6 .dead))], .agg 104 [.int .u32 (aj (x20.getD 0 .dead)), .agg 102 (au (x20.getD 1 .dead)), .agg 103 (au (x20.getD 2 .dead)), .bool (ak (x20.getD 3 .dead)), .bool (ak (x20.getD 4 .dead)), .bool (ak (x20.getD 5 .dead)), .int .i64 (aj (x20.getD 6 .dead))], .int .u32 (aj (x18.getD 3 .dead)), .slice 42 (av (x18.getD 4 .dead)) false, .slice 116 (av (x18.getD 5 .dead)) false, .bool x21, .agg 109 [.bool (ak (x22.getD 0 .dead)), .int .i64 x23, .int .u32 (aj (x22.getD 2 .dead))], .int .i64 (aj (x18.getD 8 .dead)), .int .u32 (aj (x18.getD 9 .dead)), .int .i64 (aj (x18.getD 10 .dead))], .int .u32 9, .bool true])
                 (cond (cond (!(ak (x8.getD 0 .dead))) true (cond ((aj ((au (x9.getD 1 .dead)).getD 1 .dead)) != 5) true (cond ((aj (x9.getD 0 .dead)) != 4) true (cond ((aj (x9.getD 6 .dead)) != 1) true (cond (((x26 : Nat) : Int) != 1) true (((x27 : Nat) : Int) != 2))))))
                  (some (.bool false))
                  (cond (cond (aL 0 x26) (fV x29 (cond x30 (fV x32 (cond x30 (fV x33 (cond x34 (fV x36 (cond x34 true false) true) false) true) false) true) false) true) false)
                   (some (.bool (cond (cond x29 (cond x32 (cond x33 (cond x36 (ak (x35.getD 2 .dead)) false) false) false) false) (cond (cond ((aj (x13.getD 10 .dead)) == 3) (cond ((aj ((au (x14.getD 2 .dead)).getD 4 .dead)) == 130) (cond ((aj (x14.getD 0 .dead)) == 64) (cond ((aj (x15.getD 10 .dead)) == 5) (cond ((aj ((au ((au (x15.getD 1 .dead)).getD 2 .dead)).getD 4 .dead)) == 128) (cond ((aj (x16.getD 10 .dead)) == 2) ((aj ((au ((au (x16.getD 1 .dead)).getD 2 .dead)).getD 2 .dead)) == 0) false) false) false) false) false) false) (cond ((aj (x17.getD 10 .dead)) == 1) (cond ((aj ((au ((au (x17.getD 1 .dead)).getD 2 .dead)).getD 2 .dead)) == 4) (cond x21 (cond (x23 == 33) (cond (!(ak (x24.getD 6 .dead))) (cond ((aj ((au (x25.getD 1 .dead)).getD 1 .dead)) == 9) ((aj (x25.getD 0 .dead)) == 4) false) false) false) false) false) false) false) false)))
                   (none)))
                 (none))
                (none))
               (none))
              (none))
             (none))
            (none))
           (none))
          (none))
         (none))
        (none))
       (none))
      (none))
     (none))
    (none))
   (none)) := by kernel_rfl
theorem SN (F : Tab) (a0 : Int) (l0 l1 : List AV) (b0 b1 b2 : Bool) (a1 : Int) (l2 : List AV) (a2 : Int) : aY (cx F) 6 53 [.agg 104 [.int .u32 a0, .agg 102 l0, .agg 103 l1, .bool b0, .bool b1, .bool b2, .int .i64 a1], .agg 23 [.slice 118 l2 false], .int .u32 a2] =
 (let x0 : List AV := (bT F a0 l0 l1 b0 b1 b2 a1 l2 a0 l0 l1 b0 b2 (IntKind.i64.wrap (a1 + 1)) l2 a2 a0 l0 l1 b0 b1 b2 a1).l.getD 1 [];
  let x1 : Int := (bT F a0 l0 l1 b0 b1 b2 a1 l2 a0 l0 l1 b0 b2 (IntKind.i64.wrap (a1 + 1)) l2 a2 a0 l0 l1 b0 b1 b2 a1).i.getD 1 0;
  let x2 : List AV := (bT F a0 l0 l1 b0 b1 b2 a1 l2 a0 l0 l1 b0 b2 (IntKind.i64.wrap (a1 + 1)) l2 a2 a0 l0 l1 b0 b1 b2 a1).l.getD 2 [];
  let x3 : Int := (bT F a0 l0 l1 b0 b1 b2 a1 l2 a0 l0 l1 b0 b2 (IntKind.i64.wrap (a1 + 1)) l2 a2 a0 l0 l1 b0 b1 b2 a1).i.getD 2 0;
  let x4 : List AV := (bT F a0 l0 l1 b0 b1 b2 a1 l2 a0 l0 l1 b0 b2 (IntKind.i64.wrap (a1 + 1)) l2 a2 a0 l0 l1 b0 b1 b2 a1).l.getD 3 [];
  let x5 : List AV := (bT F a0 l0 l1 b0 b1 b2 a1 l2 a0 l0 l1 b0 b2 (IntKind.i64.wrap (a1 + 1)) l2 a2 a0 l0 l1 b0 b1 b2 a1).l.getD 4 [];
  let x6 : Int := (bT F a0 l0 l1 b0 b1 b2 a1 l2 a0 l0 l1 b0 b2 (IntKind.i64.wrap (a1 + 1)) l2 a2 a0 l0 l1 b0 b1 b2 a1).i.getD 3 0;
  let x7 : Int := (bT F a0 l0 l1 b0 b1 b2 a1 l2 a0 l0 l1 b0 b2 (IntKind.i64.wrap (a1 + 1)) l2 a2 a0 l0 l1 b0 b1 b2 a1).i.getD 4 0;
  let x8 : Bool := (bT F a0 l0 l1 b0 b1 b2 a1 l2 a0 l0 l1 b0 b2 (IntKind.i64.wrap (a1 + 1)) l2 a2 a0 l0 l1 b0 b1 b2 a1).b.getD 0 false;
  let x9 : Bool := (bT F a0 l0 l1 b0 b1 b2 a1 l2 a0 l0 l1 b0 b2 (IntKind.i64.wrap (a1 + 1)) l2 a2 a0 l0 l1 b0 b1 b2 a1).b.getD 1 false;
  let x10 : Bool := (bT F a0 l0 l1 b0 b1 b2 a1 l2 a0 l0 l1 b0 b2 (IntKind.i64.wrap (a1 + 1)) l2 a2 a0 l0 l1 b0 b1 b2 a1).b.getD 2 false;
  cond (aH Pg F 60 [.agg 104 [.int .u32 a0, .agg 102 l0, .agg 103 l1, .bool b0, .bool b1, .bool b2, .int .i64 a1], .int .u32 a2])
   (cond (!(ak (aG F 60 [.agg 104 [.int .u32 a0, .agg 102 l0, .agg 103 l1, .bool b0, .bool b1, .bool b2, .int .i64 a1], .int .u32 a2])))
    (some (.agg 111 [.bool false, .agg 104 [.int .u32 a0, .agg 102 l0, .agg 103 l1, .bool b0, .bool b1, .bool b2, .int .i64 a1], .agg 104 [.int .u32 0, .agg 102 [.int .u32 0, .int .u32 0, .int .u32 0, .int .u32 0, .int .u32 0, .int .u32 0, .int .u32 0, .int .u32 0, .int .u32 0, .int .u32 0, .int .u32 0, .int .u32 0, .int .u32 0, .int .u32 0, .int .u32 0, .int .u32 0], .agg 103 [.int .u32 0, .int .u32 0, .int .u32 0, .int .u32 0, .int .u32 0, .int .u32 0, .int .u32 0, .int .u32 0, .int .u32 0], .bool false, .bool false, .bool false, .int .i64 0], .int .u32 0, .slice 42 [] false, .slice 116 [] false, .bool false, .agg 109 [.bool false, .int .i64 0, .int .u32 0], .int .i64 0, .int .u32 0, .int .i64 0]))
    (cond ((bT F a0 l0 l1 b0 b1 b2 a1 l2 a0 l0 l1 b0 b2 (IntKind.i64.wrap (a1 + 1)) l2 a2 a0 l0 l1 b0 b1 b2 a1).k == 1)
     (some (.agg 111 [.bool true, .agg 104 [.int .u32 ((bT F a0 l0 l1 b0 b1 b2 a1 l2 a0 l0 l1 b0 b2 (IntKind.i64.wrap (a1 + 1)) l2 a2 a0 l0 l1 b0 b1 b2 a1).i.getD 0 0), .agg 102 ((bT F a0 l0 l1 b0 b1 b2 a1 l2 a0 l0 l1 b0 b2 (IntKind.i64.wrap (a1 + 1)) l2 a2 a0 l0 l1 b0 b1 b2 a1).l.getD 0 []), .agg 103 x0, .bool x8, .bool x9, .bool x10, .int .i64 x1], .agg 104 [.int .u32 a0, .agg 102 l0, .agg 103 l1, .bool b0, .bool b1, .bool b2, .int .i64 a1], .int .u32 0, .slice 42 [] false, .slice 116 [] false, .bool false, .agg 109 [.bool false, .int .i64 0, .int .u32 0], .int .i64 0, .int .u32 0, .int .i64 x3]))
     (cond ((bT F a0 l0 l1 b0 b1 b2 a1 l2 a0 l0 l1 b0 b2 (IntKind.i64.wrap (a1 + 1)) l2 a2 a0 l0 l1 b0 b1 b2 a1).k == 2)
      (some (.agg 111 [.bool true, .agg 104 [.int .u32 x1, .agg 102 x0, .agg 103 x2, .bool x8, .bool x9, .bool x10, .int .i64 x3], .agg 104 [.int .u32 a0, .agg 102 l0, .agg 103 l1, .bool b0, .bool b1, .bool b2, .int .i64 a1], .int .u32 x6, .slice 42 x4 false, .slice 116 x5 false, .bool false, .agg 109 [.bool false, .int .i64 0, .int .u32 0], .int .i64 0, .int .u32 0, .int .i64 x7]))
      (cond ((bT F a0 l0 l1 b0 b1 b2 a1 l2 a0 l0 l1 b0 b2 (IntKind.i64.wrap (a1 + 1)) l2 a2 a0 l0 l1 b0 b1 b2 a1).k == 3)
       (some (.agg 111 [.bool true, .agg 104 [.int .u32 x3, .agg 102 x4, .agg 103 x5, .bool ((bT F a0 l0 l1 b0 b1 b2 a1 l2 a0 l0 l1 b0 b2 (IntKind.i64.wrap (a1 + 1)) l2 a2 a0 l0 l1 b0 b1 b2 a1).b.getD 3 false), .bool ((bT F a0 l0 l1 b0 b1 b2 a1 l2 a0 l0 l1 b0 b2 (IntKind.i64.wrap (a1 + 1)) l2 a2 a0 l0 l1 b0 b1 b2 a1).b.getD 4 false), .bool ((bT F a0 l0 l1 b0 b1 b2 a1 l2 a0 l0 l1 b0 b2 (IntKind.i64.wrap (a1 + 1)) l2 a2 a0 l0 l1 b0 b1 b2 a1).b.getD 5 false), .int .i64 x6], .agg 104 [.int .u32 a0, .agg 102 l0, .agg 103 l1, .bool b0, .bool b1, .bool b2, .int .i64 a1], .int .u32 x7, .slice 42 ((bT F a0 l0 l1 b0 b1 b2 a1 l2 a0 l0 l1 b0 b2 (IntKind.i64.wrap (a1 + 1)) l2 a2 a0 l0 l1 b0 b1 b2 a1).l.getD 5 []) false, .slice 116 ((bT F a0 l0 l1 b0 b1 b2 a1 l2 a0 l0 l1 b0 b2 (IntKind.i64.wrap (a1 + 1)) l2 a2 a0 l0 l1 b0 b1 b2 a1).l.getD 6 []) false, .bool ((bT F a0 l0 l1 b0 b1 b2 a1 l2 a0 l0 l1 b0 b2 (IntKind.i64.wrap (a1 + 1)) l2 a2 a0 l0 l1 b0 b1 b2 a1).b.getD 6 false), .agg 109 [.bool ((bT F a0 l0 l1 b0 b1 b2 a1 l2 a0 l0 l1 b0 b2 (IntKind.i64.wrap (a1 + 1)) l2 a2 a0 l0 l1 b0 b1 b2 a1).b.getD 7 false), .int .i64 ((bT F a0 l0 l1 b0 b1 b2 a1 l2 a0 l0 l1 b0 b2 (IntKind.i64.wrap (a1 + 1)) l2 a2 a0 l0 l1 b0 b1 b2 a1).i.getD 5 0), .int .u32 ((bT F a0 l0 l1 b0 b1 b2 a1 l2 a0 l0 l1 b0 b2 (IntKind.i64.wrap (a1 + 1)) l2 a2 a0 l0 l1 b0 b1 b2 a1).i.getD 6 0)], .int .i64 ((bT F a0 l0 l1 b0 b1 b2 a1 l2 a0 l0 l1 b0 b2 (IntKind.i64.wrap (a1 + 1)) l2 a2 a0 l0 l1 b0 b1 b2 a1).i.getD 7 0), .int .u32 ((bT F a0 l0 l1 b0 b1 b2 a1 l2 a0 l0 l1 b0 b2 (IntKind.i64.wrap (a1 + 1)) l2 a2 a0 l0 l1 b0 b1 b2 a1).i.getD 8 0), .int .i64 ((bT F a0 l0 l1 b0 b1 b2 a1 l2 a0 l0 l1 b0 b2 (IntKind.i64.wrap (a1 + 1)) l2 a2 a0 l0 l1 b0 b1 b2 a1).i.getD 9 0)]))
       (cond ((bT F a0 l0 l1 b0 b1 b2 a1 l2 a0 l0 l1 b0 b2 (IntKind.i64.wrap (a1 + 1)) l2 a2 a0 l0 l1 b0 b1 b2 a1).k == 4)
        (some (.agg 111 [.bool true, .agg 104 [.int .u32 x1, .agg 102 x2, .agg 103 l1, .bool b0, .bool false, .bool b2, .int .i64 (IntKind.i64.wrap (a1 + 1))], .agg 104 [.int .u32 a0, .agg 102 l0, .agg 103 l1, .bool b0, .bool b1, .bool b2, .int .i64 a1], .int .u32 x3, .slice 42 x4 false, .slice 116 x5 false, .bool false, .agg 109 [.bool false, .int .i64 0, .int .u32 0], .int .i64 0, .int .u32 0, .int .i64 0]))
        (none))))))
   (none)) := by kernel_rfl
theorem Vk (F : Tab) (b0 : Bool) (a0 : Int) (l0 l1 : List AV) (b1 b2 b3 : Bool) (a1 a2 : Int) (l2 l3 : List AV) (b4 b5 b6 : Bool) (a3 a4 : Int) (l4 l5 : List AV) (b7 b8 : Bool) (a5 a6 a7 a8 a9 : Int) (b9 : Bool) (a10 : Int) (l6 l7 : List AV) (b10 b11 b12 : Bool) (a11 a12 : Int) (l8 l9 : List AV) (b13 b14 b15 : Bool) (a13 a14 : Int) (l10 l11 : List AV) (b16 b17 : Bool) (a15 a16 a17 a18 a19 : Int) : aY (cx F) 6 54 [.agg 111 [.bool b0, .agg 104 [.int .u32 a0, .agg 102 l0, .agg 103 l1, .bool b1, .bool b2, .bool b3, .int .i64 a1], .agg 104 [.int .u32 a2, .agg 102 l2, .agg 103 l3, .bool b4, .bool b5, .bool b6, .int .i64 a3], .int .u32 a4, .slice 42 l4 false, .slice 116 l5 false, .bool b7, .agg 109 [.bool b8, .int .i64 a5, .int .u32 a6], .int .i64 a7, .int .u32 a8, .int .i64 a9], .agg 111 [.bool b9, .agg 104 [.int .u32 a10, .agg 102 l6, .agg 103 l7, .bool b10, .bool b11, .bool b12, .int .i64 a11], .agg 104 [.int .u32 a12, .agg 102 l8, .agg 103 l9, .bool b13, .bool b14, .bool b15, .int .i64 a13], .int .u32 a14, .slice 42 l10 false, .slice 116 l11 false, .bool b16, .agg 109 [.bool b17, .int .i64 a15, .int .u32 a16], .int .i64 a17, .int .u32 a18, .int .i64 a19]] =
 cond (cond (!(b0 == b9)) true (cond (!((a0 == a10) && ((iR l0 l6) && ((iR l1 l7) && ((b1 == b10) && ((b2 == b11) && ((b3 == b12) && ((a1 == a11) && true)))))))) true (cond (!((a2 == a12) && ((iR l2 l8) && ((iR l3 l9) && ((b4 == b13) && ((b5 == b14) && ((b6 == b15) && ((a3 == a13) && true)))))))) true (cond (a4 != a14) true (cond (!(b7 == b16)) true (cond (!((b8 == b17) && ((a5 == a15) && ((a6 == a16) && true)))) true (cond (a7 != a17) true (cond (a8 != a18) true (cond (a9 != a19) true (cond (((l4.length : Nat) : Int) != ((l10.length : Nat) : Int)) true (((l5.length : Nat) : Int) != ((l11.length : Nat) : Int))))))))))))
  (some (.bool false))
  (cond ((Ar F b0 a0 l0 l1 b1 b2 b3 a1 a2 l2 l3 b4 b5 b6 a3 a4 l4 l5 b7 b8 a5 a6 a7 a8 a9 b9 a10 l6 l7 b10 b11 b12 a11 a12 l8 l9 b13 b14 b15 a13 a14 l10 l11 b16 b17 a15 a16 a17 a18 a19 100000 0).k == 1)
   (some (.bool false))
   (cond ((Ar F b0 a0 l0 l1 b1 b2 b3 a1 a2 l2 l3 b4 b5 b6 a3 a4 l4 l5 b7 b8 a5 a6 a7 a8 a9 b9 a10 l6 l7 b10 b11 b12 a11 a12 l8 l9 b13 b14 b15 a13 a14 l10 l11 b16 b17 a15 a16 a17 a18 a19 100000 0).k == 2)
    (cond ((zQ F b0 a0 l0 l1 b1 b2 b3 a1 a2 l2 l3 b4 b5 b6 a3 a4 l4 l5 b7 b8 a5 a6 a7 a8 a9 b9 a10 l6 l7 b10 b11 b12 a11 a12 l8 l9 b13 b14 b15 a13 a14 l10 l11 b16 b17 a15 a16 a17 a18 a19 100000 0).k == 1)
     (some (.bool false))
     (cond ((zQ F b0 a0 l0 l1 b1 b2 b3 a1 a2 l2 l3 b4 b5 b6 a3 a4 l4 l5 b7 b8 a5 a6 a7 a8 a9 b9 a10 l6 l7 b10 b11 b12 a11 a12 l8 l9 b13 b14 b15 a13 a14 l10 l11 b16 b17 a15 a16 a17 a18 a19 100000 0).k == 2)
      (some (.bool true))
      (none)))
    (none))) := by kernel_rfl
theorem Yo (F : Tab) (l0 : List AV) (a0 a1 a2 : Int) : aY (cx F) 6 57 [.agg 23 [.slice 118 l0 false], .agg 41 [.int .i64 a0, .int .i64 a1, .int .u32 a2]] =
 cond (aH Pg F 115 [.agg 23 [.slice 118 l0 false], .int .i64 a0, .int .i64 a1])
  (cond (!(ak (aG F 115 [.agg 23 [.slice 118 l0 false], .int .i64 a0, .int .i64 a1])))
   (some (.agg 128 [.agg 23 [.slice 118 l0 false], .bool false]))
   (cond (decide (((0 + l0.length) * 128) <= 140737488355328))
    (cond (decide ((0 : Nat) < l0.length))
     (cond ((wX F l0 a0 a1 a2 l0 l0.length l0.length 100000 0 l0).k == 1)
      (some (.agg 128 [.agg 23 [.slice 118 (sub ((wX F l0 a0 a1 a2 l0 l0.length l0.length 100000 0 l0).l.getD 0 []) 0 (0 + l0.length)) false], .bool true]))
      (none))
     (none))
    (none)))
  (none) := by kernel_rfl
theorem RG (F : Tab) (a0 a1 a2 : Int) : aY (cx F) 6 58 [.int .i64 a0, .int .u32 a1, .int .u32 a2] =
 cond (a0 == 1)
  (some (.tuple [.int .u32 (IntKind.u32.wrap (a1 + a2)), .int .i64 0]))
  (cond (a0 == 2)
   (some (.tuple [.int .u32 (IntKind.u32.wrap (a1 - a2)), .int .i64 0]))
   (cond (a0 == 1)
    (some (.tuple [.int .u32 (IntKind.u32.wrap (a1 + a2)), .int .i64 0]))
    (cond (a0 == 2)
     (some (.tuple [.int .u32 (IntKind.u32.wrap (a1 - a2)), .int .i64 0]))
     (cond (a0 == 3)
      (some (.tuple [.int .u32 (aJ .and .u32 a1 a2), .int .i64 0]))
      (cond (a0 == 4)
       (some (.tuple [.int .u32 (aJ .or .u32 a1 a2), .int .i64 0]))
       (cond (a0 == 5)
        (some (.tuple [.int .u32 (aJ .xor .u32 a1 a2), .int .i64 0]))
        (cond (a0 == 6)
         (cond (decide ((0 : Int) <= (aJ .and .u32 a2 31)))
          (some (.tuple [.int .u32 (IntKind.u32.wrap (a1 * (2 ^ min (aJ .and .u32 a2 31).toNat 32))), .int .i64 0]))
          (none))
         (cond (a0 == 7)
          (cond (decide ((0 : Int) <= (aJ .and .u32 a2 31)))
           (some (.tuple [.int .u32 (a1.fdiv (2 ^ min (aJ .and .u32 a2 31).toNat 32)), .int .i64 0]))
           (none))
          (cond (a0 == 8)
           (some (.tuple [.int .u32 (IntKind.u32.wrap (a1 * a2)), .int .i64 0]))
           (cond (a0 == 9)
            (cond (a2 == 0)
             (some (.tuple [.int .u32 (aJ .xor .u32 4294967295 a2), .int .i64 0]))
             (cond (!(a2 == 0))
              (some (.tuple [.int .u32 (IntKind.u32.wrap (a1.tdiv a2)), .int .i64 0]))
              (none)))
            (cond (a0 == 10)
             (cond (a2 == 0)
              (some (.tuple [.int .u32 a1, .int .i64 0]))
              (cond (!(a2 == 0))
               (some (.tuple [.int .u32 (a1.tmod a2), .int .i64 0]))
               (none)))
             (cond (a0 == 11)
              (cond (aH Pg F 147 [.int .i32 (IntKind.i32.wrap a1), .int .i32 (IntKind.i32.wrap a2)])
               (some (.tuple [.int .u32 (aj (aG F 147 [.int .i32 (IntKind.i32.wrap a1), .int .i32 (IntKind.i32.wrap a2)])), .int .i64 0]))
               (none))
              (cond (a0 == 12)
               (cond (aH Pg F 149 [.int .u32 a1, .int .u32 a2])
                (some (.tuple [.int .u32 (aj (aG F 149 [.int .u32 a1, .int .u32 a2])), .int .i64 0]))
                (none))
               (some (.tuple [.int .u32 0, .int .i64 1]))))))))))))))) := by kernel_rfl
theorem UM (F : Tab) (b0 : Bool) (a0 : Int) (l0 l1 : List AV) (b1 b2 b3 : Bool) (a1 a2 : Int) (l2 l3 : List AV) (b4 b5 b6 : Bool) (a3 a4 : Int) (l4 l5 : List AV) (b7 b8 : Bool) (a5 a6 a7 a8 a9 a10 : Int) (b9 : Bool) : aY (cx F) 6 59 [.agg 111 [.bool b0, .agg 104 [.int .u32 a0, .agg 102 l0, .agg 103 l1, .bool b1, .bool b2, .bool b3, .int .i64 a1], .agg 104 [.int .u32 a2, .agg 102 l2, .agg 103 l3, .bool b4, .bool b5, .bool b6, .int .i64 a3], .int .u32 a4, .slice 42 l4 false, .slice 116 l5 false, .bool b7, .agg 109 [.bool b8, .int .i64 a5, .int .u32 a6], .int .i64 a7, .int .u32 a8, .int .i64 a9], .int .u32 a10, .bool b9] =
 (let x0 : Int := aj ((au ((eH (aG F 118 [.int .u32 a4])).getD 0 .dead)).getD 1 .dead);
  let x1 : List AV := au (aG F 119 [.agg 104 [.int .u32 a2, .agg 102 l2, .agg 103 l3, .bool b4, .bool b5, .bool b6, .int .i64 a3], .agg 192 [.int .i64 2, .int .u32 a4, .int .u32 a2]]);
  cond (!b7)
   (some (.agg 111 [.bool b0, .agg 104 [.int .u32 a0, .agg 102 l0, .agg 103 l1, .bool b1, .bool b2, .bool b3, .int .i64 a1], .agg 104 [.int .u32 a2, .agg 102 l2, .agg 103 l3, .bool b4, .bool b5, .bool b6, .int .i64 a3], .int .u32 a4, .slice 42 l4 false, .slice 116 l5 false, .bool b7, .agg 109 [.bool b8, .int .i64 a5, .int .u32 a6], .int .i64 a7, .int .u32 a8, .int .i64 a9]))
   (cond (aH Pg F 118 [.int .u32 a4])
    (cond (!b9)
     (cond (aH Pg F 119 [.agg 104 [.int .u32 a2, .agg 102 l2, .agg 103 l3, .bool b4, .bool b5, .bool b6, .int .i64 a3], .agg 192 [.int .i64 2, .int .u32 a4, .int .u32 a2]])
      (some (.agg 111 [.bool b0, .agg 104 [.int .u32 (aj (x1.getD 0 .dead)), .agg 102 (au (x1.getD 1 .dead)), .agg 103 (au (x1.getD 2 .dead)), .bool (ak (x1.getD 3 .dead)), .bool (ak (x1.getD 4 .dead)), .bool (ak (x1.getD 5 .dead)), .int .i64 (aj (x1.getD 6 .dead))], .agg 104 [.int .u32 a2, .agg 102 l2, .agg 103 l3, .bool b4, .bool b5, .bool b6, .int .i64 a3], .int .u32 a4, .slice 42 l4 false, .slice 116 l5 false, .bool false, .agg 109 [.bool false, .int .i64 0, .int .u32 0], .int .i64 a7, .int .u32 a8, .int .i64 2]))
      (none))
     (cond (cond b8 (x0 != 0) false)
      (cond (aL x0 16)
       (some (.agg 111 [.bool b0, .agg 104 [.int .u32 a0, .agg 102 (l0.set x0.toNat (.int .u32 a10)), .agg 103 l1, .bool b1, .bool b2, .bool b3, .int .i64 a1], .agg 104 [.int .u32 a2, .agg 102 l2, .agg 103 l3, .bool b4, .bool b5, .bool b6, .int .i64 a3], .int .u32 a4, .slice 42 l4 false, .slice 116 l5 false, .bool false, .agg 109 [.bool false, .int .i64 0, .int .u32 0], .int .i64 a7, .int .u32 a8, .int .i64 a9]))
       (none))
      (some (.agg 111 [.bool b0, .agg 104 [.int .u32 a0, .agg 102 l0, .agg 103 l1, .bool b1, .bool b2, .bool b3, .int .i64 a1], .agg 104 [.int .u32 a2, .agg 102 l2, .agg 103 l3, .bool b4, .bool b5, .bool b6, .int .i64 a3], .int .u32 a4, .slice 42 l4 false, .slice 116 l5 false, .bool false, .agg 109 [.bool false, .int .i64 0, .int .u32 0], .int .i64 a7, .int .u32 a8, .int .i64 a9]))))
    (none))) := by kernel_rfl
theorem VF (F : Tab) (a0 : Int) (l0 l1 : List AV) (b0 b1 b2 : Bool) (a1 a2 : Int) : aY (cx F) 6 60 [.agg 104 [.int .u32 a0, .agg 102 l0, .agg 103 l1, .bool b0, .bool b1, .bool b2, .int .i64 a1], .int .u32 a2] =
 cond (fV (!b2) (fV (!b1) true (cond (aH Pg F 120 [.int .u32 a2]) true false)) true)
  (some (.bool (cond (!b2) (cond (!b1) true ((aj (aG F 120 [.int .u32 a2])) != 0)) false)))
  (none) := by kernel_rfl
theorem V6 (F : Tab) (l0 : List AV) (a0 : Int) : aY (cx F) 6 65 [.agg 23 [.slice 118 l0 false], .int .u32 a0] =
 cond ((a0.tmod 128) == 0)
  (some (.bool (decide ((IntKind.i64.wrap a0) < (IntKind.i64.wrap (((l0.length : Nat) : Int) * 128))))))
  (some (.bool false)) := by kernel_rfl
theorem ZV (F : Tab) (l0 : List AV) (a0 : Int) : aY (cx F) 6 66 [.agg 23 [.slice 118 l0 false], .int .u32 a0] =
 cond (aH Pg F 23 [.agg 23 [.slice 118 l0 false], .int .i64 (IntKind.i64.wrap a0), .int .i64 4])
  (some (.int .u32 (aj ((eH (aG F 23 [.agg 23 [.slice 118 l0 false], .int .i64 (IntKind.i64.wrap a0), .int .i64 4])).getD 0 .dead))))
  (none) := by kernel_rfl
theorem wC (F : Tab) (a0 a1 : Int) : aY (cx F) 6 67 [.int .u32 a0, .int .u32 a1] =
 some (.bool ((aJ .and .u32 a0 a1) == a1)) := by kernel_rfl
theorem QJ (F : Tab) (a0 : Int) (l0 : List AV) : aY (cx F) 6 68 [.int .u32 a0, .agg 23 [.slice 118 l0 false]] =
 (let x0 : Int := aj (aG F 69 [.int .u32 a0]);
  cond (aH Pg F 67 [.int .u32 a0, .int .u32 64])
   (cond (ak (aG F 67 [.int .u32 a0, .int .u32 64]))
    (cond (aH Pg F 69 [.int .u32 a0])
     (some (.bool ((x0.tmod 4096) == 0)))
     (none))
    (cond (fV ((aJ .and .u32 a0 62) == 0) (cond (aH Pg F 69 [.int .u32 a0]) (cond (aH Pg F 65 [.agg 23 [.slice 118 l0 false], .int .u32 x0]) true false) false) true)
     (some (.bool (cond ((aJ .and .u32 a0 62) == 0) (ak (aG F 65 [.agg 23 [.slice 118 l0 false], .int .u32 x0])) false)))
     (none)))
   (none)) := by kernel_rfl
theorem Tz (F : Tab) (a0 : Int) : aY (cx F) 6 69 [.int .u32 a0] =
 some (.int .u32 (aJ .andNot .u32 a0 127)) := by kernel_rfl
theorem SC (F : Tab) (l0 : List AV) : aY (cx F) 6 71 [.agg 23 [.slice 118 l0 false]] =
 some (.int .i64 (IntKind.i64.wrap (((l0.length : Nat) : Int) * 128))) := by kernel_rfl
theorem ZY (F : Tab) (l0 : List AV) (a0 a1 a2 : Int) : aY (cx F) 6 93 [.agg 23 [.slice 118 l0 false], .agg 41 [.int .i64 a0, .int .i64 a1, .int .u32 a2]] =
 (let x0 : List AV := eH (aG F 24 [.agg 23 [.slice 118 l0 false], .slice 42 [.agg 41 [.int .i64 a0, .int .i64 a1, .int .u32 a2]] false]);
  cond (aH Pg F 24 [.agg 23 [.slice 118 l0 false], .slice 42 [.agg 41 [.int .i64 a0, .int .i64 a1, .int .u32 a2]] false])
   (some (.tuple [.agg 23 [.slice 118 (av ((au (x0.getD 0 .dead)).getD 0 .dead)) false], .bool (ak (x0.getD 1 .dead))]))
   (none)) := by kernel_rfl
theorem Wj (F : Tab) (a0 : Int) (l0 l1 : List AV) (b0 b1 b2 : Bool) (a1 : Int) : aY (cx F) 6 108 [.agg 104 [.int .u32 a0, .agg 102 l0, .agg 103 l1, .bool b0, .bool b1, .bool b2, .int .i64 a1]] =
 some (.bool (cond ((aj (l0.getD 0 .dead)) == 0) (cond (decide ((aj (l1.getD 5 .dead)) <= 7)) (cond ((aj (l1.getD 7 .dead)) == 0) (cond (decide ((aj (l1.getD 8 .dead)) <= 3)) (cond (decide ((0 : Int) <= a1)) (cond (decide (a1 <= 1099511627776)) (cond (!b1) true (!b2)) false) false) false) false) false) false)) := by kernel_rfl
theorem XF (F : Tab) (a0 a1 : Int) : aY (cx F) 6 109 [.int .i64 a0, .int .u32 a1] =
 some (.agg 104 [.int .u32 a1, .agg 102 [.int .u32 0, .int .u32 0, .int .u32 0, .int .u32 0, .int .u32 0, .int .u32 0, .int .u32 0, .int .u32 0, .int .u32 0, .int .u32 0, .int .u32 0, .int .u32 0, .int .u32 0, .int .u32 0, .int .u32 0, .int .u32 0], .agg 103 [.int .u32 0, .int .u32 0, .int .u32 0, .int .u32 0, .int .u32 0, .int .u32 0, .int .u32 0, .int .u32 0, .int .u32 (IntKind.u32.wrap a0)], .bool false, .bool (a0 != 0), .bool false, .int .i64 0]) := by kernel_rfl
end Go.Proofs.Ytcknhfnbdgleiaa
