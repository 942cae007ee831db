/- What the functions return, in terms of what they call. (Printed by a program of mine, gen.py.) -/
import Derived.Test.YtcknhfnbdgleiaaCoC
set_option linter.unusedVariables false
set_option linter.unusedSimpArgs false
namespace Go.Proofs.Ytcknhfnbdgleiaa
open Go.AE
set_option maxRecDepth 100000 in
theorem DY (F : Tab) (l0 : List AV) : fnV (cx F) 6 16 [.agg 23 [.slice 118 l0 false]] =
 some (.bool (cond (decide ((1 : Int) ≤ ((l0.length : Nat) : Int))) (decide (((l0.length : Nat) : Int) ≤ 64)) false)) := by kernel_rfl
set_option maxRecDepth 100000 in
theorem FB (F : Tab) (l0 : List AV) (a0 a1 a2 : Int) (b0 : Bool) : fnV (cx F) 6 19 [.agg 23 [.slice 118 l0 false], .int .u32 a0, .int .u32 a1, .int .i64 a2, .bool b0] =
 (let x0 : Int := intOf (([.int .i64 0, .int .i64 5, .int .i64 6, .int .i64 6, .int .i64 4] : List AV).getD a2.toNat .dead);
  let x1 : Int := IntKind.u32.wrap (a0 + (IntKind.u32.wrap (4 * (a1.fdiv 4096))));
  let x2 : Int := intOf (valT F 66 [.agg 23 [.slice 118 l0 false], .int .u32 x1]);
  let x3 : Int := IntKind.i64.wrap x1;
  let x4 : Bool := okT Pg F 69 [.int .u32 x2];
  let x5 : Int := intOf (valT F 69 [.int .u32 x2]);
  let x6 : Int := IntKind.u32.wrap (x5 + (IntKind.u32.wrap (((a1.fdiv 128).tmod 32) * 128)));
  let x7 : Int := IntKind.u32.wrap (x5 + (IntKind.u32.wrap (((a1.fdiv 128).tmod 32) * 4)));
  let x8 : Int := intOf (valT F 66 [.agg 23 [.slice 118 l0 false], .int .u32 x7]);
  let x9 : Int := IntKind.i64.wrap x7;
  let x10 : Int := intOf (valT F 69 [.int .u32 x8]);
  let x11 : Int := IntKind.i64.wrap (IntKind.u32.wrap (x10 + (a1.tmod 128)));
  let x12 : Int := aF .or .u32 x8 16;
  let x13 : Int := cond (cond (a2 == 2) true (a2 == 3)) (aF .or .u32 x12 32) x12;
  let x14 : Bool := x13 != x8;
  let x15 : Bool := okT Pg F 67 [.int .u32 x8, .int .u32 4];
  let x16 : Bool := !(aj (valT F 67 [.int .u32 x8, .int .u32 4]));
  let x17 : Bool := okT Pg F 67 [.int .u32 x8, .int .u32 8];
  let x18 : Bool := !(aj (valT F 67 [.int .u32 x8, .int .u32 8]));
  let x19 : Int := IntKind.i64.wrap (IntKind.u32.wrap (x6 + (a1.tmod 128)));
  let x20 : Int := aF .or .u32 x2 16;
  let x21 : Int := cond (cond (a2 == 2) true (a2 == 3)) (aF .or .u32 x20 32) x20;
  let x22 : Bool := x21 != x2;
  let x23 : Bool := okT Pg F 67 [.int .u32 x2, .int .u32 4];
  let x24 : Bool := !(aj (valT F 67 [.int .u32 x2, .int .u32 4]));
  let x25 : Bool := okT Pg F 67 [.int .u32 x2, .int .u32 8];
  let x26 : Bool := !(aj (valT F 67 [.int .u32 x2, .int .u32 8]));
  cond (a0 == 0)
   (cond (!(decide ((IntKind.i64.wrap a1) < (IntKind.i64.wrap (((l0.length : Nat) : Int) * 128)))))
    (cond (inB a2 5)
     (some (.tuple [.agg 31 [.int .i64 0, .int .i64 0, .slice 42 [] false, .slice 3 [] false], .int .i64 x0]))
     (none))
    (some (.tuple [.agg 31 [.int .i64 (IntKind.i64.wrap a1), .int .i64 (-1), .slice 42 [] false, .slice 3 [] false], .int .i64 0])))
   (cond (decide (a1 < 131072))
    (cond (okT Pg F 65 [.agg 23 [.slice 118 l0 false], .int .u32 a0])
     (cond (!(aj (valT F 65 [.agg 23 [.slice 118 l0 false], .int .u32 a0])))
      (cond (inB a2 5)
       (some (.tuple [.agg 31 [.int .i64 0, .int .i64 0, .slice 42 [] false, .slice 3 [] false], .int .i64 x0]))
       (none))
      (cond (okT Pg F 66 [.agg 23 [.slice 118 l0 false], .int .u32 x1])
       (cond (okT Pg F 67 [.int .u32 x2, .int .u32 1])
        (cond (aj (valT F 67 [.int .u32 x2, .int .u32 1]))
         (cond (okT Pg F 68 [.int .u32 x2, .agg 23 [.slice 118 l0 false]])
          (cond (!(aj (valT F 68 [.int .u32 x2, .agg 23 [.slice 118 l0 false]])))
           (cond (inB a2 5)
            (some (.tuple [.agg 31 [.int .i64 0, .int .i64 0, .slice 42 [] false, .slice 3 [.int .i64 x3] false], .int .i64 x0]))
            (none))
           (cond x4
            (cond (okT Pg F 67 [.int .u32 x2, .int .u32 64])
             (cond (!(aj (valT F 67 [.int .u32 x2, .int .u32 64])))
              (cond x4
               (cond (okT Pg F 66 [.agg 23 [.slice 118 l0 false], .int .u32 x7])
                (cond (okT Pg F 67 [.int .u32 x8, .int .u32 1])
                 (cond (aj (valT F 67 [.int .u32 x8, .int .u32 1]))
                  (cond (okT Pg F 67 [.int .u32 x8, .int .u32 64])
                   (cond (!(!(aj (valT F 67 [.int .u32 x8, .int .u32 64]))))
                    (cond (inB a2 5)
                     (some (.tuple [.agg 31 [.int .i64 0, .int .i64 0, .slice 42 [] false, .slice 3 [.int .i64 x3, .int .i64 x9] false], .int .i64 x0]))
                     (none))
                    (cond (okT Pg F 69 [.int .u32 x8])
                     (cond (okT Pg F 65 [.agg 23 [.slice 118 l0 false], .int .u32 x10])
                      (cond (!(aj (valT F 65 [.agg 23 [.slice 118 l0 false], .int .u32 x10])))
                       (cond (inB a2 5)
                        (some (.tuple [.agg 31 [.int .i64 0, .int .i64 0, .slice 42 [] false, .slice 3 [.int .i64 x3, .int .i64 x9] false], .int .i64 x0]))
                        (none))
                       (cond (!(cond (a2 == 2) true (a2 == 3)))
                        (cond (a2 != 4)
                         (cond (!b0)
                          (cond x14
                           (some (.tuple [.agg 31 [.int .i64 x11, .int .i64 x9, .slice 42 [.agg 41 [.int .i64 x9, .int .i64 4, .int .u32 x13]] false, .slice 3 [.int .i64 x3, .int .i64 x9] false], .int .i64 0]))
                           (some (.tuple [.agg 31 [.int .i64 x11, .int .i64 x9, .slice 42 [] false, .slice 3 [.int .i64 x3, .int .i64 x9] false], .int .i64 0])))
                          (cond x15
                           (cond x16
                            (cond (inB a2 5)
                             (some (.tuple [.agg 31 [.int .i64 0, .int .i64 0, .slice 42 [] false, .slice 3 [.int .i64 x3, .int .i64 x9] false], .int .i64 x0]))
                             (none))
                            (cond x14
                             (some (.tuple [.agg 31 [.int .i64 x11, .int .i64 x9, .slice 42 [.agg 41 [.int .i64 x9, .int .i64 4, .int .u32 x13]] false, .slice 3 [.int .i64 x3, .int .i64 x9] false], .int .i64 0]))
                             (some (.tuple [.agg 31 [.int .i64 x11, .int .i64 x9, .slice 42 [] false, .slice 3 [.int .i64 x3, .int .i64 x9] false], .int .i64 0]))))
                           (none)))
                         (cond x17
                          (cond x18
                           (cond (inB a2 5)
                            (some (.tuple [.agg 31 [.int .i64 0, .int .i64 0, .slice 42 [] false, .slice 3 [.int .i64 x3, .int .i64 x9] false], .int .i64 x0]))
                            (none))
                           (cond (!b0)
                            (cond x14
                             (some (.tuple [.agg 31 [.int .i64 x11, .int .i64 x9, .slice 42 [.agg 41 [.int .i64 x9, .int .i64 4, .int .u32 x13]] false, .slice 3 [.int .i64 x3, .int .i64 x9] false], .int .i64 0]))
                             (some (.tuple [.agg 31 [.int .i64 x11, .int .i64 x9, .slice 42 [] false, .slice 3 [.int .i64 x3, .int .i64 x9] false], .int .i64 0])))
                            (cond x15
                             (cond x16
                              (cond (inB a2 5)
                               (some (.tuple [.agg 31 [.int .i64 0, .int .i64 0, .slice 42 [] false, .slice 3 [.int .i64 x3, .int .i64 x9] false], .int .i64 x0]))
                               (none))
                              (cond x14
                               (some (.tuple [.agg 31 [.int .i64 x11, .int .i64 x9, .slice 42 [.agg 41 [.int .i64 x9, .int .i64 4, .int .u32 x13]] false, .slice 3 [.int .i64 x3, .int .i64 x9] false], .int .i64 0]))
                               (some (.tuple [.agg 31 [.int .i64 x11, .int .i64 x9, .slice 42 [] false, .slice 3 [.int .i64 x3, .int .i64 x9] false], .int .i64 0]))))
                             (none))))
                          (none)))
                        (cond (okT Pg F 67 [.int .u32 x8, .int .u32 2])
                         (cond (!(aj (valT F 67 [.int .u32 x8, .int .u32 2])))
                          (cond (inB a2 5)
                           (some (.tuple [.agg 31 [.int .i64 0, .int .i64 0, .slice 42 [] false, .slice 3 [.int .i64 x3, .int .i64 x9] false], .int .i64 x0]))
                           (none))
                          (cond (a2 != 4)
                           (cond (!b0)
                            (cond x14
                             (some (.tuple [.agg 31 [.int .i64 x11, .int .i64 x9, .slice 42 [.agg 41 [.int .i64 x9, .int .i64 4, .int .u32 x13]] false, .slice 3 [.int .i64 x3, .int .i64 x9] false], .int .i64 0]))
                             (some (.tuple [.agg 31 [.int .i64 x11, .int .i64 x9, .slice 42 [] false, .slice 3 [.int .i64 x3, .int .i64 x9] false], .int .i64 0])))
                            (cond x15
                             (cond x16
                              (cond (inB a2 5)
                               (some (.tuple [.agg 31 [.int .i64 0, .int .i64 0, .slice 42 [] false, .slice 3 [.int .i64 x3, .int .i64 x9] false], .int .i64 x0]))
                               (none))
                              (cond x14
                               (some (.tuple [.agg 31 [.int .i64 x11, .int .i64 x9, .slice 42 [.agg 41 [.int .i64 x9, .int .i64 4, .int .u32 x13]] false, .slice 3 [.int .i64 x3, .int .i64 x9] false], .int .i64 0]))
                               (some (.tuple [.agg 31 [.int .i64 x11, .int .i64 x9, .slice 42 [] false, .slice 3 [.int .i64 x3, .int .i64 x9] false], .int .i64 0]))))
                             (none)))
                           (cond x17
                            (cond x18
                             (cond (inB a2 5)
                              (some (.tuple [.agg 31 [.int .i64 0, .int .i64 0, .slice 42 [] false, .slice 3 [.int .i64 x3, .int .i64 x9] false], .int .i64 x0]))
                              (none))
                             (cond (!b0)
                              (cond x14
                               (some (.tuple [.agg 31 [.int .i64 x11, .int .i64 x9, .slice 42 [.agg 41 [.int .i64 x9, .int .i64 4, .int .u32 x13]] false, .slice 3 [.int .i64 x3, .int .i64 x9] false], .int .i64 0]))
                               (some (.tuple [.agg 31 [.int .i64 x11, .int .i64 x9, .slice 42 [] false, .slice 3 [.int .i64 x3, .int .i64 x9] false], .int .i64 0])))
                              (cond x15
                               (cond x16
                                (cond (inB a2 5)
                                 (some (.tuple [.agg 31 [.int .i64 0, .int .i64 0, .slice 42 [] false, .slice 3 [.int .i64 x3, .int .i64 x9] false], .int .i64 x0]))
                                 (none))
                                (cond x14
                                 (some (.tuple [.agg 31 [.int .i64 x11, .int .i64 x9, .slice 42 [.agg 41 [.int .i64 x9, .int .i64 4, .int .u32 x13]] false, .slice 3 [.int .i64 x3, .int .i64 x9] false], .int .i64 0]))
                                 (some (.tuple [.agg 31 [.int .i64 x11, .int .i64 x9, .slice 42 [] false, .slice 3 [.int .i64 x3, .int .i64 x9] false], .int .i64 0]))))
                               (none))))
                            (none))))
                         (none))))
                      (none))
                     (none)))
                   (none))
                  (cond (inB a2 5)
                   (some (.tuple [.agg 31 [.int .i64 0, .int .i64 0, .slice 42 [] false, .slice 3 [.int .i64 x3, .int .i64 x9] false], .int .i64 x0]))
                   (none)))
                 (none))
                (none))
               (none))
              (cond (okT Pg F 65 [.agg 23 [.slice 118 l0 false], .int .u32 x6])
               (cond (!(aj (valT F 65 [.agg 23 [.slice 118 l0 false], .int .u32 x6])))
                (cond (inB a2 5)
                 (some (.tuple [.agg 31 [.int .i64 0, .int .i64 0, .slice 42 [] false, .slice 3 [.int .i64 x3] false], .int .i64 x0]))
                 (none))
                (cond (!(cond (a2 == 2) true (a2 == 3)))
                 (cond (a2 != 4)
                  (cond (!b0)
                   (cond x22
                    (some (.tuple [.agg 31 [.int .i64 x19, .int .i64 x3, .slice 42 [.agg 41 [.int .i64 x3, .int .i64 4, .int .u32 x21]] false, .slice 3 [.int .i64 x3] false], .int .i64 0]))
                    (some (.tuple [.agg 31 [.int .i64 x19, .int .i64 x3, .slice 42 [] false, .slice 3 [.int .i64 x3] false], .int .i64 0])))
                   (cond x23
                    (cond x24
                     (cond (inB a2 5)
                      (some (.tuple [.agg 31 [.int .i64 0, .int .i64 0, .slice 42 [] false, .slice 3 [.int .i64 x3] false], .int .i64 x0]))
                      (none))
                     (cond x22
                      (some (.tuple [.agg 31 [.int .i64 x19, .int .i64 x3, .slice 42 [.agg 41 [.int .i64 x3, .int .i64 4, .int .u32 x21]] false, .slice 3 [.int .i64 x3] false], .int .i64 0]))
                      (some (.tuple [.agg 31 [.int .i64 x19, .int .i64 x3, .slice 42 [] false, .slice 3 [.int .i64 x3] false], .int .i64 0]))))
                    (none)))
                  (cond x25
                   (cond x26
                    (cond (inB a2 5)
                     (some (.tuple [.agg 31 [.int .i64 0, .int .i64 0, .slice 42 [] false, .slice 3 [.int .i64 x3] false], .int .i64 x0]))
                     (none))
                    (cond (!b0)
                     (cond x22
                      (some (.tuple [.agg 31 [.int .i64 x19, .int .i64 x3, .slice 42 [.agg 41 [.int .i64 x3, .int .i64 4, .int .u32 x21]] false, .slice 3 [.int .i64 x3] false], .int .i64 0]))
                      (some (.tuple [.agg 31 [.int .i64 x19, .int .i64 x3, .slice 42 [] false, .slice 3 [.int .i64 x3] false], .int .i64 0])))
                     (cond x23
                      (cond x24
                       (cond (inB a2 5)
                        (some (.tuple [.agg 31 [.int .i64 0, .int .i64 0, .slice 42 [] false, .slice 3 [.int .i64 x3] false], .int .i64 x0]))
                        (none))
                       (cond x22
                        (some (.tuple [.agg 31 [.int .i64 x19, .int .i64 x3, .slice 42 [.agg 41 [.int .i64 x3, .int .i64 4, .int .u32 x21]] false, .slice 3 [.int .i64 x3] false], .int .i64 0]))
                        (some (.tuple [.agg 31 [.int .i64 x19, .int .i64 x3, .slice 42 [] false, .slice 3 [.int .i64 x3] false], .int .i64 0]))))
                      (none))))
                   (none)))
                 (cond (okT Pg F 67 [.int .u32 x2, .int .u32 2])
                  (cond (!(aj (valT F 67 [.int .u32 x2, .int .u32 2])))
                   (cond (inB a2 5)
                    (some (.tuple [.agg 31 [.int .i64 0, .int .i64 0, .slice 42 [] false, .slice 3 [.int .i64 x3] false], .int .i64 x0]))
                    (none))
                   (cond (a2 != 4)
                    (cond (!b0)
                     (cond x22
                      (some (.tuple [.agg 31 [.int .i64 x19, .int .i64 x3, .slice 42 [.agg 41 [.int .i64 x3, .int .i64 4, .int .u32 x21]] false, .slice 3 [.int .i64 x3] false], .int .i64 0]))
                      (some (.tuple [.agg 31 [.int .i64 x19, .int .i64 x3, .slice 42 [] false, .slice 3 [.int .i64 x3] false], .int .i64 0])))
                     (cond x23
                      (cond x24
                       (cond (inB a2 5)
                        (some (.tuple [.agg 31 [.int .i64 0, .int .i64 0, .slice 42 [] false, .slice 3 [.int .i64 x3] false], .int .i64 x0]))
                        (none))
                       (cond x22
                        (some (.tuple [.agg 31 [.int .i64 x19, .int .i64 x3, .slice 42 [.agg 41 [.int .i64 x3, .int .i64 4, .int .u32 x21]] false, .slice 3 [.int .i64 x3] false], .int .i64 0]))
                        (some (.tuple [.agg 31 [.int .i64 x19, .int .i64 x3, .slice 42 [] false, .slice 3 [.int .i64 x3] false], .int .i64 0]))))
                      (none)))
                    (cond x25
                     (cond x26
                      (cond (inB a2 5)
                       (some (.tuple [.agg 31 [.int .i64 0, .int .i64 0, .slice 42 [] false, .slice 3 [.int .i64 x3] false], .int .i64 x0]))
                       (none))
                      (cond (!b0)
                       (cond x22
                        (some (.tuple [.agg 31 [.int .i64 x19, .int .i64 x3, .slice 42 [.agg 41 [.int .i64 x3, .int .i64 4, .int .u32 x21]] false, .slice 3 [.int .i64 x3] false], .int .i64 0]))
                        (some (.tuple [.agg 31 [.int .i64 x19, .int .i64 x3, .slice 42 [] false, .slice 3 [.int .i64 x3] false], .int .i64 0])))
                       (cond x23
                        (cond x24
                         (cond (inB a2 5)
                          (some (.tuple [.agg 31 [.int .i64 0, .int .i64 0, .slice 42 [] false, .slice 3 [.int .i64 x3] false], .int .i64 x0]))
                          (none))
                         (cond x22
                          (some (.tuple [.agg 31 [.int .i64 x19, .int .i64 x3, .slice 42 [.agg 41 [.int .i64 x3, .int .i64 4, .int .u32 x21]] false, .slice 3 [.int .i64 x3] false], .int .i64 0]))
                          (some (.tuple [.agg 31 [.int .i64 x19, .int .i64 x3, .slice 42 [] false, .slice 3 [.int .i64 x3] false], .int .i64 0]))))
                        (none))))
                     (none))))
                  (none))))
               (none)))
             (none))
            (none)))
          (none))
         (cond (inB a2 5)
          (some (.tuple [.agg 31 [.int .i64 0, .int .i64 0, .slice 42 [] false, .slice 3 [.int .i64 x3] false], .int .i64 x0]))
          (none)))
        (none))
       (none)))
     (none))
    (cond (inB a2 5)
     (some (.tuple [.agg 31 [.int .i64 0, .int .i64 0, .slice 42 [] false, .slice 3 [] false], .int .i64 x0]))
     (none)))) := by kernel_rfl
set_option maxRecDepth 100000 in
theorem Dy (F : Tab) (l0 : List AV) (a0 a1 : Int) : fnV (cx F) 6 23 [.agg 23 [.slice 118 l0 false], .int .i64 a0, .int .i64 a1] =
 (let x0 : Bool := !(decide (a0 ≤ (IntKind.i64.wrap ((IntKind.i64.wrap (((l0.length : Nat) : Int) * 128)) - a1))));
  let x1 : Bool := (decide ((0 : Int) ≤ (a0.tmod 128))) && (decide ((a0.tmod 128) ≤ 128));
  let x2 : List AV := sub (partsOf (l0.getD ((IntKind.i64.wrap (a0.tdiv 128)).toNat) .dead)) ((a0.tmod 128).toNat) 128;
  let x3 : Nat := x2.length;
  let x4 : Bool := inB 0 x3;
  let x5 : Int := IntKind.u32.wrap (intOf (x2.getD 0 .dead));
  let x6 : Int := aF .or .u32 (aF .or .u32 (aF .or .u32 x5 (IntKind.u32.wrap ((IntKind.u32.wrap (intOf (x2.getD 1 .dead))) * 256))) (IntKind.u32.wrap ((IntKind.u32.wrap (intOf (x2.getD 2 .dead))) * 65536))) (IntKind.u32.wrap ((IntKind.u32.wrap (intOf (x2.getD 3 .dead))) * 16777216));
  let x7 : Bool := cond x4 (cond (inB 1 x3) (cond (inB 2 x3) (cond (inB 3 x3) true false) false) false) false;
  cond (a1 == 1)
   (cond (decide ((0 : Int) ≤ a0))
    (cond (!(a1 == 0))
     (cond ((a0.tmod a1) == 0)
      (cond x0
       (some (.tuple [.int .u32 0, .bool false]))
       (cond (inB (IntKind.i64.wrap (a0.tdiv 128)) l0.length)
        (cond x1
         (cond (a1 == 1)
          (cond x4
           (some (.tuple [.int .u32 x5, .bool true]))
           (none))
          (cond x7
           (some (.tuple [.int .u32 x6, .bool true]))
           (none)))
         (none))
        (none)))
      (some (.tuple [.int .u32 0, .bool false])))
     (none))
    (some (.tuple [.int .u32 0, .bool false])))
   (cond (a1 == 4)
    (cond (decide ((0 : Int) ≤ a0))
     (cond (!(a1 == 0))
      (cond ((a0.tmod a1) == 0)
       (cond x0
        (some (.tuple [.int .u32 0, .bool false]))
        (cond (inB (IntKind.i64.wrap (a0.tdiv 128)) l0.length)
         (cond x1
          (cond (a1 == 1)
           (cond x4
            (some (.tuple [.int .u32 x5, .bool true]))
            (none))
           (cond x7
            (some (.tuple [.int .u32 x6, .bool true]))
            (none)))
          (none))
         (none)))
       (some (.tuple [.int .u32 0, .bool false])))
      (none))
     (some (.tuple [.int .u32 0, .bool false])))
    (some (.tuple [.int .u32 0, .bool false])))) := by kernel_rfl
set_option maxRecDepth 100000 in
theorem BA (F : Tab) (l0 l1 : List AV) : fnV (cx F) 6 24 [.agg 23 [.slice 118 l0 false], .slice 42 l1 false] =
 cond (decide ((0 : Nat) < l0.length))
  (cond (decide (((0 + l0.length) * 128) ≤ 140737488355328))
   (cond (decide ((0 : Nat) < l0.length))
    (cond ((fK F l0.length l1 ((l1.length : Nat) : Int) l0 l0.length 100000 0 l0).k == 1)
     (some (.tuple [.agg 23 [.slice 118 l0 false], .bool false]))
     (cond ((fK F l0.length l1 ((l1.length : Nat) : Int) l0 l0.length 100000 0 l0).k == 2)
      (some (.tuple [.agg 23 [.slice 118 (sub ((fK F l0.length l1 ((l1.length : Nat) : Int) l0 l0.length 100000 0 l0).l.getD 0 []) 0 (0 + l0.length)) false], .bool true]))
      (none)))
    (none))
   (none))
  (none) := by kernel_rfl
set_option maxRecDepth 100000 in
theorem Dn (F : Tab) (a0 : Int) (l0 l1 : List AV) (b0 b1 b2 : Bool) (a1 : Int) (l2 : List AV) : fnV (cx F) 6 51 [.agg 104 [.int .u32 a0, .agg 102 l0, .agg 103 l1, .bool b0, .bool b1, .bool b2, .int .i64 a1], .agg 23 [.slice 118 l2 false]] =
 (let x0 : Bool := aj (valT F 108 [.agg 104 [.int .u32 a0, .agg 102 l0, .agg 103 l1, .bool b0, .bool b1, .bool b2, .int .i64 a1]]);
  cond (okT Pg F 108 [.agg 104 [.int .u32 a0, .agg 102 l0, .agg 103 l1, .bool b0, .bool b1, .bool b2, .int .i64 a1]])
   (cond (jo x0 (jo (decide (a1 < 1099511627776)) (cond (okT Pg F 16 [.agg 23 [.slice 118 l2 false]]) true false) true) true)
    (some (.bool (cond x0 (cond (decide (a1 < 1099511627776)) (aj (valT F 16 [.agg 23 [.slice 118 l2 false]])) false) false)))
    (none))
   (none)) := by kernel_rfl
set_option maxRecDepth 100000 in
theorem Dj (F : Tab)  : fnV (cx F) 6 52 [] =
 (let x0 : List AV := partsOf (valT F 109 [.int .i64 0, .int .u32 0]);
  let x1 : Int := intOf (x0.getD 0 .dead);
  let x2 : Bool := aj (x0.getD 3 .dead);
  let x3 : Bool := aj (x0.getD 4 .dead);
  let x4 : Bool := aj (x0.getD 5 .dead);
  let x5 : Int := intOf (x0.getD 6 .dead);
  let x6 : List AV := (partsOf (x0.getD 2 .dead)).set 1 (.int .u32 64);
  let x7 : List AV := (partsOf (x0.getD 1 .dead)).set 2 (.int .u32 7);
  let x8 : List AV := partsOf (valT F 53 [.agg 104 [.int .u32 x1, .agg 102 x7, .agg 103 x6, .bool x2, .bool x3, .bool x4, .int .i64 x5], .agg 23 [.slice 118 (ak ((partsOf (valT F 110 [.agg 122 [.int .i64 16, .int .i64 1, .int .i64 0, .int .i64 0, .int .i64 5]])).getD 0 .dead)) false], .int .u32 0]);
  let x9 : List AV := partsOf (x8.getD 1 .dead);
  let x10 : List AV := partsOf (valT F 53 [.agg 104 [.int .u32 x1, .agg 102 x7, .agg 103 x6, .bool x2, .bool x3, .bool x4, .int .i64 x5], .agg 23 [.slice 118 (ak ((partsOf (valT F 110 [.agg 122 [.int .i64 21, .int .i64 2, .int .i64 0, .int .i64 0, .int .i64 8]])).getD 0 .dead)) false], .int .u32 0]);
  let x11 : List AV := ak (x10.getD 4 .dead);
  let x12 : List AV := ak (x10.getD 5 .dead);
  let x13 : List AV := partsOf (valT F 53 [.agg 104 [.int .u32 x1, .agg 102 x7, .agg 103 x6, .bool x2, .bool x3, .bool x4, .int .i64 x5], .agg 23 [.slice 118 (ak ((partsOf (valT F 110 [.agg 122 [.int .i64 20, .int .i64 1, .int .i64 0, .int .i64 0, .int .i64 130]])).getD 0 .dead)) false], .int .u32 0]);
  let x14 : List AV := partsOf (x13.getD 1 .dead);
  let x15 : List AV := partsOf (valT F 53 [.agg 104 [.int .u32 x1, .agg 102 x7, .agg 103 x6, .bool x2, .bool x3, .bool x4, .int .i64 x5], .agg 23 [.slice 118 (ak ((partsOf (valT F 110 [.agg 122 [.int .i64 20, .int .i64 1, .int .i64 0, .int .i64 0, .int .i64 128]])).getD 0 .dead)) false], .int .u32 0]);
  let x16 : List AV := partsOf (valT F 53 [.agg 104 [.int .u32 x1, .agg 102 x7, .agg 103 x6, .bool x2, .bool x3, .bool x4, .int .i64 x5], .agg 23 [.slice 118 [.agg 117 [.int .u8 0, .int .u8 0, .int .u8 0, .int .u8 0, .int .u8 0, .int .u8 0, .int .u8 0, .int .u8 0, .int .u8 0, .int .u8 0, .int .u8 0, .int .u8 0, .int .u8 0, .int .u8 0, .int .u8 0, .int .u8 0, .int .u8 0, .int .u8 0, .int .u8 0, .int .u8 0, .int .u8 0, .int .u8 0, .int .u8 0, .int .u8 0, .int .u8 0, .int .u8 0, .int .u8 0, .int .u8 0, .int .u8 0, .int .u8 0, .int .u8 0, .int .u8 0, .int .u8 0, .int .u8 0, .int .u8 0, .int .u8 0, .int .u8 0, .int .u8 0, .int .u8 0, .int .u8 0, .int .u8 0, .int .u8 0, .int .u8 0, .int .u8 0, .int .u8 0, .int .u8 0, .int .u8 0, .int .u8 0, .int .u8 0, .int .u8 0, .int .u8 0, .int .u8 0, .int .u8 0, .int .u8 0, .int .u8 0, .int .u8 0, .int .u8 0, .int .u8 0, .int .u8 0, .int .u8 0, .int .u8 0, .int .u8 0, .int .u8 0, .int .u8 0, .int .u8 0, .int .u8 0, .int .u8 0, .int .u8 0, .int .u8 0, .int .u8 0, .int .u8 0, .int .u8 0, .int .u8 0, .int .u8 0, .int .u8 0, .int .u8 0, .int .u8 0, .int .u8 0, .int .u8 0, .int .u8 0, .int .u8 0, .int .u8 0, .int .u8 0, .int .u8 0, .int .u8 0, .int .u8 0, .int .u8 0, .int .u8 0, .int .u8 0, .int .u8 0, .int .u8 0, .int .u8 0, .int .u8 0, .int .u8 0, .int .u8 0, .int .u8 0, .int .u8 0, .int .u8 0, .int .u8 0, .int .u8 0, .int .u8 0, .int .u8 0, .int .u8 0, .int .u8 0, .int .u8 0, .int .u8 0, .int .u8 0, .int .u8 0, .int .u8 0, .int .u8 0, .int .u8 0, .int .u8 0, .int .u8 0, .int .u8 0, .int .u8 0, .int .u8 0, .int .u8 0, .int .u8 0, .int .u8 0, .int .u8 0, .int .u8 0, .int .u8 0, .int .u8 0, .int .u8 0, .int .u8 0, .int .u8 0, .int .u8 0, .int .u8 0]] false], .int .u32 0]);
  let x17 : List AV := partsOf (valT F 53 [.agg 104 [.int .u32 x1, .agg 102 x7, .agg 103 x6, .bool x2, .bool x3, .bool x4, .int .i64 x5], .agg 23 [.slice 118 (ak ((partsOf (valT F 110 [.agg 122 [.int .i64 40, .int .i64 0, .int .i64 0, .int .i64 0, .int .i64 0]])).getD 0 .dead)) false], .int .u32 0]);
  let x18 : List AV := partsOf (valT F 53 [.agg 104 [.int .u32 x1, .agg 102 x7, .agg 103 x6, .bool x2, .bool x3, .bool x4, .int .i64 x5], .agg 23 [.slice 118 (ak ((partsOf (valT F 110 [.agg 122 [.int .i64 46, .int .i64 1, .int .i64 0, .int .i64 0, .int .i64 33]])).getD 0 .dead)) false], .int .u32 0]);
  let x19 : List AV := partsOf (x18.getD 1 .dead);
  let x20 : List AV := partsOf (x18.getD 2 .dead);
  let x21 : Bool := aj (x18.getD 6 .dead);
  let x22 : List AV := partsOf (x18.getD 7 .dead);
  let x23 : Int := intOf (x22.getD 1 .dead);
  let x24 : List AV := partsOf (valT F 59 [.agg 111 [.bool (aj (x18.getD 0 .dead)), .agg 104 [.int .u32 (intOf (x19.getD 0 .dead)), .agg 102 (partsOf (x19.getD 1 .dead)), .agg 103 (partsOf (x19.getD 2 .dead)), .bool (aj (x19.getD 3 .dead)), .bool (aj (x19.getD 4 .dead)), .bool (aj (x19.getD 5 .dead)), .int .i64 (intOf (x19.getD 6 .dead))], .agg 104 [.int .u32 (intOf (x20.getD 0 .dead)), .agg 102 (partsOf (x20.getD 1 .dead)), .agg 103 (partsOf (x20.getD 2 .dead)), .bool (aj (x20.getD 3 .dead)), .bool (aj (x20.getD 4 .dead)), .bool (aj (x20.getD 5 .dead)), .int .i64 (intOf (x20.getD 6 .dead))], .int .u32 (intOf (x18.getD 3 .dead)), .slice 42 (ak (x18.getD 4 .dead)) false, .slice 116 (ak (x18.getD 5 .dead)) false, .bool x21, .agg 109 [.bool (aj (x22.getD 0 .dead)), .int .i64 x23, .int .u32 (intOf (x22.getD 2 .dead))], .int .i64 (intOf (x18.getD 8 .dead)), .int .u32 (intOf (x18.getD 9 .dead)), .int .i64 (intOf (x18.getD 10 .dead))], .int .u32 9, .bool true]);
  let x25 : List AV := partsOf (x24.getD 1 .dead);
  let x26 : Nat := x11.length;
  let x27 : Nat := x12.length;
  let x28 : List AV := partsOf (x11.getD 0 .dead);
  let x29 : Bool := ((intOf (x28.getD 0 .dead)) == 8) && (((intOf (x28.getD 1 .dead)) == 4) && (((intOf (x28.getD 2 .dead)) == 7) && true));
  let x30 : Bool := inB 0 x27;
  let x31 : List AV := partsOf (x12.getD 0 .dead);
  let x32 : Bool := (intOf (x31.getD 0 .dead)) == 0;
  let x33 : Bool := !(aj (x31.getD 2 .dead));
  let x34 : Bool := inB 1 x27;
  let x35 : List AV := partsOf (x12.getD 1 .dead);
  let x36 : Bool := (intOf (x35.getD 0 .dead)) == 8;
  cond (okT Pg F 109 [.int .i64 0, .int .u32 0])
   (cond (okT Pg F 110 [.agg 122 [.int .i64 16, .int .i64 1, .int .i64 0, .int .i64 0, .int .i64 5]])
    (cond (okT Pg F 53 [.agg 104 [.int .u32 x1, .agg 102 x7, .agg 103 x6, .bool x2, .bool x3, .bool x4, .int .i64 x5], .agg 23 [.slice 118 (ak ((partsOf (valT F 110 [.agg 122 [.int .i64 16, .int .i64 1, .int .i64 0, .int .i64 0, .int .i64 5]])).getD 0 .dead)) false], .int .u32 0])
     (cond (okT Pg F 110 [.agg 122 [.int .i64 21, .int .i64 2, .int .i64 0, .int .i64 0, .int .i64 8]])
      (cond (okT Pg F 53 [.agg 104 [.int .u32 x1, .agg 102 x7, .agg 103 x6, .bool x2, .bool x3, .bool x4, .int .i64 x5], .agg 23 [.slice 118 (ak ((partsOf (valT F 110 [.agg 122 [.int .i64 21, .int .i64 2, .int .i64 0, .int .i64 0, .int .i64 8]])).getD 0 .dead)) false], .int .u32 0])
       (cond (okT Pg F 110 [.agg 122 [.int .i64 20, .int .i64 1, .int .i64 0, .int .i64 0, .int .i64 130]])
        (cond (okT Pg F 53 [.agg 104 [.int .u32 x1, .agg 102 x7, .agg 103 x6, .bool x2, .bool x3, .bool x4, .int .i64 x5], .agg 23 [.slice 118 (ak ((partsOf (valT F 110 [.agg 122 [.int .i64 20, .int .i64 1, .int .i64 0, .int .i64 0, .int .i64 130]])).getD 0 .dead)) false], .int .u32 0])
         (cond (okT Pg F 110 [.agg 122 [.int .i64 20, .int .i64 1, .int .i64 0, .int .i64 0, .int .i64 128]])
          (cond (okT Pg F 53 [.agg 104 [.int .u32 x1, .agg 102 x7, .agg 103 x6, .bool x2, .bool x3, .bool x4, .int .i64 x5], .agg 23 [.slice 118 (ak ((partsOf (valT F 110 [.agg 122 [.int .i64 20, .int .i64 1, .int .i64 0, .int .i64 0, .int .i64 128]])).getD 0 .dead)) false], .int .u32 0])
           (cond (okT Pg F 53 [.agg 104 [.int .u32 x1, .agg 102 x7, .agg 103 x6, .bool x2, .bool x3, .bool x4, .int .i64 x5], .agg 23 [.slice 118 [.agg 117 [.int .u8 0, .int .u8 0, .int .u8 0, .int .u8 0, .int .u8 0, .int .u8 0, .int .u8 0, .int .u8 0, .int .u8 0, .int .u8 0, .int .u8 0, .int .u8 0, .int .u8 0, .int .u8 0, .int .u8 0, .int .u8 0, .int .u8 0, .int .u8 0, .int .u8 0, .int .u8 0, .int .u8 0, .int .u8 0, .int .u8 0, .int .u8 0, .int .u8 0, .int .u8 0, .int .u8 0, .int .u8 0, .int .u8 0, .int .u8 0, .int .u8 0, .int .u8 0, .int .u8 0, .int .u8 0, .int .u8 0, .int .u8 0, .int .u8 0, .int .u8 0, .int .u8 0, .int .u8 0, .int .u8 0, .int .u8 0, .int .u8 0, .int .u8 0, .int .u8 0, .int .u8 0, .int .u8 0, .int .u8 0, .int .u8 0, .int .u8 0, .int .u8 0, .int .u8 0, .int .u8 0, .int .u8 0, .int .u8 0, .int .u8 0, .int .u8 0, .int .u8 0, .int .u8 0, .int .u8 0, .int .u8 0, .int .u8 0, .int .u8 0, .int .u8 0, .int .u8 0, .int .u8 0, .int .u8 0, .int .u8 0, .int .u8 0, .int .u8 0, .int .u8 0, .int .u8 0, .int .u8 0, .int .u8 0, .int .u8 0, .int .u8 0, .int .u8 0, .int .u8 0, .int .u8 0, .int .u8 0, .int .u8 0, .int .u8 0, .int .u8 0, .int .u8 0, .int .u8 0, .int .u8 0, .int .u8 0, .int .u8 0, .int .u8 0, .int .u8 0, .int .u8 0, .int .u8 0, .int .u8 0, .int .u8 0, .int .u8 0, .int .u8 0, .int .u8 0, .int .u8 0, .int .u8 0, .int .u8 0, .int .u8 0, .int .u8 0, .int .u8 0, .int .u8 0, .int .u8 0, .int .u8 0, .int .u8 0, .int .u8 0, .int .u8 0, .int .u8 0, .int .u8 0, .int .u8 0, .int .u8 0, .int .u8 0, .int .u8 0, .int .u8 0, .int .u8 0, .int .u8 0, .int .u8 0, .int .u8 0, .int .u8 0, .int .u8 0, .int .u8 0, .int .u8 0, .int .u8 0, .int .u8 0, .int .u8 0, .int .u8 0]] false], .int .u32 0])
            (cond (okT Pg F 110 [.agg 122 [.int .i64 40, .int .i64 0, .int .i64 0, .int .i64 0, .int .i64 0]])
             (cond (okT Pg F 53 [.agg 104 [.int .u32 x1, .agg 102 x7, .agg 103 x6, .bool x2, .bool x3, .bool x4, .int .i64 x5], .agg 23 [.slice 118 (ak ((partsOf (valT F 110 [.agg 122 [.int .i64 40, .int .i64 0, .int .i64 0, .int .i64 0, .int .i64 0]])).getD 0 .dead)) false], .int .u32 0])
              (cond (okT Pg F 110 [.agg 122 [.int .i64 46, .int .i64 1, .int .i64 0, .int .i64 0, .int .i64 33]])
               (cond (okT Pg F 53 [.agg 104 [.int .u32 x1, .agg 102 x7, .agg 103 x6, .bool x2, .bool x3, .bool x4, .int .i64 x5], .agg 23 [.slice 118 (ak ((partsOf (valT F 110 [.agg 122 [.int .i64 46, .int .i64 1, .int .i64 0, .int .i64 0, .int .i64 33]])).getD 0 .dead)) false], .int .u32 0])
                (cond (okT Pg F 59 [.agg 111 [.bool (aj (x18.getD 0 .dead)), .agg 104 [.int .u32 (intOf (x19.getD 0 .dead)), .agg 102 (partsOf (x19.getD 1 .dead)), .agg 103 (partsOf (x19.getD 2 .dead)), .bool (aj (x19.getD 3 .dead)), .bool (aj (x19.getD 4 .dead)), .bool (aj (x19.getD 5 .dead)), .int .i64 (intOf (x19.getD 6 .dead))], .agg 104 [.int .u32 (intOf (x20.getD 0 .dead)), .agg 102 (partsOf (x20.getD 1 .dead)), .agg 103 (partsOf (x20.getD 2 .dead)), .bool (aj (x20.getD 3 .dead)), .bool (aj (x20.getD 4 .dead)), .bool (aj (x20.getD 5 .dead)), .int .i64 (intOf (x20.getD 6 .dead))], .int .u32 (intOf (x18.getD 3 .dead)), .slice 42 (ak (x18.getD 4 .dead)) false, .slice 116 (ak (x18.getD 5 .dead)) false, .bool x21, .agg 109 [.bool (aj (x22.getD 0 .dead)), .int .i64 x23, .int .u32 (intOf (x22.getD 2 .dead))], .int .i64 (intOf (x18.getD 8 .dead)), .int .u32 (intOf (x18.getD 9 .dead)), .int .i64 (intOf (x18.getD 10 .dead))], .int .u32 9, .bool true])
                 (cond (cond (!(aj (x8.getD 0 .dead))) true (cond ((intOf ((partsOf (x9.getD 1 .dead)).getD 1 .dead)) != 5) true (cond ((intOf (x9.getD 0 .dead)) != 4) true (cond ((intOf (x9.getD 6 .dead)) != 1) true (cond (((x26 : Nat) : Int) != 1) true (((x27 : Nat) : Int) != 2))))))
                  (some (.bool false))
                  (cond (cond (inB 0 x26) (jo x29 (cond x30 (jo x32 (cond x30 (jo x33 (cond x34 (jo x36 (cond x34 true false) true) false) true) false) true) false) true) false)
                   (some (.bool (cond (cond x29 (cond x32 (cond x33 (cond x36 (aj (x35.getD 2 .dead)) false) false) false) false) (cond (cond ((intOf (x13.getD 10 .dead)) == 3) (cond ((intOf ((partsOf (x14.getD 2 .dead)).getD 4 .dead)) == 130) (cond ((intOf (x14.getD 0 .dead)) == 64) (cond ((intOf (x15.getD 10 .dead)) == 5) (cond ((intOf ((partsOf ((partsOf (x15.getD 1 .dead)).getD 2 .dead)).getD 4 .dead)) == 128) (cond ((intOf (x16.getD 10 .dead)) == 2) ((intOf ((partsOf ((partsOf (x16.getD 1 .dead)).getD 2 .dead)).getD 2 .dead)) == 0) false) false) false) false) false) false) (cond ((intOf (x17.getD 10 .dead)) == 1) (cond ((intOf ((partsOf ((partsOf (x17.getD 1 .dead)).getD 2 .dead)).getD 2 .dead)) == 4) (cond x21 (cond (x23 == 33) (cond (!(aj (x24.getD 6 .dead))) (cond ((intOf ((partsOf (x25.getD 1 .dead)).getD 1 .dead)) == 9) ((intOf (x25.getD 0 .dead)) == 4) false) false) false) false) false) false) false) false)))
                   (none)))
                 (none))
                (none))
               (none))
              (none))
             (none))
            (none))
           (none))
          (none))
         (none))
        (none))
       (none))
      (none))
     (none))
    (none))
   (none)) := by kernel_rfl
set_option maxRecDepth 100000 in
theorem GJ (F : Tab) (a0 : Int) (l0 l1 : List AV) (b0 b1 b2 : Bool) (a1 : Int) (l2 : List AV) (a2 : Int) : fnV (cx F) 6 53 [.agg 104 [.int .u32 a0, .agg 102 l0, .agg 103 l1, .bool b0, .bool b1, .bool b2, .int .i64 a1], .agg 23 [.slice 118 l2 false], .int .u32 a2] =
 (let x0 : List AV := (au F a0 l0 l1 b0 b1 b2 a1 l2 a0 l0 l1 b0 b2 (IntKind.i64.wrap (a1 + 1)) l2 a2 a0 l0 l1 b0 b1 b2 a1).l.getD 1 [];
  let x1 : Int := (au F a0 l0 l1 b0 b1 b2 a1 l2 a0 l0 l1 b0 b2 (IntKind.i64.wrap (a1 + 1)) l2 a2 a0 l0 l1 b0 b1 b2 a1).i.getD 1 0;
  let x2 : List AV := (au F a0 l0 l1 b0 b1 b2 a1 l2 a0 l0 l1 b0 b2 (IntKind.i64.wrap (a1 + 1)) l2 a2 a0 l0 l1 b0 b1 b2 a1).l.getD 2 [];
  let x3 : Int := (au F a0 l0 l1 b0 b1 b2 a1 l2 a0 l0 l1 b0 b2 (IntKind.i64.wrap (a1 + 1)) l2 a2 a0 l0 l1 b0 b1 b2 a1).i.getD 2 0;
  let x4 : List AV := (au F a0 l0 l1 b0 b1 b2 a1 l2 a0 l0 l1 b0 b2 (IntKind.i64.wrap (a1 + 1)) l2 a2 a0 l0 l1 b0 b1 b2 a1).l.getD 3 [];
  let x5 : List AV := (au F a0 l0 l1 b0 b1 b2 a1 l2 a0 l0 l1 b0 b2 (IntKind.i64.wrap (a1 + 1)) l2 a2 a0 l0 l1 b0 b1 b2 a1).l.getD 4 [];
  let x6 : Int := (au F a0 l0 l1 b0 b1 b2 a1 l2 a0 l0 l1 b0 b2 (IntKind.i64.wrap (a1 + 1)) l2 a2 a0 l0 l1 b0 b1 b2 a1).i.getD 3 0;
  let x7 : Int := (au F a0 l0 l1 b0 b1 b2 a1 l2 a0 l0 l1 b0 b2 (IntKind.i64.wrap (a1 + 1)) l2 a2 a0 l0 l1 b0 b1 b2 a1).i.getD 4 0;
  let x8 : Bool := (au F a0 l0 l1 b0 b1 b2 a1 l2 a0 l0 l1 b0 b2 (IntKind.i64.wrap (a1 + 1)) l2 a2 a0 l0 l1 b0 b1 b2 a1).b.getD 0 false;
  let x9 : Bool := (au F a0 l0 l1 b0 b1 b2 a1 l2 a0 l0 l1 b0 b2 (IntKind.i64.wrap (a1 + 1)) l2 a2 a0 l0 l1 b0 b1 b2 a1).b.getD 1 false;
  let x10 : Bool := (au F a0 l0 l1 b0 b1 b2 a1 l2 a0 l0 l1 b0 b2 (IntKind.i64.wrap (a1 + 1)) l2 a2 a0 l0 l1 b0 b1 b2 a1).b.getD 2 false;
  cond (okT Pg F 60 [.agg 104 [.int .u32 a0, .agg 102 l0, .agg 103 l1, .bool b0, .bool b1, .bool b2, .int .i64 a1], .int .u32 a2])
   (cond (!(aj (valT F 60 [.agg 104 [.int .u32 a0, .agg 102 l0, .agg 103 l1, .bool b0, .bool b1, .bool b2, .int .i64 a1], .int .u32 a2])))
    (some (.agg 111 [.bool false, .agg 104 [.int .u32 a0, .agg 102 l0, .agg 103 l1, .bool b0, .bool b1, .bool b2, .int .i64 a1], .agg 104 [.int .u32 0, .agg 102 [.int .u32 0, .int .u32 0, .int .u32 0, .int .u32 0, .int .u32 0, .int .u32 0, .int .u32 0, .int .u32 0, .int .u32 0, .int .u32 0, .int .u32 0, .int .u32 0, .int .u32 0, .int .u32 0, .int .u32 0, .int .u32 0], .agg 103 [.int .u32 0, .int .u32 0, .int .u32 0, .int .u32 0, .int .u32 0, .int .u32 0, .int .u32 0, .int .u32 0, .int .u32 0], .bool false, .bool false, .bool false, .int .i64 0], .int .u32 0, .slice 42 [] false, .slice 116 [] false, .bool false, .agg 109 [.bool false, .int .i64 0, .int .u32 0], .int .i64 0, .int .u32 0, .int .i64 0]))
    (cond ((au F a0 l0 l1 b0 b1 b2 a1 l2 a0 l0 l1 b0 b2 (IntKind.i64.wrap (a1 + 1)) l2 a2 a0 l0 l1 b0 b1 b2 a1).k == 1)
     (some (.agg 111 [.bool true, .agg 104 [.int .u32 ((au F a0 l0 l1 b0 b1 b2 a1 l2 a0 l0 l1 b0 b2 (IntKind.i64.wrap (a1 + 1)) l2 a2 a0 l0 l1 b0 b1 b2 a1).i.getD 0 0), .agg 102 ((au F a0 l0 l1 b0 b1 b2 a1 l2 a0 l0 l1 b0 b2 (IntKind.i64.wrap (a1 + 1)) l2 a2 a0 l0 l1 b0 b1 b2 a1).l.getD 0 []), .agg 103 x0, .bool x8, .bool x9, .bool x10, .int .i64 x1], .agg 104 [.int .u32 a0, .agg 102 l0, .agg 103 l1, .bool b0, .bool b1, .bool b2, .int .i64 a1], .int .u32 0, .slice 42 [] false, .slice 116 [] false, .bool false, .agg 109 [.bool false, .int .i64 0, .int .u32 0], .int .i64 0, .int .u32 0, .int .i64 x3]))
     (cond ((au F a0 l0 l1 b0 b1 b2 a1 l2 a0 l0 l1 b0 b2 (IntKind.i64.wrap (a1 + 1)) l2 a2 a0 l0 l1 b0 b1 b2 a1).k == 2)
      (some (.agg 111 [.bool true, .agg 104 [.int .u32 x1, .agg 102 x0, .agg 103 x2, .bool x8, .bool x9, .bool x10, .int .i64 x3], .agg 104 [.int .u32 a0, .agg 102 l0, .agg 103 l1, .bool b0, .bool b1, .bool b2, .int .i64 a1], .int .u32 x6, .slice 42 x4 false, .slice 116 x5 false, .bool false, .agg 109 [.bool false, .int .i64 0, .int .u32 0], .int .i64 0, .int .u32 0, .int .i64 x7]))
      (cond ((au F a0 l0 l1 b0 b1 b2 a1 l2 a0 l0 l1 b0 b2 (IntKind.i64.wrap (a1 + 1)) l2 a2 a0 l0 l1 b0 b1 b2 a1).k == 3)
       (some (.agg 111 [.bool true, .agg 104 [.int .u32 x3, .agg 102 x4, .agg 103 x5, .bool ((au F a0 l0 l1 b0 b1 b2 a1 l2 a0 l0 l1 b0 b2 (IntKind.i64.wrap (a1 + 1)) l2 a2 a0 l0 l1 b0 b1 b2 a1).b.getD 3 false), .bool ((au F a0 l0 l1 b0 b1 b2 a1 l2 a0 l0 l1 b0 b2 (IntKind.i64.wrap (a1 + 1)) l2 a2 a0 l0 l1 b0 b1 b2 a1).b.getD 4 false), .bool ((au F a0 l0 l1 b0 b1 b2 a1 l2 a0 l0 l1 b0 b2 (IntKind.i64.wrap (a1 + 1)) l2 a2 a0 l0 l1 b0 b1 b2 a1).b.getD 5 false), .int .i64 x6], .agg 104 [.int .u32 a0, .agg 102 l0, .agg 103 l1, .bool b0, .bool b1, .bool b2, .int .i64 a1], .int .u32 x7, .slice 42 ((au F a0 l0 l1 b0 b1 b2 a1 l2 a0 l0 l1 b0 b2 (IntKind.i64.wrap (a1 + 1)) l2 a2 a0 l0 l1 b0 b1 b2 a1).l.getD 5 []) false, .slice 116 ((au F a0 l0 l1 b0 b1 b2 a1 l2 a0 l0 l1 b0 b2 (IntKind.i64.wrap (a1 + 1)) l2 a2 a0 l0 l1 b0 b1 b2 a1).l.getD 6 []) false, .bool ((au F a0 l0 l1 b0 b1 b2 a1 l2 a0 l0 l1 b0 b2 (IntKind.i64.wrap (a1 + 1)) l2 a2 a0 l0 l1 b0 b1 b2 a1).b.getD 6 false), .agg 109 [.bool ((au F a0 l0 l1 b0 b1 b2 a1 l2 a0 l0 l1 b0 b2 (IntKind.i64.wrap (a1 + 1)) l2 a2 a0 l0 l1 b0 b1 b2 a1).b.getD 7 false), .int .i64 ((au F a0 l0 l1 b0 b1 b2 a1 l2 a0 l0 l1 b0 b2 (IntKind.i64.wrap (a1 + 1)) l2 a2 a0 l0 l1 b0 b1 b2 a1).i.getD 5 0), .int .u32 ((au F a0 l0 l1 b0 b1 b2 a1 l2 a0 l0 l1 b0 b2 (IntKind.i64.wrap (a1 + 1)) l2 a2 a0 l0 l1 b0 b1 b2 a1).i.getD 6 0)], .int .i64 ((au F a0 l0 l1 b0 b1 b2 a1 l2 a0 l0 l1 b0 b2 (IntKind.i64.wrap (a1 + 1)) l2 a2 a0 l0 l1 b0 b1 b2 a1).i.getD 7 0), .int .u32 ((au F a0 l0 l1 b0 b1 b2 a1 l2 a0 l0 l1 b0 b2 (IntKind.i64.wrap (a1 + 1)) l2 a2 a0 l0 l1 b0 b1 b2 a1).i.getD 8 0), .int .i64 ((au F a0 l0 l1 b0 b1 b2 a1 l2 a0 l0 l1 b0 b2 (IntKind.i64.wrap (a1 + 1)) l2 a2 a0 l0 l1 b0 b1 b2 a1).i.getD 9 0)]))
       (cond ((au F a0 l0 l1 b0 b1 b2 a1 l2 a0 l0 l1 b0 b2 (IntKind.i64.wrap (a1 + 1)) l2 a2 a0 l0 l1 b0 b1 b2 a1).k == 4)
        (some (.agg 111 [.bool true, .agg 104 [.int .u32 x1, .agg 102 x2, .agg 103 l1, .bool b0, .bool false, .bool b2, .int .i64 (IntKind.i64.wrap (a1 + 1))], .agg 104 [.int .u32 a0, .agg 102 l0, .agg 103 l1, .bool b0, .bool b1, .bool b2, .int .i64 a1], .int .u32 x3, .slice 42 x4 false, .slice 116 x5 false, .bool false, .agg 109 [.bool false, .int .i64 0, .int .u32 0], .int .i64 0, .int .u32 0, .int .i64 0]))
        (none))))))
   (none)) := by kernel_rfl
set_option maxRecDepth 100000 in
theorem xP (F : Tab) (a0 a1 a2 a3 a4 : Int) : fnV (cx F) 6 55 [.agg 122 [.int .i64 a0, .int .i64 a1, .int .i64 a2, .int .i64 a3, .int .i64 a4]] =
 (let x0 : Int := intOf (valT F 112 [.int .i64 a0]);
  let x1 : Bool := x0 == 0;
  let x2 : Bool := !(aj (valT F 113 [.int .i64 a1, .bool (aj (valT F 114 [.int .i64 x0, .int .i64 1]))]));
  let x3 : Bool := !(aj (valT F 113 [.int .i64 a2, .bool (aj (valT F 114 [.int .i64 x0, .int .i64 2]))]));
  cond (okT Pg F 112 [.int .i64 a0])
   (cond (jo x1 true (cond (okT Pg F 114 [.int .i64 x0, .int .i64 1]) (cond (okT Pg F 113 [.int .i64 a1, .bool (aj (valT F 114 [.int .i64 x0, .int .i64 1]))]) (jo x2 true (cond (okT Pg F 114 [.int .i64 x0, .int .i64 2]) (cond (okT Pg F 113 [.int .i64 a2, .bool (aj (valT F 114 [.int .i64 x0, .int .i64 2]))]) (jo x3 true (cond (okT Pg F 114 [.int .i64 x0, .int .i64 3]) (cond (okT Pg F 113 [.int .i64 a3, .bool (aj (valT F 114 [.int .i64 x0, .int .i64 3]))]) true false) false)) false) false)) false) false))
    (cond (cond x1 true (cond x2 true (cond x3 true (!(aj (valT F 113 [.int .i64 a3, .bool (aj (valT F 114 [.int .i64 x0, .int .i64 3]))]))))))
     (some (.bool false))
     (cond (jo (a4 == 0) true (cond (okT Pg F 114 [.int .i64 x0, .int .i64 4]) true false))
      (some (.bool (cond (a4 == 0) true (cond (aj (valT F 114 [.int .i64 x0, .int .i64 4])) (cond (decide ((-131072 : Int) ≤ a4)) (decide (a4 ≤ 131071)) false) false))))
      (none)))
    (none))
   (none)) := by kernel_rfl
set_option maxRecDepth 100000 in
theorem vV (F : Tab) (a0 a1 a2 a3 a4 : Int) : fnV (cx F) 6 56 [.agg 122 [.int .i64 a0, .int .i64 a1, .int .i64 a2, .int .i64 a3, .int .i64 a4]] =
 (let x0 : Int := IntKind.i64.wrap ((IntKind.i64.wrap ((IntKind.i64.wrap ((IntKind.i64.wrap (a0 * 67108864)) + (IntKind.i64.wrap (a1 * 4194304)))) + (IntKind.i64.wrap (a2 * 262144)))) + (IntKind.i64.wrap (a3 * 16384)));
  cond (okT Pg F 55 [.agg 122 [.int .i64 a0, .int .i64 a1, .int .i64 a2, .int .i64 a3, .int .i64 a4]])
   (cond (!(aj (valT F 55 [.agg 122 [.int .i64 a0, .int .i64 a1, .int .i64 a2, .int .i64 a3, .int .i64 a4]])))
    (some (.agg 125 [.int .u32 0, .int .i64 1]))
    (some (.agg 125 [.int .u32 (IntKind.u32.wrap (IntKind.i64.wrap ((cond (decide (a4 < 0)) (IntKind.i64.wrap (x0 + 262144)) x0) + a4))), .int .i64 0])))
   (none)) := by kernel_rfl
set_option maxRecDepth 100000 in
theorem Dq (F : Tab) (l0 : List AV) (a0 a1 a2 : Int) : fnV (cx F) 6 57 [.agg 23 [.slice 118 l0 false], .agg 41 [.int .i64 a0, .int .i64 a1, .int .u32 a2]] =
 cond (okT Pg F 115 [.agg 23 [.slice 118 l0 false], .int .i64 a0, .int .i64 a1])
  (cond (!(aj (valT F 115 [.agg 23 [.slice 118 l0 false], .int .i64 a0, .int .i64 a1])))
   (some (.agg 128 [.agg 23 [.slice 118 l0 false], .bool false]))
   (cond (decide (((0 + l0.length) * 128) ≤ 140737488355328))
    (cond (decide ((0 : Nat) < l0.length))
     (cond ((iR F l0 a0 a1 a2 l0 l0.length l0.length 100000 0 l0).k == 1)
      (some (.agg 128 [.agg 23 [.slice 118 (sub ((iR F l0 a0 a1 a2 l0 l0.length l0.length 100000 0 l0).l.getD 0 []) 0 (0 + l0.length)) false], .bool true]))
      (none))
     (none))
    (none)))
  (none) := by kernel_rfl
set_option maxRecDepth 100000 in
theorem MK (F : Tab) (a0 a1 a2 : Int) : fnV (cx F) 6 58 [.int .i64 a0, .int .u32 a1, .int .u32 a2] =
 cond (a0 == 1)
  (some (.tuple [.int .u32 (IntKind.u32.wrap (a1 + a2)), .int .i64 0]))
  (cond (a0 == 2)
   (some (.tuple [.int .u32 (IntKind.u32.wrap (a1 - a2)), .int .i64 0]))
   (cond (a0 == 1)
    (some (.tuple [.int .u32 (IntKind.u32.wrap (a1 + a2)), .int .i64 0]))
    (cond (a0 == 2)
     (some (.tuple [.int .u32 (IntKind.u32.wrap (a1 - a2)), .int .i64 0]))
     (cond (a0 == 3)
      (some (.tuple [.int .u32 (aF .and .u32 a1 a2), .int .i64 0]))
      (cond (a0 == 4)
       (some (.tuple [.int .u32 (aF .or .u32 a1 a2), .int .i64 0]))
       (cond (a0 == 5)
        (some (.tuple [.int .u32 (aF .xor .u32 a1 a2), .int .i64 0]))
        (cond (a0 == 6)
         (cond (decide ((0 : Int) ≤ (aF .and .u32 a2 31)))
          (some (.tuple [.int .u32 (IntKind.u32.wrap (a1 * (2 ^ min (aF .and .u32 a2 31).toNat 32))), .int .i64 0]))
          (none))
         (cond (a0 == 7)
          (cond (decide ((0 : Int) ≤ (aF .and .u32 a2 31)))
           (some (.tuple [.int .u32 (a1.fdiv (2 ^ min (aF .and .u32 a2 31).toNat 32)), .int .i64 0]))
           (none))
          (cond (a0 == 8)
           (some (.tuple [.int .u32 (IntKind.u32.wrap (a1 * a2)), .int .i64 0]))
           (cond (a0 == 9)
            (cond (a2 == 0)
             (some (.tuple [.int .u32 (aF .xor .u32 4294967295 a2), .int .i64 0]))
             (cond (!(a2 == 0))
              (some (.tuple [.int .u32 (IntKind.u32.wrap (a1.tdiv a2)), .int .i64 0]))
              (none)))
            (cond (a0 == 10)
             (cond (a2 == 0)
              (some (.tuple [.int .u32 a1, .int .i64 0]))
              (cond (!(a2 == 0))
               (some (.tuple [.int .u32 (a1.tmod a2), .int .i64 0]))
               (none)))
             (cond (a0 == 11)
              (cond (okT Pg F 147 [.int .i32 (IntKind.i32.wrap a1), .int .i32 (IntKind.i32.wrap a2)])
               (some (.tuple [.int .u32 (intOf (valT F 147 [.int .i32 (IntKind.i32.wrap a1), .int .i32 (IntKind.i32.wrap a2)])), .int .i64 0]))
               (none))
              (cond (a0 == 12)
               (cond (okT Pg F 149 [.int .u32 a1, .int .u32 a2])
                (some (.tuple [.int .u32 (intOf (valT F 149 [.int .u32 a1, .int .u32 a2])), .int .i64 0]))
                (none))
               (some (.tuple [.int .u32 0, .int .i64 1]))))))))))))))) := by kernel_rfl
set_option maxRecDepth 100000 in
theorem DX (F : Tab) (b0 : Bool) (a0 : Int) (l0 l1 : List AV) (b1 b2 b3 : Bool) (a1 a2 : Int) (l2 l3 : List AV) (b4 b5 b6 : Bool) (a3 a4 : Int) (l4 l5 : List AV) (b7 b8 : Bool) (a5 a6 a7 a8 a9 a10 : Int) (b9 : Bool) : fnV (cx F) 6 59 [.agg 111 [.bool b0, .agg 104 [.int .u32 a0, .agg 102 l0, .agg 103 l1, .bool b1, .bool b2, .bool b3, .int .i64 a1], .agg 104 [.int .u32 a2, .agg 102 l2, .agg 103 l3, .bool b4, .bool b5, .bool b6, .int .i64 a3], .int .u32 a4, .slice 42 l4 false, .slice 116 l5 false, .bool b7, .agg 109 [.bool b8, .int .i64 a5, .int .u32 a6], .int .i64 a7, .int .u32 a8, .int .i64 a9], .int .u32 a10, .bool b9] =
 (let x0 : Int := intOf ((partsOf ((nT (valT F 118 [.int .u32 a4])).getD 0 .dead)).getD 1 .dead);
  let x1 : List AV := partsOf (valT F 119 [.agg 104 [.int .u32 a2, .agg 102 l2, .agg 103 l3, .bool b4, .bool b5, .bool b6, .int .i64 a3], .agg 192 [.int .i64 2, .int .u32 a4, .int .u32 a2]]);
  cond (!b7)
   (some (.agg 111 [.bool b0, .agg 104 [.int .u32 a0, .agg 102 l0, .agg 103 l1, .bool b1, .bool b2, .bool b3, .int .i64 a1], .agg 104 [.int .u32 a2, .agg 102 l2, .agg 103 l3, .bool b4, .bool b5, .bool b6, .int .i64 a3], .int .u32 a4, .slice 42 l4 false, .slice 116 l5 false, .bool b7, .agg 109 [.bool b8, .int .i64 a5, .int .u32 a6], .int .i64 a7, .int .u32 a8, .int .i64 a9]))
   (cond (okT Pg F 118 [.int .u32 a4])
    (cond (!b9)
     (cond (okT Pg F 119 [.agg 104 [.int .u32 a2, .agg 102 l2, .agg 103 l3, .bool b4, .bool b5, .bool b6, .int .i64 a3], .agg 192 [.int .i64 2, .int .u32 a4, .int .u32 a2]])
      (some (.agg 111 [.bool b0, .agg 104 [.int .u32 (intOf (x1.getD 0 .dead)), .agg 102 (partsOf (x1.getD 1 .dead)), .agg 103 (partsOf (x1.getD 2 .dead)), .bool (aj (x1.getD 3 .dead)), .bool (aj (x1.getD 4 .dead)), .bool (aj (x1.getD 5 .dead)), .int .i64 (intOf (x1.getD 6 .dead))], .agg 104 [.int .u32 a2, .agg 102 l2, .agg 103 l3, .bool b4, .bool b5, .bool b6, .int .i64 a3], .int .u32 a4, .slice 42 l4 false, .slice 116 l5 false, .bool false, .agg 109 [.bool false, .int .i64 0, .int .u32 0], .int .i64 a7, .int .u32 a8, .int .i64 2]))
      (none))
     (cond (cond b8 (x0 != 0) false)
      (cond (inB x0 16)
       (some (.agg 111 [.bool b0, .agg 104 [.int .u32 a0, .agg 102 (l0.set x0.toNat (.int .u32 a10)), .agg 103 l1, .bool b1, .bool b2, .bool b3, .int .i64 a1], .agg 104 [.int .u32 a2, .agg 102 l2, .agg 103 l3, .bool b4, .bool b5, .bool b6, .int .i64 a3], .int .u32 a4, .slice 42 l4 false, .slice 116 l5 false, .bool false, .agg 109 [.bool false, .int .i64 0, .int .u32 0], .int .i64 a7, .int .u32 a8, .int .i64 a9]))
       (none))
      (some (.agg 111 [.bool b0, .agg 104 [.int .u32 a0, .agg 102 l0, .agg 103 l1, .bool b1, .bool b2, .bool b3, .int .i64 a1], .agg 104 [.int .u32 a2, .agg 102 l2, .agg 103 l3, .bool b4, .bool b5, .bool b6, .int .i64 a3], .int .u32 a4, .slice 42 l4 false, .slice 116 l5 false, .bool false, .agg 109 [.bool false, .int .i64 0, .int .u32 0], .int .i64 a7, .int .u32 a8, .int .i64 a9]))))
    (none))) := by kernel_rfl
set_option maxRecDepth 100000 in
theorem EU (F : Tab) (a0 : Int) (l0 l1 : List AV) (b0 b1 b2 : Bool) (a1 a2 : Int) : fnV (cx F) 6 60 [.agg 104 [.int .u32 a0, .agg 102 l0, .agg 103 l1, .bool b0, .bool b1, .bool b2, .int .i64 a1], .int .u32 a2] =
 cond (jo (!b2) (jo (!b1) true (cond (okT Pg F 120 [.int .u32 a2]) true false)) true)
  (some (.bool (cond (!b2) (cond (!b1) true ((intOf (valT F 120 [.int .u32 a2])) != 0)) false)))
  (none) := by kernel_rfl
set_option maxRecDepth 100000 in
theorem DC (F : Tab) (l0 : List AV) (a0 : Int) : fnV (cx F) 6 65 [.agg 23 [.slice 118 l0 false], .int .u32 a0] =
 cond ((a0.tmod 128) == 0)
  (some (.bool (decide ((IntKind.i64.wrap a0) < (IntKind.i64.wrap (((l0.length : Nat) : Int) * 128))))))
  (some (.bool false)) := by kernel_rfl
set_option maxRecDepth 100000 in
theorem FL (F : Tab) (l0 : List AV) (a0 : Int) : fnV (cx F) 6 66 [.agg 23 [.slice 118 l0 false], .int .u32 a0] =
 cond (okT Pg F 23 [.agg 23 [.slice 118 l0 false], .int .i64 (IntKind.i64.wrap a0), .int .i64 4])
  (some (.int .u32 (intOf ((nT (valT F 23 [.agg 23 [.slice 118 l0 false], .int .i64 (IntKind.i64.wrap a0), .int .i64 4])).getD 0 .dead))))
  (none) := by kernel_rfl
set_option maxRecDepth 100000 in
theorem fu (F : Tab) (a0 a1 : Int) : fnV (cx F) 6 67 [.int .u32 a0, .int .u32 a1] =
 some (.bool ((aF .and .u32 a0 a1) == a1)) := by kernel_rfl
set_option maxRecDepth 100000 in
theorem xG (F : Tab) (a0 : Int) (l0 : List AV) : fnV (cx F) 6 68 [.int .u32 a0, .agg 23 [.slice 118 l0 false]] =
 (let x0 : Int := intOf (valT F 69 [.int .u32 a0]);
  cond (okT Pg F 67 [.int .u32 a0, .int .u32 64])
   (cond (aj (valT F 67 [.int .u32 a0, .int .u32 64]))
    (cond (okT Pg F 69 [.int .u32 a0])
     (some (.bool ((x0.tmod 4096) == 0)))
     (none))
    (cond (jo ((aF .and .u32 a0 62) == 0) (cond (okT Pg F 69 [.int .u32 a0]) (cond (okT Pg F 65 [.agg 23 [.slice 118 l0 false], .int .u32 x0]) true false) false) true)
     (some (.bool (cond ((aF .and .u32 a0 62) == 0) (aj (valT F 65 [.agg 23 [.slice 118 l0 false], .int .u32 x0])) false)))
     (none)))
   (none)) := by kernel_rfl
set_option maxRecDepth 100000 in
theorem yE (F : Tab) (a0 : Int) : fnV (cx F) 6 69 [.int .u32 a0] =
 some (.int .u32 (aF .andNot .u32 a0 127)) := by kernel_rfl
set_option maxRecDepth 100000 in
theorem Fp (F : Tab) (l0 : List AV) : fnV (cx F) 6 71 [.agg 23 [.slice 118 l0 false]] =
 some (.int .i64 (IntKind.i64.wrap (((l0.length : Nat) : Int) * 128))) := by kernel_rfl
set_option maxRecDepth 100000 in
theorem BK (F : Tab) (l0 : List AV) (a0 a1 a2 : Int) : fnV (cx F) 6 93 [.agg 23 [.slice 118 l0 false], .agg 41 [.int .i64 a0, .int .i64 a1, .int .u32 a2]] =
 (let x0 : List AV := nT (valT F 24 [.agg 23 [.slice 118 l0 false], .slice 42 [.agg 41 [.int .i64 a0, .int .i64 a1, .int .u32 a2]] false]);
  cond (okT Pg F 24 [.agg 23 [.slice 118 l0 false], .slice 42 [.agg 41 [.int .i64 a0, .int .i64 a1, .int .u32 a2]] false])
   (some (.tuple [.agg 23 [.slice 118 (ak ((partsOf (x0.getD 0 .dead)).getD 0 .dead)) false], .bool (aj (x0.getD 1 .dead))]))
   (none)) := by kernel_rfl
set_option maxRecDepth 100000 in
theorem DN (F : Tab) (a0 : Int) (l0 l1 : List AV) (b0 b1 b2 : Bool) (a1 : Int) : fnV (cx F) 6 108 [.agg 104 [.int .u32 a0, .agg 102 l0, .agg 103 l1, .bool b0, .bool b1, .bool b2, .int .i64 a1]] =
 some (.bool (cond ((intOf (l0.getD 0 .dead)) == 0) (cond (decide ((intOf (l1.getD 5 .dead)) ≤ 7)) (cond ((intOf (l1.getD 7 .dead)) == 0) (cond (decide ((intOf (l1.getD 8 .dead)) ≤ 3)) (cond (decide ((0 : Int) ≤ a1)) (cond (decide (a1 ≤ 1099511627776)) (cond (!b1) true (!b2)) false) false) false) false) false) false)) := by kernel_rfl
set_option maxRecDepth 100000 in
theorem DJ (F : Tab) (a0 a1 : Int) : fnV (cx F) 6 109 [.int .i64 a0, .int .u32 a1] =
 some (.agg 104 [.int .u32 a1, .agg 102 [.int .u32 0, .int .u32 0, .int .u32 0, .int .u32 0, .int .u32 0, .int .u32 0, .int .u32 0, .int .u32 0, .int .u32 0, .int .u32 0, .int .u32 0, .int .u32 0, .int .u32 0, .int .u32 0, .int .u32 0, .int .u32 0], .agg 103 [.int .u32 0, .int .u32 0, .int .u32 0, .int .u32 0, .int .u32 0, .int .u32 0, .int .u32 0, .int .u32 0, .int .u32 (IntKind.u32.wrap a0)], .bool false, .bool (a0 != 0), .bool false, .int .i64 0]) := by kernel_rfl
end Go.Proofs.Ytcknhfnbdgleiaa
