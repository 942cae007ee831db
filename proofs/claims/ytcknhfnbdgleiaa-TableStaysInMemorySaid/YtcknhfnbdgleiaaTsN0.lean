/- What the functions return, in terms of what they call. (Printed by a program of mine, gen.py.) -/
import Derived.Test.YtcknhfnbdgleiaaTsC
set_option linter.unusedVariables false
set_option linter.unusedSimpArgs false
namespace Go.Proofs.Ytcknhfnbdgleiaa.S2
open Go.AE
set_option maxRecDepth 100000 in
theorem nf_law10_TableStaysInMemory (F : Tab) (l0 : List AV) (a0 a1 a2 : Int) (b0 : Bool) : fnV (cx F) 6 4 [.agg 23 [.slice 118 l0 false], .int .u32 a0, .int .u32 a1, .int .i64 a2, .bool b0] =
  (let x0 : Bool := !(boolOf (valT F 16 [.agg 23 [.slice 118 l0 false]]));
   let x1 : List AV := tupOf (valT F 19 [.agg 23 [.slice 118 l0 false], .int .u32 a0, .int .u32 a1, .int .i64 a2, .bool b0]);
   let x2 : List AV := partsOf (x1.getD 0 .dead);
   let x3 : Int := intOf (x2.getD 0 .dead);
   let x4 : Int := intOf (x2.getD 1 .dead);
   let x5 : List AV := listOf (x2.getD 2 .dead);
   let x6 : List AV := listOf (x2.getD 3 .dead);
   let x7 : Int := ((x5.length : Nat) : Int);
   let x8 : Bool := x7 == 0;
   let x9 : Nat := x6.length;
   let x10 : Int := ((x9 : Nat) : Int);
   let x11 : Bool := decide (x3 < 0);
   let x12 : Bool := x10 == 0;
   let x13 : Int := IntKind.i64.wrap (x10 - 1);
   let x14 : Bool := x10 == 2;
   let x15 : List AV := tupOf (valT F 24 [.agg 23 [.slice 118 l0 false], .slice 42 x5 false]);
   let x16 : List AV := tupOf (valT F 19 [.agg 23 [.slice 118 (listOf ((partsOf (x15.getD 0 .dead)).getD 0 .dead)) false], .int .u32 a0, .int .u32 a1, .int .i64 a2, .bool b0]);
   let x17 : List AV := partsOf (x16.getD 0 .dead);
   cond (cond (okT Pg F 16 [.agg 23 [.slice 118 l0 false]]) (condB x0 true (cond (okT Pg F 17 [.int .i64 a2]) true false)) false)
    (cond (cond x0 true (!(boolOf (valT F 17 [.int .i64 a2]))))
     (cond (okT Pg F 18 [])
      (some (.bool (boolOf (valT F 18 []))))
      (none))
     (cond (okT Pg F 19 [.agg 23 [.slice 118 l0 false], .int .u32 a0, .int .u32 a1, .int .i64 a2, .bool b0])
      (cond ((intOf (x1.getD 1 .dead)) != 0)
       (cond (cond (okT Pg F 18 []) true false)
        (some (.bool (cond (boolOf (valT F 18 [])) (cond (x3 == 0) (cond (x4 == 0) (cond x8 (decide (x10 ≤ 2)) false) false) false) false)))
        (none))
       (cond (condB x11 true (cond (okT Pg F 22 [.agg 23 [.slice 118 l0 false]]) true false))
        (cond (cond x11 true (cond (decide ((intOf (valT F 22 [.agg 23 [.slice 118 l0 false]])) ≤ x3)) true (cond ((x3.tmod 128) != ((IntKind.i64.wrap a1).tmod 128)) true (cond (decide ((1 : Int) < x7)) true (cond (decide ((2 : Int) < x10)) true (!((decide (x4 < 0)) == (a0 == 0))))))))
         (some (.bool false))
         (cond (a0 == 0)
          (cond (cond (okT Pg F 18 []) true false)
           (some (.bool (cond (boolOf (valT F 18 [])) (cond (x3 == (IntKind.i64.wrap a1)) (cond x8 x12 false) false) false)))
           (none))
          (cond (condB x12 true (cond (inB x13 x9) true false))
           (cond (cond x12 true ((intOf (x6.getD x13.toNat .dead)) != x4))
            (some (.bool false))
            (cond ((lf_law10_TableStaysInMemory_13 F a0 a1 a2 b0 x5 x7 l0 x3 x4 x5 x6 100000 0).k == 1)
             (some (.bool false))
             (cond ((lf_law10_TableStaysInMemory_13 F a0 a1 a2 b0 x5 x7 l0 x3 x4 x5 x6 100000 0).k == 2)
              (cond (condB x14 (cond (inB 0 x9) true false) true)
               (cond (cond x14 ((intOf (x6.getD 0 .dead)) == x4) false)
                (cond (okT Pg F 18 [])
                 (some (.bool (boolOf (valT F 18 []))))
                 (none))
                (cond (okT Pg F 24 [.agg 23 [.slice 118 l0 false], .slice 42 x5 false])
                 (cond (okT Pg F 19 [.agg 23 [.slice 118 (listOf ((partsOf (x15.getD 0 .dead)).getD 0 .dead)) false], .int .u32 a0, .int .u32 a1, .int .i64 a2, .bool b0])
                  (cond (cond (okT Pg F 18 []) true false)
                   (some (.bool (cond (boolOf (valT F 18 [])) (cond (boolOf (x15.getD 1 .dead)) (cond ((intOf (x16.getD 1 .dead)) == 0) (cond ((intOf (x17.getD 0 .dead)) == x3) (cond ((intOf (x17.getD 1 .dead)) == x4) ((((listOf (x17.getD 2 .dead)).length : Nat) : Int) == 0) false) false) false) false) false)))
                   (none))
                  (none))
                 (none)))
               (none))
              (none))))
           (none))))
        (none)))
      (none)))
    (none)) := by kernel_rfl
end Go.Proofs.Ytcknhfnbdgleiaa.S2
