/- What the functions return, in terms of what they call. (Printed by a program of mine, gen.py.) -/
import Derived.Test.YtcknhfnbdgleiaaKvC
set_option linter.unusedVariables false
set_option linter.unusedSimpArgs false
namespace Go.Proofs.Ytcknhfnbdgleiaa.Keeps
open Go.AE
set_option maxRecDepth 100000 in
theorem lS (F : Tab) (a0 : Int) (l0 l1 : List AV) (b0 b1 b2 : Bool) (a1 : Int) (l2 : List AV) (a2 a3 : Int) (b3 : Bool) : fnV (cx F) 6 15 [.agg 104 [.int .u32 a0, .agg 102 l0, .agg 103 l1, .bool b0, .bool b1, .bool b2, .int .i64 a1], .agg 23 [.slice 118 l2 false], .int .u32 a2, .int .u32 a3, .bool b3] =
 (let x0 : List AV := partsOf (valT F 53 [.agg 104 [.int .u32 a0, .agg 102 l0, .agg 103 l1, .bool b0, .bool b1, .bool b2, .int .i64 a1], .agg 23 [.slice 118 l2 false], .int .u32 a2]);
  let x1 : List AV := partsOf (x0.getD 1 .dead);
  let x2 : List AV := partsOf (x0.getD 2 .dead);
  let x3 : List AV := partsOf (x0.getD 7 .dead);
  let x4 : List AV := partsOf (valT F 59 [.agg 111 [.bool (aj (x0.getD 0 .dead)), .agg 104 [.int .u32 (intOf (x1.getD 0 .dead)), .agg 102 (partsOf (x1.getD 1 .dead)), .agg 103 (partsOf (x1.getD 2 .dead)), .bool (aj (x1.getD 3 .dead)), .bool (aj (x1.getD 4 .dead)), .bool (aj (x1.getD 5 .dead)), .int .i64 (intOf (x1.getD 6 .dead))], .agg 104 [.int .u32 (intOf (x2.getD 0 .dead)), .agg 102 (partsOf (x2.getD 1 .dead)), .agg 103 (partsOf (x2.getD 2 .dead)), .bool (aj (x2.getD 3 .dead)), .bool (aj (x2.getD 4 .dead)), .bool (aj (x2.getD 5 .dead)), .int .i64 (intOf (x2.getD 6 .dead))], .int .u32 (intOf (x0.getD 3 .dead)), .slice 42 (ak (x0.getD 4 .dead)) false, .slice 116 (ak (x0.getD 5 .dead)) false, .bool (aj (x0.getD 6 .dead)), .agg 109 [.bool (aj (x3.getD 0 .dead)), .int .i64 (intOf (x3.getD 1 .dead)), .int .u32 (intOf (x3.getD 2 .dead))], .int .i64 (intOf (x0.getD 8 .dead)), .int .u32 (intOf (x0.getD 9 .dead)), .int .i64 (intOf (x0.getD 10 .dead))], .int .u32 a3, .bool b3]);
  let x5 : Bool := aj (x4.getD 0 .dead);
  let x6 : List AV := partsOf (x4.getD 1 .dead);
  let x7 : Int := intOf (x6.getD 0 .dead);
  let x8 : List AV := partsOf (x6.getD 1 .dead);
  let x9 : List AV := partsOf (x6.getD 2 .dead);
  let x10 : Bool := aj (x6.getD 3 .dead);
  let x11 : Bool := aj (x6.getD 4 .dead);
  let x12 : Bool := aj (x6.getD 5 .dead);
  let x13 : Int := intOf (x6.getD 6 .dead);
  let x14 : List AV := partsOf (x4.getD 2 .dead);
  let x15 : Int := intOf (x14.getD 0 .dead);
  let x16 : List AV := partsOf (x14.getD 1 .dead);
  let x17 : List AV := partsOf (x14.getD 2 .dead);
  let x18 : Bool := aj (x14.getD 3 .dead);
  let x19 : Bool := aj (x14.getD 4 .dead);
  let x20 : Bool := aj (x14.getD 5 .dead);
  let x21 : Int := intOf (x14.getD 6 .dead);
  let x22 : List AV := ak (x4.getD 4 .dead);
  let x23 : List AV := ak (x4.getD 5 .dead);
  let x24 : Bool := aj (x4.getD 6 .dead);
  let x25 : List AV := partsOf (x4.getD 7 .dead);
  let x26 : Int := intOf (x4.getD 10 .dead);
  let x27 : Bool := !(x5 == (aj (valT F 60 [.agg 104 [.int .u32 a0, .agg 102 l0, .agg 103 l1, .bool b0, .bool b1, .bool b2, .int .i64 a1], .int .u32 a2])));
  let x28 : Bool := eqVs x8 l0;
  let x29 : Int := ((x22.length : Nat) : Int);
  let x30 : List AV := nV (valT F 24 [.agg 23 [.slice 118 l2 false], .slice 42 x22 false]);
  let x31 : Bool := aj (x30.getD 1 .dead);
  let x32 : Int := intOf (x9.getD 5 .dead);
  cond (okT Pg F 51 [.agg 104 [.int .u32 a0, .agg 102 l0, .agg 103 l1, .bool b0, .bool b1, .bool b2, .int .i64 a1], .agg 23 [.slice 118 l2 false]])
   (cond (!(aj (valT F 51 [.agg 104 [.int .u32 a0, .agg 102 l0, .agg 103 l1, .bool b0, .bool b1, .bool b2, .int .i64 a1], .agg 23 [.slice 118 l2 false]])))
    (cond (okT Pg F 52 [])
     (some (.bool (aj (valT F 52 []))))
     (none))
    (cond (okT Pg F 53 [.agg 104 [.int .u32 a0, .agg 102 l0, .agg 103 l1, .bool b0, .bool b1, .bool b2, .int .i64 a1], .agg 23 [.slice 118 l2 false], .int .u32 a2])
     (cond (okT Pg F 59 [.agg 111 [.bool (aj (x0.getD 0 .dead)), .agg 104 [.int .u32 (intOf (x1.getD 0 .dead)), .agg 102 (partsOf (x1.getD 1 .dead)), .agg 103 (partsOf (x1.getD 2 .dead)), .bool (aj (x1.getD 3 .dead)), .bool (aj (x1.getD 4 .dead)), .bool (aj (x1.getD 5 .dead)), .int .i64 (intOf (x1.getD 6 .dead))], .agg 104 [.int .u32 (intOf (x2.getD 0 .dead)), .agg 102 (partsOf (x2.getD 1 .dead)), .agg 103 (partsOf (x2.getD 2 .dead)), .bool (aj (x2.getD 3 .dead)), .bool (aj (x2.getD 4 .dead)), .bool (aj (x2.getD 5 .dead)), .int .i64 (intOf (x2.getD 6 .dead))], .int .u32 (intOf (x0.getD 3 .dead)), .slice 42 (ak (x0.getD 4 .dead)) false, .slice 116 (ak (x0.getD 5 .dead)) false, .bool (aj (x0.getD 6 .dead)), .agg 109 [.bool (aj (x3.getD 0 .dead)), .int .i64 (intOf (x3.getD 1 .dead)), .int .u32 (intOf (x3.getD 2 .dead))], .int .i64 (intOf (x0.getD 8 .dead)), .int .u32 (intOf (x0.getD 9 .dead)), .int .i64 (intOf (x0.getD 10 .dead))], .int .u32 a3, .bool b3])
      (cond (cond (okT Pg F 60 [.agg 104 [.int .u32 a0, .agg 102 l0, .agg 103 l1, .bool b0, .bool b1, .bool b2, .int .i64 a1], .int .u32 a2]) (qz x27 true (cond (okT Pg F 61 [.agg 104 [.int .u32 x7, .agg 102 x8, .agg 103 x9, .bool x10, .bool x11, .bool x12, .int .i64 x13]]) true false)) false)
       (cond (cond x27 true (cond (!(aj (valT F 61 [.agg 104 [.int .u32 x7, .agg 102 x8, .agg 103 x9, .bool x10, .bool x11, .bool x12, .int .i64 x13]]))) true x24))
        (some (.bool false))
        (cond (!x5)
         (cond (cond (okT Pg F 52 []) true false)
          (some (.bool (cond (aj (valT F 52 [])) (cond ((x7 == a0) && (x28 && ((eqVs x9 l1) && ((x10 == b0) && ((x11 == b1) && ((x12 == b2) && ((x13 == a1) && true))))))) (cond (x29 == 0) (((x23.length : Nat) : Int) == 0) false) false) false)))
          (none))
         (cond (okT Pg F 24 [.agg 23 [.slice 118 l2 false], .slice 42 x22 false])
          (cond ((aQ F x31 a0 l0 l1 b0 b1 b2 a1 l2 x5 x7 x8 x9 x10 x11 x12 x13 x15 x16 x17 x18 x19 x20 x21 (intOf (x4.getD 3 .dead)) x22 x23 x24 (aj (x25.getD 0 .dead)) (intOf (x25.getD 1 .dead)) (intOf (x25.getD 2 .dead)) (intOf (x4.getD 8 .dead)) (intOf (x4.getD 9 .dead)) x26 (ak ((partsOf (x30.getD 0 .dead)).getD 0 .dead)) 100000 0 0).k == 1)
           (some (.bool false))
           (cond ((aQ F x31 a0 l0 l1 b0 b1 b2 a1 l2 x5 x7 x8 x9 x10 x11 x12 x13 x15 x16 x17 x18 x19 x20 x21 (intOf (x4.getD 3 .dead)) x22 x23 x24 (aj (x25.getD 0 .dead)) (intOf (x25.getD 1 .dead)) (intOf (x25.getD 2 .dead)) (intOf (x4.getD 8 .dead)) (intOf (x4.getD 9 .dead)) x26 (ak ((partsOf (x30.getD 0 .dead)).getD 0 .dead)) 100000 0 0).k == 2)
            (cond (cond (!x31) true (cond (((aQ F x31 a0 l0 l1 b0 b1 b2 a1 l2 x5 x7 x8 x9 x10 x11 x12 x13 x15 x16 x17 x18 x19 x20 x21 (intOf (x4.getD 3 .dead)) x22 x23 x24 (aj (x25.getD 0 .dead)) (intOf (x25.getD 1 .dead)) (intOf (x25.getD 2 .dead)) (intOf (x4.getD 8 .dead)) (intOf (x4.getD 9 .dead)) x26 (ak ((partsOf (x30.getD 0 .dead)).getD 0 .dead)) 100000 0 0).i.getD 0 0) != x29) true (cond (x13 != (IntKind.i64.wrap (a1 + 1))) true (!((x15 == a0) && ((eqVs x16 l0) && ((eqVs x17 l1) && ((x18 == b0) && ((x19 == b1) && ((x20 == b2) && ((x21 == a1) && true)))))))))))
             (some (.bool false))
             (cond (x26 == 0)
              (cond (okT Pg F 52 [])
               (some (.bool (aj (valT F 52 []))))
               (none))
              (cond (cond (okT Pg F 52 []) true false)
               (some (.bool (cond (aj (valT F 52 [])) (cond (x7 == (intOf (l1.getD 1 .dead))) (cond (!x10) (cond ((aC .and .u32 x32 1) == 0) (cond ((intOf (x9.getD 3 .dead)) == (IntKind.u32.wrap x26)) (cond x28 (((aC .and .u32 x32 4) != 0) == b0) false) false) false) false) false) false)))
               (none))))
            (none)))
          (none))))
       (none))
      (none))
     (none)))
   (none)) := by kernel_rfl
end Go.Proofs.Ytcknhfnbdgleiaa.Keeps
