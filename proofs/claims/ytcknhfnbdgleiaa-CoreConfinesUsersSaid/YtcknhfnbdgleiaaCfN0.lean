/- What the functions return, in terms of what they call. (Printed by a program of mine, gen.py.) -/
import Derived.Test.YtcknhfnbdgleiaaCfC
set_option linter.unusedVariables false
set_option linter.unusedSimpArgs false
namespace Go.Proofs.Ytcknhfnbdgleiaa.Confines
open Go.AE
set_option maxRecDepth 100000 in
theorem Ov (F : Tab) (a0 : Int) (l0 l1 : List AV) (b0 b1 b2 : Bool) (a1 : Int) (l2 : List AV) (a2 : Int) : aS (cx F) 6 13 [.agg 104 [.int .u32 a0, .agg 102 l0, .agg 103 l1, .bool b0, .bool b1, .bool b2, .int .i64 a1], .agg 23 [.slice 118 l2 false], .int .u32 a2] =
 (let x0 : List AV := partsOf (aB F 53 [.agg 104 [.int .u32 a0, .agg 102 l0, .agg 103 l1, .bool b0, .bool b1, .bool b2, .int .i64 a1], .agg 23 [.slice 118 l2 false], .int .u32 a2]);
  let x1 : Bool := aj (x0.getD 0 .dead);
  let x2 : List AV := partsOf (x0.getD 1 .dead);
  let x3 : List AV := partsOf (x2.getD 2 .dead);
  let x4 : Bool := aj (x2.getD 3 .dead);
  let x5 : Bool := aj (x2.getD 4 .dead);
  let x6 : Bool := aj (x2.getD 5 .dead);
  let x7 : List AV := partsOf (x0.getD 2 .dead);
  let x8 : Bool := aj (x0.getD 6 .dead);
  let x9 : List AV := partsOf (x0.getD 7 .dead);
  let x10 : Bool := aj (x9.getD 0 .dead);
  let x11 : Int := intOf (x9.getD 1 .dead);
  let x12 : Int := intOf (x9.getD 2 .dead);
  let x13 : Int := intOf (x0.getD 8 .dead);
  let x14 : Int := intOf (x0.getD 10 .dead);
  cond (cond (aC Pg F 51 [.agg 104 [.int .u32 a0, .agg 102 l0, .agg 103 l1, .bool b0, .bool b1, .bool b2, .int .i64 a1], .agg 23 [.slice 118 l2 false]]) true false)
   (cond (cond (!(aj (aB F 51 [.agg 104 [.int .u32 a0, .agg 102 l0, .agg 103 l1, .bool b0, .bool b1, .bool b2, .int .i64 a1], .agg 23 [.slice 118 l2 false]]))) true (!b0))
    (cond (aC Pg F 52 [])
     (some (.bool (aj (aB F 52 []))))
     (none))
    (cond (aC Pg F 53 [.agg 104 [.int .u32 a0, .agg 102 l0, .agg 103 l1, .bool b0, .bool b1, .bool b2, .int .i64 a1], .agg 23 [.slice 118 l2 false], .int .u32 a2])
     (cond (cond x8 true (cond (x13 != 0) true (!((x10 == false) && ((x11 == 0) && ((x12 == 0) && true))))))
      (some (.bool false))
      (cond (cond x1 (cond (x14 == 0) (cond (!(jX x3 l1)) true (cond (!x4) true (cond (!(x6 == b2)) true x5))) false) false)
       (some (.bool false))
       (cond ((intOf (l1.getD 0 .dead)) == 0)
        (cond (aC Pg F 52 [])
         (some (.bool (aj (aB F 52 []))))
         (none))
        (cond (aC Pg F 34 [.agg 23 [.slice 118 l2 false], .int .u32 (intOf (l1.getD 0 .dead))])
         (cond ((zO F (ak (aB F 34 [.agg 23 [.slice 118 l2 false], .int .u32 (intOf (l1.getD 0 .dead))])) a0 l0 l1 b0 b1 b2 a1 l2 x1 (intOf (x2.getD 0 .dead)) (partsOf (x2.getD 1 .dead)) x3 x4 x5 x6 (intOf (x2.getD 6 .dead)) (intOf (x7.getD 0 .dead)) (partsOf (x7.getD 1 .dead)) (partsOf (x7.getD 2 .dead)) (aj (x7.getD 3 .dead)) (aj (x7.getD 4 .dead)) (aj (x7.getD 5 .dead)) (intOf (x7.getD 6 .dead)) (intOf (x0.getD 3 .dead)) (ak (x0.getD 4 .dead)) (ak (x0.getD 5 .dead)) x8 x10 x11 x12 x13 (intOf (x0.getD 9 .dead)) x14 100000 0).k == 1)
          (some (.bool false))
          (cond ((zO F (ak (aB F 34 [.agg 23 [.slice 118 l2 false], .int .u32 (intOf (l1.getD 0 .dead))])) a0 l0 l1 b0 b1 b2 a1 l2 x1 (intOf (x2.getD 0 .dead)) (partsOf (x2.getD 1 .dead)) x3 x4 x5 x6 (intOf (x2.getD 6 .dead)) (intOf (x7.getD 0 .dead)) (partsOf (x7.getD 1 .dead)) (partsOf (x7.getD 2 .dead)) (aj (x7.getD 3 .dead)) (aj (x7.getD 4 .dead)) (aj (x7.getD 5 .dead)) (intOf (x7.getD 6 .dead)) (intOf (x0.getD 3 .dead)) (ak (x0.getD 4 .dead)) (ak (x0.getD 5 .dead)) x8 x10 x11 x12 x13 (intOf (x0.getD 9 .dead)) x14 100000 0).k == 2)
           (cond (aC Pg F 52 [])
            (some (.bool (aj (aB F 52 []))))
            (none))
           (none)))
         (none)))))
     (none)))
   (none)) := by kernel_rfl
end Go.Proofs.Ytcknhfnbdgleiaa.Confines
