/- What the functions return, in terms of what they call. (Printed by a program of mine, gen.py.) -/
import Derived.Test.YtcknhfnbdgleiaaCpC
set_option linter.unusedVariables false
set_option linter.unusedSimpArgs false
namespace Go.Proofs.Ytcknhfnbdgleiaa.Computes
open Go.AE
set_option maxRecDepth 100000 in
theorem eX (F : Tab) (a0 : Int) (l0 l1 : List AV) (b0 b1 b2 : Bool) (a1 : Int) (l2 : List AV) (a2 a3 a4 a5 a6 : Int) : fnV (cx F) 6 14 [.agg 104 [.int .u32 a0, .agg 102 l0, .agg 103 l1, .bool b0, .bool b1, .bool b2, .int .i64 a1], .agg 23 [.slice 118 l2 false], .agg 122 [.int .i64 a2, .int .i64 a3, .int .i64 a4, .int .i64 a5, .int .i64 a6]] =
 (let x0 : Bool := !(aj (valT F 51 [.agg 104 [.int .u32 a0, .agg 102 l0, .agg 103 l1, .bool b0, .bool b1, .bool b2, .int .i64 a1], .agg 23 [.slice 118 l2 false]]));
  let x1 : Bool := decide ((IntKind.i64.wrap ((IntKind.i64.wrap (((l2.length : Nat) : Int) * 128)) - 4)) < (IntKind.i64.wrap a0));
  let x2 : Bool := !(aj (valT F 55 [.agg 122 [.int .i64 a2, .int .i64 a3, .int .i64 a4, .int .i64 a5, .int .i64 a6]]));
  let x3 : Bool := cond (okT Pg F 55 [.agg 122 [.int .i64 a2, .int .i64 a3, .int .i64 a4, .int .i64 a5, .int .i64 a6]]) true false;
  let x4 : List AV := partsOf (valT F 56 [.agg 122 [.int .i64 a2, .int .i64 a3, .int .i64 a4, .int .i64 a5, .int .i64 a6]]);
  let x5 : Int := intOf (x4.getD 0 .dead);
  let x6 : Int := intOf (x4.getD 1 .dead);
  let x7 : List AV := partsOf (valT F 57 [.agg 23 [.slice 118 l2 false], .agg 41 [.int .i64 (IntKind.i64.wrap a0), .int .i64 4, .int .u32 x5]]);
  let x8 : List AV := ak ((partsOf (x7.getD 0 .dead)).getD 0 .dead);
  let x9 : Bool := aj (x7.getD 1 .dead);
  let x10 : List AV := partsOf (valT F 53 [.agg 104 [.int .u32 a0, .agg 102 l0, .agg 103 l1, .bool b0, .bool b1, .bool b2, .int .i64 a1], .agg 23 [.slice 118 x8 false], .int .u32 0]);
  let x11 : Bool := aj (x10.getD 0 .dead);
  let x12 : List AV := partsOf (x10.getD 1 .dead);
  let x13 : Int := intOf (x12.getD 0 .dead);
  let x14 : List AV := partsOf (x12.getD 1 .dead);
  let x15 : List AV := partsOf (x12.getD 2 .dead);
  let x16 : Bool := aj (x12.getD 3 .dead);
  let x17 : Bool := aj (x12.getD 4 .dead);
  let x18 : Bool := aj (x12.getD 5 .dead);
  let x19 : Int := intOf (x12.getD 6 .dead);
  let x20 : List AV := partsOf (x10.getD 2 .dead);
  let x21 : Int := intOf (x20.getD 0 .dead);
  let x22 : List AV := partsOf (x20.getD 1 .dead);
  let x23 : List AV := partsOf (x20.getD 2 .dead);
  let x24 : Bool := aj (x20.getD 3 .dead);
  let x25 : Bool := aj (x20.getD 4 .dead);
  let x26 : Bool := aj (x20.getD 5 .dead);
  let x27 : Int := intOf (x20.getD 6 .dead);
  let x28 : Int := intOf (x10.getD 3 .dead);
  let x29 : List AV := ak (x10.getD 4 .dead);
  let x30 : List AV := ak (x10.getD 5 .dead);
  let x31 : Bool := aj (x10.getD 6 .dead);
  let x32 : List AV := partsOf (x10.getD 7 .dead);
  let x33 : Bool := aj (x32.getD 0 .dead);
  let x34 : Int := intOf (x32.getD 1 .dead);
  let x35 : Int := intOf (x32.getD 2 .dead);
  let x36 : Int := intOf (x10.getD 8 .dead);
  let x37 : Int := intOf (x10.getD 9 .dead);
  let x38 : Int := intOf (x10.getD 10 .dead);
  let x39 : List AV := nT (valT F 58 [.int .i64 1, .int .u32 (intOf (l0.getD a4.toNat .dead)), .int .u32 (IntKind.u32.wrap a6)]);
  let x40 : List AV := nT (valT F 58 [.int .i64 a2, .int .u32 (intOf (l0.getD a4.toNat .dead)), .int .u32 (intOf (l0.getD a5.toNat .dead))]);
  let x41 : Bool := cond (!x11) true (cond (x38 != 0) true (cond (x13 != (IntKind.u32.wrap (a0 + 4))) true (((x29.length : Nat) : Int) != 0)));
  cond (cond (okT Pg F 51 [.agg 104 [.int .u32 a0, .agg 102 l0, .agg 103 l1, .bool b0, .bool b1, .bool b2, .int .i64 a1], .agg 23 [.slice 118 l2 false]]) (jo x0 true (jo ((intOf (l1.getD 0 .dead)) != 0) true (jo ((a0.tmod 4) != 0) true (jo x1 true (jo b1 true (jo b2 true (jo (!(cond (decide ((1 : Int) ≤ a2)) (decide (a2 ≤ 12)) false)) (jo (a2 != 16) true x3) x3))))))) false)
   (cond (cond x0 true (cond ((intOf (l1.getD 0 .dead)) != 0) true (cond ((a0.tmod 4) != 0) true (cond x1 true (cond b1 true (cond b2 true (cond (!(cond (decide ((1 : Int) ≤ a2)) (decide (a2 ≤ 12)) false)) (cond (a2 != 16) true x2) x2)))))))
    (cond (okT Pg F 52 [])
     (some (.bool (aj (valT F 52 []))))
     (none))
    (cond (okT Pg F 56 [.agg 122 [.int .i64 a2, .int .i64 a3, .int .i64 a4, .int .i64 a5, .int .i64 a6]])
     (cond (okT Pg F 57 [.agg 23 [.slice 118 l2 false], .agg 41 [.int .i64 (IntKind.i64.wrap a0), .int .i64 4, .int .u32 x5]])
      (cond (okT Pg F 53 [.agg 104 [.int .u32 a0, .agg 102 l0, .agg 103 l1, .bool b0, .bool b1, .bool b2, .int .i64 a1], .agg 23 [.slice 118 x8 false], .int .u32 0])
       (cond (cond (inB a4 16) (cond (okT Pg F 58 [.int .i64 1, .int .u32 (intOf (l0.getD a4.toNat .dead)), .int .u32 (IntKind.u32.wrap a6)]) true false) false)
        (cond (cond (decide ((1 : Int) ≤ a2)) (decide (a2 ≤ 12)) false)
         (cond (cond (inB a4 16) (cond (inB a5 16) (cond (okT Pg F 58 [.int .i64 a2, .int .u32 (intOf (l0.getD a4.toNat .dead)), .int .u32 (intOf (l0.getD a5.toNat .dead))]) true false) false) false)
          (cond (cond ((intOf (x40.getD 1 .dead)) != 0) true x41)
           (some (.bool false))
           (cond ((aN F (intOf (x40.getD 0 .dead)) a0 l0 l1 b0 b1 b2 a1 l2 a2 a3 a4 a5 a6 x5 x6 x8 x9 x11 x13 x14 x15 x16 x17 x18 x19 x21 x22 x23 x24 x25 x26 x27 x28 x29 x30 x31 x33 x34 x35 x36 x37 x38 100000 0).k == 1)
            (some (.bool false))
            (cond ((aN F (intOf (x40.getD 0 .dead)) a0 l0 l1 b0 b1 b2 a1 l2 a2 a3 a4 a5 a6 x5 x6 x8 x9 x11 x13 x14 x15 x16 x17 x18 x19 x21 x22 x23 x24 x25 x26 x27 x28 x29 x30 x31 x33 x34 x35 x36 x37 x38 100000 0).k == 2)
             (cond (okT Pg F 52 [])
              (some (.bool (aj (valT F 52 []))))
              (none))
             (none))))
          (none))
         (cond (cond ((intOf (x39.getD 1 .dead)) != 0) true x41)
          (some (.bool false))
          (cond ((aN F (intOf (x39.getD 0 .dead)) a0 l0 l1 b0 b1 b2 a1 l2 a2 a3 a4 a5 a6 x5 x6 x8 x9 x11 x13 x14 x15 x16 x17 x18 x19 x21 x22 x23 x24 x25 x26 x27 x28 x29 x30 x31 x33 x34 x35 x36 x37 x38 100000 0).k == 1)
           (some (.bool false))
           (cond ((aN F (intOf (x39.getD 0 .dead)) a0 l0 l1 b0 b1 b2 a1 l2 a2 a3 a4 a5 a6 x5 x6 x8 x9 x11 x13 x14 x15 x16 x17 x18 x19 x21 x22 x23 x24 x25 x26 x27 x28 x29 x30 x31 x33 x34 x35 x36 x37 x38 100000 0).k == 2)
            (cond (okT Pg F 52 [])
             (some (.bool (aj (valT F 52 []))))
             (none))
            (none)))))
        (none))
       (none))
      (none))
     (none)))
   (none)) := by kernel_rfl
end Go.Proofs.Ytcknhfnbdgleiaa.Computes
