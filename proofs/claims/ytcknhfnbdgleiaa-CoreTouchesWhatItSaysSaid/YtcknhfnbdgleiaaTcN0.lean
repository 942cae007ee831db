/- What the functions return, in terms of what they call. (Printed by a program of mine, gen.py.) -/
import Derived.Test.YtcknhfnbdgleiaaTcC
set_option linter.unusedVariables false
set_option linter.unusedSimpArgs false
namespace Go.Proofs.Ytcknhfnbdgleiaa.Touches
open Go.AE
set_option maxRecDepth 100000 in
theorem JF (F : Tab) (a0 : Int) (l0 l1 : List AV) (b0 b1 b2 : Bool) (a1 : Int) (l2 : List AV) (a2 : Int) (l3 : List AV) : aY (cx F) 6 12 [.agg 104 [.int .u32 a0, .agg 102 l0, .agg 103 l1, .bool b0, .bool b1, .bool b2, .int .i64 a1], .agg 23 [.slice 118 l2 false], .int .u32 a2, .slice 5 l3 false] =
 (let x0 : List AV := au (aG F 53 [.agg 104 [.int .u32 a0, .agg 102 l0, .agg 103 l1, .bool b0, .bool b1, .bool b2, .int .i64 a1], .agg 23 [.slice 118 l2 false], .int .u32 a2]);
  let x1 : Bool := ak (x0.getD 0 .dead);
  let x2 : List AV := au (x0.getD 1 .dead);
  let x3 : Int := aj (x2.getD 0 .dead);
  let x4 : List AV := au (x2.getD 1 .dead);
  let x5 : List AV := au (x2.getD 2 .dead);
  let x6 : Bool := ak (x2.getD 3 .dead);
  let x7 : Bool := ak (x2.getD 4 .dead);
  let x8 : Bool := ak (x2.getD 5 .dead);
  let x9 : Int := aj (x2.getD 6 .dead);
  let x10 : List AV := au (x0.getD 2 .dead);
  let x11 : Int := aj (x10.getD 0 .dead);
  let x12 : List AV := au (x10.getD 1 .dead);
  let x13 : List AV := au (x10.getD 2 .dead);
  let x14 : Bool := ak (x10.getD 3 .dead);
  let x15 : Bool := ak (x10.getD 4 .dead);
  let x16 : Bool := ak (x10.getD 5 .dead);
  let x17 : Int := aj (x10.getD 6 .dead);
  let x18 : Int := aj (x0.getD 3 .dead);
  let x19 : List AV := av (x0.getD 4 .dead);
  let x20 : List AV := av (x0.getD 5 .dead);
  let x21 : Bool := ak (x0.getD 6 .dead);
  let x22 : List AV := au (x0.getD 7 .dead);
  let x23 : Bool := ak (x22.getD 0 .dead);
  let x24 : Int := aj (x22.getD 1 .dead);
  let x25 : Int := aj (x22.getD 2 .dead);
  let x26 : Int := aj (x0.getD 8 .dead);
  let x27 : Int := aj (x0.getD 9 .dead);
  let x28 : Int := aj (x0.getD 10 .dead);
  let x29 : List AV := au (aG F 53 [.agg 104 [.int .u32 a0, .agg 102 l0, .agg 103 l1, .bool b0, .bool b1, .bool b2, .int .i64 a1], .agg 23 [.slice 118 (sub ((xA F a2 l3 (IntKind.i64.wrap (((l2.length : Nat) : Int) * 128)) ((IntKind.i64.wrap (((l2.length : Nat) : Int) * 128)).toNat) a0 l0 l1 b0 b1 b2 a1 l2 x1 x3 x4 x5 x6 x7 x8 x9 x11 x12 x13 x14 x15 x16 x17 x18 x19 x20 x21 x23 x24 x25 x26 x27 x28 ((qQ F a2 l3 (IntKind.i64.wrap (((l2.length : Nat) : Int) * 128)) ((IntKind.i64.wrap (((l2.length : Nat) : Int) * 128)).toNat) a0 l0 l1 b0 b1 b2 a1 l2 x1 x3 x4 x5 x6 x7 x8 x9 x11 x12 x13 x14 x15 x16 x17 x18 x19 x20 x21 x23 x24 x25 x26 x27 x28 100000 0 (List.replicate ((IntKind.i64.wrap (((l2.length : Nat) : Int) * 128)).toNat) (.bool false))).l.getD 0 []) l2.length 100000 0 l2).l.getD 0 []) 0 (0 + l2.length)) false], .int .u32 a2]);
  let x30 : List AV := au (x29.getD 1 .dead);
  let x31 : List AV := au (x29.getD 2 .dead);
  let x32 : List AV := au (x29.getD 7 .dead);
  cond (cond (aH Pg F 51 [.agg 104 [.int .u32 a0, .agg 102 l0, .agg 103 l1, .bool b0, .bool b1, .bool b2, .int .i64 a1], .agg 23 [.slice 118 l2 false]]) true false)
   (cond (cond (!(ak (aG F 51 [.agg 104 [.int .u32 a0, .agg 102 l0, .agg 103 l1, .bool b0, .bool b1, .bool b2, .int .i64 a1], .agg 23 [.slice 118 l2 false]]))) true (decide ((10000 : Int) < ((l3.length : Nat) : Int))))
    (cond (aH Pg F 52 [])
     (some (.bool (ak (aG F 52 []))))
     (none))
    (cond (aH Pg F 53 [.agg 104 [.int .u32 a0, .agg 102 l0, .agg 103 l1, .bool b0, .bool b1, .bool b2, .int .i64 a1], .agg 23 [.slice 118 l2 false], .int .u32 a2])
     (cond (((decide ((0 : Int) <= (IntKind.i64.wrap (((l2.length : Nat) : Int) * 128)))) && (decide (((IntKind.i64.wrap (((l2.length : Nat) : Int) * 128)) * 1) <= 140737488355328))) && (decide ((IntKind.i64.wrap (((l2.length : Nat) : Int) * 128)) <= 140737488355328)))
      (cond ((qQ F a2 l3 (IntKind.i64.wrap (((l2.length : Nat) : Int) * 128)) ((IntKind.i64.wrap (((l2.length : Nat) : Int) * 128)).toNat) a0 l0 l1 b0 b1 b2 a1 l2 x1 x3 x4 x5 x6 x7 x8 x9 x11 x12 x13 x14 x15 x16 x17 x18 x19 x20 x21 x23 x24 x25 x26 x27 x28 100000 0 (List.replicate ((IntKind.i64.wrap (((l2.length : Nat) : Int) * 128)).toNat) (.bool false))).k == 1)
       (some (.bool false))
       (cond ((qQ F a2 l3 (IntKind.i64.wrap (((l2.length : Nat) : Int) * 128)) ((IntKind.i64.wrap (((l2.length : Nat) : Int) * 128)).toNat) a0 l0 l1 b0 b1 b2 a1 l2 x1 x3 x4 x5 x6 x7 x8 x9 x11 x12 x13 x14 x15 x16 x17 x18 x19 x20 x21 x23 x24 x25 x26 x27 x28 100000 0 (List.replicate ((IntKind.i64.wrap (((l2.length : Nat) : Int) * 128)).toNat) (.bool false))).k == 2)
        (cond (decide (((0 + l2.length) * 128) <= 140737488355328))
         (cond (decide ((0 : Nat) < l2.length))
          (cond ((xA F a2 l3 (IntKind.i64.wrap (((l2.length : Nat) : Int) * 128)) ((IntKind.i64.wrap (((l2.length : Nat) : Int) * 128)).toNat) a0 l0 l1 b0 b1 b2 a1 l2 x1 x3 x4 x5 x6 x7 x8 x9 x11 x12 x13 x14 x15 x16 x17 x18 x19 x20 x21 x23 x24 x25 x26 x27 x28 ((qQ F a2 l3 (IntKind.i64.wrap (((l2.length : Nat) : Int) * 128)) ((IntKind.i64.wrap (((l2.length : Nat) : Int) * 128)).toNat) a0 l0 l1 b0 b1 b2 a1 l2 x1 x3 x4 x5 x6 x7 x8 x9 x11 x12 x13 x14 x15 x16 x17 x18 x19 x20 x21 x23 x24 x25 x26 x27 x28 100000 0 (List.replicate ((IntKind.i64.wrap (((l2.length : Nat) : Int) * 128)).toNat) (.bool false))).l.getD 0 []) l2.length 100000 0 l2).k == 1)
           (cond (cond (aH Pg F 52 []) (fV (ak (aG F 52 [])) (cond (aH Pg F 53 [.agg 104 [.int .u32 a0, .agg 102 l0, .agg 103 l1, .bool b0, .bool b1, .bool b2, .int .i64 a1], .agg 23 [.slice 118 (sub ((xA F a2 l3 (IntKind.i64.wrap (((l2.length : Nat) : Int) * 128)) ((IntKind.i64.wrap (((l2.length : Nat) : Int) * 128)).toNat) a0 l0 l1 b0 b1 b2 a1 l2 x1 x3 x4 x5 x6 x7 x8 x9 x11 x12 x13 x14 x15 x16 x17 x18 x19 x20 x21 x23 x24 x25 x26 x27 x28 ((qQ F a2 l3 (IntKind.i64.wrap (((l2.length : Nat) : Int) * 128)) ((IntKind.i64.wrap (((l2.length : Nat) : Int) * 128)).toNat) a0 l0 l1 b0 b1 b2 a1 l2 x1 x3 x4 x5 x6 x7 x8 x9 x11 x12 x13 x14 x15 x16 x17 x18 x19 x20 x21 x23 x24 x25 x26 x27 x28 100000 0 (List.replicate ((IntKind.i64.wrap (((l2.length : Nat) : Int) * 128)).toNat) (.bool false))).l.getD 0 []) l2.length 100000 0 l2).l.getD 0 []) 0 (0 + l2.length)) false], .int .u32 a2]) (cond (aH Pg F 54 [.agg 111 [.bool (ak (x29.getD 0 .dead)), .agg 104 [.int .u32 (aj (x30.getD 0 .dead)), .agg 102 (au (x30.getD 1 .dead)), .agg 103 (au (x30.getD 2 .dead)), .bool (ak (x30.getD 3 .dead)), .bool (ak (x30.getD 4 .dead)), .bool (ak (x30.getD 5 .dead)), .int .i64 (aj (x30.getD 6 .dead))], .agg 104 [.int .u32 (aj (x31.getD 0 .dead)), .agg 102 (au (x31.getD 1 .dead)), .agg 103 (au (x31.getD 2 .dead)), .bool (ak (x31.getD 3 .dead)), .bool (ak (x31.getD 4 .dead)), .bool (ak (x31.getD 5 .dead)), .int .i64 (aj (x31.getD 6 .dead))], .int .u32 (aj (x29.getD 3 .dead)), .slice 42 (av (x29.getD 4 .dead)) false, .slice 116 (av (x29.getD 5 .dead)) false, .bool (ak (x29.getD 6 .dead)), .agg 109 [.bool (ak (x32.getD 0 .dead)), .int .i64 (aj (x32.getD 1 .dead)), .int .u32 (aj (x32.getD 2 .dead))], .int .i64 (aj (x29.getD 8 .dead)), .int .u32 (aj (x29.getD 9 .dead)), .int .i64 (aj (x29.getD 10 .dead))], .agg 111 [.bool x1, .agg 104 [.int .u32 x3, .agg 102 x4, .agg 103 x5, .bool x6, .bool x7, .bool x8, .int .i64 x9], .agg 104 [.int .u32 x11, .agg 102 x12, .agg 103 x13, .bool x14, .bool x15, .bool x16, .int .i64 x17], .int .u32 x18, .slice 42 x19 false, .slice 116 x20 false, .bool x21, .agg 109 [.bool x23, .int .i64 x24, .int .u32 x25], .int .i64 x26, .int .u32 x27, .int .i64 x28]]) true false) false) true) false)
            (some (.bool (cond (ak (aG F 52 [])) (ak (aG F 54 [.agg 111 [.bool (ak (x29.getD 0 .dead)), .agg 104 [.int .u32 (aj (x30.getD 0 .dead)), .agg 102 (au (x30.getD 1 .dead)), .agg 103 (au (x30.getD 2 .dead)), .bool (ak (x30.getD 3 .dead)), .bool (ak (x30.getD 4 .dead)), .bool (ak (x30.getD 5 .dead)), .int .i64 (aj (x30.getD 6 .dead))], .agg 104 [.int .u32 (aj (x31.getD 0 .dead)), .agg 102 (au (x31.getD 1 .dead)), .agg 103 (au (x31.getD 2 .dead)), .bool (ak (x31.getD 3 .dead)), .bool (ak (x31.getD 4 .dead)), .bool (ak (x31.getD 5 .dead)), .int .i64 (aj (x31.getD 6 .dead))], .int .u32 (aj (x29.getD 3 .dead)), .slice 42 (av (x29.getD 4 .dead)) false, .slice 116 (av (x29.getD 5 .dead)) false, .bool (ak (x29.getD 6 .dead)), .agg 109 [.bool (ak (x32.getD 0 .dead)), .int .i64 (aj (x32.getD 1 .dead)), .int .u32 (aj (x32.getD 2 .dead))], .int .i64 (aj (x29.getD 8 .dead)), .int .u32 (aj (x29.getD 9 .dead)), .int .i64 (aj (x29.getD 10 .dead))], .agg 111 [.bool x1, .agg 104 [.int .u32 x3, .agg 102 x4, .agg 103 x5, .bool x6, .bool x7, .bool x8, .int .i64 x9], .agg 104 [.int .u32 x11, .agg 102 x12, .agg 103 x13, .bool x14, .bool x15, .bool x16, .int .i64 x17], .int .u32 x18, .slice 42 x19 false, .slice 116 x20 false, .bool x21, .agg 109 [.bool x23, .int .i64 x24, .int .u32 x25], .int .i64 x26, .int .u32 x27, .int .i64 x28]])) false)))
            (none))
           (none))
          (none))
         (none))
        (none)))
      (none))
     (none)))
   (none)) := by kernel_rfl
end Go.Proofs.Ytcknhfnbdgleiaa.Touches
