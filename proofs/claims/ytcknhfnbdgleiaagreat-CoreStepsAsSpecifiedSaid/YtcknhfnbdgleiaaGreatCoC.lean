/- What the loops come to, as functions of their own; the context. (Printed by a program of mine, gen.py.) -/
import Derived.Test.YtcknhfnbdgleiaaGreatEvD
import Derived.Test.YtcknhfnbdgleiaaGreatRows
set_option linter.unusedVariables false
set_option linter.unusedSimpArgs false
namespace Go.Proofs.YtcknhfnbdgleiaaGreat
open Go.AE
noncomputable section
abbrev Pg : Program := Tryz.checked.prog
abbrev aC (x0 : List AV) : AV := .agg 28 [.slice 139 x0 false]
abbrev dI (x0 : Bool) (x1 : Int) (x2 x3 : List AV) (x4 x5 x6 : Bool) (x7 x8 : Int) (x9 x10 : List AV) (x11 x12 x13 : Bool) (x14 x15 : Int) (x16 x17 : List AV) (x18 x19 : Bool) (x20 x21 x22 x23 x24 : Int) : AV := .agg 37 [.bool x0, .agg 25 [.int .u32 x1, .agg 23 x2, .agg 24 x3, .bool x4, .bool x5, .bool x6, .int .i64 x7], .agg 25 [.int .u32 x8, .agg 23 x9, .agg 24 x10, .bool x11, .bool x12, .bool x13, .int .i64 x14], .int .u32 x15, .slice 57 x16 false, .slice 59 x17 false, .bool x18, .agg 35 [.bool x19, .int .i64 x20, .int .u32 x21], .int .i64 x22, .int .u32 x23, .int .i64 x24]
abbrev mO (x0 x1 : Int) (x2 : Bool) : AV := .agg 58 [.int .i64 x0, .int .i64 x1, .bool x2]
abbrev aD (x0 : Int) (x1 x2 : List AV) (x3 x4 x5 : Bool) (x6 : Int) : AV := .agg 25 [.int .u32 x0, .agg 23 x1, .agg 24 x2, .bool x3, .bool x4, .bool x5, .int .i64 x6]
abbrev dP (x0 : Int) (x1 x2 : List AV) (x3 x4 x5 : Bool) (x6 : Int) (x7 : List AV) (x8 : Int) (x9 : Bool) (x10 : AV) (x11 : Int) (x12 x13 : List AV) (x14 x15 x16 : Bool) (x17 x18 : Int) (x19 x20 : List AV) (x21 : Bool) (x22 : AV) (x23 x24 x25 x26 x27 x28 x29 x30 : Int) : AV := .agg 62 [.agg 25 [.int .u32 x0, .agg 23 x1, .agg 24 x2, .bool x3, .bool x4, .bool x5, .int .i64 x6], .agg 28 [.slice 139 x7 false], .int .u32 x8, .agg 37 [.bool x9, x10, .agg 25 [.int .u32 x11, .agg 23 x12, .agg 24 x13, .bool x14, .bool x15, .bool x16, .int .i64 x17], .int .u32 x18, .slice 57 x19 false, .slice 59 x20 false, .bool x21, x22, .int .i64 x23, .int .u32 x24, .int .i64 x25], .agg 54 [.int .i64 x26, .int .i64 x27, .int .i64 x28, .int .i64 x29, .int .i64 x30]]
abbrev aW (x0 x1 : Int) (x2 x3 : List AV) : AV := .agg 117 [.int .i64 x0, .int .i64 x1, .slice 57 x2 false, .slice 3 x3 false]
abbrev bg (x0 x1 x2 : Int) : AV := .agg 56 [.int .i64 x0, .int .i64 x1, .int .u32 x2]
abbrev aN (x0 : Bool) (x1 : Int) (x2 x3 : List AV) (x4 x5 x6 : Bool) (x7 x8 : Int) (x9 x10 : List AV) (x11 x12 x13 : Bool) (x14 x15 : Int) (x16 x17 : List AV) (x18 x19 : Bool) (x20 x21 x22 x23 x24 : Int) (x25 : List AV) : AV := .agg 64 [.agg 37 [.bool x0, .agg 25 [.int .u32 x1, .agg 23 x2, .agg 24 x3, .bool x4, .bool x5, .bool x6, .int .i64 x7], .agg 25 [.int .u32 x8, .agg 23 x9, .agg 24 x10, .bool x11, .bool x12, .bool x13, .int .i64 x14], .int .u32 x15, .slice 57 x16 false, .slice 59 x17 false, .bool x18, .agg 35 [.bool x19, .int .i64 x20, .int .u32 x21], .int .i64 x22, .int .u32 x23, .int .i64 x24], .agg 28 [.slice 139 x25 false]]
abbrev mF (x0 x1 : Int) (x2 x3 : List AV) (x4 : Int) : AV := .agg 119 [.agg 117 [.int .i64 x0, .int .i64 x1, .slice 57 x2 false, .slice 3 x3 false], .int .i64 x4]
abbrev tV (x0 : List AV) (x1 : Bool) : AV := .agg 94 [.agg 28 [.slice 139 x0 false], .bool x1]
abbrev dM (x0 x1 x2 : Int) : AV := .agg 88 [.int .i64 x0, .int .u32 x1, .int .u32 x2]
abbrev Cj (x0 : Int) (x1 x2 : List AV) (x3 x4 x5 : Bool) (x6 : Int) (x7 : List AV) (x8 : Int) (x9 : Bool) (x10 : AV) (x11 : Int) (x12 x13 : List AV) (x14 x15 x16 : Bool) (x17 x18 : Int) (x19 x20 : List AV) (x21 : Bool) (x22 : AV) (x23 x24 x25 : Int) (x26 : AV) : AV := .agg 62 [.agg 25 [.int .u32 x0, .agg 23 x1, .agg 24 x2, .bool x3, .bool x4, .bool x5, .int .i64 x6], .agg 28 [.slice 139 x7 false], .int .u32 x8, .agg 37 [.bool x9, x10, .agg 25 [.int .u32 x11, .agg 23 x12, .agg 24 x13, .bool x14, .bool x15, .bool x16, .int .i64 x17], .int .u32 x18, .slice 57 x19 false, .slice 59 x20 false, .bool x21, x22, .int .i64 x23, .int .u32 x24, .int .i64 x25], x26]
abbrev bE (x0 x1 x2 x3 x4 : Int) : AV := .agg 54 [.int .i64 x0, .int .i64 x1, .int .i64 x2, .int .i64 x3, .int .i64 x4]
abbrev Ev (x0 : Bool) (x1 x2 : Int) : AV := .agg 35 [.bool x0, .int .i64 x1, .int .u32 x2]
abbrev oW (x0 : Bool) (x1 : Int) (x2 x3 : List AV) (x4 x5 x6 : Bool) (x7 x8 : Int) (x9 x10 : List AV) (x11 x12 x13 : Bool) (x14 x15 : Int) (x16 x17 : List AV) (x18 : Bool) (x19 : AV) (x20 x21 x22 : Int) : AV := .agg 37 [.bool x0, .agg 25 [.int .u32 x1, .agg 23 x2, .agg 24 x3, .bool x4, .bool x5, .bool x6, .int .i64 x7], .agg 25 [.int .u32 x8, .agg 23 x9, .agg 24 x10, .bool x11, .bool x12, .bool x13, .int .i64 x14], .int .u32 x15, .slice 57 x16 false, .slice 59 x17 false, .bool x18, x19, .int .i64 x20, .int .u32 x21, .int .i64 x22]
abbrev xw (x0 : Bool) (x1 : Int) (x2 x3 : List AV) (x4 x5 x6 : Bool) (x7 : Int) (x8 : AV) (x9 : Int) (x10 x11 : List AV) (x12 : Bool) (x13 : AV) (x14 x15 x16 : Int) : AV := .agg 37 [.bool x0, .agg 25 [.int .u32 x1, .agg 23 x2, .agg 24 x3, .bool x4, .bool x5, .bool x6, .int .i64 x7], x8, .int .u32 x9, .slice 57 x10 false, .slice 59 x11 false, .bool x12, x13, .int .i64 x14, .int .u32 x15, .int .i64 x16]
abbrev vD (x0 : Bool) (x1 : AV) (x2 : Int) (x3 x4 : List AV) (x5 x6 x7 : Bool) (x8 x9 : Int) (x10 x11 : List AV) (x12 : Bool) (x13 : AV) (x14 x15 x16 : Int) (x17 : List AV) : AV := .agg 64 [.agg 37 [.bool x0, x1, .agg 25 [.int .u32 x2, .agg 23 x3, .agg 24 x4, .bool x5, .bool x6, .bool x7, .int .i64 x8], .int .u32 x9, .slice 57 x10 false, .slice 59 x11 false, .bool x12, x13, .int .i64 x14, .int .u32 x15, .int .i64 x16], .agg 28 [.slice 139 x17 false]]
abbrev jy (x0 x1 : Int) : AV := .agg 132 [.int .u32 x0, .int .i64 x1]
abbrev o9 (x0 x1 : Int) (x2 x3 x4 : Bool) : AV := .agg 184 [.int .i64 x0, .int .i64 x1, .bool x2, .bool x3, .bool x4]
abbrev AB (x0 x1 x2 : Int) (x3 : List AV) (x4 : Bool) : AV := .agg 153 [.int .i64 x0, .int .i64 x1, .int .i64 x2, .slice 3 x3 false, .bool x4]
abbrev wS (x0 : AV) (x1 x2 : List AV) (x3 x4 x5 : Bool) (x6 : Int) : AV := .agg 25 [x0, .agg 23 x1, .agg 24 x2, .bool x3, .bool x4, .bool x5, .int .i64 x6]
abbrev zz3 : List AV := [.int .u32 0, .int .u32 0, .int .u32 0, .int .u32 0, .int .u32 0, .int .u32 0, .int .u32 0, .int .u32 0, .int .u32 0, .int .u32 0, .int .u32 0, .int .u32 0, .int .u32 0, .int .u32 0, .int .u32 0, .int .u32 0]
abbrev zz2 : AV := .agg 23 zz3
abbrev zz5 : List AV := [.int .u32 0, .int .u32 0, .int .u32 0, .int .u32 0, .int .u32 0, .int .u32 0, .int .u32 0, .int .u32 0, .int .u32 0]
abbrev zz4 : AV := .agg 24 zz5
abbrev zz6 : List AV := [.int .u32 0, zz2, zz4, .bool false, .bool false, .bool false, .int .i64 0]
abbrev gy : AV := .agg 25 zz6
abbrev aY : AV := Ev false 0 0
abbrev zz8 : List AV := [.bool false, gy, gy, .int .u32 0, .slice 57 [] false, .slice 59 [] false, .bool false, aY, .int .i64 0, .int .u32 0, .int .i64 0]
abbrev AL : AV := .agg 37 zz8
abbrev SX : List Pt := [.intC .u32 0, .intC .u32 0, .intC .u32 0, .intC .u32 0, .intC .u32 0, .intC .u32 0, .intC .u32 0, .intC .u32 0, .intC .u32 0, .intC .u32 0, .intC .u32 0, .intC .u32 0, .intC .u32 0, .intC .u32 0, .intC .u32 0, .intC .u32 0]
abbrev abq : Pt := .agg 23 SX
abbrev acJ : List Pt := [.intC .u32 0, .intC .u32 0, .intC .u32 0, .intC .u32 0, .intC .u32 0, .intC .u32 0, .intC .u32 0, .intC .u32 0, .intC .u32 0]
abbrev Vt : Pt := .agg 24 acJ
abbrev ab3 : List Pt := [.intC .u32 0, abq, Vt, .boolC false, .boolC false, .boolC false, .intC .i64 0]
abbrev uF : Pt := .agg 25 ab3
abbrev QW : List Pt := [.boolC false, .intC .i64 0, .intC .u32 0]
abbrev zA : Pt := .agg 35 QW
abbrev V8 : List Pt := [.boolC false, uF, uF, .intC .u32 0, .sliceL 57 [] false, .sliceL 59 [] false, .boolC false, zA, .intC .i64 0, .intC .u32 0, .intC .i64 0]
abbrev zz9 : Pt := .agg 37 V8
abbrev Zg : List Pt := [.int .u32, .aggO 23, .aggO 24, .bool, .boolC false, .bool, .int .i64]
abbrev Ph : Pt := .agg 25 Zg
abbrev SL : List Pt := [.int .u32, .aggO 23, .aggO 24, .bool, .bool, .bool, .int .i64]
abbrev eH : Pt := .agg 25 SL
abbrev yZ : Pt := .agg 37 [.bool, eH, eH, .int .u32, .slice 57 false, .slice 59 false, .bool, .agg 35 [.bool, .int .i64, .int .u32], .int .i64, .int .u32, .int .i64]
abbrev Tw : List Pt := [yZ, .agg 28 [.slice 139 false]]
abbrev IK : Pt := .agg 64 Tw
abbrev Zd : List AV := [aC [], .bool false]
abbrev Aw : AV := .agg 94 Zd
abbrev aan : List AV := [.int .i64 0, .int .i64 0, .int .i64 0, .int .i64 0, .int .i64 0]
abbrev nK : AV := .agg 54 aan
abbrev Uh : List AV := [.int .i64 16, .int .i64 1, .int .i64 0, .int .i64 0, .int .i64 5]
abbrev Uo : AV := .agg 54 Uh
abbrev Cm : List AV := [Uo]
abbrev aak : List AV := [.int .i64 21, .int .i64 2, .int .i64 0, .int .i64 0, .int .i64 8]
abbrev adl : AV := .agg 54 aak
abbrev Dn : List AV := [adl]
abbrev TS : List AV := [.int .i64 20, .int .i64 1, .int .i64 0, .int .i64 0, .int .i64 130]
abbrev adw : AV := .agg 54 TS
abbrev Dm : List AV := [adw]
abbrev YM : List AV := [.int .i64 20, .int .i64 1, .int .i64 0, .int .i64 0, .int .i64 128]
abbrev VX : AV := .agg 54 YM
abbrev C8 : List AV := [VX]
abbrev ZP : List AV := [.int .u8 0, .int .u8 0, .int .u8 0, .int .u8 0, .int .u8 0, .int .u8 0, .int .u8 0, .int .u8 0, .int .u8 0, .int .u8 0, .int .u8 0, .int .u8 0, .int .u8 0, .int .u8 0, .int .u8 0, .int .u8 0, .int .u8 0, .int .u8 0, .int .u8 0, .int .u8 0, .int .u8 0, .int .u8 0, .int .u8 0, .int .u8 0, .int .u8 0, .int .u8 0, .int .u8 0, .int .u8 0, .int .u8 0, .int .u8 0, .int .u8 0, .int .u8 0, .int .u8 0, .int .u8 0, .int .u8 0, .int .u8 0, .int .u8 0, .int .u8 0, .int .u8 0, .int .u8 0, .int .u8 0, .int .u8 0, .int .u8 0, .int .u8 0, .int .u8 0, .int .u8 0, .int .u8 0, .int .u8 0, .int .u8 0, .int .u8 0, .int .u8 0, .int .u8 0, .int .u8 0, .int .u8 0, .int .u8 0, .int .u8 0, .int .u8 0, .int .u8 0, .int .u8 0, .int .u8 0, .int .u8 0, .int .u8 0, .int .u8 0, .int .u8 0, .int .u8 0, .int .u8 0, .int .u8 0, .int .u8 0, .int .u8 0, .int .u8 0, .int .u8 0, .int .u8 0, .int .u8 0, .int .u8 0, .int .u8 0, .int .u8 0, .int .u8 0, .int .u8 0, .int .u8 0, .int .u8 0, .int .u8 0, .int .u8 0, .int .u8 0, .int .u8 0, .int .u8 0, .int .u8 0, .int .u8 0, .int .u8 0, .int .u8 0, .int .u8 0, .int .u8 0, .int .u8 0, .int .u8 0, .int .u8 0, .int .u8 0, .int .u8 0, .int .u8 0, .int .u8 0, .int .u8 0, .int .u8 0, .int .u8 0, .int .u8 0, .int .u8 0, .int .u8 0, .int .u8 0, .int .u8 0, .int .u8 0, .int .u8 0, .int .u8 0, .int .u8 0, .int .u8 0, .int .u8 0, .int .u8 0, .int .u8 0, .int .u8 0, .int .u8 0, .int .u8 0, .int .u8 0, .int .u8 0, .int .u8 0, .int .u8 0, .int .u8 0, .int .u8 0, .int .u8 0, .int .u8 0, .int .u8 0, .int .u8 0, .int .u8 0]
abbrev Ya : AV := .agg 138 ZP
abbrev Xz : List AV := [Ya]
abbrev abx : List AV := [.slice 139 Xz false]
abbrev vL : AV := .agg 28 abx
abbrev VL : List AV := [.int .i64 40, .int .i64 0, .int .i64 0, .int .i64 0, .int .i64 0]
abbrev Uj : AV := .agg 54 VL
abbrev DN : List AV := [Uj]
abbrev Tz : List AV := [.int .i64 46, .int .i64 1, .int .i64 0, .int .i64 0, .int .i64 33]
abbrev Y3 : AV := .agg 54 Tz
abbrev Ap : List AV := [Y3]
abbrev Cg : List AV := [nK, .bool false]
abbrev GV : AV := .agg 77 Cg
abbrev RN : List AV := [.int .i64 0, .int .i64 0, .slice 57 [] false, .slice 3 [] false]
abbrev yL : AV := .agg 117 RN
abbrev Oc : List AV := [.int .i64 0, .int .i64 5, .int .i64 6, .int .i64 6, .int .i64 4]
abbrev T0 := Int × List AV × List AV × List AV
abbrev T1 := Int × Bool × Int × List AV × List AV × Bool × Bool × Bool × Int × Int × List AV × List AV × Bool × Bool × Bool × Int × Int × List AV × List AV × Bool × Bool × Int × Int × Int × Int × Int × List AV
abbrev T2 := Int × List AV × List AV
abbrev T3 := Int × List AV × Bool
def cO : AV := AL
def dh : AV := gy
def iP : Pt := zz9
def iC : Pt := .agg 62 [Ph, .agg 28 [.slice 139 false], .int .u32, .agg 37 [.boolC true, uF, eH, .int .u32, .slice 57 false, .slice 59 false, .boolC false, zA, .intC .i64 0, .intC .u32 0, .intC .i64 0], .agg 54 [.int .i64, .int .i64, .int .i64, .int .i64, .int .i64]]
def zu : AV := .agg 70 [.agg 64 [AL, aC []], .int .i64 0, .int .i64 0]
def kp5 : Pt := .agg 70 [.agg 64 [zz9, .agg 28 [.sliceL 139 [] false]], .intC .i64 0, .intC .i64 0]
def BG : AV := .agg 37 [.bool false, gy, gy, .int .u32 0, .slice 57 [] true, .slice 59 [] true, .bool false, aY, .int .i64 0, .int .u32 0, .int .i64 0]
def FM : Pt := .agg 37 [.boolC false, uF, uF, .intC .u32 0, .sliceL 57 [] true, .sliceL 59 [] true, .boolC false, zA, .intC .i64 0, .intC .u32 0, .intC .i64 0]
def FE : Pt := .agg 62 [Ph, .agg 28 [.slice 139 false], .int .u32, .agg 37 [.boolC true, uF, eH, .intC .u32 0, .sliceL 57 [] true, .sliceL 59 [] true, .boolC false, zA, .intC .i64 0, .intC .u32 0, .intC .i64 0], .agg 54 [.intC .i64 0, .intC .i64 0, .intC .i64 0, .intC .i64 0, .intC .i64 0]]
def jX : Row := .map 3 111 [(.int .i64 28, .func (.func 75) [] []), (.int .i64 29, .func (.func 75) [] []), (.int .i64 30, .func (.func 75) [] []), (.int .i64 31, .func (.func 75) [] []), (.int .i64 32, .func (.func 76) [] []), (.int .i64 33, .func (.func 76) [] []), (.int .i64 42, .func (.func 77) [] []), (.int .i64 43, .func (.func 77) [] []), (.int .i64 44, .func (.func 78) [] []), (.int .i64 46, .func (.func 79) [] []), (.int .i64 47, .func (.func 79) [] [])]
def sZ : RPt := .map 3 111 [(.intC .i64 28, .func 75 [] []), (.intC .i64 29, .func 75 [] []), (.intC .i64 30, .func 75 [] []), (.intC .i64 31, .func 75 [] []), (.intC .i64 32, .func 76 [] []), (.intC .i64 33, .func 76 [] []), (.intC .i64 42, .func 77 [] []), (.intC .i64 43, .func 77 [] []), (.intC .i64 44, .func 78 [] []), (.intC .i64 46, .func 79 [] []), (.intC .i64 47, .func 79 [] [])]
def Ee (F : Tab) (b0 : Bool) (i1 : Int) (l0 l1 : List AV) (b1 b2 b3 : Bool) (i2 i3 : Int) (l2 l3 : List AV) (b4 b5 b6 : Bool) (i4 i5 : Int) (l4 l5 : List AV) (b7 b8 : Bool) (i6 i7 i8 i9 i10 : Int) (b9 : Bool) (i11 : Int) (l6 l7 : List AV) (b10 b11 b12 : Bool) (i12 i13 : Int) (l8 l9 : List AV) (b13 b14 b15 : Bool) (i14 i15 : Int) (l10 l11 : List AV) (b16 b17 : Bool) (i16 i17 i18 i19 i20 : Int) (i0 : Int) : Tr (Int) :=
    .br (decide (i0 < ((l4.length : Nat) : Int)))
     (.br (cond (aM i0 l4.length) (cond (aM i0 l10.length) true false) false)
      (.br (!(((aj ((ak (l4.getD i0.toNat .dead)).getD 0 .dead)) == (aj ((ak (l10.getD i0.toNat .dead)).getD 0 .dead))) && (((aj ((ak (l4.getD i0.toNat .dead)).getD 1 .dead)) == (aj ((ak (l10.getD i0.toNat .dead)).getD 1 .dead))) && (((aj ((ak (l4.getD i0.toNat .dead)).getD 2 .dead)) == (aj ((ak (l10.getD i0.toNat .dead)).getD 2 .dead))) && true))))
       (.out ⟨1, [], [], [], [], [], []⟩)
       (.next (IntKind.i64.wrap (i0 + 1))))
      (.bad))
     (.out ⟨2, [], [], [], [], [], []⟩)
def tT (F : Tab) (b0 : Bool) (i1 : Int) (l0 l1 : List AV) (b1 b2 b3 : Bool) (i2 i3 : Int) (l2 l3 : List AV) (b4 b5 b6 : Bool) (i4 i5 : Int) (l4 l5 : List AV) (b7 b8 : Bool) (i6 i7 i8 i9 i10 : Int) (b9 : Bool) (i11 : Int) (l6 l7 : List AV) (b10 b11 b12 : Bool) (i12 i13 : Int) (l8 l9 : List AV) (b13 b14 b15 : Bool) (i14 i15 : Int) (l10 l11 : List AV) (b16 b17 : Bool) (i16 i17 i18 i19 i20 : Int) (s : Int) : Tr (Int) := Ee F b0 i1 l0 l1 b1 b2 b3 i2 i3 l2 l3 b4 b5 b6 i4 i5 l4 l5 b7 b8 i6 i7 i8 i9 i10 b9 i11 l6 l7 b10 b11 b12 i12 i13 l8 l9 b13 b14 b15 i14 i15 l10 l11 b16 b17 i16 i17 i18 i19 i20 s
def Sv (b0 : Bool) (i1 : Int) (l0 l1 : List AV) (b1 b2 b3 : Bool) (i2 i3 : Int) (l2 l3 : List AV) (b4 b5 b6 : Bool) (i4 i5 : Int) (l4 l5 : List AV) (b7 b8 : Bool) (i6 i7 i8 i9 i10 : Int) (b9 : Bool) (i11 : Int) (l6 l7 : List AV) (b10 b11 b12 : Bool) (i12 i13 : Int) (l8 l9 : List AV) (b13 b14 b15 : Bool) (i14 i15 : Int) (l10 l11 : List AV) (b16 b17 : Bool) (i16 i17 i18 i19 i20 : Int) : Int -> Fr := fun i0 => (aT 122 [(2, .ptr 0 [] 38 0), (3, .ptr 1 [] 38 0), (5, .int .i64 i0)] [])
def WG (b0 : Bool) (i1 : Int) (l0 l1 : List AV) (b1 b2 b3 : Bool) (i2 i3 : Int) (l2 l3 : List AV) (b4 b5 b6 : Bool) (i4 i5 : Int) (l4 l5 : List AV) (b7 b8 : Bool) (i6 i7 i8 i9 i10 : Int) (b9 : Bool) (i11 : Int) (l6 l7 : List AV) (b10 b11 b12 : Bool) (i12 i13 : Int) (l8 l9 : List AV) (b13 b14 b15 : Bool) (i14 i15 : Int) (l10 l11 : List AV) (b16 b17 : Bool) (i16 i17 i18 i19 i20 : Int) : Int -> Mm := fun i0 => ⟨[.var 38 (dI b0 i1 l0 l1 b1 b2 b3 i2 i3 l2 l3 b4 b5 b6 i4 i5 l4 l5 b7 b8 i6 i7 i8 i9 i10), .var 38 (dI b9 i11 l6 l7 b10 b11 b12 i12 i13 l8 l9 b13 b14 b15 i14 i15 l10 l11 b16 b17 i16 i17 i18 i19 i20)], []⟩
def Nb (F : Tab) (b0 : Bool) (i1 : Int) (l0 l1 : List AV) (b1 b2 b3 : Bool) (i2 i3 : Int) (l2 l3 : List AV) (b4 b5 b6 : Bool) (i4 i5 : Int) (l4 l5 : List AV) (b7 b8 : Bool) (i6 i7 i8 i9 i10 : Int) (b9 : Bool) (i11 : Int) (l6 l7 : List AV) (b10 b11 b12 : Bool) (i12 i13 : Int) (l8 l9 : List AV) (b13 b14 b15 : Bool) (i14 i15 : Int) (l10 l11 : List AV) (b16 b17 : Bool) (i16 i17 i18 i19 i20 : Int) (fuel : Nat) (i0 : Int) : LO := Tr.run (tT F b0 i1 l0 l1 b1 b2 b3 i2 i3 l2 l3 b4 b5 b6 i4 i5 l4 l5 b7 b8 i6 i7 i8 i9 i10 b9 i11 l6 l7 b10 b11 b12 i12 i13 l8 l9 b13 b14 b15 i14 i15 l10 l11 b16 b17 i16 i17 i18 i19 i20) fuel (i0)
def JD (b0 : Bool) (i1 : Int) (l0 l1 : List AV) (b1 b2 b3 : Bool) (i2 i3 : Int) (l2 l3 : List AV) (b4 b5 b6 : Bool) (i4 i5 : Int) (l4 l5 : List AV) (b7 b8 : Bool) (i6 i7 i8 i9 i10 : Int) (b9 : Bool) (i11 : Int) (l6 l7 : List AV) (b10 b11 b12 : Bool) (i12 i13 : Int) (l8 l9 : List AV) (b13 b14 b15 : Bool) (i14 i15 : Int) (l10 l11 : List AV) (b16 b17 : Bool) (i16 i17 i18 i19 i20 : Int) (lo : LO) : LT :=
 .br (lo.k == 1) (.done .ret (aT 122 [(2, .ptr 0 [] 38 0), (3, .ptr 1 [] 38 0), (4, .bool false)] []) ⟨[.var 38 (dI b0 i1 l0 l1 b1 b2 b3 i2 i3 l2 l3 b4 b5 b6 i4 i5 l4 l5 b7 b8 i6 i7 i8 i9 i10), .var 38 (dI b9 i11 l6 l7 b10 b11 b12 i12 i13 l8 l9 b13 b14 b15 i14 i15 l10 l11 b16 b17 i16 i17 i18 i19 i20)], []⟩) (.br (lo.k == 2) (.done (.exit 0) (aT 122 [(2, .ptr 0 [] 38 0), (3, .ptr 1 [] 38 0)] []) ⟨[.var 38 (dI b0 i1 l0 l1 b1 b2 b3 i2 i3 l2 l3 b4 b5 b6 i4 i5 l4 l5 b7 b8 i6 i7 i8 i9 i10), .var 38 (dI b9 i11 l6 l7 b10 b11 b12 i12 i13 l8 l9 b13 b14 b15 i14 i15 l10 l11 b16 b17 i16 i17 i18 i19 i20)], []⟩) (.fail))
def zR : StP := ⟨122, [(2, .ptr 0 [] 38 (some 0)), (3, .ptr 1 [] 38 (some 0)), (5, .int .i64)], [], [.var 38 (yZ), .var 38 (yZ)], []⟩
abbrev Wn {α : Type} (f : Bool -> Int -> List AV -> List AV -> Bool -> Bool -> Bool -> Int -> Int -> List AV -> List AV -> Bool -> Bool -> Bool -> Int -> Int -> List AV -> List AV -> Bool -> Bool -> Int -> Int -> Int -> Int -> Int -> Bool -> Int -> List AV -> List AV -> Bool -> Bool -> Bool -> Int -> Int -> List AV -> List AV -> Bool -> Bool -> Bool -> Int -> Int -> List AV -> List AV -> Bool -> Bool -> Int -> Int -> Int -> Int -> Int -> Int -> α) (fr : Fr) (M : Mm) : α := f (au (pA (vR M 0) 0)) (aj (pA (pA (vR M 0) 1) 0)) (ak (pA (pA (vR M 0) 1) 1)) (ak (pA (pA (vR M 0) 1) 2)) (au (pA (pA (vR M 0) 1) 3)) (au (pA (pA (vR M 0) 1) 4)) (au (pA (pA (vR M 0) 1) 5)) (aj (pA (pA (vR M 0) 1) 6)) (aj (pA (pA (vR M 0) 2) 0)) (ak (pA (pA (vR M 0) 2) 1)) (ak (pA (pA (vR M 0) 2) 2)) (au (pA (pA (vR M 0) 2) 3)) (au (pA (pA (vR M 0) 2) 4)) (au (pA (pA (vR M 0) 2) 5)) (aj (pA (pA (vR M 0) 2) 6)) (aj (pA (vR M 0) 3)) (av (pA (vR M 0) 4)) (av (pA (vR M 0) 5)) (au (pA (vR M 0) 6)) (au (pA (pA (vR M 0) 7) 0)) (aj (pA (pA (vR M 0) 7) 1)) (aj (pA (pA (vR M 0) 7) 2)) (aj (pA (vR M 0) 8)) (aj (pA (vR M 0) 9)) (aj (pA (vR M 0) 10)) (au (pA (vR M 1) 0)) (aj (pA (pA (vR M 1) 1) 0)) (ak (pA (pA (vR M 1) 1) 1)) (ak (pA (pA (vR M 1) 1) 2)) (au (pA (pA (vR M 1) 1) 3)) (au (pA (pA (vR M 1) 1) 4)) (au (pA (pA (vR M 1) 1) 5)) (aj (pA (pA (vR M 1) 1) 6)) (aj (pA (pA (vR M 1) 2) 0)) (ak (pA (pA (vR M 1) 2) 1)) (ak (pA (pA (vR M 1) 2) 2)) (au (pA (pA (vR M 1) 2) 3)) (au (pA (pA (vR M 1) 2) 4)) (au (pA (pA (vR M 1) 2) 5)) (aj (pA (pA (vR M 1) 2) 6)) (aj (pA (vR M 1) 3)) (av (pA (vR M 1) 4)) (av (pA (vR M 1) 5)) (au (pA (vR M 1) 6)) (au (pA (pA (vR M 1) 7) 0)) (aj (pA (pA (vR M 1) 7) 1)) (aj (pA (pA (vR M 1) 7) 2)) (aj (pA (vR M 1) 8)) (aj (pA (vR M 1) 9)) (aj (pA (vR M 1) 10)) ((aj (tA fr 5)))
def Qk (F : Tab) (b0 : Bool) (i1 : Int) (l0 l1 : List AV) (b1 b2 b3 : Bool) (i2 i3 : Int) (l2 l3 : List AV) (b4 b5 b6 : Bool) (i4 i5 : Int) (l4 l5 : List AV) (b7 b8 : Bool) (i6 i7 i8 i9 i10 : Int) (b9 : Bool) (i11 : Int) (l6 l7 : List AV) (b10 b11 b12 : Bool) (i12 i13 : Int) (l8 l9 : List AV) (b13 b14 b15 : Bool) (i14 i15 : Int) (l10 l11 : List AV) (b16 b17 : Bool) (i16 i17 i18 i19 i20 : Int) (s : Int) : LT := JD b0 i1 l0 l1 b1 b2 b3 i2 i3 l2 l3 b4 b5 b6 i4 i5 l4 l5 b7 b8 i6 i7 i8 i9 i10 b9 i11 l6 l7 b10 b11 b12 i12 i13 l8 l9 b13 b14 b15 i14 i15 l10 l11 b16 b17 i16 i17 i18 i19 i20 (Tr.run (tT F b0 i1 l0 l1 b1 b2 b3 i2 i3 l2 l3 b4 b5 b6 i4 i5 l4 l5 b7 b8 i6 i7 i8 i9 i10 b9 i11 l6 l7 b10 b11 b12 i12 i13 l8 l9 b13 b14 b15 i14 i15 l10 l11 b16 b17 i16 i17 i18 i19 i20) 100000 s)
def OU (F : Tab) (dep : Nat) (fr : Fr) (M : Mm) : Option LT := if zR.ok fr M then some (Wn (Qk F) fr M) else none
def Ie (F : Tab) (b0 : Bool) (i1 : Int) (l0 l1 : List AV) (b1 b2 b3 : Bool) (i2 i3 : Int) (l2 l3 : List AV) (b4 b5 b6 : Bool) (i4 i5 : Int) (l4 l5 : List AV) (b7 b8 : Bool) (i6 i7 i8 i9 i10 : Int) (b9 : Bool) (i11 : Int) (l6 l7 : List AV) (b10 b11 b12 : Bool) (i12 i13 : Int) (l8 l9 : List AV) (b13 b14 b15 : Bool) (i14 i15 : Int) (l10 l11 : List AV) (b16 b17 : Bool) (i16 i17 i18 i19 i20 : Int) (i0 : Int) : Tr (Int) :=
    .br (decide (i0 < ((l5.length : Nat) : Int)))
     (.br (cond (aM i0 l5.length) (cond (aM i0 l11.length) true false) false)
      (.br (!(((aj ((ak (l5.getD i0.toNat .dead)).getD 0 .dead)) == (aj ((ak (l11.getD i0.toNat .dead)).getD 0 .dead))) && (((aj ((ak (l5.getD i0.toNat .dead)).getD 1 .dead)) == (aj ((ak (l11.getD i0.toNat .dead)).getD 1 .dead))) && (((au ((ak (l5.getD i0.toNat .dead)).getD 2 .dead)) == (au ((ak (l11.getD i0.toNat .dead)).getD 2 .dead))) && true))))
       (.out ⟨1, [], [], [], [], [], []⟩)
       (.next (IntKind.i64.wrap (i0 + 1))))
      (.bad))
     (.out ⟨2, [], [], [], [], [], []⟩)
def uT (F : Tab) (b0 : Bool) (i1 : Int) (l0 l1 : List AV) (b1 b2 b3 : Bool) (i2 i3 : Int) (l2 l3 : List AV) (b4 b5 b6 : Bool) (i4 i5 : Int) (l4 l5 : List AV) (b7 b8 : Bool) (i6 i7 i8 i9 i10 : Int) (b9 : Bool) (i11 : Int) (l6 l7 : List AV) (b10 b11 b12 : Bool) (i12 i13 : Int) (l8 l9 : List AV) (b13 b14 b15 : Bool) (i14 i15 : Int) (l10 l11 : List AV) (b16 b17 : Bool) (i16 i17 i18 i19 i20 : Int) (s : Int) : Tr (Int) := Ie F b0 i1 l0 l1 b1 b2 b3 i2 i3 l2 l3 b4 b5 b6 i4 i5 l4 l5 b7 b8 i6 i7 i8 i9 i10 b9 i11 l6 l7 b10 b11 b12 i12 i13 l8 l9 b13 b14 b15 i14 i15 l10 l11 b16 b17 i16 i17 i18 i19 i20 s
def adb (b0 : Bool) (i1 : Int) (l0 l1 : List AV) (b1 b2 b3 : Bool) (i2 i3 : Int) (l2 l3 : List AV) (b4 b5 b6 : Bool) (i4 i5 : Int) (l4 l5 : List AV) (b7 b8 : Bool) (i6 i7 i8 i9 i10 : Int) (b9 : Bool) (i11 : Int) (l6 l7 : List AV) (b10 b11 b12 : Bool) (i12 i13 : Int) (l8 l9 : List AV) (b13 b14 b15 : Bool) (i14 i15 : Int) (l10 l11 : List AV) (b16 b17 : Bool) (i16 i17 i18 i19 i20 : Int) : Int -> Fr := fun i0 => (aT 122 [(2, .ptr 0 [] 38 0), (3, .ptr 1 [] 38 0), (6, .int .i64 i0)] [])
def Zt (b0 : Bool) (i1 : Int) (l0 l1 : List AV) (b1 b2 b3 : Bool) (i2 i3 : Int) (l2 l3 : List AV) (b4 b5 b6 : Bool) (i4 i5 : Int) (l4 l5 : List AV) (b7 b8 : Bool) (i6 i7 i8 i9 i10 : Int) (b9 : Bool) (i11 : Int) (l6 l7 : List AV) (b10 b11 b12 : Bool) (i12 i13 : Int) (l8 l9 : List AV) (b13 b14 b15 : Bool) (i14 i15 : Int) (l10 l11 : List AV) (b16 b17 : Bool) (i16 i17 i18 i19 i20 : Int) : Int -> Mm := fun i0 => ⟨[.var 38 (dI b0 i1 l0 l1 b1 b2 b3 i2 i3 l2 l3 b4 b5 b6 i4 i5 l4 l5 b7 b8 i6 i7 i8 i9 i10), .var 38 (dI b9 i11 l6 l7 b10 b11 b12 i12 i13 l8 l9 b13 b14 b15 i14 i15 l10 l11 b16 b17 i16 i17 i18 i19 i20)], []⟩
def Lx (F : Tab) (b0 : Bool) (i1 : Int) (l0 l1 : List AV) (b1 b2 b3 : Bool) (i2 i3 : Int) (l2 l3 : List AV) (b4 b5 b6 : Bool) (i4 i5 : Int) (l4 l5 : List AV) (b7 b8 : Bool) (i6 i7 i8 i9 i10 : Int) (b9 : Bool) (i11 : Int) (l6 l7 : List AV) (b10 b11 b12 : Bool) (i12 i13 : Int) (l8 l9 : List AV) (b13 b14 b15 : Bool) (i14 i15 : Int) (l10 l11 : List AV) (b16 b17 : Bool) (i16 i17 i18 i19 i20 : Int) (fuel : Nat) (i0 : Int) : LO := Tr.run (uT F b0 i1 l0 l1 b1 b2 b3 i2 i3 l2 l3 b4 b5 b6 i4 i5 l4 l5 b7 b8 i6 i7 i8 i9 i10 b9 i11 l6 l7 b10 b11 b12 i12 i13 l8 l9 b13 b14 b15 i14 i15 l10 l11 b16 b17 i16 i17 i18 i19 i20) fuel (i0)
def La (b0 : Bool) (i1 : Int) (l0 l1 : List AV) (b1 b2 b3 : Bool) (i2 i3 : Int) (l2 l3 : List AV) (b4 b5 b6 : Bool) (i4 i5 : Int) (l4 l5 : List AV) (b7 b8 : Bool) (i6 i7 i8 i9 i10 : Int) (b9 : Bool) (i11 : Int) (l6 l7 : List AV) (b10 b11 b12 : Bool) (i12 i13 : Int) (l8 l9 : List AV) (b13 b14 b15 : Bool) (i14 i15 : Int) (l10 l11 : List AV) (b16 b17 : Bool) (i16 i17 i18 i19 i20 : Int) (lo : LO) : LT :=
 .br (lo.k == 1) (.done .ret (aT 122 [(4, .bool false)] []) ⟨[.var 38 (dI b0 i1 l0 l1 b1 b2 b3 i2 i3 l2 l3 b4 b5 b6 i4 i5 l4 l5 b7 b8 i6 i7 i8 i9 i10), .var 38 (dI b9 i11 l6 l7 b10 b11 b12 i12 i13 l8 l9 b13 b14 b15 i14 i15 l10 l11 b16 b17 i16 i17 i18 i19 i20)], []⟩) (.br (lo.k == 2) (.done (.exit 2) (aT 122 [] []) ⟨[.var 38 (dI b0 i1 l0 l1 b1 b2 b3 i2 i3 l2 l3 b4 b5 b6 i4 i5 l4 l5 b7 b8 i6 i7 i8 i9 i10), .var 38 (dI b9 i11 l6 l7 b10 b11 b12 i12 i13 l8 l9 b13 b14 b15 i14 i15 l10 l11 b16 b17 i16 i17 i18 i19 i20)], []⟩) (.fail))
def Bl : StP := ⟨122, [(2, .ptr 0 [] 38 (some 0)), (3, .ptr 1 [] 38 (some 0)), (6, .int .i64)], [], [.var 38 (yZ), .var 38 (yZ)], []⟩
abbrev Yc {α : Type} (f : Bool -> Int -> List AV -> List AV -> Bool -> Bool -> Bool -> Int -> Int -> List AV -> List AV -> Bool -> Bool -> Bool -> Int -> Int -> List AV -> List AV -> Bool -> Bool -> Int -> Int -> Int -> Int -> Int -> Bool -> Int -> List AV -> List AV -> Bool -> Bool -> Bool -> Int -> Int -> List AV -> List AV -> Bool -> Bool -> Bool -> Int -> Int -> List AV -> List AV -> Bool -> Bool -> Int -> Int -> Int -> Int -> Int -> Int -> α) (fr : Fr) (M : Mm) : α := f (au (pA (vR M 0) 0)) (aj (pA (pA (vR M 0) 1) 0)) (ak (pA (pA (vR M 0) 1) 1)) (ak (pA (pA (vR M 0) 1) 2)) (au (pA (pA (vR M 0) 1) 3)) (au (pA (pA (vR M 0) 1) 4)) (au (pA (pA (vR M 0) 1) 5)) (aj (pA (pA (vR M 0) 1) 6)) (aj (pA (pA (vR M 0) 2) 0)) (ak (pA (pA (vR M 0) 2) 1)) (ak (pA (pA (vR M 0) 2) 2)) (au (pA (pA (vR M 0) 2) 3)) (au (pA (pA (vR M 0) 2) 4)) (au (pA (pA (vR M 0) 2) 5)) (aj (pA (pA (vR M 0) 2) 6)) (aj (pA (vR M 0) 3)) (av (pA (vR M 0) 4)) (av (pA (vR M 0) 5)) (au (pA (vR M 0) 6)) (au (pA (pA (vR M 0) 7) 0)) (aj (pA (pA (vR M 0) 7) 1)) (aj (pA (pA (vR M 0) 7) 2)) (aj (pA (vR M 0) 8)) (aj (pA (vR M 0) 9)) (aj (pA (vR M 0) 10)) (au (pA (vR M 1) 0)) (aj (pA (pA (vR M 1) 1) 0)) (ak (pA (pA (vR M 1) 1) 1)) (ak (pA (pA (vR M 1) 1) 2)) (au (pA (pA (vR M 1) 1) 3)) (au (pA (pA (vR M 1) 1) 4)) (au (pA (pA (vR M 1) 1) 5)) (aj (pA (pA (vR M 1) 1) 6)) (aj (pA (pA (vR M 1) 2) 0)) (ak (pA (pA (vR M 1) 2) 1)) (ak (pA (pA (vR M 1) 2) 2)) (au (pA (pA (vR M 1) 2) 3)) (au (pA (pA (vR M 1) 2) 4)) (au (pA (pA (vR M 1) 2) 5)) (aj (pA (pA (vR M 1) 2) 6)) (aj (pA (vR M 1) 3)) (av (pA (vR M 1) 4)) (av (pA (vR M 1) 5)) (au (pA (vR M 1) 6)) (au (pA (pA (vR M 1) 7) 0)) (aj (pA (pA (vR M 1) 7) 1)) (aj (pA (pA (vR M 1) 7) 2)) (aj (pA (vR M 1) 8)) (aj (pA (vR M 1) 9)) (aj (pA (vR M 1) 10)) ((aj (tA fr 6)))
def Iu (F : Tab) (b0 : Bool) (i1 : Int) (l0 l1 : List AV) (b1 b2 b3 : Bool) (i2 i3 : Int) (l2 l3 : List AV) (b4 b5 b6 : Bool) (i4 i5 : Int) (l4 l5 : List AV) (b7 b8 : Bool) (i6 i7 i8 i9 i10 : Int) (b9 : Bool) (i11 : Int) (l6 l7 : List AV) (b10 b11 b12 : Bool) (i12 i13 : Int) (l8 l9 : List AV) (b13 b14 b15 : Bool) (i14 i15 : Int) (l10 l11 : List AV) (b16 b17 : Bool) (i16 i17 i18 i19 i20 : Int) (s : Int) : LT := La b0 i1 l0 l1 b1 b2 b3 i2 i3 l2 l3 b4 b5 b6 i4 i5 l4 l5 b7 b8 i6 i7 i8 i9 i10 b9 i11 l6 l7 b10 b11 b12 i12 i13 l8 l9 b13 b14 b15 i14 i15 l10 l11 b16 b17 i16 i17 i18 i19 i20 (Tr.run (uT F b0 i1 l0 l1 b1 b2 b3 i2 i3 l2 l3 b4 b5 b6 i4 i5 l4 l5 b7 b8 i6 i7 i8 i9 i10 b9 i11 l6 l7 b10 b11 b12 i12 i13 l8 l9 b13 b14 b15 i14 i15 l10 l11 b16 b17 i16 i17 i18 i19 i20) 100000 s)
def M7 (F : Tab) (dep : Nat) (fr : Fr) (M : Mm) : Option LT := if Bl.ok fr M then some (Yc (Iu F) fr M) else none
def FD (F : Tab) (i0 i1 i2 : Int) (l0 l1 : List AV) (b0 b1 b2 : Bool) (i3 : Int) (l2 : List AV) (i4 : Int) (l3 l4 : List AV) (b3 b4 : Bool) (i5 : Int) (l5 : List AV) (i6 i7 : Int) (l6 l7 : List AV) (b5 b6 b7 : Bool) (i8 i9 : Int) (l8 l9 : List AV) (i10 i11 i12 i13 i14 i15 i16 : Int) (l10 l11 : List AV)  : Tr (Unit) :=
    .br (decide (((l9.length + 1) * 24) <= 140737488355328))
     (.br (aA Pg F 102 [aC l5, .int .i64 i0, .int .i64 i1])
      (.out ⟨1, [aj ((fG (ay F 102 [aC l5, .int .i64 i0, .int .i64 i1])).getD 0 .dead)], [], [l9 ++ [mO i0 i1 false]], [], [], []⟩)
      (.bad))
     (.bad)
def CV (F : Tab) (i0 i1 i2 : Int) (l0 l1 : List AV) (b0 b1 b2 : Bool) (i3 : Int) (l2 : List AV) (i4 : Int) (l3 l4 : List AV) (b3 b4 : Bool) (i5 : Int) (l5 : List AV) (i6 i7 : Int) (l6 l7 : List AV) (b5 b6 b7 : Bool) (i8 i9 : Int) (l8 l9 : List AV) (i10 i11 i12 i13 i14 i15 i16 : Int) (l10 l11 : List AV) : LO := (FD F i0 i1 i2 l0 l1 b0 b1 b2 i3 l2 i4 l3 l4 b3 b4 i5 l5 i6 i7 l6 l7 b5 b6 b7 i8 i9 l8 l9 i10 i11 i12 i13 i14 i15 i16 l10 l11).eval fun _ => LO.bad
def LG (i0 i1 i2 : Int) (l0 l1 : List AV) (b0 b1 b2 : Bool) (i3 : Int) (l2 : List AV) (i4 : Int) (l3 l4 : List AV) (b3 b4 : Bool) (i5 : Int) (l5 : List AV) (i6 i7 : Int) (l6 l7 : List AV) (b5 b6 b7 : Bool) (i8 i9 : Int) (l8 l9 : List AV) (i10 i11 i12 i13 i14 i15 i16 : Int) (l10 l11 : List AV) : Mm := ⟨[.var 26 (aD i2 l0 l1 b0 b1 b2 i3), .var 29 (aC l2), .var 38 (cO), .var 63 (dP i4 l3 l4 b3 false b4 i5 l5 i6 true dh i7 l6 l7 b5 b6 b7 i8 i9 l8 l9 false aY 0 0 0 i10 i11 i12 i13 i14), .var 61 (.ptr 3 [] 63 0), .var 118 (aW i15 i16 l10 l11)], [(2, [4]), (2, [5]), (3, [3, 4]), (3, [3, 5])]⟩
def Ky (i0 i1 i2 : Int) (l0 l1 : List AV) (b0 b1 b2 : Bool) (i3 : Int) (l2 : List AV) (i4 : Int) (l3 l4 : List AV) (b3 b4 : Bool) (i5 : Int) (l5 : List AV) (i6 i7 : Int) (l6 l7 : List AV) (b5 b6 b7 : Bool) (i8 i9 : Int) (l8 l9 : List AV) (i10 i11 i12 i13 i14 i15 i16 : Int) (l10 l11 : List AV) (lo : LO) : LT :=
 .br (lo.k == 1) (.done .ret (aT 1 [(0, .int .u32 (lo.I 0))] []) ⟨(LG i0 i1 i2 l0 l1 b0 b1 b2 i3 l2 i4 l3 l4 b3 b4 i5 l5 i6 i7 l6 l7 b5 b6 b7 i8 i9 l8 (lo.L 0) i10 i11 i12 i13 i14 i15 i16 l10 l11).rows, [(3, [3, 5]), (2, [4]), (2, [5]), (3, [3, 4])]⟩) (.fail)
def Xo (i0 i1 i2 : Int) (l0 l1 : List AV) (b0 b1 b2 : Bool) (i3 : Int) (l2 : List AV) (i4 : Int) (l3 l4 : List AV) (b3 b4 : Bool) (i5 : Int) (l5 : List AV) (i6 i7 : Int) (l6 l7 : List AV) (b5 b6 b7 : Bool) (i8 i9 : Int) (l8 l9 : List AV) (i10 i11 i12 i13 i14 i15 i16 : Int) (l10 l11 : List AV) : List AV := [.ptr 3 [] 63 0, .int .i64 i0, .int .i64 i1]
def zI : ArP := ⟨[.ptr 3 [] 63 (some 0), .int .i64, .int .i64], [.var 26 (eH), .var 29 (.agg 28 [.slice 139 false]), .var 38 (iP), .var 63 (iC), .var 61 (.ptr 3 [] 63 (some 0)), .var 118 (.agg 117 [.int .i64, .int .i64, .slice 57 false, .slice 3 false])], [(2, [4]), (2, [5]), (3, [3, 4]), (3, [3, 5])]⟩
abbrev aa0 {α : Type} (f : Int -> Int -> Int -> List AV -> List AV -> Bool -> Bool -> Bool -> Int -> List AV -> Int -> List AV -> List AV -> Bool -> Bool -> Int -> List AV -> Int -> Int -> List AV -> List AV -> Bool -> Bool -> Bool -> Int -> Int -> List AV -> List AV -> Int -> Int -> Int -> Int -> Int -> Int -> Int -> List AV -> List AV -> α) (args : List AV) (M : Mm) : α := f (aj (args.getD 1 .dead)) (aj (args.getD 2 .dead)) (aj (pA (vR M 0) 0)) (ak (pA (vR M 0) 1)) (ak (pA (vR M 0) 2)) (au (pA (vR M 0) 3)) (au (pA (vR M 0) 4)) (au (pA (vR M 0) 5)) (aj (pA (vR M 0) 6)) (av (pA (vR M 1) 0)) (aj (pA (pA (vR M 3) 0) 0)) (ak (pA (pA (vR M 3) 0) 1)) (ak (pA (pA (vR M 3) 0) 2)) (au (pA (pA (vR M 3) 0) 3)) (au (pA (pA (vR M 3) 0) 5)) (aj (pA (pA (vR M 3) 0) 6)) (av (pA (pA (vR M 3) 1) 0)) (aj (pA (vR M 3) 2)) (aj (pA (pA (pA (vR M 3) 3) 2) 0)) (ak (pA (pA (pA (vR M 3) 3) 2) 1)) (ak (pA (pA (pA (vR M 3) 3) 2) 2)) (au (pA (pA (pA (vR M 3) 3) 2) 3)) (au (pA (pA (pA (vR M 3) 3) 2) 4)) (au (pA (pA (pA (vR M 3) 3) 2) 5)) (aj (pA (pA (pA (vR M 3) 3) 2) 6)) (aj (pA (pA (vR M 3) 3) 3)) (av (pA (pA (vR M 3) 3) 4)) (av (pA (pA (vR M 3) 3) 5)) (aj (pA (pA (vR M 3) 4) 0)) (aj (pA (pA (vR M 3) 4) 1)) (aj (pA (pA (vR M 3) 4) 2)) (aj (pA (pA (vR M 3) 4) 3)) (aj (pA (pA (vR M 3) 4) 4)) (aj (pA (vR M 5) 0)) (aj (pA (vR M 5) 1)) (av (pA (vR M 5) 2)) (av (pA (vR M 5) 3))
def OI (F : Tab) (i0 i1 i2 : Int) (l0 l1 : List AV) (b0 b1 b2 : Bool) (i3 : Int) (l2 : List AV) (i4 : Int) (l3 l4 : List AV) (b3 b4 : Bool) (i5 : Int) (l5 : List AV) (i6 i7 : Int) (l6 l7 : List AV) (b5 b6 b7 : Bool) (i8 i9 : Int) (l8 l9 : List AV) (i10 i11 i12 i13 i14 i15 i16 : Int) (l10 l11 : List AV) : LT := Ky i0 i1 i2 l0 l1 b0 b1 b2 i3 l2 i4 l3 l4 b3 b4 i5 l5 i6 i7 l6 l7 b5 b6 b7 i8 i9 l8 l9 i10 i11 i12 i13 i14 i15 i16 l10 l11 (CV F i0 i1 i2 l0 l1 b0 b1 b2 i3 l2 i4 l3 l4 b3 b4 i5 l5 i6 i7 l6 l7 b5 b6 b7 i8 i9 l8 l9 i10 i11 i12 i13 i14 i15 i16 l10 l11)
def I4 (F : Tab) (dep : Nat) (args : List AV) (M : Mm) : Option LT := if Nat.beq dep 1 && zI.ok args M then some (aa0 (OI F) args M) else none
def En (F : Tab) (i0 i1 : Int) (l0 : List AV) (i2 i4 : Int) (l1 l2 : List AV) (b0 b1 b2 : Bool) (i5 : Int) (l3 : List AV) (i6 : Int) (l4 l5 : List AV) (b3 b4 : Bool) (i7 : Int) (l6 : List AV) (i8 i9 : Int) (l7 l8 : List AV) (b5 b6 b7 : Bool) (i10 i11 : Int) (l9 : List AV) (i12 i13 i14 i15 i16 i17 i18 : Int) (l11 l12 : List AV) (i3 : Int) (l10 : List AV) : Tr (Int × List AV) :=
    let x0 : LO := CV F (aj (l0.getD i3.toNat .dead)) 4 i4 l1 l2 b0 b1 b2 i5 l3 i6 l4 l5 b3 b4 i7 l6 i8 i9 l7 l8 b5 b6 b7 i10 i11 l9 l10 i12 i13 i14 i15 i16 i17 i18 l11 l12;
    .br (decide (i3 < i2))
     (.br (aM i3 l0.length)
      (.br (x0.k == 1)
       (.next (IntKind.i64.wrap (i3 + 1), x0.l.getD 0 []))
       (.bad))
      (.bad))
     (.out ⟨1, [], [], [l10], [], [], []⟩)
def vv (F : Tab) (i0 i1 : Int) (l0 : List AV) (i2 i4 : Int) (l1 l2 : List AV) (b0 b1 b2 : Bool) (i5 : Int) (l3 : List AV) (i6 : Int) (l4 l5 : List AV) (b3 b4 : Bool) (i7 : Int) (l6 : List AV) (i8 i9 : Int) (l7 l8 : List AV) (b5 b6 b7 : Bool) (i10 i11 : Int) (l9 : List AV) (i12 i13 i14 i15 i16 i17 i18 : Int) (l11 l12 : List AV) (s : Int × List AV) : Tr (Int × List AV) := En F i0 i1 l0 i2 i4 l1 l2 b0 b1 b2 i5 l3 i6 l4 l5 b3 b4 i7 l6 i8 i9 l7 l8 b5 b6 b7 i10 i11 l9 i12 i13 i14 i15 i16 i17 i18 l11 l12 s.1 s.2
def acr (i0 i1 : Int) (l0 : List AV) (i2 i4 : Int) (l1 l2 : List AV) (b0 b1 b2 : Bool) (i5 : Int) (l3 : List AV) (i6 : Int) (l4 l5 : List AV) (b3 b4 : Bool) (i7 : Int) (l6 : List AV) (i8 i9 : Int) (l7 l8 : List AV) (b5 b6 b7 : Bool) (i10 i11 : Int) (l9 : List AV) (i12 i13 i14 i15 i16 i17 i18 : Int) (l11 l12 : List AV) : Int × List AV -> Fr := fun (i3, l10) => (aT 66 [(0, .ptr 3 [] 63 0), (1, .int .u32 i0), (7, .ptr 5 [] 118 0), (8, .int .i64 i1), (37, .slice 3 l0 false), (38, .int .i64 i2), (39, .int .i64 i3)] [])
def Zj (i0 i1 : Int) (l0 : List AV) (i2 i4 : Int) (l1 l2 : List AV) (b0 b1 b2 : Bool) (i5 : Int) (l3 : List AV) (i6 : Int) (l4 l5 : List AV) (b3 b4 : Bool) (i7 : Int) (l6 : List AV) (i8 i9 : Int) (l7 l8 : List AV) (b5 b6 b7 : Bool) (i10 i11 : Int) (l9 : List AV) (i12 i13 i14 i15 i16 i17 i18 : Int) (l11 l12 : List AV) : Int × List AV -> Mm := fun (i3, l10) => ⟨[.var 26 (aD i4 l1 l2 b0 b1 b2 i5), .var 29 (aC l3), .var 38 (cO), .var 63 (dP i6 l4 l5 b3 false b4 i7 l6 i8 true dh i9 l7 l8 b5 b6 b7 i10 i11 l9 l10 false aY 0 0 0 i12 i13 i14 i15 i16), .var 61 (.ptr 3 [] 63 0), .var 118 (aW i17 i18 l11 l12)], [(2, [4]), (2, [5]), (3, [3, 4]), (3, [3, 5])]⟩
def Cw (F : Tab) (i0 i1 : Int) (l0 : List AV) (i2 i4 : Int) (l1 l2 : List AV) (b0 b1 b2 : Bool) (i5 : Int) (l3 : List AV) (i6 : Int) (l4 l5 : List AV) (b3 b4 : Bool) (i7 : Int) (l6 : List AV) (i8 i9 : Int) (l7 l8 : List AV) (b5 b6 b7 : Bool) (i10 i11 : Int) (l9 : List AV) (i12 i13 i14 i15 i16 i17 i18 : Int) (l11 l12 : List AV) (fuel : Nat) (i3 : Int) (l10 : List AV) : LO := Tr.run (vv F i0 i1 l0 i2 i4 l1 l2 b0 b1 b2 i5 l3 i6 l4 l5 b3 b4 i7 l6 i8 i9 l7 l8 b5 b6 b7 i10 i11 l9 i12 i13 i14 i15 i16 i17 i18 l11 l12) fuel (i3, l10)
def JG (i0 i1 : Int) (l0 : List AV) (i2 i4 : Int) (l1 l2 : List AV) (b0 b1 b2 : Bool) (i5 : Int) (l3 : List AV) (i6 : Int) (l4 l5 : List AV) (b3 b4 : Bool) (i7 : Int) (l6 : List AV) (i8 i9 : Int) (l7 l8 : List AV) (b5 b6 b7 : Bool) (i10 i11 : Int) (l9 : List AV) (i12 i13 i14 i15 i16 i17 i18 : Int) (l11 l12 : List AV) (lo : LO) : LT :=
 .br (lo.k == 1) (.done (.exit 0) (aT 66 [(0, .ptr 3 [] 63 0), (1, .int .u32 i0), (7, .ptr 5 [] 118 0), (8, .int .i64 i1)] []) ⟨[.var 26 (aD i4 l1 l2 b0 b1 b2 i5), .var 29 (aC l3), .var 38 (cO), .var 63 (dP i6 l4 l5 b3 false b4 i7 l6 i8 true dh i9 l7 l8 b5 b6 b7 i10 i11 l9 (lo.L 0) false aY 0 0 0 i12 i13 i14 i15 i16), .var 61 (.ptr 3 [] 63 0), .var 118 (aW i17 i18 l11 l12)], [(2, [4]), (2, [5]), (3, [3, 4]), (3, [3, 5])]⟩) (.fail)
def Ak : StP := ⟨66, [(0, .ptr 3 [] 63 (some 0)), (1, .int .u32), (7, .ptr 5 [] 118 (some 0)), (8, .int .i64), (37, .slice 3 false), (38, .int .i64), (39, .int .i64)], [], [.var 26 (eH), .var 29 (.agg 28 [.slice 139 false]), .var 38 (iP), .var 63 (iC), .var 61 (.ptr 3 [] 63 (some 0)), .var 118 (.agg 117 [.int .i64, .int .i64, .slice 57 false, .slice 3 false])], [(2, [4]), (2, [5]), (3, [3, 4]), (3, [3, 5])]⟩
abbrev ac3 {α : Type} (f : Int -> Int -> List AV -> Int -> Int -> List AV -> List AV -> Bool -> Bool -> Bool -> Int -> List AV -> Int -> List AV -> List AV -> Bool -> Bool -> Int -> List AV -> Int -> Int -> List AV -> List AV -> Bool -> Bool -> Bool -> Int -> Int -> List AV -> Int -> Int -> Int -> Int -> Int -> Int -> Int -> List AV -> List AV -> (Int × List AV) -> α) (fr : Fr) (M : Mm) : α := f (aj (tA fr 1)) (aj (tA fr 8)) (av (tA fr 37)) (aj (tA fr 38)) (aj (pA (vR M 0) 0)) (ak (pA (vR M 0) 1)) (ak (pA (vR M 0) 2)) (au (pA (vR M 0) 3)) (au (pA (vR M 0) 4)) (au (pA (vR M 0) 5)) (aj (pA (vR M 0) 6)) (av (pA (vR M 1) 0)) (aj (pA (pA (vR M 3) 0) 0)) (ak (pA (pA (vR M 3) 0) 1)) (ak (pA (pA (vR M 3) 0) 2)) (au (pA (pA (vR M 3) 0) 3)) (au (pA (pA (vR M 3) 0) 5)) (aj (pA (pA (vR M 3) 0) 6)) (av (pA (pA (vR M 3) 1) 0)) (aj (pA (vR M 3) 2)) (aj (pA (pA (pA (vR M 3) 3) 2) 0)) (ak (pA (pA (pA (vR M 3) 3) 2) 1)) (ak (pA (pA (pA (vR M 3) 3) 2) 2)) (au (pA (pA (pA (vR M 3) 3) 2) 3)) (au (pA (pA (pA (vR M 3) 3) 2) 4)) (au (pA (pA (pA (vR M 3) 3) 2) 5)) (aj (pA (pA (pA (vR M 3) 3) 2) 6)) (aj (pA (pA (vR M 3) 3) 3)) (av (pA (pA (vR M 3) 3) 4)) (aj (pA (pA (vR M 3) 4) 0)) (aj (pA (pA (vR M 3) 4) 1)) (aj (pA (pA (vR M 3) 4) 2)) (aj (pA (pA (vR M 3) 4) 3)) (aj (pA (pA (vR M 3) 4) 4)) (aj (pA (vR M 5) 0)) (aj (pA (vR M 5) 1)) (av (pA (vR M 5) 2)) (av (pA (vR M 5) 3)) ((aj (tA fr 39)), (av (pA (pA (vR M 3) 3) 5)))
def Lg (F : Tab) (i0 i1 : Int) (l0 : List AV) (i2 i4 : Int) (l1 l2 : List AV) (b0 b1 b2 : Bool) (i5 : Int) (l3 : List AV) (i6 : Int) (l4 l5 : List AV) (b3 b4 : Bool) (i7 : Int) (l6 : List AV) (i8 i9 : Int) (l7 l8 : List AV) (b5 b6 b7 : Bool) (i10 i11 : Int) (l9 : List AV) (i12 i13 i14 i15 i16 i17 i18 : Int) (l11 l12 : List AV) (s : Int × List AV) : LT := JG i0 i1 l0 i2 i4 l1 l2 b0 b1 b2 i5 l3 i6 l4 l5 b3 b4 i7 l6 i8 i9 l7 l8 b5 b6 b7 i10 i11 l9 i12 i13 i14 i15 i16 i17 i18 l11 l12 (Tr.run (vv F i0 i1 l0 i2 i4 l1 l2 b0 b1 b2 i5 l3 i6 l4 l5 b3 b4 i7 l6 i8 i9 l7 l8 b5 b6 b7 i10 i11 l9 i12 i13 i14 i15 i16 i17 i18 l11 l12) 100000 s)
def P5 (F : Tab) (dep : Nat) (fr : Fr) (M : Mm) : Option LT := if Nat.beq dep 2 && Ak.ok fr M then some (ac3 (Lg F) fr M) else none
def GJ (F : Tab) (i0 i1 i2 i3 : Int) (l0 l1 : List AV) (b0 b1 b2 : Bool) (i4 : Int) (l2 : List AV) (i5 : Int) (l3 l4 : List AV) (b3 b4 : Bool) (i6 : Int) (l5 : List AV) (i7 i8 : Int) (l6 l7 : List AV) (b5 b6 b7 : Bool) (i9 i10 : Int) (l8 l9 : List AV) (i11 i12 i13 i14 i15 i16 i17 : Int) (l10 l11 : List AV) (i18 i19 i20 : Int)  : Tr (Unit) :=
    .br (decide (((l9.length + 1) * 24) <= 140737488355328))
     (.br (decide (((l8.length + 1) * 24) <= 140737488355328))
      (.br (aA Pg F 104 [aC l5, bg i0 i1 i2])
       (.out ⟨1, [], [], [av ((ak ((fG (ay F 104 [aC l5, bg i0 i1 i2])).getD 0 .dead)).getD 0 .dead), l8 ++ [bg i0 i1 i2], l9 ++ [mO i0 i1 true]], [], [], []⟩)
       (.bad))
      (.bad))
     (.bad)
def zP (F : Tab) (i0 i1 i2 i3 : Int) (l0 l1 : List AV) (b0 b1 b2 : Bool) (i4 : Int) (l2 : List AV) (i5 : Int) (l3 l4 : List AV) (b3 b4 : Bool) (i6 : Int) (l5 : List AV) (i7 i8 : Int) (l6 l7 : List AV) (b5 b6 b7 : Bool) (i9 i10 : Int) (l8 l9 : List AV) (i11 i12 i13 i14 i15 i16 i17 : Int) (l10 l11 : List AV) (i18 i19 i20 : Int) : LO := (GJ F i0 i1 i2 i3 l0 l1 b0 b1 b2 i4 l2 i5 l3 l4 b3 b4 i6 l5 i7 i8 l6 l7 b5 b6 b7 i9 i10 l8 l9 i11 i12 i13 i14 i15 i16 i17 l10 l11 i18 i19 i20).eval fun _ => LO.bad
def II (i0 i1 i2 i3 : Int) (l0 l1 : List AV) (b0 b1 b2 : Bool) (i4 : Int) (l2 : List AV) (i5 : Int) (l3 l4 : List AV) (b3 b4 : Bool) (i6 : Int) (l5 : List AV) (i7 i8 : Int) (l6 l7 : List AV) (b5 b6 b7 : Bool) (i9 i10 : Int) (l8 l9 : List AV) (i11 i12 i13 i14 i15 i16 i17 : Int) (l10 l11 : List AV) (i18 i19 i20 : Int) : Mm := ⟨[.var 26 (aD i3 l0 l1 b0 b1 b2 i4), .var 29 (aC l2), .var 38 (cO), .var 63 (dP i5 l3 l4 b3 false b4 i6 l5 i7 true dh i8 l6 l7 b5 b6 b7 i9 i10 l8 l9 false aY 0 0 0 i11 i12 i13 i14 i15), .var 61 (.ptr 3 [] 63 0), .var 118 (aW i16 i17 l10 l11), .var 57 (bg i18 i19 i20)], [(2, [4]), (2, [5]), (3, [3, 4]), (3, [3, 5])]⟩
def J8 (i0 i1 i2 i3 : Int) (l0 l1 : List AV) (b0 b1 b2 : Bool) (i4 : Int) (l2 : List AV) (i5 : Int) (l3 l4 : List AV) (b3 b4 : Bool) (i6 : Int) (l5 : List AV) (i7 i8 : Int) (l6 l7 : List AV) (b5 b6 b7 : Bool) (i9 i10 : Int) (l8 l9 : List AV) (i11 i12 i13 i14 i15 i16 i17 : Int) (l10 l11 : List AV) (i18 i19 i20 : Int) (lo : LO) : LT :=
 .br (lo.k == 1) (.done .ret (aT 1 [(0, .tuple [])] []) ⟨(II i0 i1 i2 i3 l0 l1 b0 b1 b2 i4 l2 i5 l3 l4 b3 b4 i6 (lo.L 0) i7 i8 l6 l7 b5 b6 b7 i9 i10 (lo.L 1) (lo.L 2) i11 i12 i13 i14 i15 i16 i17 l10 l11 i18 i19 i20).rows, [(3, [3, 4]), (3, [3, 5]), (2, [4]), (2, [5])]⟩) (.fail)
def Q6 (i0 i1 i2 i3 : Int) (l0 l1 : List AV) (b0 b1 b2 : Bool) (i4 : Int) (l2 : List AV) (i5 : Int) (l3 l4 : List AV) (b3 b4 : Bool) (i6 : Int) (l5 : List AV) (i7 i8 : Int) (l6 l7 : List AV) (b5 b6 b7 : Bool) (i9 i10 : Int) (l8 l9 : List AV) (i11 i12 i13 i14 i15 i16 i17 : Int) (l10 l11 : List AV) (i18 i19 i20 : Int) : List AV := [.ptr 3 [] 63 0, bg i0 i1 i2]
def BZ : ArP := ⟨[.ptr 3 [] 63 (some 0), .agg 56 [.int .i64, .int .i64, .int .u32]], [.var 26 (eH), .var 29 (.agg 28 [.slice 139 false]), .var 38 (iP), .var 63 (iC), .var 61 (.ptr 3 [] 63 (some 0)), .var 118 (.agg 117 [.int .i64, .int .i64, .slice 57 false, .slice 3 false]), .var 57 (.agg 56 [.int .i64, .int .i64, .int .u32])], [(2, [4]), (2, [5]), (3, [3, 4]), (3, [3, 5])]⟩
abbrev QK {α : Type} (f : Int -> Int -> Int -> Int -> List AV -> List AV -> Bool -> Bool -> Bool -> Int -> List AV -> Int -> List AV -> List AV -> Bool -> Bool -> Int -> List AV -> Int -> Int -> List AV -> List AV -> Bool -> Bool -> Bool -> Int -> Int -> List AV -> List AV -> Int -> Int -> Int -> Int -> Int -> Int -> Int -> List AV -> List AV -> Int -> Int -> Int -> α) (args : List AV) (M : Mm) : α := f (aj (pA (args.getD 1 .dead) 0)) (aj (pA (args.getD 1 .dead) 1)) (aj (pA (args.getD 1 .dead) 2)) (aj (pA (vR M 0) 0)) (ak (pA (vR M 0) 1)) (ak (pA (vR M 0) 2)) (au (pA (vR M 0) 3)) (au (pA (vR M 0) 4)) (au (pA (vR M 0) 5)) (aj (pA (vR M 0) 6)) (av (pA (vR M 1) 0)) (aj (pA (pA (vR M 3) 0) 0)) (ak (pA (pA (vR M 3) 0) 1)) (ak (pA (pA (vR M 3) 0) 2)) (au (pA (pA (vR M 3) 0) 3)) (au (pA (pA (vR M 3) 0) 5)) (aj (pA (pA (vR M 3) 0) 6)) (av (pA (pA (vR M 3) 1) 0)) (aj (pA (vR M 3) 2)) (aj (pA (pA (pA (vR M 3) 3) 2) 0)) (ak (pA (pA (pA (vR M 3) 3) 2) 1)) (ak (pA (pA (pA (vR M 3) 3) 2) 2)) (au (pA (pA (pA (vR M 3) 3) 2) 3)) (au (pA (pA (pA (vR M 3) 3) 2) 4)) (au (pA (pA (pA (vR M 3) 3) 2) 5)) (aj (pA (pA (pA (vR M 3) 3) 2) 6)) (aj (pA (pA (vR M 3) 3) 3)) (av (pA (pA (vR M 3) 3) 4)) (av (pA (pA (vR M 3) 3) 5)) (aj (pA (pA (vR M 3) 4) 0)) (aj (pA (pA (vR M 3) 4) 1)) (aj (pA (pA (vR M 3) 4) 2)) (aj (pA (pA (vR M 3) 4) 3)) (aj (pA (pA (vR M 3) 4) 4)) (aj (pA (vR M 5) 0)) (aj (pA (vR M 5) 1)) (av (pA (vR M 5) 2)) (av (pA (vR M 5) 3)) (aj (pA (vR M 6) 0)) (aj (pA (vR M 6) 1)) (aj (pA (vR M 6) 2))
def JY (F : Tab) (i0 i1 i2 i3 : Int) (l0 l1 : List AV) (b0 b1 b2 : Bool) (i4 : Int) (l2 : List AV) (i5 : Int) (l3 l4 : List AV) (b3 b4 : Bool) (i6 : Int) (l5 : List AV) (i7 i8 : Int) (l6 l7 : List AV) (b5 b6 b7 : Bool) (i9 i10 : Int) (l8 l9 : List AV) (i11 i12 i13 i14 i15 i16 i17 : Int) (l10 l11 : List AV) (i18 i19 i20 : Int) : LT := J8 i0 i1 i2 i3 l0 l1 b0 b1 b2 i4 l2 i5 l3 l4 b3 b4 i6 l5 i7 i8 l6 l7 b5 b6 b7 i9 i10 l8 l9 i11 i12 i13 i14 i15 i16 i17 l10 l11 i18 i19 i20 (zP F i0 i1 i2 i3 l0 l1 b0 b1 b2 i4 l2 i5 l3 l4 b3 b4 i6 l5 i7 i8 l6 l7 b5 b6 b7 i9 i10 l8 l9 i11 i12 i13 i14 i15 i16 i17 l10 l11 i18 i19 i20)
def Ns (F : Tab) (dep : Nat) (args : List AV) (M : Mm) : Option LT := if Nat.beq dep 1 && BZ.ok args M then some (QK (JY F) args M) else none
def BA (F : Tab) (i0 i1 : Int) (l0 : List AV) (i2 i4 : Int) (l1 l2 : List AV) (b0 b1 b2 : Bool) (i5 : Int) (l3 : List AV) (i6 : Int) (l4 l5 : List AV) (b3 b4 : Bool) (i7 i8 i9 : Int) (l7 l8 : List AV) (b5 b6 b7 : Bool) (i10 i11 i12 i13 i14 i15 i16 i17 i18 : Int) (l11 l12 : List AV) (i3 : Int) (l6 l9 l10 : List AV) : Tr (T0) :=
    let x0 : LO := zP F (aj ((ak (l0.getD i3.toNat .dead)).getD 0 .dead)) (aj ((ak (l0.getD i3.toNat .dead)).getD 1 .dead)) (aj ((ak (l0.getD i3.toNat .dead)).getD 2 .dead)) i4 l1 l2 b0 b1 b2 i5 l3 i6 l4 l5 b3 b4 i7 l6 i8 i9 l7 l8 b5 b6 b7 i10 i11 l9 l10 i12 i13 i14 i15 i16 i17 i18 l11 l12 (aj ((ak (l0.getD i3.toNat .dead)).getD 0 .dead)) (aj ((ak (l0.getD i3.toNat .dead)).getD 1 .dead)) (aj ((ak (l0.getD i3.toNat .dead)).getD 2 .dead));
    .br (decide (i3 < i2))
     (.br (aM i3 l0.length)
      (.br (x0.k == 1)
       (.next (IntKind.i64.wrap (i3 + 1), x0.l.getD 0 [], x0.l.getD 1 [], x0.l.getD 2 []))
       (.bad))
      (.bad))
     (.out ⟨1, [], [], [l6, l9, l10], [], [], []⟩)
def sP (F : Tab) (i0 i1 : Int) (l0 : List AV) (i2 i4 : Int) (l1 l2 : List AV) (b0 b1 b2 : Bool) (i5 : Int) (l3 : List AV) (i6 : Int) (l4 l5 : List AV) (b3 b4 : Bool) (i7 i8 i9 : Int) (l7 l8 : List AV) (b5 b6 b7 : Bool) (i10 i11 i12 i13 i14 i15 i16 i17 i18 : Int) (l11 l12 : List AV) (s : T0) : Tr (T0) := BA F i0 i1 l0 i2 i4 l1 l2 b0 b1 b2 i5 l3 i6 l4 l5 b3 b4 i7 i8 i9 l7 l8 b5 b6 b7 i10 i11 i12 i13 i14 i15 i16 i17 i18 l11 l12 s.1 s.2.1 s.2.2.1 s.2.2.2
def aaR (i0 i1 : Int) (l0 : List AV) (i2 i4 : Int) (l1 l2 : List AV) (b0 b1 b2 : Bool) (i5 : Int) (l3 : List AV) (i6 : Int) (l4 l5 : List AV) (b3 b4 : Bool) (i7 i8 i9 : Int) (l7 l8 : List AV) (b5 b6 b7 : Bool) (i10 i11 i12 i13 i14 i15 i16 i17 i18 : Int) (l11 l12 : List AV) : T0 -> Fr := fun (i3, l6, l9, l10) => (aT 66 [(0, .ptr 3 [] 63 0), (1, .int .u32 i0), (7, .ptr 5 [] 118 0), (8, .int .i64 i1), (48, .slice 57 l0 false), (49, .int .i64 i2), (50, .int .i64 i3)] [])
def abS (i0 i1 : Int) (l0 : List AV) (i2 i4 : Int) (l1 l2 : List AV) (b0 b1 b2 : Bool) (i5 : Int) (l3 : List AV) (i6 : Int) (l4 l5 : List AV) (b3 b4 : Bool) (i7 i8 i9 : Int) (l7 l8 : List AV) (b5 b6 b7 : Bool) (i10 i11 i12 i13 i14 i15 i16 i17 i18 : Int) (l11 l12 : List AV) : T0 -> Mm := fun (i3, l6, l9, l10) => ⟨[.var 26 (aD i4 l1 l2 b0 b1 b2 i5), .var 29 (aC l3), .var 38 (cO), .var 63 (dP i6 l4 l5 b3 false b4 i7 l6 i8 true dh i9 l7 l8 b5 b6 b7 i10 i11 l9 l10 false aY 0 0 0 i12 i13 i14 i15 i16), .var 61 (.ptr 3 [] 63 0), .var 118 (aW i17 i18 l11 l12)], [(2, [4]), (2, [5]), (3, [3, 4]), (3, [3, 5])]⟩
def zD (F : Tab) (i0 i1 : Int) (l0 : List AV) (i2 i4 : Int) (l1 l2 : List AV) (b0 b1 b2 : Bool) (i5 : Int) (l3 : List AV) (i6 : Int) (l4 l5 : List AV) (b3 b4 : Bool) (i7 i8 i9 : Int) (l7 l8 : List AV) (b5 b6 b7 : Bool) (i10 i11 i12 i13 i14 i15 i16 i17 i18 : Int) (l11 l12 : List AV) (fuel : Nat) (i3 : Int) (l6 l9 l10 : List AV) : LO := Tr.run (sP F i0 i1 l0 i2 i4 l1 l2 b0 b1 b2 i5 l3 i6 l4 l5 b3 b4 i7 i8 i9 l7 l8 b5 b6 b7 i10 i11 i12 i13 i14 i15 i16 i17 i18 l11 l12) fuel (i3, l6, l9, l10)
def PN (i0 i1 : Int) (l0 : List AV) (i2 i4 : Int) (l1 l2 : List AV) (b0 b1 b2 : Bool) (i5 : Int) (l3 : List AV) (i6 : Int) (l4 l5 : List AV) (b3 b4 : Bool) (i7 i8 i9 : Int) (l7 l8 : List AV) (b5 b6 b7 : Bool) (i10 i11 i12 i13 i14 i15 i16 i17 i18 : Int) (l11 l12 : List AV) (lo : LO) : LT :=
 .br (lo.k == 1) (.done (.exit 2) (aT 66 [(0, .ptr 3 [] 63 0), (1, .int .u32 i0), (7, .ptr 5 [] 118 0), (8, .int .i64 i1)] []) ⟨[.var 26 (aD i4 l1 l2 b0 b1 b2 i5), .var 29 (aC l3), .var 38 (cO), .var 63 (dP i6 l4 l5 b3 false b4 i7 (lo.L 0) i8 true dh i9 l7 l8 b5 b6 b7 i10 i11 (lo.L 1) (lo.L 2) false aY 0 0 0 i12 i13 i14 i15 i16), .var 61 (.ptr 3 [] 63 0), .var 118 (aW i17 i18 l11 l12)], [(2, [4]), (2, [5]), (3, [3, 4]), (3, [3, 5])]⟩) (.fail)
def Ce : StP := ⟨66, [(0, .ptr 3 [] 63 (some 0)), (1, .int .u32), (7, .ptr 5 [] 118 (some 0)), (8, .int .i64), (48, .slice 57 false), (49, .int .i64), (50, .int .i64)], [], [.var 26 (eH), .var 29 (.agg 28 [.slice 139 false]), .var 38 (iP), .var 63 (iC), .var 61 (.ptr 3 [] 63 (some 0)), .var 118 (.agg 117 [.int .i64, .int .i64, .slice 57 false, .slice 3 false])], [(2, [4]), (2, [5]), (3, [3, 4]), (3, [3, 5])]⟩
abbrev ZQ {α : Type} (f : Int -> Int -> List AV -> Int -> Int -> List AV -> List AV -> Bool -> Bool -> Bool -> Int -> List AV -> Int -> List AV -> List AV -> Bool -> Bool -> Int -> Int -> Int -> List AV -> List AV -> Bool -> Bool -> Bool -> Int -> Int -> Int -> Int -> Int -> Int -> Int -> Int -> Int -> List AV -> List AV -> T0 -> α) (fr : Fr) (M : Mm) : α := f (aj (tA fr 1)) (aj (tA fr 8)) (av (tA fr 48)) (aj (tA fr 49)) (aj (pA (vR M 0) 0)) (ak (pA (vR M 0) 1)) (ak (pA (vR M 0) 2)) (au (pA (vR M 0) 3)) (au (pA (vR M 0) 4)) (au (pA (vR M 0) 5)) (aj (pA (vR M 0) 6)) (av (pA (vR M 1) 0)) (aj (pA (pA (vR M 3) 0) 0)) (ak (pA (pA (vR M 3) 0) 1)) (ak (pA (pA (vR M 3) 0) 2)) (au (pA (pA (vR M 3) 0) 3)) (au (pA (pA (vR M 3) 0) 5)) (aj (pA (pA (vR M 3) 0) 6)) (aj (pA (vR M 3) 2)) (aj (pA (pA (pA (vR M 3) 3) 2) 0)) (ak (pA (pA (pA (vR M 3) 3) 2) 1)) (ak (pA (pA (pA (vR M 3) 3) 2) 2)) (au (pA (pA (pA (vR M 3) 3) 2) 3)) (au (pA (pA (pA (vR M 3) 3) 2) 4)) (au (pA (pA (pA (vR M 3) 3) 2) 5)) (aj (pA (pA (pA (vR M 3) 3) 2) 6)) (aj (pA (pA (vR M 3) 3) 3)) (aj (pA (pA (vR M 3) 4) 0)) (aj (pA (pA (vR M 3) 4) 1)) (aj (pA (pA (vR M 3) 4) 2)) (aj (pA (pA (vR M 3) 4) 3)) (aj (pA (pA (vR M 3) 4) 4)) (aj (pA (vR M 5) 0)) (aj (pA (vR M 5) 1)) (av (pA (vR M 5) 2)) (av (pA (vR M 5) 3)) ((aj (tA fr 50)), (av (pA (pA (vR M 3) 1) 0)), (av (pA (pA (vR M 3) 3) 4)), (av (pA (pA (vR M 3) 3) 5)))
def Lh (F : Tab) (i0 i1 : Int) (l0 : List AV) (i2 i4 : Int) (l1 l2 : List AV) (b0 b1 b2 : Bool) (i5 : Int) (l3 : List AV) (i6 : Int) (l4 l5 : List AV) (b3 b4 : Bool) (i7 i8 i9 : Int) (l7 l8 : List AV) (b5 b6 b7 : Bool) (i10 i11 i12 i13 i14 i15 i16 i17 i18 : Int) (l11 l12 : List AV) (s : T0) : LT := PN i0 i1 l0 i2 i4 l1 l2 b0 b1 b2 i5 l3 i6 l4 l5 b3 b4 i7 i8 i9 l7 l8 b5 b6 b7 i10 i11 i12 i13 i14 i15 i16 i17 i18 l11 l12 (Tr.run (sP F i0 i1 l0 i2 i4 l1 l2 b0 b1 b2 i5 l3 i6 l4 l5 b3 b4 i7 i8 i9 l7 l8 b5 b6 b7 i10 i11 i12 i13 i14 i15 i16 i17 i18 l11 l12) 100000 s)
def Ju (F : Tab) (dep : Nat) (fr : Fr) (M : Mm) : Option LT := if Nat.beq dep 2 && Ce.ok fr M then some (ZQ (Lh F) fr M) else none
def LW (F : Tab) (i0 : Int) (b0 : Bool) (i2 : Int) (l0 l1 : List AV) (b1 b2 b3 : Bool) (i3 : Int) (i1 : Int) : Tr (Int) :=
    .br (cond (decide (i1 < 5)) b0 false)
     (.br (aA Pg F 50 [.int .u32 i0, .int .i64 i1])
      (.br (au (ay F 50 [.int .u32 i0, .int .i64 i1]))
       (.out ⟨1, [i1], [], [], [], [], []⟩)
       (.next (IntKind.i64.wrap (i1 + 1))))
      (.bad))
     (.out ⟨2, [], [], [], [], [], []⟩)
def wB (F : Tab) (i0 : Int) (b0 : Bool) (i2 : Int) (l0 l1 : List AV) (b1 b2 b3 : Bool) (i3 : Int) (s : Int) : Tr (Int) := LW F i0 b0 i2 l0 l1 b1 b2 b3 i3 s
def Rj (i0 : Int) (b0 : Bool) (i2 : Int) (l0 l1 : List AV) (b1 b2 b3 : Bool) (i3 : Int) : Int -> Fr := fun i1 => (aT 26 [(1, .int .u32 i0), (4, .ptr 1 [] 67 0), (5, .bool b0), (6, .int .i64 i1)] [])
def RG (i0 : Int) (b0 : Bool) (i2 : Int) (l0 l1 : List AV) (b1 b2 b3 : Bool) (i3 : Int) : Int -> Mm := fun i1 => ⟨[.var 26 (aD i2 l0 l1 b1 b2 b3 i3), .var 67 (.agg 66 [.int .i64 0, .bool false])], []⟩
def K8 (F : Tab) (i0 : Int) (b0 : Bool) (i2 : Int) (l0 l1 : List AV) (b1 b2 b3 : Bool) (i3 : Int) (fuel : Nat) (i1 : Int) : LO := Tr.run (wB F i0 b0 i2 l0 l1 b1 b2 b3 i3) fuel (i1)
def Nr (i0 : Int) (b0 : Bool) (i2 : Int) (l0 l1 : List AV) (b1 b2 b3 : Bool) (i3 : Int) (lo : LO) : LT :=
 .br (lo.k == 1) (.done .ret (aT 26 [(4, .ptr 1 [] 67 0)] []) ⟨[.var 26 (aD i2 l0 l1 b1 b2 b3 i3), .var 67 (.agg 66 [.int .i64 (lo.I 0), .bool true])], []⟩) (.br (lo.k == 2) (.done (.exit 0) (aT 26 [(4, .ptr 1 [] 67 0)] []) ⟨[.var 26 (aD i2 l0 l1 b1 b2 b3 i3), .var 67 (.agg 66 [.int .i64 0, .bool false])], []⟩) (.fail))
def CY : StP := ⟨26, [(1, .int .u32), (4, .ptr 1 [] 67 (some 0)), (5, .bool), (6, .int .i64)], [], [.var 26 (eH), .var 67 (.agg 66 [.intC .i64 0, .boolC false])], []⟩
abbrev UL {α : Type} (f : Int -> Bool -> Int -> List AV -> List AV -> Bool -> Bool -> Bool -> Int -> Int -> α) (fr : Fr) (M : Mm) : α := f (aj (tA fr 1)) (au (tA fr 5)) (aj (pA (vR M 0) 0)) (ak (pA (vR M 0) 1)) (ak (pA (vR M 0) 2)) (au (pA (vR M 0) 3)) (au (pA (vR M 0) 4)) (au (pA (vR M 0) 5)) (aj (pA (vR M 0) 6)) ((aj (tA fr 6)))
def NA (F : Tab) (i0 : Int) (b0 : Bool) (i2 : Int) (l0 l1 : List AV) (b1 b2 b3 : Bool) (i3 : Int) (s : Int) : LT := Nr i0 b0 i2 l0 l1 b1 b2 b3 i3 (Tr.run (wB F i0 b0 i2 l0 l1 b1 b2 b3 i3) 100000 s)
def O4 (F : Tab) (dep : Nat) (fr : Fr) (M : Mm) : Option LT := if CY.ok fr M then some (UL (NA F) fr M) else none
def Ez (F : Tab) (i11 i12 : Int) (l7 l8 : List AV) (i13 : Int) (i0 : Int) (b0 : Bool) (i1 : Int) (l0 l1 : List AV) (b1 b2 b3 : Bool) (i2 i3 : Int) (l2 l3 : List AV) (b4 b5 b6 : Bool) (i4 i5 : Int) (l4 l5 : List AV) (b7 b8 : Bool) (i6 i7 i8 i9 i10 : Int) (l6 : List AV) : Tr (T1) :=
    let x0 : List AV := ak (ay F 26 [aN b0 i1 l0 l1 b1 b2 b3 i2 i3 l2 l3 b4 b5 b6 i4 i5 l4 l5 b7 b8 i6 i7 i8 i9 i10 l6, .int .i64 (aj (l8.getD i0.toNat .dead)), .int .i64 4]);
    let x1 : List AV := ak (x0.getD 0 .dead);
    let x2 : List AV := ak (x1.getD 1 .dead);
    let x3 : List AV := ak (x1.getD 2 .dead);
    let x4 : List AV := ak (x1.getD 7 .dead);
    .br (decide (i0 < ((l8.length : Nat) : Int)))
     (.br (cond (aM i0 l8.length) (cond (aA Pg F 26 [aN b0 i1 l0 l1 b1 b2 b3 i2 i3 l2 l3 b4 b5 b6 i4 i5 l4 l5 b7 b8 i6 i7 i8 i9 i10 l6, .int .i64 (aj (l8.getD i0.toNat .dead)), .int .i64 4]) true false) false)
      (.next (IntKind.i64.wrap (i0 + 1), au (x1.getD 0 .dead), aj (x2.getD 0 .dead), ak (x2.getD 1 .dead), ak (x2.getD 2 .dead), au (x2.getD 3 .dead), au (x2.getD 4 .dead), au (x2.getD 5 .dead), aj (x2.getD 6 .dead), aj (x3.getD 0 .dead), ak (x3.getD 1 .dead), ak (x3.getD 2 .dead), au (x3.getD 3 .dead), au (x3.getD 4 .dead), au (x3.getD 5 .dead), aj (x3.getD 6 .dead), aj (x1.getD 3 .dead), av (x1.getD 4 .dead), av (x1.getD 5 .dead), au (x1.getD 6 .dead), au (x4.getD 0 .dead), aj (x4.getD 1 .dead), aj (x4.getD 2 .dead), aj (x1.getD 8 .dead), aj (x1.getD 9 .dead), aj (x1.getD 10 .dead), av ((ak (x0.getD 1 .dead)).getD 0 .dead)))
      (.bad))
     (.out ⟨1, [i1, i2, i3, i4, i5, i6, i7, i8, i9, i10], [b0, b1, b2, b3, b4, b5, b6, b7, b8], [l0, l1, l2, l3, l4, l5, l6], [], [], []⟩)
def tN (F : Tab) (i11 i12 : Int) (l7 l8 : List AV) (i13 : Int) (s : T1) : Tr (T1) := Ez F i11 i12 l7 l8 i13 s.1 s.2.1 s.2.2.1 s.2.2.2.1 s.2.2.2.2.1 s.2.2.2.2.2.1 s.2.2.2.2.2.2.1 s.2.2.2.2.2.2.2.1 s.2.2.2.2.2.2.2.2.1 s.2.2.2.2.2.2.2.2.2.1 s.2.2.2.2.2.2.2.2.2.2.1 s.2.2.2.2.2.2.2.2.2.2.2.1 s.2.2.2.2.2.2.2.2.2.2.2.2.1 s.2.2.2.2.2.2.2.2.2.2.2.2.2.1 s.2.2.2.2.2.2.2.2.2.2.2.2.2.2.1 s.2.2.2.2.2.2.2.2.2.2.2.2.2.2.2.1 s.2.2.2.2.2.2.2.2.2.2.2.2.2.2.2.2.1 s.2.2.2.2.2.2.2.2.2.2.2.2.2.2.2.2.2.1 s.2.2.2.2.2.2.2.2.2.2.2.2.2.2.2.2.2.2.1 s.2.2.2.2.2.2.2.2.2.2.2.2.2.2.2.2.2.2.2.1 s.2.2.2.2.2.2.2.2.2.2.2.2.2.2.2.2.2.2.2.2.1 s.2.2.2.2.2.2.2.2.2.2.2.2.2.2.2.2.2.2.2.2.2.1 s.2.2.2.2.2.2.2.2.2.2.2.2.2.2.2.2.2.2.2.2.2.2.1 s.2.2.2.2.2.2.2.2.2.2.2.2.2.2.2.2.2.2.2.2.2.2.2.1 s.2.2.2.2.2.2.2.2.2.2.2.2.2.2.2.2.2.2.2.2.2.2.2.2.1 s.2.2.2.2.2.2.2.2.2.2.2.2.2.2.2.2.2.2.2.2.2.2.2.2.2.1 s.2.2.2.2.2.2.2.2.2.2.2.2.2.2.2.2.2.2.2.2.2.2.2.2.2.2
def Zu (i11 i12 : Int) (l7 l8 : List AV) (i13 : Int) : T1 -> Fr := fun (i0, b0, i1, l0, l1, b1, b2, b3, i2, i3, l2, l3, b4, b5, b6, i4, i5, l4, l5, b7, b8, i6, i7, i8, i9, i10, l6) => (aT 63 [(3, .ptr 0 [] 65 0), (6, .ptr 1 [] 71 0), (7, .ptr 2 [] 120 0), (8, .int .i64 i0)] [])
def abp (i11 i12 : Int) (l7 l8 : List AV) (i13 : Int) : T1 -> Mm := fun (i0, b0, i1, l0, l1, b1, b2, b3, i2, i3, l2, l3, b4, b5, b6, i4, i5, l4, l5, b7, b8, i6, i7, i8, i9, i10, l6) => ⟨[.var 65 (aN b0 i1 l0 l1 b1 b2 b3 i2 i3 l2 l3 b4 b5 b6 i4 i5 l4 l5 b7 b8 i6 i7 i8 i9 i10 l6), .var 71 (zu), .var 120 (mF i11 i12 l7 l8 i13)], [(1, [0, 0, 4]), (1, [0, 0, 5]), (1, [0, 1, 0])]⟩
def LY (F : Tab) (i11 i12 : Int) (l7 l8 : List AV) (i13 : Int) (fuel : Nat) (i0 : Int) (b0 : Bool) (i1 : Int) (l0 l1 : List AV) (b1 b2 b3 : Bool) (i2 i3 : Int) (l2 l3 : List AV) (b4 b5 b6 : Bool) (i4 i5 : Int) (l4 l5 : List AV) (b7 b8 : Bool) (i6 i7 i8 i9 i10 : Int) (l6 : List AV) : LO := Tr.run (tN F i11 i12 l7 l8 i13) fuel (i0, b0, i1, l0, l1, b1, b2, b3, i2, i3, l2, l3, b4, b5, b6, i4, i5, l4, l5, b7, b8, i6, i7, i8, i9, i10, l6)
def Qv (i11 i12 : Int) (l7 l8 : List AV) (i13 : Int) (lo : LO) : LT :=
 .br (lo.k == 1) (.done (.exit 0) (aT 63 [(3, .ptr 0 [] 65 0), (6, .ptr 1 [] 71 0), (7, .ptr 2 [] 120 0)] []) ⟨[.var 65 (aN (lo.B 0) (lo.I 0) (lo.L 0) (lo.L 1) (lo.B 1) (lo.B 2) (lo.B 3) (lo.I 1) (lo.I 2) (lo.L 2) (lo.L 3) (lo.B 4) (lo.B 5) (lo.B 6) (lo.I 3) (lo.I 4) (lo.L 4) (lo.L 5) (lo.B 7) (lo.B 8) (lo.I 5) (lo.I 6) (lo.I 7) (lo.I 8) (lo.I 9) (lo.L 6)), .var 71 (zu), .var 120 (mF i11 i12 l7 l8 i13)], [(1, [0, 0, 4]), (1, [0, 0, 5]), (1, [0, 1, 0])]⟩) (.fail)
def BK : StP := ⟨63, [(3, .ptr 0 [] 65 (some 0)), (6, .ptr 1 [] 71 (some 0)), (7, .ptr 2 [] 120 (some 0)), (8, .int .i64)], [], [.var 65 (IK), .var 71 (kp5), .var 120 (.agg 119 [.agg 117 [.int .i64, .int .i64, .slice 57 false, .slice 3 false], .int .i64])], [(1, [0, 0, 4]), (1, [0, 0, 5]), (1, [0, 1, 0])]⟩
abbrev YA {α : Type} (f : Int -> Int -> List AV -> List AV -> Int -> T1 -> α) (fr : Fr) (M : Mm) : α := f (aj (pA (pA (vR M 2) 0) 0)) (aj (pA (pA (vR M 2) 0) 1)) (av (pA (pA (vR M 2) 0) 2)) (av (pA (pA (vR M 2) 0) 3)) (aj (pA (vR M 2) 1)) ((aj (tA fr 8)), (au (pA (pA (vR M 0) 0) 0)), (aj (pA (pA (pA (vR M 0) 0) 1) 0)), (ak (pA (pA (pA (vR M 0) 0) 1) 1)), (ak (pA (pA (pA (vR M 0) 0) 1) 2)), (au (pA (pA (pA (vR M 0) 0) 1) 3)), (au (pA (pA (pA (vR M 0) 0) 1) 4)), (au (pA (pA (pA (vR M 0) 0) 1) 5)), (aj (pA (pA (pA (vR M 0) 0) 1) 6)), (aj (pA (pA (pA (vR M 0) 0) 2) 0)), (ak (pA (pA (pA (vR M 0) 0) 2) 1)), (ak (pA (pA (pA (vR M 0) 0) 2) 2)), (au (pA (pA (pA (vR M 0) 0) 2) 3)), (au (pA (pA (pA (vR M 0) 0) 2) 4)), (au (pA (pA (pA (vR M 0) 0) 2) 5)), (aj (pA (pA (pA (vR M 0) 0) 2) 6)), (aj (pA (pA (vR M 0) 0) 3)), (av (pA (pA (vR M 0) 0) 4)), (av (pA (pA (vR M 0) 0) 5)), (au (pA (pA (vR M 0) 0) 6)), (au (pA (pA (pA (vR M 0) 0) 7) 0)), (aj (pA (pA (pA (vR M 0) 0) 7) 1)), (aj (pA (pA (pA (vR M 0) 0) 7) 2)), (aj (pA (pA (vR M 0) 0) 8)), (aj (pA (pA (vR M 0) 0) 9)), (aj (pA (pA (vR M 0) 0) 10)), (av (pA (pA (vR M 0) 1) 0)))
def KL (F : Tab) (i11 i12 : Int) (l7 l8 : List AV) (i13 : Int) (s : T1) : LT := Qv i11 i12 l7 l8 i13 (Tr.run (tN F i11 i12 l7 l8 i13) 100000 s)
def Pp (F : Tab) (dep : Nat) (fr : Fr) (M : Mm) : Option LT := if BK.ok fr M then some (YA (KL F) fr M) else none
def EO (F : Tab) (i11 i12 : Int) (l7 l8 : List AV) (i13 : Int) (i0 : Int) (b0 : Bool) (i1 : Int) (l0 l1 : List AV) (b1 b2 b3 : Bool) (i2 i3 : Int) (l2 l3 : List AV) (b4 b5 b6 : Bool) (i4 i5 : Int) (l4 l5 : List AV) (b7 b8 : Bool) (i6 i7 i8 i9 i10 : Int) (l6 : List AV) : Tr (T1) :=
    let x0 : List AV := ak (ay F 53 [aN b0 i1 l0 l1 b1 b2 b3 i2 i3 l2 l3 b4 b5 b6 i4 i5 l4 l5 b7 b8 i6 i7 i8 i9 i10 l6, bg (aj ((ak (l7.getD i0.toNat .dead)).getD 0 .dead)) (aj ((ak (l7.getD i0.toNat .dead)).getD 1 .dead)) (aj ((ak (l7.getD i0.toNat .dead)).getD 2 .dead))]);
    let x1 : List AV := ak (x0.getD 0 .dead);
    let x2 : List AV := ak (x1.getD 1 .dead);
    let x3 : List AV := ak (x1.getD 2 .dead);
    let x4 : List AV := ak (x1.getD 7 .dead);
    .br (decide (i0 < ((l7.length : Nat) : Int)))
     (.br (cond (aM i0 l7.length) (cond (aA Pg F 53 [aN b0 i1 l0 l1 b1 b2 b3 i2 i3 l2 l3 b4 b5 b6 i4 i5 l4 l5 b7 b8 i6 i7 i8 i9 i10 l6, bg (aj ((ak (l7.getD i0.toNat .dead)).getD 0 .dead)) (aj ((ak (l7.getD i0.toNat .dead)).getD 1 .dead)) (aj ((ak (l7.getD i0.toNat .dead)).getD 2 .dead))]) true false) false)
      (.next (IntKind.i64.wrap (i0 + 1), au (x1.getD 0 .dead), aj (x2.getD 0 .dead), ak (x2.getD 1 .dead), ak (x2.getD 2 .dead), au (x2.getD 3 .dead), au (x2.getD 4 .dead), au (x2.getD 5 .dead), aj (x2.getD 6 .dead), aj (x3.getD 0 .dead), ak (x3.getD 1 .dead), ak (x3.getD 2 .dead), au (x3.getD 3 .dead), au (x3.getD 4 .dead), au (x3.getD 5 .dead), aj (x3.getD 6 .dead), aj (x1.getD 3 .dead), av (x1.getD 4 .dead), av (x1.getD 5 .dead), au (x1.getD 6 .dead), au (x4.getD 0 .dead), aj (x4.getD 1 .dead), aj (x4.getD 2 .dead), aj (x1.getD 8 .dead), aj (x1.getD 9 .dead), aj (x1.getD 10 .dead), av ((ak (x0.getD 1 .dead)).getD 0 .dead)))
      (.bad))
     (.out ⟨1, [i1, i2, i3, i4, i5, i6, i7, i8, i9, i10], [b0, b1, b2, b3, b4, b5, b6, b7, b8], [l0, l1, l2, l3, l4, l5, l6], [], [], []⟩)
def sV (F : Tab) (i11 i12 : Int) (l7 l8 : List AV) (i13 : Int) (s : T1) : Tr (T1) := EO F i11 i12 l7 l8 i13 s.1 s.2.1 s.2.2.1 s.2.2.2.1 s.2.2.2.2.1 s.2.2.2.2.2.1 s.2.2.2.2.2.2.1 s.2.2.2.2.2.2.2.1 s.2.2.2.2.2.2.2.2.1 s.2.2.2.2.2.2.2.2.2.1 s.2.2.2.2.2.2.2.2.2.2.1 s.2.2.2.2.2.2.2.2.2.2.2.1 s.2.2.2.2.2.2.2.2.2.2.2.2.1 s.2.2.2.2.2.2.2.2.2.2.2.2.2.1 s.2.2.2.2.2.2.2.2.2.2.2.2.2.2.1 s.2.2.2.2.2.2.2.2.2.2.2.2.2.2.2.1 s.2.2.2.2.2.2.2.2.2.2.2.2.2.2.2.2.1 s.2.2.2.2.2.2.2.2.2.2.2.2.2.2.2.2.2.1 s.2.2.2.2.2.2.2.2.2.2.2.2.2.2.2.2.2.2.1 s.2.2.2.2.2.2.2.2.2.2.2.2.2.2.2.2.2.2.2.1 s.2.2.2.2.2.2.2.2.2.2.2.2.2.2.2.2.2.2.2.2.1 s.2.2.2.2.2.2.2.2.2.2.2.2.2.2.2.2.2.2.2.2.2.1 s.2.2.2.2.2.2.2.2.2.2.2.2.2.2.2.2.2.2.2.2.2.2.1 s.2.2.2.2.2.2.2.2.2.2.2.2.2.2.2.2.2.2.2.2.2.2.2.1 s.2.2.2.2.2.2.2.2.2.2.2.2.2.2.2.2.2.2.2.2.2.2.2.2.1 s.2.2.2.2.2.2.2.2.2.2.2.2.2.2.2.2.2.2.2.2.2.2.2.2.2.1 s.2.2.2.2.2.2.2.2.2.2.2.2.2.2.2.2.2.2.2.2.2.2.2.2.2.2
def acP (i11 i12 : Int) (l7 l8 : List AV) (i13 : Int) : T1 -> Fr := fun (i0, b0, i1, l0, l1, b1, b2, b3, i2, i3, l2, l3, b4, b5, b6, i4, i5, l4, l5, b7, b8, i6, i7, i8, i9, i10, l6) => (aT 63 [(3, .ptr 0 [] 65 0), (6, .ptr 1 [] 71 0), (7, .ptr 2 [] 120 0), (9, .int .i64 i0)] [])
def Sc (i11 i12 : Int) (l7 l8 : List AV) (i13 : Int) : T1 -> Mm := fun (i0, b0, i1, l0, l1, b1, b2, b3, i2, i3, l2, l3, b4, b5, b6, i4, i5, l4, l5, b7, b8, i6, i7, i8, i9, i10, l6) => ⟨[.var 65 (aN b0 i1 l0 l1 b1 b2 b3 i2 i3 l2 l3 b4 b5 b6 i4 i5 l4 l5 b7 b8 i6 i7 i8 i9 i10 l6), .var 71 (zu), .var 120 (mF i11 i12 l7 l8 i13)], [(1, [0, 0, 4]), (1, [0, 0, 5]), (1, [0, 1, 0])]⟩
def J7 (F : Tab) (i11 i12 : Int) (l7 l8 : List AV) (i13 : Int) (fuel : Nat) (i0 : Int) (b0 : Bool) (i1 : Int) (l0 l1 : List AV) (b1 b2 b3 : Bool) (i2 i3 : Int) (l2 l3 : List AV) (b4 b5 b6 : Bool) (i4 i5 : Int) (l4 l5 : List AV) (b7 b8 : Bool) (i6 i7 i8 i9 i10 : Int) (l6 : List AV) : LO := Tr.run (sV F i11 i12 l7 l8 i13) fuel (i0, b0, i1, l0, l1, b1, b2, b3, i2, i3, l2, l3, b4, b5, b6, i4, i5, l4, l5, b7, b8, i6, i7, i8, i9, i10, l6)
def Qr (i11 i12 : Int) (l7 l8 : List AV) (i13 : Int) (lo : LO) : LT :=
 .br (lo.k == 1) (.done (.exit 2) (aT 63 [(3, .ptr 0 [] 65 0), (6, .ptr 1 [] 71 0), (7, .ptr 2 [] 120 0)] []) ⟨[.var 65 (aN (lo.B 0) (lo.I 0) (lo.L 0) (lo.L 1) (lo.B 1) (lo.B 2) (lo.B 3) (lo.I 1) (lo.I 2) (lo.L 2) (lo.L 3) (lo.B 4) (lo.B 5) (lo.B 6) (lo.I 3) (lo.I 4) (lo.L 4) (lo.L 5) (lo.B 7) (lo.B 8) (lo.I 5) (lo.I 6) (lo.I 7) (lo.I 8) (lo.I 9) (lo.L 6)), .var 71 (zu), .var 120 (mF i11 i12 l7 l8 i13)], [(1, [0, 0, 4]), (1, [0, 0, 5]), (1, [0, 1, 0])]⟩) (.fail)
def zF : StP := ⟨63, [(3, .ptr 0 [] 65 (some 0)), (6, .ptr 1 [] 71 (some 0)), (7, .ptr 2 [] 120 (some 0)), (9, .int .i64)], [], [.var 65 (IK), .var 71 (kp5), .var 120 (.agg 119 [.agg 117 [.int .i64, .int .i64, .slice 57 false, .slice 3 false], .int .i64])], [(1, [0, 0, 4]), (1, [0, 0, 5]), (1, [0, 1, 0])]⟩
abbrev Vk {α : Type} (f : Int -> Int -> List AV -> List AV -> Int -> T1 -> α) (fr : Fr) (M : Mm) : α := f (aj (pA (pA (vR M 2) 0) 0)) (aj (pA (pA (vR M 2) 0) 1)) (av (pA (pA (vR M 2) 0) 2)) (av (pA (pA (vR M 2) 0) 3)) (aj (pA (vR M 2) 1)) ((aj (tA fr 9)), (au (pA (pA (vR M 0) 0) 0)), (aj (pA (pA (pA (vR M 0) 0) 1) 0)), (ak (pA (pA (pA (vR M 0) 0) 1) 1)), (ak (pA (pA (pA (vR M 0) 0) 1) 2)), (au (pA (pA (pA (vR M 0) 0) 1) 3)), (au (pA (pA (pA (vR M 0) 0) 1) 4)), (au (pA (pA (pA (vR M 0) 0) 1) 5)), (aj (pA (pA (pA (vR M 0) 0) 1) 6)), (aj (pA (pA (pA (vR M 0) 0) 2) 0)), (ak (pA (pA (pA (vR M 0) 0) 2) 1)), (ak (pA (pA (pA (vR M 0) 0) 2) 2)), (au (pA (pA (pA (vR M 0) 0) 2) 3)), (au (pA (pA (pA (vR M 0) 0) 2) 4)), (au (pA (pA (pA (vR M 0) 0) 2) 5)), (aj (pA (pA (pA (vR M 0) 0) 2) 6)), (aj (pA (pA (vR M 0) 0) 3)), (av (pA (pA (vR M 0) 0) 4)), (av (pA (pA (vR M 0) 0) 5)), (au (pA (pA (vR M 0) 0) 6)), (au (pA (pA (pA (vR M 0) 0) 7) 0)), (aj (pA (pA (pA (vR M 0) 0) 7) 1)), (aj (pA (pA (pA (vR M 0) 0) 7) 2)), (aj (pA (pA (vR M 0) 0) 8)), (aj (pA (pA (vR M 0) 0) 9)), (aj (pA (pA (vR M 0) 0) 10)), (av (pA (pA (vR M 0) 1) 0)))
def Ls (F : Tab) (i11 i12 : Int) (l7 l8 : List AV) (i13 : Int) (s : T1) : LT := Qr i11 i12 l7 l8 i13 (Tr.run (sV F i11 i12 l7 l8 i13) 100000 s)
def PY (F : Tab) (dep : Nat) (fr : Fr) (M : Mm) : Option LT := if zF.ok fr M then some (Vk (Ls F) fr M) else none
def P7 (F : Tab) (i0 : Int) (l0 : List AV) (i1 i2 : Int) : Tr (Int × Int) :=
    .br (decide ((0 : Int) <= i2))
     (.br (aA Pg F 55 [aC l0, .int .i64 (IntKind.i64.wrap (i0 + i2))])
      (.next (aK .or .u32 (IntKind.u32.wrap (i1 * 256)) (IntKind.u32.wrap (aj (ay F 55 [aC l0, .int .i64 (IntKind.i64.wrap (i0 + i2))]))), IntKind.i64.wrap (i2 - 1)))
      (.bad))
     (.out ⟨1, [i1], [], [], [], [], []⟩)
def mY (F : Tab) (i0 : Int) (l0 : List AV) (s : Int × Int) : Tr (Int × Int) := P7 F i0 l0 s.1 s.2
def Y4 (i0 : Int) (l0 : List AV) : Int × Int -> Fr := fun (i1, i2) => (aT 34 [(1, .int .i64 i0), (3, .ptr 0 [] 29 0), (6, .ptr 1 [] 75 0), (8, .int .u32 i1), (9, .int .i64 i2)] [])
def Rf (i0 : Int) (l0 : List AV) : Int × Int -> Mm := fun (i1, i2) => ⟨[.var 29 (aC l0), .var 75 (.agg 74 [.int .u32 0, .bool false])], []⟩
def Ea (F : Tab) (i0 : Int) (l0 : List AV) (fuel : Nat) (i1 i2 : Int) : LO := Tr.run (mY F i0 l0) fuel (i1, i2)
def Pd (i0 : Int) (l0 : List AV) (lo : LO) : LT :=
 .br (lo.k == 1) (.done (.exit 0) (aT 34 [(6, .ptr 1 [] 75 0), (8, .int .u32 (lo.I 0))] []) ⟨[.var 29 (aC l0), .var 75 (.agg 74 [.int .u32 0, .bool false])], []⟩) (.fail)
def zM : StP := ⟨34, [(1, .int .i64), (3, .ptr 0 [] 29 (some 0)), (6, .ptr 1 [] 75 (some 0)), (8, .int .u32), (9, .int .i64)], [], [.var 29 (.agg 28 [.slice 139 false]), .var 75 (.agg 74 [.intC .u32 0, .boolC false])], []⟩
abbrev UK {α : Type} (f : Int -> List AV -> (Int × Int) -> α) (fr : Fr) (M : Mm) : α := f (aj (tA fr 1)) (av (pA (vR M 0) 0)) ((aj (tA fr 8)), (aj (tA fr 9)))
def JO (F : Tab) (i0 : Int) (l0 : List AV) (s : Int × Int) : LT := Pd i0 l0 (Tr.run (mY F i0 l0) 100000 s)
def Na (F : Tab) (dep : Nat) (fr : Fr) (M : Mm) : Option LT := if zM.ok fr M then some (UK (JO F) fr M) else none
def Kj (F : Tab) (l1 : List AV) (n0 : Nat) (i1 i2 i3 : Int) (n1 : Nat) (i4 i5 i6 : Int) (n2 : Nat) (i0 : Int) (l0 l2 : List AV) : Tr (T2) :=
    .br (decide ((0 : Int) < ((l0.length : Nat) : Int)))
     (.br (aM (IntKind.i64.wrap (i0.tdiv 128)) n2)
      (.br ((decide ((0 : Int) <= (i0.tmod 128))) && (decide ((i0.tmod 128) <= 128)))
       (.br (cond ((decide ((0 : Int) <= ((min l0.length (128 - ((i0.tmod 128).toNat)) : Nat) : Int))) && (decide (((min l0.length (128 - ((i0.tmod 128).toNat)) : Nat) : Int) <= ((l0.length : Nat) : Int)))) true false)
        (.next (IntKind.i64.wrap (i0 + ((min l0.length (128 - ((i0.tmod 128).toNat)) : Nat) : Int)), sub l0 (((min l0.length (128 - ((i0.tmod 128).toNat)) : Nat) : Int).toNat) l0.length, l2.set (0 + ((IntKind.i64.wrap (i0.tdiv 128)).toNat)) (.agg (jc (l2.getD (0 + ((IntKind.i64.wrap (i0.tdiv 128)).toNat)) .dead)) (((ak (l2.getD (0 + ((IntKind.i64.wrap (i0.tdiv 128)).toNat)) .dead)).take ((i0.tmod 128).toNat)) ++ ((l0.take (min l0.length (128 - ((i0.tmod 128).toNat)))) ++ ((ak (l2.getD (0 + ((IntKind.i64.wrap (i0.tdiv 128)).toNat)) .dead)).drop (((i0.tmod 128).toNat) + (min l0.length (128 - ((i0.tmod 128).toNat))))))))))
        (.bad))
       (.bad))
      (.bad))
     (.out ⟨1, [], [], [l2], [], [], []⟩)
def xY (F : Tab) (l1 : List AV) (n0 : Nat) (i1 i2 i3 : Int) (n1 : Nat) (i4 i5 i6 : Int) (n2 : Nat) (s : T2) : Tr (T2) := Kj F l1 n0 i1 i2 i3 n1 i4 i5 i6 n2 s.1 s.2.1 s.2.2
def Sj (l1 : List AV) (n0 : Nat) (i1 i2 i3 : Int) (n1 : Nat) (i4 i5 i6 : Int) (n2 : Nat) : T2 -> Fr := fun (i0, l0, l2) => (aT 26 [(1, .int .i64 i0), (2, .slice 5 l0 false), (3, .ptr 7 [] 141 0)] [])
def adn (l1 : List AV) (n0 : Nat) (i1 i2 i3 : Int) (n1 : Nat) (i4 i5 i6 : Int) (n2 : Nat) : T2 -> Mm := fun (i0, l0, l2) => ⟨[.var 29 (aC l1), .var 29 (aC []), .arr 139 l2, .var 141 (.agg 140 [.msl 2 [] 139 0 0 n0]), .var 57 (bg i1 i2 i3), .var 141 (.agg 140 [.msl 2 [] 139 0 0 n1]), .var 57 (bg i4 i5 i6), .var 141 (.agg 140 [.msl 2 [] 139 0 0 n2])], [(1, [0])]⟩
def F9 (F : Tab) (l1 : List AV) (n0 : Nat) (i1 i2 i3 : Int) (n1 : Nat) (i4 i5 i6 : Int) (n2 : Nat) (fuel : Nat) (i0 : Int) (l0 l2 : List AV) : LO := Tr.run (xY F l1 n0 i1 i2 i3 n1 i4 i5 i6 n2) fuel (i0, l0, l2)
def Ll (l1 : List AV) (n0 : Nat) (i1 i2 i3 : Int) (n1 : Nat) (i4 i5 i6 : Int) (n2 : Nat) (lo : LO) : LT :=
 .br (lo.k == 1) (.done (.exit 0) (aT 26 [] []) ⟨[.var 29 (aC l1), .var 29 (aC []), .arr 139 (lo.L 0), .var 141 (.agg 140 [.msl 2 [] 139 0 0 n0]), .var 57 (bg i1 i2 i3), .var 141 (.agg 140 [.msl 2 [] 139 0 0 n1]), .var 57 (bg i4 i5 i6), .var 141 (.agg 140 [.msl 2 [] 139 0 0 n2])], [(1, [0])]⟩) (.fail)
def Dq : StP := ⟨26, [(1, .int .i64), (2, .slice 5 false), (3, .ptr 7 [] 141 (some 0))], [], [.var 29 (.agg 28 [.slice 139 false]), .var 29 (.agg 28 [.sliceL 139 [] false]), .arr 139, .var 141 (.agg 140 [.msl 2 [] 139 (some 0) (some 0) none]), .var 57 (.agg 56 [.int .i64, .int .i64, .int .u32]), .var 141 (.agg 140 [.msl 2 [] 139 (some 0) (some 0) none]), .var 57 (.agg 56 [.int .i64, .int .i64, .int .u32]), .var 141 (.agg 140 [.msl 2 [] 139 (some 0) (some 0) none])], [(1, [0])]⟩
abbrev Zk {α : Type} (f : List AV -> Nat -> Int -> Int -> Int -> Nat -> Int -> Int -> Int -> Nat -> T2 -> α) (fr : Fr) (M : Mm) : α := f (av (pA (vR M 0) 0)) (oz (pA (vR M 3) 0)) (aj (pA (vR M 4) 0)) (aj (pA (vR M 4) 1)) (aj (pA (vR M 4) 2)) (oz (pA (vR M 5) 0)) (aj (pA (vR M 6) 0)) (aj (pA (vR M 6) 1)) (aj (pA (vR M 6) 2)) (oz (pA (vR M 7) 0)) ((aj (tA fr 1)), (av (tA fr 2)), (nY (oR M 2)))
def Km (F : Tab) (l1 : List AV) (n0 : Nat) (i1 i2 i3 : Int) (n1 : Nat) (i4 i5 i6 : Int) (n2 : Nat) (s : T2) : LT := Ll l1 n0 i1 i2 i3 n1 i4 i5 i6 n2 (Tr.run (xY F l1 n0 i1 i2 i3 n1 i4 i5 i6 n2) 100000 s)
def J4 (F : Tab) (dep : Nat) (fr : Fr) (M : Mm) : Option LT := if Dq.ok fr M then some (Zk (Km F) fr M) else none
def EC (F : Tab) (n0 : Nat) (l0 : List AV) (i0 : Int) (l1 : List AV) (n1 : Nat) (i1 : Int) (l2 : List AV) : Tr (Int × List AV) :=
    let x0 : Bool := ((aj ((ak (l0.getD i1.toNat .dead)).getD 0 .dead)).tmod (aj ((ak (l0.getD i1.toNat .dead)).getD 1 .dead))) == 0;
    let x1 : Bool := !(decide ((aj ((ak (l0.getD i1.toNat .dead)).getD 0 .dead)) <= (IntKind.i64.wrap ((IntKind.i64.wrap (((n0 : Nat) : Int) * 128)) - (aj ((ak (l0.getD i1.toNat .dead)).getD 1 .dead))))));
    let x2 : Bool := cond ((decide ((0 : Int) <= (aj ((ak (l0.getD i1.toNat .dead)).getD 1 .dead)))) && (decide ((aj ((ak (l0.getD i1.toNat .dead)).getD 1 .dead)) <= 4))) true false;
    let x3 : LO := F9 F l1 n1 (aj ((ak (l0.getD i1.toNat .dead)).getD 0 .dead)) (aj ((ak (l0.getD i1.toNat .dead)).getD 1 .dead)) (aj ((ak (l0.getD i1.toNat .dead)).getD 2 .dead)) n0 (aj ((ak (l0.getD i1.toNat .dead)).getD 0 .dead)) (aj ((ak (l0.getD i1.toNat .dead)).getD 1 .dead)) (aj ((ak (l0.getD i1.toNat .dead)).getD 2 .dead)) n0 100000 (aj ((ak (l0.getD i1.toNat .dead)).getD 0 .dead)) (sub [.int .u8 (IntKind.u8.wrap (aj ((ak (l0.getD i1.toNat .dead)).getD 2 .dead))), .int .u8 (IntKind.u8.wrap ((aj ((ak (l0.getD i1.toNat .dead)).getD 2 .dead)).fdiv 256)), .int .u8 (IntKind.u8.wrap ((aj ((ak (l0.getD i1.toNat .dead)).getD 2 .dead)).fdiv 65536)), .int .u8 (IntKind.u8.wrap ((aj ((ak (l0.getD i1.toNat .dead)).getD 2 .dead)).fdiv 16777216))] 0 ((aj ((ak (l0.getD i1.toNat .dead)).getD 1 .dead)).toNat)) l2;
    let x4 : List AV := x3.l.getD 0 [];
    let x5 : Bool := x3.k == 1;
    .br (decide (i1 < i0))
     (.br (aM i1 l0.length)
      (.br ((aj ((ak (l0.getD i1.toNat .dead)).getD 1 .dead)) == 1)
       (.br (decide ((0 : Int) <= (aj ((ak (l0.getD i1.toNat .dead)).getD 0 .dead))))
        (.br (!((aj ((ak (l0.getD i1.toNat .dead)).getD 1 .dead)) == 0))
         (.br x0
          (.br x1
           (.out ⟨1, [], [], [l2], [], [], []⟩)
           (.br x2
            (.br x5
             (.next (IntKind.i64.wrap (i1 + 1), x4))
             (.bad))
            (.bad)))
          (.out ⟨1, [], [], [l2], [], [], []⟩))
         (.bad))
        (.out ⟨1, [], [], [l2], [], [], []⟩))
       (.br ((aj ((ak (l0.getD i1.toNat .dead)).getD 1 .dead)) == 4)
        (.br (decide ((0 : Int) <= (aj ((ak (l0.getD i1.toNat .dead)).getD 0 .dead))))
         (.br (!((aj ((ak (l0.getD i1.toNat .dead)).getD 1 .dead)) == 0))
          (.br x0
           (.br x1
            (.out ⟨1, [], [], [l2], [], [], []⟩)
            (.br x2
             (.br x5
              (.next (IntKind.i64.wrap (i1 + 1), x4))
              (.bad))
             (.bad)))
           (.out ⟨1, [], [], [l2], [], [], []⟩))
          (.bad))
         (.out ⟨1, [], [], [l2], [], [], []⟩))
        (.out ⟨1, [], [], [l2], [], [], []⟩)))
      (.bad))
     (.out ⟨2, [], [], [l2], [], [], []⟩)
def qC (F : Tab) (n0 : Nat) (l0 : List AV) (i0 : Int) (l1 : List AV) (n1 : Nat) (s : Int × List AV) : Tr (Int × List AV) := EC F n0 l0 i0 l1 n1 s.1 s.2
def acZ (n0 : Nat) (l0 : List AV) (i0 : Int) (l1 : List AV) (n1 : Nat) : Int × List AV -> Fr := fun (i1, l2) => (aT 31 [(2, .ptr 0 [] 29 0), (4, .ptr 1 [] 29 0), (6, .ptr 3 [] 141 0), (7, .func (.func 67) [.agg 140 [.msl 2 [] 139 0 0 n0]] []), (16, .slice 57 l0 false), (17, .int .i64 i0), (18, .int .i64 i1)] [])
def abH (n0 : Nat) (l0 : List AV) (i0 : Int) (l1 : List AV) (n1 : Nat) : Int × List AV -> Mm := fun (i1, l2) => ⟨[.var 29 (aC l1), .var 29 (aC []), .arr 139 l2, .var 141 (.agg 140 [.msl 2 [] 139 0 0 n1])], [(1, [0])]⟩
def JH (F : Tab) (n0 : Nat) (l0 : List AV) (i0 : Int) (l1 : List AV) (n1 : Nat) (fuel : Nat) (i1 : Int) (l2 : List AV) : LO := Tr.run (qC F n0 l0 i0 l1 n1) fuel (i1, l2)
def Ql (n0 : Nat) (l0 : List AV) (i0 : Int) (l1 : List AV) (n1 : Nat) (lo : LO) : LT :=
 .br (lo.k == 1) (.done .ret (aT 31 [(4, .ptr 1 [] 29 0), (5, .bool false), (6, .ptr 3 [] 141 0)] []) ⟨[.var 29 (aC l1), .var 29 (aC l1), .arr 139 (lo.L 0), .var 141 (.agg 140 [.msl 2 [] 139 0 0 n1])], []⟩) (.br (lo.k == 2) (.done (.exit 0) (aT 31 [(4, .ptr 1 [] 29 0), (6, .ptr 3 [] 141 0)] []) ⟨[.var 29 (aC l1), .var 29 (aC []), .arr 139 (lo.L 0), .var 141 (.agg 140 [.msl 2 [] 139 0 0 n1])], [(1, [0])]⟩) (.fail))
def Bq : StP := ⟨31, [(2, .ptr 0 [] 29 (some 0)), (4, .ptr 1 [] 29 (some 0)), (6, .ptr 3 [] 141 (some 0)), (7, .func 67 [.agg 140 [.msl 2 [] 139 (some 0) (some 0) none]] []), (16, .slice 57 false), (17, .int .i64), (18, .int .i64)], [], [.var 29 (.agg 28 [.slice 139 false]), .var 29 (.agg 28 [.sliceL 139 [] false]), .arr 139, .var 141 (.agg 140 [.msl 2 [] 139 (some 0) (some 0) none])], [(1, [0])]⟩
abbrev UH {α : Type} (f : Nat -> List AV -> Int -> List AV -> Nat -> (Int × List AV) -> α) (fr : Fr) (M : Mm) : α := f (oz (pA ((ET (tA fr 7)).getD 0 .dead) 0)) (av (tA fr 16)) (aj (tA fr 17)) (av (pA (vR M 0) 0)) (oz (pA (vR M 3) 0)) ((aj (tA fr 18)), (nY (oR M 2)))
def K9 (F : Tab) (n0 : Nat) (l0 : List AV) (i0 : Int) (l1 : List AV) (n1 : Nat) (s : Int × List AV) : LT := Ql n0 l0 i0 l1 n1 (Tr.run (qC F n0 l0 i0 l1 n1) 100000 s)
def Jq (F : Tab) (dep : Nat) (fr : Fr) (M : Mm) : Option LT := if Nat.beq dep 5 && Bq.ok fr M then some (UH (K9 F) fr M) else none
def aa7 (F : Tab) (l0 l1 : List AV) (i0 : Int) (l2 : List AV) (b0 : Bool) : Tr (T3) :=
    let x0 : List AV := ak (ay F 40 [aC l2, bg (aj ((ak (l0.getD i0.toNat .dead)).getD 0 .dead)) (aj ((ak (l0.getD i0.toNat .dead)).getD 1 .dead)) (aj ((ak (l0.getD i0.toNat .dead)).getD 2 .dead))]);
    let x1 : List AV := av ((ak (x0.getD 0 .dead)).getD 0 .dead);
    let x2 : Bool := au (x0.getD 1 .dead);
    .br (decide (i0 < ((l0.length : Nat) : Int)))
     (.br (cond (aM i0 l0.length) (cond (aA Pg F 40 [aC l2, bg (aj ((ak (l0.getD i0.toNat .dead)).getD 0 .dead)) (aj ((ak (l0.getD i0.toNat .dead)).getD 1 .dead)) (aj ((ak (l0.getD i0.toNat .dead)).getD 2 .dead))]) true false) false)
      (.br (!x2)
       (.out ⟨1, [], [x2], [x1], [], [], []⟩)
       (.next (IntKind.i64.wrap (i0 + 1), x1, x2)))
      (.bad))
     (.out ⟨2, [], [b0], [l2], [], [], []⟩)
def KJ (F : Tab) (l0 l1 : List AV) (s : T3) : Tr (T3) := aa7 F l0 l1 s.1 s.2.1 s.2.2
def TG (l0 l1 : List AV) : T3 -> Fr := fun (i0, l2, b0) => (aT 28 [(1, .slice 57 l0 false), (2, .ptr 0 [] 29 0), (4, .ptr 1 [] 95 0), (5, .ptr 2 [] 95 0), (6, .int .i64 i0)] [])
def abT (l0 l1 : List AV) : T3 -> Mm := fun (i0, l2, b0) => ⟨[.var 29 (aC l1), .var 95 (Aw), .var 95 (tV l2 b0)], [(1, [0, 0])]⟩
def Mx (l0 l1 : List AV) (lo : LO) : LT :=
 .br (lo.k == 1) (.done .ret (aT 28 [(4, .ptr 1 [] 95 0), (5, .ptr 2 [] 95 0)] []) ⟨[.var 29 (aC l1), .var 95 (tV l1 false), .var 95 (tV (lo.L 0) (lo.B 0))], []⟩) (.br (lo.k == 2) (.done (.exit 0) (aT 28 [(4, .ptr 1 [] 95 0), (5, .ptr 2 [] 95 0)] []) ⟨[.var 29 (aC l1), .var 95 (Aw), .var 95 (tV (lo.L 0) (lo.B 0))], [(1, [0, 0])]⟩) (.fail))
def BM : StP := ⟨28, [(1, .slice 57 false), (2, .ptr 0 [] 29 (some 0)), (4, .ptr 1 [] 95 (some 0)), (5, .ptr 2 [] 95 (some 0)), (6, .int .i64)], [], [.var 29 (.agg 28 [.slice 139 false]), .var 95 (.agg 94 [.agg 28 [.sliceL 139 [] false], .boolC false]), .var 95 (.agg 94 [.agg 28 [.slice 139 false], .bool])], [(1, [0, 0])]⟩
abbrev ab4 {α : Type} (f : List AV -> List AV -> T3 -> α) (fr : Fr) (M : Mm) : α := f (av (tA fr 1)) (av (pA (vR M 0) 0)) ((aj (tA fr 6)), (av (pA (pA (vR M 2) 0) 0)), (au (pA (vR M 2) 1)))
def PE (F : Tab) (l0 l1 : List AV) (s : T3) : LT := Mx l0 l1 (Tr.run (KJ F l0 l1) 100000 s)
def KQ (F : Tab) (dep : Nat) (fr : Fr) (M : Mm) : Option LT := if BM.ok fr M then some (ab4 (PE F) fr M) else none
def Gc (F : Tab) (l0 : List AV) (i1 i2 i3 : Int) (l1 : List AV) (n0 n1 : Nat) (i0 : Int) (l2 : List AV) : Tr (Int × List AV) :=
    .br (decide (i0 < i2))
     (.br (cond (decide ((0 : Int) <= (IntKind.i64.wrap (8 * i0)))) (cond (aM (IntKind.i64.wrap ((IntKind.i64.wrap (i1 + i0)).tdiv 128)) n1) (cond (aM ((IntKind.i64.wrap (i1 + i0)).tmod 128) 128) true false) false) false)
      (.next (IntKind.i64.wrap (i0 + 1), l2.set (0 + ((IntKind.i64.wrap ((IntKind.i64.wrap (i1 + i0)).tdiv 128)).toNat)) (.agg (jc (l2.getD (0 + ((IntKind.i64.wrap ((IntKind.i64.wrap (i1 + i0)).tdiv 128)).toNat)) .dead)) ((ak (l2.getD (0 + ((IntKind.i64.wrap ((IntKind.i64.wrap (i1 + i0)).tdiv 128)).toNat)) .dead)).set (((IntKind.i64.wrap (i1 + i0)).tmod 128).toNat) (.int .u8 (IntKind.u8.wrap (i3.fdiv (2 ^ min (IntKind.i64.wrap (8 * i0)).toNat 32))))))))
      (.bad))
     (.out ⟨1, [], [], [l2], [], [], []⟩)
def ow (F : Tab) (l0 : List AV) (i1 i2 i3 : Int) (l1 : List AV) (n0 n1 : Nat) (s : Int × List AV) : Tr (Int × List AV) := Gc F l0 i1 i2 i3 l1 n0 n1 s.1 s.2
def acI (l0 : List AV) (i1 i2 i3 : Int) (l1 : List AV) (n0 n1 : Nat) : Int × List AV -> Fr := fun (i0, l2) => (aT 48 [(3, .ptr 1 [] 57 0), (4, .ptr 2 [] 95 0), (6, .ptr 6 [] 29 0), (7, .int .i64 i0)] [])
def abK (l0 : List AV) (i1 i2 i3 : Int) (l1 : List AV) (n0 n1 : Nat) : Int × List AV -> Mm := fun (i0, l2) => ⟨[.var 29 (aC l0), .var 57 (bg i1 i2 i3), .var 95 (Aw), .var 29 (aC l1), .var 29 (.agg 28 [.msl 5 [] 139 0 0 n0]), .arr 139 l2, .var 29 (.agg 28 [.msl 5 [] 139 0 0 n1])], [(2, [0, 0])]⟩
def Hr (F : Tab) (l0 : List AV) (i1 i2 i3 : Int) (l1 : List AV) (n0 n1 : Nat) (fuel : Nat) (i0 : Int) (l2 : List AV) : LO := Tr.run (ow F l0 i1 i2 i3 l1 n0 n1) fuel (i0, l2)
def PV (l0 : List AV) (i1 i2 i3 : Int) (l1 : List AV) (n0 n1 : Nat) (lo : LO) : LT :=
 .br (lo.k == 1) (.done (.exit 0) (aT 48 [(4, .ptr 2 [] 95 0), (6, .ptr 6 [] 29 0)] []) ⟨[.var 29 (aC l0), .var 57 (bg i1 i2 i3), .var 95 (Aw), .var 29 (aC l1), .var 29 (.agg 28 [.msl 5 [] 139 0 0 n0]), .arr 139 (lo.L 0), .var 29 (.agg 28 [.msl 5 [] 139 0 0 n1])], [(2, [0, 0])]⟩) (.fail)
def Az : StP := ⟨48, [(3, .ptr 1 [] 57 (some 0)), (4, .ptr 2 [] 95 (some 0)), (6, .ptr 6 [] 29 (some 0)), (7, .int .i64)], [], [.var 29 (.agg 28 [.slice 139 false]), .var 57 (.agg 56 [.int .i64, .int .i64, .int .u32]), .var 95 (.agg 94 [.agg 28 [.sliceL 139 [] false], .boolC false]), .var 29 (.agg 28 [.slice 139 false]), .var 29 (.agg 28 [.msl 5 [] 139 (some 0) (some 0) none]), .arr 139, .var 29 (.agg 28 [.msl 5 [] 139 (some 0) (some 0) none])], [(2, [0, 0])]⟩
abbrev ZI {α : Type} (f : List AV -> Int -> Int -> Int -> List AV -> Nat -> Nat -> (Int × List AV) -> α) (fr : Fr) (M : Mm) : α := f (av (pA (vR M 0) 0)) (aj (pA (vR M 1) 0)) (aj (pA (vR M 1) 1)) (aj (pA (vR M 1) 2)) (av (pA (vR M 3) 0)) (oz (pA (vR M 4) 0)) (oz (pA (vR M 6) 0)) ((aj (tA fr 7)), (nY (oR M 5)))
def Jb (F : Tab) (l0 : List AV) (i1 i2 i3 : Int) (l1 : List AV) (n0 n1 : Nat) (s : Int × List AV) : LT := PV l0 i1 i2 i3 l1 n0 n1 (Tr.run (ow F l0 i1 i2 i3 l1 n0 n1) 100000 s)
def Kn (F : Tab) (dep : Nat) (fr : Fr) (M : Mm) : Option LT := if Az.ok fr M then some (ZI (Jb F) fr M) else none
def MR (F : Tab) (i0 i2 : Int) (l0 l1 : List AV) (b0 b1 b2 : Bool) (i3 : Int) (i1 : Int) : Tr (Int) :=
    .br (decide (i1 < 5))
     (.br (decide ((0 : Int) <= i1))
      (.br ((aK .and .u32 (i0.fdiv (2 ^ min i1.toNat 32)) 1) == 1)
       (.out ⟨1, [i1], [], [], [], [], []⟩)
       (.next (IntKind.i64.wrap (i1 + 1))))
      (.bad))
     (.out ⟨2, [], [], [], [], [], []⟩)
def yU (F : Tab) (i0 i2 : Int) (l0 l1 : List AV) (b0 b1 b2 : Bool) (i3 : Int) (s : Int) : Tr (Int) := MR F i0 i2 l0 l1 b0 b1 b2 i3 s
def aaU (i0 i2 : Int) (l0 l1 : List AV) (b0 b1 b2 : Bool) (i3 : Int) : Int -> Fr := fun i1 => (aT 22 [(1, .int .u32 i0), (12, .int .i64 i1)] [])
def Yb (i0 i2 : Int) (l0 l1 : List AV) (b0 b1 b2 : Bool) (i3 : Int) : Int -> Mm := fun i1 => ⟨[.var 26 (aD i2 l0 l1 b0 b1 b2 i3)], []⟩
def Li (F : Tab) (i0 i2 : Int) (l0 l1 : List AV) (b0 b1 b2 : Bool) (i3 : Int) (fuel : Nat) (i1 : Int) : LO := Tr.run (yU F i0 i2 l0 l1 b0 b1 b2 i3) fuel (i1)
def Ms (i0 i2 : Int) (l0 l1 : List AV) (b0 b1 b2 : Bool) (i3 : Int) (lo : LO) : LT :=
 .br (lo.k == 1) (.done .ret (aT 22 [(4, .int .i64 (lo.I 0)), (5, .bool true)] []) ⟨[.var 26 (aD i2 l0 l1 b0 b1 b2 i3)], []⟩) (.br (lo.k == 2) (.done (.exit 0) (aT 22 [] []) ⟨[.var 26 (aD i2 l0 l1 b0 b1 b2 i3)], []⟩) (.fail))
def Dv : StP := ⟨22, [(1, .int .u32), (12, .int .i64)], [], [.var 26 (eH)], []⟩
abbrev aaS {α : Type} (f : Int -> Int -> List AV -> List AV -> Bool -> Bool -> Bool -> Int -> Int -> α) (fr : Fr) (M : Mm) : α := f (aj (tA fr 1)) (aj (pA (vR M 0) 0)) (ak (pA (vR M 0) 1)) (ak (pA (vR M 0) 2)) (au (pA (vR M 0) 3)) (au (pA (vR M 0) 4)) (au (pA (vR M 0) 5)) (aj (pA (vR M 0) 6)) ((aj (tA fr 12)))
def JZ (F : Tab) (i0 i2 : Int) (l0 l1 : List AV) (b0 b1 b2 : Bool) (i3 : Int) (s : Int) : LT := Ms i0 i2 l0 l1 b0 b1 b2 i3 (Tr.run (yU F i0 i2 l0 l1 b0 b1 b2 i3) 100000 s)
def Mi (F : Tab) (dep : Nat) (fr : Fr) (M : Mm) : Option LT := if Dv.ok fr M then some (aaS (JZ F) fr M) else none
def Qw (F : Tab) (i0 i1 i2 : Int) (i3 i4 : Int) : Tr (Int × Int) :=
    let x0 : Int := IntKind.u32.wrap ((aj (ay F 114 [.int .u32 i1, .int .i64 i4])) + (aj (ay F 114 [.int .u32 i2, .int .i64 i4])));
    let x1 : Bool := cond (i0 == 5) (x0 == 1) false;
    let x2 : Bool := cond (i0 == 4) (cond (decide ((0 : Int) < x0)) true x1) x1;
    let x3 : Bool := cond (i0 == 3) (cond (x0 == 2) true x2) x2;
    .br (decide (i4 < 32))
     (.br (aA Pg F 114 [.int .u32 i1, .int .i64 i4])
      (.br (aA Pg F 114 [.int .u32 i2, .int .i64 i4])
       (.br (bT x3 (cond (aA Pg F 94 [.int .i64 i4]) true false) true)
        (.next (cond x3 (IntKind.u32.wrap (i3 + (aj (ay F 94 [.int .i64 i4])))) i3, IntKind.i64.wrap (i4 + 1)))
        (.bad))
       (.bad))
      (.bad))
     (.out ⟨1, [i3], [], [], [], [], []⟩)
def xG (F : Tab) (i0 i1 i2 : Int) (s : Int × Int) : Tr (Int × Int) := Qw F i0 i1 i2 s.1 s.2
def Z9 (i0 i1 i2 : Int) : Int × Int -> Fr := fun (i3, i4) => (aT 54 [(0, .int .i64 i0), (1, .int .u32 i1), (2, .int .u32 i2), (7, .int .u32 i3), (8, .int .i64 i4)] [])
def YO (i0 i1 i2 : Int) : Int × Int -> Mm := fun (i3, i4) => ⟨[], []⟩
def Qi (F : Tab) (i0 i1 i2 : Int) (fuel : Nat) (i3 i4 : Int) : LO := Tr.run (xG F i0 i1 i2) fuel (i3, i4)
def Iq (i0 i1 i2 : Int) (lo : LO) : LT :=
 .br (lo.k == 1) (.done (.exit 0) (aT 54 [(7, .int .u32 (lo.I 0))] []) ⟨[], []⟩) (.fail)
def DJ : StP := ⟨54, [(0, .int .i64), (1, .int .u32), (2, .int .u32), (7, .int .u32), (8, .int .i64)], [], [], []⟩
abbrev SB {α : Type} (f : Int -> Int -> Int -> (Int × Int) -> α) (fr : Fr) (M : Mm) : α := f (aj (tA fr 0)) (aj (tA fr 1)) (aj (tA fr 2)) ((aj (tA fr 7)), (aj (tA fr 8)))
def Nt (F : Tab) (i0 i1 i2 : Int) (s : Int × Int) : LT := Iq i0 i1 i2 (Tr.run (xG F i0 i1 i2) 100000 s)
def Nq (F : Tab) (dep : Nat) (fr : Fr) (M : Mm) : Option LT := if DJ.ok fr M then some (SB (Nt F) fr M) else none
def G5 (F : Tab) (i0 : Int) (i1 i2 : Int) : Tr (Int × Int) :=
    .br (decide (i2 < i0))
     (.next (IntKind.u32.wrap (2 * i1), IntKind.i64.wrap (i2 + 1)))
     (.out ⟨1, [i1], [], [], [], [], []⟩)
def vQ (F : Tab) (i0 : Int) (s : Int × Int) : Tr (Int × Int) := G5 F i0 s.1 s.2
def ac8 (i0 : Int) : Int × Int -> Fr := fun (i1, i2) => (aT 13 [(0, .int .i64 i0), (3, .int .u32 i1), (4, .int .i64 i2)] [])
def VO (i0 : Int) : Int × Int -> Mm := fun (i1, i2) => ⟨[], []⟩
def EZ (F : Tab) (i0 : Int) (fuel : Nat) (i1 i2 : Int) : LO := Tr.run (vQ F i0) fuel (i1, i2)
def O6 (i0 : Int) (lo : LO) : LT :=
 .br (lo.k == 1) (.done (.exit 0) (aT 13 [(3, .int .u32 (lo.I 0))] []) ⟨[], []⟩) (.fail)
def Ab : StP := ⟨13, [(0, .int .i64), (3, .int .u32), (4, .int .i64)], [], [], []⟩
abbrev VW {α : Type} (f : Int -> (Int × Int) -> α) (fr : Fr) (M : Mm) : α := f (aj (tA fr 0)) ((aj (tA fr 3)), (aj (tA fr 4)))
def NT (F : Tab) (i0 : Int) (s : Int × Int) : LT := O6 i0 (Tr.run (vQ F i0) 100000 s)
def Ma (F : Tab) (dep : Nat) (fr : Fr) (M : Mm) : Option LT := if Ab.ok fr M then some (VW (NT F) fr M) else none
def EK (F : Tab) (i0 i1 : Int) (l0 l1 : List AV) (b0 b1 b2 : Bool) (i2 : Int) (l2 : List AV) (i3 : Int) (l3 l4 : List AV) (b3 b4 : Bool) (i4 : Int) (l5 : List AV) (i5 i6 : Int) (l6 l7 : List AV) (b5 b6 b7 : Bool) (i7 : Int)  : Tr (Unit) :=
    let x0 : List AV := fG (ay F 103 [aC l5, .int .u32 (aj (l7.getD 0 .dead)), .int .u32 i0, .int .i64 4, .bool b5]);
    let x1 : List AV := ak (x0.getD 0 .dead);
    let x2 : Int := aj (x1.getD 0 .dead);
    let x3 : Int := aj (x1.getD 1 .dead);
    let x4 : List AV := av (x1.getD 2 .dead);
    let x5 : List AV := av (x1.getD 3 .dead);
    let x6 : Int := aj (x0.getD 1 .dead);
    let x7 : LO := Cw F i0 x6 x5 ((x5.length : Nat) : Int) i1 l0 l1 b0 b1 b2 i2 l2 i3 l3 l4 b3 b4 i4 l5 i5 i6 l6 l7 b5 b6 b7 i7 0 [] 0 0 0 0 0 x2 x3 x4 x5 100000 0 [];
    let x8 : LO := zD F i0 x6 x4 ((x4.length : Nat) : Int) i1 l0 l1 b0 b1 b2 i2 l2 i3 l3 l4 b3 b4 i4 i5 i6 l6 l7 b5 b6 b7 i7 0 0 0 0 0 0 x2 x3 x4 x5 100000 0 l5 [] (x7.l.getD 0 []);
    let x9 : List AV := x8.l.getD 0 [];
    let x10 : List AV := x8.l.getD 1 [];
    let x11 : List AV := x8.l.getD 2 [];
    .br (aA Pg F 103 [aC l5, .int .u32 (aj (l7.getD 0 .dead)), .int .u32 i0, .int .i64 4, .bool b5])
     (.br (x7.k == 1)
      (.br (x8.k == 1)
       (.br (x6 != 0)
        (.out ⟨1, [x2, x3, x6], [], [x9, x10, x11, x4, x5], [], [], []⟩)
        (.out ⟨2, [x2], [], [x9, x10, x11], [], [], []⟩))
       (.bad))
      (.bad))
     (.bad)
def Db (F : Tab) (i0 i1 : Int) (l0 l1 : List AV) (b0 b1 b2 : Bool) (i2 : Int) (l2 : List AV) (i3 : Int) (l3 l4 : List AV) (b3 b4 : Bool) (i4 : Int) (l5 : List AV) (i5 i6 : Int) (l6 l7 : List AV) (b5 b6 b7 : Bool) (i7 : Int) : LO := (EK F i0 i1 l0 l1 b0 b1 b2 i2 l2 i3 l3 l4 b3 b4 i4 l5 i5 i6 l6 l7 b5 b6 b7 i7).eval fun _ => LO.bad
def aaH (i0 i1 : Int) (l0 l1 : List AV) (b0 b1 b2 : Bool) (i2 : Int) (l2 : List AV) (i3 : Int) (l3 l4 : List AV) (b3 b4 : Bool) (i4 : Int) (l5 : List AV) (i5 i6 : Int) (l6 l7 : List AV) (b5 b6 b7 : Bool) (i7 : Int) : Mm := ⟨[.var 26 (aD i1 l0 l1 b0 b1 b2 i2), .var 29 (aC l2), .var 38 (BG), .var 63 (.agg 62 [aD i3 l3 l4 b3 false b4 i4, aC l5, .int .u32 i5, .agg 37 [.bool true, dh, aD i6 l6 l7 b5 b6 b7 i7, .int .u32 0, .slice 57 [] true, .slice 59 [] true, .bool false, aY, .int .i64 0, .int .u32 0, .int .i64 0], nK]), .var 61 (.ptr 3 [] 63 0)], []⟩
def KW (i0 i1 : Int) (l0 l1 : List AV) (b0 b1 b2 : Bool) (i2 : Int) (l2 : List AV) (i3 : Int) (l3 l4 : List AV) (b3 b4 : Bool) (i4 : Int) (l5 : List AV) (i5 i6 : Int) (l6 l7 : List AV) (b5 b6 b7 : Bool) (i7 : Int) (lo : LO) : LT :=
 .br (lo.k == 1) (.done (.panic (.iface 89 (dM (lo.I 2) i0 i6))) (aT 0 [] []) ⟨[.var 26 (aD i1 l0 l1 b0 b1 b2 i2), .var 29 (aC l2), .var 38 (cO), .var 63 (Cj i3 l3 l4 b3 false b4 i4 (lo.L 0) i5 true dh i6 l6 l7 b5 b6 b7 i7 0 (lo.L 1) (lo.L 2) false aY 0 0 0 nK), .var 61 (.ptr 3 [] 63 0), .var 118 (aW (lo.I 0) (lo.I 1) (lo.L 3) (lo.L 4))], [(2, [4]), (2, [5]), (3, [3, 4]), (3, [3, 5])]⟩) (.br (lo.k == 2) (.done .ret (aT 1 [(0, .int .i64 (lo.I 0))] []) ⟨[.var 26 (aD i1 l0 l1 b0 b1 b2 i2), .var 29 (aC l2), .var 38 (cO), .var 63 (Cj i3 l3 l4 b3 false b4 i4 (lo.L 0) i5 true dh i6 l6 l7 b5 b6 b7 i7 0 (lo.L 1) (lo.L 2) false aY 0 0 0 nK), .var 61 (.ptr 3 [] 63 0)], [(2, [4]), (2, [5]), (3, [3, 4]), (3, [3, 5])]⟩) (.fail))
def WL (i0 i1 : Int) (l0 l1 : List AV) (b0 b1 b2 : Bool) (i2 : Int) (l2 : List AV) (i3 : Int) (l3 l4 : List AV) (b3 b4 : Bool) (i4 : Int) (l5 : List AV) (i5 i6 : Int) (l6 l7 : List AV) (b5 b6 b7 : Bool) (i7 : Int) : List AV := [.ptr 3 [] 63 0, .int .u32 i0, .int .i64 4]
def DC : ArP := ⟨[.ptr 3 [] 63 (some 0), .int .u32, .intC .i64 4], [.var 26 (eH), .var 29 (.agg 28 [.slice 139 false]), .var 38 (FM), .var 63 (FE), .var 61 (.ptr 3 [] 63 (some 0))], []⟩
abbrev RA {α : Type} (f : Int -> Int -> List AV -> List AV -> Bool -> Bool -> Bool -> Int -> List AV -> Int -> List AV -> List AV -> Bool -> Bool -> Int -> List AV -> Int -> Int -> List AV -> List AV -> Bool -> Bool -> Bool -> Int -> α) (args : List AV) (M : Mm) : α := f (aj (args.getD 1 .dead)) (aj (pA (vR M 0) 0)) (ak (pA (vR M 0) 1)) (ak (pA (vR M 0) 2)) (au (pA (vR M 0) 3)) (au (pA (vR M 0) 4)) (au (pA (vR M 0) 5)) (aj (pA (vR M 0) 6)) (av (pA (vR M 1) 0)) (aj (pA (pA (vR M 3) 0) 0)) (ak (pA (pA (vR M 3) 0) 1)) (ak (pA (pA (vR M 3) 0) 2)) (au (pA (pA (vR M 3) 0) 3)) (au (pA (pA (vR M 3) 0) 5)) (aj (pA (pA (vR M 3) 0) 6)) (av (pA (pA (vR M 3) 1) 0)) (aj (pA (vR M 3) 2)) (aj (pA (pA (pA (vR M 3) 3) 2) 0)) (ak (pA (pA (pA (vR M 3) 3) 2) 1)) (ak (pA (pA (pA (vR M 3) 3) 2) 2)) (au (pA (pA (pA (vR M 3) 3) 2) 3)) (au (pA (pA (pA (vR M 3) 3) 2) 4)) (au (pA (pA (pA (vR M 3) 3) 2) 5)) (aj (pA (pA (pA (vR M 3) 3) 2) 6))
def Pv (F : Tab) (i0 i1 : Int) (l0 l1 : List AV) (b0 b1 b2 : Bool) (i2 : Int) (l2 : List AV) (i3 : Int) (l3 l4 : List AV) (b3 b4 : Bool) (i4 : Int) (l5 : List AV) (i5 i6 : Int) (l6 l7 : List AV) (b5 b6 b7 : Bool) (i7 : Int) : LT := KW i0 i1 l0 l1 b0 b1 b2 i2 l2 i3 l3 l4 b3 b4 i4 l5 i5 i6 l6 l7 b5 b6 b7 i7 (Db F i0 i1 l0 l1 b0 b1 b2 i2 l2 i3 l3 l4 b3 b4 i4 l5 i5 i6 l6 l7 b5 b6 b7 i7)
def JL (F : Tab) (dep : Nat) (args : List AV) (M : Mm) : Option LT := if Nat.beq dep 2 && DC.ok args M then some (RA (Pv F) args M) else none
def Hg (F : Tab) (i0 i1 i2 : Int) (l0 l1 : List AV) (b0 b1 b2 : Bool) (i3 : Int) (l2 : List AV) (i4 : Int) (l3 l4 : List AV) (b3 b4 : Bool) (i5 : Int) (l5 : List AV) (i6 i7 : Int) (l6 l7 : List AV) (b5 b6 b7 : Bool) (i8 i9 : Int) (l8 l9 : List AV) (i10 i11 i12 i13 i14 : Int)  : Tr (Unit) :=
    .br (decide (((l9.length + 1) * 24) <= 140737488355328))
     (.br (aA Pg F 102 [aC l5, .int .i64 i0, .int .i64 i1])
      (.out ⟨1, [aj ((fG (ay F 102 [aC l5, .int .i64 i0, .int .i64 i1])).getD 0 .dead)], [], [l9 ++ [mO i0 i1 false]], [], [], []⟩)
      (.bad))
     (.bad)
def wM (F : Tab) (i0 i1 i2 : Int) (l0 l1 : List AV) (b0 b1 b2 : Bool) (i3 : Int) (l2 : List AV) (i4 : Int) (l3 l4 : List AV) (b3 b4 : Bool) (i5 : Int) (l5 : List AV) (i6 i7 : Int) (l6 l7 : List AV) (b5 b6 b7 : Bool) (i8 i9 : Int) (l8 l9 : List AV) (i10 i11 i12 i13 i14 : Int) : LO := (Hg F i0 i1 i2 l0 l1 b0 b1 b2 i3 l2 i4 l3 l4 b3 b4 i5 l5 i6 i7 l6 l7 b5 b6 b7 i8 i9 l8 l9 i10 i11 i12 i13 i14).eval fun _ => LO.bad
def Oj (i0 i1 i2 : Int) (l0 l1 : List AV) (b0 b1 b2 : Bool) (i3 : Int) (l2 : List AV) (i4 : Int) (l3 l4 : List AV) (b3 b4 : Bool) (i5 : Int) (l5 : List AV) (i6 i7 : Int) (l6 l7 : List AV) (b5 b6 b7 : Bool) (i8 i9 : Int) (l8 l9 : List AV) (i10 i11 i12 i13 i14 : Int) : Mm := ⟨[.var 26 (aD i2 l0 l1 b0 b1 b2 i3), .var 29 (aC l2), .var 38 (cO), .var 63 (dP i4 l3 l4 b3 false b4 i5 l5 i6 true dh i7 l6 l7 b5 b6 b7 i8 i9 l8 l9 false aY 0 0 0 i10 i11 i12 i13 i14), .var 61 (.ptr 3 [] 63 0)], [(2, [4]), (2, [5]), (3, [3, 4]), (3, [3, 5])]⟩
def IV (i0 i1 i2 : Int) (l0 l1 : List AV) (b0 b1 b2 : Bool) (i3 : Int) (l2 : List AV) (i4 : Int) (l3 l4 : List AV) (b3 b4 : Bool) (i5 : Int) (l5 : List AV) (i6 i7 : Int) (l6 l7 : List AV) (b5 b6 b7 : Bool) (i8 i9 : Int) (l8 l9 : List AV) (i10 i11 i12 i13 i14 : Int) (lo : LO) : LT :=
 .br (lo.k == 1) (.done .ret (aT 1 [(0, .int .u32 (lo.I 0))] []) ⟨(Oj i0 i1 i2 l0 l1 b0 b1 b2 i3 l2 i4 l3 l4 b3 b4 i5 l5 i6 i7 l6 l7 b5 b6 b7 i8 i9 l8 (lo.L 0) i10 i11 i12 i13 i14).rows, [(3, [3, 5]), (2, [4]), (2, [5]), (3, [3, 4])]⟩) (.fail)
def Zw (i0 i1 i2 : Int) (l0 l1 : List AV) (b0 b1 b2 : Bool) (i3 : Int) (l2 : List AV) (i4 : Int) (l3 l4 : List AV) (b3 b4 : Bool) (i5 : Int) (l5 : List AV) (i6 i7 : Int) (l6 l7 : List AV) (b5 b6 b7 : Bool) (i8 i9 : Int) (l8 l9 : List AV) (i10 i11 i12 i13 i14 : Int) : List AV := [.ptr 3 [] 63 0, .int .i64 i0, .int .i64 i1]
def Dr : ArP := ⟨[.ptr 3 [] 63 (some 0), .int .i64, .int .i64], [.var 26 (eH), .var 29 (.agg 28 [.slice 139 false]), .var 38 (iP), .var 63 (iC), .var 61 (.ptr 3 [] 63 (some 0))], [(2, [4]), (2, [5]), (3, [3, 4]), (3, [3, 5])]⟩
abbrev aaB {α : Type} (f : Int -> Int -> Int -> List AV -> List AV -> Bool -> Bool -> Bool -> Int -> List AV -> Int -> List AV -> List AV -> Bool -> Bool -> Int -> List AV -> Int -> Int -> List AV -> List AV -> Bool -> Bool -> Bool -> Int -> Int -> List AV -> List AV -> Int -> Int -> Int -> Int -> Int -> α) (args : List AV) (M : Mm) : α := f (aj (args.getD 1 .dead)) (aj (args.getD 2 .dead)) (aj (pA (vR M 0) 0)) (ak (pA (vR M 0) 1)) (ak (pA (vR M 0) 2)) (au (pA (vR M 0) 3)) (au (pA (vR M 0) 4)) (au (pA (vR M 0) 5)) (aj (pA (vR M 0) 6)) (av (pA (vR M 1) 0)) (aj (pA (pA (vR M 3) 0) 0)) (ak (pA (pA (vR M 3) 0) 1)) (ak (pA (pA (vR M 3) 0) 2)) (au (pA (pA (vR M 3) 0) 3)) (au (pA (pA (vR M 3) 0) 5)) (aj (pA (pA (vR M 3) 0) 6)) (av (pA (pA (vR M 3) 1) 0)) (aj (pA (vR M 3) 2)) (aj (pA (pA (pA (vR M 3) 3) 2) 0)) (ak (pA (pA (pA (vR M 3) 3) 2) 1)) (ak (pA (pA (pA (vR M 3) 3) 2) 2)) (au (pA (pA (pA (vR M 3) 3) 2) 3)) (au (pA (pA (pA (vR M 3) 3) 2) 4)) (au (pA (pA (pA (vR M 3) 3) 2) 5)) (aj (pA (pA (pA (vR M 3) 3) 2) 6)) (aj (pA (pA (vR M 3) 3) 3)) (av (pA (pA (vR M 3) 3) 4)) (av (pA (pA (vR M 3) 3) 5)) (aj (pA (pA (vR M 3) 4) 0)) (aj (pA (pA (vR M 3) 4) 1)) (aj (pA (pA (vR M 3) 4) 2)) (aj (pA (pA (vR M 3) 4) 3)) (aj (pA (pA (vR M 3) 4) 4))
def J3 (F : Tab) (i0 i1 i2 : Int) (l0 l1 : List AV) (b0 b1 b2 : Bool) (i3 : Int) (l2 : List AV) (i4 : Int) (l3 l4 : List AV) (b3 b4 : Bool) (i5 : Int) (l5 : List AV) (i6 i7 : Int) (l6 l7 : List AV) (b5 b6 b7 : Bool) (i8 i9 : Int) (l8 l9 : List AV) (i10 i11 i12 i13 i14 : Int) : LT := IV i0 i1 i2 l0 l1 b0 b1 b2 i3 l2 i4 l3 l4 b3 b4 i5 l5 i6 i7 l6 l7 b5 b6 b7 i8 i9 l8 l9 i10 i11 i12 i13 i14 (wM F i0 i1 i2 l0 l1 b0 b1 b2 i3 l2 i4 l3 l4 b3 b4 i5 l5 i6 i7 l6 l7 b5 b6 b7 i8 i9 l8 l9 i10 i11 i12 i13 i14)
def JM (F : Tab) (dep : Nat) (args : List AV) (M : Mm) : Option LT := if Nat.beq dep 2 && Dr.ok args M then some (aaB (J3 F) args M) else none
def Ew (F : Tab) (i0 : Int) (l0 l1 : List AV) (b0 b1 b2 : Bool) (i1 : Int) (l2 : List AV) (i2 : Int) (l3 l4 : List AV) (b3 b4 : Bool) (i3 : Int) (l5 : List AV) (i4 i5 : Int) (l6 l7 : List AV) (b5 b6 b7 : Bool) (i6 : Int)  : Tr (Unit) :=
    let x0 : LO := Db F i5 i0 l0 l1 b0 b1 b2 i1 l2 i2 l3 l4 b3 b4 i3 l5 i4 i5 l6 l7 b5 b6 b7 i6;
    let x1 : Int := x0.i.getD 0 0;
    let x2 : List AV := x0.l.getD 0 [];
    let x3 : List AV := x0.l.getD 1 [];
    let x4 : List AV := x0.l.getD 2 [];
    let x5 : LO := wM F x1 4 i0 l0 l1 b0 b1 b2 i1 l2 i2 l3 l4 b3 b4 i3 x2 i4 i5 l6 l7 b5 b6 b7 i6 0 x3 x4 0 0 0 0 0;
    let x6 : Int := x5.i.getD 0 0;
    let x7 : List AV := x5.l.getD 0 [];
    let x8 : List AV := fG (ay F 33 [.int .u32 x6]);
    let x9 : List AV := ak (x8.getD 0 .dead);
    let x10 : Int := aj (x9.getD 0 .dead);
    let x11 : Int := aj (x9.getD 1 .dead);
    let x12 : Int := aj (x9.getD 2 .dead);
    let x13 : Int := aj (x9.getD 3 .dead);
    let x14 : Int := aj (x9.getD 4 .dead);
    let x15 : Bool := !(au (x8.getD 1 .dead));
    .br ((i5.tmod 4) != 0)
     (.out ⟨1, [], [], [], [], [], []⟩)
     (.br (x0.k == 1)
      (.out ⟨4, [x1, x0.i.getD 1 0, x0.i.getD 2 0], [], [x2, x3, x4, x0.l.getD 3 [], x0.l.getD 4 []], [], [], []⟩)
      (.br (x0.k == 2)
       (.br (x5.k == 1)
        (.br (aA Pg F 33 [.int .u32 x6])
         (.br (bT x15 true (bT b3 (cond (aA Pg F 72 [.int .i64 x10]) true false) true))
          (.br (cond x15 true (cond b3 (au (ay F 72 [.int .i64 x10])) false))
           (.out ⟨2, [x6, x10, x11, x12, x13, x14, x6], [], [x2, x3, x7], [], [], []⟩)
           (.out ⟨3, [x6, x10, x11, x12, x13, x14], [], [x2, x3, x7], [], [], []⟩))
          (.bad))
         (.bad))
        (.bad))
       (.bad)))
def BH (F : Tab) (i0 : Int) (l0 l1 : List AV) (b0 b1 b2 : Bool) (i1 : Int) (l2 : List AV) (i2 : Int) (l3 l4 : List AV) (b3 b4 : Bool) (i3 : Int) (l5 : List AV) (i4 i5 : Int) (l6 l7 : List AV) (b5 b6 b7 : Bool) (i6 : Int) : LO := (Ew F i0 l0 l1 b0 b1 b2 i1 l2 i2 l3 l4 b3 b4 i3 l5 i4 i5 l6 l7 b5 b6 b7 i6).eval fun _ => LO.bad
def Qh (i0 : Int) (l0 l1 : List AV) (b0 b1 b2 : Bool) (i1 : Int) (l2 : List AV) (i2 : Int) (l3 l4 : List AV) (b3 b4 : Bool) (i3 : Int) (l5 : List AV) (i4 i5 : Int) (l6 l7 : List AV) (b5 b6 b7 : Bool) (i6 : Int) : Mm := ⟨[.var 26 (aD i0 l0 l1 b0 b1 b2 i1), .var 29 (aC l2), .var 38 (BG), .var 63 (.agg 62 [aD i2 l3 l4 b3 false b4 i3, aC l5, .int .u32 i4, .agg 37 [.bool true, dh, aD i5 l6 l7 b5 b6 b7 i6, .int .u32 0, .slice 57 [] true, .slice 59 [] true, .bool false, aY, .int .i64 0, .int .u32 0, .int .i64 0], nK]), .var 61 (.ptr 3 [] 63 0)], []⟩
def Me (i0 : Int) (l0 l1 : List AV) (b0 b1 b2 : Bool) (i1 : Int) (l2 : List AV) (i2 : Int) (l3 l4 : List AV) (b3 b4 : Bool) (i3 : Int) (l5 : List AV) (i4 i5 : Int) (l6 l7 : List AV) (b5 b6 b7 : Bool) (i6 : Int) (lo : LO) : LT :=
 .br (lo.k == 1) (.done (.panic (.iface 89 (dM 3 i5 i5))) (aT 0 [] []) (Qh i0 l0 l1 b0 b1 b2 i1 l2 i2 l3 l4 b3 b4 i3 l5 i4 i5 l6 l7 b5 b6 b7 i6)) (.br (lo.k == 2) (.done (.panic (.iface 89 (dM 2 (lo.I 6) i5))) (aT 0 [] []) ⟨[.var 26 (aD i0 l0 l1 b0 b1 b2 i1), .var 29 (aC l2), .var 38 (cO), .var 63 (Cj i2 l3 l4 b3 false b4 i3 (lo.L 0) i4 true dh i5 l6 l7 b5 b6 b7 i6 (lo.I 0) (lo.L 1) (lo.L 2) false aY 0 0 0 nK), .var 61 (.ptr 3 [] 63 0), .var 55 (bE (lo.I 1) (lo.I 2) (lo.I 3) (lo.I 4) (lo.I 5))], [(3, [3, 5]), (2, [4]), (2, [5]), (3, [3, 4])]⟩) (.br (lo.k == 3) (.done .ret (aT 1 [(0, .tuple [])] []) ⟨[.var 26 (aD i0 l0 l1 b0 b1 b2 i1), .var 29 (aC l2), .var 38 (cO), .var 63 (dP i2 l3 l4 b3 false b4 i3 (lo.L 0) i4 true dh i5 l6 l7 b5 b6 b7 i6 (lo.I 0) (lo.L 1) (lo.L 2) false aY 0 0 0 (lo.I 1) (lo.I 2) (lo.I 3) (lo.I 4) (lo.I 5)), .var 61 (.ptr 3 [] 63 0)], [(3, [3, 5]), (2, [4]), (2, [5]), (3, [3, 4])]⟩) (.br (lo.k == 4) (.done (.panic (.iface 89 (dM (lo.I 2) i5 i5))) (aT 0 [] []) ⟨[.var 26 (aD i0 l0 l1 b0 b1 b2 i1), .var 29 (aC l2), .var 38 (cO), .var 63 (Cj i2 l3 l4 b3 false b4 i3 (lo.L 0) i4 true dh i5 l6 l7 b5 b6 b7 i6 0 (lo.L 1) (lo.L 2) false aY 0 0 0 nK), .var 61 (.ptr 3 [] 63 0), .var 118 (aW (lo.I 0) (lo.I 1) (lo.L 3) (lo.L 4))], [(2, [4]), (2, [5]), (3, [3, 4]), (3, [3, 5])]⟩) (.fail))))
def Y1 (i0 : Int) (l0 l1 : List AV) (b0 b1 b2 : Bool) (i1 : Int) (l2 : List AV) (i2 : Int) (l3 l4 : List AV) (b3 b4 : Bool) (i3 : Int) (l5 : List AV) (i4 i5 : Int) (l6 l7 : List AV) (b5 b6 b7 : Bool) (i6 : Int) : List AV := [.ptr 3 [] 63 0]
def CJ : ArP := ⟨[.ptr 3 [] 63 (some 0)], [.var 26 (eH), .var 29 (.agg 28 [.slice 139 false]), .var 38 (FM), .var 63 (FE), .var 61 (.ptr 3 [] 63 (some 0))], []⟩
abbrev UE {α : Type} (f : Int -> List AV -> List AV -> Bool -> Bool -> Bool -> Int -> List AV -> Int -> List AV -> List AV -> Bool -> Bool -> Int -> List AV -> Int -> Int -> List AV -> List AV -> Bool -> Bool -> Bool -> Int -> α) (args : List AV) (M : Mm) : α := f (aj (pA (vR M 0) 0)) (ak (pA (vR M 0) 1)) (ak (pA (vR M 0) 2)) (au (pA (vR M 0) 3)) (au (pA (vR M 0) 4)) (au (pA (vR M 0) 5)) (aj (pA (vR M 0) 6)) (av (pA (vR M 1) 0)) (aj (pA (pA (vR M 3) 0) 0)) (ak (pA (pA (vR M 3) 0) 1)) (ak (pA (pA (vR M 3) 0) 2)) (au (pA (pA (vR M 3) 0) 3)) (au (pA (pA (vR M 3) 0) 5)) (aj (pA (pA (vR M 3) 0) 6)) (av (pA (pA (vR M 3) 1) 0)) (aj (pA (vR M 3) 2)) (aj (pA (pA (pA (vR M 3) 3) 2) 0)) (ak (pA (pA (pA (vR M 3) 3) 2) 1)) (ak (pA (pA (pA (vR M 3) 3) 2) 2)) (au (pA (pA (pA (vR M 3) 3) 2) 3)) (au (pA (pA (pA (vR M 3) 3) 2) 4)) (au (pA (pA (pA (vR M 3) 3) 2) 5)) (aj (pA (pA (pA (vR M 3) 3) 2) 6))
def Ny (F : Tab) (i0 : Int) (l0 l1 : List AV) (b0 b1 b2 : Bool) (i1 : Int) (l2 : List AV) (i2 : Int) (l3 l4 : List AV) (b3 b4 : Bool) (i3 : Int) (l5 : List AV) (i4 i5 : Int) (l6 l7 : List AV) (b5 b6 b7 : Bool) (i6 : Int) : LT := Me i0 l0 l1 b0 b1 b2 i1 l2 i2 l3 l4 b3 b4 i3 l5 i4 i5 l6 l7 b5 b6 b7 i6 (BH F i0 l0 l1 b0 b1 b2 i1 l2 i2 l3 l4 b3 b4 i3 l5 i4 i5 l6 l7 b5 b6 b7 i6)
def JJ (F : Tab) (dep : Nat) (args : List AV) (M : Mm) : Option LT := if Nat.beq dep 3 && CJ.ok args M then some (UE (Ny F) args M) else none
def Hq (F : Tab) (i0 i1 i2 : Int) (l0 l1 : List AV) (b0 b1 b2 : Bool) (i3 : Int) (l2 : List AV) (i4 : Int) (l3 l4 : List AV) (b3 b4 : Bool) (i5 : Int) (l5 : List AV) (i6 i7 : Int) (l6 l7 : List AV) (b5 b6 b7 : Bool) (i8 i9 : Int) (l8 l9 : List AV) (i10 i11 i12 i13 i14 : Int)  : Tr (Unit) :=
    let x0 : List AV := fG (ay F 103 [aC l5, .int .u32 (aj (l7.getD 0 .dead)), .int .u32 i0, .int .i64 i1, .bool b5]);
    let x1 : List AV := ak (x0.getD 0 .dead);
    let x2 : Int := aj (x1.getD 0 .dead);
    let x3 : Int := aj (x1.getD 1 .dead);
    let x4 : List AV := av (x1.getD 2 .dead);
    let x5 : List AV := av (x1.getD 3 .dead);
    let x6 : Int := aj (x0.getD 1 .dead);
    let x7 : LO := Cw F i0 x6 x5 ((x5.length : Nat) : Int) i2 l0 l1 b0 b1 b2 i3 l2 i4 l3 l4 b3 b4 i5 l5 i6 i7 l6 l7 b5 b6 b7 i8 i9 l8 i10 i11 i12 i13 i14 x2 x3 x4 x5 100000 0 l9;
    let x8 : LO := zD F i0 x6 x4 ((x4.length : Nat) : Int) i2 l0 l1 b0 b1 b2 i3 l2 i4 l3 l4 b3 b4 i5 i6 i7 l6 l7 b5 b6 b7 i8 i9 i10 i11 i12 i13 i14 x2 x3 x4 x5 100000 0 l5 l8 (x7.l.getD 0 []);
    let x9 : List AV := x8.l.getD 0 [];
    let x10 : List AV := x8.l.getD 1 [];
    let x11 : List AV := x8.l.getD 2 [];
    .br (aA Pg F 103 [aC l5, .int .u32 (aj (l7.getD 0 .dead)), .int .u32 i0, .int .i64 i1, .bool b5])
     (.br (x7.k == 1)
      (.br (x8.k == 1)
       (.br (x6 != 0)
        (.out ⟨1, [x2, x3, x6], [], [x9, x10, x11, x4, x5], [], [], []⟩)
        (.out ⟨2, [x2], [], [x9, x10, x11], [], [], []⟩))
       (.bad))
      (.bad))
     (.bad)
def Cn (F : Tab) (i0 i1 i2 : Int) (l0 l1 : List AV) (b0 b1 b2 : Bool) (i3 : Int) (l2 : List AV) (i4 : Int) (l3 l4 : List AV) (b3 b4 : Bool) (i5 : Int) (l5 : List AV) (i6 i7 : Int) (l6 l7 : List AV) (b5 b6 b7 : Bool) (i8 i9 : Int) (l8 l9 : List AV) (i10 i11 i12 i13 i14 : Int) : LO := (Hq F i0 i1 i2 l0 l1 b0 b1 b2 i3 l2 i4 l3 l4 b3 b4 i5 l5 i6 i7 l6 l7 b5 b6 b7 i8 i9 l8 l9 i10 i11 i12 i13 i14).eval fun _ => LO.bad
def IZ (i0 i1 i2 : Int) (l0 l1 : List AV) (b0 b1 b2 : Bool) (i3 : Int) (l2 : List AV) (i4 : Int) (l3 l4 : List AV) (b3 b4 : Bool) (i5 : Int) (l5 : List AV) (i6 i7 : Int) (l6 l7 : List AV) (b5 b6 b7 : Bool) (i8 i9 : Int) (l8 l9 : List AV) (i10 i11 i12 i13 i14 : Int) : Mm := ⟨[.var 26 (aD i2 l0 l1 b0 b1 b2 i3), .var 29 (aC l2), .var 38 (cO), .var 63 (dP i4 l3 l4 b3 false b4 i5 l5 i6 true dh i7 l6 l7 b5 b6 b7 i8 i9 l8 l9 false aY 0 0 0 i10 i11 i12 i13 i14), .var 61 (.ptr 3 [] 63 0)], [(3, [3, 5]), (2, [4]), (2, [5]), (3, [3, 4])]⟩
def QG (i0 i1 i2 : Int) (l0 l1 : List AV) (b0 b1 b2 : Bool) (i3 : Int) (l2 : List AV) (i4 : Int) (l3 l4 : List AV) (b3 b4 : Bool) (i5 : Int) (l5 : List AV) (i6 i7 : Int) (l6 l7 : List AV) (b5 b6 b7 : Bool) (i8 i9 : Int) (l8 l9 : List AV) (i10 i11 i12 i13 i14 : Int) (lo : LO) : LT :=
 .br (lo.k == 1) (.done (.panic (.iface 89 (dM (lo.I 2) i0 i7))) (aT 0 [] []) ⟨[.var 26 (aD i2 l0 l1 b0 b1 b2 i3), .var 29 (aC l2), .var 38 (cO), .var 63 (dP i4 l3 l4 b3 false b4 i5 (lo.L 0) i6 true dh i7 l6 l7 b5 b6 b7 i8 i9 (lo.L 1) (lo.L 2) false aY 0 0 0 i10 i11 i12 i13 i14), .var 61 (.ptr 3 [] 63 0), .var 118 (aW (lo.I 0) (lo.I 1) (lo.L 3) (lo.L 4))], [(2, [4]), (2, [5]), (3, [3, 4]), (3, [3, 5])]⟩) (.br (lo.k == 2) (.done .ret (aT 1 [(0, .int .i64 (lo.I 0))] []) ⟨(IZ i0 i1 i2 l0 l1 b0 b1 b2 i3 l2 i4 l3 l4 b3 b4 i5 (lo.L 0) i6 i7 l6 l7 b5 b6 b7 i8 i9 (lo.L 1) (lo.L 2) i10 i11 i12 i13 i14).rows, [(2, [4]), (2, [5]), (3, [3, 4]), (3, [3, 5])]⟩) (.fail))
def YK (i0 i1 i2 : Int) (l0 l1 : List AV) (b0 b1 b2 : Bool) (i3 : Int) (l2 : List AV) (i4 : Int) (l3 l4 : List AV) (b3 b4 : Bool) (i5 : Int) (l5 : List AV) (i6 i7 : Int) (l6 l7 : List AV) (b5 b6 b7 : Bool) (i8 i9 : Int) (l8 l9 : List AV) (i10 i11 i12 i13 i14 : Int) : List AV := [.ptr 3 [] 63 0, .int .u32 i0, .int .i64 i1]
def zV : ArP := ⟨[.ptr 3 [] 63 (some 0), .int .u32, .int .i64], [.var 26 (eH), .var 29 (.agg 28 [.slice 139 false]), .var 38 (iP), .var 63 (iC), .var 61 (.ptr 3 [] 63 (some 0))], [(3, [3, 5]), (2, [4]), (2, [5]), (3, [3, 4])]⟩
abbrev V4 {α : Type} (f : Int -> Int -> Int -> List AV -> List AV -> Bool -> Bool -> Bool -> Int -> List AV -> Int -> List AV -> List AV -> Bool -> Bool -> Int -> List AV -> Int -> Int -> List AV -> List AV -> Bool -> Bool -> Bool -> Int -> Int -> List AV -> List AV -> Int -> Int -> Int -> Int -> Int -> α) (args : List AV) (M : Mm) : α := f (aj (args.getD 1 .dead)) (aj (args.getD 2 .dead)) (aj (pA (vR M 0) 0)) (ak (pA (vR M 0) 1)) (ak (pA (vR M 0) 2)) (au (pA (vR M 0) 3)) (au (pA (vR M 0) 4)) (au (pA (vR M 0) 5)) (aj (pA (vR M 0) 6)) (av (pA (vR M 1) 0)) (aj (pA (pA (vR M 3) 0) 0)) (ak (pA (pA (vR M 3) 0) 1)) (ak (pA (pA (vR M 3) 0) 2)) (au (pA (pA (vR M 3) 0) 3)) (au (pA (pA (vR M 3) 0) 5)) (aj (pA (pA (vR M 3) 0) 6)) (av (pA (pA (vR M 3) 1) 0)) (aj (pA (vR M 3) 2)) (aj (pA (pA (pA (vR M 3) 3) 2) 0)) (ak (pA (pA (pA (vR M 3) 3) 2) 1)) (ak (pA (pA (pA (vR M 3) 3) 2) 2)) (au (pA (pA (pA (vR M 3) 3) 2) 3)) (au (pA (pA (pA (vR M 3) 3) 2) 4)) (au (pA (pA (pA (vR M 3) 3) 2) 5)) (aj (pA (pA (pA (vR M 3) 3) 2) 6)) (aj (pA (pA (vR M 3) 3) 3)) (av (pA (pA (vR M 3) 3) 4)) (av (pA (pA (vR M 3) 3) 5)) (aj (pA (pA (vR M 3) 4) 0)) (aj (pA (pA (vR M 3) 4) 1)) (aj (pA (pA (vR M 3) 4) 2)) (aj (pA (pA (vR M 3) 4) 3)) (aj (pA (pA (vR M 3) 4) 4))
def Kw (F : Tab) (i0 i1 i2 : Int) (l0 l1 : List AV) (b0 b1 b2 : Bool) (i3 : Int) (l2 : List AV) (i4 : Int) (l3 l4 : List AV) (b3 b4 : Bool) (i5 : Int) (l5 : List AV) (i6 i7 : Int) (l6 l7 : List AV) (b5 b6 b7 : Bool) (i8 i9 : Int) (l8 l9 : List AV) (i10 i11 i12 i13 i14 : Int) : LT := QG i0 i1 i2 l0 l1 b0 b1 b2 i3 l2 i4 l3 l4 b3 b4 i5 l5 i6 i7 l6 l7 b5 b6 b7 i8 i9 l8 l9 i10 i11 i12 i13 i14 (Cn F i0 i1 i2 l0 l1 b0 b1 b2 i3 l2 i4 l3 l4 b3 b4 i5 l5 i6 i7 l6 l7 b5 b6 b7 i8 i9 l8 l9 i10 i11 i12 i13 i14)
def IC (F : Tab) (dep : Nat) (args : List AV) (M : Mm) : Option LT := if Nat.beq dep 2 && zV.ok args M then some (V4 (Kw F) args M) else none
def D6 (F : Tab) (i0 i1 i2 i3 : Int) (l0 l1 : List AV) (b0 b1 b2 : Bool) (i4 : Int) (l2 : List AV) (i5 : Int) (l3 l4 : List AV) (b3 b4 : Bool) (i6 : Int) (l5 : List AV) (i7 i8 : Int) (l6 l7 : List AV) (b5 b6 b7 : Bool) (i9 i10 : Int) (l8 l9 : List AV) (i11 i12 i13 i14 i15 : Int)  : Tr (Unit) :=
    .br (decide (((l9.length + 1) * 24) <= 140737488355328))
     (.br (decide (((l8.length + 1) * 24) <= 140737488355328))
      (.br (aA Pg F 104 [aC l5, bg i0 i1 i2])
       (.out ⟨1, [], [], [av ((ak ((fG (ay F 104 [aC l5, bg i0 i1 i2])).getD 0 .dead)).getD 0 .dead), l8 ++ [bg i0 i1 i2], l9 ++ [mO i0 i1 true]], [], [], []⟩)
       (.bad))
      (.bad))
     (.bad)
def wF (F : Tab) (i0 i1 i2 i3 : Int) (l0 l1 : List AV) (b0 b1 b2 : Bool) (i4 : Int) (l2 : List AV) (i5 : Int) (l3 l4 : List AV) (b3 b4 : Bool) (i6 : Int) (l5 : List AV) (i7 i8 : Int) (l6 l7 : List AV) (b5 b6 b7 : Bool) (i9 i10 : Int) (l8 l9 : List AV) (i11 i12 i13 i14 i15 : Int) : LO := (D6 F i0 i1 i2 i3 l0 l1 b0 b1 b2 i4 l2 i5 l3 l4 b3 b4 i6 l5 i7 i8 l6 l7 b5 b6 b7 i9 i10 l8 l9 i11 i12 i13 i14 i15).eval fun _ => LO.bad
def Qy (i0 i1 i2 i3 : Int) (l0 l1 : List AV) (b0 b1 b2 : Bool) (i4 : Int) (l2 : List AV) (i5 : Int) (l3 l4 : List AV) (b3 b4 : Bool) (i6 : Int) (l5 : List AV) (i7 i8 : Int) (l6 l7 : List AV) (b5 b6 b7 : Bool) (i9 i10 : Int) (l8 l9 : List AV) (i11 i12 i13 i14 i15 : Int) : Mm := ⟨[.var 26 (aD i3 l0 l1 b0 b1 b2 i4), .var 29 (aC l2), .var 38 (cO), .var 63 (dP i5 l3 l4 b3 false b4 i6 l5 i7 true dh i8 l6 l7 b5 b6 b7 i9 i10 l8 l9 false aY 0 0 0 i11 i12 i13 i14 i15), .var 61 (.ptr 3 [] 63 0)], [(3, [3, 5]), (2, [4]), (2, [5]), (3, [3, 4])]⟩
def IU (i0 i1 i2 i3 : Int) (l0 l1 : List AV) (b0 b1 b2 : Bool) (i4 : Int) (l2 : List AV) (i5 : Int) (l3 l4 : List AV) (b3 b4 : Bool) (i6 : Int) (l5 : List AV) (i7 i8 : Int) (l6 l7 : List AV) (b5 b6 b7 : Bool) (i9 i10 : Int) (l8 l9 : List AV) (i11 i12 i13 i14 i15 : Int) (lo : LO) : LT :=
 .br (lo.k == 1) (.done .ret (aT 1 [(0, .tuple [])] []) ⟨(Qy i0 i1 i2 i3 l0 l1 b0 b1 b2 i4 l2 i5 l3 l4 b3 b4 i6 (lo.L 0) i7 i8 l6 l7 b5 b6 b7 i9 i10 (lo.L 1) (lo.L 2) i11 i12 i13 i14 i15).rows, [(3, [3, 4]), (3, [3, 5]), (2, [4]), (2, [5])]⟩) (.fail)
def Zl (i0 i1 i2 i3 : Int) (l0 l1 : List AV) (b0 b1 b2 : Bool) (i4 : Int) (l2 : List AV) (i5 : Int) (l3 l4 : List AV) (b3 b4 : Bool) (i6 : Int) (l5 : List AV) (i7 i8 : Int) (l6 l7 : List AV) (b5 b6 b7 : Bool) (i9 i10 : Int) (l8 l9 : List AV) (i11 i12 i13 i14 i15 : Int) : List AV := [.ptr 3 [] 63 0, bg i0 i1 i2]
def Ci : ArP := ⟨[.ptr 3 [] 63 (some 0), .agg 56 [.int .i64, .int .i64, .int .u32]], [.var 26 (eH), .var 29 (.agg 28 [.slice 139 false]), .var 38 (iP), .var 63 (iC), .var 61 (.ptr 3 [] 63 (some 0))], [(3, [3, 5]), (2, [4]), (2, [5]), (3, [3, 4])]⟩
abbrev Ra {α : Type} (f : Int -> Int -> Int -> Int -> List AV -> List AV -> Bool -> Bool -> Bool -> Int -> List AV -> Int -> List AV -> List AV -> Bool -> Bool -> Int -> List AV -> Int -> Int -> List AV -> List AV -> Bool -> Bool -> Bool -> Int -> Int -> List AV -> List AV -> Int -> Int -> Int -> Int -> Int -> α) (args : List AV) (M : Mm) : α := f (aj (pA (args.getD 1 .dead) 0)) (aj (pA (args.getD 1 .dead) 1)) (aj (pA (args.getD 1 .dead) 2)) (aj (pA (vR M 0) 0)) (ak (pA (vR M 0) 1)) (ak (pA (vR M 0) 2)) (au (pA (vR M 0) 3)) (au (pA (vR M 0) 4)) (au (pA (vR M 0) 5)) (aj (pA (vR M 0) 6)) (av (pA (vR M 1) 0)) (aj (pA (pA (vR M 3) 0) 0)) (ak (pA (pA (vR M 3) 0) 1)) (ak (pA (pA (vR M 3) 0) 2)) (au (pA (pA (vR M 3) 0) 3)) (au (pA (pA (vR M 3) 0) 5)) (aj (pA (pA (vR M 3) 0) 6)) (av (pA (pA (vR M 3) 1) 0)) (aj (pA (vR M 3) 2)) (aj (pA (pA (pA (vR M 3) 3) 2) 0)) (ak (pA (pA (pA (vR M 3) 3) 2) 1)) (ak (pA (pA (pA (vR M 3) 3) 2) 2)) (au (pA (pA (pA (vR M 3) 3) 2) 3)) (au (pA (pA (pA (vR M 3) 3) 2) 4)) (au (pA (pA (pA (vR M 3) 3) 2) 5)) (aj (pA (pA (pA (vR M 3) 3) 2) 6)) (aj (pA (pA (vR M 3) 3) 3)) (av (pA (pA (vR M 3) 3) 4)) (av (pA (pA (vR M 3) 3) 5)) (aj (pA (pA (vR M 3) 4) 0)) (aj (pA (pA (vR M 3) 4) 1)) (aj (pA (pA (vR M 3) 4) 2)) (aj (pA (pA (vR M 3) 4) 3)) (aj (pA (pA (vR M 3) 4) 4))
def Ov (F : Tab) (i0 i1 i2 i3 : Int) (l0 l1 : List AV) (b0 b1 b2 : Bool) (i4 : Int) (l2 : List AV) (i5 : Int) (l3 l4 : List AV) (b3 b4 : Bool) (i6 : Int) (l5 : List AV) (i7 i8 : Int) (l6 l7 : List AV) (b5 b6 b7 : Bool) (i9 i10 : Int) (l8 l9 : List AV) (i11 i12 i13 i14 i15 : Int) : LT := IU i0 i1 i2 i3 l0 l1 b0 b1 b2 i4 l2 i5 l3 l4 b3 b4 i6 l5 i7 i8 l6 l7 b5 b6 b7 i9 i10 l8 l9 i11 i12 i13 i14 i15 (wF F i0 i1 i2 i3 l0 l1 b0 b1 b2 i4 l2 i5 l3 l4 b3 b4 i6 l5 i7 i8 l6 l7 b5 b6 b7 i9 i10 l8 l9 i11 i12 i13 i14 i15)
def MI (F : Tab) (dep : Nat) (args : List AV) (M : Mm) : Option LT := if Nat.beq dep 2 && Ci.ok args M then some (Ra (Ov F) args M) else none
def Hl (F : Tab) (i0 i1 i2 i3 : Int) (l0 l1 : List AV) (b0 b1 b2 : Bool) (i4 : Int) (l2 : List AV) (i5 : Int) (l3 l4 : List AV) (b3 b4 : Bool) (i6 : Int) (l5 : List AV) (i7 i8 : Int) (l6 l7 : List AV) (b5 b6 b7 : Bool) (i9 i10 : Int) (l8 l9 : List AV) (i11 i12 i13 i14 i15 : Int)  : Tr (Unit) :=
    .br (decide (((l9.length + 1) * 24) <= 140737488355328))
     (.br (decide (((l8.length + 1) * 24) <= 140737488355328))
      (.br (aA Pg F 104 [aC l5, bg i0 i1 i2])
       (.out ⟨1, [], [], [av ((ak ((fG (ay F 104 [aC l5, bg i0 i1 i2])).getD 0 .dead)).getD 0 .dead), l8 ++ [bg i0 i1 i2], l9 ++ [mO i0 i1 true]], [], [], []⟩)
       (.bad))
      (.bad))
     (.bad)
def Aq (F : Tab) (i0 i1 i2 i3 : Int) (l0 l1 : List AV) (b0 b1 b2 : Bool) (i4 : Int) (l2 : List AV) (i5 : Int) (l3 l4 : List AV) (b3 b4 : Bool) (i6 : Int) (l5 : List AV) (i7 i8 : Int) (l6 l7 : List AV) (b5 b6 b7 : Bool) (i9 i10 : Int) (l8 l9 : List AV) (i11 i12 i13 i14 i15 : Int) : LO := (Hl F i0 i1 i2 i3 l0 l1 b0 b1 b2 i4 l2 i5 l3 l4 b3 b4 i6 l5 i7 i8 l6 l7 b5 b6 b7 i9 i10 l8 l9 i11 i12 i13 i14 i15).eval fun _ => LO.bad
def Oq (i0 i1 i2 i3 : Int) (l0 l1 : List AV) (b0 b1 b2 : Bool) (i4 : Int) (l2 : List AV) (i5 : Int) (l3 l4 : List AV) (b3 b4 : Bool) (i6 : Int) (l5 : List AV) (i7 i8 : Int) (l6 l7 : List AV) (b5 b6 b7 : Bool) (i9 i10 : Int) (l8 l9 : List AV) (i11 i12 i13 i14 i15 : Int) : Mm := ⟨[.var 26 (aD i3 l0 l1 b0 b1 b2 i4), .var 29 (aC l2), .var 38 (cO), .var 63 (dP i5 l3 l4 b3 false b4 i6 l5 i7 true dh i8 l6 l7 b5 b6 b7 i9 i10 l8 l9 false aY 0 0 0 i11 i12 i13 i14 i15), .var 61 (.ptr 3 [] 63 0)], [(2, [4]), (2, [5]), (3, [3, 4]), (3, [3, 5])]⟩
def K5 (i0 i1 i2 i3 : Int) (l0 l1 : List AV) (b0 b1 b2 : Bool) (i4 : Int) (l2 : List AV) (i5 : Int) (l3 l4 : List AV) (b3 b4 : Bool) (i6 : Int) (l5 : List AV) (i7 i8 : Int) (l6 l7 : List AV) (b5 b6 b7 : Bool) (i9 i10 : Int) (l8 l9 : List AV) (i11 i12 i13 i14 i15 : Int) (lo : LO) : LT :=
 .br (lo.k == 1) (.done .ret (aT 1 [(0, .tuple [])] []) ⟨(Oq i0 i1 i2 i3 l0 l1 b0 b1 b2 i4 l2 i5 l3 l4 b3 b4 i6 (lo.L 0) i7 i8 l6 l7 b5 b6 b7 i9 i10 (lo.L 1) (lo.L 2) i11 i12 i13 i14 i15).rows, [(3, [3, 4]), (3, [3, 5]), (2, [4]), (2, [5])]⟩) (.fail)
def aaV (i0 i1 i2 i3 : Int) (l0 l1 : List AV) (b0 b1 b2 : Bool) (i4 : Int) (l2 : List AV) (i5 : Int) (l3 l4 : List AV) (b3 b4 : Bool) (i6 : Int) (l5 : List AV) (i7 i8 : Int) (l6 l7 : List AV) (b5 b6 b7 : Bool) (i9 i10 : Int) (l8 l9 : List AV) (i11 i12 i13 i14 i15 : Int) : List AV := [.ptr 3 [] 63 0, bg i0 i1 i2]
def BF : ArP := ⟨[.ptr 3 [] 63 (some 0), .agg 56 [.int .i64, .int .i64, .int .u32]], [.var 26 (eH), .var 29 (.agg 28 [.slice 139 false]), .var 38 (iP), .var 63 (iC), .var 61 (.ptr 3 [] 63 (some 0))], [(2, [4]), (2, [5]), (3, [3, 4]), (3, [3, 5])]⟩
abbrev WQ {α : Type} (f : Int -> Int -> Int -> Int -> List AV -> List AV -> Bool -> Bool -> Bool -> Int -> List AV -> Int -> List AV -> List AV -> Bool -> Bool -> Int -> List AV -> Int -> Int -> List AV -> List AV -> Bool -> Bool -> Bool -> Int -> Int -> List AV -> List AV -> Int -> Int -> Int -> Int -> Int -> α) (args : List AV) (M : Mm) : α := f (aj (pA (args.getD 1 .dead) 0)) (aj (pA (args.getD 1 .dead) 1)) (aj (pA (args.getD 1 .dead) 2)) (aj (pA (vR M 0) 0)) (ak (pA (vR M 0) 1)) (ak (pA (vR M 0) 2)) (au (pA (vR M 0) 3)) (au (pA (vR M 0) 4)) (au (pA (vR M 0) 5)) (aj (pA (vR M 0) 6)) (av (pA (vR M 1) 0)) (aj (pA (pA (vR M 3) 0) 0)) (ak (pA (pA (vR M 3) 0) 1)) (ak (pA (pA (vR M 3) 0) 2)) (au (pA (pA (vR M 3) 0) 3)) (au (pA (pA (vR M 3) 0) 5)) (aj (pA (pA (vR M 3) 0) 6)) (av (pA (pA (vR M 3) 1) 0)) (aj (pA (vR M 3) 2)) (aj (pA (pA (pA (vR M 3) 3) 2) 0)) (ak (pA (pA (pA (vR M 3) 3) 2) 1)) (ak (pA (pA (pA (vR M 3) 3) 2) 2)) (au (pA (pA (pA (vR M 3) 3) 2) 3)) (au (pA (pA (pA (vR M 3) 3) 2) 4)) (au (pA (pA (pA (vR M 3) 3) 2) 5)) (aj (pA (pA (pA (vR M 3) 3) 2) 6)) (aj (pA (pA (vR M 3) 3) 3)) (av (pA (pA (vR M 3) 3) 4)) (av (pA (pA (vR M 3) 3) 5)) (aj (pA (pA (vR M 3) 4) 0)) (aj (pA (pA (vR M 3) 4) 1)) (aj (pA (pA (vR M 3) 4) 2)) (aj (pA (pA (vR M 3) 4) 3)) (aj (pA (pA (vR M 3) 4) 4))
def Ip (F : Tab) (i0 i1 i2 i3 : Int) (l0 l1 : List AV) (b0 b1 b2 : Bool) (i4 : Int) (l2 : List AV) (i5 : Int) (l3 l4 : List AV) (b3 b4 : Bool) (i6 : Int) (l5 : List AV) (i7 i8 : Int) (l6 l7 : List AV) (b5 b6 b7 : Bool) (i9 i10 : Int) (l8 l9 : List AV) (i11 i12 i13 i14 i15 : Int) : LT := K5 i0 i1 i2 i3 l0 l1 b0 b1 b2 i4 l2 i5 l3 l4 b3 b4 i6 l5 i7 i8 l6 l7 b5 b6 b7 i9 i10 l8 l9 i11 i12 i13 i14 i15 (Aq F i0 i1 i2 i3 l0 l1 b0 b1 b2 i4 l2 i5 l3 l4 b3 b4 i6 l5 i7 i8 l6 l7 b5 b6 b7 i9 i10 l8 l9 i11 i12 i13 i14 i15)
def PO (F : Tab) (dep : Nat) (args : List AV) (M : Mm) : Option LT := if Nat.beq dep 2 && BF.ok args M then some (WQ (Ip F) args M) else none
def Gd (F : Tab) (i0 i1 i2 : Int) (l0 l1 : List AV) (b0 b1 b2 : Bool) (i3 : Int) (l2 : List AV) (i4 : Int) (l3 l4 : List AV) (b3 b4 : Bool) (i5 : Int) (l5 : List AV) (i6 i7 : Int) (l6 l7 : List AV) (b5 b6 b7 : Bool) (i8 i9 : Int) (l8 l9 : List AV) (i10 i11 i12 i13 i14 : Int)  : Tr (Unit) :=
    let x0 : LO := Cn F (IntKind.u32.wrap ((aj (l3.getD i12.toNat .dead)) + (IntKind.u32.wrap i14))) i0 i2 l0 l1 b0 b1 b2 i3 l2 i4 l3 l4 b3 b4 i5 l5 i6 i7 l6 l7 b5 b6 b7 i8 i9 l8 l9 i10 i11 i12 i13 i14;
    let x1 : Int := x0.i.getD 0 0;
    let x2 : List AV := x0.l.getD 0 [];
    let x3 : List AV := x0.l.getD 1 [];
    let x4 : List AV := x0.l.getD 2 [];
    let x5 : LO := wM F x1 i1 i2 l0 l1 b0 b1 b2 i3 l2 i4 l3 l4 b3 b4 i5 x2 i6 i7 l6 l7 b5 b6 b7 i8 i9 x3 x4 i10 i11 i12 i13 i14;
    let x6 : List AV := x5.l.getD 0 [];
    let x7 : List AV := l3.set i11.toNat (.int .u32 (x5.i.getD 0 0));
    let x8 : LO := wF F x1 i1 (aj (l3.getD i11.toNat .dead)) i2 l0 l1 b0 b1 b2 i3 l2 i4 x7 l4 b3 b4 i5 x2 i6 i7 l6 l7 b5 b6 b7 i8 i9 x3 x6 i10 i11 i12 i13 i14;
    let x9 : LO := wF F x1 i1 (aj (l3.getD i11.toNat .dead)) i2 l0 l1 b0 b1 b2 i3 l2 i4 l3 l4 b3 b4 i5 x2 i6 i7 l6 l7 b5 b6 b7 i8 i9 x3 x6 i10 i11 i12 i13 i14;
    let x10 : LO := Aq F x1 i1 (aj (l3.getD i11.toNat .dead)) i2 l0 l1 b0 b1 b2 i3 l2 i4 l3 l4 b3 b4 i5 x2 i6 i7 l6 l7 b5 b6 b7 i8 i9 x3 x4 i10 i11 i12 i13 i14;
    .br (cond (aM i12 16) true false)
     (.br (!((IntKind.u32.wrap i1) == 0))
      (.br (((IntKind.u32.wrap ((aj (l3.getD i12.toNat .dead)) + (IntKind.u32.wrap i14))).tmod (IntKind.u32.wrap i1)) != 0)
       (.out ⟨1, [IntKind.u32.wrap ((aj (l3.getD i12.toNat .dead)) + (IntKind.u32.wrap i14))], [], [], [], [], []⟩)
       (.br (aM i11 16)
        (.br (x0.k == 1)
         (.out ⟨5, [x1, x0.i.getD 1 0, x0.i.getD 2 0, IntKind.u32.wrap ((aj (l3.getD i12.toNat .dead)) + (IntKind.u32.wrap i14))], [], [x2, x3, x4, x0.l.getD 3 [], x0.l.getD 4 []], [], [], []⟩)
         (.br (x0.k == 2)
          (.br ((pV (.int .i64 i11) (.int .i64 i11)) && ((pV (l3.getD i11.toNat .dead) (l3.getD i11.toNat .dead)) && true))
           (.br (i0 != 2)
            (.br (x5.k == 1)
             (.br (i11 != 0)
              (.br (cond (aM i11 16) true false)
               (.br (i0 != 1)
                (.br (x8.k == 1)
                 (.out ⟨2, [], [], [x7, x8.l.getD 0 [], x8.l.getD 1 [], x8.l.getD 2 []], [], [], []⟩)
                 (.bad))
                (.out ⟨3, [], [], [x7, x2, x3, x6], [], [], []⟩))
               (.bad))
              (.br (i0 != 1)
               (.br (x9.k == 1)
                (.out ⟨2, [], [], [l3, x9.l.getD 0 [], x9.l.getD 1 [], x9.l.getD 2 []], [], [], []⟩)
                (.bad))
               (.out ⟨3, [], [], [l3, x2, x3, x6], [], [], []⟩)))
             (.bad))
            (.br (i0 != 1)
             (.br (x10.k == 1)
              (.out ⟨2, [], [], [l3, x10.l.getD 0 [], x10.l.getD 1 [], x10.l.getD 2 []], [], [], []⟩)
              (.bad))
             (.out ⟨4, [], [], [x2, x3, x4], [], [], []⟩)))
           (.bad))
          (.bad)))
        (.bad)))
      (.bad))
     (.bad)
def Cy (F : Tab) (i0 i1 i2 : Int) (l0 l1 : List AV) (b0 b1 b2 : Bool) (i3 : Int) (l2 : List AV) (i4 : Int) (l3 l4 : List AV) (b3 b4 : Bool) (i5 : Int) (l5 : List AV) (i6 i7 : Int) (l6 l7 : List AV) (b5 b6 b7 : Bool) (i8 i9 : Int) (l8 l9 : List AV) (i10 i11 i12 i13 i14 : Int) : LO := (Gd F i0 i1 i2 l0 l1 b0 b1 b2 i3 l2 i4 l3 l4 b3 b4 i5 l5 i6 i7 l6 l7 b5 b6 b7 i8 i9 l8 l9 i10 i11 i12 i13 i14).eval fun _ => LO.bad
def yI (i0 i1 i2 : Int) (l0 l1 : List AV) (b0 b1 b2 : Bool) (i3 : Int) (l2 : List AV) (i4 : Int) (l3 l4 : List AV) (b3 b4 : Bool) (i5 : Int) (l5 : List AV) (i6 i7 : Int) (l6 l7 : List AV) (b5 b6 b7 : Bool) (i8 i9 : Int) (l8 l9 : List AV) (i10 i11 i12 i13 i14 : Int) : Mm := ⟨[.var 26 (aD i2 l0 l1 b0 b1 b2 i3), .var 29 (aC l2), .var 38 (cO), .var 63 (dP i4 l3 l4 b3 false b4 i5 l5 i6 true dh i7 l6 l7 b5 b6 b7 i8 i9 l8 l9 false aY 0 0 0 i10 i11 i12 i13 i14), .var 61 (.ptr 3 [] 63 0)], [(3, [3, 5]), (2, [4]), (2, [5]), (3, [3, 4])]⟩
def Jy (i0 i1 i2 : Int) (l0 l1 : List AV) (b0 b1 b2 : Bool) (i3 : Int) (l2 : List AV) (i4 : Int) (l3 l4 : List AV) (b3 b4 : Bool) (i5 : Int) (l5 : List AV) (i6 i7 : Int) (l6 l7 : List AV) (b5 b6 b7 : Bool) (i8 i9 : Int) (l8 l9 : List AV) (i10 i11 i12 i13 i14 : Int) (lo : LO) : LT :=
 .br (lo.k == 1) (.done (.panic (.iface 89 (dM 3 (lo.I 0) i7))) (aT 0 [] []) (yI i0 i1 i2 l0 l1 b0 b1 b2 i3 l2 i4 l3 l4 b3 b4 i5 l5 i6 i7 l6 l7 b5 b6 b7 i8 i9 l8 l9 i10 i11 i12 i13 i14)) (.br (lo.k == 2) (.done .ret (aT 1 [(0, .tuple [])] []) ⟨(yI i0 i1 i2 l0 l1 b0 b1 b2 i3 l2 i4 (lo.L 0) l4 b3 b4 i5 (lo.L 1) i6 i7 l6 l7 b5 b6 b7 i8 i9 (lo.L 2) (lo.L 3) i10 i11 i12 i13 i14).rows, [(3, [3, 4]), (3, [3, 5]), (2, [4]), (2, [5])]⟩) (.br (lo.k == 3) (.done .ret (aT 1 [(0, .tuple [])] []) (yI i0 i1 i2 l0 l1 b0 b1 b2 i3 l2 i4 (lo.L 0) l4 b3 b4 i5 (lo.L 1) i6 i7 l6 l7 b5 b6 b7 i8 i9 (lo.L 2) (lo.L 3) i10 i11 i12 i13 i14)) (.br (lo.k == 4) (.done .ret (aT 1 [(0, .tuple [])] []) ⟨(yI i0 i1 i2 l0 l1 b0 b1 b2 i3 l2 i4 l3 l4 b3 b4 i5 (lo.L 0) i6 i7 l6 l7 b5 b6 b7 i8 i9 (lo.L 1) (lo.L 2) i10 i11 i12 i13 i14).rows, [(2, [4]), (2, [5]), (3, [3, 4]), (3, [3, 5])]⟩) (.br (lo.k == 5) (.done (.panic (.iface 89 (dM (lo.I 2) (lo.I 3) i7))) (aT 0 [] []) ⟨[.var 26 (aD i2 l0 l1 b0 b1 b2 i3), .var 29 (aC l2), .var 38 (cO), .var 63 (dP i4 l3 l4 b3 false b4 i5 (lo.L 0) i6 true dh i7 l6 l7 b5 b6 b7 i8 i9 (lo.L 1) (lo.L 2) false aY 0 0 0 i10 i11 i12 i13 i14), .var 61 (.ptr 3 [] 63 0), .var 118 (aW (lo.I 0) (lo.I 1) (lo.L 3) (lo.L 4))], [(2, [4]), (2, [5]), (3, [3, 4]), (3, [3, 5])]⟩) (.fail)))))
def YE (i0 i1 i2 : Int) (l0 l1 : List AV) (b0 b1 b2 : Bool) (i3 : Int) (l2 : List AV) (i4 : Int) (l3 l4 : List AV) (b3 b4 : Bool) (i5 : Int) (l5 : List AV) (i6 i7 : Int) (l6 l7 : List AV) (b5 b6 b7 : Bool) (i8 i9 : Int) (l8 l9 : List AV) (i10 i11 i12 i13 i14 : Int) : List AV := [.ptr 3 [] 63 0, .int .i64 i0, .int .i64 i1]
def zw : ArP := ⟨[.ptr 3 [] 63 (some 0), .int .i64, .int .i64], [.var 26 (eH), .var 29 (.agg 28 [.slice 139 false]), .var 38 (iP), .var 63 (iC), .var 61 (.ptr 3 [] 63 (some 0))], [(3, [3, 5]), (2, [4]), (2, [5]), (3, [3, 4])]⟩
abbrev YL {α : Type} (f : Int -> Int -> Int -> List AV -> List AV -> Bool -> Bool -> Bool -> Int -> List AV -> Int -> List AV -> List AV -> Bool -> Bool -> Int -> List AV -> Int -> Int -> List AV -> List AV -> Bool -> Bool -> Bool -> Int -> Int -> List AV -> List AV -> Int -> Int -> Int -> Int -> Int -> α) (args : List AV) (M : Mm) : α := f (aj (args.getD 1 .dead)) (aj (args.getD 2 .dead)) (aj (pA (vR M 0) 0)) (ak (pA (vR M 0) 1)) (ak (pA (vR M 0) 2)) (au (pA (vR M 0) 3)) (au (pA (vR M 0) 4)) (au (pA (vR M 0) 5)) (aj (pA (vR M 0) 6)) (av (pA (vR M 1) 0)) (aj (pA (pA (vR M 3) 0) 0)) (ak (pA (pA (vR M 3) 0) 1)) (ak (pA (pA (vR M 3) 0) 2)) (au (pA (pA (vR M 3) 0) 3)) (au (pA (pA (vR M 3) 0) 5)) (aj (pA (pA (vR M 3) 0) 6)) (av (pA (pA (vR M 3) 1) 0)) (aj (pA (vR M 3) 2)) (aj (pA (pA (pA (vR M 3) 3) 2) 0)) (ak (pA (pA (pA (vR M 3) 3) 2) 1)) (ak (pA (pA (pA (vR M 3) 3) 2) 2)) (au (pA (pA (pA (vR M 3) 3) 2) 3)) (au (pA (pA (pA (vR M 3) 3) 2) 4)) (au (pA (pA (pA (vR M 3) 3) 2) 5)) (aj (pA (pA (pA (vR M 3) 3) 2) 6)) (aj (pA (pA (vR M 3) 3) 3)) (av (pA (pA (vR M 3) 3) 4)) (av (pA (pA (vR M 3) 3) 5)) (aj (pA (pA (vR M 3) 4) 0)) (aj (pA (pA (vR M 3) 4) 1)) (aj (pA (pA (vR M 3) 4) 2)) (aj (pA (pA (vR M 3) 4) 3)) (aj (pA (pA (vR M 3) 4) 4))
def LA (F : Tab) (i0 i1 i2 : Int) (l0 l1 : List AV) (b0 b1 b2 : Bool) (i3 : Int) (l2 : List AV) (i4 : Int) (l3 l4 : List AV) (b3 b4 : Bool) (i5 : Int) (l5 : List AV) (i6 i7 : Int) (l6 l7 : List AV) (b5 b6 b7 : Bool) (i8 i9 : Int) (l8 l9 : List AV) (i10 i11 i12 i13 i14 : Int) : LT := Jy i0 i1 i2 l0 l1 b0 b1 b2 i3 l2 i4 l3 l4 b3 b4 i5 l5 i6 i7 l6 l7 b5 b6 b7 i8 i9 l8 l9 i10 i11 i12 i13 i14 (Cy F i0 i1 i2 l0 l1 b0 b1 b2 i3 l2 i4 l3 l4 b3 b4 i5 l5 i6 i7 l6 l7 b5 b6 b7 i8 i9 l8 l9 i10 i11 i12 i13 i14)
def Qn (F : Tab) (dep : Nat) (args : List AV) (M : Mm) : Option LT := if Nat.beq dep 3 && zw.ok args M then some (YL (LA F) args M) else none
def FL (F : Tab) (i0 : Int) (l0 l1 : List AV) (b0 b1 b2 : Bool) (i1 : Int) (l2 : List AV) (i2 : Int) (l3 l4 : List AV) (b3 b4 : Bool) (i3 : Int) (l5 : List AV) (i4 i5 : Int) (l6 l7 : List AV) (b5 b6 b7 : Bool) (i6 i7 : Int) (l8 l9 : List AV) (i8 i9 i10 i11 i12 : Int)  : Tr (Unit) :=
    .br (cond (aM i9 16) (cond (aM i10 16) (cond (aA Pg F 105 [.int .i64 i8, .int .u32 (aj (l3.getD i9.toNat .dead)), .int .u32 (aj (l3.getD i10.toNat .dead))]) true false) false) false)
     (.br (au (ay F 105 [.int .i64 i8, .int .u32 (aj (l3.getD i9.toNat .dead)), .int .u32 (aj (l3.getD i10.toNat .dead))]))
      (.br (aA Pg F 106 [.int .u32 i5, bE i8 i9 i10 i11 i12])
       (.out ⟨1, [aj ((fG (ay F 106 [.int .u32 i5, bE i8 i9 i10 i11 i12])).getD 0 .dead)], [], [], [], [], []⟩)
       (.bad))
      (.out ⟨1, [i2], [], [], [], [], []⟩))
     (.bad)
def CS (F : Tab) (i0 : Int) (l0 l1 : List AV) (b0 b1 b2 : Bool) (i1 : Int) (l2 : List AV) (i2 : Int) (l3 l4 : List AV) (b3 b4 : Bool) (i3 : Int) (l5 : List AV) (i4 i5 : Int) (l6 l7 : List AV) (b5 b6 b7 : Bool) (i6 i7 : Int) (l8 l9 : List AV) (i8 i9 i10 i11 i12 : Int) : LO := (FL F i0 l0 l1 b0 b1 b2 i1 l2 i2 l3 l4 b3 b4 i3 l5 i4 i5 l6 l7 b5 b6 b7 i6 i7 l8 l9 i8 i9 i10 i11 i12).eval fun _ => LO.bad
def Lv (i0 : Int) (l0 l1 : List AV) (b0 b1 b2 : Bool) (i1 : Int) (l2 : List AV) (i2 : Int) (l3 l4 : List AV) (b3 b4 : Bool) (i3 : Int) (l5 : List AV) (i4 i5 : Int) (l6 l7 : List AV) (b5 b6 b7 : Bool) (i6 i7 : Int) (l8 l9 : List AV) (i8 i9 i10 i11 i12 : Int) : Mm := ⟨[.var 26 (aD i0 l0 l1 b0 b1 b2 i1), .var 29 (aC l2), .var 38 (cO), .var 63 (dP i2 l3 l4 b3 false b4 i3 l5 i4 true dh i5 l6 l7 b5 b6 b7 i6 i7 l8 l9 false aY 0 0 0 i8 i9 i10 i11 i12), .var 61 (.ptr 3 [] 63 0), jX], [(3, [3, 5]), (2, [4]), (2, [5]), (3, [3, 4])]⟩
def Oz (i0 : Int) (l0 l1 : List AV) (b0 b1 b2 : Bool) (i1 : Int) (l2 : List AV) (i2 : Int) (l3 l4 : List AV) (b3 b4 : Bool) (i3 : Int) (l5 : List AV) (i4 i5 : Int) (l6 l7 : List AV) (b5 b6 b7 : Bool) (i6 i7 : Int) (l8 l9 : List AV) (i8 i9 i10 i11 i12 : Int) (lo : LO) : LT :=
 .br (lo.k == 1) (.done .ret (aT 1 [(0, .tuple [])] []) (Lv i0 l0 l1 b0 b1 b2 i1 l2 (lo.I 0) l3 l4 b3 b4 i3 l5 i4 i5 l6 l7 b5 b6 b7 i6 i7 l8 l9 i8 i9 i10 i11 i12)) (.fail)
def aa6 (i0 : Int) (l0 l1 : List AV) (b0 b1 b2 : Bool) (i1 : Int) (l2 : List AV) (i2 : Int) (l3 l4 : List AV) (b3 b4 : Bool) (i3 : Int) (l5 : List AV) (i4 i5 : Int) (l6 l7 : List AV) (b5 b6 b7 : Bool) (i6 i7 : Int) (l8 l9 : List AV) (i8 i9 i10 i11 i12 : Int) : List AV := [.ptr 3 [] 63 0]
def Du : ArP := ⟨[.ptr 3 [] 63 (some 0)], [.var 26 (eH), .var 29 (.agg 28 [.slice 139 false]), .var 38 (iP), .var 63 (iC), .var 61 (.ptr 3 [] 63 (some 0)), sZ], [(3, [3, 5]), (2, [4]), (2, [5]), (3, [3, 4])]⟩
abbrev aby {α : Type} (f : Int -> List AV -> List AV -> Bool -> Bool -> Bool -> Int -> List AV -> Int -> List AV -> List AV -> Bool -> Bool -> Int -> List AV -> Int -> Int -> List AV -> List AV -> Bool -> Bool -> Bool -> Int -> Int -> List AV -> List AV -> Int -> Int -> Int -> Int -> Int -> α) (args : List AV) (M : Mm) : α := f (aj (pA (vR M 0) 0)) (ak (pA (vR M 0) 1)) (ak (pA (vR M 0) 2)) (au (pA (vR M 0) 3)) (au (pA (vR M 0) 4)) (au (pA (vR M 0) 5)) (aj (pA (vR M 0) 6)) (av (pA (vR M 1) 0)) (aj (pA (pA (vR M 3) 0) 0)) (ak (pA (pA (vR M 3) 0) 1)) (ak (pA (pA (vR M 3) 0) 2)) (au (pA (pA (vR M 3) 0) 3)) (au (pA (pA (vR M 3) 0) 5)) (aj (pA (pA (vR M 3) 0) 6)) (av (pA (pA (vR M 3) 1) 0)) (aj (pA (vR M 3) 2)) (aj (pA (pA (pA (vR M 3) 3) 2) 0)) (ak (pA (pA (pA (vR M 3) 3) 2) 1)) (ak (pA (pA (pA (vR M 3) 3) 2) 2)) (au (pA (pA (pA (vR M 3) 3) 2) 3)) (au (pA (pA (pA (vR M 3) 3) 2) 4)) (au (pA (pA (pA (vR M 3) 3) 2) 5)) (aj (pA (pA (pA (vR M 3) 3) 2) 6)) (aj (pA (pA (vR M 3) 3) 3)) (av (pA (pA (vR M 3) 3) 4)) (av (pA (pA (vR M 3) 3) 5)) (aj (pA (pA (vR M 3) 4) 0)) (aj (pA (pA (vR M 3) 4) 1)) (aj (pA (pA (vR M 3) 4) 2)) (aj (pA (pA (vR M 3) 4) 3)) (aj (pA (pA (vR M 3) 4) 4))
def QF (F : Tab) (i0 : Int) (l0 l1 : List AV) (b0 b1 b2 : Bool) (i1 : Int) (l2 : List AV) (i2 : Int) (l3 l4 : List AV) (b3 b4 : Bool) (i3 : Int) (l5 : List AV) (i4 i5 : Int) (l6 l7 : List AV) (b5 b6 b7 : Bool) (i6 i7 : Int) (l8 l9 : List AV) (i8 i9 i10 i11 i12 : Int) : LT := Oz i0 l0 l1 b0 b1 b2 i1 l2 i2 l3 l4 b3 b4 i3 l5 i4 i5 l6 l7 b5 b6 b7 i6 i7 l8 l9 i8 i9 i10 i11 i12 (CS F i0 l0 l1 b0 b1 b2 i1 l2 i2 l3 l4 b3 b4 i3 l5 i4 i5 l6 l7 b5 b6 b7 i6 i7 l8 l9 i8 i9 i10 i11 i12)
def JF (F : Tab) (dep : Nat) (args : List AV) (M : Mm) : Option LT := if Nat.beq dep 3 && Du.ok args M then some (aby (QF F) args M) else none
def Gv (F : Tab) (i0 : Int) (l0 l1 : List AV) (b0 b1 b2 : Bool) (i1 : Int) (l2 : List AV) (i2 : Int) (l3 l4 : List AV) (b3 b4 : Bool) (i3 : Int) (l5 : List AV) (i4 i5 : Int) (l6 l7 : List AV) (b5 b6 b7 : Bool) (i6 i7 : Int) (l8 l9 : List AV) (i8 i9 i10 i11 i12 : Int)  : Tr (Unit) :=
    let x0 : List AV := fG (ay F 106 [.int .u32 i5, bE i8 i9 i10 i11 i12]);
    let x1 : Int := aj (x0.getD 0 .dead);
    .br (cond (aA Pg F 106 [.int .u32 i5, bE i8 i9 i10 i11 i12]) true false)
     (.br (!(au (x0.getD 1 .dead)))
      (.br (cond (aM i10 16) true false)
       (.br (i9 != 0)
        (.br (cond (aM i9 16) true false)
         (.out ⟨1, [IntKind.u32.wrap ((aj (l3.getD i10.toNat .dead)) + (IntKind.u32.wrap i12))], [], [l3.set i9.toNat (.int .u32 (IntKind.u32.wrap (i5 + 4)))], [], [], []⟩)
         (.bad))
        (.out ⟨1, [IntKind.u32.wrap ((aj (l3.getD i10.toNat .dead)) + (IntKind.u32.wrap i12))], [], [l3], [], [], []⟩))
       (.bad))
      (.br (i9 != 0)
       (.br (cond (aM i9 16) true false)
        (.out ⟨1, [x1], [], [l3.set i9.toNat (.int .u32 (IntKind.u32.wrap (i5 + 4)))], [], [], []⟩)
        (.bad))
       (.out ⟨1, [x1], [], [l3], [], [], []⟩)))
     (.bad)
def Ay (F : Tab) (i0 : Int) (l0 l1 : List AV) (b0 b1 b2 : Bool) (i1 : Int) (l2 : List AV) (i2 : Int) (l3 l4 : List AV) (b3 b4 : Bool) (i3 : Int) (l5 : List AV) (i4 i5 : Int) (l6 l7 : List AV) (b5 b6 b7 : Bool) (i6 i7 : Int) (l8 l9 : List AV) (i8 i9 i10 i11 i12 : Int) : LO := (Gv F i0 l0 l1 b0 b1 b2 i1 l2 i2 l3 l4 b3 b4 i3 l5 i4 i5 l6 l7 b5 b6 b7 i6 i7 l8 l9 i8 i9 i10 i11 i12).eval fun _ => LO.bad
def MW (i0 : Int) (l0 l1 : List AV) (b0 b1 b2 : Bool) (i1 : Int) (l2 : List AV) (i2 : Int) (l3 l4 : List AV) (b3 b4 : Bool) (i3 : Int) (l5 : List AV) (i4 i5 : Int) (l6 l7 : List AV) (b5 b6 b7 : Bool) (i6 i7 : Int) (l8 l9 : List AV) (i8 i9 i10 i11 i12 : Int) : Mm := ⟨[.var 26 (aD i0 l0 l1 b0 b1 b2 i1), .var 29 (aC l2), .var 38 (cO), .var 63 (dP i2 l3 l4 b3 false b4 i3 l5 i4 true dh i5 l6 l7 b5 b6 b7 i6 i7 l8 l9 false aY 0 0 0 i8 i9 i10 i11 i12), .var 61 (.ptr 3 [] 63 0), jX], [(3, [3, 5]), (2, [4]), (2, [5]), (3, [3, 4])]⟩
def KD (i0 : Int) (l0 l1 : List AV) (b0 b1 b2 : Bool) (i1 : Int) (l2 : List AV) (i2 : Int) (l3 l4 : List AV) (b3 b4 : Bool) (i3 : Int) (l5 : List AV) (i4 i5 : Int) (l6 l7 : List AV) (b5 b6 b7 : Bool) (i6 i7 : Int) (l8 l9 : List AV) (i8 i9 i10 i11 i12 : Int) (lo : LO) : LT :=
 .br (lo.k == 1) (.done .ret (aT 1 [(0, .tuple [])] []) (MW i0 l0 l1 b0 b1 b2 i1 l2 (lo.I 0) (lo.L 0) l4 b3 b4 i3 l5 i4 i5 l6 l7 b5 b6 b7 i6 i7 l8 l9 i8 i9 i10 i11 i12)) (.fail)
def aaI (i0 : Int) (l0 l1 : List AV) (b0 b1 b2 : Bool) (i1 : Int) (l2 : List AV) (i2 : Int) (l3 l4 : List AV) (b3 b4 : Bool) (i3 : Int) (l5 : List AV) (i4 i5 : Int) (l6 l7 : List AV) (b5 b6 b7 : Bool) (i6 i7 : Int) (l8 l9 : List AV) (i8 i9 i10 i11 i12 : Int) : List AV := [.ptr 3 [] 63 0]
def Bd : ArP := ⟨[.ptr 3 [] 63 (some 0)], [.var 26 (eH), .var 29 (.agg 28 [.slice 139 false]), .var 38 (iP), .var 63 (iC), .var 61 (.ptr 3 [] 63 (some 0)), sZ], [(3, [3, 5]), (2, [4]), (2, [5]), (3, [3, 4])]⟩
abbrev Vz {α : Type} (f : Int -> List AV -> List AV -> Bool -> Bool -> Bool -> Int -> List AV -> Int -> List AV -> List AV -> Bool -> Bool -> Int -> List AV -> Int -> Int -> List AV -> List AV -> Bool -> Bool -> Bool -> Int -> Int -> List AV -> List AV -> Int -> Int -> Int -> Int -> Int -> α) (args : List AV) (M : Mm) : α := f (aj (pA (vR M 0) 0)) (ak (pA (vR M 0) 1)) (ak (pA (vR M 0) 2)) (au (pA (vR M 0) 3)) (au (pA (vR M 0) 4)) (au (pA (vR M 0) 5)) (aj (pA (vR M 0) 6)) (av (pA (vR M 1) 0)) (aj (pA (pA (vR M 3) 0) 0)) (ak (pA (pA (vR M 3) 0) 1)) (ak (pA (pA (vR M 3) 0) 2)) (au (pA (pA (vR M 3) 0) 3)) (au (pA (pA (vR M 3) 0) 5)) (aj (pA (pA (vR M 3) 0) 6)) (av (pA (pA (vR M 3) 1) 0)) (aj (pA (vR M 3) 2)) (aj (pA (pA (pA (vR M 3) 3) 2) 0)) (ak (pA (pA (pA (vR M 3) 3) 2) 1)) (ak (pA (pA (pA (vR M 3) 3) 2) 2)) (au (pA (pA (pA (vR M 3) 3) 2) 3)) (au (pA (pA (pA (vR M 3) 3) 2) 4)) (au (pA (pA (pA (vR M 3) 3) 2) 5)) (aj (pA (pA (pA (vR M 3) 3) 2) 6)) (aj (pA (pA (vR M 3) 3) 3)) (av (pA (pA (vR M 3) 3) 4)) (av (pA (pA (vR M 3) 3) 5)) (aj (pA (pA (vR M 3) 4) 0)) (aj (pA (pA (vR M 3) 4) 1)) (aj (pA (pA (vR M 3) 4) 2)) (aj (pA (pA (vR M 3) 4) 3)) (aj (pA (pA (vR M 3) 4) 4))
def Mf (F : Tab) (i0 : Int) (l0 l1 : List AV) (b0 b1 b2 : Bool) (i1 : Int) (l2 : List AV) (i2 : Int) (l3 l4 : List AV) (b3 b4 : Bool) (i3 : Int) (l5 : List AV) (i4 i5 : Int) (l6 l7 : List AV) (b5 b6 b7 : Bool) (i6 i7 : Int) (l8 l9 : List AV) (i8 i9 i10 i11 i12 : Int) : LT := KD i0 l0 l1 b0 b1 b2 i1 l2 i2 l3 l4 b3 b4 i3 l5 i4 i5 l6 l7 b5 b6 b7 i6 i7 l8 l9 i8 i9 i10 i11 i12 (Ay F i0 l0 l1 b0 b1 b2 i1 l2 i2 l3 l4 b3 b4 i3 l5 i4 i5 l6 l7 b5 b6 b7 i6 i7 l8 l9 i8 i9 i10 i11 i12)
def NK (F : Tab) (dep : Nat) (args : List AV) (M : Mm) : Option LT := if Nat.beq dep 3 && Bd.ok args M then some (Vz (Mf F) args M) else none
def Gj (F : Tab) (i0 : Int) (l0 l1 : List AV) (b0 b1 b2 : Bool) (i1 : Int) (l2 : List AV) (i2 : Int) (l3 l4 : List AV) (b3 b4 : Bool) (i3 : Int) (l5 : List AV) (i4 i5 : Int) (l6 l7 : List AV) (b5 b6 b7 : Bool) (i6 i7 : Int) (l8 l9 : List AV) (i8 i9 i10 i11 i12 : Int)  : Tr (Unit) :=
    let x0 : List AV := fG (ay F 107 [aD i2 l3 l4 b3 false b4 i3, .int .i64 i12, .int .u32 i4]);
    let x1 : List AV := l3.set i9.toNat (.int .u32 (aj (x0.getD 0 .dead)));
    let x2 : Bool := (aj (x0.getD 1 .dead)) != 0;
    let x3 : List AV := fG (ay F 108 [aD i2 l3 l4 b3 false b4 i3, .int .i64 i12, .int .u32 (aj (l3.getD i9.toNat .dead))]);
    let x4 : List AV := ak (x3.getD 0 .dead);
    let x5 : Int := aj (x4.getD 0 .dead);
    let x6 : List AV := ak (x4.getD 1 .dead);
    let x7 : List AV := ak (x4.getD 2 .dead);
    let x8 : Bool := au (x4.getD 3 .dead);
    let x9 : Bool := au (x4.getD 4 .dead);
    let x10 : Bool := au (x4.getD 5 .dead);
    let x11 : Int := aj (x4.getD 6 .dead);
    .br (i8 == 42)
     (.br (cond (aA Pg F 107 [aD i2 l3 l4 b3 false b4 i3, .int .i64 i12, .int .u32 i4]) true false)
      (.br (i9 != 0)
       (.br (cond (aM i9 16) true false)
        (.br x2
         (.out ⟨1, [i2, i3], [b3, false, b4], [x1, l4], [], [], []⟩)
         (.out ⟨2, [i2, i3], [b3, false, b4], [x1, l4], [], [], []⟩))
        (.bad))
       (.br x2
        (.out ⟨1, [i2, i3], [b3, false, b4], [l3, l4], [], [], []⟩)
        (.out ⟨2, [i2, i3], [b3, false, b4], [l3, l4], [], [], []⟩)))
      (.bad))
     (.br (aM i9 16)
      (.br (aA Pg F 108 [aD i2 l3 l4 b3 false b4 i3, .int .i64 i12, .int .u32 (aj (l3.getD i9.toNat .dead))])
       (.br ((aj (x3.getD 1 .dead)) != 0)
        (.out ⟨1, [x5, x11], [x8, x9, x10], [x6, x7], [], [], []⟩)
        (.out ⟨2, [x5, x11], [x8, x9, x10], [x6, x7], [], [], []⟩))
       (.bad))
      (.bad))
def zi (F : Tab) (i0 : Int) (l0 l1 : List AV) (b0 b1 b2 : Bool) (i1 : Int) (l2 : List AV) (i2 : Int) (l3 l4 : List AV) (b3 b4 : Bool) (i3 : Int) (l5 : List AV) (i4 i5 : Int) (l6 l7 : List AV) (b5 b6 b7 : Bool) (i6 i7 : Int) (l8 l9 : List AV) (i8 i9 i10 i11 i12 : Int) : LO := (Gj F i0 l0 l1 b0 b1 b2 i1 l2 i2 l3 l4 b3 b4 i3 l5 i4 i5 l6 l7 b5 b6 b7 i6 i7 l8 l9 i8 i9 i10 i11 i12).eval fun _ => LO.bad
def abu (i0 : Int) (l0 l1 : List AV) (b0 b1 b2 : Bool) (i1 : Int) (l2 : List AV) (i2 : Int) (l3 l4 : List AV) (b3 b4 : Bool) (i3 : Int) (l5 : List AV) (i4 i5 : Int) (l6 l7 : List AV) (b5 b6 b7 : Bool) (i6 i7 : Int) (l8 l9 : List AV) (i8 i9 i10 i11 i12 : Int) : Mm := ⟨[.var 26 (aD i0 l0 l1 b0 b1 b2 i1), .var 29 (aC l2), .var 38 (cO), .var 63 (dP i2 l3 l4 b3 false b4 i3 l5 i4 true dh i5 l6 l7 b5 b6 b7 i6 i7 l8 l9 false aY 0 0 0 i8 i9 i10 i11 i12), .var 61 (.ptr 3 [] 63 0), jX], [(3, [3, 5]), (2, [4]), (2, [5]), (3, [3, 4])]⟩
def Pz (i0 : Int) (l0 l1 : List AV) (b0 b1 b2 : Bool) (i1 : Int) (l2 : List AV) (i2 : Int) (l3 l4 : List AV) (b3 b4 : Bool) (i3 : Int) (l5 : List AV) (i4 i5 : Int) (l6 l7 : List AV) (b5 b6 b7 : Bool) (i6 i7 : Int) (l8 l9 : List AV) (i8 i9 i10 i11 i12 : Int) (lo : LO) : LT :=
 .br (lo.k == 1) (.done (.panic (.iface 89 (dM 2 i7 i5))) (aT 0 [] []) ⟨[.var 26 (aD i0 l0 l1 b0 b1 b2 i1), .var 29 (aC l2), .var 38 (cO), .var 63 (dP (lo.I 0) (lo.L 0) (lo.L 1) (lo.B 0) (lo.B 1) (lo.B 2) (lo.I 1) l5 i4 true dh i5 l6 l7 b5 b6 b7 i6 i7 l8 l9 false aY 0 0 0 i8 i9 i10 i11 i12), .var 61 (.ptr 3 [] 63 0), jX], [(3, [3, 5]), (2, [4]), (2, [5]), (3, [3, 4])]⟩) (.br (lo.k == 2) (.done .ret (aT 1 [(0, .tuple [])] []) ⟨[.var 26 (aD i0 l0 l1 b0 b1 b2 i1), .var 29 (aC l2), .var 38 (cO), .var 63 (dP (lo.I 0) (lo.L 0) (lo.L 1) (lo.B 0) (lo.B 1) (lo.B 2) (lo.I 1) l5 i4 true dh i5 l6 l7 b5 b6 b7 i6 i7 l8 l9 false aY 0 0 0 i8 i9 i10 i11 i12), .var 61 (.ptr 3 [] 63 0), jX], [(3, [3, 5]), (2, [4]), (2, [5]), (3, [3, 4])]⟩) (.fail))
def Yx (i0 : Int) (l0 l1 : List AV) (b0 b1 b2 : Bool) (i1 : Int) (l2 : List AV) (i2 : Int) (l3 l4 : List AV) (b3 b4 : Bool) (i3 : Int) (l5 : List AV) (i4 i5 : Int) (l6 l7 : List AV) (b5 b6 b7 : Bool) (i6 i7 : Int) (l8 l9 : List AV) (i8 i9 i10 i11 i12 : Int) : List AV := [.ptr 3 [] 63 0]
def Bt : ArP := ⟨[.ptr 3 [] 63 (some 0)], [.var 26 (eH), .var 29 (.agg 28 [.slice 139 false]), .var 38 (iP), .var 63 (iC), .var 61 (.ptr 3 [] 63 (some 0)), sZ], [(3, [3, 5]), (2, [4]), (2, [5]), (3, [3, 4])]⟩
abbrev Zb {α : Type} (f : Int -> List AV -> List AV -> Bool -> Bool -> Bool -> Int -> List AV -> Int -> List AV -> List AV -> Bool -> Bool -> Int -> List AV -> Int -> Int -> List AV -> List AV -> Bool -> Bool -> Bool -> Int -> Int -> List AV -> List AV -> Int -> Int -> Int -> Int -> Int -> α) (args : List AV) (M : Mm) : α := f (aj (pA (vR M 0) 0)) (ak (pA (vR M 0) 1)) (ak (pA (vR M 0) 2)) (au (pA (vR M 0) 3)) (au (pA (vR M 0) 4)) (au (pA (vR M 0) 5)) (aj (pA (vR M 0) 6)) (av (pA (vR M 1) 0)) (aj (pA (pA (vR M 3) 0) 0)) (ak (pA (pA (vR M 3) 0) 1)) (ak (pA (pA (vR M 3) 0) 2)) (au (pA (pA (vR M 3) 0) 3)) (au (pA (pA (vR M 3) 0) 5)) (aj (pA (pA (vR M 3) 0) 6)) (av (pA (pA (vR M 3) 1) 0)) (aj (pA (vR M 3) 2)) (aj (pA (pA (pA (vR M 3) 3) 2) 0)) (ak (pA (pA (pA (vR M 3) 3) 2) 1)) (ak (pA (pA (pA (vR M 3) 3) 2) 2)) (au (pA (pA (pA (vR M 3) 3) 2) 3)) (au (pA (pA (pA (vR M 3) 3) 2) 4)) (au (pA (pA (pA (vR M 3) 3) 2) 5)) (aj (pA (pA (pA (vR M 3) 3) 2) 6)) (aj (pA (pA (vR M 3) 3) 3)) (av (pA (pA (vR M 3) 3) 4)) (av (pA (pA (vR M 3) 3) 5)) (aj (pA (pA (vR M 3) 4) 0)) (aj (pA (pA (vR M 3) 4) 1)) (aj (pA (pA (vR M 3) 4) 2)) (aj (pA (pA (vR M 3) 4) 3)) (aj (pA (pA (vR M 3) 4) 4))
def NC (F : Tab) (i0 : Int) (l0 l1 : List AV) (b0 b1 b2 : Bool) (i1 : Int) (l2 : List AV) (i2 : Int) (l3 l4 : List AV) (b3 b4 : Bool) (i3 : Int) (l5 : List AV) (i4 i5 : Int) (l6 l7 : List AV) (b5 b6 b7 : Bool) (i6 i7 : Int) (l8 l9 : List AV) (i8 i9 i10 i11 i12 : Int) : LT := Pz i0 l0 l1 b0 b1 b2 i1 l2 i2 l3 l4 b3 b4 i3 l5 i4 i5 l6 l7 b5 b6 b7 i6 i7 l8 l9 i8 i9 i10 i11 i12 (zi F i0 l0 l1 b0 b1 b2 i1 l2 i2 l3 l4 b3 b4 i3 l5 i4 i5 l6 l7 b5 b6 b7 i6 i7 l8 l9 i8 i9 i10 i11 i12)
def NJ (F : Tab) (dep : Nat) (args : List AV) (M : Mm) : Option LT := if Nat.beq dep 3 && Bt.ok args M then some (Zb (NC F) args M) else none
def El (F : Tab) (i0 : Int) (l0 l1 : List AV) (b0 b1 b2 : Bool) (i1 : Int) (l2 : List AV) (i2 : Int) (l3 l4 : List AV) (b3 b4 : Bool) (i3 : Int) (l5 : List AV) (i4 i5 : Int) (l6 l7 : List AV) (b5 b6 b7 : Bool) (i6 i7 : Int) (l8 l9 : List AV) (i8 i9 i10 i11 i12 : Int)  : Tr (Unit) :=
    .br (i10 != 0)
     (.br (aM i10 16)
      (.out ⟨1, [1, aj (l3.getD i10.toNat .dead)], [], [], [], [], []⟩)
      (.bad))
     (.out ⟨1, [2, 0], [], [], [], [], []⟩)
def CQ (F : Tab) (i0 : Int) (l0 l1 : List AV) (b0 b1 b2 : Bool) (i1 : Int) (l2 : List AV) (i2 : Int) (l3 l4 : List AV) (b3 b4 : Bool) (i3 : Int) (l5 : List AV) (i4 i5 : Int) (l6 l7 : List AV) (b5 b6 b7 : Bool) (i6 i7 : Int) (l8 l9 : List AV) (i8 i9 i10 i11 i12 : Int) : LO := (El F i0 l0 l1 b0 b1 b2 i1 l2 i2 l3 l4 b3 b4 i3 l5 i4 i5 l6 l7 b5 b6 b7 i6 i7 l8 l9 i8 i9 i10 i11 i12).eval fun _ => LO.bad
def aaM (i0 : Int) (l0 l1 : List AV) (b0 b1 b2 : Bool) (i1 : Int) (l2 : List AV) (i2 : Int) (l3 l4 : List AV) (b3 b4 : Bool) (i3 : Int) (l5 : List AV) (i4 i5 : Int) (l6 l7 : List AV) (b5 b6 b7 : Bool) (i6 i7 : Int) (l8 l9 : List AV) (i8 i9 i10 i11 i12 : Int) : Mm := ⟨[.var 26 (aD i0 l0 l1 b0 b1 b2 i1), .var 29 (aC l2), .var 38 (cO), .var 63 (dP i2 l3 l4 b3 false b4 i3 l5 i4 true dh i5 l6 l7 b5 b6 b7 i6 i7 l8 l9 false aY 0 0 0 i8 i9 i10 i11 i12), .var 61 (.ptr 3 [] 63 0), jX], [(3, [3, 5]), (2, [4]), (2, [5]), (3, [3, 4])]⟩
def Iw (i0 : Int) (l0 l1 : List AV) (b0 b1 b2 : Bool) (i1 : Int) (l2 : List AV) (i2 : Int) (l3 l4 : List AV) (b3 b4 : Bool) (i3 : Int) (l5 : List AV) (i4 i5 : Int) (l6 l7 : List AV) (b5 b6 b7 : Bool) (i6 i7 : Int) (l8 l9 : List AV) (i8 i9 i10 i11 i12 : Int) (lo : LO) : LT :=
 .br (lo.k == 1) (.done .ret (aT 1 [(0, .tuple [])] []) ⟨[.var 26 (aD i0 l0 l1 b0 b1 b2 i1), .var 29 (aC l2), .var 38 (cO), .var 63 (dP i2 l3 l4 b3 false b4 i3 l5 i4 true dh i5 l6 l7 b5 b6 b7 i6 i7 l8 l9 false aY (lo.I 0) (lo.I 1) 0 i8 i9 i10 i11 i12), .var 61 (.ptr 3 [] 63 0), jX], [(3, [3, 5]), (2, [4]), (2, [5]), (3, [3, 4])]⟩) (.fail)
def aa4 (i0 : Int) (l0 l1 : List AV) (b0 b1 b2 : Bool) (i1 : Int) (l2 : List AV) (i2 : Int) (l3 l4 : List AV) (b3 b4 : Bool) (i3 : Int) (l5 : List AV) (i4 i5 : Int) (l6 l7 : List AV) (b5 b6 b7 : Bool) (i6 i7 : Int) (l8 l9 : List AV) (i8 i9 i10 i11 i12 : Int) : List AV := [.ptr 3 [] 63 0]
def Am : ArP := ⟨[.ptr 3 [] 63 (some 0)], [.var 26 (eH), .var 29 (.agg 28 [.slice 139 false]), .var 38 (iP), .var 63 (iC), .var 61 (.ptr 3 [] 63 (some 0)), sZ], [(3, [3, 5]), (2, [4]), (2, [5]), (3, [3, 4])]⟩
abbrev SG {α : Type} (f : Int -> List AV -> List AV -> Bool -> Bool -> Bool -> Int -> List AV -> Int -> List AV -> List AV -> Bool -> Bool -> Int -> List AV -> Int -> Int -> List AV -> List AV -> Bool -> Bool -> Bool -> Int -> Int -> List AV -> List AV -> Int -> Int -> Int -> Int -> Int -> α) (args : List AV) (M : Mm) : α := f (aj (pA (vR M 0) 0)) (ak (pA (vR M 0) 1)) (ak (pA (vR M 0) 2)) (au (pA (vR M 0) 3)) (au (pA (vR M 0) 4)) (au (pA (vR M 0) 5)) (aj (pA (vR M 0) 6)) (av (pA (vR M 1) 0)) (aj (pA (pA (vR M 3) 0) 0)) (ak (pA (pA (vR M 3) 0) 1)) (ak (pA (pA (vR M 3) 0) 2)) (au (pA (pA (vR M 3) 0) 3)) (au (pA (pA (vR M 3) 0) 5)) (aj (pA (pA (vR M 3) 0) 6)) (av (pA (pA (vR M 3) 1) 0)) (aj (pA (vR M 3) 2)) (aj (pA (pA (pA (vR M 3) 3) 2) 0)) (ak (pA (pA (pA (vR M 3) 3) 2) 1)) (ak (pA (pA (pA (vR M 3) 3) 2) 2)) (au (pA (pA (pA (vR M 3) 3) 2) 3)) (au (pA (pA (pA (vR M 3) 3) 2) 4)) (au (pA (pA (pA (vR M 3) 3) 2) 5)) (aj (pA (pA (pA (vR M 3) 3) 2) 6)) (aj (pA (pA (vR M 3) 3) 3)) (av (pA (pA (vR M 3) 3) 4)) (av (pA (pA (vR M 3) 3) 5)) (aj (pA (pA (vR M 3) 4) 0)) (aj (pA (pA (vR M 3) 4) 1)) (aj (pA (pA (vR M 3) 4) 2)) (aj (pA (pA (vR M 3) 4) 3)) (aj (pA (pA (vR M 3) 4) 4))
def LK (F : Tab) (i0 : Int) (l0 l1 : List AV) (b0 b1 b2 : Bool) (i1 : Int) (l2 : List AV) (i2 : Int) (l3 l4 : List AV) (b3 b4 : Bool) (i3 : Int) (l5 : List AV) (i4 i5 : Int) (l6 l7 : List AV) (b5 b6 b7 : Bool) (i6 i7 : Int) (l8 l9 : List AV) (i8 i9 i10 i11 i12 : Int) : LT := Iw i0 l0 l1 b0 b1 b2 i1 l2 i2 l3 l4 b3 b4 i3 l5 i4 i5 l6 l7 b5 b6 b7 i6 i7 l8 l9 i8 i9 i10 i11 i12 (CQ F i0 l0 l1 b0 b1 b2 i1 l2 i2 l3 l4 b3 b4 i3 l5 i4 i5 l6 l7 b5 b6 b7 i6 i7 l8 l9 i8 i9 i10 i11 i12)
def LU (F : Tab) (dep : Nat) (args : List AV) (M : Mm) : Option LT := if Nat.beq dep 3 && Am.ok args M then some (SG (LK F) args M) else none
def Eh (F : Tab) (i0 : Int) (l0 l1 : List AV) (b0 b1 b2 : Bool) (i1 : Int) (l2 : List AV) (i2 : Int) (l3 l4 : List AV) (b3 b4 : Bool) (i3 : Int) (l5 : List AV) (i4 i5 : Int) (l6 l7 : List AV) (b5 b6 b7 : Bool) (i6 i7 : Int) (l8 l9 : List AV) (i8 i9 i10 i11 i12 : Int)  : Tr (Unit) :=
    .br (!(i8 == 46))
     (.br (cond (aM i9 16) true false)
      (.out ⟨1, [aj (l3.getD i9.toNat .dead)], [i8 == 46], [], [], [], []⟩)
      (.bad))
     (.out ⟨1, [0], [i8 == 46], [], [], [], []⟩)
def Ca (F : Tab) (i0 : Int) (l0 l1 : List AV) (b0 b1 b2 : Bool) (i1 : Int) (l2 : List AV) (i2 : Int) (l3 l4 : List AV) (b3 b4 : Bool) (i3 : Int) (l5 : List AV) (i4 i5 : Int) (l6 l7 : List AV) (b5 b6 b7 : Bool) (i6 i7 : Int) (l8 l9 : List AV) (i8 i9 i10 i11 i12 : Int) : LO := (Eh F i0 l0 l1 b0 b1 b2 i1 l2 i2 l3 l4 b3 b4 i3 l5 i4 i5 l6 l7 b5 b6 b7 i6 i7 l8 l9 i8 i9 i10 i11 i12).eval fun _ => LO.bad
def abN (i0 : Int) (l0 l1 : List AV) (b0 b1 b2 : Bool) (i1 : Int) (l2 : List AV) (i2 : Int) (l3 l4 : List AV) (b3 b4 : Bool) (i3 : Int) (l5 : List AV) (i4 i5 : Int) (l6 l7 : List AV) (b5 b6 b7 : Bool) (i6 i7 : Int) (l8 l9 : List AV) (i8 i9 i10 i11 i12 : Int) : Mm := ⟨[.var 26 (aD i0 l0 l1 b0 b1 b2 i1), .var 29 (aC l2), .var 38 (cO), .var 63 (dP i2 l3 l4 b3 false b4 i3 l5 i4 true dh i5 l6 l7 b5 b6 b7 i6 i7 l8 l9 false aY 0 0 0 i8 i9 i10 i11 i12), .var 61 (.ptr 3 [] 63 0), jX], [(3, [3, 5]), (2, [4]), (2, [5]), (3, [3, 4])]⟩
def Kg (i0 : Int) (l0 l1 : List AV) (b0 b1 b2 : Bool) (i1 : Int) (l2 : List AV) (i2 : Int) (l3 l4 : List AV) (b3 b4 : Bool) (i3 : Int) (l5 : List AV) (i4 i5 : Int) (l6 l7 : List AV) (b5 b6 b7 : Bool) (i6 i7 : Int) (l8 l9 : List AV) (i8 i9 i10 i11 i12 : Int) (lo : LO) : LT :=
 .br (lo.k == 1) (.done .ret (aT 1 [(0, .tuple [])] []) ⟨[.var 26 (aD i0 l0 l1 b0 b1 b2 i1), .var 29 (aC l2), .var 38 (cO), .var 63 (.agg 62 [aD i2 l3 l4 b3 false b4 i3, aC l5, .int .u32 i4, .agg 37 [.bool true, dh, aD i5 l6 l7 b5 b6 b7 i6, .int .u32 i7, .slice 57 l8 false, .slice 59 l9 false, .bool true, Ev (lo.B 0) i12 (lo.I 0), .int .i64 0, .int .u32 0, .int .i64 0], bE i8 i9 i10 i11 i12]), .var 61 (.ptr 3 [] 63 0), jX], [(3, [3, 5]), (2, [4]), (2, [5]), (3, [3, 4])]⟩) (.fail)
def UR (i0 : Int) (l0 l1 : List AV) (b0 b1 b2 : Bool) (i1 : Int) (l2 : List AV) (i2 : Int) (l3 l4 : List AV) (b3 b4 : Bool) (i3 : Int) (l5 : List AV) (i4 i5 : Int) (l6 l7 : List AV) (b5 b6 b7 : Bool) (i6 i7 : Int) (l8 l9 : List AV) (i8 i9 i10 i11 i12 : Int) : List AV := [.ptr 3 [] 63 0]
def zS : ArP := ⟨[.ptr 3 [] 63 (some 0)], [.var 26 (eH), .var 29 (.agg 28 [.slice 139 false]), .var 38 (iP), .var 63 (iC), .var 61 (.ptr 3 [] 63 (some 0)), sZ], [(3, [3, 5]), (2, [4]), (2, [5]), (3, [3, 4])]⟩
abbrev Ux {α : Type} (f : Int -> List AV -> List AV -> Bool -> Bool -> Bool -> Int -> List AV -> Int -> List AV -> List AV -> Bool -> Bool -> Int -> List AV -> Int -> Int -> List AV -> List AV -> Bool -> Bool -> Bool -> Int -> Int -> List AV -> List AV -> Int -> Int -> Int -> Int -> Int -> α) (args : List AV) (M : Mm) : α := f (aj (pA (vR M 0) 0)) (ak (pA (vR M 0) 1)) (ak (pA (vR M 0) 2)) (au (pA (vR M 0) 3)) (au (pA (vR M 0) 4)) (au (pA (vR M 0) 5)) (aj (pA (vR M 0) 6)) (av (pA (vR M 1) 0)) (aj (pA (pA (vR M 3) 0) 0)) (ak (pA (pA (vR M 3) 0) 1)) (ak (pA (pA (vR M 3) 0) 2)) (au (pA (pA (vR M 3) 0) 3)) (au (pA (pA (vR M 3) 0) 5)) (aj (pA (pA (vR M 3) 0) 6)) (av (pA (pA (vR M 3) 1) 0)) (aj (pA (vR M 3) 2)) (aj (pA (pA (pA (vR M 3) 3) 2) 0)) (ak (pA (pA (pA (vR M 3) 3) 2) 1)) (ak (pA (pA (pA (vR M 3) 3) 2) 2)) (au (pA (pA (pA (vR M 3) 3) 2) 3)) (au (pA (pA (pA (vR M 3) 3) 2) 4)) (au (pA (pA (pA (vR M 3) 3) 2) 5)) (aj (pA (pA (pA (vR M 3) 3) 2) 6)) (aj (pA (pA (vR M 3) 3) 3)) (av (pA (pA (vR M 3) 3) 4)) (av (pA (pA (vR M 3) 3) 5)) (aj (pA (pA (vR M 3) 4) 0)) (aj (pA (pA (vR M 3) 4) 1)) (aj (pA (pA (vR M 3) 4) 2)) (aj (pA (pA (vR M 3) 4) 3)) (aj (pA (pA (vR M 3) 4) 4))
def QE (F : Tab) (i0 : Int) (l0 l1 : List AV) (b0 b1 b2 : Bool) (i1 : Int) (l2 : List AV) (i2 : Int) (l3 l4 : List AV) (b3 b4 : Bool) (i3 : Int) (l5 : List AV) (i4 i5 : Int) (l6 l7 : List AV) (b5 b6 b7 : Bool) (i6 i7 : Int) (l8 l9 : List AV) (i8 i9 i10 i11 i12 : Int) : LT := Kg i0 l0 l1 b0 b1 b2 i1 l2 i2 l3 l4 b3 b4 i3 l5 i4 i5 l6 l7 b5 b6 b7 i6 i7 l8 l9 i8 i9 i10 i11 i12 (Ca F i0 l0 l1 b0 b1 b2 i1 l2 i2 l3 l4 b3 b4 i3 l5 i4 i5 l6 l7 b5 b6 b7 i6 i7 l8 l9 i8 i9 i10 i11 i12)
def I6 (F : Tab) (dep : Nat) (args : List AV) (M : Mm) : Option LT := if Nat.beq dep 3 && zS.ok args M then some (Ux (QE F) args M) else none
def H8 (F : Tab) (i0 : Int) (l0 l1 : List AV) (b0 b1 b2 : Bool) (i1 : Int) (l2 : List AV) (i2 : Int) (l3 l4 : List AV) (b3 b4 : Bool) (i3 : Int) (l5 : List AV) (i4 i5 : Int) (l6 l7 : List AV) (b5 b6 b7 : Bool) (i6 i7 : Int) (l8 l9 : List AV) (i8 i9 i10 i11 i12 : Int)  : Tr (Unit) :=
    let x0 : List AV := ak (ay F 80 [aD i2 l3 l4 b3 false b4 i3]);
    .br (i8 == 16)
     (.br (cond (aM i10 16) true false)
      (.br (i9 != 0)
       (.br (cond (aM i9 16) true false)
        (.out ⟨1, [i2, i3], [b3, false, b4], [l3.set i9.toNat (.int .u32 (IntKind.u32.wrap ((aj (l3.getD i10.toNat .dead)) + (IntKind.u32.wrap i12)))), l4], [], [], []⟩)
        (.bad))
       (.out ⟨1, [i2, i3], [b3, false, b4], [l3, l4], [], [], []⟩))
      (.bad))
     (.br (i8 == 17)
      (.br (i9 != 0)
       (.br (cond (aM i9 16) true false)
        (.out ⟨1, [i2, i3], [b3, false, b4], [l3.set i9.toNat (.int .u32 (IntKind.u32.wrap ((IntKind.u32.wrap i12) * 16384))), l4], [], [], []⟩)
        (.bad))
       (.out ⟨1, [i2, i3], [b3, false, b4], [l3, l4], [], [], []⟩))
      (.br (i8 == 40)
       (.out ⟨2, [IntKind.u32.wrap (i5 + 4)], [], [], [], [], []⟩)
       (.br (i8 == 41)
        (.br (aA Pg F 80 [aD i2 l3 l4 b3 false b4 i3])
         (.out ⟨1, [aj (x0.getD 0 .dead), aj (x0.getD 6 .dead)], [au (x0.getD 3 .dead), au (x0.getD 4 .dead), au (x0.getD 5 .dead)], [ak (x0.getD 1 .dead), ak (x0.getD 2 .dead)], [], [], []⟩)
         (.bad))
        (.br (i8 == 45)
         (.out ⟨1, [i2, i3], [b3, true, b4], [l3, l4], [], [], []⟩)
         (.br (i8 == 48)
          (.out ⟨1, [i2, i3], [b3, false, true], [l3, l4], [], [], []⟩)
          (.br (cond (aM i10 16) (cond (aM i11 16) (cond (aA Pg F 81 [.int .i64 i8, .int .u32 (aj (l3.getD i10.toNat .dead)), .int .u32 (aj (l3.getD i11.toNat .dead))]) true false) false) false)
           (.br (i9 != 0)
            (.br (cond (aM i9 16) true false)
             (.out ⟨1, [i2, i3], [b3, false, b4], [l3.set i9.toNat (.int .u32 (aj ((fG (ay F 81 [.int .i64 i8, .int .u32 (aj (l3.getD i10.toNat .dead)), .int .u32 (aj (l3.getD i11.toNat .dead))])).getD 0 .dead))), l4], [], [], []⟩)
             (.bad))
            (.out ⟨1, [i2, i3], [b3, false, b4], [l3, l4], [], [], []⟩))
           (.bad)))))))
def Ao (F : Tab) (i0 : Int) (l0 l1 : List AV) (b0 b1 b2 : Bool) (i1 : Int) (l2 : List AV) (i2 : Int) (l3 l4 : List AV) (b3 b4 : Bool) (i3 : Int) (l5 : List AV) (i4 i5 : Int) (l6 l7 : List AV) (b5 b6 b7 : Bool) (i6 i7 : Int) (l8 l9 : List AV) (i8 i9 i10 i11 i12 : Int) : LO := (H8 F i0 l0 l1 b0 b1 b2 i1 l2 i2 l3 l4 b3 b4 i3 l5 i4 i5 l6 l7 b5 b6 b7 i6 i7 l8 l9 i8 i9 i10 i11 i12).eval fun _ => LO.bad
def I7 (i0 : Int) (l0 l1 : List AV) (b0 b1 b2 : Bool) (i1 : Int) (l2 : List AV) (i2 : Int) (l3 l4 : List AV) (b3 b4 : Bool) (i3 : Int) (l5 : List AV) (i4 i5 : Int) (l6 l7 : List AV) (b5 b6 b7 : Bool) (i6 i7 : Int) (l8 l9 : List AV) (i8 i9 i10 i11 i12 : Int) : Mm := ⟨[.var 26 (aD i0 l0 l1 b0 b1 b2 i1), .var 29 (aC l2), .var 38 (cO), .var 63 (dP i2 l3 l4 b3 false b4 i3 l5 i4 true dh i5 l6 l7 b5 b6 b7 i6 i7 l8 l9 false aY 0 0 0 i8 i9 i10 i11 i12), .var 61 (.ptr 3 [] 63 0), jX], [(3, [3, 5]), (2, [4]), (2, [5]), (3, [3, 4])]⟩
def Ox (i0 : Int) (l0 l1 : List AV) (b0 b1 b2 : Bool) (i1 : Int) (l2 : List AV) (i2 : Int) (l3 l4 : List AV) (b3 b4 : Bool) (i3 : Int) (l5 : List AV) (i4 i5 : Int) (l6 l7 : List AV) (b5 b6 b7 : Bool) (i6 i7 : Int) (l8 l9 : List AV) (i8 i9 i10 i11 i12 : Int) (lo : LO) : LT :=
 .br (lo.k == 1) (.done .ret (aT 1 [(0, .tuple [])] []) ⟨[.var 26 (aD i0 l0 l1 b0 b1 b2 i1), .var 29 (aC l2), .var 38 (cO), .var 63 (dP (lo.I 0) (lo.L 0) (lo.L 1) (lo.B 0) (lo.B 1) (lo.B 2) (lo.I 1) l5 i4 true dh i5 l6 l7 b5 b6 b7 i6 i7 l8 l9 false aY 0 0 0 i8 i9 i10 i11 i12), .var 61 (.ptr 3 [] 63 0), jX], [(3, [3, 5]), (2, [4]), (2, [5]), (3, [3, 4])]⟩) (.br (lo.k == 2) (.done (.panic (.iface 89 (dM 1 0 (lo.I 0)))) (aT 0 [] []) (I7 i0 l0 l1 b0 b1 b2 i1 l2 i2 l3 l4 b3 b4 i3 l5 i4 i5 l6 l7 b5 b6 b7 i6 i7 l8 l9 i8 i9 i10 i11 i12)) (.fail))
def acz (i0 : Int) (l0 l1 : List AV) (b0 b1 b2 : Bool) (i1 : Int) (l2 : List AV) (i2 : Int) (l3 l4 : List AV) (b3 b4 : Bool) (i3 : Int) (l5 : List AV) (i4 i5 : Int) (l6 l7 : List AV) (b5 b6 b7 : Bool) (i6 i7 : Int) (l8 l9 : List AV) (i8 i9 i10 i11 i12 : Int) : List AV := [.ptr 3 [] 63 0]
def AY : ArP := ⟨[.ptr 3 [] 63 (some 0)], [.var 26 (eH), .var 29 (.agg 28 [.slice 139 false]), .var 38 (iP), .var 63 (iC), .var 61 (.ptr 3 [] 63 (some 0)), sZ], [(3, [3, 5]), (2, [4]), (2, [5]), (3, [3, 4])]⟩
abbrev YS {α : Type} (f : Int -> List AV -> List AV -> Bool -> Bool -> Bool -> Int -> List AV -> Int -> List AV -> List AV -> Bool -> Bool -> Int -> List AV -> Int -> Int -> List AV -> List AV -> Bool -> Bool -> Bool -> Int -> Int -> List AV -> List AV -> Int -> Int -> Int -> Int -> Int -> α) (args : List AV) (M : Mm) : α := f (aj (pA (vR M 0) 0)) (ak (pA (vR M 0) 1)) (ak (pA (vR M 0) 2)) (au (pA (vR M 0) 3)) (au (pA (vR M 0) 4)) (au (pA (vR M 0) 5)) (aj (pA (vR M 0) 6)) (av (pA (vR M 1) 0)) (aj (pA (pA (vR M 3) 0) 0)) (ak (pA (pA (vR M 3) 0) 1)) (ak (pA (pA (vR M 3) 0) 2)) (au (pA (pA (vR M 3) 0) 3)) (au (pA (pA (vR M 3) 0) 5)) (aj (pA (pA (vR M 3) 0) 6)) (av (pA (pA (vR M 3) 1) 0)) (aj (pA (vR M 3) 2)) (aj (pA (pA (pA (vR M 3) 3) 2) 0)) (ak (pA (pA (pA (vR M 3) 3) 2) 1)) (ak (pA (pA (pA (vR M 3) 3) 2) 2)) (au (pA (pA (pA (vR M 3) 3) 2) 3)) (au (pA (pA (pA (vR M 3) 3) 2) 4)) (au (pA (pA (pA (vR M 3) 3) 2) 5)) (aj (pA (pA (pA (vR M 3) 3) 2) 6)) (aj (pA (pA (vR M 3) 3) 3)) (av (pA (pA (vR M 3) 3) 4)) (av (pA (pA (vR M 3) 3) 5)) (aj (pA (pA (vR M 3) 4) 0)) (aj (pA (pA (vR M 3) 4) 1)) (aj (pA (pA (vR M 3) 4) 2)) (aj (pA (pA (vR M 3) 4) 3)) (aj (pA (pA (vR M 3) 4) 4))
def KP (F : Tab) (i0 : Int) (l0 l1 : List AV) (b0 b1 b2 : Bool) (i1 : Int) (l2 : List AV) (i2 : Int) (l3 l4 : List AV) (b3 b4 : Bool) (i3 : Int) (l5 : List AV) (i4 i5 : Int) (l6 l7 : List AV) (b5 b6 b7 : Bool) (i6 i7 : Int) (l8 l9 : List AV) (i8 i9 i10 i11 i12 : Int) : LT := Ox i0 l0 l1 b0 b1 b2 i1 l2 i2 l3 l4 b3 b4 i3 l5 i4 i5 l6 l7 b5 b6 b7 i6 i7 l8 l9 i8 i9 i10 i11 i12 (Ao F i0 l0 l1 b0 b1 b2 i1 l2 i2 l3 l4 b3 b4 i3 l5 i4 i5 l6 l7 b5 b6 b7 i6 i7 l8 l9 i8 i9 i10 i11 i12)
def Oy (F : Tab) (dep : Nat) (args : List AV) (M : Mm) : Option LT := if Nat.beq dep 3 && AY.ok args M then some (YS (KP F) args M) else none
def uW (F : Tab) (i0 : Int) (l0 l1 : List AV) (b0 b1 b2 : Bool) (i1 : Int) (l2 : List AV) (i2 : Int) (l3 l4 : List AV) (b3 b4 : Bool) (i3 : Int) (l5 : List AV) (i4 i5 : Int) (l6 l7 : List AV) (b5 b6 b7 : Bool) (i6 : Int)  : Tr (Unit) :=
    let x0 : List AV := fG (ay F 43 [aD i5 l6 l7 b5 b6 b7 i6, .int .u32 i4]);
    let x1 : Int := IntKind.i64.wrap (16 + (aj (x0.getD 0 .dead)));
    let x2 : List AV := ak (ay F 34 [aD i5 l6 l7 b5 b6 b7 i6, dM x1 0 i5]);
    let x3 : LO := BH F i0 l0 l1 b0 b1 b2 i1 l2 i2 l3 l4 b3 b4 i3 l5 i4 i5 l6 l7 b5 b6 b7 i6;
    let x4 : List AV := x3.l.getD 0 [];
    let x5 : List AV := x3.l.getD 1 [];
    let x6 : List AV := x3.l.getD 2 [];
    let x7 : Int := x3.i.getD 0 0;
    let x8 : Int := x3.i.getD 1 0;
    let x9 : Int := x3.i.getD 2 0;
    let x10 : List AV := ak (ay F 34 [aD i5 l6 l7 b5 b6 b7 i6, dM x9 i5 i5]);
    let x11 : Int := x3.i.getD 3 0;
    let x12 : Int := x3.i.getD 4 0;
    let x13 : Int := x3.i.getD 5 0;
    let x14 : List AV := fG (ay F 46 [.int .i64 x8]);
    let x15 : Int := aj (x14.getD 0 .dead);
    let x16 : LO := Cy F x15 (aj (x14.getD 1 .dead)) i0 l0 l1 b0 b1 b2 i1 l2 (IntKind.u32.wrap (i2 + 4)) l3 l4 b3 b4 i3 x4 i4 i5 l6 l7 b5 b6 b7 i6 x7 x5 x6 x8 x9 x11 x12 x13;
    let x17 : List AV := x16.l.getD 0 [];
    let x18 : List AV := x16.l.getD 1 [];
    let x19 : List AV := x16.l.getD 2 [];
    let x20 : List AV := x16.l.getD 3 [];
    let x21 : Int := x16.i.getD 2 0;
    let x22 : List AV := ak (ay F 34 [aD i5 l6 l7 b5 b6 b7 i6, dM x21 (x16.i.getD 3 0) i5]);
    let x23 : List AV := ak (ay F 34 [aD i5 l6 l7 b5 b6 b7 i6, dM 3 (x16.i.getD 0 0) i5]);
    let x24 : LO := CS F i0 l0 l1 b0 b1 b2 i1 l2 (IntKind.u32.wrap (i2 + 4)) l3 l4 b3 b4 i3 x4 i4 i5 l6 l7 b5 b6 b7 i6 x7 x5 x6 x8 x9 x11 x12 x13;
    let x25 : Int := x24.i.getD 0 0;
    let x26 : Bool := x24.k == 1;
    let x27 : LO := Ay F i0 l0 l1 b0 b1 b2 i1 l2 (IntKind.u32.wrap (i2 + 4)) l3 l4 b3 b4 i3 x4 i4 i5 l6 l7 b5 b6 b7 i6 x7 x5 x6 x8 x9 x11 x12 x13;
    let x28 : Int := x27.i.getD 0 0;
    let x29 : List AV := x27.l.getD 0 [];
    let x30 : Bool := x27.k == 1;
    let x31 : LO := zi F i0 l0 l1 b0 b1 b2 i1 l2 (IntKind.u32.wrap (i2 + 4)) l3 l4 b3 b4 i3 x4 i4 i5 l6 l7 b5 b6 b7 i6 x7 x5 x6 x8 x9 x11 x12 x13;
    let x32 : Int := x31.i.getD 0 0;
    let x33 : List AV := x31.l.getD 0 [];
    let x34 : List AV := x31.l.getD 1 [];
    let x35 : Bool := x31.b.getD 0 false;
    let x36 : Bool := x31.b.getD 1 false;
    let x37 : Bool := x31.b.getD 2 false;
    let x38 : Int := x31.i.getD 1 0;
    let x39 : Bool := x31.k == 2;
    let x40 : Bool := x31.k == 1;
    let x41 : Bool := aA Pg F 34 [aD i5 l6 l7 b5 b6 b7 i6, dM 2 x7 i5];
    let x42 : List AV := ak (ay F 34 [aD i5 l6 l7 b5 b6 b7 i6, dM 2 x7 i5]);
    let x43 : Int := aj (x42.getD 0 .dead);
    let x44 : List AV := ak (x42.getD 1 .dead);
    let x45 : List AV := ak (x42.getD 2 .dead);
    let x46 : Bool := au (x42.getD 3 .dead);
    let x47 : Bool := au (x42.getD 4 .dead);
    let x48 : Bool := au (x42.getD 5 .dead);
    let x49 : Int := aj (x42.getD 6 .dead);
    let x50 : LO := CQ F i0 l0 l1 b0 b1 b2 i1 l2 (IntKind.u32.wrap (i2 + 4)) l3 l4 b3 b4 i3 x4 i4 i5 l6 l7 b5 b6 b7 i6 x7 x5 x6 x8 x9 x11 x12 x13;
    let x51 : LO := Ca F i0 l0 l1 b0 b1 b2 i1 l2 (IntKind.u32.wrap (i2 + 4)) l3 l4 b3 b4 i3 x4 i4 i5 l6 l7 b5 b6 b7 i6 x7 x5 x6 x8 x9 x11 x12 x13;
    let x52 : Bool := x51.b.getD 0 false;
    let x53 : Int := x51.i.getD 0 0;
    let x54 : Bool := x51.k == 1;
    let x55 : LO := Ao F i0 l0 l1 b0 b1 b2 i1 l2 (IntKind.u32.wrap (i2 + 4)) l3 l4 b3 b4 i3 x4 i4 i5 l6 l7 b5 b6 b7 i6 x7 x5 x6 x8 x9 x11 x12 x13;
    let x56 : Int := x55.i.getD 0 0;
    let x57 : List AV := ak (ay F 34 [aD i5 l6 l7 b5 b6 b7 i6, dM 1 0 x56]);
    let x58 : List AV := x55.l.getD 0 [];
    let x59 : List AV := x55.l.getD 1 [];
    let x60 : Bool := x55.b.getD 0 false;
    let x61 : Bool := x55.b.getD 1 false;
    let x62 : Bool := x55.b.getD 2 false;
    let x63 : Int := x55.i.getD 1 0;
    let x64 : List AV := ak (ay F 34 [aD i5 l6 l7 b5 b6 b7 i6, dM 2 (x3.i.getD 6 0) i5]);
    let x65 : List AV := ak (ay F 34 [aD i5 l6 l7 b5 b6 b7 i6, dM 3 i5 i5]);
    .br (cond (aA Pg F 43 [aD i5 l6 l7 b5 b6 b7 i6, .int .u32 i4]) true false)
     (.br (au (x0.getD 1 .dead))
      (.br (aA Pg F 34 [aD i5 l6 l7 b5 b6 b7 i6, dM x1 0 i5])
       (.out ⟨1, [aj (x2.getD 0 .dead), aj (x2.getD 6 .dead), x1], [au (x2.getD 3 .dead), au (x2.getD 4 .dead), au (x2.getD 5 .dead)], [ak (x2.getD 1 .dead), ak (x2.getD 2 .dead)], [], [], []⟩)
       (.bad))
      (.br (x3.k == 1)
       (.br (aA Pg F 34 [aD i5 l6 l7 b5 b6 b7 i6, dM 3 i5 i5])
        (.out ⟨1, [aj (x65.getD 0 .dead), aj (x65.getD 6 .dead), 3], [au (x65.getD 3 .dead), au (x65.getD 4 .dead), au (x65.getD 5 .dead)], [ak (x65.getD 1 .dead), ak (x65.getD 2 .dead)], [], [], []⟩)
        (.bad))
       (.br (x3.k == 2)
        (.br (aA Pg F 34 [aD i5 l6 l7 b5 b6 b7 i6, dM 2 (x3.i.getD 6 0) i5])
         (.out ⟨3, [i2, i3, aj (x64.getD 0 .dead), aj (x64.getD 6 .dead), x7, 0, 0, 0, 0, 2, 0, 0, 0, 0, 0], [b3, false, b4, au (x64.getD 3 .dead), au (x64.getD 4 .dead), au (x64.getD 5 .dead), false, false], [l3, l4, x4, ak (x64.getD 1 .dead), ak (x64.getD 2 .dead), x5, x6], [], [], []⟩)
         (.bad))
        (.br (x3.k == 3)
         (.br (aA Pg F 46 [.int .i64 x8])
          (.br (x15 != 0)
           (.br (x16.k == 1)
            (.br (aA Pg F 34 [aD i5 l6 l7 b5 b6 b7 i6, dM 3 (x16.i.getD 0 0) i5])
             (.out ⟨3, [IntKind.u32.wrap (i2 + 4), i3, aj (x23.getD 0 .dead), aj (x23.getD 6 .dead), x7, 0, 0, 0, 0, 3, x8, x9, x11, x12, x13], [b3, false, b4, au (x23.getD 3 .dead), au (x23.getD 4 .dead), au (x23.getD 5 .dead), false, false], [l3, l4, x4, ak (x23.getD 1 .dead), ak (x23.getD 2 .dead), x5, x6], [], [], []⟩)
             (.bad))
            (.br (x16.k == 2)
             (.out ⟨4, [IntKind.u32.wrap (i2 + 4), IntKind.u32.wrap (i2 + 4), x7, x8, x9, x11, x12, x13], [], [x17, x18, x17, x19, x20], [], [], []⟩)
             (.br (x16.k == 3)
              (.out ⟨3, [IntKind.u32.wrap (i2 + 4), i3, IntKind.u32.wrap (i2 + 4), i3, x7, 0, 0, 0, 0, 0, x8, x9, x11, x12, x13], [b3, false, b4, b3, false, b4, false, false], [x17, l4, x18, x17, l4, x19, x20], [], [], []⟩)
              (.br (x16.k == 4)
               (.out ⟨2, [IntKind.u32.wrap (i2 + 4), IntKind.u32.wrap (i2 + 4), i3, x7, 0, x8, x9, x11, x12, x13], [b3, false, b4], [x17, l3, l4, x18, x19], [], [], []⟩)
               (.br (x16.k == 5)
                (.br (aA Pg F 34 [aD i5 l6 l7 b5 b6 b7 i6, dM x21 (x16.i.getD 3 0) i5])
                 (.out ⟨2, [IntKind.u32.wrap (i2 + 4), aj (x22.getD 0 .dead), aj (x22.getD 6 .dead), x7, x21, x8, x9, x11, x12, x13], [au (x22.getD 3 .dead), au (x22.getD 4 .dead), au (x22.getD 5 .dead)], [x17, ak (x22.getD 1 .dead), ak (x22.getD 2 .dead), x18, x19], [], [], []⟩)
                 (.bad))
                (.bad))))))
           (.br (x8 == 28)
            (.br x26
             (.out ⟨3, [x25, i3, x25, i3, x7, 0, 0, 0, 0, 0, x8, x9, x11, x12, x13], [b3, false, b4, b3, false, b4, false, false], [l3, l4, x4, l3, l4, x5, x6], [], [], []⟩)
             (.bad))
            (.br (x8 == 29)
             (.br x26
              (.out ⟨3, [x25, i3, x25, i3, x7, 0, 0, 0, 0, 0, x8, x9, x11, x12, x13], [b3, false, b4, b3, false, b4, false, false], [l3, l4, x4, l3, l4, x5, x6], [], [], []⟩)
              (.bad))
             (.br (x8 == 30)
              (.br x26
               (.out ⟨3, [x25, i3, x25, i3, x7, 0, 0, 0, 0, 0, x8, x9, x11, x12, x13], [b3, false, b4, b3, false, b4, false, false], [l3, l4, x4, l3, l4, x5, x6], [], [], []⟩)
               (.bad))
              (.br (x8 == 31)
               (.br x26
                (.out ⟨3, [x25, i3, x25, i3, x7, 0, 0, 0, 0, 0, x8, x9, x11, x12, x13], [b3, false, b4, b3, false, b4, false, false], [l3, l4, x4, l3, l4, x5, x6], [], [], []⟩)
                (.bad))
               (.br (x8 == 32)
                (.br x30
                 (.out ⟨3, [x28, i3, x28, i3, x7, 0, 0, 0, 0, 0, x8, x9, x11, x12, x13], [b3, false, b4, b3, false, b4, false, false], [x29, l4, x4, x29, l4, x5, x6], [], [], []⟩)
                 (.bad))
                (.br (x8 == 33)
                 (.br x30
                  (.out ⟨3, [x28, i3, x28, i3, x7, 0, 0, 0, 0, 0, x8, x9, x11, x12, x13], [b3, false, b4, b3, false, b4, false, false], [x29, l4, x4, x29, l4, x5, x6], [], [], []⟩)
                  (.bad))
                 (.br (x8 == 42)
                  (.br x40
                   (.br x41
                    (.out ⟨3, [x32, x38, x43, x49, x7, 0, 0, 0, 0, 2, x8, x9, x11, x12, x13], [x35, x36, x37, x46, x47, x48, false, false], [x33, x34, x4, x44, x45, x5, x6], [], [], []⟩)
                    (.bad))
                   (.br x39
                    (.out ⟨3, [x32, x38, x32, x38, x7, 0, 0, 0, 0, 0, x8, x9, x11, x12, x13], [x35, x36, x37, x35, x36, x37, false, false], [x33, x34, x4, x33, x34, x5, x6], [], [], []⟩)
                    (.bad)))
                  (.br (x8 == 43)
                   (.br x40
                    (.br x41
                     (.out ⟨3, [x32, x38, x43, x49, x7, 0, 0, 0, 0, 2, x8, x9, x11, x12, x13], [x35, x36, x37, x46, x47, x48, false, false], [x33, x34, x4, x44, x45, x5, x6], [], [], []⟩)
                     (.bad))
                    (.br x39
                     (.out ⟨3, [x32, x38, x32, x38, x7, 0, 0, 0, 0, 0, x8, x9, x11, x12, x13], [x35, x36, x37, x35, x36, x37, false, false], [x33, x34, x4, x33, x34, x5, x6], [], [], []⟩)
                     (.bad)))
                   (.br (x8 == 44)
                    (.br (x50.k == 1)
                     (.out ⟨3, [IntKind.u32.wrap (i2 + 4), i3, IntKind.u32.wrap (i2 + 4), i3, x7, 0, 0, x50.i.getD 0 0, x50.i.getD 1 0, 0, x8, x9, x11, x12, x13], [b3, false, b4, b3, false, b4, false, false], [l3, l4, x4, l3, l4, x5, x6], [], [], []⟩)
                     (.bad))
                    (.br (x8 == 46)
                     (.br x54
                      (.out ⟨3, [IntKind.u32.wrap (i2 + 4), i3, IntKind.u32.wrap (i2 + 4), i3, x7, x13, x53, 0, 0, 0, x8, x9, x11, x12, x13], [b3, false, b4, b3, false, b4, true, x52], [l3, l4, x4, l3, l4, x5, x6], [], [], []⟩)
                      (.bad))
                     (.br (x8 == 47)
                      (.br x54
                       (.out ⟨3, [IntKind.u32.wrap (i2 + 4), i3, IntKind.u32.wrap (i2 + 4), i3, x7, x13, x53, 0, 0, 0, x8, x9, x11, x12, x13], [b3, false, b4, b3, false, b4, true, x52], [l3, l4, x4, l3, l4, x5, x6], [], [], []⟩)
                       (.bad))
                      (.br (x55.k == 1)
                       (.out ⟨3, [x56, x63, x56, x63, x7, 0, 0, 0, 0, 0, x8, x9, x11, x12, x13], [x60, x61, x62, x60, x61, x62, false, false], [x58, x59, x4, x58, x59, x5, x6], [], [], []⟩)
                       (.br (x55.k == 2)
                        (.br (aA Pg F 34 [aD i5 l6 l7 b5 b6 b7 i6, dM 1 0 x56])
                         (.out ⟨3, [IntKind.u32.wrap (i2 + 4), i3, aj (x57.getD 0 .dead), aj (x57.getD 6 .dead), x7, 0, 0, 0, 0, 1, x8, x9, x11, x12, x13], [b3, false, b4, au (x57.getD 3 .dead), au (x57.getD 4 .dead), au (x57.getD 5 .dead), false, false], [l3, l4, x4, ak (x57.getD 1 .dead), ak (x57.getD 2 .dead), x5, x6], [], [], []⟩)
                         (.bad))
                        (.bad)))))))))))))))
          (.bad))
         (.br (x3.k == 4)
          (.br (aA Pg F 34 [aD i5 l6 l7 b5 b6 b7 i6, dM x9 i5 i5])
           (.out ⟨2, [i2, aj (x10.getD 0 .dead), aj (x10.getD 6 .dead), 0, x9, 0, 0, 0, 0, 0], [au (x10.getD 3 .dead), au (x10.getD 4 .dead), au (x10.getD 5 .dead)], [x4, ak (x10.getD 1 .dead), ak (x10.getD 2 .dead), x5, x6], [], [], []⟩)
           (.bad))
          (.bad))))))
     (.bad)
def sH (F : Tab) (i0 : Int) (l0 l1 : List AV) (b0 b1 b2 : Bool) (i1 : Int) (l2 : List AV) (i2 : Int) (l3 l4 : List AV) (b3 b4 : Bool) (i3 : Int) (l5 : List AV) (i4 i5 : Int) (l6 l7 : List AV) (b5 b6 b7 : Bool) (i6 : Int) : LO := (uW F i0 l0 l1 b0 b1 b2 i1 l2 i2 l3 l4 b3 b4 i3 l5 i4 i5 l6 l7 b5 b6 b7 i6).eval fun _ => LO.bad
def Uc (i0 : Int) (l0 l1 : List AV) (b0 b1 b2 : Bool) (i1 : Int) (l2 : List AV) (i2 : Int) (l3 l4 : List AV) (b3 b4 : Bool) (i3 : Int) (l5 : List AV) (i4 i5 : Int) (l6 l7 : List AV) (b5 b6 b7 : Bool) (i6 : Int) : Mm := ⟨[.var 26 (aD i0 l0 l1 b0 b1 b2 i1), .var 29 (aC l2), .var 38 (BG), .var 63 (.agg 62 [aD i2 l3 l4 b3 false b4 i3, aC l5, .int .u32 i4, .agg 37 [.bool true, dh, aD i5 l6 l7 b5 b6 b7 i6, .int .u32 0, .slice 57 [] true, .slice 59 [] true, .bool false, aY, .int .i64 0, .int .u32 0, .int .i64 0], nK])], []⟩
def ME (i0 : Int) (l0 l1 : List AV) (b0 b1 b2 : Bool) (i1 : Int) (l2 : List AV) (i2 : Int) (l3 l4 : List AV) (b3 b4 : Bool) (i3 : Int) (l5 : List AV) (i4 i5 : Int) (l6 l7 : List AV) (b5 b6 b7 : Bool) (i6 : Int) (lo : LO) : LT :=
 .br (lo.k == 1) (.done .ret (aT 1 [(0, .tuple [])] []) ⟨[.var 26 (aD i0 l0 l1 b0 b1 b2 i1), .var 29 (aC l2), .var 38 (BG), .var 63 (.agg 62 [aD i2 l3 l4 b3 false b4 i3, aC l5, .int .u32 i4, .agg 37 [.bool true, aD (lo.I 0) (lo.L 0) (lo.L 1) (lo.B 0) (lo.B 1) (lo.B 2) (lo.I 1), aD i5 l6 l7 b5 b6 b7 i6, .int .u32 0, .slice 57 [] true, .slice 59 [] true, .bool false, aY, .int .i64 0, .int .u32 0, .int .i64 (lo.I 2)], nK])], []⟩) (.br (lo.k == 2) (.done .ret (aT 1 [(0, .tuple [])] []) ⟨[.var 26 (aD i0 l0 l1 b0 b1 b2 i1), .var 29 (aC l2), .var 38 (cO), .var 63 (.agg 62 [aD (lo.I 0) l3 l4 b3 false b4 i3, aC (lo.L 0), .int .u32 i4, oW true (lo.I 1) (lo.L 1) (lo.L 2) (lo.B 0) (lo.B 1) (lo.B 2) (lo.I 2) i5 l6 l7 b5 b6 b7 i6 (lo.I 3) (lo.L 3) (lo.L 4) false aY 0 0 (lo.I 4), bE (lo.I 5) (lo.I 6) (lo.I 7) (lo.I 8) (lo.I 9)])], [(2, [4]), (2, [5]), (3, [3, 4]), (3, [3, 5])]⟩) (.br (lo.k == 3) (.done .ret (aT 1 [(0, .tuple [])] []) ⟨[.var 26 (aD i0 l0 l1 b0 b1 b2 i1), .var 29 (aC l2), .var 38 (cO), .var 63 (.agg 62 [aD (lo.I 0) (lo.L 0) (lo.L 1) (lo.B 0) (lo.B 1) (lo.B 2) (lo.I 1), aC (lo.L 2), .int .u32 i4, dI true (lo.I 2) (lo.L 3) (lo.L 4) (lo.B 3) (lo.B 4) (lo.B 5) (lo.I 3) i5 l6 l7 b5 b6 b7 i6 (lo.I 4) (lo.L 5) (lo.L 6) (lo.B 6) (lo.B 7) (lo.I 5) (lo.I 6) (lo.I 7) (lo.I 8) (lo.I 9), bE (lo.I 10) (lo.I 11) (lo.I 12) (lo.I 13) (lo.I 14)])], [(3, [3, 5]), (2, [4]), (2, [5]), (3, [3, 4])]⟩) (.br (lo.k == 4) (.done .ret (aT 1 [(0, .tuple [])] []) ⟨[.var 26 (aD i0 l0 l1 b0 b1 b2 i1), .var 29 (aC l2), .var 38 (cO), .var 63 (.agg 62 [aD (lo.I 0) (lo.L 0) l4 b3 false b4 i3, aC (lo.L 1), .int .u32 i4, oW true (lo.I 1) (lo.L 2) l4 b3 false b4 i3 i5 l6 l7 b5 b6 b7 i6 (lo.I 2) (lo.L 3) (lo.L 4) false aY 0 0 0, bE (lo.I 3) (lo.I 4) (lo.I 5) (lo.I 6) (lo.I 7)])], [(3, [3, 4]), (3, [3, 5]), (2, [4]), (2, [5])]⟩) (.fail))))
def UO (i0 : Int) (l0 l1 : List AV) (b0 b1 b2 : Bool) (i1 : Int) (l2 : List AV) (i2 : Int) (l3 l4 : List AV) (b3 b4 : Bool) (i3 : Int) (l5 : List AV) (i4 i5 : Int) (l6 l7 : List AV) (b5 b6 b7 : Bool) (i6 : Int) : List AV := [.ptr 3 [] 63 0]
def Aj : ArP := ⟨[.ptr 3 [] 63 (some 0)], [.var 26 (eH), .var 29 (.agg 28 [.slice 139 false]), .var 38 (FM), .var 63 (FE)], []⟩
abbrev Ve {α : Type} (f : Int -> List AV -> List AV -> Bool -> Bool -> Bool -> Int -> List AV -> Int -> List AV -> List AV -> Bool -> Bool -> Int -> List AV -> Int -> Int -> List AV -> List AV -> Bool -> Bool -> Bool -> Int -> α) (args : List AV) (M : Mm) : α := f (aj (pA (vR M 0) 0)) (ak (pA (vR M 0) 1)) (ak (pA (vR M 0) 2)) (au (pA (vR M 0) 3)) (au (pA (vR M 0) 4)) (au (pA (vR M 0) 5)) (aj (pA (vR M 0) 6)) (av (pA (vR M 1) 0)) (aj (pA (pA (vR M 3) 0) 0)) (ak (pA (pA (vR M 3) 0) 1)) (ak (pA (pA (vR M 3) 0) 2)) (au (pA (pA (vR M 3) 0) 3)) (au (pA (pA (vR M 3) 0) 5)) (aj (pA (pA (vR M 3) 0) 6)) (av (pA (pA (vR M 3) 1) 0)) (aj (pA (vR M 3) 2)) (aj (pA (pA (pA (vR M 3) 3) 2) 0)) (ak (pA (pA (pA (vR M 3) 3) 2) 1)) (ak (pA (pA (pA (vR M 3) 3) 2) 2)) (au (pA (pA (pA (vR M 3) 3) 2) 3)) (au (pA (pA (pA (vR M 3) 3) 2) 4)) (au (pA (pA (pA (vR M 3) 3) 2) 5)) (aj (pA (pA (pA (vR M 3) 3) 2) 6))
def KM (F : Tab) (i0 : Int) (l0 l1 : List AV) (b0 b1 b2 : Bool) (i1 : Int) (l2 : List AV) (i2 : Int) (l3 l4 : List AV) (b3 b4 : Bool) (i3 : Int) (l5 : List AV) (i4 i5 : Int) (l6 l7 : List AV) (b5 b6 b7 : Bool) (i6 : Int) : LT := ME i0 l0 l1 b0 b1 b2 i1 l2 i2 l3 l4 b3 b4 i3 l5 i4 i5 l6 l7 b5 b6 b7 i6 (sH F i0 l0 l1 b0 b1 b2 i1 l2 i2 l3 l4 b3 b4 i3 l5 i4 i5 l6 l7 b5 b6 b7 i6)
def LC (F : Tab) (dep : Nat) (args : List AV) (M : Mm) : Option LT := if Nat.beq dep 4 && Aj.ok args M then some (Ve (KM F) args M) else none
def wR : ArP := ⟨[], [.var 26 (eH), .var 29 (.agg 28 [.slice 139 false]), .var 38 (iP), .var 63 (iC), .var 61 (.ptr 3 [] 63 (some 0))], [(3, [3, 5]), (2, [4]), (2, [5]), (3, [3, 4])]⟩
def Gg (dep : Nat) (args : List AV) (M : Mm) : Option (AV × List Row) :=
 if Nat.beq dep 4 && wR.ok args M then some (.mapv (some 5), [.map 3 111 [(.int .i64 28, .func (.func 75) [] []), (.int .i64 29, .func (.func 75) [] []), (.int .i64 30, .func (.func 75) [] []), (.int .i64 31, .func (.func 75) [] []), (.int .i64 32, .func (.func 76) [] []), (.int .i64 33, .func (.func 76) [] []), (.int .i64 42, .func (.func 77) [] []), (.int .i64 43, .func (.func 77) [] []), (.int .i64 44, .func (.func 78) [] []), (.int .i64 46, .func (.func 79) [] []), (.int .i64 47, .func (.func 79) [] [])]]) else none
def kn : List FuncId := [3, 6, 7, 8, 9, 10, 11, 12, 16, 17, 18, 19, 20, 22, 23, 24, 25, 26, 27, 28, 29, 30, 31, 32, 33, 34, 35, 36, 37, 39, 40, 41, 43, 46, 50, 51, 52, 53, 54, 55, 56, 57, 58, 59, 60, 61, 63, 64, 65, 68, 72, 80, 81, 82, 83, 84, 85, 86, 87, 88, 89, 90, 91, 92, 93, 94, 95, 96, 100, 101, 102, 103, 104, 105, 106, 107, 108, 110, 111, 112, 113, 114, 118, 119, 120, 121, 122, 123, 124, 125]
noncomputable def cx (F : Tab) : Ctx where
 P := Pg
 n := 100000
 muta := fun f => jl f [66, 69]
 spec := CP Pg kn F
 kept := fun f id => match f, id with
  | 8, 4 => some ([2, 3, 5], [2, 3, 4])
  | 8, 9 => some ([2, 3, 6], [4])
  | 23, 3 => some ([1, 4, 5, 6], [4])
  | 25, 3 => some ([3, 6, 7, 8], [3, 6, 7])
  | 25, 7 => some ([3, 6, 7, 9], [3, 6, 7])
  | 27, 6 => some ([1, 3, 6, 8, 9], [6, 8])
  | 36, 4 => some ([2, 4, 6, 7, 16, 17, 18], [4, 5, 6])
  | 37, 3 => some ([1, 2, 4, 5, 6], [4, 5])
  | 40, 6 => some ([3, 4, 6, 7], [4, 6])
  | 43, 4 => some ([1, 12], [4, 5])
  | 71, 3 => some ([0, 1, 7, 8, 37, 38, 39], [0, 1, 7, 8])
  | 71, 8 => some ([0, 1, 7, 8, 48, 49, 50], [0, 1, 7, 8])
  | 93, 3 => some ([0, 1, 2, 7, 8], [7])
  | 94, 3 => some ([0, 3, 4], [3])
  | 99, 1 => some ([1, 2, 3], [])
  | _, _ => none
 ends := fun dep f id fr M => match f, id with
  | 8, 4 => OU F dep fr M
  | 8, 9 => M7 F dep fr M
  | 23, 3 => O4 F dep fr M
  | 25, 3 => Pp F dep fr M
  | 25, 7 => PY F dep fr M
  | 27, 6 => Na F dep fr M
  | 36, 4 => Jq F dep fr M
  | 37, 3 => KQ F dep fr M
  | 40, 6 => Kn F dep fr M
  | 43, 4 => Mi F dep fr M
  | 71, 3 => P5 F dep fr M
  | 71, 8 => Ju F dep fr M
  | 93, 3 => Nq F dep fr M
  | 94, 3 => Ma F dep fr M
  | 99, 1 => J4 F dep fr M
  | _, _ => none
 acts := fun dep f args M => match f with
  | 21 => LC F dep args M
  | 45 => JJ F dep args M
  | 47 => Qn F dep args M
  | 49 => Oy F dep args M
  | 70 => (match I4 F dep args M with | some t => some t | none => JM F dep args M)
  | 71 => (match JL F dep args M with | some t => some t | none => IC F dep args M)
  | 74 => (match Ns F dep args M with | some t => some t | none => (match MI F dep args M with | some t => some t | none => PO F dep args M))
  | 75 => JF F dep args M
  | 76 => NK F dep args M
  | 77 => NJ F dep args M
  | 78 => LU F dep args M
  | 79 => I6 F dep args M
  | _ => none
 news := fun dep f args M => match f with
  | 48 => Gg dep args M
  | _ => none
 newf := fun f => jl f [48]
 pln := fun t => jl t [27]
 actf := fun f => jl f [71]
end
end Go.Proofs.YtcknhfnbdgleiaaGreat
