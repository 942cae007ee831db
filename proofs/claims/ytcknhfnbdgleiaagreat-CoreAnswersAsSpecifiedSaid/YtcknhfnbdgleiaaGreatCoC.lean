/- What the loops come to, as functions of their own; the context. (Printed by a program of mine, gen.py.) -/
import Derived.Test.YtcknhfnbdgleiaaGreatEvD
import Derived.Test.YtcknhfnbdgleiaaGreatRows
set_option linter.unusedVariables false
set_option linter.unusedSimpArgs false
namespace Go.Proofs.YtcknhfnbdgleiaaGreat
open Go.AE
noncomputable section
abbrev Pg : Program := Tryz.checked.prog
abbrev aD (x0 : List AV) : AV := .agg 28 [.slice 139 x0 false]
abbrev cu (x0 : Bool) (x1 : Int) (x2 x3 : List AV) (x4 x5 x6 : Bool) (x7 x8 : Int) (x9 x10 : List AV) (x11 x12 x13 : Bool) (x14 x15 : Int) (x16 x17 : List AV) (x18 x19 : Bool) (x20 x21 x22 x23 x24 : Int) : AV := .agg 37 [.bool x0, .agg 25 [.int .u32 x1, .agg 23 x2, .agg 24 x3, .bool x4, .bool x5, .bool x6, .int .i64 x7], .agg 25 [.int .u32 x8, .agg 23 x9, .agg 24 x10, .bool x11, .bool x12, .bool x13, .int .i64 x14], .int .u32 x15, .slice 57 x16 false, .slice 59 x17 false, .bool x18, .agg 35 [.bool x19, .int .i64 x20, .int .u32 x21], .int .i64 x22, .int .u32 x23, .int .i64 x24]
abbrev mY (x0 x1 : Int) (x2 : Bool) : AV := .agg 58 [.int .i64 x0, .int .i64 x1, .bool x2]
abbrev aG (x0 : Int) (x1 x2 : List AV) (x3 x4 x5 : Bool) (x6 : Int) : AV := .agg 25 [.int .u32 x0, .agg 23 x1, .agg 24 x2, .bool x3, .bool x4, .bool x5, .int .i64 x6]
abbrev dS (x0 : Int) (x1 x2 : List AV) (x3 x4 x5 : Bool) (x6 : Int) (x7 : List AV) (x8 : Int) (x9 : Bool) (x10 : AV) (x11 : Int) (x12 x13 : List AV) (x14 x15 x16 : Bool) (x17 x18 : Int) (x19 x20 : List AV) (x21 : Bool) (x22 : AV) (x23 x24 x25 x26 x27 x28 x29 x30 : Int) : AV := .agg 62 [.agg 25 [.int .u32 x0, .agg 23 x1, .agg 24 x2, .bool x3, .bool x4, .bool x5, .int .i64 x6], .agg 28 [.slice 139 x7 false], .int .u32 x8, .agg 37 [.bool x9, x10, .agg 25 [.int .u32 x11, .agg 23 x12, .agg 24 x13, .bool x14, .bool x15, .bool x16, .int .i64 x17], .int .u32 x18, .slice 57 x19 false, .slice 59 x20 false, .bool x21, x22, .int .i64 x23, .int .u32 x24, .int .i64 x25], .agg 54 [.int .i64 x26, .int .i64 x27, .int .i64 x28, .int .i64 x29, .int .i64 x30]]
abbrev aW (x0 x1 : Int) (x2 x3 : List AV) : AV := .agg 117 [.int .i64 x0, .int .i64 x1, .slice 57 x2 false, .slice 3 x3 false]
abbrev bq (x0 x1 x2 : Int) : AV := .agg 56 [.int .i64 x0, .int .i64 x1, .int .u32 x2]
abbrev aO (x0 : Bool) (x1 : Int) (x2 x3 : List AV) (x4 x5 x6 : Bool) (x7 x8 : Int) (x9 x10 : List AV) (x11 x12 x13 : Bool) (x14 x15 : Int) (x16 x17 : List AV) (x18 x19 : Bool) (x20 x21 x22 x23 x24 : Int) (x25 : List AV) : AV := .agg 64 [.agg 37 [.bool x0, .agg 25 [.int .u32 x1, .agg 23 x2, .agg 24 x3, .bool x4, .bool x5, .bool x6, .int .i64 x7], .agg 25 [.int .u32 x8, .agg 23 x9, .agg 24 x10, .bool x11, .bool x12, .bool x13, .int .i64 x14], .int .u32 x15, .slice 57 x16 false, .slice 59 x17 false, .bool x18, .agg 35 [.bool x19, .int .i64 x20, .int .u32 x21], .int .i64 x22, .int .u32 x23, .int .i64 x24], .agg 28 [.slice 139 x25 false]]
abbrev mV (x0 x1 : Int) (x2 x3 : List AV) (x4 : Int) : AV := .agg 119 [.agg 117 [.int .i64 x0, .int .i64 x1, .slice 57 x2 false, .slice 3 x3 false], .int .i64 x4]
abbrev vF (x0 : List AV) (x1 : Bool) : AV := .agg 94 [.agg 28 [.slice 139 x0 false], .bool x1]
abbrev dR (x0 x1 x2 : Int) : AV := .agg 88 [.int .i64 x0, .int .u32 x1, .int .u32 x2]
abbrev Bz (x0 : Int) (x1 x2 : List AV) (x3 x4 x5 : Bool) (x6 : Int) (x7 : List AV) (x8 : Int) (x9 : Bool) (x10 : AV) (x11 : Int) (x12 x13 : List AV) (x14 x15 x16 : Bool) (x17 x18 : Int) (x19 x20 : List AV) (x21 : Bool) (x22 : AV) (x23 x24 x25 : Int) (x26 : AV) : AV := .agg 62 [.agg 25 [.int .u32 x0, .agg 23 x1, .agg 24 x2, .bool x3, .bool x4, .bool x5, .int .i64 x6], .agg 28 [.slice 139 x7 false], .int .u32 x8, .agg 37 [.bool x9, x10, .agg 25 [.int .u32 x11, .agg 23 x12, .agg 24 x13, .bool x14, .bool x15, .bool x16, .int .i64 x17], .int .u32 x18, .slice 57 x19 false, .slice 59 x20 false, .bool x21, x22, .int .i64 x23, .int .u32 x24, .int .i64 x25], x26]
abbrev bG (x0 x1 x2 x3 x4 : Int) : AV := .agg 54 [.int .i64 x0, .int .i64 x1, .int .i64 x2, .int .i64 x3, .int .i64 x4]
abbrev FM (x0 : Bool) (x1 x2 : Int) : AV := .agg 35 [.bool x0, .int .i64 x1, .int .u32 x2]
abbrev lQ (x0 : Bool) (x1 : Int) (x2 x3 : List AV) (x4 x5 x6 : Bool) (x7 x8 : Int) (x9 x10 : List AV) (x11 x12 x13 : Bool) (x14 x15 : Int) (x16 x17 : List AV) (x18 : Bool) (x19 : AV) (x20 x21 x22 : Int) : AV := .agg 37 [.bool x0, .agg 25 [.int .u32 x1, .agg 23 x2, .agg 24 x3, .bool x4, .bool x5, .bool x6, .int .i64 x7], .agg 25 [.int .u32 x8, .agg 23 x9, .agg 24 x10, .bool x11, .bool x12, .bool x13, .int .i64 x14], .int .u32 x15, .slice 57 x16 false, .slice 59 x17 false, .bool x18, x19, .int .i64 x20, .int .u32 x21, .int .i64 x22]
abbrev xY (x0 : Bool) (x1 : Int) (x2 x3 : List AV) (x4 x5 x6 : Bool) (x7 : Int) (x8 : AV) (x9 : Int) (x10 x11 : List AV) (x12 : Bool) (x13 : AV) (x14 x15 x16 : Int) : AV := .agg 37 [.bool x0, .agg 25 [.int .u32 x1, .agg 23 x2, .agg 24 x3, .bool x4, .bool x5, .bool x6, .int .i64 x7], x8, .int .u32 x9, .slice 57 x10 false, .slice 59 x11 false, .bool x12, x13, .int .i64 x14, .int .u32 x15, .int .i64 x16]
abbrev uI (x0 : Bool) (x1 : AV) (x2 : Int) (x3 x4 : List AV) (x5 x6 x7 : Bool) (x8 x9 : Int) (x10 x11 : List AV) (x12 : Bool) (x13 : AV) (x14 x15 x16 : Int) (x17 : List AV) : AV := .agg 64 [.agg 37 [.bool x0, x1, .agg 25 [.int .u32 x2, .agg 23 x3, .agg 24 x4, .bool x5, .bool x6, .bool x7, .int .i64 x8], .int .u32 x9, .slice 57 x10 false, .slice 59 x11 false, .bool x12, x13, .int .i64 x14, .int .u32 x15, .int .i64 x16], .agg 28 [.slice 139 x17 false]]
abbrev jA (x0 x1 : Int) : AV := .agg 132 [.int .u32 x0, .int .i64 x1]
abbrev qc (x0 x1 : Int) (x2 x3 x4 : Bool) : AV := .agg 184 [.int .i64 x0, .int .i64 x1, .bool x2, .bool x3, .bool x4]
abbrev BL (x0 x1 x2 : Int) (x3 : List AV) (x4 : Bool) : AV := .agg 153 [.int .i64 x0, .int .i64 x1, .int .i64 x2, .slice 3 x3 false, .bool x4]
abbrev yG (x0 : AV) (x1 x2 : List AV) (x3 x4 x5 : Bool) (x6 : Int) : AV := .agg 25 [x0, .agg 23 x1, .agg 24 x2, .bool x3, .bool x4, .bool x5, .int .i64 x6]
abbrev zz3 : List AV := [.int .u32 0, .int .u32 0, .int .u32 0, .int .u32 0, .int .u32 0, .int .u32 0, .int .u32 0, .int .u32 0, .int .u32 0, .int .u32 0, .int .u32 0, .int .u32 0, .int .u32 0, .int .u32 0, .int .u32 0, .int .u32 0]
abbrev zz2 : AV := .agg 23 zz3
abbrev zz5 : List AV := [.int .u32 0, .int .u32 0, .int .u32 0, .int .u32 0, .int .u32 0, .int .u32 0, .int .u32 0, .int .u32 0, .int .u32 0]
abbrev zz4 : AV := .agg 24 zz5
abbrev zz6 : List AV := [.int .u32 0, zz2, zz4, .bool false, .bool false, .bool false, .int .i64 0]
abbrev fQ : AV := .agg 25 zz6
abbrev aZ : AV := FM false 0 0
abbrev zz8 : List AV := [.bool false, fQ, fQ, .int .u32 0, .slice 57 [] false, .slice 59 [] false, .bool false, aZ, .int .i64 0, .int .u32 0, .int .i64 0]
abbrev Cr : AV := .agg 37 zz8
abbrev Wx : List Pt := [.intC .u32 0, .intC .u32 0, .intC .u32 0, .intC .u32 0, .intC .u32 0, .intC .u32 0, .intC .u32 0, .intC .u32 0, .intC .u32 0, .intC .u32 0, .intC .u32 0, .intC .u32 0, .intC .u32 0, .intC .u32 0, .intC .u32 0, .intC .u32 0]
abbrev aa4 : Pt := .agg 23 Wx
abbrev aaf : List Pt := [.intC .u32 0, .intC .u32 0, .intC .u32 0, .intC .u32 0, .intC .u32 0, .intC .u32 0, .intC .u32 0, .intC .u32 0, .intC .u32 0]
abbrev V8 : Pt := .agg 24 aaf
abbrev Uq : List Pt := [.intC .u32 0, aa4, V8, .boolC false, .boolC false, .boolC false, .intC .i64 0]
abbrev tQ : Pt := .agg 25 Uq
abbrev UE : List Pt := [.boolC false, .intC .i64 0, .intC .u32 0]
abbrev Dl : Pt := .agg 35 UE
abbrev adB : List Pt := [.boolC false, tQ, tQ, .intC .u32 0, .sliceL 57 [] false, .sliceL 59 [] false, .boolC false, Dl, .intC .i64 0, .intC .u32 0, .intC .i64 0]
abbrev zz9 : Pt := .agg 37 adB
abbrev aaB : List Pt := [.int .u32, .aggO 23, .aggO 24, .bool, .boolC false, .bool, .int .i64]
abbrev Ji : Pt := .agg 25 aaB
abbrev VX : List Pt := [.int .u32, .aggO 23, .aggO 24, .bool, .bool, .bool, .int .i64]
abbrev eP : Pt := .agg 25 VX
abbrev xE : Pt := .agg 37 [.bool, eP, eP, .int .u32, .slice 57 false, .slice 59 false, .bool, .agg 35 [.bool, .int .i64, .int .u32], .int .i64, .int .u32, .int .i64]
abbrev Xy : List Pt := [xE, .agg 28 [.slice 139 false]]
abbrev JO : Pt := .agg 64 Xy
abbrev Vp : List AV := [aD [], .bool false]
abbrev Bg : AV := .agg 94 Vp
abbrev ac7 : List AV := [.int .i64 0, .int .i64 0, .int .i64 0, .int .i64 0, .int .i64 0]
abbrev nU : AV := .agg 54 ac7
abbrev aco : List AV := [.int .i64 16, .int .i64 1, .int .i64 0, .int .i64 0, .int .i64 5]
abbrev YI : AV := .agg 54 aco
abbrev BR : List AV := [YI]
abbrev Y9 : List AV := [.int .i64 21, .int .i64 2, .int .i64 0, .int .i64 0, .int .i64 8]
abbrev aal : AV := .agg 54 Y9
abbrev CJ : List AV := [aal]
abbrev abZ : List AV := [.int .i64 20, .int .i64 1, .int .i64 0, .int .i64 0, .int .i64 130]
abbrev WK : AV := .agg 54 abZ
abbrev zw : List AV := [WK]
abbrev ab9 : List AV := [.int .i64 20, .int .i64 1, .int .i64 0, .int .i64 0, .int .i64 128]
abbrev X0 : AV := .agg 54 ab9
abbrev Bd : List AV := [X0]
abbrev aaS : List AV := [.int .u8 0, .int .u8 0, .int .u8 0, .int .u8 0, .int .u8 0, .int .u8 0, .int .u8 0, .int .u8 0, .int .u8 0, .int .u8 0, .int .u8 0, .int .u8 0, .int .u8 0, .int .u8 0, .int .u8 0, .int .u8 0, .int .u8 0, .int .u8 0, .int .u8 0, .int .u8 0, .int .u8 0, .int .u8 0, .int .u8 0, .int .u8 0, .int .u8 0, .int .u8 0, .int .u8 0, .int .u8 0, .int .u8 0, .int .u8 0, .int .u8 0, .int .u8 0, .int .u8 0, .int .u8 0, .int .u8 0, .int .u8 0, .int .u8 0, .int .u8 0, .int .u8 0, .int .u8 0, .int .u8 0, .int .u8 0, .int .u8 0, .int .u8 0, .int .u8 0, .int .u8 0, .int .u8 0, .int .u8 0, .int .u8 0, .int .u8 0, .int .u8 0, .int .u8 0, .int .u8 0, .int .u8 0, .int .u8 0, .int .u8 0, .int .u8 0, .int .u8 0, .int .u8 0, .int .u8 0, .int .u8 0, .int .u8 0, .int .u8 0, .int .u8 0, .int .u8 0, .int .u8 0, .int .u8 0, .int .u8 0, .int .u8 0, .int .u8 0, .int .u8 0, .int .u8 0, .int .u8 0, .int .u8 0, .int .u8 0, .int .u8 0, .int .u8 0, .int .u8 0, .int .u8 0, .int .u8 0, .int .u8 0, .int .u8 0, .int .u8 0, .int .u8 0, .int .u8 0, .int .u8 0, .int .u8 0, .int .u8 0, .int .u8 0, .int .u8 0, .int .u8 0, .int .u8 0, .int .u8 0, .int .u8 0, .int .u8 0, .int .u8 0, .int .u8 0, .int .u8 0, .int .u8 0, .int .u8 0, .int .u8 0, .int .u8 0, .int .u8 0, .int .u8 0, .int .u8 0, .int .u8 0, .int .u8 0, .int .u8 0, .int .u8 0, .int .u8 0, .int .u8 0, .int .u8 0, .int .u8 0, .int .u8 0, .int .u8 0, .int .u8 0, .int .u8 0, .int .u8 0, .int .u8 0, .int .u8 0, .int .u8 0, .int .u8 0, .int .u8 0, .int .u8 0, .int .u8 0, .int .u8 0, .int .u8 0, .int .u8 0]
abbrev VU : AV := .agg 138 aaS
abbrev UO : List AV := [VU]
abbrev aaK : List AV := [.slice 139 UO false]
abbrev sO : AV := .agg 28 aaK
abbrev RX : List AV := [.int .i64 40, .int .i64 0, .int .i64 0, .int .i64 0, .int .i64 0]
abbrev acB : AV := .agg 54 RX
abbrev Dc : List AV := [acB]
abbrev Xc : List AV := [.int .i64 46, .int .i64 1, .int .i64 0, .int .i64 0, .int .i64 33]
abbrev abB : AV := .agg 54 Xc
abbrev zV : List AV := [abB]
abbrev zx : List AV := [nU, .bool false]
abbrev FQ : AV := .agg 77 zx
abbrev Tz : List AV := [.int .i64 0, .int .i64 0, .slice 57 [] false, .slice 3 [] false]
abbrev vZ : AV := .agg 117 Tz
abbrev Jo : List AV := [.int .i64 0, .int .i64 5, .int .i64 6, .int .i64 6, .int .i64 4]
abbrev T0 := Int × List AV × List AV × List AV
abbrev T1 := Int × Bool × Int × List AV × List AV × Bool × Bool × Bool × Int × Int × List AV × List AV × Bool × Bool × Bool × Int × Int × List AV × List AV × Bool × Bool × Int × Int × Int × Int × Int × List AV
abbrev T2 := Int × List AV × List AV
abbrev T3 := Int × List AV × Bool
def dx : AV := Cr
def cZ : AV := fQ
def iR : Pt := zz9
def iU : Pt := .agg 62 [Ji, .agg 28 [.slice 139 false], .int .u32, .agg 37 [.boolC true, tQ, eP, .int .u32, .slice 57 false, .slice 59 false, .boolC false, Dl, .intC .i64 0, .intC .u32 0, .intC .i64 0], .agg 54 [.int .i64, .int .i64, .int .i64, .int .i64, .int .i64]]
def Co : AV := .agg 70 [.agg 64 [Cr, aD []], .int .i64 0, .int .i64 0]
def kp5 : Pt := .agg 70 [.agg 64 [zz9, .agg 28 [.sliceL 139 [] false]], .intC .i64 0, .intC .i64 0]
def CG : AV := .agg 37 [.bool false, fQ, fQ, .int .u32 0, .slice 57 [] true, .slice 59 [] true, .bool false, aZ, .int .i64 0, .int .u32 0, .int .i64 0]
def Ic : Pt := .agg 37 [.boolC false, tQ, tQ, .intC .u32 0, .sliceL 57 [] true, .sliceL 59 [] true, .boolC false, Dl, .intC .i64 0, .intC .u32 0, .intC .i64 0]
def Ie : Pt := .agg 62 [Ji, .agg 28 [.slice 139 false], .int .u32, .agg 37 [.boolC true, tQ, eP, .intC .u32 0, .sliceL 57 [] true, .sliceL 59 [] true, .boolC false, Dl, .intC .i64 0, .intC .u32 0, .intC .i64 0], .agg 54 [.intC .i64 0, .intC .i64 0, .intC .i64 0, .intC .i64 0, .intC .i64 0]]
def jV : Row := .map 3 111 [(.int .i64 28, .func (.func 75) [] []), (.int .i64 29, .func (.func 75) [] []), (.int .i64 30, .func (.func 75) [] []), (.int .i64 31, .func (.func 75) [] []), (.int .i64 32, .func (.func 76) [] []), (.int .i64 33, .func (.func 76) [] []), (.int .i64 42, .func (.func 77) [] []), (.int .i64 43, .func (.func 77) [] []), (.int .i64 44, .func (.func 78) [] []), (.int .i64 46, .func (.func 79) [] []), (.int .i64 47, .func (.func 79) [] [])]
def uh : RPt := .map 3 111 [(.intC .i64 28, .func 75 [] []), (.intC .i64 29, .func 75 [] []), (.intC .i64 30, .func 75 [] []), (.intC .i64 31, .func 75 [] []), (.intC .i64 32, .func 76 [] []), (.intC .i64 33, .func 76 [] []), (.intC .i64 42, .func 77 [] []), (.intC .i64 43, .func 77 [] []), (.intC .i64 44, .func 78 [] []), (.intC .i64 46, .func 79 [] []), (.intC .i64 47, .func 79 [] [])]
def Hr (F : Tab) (b0 : Bool) (i1 : Int) (l0 l1 : List AV) (b1 b2 b3 : Bool) (i2 i3 : Int) (l2 l3 : List AV) (b4 b5 b6 : Bool) (i4 i5 : Int) (l4 l5 : List AV) (b7 b8 : Bool) (i6 i7 i8 i9 i10 : Int) (b9 : Bool) (i11 : Int) (l6 l7 : List AV) (b10 b11 b12 : Bool) (i12 i13 : Int) (l8 l9 : List AV) (b13 b14 b15 : Bool) (i14 i15 : Int) (l10 l11 : List AV) (b16 b17 : Bool) (i16 i17 i18 i19 i20 : Int) (i0 : Int) : Tr (Int) :=
    .br (decide (i0 < ((l4.length : Nat) : Int)))
     (.br (cond (aN i0 l4.length) (cond (aN i0 l10.length) true false) false)
      (.br (!(((aj ((au (l4.getD i0.toNat .dead)).getD 0 .dead)) == (aj ((au (l10.getD i0.toNat .dead)).getD 0 .dead))) && (((aj ((au (l4.getD i0.toNat .dead)).getD 1 .dead)) == (aj ((au (l10.getD i0.toNat .dead)).getD 1 .dead))) && (((aj ((au (l4.getD i0.toNat .dead)).getD 2 .dead)) == (aj ((au (l10.getD i0.toNat .dead)).getD 2 .dead))) && true))))
       (.out ⟨1, [], [], [], [], [], []⟩)
       (.next (IntKind.i64.wrap (i0 + 1))))
      (.bad))
     (.out ⟨2, [], [], [], [], [], []⟩)
def uK (F : Tab) (b0 : Bool) (i1 : Int) (l0 l1 : List AV) (b1 b2 b3 : Bool) (i2 i3 : Int) (l2 l3 : List AV) (b4 b5 b6 : Bool) (i4 i5 : Int) (l4 l5 : List AV) (b7 b8 : Bool) (i6 i7 i8 i9 i10 : Int) (b9 : Bool) (i11 : Int) (l6 l7 : List AV) (b10 b11 b12 : Bool) (i12 i13 : Int) (l8 l9 : List AV) (b13 b14 b15 : Bool) (i14 i15 : Int) (l10 l11 : List AV) (b16 b17 : Bool) (i16 i17 i18 i19 i20 : Int) (s : Int) : Tr (Int) := Hr F b0 i1 l0 l1 b1 b2 b3 i2 i3 l2 l3 b4 b5 b6 i4 i5 l4 l5 b7 b8 i6 i7 i8 i9 i10 b9 i11 l6 l7 b10 b11 b12 i12 i13 l8 l9 b13 b14 b15 i14 i15 l10 l11 b16 b17 i16 i17 i18 i19 i20 s
def abK (b0 : Bool) (i1 : Int) (l0 l1 : List AV) (b1 b2 b3 : Bool) (i2 i3 : Int) (l2 l3 : List AV) (b4 b5 b6 : Bool) (i4 i5 : Int) (l4 l5 : List AV) (b7 b8 : Bool) (i6 i7 i8 i9 i10 : Int) (b9 : Bool) (i11 : Int) (l6 l7 : List AV) (b10 b11 b12 : Bool) (i12 i13 : Int) (l8 l9 : List AV) (b13 b14 b15 : Bool) (i14 i15 : Int) (l10 l11 : List AV) (b16 b17 : Bool) (i16 i17 i18 i19 i20 : Int) : Int -> Fr := fun i0 => (aU 122 [(2, .ptr 0 [] 38 0), (3, .ptr 1 [] 38 0), (5, .int .i64 i0)] [])
def QW (b0 : Bool) (i1 : Int) (l0 l1 : List AV) (b1 b2 b3 : Bool) (i2 i3 : Int) (l2 l3 : List AV) (b4 b5 b6 : Bool) (i4 i5 : Int) (l4 l5 : List AV) (b7 b8 : Bool) (i6 i7 i8 i9 i10 : Int) (b9 : Bool) (i11 : Int) (l6 l7 : List AV) (b10 b11 b12 : Bool) (i12 i13 : Int) (l8 l9 : List AV) (b13 b14 b15 : Bool) (i14 i15 : Int) (l10 l11 : List AV) (b16 b17 : Bool) (i16 i17 i18 i19 i20 : Int) : Int -> Mm := fun i0 => ⟨[.var 38 (cu b0 i1 l0 l1 b1 b2 b3 i2 i3 l2 l3 b4 b5 b6 i4 i5 l4 l5 b7 b8 i6 i7 i8 i9 i10), .var 38 (cu b9 i11 l6 l7 b10 b11 b12 i12 i13 l8 l9 b13 b14 b15 i14 i15 l10 l11 b16 b17 i16 i17 i18 i19 i20)], []⟩
def LD (F : Tab) (b0 : Bool) (i1 : Int) (l0 l1 : List AV) (b1 b2 b3 : Bool) (i2 i3 : Int) (l2 l3 : List AV) (b4 b5 b6 : Bool) (i4 i5 : Int) (l4 l5 : List AV) (b7 b8 : Bool) (i6 i7 i8 i9 i10 : Int) (b9 : Bool) (i11 : Int) (l6 l7 : List AV) (b10 b11 b12 : Bool) (i12 i13 : Int) (l8 l9 : List AV) (b13 b14 b15 : Bool) (i14 i15 : Int) (l10 l11 : List AV) (b16 b17 : Bool) (i16 i17 i18 i19 i20 : Int) (fuel : Nat) (i0 : Int) : LO := Tr.run (uK F b0 i1 l0 l1 b1 b2 b3 i2 i3 l2 l3 b4 b5 b6 i4 i5 l4 l5 b7 b8 i6 i7 i8 i9 i10 b9 i11 l6 l7 b10 b11 b12 i12 i13 l8 l9 b13 b14 b15 i14 i15 l10 l11 b16 b17 i16 i17 i18 i19 i20) fuel (i0)
def MR (b0 : Bool) (i1 : Int) (l0 l1 : List AV) (b1 b2 b3 : Bool) (i2 i3 : Int) (l2 l3 : List AV) (b4 b5 b6 : Bool) (i4 i5 : Int) (l4 l5 : List AV) (b7 b8 : Bool) (i6 i7 i8 i9 i10 : Int) (b9 : Bool) (i11 : Int) (l6 l7 : List AV) (b10 b11 b12 : Bool) (i12 i13 : Int) (l8 l9 : List AV) (b13 b14 b15 : Bool) (i14 i15 : Int) (l10 l11 : List AV) (b16 b17 : Bool) (i16 i17 i18 i19 i20 : Int) (lo : LO) : LT :=
 .br (lo.k == 1) (.done .ret (aU 122 [(2, .ptr 0 [] 38 0), (3, .ptr 1 [] 38 0), (4, .bool false)] []) ⟨[.var 38 (cu b0 i1 l0 l1 b1 b2 b3 i2 i3 l2 l3 b4 b5 b6 i4 i5 l4 l5 b7 b8 i6 i7 i8 i9 i10), .var 38 (cu b9 i11 l6 l7 b10 b11 b12 i12 i13 l8 l9 b13 b14 b15 i14 i15 l10 l11 b16 b17 i16 i17 i18 i19 i20)], []⟩) (.br (lo.k == 2) (.done (.exit 0) (aU 122 [(2, .ptr 0 [] 38 0), (3, .ptr 1 [] 38 0)] []) ⟨[.var 38 (cu b0 i1 l0 l1 b1 b2 b3 i2 i3 l2 l3 b4 b5 b6 i4 i5 l4 l5 b7 b8 i6 i7 i8 i9 i10), .var 38 (cu b9 i11 l6 l7 b10 b11 b12 i12 i13 l8 l9 b13 b14 b15 i14 i15 l10 l11 b16 b17 i16 i17 i18 i19 i20)], []⟩) (.fail))
def Ag : StP := ⟨122, [(2, .ptr 0 [] 38 (some 0)), (3, .ptr 1 [] 38 (some 0)), (5, .int .i64)], [], [.var 38 (xE), .var 38 (xE)], []⟩
abbrev Sl {α : Type} (f : Bool -> Int -> List AV -> List AV -> Bool -> Bool -> Bool -> Int -> Int -> List AV -> List AV -> Bool -> Bool -> Bool -> Int -> Int -> List AV -> List AV -> Bool -> Bool -> Int -> Int -> Int -> Int -> Int -> Bool -> Int -> List AV -> List AV -> Bool -> Bool -> Bool -> Int -> Int -> List AV -> List AV -> Bool -> Bool -> Bool -> Int -> Int -> List AV -> List AV -> Bool -> Bool -> Int -> Int -> Int -> Int -> Int -> Int -> α) (fr : Fr) (M : Mm) : α := f (av (pA (vR M 0) 0)) (aj (pA (pA (vR M 0) 1) 0)) (au (pA (pA (vR M 0) 1) 1)) (au (pA (pA (vR M 0) 1) 2)) (av (pA (pA (vR M 0) 1) 3)) (av (pA (pA (vR M 0) 1) 4)) (av (pA (pA (vR M 0) 1) 5)) (aj (pA (pA (vR M 0) 1) 6)) (aj (pA (pA (vR M 0) 2) 0)) (au (pA (pA (vR M 0) 2) 1)) (au (pA (pA (vR M 0) 2) 2)) (av (pA (pA (vR M 0) 2) 3)) (av (pA (pA (vR M 0) 2) 4)) (av (pA (pA (vR M 0) 2) 5)) (aj (pA (pA (vR M 0) 2) 6)) (aj (pA (vR M 0) 3)) (ay (pA (vR M 0) 4)) (ay (pA (vR M 0) 5)) (av (pA (vR M 0) 6)) (av (pA (pA (vR M 0) 7) 0)) (aj (pA (pA (vR M 0) 7) 1)) (aj (pA (pA (vR M 0) 7) 2)) (aj (pA (vR M 0) 8)) (aj (pA (vR M 0) 9)) (aj (pA (vR M 0) 10)) (av (pA (vR M 1) 0)) (aj (pA (pA (vR M 1) 1) 0)) (au (pA (pA (vR M 1) 1) 1)) (au (pA (pA (vR M 1) 1) 2)) (av (pA (pA (vR M 1) 1) 3)) (av (pA (pA (vR M 1) 1) 4)) (av (pA (pA (vR M 1) 1) 5)) (aj (pA (pA (vR M 1) 1) 6)) (aj (pA (pA (vR M 1) 2) 0)) (au (pA (pA (vR M 1) 2) 1)) (au (pA (pA (vR M 1) 2) 2)) (av (pA (pA (vR M 1) 2) 3)) (av (pA (pA (vR M 1) 2) 4)) (av (pA (pA (vR M 1) 2) 5)) (aj (pA (pA (vR M 1) 2) 6)) (aj (pA (vR M 1) 3)) (ay (pA (vR M 1) 4)) (ay (pA (vR M 1) 5)) (av (pA (vR M 1) 6)) (av (pA (pA (vR M 1) 7) 0)) (aj (pA (pA (vR M 1) 7) 1)) (aj (pA (pA (vR M 1) 7) 2)) (aj (pA (vR M 1) 8)) (aj (pA (vR M 1) 9)) (aj (pA (vR M 1) 10)) ((aj (tA fr 5)))
def Mf (F : Tab) (b0 : Bool) (i1 : Int) (l0 l1 : List AV) (b1 b2 b3 : Bool) (i2 i3 : Int) (l2 l3 : List AV) (b4 b5 b6 : Bool) (i4 i5 : Int) (l4 l5 : List AV) (b7 b8 : Bool) (i6 i7 i8 i9 i10 : Int) (b9 : Bool) (i11 : Int) (l6 l7 : List AV) (b10 b11 b12 : Bool) (i12 i13 : Int) (l8 l9 : List AV) (b13 b14 b15 : Bool) (i14 i15 : Int) (l10 l11 : List AV) (b16 b17 : Bool) (i16 i17 i18 i19 i20 : Int) (s : Int) : LT := MR b0 i1 l0 l1 b1 b2 b3 i2 i3 l2 l3 b4 b5 b6 i4 i5 l4 l5 b7 b8 i6 i7 i8 i9 i10 b9 i11 l6 l7 b10 b11 b12 i12 i13 l8 l9 b13 b14 b15 i14 i15 l10 l11 b16 b17 i16 i17 i18 i19 i20 (Tr.run (uK F b0 i1 l0 l1 b1 b2 b3 i2 i3 l2 l3 b4 b5 b6 i4 i5 l4 l5 b7 b8 i6 i7 i8 i9 i10 b9 i11 l6 l7 b10 b11 b12 i12 i13 l8 l9 b13 b14 b15 i14 i15 l10 l11 b16 b17 i16 i17 i18 i19 i20) 100000 s)
def MB (F : Tab) (dep : Nat) (fr : Fr) (M : Mm) : Option LT := if Ag.ok fr M then some (Sl (Mf F) fr M) else none
def Ea (F : Tab) (b0 : Bool) (i1 : Int) (l0 l1 : List AV) (b1 b2 b3 : Bool) (i2 i3 : Int) (l2 l3 : List AV) (b4 b5 b6 : Bool) (i4 i5 : Int) (l4 l5 : List AV) (b7 b8 : Bool) (i6 i7 i8 i9 i10 : Int) (b9 : Bool) (i11 : Int) (l6 l7 : List AV) (b10 b11 b12 : Bool) (i12 i13 : Int) (l8 l9 : List AV) (b13 b14 b15 : Bool) (i14 i15 : Int) (l10 l11 : List AV) (b16 b17 : Bool) (i16 i17 i18 i19 i20 : Int) (i0 : Int) : Tr (Int) :=
    .br (decide (i0 < ((l5.length : Nat) : Int)))
     (.br (cond (aN i0 l5.length) (cond (aN i0 l11.length) true false) false)
      (.br (!(((aj ((au (l5.getD i0.toNat .dead)).getD 0 .dead)) == (aj ((au (l11.getD i0.toNat .dead)).getD 0 .dead))) && (((aj ((au (l5.getD i0.toNat .dead)).getD 1 .dead)) == (aj ((au (l11.getD i0.toNat .dead)).getD 1 .dead))) && (((av ((au (l5.getD i0.toNat .dead)).getD 2 .dead)) == (av ((au (l11.getD i0.toNat .dead)).getD 2 .dead))) && true))))
       (.out ⟨1, [], [], [], [], [], []⟩)
       (.next (IntKind.i64.wrap (i0 + 1))))
      (.bad))
     (.out ⟨2, [], [], [], [], [], []⟩)
def tX (F : Tab) (b0 : Bool) (i1 : Int) (l0 l1 : List AV) (b1 b2 b3 : Bool) (i2 i3 : Int) (l2 l3 : List AV) (b4 b5 b6 : Bool) (i4 i5 : Int) (l4 l5 : List AV) (b7 b8 : Bool) (i6 i7 i8 i9 i10 : Int) (b9 : Bool) (i11 : Int) (l6 l7 : List AV) (b10 b11 b12 : Bool) (i12 i13 : Int) (l8 l9 : List AV) (b13 b14 b15 : Bool) (i14 i15 : Int) (l10 l11 : List AV) (b16 b17 : Bool) (i16 i17 i18 i19 i20 : Int) (s : Int) : Tr (Int) := Ea F b0 i1 l0 l1 b1 b2 b3 i2 i3 l2 l3 b4 b5 b6 i4 i5 l4 l5 b7 b8 i6 i7 i8 i9 i10 b9 i11 l6 l7 b10 b11 b12 i12 i13 l8 l9 b13 b14 b15 i14 i15 l10 l11 b16 b17 i16 i17 i18 i19 i20 s
def Z8 (b0 : Bool) (i1 : Int) (l0 l1 : List AV) (b1 b2 b3 : Bool) (i2 i3 : Int) (l2 l3 : List AV) (b4 b5 b6 : Bool) (i4 i5 : Int) (l4 l5 : List AV) (b7 b8 : Bool) (i6 i7 i8 i9 i10 : Int) (b9 : Bool) (i11 : Int) (l6 l7 : List AV) (b10 b11 b12 : Bool) (i12 i13 : Int) (l8 l9 : List AV) (b13 b14 b15 : Bool) (i14 i15 : Int) (l10 l11 : List AV) (b16 b17 : Bool) (i16 i17 i18 i19 i20 : Int) : Int -> Fr := fun i0 => (aU 122 [(2, .ptr 0 [] 38 0), (3, .ptr 1 [] 38 0), (6, .int .i64 i0)] [])
def U2 (b0 : Bool) (i1 : Int) (l0 l1 : List AV) (b1 b2 b3 : Bool) (i2 i3 : Int) (l2 l3 : List AV) (b4 b5 b6 : Bool) (i4 i5 : Int) (l4 l5 : List AV) (b7 b8 : Bool) (i6 i7 i8 i9 i10 : Int) (b9 : Bool) (i11 : Int) (l6 l7 : List AV) (b10 b11 b12 : Bool) (i12 i13 : Int) (l8 l9 : List AV) (b13 b14 b15 : Bool) (i14 i15 : Int) (l10 l11 : List AV) (b16 b17 : Bool) (i16 i17 i18 i19 i20 : Int) : Int -> Mm := fun i0 => ⟨[.var 38 (cu b0 i1 l0 l1 b1 b2 b3 i2 i3 l2 l3 b4 b5 b6 i4 i5 l4 l5 b7 b8 i6 i7 i8 i9 i10), .var 38 (cu b9 i11 l6 l7 b10 b11 b12 i12 i13 l8 l9 b13 b14 b15 i14 i15 l10 l11 b16 b17 i16 i17 i18 i19 i20)], []⟩
def L6 (F : Tab) (b0 : Bool) (i1 : Int) (l0 l1 : List AV) (b1 b2 b3 : Bool) (i2 i3 : Int) (l2 l3 : List AV) (b4 b5 b6 : Bool) (i4 i5 : Int) (l4 l5 : List AV) (b7 b8 : Bool) (i6 i7 i8 i9 i10 : Int) (b9 : Bool) (i11 : Int) (l6 l7 : List AV) (b10 b11 b12 : Bool) (i12 i13 : Int) (l8 l9 : List AV) (b13 b14 b15 : Bool) (i14 i15 : Int) (l10 l11 : List AV) (b16 b17 : Bool) (i16 i17 i18 i19 i20 : Int) (fuel : Nat) (i0 : Int) : LO := Tr.run (tX F b0 i1 l0 l1 b1 b2 b3 i2 i3 l2 l3 b4 b5 b6 i4 i5 l4 l5 b7 b8 i6 i7 i8 i9 i10 b9 i11 l6 l7 b10 b11 b12 i12 i13 l8 l9 b13 b14 b15 i14 i15 l10 l11 b16 b17 i16 i17 i18 i19 i20) fuel (i0)
def ND (b0 : Bool) (i1 : Int) (l0 l1 : List AV) (b1 b2 b3 : Bool) (i2 i3 : Int) (l2 l3 : List AV) (b4 b5 b6 : Bool) (i4 i5 : Int) (l4 l5 : List AV) (b7 b8 : Bool) (i6 i7 i8 i9 i10 : Int) (b9 : Bool) (i11 : Int) (l6 l7 : List AV) (b10 b11 b12 : Bool) (i12 i13 : Int) (l8 l9 : List AV) (b13 b14 b15 : Bool) (i14 i15 : Int) (l10 l11 : List AV) (b16 b17 : Bool) (i16 i17 i18 i19 i20 : Int) (lo : LO) : LT :=
 .br (lo.k == 1) (.done .ret (aU 122 [(4, .bool false)] []) ⟨[.var 38 (cu b0 i1 l0 l1 b1 b2 b3 i2 i3 l2 l3 b4 b5 b6 i4 i5 l4 l5 b7 b8 i6 i7 i8 i9 i10), .var 38 (cu b9 i11 l6 l7 b10 b11 b12 i12 i13 l8 l9 b13 b14 b15 i14 i15 l10 l11 b16 b17 i16 i17 i18 i19 i20)], []⟩) (.br (lo.k == 2) (.done (.exit 2) (aU 122 [] []) ⟨[.var 38 (cu b0 i1 l0 l1 b1 b2 b3 i2 i3 l2 l3 b4 b5 b6 i4 i5 l4 l5 b7 b8 i6 i7 i8 i9 i10), .var 38 (cu b9 i11 l6 l7 b10 b11 b12 i12 i13 l8 l9 b13 b14 b15 i14 i15 l10 l11 b16 b17 i16 i17 i18 i19 i20)], []⟩) (.fail))
def Aj : StP := ⟨122, [(2, .ptr 0 [] 38 (some 0)), (3, .ptr 1 [] 38 (some 0)), (6, .int .i64)], [], [.var 38 (xE), .var 38 (xE)], []⟩
abbrev YJ {α : Type} (f : Bool -> Int -> List AV -> List AV -> Bool -> Bool -> Bool -> Int -> Int -> List AV -> List AV -> Bool -> Bool -> Bool -> Int -> Int -> List AV -> List AV -> Bool -> Bool -> Int -> Int -> Int -> Int -> Int -> Bool -> Int -> List AV -> List AV -> Bool -> Bool -> Bool -> Int -> Int -> List AV -> List AV -> Bool -> Bool -> Bool -> Int -> Int -> List AV -> List AV -> Bool -> Bool -> Int -> Int -> Int -> Int -> Int -> Int -> α) (fr : Fr) (M : Mm) : α := f (av (pA (vR M 0) 0)) (aj (pA (pA (vR M 0) 1) 0)) (au (pA (pA (vR M 0) 1) 1)) (au (pA (pA (vR M 0) 1) 2)) (av (pA (pA (vR M 0) 1) 3)) (av (pA (pA (vR M 0) 1) 4)) (av (pA (pA (vR M 0) 1) 5)) (aj (pA (pA (vR M 0) 1) 6)) (aj (pA (pA (vR M 0) 2) 0)) (au (pA (pA (vR M 0) 2) 1)) (au (pA (pA (vR M 0) 2) 2)) (av (pA (pA (vR M 0) 2) 3)) (av (pA (pA (vR M 0) 2) 4)) (av (pA (pA (vR M 0) 2) 5)) (aj (pA (pA (vR M 0) 2) 6)) (aj (pA (vR M 0) 3)) (ay (pA (vR M 0) 4)) (ay (pA (vR M 0) 5)) (av (pA (vR M 0) 6)) (av (pA (pA (vR M 0) 7) 0)) (aj (pA (pA (vR M 0) 7) 1)) (aj (pA (pA (vR M 0) 7) 2)) (aj (pA (vR M 0) 8)) (aj (pA (vR M 0) 9)) (aj (pA (vR M 0) 10)) (av (pA (vR M 1) 0)) (aj (pA (pA (vR M 1) 1) 0)) (au (pA (pA (vR M 1) 1) 1)) (au (pA (pA (vR M 1) 1) 2)) (av (pA (pA (vR M 1) 1) 3)) (av (pA (pA (vR M 1) 1) 4)) (av (pA (pA (vR M 1) 1) 5)) (aj (pA (pA (vR M 1) 1) 6)) (aj (pA (pA (vR M 1) 2) 0)) (au (pA (pA (vR M 1) 2) 1)) (au (pA (pA (vR M 1) 2) 2)) (av (pA (pA (vR M 1) 2) 3)) (av (pA (pA (vR M 1) 2) 4)) (av (pA (pA (vR M 1) 2) 5)) (aj (pA (pA (vR M 1) 2) 6)) (aj (pA (vR M 1) 3)) (ay (pA (vR M 1) 4)) (ay (pA (vR M 1) 5)) (av (pA (vR M 1) 6)) (av (pA (pA (vR M 1) 7) 0)) (aj (pA (pA (vR M 1) 7) 1)) (aj (pA (pA (vR M 1) 7) 2)) (aj (pA (vR M 1) 8)) (aj (pA (vR M 1) 9)) (aj (pA (vR M 1) 10)) ((aj (tA fr 6)))
def Pm (F : Tab) (b0 : Bool) (i1 : Int) (l0 l1 : List AV) (b1 b2 b3 : Bool) (i2 i3 : Int) (l2 l3 : List AV) (b4 b5 b6 : Bool) (i4 i5 : Int) (l4 l5 : List AV) (b7 b8 : Bool) (i6 i7 i8 i9 i10 : Int) (b9 : Bool) (i11 : Int) (l6 l7 : List AV) (b10 b11 b12 : Bool) (i12 i13 : Int) (l8 l9 : List AV) (b13 b14 b15 : Bool) (i14 i15 : Int) (l10 l11 : List AV) (b16 b17 : Bool) (i16 i17 i18 i19 i20 : Int) (s : Int) : LT := ND b0 i1 l0 l1 b1 b2 b3 i2 i3 l2 l3 b4 b5 b6 i4 i5 l4 l5 b7 b8 i6 i7 i8 i9 i10 b9 i11 l6 l7 b10 b11 b12 i12 i13 l8 l9 b13 b14 b15 i14 i15 l10 l11 b16 b17 i16 i17 i18 i19 i20 (Tr.run (tX F b0 i1 l0 l1 b1 b2 b3 i2 i3 l2 l3 b4 b5 b6 i4 i5 l4 l5 b7 b8 i6 i7 i8 i9 i10 b9 i11 l6 l7 b10 b11 b12 i12 i13 l8 l9 b13 b14 b15 i14 i15 l10 l11 b16 b17 i16 i17 i18 i19 i20) 100000 s)
def Qd (F : Tab) (dep : Nat) (fr : Fr) (M : Mm) : Option LT := if Aj.ok fr M then some (YJ (Pm F) fr M) else none
def D8 (F : Tab) (i0 i1 i2 : Int) (l0 l1 : List AV) (b0 b1 b2 : Bool) (i3 : Int) (l2 : List AV) (i4 : Int) (l3 l4 : List AV) (b3 b4 : Bool) (i5 : Int) (l5 : List AV) (i6 i7 : Int) (l6 l7 : List AV) (b5 b6 b7 : Bool) (i8 i9 : Int) (l8 l9 : List AV) (i10 i11 i12 i13 i14 i15 i16 : Int) (l10 l11 : List AV)  : Tr (Unit) :=
    .br (decide (((l9.length + 1) * 24) <= 140737488355328))
     (.br (aB Pg F 102 [aD l5, .int .i64 i0, .int .i64 i1])
      (.out ⟨1, [aj ((fG (aA F 102 [aD l5, .int .i64 i0, .int .i64 i1])).getD 0 .dead)], [], [l9 ++ [mY i0 i1 false]], [], [], []⟩)
      (.bad))
     (.bad)
def BA (F : Tab) (i0 i1 i2 : Int) (l0 l1 : List AV) (b0 b1 b2 : Bool) (i3 : Int) (l2 : List AV) (i4 : Int) (l3 l4 : List AV) (b3 b4 : Bool) (i5 : Int) (l5 : List AV) (i6 i7 : Int) (l6 l7 : List AV) (b5 b6 b7 : Bool) (i8 i9 : Int) (l8 l9 : List AV) (i10 i11 i12 i13 i14 i15 i16 : Int) (l10 l11 : List AV) : LO := (D8 F i0 i1 i2 l0 l1 b0 b1 b2 i3 l2 i4 l3 l4 b3 b4 i5 l5 i6 i7 l6 l7 b5 b6 b7 i8 i9 l8 l9 i10 i11 i12 i13 i14 i15 i16 l10 l11).eval fun _ => LO.bad
def PG (i0 i1 i2 : Int) (l0 l1 : List AV) (b0 b1 b2 : Bool) (i3 : Int) (l2 : List AV) (i4 : Int) (l3 l4 : List AV) (b3 b4 : Bool) (i5 : Int) (l5 : List AV) (i6 i7 : Int) (l6 l7 : List AV) (b5 b6 b7 : Bool) (i8 i9 : Int) (l8 l9 : List AV) (i10 i11 i12 i13 i14 i15 i16 : Int) (l10 l11 : List AV) : Mm := ⟨[.var 26 (aG i2 l0 l1 b0 b1 b2 i3), .var 29 (aD l2), .var 38 (dx), .var 63 (dS i4 l3 l4 b3 false b4 i5 l5 i6 true cZ i7 l6 l7 b5 b6 b7 i8 i9 l8 l9 false aZ 0 0 0 i10 i11 i12 i13 i14), .var 61 (.ptr 3 [] 63 0), .var 118 (aW i15 i16 l10 l11)], [(2, [4]), (2, [5]), (3, [3, 4]), (3, [3, 5])]⟩
def Pj (i0 i1 i2 : Int) (l0 l1 : List AV) (b0 b1 b2 : Bool) (i3 : Int) (l2 : List AV) (i4 : Int) (l3 l4 : List AV) (b3 b4 : Bool) (i5 : Int) (l5 : List AV) (i6 i7 : Int) (l6 l7 : List AV) (b5 b6 b7 : Bool) (i8 i9 : Int) (l8 l9 : List AV) (i10 i11 i12 i13 i14 i15 i16 : Int) (l10 l11 : List AV) (lo : LO) : LT :=
 .br (lo.k == 1) (.done .ret (aU 1 [(0, .int .u32 (lo.I 0))] []) ⟨(PG i0 i1 i2 l0 l1 b0 b1 b2 i3 l2 i4 l3 l4 b3 b4 i5 l5 i6 i7 l6 l7 b5 b6 b7 i8 i9 l8 (lo.L 0) i10 i11 i12 i13 i14 i15 i16 l10 l11).rows, [(3, [3, 5]), (2, [4]), (2, [5]), (3, [3, 4])]⟩) (.fail)
def Ub (i0 i1 i2 : Int) (l0 l1 : List AV) (b0 b1 b2 : Bool) (i3 : Int) (l2 : List AV) (i4 : Int) (l3 l4 : List AV) (b3 b4 : Bool) (i5 : Int) (l5 : List AV) (i6 i7 : Int) (l6 l7 : List AV) (b5 b6 b7 : Bool) (i8 i9 : Int) (l8 l9 : List AV) (i10 i11 i12 i13 i14 i15 i16 : Int) (l10 l11 : List AV) : List AV := [.ptr 3 [] 63 0, .int .i64 i0, .int .i64 i1]
def Di : ArP := ⟨[.ptr 3 [] 63 (some 0), .int .i64, .int .i64], [.var 26 (eP), .var 29 (.agg 28 [.slice 139 false]), .var 38 (iR), .var 63 (iU), .var 61 (.ptr 3 [] 63 (some 0)), .var 118 (.agg 117 [.int .i64, .int .i64, .slice 57 false, .slice 3 false])], [(2, [4]), (2, [5]), (3, [3, 4]), (3, [3, 5])]⟩
abbrev Tj {α : Type} (f : Int -> Int -> Int -> List AV -> List AV -> Bool -> Bool -> Bool -> Int -> List AV -> Int -> List AV -> List AV -> Bool -> Bool -> Int -> List AV -> Int -> Int -> List AV -> List AV -> Bool -> Bool -> Bool -> Int -> Int -> List AV -> List AV -> Int -> Int -> Int -> Int -> Int -> Int -> Int -> List AV -> List AV -> α) (args : List AV) (M : Mm) : α := f (aj (args.getD 1 .dead)) (aj (args.getD 2 .dead)) (aj (pA (vR M 0) 0)) (au (pA (vR M 0) 1)) (au (pA (vR M 0) 2)) (av (pA (vR M 0) 3)) (av (pA (vR M 0) 4)) (av (pA (vR M 0) 5)) (aj (pA (vR M 0) 6)) (ay (pA (vR M 1) 0)) (aj (pA (pA (vR M 3) 0) 0)) (au (pA (pA (vR M 3) 0) 1)) (au (pA (pA (vR M 3) 0) 2)) (av (pA (pA (vR M 3) 0) 3)) (av (pA (pA (vR M 3) 0) 5)) (aj (pA (pA (vR M 3) 0) 6)) (ay (pA (pA (vR M 3) 1) 0)) (aj (pA (vR M 3) 2)) (aj (pA (pA (pA (vR M 3) 3) 2) 0)) (au (pA (pA (pA (vR M 3) 3) 2) 1)) (au (pA (pA (pA (vR M 3) 3) 2) 2)) (av (pA (pA (pA (vR M 3) 3) 2) 3)) (av (pA (pA (pA (vR M 3) 3) 2) 4)) (av (pA (pA (pA (vR M 3) 3) 2) 5)) (aj (pA (pA (pA (vR M 3) 3) 2) 6)) (aj (pA (pA (vR M 3) 3) 3)) (ay (pA (pA (vR M 3) 3) 4)) (ay (pA (pA (vR M 3) 3) 5)) (aj (pA (pA (vR M 3) 4) 0)) (aj (pA (pA (vR M 3) 4) 1)) (aj (pA (pA (vR M 3) 4) 2)) (aj (pA (pA (vR M 3) 4) 3)) (aj (pA (pA (vR M 3) 4) 4)) (aj (pA (vR M 5) 0)) (aj (pA (vR M 5) 1)) (ay (pA (vR M 5) 2)) (ay (pA (vR M 5) 3))
def Oc (F : Tab) (i0 i1 i2 : Int) (l0 l1 : List AV) (b0 b1 b2 : Bool) (i3 : Int) (l2 : List AV) (i4 : Int) (l3 l4 : List AV) (b3 b4 : Bool) (i5 : Int) (l5 : List AV) (i6 i7 : Int) (l6 l7 : List AV) (b5 b6 b7 : Bool) (i8 i9 : Int) (l8 l9 : List AV) (i10 i11 i12 i13 i14 i15 i16 : Int) (l10 l11 : List AV) : LT := Pj i0 i1 i2 l0 l1 b0 b1 b2 i3 l2 i4 l3 l4 b3 b4 i5 l5 i6 i7 l6 l7 b5 b6 b7 i8 i9 l8 l9 i10 i11 i12 i13 i14 i15 i16 l10 l11 (BA F i0 i1 i2 l0 l1 b0 b1 b2 i3 l2 i4 l3 l4 b3 b4 i5 l5 i6 i7 l6 l7 b5 b6 b7 i8 i9 l8 l9 i10 i11 i12 i13 i14 i15 i16 l10 l11)
def MC (F : Tab) (dep : Nat) (args : List AV) (M : Mm) : Option LT := if Nat.beq dep 1 && Di.ok args M then some (Tj (Oc F) args M) else none
def EL (F : Tab) (i0 i1 : Int) (l0 : List AV) (i2 i4 : Int) (l1 l2 : List AV) (b0 b1 b2 : Bool) (i5 : Int) (l3 : List AV) (i6 : Int) (l4 l5 : List AV) (b3 b4 : Bool) (i7 : Int) (l6 : List AV) (i8 i9 : Int) (l7 l8 : List AV) (b5 b6 b7 : Bool) (i10 i11 : Int) (l9 : List AV) (i12 i13 i14 i15 i16 i17 i18 : Int) (l11 l12 : List AV) (i3 : Int) (l10 : List AV) : Tr (Int × List AV) :=
    let x0 : LO := BA F (aj (l0.getD i3.toNat .dead)) 4 i4 l1 l2 b0 b1 b2 i5 l3 i6 l4 l5 b3 b4 i7 l6 i8 i9 l7 l8 b5 b6 b7 i10 i11 l9 l10 i12 i13 i14 i15 i16 i17 i18 l11 l12;
    .br (decide (i3 < i2))
     (.br (aN i3 l0.length)
      (.br (x0.k == 1)
       (.next (IntKind.i64.wrap (i3 + 1), x0.l.getD 0 []))
       (.bad))
      (.bad))
     (.out ⟨1, [], [], [l10], [], [], []⟩)
def uj (F : Tab) (i0 i1 : Int) (l0 : List AV) (i2 i4 : Int) (l1 l2 : List AV) (b0 b1 b2 : Bool) (i5 : Int) (l3 : List AV) (i6 : Int) (l4 l5 : List AV) (b3 b4 : Bool) (i7 : Int) (l6 : List AV) (i8 i9 : Int) (l7 l8 : List AV) (b5 b6 b7 : Bool) (i10 i11 : Int) (l9 : List AV) (i12 i13 i14 i15 i16 i17 i18 : Int) (l11 l12 : List AV) (s : Int × List AV) : Tr (Int × List AV) := EL F i0 i1 l0 i2 i4 l1 l2 b0 b1 b2 i5 l3 i6 l4 l5 b3 b4 i7 l6 i8 i9 l7 l8 b5 b6 b7 i10 i11 l9 i12 i13 i14 i15 i16 i17 i18 l11 l12 s.1 s.2
def SL (i0 i1 : Int) (l0 : List AV) (i2 i4 : Int) (l1 l2 : List AV) (b0 b1 b2 : Bool) (i5 : Int) (l3 : List AV) (i6 : Int) (l4 l5 : List AV) (b3 b4 : Bool) (i7 : Int) (l6 : List AV) (i8 i9 : Int) (l7 l8 : List AV) (b5 b6 b7 : Bool) (i10 i11 : Int) (l9 : List AV) (i12 i13 i14 i15 i16 i17 i18 : Int) (l11 l12 : List AV) : Int × List AV -> Fr := fun (i3, l10) => (aU 66 [(0, .ptr 3 [] 63 0), (1, .int .u32 i0), (7, .ptr 5 [] 118 0), (8, .int .i64 i1), (37, .slice 3 l0 false), (38, .int .i64 i2), (39, .int .i64 i3)] [])
def Wt (i0 i1 : Int) (l0 : List AV) (i2 i4 : Int) (l1 l2 : List AV) (b0 b1 b2 : Bool) (i5 : Int) (l3 : List AV) (i6 : Int) (l4 l5 : List AV) (b3 b4 : Bool) (i7 : Int) (l6 : List AV) (i8 i9 : Int) (l7 l8 : List AV) (b5 b6 b7 : Bool) (i10 i11 : Int) (l9 : List AV) (i12 i13 i14 i15 i16 i17 i18 : Int) (l11 l12 : List AV) : Int × List AV -> Mm := fun (i3, l10) => ⟨[.var 26 (aG i4 l1 l2 b0 b1 b2 i5), .var 29 (aD l3), .var 38 (dx), .var 63 (dS i6 l4 l5 b3 false b4 i7 l6 i8 true cZ i9 l7 l8 b5 b6 b7 i10 i11 l9 l10 false aZ 0 0 0 i12 i13 i14 i15 i16), .var 61 (.ptr 3 [] 63 0), .var 118 (aW i17 i18 l11 l12)], [(2, [4]), (2, [5]), (3, [3, 4]), (3, [3, 5])]⟩
def BN (F : Tab) (i0 i1 : Int) (l0 : List AV) (i2 i4 : Int) (l1 l2 : List AV) (b0 b1 b2 : Bool) (i5 : Int) (l3 : List AV) (i6 : Int) (l4 l5 : List AV) (b3 b4 : Bool) (i7 : Int) (l6 : List AV) (i8 i9 : Int) (l7 l8 : List AV) (b5 b6 b7 : Bool) (i10 i11 : Int) (l9 : List AV) (i12 i13 i14 i15 i16 i17 i18 : Int) (l11 l12 : List AV) (fuel : Nat) (i3 : Int) (l10 : List AV) : LO := Tr.run (uj F i0 i1 l0 i2 i4 l1 l2 b0 b1 b2 i5 l3 i6 l4 l5 b3 b4 i7 l6 i8 i9 l7 l8 b5 b6 b7 i10 i11 l9 i12 i13 i14 i15 i16 i17 i18 l11 l12) fuel (i3, l10)
def OH (i0 i1 : Int) (l0 : List AV) (i2 i4 : Int) (l1 l2 : List AV) (b0 b1 b2 : Bool) (i5 : Int) (l3 : List AV) (i6 : Int) (l4 l5 : List AV) (b3 b4 : Bool) (i7 : Int) (l6 : List AV) (i8 i9 : Int) (l7 l8 : List AV) (b5 b6 b7 : Bool) (i10 i11 : Int) (l9 : List AV) (i12 i13 i14 i15 i16 i17 i18 : Int) (l11 l12 : List AV) (lo : LO) : LT :=
 .br (lo.k == 1) (.done (.exit 0) (aU 66 [(0, .ptr 3 [] 63 0), (1, .int .u32 i0), (7, .ptr 5 [] 118 0), (8, .int .i64 i1)] []) ⟨[.var 26 (aG i4 l1 l2 b0 b1 b2 i5), .var 29 (aD l3), .var 38 (dx), .var 63 (dS i6 l4 l5 b3 false b4 i7 l6 i8 true cZ i9 l7 l8 b5 b6 b7 i10 i11 l9 (lo.L 0) false aZ 0 0 0 i12 i13 i14 i15 i16), .var 61 (.ptr 3 [] 63 0), .var 118 (aW i17 i18 l11 l12)], [(2, [4]), (2, [5]), (3, [3, 4]), (3, [3, 5])]⟩) (.fail)
def Dp : StP := ⟨66, [(0, .ptr 3 [] 63 (some 0)), (1, .int .u32), (7, .ptr 5 [] 118 (some 0)), (8, .int .i64), (37, .slice 3 false), (38, .int .i64), (39, .int .i64)], [], [.var 26 (eP), .var 29 (.agg 28 [.slice 139 false]), .var 38 (iR), .var 63 (iU), .var 61 (.ptr 3 [] 63 (some 0)), .var 118 (.agg 117 [.int .i64, .int .i64, .slice 57 false, .slice 3 false])], [(2, [4]), (2, [5]), (3, [3, 4]), (3, [3, 5])]⟩
abbrev Xq {α : Type} (f : Int -> Int -> List AV -> Int -> Int -> List AV -> List AV -> Bool -> Bool -> Bool -> Int -> List AV -> Int -> List AV -> List AV -> Bool -> Bool -> Int -> List AV -> Int -> Int -> List AV -> List AV -> Bool -> Bool -> Bool -> Int -> Int -> List AV -> Int -> Int -> Int -> Int -> Int -> Int -> Int -> List AV -> List AV -> (Int × List AV) -> α) (fr : Fr) (M : Mm) : α := f (aj (tA fr 1)) (aj (tA fr 8)) (ay (tA fr 37)) (aj (tA fr 38)) (aj (pA (vR M 0) 0)) (au (pA (vR M 0) 1)) (au (pA (vR M 0) 2)) (av (pA (vR M 0) 3)) (av (pA (vR M 0) 4)) (av (pA (vR M 0) 5)) (aj (pA (vR M 0) 6)) (ay (pA (vR M 1) 0)) (aj (pA (pA (vR M 3) 0) 0)) (au (pA (pA (vR M 3) 0) 1)) (au (pA (pA (vR M 3) 0) 2)) (av (pA (pA (vR M 3) 0) 3)) (av (pA (pA (vR M 3) 0) 5)) (aj (pA (pA (vR M 3) 0) 6)) (ay (pA (pA (vR M 3) 1) 0)) (aj (pA (vR M 3) 2)) (aj (pA (pA (pA (vR M 3) 3) 2) 0)) (au (pA (pA (pA (vR M 3) 3) 2) 1)) (au (pA (pA (pA (vR M 3) 3) 2) 2)) (av (pA (pA (pA (vR M 3) 3) 2) 3)) (av (pA (pA (pA (vR M 3) 3) 2) 4)) (av (pA (pA (pA (vR M 3) 3) 2) 5)) (aj (pA (pA (pA (vR M 3) 3) 2) 6)) (aj (pA (pA (vR M 3) 3) 3)) (ay (pA (pA (vR M 3) 3) 4)) (aj (pA (pA (vR M 3) 4) 0)) (aj (pA (pA (vR M 3) 4) 1)) (aj (pA (pA (vR M 3) 4) 2)) (aj (pA (pA (vR M 3) 4) 3)) (aj (pA (pA (vR M 3) 4) 4)) (aj (pA (vR M 5) 0)) (aj (pA (vR M 5) 1)) (ay (pA (vR M 5) 2)) (ay (pA (vR M 5) 3)) ((aj (tA fr 39)), (ay (pA (pA (vR M 3) 3) 5)))
def NZ (F : Tab) (i0 i1 : Int) (l0 : List AV) (i2 i4 : Int) (l1 l2 : List AV) (b0 b1 b2 : Bool) (i5 : Int) (l3 : List AV) (i6 : Int) (l4 l5 : List AV) (b3 b4 : Bool) (i7 : Int) (l6 : List AV) (i8 i9 : Int) (l7 l8 : List AV) (b5 b6 b7 : Bool) (i10 i11 : Int) (l9 : List AV) (i12 i13 i14 i15 i16 i17 i18 : Int) (l11 l12 : List AV) (s : Int × List AV) : LT := OH i0 i1 l0 i2 i4 l1 l2 b0 b1 b2 i5 l3 i6 l4 l5 b3 b4 i7 l6 i8 i9 l7 l8 b5 b6 b7 i10 i11 l9 i12 i13 i14 i15 i16 i17 i18 l11 l12 (Tr.run (uj F i0 i1 l0 i2 i4 l1 l2 b0 b1 b2 i5 l3 i6 l4 l5 b3 b4 i7 l6 i8 i9 l7 l8 b5 b6 b7 i10 i11 l9 i12 i13 i14 i15 i16 i17 i18 l11 l12) 100000 s)
def Na (F : Tab) (dep : Nat) (fr : Fr) (M : Mm) : Option LT := if Nat.beq dep 2 && Dp.ok fr M then some (Xq (NZ F) fr M) else none
def EN (F : Tab) (i0 i1 i2 i3 : Int) (l0 l1 : List AV) (b0 b1 b2 : Bool) (i4 : Int) (l2 : List AV) (i5 : Int) (l3 l4 : List AV) (b3 b4 : Bool) (i6 : Int) (l5 : List AV) (i7 i8 : Int) (l6 l7 : List AV) (b5 b6 b7 : Bool) (i9 i10 : Int) (l8 l9 : List AV) (i11 i12 i13 i14 i15 i16 i17 : Int) (l10 l11 : List AV) (i18 i19 i20 : Int)  : Tr (Unit) :=
    .br (decide (((l9.length + 1) * 24) <= 140737488355328))
     (.br (decide (((l8.length + 1) * 24) <= 140737488355328))
      (.br (aB Pg F 104 [aD l5, bq i0 i1 i2])
       (.out ⟨1, [], [], [ay ((au ((fG (aA F 104 [aD l5, bq i0 i1 i2])).getD 0 .dead)).getD 0 .dead), l8 ++ [bq i0 i1 i2], l9 ++ [mY i0 i1 true]], [], [], []⟩)
       (.bad))
      (.bad))
     (.bad)
def z8 (F : Tab) (i0 i1 i2 i3 : Int) (l0 l1 : List AV) (b0 b1 b2 : Bool) (i4 : Int) (l2 : List AV) (i5 : Int) (l3 l4 : List AV) (b3 b4 : Bool) (i6 : Int) (l5 : List AV) (i7 i8 : Int) (l6 l7 : List AV) (b5 b6 b7 : Bool) (i9 i10 : Int) (l8 l9 : List AV) (i11 i12 i13 i14 i15 i16 i17 : Int) (l10 l11 : List AV) (i18 i19 i20 : Int) : LO := (EN F i0 i1 i2 i3 l0 l1 b0 b1 b2 i4 l2 i5 l3 l4 b3 b4 i6 l5 i7 i8 l6 l7 b5 b6 b7 i9 i10 l8 l9 i11 i12 i13 i14 i15 i16 i17 l10 l11 i18 i19 i20).eval fun _ => LO.bad
def JL (i0 i1 i2 i3 : Int) (l0 l1 : List AV) (b0 b1 b2 : Bool) (i4 : Int) (l2 : List AV) (i5 : Int) (l3 l4 : List AV) (b3 b4 : Bool) (i6 : Int) (l5 : List AV) (i7 i8 : Int) (l6 l7 : List AV) (b5 b6 b7 : Bool) (i9 i10 : Int) (l8 l9 : List AV) (i11 i12 i13 i14 i15 i16 i17 : Int) (l10 l11 : List AV) (i18 i19 i20 : Int) : Mm := ⟨[.var 26 (aG i3 l0 l1 b0 b1 b2 i4), .var 29 (aD l2), .var 38 (dx), .var 63 (dS i5 l3 l4 b3 false b4 i6 l5 i7 true cZ i8 l6 l7 b5 b6 b7 i9 i10 l8 l9 false aZ 0 0 0 i11 i12 i13 i14 i15), .var 61 (.ptr 3 [] 63 0), .var 118 (aW i16 i17 l10 l11), .var 57 (bq i18 i19 i20)], [(2, [4]), (2, [5]), (3, [3, 4]), (3, [3, 5])]⟩
def Po (i0 i1 i2 i3 : Int) (l0 l1 : List AV) (b0 b1 b2 : Bool) (i4 : Int) (l2 : List AV) (i5 : Int) (l3 l4 : List AV) (b3 b4 : Bool) (i6 : Int) (l5 : List AV) (i7 i8 : Int) (l6 l7 : List AV) (b5 b6 b7 : Bool) (i9 i10 : Int) (l8 l9 : List AV) (i11 i12 i13 i14 i15 i16 i17 : Int) (l10 l11 : List AV) (i18 i19 i20 : Int) (lo : LO) : LT :=
 .br (lo.k == 1) (.done .ret (aU 1 [(0, .tuple [])] []) ⟨(JL i0 i1 i2 i3 l0 l1 b0 b1 b2 i4 l2 i5 l3 l4 b3 b4 i6 (lo.L 0) i7 i8 l6 l7 b5 b6 b7 i9 i10 (lo.L 1) (lo.L 2) i11 i12 i13 i14 i15 i16 i17 l10 l11 i18 i19 i20).rows, [(3, [3, 4]), (3, [3, 5]), (2, [4]), (2, [5])]⟩) (.fail)
def Yh (i0 i1 i2 i3 : Int) (l0 l1 : List AV) (b0 b1 b2 : Bool) (i4 : Int) (l2 : List AV) (i5 : Int) (l3 l4 : List AV) (b3 b4 : Bool) (i6 : Int) (l5 : List AV) (i7 i8 : Int) (l6 l7 : List AV) (b5 b6 b7 : Bool) (i9 i10 : Int) (l8 l9 : List AV) (i11 i12 i13 i14 i15 i16 i17 : Int) (l10 l11 : List AV) (i18 i19 i20 : Int) : List AV := [.ptr 3 [] 63 0, bq i0 i1 i2]
def BP : ArP := ⟨[.ptr 3 [] 63 (some 0), .agg 56 [.int .i64, .int .i64, .int .u32]], [.var 26 (eP), .var 29 (.agg 28 [.slice 139 false]), .var 38 (iR), .var 63 (iU), .var 61 (.ptr 3 [] 63 (some 0)), .var 118 (.agg 117 [.int .i64, .int .i64, .slice 57 false, .slice 3 false]), .var 57 (.agg 56 [.int .i64, .int .i64, .int .u32])], [(2, [4]), (2, [5]), (3, [3, 4]), (3, [3, 5])]⟩
abbrev Zq {α : Type} (f : Int -> Int -> Int -> Int -> List AV -> List AV -> Bool -> Bool -> Bool -> Int -> List AV -> Int -> List AV -> List AV -> Bool -> Bool -> Int -> List AV -> Int -> Int -> List AV -> List AV -> Bool -> Bool -> Bool -> Int -> Int -> List AV -> List AV -> Int -> Int -> Int -> Int -> Int -> Int -> Int -> List AV -> List AV -> Int -> Int -> Int -> α) (args : List AV) (M : Mm) : α := f (aj (pA (args.getD 1 .dead) 0)) (aj (pA (args.getD 1 .dead) 1)) (aj (pA (args.getD 1 .dead) 2)) (aj (pA (vR M 0) 0)) (au (pA (vR M 0) 1)) (au (pA (vR M 0) 2)) (av (pA (vR M 0) 3)) (av (pA (vR M 0) 4)) (av (pA (vR M 0) 5)) (aj (pA (vR M 0) 6)) (ay (pA (vR M 1) 0)) (aj (pA (pA (vR M 3) 0) 0)) (au (pA (pA (vR M 3) 0) 1)) (au (pA (pA (vR M 3) 0) 2)) (av (pA (pA (vR M 3) 0) 3)) (av (pA (pA (vR M 3) 0) 5)) (aj (pA (pA (vR M 3) 0) 6)) (ay (pA (pA (vR M 3) 1) 0)) (aj (pA (vR M 3) 2)) (aj (pA (pA (pA (vR M 3) 3) 2) 0)) (au (pA (pA (pA (vR M 3) 3) 2) 1)) (au (pA (pA (pA (vR M 3) 3) 2) 2)) (av (pA (pA (pA (vR M 3) 3) 2) 3)) (av (pA (pA (pA (vR M 3) 3) 2) 4)) (av (pA (pA (pA (vR M 3) 3) 2) 5)) (aj (pA (pA (pA (vR M 3) 3) 2) 6)) (aj (pA (pA (vR M 3) 3) 3)) (ay (pA (pA (vR M 3) 3) 4)) (ay (pA (pA (vR M 3) 3) 5)) (aj (pA (pA (vR M 3) 4) 0)) (aj (pA (pA (vR M 3) 4) 1)) (aj (pA (pA (vR M 3) 4) 2)) (aj (pA (pA (vR M 3) 4) 3)) (aj (pA (pA (vR M 3) 4) 4)) (aj (pA (vR M 5) 0)) (aj (pA (vR M 5) 1)) (ay (pA (vR M 5) 2)) (ay (pA (vR M 5) 3)) (aj (pA (vR M 6) 0)) (aj (pA (vR M 6) 1)) (aj (pA (vR M 6) 2))
def Ls (F : Tab) (i0 i1 i2 i3 : Int) (l0 l1 : List AV) (b0 b1 b2 : Bool) (i4 : Int) (l2 : List AV) (i5 : Int) (l3 l4 : List AV) (b3 b4 : Bool) (i6 : Int) (l5 : List AV) (i7 i8 : Int) (l6 l7 : List AV) (b5 b6 b7 : Bool) (i9 i10 : Int) (l8 l9 : List AV) (i11 i12 i13 i14 i15 i16 i17 : Int) (l10 l11 : List AV) (i18 i19 i20 : Int) : LT := Po i0 i1 i2 i3 l0 l1 b0 b1 b2 i4 l2 i5 l3 l4 b3 b4 i6 l5 i7 i8 l6 l7 b5 b6 b7 i9 i10 l8 l9 i11 i12 i13 i14 i15 i16 i17 l10 l11 i18 i19 i20 (z8 F i0 i1 i2 i3 l0 l1 b0 b1 b2 i4 l2 i5 l3 l4 b3 b4 i6 l5 i7 i8 l6 l7 b5 b6 b7 i9 i10 l8 l9 i11 i12 i13 i14 i15 i16 i17 l10 l11 i18 i19 i20)
def Jr (F : Tab) (dep : Nat) (args : List AV) (M : Mm) : Option LT := if Nat.beq dep 1 && BP.ok args M then some (Zq (Ls F) args M) else none
def Dx (F : Tab) (i0 i1 : Int) (l0 : List AV) (i2 i4 : Int) (l1 l2 : List AV) (b0 b1 b2 : Bool) (i5 : Int) (l3 : List AV) (i6 : Int) (l4 l5 : List AV) (b3 b4 : Bool) (i7 i8 i9 : Int) (l7 l8 : List AV) (b5 b6 b7 : Bool) (i10 i11 i12 i13 i14 i15 i16 i17 i18 : Int) (l11 l12 : List AV) (i3 : Int) (l6 l9 l10 : List AV) : Tr (T0) :=
    let x0 : LO := z8 F (aj ((au (l0.getD i3.toNat .dead)).getD 0 .dead)) (aj ((au (l0.getD i3.toNat .dead)).getD 1 .dead)) (aj ((au (l0.getD i3.toNat .dead)).getD 2 .dead)) i4 l1 l2 b0 b1 b2 i5 l3 i6 l4 l5 b3 b4 i7 l6 i8 i9 l7 l8 b5 b6 b7 i10 i11 l9 l10 i12 i13 i14 i15 i16 i17 i18 l11 l12 (aj ((au (l0.getD i3.toNat .dead)).getD 0 .dead)) (aj ((au (l0.getD i3.toNat .dead)).getD 1 .dead)) (aj ((au (l0.getD i3.toNat .dead)).getD 2 .dead));
    .br (decide (i3 < i2))
     (.br (aN i3 l0.length)
      (.br (x0.k == 1)
       (.next (IntKind.i64.wrap (i3 + 1), x0.l.getD 0 [], x0.l.getD 1 [], x0.l.getD 2 []))
       (.bad))
      (.bad))
     (.out ⟨1, [], [], [l6, l9, l10], [], [], []⟩)
def vv (F : Tab) (i0 i1 : Int) (l0 : List AV) (i2 i4 : Int) (l1 l2 : List AV) (b0 b1 b2 : Bool) (i5 : Int) (l3 : List AV) (i6 : Int) (l4 l5 : List AV) (b3 b4 : Bool) (i7 i8 i9 : Int) (l7 l8 : List AV) (b5 b6 b7 : Bool) (i10 i11 i12 i13 i14 i15 i16 i17 i18 : Int) (l11 l12 : List AV) (s : T0) : Tr (T0) := Dx F i0 i1 l0 i2 i4 l1 l2 b0 b1 b2 i5 l3 i6 l4 l5 b3 b4 i7 i8 i9 l7 l8 b5 b6 b7 i10 i11 i12 i13 i14 i15 i16 i17 i18 l11 l12 s.1 s.2.1 s.2.2.1 s.2.2.2
def Wd (i0 i1 : Int) (l0 : List AV) (i2 i4 : Int) (l1 l2 : List AV) (b0 b1 b2 : Bool) (i5 : Int) (l3 : List AV) (i6 : Int) (l4 l5 : List AV) (b3 b4 : Bool) (i7 i8 i9 : Int) (l7 l8 : List AV) (b5 b6 b7 : Bool) (i10 i11 i12 i13 i14 i15 i16 i17 i18 : Int) (l11 l12 : List AV) : T0 -> Fr := fun (i3, l6, l9, l10) => (aU 66 [(0, .ptr 3 [] 63 0), (1, .int .u32 i0), (7, .ptr 5 [] 118 0), (8, .int .i64 i1), (48, .slice 57 l0 false), (49, .int .i64 i2), (50, .int .i64 i3)] [])
def acM (i0 i1 : Int) (l0 : List AV) (i2 i4 : Int) (l1 l2 : List AV) (b0 b1 b2 : Bool) (i5 : Int) (l3 : List AV) (i6 : Int) (l4 l5 : List AV) (b3 b4 : Bool) (i7 i8 i9 : Int) (l7 l8 : List AV) (b5 b6 b7 : Bool) (i10 i11 i12 i13 i14 i15 i16 i17 i18 : Int) (l11 l12 : List AV) : T0 -> Mm := fun (i3, l6, l9, l10) => ⟨[.var 26 (aG i4 l1 l2 b0 b1 b2 i5), .var 29 (aD l3), .var 38 (dx), .var 63 (dS i6 l4 l5 b3 false b4 i7 l6 i8 true cZ i9 l7 l8 b5 b6 b7 i10 i11 l9 l10 false aZ 0 0 0 i12 i13 i14 i15 i16), .var 61 (.ptr 3 [] 63 0), .var 118 (aW i17 i18 l11 l12)], [(2, [4]), (2, [5]), (3, [3, 4]), (3, [3, 5])]⟩
def Ct (F : Tab) (i0 i1 : Int) (l0 : List AV) (i2 i4 : Int) (l1 l2 : List AV) (b0 b1 b2 : Bool) (i5 : Int) (l3 : List AV) (i6 : Int) (l4 l5 : List AV) (b3 b4 : Bool) (i7 i8 i9 : Int) (l7 l8 : List AV) (b5 b6 b7 : Bool) (i10 i11 i12 i13 i14 i15 i16 i17 i18 : Int) (l11 l12 : List AV) (fuel : Nat) (i3 : Int) (l6 l9 l10 : List AV) : LO := Tr.run (vv F i0 i1 l0 i2 i4 l1 l2 b0 b1 b2 i5 l3 i6 l4 l5 b3 b4 i7 i8 i9 l7 l8 b5 b6 b7 i10 i11 i12 i13 i14 i15 i16 i17 i18 l11 l12) fuel (i3, l6, l9, l10)
def Ng (i0 i1 : Int) (l0 : List AV) (i2 i4 : Int) (l1 l2 : List AV) (b0 b1 b2 : Bool) (i5 : Int) (l3 : List AV) (i6 : Int) (l4 l5 : List AV) (b3 b4 : Bool) (i7 i8 i9 : Int) (l7 l8 : List AV) (b5 b6 b7 : Bool) (i10 i11 i12 i13 i14 i15 i16 i17 i18 : Int) (l11 l12 : List AV) (lo : LO) : LT :=
 .br (lo.k == 1) (.done (.exit 2) (aU 66 [(0, .ptr 3 [] 63 0), (1, .int .u32 i0), (7, .ptr 5 [] 118 0), (8, .int .i64 i1)] []) ⟨[.var 26 (aG i4 l1 l2 b0 b1 b2 i5), .var 29 (aD l3), .var 38 (dx), .var 63 (dS i6 l4 l5 b3 false b4 i7 (lo.L 0) i8 true cZ i9 l7 l8 b5 b6 b7 i10 i11 (lo.L 1) (lo.L 2) false aZ 0 0 0 i12 i13 i14 i15 i16), .var 61 (.ptr 3 [] 63 0), .var 118 (aW i17 i18 l11 l12)], [(2, [4]), (2, [5]), (3, [3, 4]), (3, [3, 5])]⟩) (.fail)
def zR : StP := ⟨66, [(0, .ptr 3 [] 63 (some 0)), (1, .int .u32), (7, .ptr 5 [] 118 (some 0)), (8, .int .i64), (48, .slice 57 false), (49, .int .i64), (50, .int .i64)], [], [.var 26 (eP), .var 29 (.agg 28 [.slice 139 false]), .var 38 (iR), .var 63 (iU), .var 61 (.ptr 3 [] 63 (some 0)), .var 118 (.agg 117 [.int .i64, .int .i64, .slice 57 false, .slice 3 false])], [(2, [4]), (2, [5]), (3, [3, 4]), (3, [3, 5])]⟩
abbrev SS {α : Type} (f : Int -> Int -> List AV -> Int -> Int -> List AV -> List AV -> Bool -> Bool -> Bool -> Int -> List AV -> Int -> List AV -> List AV -> Bool -> Bool -> Int -> Int -> Int -> List AV -> List AV -> Bool -> Bool -> Bool -> Int -> Int -> Int -> Int -> Int -> Int -> Int -> Int -> Int -> List AV -> List AV -> T0 -> α) (fr : Fr) (M : Mm) : α := f (aj (tA fr 1)) (aj (tA fr 8)) (ay (tA fr 48)) (aj (tA fr 49)) (aj (pA (vR M 0) 0)) (au (pA (vR M 0) 1)) (au (pA (vR M 0) 2)) (av (pA (vR M 0) 3)) (av (pA (vR M 0) 4)) (av (pA (vR M 0) 5)) (aj (pA (vR M 0) 6)) (ay (pA (vR M 1) 0)) (aj (pA (pA (vR M 3) 0) 0)) (au (pA (pA (vR M 3) 0) 1)) (au (pA (pA (vR M 3) 0) 2)) (av (pA (pA (vR M 3) 0) 3)) (av (pA (pA (vR M 3) 0) 5)) (aj (pA (pA (vR M 3) 0) 6)) (aj (pA (vR M 3) 2)) (aj (pA (pA (pA (vR M 3) 3) 2) 0)) (au (pA (pA (pA (vR M 3) 3) 2) 1)) (au (pA (pA (pA (vR M 3) 3) 2) 2)) (av (pA (pA (pA (vR M 3) 3) 2) 3)) (av (pA (pA (pA (vR M 3) 3) 2) 4)) (av (pA (pA (pA (vR M 3) 3) 2) 5)) (aj (pA (pA (pA (vR M 3) 3) 2) 6)) (aj (pA (pA (vR M 3) 3) 3)) (aj (pA (pA (vR M 3) 4) 0)) (aj (pA (pA (vR M 3) 4) 1)) (aj (pA (pA (vR M 3) 4) 2)) (aj (pA (pA (vR M 3) 4) 3)) (aj (pA (pA (vR M 3) 4) 4)) (aj (pA (vR M 5) 0)) (aj (pA (vR M 5) 1)) (ay (pA (vR M 5) 2)) (ay (pA (vR M 5) 3)) ((aj (tA fr 50)), (ay (pA (pA (vR M 3) 1) 0)), (ay (pA (pA (vR M 3) 3) 4)), (ay (pA (pA (vR M 3) 3) 5)))
def Qu (F : Tab) (i0 i1 : Int) (l0 : List AV) (i2 i4 : Int) (l1 l2 : List AV) (b0 b1 b2 : Bool) (i5 : Int) (l3 : List AV) (i6 : Int) (l4 l5 : List AV) (b3 b4 : Bool) (i7 i8 i9 : Int) (l7 l8 : List AV) (b5 b6 b7 : Bool) (i10 i11 i12 i13 i14 i15 i16 i17 i18 : Int) (l11 l12 : List AV) (s : T0) : LT := Ng i0 i1 l0 i2 i4 l1 l2 b0 b1 b2 i5 l3 i6 l4 l5 b3 b4 i7 i8 i9 l7 l8 b5 b6 b7 i10 i11 i12 i13 i14 i15 i16 i17 i18 l11 l12 (Tr.run (vv F i0 i1 l0 i2 i4 l1 l2 b0 b1 b2 i5 l3 i6 l4 l5 b3 b4 i7 i8 i9 l7 l8 b5 b6 b7 i10 i11 i12 i13 i14 i15 i16 i17 i18 l11 l12) 100000 s)
def LB (F : Tab) (dep : Nat) (fr : Fr) (M : Mm) : Option LT := if Nat.beq dep 2 && zR.ok fr M then some (SS (Qu F) fr M) else none
def KL (F : Tab) (i0 : Int) (b0 : Bool) (i2 : Int) (l0 l1 : List AV) (b1 b2 b3 : Bool) (i3 : Int) (i1 : Int) : Tr (Int) :=
    .br (cond (decide (i1 < 5)) b0 false)
     (.br (aB Pg F 50 [.int .u32 i0, .int .i64 i1])
      (.br (av (aA F 50 [.int .u32 i0, .int .i64 i1]))
       (.out ⟨1, [i1], [], [], [], [], []⟩)
       (.next (IntKind.i64.wrap (i1 + 1))))
      (.bad))
     (.out ⟨2, [], [], [], [], [], []⟩)
def wB (F : Tab) (i0 : Int) (b0 : Bool) (i2 : Int) (l0 l1 : List AV) (b1 b2 b3 : Bool) (i3 : Int) (s : Int) : Tr (Int) := KL F i0 b0 i2 l0 l1 b1 b2 b3 i3 s
def XM (i0 : Int) (b0 : Bool) (i2 : Int) (l0 l1 : List AV) (b1 b2 b3 : Bool) (i3 : Int) : Int -> Fr := fun i1 => (aU 26 [(1, .int .u32 i0), (4, .ptr 1 [] 67 0), (5, .bool b0), (6, .int .i64 i1)] [])
def Zu (i0 : Int) (b0 : Bool) (i2 : Int) (l0 l1 : List AV) (b1 b2 b3 : Bool) (i3 : Int) : Int -> Mm := fun i1 => ⟨[.var 26 (aG i2 l0 l1 b1 b2 b3 i3), .var 67 (.agg 66 [.int .i64 0, .bool false])], []⟩
def OV (F : Tab) (i0 : Int) (b0 : Bool) (i2 : Int) (l0 l1 : List AV) (b1 b2 b3 : Bool) (i3 : Int) (fuel : Nat) (i1 : Int) : LO := Tr.run (wB F i0 b0 i2 l0 l1 b1 b2 b3 i3) fuel (i1)
def Qz (i0 : Int) (b0 : Bool) (i2 : Int) (l0 l1 : List AV) (b1 b2 b3 : Bool) (i3 : Int) (lo : LO) : LT :=
 .br (lo.k == 1) (.done .ret (aU 26 [(4, .ptr 1 [] 67 0)] []) ⟨[.var 26 (aG i2 l0 l1 b1 b2 b3 i3), .var 67 (.agg 66 [.int .i64 (lo.I 0), .bool true])], []⟩) (.br (lo.k == 2) (.done (.exit 0) (aU 26 [(4, .ptr 1 [] 67 0)] []) ⟨[.var 26 (aG i2 l0 l1 b1 b2 b3 i3), .var 67 (.agg 66 [.int .i64 0, .bool false])], []⟩) (.fail))
def Cy : StP := ⟨26, [(1, .int .u32), (4, .ptr 1 [] 67 (some 0)), (5, .bool), (6, .int .i64)], [], [.var 26 (eP), .var 67 (.agg 66 [.intC .i64 0, .boolC false])], []⟩
abbrev aaP {α : Type} (f : Int -> Bool -> Int -> List AV -> List AV -> Bool -> Bool -> Bool -> Int -> Int -> α) (fr : Fr) (M : Mm) : α := f (aj (tA fr 1)) (av (tA fr 5)) (aj (pA (vR M 0) 0)) (au (pA (vR M 0) 1)) (au (pA (vR M 0) 2)) (av (pA (vR M 0) 3)) (av (pA (vR M 0) 4)) (av (pA (vR M 0) 5)) (aj (pA (vR M 0) 6)) ((aj (tA fr 6)))
def Kw (F : Tab) (i0 : Int) (b0 : Bool) (i2 : Int) (l0 l1 : List AV) (b1 b2 b3 : Bool) (i3 : Int) (s : Int) : LT := Qz i0 b0 i2 l0 l1 b1 b2 b3 i3 (Tr.run (wB F i0 b0 i2 l0 l1 b1 b2 b3 i3) 100000 s)
def PY (F : Tab) (dep : Nat) (fr : Fr) (M : Mm) : Option LT := if Cy.ok fr M then some (aaP (Kw F) fr M) else none
def E5 (F : Tab) (i11 i12 : Int) (l7 l8 : List AV) (i13 : Int) (i0 : Int) (b0 : Bool) (i1 : Int) (l0 l1 : List AV) (b1 b2 b3 : Bool) (i2 i3 : Int) (l2 l3 : List AV) (b4 b5 b6 : Bool) (i4 i5 : Int) (l4 l5 : List AV) (b7 b8 : Bool) (i6 i7 i8 i9 i10 : Int) (l6 : List AV) : Tr (T1) :=
    let x0 : List AV := au (aA F 26 [aO b0 i1 l0 l1 b1 b2 b3 i2 i3 l2 l3 b4 b5 b6 i4 i5 l4 l5 b7 b8 i6 i7 i8 i9 i10 l6, .int .i64 (aj (l8.getD i0.toNat .dead)), .int .i64 4]);
    let x1 : List AV := au (x0.getD 0 .dead);
    let x2 : List AV := au (x1.getD 1 .dead);
    let x3 : List AV := au (x1.getD 2 .dead);
    let x4 : List AV := au (x1.getD 7 .dead);
    .br (decide (i0 < ((l8.length : Nat) : Int)))
     (.br (cond (aN i0 l8.length) (cond (aB Pg F 26 [aO b0 i1 l0 l1 b1 b2 b3 i2 i3 l2 l3 b4 b5 b6 i4 i5 l4 l5 b7 b8 i6 i7 i8 i9 i10 l6, .int .i64 (aj (l8.getD i0.toNat .dead)), .int .i64 4]) true false) false)
      (.next (IntKind.i64.wrap (i0 + 1), av (x1.getD 0 .dead), aj (x2.getD 0 .dead), au (x2.getD 1 .dead), au (x2.getD 2 .dead), av (x2.getD 3 .dead), av (x2.getD 4 .dead), av (x2.getD 5 .dead), aj (x2.getD 6 .dead), aj (x3.getD 0 .dead), au (x3.getD 1 .dead), au (x3.getD 2 .dead), av (x3.getD 3 .dead), av (x3.getD 4 .dead), av (x3.getD 5 .dead), aj (x3.getD 6 .dead), aj (x1.getD 3 .dead), ay (x1.getD 4 .dead), ay (x1.getD 5 .dead), av (x1.getD 6 .dead), av (x4.getD 0 .dead), aj (x4.getD 1 .dead), aj (x4.getD 2 .dead), aj (x1.getD 8 .dead), aj (x1.getD 9 .dead), aj (x1.getD 10 .dead), ay ((au (x0.getD 1 .dead)).getD 0 .dead)))
      (.bad))
     (.out ⟨1, [i1, i2, i3, i4, i5, i6, i7, i8, i9, i10], [b0, b1, b2, b3, b4, b5, b6, b7, b8], [l0, l1, l2, l3, l4, l5, l6], [], [], []⟩)
def sQ (F : Tab) (i11 i12 : Int) (l7 l8 : List AV) (i13 : Int) (s : T1) : Tr (T1) := E5 F i11 i12 l7 l8 i13 s.1 s.2.1 s.2.2.1 s.2.2.2.1 s.2.2.2.2.1 s.2.2.2.2.2.1 s.2.2.2.2.2.2.1 s.2.2.2.2.2.2.2.1 s.2.2.2.2.2.2.2.2.1 s.2.2.2.2.2.2.2.2.2.1 s.2.2.2.2.2.2.2.2.2.2.1 s.2.2.2.2.2.2.2.2.2.2.2.1 s.2.2.2.2.2.2.2.2.2.2.2.2.1 s.2.2.2.2.2.2.2.2.2.2.2.2.2.1 s.2.2.2.2.2.2.2.2.2.2.2.2.2.2.1 s.2.2.2.2.2.2.2.2.2.2.2.2.2.2.2.1 s.2.2.2.2.2.2.2.2.2.2.2.2.2.2.2.2.1 s.2.2.2.2.2.2.2.2.2.2.2.2.2.2.2.2.2.1 s.2.2.2.2.2.2.2.2.2.2.2.2.2.2.2.2.2.2.1 s.2.2.2.2.2.2.2.2.2.2.2.2.2.2.2.2.2.2.2.1 s.2.2.2.2.2.2.2.2.2.2.2.2.2.2.2.2.2.2.2.2.1 s.2.2.2.2.2.2.2.2.2.2.2.2.2.2.2.2.2.2.2.2.2.1 s.2.2.2.2.2.2.2.2.2.2.2.2.2.2.2.2.2.2.2.2.2.2.1 s.2.2.2.2.2.2.2.2.2.2.2.2.2.2.2.2.2.2.2.2.2.2.2.1 s.2.2.2.2.2.2.2.2.2.2.2.2.2.2.2.2.2.2.2.2.2.2.2.2.1 s.2.2.2.2.2.2.2.2.2.2.2.2.2.2.2.2.2.2.2.2.2.2.2.2.2.1 s.2.2.2.2.2.2.2.2.2.2.2.2.2.2.2.2.2.2.2.2.2.2.2.2.2.2
def X3 (i11 i12 : Int) (l7 l8 : List AV) (i13 : Int) : T1 -> Fr := fun (i0, b0, i1, l0, l1, b1, b2, b3, i2, i3, l2, l3, b4, b5, b6, i4, i5, l4, l5, b7, b8, i6, i7, i8, i9, i10, l6) => (aU 63 [(3, .ptr 0 [] 65 0), (6, .ptr 1 [] 71 0), (7, .ptr 2 [] 120 0), (8, .int .i64 i0)] [])
def aay (i11 i12 : Int) (l7 l8 : List AV) (i13 : Int) : T1 -> Mm := fun (i0, b0, i1, l0, l1, b1, b2, b3, i2, i3, l2, l3, b4, b5, b6, i4, i5, l4, l5, b7, b8, i6, i7, i8, i9, i10, l6) => ⟨[.var 65 (aO b0 i1 l0 l1 b1 b2 b3 i2 i3 l2 l3 b4 b5 b6 i4 i5 l4 l5 b7 b8 i6 i7 i8 i9 i10 l6), .var 71 (Co), .var 120 (mV i11 i12 l7 l8 i13)], [(1, [0, 0, 4]), (1, [0, 0, 5]), (1, [0, 1, 0])]⟩
def Jh (F : Tab) (i11 i12 : Int) (l7 l8 : List AV) (i13 : Int) (fuel : Nat) (i0 : Int) (b0 : Bool) (i1 : Int) (l0 l1 : List AV) (b1 b2 b3 : Bool) (i2 i3 : Int) (l2 l3 : List AV) (b4 b5 b6 : Bool) (i4 i5 : Int) (l4 l5 : List AV) (b7 b8 : Bool) (i6 i7 i8 i9 i10 : Int) (l6 : List AV) : LO := Tr.run (sQ F i11 i12 l7 l8 i13) fuel (i0, b0, i1, l0, l1, b1, b2, b3, i2, i3, l2, l3, b4, b5, b6, i4, i5, l4, l5, b7, b8, i6, i7, i8, i9, i10, l6)
def Qc (i11 i12 : Int) (l7 l8 : List AV) (i13 : Int) (lo : LO) : LT :=
 .br (lo.k == 1) (.done (.exit 0) (aU 63 [(3, .ptr 0 [] 65 0), (6, .ptr 1 [] 71 0), (7, .ptr 2 [] 120 0)] []) ⟨[.var 65 (aO (lo.B 0) (lo.I 0) (lo.L 0) (lo.L 1) (lo.B 1) (lo.B 2) (lo.B 3) (lo.I 1) (lo.I 2) (lo.L 2) (lo.L 3) (lo.B 4) (lo.B 5) (lo.B 6) (lo.I 3) (lo.I 4) (lo.L 4) (lo.L 5) (lo.B 7) (lo.B 8) (lo.I 5) (lo.I 6) (lo.I 7) (lo.I 8) (lo.I 9) (lo.L 6)), .var 71 (Co), .var 120 (mV i11 i12 l7 l8 i13)], [(1, [0, 0, 4]), (1, [0, 0, 5]), (1, [0, 1, 0])]⟩) (.fail)
def zW : StP := ⟨63, [(3, .ptr 0 [] 65 (some 0)), (6, .ptr 1 [] 71 (some 0)), (7, .ptr 2 [] 120 (some 0)), (8, .int .i64)], [], [.var 65 (JO), .var 71 (kp5), .var 120 (.agg 119 [.agg 117 [.int .i64, .int .i64, .slice 57 false, .slice 3 false], .int .i64])], [(1, [0, 0, 4]), (1, [0, 0, 5]), (1, [0, 1, 0])]⟩
abbrev adu {α : Type} (f : Int -> Int -> List AV -> List AV -> Int -> T1 -> α) (fr : Fr) (M : Mm) : α := f (aj (pA (pA (vR M 2) 0) 0)) (aj (pA (pA (vR M 2) 0) 1)) (ay (pA (pA (vR M 2) 0) 2)) (ay (pA (pA (vR M 2) 0) 3)) (aj (pA (vR M 2) 1)) ((aj (tA fr 8)), (av (pA (pA (vR M 0) 0) 0)), (aj (pA (pA (pA (vR M 0) 0) 1) 0)), (au (pA (pA (pA (vR M 0) 0) 1) 1)), (au (pA (pA (pA (vR M 0) 0) 1) 2)), (av (pA (pA (pA (vR M 0) 0) 1) 3)), (av (pA (pA (pA (vR M 0) 0) 1) 4)), (av (pA (pA (pA (vR M 0) 0) 1) 5)), (aj (pA (pA (pA (vR M 0) 0) 1) 6)), (aj (pA (pA (pA (vR M 0) 0) 2) 0)), (au (pA (pA (pA (vR M 0) 0) 2) 1)), (au (pA (pA (pA (vR M 0) 0) 2) 2)), (av (pA (pA (pA (vR M 0) 0) 2) 3)), (av (pA (pA (pA (vR M 0) 0) 2) 4)), (av (pA (pA (pA (vR M 0) 0) 2) 5)), (aj (pA (pA (pA (vR M 0) 0) 2) 6)), (aj (pA (pA (vR M 0) 0) 3)), (ay (pA (pA (vR M 0) 0) 4)), (ay (pA (pA (vR M 0) 0) 5)), (av (pA (pA (vR M 0) 0) 6)), (av (pA (pA (pA (vR M 0) 0) 7) 0)), (aj (pA (pA (pA (vR M 0) 0) 7) 1)), (aj (pA (pA (pA (vR M 0) 0) 7) 2)), (aj (pA (pA (vR M 0) 0) 8)), (aj (pA (pA (vR M 0) 0) 9)), (aj (pA (pA (vR M 0) 0) 10)), (ay (pA (pA (vR M 0) 1) 0)))
def OL (F : Tab) (i11 i12 : Int) (l7 l8 : List AV) (i13 : Int) (s : T1) : LT := Qc i11 i12 l7 l8 i13 (Tr.run (sQ F i11 i12 l7 l8 i13) 100000 s)
def Kr (F : Tab) (dep : Nat) (fr : Fr) (M : Mm) : Option LT := if zW.ok fr M then some (adu (OL F) fr M) else none
def Gm (F : Tab) (i11 i12 : Int) (l7 l8 : List AV) (i13 : Int) (i0 : Int) (b0 : Bool) (i1 : Int) (l0 l1 : List AV) (b1 b2 b3 : Bool) (i2 i3 : Int) (l2 l3 : List AV) (b4 b5 b6 : Bool) (i4 i5 : Int) (l4 l5 : List AV) (b7 b8 : Bool) (i6 i7 i8 i9 i10 : Int) (l6 : List AV) : Tr (T1) :=
    let x0 : List AV := au (aA F 53 [aO b0 i1 l0 l1 b1 b2 b3 i2 i3 l2 l3 b4 b5 b6 i4 i5 l4 l5 b7 b8 i6 i7 i8 i9 i10 l6, bq (aj ((au (l7.getD i0.toNat .dead)).getD 0 .dead)) (aj ((au (l7.getD i0.toNat .dead)).getD 1 .dead)) (aj ((au (l7.getD i0.toNat .dead)).getD 2 .dead))]);
    let x1 : List AV := au (x0.getD 0 .dead);
    let x2 : List AV := au (x1.getD 1 .dead);
    let x3 : List AV := au (x1.getD 2 .dead);
    let x4 : List AV := au (x1.getD 7 .dead);
    .br (decide (i0 < ((l7.length : Nat) : Int)))
     (.br (cond (aN i0 l7.length) (cond (aB Pg F 53 [aO b0 i1 l0 l1 b1 b2 b3 i2 i3 l2 l3 b4 b5 b6 i4 i5 l4 l5 b7 b8 i6 i7 i8 i9 i10 l6, bq (aj ((au (l7.getD i0.toNat .dead)).getD 0 .dead)) (aj ((au (l7.getD i0.toNat .dead)).getD 1 .dead)) (aj ((au (l7.getD i0.toNat .dead)).getD 2 .dead))]) true false) false)
      (.next (IntKind.i64.wrap (i0 + 1), av (x1.getD 0 .dead), aj (x2.getD 0 .dead), au (x2.getD 1 .dead), au (x2.getD 2 .dead), av (x2.getD 3 .dead), av (x2.getD 4 .dead), av (x2.getD 5 .dead), aj (x2.getD 6 .dead), aj (x3.getD 0 .dead), au (x3.getD 1 .dead), au (x3.getD 2 .dead), av (x3.getD 3 .dead), av (x3.getD 4 .dead), av (x3.getD 5 .dead), aj (x3.getD 6 .dead), aj (x1.getD 3 .dead), ay (x1.getD 4 .dead), ay (x1.getD 5 .dead), av (x1.getD 6 .dead), av (x4.getD 0 .dead), aj (x4.getD 1 .dead), aj (x4.getD 2 .dead), aj (x1.getD 8 .dead), aj (x1.getD 9 .dead), aj (x1.getD 10 .dead), ay ((au (x0.getD 1 .dead)).getD 0 .dead)))
      (.bad))
     (.out ⟨1, [i1, i2, i3, i4, i5, i6, i7, i8, i9, i10], [b0, b1, b2, b3, b4, b5, b6, b7, b8], [l0, l1, l2, l3, l4, l5, l6], [], [], []⟩)
def uT (F : Tab) (i11 i12 : Int) (l7 l8 : List AV) (i13 : Int) (s : T1) : Tr (T1) := Gm F i11 i12 l7 l8 i13 s.1 s.2.1 s.2.2.1 s.2.2.2.1 s.2.2.2.2.1 s.2.2.2.2.2.1 s.2.2.2.2.2.2.1 s.2.2.2.2.2.2.2.1 s.2.2.2.2.2.2.2.2.1 s.2.2.2.2.2.2.2.2.2.1 s.2.2.2.2.2.2.2.2.2.2.1 s.2.2.2.2.2.2.2.2.2.2.2.1 s.2.2.2.2.2.2.2.2.2.2.2.2.1 s.2.2.2.2.2.2.2.2.2.2.2.2.2.1 s.2.2.2.2.2.2.2.2.2.2.2.2.2.2.1 s.2.2.2.2.2.2.2.2.2.2.2.2.2.2.2.1 s.2.2.2.2.2.2.2.2.2.2.2.2.2.2.2.2.1 s.2.2.2.2.2.2.2.2.2.2.2.2.2.2.2.2.2.1 s.2.2.2.2.2.2.2.2.2.2.2.2.2.2.2.2.2.2.1 s.2.2.2.2.2.2.2.2.2.2.2.2.2.2.2.2.2.2.2.1 s.2.2.2.2.2.2.2.2.2.2.2.2.2.2.2.2.2.2.2.2.1 s.2.2.2.2.2.2.2.2.2.2.2.2.2.2.2.2.2.2.2.2.2.1 s.2.2.2.2.2.2.2.2.2.2.2.2.2.2.2.2.2.2.2.2.2.2.1 s.2.2.2.2.2.2.2.2.2.2.2.2.2.2.2.2.2.2.2.2.2.2.2.1 s.2.2.2.2.2.2.2.2.2.2.2.2.2.2.2.2.2.2.2.2.2.2.2.2.1 s.2.2.2.2.2.2.2.2.2.2.2.2.2.2.2.2.2.2.2.2.2.2.2.2.2.1 s.2.2.2.2.2.2.2.2.2.2.2.2.2.2.2.2.2.2.2.2.2.2.2.2.2.2
def abq (i11 i12 : Int) (l7 l8 : List AV) (i13 : Int) : T1 -> Fr := fun (i0, b0, i1, l0, l1, b1, b2, b3, i2, i3, l2, l3, b4, b5, b6, i4, i5, l4, l5, b7, b8, i6, i7, i8, i9, i10, l6) => (aU 63 [(3, .ptr 0 [] 65 0), (6, .ptr 1 [] 71 0), (7, .ptr 2 [] 120 0), (9, .int .i64 i0)] [])
def VP (i11 i12 : Int) (l7 l8 : List AV) (i13 : Int) : T1 -> Mm := fun (i0, b0, i1, l0, l1, b1, b2, b3, i2, i3, l2, l3, b4, b5, b6, i4, i5, l4, l5, b7, b8, i6, i7, i8, i9, i10, l6) => ⟨[.var 65 (aO b0 i1 l0 l1 b1 b2 b3 i2 i3 l2 l3 b4 b5 b6 i4 i5 l4 l5 b7 b8 i6 i7 i8 i9 i10 l6), .var 71 (Co), .var 120 (mV i11 i12 l7 l8 i13)], [(1, [0, 0, 4]), (1, [0, 0, 5]), (1, [0, 1, 0])]⟩
def PL (F : Tab) (i11 i12 : Int) (l7 l8 : List AV) (i13 : Int) (fuel : Nat) (i0 : Int) (b0 : Bool) (i1 : Int) (l0 l1 : List AV) (b1 b2 b3 : Bool) (i2 i3 : Int) (l2 l3 : List AV) (b4 b5 b6 : Bool) (i4 i5 : Int) (l4 l5 : List AV) (b7 b8 : Bool) (i6 i7 i8 i9 i10 : Int) (l6 : List AV) : LO := Tr.run (uT F i11 i12 l7 l8 i13) fuel (i0, b0, i1, l0, l1, b1, b2, b3, i2, i3, l2, l3, b4, b5, b6, i4, i5, l4, l5, b7, b8, i6, i7, i8, i9, i10, l6)
def MP (i11 i12 : Int) (l7 l8 : List AV) (i13 : Int) (lo : LO) : LT :=
 .br (lo.k == 1) (.done (.exit 2) (aU 63 [(3, .ptr 0 [] 65 0), (6, .ptr 1 [] 71 0), (7, .ptr 2 [] 120 0)] []) ⟨[.var 65 (aO (lo.B 0) (lo.I 0) (lo.L 0) (lo.L 1) (lo.B 1) (lo.B 2) (lo.B 3) (lo.I 1) (lo.I 2) (lo.L 2) (lo.L 3) (lo.B 4) (lo.B 5) (lo.B 6) (lo.I 3) (lo.I 4) (lo.L 4) (lo.L 5) (lo.B 7) (lo.B 8) (lo.I 5) (lo.I 6) (lo.I 7) (lo.I 8) (lo.I 9) (lo.L 6)), .var 71 (Co), .var 120 (mV i11 i12 l7 l8 i13)], [(1, [0, 0, 4]), (1, [0, 0, 5]), (1, [0, 1, 0])]⟩) (.fail)
def zu : StP := ⟨63, [(3, .ptr 0 [] 65 (some 0)), (6, .ptr 1 [] 71 (some 0)), (7, .ptr 2 [] 120 (some 0)), (9, .int .i64)], [], [.var 65 (JO), .var 71 (kp5), .var 120 (.agg 119 [.agg 117 [.int .i64, .int .i64, .slice 57 false, .slice 3 false], .int .i64])], [(1, [0, 0, 4]), (1, [0, 0, 5]), (1, [0, 1, 0])]⟩
abbrev acy {α : Type} (f : Int -> Int -> List AV -> List AV -> Int -> T1 -> α) (fr : Fr) (M : Mm) : α := f (aj (pA (pA (vR M 2) 0) 0)) (aj (pA (pA (vR M 2) 0) 1)) (ay (pA (pA (vR M 2) 0) 2)) (ay (pA (pA (vR M 2) 0) 3)) (aj (pA (vR M 2) 1)) ((aj (tA fr 9)), (av (pA (pA (vR M 0) 0) 0)), (aj (pA (pA (pA (vR M 0) 0) 1) 0)), (au (pA (pA (pA (vR M 0) 0) 1) 1)), (au (pA (pA (pA (vR M 0) 0) 1) 2)), (av (pA (pA (pA (vR M 0) 0) 1) 3)), (av (pA (pA (pA (vR M 0) 0) 1) 4)), (av (pA (pA (pA (vR M 0) 0) 1) 5)), (aj (pA (pA (pA (vR M 0) 0) 1) 6)), (aj (pA (pA (pA (vR M 0) 0) 2) 0)), (au (pA (pA (pA (vR M 0) 0) 2) 1)), (au (pA (pA (pA (vR M 0) 0) 2) 2)), (av (pA (pA (pA (vR M 0) 0) 2) 3)), (av (pA (pA (pA (vR M 0) 0) 2) 4)), (av (pA (pA (pA (vR M 0) 0) 2) 5)), (aj (pA (pA (pA (vR M 0) 0) 2) 6)), (aj (pA (pA (vR M 0) 0) 3)), (ay (pA (pA (vR M 0) 0) 4)), (ay (pA (pA (vR M 0) 0) 5)), (av (pA (pA (vR M 0) 0) 6)), (av (pA (pA (pA (vR M 0) 0) 7) 0)), (aj (pA (pA (pA (vR M 0) 0) 7) 1)), (aj (pA (pA (pA (vR M 0) 0) 7) 2)), (aj (pA (pA (vR M 0) 0) 8)), (aj (pA (pA (vR M 0) 0) 9)), (aj (pA (pA (vR M 0) 0) 10)), (ay (pA (pA (vR M 0) 1) 0)))
def KA (F : Tab) (i11 i12 : Int) (l7 l8 : List AV) (i13 : Int) (s : T1) : LT := MP i11 i12 l7 l8 i13 (Tr.run (uT F i11 i12 l7 l8 i13) 100000 s)
def KH (F : Tab) (dep : Nat) (fr : Fr) (M : Mm) : Option LT := if zu.ok fr M then some (acy (KA F) fr M) else none
def Kq (F : Tab) (i0 : Int) (l0 : List AV) (i1 i2 : Int) : Tr (Int × Int) :=
    .br (decide ((0 : Int) <= i2))
     (.br (aB Pg F 55 [aD l0, .int .i64 (IntKind.i64.wrap (i0 + i2))])
      (.next (aL .or .u32 (IntKind.u32.wrap (i1 * 256)) (IntKind.u32.wrap (aj (aA F 55 [aD l0, .int .i64 (IntKind.i64.wrap (i0 + i2))]))), IntKind.i64.wrap (i2 - 1)))
      (.bad))
     (.out ⟨1, [i1], [], [], [], [], []⟩)
def ni (F : Tab) (i0 : Int) (l0 : List AV) (s : Int × Int) : Tr (Int × Int) := Kq F i0 l0 s.1 s.2
def acO (i0 : Int) (l0 : List AV) : Int × Int -> Fr := fun (i1, i2) => (aU 34 [(1, .int .i64 i0), (3, .ptr 0 [] 29 0), (6, .ptr 1 [] 75 0), (8, .int .u32 i1), (9, .int .i64 i2)] [])
def TJ (i0 : Int) (l0 : List AV) : Int × Int -> Mm := fun (i1, i2) => ⟨[.var 29 (aD l0), .var 75 (.agg 74 [.int .u32 0, .bool false])], []⟩
def FD (F : Tab) (i0 : Int) (l0 : List AV) (fuel : Nat) (i1 i2 : Int) : LO := Tr.run (ni F i0 l0) fuel (i1, i2)
def QG (i0 : Int) (l0 : List AV) (lo : LO) : LT :=
 .br (lo.k == 1) (.done (.exit 0) (aU 34 [(6, .ptr 1 [] 75 0), (8, .int .u32 (lo.I 0))] []) ⟨[.var 29 (aD l0), .var 75 (.agg 74 [.int .u32 0, .bool false])], []⟩) (.fail)
def CY : StP := ⟨34, [(1, .int .i64), (3, .ptr 0 [] 29 (some 0)), (6, .ptr 1 [] 75 (some 0)), (8, .int .u32), (9, .int .i64)], [], [.var 29 (.agg 28 [.slice 139 false]), .var 75 (.agg 74 [.intC .u32 0, .boolC false])], []⟩
abbrev Vy {α : Type} (f : Int -> List AV -> (Int × Int) -> α) (fr : Fr) (M : Mm) : α := f (aj (tA fr 1)) (ay (pA (vR M 0) 0)) ((aj (tA fr 8)), (aj (tA fr 9)))
def L8 (F : Tab) (i0 : Int) (l0 : List AV) (s : Int × Int) : LT := QG i0 l0 (Tr.run (ni F i0 l0) 100000 s)
def Pp (F : Tab) (dep : Nat) (fr : Fr) (M : Mm) : Option LT := if CY.ok fr M then some (Vy (L8 F) fr M) else none
def MI (F : Tab) (l1 : List AV) (n0 : Nat) (i1 i2 i3 : Int) (n1 : Nat) (i4 i5 i6 : Int) (n2 : Nat) (i0 : Int) (l0 l2 : List AV) : Tr (T2) :=
    .br (decide ((0 : Int) < ((l0.length : Nat) : Int)))
     (.br (aN (IntKind.i64.wrap (i0.tdiv 128)) n2)
      (.br ((decide ((0 : Int) <= (i0.tmod 128))) && (decide ((i0.tmod 128) <= 128)))
       (.br (cond ((decide ((0 : Int) <= ((min l0.length (128 - ((i0.tmod 128).toNat)) : Nat) : Int))) && (decide (((min l0.length (128 - ((i0.tmod 128).toNat)) : Nat) : Int) <= ((l0.length : Nat) : Int)))) true false)
        (.next (IntKind.i64.wrap (i0 + ((min l0.length (128 - ((i0.tmod 128).toNat)) : Nat) : Int)), sub l0 (((min l0.length (128 - ((i0.tmod 128).toNat)) : Nat) : Int).toNat) l0.length, l2.set (0 + ((IntKind.i64.wrap (i0.tdiv 128)).toNat)) (.agg (jh (l2.getD (0 + ((IntKind.i64.wrap (i0.tdiv 128)).toNat)) .dead)) (((au (l2.getD (0 + ((IntKind.i64.wrap (i0.tdiv 128)).toNat)) .dead)).take ((i0.tmod 128).toNat)) ++ ((l0.take (min l0.length (128 - ((i0.tmod 128).toNat)))) ++ ((au (l2.getD (0 + ((IntKind.i64.wrap (i0.tdiv 128)).toNat)) .dead)).drop (((i0.tmod 128).toNat) + (min l0.length (128 - ((i0.tmod 128).toNat))))))))))
        (.bad))
       (.bad))
      (.bad))
     (.out ⟨1, [], [], [l2], [], [], []⟩)
def xO (F : Tab) (l1 : List AV) (n0 : Nat) (i1 i2 i3 : Int) (n1 : Nat) (i4 i5 i6 : Int) (n2 : Nat) (s : T2) : Tr (T2) := MI F l1 n0 i1 i2 i3 n1 i4 i5 i6 n2 s.1 s.2.1 s.2.2
def aaM (l1 : List AV) (n0 : Nat) (i1 i2 i3 : Int) (n1 : Nat) (i4 i5 i6 : Int) (n2 : Nat) : T2 -> Fr := fun (i0, l0, l2) => (aU 26 [(1, .int .i64 i0), (2, .slice 5 l0 false), (3, .ptr 7 [] 141 0)] [])
def Vu (l1 : List AV) (n0 : Nat) (i1 i2 i3 : Int) (n1 : Nat) (i4 i5 i6 : Int) (n2 : Nat) : T2 -> Mm := fun (i0, l0, l2) => ⟨[.var 29 (aD l1), .var 29 (aD []), .arr 139 l2, .var 141 (.agg 140 [.msl 2 [] 139 0 0 n0]), .var 57 (bq i1 i2 i3), .var 141 (.agg 140 [.msl 2 [] 139 0 0 n1]), .var 57 (bq i4 i5 i6), .var 141 (.agg 140 [.msl 2 [] 139 0 0 n2])], [(1, [0])]⟩
def Il (F : Tab) (l1 : List AV) (n0 : Nat) (i1 i2 i3 : Int) (n1 : Nat) (i4 i5 i6 : Int) (n2 : Nat) (fuel : Nat) (i0 : Int) (l0 l2 : List AV) : LO := Tr.run (xO F l1 n0 i1 i2 i3 n1 i4 i5 i6 n2) fuel (i0, l0, l2)
def Js (l1 : List AV) (n0 : Nat) (i1 i2 i3 : Int) (n1 : Nat) (i4 i5 i6 : Int) (n2 : Nat) (lo : LO) : LT :=
 .br (lo.k == 1) (.done (.exit 0) (aU 26 [] []) ⟨[.var 29 (aD l1), .var 29 (aD []), .arr 139 (lo.L 0), .var 141 (.agg 140 [.msl 2 [] 139 0 0 n0]), .var 57 (bq i1 i2 i3), .var 141 (.agg 140 [.msl 2 [] 139 0 0 n1]), .var 57 (bq i4 i5 i6), .var 141 (.agg 140 [.msl 2 [] 139 0 0 n2])], [(1, [0])]⟩) (.fail)
def BO : StP := ⟨26, [(1, .int .i64), (2, .slice 5 false), (3, .ptr 7 [] 141 (some 0))], [], [.var 29 (.agg 28 [.slice 139 false]), .var 29 (.agg 28 [.sliceL 139 [] false]), .arr 139, .var 141 (.agg 140 [.msl 2 [] 139 (some 0) (some 0) none]), .var 57 (.agg 56 [.int .i64, .int .i64, .int .u32]), .var 141 (.agg 140 [.msl 2 [] 139 (some 0) (some 0) none]), .var 57 (.agg 56 [.int .i64, .int .i64, .int .u32]), .var 141 (.agg 140 [.msl 2 [] 139 (some 0) (some 0) none])], [(1, [0])]⟩
abbrev ace {α : Type} (f : List AV -> Nat -> Int -> Int -> Int -> Nat -> Int -> Int -> Int -> Nat -> T2 -> α) (fr : Fr) (M : Mm) : α := f (ay (pA (vR M 0) 0)) (nS (pA (vR M 3) 0)) (aj (pA (vR M 4) 0)) (aj (pA (vR M 4) 1)) (aj (pA (vR M 4) 2)) (nS (pA (vR M 5) 0)) (aj (pA (vR M 6) 0)) (aj (pA (vR M 6) 1)) (aj (pA (vR M 6) 2)) (nS (pA (vR M 7) 0)) ((aj (tA fr 1)), (ay (tA fr 2)), (ow (oR M 2)))
def Jp (F : Tab) (l1 : List AV) (n0 : Nat) (i1 i2 i3 : Int) (n1 : Nat) (i4 i5 i6 : Int) (n2 : Nat) (s : T2) : LT := Js l1 n0 i1 i2 i3 n1 i4 i5 i6 n2 (Tr.run (xO F l1 n0 i1 i2 i3 n1 i4 i5 i6 n2) 100000 s)
def I5 (F : Tab) (dep : Nat) (fr : Fr) (M : Mm) : Option LT := if BO.ok fr M then some (ace (Jp F) fr M) else none
def He (F : Tab) (n0 : Nat) (l0 : List AV) (i0 : Int) (l1 : List AV) (n1 : Nat) (i1 : Int) (l2 : List AV) : Tr (Int × List AV) :=
    let x0 : Bool := ((aj ((au (l0.getD i1.toNat .dead)).getD 0 .dead)).tmod (aj ((au (l0.getD i1.toNat .dead)).getD 1 .dead))) == 0;
    let x1 : Bool := !(decide ((aj ((au (l0.getD i1.toNat .dead)).getD 0 .dead)) <= (IntKind.i64.wrap ((IntKind.i64.wrap (((n0 : Nat) : Int) * 128)) - (aj ((au (l0.getD i1.toNat .dead)).getD 1 .dead))))));
    let x2 : Bool := cond ((decide ((0 : Int) <= (aj ((au (l0.getD i1.toNat .dead)).getD 1 .dead)))) && (decide ((aj ((au (l0.getD i1.toNat .dead)).getD 1 .dead)) <= 4))) true false;
    let x3 : LO := Il F l1 n1 (aj ((au (l0.getD i1.toNat .dead)).getD 0 .dead)) (aj ((au (l0.getD i1.toNat .dead)).getD 1 .dead)) (aj ((au (l0.getD i1.toNat .dead)).getD 2 .dead)) n0 (aj ((au (l0.getD i1.toNat .dead)).getD 0 .dead)) (aj ((au (l0.getD i1.toNat .dead)).getD 1 .dead)) (aj ((au (l0.getD i1.toNat .dead)).getD 2 .dead)) n0 100000 (aj ((au (l0.getD i1.toNat .dead)).getD 0 .dead)) (sub [.int .u8 (IntKind.u8.wrap (aj ((au (l0.getD i1.toNat .dead)).getD 2 .dead))), .int .u8 (IntKind.u8.wrap ((aj ((au (l0.getD i1.toNat .dead)).getD 2 .dead)).fdiv 256)), .int .u8 (IntKind.u8.wrap ((aj ((au (l0.getD i1.toNat .dead)).getD 2 .dead)).fdiv 65536)), .int .u8 (IntKind.u8.wrap ((aj ((au (l0.getD i1.toNat .dead)).getD 2 .dead)).fdiv 16777216))] 0 ((aj ((au (l0.getD i1.toNat .dead)).getD 1 .dead)).toNat)) l2;
    let x4 : List AV := x3.l.getD 0 [];
    let x5 : Bool := x3.k == 1;
    .br (decide (i1 < i0))
     (.br (aN i1 l0.length)
      (.br ((aj ((au (l0.getD i1.toNat .dead)).getD 1 .dead)) == 1)
       (.br (decide ((0 : Int) <= (aj ((au (l0.getD i1.toNat .dead)).getD 0 .dead))))
        (.br (!((aj ((au (l0.getD i1.toNat .dead)).getD 1 .dead)) == 0))
         (.br x0
          (.br x1
           (.out ⟨1, [], [], [l2], [], [], []⟩)
           (.br x2
            (.br x5
             (.next (IntKind.i64.wrap (i1 + 1), x4))
             (.bad))
            (.bad)))
          (.out ⟨1, [], [], [l2], [], [], []⟩))
         (.bad))
        (.out ⟨1, [], [], [l2], [], [], []⟩))
       (.br ((aj ((au (l0.getD i1.toNat .dead)).getD 1 .dead)) == 4)
        (.br (decide ((0 : Int) <= (aj ((au (l0.getD i1.toNat .dead)).getD 0 .dead))))
         (.br (!((aj ((au (l0.getD i1.toNat .dead)).getD 1 .dead)) == 0))
          (.br x0
           (.br x1
            (.out ⟨1, [], [], [l2], [], [], []⟩)
            (.br x2
             (.br x5
              (.next (IntKind.i64.wrap (i1 + 1), x4))
              (.bad))
             (.bad)))
           (.out ⟨1, [], [], [l2], [], [], []⟩))
          (.bad))
         (.out ⟨1, [], [], [l2], [], [], []⟩))
        (.out ⟨1, [], [], [l2], [], [], []⟩)))
      (.bad))
     (.out ⟨2, [], [], [l2], [], [], []⟩)
def qO (F : Tab) (n0 : Nat) (l0 : List AV) (i0 : Int) (l1 : List AV) (n1 : Nat) (s : Int × List AV) : Tr (Int × List AV) := He F n0 l0 i0 l1 n1 s.1 s.2
def Xv (n0 : Nat) (l0 : List AV) (i0 : Int) (l1 : List AV) (n1 : Nat) : Int × List AV -> Fr := fun (i1, l2) => (aU 31 [(2, .ptr 0 [] 29 0), (4, .ptr 1 [] 29 0), (6, .ptr 3 [] 141 0), (7, .func (.func 67) [.agg 140 [.msl 2 [] 139 0 0 n0]] []), (16, .slice 57 l0 false), (17, .int .i64 i0), (18, .int .i64 i1)] [])
def QU (n0 : Nat) (l0 : List AV) (i0 : Int) (l1 : List AV) (n1 : Nat) : Int × List AV -> Mm := fun (i1, l2) => ⟨[.var 29 (aD l1), .var 29 (aD []), .arr 139 l2, .var 141 (.agg 140 [.msl 2 [] 139 0 0 n1])], [(1, [0])]⟩
def NS (F : Tab) (n0 : Nat) (l0 : List AV) (i0 : Int) (l1 : List AV) (n1 : Nat) (fuel : Nat) (i1 : Int) (l2 : List AV) : LO := Tr.run (qO F n0 l0 i0 l1 n1) fuel (i1, l2)
def Lv (n0 : Nat) (l0 : List AV) (i0 : Int) (l1 : List AV) (n1 : Nat) (lo : LO) : LT :=
 .br (lo.k == 1) (.done .ret (aU 31 [(4, .ptr 1 [] 29 0), (5, .bool false), (6, .ptr 3 [] 141 0)] []) ⟨[.var 29 (aD l1), .var 29 (aD l1), .arr 139 (lo.L 0), .var 141 (.agg 140 [.msl 2 [] 139 0 0 n1])], []⟩) (.br (lo.k == 2) (.done (.exit 0) (aU 31 [(4, .ptr 1 [] 29 0), (6, .ptr 3 [] 141 0)] []) ⟨[.var 29 (aD l1), .var 29 (aD []), .arr 139 (lo.L 0), .var 141 (.agg 140 [.msl 2 [] 139 0 0 n1])], [(1, [0])]⟩) (.fail))
def Ch : StP := ⟨31, [(2, .ptr 0 [] 29 (some 0)), (4, .ptr 1 [] 29 (some 0)), (6, .ptr 3 [] 141 (some 0)), (7, .func 67 [.agg 140 [.msl 2 [] 139 (some 0) (some 0) none]] []), (16, .slice 57 false), (17, .int .i64), (18, .int .i64)], [], [.var 29 (.agg 28 [.slice 139 false]), .var 29 (.agg 28 [.sliceL 139 [] false]), .arr 139, .var 141 (.agg 140 [.msl 2 [] 139 (some 0) (some 0) none])], [(1, [0])]⟩
abbrev XZ {α : Type} (f : Nat -> List AV -> Int -> List AV -> Nat -> (Int × List AV) -> α) (fr : Fr) (M : Mm) : α := f (nS (pA ((Eu (tA fr 7)).getD 0 .dead) 0)) (ay (tA fr 16)) (aj (tA fr 17)) (ay (pA (vR M 0) 0)) (nS (pA (vR M 3) 0)) ((aj (tA fr 18)), (ow (oR M 2)))
def J7 (F : Tab) (n0 : Nat) (l0 : List AV) (i0 : Int) (l1 : List AV) (n1 : Nat) (s : Int × List AV) : LT := Lv n0 l0 i0 l1 n1 (Tr.run (qO F n0 l0 i0 l1 n1) 100000 s)
def MQ (F : Tab) (dep : Nat) (fr : Fr) (M : Mm) : Option LT := if Nat.beq dep 5 && Ch.ok fr M then some (XZ (J7 F) fr M) else none
def abd (F : Tab) (l0 l1 : List AV) (i0 : Int) (l2 : List AV) (b0 : Bool) : Tr (T3) :=
    let x0 : List AV := au (aA F 40 [aD l2, bq (aj ((au (l0.getD i0.toNat .dead)).getD 0 .dead)) (aj ((au (l0.getD i0.toNat .dead)).getD 1 .dead)) (aj ((au (l0.getD i0.toNat .dead)).getD 2 .dead))]);
    let x1 : List AV := ay ((au (x0.getD 0 .dead)).getD 0 .dead);
    let x2 : Bool := av (x0.getD 1 .dead);
    .br (decide (i0 < ((l0.length : Nat) : Int)))
     (.br (cond (aN i0 l0.length) (cond (aB Pg F 40 [aD l2, bq (aj ((au (l0.getD i0.toNat .dead)).getD 0 .dead)) (aj ((au (l0.getD i0.toNat .dead)).getD 1 .dead)) (aj ((au (l0.getD i0.toNat .dead)).getD 2 .dead))]) true false) false)
      (.br (!x2)
       (.out ⟨1, [], [x2], [x1], [], [], []⟩)
       (.next (IntKind.i64.wrap (i0 + 1), x1, x2)))
      (.bad))
     (.out ⟨2, [], [b0], [l2], [], [], []⟩)
def IZ (F : Tab) (l0 l1 : List AV) (s : T3) : Tr (T3) := abd F l0 l1 s.1 s.2.1 s.2.2
def Xk (l0 l1 : List AV) : T3 -> Fr := fun (i0, l2, b0) => (aU 28 [(1, .slice 57 l0 false), (2, .ptr 0 [] 29 0), (4, .ptr 1 [] 95 0), (5, .ptr 2 [] 95 0), (6, .int .i64 i0)] [])
def abu (l0 l1 : List AV) : T3 -> Mm := fun (i0, l2, b0) => ⟨[.var 29 (aD l1), .var 95 (Bg), .var 95 (vF l2 b0)], [(1, [0, 0])]⟩
def KX (l0 l1 : List AV) (lo : LO) : LT :=
 .br (lo.k == 1) (.done .ret (aU 28 [(4, .ptr 1 [] 95 0), (5, .ptr 2 [] 95 0)] []) ⟨[.var 29 (aD l1), .var 95 (vF l1 false), .var 95 (vF (lo.L 0) (lo.B 0))], []⟩) (.br (lo.k == 2) (.done (.exit 0) (aU 28 [(4, .ptr 1 [] 95 0), (5, .ptr 2 [] 95 0)] []) ⟨[.var 29 (aD l1), .var 95 (Bg), .var 95 (vF (lo.L 0) (lo.B 0))], [(1, [0, 0])]⟩) (.fail))
def Ay : StP := ⟨28, [(1, .slice 57 false), (2, .ptr 0 [] 29 (some 0)), (4, .ptr 1 [] 95 (some 0)), (5, .ptr 2 [] 95 (some 0)), (6, .int .i64)], [], [.var 29 (.agg 28 [.slice 139 false]), .var 95 (.agg 94 [.agg 28 [.sliceL 139 [] false], .boolC false]), .var 95 (.agg 94 [.agg 28 [.slice 139 false], .bool])], [(1, [0, 0])]⟩
abbrev Tt {α : Type} (f : List AV -> List AV -> T3 -> α) (fr : Fr) (M : Mm) : α := f (ay (tA fr 1)) (ay (pA (vR M 0) 0)) ((aj (tA fr 6)), (ay (pA (pA (vR M 2) 0) 0)), (av (pA (vR M 2) 1)))
def K4 (F : Tab) (l0 l1 : List AV) (s : T3) : LT := KX l0 l1 (Tr.run (IZ F l0 l1) 100000 s)
def OJ (F : Tab) (dep : Nat) (fr : Fr) (M : Mm) : Option LT := if Ay.ok fr M then some (Tt (K4 F) fr M) else none
def EH (F : Tab) (l0 : List AV) (i1 i2 i3 : Int) (l1 : List AV) (n0 n1 : Nat) (i0 : Int) (l2 : List AV) : Tr (Int × List AV) :=
    .br (decide (i0 < i2))
     (.br (cond (decide ((0 : Int) <= (IntKind.i64.wrap (8 * i0)))) (cond (aN (IntKind.i64.wrap ((IntKind.i64.wrap (i1 + i0)).tdiv 128)) n1) (cond (aN ((IntKind.i64.wrap (i1 + i0)).tmod 128) 128) true false) false) false)
      (.next (IntKind.i64.wrap (i0 + 1), l2.set (0 + ((IntKind.i64.wrap ((IntKind.i64.wrap (i1 + i0)).tdiv 128)).toNat)) (.agg (jh (l2.getD (0 + ((IntKind.i64.wrap ((IntKind.i64.wrap (i1 + i0)).tdiv 128)).toNat)) .dead)) ((au (l2.getD (0 + ((IntKind.i64.wrap ((IntKind.i64.wrap (i1 + i0)).tdiv 128)).toNat)) .dead)).set (((IntKind.i64.wrap (i1 + i0)).tmod 128).toNat) (.int .u8 (IntKind.u8.wrap (i3.fdiv (2 ^ min (IntKind.i64.wrap (8 * i0)).toNat 32))))))))
      (.bad))
     (.out ⟨1, [], [], [l2], [], [], []⟩)
def oz (F : Tab) (l0 : List AV) (i1 i2 i3 : Int) (l1 : List AV) (n0 n1 : Nat) (s : Int × List AV) : Tr (Int × List AV) := EH F l0 i1 i2 i3 l1 n0 n1 s.1 s.2
def aa2 (l0 : List AV) (i1 i2 i3 : Int) (l1 : List AV) (n0 n1 : Nat) : Int × List AV -> Fr := fun (i0, l2) => (aU 48 [(3, .ptr 1 [] 57 0), (4, .ptr 2 [] 95 0), (6, .ptr 6 [] 29 0), (7, .int .i64 i0)] [])
def aaz (l0 : List AV) (i1 i2 i3 : Int) (l1 : List AV) (n0 n1 : Nat) : Int × List AV -> Mm := fun (i0, l2) => ⟨[.var 29 (aD l0), .var 57 (bq i1 i2 i3), .var 95 (Bg), .var 29 (aD l1), .var 29 (.agg 28 [.msl 5 [] 139 0 0 n0]), .arr 139 l2, .var 29 (.agg 28 [.msl 5 [] 139 0 0 n1])], [(2, [0, 0])]⟩
def FP (F : Tab) (l0 : List AV) (i1 i2 i3 : Int) (l1 : List AV) (n0 n1 : Nat) (fuel : Nat) (i0 : Int) (l2 : List AV) : LO := Tr.run (oz F l0 i1 i2 i3 l1 n0 n1) fuel (i0, l2)
def IY (l0 : List AV) (i1 i2 i3 : Int) (l1 : List AV) (n0 n1 : Nat) (lo : LO) : LT :=
 .br (lo.k == 1) (.done (.exit 0) (aU 48 [(4, .ptr 2 [] 95 0), (6, .ptr 6 [] 29 0)] []) ⟨[.var 29 (aD l0), .var 57 (bq i1 i2 i3), .var 95 (Bg), .var 29 (aD l1), .var 29 (.agg 28 [.msl 5 [] 139 0 0 n0]), .arr 139 (lo.L 0), .var 29 (.agg 28 [.msl 5 [] 139 0 0 n1])], [(2, [0, 0])]⟩) (.fail)
def zl : StP := ⟨48, [(3, .ptr 1 [] 57 (some 0)), (4, .ptr 2 [] 95 (some 0)), (6, .ptr 6 [] 29 (some 0)), (7, .int .i64)], [], [.var 29 (.agg 28 [.slice 139 false]), .var 57 (.agg 56 [.int .i64, .int .i64, .int .u32]), .var 95 (.agg 94 [.agg 28 [.sliceL 139 [] false], .boolC false]), .var 29 (.agg 28 [.slice 139 false]), .var 29 (.agg 28 [.msl 5 [] 139 (some 0) (some 0) none]), .arr 139, .var 29 (.agg 28 [.msl 5 [] 139 (some 0) (some 0) none])], [(2, [0, 0])]⟩
abbrev RY {α : Type} (f : List AV -> Int -> Int -> Int -> List AV -> Nat -> Nat -> (Int × List AV) -> α) (fr : Fr) (M : Mm) : α := f (ay (pA (vR M 0) 0)) (aj (pA (vR M 1) 0)) (aj (pA (vR M 1) 1)) (aj (pA (vR M 1) 2)) (ay (pA (vR M 3) 0)) (nS (pA (vR M 4) 0)) (nS (pA (vR M 6) 0)) ((aj (tA fr 7)), (ow (oR M 5)))
def NC (F : Tab) (l0 : List AV) (i1 i2 i3 : Int) (l1 : List AV) (n0 n1 : Nat) (s : Int × List AV) : LT := IY l0 i1 i2 i3 l1 n0 n1 (Tr.run (oz F l0 i1 i2 i3 l1 n0 n1) 100000 s)
def PD (F : Tab) (dep : Nat) (fr : Fr) (M : Mm) : Option LT := if zl.ok fr M then some (RY (NC F) fr M) else none
def Qn (F : Tab) (i0 i2 : Int) (l0 l1 : List AV) (b0 b1 b2 : Bool) (i3 : Int) (i1 : Int) : Tr (Int) :=
    .br (decide (i1 < 5))
     (.br (decide ((0 : Int) <= i1))
      (.br ((aL .and .u32 (i0.fdiv (2 ^ min i1.toNat 32)) 1) == 1)
       (.out ⟨1, [i1], [], [], [], [], []⟩)
       (.next (IntKind.i64.wrap (i1 + 1))))
      (.bad))
     (.out ⟨2, [], [], [], [], [], []⟩)
def wY (F : Tab) (i0 i2 : Int) (l0 l1 : List AV) (b0 b1 b2 : Bool) (i3 : Int) (s : Int) : Tr (Int) := Qn F i0 i2 l0 l1 b0 b1 b2 i3 s
def Tq (i0 i2 : Int) (l0 l1 : List AV) (b0 b1 b2 : Bool) (i3 : Int) : Int -> Fr := fun i1 => (aU 22 [(1, .int .u32 i0), (12, .int .i64 i1)] [])
def QV (i0 i2 : Int) (l0 l1 : List AV) (b0 b1 b2 : Bool) (i3 : Int) : Int -> Mm := fun i1 => ⟨[.var 26 (aG i2 l0 l1 b0 b1 b2 i3)], []⟩
def I9 (F : Tab) (i0 i2 : Int) (l0 l1 : List AV) (b0 b1 b2 : Bool) (i3 : Int) (fuel : Nat) (i1 : Int) : LO := Tr.run (wY F i0 i2 l0 l1 b0 b1 b2 i3) fuel (i1)
def Od (i0 i2 : Int) (l0 l1 : List AV) (b0 b1 b2 : Bool) (i3 : Int) (lo : LO) : LT :=
 .br (lo.k == 1) (.done .ret (aU 22 [(4, .int .i64 (lo.I 0)), (5, .bool true)] []) ⟨[.var 26 (aG i2 l0 l1 b0 b1 b2 i3)], []⟩) (.br (lo.k == 2) (.done (.exit 0) (aU 22 [] []) ⟨[.var 26 (aG i2 l0 l1 b0 b1 b2 i3)], []⟩) (.fail))
def Bn : StP := ⟨22, [(1, .int .u32), (12, .int .i64)], [], [.var 26 (eP)], []⟩
abbrev abg {α : Type} (f : Int -> Int -> List AV -> List AV -> Bool -> Bool -> Bool -> Int -> Int -> α) (fr : Fr) (M : Mm) : α := f (aj (tA fr 1)) (aj (pA (vR M 0) 0)) (au (pA (vR M 0) 1)) (au (pA (vR M 0) 2)) (av (pA (vR M 0) 3)) (av (pA (vR M 0) 4)) (av (pA (vR M 0) 5)) (aj (pA (vR M 0) 6)) ((aj (tA fr 12)))
def PE (F : Tab) (i0 i2 : Int) (l0 l1 : List AV) (b0 b1 b2 : Bool) (i3 : Int) (s : Int) : LT := Od i0 i2 l0 l1 b0 b1 b2 i3 (Tr.run (wY F i0 i2 l0 l1 b0 b1 b2 i3) 100000 s)
def Nb (F : Tab) (dep : Nat) (fr : Fr) (M : Mm) : Option LT := if Bn.ok fr M then some (abg (PE F) fr M) else none
def Nl (F : Tab) (i0 i1 i2 : Int) (i3 i4 : Int) : Tr (Int × Int) :=
    let x0 : Int := IntKind.u32.wrap ((aj (aA F 114 [.int .u32 i1, .int .i64 i4])) + (aj (aA F 114 [.int .u32 i2, .int .i64 i4])));
    let x1 : Bool := cond (i0 == 5) (x0 == 1) false;
    let x2 : Bool := cond (i0 == 4) (cond (decide ((0 : Int) < x0)) true x1) x1;
    let x3 : Bool := cond (i0 == 3) (cond (x0 == 2) true x2) x2;
    .br (decide (i4 < 32))
     (.br (aB Pg F 114 [.int .u32 i1, .int .i64 i4])
      (.br (aB Pg F 114 [.int .u32 i2, .int .i64 i4])
       (.br (bX x3 (cond (aB Pg F 94 [.int .i64 i4]) true false) true)
        (.next (cond x3 (IntKind.u32.wrap (i3 + (aj (aA F 94 [.int .i64 i4])))) i3, IntKind.i64.wrap (i4 + 1)))
        (.bad))
       (.bad))
      (.bad))
     (.out ⟨1, [i3], [], [], [], [], []⟩)
def yP (F : Tab) (i0 i1 i2 : Int) (s : Int × Int) : Tr (Int × Int) := Nl F i0 i1 i2 s.1 s.2
def ab0 (i0 i1 i2 : Int) : Int × Int -> Fr := fun (i3, i4) => (aU 54 [(0, .int .i64 i0), (1, .int .u32 i1), (2, .int .u32 i2), (7, .int .u32 i3), (8, .int .i64 i4)] [])
def Zv (i0 i1 i2 : Int) : Int × Int -> Mm := fun (i3, i4) => ⟨[], []⟩
def I4 (F : Tab) (i0 i1 i2 : Int) (fuel : Nat) (i3 i4 : Int) : LO := Tr.run (yP F i0 i1 i2) fuel (i3, i4)
def OE (i0 i1 i2 : Int) (lo : LO) : LT :=
 .br (lo.k == 1) (.done (.exit 0) (aU 54 [(7, .int .u32 (lo.I 0))] []) ⟨[], []⟩) (.fail)
def DC : StP := ⟨54, [(0, .int .i64), (1, .int .u32), (2, .int .u32), (7, .int .u32), (8, .int .i64)], [], [], []⟩
abbrev aaL {α : Type} (f : Int -> Int -> Int -> (Int × Int) -> α) (fr : Fr) (M : Mm) : α := f (aj (tA fr 0)) (aj (tA fr 1)) (aj (tA fr 2)) ((aj (tA fr 7)), (aj (tA fr 8)))
def Kj (F : Tab) (i0 i1 i2 : Int) (s : Int × Int) : LT := OE i0 i1 i2 (Tr.run (yP F i0 i1 i2) 100000 s)
def OD (F : Tab) (dep : Nat) (fr : Fr) (M : Mm) : Option LT := if DC.ok fr M then some (aaL (Kj F) fr M) else none
def Ht (F : Tab) (i0 : Int) (i1 i2 : Int) : Tr (Int × Int) :=
    .br (decide (i2 < i0))
     (.next (IntKind.u32.wrap (2 * i1), IntKind.i64.wrap (i2 + 1)))
     (.out ⟨1, [i1], [], [], [], [], []⟩)
def vX (F : Tab) (i0 : Int) (s : Int × Int) : Tr (Int × Int) := Ht F i0 s.1 s.2
def Z9 (i0 : Int) : Int × Int -> Fr := fun (i1, i2) => (aU 13 [(0, .int .i64 i0), (3, .int .u32 i1), (4, .int .i64 i2)] [])
def acp (i0 : Int) : Int × Int -> Mm := fun (i1, i2) => ⟨[], []⟩
def Et (F : Tab) (i0 : Int) (fuel : Nat) (i1 i2 : Int) : LO := Tr.run (vX F i0) fuel (i1, i2)
def Ow (i0 : Int) (lo : LO) : LT :=
 .br (lo.k == 1) (.done (.exit 0) (aU 13 [(3, .int .u32 (lo.I 0))] []) ⟨[], []⟩) (.fail)
def Ap : StP := ⟨13, [(0, .int .i64), (3, .int .u32), (4, .int .i64)], [], [], []⟩
abbrev Rx {α : Type} (f : Int -> (Int × Int) -> α) (fr : Fr) (M : Mm) : α := f (aj (tA fr 0)) ((aj (tA fr 3)), (aj (tA fr 4)))
def OW (F : Tab) (i0 : Int) (s : Int × Int) : LT := Ow i0 (Tr.run (vX F i0) 100000 s)
def LH (F : Tab) (dep : Nat) (fr : Fr) (M : Mm) : Option LT := if Ap.ok fr M then some (Rx (OW F) fr M) else none
def Fz (F : Tab) (i0 i1 : Int) (l0 l1 : List AV) (b0 b1 b2 : Bool) (i2 : Int) (l2 : List AV) (i3 : Int) (l3 l4 : List AV) (b3 b4 : Bool) (i4 : Int) (l5 : List AV) (i5 i6 : Int) (l6 l7 : List AV) (b5 b6 b7 : Bool) (i7 : Int)  : Tr (Unit) :=
    let x0 : List AV := fG (aA F 103 [aD l5, .int .u32 (aj (l7.getD 0 .dead)), .int .u32 i0, .int .i64 4, .bool b5]);
    let x1 : List AV := au (x0.getD 0 .dead);
    let x2 : Int := aj (x1.getD 0 .dead);
    let x3 : Int := aj (x1.getD 1 .dead);
    let x4 : List AV := ay (x1.getD 2 .dead);
    let x5 : List AV := ay (x1.getD 3 .dead);
    let x6 : Int := aj (x0.getD 1 .dead);
    let x7 : LO := BN F i0 x6 x5 ((x5.length : Nat) : Int) i1 l0 l1 b0 b1 b2 i2 l2 i3 l3 l4 b3 b4 i4 l5 i5 i6 l6 l7 b5 b6 b7 i7 0 [] 0 0 0 0 0 x2 x3 x4 x5 100000 0 [];
    let x8 : LO := Ct F i0 x6 x4 ((x4.length : Nat) : Int) i1 l0 l1 b0 b1 b2 i2 l2 i3 l3 l4 b3 b4 i4 i5 i6 l6 l7 b5 b6 b7 i7 0 0 0 0 0 0 x2 x3 x4 x5 100000 0 l5 [] (x7.l.getD 0 []);
    let x9 : List AV := x8.l.getD 0 [];
    let x10 : List AV := x8.l.getD 1 [];
    let x11 : List AV := x8.l.getD 2 [];
    .br (aB Pg F 103 [aD l5, .int .u32 (aj (l7.getD 0 .dead)), .int .u32 i0, .int .i64 4, .bool b5])
     (.br (x7.k == 1)
      (.br (x8.k == 1)
       (.br (x6 != 0)
        (.out ⟨1, [x2, x3, x6], [], [x9, x10, x11, x4, x5], [], [], []⟩)
        (.out ⟨2, [x2], [], [x9, x10, x11], [], [], []⟩))
       (.bad))
      (.bad))
     (.bad)
def Aw (F : Tab) (i0 i1 : Int) (l0 l1 : List AV) (b0 b1 b2 : Bool) (i2 : Int) (l2 : List AV) (i3 : Int) (l3 l4 : List AV) (b3 b4 : Bool) (i4 : Int) (l5 : List AV) (i5 i6 : Int) (l6 l7 : List AV) (b5 b6 b7 : Bool) (i7 : Int) : LO := (Fz F i0 i1 l0 l1 b0 b1 b2 i2 l2 i3 l3 l4 b3 b4 i4 l5 i5 i6 l6 l7 b5 b6 b7 i7).eval fun _ => LO.bad
def ZC (i0 i1 : Int) (l0 l1 : List AV) (b0 b1 b2 : Bool) (i2 : Int) (l2 : List AV) (i3 : Int) (l3 l4 : List AV) (b3 b4 : Bool) (i4 : Int) (l5 : List AV) (i5 i6 : Int) (l6 l7 : List AV) (b5 b6 b7 : Bool) (i7 : Int) : Mm := ⟨[.var 26 (aG i1 l0 l1 b0 b1 b2 i2), .var 29 (aD l2), .var 38 (CG), .var 63 (.agg 62 [aG i3 l3 l4 b3 false b4 i4, aD l5, .int .u32 i5, .agg 37 [.bool true, cZ, aG i6 l6 l7 b5 b6 b7 i7, .int .u32 0, .slice 57 [] true, .slice 59 [] true, .bool false, aZ, .int .i64 0, .int .u32 0, .int .i64 0], nU]), .var 61 (.ptr 3 [] 63 0)], []⟩
def Qs (i0 i1 : Int) (l0 l1 : List AV) (b0 b1 b2 : Bool) (i2 : Int) (l2 : List AV) (i3 : Int) (l3 l4 : List AV) (b3 b4 : Bool) (i4 : Int) (l5 : List AV) (i5 i6 : Int) (l6 l7 : List AV) (b5 b6 b7 : Bool) (i7 : Int) (lo : LO) : LT :=
 .br (lo.k == 1) (.done (.panic (.iface 89 (dR (lo.I 2) i0 i6))) (aU 0 [] []) ⟨[.var 26 (aG i1 l0 l1 b0 b1 b2 i2), .var 29 (aD l2), .var 38 (dx), .var 63 (Bz i3 l3 l4 b3 false b4 i4 (lo.L 0) i5 true cZ i6 l6 l7 b5 b6 b7 i7 0 (lo.L 1) (lo.L 2) false aZ 0 0 0 nU), .var 61 (.ptr 3 [] 63 0), .var 118 (aW (lo.I 0) (lo.I 1) (lo.L 3) (lo.L 4))], [(2, [4]), (2, [5]), (3, [3, 4]), (3, [3, 5])]⟩) (.br (lo.k == 2) (.done .ret (aU 1 [(0, .int .i64 (lo.I 0))] []) ⟨[.var 26 (aG i1 l0 l1 b0 b1 b2 i2), .var 29 (aD l2), .var 38 (dx), .var 63 (Bz i3 l3 l4 b3 false b4 i4 (lo.L 0) i5 true cZ i6 l6 l7 b5 b6 b7 i7 0 (lo.L 1) (lo.L 2) false aZ 0 0 0 nU), .var 61 (.ptr 3 [] 63 0)], [(2, [4]), (2, [5]), (3, [3, 4]), (3, [3, 5])]⟩) (.fail))
def Ws (i0 i1 : Int) (l0 l1 : List AV) (b0 b1 b2 : Bool) (i2 : Int) (l2 : List AV) (i3 : Int) (l3 l4 : List AV) (b3 b4 : Bool) (i4 : Int) (l5 : List AV) (i5 i6 : Int) (l6 l7 : List AV) (b5 b6 b7 : Bool) (i7 : Int) : List AV := [.ptr 3 [] 63 0, .int .u32 i0, .int .i64 4]
def BI : ArP := ⟨[.ptr 3 [] 63 (some 0), .int .u32, .intC .i64 4], [.var 26 (eP), .var 29 (.agg 28 [.slice 139 false]), .var 38 (Ic), .var 63 (Ie), .var 61 (.ptr 3 [] 63 (some 0))], []⟩
abbrev TM {α : Type} (f : Int -> Int -> List AV -> List AV -> Bool -> Bool -> Bool -> Int -> List AV -> Int -> List AV -> List AV -> Bool -> Bool -> Int -> List AV -> Int -> Int -> List AV -> List AV -> Bool -> Bool -> Bool -> Int -> α) (args : List AV) (M : Mm) : α := f (aj (args.getD 1 .dead)) (aj (pA (vR M 0) 0)) (au (pA (vR M 0) 1)) (au (pA (vR M 0) 2)) (av (pA (vR M 0) 3)) (av (pA (vR M 0) 4)) (av (pA (vR M 0) 5)) (aj (pA (vR M 0) 6)) (ay (pA (vR M 1) 0)) (aj (pA (pA (vR M 3) 0) 0)) (au (pA (pA (vR M 3) 0) 1)) (au (pA (pA (vR M 3) 0) 2)) (av (pA (pA (vR M 3) 0) 3)) (av (pA (pA (vR M 3) 0) 5)) (aj (pA (pA (vR M 3) 0) 6)) (ay (pA (pA (vR M 3) 1) 0)) (aj (pA (vR M 3) 2)) (aj (pA (pA (pA (vR M 3) 3) 2) 0)) (au (pA (pA (pA (vR M 3) 3) 2) 1)) (au (pA (pA (pA (vR M 3) 3) 2) 2)) (av (pA (pA (pA (vR M 3) 3) 2) 3)) (av (pA (pA (pA (vR M 3) 3) 2) 4)) (av (pA (pA (pA (vR M 3) 3) 2) 5)) (aj (pA (pA (pA (vR M 3) 3) 2) 6))
def Oq (F : Tab) (i0 i1 : Int) (l0 l1 : List AV) (b0 b1 b2 : Bool) (i2 : Int) (l2 : List AV) (i3 : Int) (l3 l4 : List AV) (b3 b4 : Bool) (i4 : Int) (l5 : List AV) (i5 i6 : Int) (l6 l7 : List AV) (b5 b6 b7 : Bool) (i7 : Int) : LT := Qs i0 i1 l0 l1 b0 b1 b2 i2 l2 i3 l3 l4 b3 b4 i4 l5 i5 i6 l6 l7 b5 b6 b7 i7 (Aw F i0 i1 l0 l1 b0 b1 b2 i2 l2 i3 l3 l4 b3 b4 i4 l5 i5 i6 l6 l7 b5 b6 b7 i7)
def Oo (F : Tab) (dep : Nat) (args : List AV) (M : Mm) : Option LT := if Nat.beq dep 2 && BI.ok args M then some (TM (Oq F) args M) else none
def Gs (F : Tab) (i0 i1 i2 : Int) (l0 l1 : List AV) (b0 b1 b2 : Bool) (i3 : Int) (l2 : List AV) (i4 : Int) (l3 l4 : List AV) (b3 b4 : Bool) (i5 : Int) (l5 : List AV) (i6 i7 : Int) (l6 l7 : List AV) (b5 b6 b7 : Bool) (i8 i9 : Int) (l8 l9 : List AV) (i10 i11 i12 i13 i14 : Int)  : Tr (Unit) :=
    .br (decide (((l9.length + 1) * 24) <= 140737488355328))
     (.br (aB Pg F 102 [aD l5, .int .i64 i0, .int .i64 i1])
      (.out ⟨1, [aj ((fG (aA F 102 [aD l5, .int .i64 i0, .int .i64 i1])).getD 0 .dead)], [], [l9 ++ [mY i0 i1 false]], [], [], []⟩)
      (.bad))
     (.bad)
def xq (F : Tab) (i0 i1 i2 : Int) (l0 l1 : List AV) (b0 b1 b2 : Bool) (i3 : Int) (l2 : List AV) (i4 : Int) (l3 l4 : List AV) (b3 b4 : Bool) (i5 : Int) (l5 : List AV) (i6 i7 : Int) (l6 l7 : List AV) (b5 b6 b7 : Bool) (i8 i9 : Int) (l8 l9 : List AV) (i10 i11 i12 i13 i14 : Int) : LO := (Gs F i0 i1 i2 l0 l1 b0 b1 b2 i3 l2 i4 l3 l4 b3 b4 i5 l5 i6 i7 l6 l7 b5 b6 b7 i8 i9 l8 l9 i10 i11 i12 i13 i14).eval fun _ => LO.bad
def Jw (i0 i1 i2 : Int) (l0 l1 : List AV) (b0 b1 b2 : Bool) (i3 : Int) (l2 : List AV) (i4 : Int) (l3 l4 : List AV) (b3 b4 : Bool) (i5 : Int) (l5 : List AV) (i6 i7 : Int) (l6 l7 : List AV) (b5 b6 b7 : Bool) (i8 i9 : Int) (l8 l9 : List AV) (i10 i11 i12 i13 i14 : Int) : Mm := ⟨[.var 26 (aG i2 l0 l1 b0 b1 b2 i3), .var 29 (aD l2), .var 38 (dx), .var 63 (dS i4 l3 l4 b3 false b4 i5 l5 i6 true cZ i7 l6 l7 b5 b6 b7 i8 i9 l8 l9 false aZ 0 0 0 i10 i11 i12 i13 i14), .var 61 (.ptr 3 [] 63 0)], [(2, [4]), (2, [5]), (3, [3, 4]), (3, [3, 5])]⟩
def MN (i0 i1 i2 : Int) (l0 l1 : List AV) (b0 b1 b2 : Bool) (i3 : Int) (l2 : List AV) (i4 : Int) (l3 l4 : List AV) (b3 b4 : Bool) (i5 : Int) (l5 : List AV) (i6 i7 : Int) (l6 l7 : List AV) (b5 b6 b7 : Bool) (i8 i9 : Int) (l8 l9 : List AV) (i10 i11 i12 i13 i14 : Int) (lo : LO) : LT :=
 .br (lo.k == 1) (.done .ret (aU 1 [(0, .int .u32 (lo.I 0))] []) ⟨(Jw i0 i1 i2 l0 l1 b0 b1 b2 i3 l2 i4 l3 l4 b3 b4 i5 l5 i6 i7 l6 l7 b5 b6 b7 i8 i9 l8 (lo.L 0) i10 i11 i12 i13 i14).rows, [(3, [3, 5]), (2, [4]), (2, [5]), (3, [3, 4])]⟩) (.fail)
def Xe (i0 i1 i2 : Int) (l0 l1 : List AV) (b0 b1 b2 : Bool) (i3 : Int) (l2 : List AV) (i4 : Int) (l3 l4 : List AV) (b3 b4 : Bool) (i5 : Int) (l5 : List AV) (i6 i7 : Int) (l6 l7 : List AV) (b5 b6 b7 : Bool) (i8 i9 : Int) (l8 l9 : List AV) (i10 i11 i12 i13 i14 : Int) : List AV := [.ptr 3 [] 63 0, .int .i64 i0, .int .i64 i1]
def DW : ArP := ⟨[.ptr 3 [] 63 (some 0), .int .i64, .int .i64], [.var 26 (eP), .var 29 (.agg 28 [.slice 139 false]), .var 38 (iR), .var 63 (iU), .var 61 (.ptr 3 [] 63 (some 0))], [(2, [4]), (2, [5]), (3, [3, 4]), (3, [3, 5])]⟩
abbrev WU {α : Type} (f : Int -> Int -> Int -> List AV -> List AV -> Bool -> Bool -> Bool -> Int -> List AV -> Int -> List AV -> List AV -> Bool -> Bool -> Int -> List AV -> Int -> Int -> List AV -> List AV -> Bool -> Bool -> Bool -> Int -> Int -> List AV -> List AV -> Int -> Int -> Int -> Int -> Int -> α) (args : List AV) (M : Mm) : α := f (aj (args.getD 1 .dead)) (aj (args.getD 2 .dead)) (aj (pA (vR M 0) 0)) (au (pA (vR M 0) 1)) (au (pA (vR M 0) 2)) (av (pA (vR M 0) 3)) (av (pA (vR M 0) 4)) (av (pA (vR M 0) 5)) (aj (pA (vR M 0) 6)) (ay (pA (vR M 1) 0)) (aj (pA (pA (vR M 3) 0) 0)) (au (pA (pA (vR M 3) 0) 1)) (au (pA (pA (vR M 3) 0) 2)) (av (pA (pA (vR M 3) 0) 3)) (av (pA (pA (vR M 3) 0) 5)) (aj (pA (pA (vR M 3) 0) 6)) (ay (pA (pA (vR M 3) 1) 0)) (aj (pA (vR M 3) 2)) (aj (pA (pA (pA (vR M 3) 3) 2) 0)) (au (pA (pA (pA (vR M 3) 3) 2) 1)) (au (pA (pA (pA (vR M 3) 3) 2) 2)) (av (pA (pA (pA (vR M 3) 3) 2) 3)) (av (pA (pA (pA (vR M 3) 3) 2) 4)) (av (pA (pA (pA (vR M 3) 3) 2) 5)) (aj (pA (pA (pA (vR M 3) 3) 2) 6)) (aj (pA (pA (vR M 3) 3) 3)) (ay (pA (pA (vR M 3) 3) 4)) (ay (pA (pA (vR M 3) 3) 5)) (aj (pA (pA (vR M 3) 4) 0)) (aj (pA (pA (vR M 3) 4) 1)) (aj (pA (pA (vR M 3) 4) 2)) (aj (pA (pA (vR M 3) 4) 3)) (aj (pA (pA (vR M 3) 4) 4))
def Ku (F : Tab) (i0 i1 i2 : Int) (l0 l1 : List AV) (b0 b1 b2 : Bool) (i3 : Int) (l2 : List AV) (i4 : Int) (l3 l4 : List AV) (b3 b4 : Bool) (i5 : Int) (l5 : List AV) (i6 i7 : Int) (l6 l7 : List AV) (b5 b6 b7 : Bool) (i8 i9 : Int) (l8 l9 : List AV) (i10 i11 i12 i13 i14 : Int) : LT := MN i0 i1 i2 l0 l1 b0 b1 b2 i3 l2 i4 l3 l4 b3 b4 i5 l5 i6 i7 l6 l7 b5 b6 b7 i8 i9 l8 l9 i10 i11 i12 i13 i14 (xq F i0 i1 i2 l0 l1 b0 b1 b2 i3 l2 i4 l3 l4 b3 b4 i5 l5 i6 i7 l6 l7 b5 b6 b7 i8 i9 l8 l9 i10 i11 i12 i13 i14)
def Ol (F : Tab) (dep : Nat) (args : List AV) (M : Mm) : Option LT := if Nat.beq dep 2 && DW.ok args M then some (WU (Ku F) args M) else none
def E8 (F : Tab) (i0 : Int) (l0 l1 : List AV) (b0 b1 b2 : Bool) (i1 : Int) (l2 : List AV) (i2 : Int) (l3 l4 : List AV) (b3 b4 : Bool) (i3 : Int) (l5 : List AV) (i4 i5 : Int) (l6 l7 : List AV) (b5 b6 b7 : Bool) (i6 : Int)  : Tr (Unit) :=
    let x0 : LO := Aw F i5 i0 l0 l1 b0 b1 b2 i1 l2 i2 l3 l4 b3 b4 i3 l5 i4 i5 l6 l7 b5 b6 b7 i6;
    let x1 : Int := x0.i.getD 0 0;
    let x2 : List AV := x0.l.getD 0 [];
    let x3 : List AV := x0.l.getD 1 [];
    let x4 : List AV := x0.l.getD 2 [];
    let x5 : LO := xq F x1 4 i0 l0 l1 b0 b1 b2 i1 l2 i2 l3 l4 b3 b4 i3 x2 i4 i5 l6 l7 b5 b6 b7 i6 0 x3 x4 0 0 0 0 0;
    let x6 : Int := x5.i.getD 0 0;
    let x7 : List AV := x5.l.getD 0 [];
    let x8 : List AV := fG (aA F 33 [.int .u32 x6]);
    let x9 : List AV := au (x8.getD 0 .dead);
    let x10 : Int := aj (x9.getD 0 .dead);
    let x11 : Int := aj (x9.getD 1 .dead);
    let x12 : Int := aj (x9.getD 2 .dead);
    let x13 : Int := aj (x9.getD 3 .dead);
    let x14 : Int := aj (x9.getD 4 .dead);
    let x15 : Bool := !(av (x8.getD 1 .dead));
    .br ((i5.tmod 4) != 0)
     (.out ⟨1, [], [], [], [], [], []⟩)
     (.br (x0.k == 1)
      (.out ⟨4, [x1, x0.i.getD 1 0, x0.i.getD 2 0], [], [x2, x3, x4, x0.l.getD 3 [], x0.l.getD 4 []], [], [], []⟩)
      (.br (x0.k == 2)
       (.br (x5.k == 1)
        (.br (aB Pg F 33 [.int .u32 x6])
         (.br (bX x15 true (bX b3 (cond (aB Pg F 72 [.int .i64 x10]) true false) true))
          (.br (cond x15 true (cond b3 (av (aA F 72 [.int .i64 x10])) false))
           (.out ⟨2, [x6, x10, x11, x12, x13, x14, x6], [], [x2, x3, x7], [], [], []⟩)
           (.out ⟨3, [x6, x10, x11, x12, x13, x14], [], [x2, x3, x7], [], [], []⟩))
          (.bad))
         (.bad))
        (.bad))
       (.bad)))
def DX (F : Tab) (i0 : Int) (l0 l1 : List AV) (b0 b1 b2 : Bool) (i1 : Int) (l2 : List AV) (i2 : Int) (l3 l4 : List AV) (b3 b4 : Bool) (i3 : Int) (l5 : List AV) (i4 i5 : Int) (l6 l7 : List AV) (b5 b6 b7 : Bool) (i6 : Int) : LO := (E8 F i0 l0 l1 b0 b1 b2 i1 l2 i2 l3 l4 b3 b4 i3 l5 i4 i5 l6 l7 b5 b6 b7 i6).eval fun _ => LO.bad
def Qb (i0 : Int) (l0 l1 : List AV) (b0 b1 b2 : Bool) (i1 : Int) (l2 : List AV) (i2 : Int) (l3 l4 : List AV) (b3 b4 : Bool) (i3 : Int) (l5 : List AV) (i4 i5 : Int) (l6 l7 : List AV) (b5 b6 b7 : Bool) (i6 : Int) : Mm := ⟨[.var 26 (aG i0 l0 l1 b0 b1 b2 i1), .var 29 (aD l2), .var 38 (CG), .var 63 (.agg 62 [aG i2 l3 l4 b3 false b4 i3, aD l5, .int .u32 i4, .agg 37 [.bool true, cZ, aG i5 l6 l7 b5 b6 b7 i6, .int .u32 0, .slice 57 [] true, .slice 59 [] true, .bool false, aZ, .int .i64 0, .int .u32 0, .int .i64 0], nU]), .var 61 (.ptr 3 [] 63 0)], []⟩
def Mw (i0 : Int) (l0 l1 : List AV) (b0 b1 b2 : Bool) (i1 : Int) (l2 : List AV) (i2 : Int) (l3 l4 : List AV) (b3 b4 : Bool) (i3 : Int) (l5 : List AV) (i4 i5 : Int) (l6 l7 : List AV) (b5 b6 b7 : Bool) (i6 : Int) (lo : LO) : LT :=
 .br (lo.k == 1) (.done (.panic (.iface 89 (dR 3 i5 i5))) (aU 0 [] []) (Qb i0 l0 l1 b0 b1 b2 i1 l2 i2 l3 l4 b3 b4 i3 l5 i4 i5 l6 l7 b5 b6 b7 i6)) (.br (lo.k == 2) (.done (.panic (.iface 89 (dR 2 (lo.I 6) i5))) (aU 0 [] []) ⟨[.var 26 (aG i0 l0 l1 b0 b1 b2 i1), .var 29 (aD l2), .var 38 (dx), .var 63 (Bz i2 l3 l4 b3 false b4 i3 (lo.L 0) i4 true cZ i5 l6 l7 b5 b6 b7 i6 (lo.I 0) (lo.L 1) (lo.L 2) false aZ 0 0 0 nU), .var 61 (.ptr 3 [] 63 0), .var 55 (bG (lo.I 1) (lo.I 2) (lo.I 3) (lo.I 4) (lo.I 5))], [(3, [3, 5]), (2, [4]), (2, [5]), (3, [3, 4])]⟩) (.br (lo.k == 3) (.done .ret (aU 1 [(0, .tuple [])] []) ⟨[.var 26 (aG i0 l0 l1 b0 b1 b2 i1), .var 29 (aD l2), .var 38 (dx), .var 63 (dS i2 l3 l4 b3 false b4 i3 (lo.L 0) i4 true cZ i5 l6 l7 b5 b6 b7 i6 (lo.I 0) (lo.L 1) (lo.L 2) false aZ 0 0 0 (lo.I 1) (lo.I 2) (lo.I 3) (lo.I 4) (lo.I 5)), .var 61 (.ptr 3 [] 63 0)], [(3, [3, 5]), (2, [4]), (2, [5]), (3, [3, 4])]⟩) (.br (lo.k == 4) (.done (.panic (.iface 89 (dR (lo.I 2) i5 i5))) (aU 0 [] []) ⟨[.var 26 (aG i0 l0 l1 b0 b1 b2 i1), .var 29 (aD l2), .var 38 (dx), .var 63 (Bz i2 l3 l4 b3 false b4 i3 (lo.L 0) i4 true cZ i5 l6 l7 b5 b6 b7 i6 0 (lo.L 1) (lo.L 2) false aZ 0 0 0 nU), .var 61 (.ptr 3 [] 63 0), .var 118 (aW (lo.I 0) (lo.I 1) (lo.L 3) (lo.L 4))], [(2, [4]), (2, [5]), (3, [3, 4]), (3, [3, 5])]⟩) (.fail))))
def Xo (i0 : Int) (l0 l1 : List AV) (b0 b1 b2 : Bool) (i1 : Int) (l2 : List AV) (i2 : Int) (l3 l4 : List AV) (b3 b4 : Bool) (i3 : Int) (l5 : List AV) (i4 i5 : Int) (l6 l7 : List AV) (b5 b6 b7 : Bool) (i6 : Int) : List AV := [.ptr 3 [] 63 0]
def zq : ArP := ⟨[.ptr 3 [] 63 (some 0)], [.var 26 (eP), .var 29 (.agg 28 [.slice 139 false]), .var 38 (Ic), .var 63 (Ie), .var 61 (.ptr 3 [] 63 (some 0))], []⟩
abbrev QZ {α : Type} (f : Int -> List AV -> List AV -> Bool -> Bool -> Bool -> Int -> List AV -> Int -> List AV -> List AV -> Bool -> Bool -> Int -> List AV -> Int -> Int -> List AV -> List AV -> Bool -> Bool -> Bool -> Int -> α) (args : List AV) (M : Mm) : α := f (aj (pA (vR M 0) 0)) (au (pA (vR M 0) 1)) (au (pA (vR M 0) 2)) (av (pA (vR M 0) 3)) (av (pA (vR M 0) 4)) (av (pA (vR M 0) 5)) (aj (pA (vR M 0) 6)) (ay (pA (vR M 1) 0)) (aj (pA (pA (vR M 3) 0) 0)) (au (pA (pA (vR M 3) 0) 1)) (au (pA (pA (vR M 3) 0) 2)) (av (pA (pA (vR M 3) 0) 3)) (av (pA (pA (vR M 3) 0) 5)) (aj (pA (pA (vR M 3) 0) 6)) (ay (pA (pA (vR M 3) 1) 0)) (aj (pA (vR M 3) 2)) (aj (pA (pA (pA (vR M 3) 3) 2) 0)) (au (pA (pA (pA (vR M 3) 3) 2) 1)) (au (pA (pA (pA (vR M 3) 3) 2) 2)) (av (pA (pA (pA (vR M 3) 3) 2) 3)) (av (pA (pA (pA (vR M 3) 3) 2) 4)) (av (pA (pA (pA (vR M 3) 3) 2) 5)) (aj (pA (pA (pA (vR M 3) 3) 2) 6))
def Py (F : Tab) (i0 : Int) (l0 l1 : List AV) (b0 b1 b2 : Bool) (i1 : Int) (l2 : List AV) (i2 : Int) (l3 l4 : List AV) (b3 b4 : Bool) (i3 : Int) (l5 : List AV) (i4 i5 : Int) (l6 l7 : List AV) (b5 b6 b7 : Bool) (i6 : Int) : LT := Mw i0 l0 l1 b0 b1 b2 i1 l2 i2 l3 l4 b3 b4 i3 l5 i4 i5 l6 l7 b5 b6 b7 i6 (DX F i0 l0 l1 b0 b1 b2 i1 l2 i2 l3 l4 b3 b4 i3 l5 i4 i5 l6 l7 b5 b6 b7 i6)
def NW (F : Tab) (dep : Nat) (args : List AV) (M : Mm) : Option LT := if Nat.beq dep 3 && zq.ok args M then some (QZ (Py F) args M) else none
def H9 (F : Tab) (i0 i1 i2 : Int) (l0 l1 : List AV) (b0 b1 b2 : Bool) (i3 : Int) (l2 : List AV) (i4 : Int) (l3 l4 : List AV) (b3 b4 : Bool) (i5 : Int) (l5 : List AV) (i6 i7 : Int) (l6 l7 : List AV) (b5 b6 b7 : Bool) (i8 i9 : Int) (l8 l9 : List AV) (i10 i11 i12 i13 i14 : Int)  : Tr (Unit) :=
    let x0 : List AV := fG (aA F 103 [aD l5, .int .u32 (aj (l7.getD 0 .dead)), .int .u32 i0, .int .i64 i1, .bool b5]);
    let x1 : List AV := au (x0.getD 0 .dead);
    let x2 : Int := aj (x1.getD 0 .dead);
    let x3 : Int := aj (x1.getD 1 .dead);
    let x4 : List AV := ay (x1.getD 2 .dead);
    let x5 : List AV := ay (x1.getD 3 .dead);
    let x6 : Int := aj (x0.getD 1 .dead);
    let x7 : LO := BN F i0 x6 x5 ((x5.length : Nat) : Int) i2 l0 l1 b0 b1 b2 i3 l2 i4 l3 l4 b3 b4 i5 l5 i6 i7 l6 l7 b5 b6 b7 i8 i9 l8 i10 i11 i12 i13 i14 x2 x3 x4 x5 100000 0 l9;
    let x8 : LO := Ct F i0 x6 x4 ((x4.length : Nat) : Int) i2 l0 l1 b0 b1 b2 i3 l2 i4 l3 l4 b3 b4 i5 i6 i7 l6 l7 b5 b6 b7 i8 i9 i10 i11 i12 i13 i14 x2 x3 x4 x5 100000 0 l5 l8 (x7.l.getD 0 []);
    let x9 : List AV := x8.l.getD 0 [];
    let x10 : List AV := x8.l.getD 1 [];
    let x11 : List AV := x8.l.getD 2 [];
    .br (aB Pg F 103 [aD l5, .int .u32 (aj (l7.getD 0 .dead)), .int .u32 i0, .int .i64 i1, .bool b5])
     (.br (x7.k == 1)
      (.br (x8.k == 1)
       (.br (x6 != 0)
        (.out ⟨1, [x2, x3, x6], [], [x9, x10, x11, x4, x5], [], [], []⟩)
        (.out ⟨2, [x2], [], [x9, x10, x11], [], [], []⟩))
       (.bad))
      (.bad))
     (.bad)
def Br (F : Tab) (i0 i1 i2 : Int) (l0 l1 : List AV) (b0 b1 b2 : Bool) (i3 : Int) (l2 : List AV) (i4 : Int) (l3 l4 : List AV) (b3 b4 : Bool) (i5 : Int) (l5 : List AV) (i6 i7 : Int) (l6 l7 : List AV) (b5 b6 b7 : Bool) (i8 i9 : Int) (l8 l9 : List AV) (i10 i11 i12 i13 i14 : Int) : LO := (H9 F i0 i1 i2 l0 l1 b0 b1 b2 i3 l2 i4 l3 l4 b3 b4 i5 l5 i6 i7 l6 l7 b5 b6 b7 i8 i9 l8 l9 i10 i11 i12 i13 i14).eval fun _ => LO.bad
def JG (i0 i1 i2 : Int) (l0 l1 : List AV) (b0 b1 b2 : Bool) (i3 : Int) (l2 : List AV) (i4 : Int) (l3 l4 : List AV) (b3 b4 : Bool) (i5 : Int) (l5 : List AV) (i6 i7 : Int) (l6 l7 : List AV) (b5 b6 b7 : Bool) (i8 i9 : Int) (l8 l9 : List AV) (i10 i11 i12 i13 i14 : Int) : Mm := ⟨[.var 26 (aG i2 l0 l1 b0 b1 b2 i3), .var 29 (aD l2), .var 38 (dx), .var 63 (dS i4 l3 l4 b3 false b4 i5 l5 i6 true cZ i7 l6 l7 b5 b6 b7 i8 i9 l8 l9 false aZ 0 0 0 i10 i11 i12 i13 i14), .var 61 (.ptr 3 [] 63 0)], [(3, [3, 5]), (2, [4]), (2, [5]), (3, [3, 4])]⟩
def MK (i0 i1 i2 : Int) (l0 l1 : List AV) (b0 b1 b2 : Bool) (i3 : Int) (l2 : List AV) (i4 : Int) (l3 l4 : List AV) (b3 b4 : Bool) (i5 : Int) (l5 : List AV) (i6 i7 : Int) (l6 l7 : List AV) (b5 b6 b7 : Bool) (i8 i9 : Int) (l8 l9 : List AV) (i10 i11 i12 i13 i14 : Int) (lo : LO) : LT :=
 .br (lo.k == 1) (.done (.panic (.iface 89 (dR (lo.I 2) i0 i7))) (aU 0 [] []) ⟨[.var 26 (aG i2 l0 l1 b0 b1 b2 i3), .var 29 (aD l2), .var 38 (dx), .var 63 (dS i4 l3 l4 b3 false b4 i5 (lo.L 0) i6 true cZ i7 l6 l7 b5 b6 b7 i8 i9 (lo.L 1) (lo.L 2) false aZ 0 0 0 i10 i11 i12 i13 i14), .var 61 (.ptr 3 [] 63 0), .var 118 (aW (lo.I 0) (lo.I 1) (lo.L 3) (lo.L 4))], [(2, [4]), (2, [5]), (3, [3, 4]), (3, [3, 5])]⟩) (.br (lo.k == 2) (.done .ret (aU 1 [(0, .int .i64 (lo.I 0))] []) ⟨(JG i0 i1 i2 l0 l1 b0 b1 b2 i3 l2 i4 l3 l4 b3 b4 i5 (lo.L 0) i6 i7 l6 l7 b5 b6 b7 i8 i9 (lo.L 1) (lo.L 2) i10 i11 i12 i13 i14).rows, [(2, [4]), (2, [5]), (3, [3, 4]), (3, [3, 5])]⟩) (.fail))
def aaE (i0 i1 i2 : Int) (l0 l1 : List AV) (b0 b1 b2 : Bool) (i3 : Int) (l2 : List AV) (i4 : Int) (l3 l4 : List AV) (b3 b4 : Bool) (i5 : Int) (l5 : List AV) (i6 i7 : Int) (l6 l7 : List AV) (b5 b6 b7 : Bool) (i8 i9 : Int) (l8 l9 : List AV) (i10 i11 i12 i13 i14 : Int) : List AV := [.ptr 3 [] 63 0, .int .u32 i0, .int .i64 i1]
def CS : ArP := ⟨[.ptr 3 [] 63 (some 0), .int .u32, .int .i64], [.var 26 (eP), .var 29 (.agg 28 [.slice 139 false]), .var 38 (iR), .var 63 (iU), .var 61 (.ptr 3 [] 63 (some 0))], [(3, [3, 5]), (2, [4]), (2, [5]), (3, [3, 4])]⟩
abbrev Yo {α : Type} (f : Int -> Int -> Int -> List AV -> List AV -> Bool -> Bool -> Bool -> Int -> List AV -> Int -> List AV -> List AV -> Bool -> Bool -> Int -> List AV -> Int -> Int -> List AV -> List AV -> Bool -> Bool -> Bool -> Int -> Int -> List AV -> List AV -> Int -> Int -> Int -> Int -> Int -> α) (args : List AV) (M : Mm) : α := f (aj (args.getD 1 .dead)) (aj (args.getD 2 .dead)) (aj (pA (vR M 0) 0)) (au (pA (vR M 0) 1)) (au (pA (vR M 0) 2)) (av (pA (vR M 0) 3)) (av (pA (vR M 0) 4)) (av (pA (vR M 0) 5)) (aj (pA (vR M 0) 6)) (ay (pA (vR M 1) 0)) (aj (pA (pA (vR M 3) 0) 0)) (au (pA (pA (vR M 3) 0) 1)) (au (pA (pA (vR M 3) 0) 2)) (av (pA (pA (vR M 3) 0) 3)) (av (pA (pA (vR M 3) 0) 5)) (aj (pA (pA (vR M 3) 0) 6)) (ay (pA (pA (vR M 3) 1) 0)) (aj (pA (vR M 3) 2)) (aj (pA (pA (pA (vR M 3) 3) 2) 0)) (au (pA (pA (pA (vR M 3) 3) 2) 1)) (au (pA (pA (pA (vR M 3) 3) 2) 2)) (av (pA (pA (pA (vR M 3) 3) 2) 3)) (av (pA (pA (pA (vR M 3) 3) 2) 4)) (av (pA (pA (pA (vR M 3) 3) 2) 5)) (aj (pA (pA (pA (vR M 3) 3) 2) 6)) (aj (pA (pA (vR M 3) 3) 3)) (ay (pA (pA (vR M 3) 3) 4)) (ay (pA (pA (vR M 3) 3) 5)) (aj (pA (pA (vR M 3) 4) 0)) (aj (pA (pA (vR M 3) 4) 1)) (aj (pA (pA (vR M 3) 4) 2)) (aj (pA (pA (vR M 3) 4) 3)) (aj (pA (pA (vR M 3) 4) 4))
def O6 (F : Tab) (i0 i1 i2 : Int) (l0 l1 : List AV) (b0 b1 b2 : Bool) (i3 : Int) (l2 : List AV) (i4 : Int) (l3 l4 : List AV) (b3 b4 : Bool) (i5 : Int) (l5 : List AV) (i6 i7 : Int) (l6 l7 : List AV) (b5 b6 b7 : Bool) (i8 i9 : Int) (l8 l9 : List AV) (i10 i11 i12 i13 i14 : Int) : LT := MK i0 i1 i2 l0 l1 b0 b1 b2 i3 l2 i4 l3 l4 b3 b4 i5 l5 i6 i7 l6 l7 b5 b6 b7 i8 i9 l8 l9 i10 i11 i12 i13 i14 (Br F i0 i1 i2 l0 l1 b0 b1 b2 i3 l2 i4 l3 l4 b3 b4 i5 l5 i6 i7 l6 l7 b5 b6 b7 i8 i9 l8 l9 i10 i11 i12 i13 i14)
def Iy (F : Tab) (dep : Nat) (args : List AV) (M : Mm) : Option LT := if Nat.beq dep 2 && CS.ok args M then some (Yo (O6 F) args M) else none
def GL (F : Tab) (i0 i1 i2 i3 : Int) (l0 l1 : List AV) (b0 b1 b2 : Bool) (i4 : Int) (l2 : List AV) (i5 : Int) (l3 l4 : List AV) (b3 b4 : Bool) (i6 : Int) (l5 : List AV) (i7 i8 : Int) (l6 l7 : List AV) (b5 b6 b7 : Bool) (i9 i10 : Int) (l8 l9 : List AV) (i11 i12 i13 i14 i15 : Int)  : Tr (Unit) :=
    .br (decide (((l9.length + 1) * 24) <= 140737488355328))
     (.br (decide (((l8.length + 1) * 24) <= 140737488355328))
      (.br (aB Pg F 104 [aD l5, bq i0 i1 i2])
       (.out ⟨1, [], [], [ay ((au ((fG (aA F 104 [aD l5, bq i0 i1 i2])).getD 0 .dead)).getD 0 .dead), l8 ++ [bq i0 i1 i2], l9 ++ [mY i0 i1 true]], [], [], []⟩)
       (.bad))
      (.bad))
     (.bad)
def wu (F : Tab) (i0 i1 i2 i3 : Int) (l0 l1 : List AV) (b0 b1 b2 : Bool) (i4 : Int) (l2 : List AV) (i5 : Int) (l3 l4 : List AV) (b3 b4 : Bool) (i6 : Int) (l5 : List AV) (i7 i8 : Int) (l6 l7 : List AV) (b5 b6 b7 : Bool) (i9 i10 : Int) (l8 l9 : List AV) (i11 i12 i13 i14 i15 : Int) : LO := (GL F i0 i1 i2 i3 l0 l1 b0 b1 b2 i4 l2 i5 l3 l4 b3 b4 i6 l5 i7 i8 l6 l7 b5 b6 b7 i9 i10 l8 l9 i11 i12 i13 i14 i15).eval fun _ => LO.bad
def MH (i0 i1 i2 i3 : Int) (l0 l1 : List AV) (b0 b1 b2 : Bool) (i4 : Int) (l2 : List AV) (i5 : Int) (l3 l4 : List AV) (b3 b4 : Bool) (i6 : Int) (l5 : List AV) (i7 i8 : Int) (l6 l7 : List AV) (b5 b6 b7 : Bool) (i9 i10 : Int) (l8 l9 : List AV) (i11 i12 i13 i14 i15 : Int) : Mm := ⟨[.var 26 (aG i3 l0 l1 b0 b1 b2 i4), .var 29 (aD l2), .var 38 (dx), .var 63 (dS i5 l3 l4 b3 false b4 i6 l5 i7 true cZ i8 l6 l7 b5 b6 b7 i9 i10 l8 l9 false aZ 0 0 0 i11 i12 i13 i14 i15), .var 61 (.ptr 3 [] 63 0)], [(3, [3, 5]), (2, [4]), (2, [5]), (3, [3, 4])]⟩
def O5 (i0 i1 i2 i3 : Int) (l0 l1 : List AV) (b0 b1 b2 : Bool) (i4 : Int) (l2 : List AV) (i5 : Int) (l3 l4 : List AV) (b3 b4 : Bool) (i6 : Int) (l5 : List AV) (i7 i8 : Int) (l6 l7 : List AV) (b5 b6 b7 : Bool) (i9 i10 : Int) (l8 l9 : List AV) (i11 i12 i13 i14 i15 : Int) (lo : LO) : LT :=
 .br (lo.k == 1) (.done .ret (aU 1 [(0, .tuple [])] []) ⟨(MH i0 i1 i2 i3 l0 l1 b0 b1 b2 i4 l2 i5 l3 l4 b3 b4 i6 (lo.L 0) i7 i8 l6 l7 b5 b6 b7 i9 i10 (lo.L 1) (lo.L 2) i11 i12 i13 i14 i15).rows, [(3, [3, 4]), (3, [3, 5]), (2, [4]), (2, [5])]⟩) (.fail)
def VT (i0 i1 i2 i3 : Int) (l0 l1 : List AV) (b0 b1 b2 : Bool) (i4 : Int) (l2 : List AV) (i5 : Int) (l3 l4 : List AV) (b3 b4 : Bool) (i6 : Int) (l5 : List AV) (i7 i8 : Int) (l6 l7 : List AV) (b5 b6 b7 : Bool) (i9 i10 : Int) (l8 l9 : List AV) (i11 i12 i13 i14 i15 : Int) : List AV := [.ptr 3 [] 63 0, bq i0 i1 i2]
def Ao : ArP := ⟨[.ptr 3 [] 63 (some 0), .agg 56 [.int .i64, .int .i64, .int .u32]], [.var 26 (eP), .var 29 (.agg 28 [.slice 139 false]), .var 38 (iR), .var 63 (iU), .var 61 (.ptr 3 [] 63 (some 0))], [(3, [3, 5]), (2, [4]), (2, [5]), (3, [3, 4])]⟩
abbrev ab4 {α : Type} (f : Int -> Int -> Int -> Int -> List AV -> List AV -> Bool -> Bool -> Bool -> Int -> List AV -> Int -> List AV -> List AV -> Bool -> Bool -> Int -> List AV -> Int -> Int -> List AV -> List AV -> Bool -> Bool -> Bool -> Int -> Int -> List AV -> List AV -> Int -> Int -> Int -> Int -> Int -> α) (args : List AV) (M : Mm) : α := f (aj (pA (args.getD 1 .dead) 0)) (aj (pA (args.getD 1 .dead) 1)) (aj (pA (args.getD 1 .dead) 2)) (aj (pA (vR M 0) 0)) (au (pA (vR M 0) 1)) (au (pA (vR M 0) 2)) (av (pA (vR M 0) 3)) (av (pA (vR M 0) 4)) (av (pA (vR M 0) 5)) (aj (pA (vR M 0) 6)) (ay (pA (vR M 1) 0)) (aj (pA (pA (vR M 3) 0) 0)) (au (pA (pA (vR M 3) 0) 1)) (au (pA (pA (vR M 3) 0) 2)) (av (pA (pA (vR M 3) 0) 3)) (av (pA (pA (vR M 3) 0) 5)) (aj (pA (pA (vR M 3) 0) 6)) (ay (pA (pA (vR M 3) 1) 0)) (aj (pA (vR M 3) 2)) (aj (pA (pA (pA (vR M 3) 3) 2) 0)) (au (pA (pA (pA (vR M 3) 3) 2) 1)) (au (pA (pA (pA (vR M 3) 3) 2) 2)) (av (pA (pA (pA (vR M 3) 3) 2) 3)) (av (pA (pA (pA (vR M 3) 3) 2) 4)) (av (pA (pA (pA (vR M 3) 3) 2) 5)) (aj (pA (pA (pA (vR M 3) 3) 2) 6)) (aj (pA (pA (vR M 3) 3) 3)) (ay (pA (pA (vR M 3) 3) 4)) (ay (pA (pA (vR M 3) 3) 5)) (aj (pA (pA (vR M 3) 4) 0)) (aj (pA (pA (vR M 3) 4) 1)) (aj (pA (pA (vR M 3) 4) 2)) (aj (pA (pA (vR M 3) 4) 3)) (aj (pA (pA (vR M 3) 4) 4))
def Ox (F : Tab) (i0 i1 i2 i3 : Int) (l0 l1 : List AV) (b0 b1 b2 : Bool) (i4 : Int) (l2 : List AV) (i5 : Int) (l3 l4 : List AV) (b3 b4 : Bool) (i6 : Int) (l5 : List AV) (i7 i8 : Int) (l6 l7 : List AV) (b5 b6 b7 : Bool) (i9 i10 : Int) (l8 l9 : List AV) (i11 i12 i13 i14 i15 : Int) : LT := O5 i0 i1 i2 i3 l0 l1 b0 b1 b2 i4 l2 i5 l3 l4 b3 b4 i6 l5 i7 i8 l6 l7 b5 b6 b7 i9 i10 l8 l9 i11 i12 i13 i14 i15 (wu F i0 i1 i2 i3 l0 l1 b0 b1 b2 i4 l2 i5 l3 l4 b3 b4 i6 l5 i7 i8 l6 l7 b5 b6 b7 i9 i10 l8 l9 i11 i12 i13 i14 i15)
def JM (F : Tab) (dep : Nat) (args : List AV) (M : Mm) : Option LT := if Nat.beq dep 2 && Ao.ok args M then some (ab4 (Ox F) args M) else none
def ES (F : Tab) (i0 i1 i2 i3 : Int) (l0 l1 : List AV) (b0 b1 b2 : Bool) (i4 : Int) (l2 : List AV) (i5 : Int) (l3 l4 : List AV) (b3 b4 : Bool) (i6 : Int) (l5 : List AV) (i7 i8 : Int) (l6 l7 : List AV) (b5 b6 b7 : Bool) (i9 i10 : Int) (l8 l9 : List AV) (i11 i12 i13 i14 i15 : Int)  : Tr (Unit) :=
    .br (decide (((l9.length + 1) * 24) <= 140737488355328))
     (.br (decide (((l8.length + 1) * 24) <= 140737488355328))
      (.br (aB Pg F 104 [aD l5, bq i0 i1 i2])
       (.out ⟨1, [], [], [ay ((au ((fG (aA F 104 [aD l5, bq i0 i1 i2])).getD 0 .dead)).getD 0 .dead), l8 ++ [bq i0 i1 i2], l9 ++ [mY i0 i1 true]], [], [], []⟩)
       (.bad))
      (.bad))
     (.bad)
def Cw (F : Tab) (i0 i1 i2 i3 : Int) (l0 l1 : List AV) (b0 b1 b2 : Bool) (i4 : Int) (l2 : List AV) (i5 : Int) (l3 l4 : List AV) (b3 b4 : Bool) (i6 : Int) (l5 : List AV) (i7 i8 : Int) (l6 l7 : List AV) (b5 b6 b7 : Bool) (i9 i10 : Int) (l8 l9 : List AV) (i11 i12 i13 i14 i15 : Int) : LO := (ES F i0 i1 i2 i3 l0 l1 b0 b1 b2 i4 l2 i5 l3 l4 b3 b4 i6 l5 i7 i8 l6 l7 b5 b6 b7 i9 i10 l8 l9 i11 i12 i13 i14 i15).eval fun _ => LO.bad
def Jm (i0 i1 i2 i3 : Int) (l0 l1 : List AV) (b0 b1 b2 : Bool) (i4 : Int) (l2 : List AV) (i5 : Int) (l3 l4 : List AV) (b3 b4 : Bool) (i6 : Int) (l5 : List AV) (i7 i8 : Int) (l6 l7 : List AV) (b5 b6 b7 : Bool) (i9 i10 : Int) (l8 l9 : List AV) (i11 i12 i13 i14 i15 : Int) : Mm := ⟨[.var 26 (aG i3 l0 l1 b0 b1 b2 i4), .var 29 (aD l2), .var 38 (dx), .var 63 (dS i5 l3 l4 b3 false b4 i6 l5 i7 true cZ i8 l6 l7 b5 b6 b7 i9 i10 l8 l9 false aZ 0 0 0 i11 i12 i13 i14 i15), .var 61 (.ptr 3 [] 63 0)], [(2, [4]), (2, [5]), (3, [3, 4]), (3, [3, 5])]⟩
def Li (i0 i1 i2 i3 : Int) (l0 l1 : List AV) (b0 b1 b2 : Bool) (i4 : Int) (l2 : List AV) (i5 : Int) (l3 l4 : List AV) (b3 b4 : Bool) (i6 : Int) (l5 : List AV) (i7 i8 : Int) (l6 l7 : List AV) (b5 b6 b7 : Bool) (i9 i10 : Int) (l8 l9 : List AV) (i11 i12 i13 i14 i15 : Int) (lo : LO) : LT :=
 .br (lo.k == 1) (.done .ret (aU 1 [(0, .tuple [])] []) ⟨(Jm i0 i1 i2 i3 l0 l1 b0 b1 b2 i4 l2 i5 l3 l4 b3 b4 i6 (lo.L 0) i7 i8 l6 l7 b5 b6 b7 i9 i10 (lo.L 1) (lo.L 2) i11 i12 i13 i14 i15).rows, [(3, [3, 4]), (3, [3, 5]), (2, [4]), (2, [5])]⟩) (.fail)
def Wi (i0 i1 i2 i3 : Int) (l0 l1 : List AV) (b0 b1 b2 : Bool) (i4 : Int) (l2 : List AV) (i5 : Int) (l3 l4 : List AV) (b3 b4 : Bool) (i6 : Int) (l5 : List AV) (i7 i8 : Int) (l6 l7 : List AV) (b5 b6 b7 : Bool) (i9 i10 : Int) (l8 l9 : List AV) (i11 i12 i13 i14 i15 : Int) : List AV := [.ptr 3 [] 63 0, bq i0 i1 i2]
def BK : ArP := ⟨[.ptr 3 [] 63 (some 0), .agg 56 [.int .i64, .int .i64, .int .u32]], [.var 26 (eP), .var 29 (.agg 28 [.slice 139 false]), .var 38 (iR), .var 63 (iU), .var 61 (.ptr 3 [] 63 (some 0))], [(2, [4]), (2, [5]), (3, [3, 4]), (3, [3, 5])]⟩
abbrev ac1 {α : Type} (f : Int -> Int -> Int -> Int -> List AV -> List AV -> Bool -> Bool -> Bool -> Int -> List AV -> Int -> List AV -> List AV -> Bool -> Bool -> Int -> List AV -> Int -> Int -> List AV -> List AV -> Bool -> Bool -> Bool -> Int -> Int -> List AV -> List AV -> Int -> Int -> Int -> Int -> Int -> α) (args : List AV) (M : Mm) : α := f (aj (pA (args.getD 1 .dead) 0)) (aj (pA (args.getD 1 .dead) 1)) (aj (pA (args.getD 1 .dead) 2)) (aj (pA (vR M 0) 0)) (au (pA (vR M 0) 1)) (au (pA (vR M 0) 2)) (av (pA (vR M 0) 3)) (av (pA (vR M 0) 4)) (av (pA (vR M 0) 5)) (aj (pA (vR M 0) 6)) (ay (pA (vR M 1) 0)) (aj (pA (pA (vR M 3) 0) 0)) (au (pA (pA (vR M 3) 0) 1)) (au (pA (pA (vR M 3) 0) 2)) (av (pA (pA (vR M 3) 0) 3)) (av (pA (pA (vR M 3) 0) 5)) (aj (pA (pA (vR M 3) 0) 6)) (ay (pA (pA (vR M 3) 1) 0)) (aj (pA (vR M 3) 2)) (aj (pA (pA (pA (vR M 3) 3) 2) 0)) (au (pA (pA (pA (vR M 3) 3) 2) 1)) (au (pA (pA (pA (vR M 3) 3) 2) 2)) (av (pA (pA (pA (vR M 3) 3) 2) 3)) (av (pA (pA (pA (vR M 3) 3) 2) 4)) (av (pA (pA (pA (vR M 3) 3) 2) 5)) (aj (pA (pA (pA (vR M 3) 3) 2) 6)) (aj (pA (pA (vR M 3) 3) 3)) (ay (pA (pA (vR M 3) 3) 4)) (ay (pA (pA (vR M 3) 3) 5)) (aj (pA (pA (vR M 3) 4) 0)) (aj (pA (pA (vR M 3) 4) 1)) (aj (pA (pA (vR M 3) 4) 2)) (aj (pA (pA (vR M 3) 4) 3)) (aj (pA (pA (vR M 3) 4) 4))
def K7 (F : Tab) (i0 i1 i2 i3 : Int) (l0 l1 : List AV) (b0 b1 b2 : Bool) (i4 : Int) (l2 : List AV) (i5 : Int) (l3 l4 : List AV) (b3 b4 : Bool) (i6 : Int) (l5 : List AV) (i7 i8 : Int) (l6 l7 : List AV) (b5 b6 b7 : Bool) (i9 i10 : Int) (l8 l9 : List AV) (i11 i12 i13 i14 i15 : Int) : LT := Li i0 i1 i2 i3 l0 l1 b0 b1 b2 i4 l2 i5 l3 l4 b3 b4 i6 l5 i7 i8 l6 l7 b5 b6 b7 i9 i10 l8 l9 i11 i12 i13 i14 i15 (Cw F i0 i1 i2 i3 l0 l1 b0 b1 b2 i4 l2 i5 l3 l4 b3 b4 i6 l5 i7 i8 l6 l7 b5 b6 b7 i9 i10 l8 l9 i11 i12 i13 i14 i15)
def Lb (F : Tab) (dep : Nat) (args : List AV) (M : Mm) : Option LT := if Nat.beq dep 2 && BK.ok args M then some (ac1 (K7 F) args M) else none
def Io (F : Tab) (i0 i1 i2 : Int) (l0 l1 : List AV) (b0 b1 b2 : Bool) (i3 : Int) (l2 : List AV) (i4 : Int) (l3 l4 : List AV) (b3 b4 : Bool) (i5 : Int) (l5 : List AV) (i6 i7 : Int) (l6 l7 : List AV) (b5 b6 b7 : Bool) (i8 i9 : Int) (l8 l9 : List AV) (i10 i11 i12 i13 i14 : Int)  : Tr (Unit) :=
    let x0 : LO := Br F (IntKind.u32.wrap ((aj (l3.getD i12.toNat .dead)) + (IntKind.u32.wrap i14))) i0 i2 l0 l1 b0 b1 b2 i3 l2 i4 l3 l4 b3 b4 i5 l5 i6 i7 l6 l7 b5 b6 b7 i8 i9 l8 l9 i10 i11 i12 i13 i14;
    let x1 : Int := x0.i.getD 0 0;
    let x2 : List AV := x0.l.getD 0 [];
    let x3 : List AV := x0.l.getD 1 [];
    let x4 : List AV := x0.l.getD 2 [];
    let x5 : LO := xq F x1 i1 i2 l0 l1 b0 b1 b2 i3 l2 i4 l3 l4 b3 b4 i5 x2 i6 i7 l6 l7 b5 b6 b7 i8 i9 x3 x4 i10 i11 i12 i13 i14;
    let x6 : List AV := x5.l.getD 0 [];
    let x7 : List AV := l3.set i11.toNat (.int .u32 (x5.i.getD 0 0));
    let x8 : LO := wu F x1 i1 (aj (l3.getD i11.toNat .dead)) i2 l0 l1 b0 b1 b2 i3 l2 i4 x7 l4 b3 b4 i5 x2 i6 i7 l6 l7 b5 b6 b7 i8 i9 x3 x6 i10 i11 i12 i13 i14;
    let x9 : LO := wu F x1 i1 (aj (l3.getD i11.toNat .dead)) i2 l0 l1 b0 b1 b2 i3 l2 i4 l3 l4 b3 b4 i5 x2 i6 i7 l6 l7 b5 b6 b7 i8 i9 x3 x6 i10 i11 i12 i13 i14;
    let x10 : LO := Cw F x1 i1 (aj (l3.getD i11.toNat .dead)) i2 l0 l1 b0 b1 b2 i3 l2 i4 l3 l4 b3 b4 i5 x2 i6 i7 l6 l7 b5 b6 b7 i8 i9 x3 x4 i10 i11 i12 i13 i14;
    .br (cond (aN i12 16) true false)
     (.br (!((IntKind.u32.wrap i1) == 0))
      (.br (((IntKind.u32.wrap ((aj (l3.getD i12.toNat .dead)) + (IntKind.u32.wrap i14))).tmod (IntKind.u32.wrap i1)) != 0)
       (.out ⟨1, [IntKind.u32.wrap ((aj (l3.getD i12.toNat .dead)) + (IntKind.u32.wrap i14))], [], [], [], [], []⟩)
       (.br (aN i11 16)
        (.br (x0.k == 1)
         (.out ⟨5, [x1, x0.i.getD 1 0, x0.i.getD 2 0, IntKind.u32.wrap ((aj (l3.getD i12.toNat .dead)) + (IntKind.u32.wrap i14))], [], [x2, x3, x4, x0.l.getD 3 [], x0.l.getD 4 []], [], [], []⟩)
         (.br (x0.k == 2)
          (.br ((pU (.int .i64 i11) (.int .i64 i11)) && ((pU (l3.getD i11.toNat .dead) (l3.getD i11.toNat .dead)) && true))
           (.br (i0 != 2)
            (.br (x5.k == 1)
             (.br (i11 != 0)
              (.br (cond (aN i11 16) true false)
               (.br (i0 != 1)
                (.br (x8.k == 1)
                 (.out ⟨2, [], [], [x7, x8.l.getD 0 [], x8.l.getD 1 [], x8.l.getD 2 []], [], [], []⟩)
                 (.bad))
                (.out ⟨3, [], [], [x7, x2, x3, x6], [], [], []⟩))
               (.bad))
              (.br (i0 != 1)
               (.br (x9.k == 1)
                (.out ⟨2, [], [], [l3, x9.l.getD 0 [], x9.l.getD 1 [], x9.l.getD 2 []], [], [], []⟩)
                (.bad))
               (.out ⟨3, [], [], [l3, x2, x3, x6], [], [], []⟩)))
             (.bad))
            (.br (i0 != 1)
             (.br (x10.k == 1)
              (.out ⟨2, [], [], [l3, x10.l.getD 0 [], x10.l.getD 1 [], x10.l.getD 2 []], [], [], []⟩)
              (.bad))
             (.out ⟨4, [], [], [x2, x3, x4], [], [], []⟩)))
           (.bad))
          (.bad)))
        (.bad)))
      (.bad))
     (.bad)
def Bw (F : Tab) (i0 i1 i2 : Int) (l0 l1 : List AV) (b0 b1 b2 : Bool) (i3 : Int) (l2 : List AV) (i4 : Int) (l3 l4 : List AV) (b3 b4 : Bool) (i5 : Int) (l5 : List AV) (i6 i7 : Int) (l6 l7 : List AV) (b5 b6 b7 : Bool) (i8 i9 : Int) (l8 l9 : List AV) (i10 i11 i12 i13 i14 : Int) : LO := (Io F i0 i1 i2 l0 l1 b0 b1 b2 i3 l2 i4 l3 l4 b3 b4 i5 l5 i6 i7 l6 l7 b5 b6 b7 i8 i9 l8 l9 i10 i11 i12 i13 i14).eval fun _ => LO.bad
def yJ (i0 i1 i2 : Int) (l0 l1 : List AV) (b0 b1 b2 : Bool) (i3 : Int) (l2 : List AV) (i4 : Int) (l3 l4 : List AV) (b3 b4 : Bool) (i5 : Int) (l5 : List AV) (i6 i7 : Int) (l6 l7 : List AV) (b5 b6 b7 : Bool) (i8 i9 : Int) (l8 l9 : List AV) (i10 i11 i12 i13 i14 : Int) : Mm := ⟨[.var 26 (aG i2 l0 l1 b0 b1 b2 i3), .var 29 (aD l2), .var 38 (dx), .var 63 (dS i4 l3 l4 b3 false b4 i5 l5 i6 true cZ i7 l6 l7 b5 b6 b7 i8 i9 l8 l9 false aZ 0 0 0 i10 i11 i12 i13 i14), .var 61 (.ptr 3 [] 63 0)], [(3, [3, 5]), (2, [4]), (2, [5]), (3, [3, 4])]⟩
def LY (i0 i1 i2 : Int) (l0 l1 : List AV) (b0 b1 b2 : Bool) (i3 : Int) (l2 : List AV) (i4 : Int) (l3 l4 : List AV) (b3 b4 : Bool) (i5 : Int) (l5 : List AV) (i6 i7 : Int) (l6 l7 : List AV) (b5 b6 b7 : Bool) (i8 i9 : Int) (l8 l9 : List AV) (i10 i11 i12 i13 i14 : Int) (lo : LO) : LT :=
 .br (lo.k == 1) (.done (.panic (.iface 89 (dR 3 (lo.I 0) i7))) (aU 0 [] []) (yJ i0 i1 i2 l0 l1 b0 b1 b2 i3 l2 i4 l3 l4 b3 b4 i5 l5 i6 i7 l6 l7 b5 b6 b7 i8 i9 l8 l9 i10 i11 i12 i13 i14)) (.br (lo.k == 2) (.done .ret (aU 1 [(0, .tuple [])] []) ⟨(yJ i0 i1 i2 l0 l1 b0 b1 b2 i3 l2 i4 (lo.L 0) l4 b3 b4 i5 (lo.L 1) i6 i7 l6 l7 b5 b6 b7 i8 i9 (lo.L 2) (lo.L 3) i10 i11 i12 i13 i14).rows, [(3, [3, 4]), (3, [3, 5]), (2, [4]), (2, [5])]⟩) (.br (lo.k == 3) (.done .ret (aU 1 [(0, .tuple [])] []) (yJ i0 i1 i2 l0 l1 b0 b1 b2 i3 l2 i4 (lo.L 0) l4 b3 b4 i5 (lo.L 1) i6 i7 l6 l7 b5 b6 b7 i8 i9 (lo.L 2) (lo.L 3) i10 i11 i12 i13 i14)) (.br (lo.k == 4) (.done .ret (aU 1 [(0, .tuple [])] []) ⟨(yJ i0 i1 i2 l0 l1 b0 b1 b2 i3 l2 i4 l3 l4 b3 b4 i5 (lo.L 0) i6 i7 l6 l7 b5 b6 b7 i8 i9 (lo.L 1) (lo.L 2) i10 i11 i12 i13 i14).rows, [(2, [4]), (2, [5]), (3, [3, 4]), (3, [3, 5])]⟩) (.br (lo.k == 5) (.done (.panic (.iface 89 (dR (lo.I 2) (lo.I 3) i7))) (aU 0 [] []) ⟨[.var 26 (aG i2 l0 l1 b0 b1 b2 i3), .var 29 (aD l2), .var 38 (dx), .var 63 (dS i4 l3 l4 b3 false b4 i5 (lo.L 0) i6 true cZ i7 l6 l7 b5 b6 b7 i8 i9 (lo.L 1) (lo.L 2) false aZ 0 0 0 i10 i11 i12 i13 i14), .var 61 (.ptr 3 [] 63 0), .var 118 (aW (lo.I 0) (lo.I 1) (lo.L 3) (lo.L 4))], [(2, [4]), (2, [5]), (3, [3, 4]), (3, [3, 5])]⟩) (.fail)))))
def WL (i0 i1 i2 : Int) (l0 l1 : List AV) (b0 b1 b2 : Bool) (i3 : Int) (l2 : List AV) (i4 : Int) (l3 l4 : List AV) (b3 b4 : Bool) (i5 : Int) (l5 : List AV) (i6 i7 : Int) (l6 l7 : List AV) (b5 b6 b7 : Bool) (i8 i9 : Int) (l8 l9 : List AV) (i10 i11 i12 i13 i14 : Int) : List AV := [.ptr 3 [] 63 0, .int .i64 i0, .int .i64 i1]
def BH : ArP := ⟨[.ptr 3 [] 63 (some 0), .int .i64, .int .i64], [.var 26 (eP), .var 29 (.agg 28 [.slice 139 false]), .var 38 (iR), .var 63 (iU), .var 61 (.ptr 3 [] 63 (some 0))], [(3, [3, 5]), (2, [4]), (2, [5]), (3, [3, 4])]⟩
abbrev aap {α : Type} (f : Int -> Int -> Int -> List AV -> List AV -> Bool -> Bool -> Bool -> Int -> List AV -> Int -> List AV -> List AV -> Bool -> Bool -> Int -> List AV -> Int -> Int -> List AV -> List AV -> Bool -> Bool -> Bool -> Int -> Int -> List AV -> List AV -> Int -> Int -> Int -> Int -> Int -> α) (args : List AV) (M : Mm) : α := f (aj (args.getD 1 .dead)) (aj (args.getD 2 .dead)) (aj (pA (vR M 0) 0)) (au (pA (vR M 0) 1)) (au (pA (vR M 0) 2)) (av (pA (vR M 0) 3)) (av (pA (vR M 0) 4)) (av (pA (vR M 0) 5)) (aj (pA (vR M 0) 6)) (ay (pA (vR M 1) 0)) (aj (pA (pA (vR M 3) 0) 0)) (au (pA (pA (vR M 3) 0) 1)) (au (pA (pA (vR M 3) 0) 2)) (av (pA (pA (vR M 3) 0) 3)) (av (pA (pA (vR M 3) 0) 5)) (aj (pA (pA (vR M 3) 0) 6)) (ay (pA (pA (vR M 3) 1) 0)) (aj (pA (vR M 3) 2)) (aj (pA (pA (pA (vR M 3) 3) 2) 0)) (au (pA (pA (pA (vR M 3) 3) 2) 1)) (au (pA (pA (pA (vR M 3) 3) 2) 2)) (av (pA (pA (pA (vR M 3) 3) 2) 3)) (av (pA (pA (pA (vR M 3) 3) 2) 4)) (av (pA (pA (pA (vR M 3) 3) 2) 5)) (aj (pA (pA (pA (vR M 3) 3) 2) 6)) (aj (pA (pA (vR M 3) 3) 3)) (ay (pA (pA (vR M 3) 3) 4)) (ay (pA (pA (vR M 3) 3) 5)) (aj (pA (pA (vR M 3) 4) 0)) (aj (pA (pA (vR M 3) 4) 1)) (aj (pA (pA (vR M 3) 4) 2)) (aj (pA (pA (vR M 3) 4) 3)) (aj (pA (pA (vR M 3) 4) 4))
def Mg (F : Tab) (i0 i1 i2 : Int) (l0 l1 : List AV) (b0 b1 b2 : Bool) (i3 : Int) (l2 : List AV) (i4 : Int) (l3 l4 : List AV) (b3 b4 : Bool) (i5 : Int) (l5 : List AV) (i6 i7 : Int) (l6 l7 : List AV) (b5 b6 b7 : Bool) (i8 i9 : Int) (l8 l9 : List AV) (i10 i11 i12 i13 i14 : Int) : LT := LY i0 i1 i2 l0 l1 b0 b1 b2 i3 l2 i4 l3 l4 b3 b4 i5 l5 i6 i7 l6 l7 b5 b6 b7 i8 i9 l8 l9 i10 i11 i12 i13 i14 (Bw F i0 i1 i2 l0 l1 b0 b1 b2 i3 l2 i4 l3 l4 b3 b4 i5 l5 i6 i7 l6 l7 b5 b6 b7 i8 i9 l8 l9 i10 i11 i12 i13 i14)
def M7 (F : Tab) (dep : Nat) (args : List AV) (M : Mm) : Option LT := if Nat.beq dep 3 && BH.ok args M then some (aap (Mg F) args M) else none
def Fb (F : Tab) (i0 : Int) (l0 l1 : List AV) (b0 b1 b2 : Bool) (i1 : Int) (l2 : List AV) (i2 : Int) (l3 l4 : List AV) (b3 b4 : Bool) (i3 : Int) (l5 : List AV) (i4 i5 : Int) (l6 l7 : List AV) (b5 b6 b7 : Bool) (i6 i7 : Int) (l8 l9 : List AV) (i8 i9 i10 i11 i12 : Int)  : Tr (Unit) :=
    .br (cond (aN i9 16) (cond (aN i10 16) (cond (aB Pg F 105 [.int .i64 i8, .int .u32 (aj (l3.getD i9.toNat .dead)), .int .u32 (aj (l3.getD i10.toNat .dead))]) true false) false) false)
     (.br (av (aA F 105 [.int .i64 i8, .int .u32 (aj (l3.getD i9.toNat .dead)), .int .u32 (aj (l3.getD i10.toNat .dead))]))
      (.br (aB Pg F 106 [.int .u32 i5, bG i8 i9 i10 i11 i12])
       (.out ⟨1, [aj ((fG (aA F 106 [.int .u32 i5, bG i8 i9 i10 i11 i12])).getD 0 .dead)], [], [], [], [], []⟩)
       (.bad))
      (.out ⟨1, [i2], [], [], [], [], []⟩))
     (.bad)
def zA (F : Tab) (i0 : Int) (l0 l1 : List AV) (b0 b1 b2 : Bool) (i1 : Int) (l2 : List AV) (i2 : Int) (l3 l4 : List AV) (b3 b4 : Bool) (i3 : Int) (l5 : List AV) (i4 i5 : Int) (l6 l7 : List AV) (b5 b6 b7 : Bool) (i6 i7 : Int) (l8 l9 : List AV) (i8 i9 i10 i11 i12 : Int) : LO := (Fb F i0 l0 l1 b0 b1 b2 i1 l2 i2 l3 l4 b3 b4 i3 l5 i4 i5 l6 l7 b5 b6 b7 i6 i7 l8 l9 i8 i9 i10 i11 i12).eval fun _ => LO.bad
def Kv (i0 : Int) (l0 l1 : List AV) (b0 b1 b2 : Bool) (i1 : Int) (l2 : List AV) (i2 : Int) (l3 l4 : List AV) (b3 b4 : Bool) (i3 : Int) (l5 : List AV) (i4 i5 : Int) (l6 l7 : List AV) (b5 b6 b7 : Bool) (i6 i7 : Int) (l8 l9 : List AV) (i8 i9 i10 i11 i12 : Int) : Mm := ⟨[.var 26 (aG i0 l0 l1 b0 b1 b2 i1), .var 29 (aD l2), .var 38 (dx), .var 63 (dS i2 l3 l4 b3 false b4 i3 l5 i4 true cZ i5 l6 l7 b5 b6 b7 i6 i7 l8 l9 false aZ 0 0 0 i8 i9 i10 i11 i12), .var 61 (.ptr 3 [] 63 0), jV], [(3, [3, 5]), (2, [4]), (2, [5]), (3, [3, 4])]⟩
def Pz (i0 : Int) (l0 l1 : List AV) (b0 b1 b2 : Bool) (i1 : Int) (l2 : List AV) (i2 : Int) (l3 l4 : List AV) (b3 b4 : Bool) (i3 : Int) (l5 : List AV) (i4 i5 : Int) (l6 l7 : List AV) (b5 b6 b7 : Bool) (i6 i7 : Int) (l8 l9 : List AV) (i8 i9 i10 i11 i12 : Int) (lo : LO) : LT :=
 .br (lo.k == 1) (.done .ret (aU 1 [(0, .tuple [])] []) (Kv i0 l0 l1 b0 b1 b2 i1 l2 (lo.I 0) l3 l4 b3 b4 i3 l5 i4 i5 l6 l7 b5 b6 b7 i6 i7 l8 l9 i8 i9 i10 i11 i12)) (.fail)
def VW (i0 : Int) (l0 l1 : List AV) (b0 b1 b2 : Bool) (i1 : Int) (l2 : List AV) (i2 : Int) (l3 l4 : List AV) (b3 b4 : Bool) (i3 : Int) (l5 : List AV) (i4 i5 : Int) (l6 l7 : List AV) (b5 b6 b7 : Bool) (i6 i7 : Int) (l8 l9 : List AV) (i8 i9 i10 i11 i12 : Int) : List AV := [.ptr 3 [] 63 0]
def BS : ArP := ⟨[.ptr 3 [] 63 (some 0)], [.var 26 (eP), .var 29 (.agg 28 [.slice 139 false]), .var 38 (iR), .var 63 (iU), .var 61 (.ptr 3 [] 63 (some 0)), uh], [(3, [3, 5]), (2, [4]), (2, [5]), (3, [3, 4])]⟩
abbrev aci {α : Type} (f : Int -> List AV -> List AV -> Bool -> Bool -> Bool -> Int -> List AV -> Int -> List AV -> List AV -> Bool -> Bool -> Int -> List AV -> Int -> Int -> List AV -> List AV -> Bool -> Bool -> Bool -> Int -> Int -> List AV -> List AV -> Int -> Int -> Int -> Int -> Int -> α) (args : List AV) (M : Mm) : α := f (aj (pA (vR M 0) 0)) (au (pA (vR M 0) 1)) (au (pA (vR M 0) 2)) (av (pA (vR M 0) 3)) (av (pA (vR M 0) 4)) (av (pA (vR M 0) 5)) (aj (pA (vR M 0) 6)) (ay (pA (vR M 1) 0)) (aj (pA (pA (vR M 3) 0) 0)) (au (pA (pA (vR M 3) 0) 1)) (au (pA (pA (vR M 3) 0) 2)) (av (pA (pA (vR M 3) 0) 3)) (av (pA (pA (vR M 3) 0) 5)) (aj (pA (pA (vR M 3) 0) 6)) (ay (pA (pA (vR M 3) 1) 0)) (aj (pA (vR M 3) 2)) (aj (pA (pA (pA (vR M 3) 3) 2) 0)) (au (pA (pA (pA (vR M 3) 3) 2) 1)) (au (pA (pA (pA (vR M 3) 3) 2) 2)) (av (pA (pA (pA (vR M 3) 3) 2) 3)) (av (pA (pA (pA (vR M 3) 3) 2) 4)) (av (pA (pA (pA (vR M 3) 3) 2) 5)) (aj (pA (pA (pA (vR M 3) 3) 2) 6)) (aj (pA (pA (vR M 3) 3) 3)) (ay (pA (pA (vR M 3) 3) 4)) (ay (pA (pA (vR M 3) 3) 5)) (aj (pA (pA (vR M 3) 4) 0)) (aj (pA (pA (vR M 3) 4) 1)) (aj (pA (pA (vR M 3) 4) 2)) (aj (pA (pA (vR M 3) 4) 3)) (aj (pA (pA (vR M 3) 4) 4))
def P6 (F : Tab) (i0 : Int) (l0 l1 : List AV) (b0 b1 b2 : Bool) (i1 : Int) (l2 : List AV) (i2 : Int) (l3 l4 : List AV) (b3 b4 : Bool) (i3 : Int) (l5 : List AV) (i4 i5 : Int) (l6 l7 : List AV) (b5 b6 b7 : Bool) (i6 i7 : Int) (l8 l9 : List AV) (i8 i9 i10 i11 i12 : Int) : LT := Pz i0 l0 l1 b0 b1 b2 i1 l2 i2 l3 l4 b3 b4 i3 l5 i4 i5 l6 l7 b5 b6 b7 i6 i7 l8 l9 i8 i9 i10 i11 i12 (zA F i0 l0 l1 b0 b1 b2 i1 l2 i2 l3 l4 b3 b4 i3 l5 i4 i5 l6 l7 b5 b6 b7 i6 i7 l8 l9 i8 i9 i10 i11 i12)
def Ny (F : Tab) (dep : Nat) (args : List AV) (M : Mm) : Option LT := if Nat.beq dep 3 && BS.ok args M then some (aci (P6 F) args M) else none
def D5 (F : Tab) (i0 : Int) (l0 l1 : List AV) (b0 b1 b2 : Bool) (i1 : Int) (l2 : List AV) (i2 : Int) (l3 l4 : List AV) (b3 b4 : Bool) (i3 : Int) (l5 : List AV) (i4 i5 : Int) (l6 l7 : List AV) (b5 b6 b7 : Bool) (i6 i7 : Int) (l8 l9 : List AV) (i8 i9 i10 i11 i12 : Int)  : Tr (Unit) :=
    let x0 : List AV := fG (aA F 106 [.int .u32 i5, bG i8 i9 i10 i11 i12]);
    let x1 : Int := aj (x0.getD 0 .dead);
    .br (cond (aB Pg F 106 [.int .u32 i5, bG i8 i9 i10 i11 i12]) true false)
     (.br (!(av (x0.getD 1 .dead)))
      (.br (cond (aN i10 16) true false)
       (.br (i9 != 0)
        (.br (cond (aN i9 16) true false)
         (.out ⟨1, [IntKind.u32.wrap ((aj (l3.getD i10.toNat .dead)) + (IntKind.u32.wrap i12))], [], [l3.set i9.toNat (.int .u32 (IntKind.u32.wrap (i5 + 4)))], [], [], []⟩)
         (.bad))
        (.out ⟨1, [IntKind.u32.wrap ((aj (l3.getD i10.toNat .dead)) + (IntKind.u32.wrap i12))], [], [l3], [], [], []⟩))
       (.bad))
      (.br (i9 != 0)
       (.br (cond (aN i9 16) true false)
        (.out ⟨1, [x1], [], [l3.set i9.toNat (.int .u32 (IntKind.u32.wrap (i5 + 4)))], [], [], []⟩)
        (.bad))
       (.out ⟨1, [x1], [], [l3], [], [], []⟩)))
     (.bad)
def zI (F : Tab) (i0 : Int) (l0 l1 : List AV) (b0 b1 b2 : Bool) (i1 : Int) (l2 : List AV) (i2 : Int) (l3 l4 : List AV) (b3 b4 : Bool) (i3 : Int) (l5 : List AV) (i4 i5 : Int) (l6 l7 : List AV) (b5 b6 b7 : Bool) (i6 i7 : Int) (l8 l9 : List AV) (i8 i9 i10 i11 i12 : Int) : LO := (D5 F i0 l0 l1 b0 b1 b2 i1 l2 i2 l3 l4 b3 b4 i3 l5 i4 i5 l6 l7 b5 b6 b7 i6 i7 l8 l9 i8 i9 i10 i11 i12).eval fun _ => LO.bad
def JD (i0 : Int) (l0 l1 : List AV) (b0 b1 b2 : Bool) (i1 : Int) (l2 : List AV) (i2 : Int) (l3 l4 : List AV) (b3 b4 : Bool) (i3 : Int) (l5 : List AV) (i4 i5 : Int) (l6 l7 : List AV) (b5 b6 b7 : Bool) (i6 i7 : Int) (l8 l9 : List AV) (i8 i9 i10 i11 i12 : Int) : Mm := ⟨[.var 26 (aG i0 l0 l1 b0 b1 b2 i1), .var 29 (aD l2), .var 38 (dx), .var 63 (dS i2 l3 l4 b3 false b4 i3 l5 i4 true cZ i5 l6 l7 b5 b6 b7 i6 i7 l8 l9 false aZ 0 0 0 i8 i9 i10 i11 i12), .var 61 (.ptr 3 [] 63 0), jV], [(3, [3, 5]), (2, [4]), (2, [5]), (3, [3, 4])]⟩
def Lm (i0 : Int) (l0 l1 : List AV) (b0 b1 b2 : Bool) (i1 : Int) (l2 : List AV) (i2 : Int) (l3 l4 : List AV) (b3 b4 : Bool) (i3 : Int) (l5 : List AV) (i4 i5 : Int) (l6 l7 : List AV) (b5 b6 b7 : Bool) (i6 i7 : Int) (l8 l9 : List AV) (i8 i9 i10 i11 i12 : Int) (lo : LO) : LT :=
 .br (lo.k == 1) (.done .ret (aU 1 [(0, .tuple [])] []) (JD i0 l0 l1 b0 b1 b2 i1 l2 (lo.I 0) (lo.L 0) l4 b3 b4 i3 l5 i4 i5 l6 l7 b5 b6 b7 i6 i7 l8 l9 i8 i9 i10 i11 i12)) (.fail)
def Zp (i0 : Int) (l0 l1 : List AV) (b0 b1 b2 : Bool) (i1 : Int) (l2 : List AV) (i2 : Int) (l3 l4 : List AV) (b3 b4 : Bool) (i3 : Int) (l5 : List AV) (i4 i5 : Int) (l6 l7 : List AV) (b5 b6 b7 : Bool) (i6 i7 : Int) (l8 l9 : List AV) (i8 i9 i10 i11 i12 : Int) : List AV := [.ptr 3 [] 63 0]
def Bl : ArP := ⟨[.ptr 3 [] 63 (some 0)], [.var 26 (eP), .var 29 (.agg 28 [.slice 139 false]), .var 38 (iR), .var 63 (iU), .var 61 (.ptr 3 [] 63 (some 0)), uh], [(3, [3, 5]), (2, [4]), (2, [5]), (3, [3, 4])]⟩
abbrev Yp {α : Type} (f : Int -> List AV -> List AV -> Bool -> Bool -> Bool -> Int -> List AV -> Int -> List AV -> List AV -> Bool -> Bool -> Int -> List AV -> Int -> Int -> List AV -> List AV -> Bool -> Bool -> Bool -> Int -> Int -> List AV -> List AV -> Int -> Int -> Int -> Int -> Int -> α) (args : List AV) (M : Mm) : α := f (aj (pA (vR M 0) 0)) (au (pA (vR M 0) 1)) (au (pA (vR M 0) 2)) (av (pA (vR M 0) 3)) (av (pA (vR M 0) 4)) (av (pA (vR M 0) 5)) (aj (pA (vR M 0) 6)) (ay (pA (vR M 1) 0)) (aj (pA (pA (vR M 3) 0) 0)) (au (pA (pA (vR M 3) 0) 1)) (au (pA (pA (vR M 3) 0) 2)) (av (pA (pA (vR M 3) 0) 3)) (av (pA (pA (vR M 3) 0) 5)) (aj (pA (pA (vR M 3) 0) 6)) (ay (pA (pA (vR M 3) 1) 0)) (aj (pA (vR M 3) 2)) (aj (pA (pA (pA (vR M 3) 3) 2) 0)) (au (pA (pA (pA (vR M 3) 3) 2) 1)) (au (pA (pA (pA (vR M 3) 3) 2) 2)) (av (pA (pA (pA (vR M 3) 3) 2) 3)) (av (pA (pA (pA (vR M 3) 3) 2) 4)) (av (pA (pA (pA (vR M 3) 3) 2) 5)) (aj (pA (pA (pA (vR M 3) 3) 2) 6)) (aj (pA (pA (vR M 3) 3) 3)) (ay (pA (pA (vR M 3) 3) 4)) (ay (pA (pA (vR M 3) 3) 5)) (aj (pA (pA (vR M 3) 4) 0)) (aj (pA (pA (vR M 3) 4) 1)) (aj (pA (pA (vR M 3) 4) 2)) (aj (pA (pA (vR M 3) 4) 3)) (aj (pA (pA (vR M 3) 4) 4))
def Me (F : Tab) (i0 : Int) (l0 l1 : List AV) (b0 b1 b2 : Bool) (i1 : Int) (l2 : List AV) (i2 : Int) (l3 l4 : List AV) (b3 b4 : Bool) (i3 : Int) (l5 : List AV) (i4 i5 : Int) (l6 l7 : List AV) (b5 b6 b7 : Bool) (i6 i7 : Int) (l8 l9 : List AV) (i8 i9 i10 i11 i12 : Int) : LT := Lm i0 l0 l1 b0 b1 b2 i1 l2 i2 l3 l4 b3 b4 i3 l5 i4 i5 l6 l7 b5 b6 b7 i6 i7 l8 l9 i8 i9 i10 i11 i12 (zI F i0 l0 l1 b0 b1 b2 i1 l2 i2 l3 l4 b3 b4 i3 l5 i4 i5 l6 l7 b5 b6 b7 i6 i7 l8 l9 i8 i9 i10 i11 i12)
def KO (F : Tab) (dep : Nat) (args : List AV) (M : Mm) : Option LT := if Nat.beq dep 3 && Bl.ok args M then some (Yp (Me F) args M) else none
def Gq (F : Tab) (i0 : Int) (l0 l1 : List AV) (b0 b1 b2 : Bool) (i1 : Int) (l2 : List AV) (i2 : Int) (l3 l4 : List AV) (b3 b4 : Bool) (i3 : Int) (l5 : List AV) (i4 i5 : Int) (l6 l7 : List AV) (b5 b6 b7 : Bool) (i6 i7 : Int) (l8 l9 : List AV) (i8 i9 i10 i11 i12 : Int)  : Tr (Unit) :=
    let x0 : List AV := fG (aA F 107 [aG i2 l3 l4 b3 false b4 i3, .int .i64 i12, .int .u32 i4]);
    let x1 : List AV := l3.set i9.toNat (.int .u32 (aj (x0.getD 0 .dead)));
    let x2 : Bool := (aj (x0.getD 1 .dead)) != 0;
    let x3 : List AV := fG (aA F 108 [aG i2 l3 l4 b3 false b4 i3, .int .i64 i12, .int .u32 (aj (l3.getD i9.toNat .dead))]);
    let x4 : List AV := au (x3.getD 0 .dead);
    let x5 : Int := aj (x4.getD 0 .dead);
    let x6 : List AV := au (x4.getD 1 .dead);
    let x7 : List AV := au (x4.getD 2 .dead);
    let x8 : Bool := av (x4.getD 3 .dead);
    let x9 : Bool := av (x4.getD 4 .dead);
    let x10 : Bool := av (x4.getD 5 .dead);
    let x11 : Int := aj (x4.getD 6 .dead);
    .br (i8 == 42)
     (.br (cond (aB Pg F 107 [aG i2 l3 l4 b3 false b4 i3, .int .i64 i12, .int .u32 i4]) true false)
      (.br (i9 != 0)
       (.br (cond (aN i9 16) true false)
        (.br x2
         (.out ⟨1, [i2, i3], [b3, false, b4], [x1, l4], [], [], []⟩)
         (.out ⟨2, [i2, i3], [b3, false, b4], [x1, l4], [], [], []⟩))
        (.bad))
       (.br x2
        (.out ⟨1, [i2, i3], [b3, false, b4], [l3, l4], [], [], []⟩)
        (.out ⟨2, [i2, i3], [b3, false, b4], [l3, l4], [], [], []⟩)))
      (.bad))
     (.br (aN i9 16)
      (.br (aB Pg F 108 [aG i2 l3 l4 b3 false b4 i3, .int .i64 i12, .int .u32 (aj (l3.getD i9.toNat .dead))])
       (.br ((aj (x3.getD 1 .dead)) != 0)
        (.out ⟨1, [x5, x11], [x8, x9, x10], [x6, x7], [], [], []⟩)
        (.out ⟨2, [x5, x11], [x8, x9, x10], [x6, x7], [], [], []⟩))
       (.bad))
      (.bad))
def BD (F : Tab) (i0 : Int) (l0 l1 : List AV) (b0 b1 b2 : Bool) (i1 : Int) (l2 : List AV) (i2 : Int) (l3 l4 : List AV) (b3 b4 : Bool) (i3 : Int) (l5 : List AV) (i4 i5 : Int) (l6 l7 : List AV) (b5 b6 b7 : Bool) (i6 i7 : Int) (l8 l9 : List AV) (i8 i9 i10 i11 i12 : Int) : LO := (Gq F i0 l0 l1 b0 b1 b2 i1 l2 i2 l3 l4 b3 b4 i3 l5 i4 i5 l6 l7 b5 b6 b7 i6 i7 l8 l9 i8 i9 i10 i11 i12).eval fun _ => LO.bad
def Ua (i0 : Int) (l0 l1 : List AV) (b0 b1 b2 : Bool) (i1 : Int) (l2 : List AV) (i2 : Int) (l3 l4 : List AV) (b3 b4 : Bool) (i3 : Int) (l5 : List AV) (i4 i5 : Int) (l6 l7 : List AV) (b5 b6 b7 : Bool) (i6 i7 : Int) (l8 l9 : List AV) (i8 i9 i10 i11 i12 : Int) : Mm := ⟨[.var 26 (aG i0 l0 l1 b0 b1 b2 i1), .var 29 (aD l2), .var 38 (dx), .var 63 (dS i2 l3 l4 b3 false b4 i3 l5 i4 true cZ i5 l6 l7 b5 b6 b7 i6 i7 l8 l9 false aZ 0 0 0 i8 i9 i10 i11 i12), .var 61 (.ptr 3 [] 63 0), jV], [(3, [3, 5]), (2, [4]), (2, [5]), (3, [3, 4])]⟩
def KY (i0 : Int) (l0 l1 : List AV) (b0 b1 b2 : Bool) (i1 : Int) (l2 : List AV) (i2 : Int) (l3 l4 : List AV) (b3 b4 : Bool) (i3 : Int) (l5 : List AV) (i4 i5 : Int) (l6 l7 : List AV) (b5 b6 b7 : Bool) (i6 i7 : Int) (l8 l9 : List AV) (i8 i9 i10 i11 i12 : Int) (lo : LO) : LT :=
 .br (lo.k == 1) (.done (.panic (.iface 89 (dR 2 i7 i5))) (aU 0 [] []) ⟨[.var 26 (aG i0 l0 l1 b0 b1 b2 i1), .var 29 (aD l2), .var 38 (dx), .var 63 (dS (lo.I 0) (lo.L 0) (lo.L 1) (lo.B 0) (lo.B 1) (lo.B 2) (lo.I 1) l5 i4 true cZ i5 l6 l7 b5 b6 b7 i6 i7 l8 l9 false aZ 0 0 0 i8 i9 i10 i11 i12), .var 61 (.ptr 3 [] 63 0), jV], [(3, [3, 5]), (2, [4]), (2, [5]), (3, [3, 4])]⟩) (.br (lo.k == 2) (.done .ret (aU 1 [(0, .tuple [])] []) ⟨[.var 26 (aG i0 l0 l1 b0 b1 b2 i1), .var 29 (aD l2), .var 38 (dx), .var 63 (dS (lo.I 0) (lo.L 0) (lo.L 1) (lo.B 0) (lo.B 1) (lo.B 2) (lo.I 1) l5 i4 true cZ i5 l6 l7 b5 b6 b7 i6 i7 l8 l9 false aZ 0 0 0 i8 i9 i10 i11 i12), .var 61 (.ptr 3 [] 63 0), jV], [(3, [3, 5]), (2, [4]), (2, [5]), (3, [3, 4])]⟩) (.fail))
def WC (i0 : Int) (l0 l1 : List AV) (b0 b1 b2 : Bool) (i1 : Int) (l2 : List AV) (i2 : Int) (l3 l4 : List AV) (b3 b4 : Bool) (i3 : Int) (l5 : List AV) (i4 i5 : Int) (l6 l7 : List AV) (b5 b6 b7 : Bool) (i6 i7 : Int) (l8 l9 : List AV) (i8 i9 i10 i11 i12 : Int) : List AV := [.ptr 3 [] 63 0]
def AO : ArP := ⟨[.ptr 3 [] 63 (some 0)], [.var 26 (eP), .var 29 (.agg 28 [.slice 139 false]), .var 38 (iR), .var 63 (iU), .var 61 (.ptr 3 [] 63 (some 0)), uh], [(3, [3, 5]), (2, [4]), (2, [5]), (3, [3, 4])]⟩
abbrev aa3 {α : Type} (f : Int -> List AV -> List AV -> Bool -> Bool -> Bool -> Int -> List AV -> Int -> List AV -> List AV -> Bool -> Bool -> Int -> List AV -> Int -> Int -> List AV -> List AV -> Bool -> Bool -> Bool -> Int -> Int -> List AV -> List AV -> Int -> Int -> Int -> Int -> Int -> α) (args : List AV) (M : Mm) : α := f (aj (pA (vR M 0) 0)) (au (pA (vR M 0) 1)) (au (pA (vR M 0) 2)) (av (pA (vR M 0) 3)) (av (pA (vR M 0) 4)) (av (pA (vR M 0) 5)) (aj (pA (vR M 0) 6)) (ay (pA (vR M 1) 0)) (aj (pA (pA (vR M 3) 0) 0)) (au (pA (pA (vR M 3) 0) 1)) (au (pA (pA (vR M 3) 0) 2)) (av (pA (pA (vR M 3) 0) 3)) (av (pA (pA (vR M 3) 0) 5)) (aj (pA (pA (vR M 3) 0) 6)) (ay (pA (pA (vR M 3) 1) 0)) (aj (pA (vR M 3) 2)) (aj (pA (pA (pA (vR M 3) 3) 2) 0)) (au (pA (pA (pA (vR M 3) 3) 2) 1)) (au (pA (pA (pA (vR M 3) 3) 2) 2)) (av (pA (pA (pA (vR M 3) 3) 2) 3)) (av (pA (pA (pA (vR M 3) 3) 2) 4)) (av (pA (pA (pA (vR M 3) 3) 2) 5)) (aj (pA (pA (pA (vR M 3) 3) 2) 6)) (aj (pA (pA (vR M 3) 3) 3)) (ay (pA (pA (vR M 3) 3) 4)) (ay (pA (pA (vR M 3) 3) 5)) (aj (pA (pA (vR M 3) 4) 0)) (aj (pA (pA (vR M 3) 4) 1)) (aj (pA (pA (vR M 3) 4) 2)) (aj (pA (pA (vR M 3) 4) 3)) (aj (pA (pA (vR M 3) 4) 4))
def Mx (F : Tab) (i0 : Int) (l0 l1 : List AV) (b0 b1 b2 : Bool) (i1 : Int) (l2 : List AV) (i2 : Int) (l3 l4 : List AV) (b3 b4 : Bool) (i3 : Int) (l5 : List AV) (i4 i5 : Int) (l6 l7 : List AV) (b5 b6 b7 : Bool) (i6 i7 : Int) (l8 l9 : List AV) (i8 i9 i10 i11 i12 : Int) : LT := KY i0 l0 l1 b0 b1 b2 i1 l2 i2 l3 l4 b3 b4 i3 l5 i4 i5 l6 l7 b5 b6 b7 i6 i7 l8 l9 i8 i9 i10 i11 i12 (BD F i0 l0 l1 b0 b1 b2 i1 l2 i2 l3 l4 b3 b4 i3 l5 i4 i5 l6 l7 b5 b6 b7 i6 i7 l8 l9 i8 i9 i10 i11 i12)
def OP (F : Tab) (dep : Nat) (args : List AV) (M : Mm) : Option LT := if Nat.beq dep 3 && AO.ok args M then some (aa3 (Mx F) args M) else none
def Fj (F : Tab) (i0 : Int) (l0 l1 : List AV) (b0 b1 b2 : Bool) (i1 : Int) (l2 : List AV) (i2 : Int) (l3 l4 : List AV) (b3 b4 : Bool) (i3 : Int) (l5 : List AV) (i4 i5 : Int) (l6 l7 : List AV) (b5 b6 b7 : Bool) (i6 i7 : Int) (l8 l9 : List AV) (i8 i9 i10 i11 i12 : Int)  : Tr (Unit) :=
    .br (i10 != 0)
     (.br (aN i10 16)
      (.out ⟨1, [1, aj (l3.getD i10.toNat .dead)], [], [], [], [], []⟩)
      (.bad))
     (.out ⟨1, [2, 0], [], [], [], [], []⟩)
def CF (F : Tab) (i0 : Int) (l0 l1 : List AV) (b0 b1 b2 : Bool) (i1 : Int) (l2 : List AV) (i2 : Int) (l3 l4 : List AV) (b3 b4 : Bool) (i3 : Int) (l5 : List AV) (i4 i5 : Int) (l6 l7 : List AV) (b5 b6 b7 : Bool) (i6 i7 : Int) (l8 l9 : List AV) (i8 i9 i10 i11 i12 : Int) : LO := (Fj F i0 l0 l1 b0 b1 b2 i1 l2 i2 l3 l4 b3 b4 i3 l5 i4 i5 l6 l7 b5 b6 b7 i6 i7 l8 l9 i8 i9 i10 i11 i12).eval fun _ => LO.bad
def Sm (i0 : Int) (l0 l1 : List AV) (b0 b1 b2 : Bool) (i1 : Int) (l2 : List AV) (i2 : Int) (l3 l4 : List AV) (b3 b4 : Bool) (i3 : Int) (l5 : List AV) (i4 i5 : Int) (l6 l7 : List AV) (b5 b6 b7 : Bool) (i6 i7 : Int) (l8 l9 : List AV) (i8 i9 i10 i11 i12 : Int) : Mm := ⟨[.var 26 (aG i0 l0 l1 b0 b1 b2 i1), .var 29 (aD l2), .var 38 (dx), .var 63 (dS i2 l3 l4 b3 false b4 i3 l5 i4 true cZ i5 l6 l7 b5 b6 b7 i6 i7 l8 l9 false aZ 0 0 0 i8 i9 i10 i11 i12), .var 61 (.ptr 3 [] 63 0), jV], [(3, [3, 5]), (2, [4]), (2, [5]), (3, [3, 4])]⟩
def Mk (i0 : Int) (l0 l1 : List AV) (b0 b1 b2 : Bool) (i1 : Int) (l2 : List AV) (i2 : Int) (l3 l4 : List AV) (b3 b4 : Bool) (i3 : Int) (l5 : List AV) (i4 i5 : Int) (l6 l7 : List AV) (b5 b6 b7 : Bool) (i6 i7 : Int) (l8 l9 : List AV) (i8 i9 i10 i11 i12 : Int) (lo : LO) : LT :=
 .br (lo.k == 1) (.done .ret (aU 1 [(0, .tuple [])] []) ⟨[.var 26 (aG i0 l0 l1 b0 b1 b2 i1), .var 29 (aD l2), .var 38 (dx), .var 63 (dS i2 l3 l4 b3 false b4 i3 l5 i4 true cZ i5 l6 l7 b5 b6 b7 i6 i7 l8 l9 false aZ (lo.I 0) (lo.I 1) 0 i8 i9 i10 i11 i12), .var 61 (.ptr 3 [] 63 0), jV], [(3, [3, 5]), (2, [4]), (2, [5]), (3, [3, 4])]⟩) (.fail)
def Za (i0 : Int) (l0 l1 : List AV) (b0 b1 b2 : Bool) (i1 : Int) (l2 : List AV) (i2 : Int) (l3 l4 : List AV) (b3 b4 : Bool) (i3 : Int) (l5 : List AV) (i4 i5 : Int) (l6 l7 : List AV) (b5 b6 b7 : Bool) (i6 i7 : Int) (l8 l9 : List AV) (i8 i9 i10 i11 i12 : Int) : List AV := [.ptr 3 [] 63 0]
def Dn : ArP := ⟨[.ptr 3 [] 63 (some 0)], [.var 26 (eP), .var 29 (.agg 28 [.slice 139 false]), .var 38 (iR), .var 63 (iU), .var 61 (.ptr 3 [] 63 (some 0)), uh], [(3, [3, 5]), (2, [4]), (2, [5]), (3, [3, 4])]⟩
abbrev Yx {α : Type} (f : Int -> List AV -> List AV -> Bool -> Bool -> Bool -> Int -> List AV -> Int -> List AV -> List AV -> Bool -> Bool -> Int -> List AV -> Int -> Int -> List AV -> List AV -> Bool -> Bool -> Bool -> Int -> Int -> List AV -> List AV -> Int -> Int -> Int -> Int -> Int -> α) (args : List AV) (M : Mm) : α := f (aj (pA (vR M 0) 0)) (au (pA (vR M 0) 1)) (au (pA (vR M 0) 2)) (av (pA (vR M 0) 3)) (av (pA (vR M 0) 4)) (av (pA (vR M 0) 5)) (aj (pA (vR M 0) 6)) (ay (pA (vR M 1) 0)) (aj (pA (pA (vR M 3) 0) 0)) (au (pA (pA (vR M 3) 0) 1)) (au (pA (pA (vR M 3) 0) 2)) (av (pA (pA (vR M 3) 0) 3)) (av (pA (pA (vR M 3) 0) 5)) (aj (pA (pA (vR M 3) 0) 6)) (ay (pA (pA (vR M 3) 1) 0)) (aj (pA (vR M 3) 2)) (aj (pA (pA (pA (vR M 3) 3) 2) 0)) (au (pA (pA (pA (vR M 3) 3) 2) 1)) (au (pA (pA (pA (vR M 3) 3) 2) 2)) (av (pA (pA (pA (vR M 3) 3) 2) 3)) (av (pA (pA (pA (vR M 3) 3) 2) 4)) (av (pA (pA (pA (vR M 3) 3) 2) 5)) (aj (pA (pA (pA (vR M 3) 3) 2) 6)) (aj (pA (pA (vR M 3) 3) 3)) (ay (pA (pA (vR M 3) 3) 4)) (ay (pA (pA (vR M 3) 3) 5)) (aj (pA (pA (vR M 3) 4) 0)) (aj (pA (pA (vR M 3) 4) 1)) (aj (pA (pA (vR M 3) 4) 2)) (aj (pA (pA (vR M 3) 4) 3)) (aj (pA (pA (vR M 3) 4) 4))
def La (F : Tab) (i0 : Int) (l0 l1 : List AV) (b0 b1 b2 : Bool) (i1 : Int) (l2 : List AV) (i2 : Int) (l3 l4 : List AV) (b3 b4 : Bool) (i3 : Int) (l5 : List AV) (i4 i5 : Int) (l6 l7 : List AV) (b5 b6 b7 : Bool) (i6 i7 : Int) (l8 l9 : List AV) (i8 i9 i10 i11 i12 : Int) : LT := Mk i0 l0 l1 b0 b1 b2 i1 l2 i2 l3 l4 b3 b4 i3 l5 i4 i5 l6 l7 b5 b6 b7 i6 i7 l8 l9 i8 i9 i10 i11 i12 (CF F i0 l0 l1 b0 b1 b2 i1 l2 i2 l3 l4 b3 b4 i3 l5 i4 i5 l6 l7 b5 b6 b7 i6 i7 l8 l9 i8 i9 i10 i11 i12)
def KP (F : Tab) (dep : Nat) (args : List AV) (M : Mm) : Option LT := if Nat.beq dep 3 && Dn.ok args M then some (Yx (La F) args M) else none
def G6 (F : Tab) (i0 : Int) (l0 l1 : List AV) (b0 b1 b2 : Bool) (i1 : Int) (l2 : List AV) (i2 : Int) (l3 l4 : List AV) (b3 b4 : Bool) (i3 : Int) (l5 : List AV) (i4 i5 : Int) (l6 l7 : List AV) (b5 b6 b7 : Bool) (i6 i7 : Int) (l8 l9 : List AV) (i8 i9 i10 i11 i12 : Int)  : Tr (Unit) :=
    .br (!(i8 == 46))
     (.br (cond (aN i9 16) true false)
      (.out ⟨1, [aj (l3.getD i9.toNat .dead)], [i8 == 46], [], [], [], []⟩)
      (.bad))
     (.out ⟨1, [0], [i8 == 46], [], [], [], []⟩)
def zM (F : Tab) (i0 : Int) (l0 l1 : List AV) (b0 b1 b2 : Bool) (i1 : Int) (l2 : List AV) (i2 : Int) (l3 l4 : List AV) (b3 b4 : Bool) (i3 : Int) (l5 : List AV) (i4 i5 : Int) (l6 l7 : List AV) (b5 b6 b7 : Bool) (i6 i7 : Int) (l8 l9 : List AV) (i8 i9 i10 i11 i12 : Int) : LO := (G6 F i0 l0 l1 b0 b1 b2 i1 l2 i2 l3 l4 b3 b4 i3 l5 i4 i5 l6 l7 b5 b6 b7 i6 i7 l8 l9 i8 i9 i10 i11 i12).eval fun _ => LO.bad
def QT (i0 : Int) (l0 l1 : List AV) (b0 b1 b2 : Bool) (i1 : Int) (l2 : List AV) (i2 : Int) (l3 l4 : List AV) (b3 b4 : Bool) (i3 : Int) (l5 : List AV) (i4 i5 : Int) (l6 l7 : List AV) (b5 b6 b7 : Bool) (i6 i7 : Int) (l8 l9 : List AV) (i8 i9 i10 i11 i12 : Int) : Mm := ⟨[.var 26 (aG i0 l0 l1 b0 b1 b2 i1), .var 29 (aD l2), .var 38 (dx), .var 63 (dS i2 l3 l4 b3 false b4 i3 l5 i4 true cZ i5 l6 l7 b5 b6 b7 i6 i7 l8 l9 false aZ 0 0 0 i8 i9 i10 i11 i12), .var 61 (.ptr 3 [] 63 0), jV], [(3, [3, 5]), (2, [4]), (2, [5]), (3, [3, 4])]⟩
def Jf (i0 : Int) (l0 l1 : List AV) (b0 b1 b2 : Bool) (i1 : Int) (l2 : List AV) (i2 : Int) (l3 l4 : List AV) (b3 b4 : Bool) (i3 : Int) (l5 : List AV) (i4 i5 : Int) (l6 l7 : List AV) (b5 b6 b7 : Bool) (i6 i7 : Int) (l8 l9 : List AV) (i8 i9 i10 i11 i12 : Int) (lo : LO) : LT :=
 .br (lo.k == 1) (.done .ret (aU 1 [(0, .tuple [])] []) ⟨[.var 26 (aG i0 l0 l1 b0 b1 b2 i1), .var 29 (aD l2), .var 38 (dx), .var 63 (.agg 62 [aG i2 l3 l4 b3 false b4 i3, aD l5, .int .u32 i4, .agg 37 [.bool true, cZ, aG i5 l6 l7 b5 b6 b7 i6, .int .u32 i7, .slice 57 l8 false, .slice 59 l9 false, .bool true, FM (lo.B 0) i12 (lo.I 0), .int .i64 0, .int .u32 0, .int .i64 0], bG i8 i9 i10 i11 i12]), .var 61 (.ptr 3 [] 63 0), jV], [(3, [3, 5]), (2, [4]), (2, [5]), (3, [3, 4])]⟩) (.fail)
def Q8 (i0 : Int) (l0 l1 : List AV) (b0 b1 b2 : Bool) (i1 : Int) (l2 : List AV) (i2 : Int) (l3 l4 : List AV) (b3 b4 : Bool) (i3 : Int) (l5 : List AV) (i4 i5 : Int) (l6 l7 : List AV) (b5 b6 b7 : Bool) (i6 i7 : Int) (l8 l9 : List AV) (i8 i9 i10 i11 i12 : Int) : List AV := [.ptr 3 [] 63 0]
def zH : ArP := ⟨[.ptr 3 [] 63 (some 0)], [.var 26 (eP), .var 29 (.agg 28 [.slice 139 false]), .var 38 (iR), .var 63 (iU), .var 61 (.ptr 3 [] 63 (some 0)), uh], [(3, [3, 5]), (2, [4]), (2, [5]), (3, [3, 4])]⟩
abbrev VR {α : Type} (f : Int -> List AV -> List AV -> Bool -> Bool -> Bool -> Int -> List AV -> Int -> List AV -> List AV -> Bool -> Bool -> Int -> List AV -> Int -> Int -> List AV -> List AV -> Bool -> Bool -> Bool -> Int -> Int -> List AV -> List AV -> Int -> Int -> Int -> Int -> Int -> α) (args : List AV) (M : Mm) : α := f (aj (pA (vR M 0) 0)) (au (pA (vR M 0) 1)) (au (pA (vR M 0) 2)) (av (pA (vR M 0) 3)) (av (pA (vR M 0) 4)) (av (pA (vR M 0) 5)) (aj (pA (vR M 0) 6)) (ay (pA (vR M 1) 0)) (aj (pA (pA (vR M 3) 0) 0)) (au (pA (pA (vR M 3) 0) 1)) (au (pA (pA (vR M 3) 0) 2)) (av (pA (pA (vR M 3) 0) 3)) (av (pA (pA (vR M 3) 0) 5)) (aj (pA (pA (vR M 3) 0) 6)) (ay (pA (pA (vR M 3) 1) 0)) (aj (pA (vR M 3) 2)) (aj (pA (pA (pA (vR M 3) 3) 2) 0)) (au (pA (pA (pA (vR M 3) 3) 2) 1)) (au (pA (pA (pA (vR M 3) 3) 2) 2)) (av (pA (pA (pA (vR M 3) 3) 2) 3)) (av (pA (pA (pA (vR M 3) 3) 2) 4)) (av (pA (pA (pA (vR M 3) 3) 2) 5)) (aj (pA (pA (pA (vR M 3) 3) 2) 6)) (aj (pA (pA (vR M 3) 3) 3)) (ay (pA (pA (vR M 3) 3) 4)) (ay (pA (pA (vR M 3) 3) 5)) (aj (pA (pA (vR M 3) 4) 0)) (aj (pA (pA (vR M 3) 4) 1)) (aj (pA (pA (vR M 3) 4) 2)) (aj (pA (pA (vR M 3) 4) 3)) (aj (pA (pA (vR M 3) 4) 4))
def PN (F : Tab) (i0 : Int) (l0 l1 : List AV) (b0 b1 b2 : Bool) (i1 : Int) (l2 : List AV) (i2 : Int) (l3 l4 : List AV) (b3 b4 : Bool) (i3 : Int) (l5 : List AV) (i4 i5 : Int) (l6 l7 : List AV) (b5 b6 b7 : Bool) (i6 i7 : Int) (l8 l9 : List AV) (i8 i9 i10 i11 i12 : Int) : LT := Jf i0 l0 l1 b0 b1 b2 i1 l2 i2 l3 l4 b3 b4 i3 l5 i4 i5 l6 l7 b5 b6 b7 i6 i7 l8 l9 i8 i9 i10 i11 i12 (zM F i0 l0 l1 b0 b1 b2 i1 l2 i2 l3 l4 b3 b4 i3 l5 i4 i5 l6 l7 b5 b6 b7 i6 i7 l8 l9 i8 i9 i10 i11 i12)
def NP (F : Tab) (dep : Nat) (args : List AV) (M : Mm) : Option LT := if Nat.beq dep 3 && zH.ok args M then some (VR (PN F) args M) else none
def Ij (F : Tab) (i0 : Int) (l0 l1 : List AV) (b0 b1 b2 : Bool) (i1 : Int) (l2 : List AV) (i2 : Int) (l3 l4 : List AV) (b3 b4 : Bool) (i3 : Int) (l5 : List AV) (i4 i5 : Int) (l6 l7 : List AV) (b5 b6 b7 : Bool) (i6 i7 : Int) (l8 l9 : List AV) (i8 i9 i10 i11 i12 : Int)  : Tr (Unit) :=
    let x0 : List AV := au (aA F 80 [aG i2 l3 l4 b3 false b4 i3]);
    .br (i8 == 16)
     (.br (cond (aN i10 16) true false)
      (.br (i9 != 0)
       (.br (cond (aN i9 16) true false)
        (.out ⟨1, [i2, i3], [b3, false, b4], [l3.set i9.toNat (.int .u32 (IntKind.u32.wrap ((aj (l3.getD i10.toNat .dead)) + (IntKind.u32.wrap i12)))), l4], [], [], []⟩)
        (.bad))
       (.out ⟨1, [i2, i3], [b3, false, b4], [l3, l4], [], [], []⟩))
      (.bad))
     (.br (i8 == 17)
      (.br (i9 != 0)
       (.br (cond (aN i9 16) true false)
        (.out ⟨1, [i2, i3], [b3, false, b4], [l3.set i9.toNat (.int .u32 (IntKind.u32.wrap ((IntKind.u32.wrap i12) * 16384))), l4], [], [], []⟩)
        (.bad))
       (.out ⟨1, [i2, i3], [b3, false, b4], [l3, l4], [], [], []⟩))
      (.br (i8 == 40)
       (.out ⟨2, [IntKind.u32.wrap (i5 + 4)], [], [], [], [], []⟩)
       (.br (i8 == 41)
        (.br (aB Pg F 80 [aG i2 l3 l4 b3 false b4 i3])
         (.out ⟨1, [aj (x0.getD 0 .dead), aj (x0.getD 6 .dead)], [av (x0.getD 3 .dead), av (x0.getD 4 .dead), av (x0.getD 5 .dead)], [au (x0.getD 1 .dead), au (x0.getD 2 .dead)], [], [], []⟩)
         (.bad))
        (.br (i8 == 45)
         (.out ⟨1, [i2, i3], [b3, true, b4], [l3, l4], [], [], []⟩)
         (.br (i8 == 48)
          (.out ⟨1, [i2, i3], [b3, false, true], [l3, l4], [], [], []⟩)
          (.br (cond (aN i10 16) (cond (aN i11 16) (cond (aB Pg F 81 [.int .i64 i8, .int .u32 (aj (l3.getD i10.toNat .dead)), .int .u32 (aj (l3.getD i11.toNat .dead))]) true false) false) false)
           (.br (i9 != 0)
            (.br (cond (aN i9 16) true false)
             (.out ⟨1, [i2, i3], [b3, false, b4], [l3.set i9.toNat (.int .u32 (aj ((fG (aA F 81 [.int .i64 i8, .int .u32 (aj (l3.getD i10.toNat .dead)), .int .u32 (aj (l3.getD i11.toNat .dead))])).getD 0 .dead))), l4], [], [], []⟩)
             (.bad))
            (.out ⟨1, [i2, i3], [b3, false, b4], [l3, l4], [], [], []⟩))
           (.bad)))))))
def BU (F : Tab) (i0 : Int) (l0 l1 : List AV) (b0 b1 b2 : Bool) (i1 : Int) (l2 : List AV) (i2 : Int) (l3 l4 : List AV) (b3 b4 : Bool) (i3 : Int) (l5 : List AV) (i4 i5 : Int) (l6 l7 : List AV) (b5 b6 b7 : Bool) (i6 i7 : Int) (l8 l9 : List AV) (i8 i9 i10 i11 i12 : Int) : LO := (Ij F i0 l0 l1 b0 b1 b2 i1 l2 i2 l3 l4 b3 b4 i3 l5 i4 i5 l6 l7 b5 b6 b7 i6 i7 l8 l9 i8 i9 i10 i11 i12).eval fun _ => LO.bad
def Ma (i0 : Int) (l0 l1 : List AV) (b0 b1 b2 : Bool) (i1 : Int) (l2 : List AV) (i2 : Int) (l3 l4 : List AV) (b3 b4 : Bool) (i3 : Int) (l5 : List AV) (i4 i5 : Int) (l6 l7 : List AV) (b5 b6 b7 : Bool) (i6 i7 : Int) (l8 l9 : List AV) (i8 i9 i10 i11 i12 : Int) : Mm := ⟨[.var 26 (aG i0 l0 l1 b0 b1 b2 i1), .var 29 (aD l2), .var 38 (dx), .var 63 (dS i2 l3 l4 b3 false b4 i3 l5 i4 true cZ i5 l6 l7 b5 b6 b7 i6 i7 l8 l9 false aZ 0 0 0 i8 i9 i10 i11 i12), .var 61 (.ptr 3 [] 63 0), jV], [(3, [3, 5]), (2, [4]), (2, [5]), (3, [3, 4])]⟩
def Mv (i0 : Int) (l0 l1 : List AV) (b0 b1 b2 : Bool) (i1 : Int) (l2 : List AV) (i2 : Int) (l3 l4 : List AV) (b3 b4 : Bool) (i3 : Int) (l5 : List AV) (i4 i5 : Int) (l6 l7 : List AV) (b5 b6 b7 : Bool) (i6 i7 : Int) (l8 l9 : List AV) (i8 i9 i10 i11 i12 : Int) (lo : LO) : LT :=
 .br (lo.k == 1) (.done .ret (aU 1 [(0, .tuple [])] []) ⟨[.var 26 (aG i0 l0 l1 b0 b1 b2 i1), .var 29 (aD l2), .var 38 (dx), .var 63 (dS (lo.I 0) (lo.L 0) (lo.L 1) (lo.B 0) (lo.B 1) (lo.B 2) (lo.I 1) l5 i4 true cZ i5 l6 l7 b5 b6 b7 i6 i7 l8 l9 false aZ 0 0 0 i8 i9 i10 i11 i12), .var 61 (.ptr 3 [] 63 0), jV], [(3, [3, 5]), (2, [4]), (2, [5]), (3, [3, 4])]⟩) (.br (lo.k == 2) (.done (.panic (.iface 89 (dR 1 0 (lo.I 0)))) (aU 0 [] []) (Ma i0 l0 l1 b0 b1 b2 i1 l2 i2 l3 l4 b3 b4 i3 l5 i4 i5 l6 l7 b5 b6 b7 i6 i7 l8 l9 i8 i9 i10 i11 i12)) (.fail))
def acG (i0 : Int) (l0 l1 : List AV) (b0 b1 b2 : Bool) (i1 : Int) (l2 : List AV) (i2 : Int) (l3 l4 : List AV) (b3 b4 : Bool) (i3 : Int) (l5 : List AV) (i4 i5 : Int) (l6 l7 : List AV) (b5 b6 b7 : Bool) (i6 i7 : Int) (l8 l9 : List AV) (i8 i9 i10 i11 i12 : Int) : List AV := [.ptr 3 [] 63 0]
def BZ : ArP := ⟨[.ptr 3 [] 63 (some 0)], [.var 26 (eP), .var 29 (.agg 28 [.slice 139 false]), .var 38 (iR), .var 63 (iU), .var 61 (.ptr 3 [] 63 (some 0)), uh], [(3, [3, 5]), (2, [4]), (2, [5]), (3, [3, 4])]⟩
abbrev SV {α : Type} (f : Int -> List AV -> List AV -> Bool -> Bool -> Bool -> Int -> List AV -> Int -> List AV -> List AV -> Bool -> Bool -> Int -> List AV -> Int -> Int -> List AV -> List AV -> Bool -> Bool -> Bool -> Int -> Int -> List AV -> List AV -> Int -> Int -> Int -> Int -> Int -> α) (args : List AV) (M : Mm) : α := f (aj (pA (vR M 0) 0)) (au (pA (vR M 0) 1)) (au (pA (vR M 0) 2)) (av (pA (vR M 0) 3)) (av (pA (vR M 0) 4)) (av (pA (vR M 0) 5)) (aj (pA (vR M 0) 6)) (ay (pA (vR M 1) 0)) (aj (pA (pA (vR M 3) 0) 0)) (au (pA (pA (vR M 3) 0) 1)) (au (pA (pA (vR M 3) 0) 2)) (av (pA (pA (vR M 3) 0) 3)) (av (pA (pA (vR M 3) 0) 5)) (aj (pA (pA (vR M 3) 0) 6)) (ay (pA (pA (vR M 3) 1) 0)) (aj (pA (vR M 3) 2)) (aj (pA (pA (pA (vR M 3) 3) 2) 0)) (au (pA (pA (pA (vR M 3) 3) 2) 1)) (au (pA (pA (pA (vR M 3) 3) 2) 2)) (av (pA (pA (pA (vR M 3) 3) 2) 3)) (av (pA (pA (pA (vR M 3) 3) 2) 4)) (av (pA (pA (pA (vR M 3) 3) 2) 5)) (aj (pA (pA (pA (vR M 3) 3) 2) 6)) (aj (pA (pA (vR M 3) 3) 3)) (ay (pA (pA (vR M 3) 3) 4)) (ay (pA (pA (vR M 3) 3) 5)) (aj (pA (pA (vR M 3) 4) 0)) (aj (pA (pA (vR M 3) 4) 1)) (aj (pA (pA (vR M 3) 4) 2)) (aj (pA (pA (vR M 3) 4) 3)) (aj (pA (pA (vR M 3) 4) 4))
def Pw (F : Tab) (i0 : Int) (l0 l1 : List AV) (b0 b1 b2 : Bool) (i1 : Int) (l2 : List AV) (i2 : Int) (l3 l4 : List AV) (b3 b4 : Bool) (i3 : Int) (l5 : List AV) (i4 i5 : Int) (l6 l7 : List AV) (b5 b6 b7 : Bool) (i6 i7 : Int) (l8 l9 : List AV) (i8 i9 i10 i11 i12 : Int) : LT := Mv i0 l0 l1 b0 b1 b2 i1 l2 i2 l3 l4 b3 b4 i3 l5 i4 i5 l6 l7 b5 b6 b7 i6 i7 l8 l9 i8 i9 i10 i11 i12 (BU F i0 l0 l1 b0 b1 b2 i1 l2 i2 l3 l4 b3 b4 i3 l5 i4 i5 l6 l7 b5 b6 b7 i6 i7 l8 l9 i8 i9 i10 i11 i12)
def M9 (F : Tab) (dep : Nat) (args : List AV) (M : Mm) : Option LT := if Nat.beq dep 3 && BZ.ok args M then some (SV (Pw F) args M) else none
def tZ (F : Tab) (i0 : Int) (l0 l1 : List AV) (b0 b1 b2 : Bool) (i1 : Int) (l2 : List AV) (i2 : Int) (l3 l4 : List AV) (b3 b4 : Bool) (i3 : Int) (l5 : List AV) (i4 i5 : Int) (l6 l7 : List AV) (b5 b6 b7 : Bool) (i6 : Int)  : Tr (Unit) :=
    let x0 : List AV := fG (aA F 43 [aG i5 l6 l7 b5 b6 b7 i6, .int .u32 i4]);
    let x1 : Int := IntKind.i64.wrap (16 + (aj (x0.getD 0 .dead)));
    let x2 : List AV := au (aA F 34 [aG i5 l6 l7 b5 b6 b7 i6, dR x1 0 i5]);
    let x3 : LO := DX F i0 l0 l1 b0 b1 b2 i1 l2 i2 l3 l4 b3 b4 i3 l5 i4 i5 l6 l7 b5 b6 b7 i6;
    let x4 : List AV := x3.l.getD 0 [];
    let x5 : List AV := x3.l.getD 1 [];
    let x6 : List AV := x3.l.getD 2 [];
    let x7 : Int := x3.i.getD 0 0;
    let x8 : Int := x3.i.getD 1 0;
    let x9 : Int := x3.i.getD 2 0;
    let x10 : List AV := au (aA F 34 [aG i5 l6 l7 b5 b6 b7 i6, dR x9 i5 i5]);
    let x11 : Int := x3.i.getD 3 0;
    let x12 : Int := x3.i.getD 4 0;
    let x13 : Int := x3.i.getD 5 0;
    let x14 : List AV := fG (aA F 46 [.int .i64 x8]);
    let x15 : Int := aj (x14.getD 0 .dead);
    let x16 : LO := Bw F x15 (aj (x14.getD 1 .dead)) i0 l0 l1 b0 b1 b2 i1 l2 (IntKind.u32.wrap (i2 + 4)) l3 l4 b3 b4 i3 x4 i4 i5 l6 l7 b5 b6 b7 i6 x7 x5 x6 x8 x9 x11 x12 x13;
    let x17 : List AV := x16.l.getD 0 [];
    let x18 : List AV := x16.l.getD 1 [];
    let x19 : List AV := x16.l.getD 2 [];
    let x20 : List AV := x16.l.getD 3 [];
    let x21 : Int := x16.i.getD 2 0;
    let x22 : List AV := au (aA F 34 [aG i5 l6 l7 b5 b6 b7 i6, dR x21 (x16.i.getD 3 0) i5]);
    let x23 : List AV := au (aA F 34 [aG i5 l6 l7 b5 b6 b7 i6, dR 3 (x16.i.getD 0 0) i5]);
    let x24 : LO := zA F i0 l0 l1 b0 b1 b2 i1 l2 (IntKind.u32.wrap (i2 + 4)) l3 l4 b3 b4 i3 x4 i4 i5 l6 l7 b5 b6 b7 i6 x7 x5 x6 x8 x9 x11 x12 x13;
    let x25 : Int := x24.i.getD 0 0;
    let x26 : Bool := x24.k == 1;
    let x27 : LO := zI F i0 l0 l1 b0 b1 b2 i1 l2 (IntKind.u32.wrap (i2 + 4)) l3 l4 b3 b4 i3 x4 i4 i5 l6 l7 b5 b6 b7 i6 x7 x5 x6 x8 x9 x11 x12 x13;
    let x28 : Int := x27.i.getD 0 0;
    let x29 : List AV := x27.l.getD 0 [];
    let x30 : Bool := x27.k == 1;
    let x31 : LO := BD F i0 l0 l1 b0 b1 b2 i1 l2 (IntKind.u32.wrap (i2 + 4)) l3 l4 b3 b4 i3 x4 i4 i5 l6 l7 b5 b6 b7 i6 x7 x5 x6 x8 x9 x11 x12 x13;
    let x32 : Int := x31.i.getD 0 0;
    let x33 : List AV := x31.l.getD 0 [];
    let x34 : List AV := x31.l.getD 1 [];
    let x35 : Bool := x31.b.getD 0 false;
    let x36 : Bool := x31.b.getD 1 false;
    let x37 : Bool := x31.b.getD 2 false;
    let x38 : Int := x31.i.getD 1 0;
    let x39 : Bool := x31.k == 2;
    let x40 : Bool := x31.k == 1;
    let x41 : Bool := aB Pg F 34 [aG i5 l6 l7 b5 b6 b7 i6, dR 2 x7 i5];
    let x42 : List AV := au (aA F 34 [aG i5 l6 l7 b5 b6 b7 i6, dR 2 x7 i5]);
    let x43 : Int := aj (x42.getD 0 .dead);
    let x44 : List AV := au (x42.getD 1 .dead);
    let x45 : List AV := au (x42.getD 2 .dead);
    let x46 : Bool := av (x42.getD 3 .dead);
    let x47 : Bool := av (x42.getD 4 .dead);
    let x48 : Bool := av (x42.getD 5 .dead);
    let x49 : Int := aj (x42.getD 6 .dead);
    let x50 : LO := CF F i0 l0 l1 b0 b1 b2 i1 l2 (IntKind.u32.wrap (i2 + 4)) l3 l4 b3 b4 i3 x4 i4 i5 l6 l7 b5 b6 b7 i6 x7 x5 x6 x8 x9 x11 x12 x13;
    let x51 : LO := zM F i0 l0 l1 b0 b1 b2 i1 l2 (IntKind.u32.wrap (i2 + 4)) l3 l4 b3 b4 i3 x4 i4 i5 l6 l7 b5 b6 b7 i6 x7 x5 x6 x8 x9 x11 x12 x13;
    let x52 : Bool := x51.b.getD 0 false;
    let x53 : Int := x51.i.getD 0 0;
    let x54 : Bool := x51.k == 1;
    let x55 : LO := BU F i0 l0 l1 b0 b1 b2 i1 l2 (IntKind.u32.wrap (i2 + 4)) l3 l4 b3 b4 i3 x4 i4 i5 l6 l7 b5 b6 b7 i6 x7 x5 x6 x8 x9 x11 x12 x13;
    let x56 : Int := x55.i.getD 0 0;
    let x57 : List AV := au (aA F 34 [aG i5 l6 l7 b5 b6 b7 i6, dR 1 0 x56]);
    let x58 : List AV := x55.l.getD 0 [];
    let x59 : List AV := x55.l.getD 1 [];
    let x60 : Bool := x55.b.getD 0 false;
    let x61 : Bool := x55.b.getD 1 false;
    let x62 : Bool := x55.b.getD 2 false;
    let x63 : Int := x55.i.getD 1 0;
    let x64 : List AV := au (aA F 34 [aG i5 l6 l7 b5 b6 b7 i6, dR 2 (x3.i.getD 6 0) i5]);
    let x65 : List AV := au (aA F 34 [aG i5 l6 l7 b5 b6 b7 i6, dR 3 i5 i5]);
    .br (cond (aB Pg F 43 [aG i5 l6 l7 b5 b6 b7 i6, .int .u32 i4]) true false)
     (.br (av (x0.getD 1 .dead))
      (.br (aB Pg F 34 [aG i5 l6 l7 b5 b6 b7 i6, dR x1 0 i5])
       (.out ⟨1, [aj (x2.getD 0 .dead), aj (x2.getD 6 .dead), x1], [av (x2.getD 3 .dead), av (x2.getD 4 .dead), av (x2.getD 5 .dead)], [au (x2.getD 1 .dead), au (x2.getD 2 .dead)], [], [], []⟩)
       (.bad))
      (.br (x3.k == 1)
       (.br (aB Pg F 34 [aG i5 l6 l7 b5 b6 b7 i6, dR 3 i5 i5])
        (.out ⟨1, [aj (x65.getD 0 .dead), aj (x65.getD 6 .dead), 3], [av (x65.getD 3 .dead), av (x65.getD 4 .dead), av (x65.getD 5 .dead)], [au (x65.getD 1 .dead), au (x65.getD 2 .dead)], [], [], []⟩)
        (.bad))
       (.br (x3.k == 2)
        (.br (aB Pg F 34 [aG i5 l6 l7 b5 b6 b7 i6, dR 2 (x3.i.getD 6 0) i5])
         (.out ⟨3, [i2, i3, aj (x64.getD 0 .dead), aj (x64.getD 6 .dead), x7, 0, 0, 0, 0, 2, 0, 0, 0, 0, 0], [b3, false, b4, av (x64.getD 3 .dead), av (x64.getD 4 .dead), av (x64.getD 5 .dead), false, false], [l3, l4, x4, au (x64.getD 1 .dead), au (x64.getD 2 .dead), x5, x6], [], [], []⟩)
         (.bad))
        (.br (x3.k == 3)
         (.br (aB Pg F 46 [.int .i64 x8])
          (.br (x15 != 0)
           (.br (x16.k == 1)
            (.br (aB Pg F 34 [aG i5 l6 l7 b5 b6 b7 i6, dR 3 (x16.i.getD 0 0) i5])
             (.out ⟨3, [IntKind.u32.wrap (i2 + 4), i3, aj (x23.getD 0 .dead), aj (x23.getD 6 .dead), x7, 0, 0, 0, 0, 3, x8, x9, x11, x12, x13], [b3, false, b4, av (x23.getD 3 .dead), av (x23.getD 4 .dead), av (x23.getD 5 .dead), false, false], [l3, l4, x4, au (x23.getD 1 .dead), au (x23.getD 2 .dead), x5, x6], [], [], []⟩)
             (.bad))
            (.br (x16.k == 2)
             (.out ⟨4, [IntKind.u32.wrap (i2 + 4), IntKind.u32.wrap (i2 + 4), x7, x8, x9, x11, x12, x13], [], [x17, x18, x17, x19, x20], [], [], []⟩)
             (.br (x16.k == 3)
              (.out ⟨3, [IntKind.u32.wrap (i2 + 4), i3, IntKind.u32.wrap (i2 + 4), i3, x7, 0, 0, 0, 0, 0, x8, x9, x11, x12, x13], [b3, false, b4, b3, false, b4, false, false], [x17, l4, x18, x17, l4, x19, x20], [], [], []⟩)
              (.br (x16.k == 4)
               (.out ⟨2, [IntKind.u32.wrap (i2 + 4), IntKind.u32.wrap (i2 + 4), i3, x7, 0, x8, x9, x11, x12, x13], [b3, false, b4], [x17, l3, l4, x18, x19], [], [], []⟩)
               (.br (x16.k == 5)
                (.br (aB Pg F 34 [aG i5 l6 l7 b5 b6 b7 i6, dR x21 (x16.i.getD 3 0) i5])
                 (.out ⟨2, [IntKind.u32.wrap (i2 + 4), aj (x22.getD 0 .dead), aj (x22.getD 6 .dead), x7, x21, x8, x9, x11, x12, x13], [av (x22.getD 3 .dead), av (x22.getD 4 .dead), av (x22.getD 5 .dead)], [x17, au (x22.getD 1 .dead), au (x22.getD 2 .dead), x18, x19], [], [], []⟩)
                 (.bad))
                (.bad))))))
           (.br (x8 == 28)
            (.br x26
             (.out ⟨3, [x25, i3, x25, i3, x7, 0, 0, 0, 0, 0, x8, x9, x11, x12, x13], [b3, false, b4, b3, false, b4, false, false], [l3, l4, x4, l3, l4, x5, x6], [], [], []⟩)
             (.bad))
            (.br (x8 == 29)
             (.br x26
              (.out ⟨3, [x25, i3, x25, i3, x7, 0, 0, 0, 0, 0, x8, x9, x11, x12, x13], [b3, false, b4, b3, false, b4, false, false], [l3, l4, x4, l3, l4, x5, x6], [], [], []⟩)
              (.bad))
             (.br (x8 == 30)
              (.br x26
               (.out ⟨3, [x25, i3, x25, i3, x7, 0, 0, 0, 0, 0, x8, x9, x11, x12, x13], [b3, false, b4, b3, false, b4, false, false], [l3, l4, x4, l3, l4, x5, x6], [], [], []⟩)
               (.bad))
              (.br (x8 == 31)
               (.br x26
                (.out ⟨3, [x25, i3, x25, i3, x7, 0, 0, 0, 0, 0, x8, x9, x11, x12, x13], [b3, false, b4, b3, false, b4, false, false], [l3, l4, x4, l3, l4, x5, x6], [], [], []⟩)
                (.bad))
               (.br (x8 == 32)
                (.br x30
                 (.out ⟨3, [x28, i3, x28, i3, x7, 0, 0, 0, 0, 0, x8, x9, x11, x12, x13], [b3, false, b4, b3, false, b4, false, false], [x29, l4, x4, x29, l4, x5, x6], [], [], []⟩)
                 (.bad))
                (.br (x8 == 33)
                 (.br x30
                  (.out ⟨3, [x28, i3, x28, i3, x7, 0, 0, 0, 0, 0, x8, x9, x11, x12, x13], [b3, false, b4, b3, false, b4, false, false], [x29, l4, x4, x29, l4, x5, x6], [], [], []⟩)
                  (.bad))
                 (.br (x8 == 42)
                  (.br x40
                   (.br x41
                    (.out ⟨3, [x32, x38, x43, x49, x7, 0, 0, 0, 0, 2, x8, x9, x11, x12, x13], [x35, x36, x37, x46, x47, x48, false, false], [x33, x34, x4, x44, x45, x5, x6], [], [], []⟩)
                    (.bad))
                   (.br x39
                    (.out ⟨3, [x32, x38, x32, x38, x7, 0, 0, 0, 0, 0, x8, x9, x11, x12, x13], [x35, x36, x37, x35, x36, x37, false, false], [x33, x34, x4, x33, x34, x5, x6], [], [], []⟩)
                    (.bad)))
                  (.br (x8 == 43)
                   (.br x40
                    (.br x41
                     (.out ⟨3, [x32, x38, x43, x49, x7, 0, 0, 0, 0, 2, x8, x9, x11, x12, x13], [x35, x36, x37, x46, x47, x48, false, false], [x33, x34, x4, x44, x45, x5, x6], [], [], []⟩)
                     (.bad))
                    (.br x39
                     (.out ⟨3, [x32, x38, x32, x38, x7, 0, 0, 0, 0, 0, x8, x9, x11, x12, x13], [x35, x36, x37, x35, x36, x37, false, false], [x33, x34, x4, x33, x34, x5, x6], [], [], []⟩)
                     (.bad)))
                   (.br (x8 == 44)
                    (.br (x50.k == 1)
                     (.out ⟨3, [IntKind.u32.wrap (i2 + 4), i3, IntKind.u32.wrap (i2 + 4), i3, x7, 0, 0, x50.i.getD 0 0, x50.i.getD 1 0, 0, x8, x9, x11, x12, x13], [b3, false, b4, b3, false, b4, false, false], [l3, l4, x4, l3, l4, x5, x6], [], [], []⟩)
                     (.bad))
                    (.br (x8 == 46)
                     (.br x54
                      (.out ⟨3, [IntKind.u32.wrap (i2 + 4), i3, IntKind.u32.wrap (i2 + 4), i3, x7, x13, x53, 0, 0, 0, x8, x9, x11, x12, x13], [b3, false, b4, b3, false, b4, true, x52], [l3, l4, x4, l3, l4, x5, x6], [], [], []⟩)
                      (.bad))
                     (.br (x8 == 47)
                      (.br x54
                       (.out ⟨3, [IntKind.u32.wrap (i2 + 4), i3, IntKind.u32.wrap (i2 + 4), i3, x7, x13, x53, 0, 0, 0, x8, x9, x11, x12, x13], [b3, false, b4, b3, false, b4, true, x52], [l3, l4, x4, l3, l4, x5, x6], [], [], []⟩)
                       (.bad))
                      (.br (x55.k == 1)
                       (.out ⟨3, [x56, x63, x56, x63, x7, 0, 0, 0, 0, 0, x8, x9, x11, x12, x13], [x60, x61, x62, x60, x61, x62, false, false], [x58, x59, x4, x58, x59, x5, x6], [], [], []⟩)
                       (.br (x55.k == 2)
                        (.br (aB Pg F 34 [aG i5 l6 l7 b5 b6 b7 i6, dR 1 0 x56])
                         (.out ⟨3, [IntKind.u32.wrap (i2 + 4), i3, aj (x57.getD 0 .dead), aj (x57.getD 6 .dead), x7, 0, 0, 0, 0, 1, x8, x9, x11, x12, x13], [b3, false, b4, av (x57.getD 3 .dead), av (x57.getD 4 .dead), av (x57.getD 5 .dead), false, false], [l3, l4, x4, au (x57.getD 1 .dead), au (x57.getD 2 .dead), x5, x6], [], [], []⟩)
                         (.bad))
                        (.bad)))))))))))))))
          (.bad))
         (.br (x3.k == 4)
          (.br (aB Pg F 34 [aG i5 l6 l7 b5 b6 b7 i6, dR x9 i5 i5])
           (.out ⟨2, [i2, aj (x10.getD 0 .dead), aj (x10.getD 6 .dead), 0, x9, 0, 0, 0, 0, 0], [av (x10.getD 3 .dead), av (x10.getD 4 .dead), av (x10.getD 5 .dead)], [x4, au (x10.getD 1 .dead), au (x10.getD 2 .dead), x5, x6], [], [], []⟩)
           (.bad))
          (.bad))))))
     (.bad)
def rV (F : Tab) (i0 : Int) (l0 l1 : List AV) (b0 b1 b2 : Bool) (i1 : Int) (l2 : List AV) (i2 : Int) (l3 l4 : List AV) (b3 b4 : Bool) (i3 : Int) (l5 : List AV) (i4 i5 : Int) (l6 l7 : List AV) (b5 b6 b7 : Bool) (i6 : Int) : LO := (tZ F i0 l0 l1 b0 b1 b2 i1 l2 i2 l3 l4 b3 b4 i3 l5 i4 i5 l6 l7 b5 b6 b7 i6).eval fun _ => LO.bad
def aas (i0 : Int) (l0 l1 : List AV) (b0 b1 b2 : Bool) (i1 : Int) (l2 : List AV) (i2 : Int) (l3 l4 : List AV) (b3 b4 : Bool) (i3 : Int) (l5 : List AV) (i4 i5 : Int) (l6 l7 : List AV) (b5 b6 b7 : Bool) (i6 : Int) : Mm := ⟨[.var 26 (aG i0 l0 l1 b0 b1 b2 i1), .var 29 (aD l2), .var 38 (CG), .var 63 (.agg 62 [aG i2 l3 l4 b3 false b4 i3, aD l5, .int .u32 i4, .agg 37 [.bool true, cZ, aG i5 l6 l7 b5 b6 b7 i6, .int .u32 0, .slice 57 [] true, .slice 59 [] true, .bool false, aZ, .int .i64 0, .int .u32 0, .int .i64 0], nU])], []⟩
def PX (i0 : Int) (l0 l1 : List AV) (b0 b1 b2 : Bool) (i1 : Int) (l2 : List AV) (i2 : Int) (l3 l4 : List AV) (b3 b4 : Bool) (i3 : Int) (l5 : List AV) (i4 i5 : Int) (l6 l7 : List AV) (b5 b6 b7 : Bool) (i6 : Int) (lo : LO) : LT :=
 .br (lo.k == 1) (.done .ret (aU 1 [(0, .tuple [])] []) ⟨[.var 26 (aG i0 l0 l1 b0 b1 b2 i1), .var 29 (aD l2), .var 38 (CG), .var 63 (.agg 62 [aG i2 l3 l4 b3 false b4 i3, aD l5, .int .u32 i4, .agg 37 [.bool true, aG (lo.I 0) (lo.L 0) (lo.L 1) (lo.B 0) (lo.B 1) (lo.B 2) (lo.I 1), aG i5 l6 l7 b5 b6 b7 i6, .int .u32 0, .slice 57 [] true, .slice 59 [] true, .bool false, aZ, .int .i64 0, .int .u32 0, .int .i64 (lo.I 2)], nU])], []⟩) (.br (lo.k == 2) (.done .ret (aU 1 [(0, .tuple [])] []) ⟨[.var 26 (aG i0 l0 l1 b0 b1 b2 i1), .var 29 (aD l2), .var 38 (dx), .var 63 (.agg 62 [aG (lo.I 0) l3 l4 b3 false b4 i3, aD (lo.L 0), .int .u32 i4, lQ true (lo.I 1) (lo.L 1) (lo.L 2) (lo.B 0) (lo.B 1) (lo.B 2) (lo.I 2) i5 l6 l7 b5 b6 b7 i6 (lo.I 3) (lo.L 3) (lo.L 4) false aZ 0 0 (lo.I 4), bG (lo.I 5) (lo.I 6) (lo.I 7) (lo.I 8) (lo.I 9)])], [(2, [4]), (2, [5]), (3, [3, 4]), (3, [3, 5])]⟩) (.br (lo.k == 3) (.done .ret (aU 1 [(0, .tuple [])] []) ⟨[.var 26 (aG i0 l0 l1 b0 b1 b2 i1), .var 29 (aD l2), .var 38 (dx), .var 63 (.agg 62 [aG (lo.I 0) (lo.L 0) (lo.L 1) (lo.B 0) (lo.B 1) (lo.B 2) (lo.I 1), aD (lo.L 2), .int .u32 i4, cu true (lo.I 2) (lo.L 3) (lo.L 4) (lo.B 3) (lo.B 4) (lo.B 5) (lo.I 3) i5 l6 l7 b5 b6 b7 i6 (lo.I 4) (lo.L 5) (lo.L 6) (lo.B 6) (lo.B 7) (lo.I 5) (lo.I 6) (lo.I 7) (lo.I 8) (lo.I 9), bG (lo.I 10) (lo.I 11) (lo.I 12) (lo.I 13) (lo.I 14)])], [(3, [3, 5]), (2, [4]), (2, [5]), (3, [3, 4])]⟩) (.br (lo.k == 4) (.done .ret (aU 1 [(0, .tuple [])] []) ⟨[.var 26 (aG i0 l0 l1 b0 b1 b2 i1), .var 29 (aD l2), .var 38 (dx), .var 63 (.agg 62 [aG (lo.I 0) (lo.L 0) l4 b3 false b4 i3, aD (lo.L 1), .int .u32 i4, lQ true (lo.I 1) (lo.L 2) l4 b3 false b4 i3 i5 l6 l7 b5 b6 b7 i6 (lo.I 2) (lo.L 3) (lo.L 4) false aZ 0 0 0, bG (lo.I 3) (lo.I 4) (lo.I 5) (lo.I 6) (lo.I 7)])], [(3, [3, 4]), (3, [3, 5]), (2, [4]), (2, [5])]⟩) (.fail))))
def abG (i0 : Int) (l0 l1 : List AV) (b0 b1 b2 : Bool) (i1 : Int) (l2 : List AV) (i2 : Int) (l3 l4 : List AV) (b3 b4 : Bool) (i3 : Int) (l5 : List AV) (i4 i5 : Int) (l6 l7 : List AV) (b5 b6 b7 : Bool) (i6 : Int) : List AV := [.ptr 3 [] 63 0]
def Ck : ArP := ⟨[.ptr 3 [] 63 (some 0)], [.var 26 (eP), .var 29 (.agg 28 [.slice 139 false]), .var 38 (Ic), .var 63 (Ie)], []⟩
abbrev XW {α : Type} (f : Int -> List AV -> List AV -> Bool -> Bool -> Bool -> Int -> List AV -> Int -> List AV -> List AV -> Bool -> Bool -> Int -> List AV -> Int -> Int -> List AV -> List AV -> Bool -> Bool -> Bool -> Int -> α) (args : List AV) (M : Mm) : α := f (aj (pA (vR M 0) 0)) (au (pA (vR M 0) 1)) (au (pA (vR M 0) 2)) (av (pA (vR M 0) 3)) (av (pA (vR M 0) 4)) (av (pA (vR M 0) 5)) (aj (pA (vR M 0) 6)) (ay (pA (vR M 1) 0)) (aj (pA (pA (vR M 3) 0) 0)) (au (pA (pA (vR M 3) 0) 1)) (au (pA (pA (vR M 3) 0) 2)) (av (pA (pA (vR M 3) 0) 3)) (av (pA (pA (vR M 3) 0) 5)) (aj (pA (pA (vR M 3) 0) 6)) (ay (pA (pA (vR M 3) 1) 0)) (aj (pA (vR M 3) 2)) (aj (pA (pA (pA (vR M 3) 3) 2) 0)) (au (pA (pA (pA (vR M 3) 3) 2) 1)) (au (pA (pA (pA (vR M 3) 3) 2) 2)) (av (pA (pA (pA (vR M 3) 3) 2) 3)) (av (pA (pA (pA (vR M 3) 3) 2) 4)) (av (pA (pA (pA (vR M 3) 3) 2) 5)) (aj (pA (pA (pA (vR M 3) 3) 2) 6))
def MJ (F : Tab) (i0 : Int) (l0 l1 : List AV) (b0 b1 b2 : Bool) (i1 : Int) (l2 : List AV) (i2 : Int) (l3 l4 : List AV) (b3 b4 : Bool) (i3 : Int) (l5 : List AV) (i4 i5 : Int) (l6 l7 : List AV) (b5 b6 b7 : Bool) (i6 : Int) : LT := PX i0 l0 l1 b0 b1 b2 i1 l2 i2 l3 l4 b3 b4 i3 l5 i4 i5 l6 l7 b5 b6 b7 i6 (rV F i0 l0 l1 b0 b1 b2 i1 l2 i2 l3 l4 b3 b4 i3 l5 i4 i5 l6 l7 b5 b6 b7 i6)
def MF (F : Tab) (dep : Nat) (args : List AV) (M : Mm) : Option LT := if Nat.beq dep 4 && Ck.ok args M then some (XW (MJ F) args M) else none
def yH : ArP := ⟨[], [.var 26 (eP), .var 29 (.agg 28 [.slice 139 false]), .var 38 (iR), .var 63 (iU), .var 61 (.ptr 3 [] 63 (some 0))], [(3, [3, 5]), (2, [4]), (2, [5]), (3, [3, 4])]⟩
def Fu (dep : Nat) (args : List AV) (M : Mm) : Option (AV × List Row) :=
 if Nat.beq dep 4 && yH.ok args M then some (.mapv (some 5), [.map 3 111 [(.int .i64 28, .func (.func 75) [] []), (.int .i64 29, .func (.func 75) [] []), (.int .i64 30, .func (.func 75) [] []), (.int .i64 31, .func (.func 75) [] []), (.int .i64 32, .func (.func 76) [] []), (.int .i64 33, .func (.func 76) [] []), (.int .i64 42, .func (.func 77) [] []), (.int .i64 43, .func (.func 77) [] []), (.int .i64 44, .func (.func 78) [] []), (.int .i64 46, .func (.func 79) [] []), (.int .i64 47, .func (.func 79) [] [])]]) else none
def kn : List FuncId := [4, 6, 7, 8, 9, 10, 11, 12, 16, 17, 18, 19, 20, 22, 23, 24, 25, 26, 27, 28, 29, 30, 31, 32, 33, 34, 35, 36, 37, 39, 40, 41, 43, 46, 50, 51, 52, 53, 54, 55, 56, 57, 58, 59, 60, 61, 63, 64, 65, 68, 72, 80, 81, 82, 83, 84, 85, 86, 87, 88, 89, 90, 91, 92, 93, 94, 95, 96, 100, 101, 102, 103, 104, 105, 106, 107, 108, 110, 111, 112, 113, 114, 118, 119, 120, 121, 122, 123, 124, 125]
noncomputable def cx (F : Tab) : Ctx where
 P := Pg
 n := 100000
 muta := fun f => jf f [66, 69]
 spec := Bb Pg kn F
 kept := fun f id => match f, id with
  | 8, 4 => some ([2, 3, 5], [2, 3, 4])
  | 8, 9 => some ([2, 3, 6], [4])
  | 23, 3 => some ([1, 4, 5, 6], [4])
  | 25, 3 => some ([3, 6, 7, 8], [3, 6, 7])
  | 25, 7 => some ([3, 6, 7, 9], [3, 6, 7])
  | 27, 6 => some ([1, 3, 6, 8, 9], [6, 8])
  | 36, 4 => some ([2, 4, 6, 7, 16, 17, 18], [4, 5, 6])
  | 37, 3 => some ([1, 2, 4, 5, 6], [4, 5])
  | 40, 6 => some ([3, 4, 6, 7], [4, 6])
  | 43, 4 => some ([1, 12], [4, 5])
  | 71, 3 => some ([0, 1, 7, 8, 37, 38, 39], [0, 1, 7, 8])
  | 71, 8 => some ([0, 1, 7, 8, 48, 49, 50], [0, 1, 7, 8])
  | 93, 3 => some ([0, 1, 2, 7, 8], [7])
  | 94, 3 => some ([0, 3, 4], [3])
  | 99, 1 => some ([1, 2, 3], [])
  | _, _ => none
 ends := fun dep f id fr M => match f, id with
  | 8, 4 => MB F dep fr M
  | 8, 9 => Qd F dep fr M
  | 23, 3 => PY F dep fr M
  | 25, 3 => Kr F dep fr M
  | 25, 7 => KH F dep fr M
  | 27, 6 => Pp F dep fr M
  | 36, 4 => MQ F dep fr M
  | 37, 3 => OJ F dep fr M
  | 40, 6 => PD F dep fr M
  | 43, 4 => Nb F dep fr M
  | 71, 3 => Na F dep fr M
  | 71, 8 => LB F dep fr M
  | 93, 3 => OD F dep fr M
  | 94, 3 => LH F dep fr M
  | 99, 1 => I5 F dep fr M
  | _, _ => none
 acts := fun dep f args M => match f with
  | 21 => MF F dep args M
  | 45 => NW F dep args M
  | 47 => M7 F dep args M
  | 49 => M9 F dep args M
  | 70 => (match MC F dep args M with | some t => some t | none => Ol F dep args M)
  | 71 => (match Oo F dep args M with | some t => some t | none => Iy F dep args M)
  | 74 => (match Jr F dep args M with | some t => some t | none => (match JM F dep args M with | some t => some t | none => Lb F dep args M))
  | 75 => Ny F dep args M
  | 76 => KO F dep args M
  | 77 => OP F dep args M
  | 78 => KP F dep args M
  | 79 => NP F dep args M
  | _ => none
 news := fun dep f args M => match f with
  | 48 => Fu dep args M
  | _ => none
 newf := fun f => jf f [48]
 pln := fun t => jf t [27]
 actf := fun f => jf f [71]
end
end Go.Proofs.YtcknhfnbdgleiaaGreat
