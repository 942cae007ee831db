/- What the loops come to, as functions of their own; the context. (Printed by a program of mine, gen.py.) -/
import Derived.Test.YtcknhfnbdgleiaaGreatEvD
import Derived.Test.YtcknhfnbdgleiaaGreatRows
set_option linter.unusedVariables false
set_option linter.unusedSimpArgs false
namespace Go.Proofs.YtcknhfnbdgleiaaGreat
open Go.AE
noncomputable section
abbrev Pg : Program := Tryz.checked.prog
abbrev aB (x0 : List AV) : AV := .agg 28 [.slice 139 x0 false]
abbrev dR (x0 : Bool) (x1 : Int) (x2 x3 : List AV) (x4 x5 x6 : Bool) (x7 x8 : Int) (x9 x10 : List AV) (x11 x12 x13 : Bool) (x14 x15 : Int) (x16 x17 : List AV) (x18 x19 : Bool) (x20 x21 x22 x23 x24 : Int) : AV := .agg 37 [.bool x0, .agg 25 [.int .u32 x1, .agg 23 x2, .agg 24 x3, .bool x4, .bool x5, .bool x6, .int .i64 x7], .agg 25 [.int .u32 x8, .agg 23 x9, .agg 24 x10, .bool x11, .bool x12, .bool x13, .int .i64 x14], .int .u32 x15, .slice 57 x16 false, .slice 59 x17 false, .bool x18, .agg 35 [.bool x19, .int .i64 x20, .int .u32 x21], .int .i64 x22, .int .u32 x23, .int .i64 x24]
abbrev mV (x0 x1 : Int) (x2 : Bool) : AV := .agg 58 [.int .i64 x0, .int .i64 x1, .bool x2]
abbrev aG (x0 : Int) (x1 x2 : List AV) (x3 x4 x5 : Bool) (x6 : Int) : AV := .agg 25 [.int .u32 x0, .agg 23 x1, .agg 24 x2, .bool x3, .bool x4, .bool x5, .int .i64 x6]
abbrev dU (x0 : Int) (x1 x2 : List AV) (x3 x4 x5 : Bool) (x6 : Int) (x7 : List AV) (x8 : Int) (x9 : Bool) (x10 : AV) (x11 : Int) (x12 x13 : List AV) (x14 x15 x16 : Bool) (x17 x18 : Int) (x19 x20 : List AV) (x21 : Bool) (x22 : AV) (x23 x24 x25 x26 x27 x28 x29 x30 : Int) : AV := .agg 62 [.agg 25 [.int .u32 x0, .agg 23 x1, .agg 24 x2, .bool x3, .bool x4, .bool x5, .int .i64 x6], .agg 28 [.slice 139 x7 false], .int .u32 x8, .agg 37 [.bool x9, x10, .agg 25 [.int .u32 x11, .agg 23 x12, .agg 24 x13, .bool x14, .bool x15, .bool x16, .int .i64 x17], .int .u32 x18, .slice 57 x19 false, .slice 59 x20 false, .bool x21, x22, .int .i64 x23, .int .u32 x24, .int .i64 x25], .agg 54 [.int .i64 x26, .int .i64 x27, .int .i64 x28, .int .i64 x29, .int .i64 x30]]
abbrev aW (x0 x1 : Int) (x2 x3 : List AV) : AV := .agg 117 [.int .i64 x0, .int .i64 x1, .slice 57 x2 false, .slice 3 x3 false]
abbrev bq (x0 x1 x2 : Int) : AV := .agg 56 [.int .i64 x0, .int .i64 x1, .int .u32 x2]
abbrev yO (x0 : Int) (x1 x2 : List AV) (x3 x4 x5 : Bool) (x6 : Int) (x7 : List AV) (x8 : Int) : AV := .agg 45 [.agg 25 [.int .u32 x0, .agg 23 x1, .agg 24 x2, .bool x3, .bool x4, .bool x5, .int .i64 x6], .agg 28 [.slice 139 x7 false], .int .i64 x8]
abbrev aO (x0 : Bool) (x1 : Int) (x2 x3 : List AV) (x4 x5 x6 : Bool) (x7 x8 : Int) (x9 x10 : List AV) (x11 x12 x13 : Bool) (x14 x15 : Int) (x16 x17 : List AV) (x18 x19 : Bool) (x20 x21 x22 x23 x24 : Int) (x25 : List AV) : AV := .agg 64 [.agg 37 [.bool x0, .agg 25 [.int .u32 x1, .agg 23 x2, .agg 24 x3, .bool x4, .bool x5, .bool x6, .int .i64 x7], .agg 25 [.int .u32 x8, .agg 23 x9, .agg 24 x10, .bool x11, .bool x12, .bool x13, .int .i64 x14], .int .u32 x15, .slice 57 x16 false, .slice 59 x17 false, .bool x18, .agg 35 [.bool x19, .int .i64 x20, .int .u32 x21], .int .i64 x22, .int .u32 x23, .int .i64 x24], .agg 28 [.slice 139 x25 false]]
abbrev mD (x0 x1 : Int) (x2 x3 : List AV) (x4 : Int) : AV := .agg 119 [.agg 117 [.int .i64 x0, .int .i64 x1, .slice 57 x2 false, .slice 3 x3 false], .int .i64 x4]
abbrev pG (x0 : List AV) (x1 : Bool) : AV := .agg 94 [.agg 28 [.slice 139 x0 false], .bool x1]
abbrev dV (x0 x1 x2 : Int) : AV := .agg 88 [.int .i64 x0, .int .u32 x1, .int .u32 x2]
abbrev D8 (x0 : Int) (x1 x2 : List AV) (x3 x4 x5 : Bool) (x6 : Int) (x7 : List AV) (x8 : Int) (x9 : Bool) (x10 : AV) (x11 : Int) (x12 x13 : List AV) (x14 x15 x16 : Bool) (x17 x18 : Int) (x19 x20 : List AV) (x21 : Bool) (x22 : AV) (x23 x24 x25 : Int) (x26 : AV) : AV := .agg 62 [.agg 25 [.int .u32 x0, .agg 23 x1, .agg 24 x2, .bool x3, .bool x4, .bool x5, .int .i64 x6], .agg 28 [.slice 139 x7 false], .int .u32 x8, .agg 37 [.bool x9, x10, .agg 25 [.int .u32 x11, .agg 23 x12, .agg 24 x13, .bool x14, .bool x15, .bool x16, .int .i64 x17], .int .u32 x18, .slice 57 x19 false, .slice 59 x20 false, .bool x21, x22, .int .i64 x23, .int .u32 x24, .int .i64 x25], x26]
abbrev bI (x0 x1 x2 x3 x4 : Int) : AV := .agg 54 [.int .i64 x0, .int .i64 x1, .int .i64 x2, .int .i64 x3, .int .i64 x4]
abbrev EA (x0 : Bool) (x1 x2 : Int) : AV := .agg 35 [.bool x0, .int .i64 x1, .int .u32 x2]
abbrev lM (x0 : Bool) (x1 : Int) (x2 x3 : List AV) (x4 x5 x6 : Bool) (x7 x8 : Int) (x9 x10 : List AV) (x11 x12 x13 : Bool) (x14 x15 : Int) (x16 x17 : List AV) (x18 : Bool) (x19 : AV) (x20 x21 x22 : Int) : AV := .agg 37 [.bool x0, .agg 25 [.int .u32 x1, .agg 23 x2, .agg 24 x3, .bool x4, .bool x5, .bool x6, .int .i64 x7], .agg 25 [.int .u32 x8, .agg 23 x9, .agg 24 x10, .bool x11, .bool x12, .bool x13, .int .i64 x14], .int .u32 x15, .slice 57 x16 false, .slice 59 x17 false, .bool x18, x19, .int .i64 x20, .int .u32 x21, .int .i64 x22]
abbrev yD (x0 : Bool) (x1 : Int) (x2 x3 : List AV) (x4 x5 x6 : Bool) (x7 : Int) (x8 : AV) (x9 : Int) (x10 x11 : List AV) (x12 : Bool) (x13 : AV) (x14 x15 x16 : Int) : AV := .agg 37 [.bool x0, .agg 25 [.int .u32 x1, .agg 23 x2, .agg 24 x3, .bool x4, .bool x5, .bool x6, .int .i64 x7], x8, .int .u32 x9, .slice 57 x10 false, .slice 59 x11 false, .bool x12, x13, .int .i64 x14, .int .u32 x15, .int .i64 x16]
abbrev vD (x0 : Bool) (x1 : AV) (x2 : Int) (x3 x4 : List AV) (x5 x6 x7 : Bool) (x8 x9 : Int) (x10 x11 : List AV) (x12 : Bool) (x13 : AV) (x14 x15 x16 : Int) (x17 : List AV) : AV := .agg 64 [.agg 37 [.bool x0, x1, .agg 25 [.int .u32 x2, .agg 23 x3, .agg 24 x4, .bool x5, .bool x6, .bool x7, .int .i64 x8], .int .u32 x9, .slice 57 x10 false, .slice 59 x11 false, .bool x12, x13, .int .i64 x14, .int .u32 x15, .int .i64 x16], .agg 28 [.slice 139 x17 false]]
abbrev jB (x0 x1 : Int) : AV := .agg 132 [.int .u32 x0, .int .i64 x1]
abbrev qy (x0 x1 : Int) (x2 x3 x4 : Bool) : AV := .agg 184 [.int .i64 x0, .int .i64 x1, .bool x2, .bool x3, .bool x4]
abbrev Bv (x0 x1 x2 : Int) (x3 : List AV) (x4 : Bool) : AV := .agg 153 [.int .i64 x0, .int .i64 x1, .int .i64 x2, .slice 3 x3 false, .bool x4]
abbrev xM (x0 : AV) (x1 x2 : List AV) (x3 x4 x5 : Bool) (x6 : Int) : AV := .agg 25 [x0, .agg 23 x1, .agg 24 x2, .bool x3, .bool x4, .bool x5, .int .i64 x6]
abbrev zz3 : List AV := [.int .u32 0, .int .u32 0, .int .u32 0, .int .u32 0, .int .u32 0, .int .u32 0, .int .u32 0, .int .u32 0, .int .u32 0, .int .u32 0, .int .u32 0, .int .u32 0, .int .u32 0, .int .u32 0, .int .u32 0, .int .u32 0]
abbrev zz2 : AV := .agg 23 zz3
abbrev zz5 : List AV := [.int .u32 0, .int .u32 0, .int .u32 0, .int .u32 0, .int .u32 0, .int .u32 0, .int .u32 0, .int .u32 0, .int .u32 0]
abbrev zz4 : AV := .agg 24 zz5
abbrev zz6 : List AV := [.int .u32 0, zz2, zz4, .bool false, .bool false, .bool false, .int .i64 0]
abbrev fU : AV := .agg 25 zz6
abbrev aZ : AV := EA false 0 0
abbrev zz8 : List AV := [.bool false, fU, fU, .int .u32 0, .slice 57 [] false, .slice 59 [] false, .bool false, aZ, .int .i64 0, .int .u32 0, .int .i64 0]
abbrev zP : AV := .agg 37 zz8
abbrev aeC : List Pt := [.intC .u32 0, .intC .u32 0, .intC .u32 0, .intC .u32 0, .intC .u32 0, .intC .u32 0, .intC .u32 0, .intC .u32 0, .intC .u32 0, .intC .u32 0, .intC .u32 0, .intC .u32 0, .intC .u32 0, .intC .u32 0, .intC .u32 0, .intC .u32 0]
abbrev Xd : Pt := .agg 23 aeC
abbrev acd : List Pt := [.intC .u32 0, .intC .u32 0, .intC .u32 0, .intC .u32 0, .intC .u32 0, .intC .u32 0, .intC .u32 0, .intC .u32 0, .intC .u32 0]
abbrev adA : Pt := .agg 24 acd
abbrev ac6 : List Pt := [.intC .u32 0, Xd, adA, .boolC false, .boolC false, .boolC false, .intC .i64 0]
abbrev oN : Pt := .agg 25 ac6
abbrev ac4 : List Pt := [.boolC false, .intC .i64 0, .intC .u32 0]
abbrev Ei : Pt := .agg 35 ac4
abbrev SF : List Pt := [.boolC false, oN, oN, .intC .u32 0, .sliceL 57 [] false, .sliceL 59 [] false, .boolC false, Ei, .intC .i64 0, .intC .u32 0, .intC .i64 0]
abbrev zz9 : Pt := .agg 37 SF
abbrev ZT : List Pt := [.int .u32, .aggO 23, .aggO 24, .bool, .boolC false, .bool, .int .i64]
abbrev QB : Pt := .agg 25 ZT
abbrev Tp : List Pt := [.int .u32, .aggO 23, .aggO 24, .bool, .bool, .bool, .int .i64]
abbrev d9 : Pt := .agg 25 Tp
abbrev xI : Pt := .agg 37 [.bool, d9, d9, .int .u32, .slice 57 false, .slice 59 false, .bool, .agg 35 [.bool, .int .i64, .int .u32], .int .i64, .int .u32, .int .i64]
abbrev Sd : List Pt := [xI, .agg 28 [.slice 139 false]]
abbrev RB : Pt := .agg 64 Sd
abbrev abG : List AV := [aB [], .bool false]
abbrev Ah : AV := .agg 94 abG
abbrev U5 : List AV := [.int .i64 0, .int .i64 0, .int .i64 0, .int .i64 0, .int .i64 0]
abbrev oI : AV := .agg 54 U5
abbrev Ze : List AV := [.int .i64 16, .int .i64 1, .int .i64 0, .int .i64 0, .int .i64 5]
abbrev Ut : AV := .agg 54 Ze
abbrev Dr : List AV := [Ut]
abbrev aay : List AV := [.int .i64 21, .int .i64 2, .int .i64 0, .int .i64 0, .int .i64 8]
abbrev WG : AV := .agg 54 aay
abbrev zN : List AV := [WG]
abbrev Xm : List AV := [.int .i64 20, .int .i64 1, .int .i64 0, .int .i64 0, .int .i64 130]
abbrev Td : AV := .agg 54 Xm
abbrev z8 : List AV := [Td]
abbrev XQ : List AV := [.int .i64 20, .int .i64 1, .int .i64 0, .int .i64 0, .int .i64 128]
abbrev Yl : AV := .agg 54 XQ
abbrev Ee : List AV := [Yl]
abbrev X6 : List AV := [.int .u8 0, .int .u8 0, .int .u8 0, .int .u8 0, .int .u8 0, .int .u8 0, .int .u8 0, .int .u8 0, .int .u8 0, .int .u8 0, .int .u8 0, .int .u8 0, .int .u8 0, .int .u8 0, .int .u8 0, .int .u8 0, .int .u8 0, .int .u8 0, .int .u8 0, .int .u8 0, .int .u8 0, .int .u8 0, .int .u8 0, .int .u8 0, .int .u8 0, .int .u8 0, .int .u8 0, .int .u8 0, .int .u8 0, .int .u8 0, .int .u8 0, .int .u8 0, .int .u8 0, .int .u8 0, .int .u8 0, .int .u8 0, .int .u8 0, .int .u8 0, .int .u8 0, .int .u8 0, .int .u8 0, .int .u8 0, .int .u8 0, .int .u8 0, .int .u8 0, .int .u8 0, .int .u8 0, .int .u8 0, .int .u8 0, .int .u8 0, .int .u8 0, .int .u8 0, .int .u8 0, .int .u8 0, .int .u8 0, .int .u8 0, .int .u8 0, .int .u8 0, .int .u8 0, .int .u8 0, .int .u8 0, .int .u8 0, .int .u8 0, .int .u8 0, .int .u8 0, .int .u8 0, .int .u8 0, .int .u8 0, .int .u8 0, .int .u8 0, .int .u8 0, .int .u8 0, .int .u8 0, .int .u8 0, .int .u8 0, .int .u8 0, .int .u8 0, .int .u8 0, .int .u8 0, .int .u8 0, .int .u8 0, .int .u8 0, .int .u8 0, .int .u8 0, .int .u8 0, .int .u8 0, .int .u8 0, .int .u8 0, .int .u8 0, .int .u8 0, .int .u8 0, .int .u8 0, .int .u8 0, .int .u8 0, .int .u8 0, .int .u8 0, .int .u8 0, .int .u8 0, .int .u8 0, .int .u8 0, .int .u8 0, .int .u8 0, .int .u8 0, .int .u8 0, .int .u8 0, .int .u8 0, .int .u8 0, .int .u8 0, .int .u8 0, .int .u8 0, .int .u8 0, .int .u8 0, .int .u8 0, .int .u8 0, .int .u8 0, .int .u8 0, .int .u8 0, .int .u8 0, .int .u8 0, .int .u8 0, .int .u8 0, .int .u8 0, .int .u8 0, .int .u8 0, .int .u8 0, .int .u8 0, .int .u8 0, .int .u8 0]
abbrev abp : AV := .agg 138 X6
abbrev Vh : List AV := [abp]
abbrev Xv : List AV := [.slice 139 Vh false]
abbrev uy : AV := .agg 28 Xv
abbrev acV : List AV := [.int .i64 40, .int .i64 0, .int .i64 0, .int .i64 0, .int .i64 0]
abbrev adX : AV := .agg 54 acV
abbrev Cv : List AV := [adX]
abbrev aah : List AV := [.int .i64 46, .int .i64 1, .int .i64 0, .int .i64 0, .int .i64 33]
abbrev Y2 : AV := .agg 54 aah
abbrev Ct : List AV := [Y2]
abbrev Av : List AV := [oI, .bool false]
abbrev G9 : AV := .agg 77 Av
abbrev aex : List AV := [.int .i64 0, .int .i64 0, .slice 57 [] false, .slice 3 [] false]
abbrev xJ : AV := .agg 117 aex
abbrev Qw : List AV := [.int .i64 0, .int .i64 5, .int .i64 6, .int .i64 6, .int .i64 4]
abbrev T0 := Int × List AV × List AV × List AV
abbrev T1 := Int × Int × List AV × List AV × Bool × Bool × Bool × Int × List AV
abbrev T2 := Int × List AV × List AV × Bool × Bool × Bool × Int × List AV × Int
abbrev T3 := Int × Bool × Int × List AV × List AV × Bool × Bool × Bool × Int × Int × List AV × List AV × Bool × Bool × Bool × Int × Int × List AV × List AV × Bool × Bool × Int × Int × Int × Int × Int × List AV
abbrev T4 := Int × List AV × List AV
abbrev T5 := Int × List AV × Bool
def dD : AV := zP
def cO : AV := fU
def iF : Pt := zz9
def jf : Pt := .agg 62 [QB, .agg 28 [.slice 139 false], .int .u32, .agg 37 [.boolC true, oN, d9, .int .u32, .slice 57 false, .slice 59 false, .boolC false, Ei, .intC .i64 0, .intC .u32 0, .intC .i64 0], .agg 54 [.int .i64, .int .i64, .int .i64, .int .i64, .int .i64]]
def kp4 : Pt := oN
def kv5 : AV := .agg 45 [fU, aB [], .int .i64 0]
def kp6 : Pt := .agg 45 [oN, .agg 28 [.sliceL 139 [] false], .intC .i64 0]
def Ea : AV := .agg 70 [.agg 64 [zP, aB []], .int .i64 0, .int .i64 0]
def kp8 : Pt := .agg 70 [.agg 64 [zz9, .agg 28 [.sliceL 139 [] false]], .intC .i64 0, .intC .i64 0]
def Eb : AV := .agg 37 [.bool false, fU, fU, .int .u32 0, .slice 57 [] true, .slice 59 [] true, .bool false, aZ, .int .i64 0, .int .u32 0, .int .i64 0]
def EP : Pt := .agg 37 [.boolC false, oN, oN, .intC .u32 0, .sliceL 57 [] true, .sliceL 59 [] true, .boolC false, Ei, .intC .i64 0, .intC .u32 0, .intC .i64 0]
def F6 : Pt := .agg 62 [QB, .agg 28 [.slice 139 false], .int .u32, .agg 37 [.boolC true, oN, d9, .intC .u32 0, .sliceL 57 [] true, .sliceL 59 [] true, .boolC false, Ei, .intC .i64 0, .intC .u32 0, .intC .i64 0], .agg 54 [.intC .i64 0, .intC .i64 0, .intC .i64 0, .intC .i64 0, .intC .i64 0]]
def kE : Row := .map 3 111 [(.int .i64 28, .func (.func 75) [] []), (.int .i64 29, .func (.func 75) [] []), (.int .i64 30, .func (.func 75) [] []), (.int .i64 31, .func (.func 75) [] []), (.int .i64 32, .func (.func 76) [] []), (.int .i64 33, .func (.func 76) [] []), (.int .i64 42, .func (.func 77) [] []), (.int .i64 43, .func (.func 77) [] []), (.int .i64 44, .func (.func 78) [] []), (.int .i64 46, .func (.func 79) [] []), (.int .i64 47, .func (.func 79) [] [])]
def vM : RPt := .map 3 111 [(.intC .i64 28, .func 75 [] []), (.intC .i64 29, .func 75 [] []), (.intC .i64 30, .func 75 [] []), (.intC .i64 31, .func 75 [] []), (.intC .i64 32, .func 76 [] []), (.intC .i64 33, .func 76 [] []), (.intC .i64 42, .func 77 [] []), (.intC .i64 43, .func 77 [] []), (.intC .i64 44, .func 78 [] []), (.intC .i64 46, .func 79 [] []), (.intC .i64 47, .func 79 [] [])]
def XI (F : Tab) (b0 : Bool) (i1 : Int) (l0 l1 : List AV) (b1 b2 b3 : Bool) (i2 i3 : Int) (l2 l3 : List AV) (b4 b5 b6 : Bool) (i4 i5 : Int) (l4 l5 : List AV) (b7 b8 : Bool) (i6 i7 i8 i9 i10 : Int) (b9 : Bool) (i11 : Int) (l6 l7 : List AV) (b10 b11 b12 : Bool) (i12 i13 : Int) (l8 l9 : List AV) (b13 b14 b15 : Bool) (i14 i15 : Int) (l10 l11 : List AV) (b16 b17 : Bool) (i16 i17 i18 i19 i20 : Int) (i0 : Int) : Tr (Int) :=
    .br (decide (i0 < ((l4.length : Nat) : Int)))
     (.br (cond (aN i0 l4.length) (cond (aN i0 l10.length) true false) false)
      (.br (!(((aj ((au (l4.getD i0.toNat .dead)).getD 0 .dead)) == (aj ((au (l10.getD i0.toNat .dead)).getD 0 .dead))) && (((aj ((au (l4.getD i0.toNat .dead)).getD 1 .dead)) == (aj ((au (l10.getD i0.toNat .dead)).getD 1 .dead))) && (((aj ((au (l4.getD i0.toNat .dead)).getD 2 .dead)) == (aj ((au (l10.getD i0.toNat .dead)).getD 2 .dead))) && true))))
       (.out ⟨1, [], [], [], [], [], []⟩)
       (.next (IntKind.i64.wrap (i0 + 1))))
      (.bad))
     (.out ⟨2, [], [], [], [], [], []⟩)
def Ov (F : Tab) (b0 : Bool) (i1 : Int) (l0 l1 : List AV) (b1 b2 b3 : Bool) (i2 i3 : Int) (l2 l3 : List AV) (b4 b5 b6 : Bool) (i4 i5 : Int) (l4 l5 : List AV) (b7 b8 : Bool) (i6 i7 i8 i9 i10 : Int) (b9 : Bool) (i11 : Int) (l6 l7 : List AV) (b10 b11 b12 : Bool) (i12 i13 : Int) (l8 l9 : List AV) (b13 b14 b15 : Bool) (i14 i15 : Int) (l10 l11 : List AV) (b16 b17 : Bool) (i16 i17 i18 i19 i20 : Int) (s : Int) : Tr (Int) := XI F b0 i1 l0 l1 b1 b2 b3 i2 i3 l2 l3 b4 b5 b6 i4 i5 l4 l5 b7 b8 i6 i7 i8 i9 i10 b9 i11 l6 l7 b10 b11 b12 i12 i13 l8 l9 b13 b14 b15 i14 i15 l10 l11 b16 b17 i16 i17 i18 i19 i20 s
def Yz (b0 : Bool) (i1 : Int) (l0 l1 : List AV) (b1 b2 b3 : Bool) (i2 i3 : Int) (l2 l3 : List AV) (b4 b5 b6 : Bool) (i4 i5 : Int) (l4 l5 : List AV) (b7 b8 : Bool) (i6 i7 i8 i9 i10 : Int) (b9 : Bool) (i11 : Int) (l6 l7 : List AV) (b10 b11 b12 : Bool) (i12 i13 : Int) (l8 l9 : List AV) (b13 b14 b15 : Bool) (i14 i15 : Int) (l10 l11 : List AV) (b16 b17 : Bool) (i16 i17 i18 i19 i20 : Int) : Int -> Fr := fun i0 => (aT 122 [(2, .ptr 0 [] 38 0), (3, .ptr 1 [] 38 0), (5, .int .i64 i0)] [])
def adu (b0 : Bool) (i1 : Int) (l0 l1 : List AV) (b1 b2 b3 : Bool) (i2 i3 : Int) (l2 l3 : List AV) (b4 b5 b6 : Bool) (i4 i5 : Int) (l4 l5 : List AV) (b7 b8 : Bool) (i6 i7 i8 i9 i10 : Int) (b9 : Bool) (i11 : Int) (l6 l7 : List AV) (b10 b11 b12 : Bool) (i12 i13 : Int) (l8 l9 : List AV) (b13 b14 b15 : Bool) (i14 i15 : Int) (l10 l11 : List AV) (b16 b17 : Bool) (i16 i17 i18 i19 i20 : Int) : Int -> Mm := fun i0 => ⟨[.var 38 (dR b0 i1 l0 l1 b1 b2 b3 i2 i3 l2 l3 b4 b5 b6 i4 i5 l4 l5 b7 b8 i6 i7 i8 i9 i10), .var 38 (dR b9 i11 l6 l7 b10 b11 b12 i12 i13 l8 l9 b13 b14 b15 i14 i15 l10 l11 b16 b17 i16 i17 i18 i19 i20)], []⟩
def OA (b0 : Bool) (i1 : Int) (l0 l1 : List AV) (b1 b2 b3 : Bool) (i2 i3 : Int) (l2 l3 : List AV) (b4 b5 b6 : Bool) (i4 i5 : Int) (l4 l5 : List AV) (b7 b8 : Bool) (i6 i7 i8 i9 i10 : Int) (b9 : Bool) (i11 : Int) (l6 l7 : List AV) (b10 b11 b12 : Bool) (i12 i13 : Int) (l8 l9 : List AV) (b13 b14 b15 : Bool) (i14 i15 : Int) (l10 l11 : List AV) (b16 b17 : Bool) (i16 i17 i18 i19 i20 : Int) (lo : LO) : LT :=
 .br (lo.k == 1) (.done .ret (aT 122 [(2, .ptr 0 [] 38 0), (3, .ptr 1 [] 38 0), (4, .bool false)] []) ⟨[.var 38 (dR b0 i1 l0 l1 b1 b2 b3 i2 i3 l2 l3 b4 b5 b6 i4 i5 l4 l5 b7 b8 i6 i7 i8 i9 i10), .var 38 (dR b9 i11 l6 l7 b10 b11 b12 i12 i13 l8 l9 b13 b14 b15 i14 i15 l10 l11 b16 b17 i16 i17 i18 i19 i20)], []⟩) (.br (lo.k == 2) (.done (.exit 0) (aT 122 [(2, .ptr 0 [] 38 0), (3, .ptr 1 [] 38 0)] []) ⟨[.var 38 (dR b0 i1 l0 l1 b1 b2 b3 i2 i3 l2 l3 b4 b5 b6 i4 i5 l4 l5 b7 b8 i6 i7 i8 i9 i10), .var 38 (dR b9 i11 l6 l7 b10 b11 b12 i12 i13 l8 l9 b13 b14 b15 i14 i15 l10 l11 b16 b17 i16 i17 i18 i19 i20)], []⟩) (.fail))
def Di : StP := ⟨122, [(2, .ptr 0 [] 38 (some 0)), (3, .ptr 1 [] 38 (some 0)), (5, .int .i64)], [], [.var 38 (xI), .var 38 (xI)], []⟩
abbrev SC {α : Type} (f : Bool -> Int -> List AV -> List AV -> Bool -> Bool -> Bool -> Int -> Int -> List AV -> List AV -> Bool -> Bool -> Bool -> Int -> Int -> List AV -> List AV -> Bool -> Bool -> Int -> Int -> Int -> Int -> Int -> Bool -> Int -> List AV -> List AV -> Bool -> Bool -> Bool -> Int -> Int -> List AV -> List AV -> Bool -> Bool -> Bool -> Int -> Int -> List AV -> List AV -> Bool -> Bool -> Int -> Int -> Int -> Int -> Int -> Int -> α) (fr : Fr) (M : Mm) : α := f (av (pA (vR M 0) 0)) (aj (pA (pA (vR M 0) 1) 0)) (au (pA (pA (vR M 0) 1) 1)) (au (pA (pA (vR M 0) 1) 2)) (av (pA (pA (vR M 0) 1) 3)) (av (pA (pA (vR M 0) 1) 4)) (av (pA (pA (vR M 0) 1) 5)) (aj (pA (pA (vR M 0) 1) 6)) (aj (pA (pA (vR M 0) 2) 0)) (au (pA (pA (vR M 0) 2) 1)) (au (pA (pA (vR M 0) 2) 2)) (av (pA (pA (vR M 0) 2) 3)) (av (pA (pA (vR M 0) 2) 4)) (av (pA (pA (vR M 0) 2) 5)) (aj (pA (pA (vR M 0) 2) 6)) (aj (pA (vR M 0) 3)) (ay (pA (vR M 0) 4)) (ay (pA (vR M 0) 5)) (av (pA (vR M 0) 6)) (av (pA (pA (vR M 0) 7) 0)) (aj (pA (pA (vR M 0) 7) 1)) (aj (pA (pA (vR M 0) 7) 2)) (aj (pA (vR M 0) 8)) (aj (pA (vR M 0) 9)) (aj (pA (vR M 0) 10)) (av (pA (vR M 1) 0)) (aj (pA (pA (vR M 1) 1) 0)) (au (pA (pA (vR M 1) 1) 1)) (au (pA (pA (vR M 1) 1) 2)) (av (pA (pA (vR M 1) 1) 3)) (av (pA (pA (vR M 1) 1) 4)) (av (pA (pA (vR M 1) 1) 5)) (aj (pA (pA (vR M 1) 1) 6)) (aj (pA (pA (vR M 1) 2) 0)) (au (pA (pA (vR M 1) 2) 1)) (au (pA (pA (vR M 1) 2) 2)) (av (pA (pA (vR M 1) 2) 3)) (av (pA (pA (vR M 1) 2) 4)) (av (pA (pA (vR M 1) 2) 5)) (aj (pA (pA (vR M 1) 2) 6)) (aj (pA (vR M 1) 3)) (ay (pA (vR M 1) 4)) (ay (pA (vR M 1) 5)) (av (pA (vR M 1) 6)) (av (pA (pA (vR M 1) 7) 0)) (aj (pA (pA (vR M 1) 7) 1)) (aj (pA (pA (vR M 1) 7) 2)) (aj (pA (vR M 1) 8)) (aj (pA (vR M 1) 9)) (aj (pA (vR M 1) 10)) ((aj (tA fr 5)))
def Na (F : Tab) (b0 : Bool) (i1 : Int) (l0 l1 : List AV) (b1 b2 b3 : Bool) (i2 i3 : Int) (l2 l3 : List AV) (b4 b5 b6 : Bool) (i4 i5 : Int) (l4 l5 : List AV) (b7 b8 : Bool) (i6 i7 i8 i9 i10 : Int) (b9 : Bool) (i11 : Int) (l6 l7 : List AV) (b10 b11 b12 : Bool) (i12 i13 : Int) (l8 l9 : List AV) (b13 b14 b15 : Bool) (i14 i15 : Int) (l10 l11 : List AV) (b16 b17 : Bool) (i16 i17 i18 i19 i20 : Int) (s : Int) : LT := OA b0 i1 l0 l1 b1 b2 b3 i2 i3 l2 l3 b4 b5 b6 i4 i5 l4 l5 b7 b8 i6 i7 i8 i9 i10 b9 i11 l6 l7 b10 b11 b12 i12 i13 l8 l9 b13 b14 b15 i14 i15 l10 l11 b16 b17 i16 i17 i18 i19 i20 (Tr.run (Ov F b0 i1 l0 l1 b1 b2 b3 i2 i3 l2 l3 b4 b5 b6 i4 i5 l4 l5 b7 b8 i6 i7 i8 i9 i10 b9 i11 l6 l7 b10 b11 b12 i12 i13 l8 l9 b13 b14 b15 i14 i15 l10 l11 b16 b17 i16 i17 i18 i19 i20) 100000 s)
def LU (F : Tab) (dep : Nat) (fr : Fr) (M : Mm) : Option LT := if Di.ok fr M then some (SC (Na F) fr M) else none
def adE (F : Tab) (b0 : Bool) (i1 : Int) (l0 l1 : List AV) (b1 b2 b3 : Bool) (i2 i3 : Int) (l2 l3 : List AV) (b4 b5 b6 : Bool) (i4 i5 : Int) (l4 l5 : List AV) (b7 b8 : Bool) (i6 i7 i8 i9 i10 : Int) (b9 : Bool) (i11 : Int) (l6 l7 : List AV) (b10 b11 b12 : Bool) (i12 i13 : Int) (l8 l9 : List AV) (b13 b14 b15 : Bool) (i14 i15 : Int) (l10 l11 : List AV) (b16 b17 : Bool) (i16 i17 i18 i19 i20 : Int) (i0 : Int) : Tr (Int) :=
    .br (decide (i0 < ((l5.length : Nat) : Int)))
     (.br (cond (aN i0 l5.length) (cond (aN i0 l11.length) true false) false)
      (.br (!(((aj ((au (l5.getD i0.toNat .dead)).getD 0 .dead)) == (aj ((au (l11.getD i0.toNat .dead)).getD 0 .dead))) && (((aj ((au (l5.getD i0.toNat .dead)).getD 1 .dead)) == (aj ((au (l11.getD i0.toNat .dead)).getD 1 .dead))) && (((av ((au (l5.getD i0.toNat .dead)).getD 2 .dead)) == (av ((au (l11.getD i0.toNat .dead)).getD 2 .dead))) && true))))
       (.out ⟨1, [], [], [], [], [], []⟩)
       (.next (IntKind.i64.wrap (i0 + 1))))
      (.bad))
     (.out ⟨2, [], [], [], [], [], []⟩)
def KQ (F : Tab) (b0 : Bool) (i1 : Int) (l0 l1 : List AV) (b1 b2 b3 : Bool) (i2 i3 : Int) (l2 l3 : List AV) (b4 b5 b6 : Bool) (i4 i5 : Int) (l4 l5 : List AV) (b7 b8 : Bool) (i6 i7 i8 i9 i10 : Int) (b9 : Bool) (i11 : Int) (l6 l7 : List AV) (b10 b11 b12 : Bool) (i12 i13 : Int) (l8 l9 : List AV) (b13 b14 b15 : Bool) (i14 i15 : Int) (l10 l11 : List AV) (b16 b17 : Bool) (i16 i17 i18 i19 i20 : Int) (s : Int) : Tr (Int) := adE F b0 i1 l0 l1 b1 b2 b3 i2 i3 l2 l3 b4 b5 b6 i4 i5 l4 l5 b7 b8 i6 i7 i8 i9 i10 b9 i11 l6 l7 b10 b11 b12 i12 i13 l8 l9 b13 b14 b15 i14 i15 l10 l11 b16 b17 i16 i17 i18 i19 i20 s
def Vw (b0 : Bool) (i1 : Int) (l0 l1 : List AV) (b1 b2 b3 : Bool) (i2 i3 : Int) (l2 l3 : List AV) (b4 b5 b6 : Bool) (i4 i5 : Int) (l4 l5 : List AV) (b7 b8 : Bool) (i6 i7 i8 i9 i10 : Int) (b9 : Bool) (i11 : Int) (l6 l7 : List AV) (b10 b11 b12 : Bool) (i12 i13 : Int) (l8 l9 : List AV) (b13 b14 b15 : Bool) (i14 i15 : Int) (l10 l11 : List AV) (b16 b17 : Bool) (i16 i17 i18 i19 i20 : Int) : Int -> Fr := fun i0 => (aT 122 [(2, .ptr 0 [] 38 0), (3, .ptr 1 [] 38 0), (6, .int .i64 i0)] [])
def VT (b0 : Bool) (i1 : Int) (l0 l1 : List AV) (b1 b2 b3 : Bool) (i2 i3 : Int) (l2 l3 : List AV) (b4 b5 b6 : Bool) (i4 i5 : Int) (l4 l5 : List AV) (b7 b8 : Bool) (i6 i7 i8 i9 i10 : Int) (b9 : Bool) (i11 : Int) (l6 l7 : List AV) (b10 b11 b12 : Bool) (i12 i13 : Int) (l8 l9 : List AV) (b13 b14 b15 : Bool) (i14 i15 : Int) (l10 l11 : List AV) (b16 b17 : Bool) (i16 i17 i18 i19 i20 : Int) : Int -> Mm := fun i0 => ⟨[.var 38 (dR b0 i1 l0 l1 b1 b2 b3 i2 i3 l2 l3 b4 b5 b6 i4 i5 l4 l5 b7 b8 i6 i7 i8 i9 i10), .var 38 (dR b9 i11 l6 l7 b10 b11 b12 i12 i13 l8 l9 b13 b14 b15 i14 i15 l10 l11 b16 b17 i16 i17 i18 i19 i20)], []⟩
def RJ (b0 : Bool) (i1 : Int) (l0 l1 : List AV) (b1 b2 b3 : Bool) (i2 i3 : Int) (l2 l3 : List AV) (b4 b5 b6 : Bool) (i4 i5 : Int) (l4 l5 : List AV) (b7 b8 : Bool) (i6 i7 i8 i9 i10 : Int) (b9 : Bool) (i11 : Int) (l6 l7 : List AV) (b10 b11 b12 : Bool) (i12 i13 : Int) (l8 l9 : List AV) (b13 b14 b15 : Bool) (i14 i15 : Int) (l10 l11 : List AV) (b16 b17 : Bool) (i16 i17 i18 i19 i20 : Int) (lo : LO) : LT :=
 .br (lo.k == 1) (.done .ret (aT 122 [(4, .bool false)] []) ⟨[.var 38 (dR b0 i1 l0 l1 b1 b2 b3 i2 i3 l2 l3 b4 b5 b6 i4 i5 l4 l5 b7 b8 i6 i7 i8 i9 i10), .var 38 (dR b9 i11 l6 l7 b10 b11 b12 i12 i13 l8 l9 b13 b14 b15 i14 i15 l10 l11 b16 b17 i16 i17 i18 i19 i20)], []⟩) (.br (lo.k == 2) (.done (.exit 2) (aT 122 [] []) ⟨[.var 38 (dR b0 i1 l0 l1 b1 b2 b3 i2 i3 l2 l3 b4 b5 b6 i4 i5 l4 l5 b7 b8 i6 i7 i8 i9 i10), .var 38 (dR b9 i11 l6 l7 b10 b11 b12 i12 i13 l8 l9 b13 b14 b15 i14 i15 l10 l11 b16 b17 i16 i17 i18 i19 i20)], []⟩) (.fail))
def zB : StP := ⟨122, [(2, .ptr 0 [] 38 (some 0)), (3, .ptr 1 [] 38 (some 0)), (6, .int .i64)], [], [.var 38 (xI), .var 38 (xI)], []⟩
abbrev acr {α : Type} (f : Bool -> Int -> List AV -> List AV -> Bool -> Bool -> Bool -> Int -> Int -> List AV -> List AV -> Bool -> Bool -> Bool -> Int -> Int -> List AV -> List AV -> Bool -> Bool -> Int -> Int -> Int -> Int -> Int -> Bool -> Int -> List AV -> List AV -> Bool -> Bool -> Bool -> Int -> Int -> List AV -> List AV -> Bool -> Bool -> Bool -> Int -> Int -> List AV -> List AV -> Bool -> Bool -> Int -> Int -> Int -> Int -> Int -> Int -> α) (fr : Fr) (M : Mm) : α := f (av (pA (vR M 0) 0)) (aj (pA (pA (vR M 0) 1) 0)) (au (pA (pA (vR M 0) 1) 1)) (au (pA (pA (vR M 0) 1) 2)) (av (pA (pA (vR M 0) 1) 3)) (av (pA (pA (vR M 0) 1) 4)) (av (pA (pA (vR M 0) 1) 5)) (aj (pA (pA (vR M 0) 1) 6)) (aj (pA (pA (vR M 0) 2) 0)) (au (pA (pA (vR M 0) 2) 1)) (au (pA (pA (vR M 0) 2) 2)) (av (pA (pA (vR M 0) 2) 3)) (av (pA (pA (vR M 0) 2) 4)) (av (pA (pA (vR M 0) 2) 5)) (aj (pA (pA (vR M 0) 2) 6)) (aj (pA (vR M 0) 3)) (ay (pA (vR M 0) 4)) (ay (pA (vR M 0) 5)) (av (pA (vR M 0) 6)) (av (pA (pA (vR M 0) 7) 0)) (aj (pA (pA (vR M 0) 7) 1)) (aj (pA (pA (vR M 0) 7) 2)) (aj (pA (vR M 0) 8)) (aj (pA (vR M 0) 9)) (aj (pA (vR M 0) 10)) (av (pA (vR M 1) 0)) (aj (pA (pA (vR M 1) 1) 0)) (au (pA (pA (vR M 1) 1) 1)) (au (pA (pA (vR M 1) 1) 2)) (av (pA (pA (vR M 1) 1) 3)) (av (pA (pA (vR M 1) 1) 4)) (av (pA (pA (vR M 1) 1) 5)) (aj (pA (pA (vR M 1) 1) 6)) (aj (pA (pA (vR M 1) 2) 0)) (au (pA (pA (vR M 1) 2) 1)) (au (pA (pA (vR M 1) 2) 2)) (av (pA (pA (vR M 1) 2) 3)) (av (pA (pA (vR M 1) 2) 4)) (av (pA (pA (vR M 1) 2) 5)) (aj (pA (pA (vR M 1) 2) 6)) (aj (pA (vR M 1) 3)) (ay (pA (vR M 1) 4)) (ay (pA (vR M 1) 5)) (av (pA (vR M 1) 6)) (av (pA (pA (vR M 1) 7) 0)) (aj (pA (pA (vR M 1) 7) 1)) (aj (pA (pA (vR M 1) 7) 2)) (aj (pA (vR M 1) 8)) (aj (pA (vR M 1) 9)) (aj (pA (vR M 1) 10)) ((aj (tA fr 6)))
def JJ (F : Tab) (b0 : Bool) (i1 : Int) (l0 l1 : List AV) (b1 b2 b3 : Bool) (i2 i3 : Int) (l2 l3 : List AV) (b4 b5 b6 : Bool) (i4 i5 : Int) (l4 l5 : List AV) (b7 b8 : Bool) (i6 i7 i8 i9 i10 : Int) (b9 : Bool) (i11 : Int) (l6 l7 : List AV) (b10 b11 b12 : Bool) (i12 i13 : Int) (l8 l9 : List AV) (b13 b14 b15 : Bool) (i14 i15 : Int) (l10 l11 : List AV) (b16 b17 : Bool) (i16 i17 i18 i19 i20 : Int) (s : Int) : LT := RJ b0 i1 l0 l1 b1 b2 b3 i2 i3 l2 l3 b4 b5 b6 i4 i5 l4 l5 b7 b8 i6 i7 i8 i9 i10 b9 i11 l6 l7 b10 b11 b12 i12 i13 l8 l9 b13 b14 b15 i14 i15 l10 l11 b16 b17 i16 i17 i18 i19 i20 (Tr.run (KQ F b0 i1 l0 l1 b1 b2 b3 i2 i3 l2 l3 b4 b5 b6 i4 i5 l4 l5 b7 b8 i6 i7 i8 i9 i10 b9 i11 l6 l7 b10 b11 b12 i12 i13 l8 l9 b13 b14 b15 i14 i15 l10 l11 b16 b17 i16 i17 i18 i19 i20) 100000 s)
def MQ (F : Tab) (dep : Nat) (fr : Fr) (M : Mm) : Option LT := if zB.ok fr M then some (acr (JJ F) fr M) else none
def GV (F : Tab) (i0 i1 i2 : Int) (l0 l1 : List AV) (b0 b1 b2 : Bool) (i3 : Int) (l2 : List AV) (i4 : Int) (l3 l4 : List AV) (b3 b4 : Bool) (i5 : Int) (l5 : List AV) (i6 i7 : Int) (l6 l7 : List AV) (b5 b6 b7 : Bool) (i8 i9 : Int) (l8 l9 : List AV) (i10 i11 i12 i13 i14 i15 i16 : Int) (l10 l11 : List AV)  : Tr (Unit) :=
    .br (decide (((l9.length + 1) * 24) <= 140737488355328))
     (.br (aC Pg F 102 [aB l5, .int .i64 i0, .int .i64 i1])
      (.out ⟨1, [aj ((eP (aA F 102 [aB l5, .int .i64 i0, .int .i64 i1])).getD 0 .dead)], [], [l9 ++ [mV i0 i1 false]], [], [], []⟩)
      (.bad))
     (.bad)
def Dc (F : Tab) (i0 i1 i2 : Int) (l0 l1 : List AV) (b0 b1 b2 : Bool) (i3 : Int) (l2 : List AV) (i4 : Int) (l3 l4 : List AV) (b3 b4 : Bool) (i5 : Int) (l5 : List AV) (i6 i7 : Int) (l6 l7 : List AV) (b5 b6 b7 : Bool) (i8 i9 : Int) (l8 l9 : List AV) (i10 i11 i12 i13 i14 i15 i16 : Int) (l10 l11 : List AV) : LO := (GV F i0 i1 i2 l0 l1 b0 b1 b2 i3 l2 i4 l3 l4 b3 b4 i5 l5 i6 i7 l6 l7 b5 b6 b7 i8 i9 l8 l9 i10 i11 i12 i13 i14 i15 i16 l10 l11).eval fun _ => LO.bad
def L6 (i0 i1 i2 : Int) (l0 l1 : List AV) (b0 b1 b2 : Bool) (i3 : Int) (l2 : List AV) (i4 : Int) (l3 l4 : List AV) (b3 b4 : Bool) (i5 : Int) (l5 : List AV) (i6 i7 : Int) (l6 l7 : List AV) (b5 b6 b7 : Bool) (i8 i9 : Int) (l8 l9 : List AV) (i10 i11 i12 i13 i14 i15 i16 : Int) (l10 l11 : List AV) : Mm := ⟨[.var 26 (aG i2 l0 l1 b0 b1 b2 i3), .var 29 (aB l2), .var 38 (dD), .var 63 (dU i4 l3 l4 b3 false b4 i5 l5 i6 true cO i7 l6 l7 b5 b6 b7 i8 i9 l8 l9 false aZ 0 0 0 i10 i11 i12 i13 i14), .var 61 (.ptr 3 [] 63 0), .var 118 (aW i15 i16 l10 l11)], [(2, [4]), (2, [5]), (3, [3, 4]), (3, [3, 5])]⟩
def Kv (i0 i1 i2 : Int) (l0 l1 : List AV) (b0 b1 b2 : Bool) (i3 : Int) (l2 : List AV) (i4 : Int) (l3 l4 : List AV) (b3 b4 : Bool) (i5 : Int) (l5 : List AV) (i6 i7 : Int) (l6 l7 : List AV) (b5 b6 b7 : Bool) (i8 i9 : Int) (l8 l9 : List AV) (i10 i11 i12 i13 i14 i15 i16 : Int) (l10 l11 : List AV) (lo : LO) : LT :=
 .br (lo.k == 1) (.done .ret (aT 1 [(0, .int .u32 (lo.I 0))] []) ⟨(L6 i0 i1 i2 l0 l1 b0 b1 b2 i3 l2 i4 l3 l4 b3 b4 i5 l5 i6 i7 l6 l7 b5 b6 b7 i8 i9 l8 (lo.L 0) i10 i11 i12 i13 i14 i15 i16 l10 l11).rows, [(3, [3, 5]), (2, [4]), (2, [5]), (3, [3, 4])]⟩) (.fail)
def aaw (i0 i1 i2 : Int) (l0 l1 : List AV) (b0 b1 b2 : Bool) (i3 : Int) (l2 : List AV) (i4 : Int) (l3 l4 : List AV) (b3 b4 : Bool) (i5 : Int) (l5 : List AV) (i6 i7 : Int) (l6 l7 : List AV) (b5 b6 b7 : Bool) (i8 i9 : Int) (l8 l9 : List AV) (i10 i11 i12 i13 i14 i15 i16 : Int) (l10 l11 : List AV) : List AV := [.ptr 3 [] 63 0, .int .i64 i0, .int .i64 i1]
def CJ : ArP := ⟨[.ptr 3 [] 63 (some 0), .int .i64, .int .i64], [.var 26 (d9), .var 29 (.agg 28 [.slice 139 false]), .var 38 (iF), .var 63 (jf), .var 61 (.ptr 3 [] 63 (some 0)), .var 118 (.agg 117 [.int .i64, .int .i64, .slice 57 false, .slice 3 false])], [(2, [4]), (2, [5]), (3, [3, 4]), (3, [3, 5])]⟩
abbrev ab7 {α : Type} (f : Int -> Int -> Int -> List AV -> List AV -> Bool -> Bool -> Bool -> Int -> List AV -> Int -> List AV -> List AV -> Bool -> Bool -> Int -> List AV -> Int -> Int -> List AV -> List AV -> Bool -> Bool -> Bool -> Int -> Int -> List AV -> List AV -> Int -> Int -> Int -> Int -> Int -> Int -> Int -> List AV -> List AV -> α) (args : List AV) (M : Mm) : α := f (aj (args.getD 1 .dead)) (aj (args.getD 2 .dead)) (aj (pA (vR M 0) 0)) (au (pA (vR M 0) 1)) (au (pA (vR M 0) 2)) (av (pA (vR M 0) 3)) (av (pA (vR M 0) 4)) (av (pA (vR M 0) 5)) (aj (pA (vR M 0) 6)) (ay (pA (vR M 1) 0)) (aj (pA (pA (vR M 3) 0) 0)) (au (pA (pA (vR M 3) 0) 1)) (au (pA (pA (vR M 3) 0) 2)) (av (pA (pA (vR M 3) 0) 3)) (av (pA (pA (vR M 3) 0) 5)) (aj (pA (pA (vR M 3) 0) 6)) (ay (pA (pA (vR M 3) 1) 0)) (aj (pA (vR M 3) 2)) (aj (pA (pA (pA (vR M 3) 3) 2) 0)) (au (pA (pA (pA (vR M 3) 3) 2) 1)) (au (pA (pA (pA (vR M 3) 3) 2) 2)) (av (pA (pA (pA (vR M 3) 3) 2) 3)) (av (pA (pA (pA (vR M 3) 3) 2) 4)) (av (pA (pA (pA (vR M 3) 3) 2) 5)) (aj (pA (pA (pA (vR M 3) 3) 2) 6)) (aj (pA (pA (vR M 3) 3) 3)) (ay (pA (pA (vR M 3) 3) 4)) (ay (pA (pA (vR M 3) 3) 5)) (aj (pA (pA (vR M 3) 4) 0)) (aj (pA (pA (vR M 3) 4) 1)) (aj (pA (pA (vR M 3) 4) 2)) (aj (pA (pA (vR M 3) 4) 3)) (aj (pA (pA (vR M 3) 4) 4)) (aj (pA (vR M 5) 0)) (aj (pA (vR M 5) 1)) (ay (pA (vR M 5) 2)) (ay (pA (vR M 5) 3))
def Qj (F : Tab) (i0 i1 i2 : Int) (l0 l1 : List AV) (b0 b1 b2 : Bool) (i3 : Int) (l2 : List AV) (i4 : Int) (l3 l4 : List AV) (b3 b4 : Bool) (i5 : Int) (l5 : List AV) (i6 i7 : Int) (l6 l7 : List AV) (b5 b6 b7 : Bool) (i8 i9 : Int) (l8 l9 : List AV) (i10 i11 i12 i13 i14 i15 i16 : Int) (l10 l11 : List AV) : LT := Kv i0 i1 i2 l0 l1 b0 b1 b2 i3 l2 i4 l3 l4 b3 b4 i5 l5 i6 i7 l6 l7 b5 b6 b7 i8 i9 l8 l9 i10 i11 i12 i13 i14 i15 i16 l10 l11 (Dc F i0 i1 i2 l0 l1 b0 b1 b2 i3 l2 i4 l3 l4 b3 b4 i5 l5 i6 i7 l6 l7 b5 b6 b7 i8 i9 l8 l9 i10 i11 i12 i13 i14 i15 i16 l10 l11)
def PN (F : Tab) (dep : Nat) (args : List AV) (M : Mm) : Option LT := if Nat.beq dep 1 && CJ.ok args M then some (ab7 (Qj F) args M) else none
def G5 (F : Tab) (i0 i1 : Int) (l0 : List AV) (i2 i4 : Int) (l1 l2 : List AV) (b0 b1 b2 : Bool) (i5 : Int) (l3 : List AV) (i6 : Int) (l4 l5 : List AV) (b3 b4 : Bool) (i7 : Int) (l6 : List AV) (i8 i9 : Int) (l7 l8 : List AV) (b5 b6 b7 : Bool) (i10 i11 : Int) (l9 : List AV) (i12 i13 i14 i15 i16 i17 i18 : Int) (l11 l12 : List AV) (i3 : Int) (l10 : List AV) : Tr (Int × List AV) :=
    let x0 : LO := Dc F (aj (l0.getD i3.toNat .dead)) 4 i4 l1 l2 b0 b1 b2 i5 l3 i6 l4 l5 b3 b4 i7 l6 i8 i9 l7 l8 b5 b6 b7 i10 i11 l9 l10 i12 i13 i14 i15 i16 i17 i18 l11 l12;
    .br (decide (i3 < i2))
     (.br (aN i3 l0.length)
      (.br (x0.k == 1)
       (.next (IntKind.i64.wrap (i3 + 1), x0.l.getD 0 []))
       (.bad))
      (.bad))
     (.out ⟨1, [], [], [l10], [], [], []⟩)
def tC (F : Tab) (i0 i1 : Int) (l0 : List AV) (i2 i4 : Int) (l1 l2 : List AV) (b0 b1 b2 : Bool) (i5 : Int) (l3 : List AV) (i6 : Int) (l4 l5 : List AV) (b3 b4 : Bool) (i7 : Int) (l6 : List AV) (i8 i9 : Int) (l7 l8 : List AV) (b5 b6 b7 : Bool) (i10 i11 : Int) (l9 : List AV) (i12 i13 i14 i15 i16 i17 i18 : Int) (l11 l12 : List AV) (s : Int × List AV) : Tr (Int × List AV) := G5 F i0 i1 l0 i2 i4 l1 l2 b0 b1 b2 i5 l3 i6 l4 l5 b3 b4 i7 l6 i8 i9 l7 l8 b5 b6 b7 i10 i11 l9 i12 i13 i14 i15 i16 i17 i18 l11 l12 s.1 s.2
def Yu (i0 i1 : Int) (l0 : List AV) (i2 i4 : Int) (l1 l2 : List AV) (b0 b1 b2 : Bool) (i5 : Int) (l3 : List AV) (i6 : Int) (l4 l5 : List AV) (b3 b4 : Bool) (i7 : Int) (l6 : List AV) (i8 i9 : Int) (l7 l8 : List AV) (b5 b6 b7 : Bool) (i10 i11 : Int) (l9 : List AV) (i12 i13 i14 i15 i16 i17 i18 : Int) (l11 l12 : List AV) : Int × List AV -> Fr := fun (i3, l10) => (aT 66 [(0, .ptr 3 [] 63 0), (1, .int .u32 i0), (7, .ptr 5 [] 118 0), (8, .int .i64 i1), (37, .slice 3 l0 false), (38, .int .i64 i2), (39, .int .i64 i3)] [])
def aeE (i0 i1 : Int) (l0 : List AV) (i2 i4 : Int) (l1 l2 : List AV) (b0 b1 b2 : Bool) (i5 : Int) (l3 : List AV) (i6 : Int) (l4 l5 : List AV) (b3 b4 : Bool) (i7 : Int) (l6 : List AV) (i8 i9 : Int) (l7 l8 : List AV) (b5 b6 b7 : Bool) (i10 i11 : Int) (l9 : List AV) (i12 i13 i14 i15 i16 i17 i18 : Int) (l11 l12 : List AV) : Int × List AV -> Mm := fun (i3, l10) => ⟨[.var 26 (aG i4 l1 l2 b0 b1 b2 i5), .var 29 (aB l3), .var 38 (dD), .var 63 (dU i6 l4 l5 b3 false b4 i7 l6 i8 true cO i9 l7 l8 b5 b6 b7 i10 i11 l9 l10 false aZ 0 0 0 i12 i13 i14 i15 i16), .var 61 (.ptr 3 [] 63 0), .var 118 (aW i17 i18 l11 l12)], [(2, [4]), (2, [5]), (3, [3, 4]), (3, [3, 5])]⟩
def Ca (F : Tab) (i0 i1 : Int) (l0 : List AV) (i2 i4 : Int) (l1 l2 : List AV) (b0 b1 b2 : Bool) (i5 : Int) (l3 : List AV) (i6 : Int) (l4 l5 : List AV) (b3 b4 : Bool) (i7 : Int) (l6 : List AV) (i8 i9 : Int) (l7 l8 : List AV) (b5 b6 b7 : Bool) (i10 i11 : Int) (l9 : List AV) (i12 i13 i14 i15 i16 i17 i18 : Int) (l11 l12 : List AV) (fuel : Nat) (i3 : Int) (l10 : List AV) : LO := Tr.run (tC F i0 i1 l0 i2 i4 l1 l2 b0 b1 b2 i5 l3 i6 l4 l5 b3 b4 i7 l6 i8 i9 l7 l8 b5 b6 b7 i10 i11 l9 i12 i13 i14 i15 i16 i17 i18 l11 l12) fuel (i3, l10)
def RD (i0 i1 : Int) (l0 : List AV) (i2 i4 : Int) (l1 l2 : List AV) (b0 b1 b2 : Bool) (i5 : Int) (l3 : List AV) (i6 : Int) (l4 l5 : List AV) (b3 b4 : Bool) (i7 : Int) (l6 : List AV) (i8 i9 : Int) (l7 l8 : List AV) (b5 b6 b7 : Bool) (i10 i11 : Int) (l9 : List AV) (i12 i13 i14 i15 i16 i17 i18 : Int) (l11 l12 : List AV) (lo : LO) : LT :=
 .br (lo.k == 1) (.done (.exit 0) (aT 66 [(0, .ptr 3 [] 63 0), (1, .int .u32 i0), (7, .ptr 5 [] 118 0), (8, .int .i64 i1)] []) ⟨[.var 26 (aG i4 l1 l2 b0 b1 b2 i5), .var 29 (aB l3), .var 38 (dD), .var 63 (dU i6 l4 l5 b3 false b4 i7 l6 i8 true cO i9 l7 l8 b5 b6 b7 i10 i11 l9 (lo.L 0) false aZ 0 0 0 i12 i13 i14 i15 i16), .var 61 (.ptr 3 [] 63 0), .var 118 (aW i17 i18 l11 l12)], [(2, [4]), (2, [5]), (3, [3, 4]), (3, [3, 5])]⟩) (.fail)
def Dh : StP := ⟨66, [(0, .ptr 3 [] 63 (some 0)), (1, .int .u32), (7, .ptr 5 [] 118 (some 0)), (8, .int .i64), (37, .slice 3 false), (38, .int .i64), (39, .int .i64)], [], [.var 26 (d9), .var 29 (.agg 28 [.slice 139 false]), .var 38 (iF), .var 63 (jf), .var 61 (.ptr 3 [] 63 (some 0)), .var 118 (.agg 117 [.int .i64, .int .i64, .slice 57 false, .slice 3 false])], [(2, [4]), (2, [5]), (3, [3, 4]), (3, [3, 5])]⟩
abbrev YZ {α : Type} (f : Int -> Int -> List AV -> Int -> Int -> List AV -> List AV -> Bool -> Bool -> Bool -> Int -> List AV -> Int -> List AV -> List AV -> Bool -> Bool -> Int -> List AV -> Int -> Int -> List AV -> List AV -> Bool -> Bool -> Bool -> Int -> Int -> List AV -> Int -> Int -> Int -> Int -> Int -> Int -> Int -> List AV -> List AV -> (Int × List AV) -> α) (fr : Fr) (M : Mm) : α := f (aj (tA fr 1)) (aj (tA fr 8)) (ay (tA fr 37)) (aj (tA fr 38)) (aj (pA (vR M 0) 0)) (au (pA (vR M 0) 1)) (au (pA (vR M 0) 2)) (av (pA (vR M 0) 3)) (av (pA (vR M 0) 4)) (av (pA (vR M 0) 5)) (aj (pA (vR M 0) 6)) (ay (pA (vR M 1) 0)) (aj (pA (pA (vR M 3) 0) 0)) (au (pA (pA (vR M 3) 0) 1)) (au (pA (pA (vR M 3) 0) 2)) (av (pA (pA (vR M 3) 0) 3)) (av (pA (pA (vR M 3) 0) 5)) (aj (pA (pA (vR M 3) 0) 6)) (ay (pA (pA (vR M 3) 1) 0)) (aj (pA (vR M 3) 2)) (aj (pA (pA (pA (vR M 3) 3) 2) 0)) (au (pA (pA (pA (vR M 3) 3) 2) 1)) (au (pA (pA (pA (vR M 3) 3) 2) 2)) (av (pA (pA (pA (vR M 3) 3) 2) 3)) (av (pA (pA (pA (vR M 3) 3) 2) 4)) (av (pA (pA (pA (vR M 3) 3) 2) 5)) (aj (pA (pA (pA (vR M 3) 3) 2) 6)) (aj (pA (pA (vR M 3) 3) 3)) (ay (pA (pA (vR M 3) 3) 4)) (aj (pA (pA (vR M 3) 4) 0)) (aj (pA (pA (vR M 3) 4) 1)) (aj (pA (pA (vR M 3) 4) 2)) (aj (pA (pA (vR M 3) 4) 3)) (aj (pA (pA (vR M 3) 4) 4)) (aj (pA (vR M 5) 0)) (aj (pA (vR M 5) 1)) (ay (pA (vR M 5) 2)) (ay (pA (vR M 5) 3)) ((aj (tA fr 39)), (ay (pA (pA (vR M 3) 3) 5)))
def KT (F : Tab) (i0 i1 : Int) (l0 : List AV) (i2 i4 : Int) (l1 l2 : List AV) (b0 b1 b2 : Bool) (i5 : Int) (l3 : List AV) (i6 : Int) (l4 l5 : List AV) (b3 b4 : Bool) (i7 : Int) (l6 : List AV) (i8 i9 : Int) (l7 l8 : List AV) (b5 b6 b7 : Bool) (i10 i11 : Int) (l9 : List AV) (i12 i13 i14 i15 i16 i17 i18 : Int) (l11 l12 : List AV) (s : Int × List AV) : LT := RD i0 i1 l0 i2 i4 l1 l2 b0 b1 b2 i5 l3 i6 l4 l5 b3 b4 i7 l6 i8 i9 l7 l8 b5 b6 b7 i10 i11 l9 i12 i13 i14 i15 i16 i17 i18 l11 l12 (Tr.run (tC F i0 i1 l0 i2 i4 l1 l2 b0 b1 b2 i5 l3 i6 l4 l5 b3 b4 i7 l6 i8 i9 l7 l8 b5 b6 b7 i10 i11 l9 i12 i13 i14 i15 i16 i17 i18 l11 l12) 100000 s)
def Qk (F : Tab) (dep : Nat) (fr : Fr) (M : Mm) : Option LT := if Nat.beq dep 2 && Dh.ok fr M then some (YZ (KT F) fr M) else none
def F4 (F : Tab) (i0 i1 i2 i3 : Int) (l0 l1 : List AV) (b0 b1 b2 : Bool) (i4 : Int) (l2 : List AV) (i5 : Int) (l3 l4 : List AV) (b3 b4 : Bool) (i6 : Int) (l5 : List AV) (i7 i8 : Int) (l6 l7 : List AV) (b5 b6 b7 : Bool) (i9 i10 : Int) (l8 l9 : List AV) (i11 i12 i13 i14 i15 i16 i17 : Int) (l10 l11 : List AV) (i18 i19 i20 : Int)  : Tr (Unit) :=
    .br (decide (((l9.length + 1) * 24) <= 140737488355328))
     (.br (decide (((l8.length + 1) * 24) <= 140737488355328))
      (.br (aC Pg F 104 [aB l5, bq i0 i1 i2])
       (.out ⟨1, [], [], [ay ((au ((eP (aA F 104 [aB l5, bq i0 i1 i2])).getD 0 .dead)).getD 0 .dead), l8 ++ [bq i0 i1 i2], l9 ++ [mV i0 i1 true]], [], [], []⟩)
       (.bad))
      (.bad))
     (.bad)
def Bp (F : Tab) (i0 i1 i2 i3 : Int) (l0 l1 : List AV) (b0 b1 b2 : Bool) (i4 : Int) (l2 : List AV) (i5 : Int) (l3 l4 : List AV) (b3 b4 : Bool) (i6 : Int) (l5 : List AV) (i7 i8 : Int) (l6 l7 : List AV) (b5 b6 b7 : Bool) (i9 i10 : Int) (l8 l9 : List AV) (i11 i12 i13 i14 i15 i16 i17 : Int) (l10 l11 : List AV) (i18 i19 i20 : Int) : LO := (F4 F i0 i1 i2 i3 l0 l1 b0 b1 b2 i4 l2 i5 l3 l4 b3 b4 i6 l5 i7 i8 l6 l7 b5 b6 b7 i9 i10 l8 l9 i11 i12 i13 i14 i15 i16 i17 l10 l11 i18 i19 i20).eval fun _ => LO.bad
def OM (i0 i1 i2 i3 : Int) (l0 l1 : List AV) (b0 b1 b2 : Bool) (i4 : Int) (l2 : List AV) (i5 : Int) (l3 l4 : List AV) (b3 b4 : Bool) (i6 : Int) (l5 : List AV) (i7 i8 : Int) (l6 l7 : List AV) (b5 b6 b7 : Bool) (i9 i10 : Int) (l8 l9 : List AV) (i11 i12 i13 i14 i15 i16 i17 : Int) (l10 l11 : List AV) (i18 i19 i20 : Int) : Mm := ⟨[.var 26 (aG i3 l0 l1 b0 b1 b2 i4), .var 29 (aB l2), .var 38 (dD), .var 63 (dU i5 l3 l4 b3 false b4 i6 l5 i7 true cO i8 l6 l7 b5 b6 b7 i9 i10 l8 l9 false aZ 0 0 0 i11 i12 i13 i14 i15), .var 61 (.ptr 3 [] 63 0), .var 118 (aW i16 i17 l10 l11), .var 57 (bq i18 i19 i20)], [(2, [4]), (2, [5]), (3, [3, 4]), (3, [3, 5])]⟩
def OE (i0 i1 i2 i3 : Int) (l0 l1 : List AV) (b0 b1 b2 : Bool) (i4 : Int) (l2 : List AV) (i5 : Int) (l3 l4 : List AV) (b3 b4 : Bool) (i6 : Int) (l5 : List AV) (i7 i8 : Int) (l6 l7 : List AV) (b5 b6 b7 : Bool) (i9 i10 : Int) (l8 l9 : List AV) (i11 i12 i13 i14 i15 i16 i17 : Int) (l10 l11 : List AV) (i18 i19 i20 : Int) (lo : LO) : LT :=
 .br (lo.k == 1) (.done .ret (aT 1 [(0, .tuple [])] []) ⟨(OM i0 i1 i2 i3 l0 l1 b0 b1 b2 i4 l2 i5 l3 l4 b3 b4 i6 (lo.L 0) i7 i8 l6 l7 b5 b6 b7 i9 i10 (lo.L 1) (lo.L 2) i11 i12 i13 i14 i15 i16 i17 l10 l11 i18 i19 i20).rows, [(3, [3, 4]), (3, [3, 5]), (2, [4]), (2, [5])]⟩) (.fail)
def Wt (i0 i1 i2 i3 : Int) (l0 l1 : List AV) (b0 b1 b2 : Bool) (i4 : Int) (l2 : List AV) (i5 : Int) (l3 l4 : List AV) (b3 b4 : Bool) (i6 : Int) (l5 : List AV) (i7 i8 : Int) (l6 l7 : List AV) (b5 b6 b7 : Bool) (i9 i10 : Int) (l8 l9 : List AV) (i11 i12 i13 i14 i15 i16 i17 : Int) (l10 l11 : List AV) (i18 i19 i20 : Int) : List AV := [.ptr 3 [] 63 0, bq i0 i1 i2]
def BM : ArP := ⟨[.ptr 3 [] 63 (some 0), .agg 56 [.int .i64, .int .i64, .int .u32]], [.var 26 (d9), .var 29 (.agg 28 [.slice 139 false]), .var 38 (iF), .var 63 (jf), .var 61 (.ptr 3 [] 63 (some 0)), .var 118 (.agg 117 [.int .i64, .int .i64, .slice 57 false, .slice 3 false]), .var 57 (.agg 56 [.int .i64, .int .i64, .int .u32])], [(2, [4]), (2, [5]), (3, [3, 4]), (3, [3, 5])]⟩
abbrev abQ {α : Type} (f : Int -> Int -> Int -> Int -> List AV -> List AV -> Bool -> Bool -> Bool -> Int -> List AV -> Int -> List AV -> List AV -> Bool -> Bool -> Int -> List AV -> Int -> Int -> List AV -> List AV -> Bool -> Bool -> Bool -> Int -> Int -> List AV -> List AV -> Int -> Int -> Int -> Int -> Int -> Int -> Int -> List AV -> List AV -> Int -> Int -> Int -> α) (args : List AV) (M : Mm) : α := f (aj (pA (args.getD 1 .dead) 0)) (aj (pA (args.getD 1 .dead) 1)) (aj (pA (args.getD 1 .dead) 2)) (aj (pA (vR M 0) 0)) (au (pA (vR M 0) 1)) (au (pA (vR M 0) 2)) (av (pA (vR M 0) 3)) (av (pA (vR M 0) 4)) (av (pA (vR M 0) 5)) (aj (pA (vR M 0) 6)) (ay (pA (vR M 1) 0)) (aj (pA (pA (vR M 3) 0) 0)) (au (pA (pA (vR M 3) 0) 1)) (au (pA (pA (vR M 3) 0) 2)) (av (pA (pA (vR M 3) 0) 3)) (av (pA (pA (vR M 3) 0) 5)) (aj (pA (pA (vR M 3) 0) 6)) (ay (pA (pA (vR M 3) 1) 0)) (aj (pA (vR M 3) 2)) (aj (pA (pA (pA (vR M 3) 3) 2) 0)) (au (pA (pA (pA (vR M 3) 3) 2) 1)) (au (pA (pA (pA (vR M 3) 3) 2) 2)) (av (pA (pA (pA (vR M 3) 3) 2) 3)) (av (pA (pA (pA (vR M 3) 3) 2) 4)) (av (pA (pA (pA (vR M 3) 3) 2) 5)) (aj (pA (pA (pA (vR M 3) 3) 2) 6)) (aj (pA (pA (vR M 3) 3) 3)) (ay (pA (pA (vR M 3) 3) 4)) (ay (pA (pA (vR M 3) 3) 5)) (aj (pA (pA (vR M 3) 4) 0)) (aj (pA (pA (vR M 3) 4) 1)) (aj (pA (pA (vR M 3) 4) 2)) (aj (pA (pA (vR M 3) 4) 3)) (aj (pA (pA (vR M 3) 4) 4)) (aj (pA (vR M 5) 0)) (aj (pA (vR M 5) 1)) (ay (pA (vR M 5) 2)) (ay (pA (vR M 5) 3)) (aj (pA (vR M 6) 0)) (aj (pA (vR M 6) 1)) (aj (pA (vR M 6) 2))
def Ku (F : Tab) (i0 i1 i2 i3 : Int) (l0 l1 : List AV) (b0 b1 b2 : Bool) (i4 : Int) (l2 : List AV) (i5 : Int) (l3 l4 : List AV) (b3 b4 : Bool) (i6 : Int) (l5 : List AV) (i7 i8 : Int) (l6 l7 : List AV) (b5 b6 b7 : Bool) (i9 i10 : Int) (l8 l9 : List AV) (i11 i12 i13 i14 i15 i16 i17 : Int) (l10 l11 : List AV) (i18 i19 i20 : Int) : LT := OE i0 i1 i2 i3 l0 l1 b0 b1 b2 i4 l2 i5 l3 l4 b3 b4 i6 l5 i7 i8 l6 l7 b5 b6 b7 i9 i10 l8 l9 i11 i12 i13 i14 i15 i16 i17 l10 l11 i18 i19 i20 (Bp F i0 i1 i2 i3 l0 l1 b0 b1 b2 i4 l2 i5 l3 l4 b3 b4 i6 l5 i7 i8 l6 l7 b5 b6 b7 i9 i10 l8 l9 i11 i12 i13 i14 i15 i16 i17 l10 l11 i18 i19 i20)
def QS (F : Tab) (dep : Nat) (args : List AV) (M : Mm) : Option LT := if Nat.beq dep 1 && BM.ok args M then some (abQ (Ku F) args M) else none
def Bt (F : Tab) (i0 i1 : Int) (l0 : List AV) (i2 i4 : Int) (l1 l2 : List AV) (b0 b1 b2 : Bool) (i5 : Int) (l3 : List AV) (i6 : Int) (l4 l5 : List AV) (b3 b4 : Bool) (i7 i8 i9 : Int) (l7 l8 : List AV) (b5 b6 b7 : Bool) (i10 i11 i12 i13 i14 i15 i16 i17 i18 : Int) (l11 l12 : List AV) (i3 : Int) (l6 l9 l10 : List AV) : Tr (T0) :=
    let x0 : LO := Bp F (aj ((au (l0.getD i3.toNat .dead)).getD 0 .dead)) (aj ((au (l0.getD i3.toNat .dead)).getD 1 .dead)) (aj ((au (l0.getD i3.toNat .dead)).getD 2 .dead)) i4 l1 l2 b0 b1 b2 i5 l3 i6 l4 l5 b3 b4 i7 l6 i8 i9 l7 l8 b5 b6 b7 i10 i11 l9 l10 i12 i13 i14 i15 i16 i17 i18 l11 l12 (aj ((au (l0.getD i3.toNat .dead)).getD 0 .dead)) (aj ((au (l0.getD i3.toNat .dead)).getD 1 .dead)) (aj ((au (l0.getD i3.toNat .dead)).getD 2 .dead));
    .br (decide (i3 < i2))
     (.br (aN i3 l0.length)
      (.br (x0.k == 1)
       (.next (IntKind.i64.wrap (i3 + 1), x0.l.getD 0 [], x0.l.getD 1 [], x0.l.getD 2 []))
       (.bad))
      (.bad))
     (.out ⟨1, [], [], [l6, l9, l10], [], [], []⟩)
def uP (F : Tab) (i0 i1 : Int) (l0 : List AV) (i2 i4 : Int) (l1 l2 : List AV) (b0 b1 b2 : Bool) (i5 : Int) (l3 : List AV) (i6 : Int) (l4 l5 : List AV) (b3 b4 : Bool) (i7 i8 i9 : Int) (l7 l8 : List AV) (b5 b6 b7 : Bool) (i10 i11 i12 i13 i14 i15 i16 i17 i18 : Int) (l11 l12 : List AV) (s : T0) : Tr (T0) := Bt F i0 i1 l0 i2 i4 l1 l2 b0 b1 b2 i5 l3 i6 l4 l5 b3 b4 i7 i8 i9 l7 l8 b5 b6 b7 i10 i11 i12 i13 i14 i15 i16 i17 i18 l11 l12 s.1 s.2.1 s.2.2.1 s.2.2.2
def TW (i0 i1 : Int) (l0 : List AV) (i2 i4 : Int) (l1 l2 : List AV) (b0 b1 b2 : Bool) (i5 : Int) (l3 : List AV) (i6 : Int) (l4 l5 : List AV) (b3 b4 : Bool) (i7 i8 i9 : Int) (l7 l8 : List AV) (b5 b6 b7 : Bool) (i10 i11 i12 i13 i14 i15 i16 i17 i18 : Int) (l11 l12 : List AV) : T0 -> Fr := fun (i3, l6, l9, l10) => (aT 66 [(0, .ptr 3 [] 63 0), (1, .int .u32 i0), (7, .ptr 5 [] 118 0), (8, .int .i64 i1), (48, .slice 57 l0 false), (49, .int .i64 i2), (50, .int .i64 i3)] [])
def TI (i0 i1 : Int) (l0 : List AV) (i2 i4 : Int) (l1 l2 : List AV) (b0 b1 b2 : Bool) (i5 : Int) (l3 : List AV) (i6 : Int) (l4 l5 : List AV) (b3 b4 : Bool) (i7 i8 i9 : Int) (l7 l8 : List AV) (b5 b6 b7 : Bool) (i10 i11 i12 i13 i14 i15 i16 i17 i18 : Int) (l11 l12 : List AV) : T0 -> Mm := fun (i3, l6, l9, l10) => ⟨[.var 26 (aG i4 l1 l2 b0 b1 b2 i5), .var 29 (aB l3), .var 38 (dD), .var 63 (dU i6 l4 l5 b3 false b4 i7 l6 i8 true cO i9 l7 l8 b5 b6 b7 i10 i11 l9 l10 false aZ 0 0 0 i12 i13 i14 i15 i16), .var 61 (.ptr 3 [] 63 0), .var 118 (aW i17 i18 l11 l12)], [(2, [4]), (2, [5]), (3, [3, 4]), (3, [3, 5])]⟩
def zC (F : Tab) (i0 i1 : Int) (l0 : List AV) (i2 i4 : Int) (l1 l2 : List AV) (b0 b1 b2 : Bool) (i5 : Int) (l3 : List AV) (i6 : Int) (l4 l5 : List AV) (b3 b4 : Bool) (i7 i8 i9 : Int) (l7 l8 : List AV) (b5 b6 b7 : Bool) (i10 i11 i12 i13 i14 i15 i16 i17 i18 : Int) (l11 l12 : List AV) (fuel : Nat) (i3 : Int) (l6 l9 l10 : List AV) : LO := Tr.run (uP F i0 i1 l0 i2 i4 l1 l2 b0 b1 b2 i5 l3 i6 l4 l5 b3 b4 i7 i8 i9 l7 l8 b5 b6 b7 i10 i11 i12 i13 i14 i15 i16 i17 i18 l11 l12) fuel (i3, l6, l9, l10)
def Je (i0 i1 : Int) (l0 : List AV) (i2 i4 : Int) (l1 l2 : List AV) (b0 b1 b2 : Bool) (i5 : Int) (l3 : List AV) (i6 : Int) (l4 l5 : List AV) (b3 b4 : Bool) (i7 i8 i9 : Int) (l7 l8 : List AV) (b5 b6 b7 : Bool) (i10 i11 i12 i13 i14 i15 i16 i17 i18 : Int) (l11 l12 : List AV) (lo : LO) : LT :=
 .br (lo.k == 1) (.done (.exit 2) (aT 66 [(0, .ptr 3 [] 63 0), (1, .int .u32 i0), (7, .ptr 5 [] 118 0), (8, .int .i64 i1)] []) ⟨[.var 26 (aG i4 l1 l2 b0 b1 b2 i5), .var 29 (aB l3), .var 38 (dD), .var 63 (dU i6 l4 l5 b3 false b4 i7 (lo.L 0) i8 true cO i9 l7 l8 b5 b6 b7 i10 i11 (lo.L 1) (lo.L 2) false aZ 0 0 0 i12 i13 i14 i15 i16), .var 61 (.ptr 3 [] 63 0), .var 118 (aW i17 i18 l11 l12)], [(2, [4]), (2, [5]), (3, [3, 4]), (3, [3, 5])]⟩) (.fail)
def BX : StP := ⟨66, [(0, .ptr 3 [] 63 (some 0)), (1, .int .u32), (7, .ptr 5 [] 118 (some 0)), (8, .int .i64), (48, .slice 57 false), (49, .int .i64), (50, .int .i64)], [], [.var 26 (d9), .var 29 (.agg 28 [.slice 139 false]), .var 38 (iF), .var 63 (jf), .var 61 (.ptr 3 [] 63 (some 0)), .var 118 (.agg 117 [.int .i64, .int .i64, .slice 57 false, .slice 3 false])], [(2, [4]), (2, [5]), (3, [3, 4]), (3, [3, 5])]⟩
abbrev Zu {α : Type} (f : Int -> Int -> List AV -> Int -> Int -> List AV -> List AV -> Bool -> Bool -> Bool -> Int -> List AV -> Int -> List AV -> List AV -> Bool -> Bool -> Int -> Int -> Int -> List AV -> List AV -> Bool -> Bool -> Bool -> Int -> Int -> Int -> Int -> Int -> Int -> Int -> Int -> Int -> List AV -> List AV -> T0 -> α) (fr : Fr) (M : Mm) : α := f (aj (tA fr 1)) (aj (tA fr 8)) (ay (tA fr 48)) (aj (tA fr 49)) (aj (pA (vR M 0) 0)) (au (pA (vR M 0) 1)) (au (pA (vR M 0) 2)) (av (pA (vR M 0) 3)) (av (pA (vR M 0) 4)) (av (pA (vR M 0) 5)) (aj (pA (vR M 0) 6)) (ay (pA (vR M 1) 0)) (aj (pA (pA (vR M 3) 0) 0)) (au (pA (pA (vR M 3) 0) 1)) (au (pA (pA (vR M 3) 0) 2)) (av (pA (pA (vR M 3) 0) 3)) (av (pA (pA (vR M 3) 0) 5)) (aj (pA (pA (vR M 3) 0) 6)) (aj (pA (vR M 3) 2)) (aj (pA (pA (pA (vR M 3) 3) 2) 0)) (au (pA (pA (pA (vR M 3) 3) 2) 1)) (au (pA (pA (pA (vR M 3) 3) 2) 2)) (av (pA (pA (pA (vR M 3) 3) 2) 3)) (av (pA (pA (pA (vR M 3) 3) 2) 4)) (av (pA (pA (pA (vR M 3) 3) 2) 5)) (aj (pA (pA (pA (vR M 3) 3) 2) 6)) (aj (pA (pA (vR M 3) 3) 3)) (aj (pA (pA (vR M 3) 4) 0)) (aj (pA (pA (vR M 3) 4) 1)) (aj (pA (pA (vR M 3) 4) 2)) (aj (pA (pA (vR M 3) 4) 3)) (aj (pA (pA (vR M 3) 4) 4)) (aj (pA (vR M 5) 0)) (aj (pA (vR M 5) 1)) (ay (pA (vR M 5) 2)) (ay (pA (vR M 5) 3)) ((aj (tA fr 50)), (ay (pA (pA (vR M 3) 1) 0)), (ay (pA (pA (vR M 3) 3) 4)), (ay (pA (pA (vR M 3) 3) 5)))
def Rb (F : Tab) (i0 i1 : Int) (l0 : List AV) (i2 i4 : Int) (l1 l2 : List AV) (b0 b1 b2 : Bool) (i5 : Int) (l3 : List AV) (i6 : Int) (l4 l5 : List AV) (b3 b4 : Bool) (i7 i8 i9 : Int) (l7 l8 : List AV) (b5 b6 b7 : Bool) (i10 i11 i12 i13 i14 i15 i16 i17 i18 : Int) (l11 l12 : List AV) (s : T0) : LT := Je i0 i1 l0 i2 i4 l1 l2 b0 b1 b2 i5 l3 i6 l4 l5 b3 b4 i7 i8 i9 l7 l8 b5 b6 b7 i10 i11 i12 i13 i14 i15 i16 i17 i18 l11 l12 (Tr.run (uP F i0 i1 l0 i2 i4 l1 l2 b0 b1 b2 i5 l3 i6 l4 l5 b3 b4 i7 i8 i9 l7 l8 b5 b6 b7 i10 i11 i12 i13 i14 i15 i16 i17 i18 l11 l12) 100000 s)
def Nj (F : Tab) (dep : Nat) (fr : Fr) (M : Mm) : Option LT := if Nat.beq dep 2 && BX.ok fr M then some (Zu (Rb F) fr M) else none
def AO (F : Tab) (i0 i1 : Int) (i2 i3 : Int) (l0 l1 : List AV) (b0 b1 b2 : Bool) (i4 : Int) (l2 : List AV) : Tr (T1) :=
    let x0 : List AV := au (aA F 9 [aG i3 l0 l1 b0 b1 b2 i4, aB l2, .int .u32 0]);
    let x1 : List AV := au (x0.getD 1 .dead);
    let x2 : List AV := au (x0.getD 2 .dead);
    let x3 : List AV := au (x0.getD 7 .dead);
    let x4 : List AV := au (aA F 11 [dR (av (x0.getD 0 .dead)) (aj (x1.getD 0 .dead)) (au (x1.getD 1 .dead)) (au (x1.getD 2 .dead)) (av (x1.getD 3 .dead)) (av (x1.getD 4 .dead)) (av (x1.getD 5 .dead)) (aj (x1.getD 6 .dead)) (aj (x2.getD 0 .dead)) (au (x2.getD 1 .dead)) (au (x2.getD 2 .dead)) (av (x2.getD 3 .dead)) (av (x2.getD 4 .dead)) (av (x2.getD 5 .dead)) (aj (x2.getD 6 .dead)) (aj (x0.getD 3 .dead)) (ay (x0.getD 4 .dead)) (ay (x0.getD 5 .dead)) (av (x0.getD 6 .dead)) (av (x3.getD 0 .dead)) (aj (x3.getD 1 .dead)) (aj (x3.getD 2 .dead)) (aj (x0.getD 8 .dead)) (aj (x0.getD 9 .dead)) (aj (x0.getD 10 .dead)), .int .u32 0, .bool false]);
    let x5 : List AV := au (x4.getD 1 .dead);
    .br (decide (i2 < i1))
     (.br (aC Pg F 9 [aG i3 l0 l1 b0 b1 b2 i4, aB l2, .int .u32 0])
      (.br (aC Pg F 11 [dR (av (x0.getD 0 .dead)) (aj (x1.getD 0 .dead)) (au (x1.getD 1 .dead)) (au (x1.getD 2 .dead)) (av (x1.getD 3 .dead)) (av (x1.getD 4 .dead)) (av (x1.getD 5 .dead)) (aj (x1.getD 6 .dead)) (aj (x2.getD 0 .dead)) (au (x2.getD 1 .dead)) (au (x2.getD 2 .dead)) (av (x2.getD 3 .dead)) (av (x2.getD 4 .dead)) (av (x2.getD 5 .dead)) (aj (x2.getD 6 .dead)) (aj (x0.getD 3 .dead)) (ay (x0.getD 4 .dead)) (ay (x0.getD 5 .dead)) (av (x0.getD 6 .dead)) (av (x3.getD 0 .dead)) (aj (x3.getD 1 .dead)) (aj (x3.getD 2 .dead)) (aj (x0.getD 8 .dead)) (aj (x0.getD 9 .dead)) (aj (x0.getD 10 .dead)), .int .u32 0, .bool false])
       (.br (!(av (x4.getD 0 .dead)))
        (.out ⟨1, [i2, i3, i4, i3, i4], [b0, b1, b2, b0, b1, b2], [l0, l1, l2, l0, l1, l2], [], [], []⟩)
        (.br (aC Pg F 36 [aB l2, .slice 57 (ay (x4.getD 4 .dead)) false])
         (.next (IntKind.i64.wrap (i2 + 1), aj (x5.getD 0 .dead), au (x5.getD 1 .dead), au (x5.getD 2 .dead), av (x5.getD 3 .dead), av (x5.getD 4 .dead), av (x5.getD 5 .dead), aj (x5.getD 6 .dead), ay ((au ((eP (aA F 36 [aB l2, .slice 57 (ay (x4.getD 4 .dead)) false])).getD 0 .dead)).getD 0 .dead)))
         (.bad)))
       (.bad))
      (.bad))
     (.out ⟨2, [i3, i4], [b0, b1, b2], [l0, l1, l2], [], [], []⟩)
def qo (F : Tab) (i0 i1 : Int) (s : T1) : Tr (T1) := AO F i0 i1 s.1 s.2.1 s.2.2.1 s.2.2.2.1 s.2.2.2.2.1 s.2.2.2.2.2.1 s.2.2.2.2.2.2.1 s.2.2.2.2.2.2.2.1 s.2.2.2.2.2.2.2.2
def abn (i0 i1 : Int) : T1 -> Fr := fun (i2, i3, l0, l1, b0, b1, b2, i4, l2) => (aT 40 [(2, .int .i64 i0), (3, .ptr 0 [] 26 0), (4, .ptr 1 [] 29 0), (6, .ptr 2 [] 26 0), (7, .ptr 3 [] 29 0), (12, .int .i64 i1), (13, .int .i64 i2)] [])
def abj (i0 i1 : Int) : T1 -> Mm := fun (i2, i3, l0, l1, b0, b1, b2, i4, l2) => ⟨[.var 26 (aG i3 l0 l1 b0 b1 b2 i4), .var 29 (aB l2), .var 26 (cO), .var 29 (aB [])], [(3, [0])]⟩
def NQ (F : Tab) (i0 i1 : Int) (fuel : Nat) (i2 i3 : Int) (l0 l1 : List AV) (b0 b1 b2 : Bool) (i4 : Int) (l2 : List AV) : LO := Tr.run (qo F i0 i1) fuel (i2, i3, l0, l1, b0, b1, b2, i4, l2)
def Rh (i0 i1 : Int) (lo : LO) : LT :=
 .br (lo.k == 1) (.done .ret (aT 40 [(2, .int .i64 i0), (3, .ptr 0 [] 26 0), (4, .ptr 1 [] 29 0), (6, .ptr 2 [] 26 0), (7, .ptr 3 [] 29 0), (8, .int .i64 (lo.I 0))] []) ⟨[.var 26 (aG (lo.I 1) (lo.L 0) (lo.L 1) (lo.B 0) (lo.B 1) (lo.B 2) (lo.I 2)), .var 29 (aB (lo.L 2)), .var 26 (aG (lo.I 3) (lo.L 3) (lo.L 4) (lo.B 3) (lo.B 4) (lo.B 5) (lo.I 4)), .var 29 (aB (lo.L 5))], []⟩) (.br (lo.k == 2) (.done (.exit 0) (aT 40 [(2, .int .i64 i0), (3, .ptr 0 [] 26 0), (4, .ptr 1 [] 29 0), (6, .ptr 2 [] 26 0), (7, .ptr 3 [] 29 0)] []) ⟨[.var 26 (aG (lo.I 0) (lo.L 0) (lo.L 1) (lo.B 0) (lo.B 1) (lo.B 2) (lo.I 1)), .var 29 (aB (lo.L 2)), .var 26 (cO), .var 29 (aB [])], [(3, [0])]⟩) (.fail))
def zR : StP := ⟨40, [(2, .int .i64), (3, .ptr 0 [] 26 (some 0)), (4, .ptr 1 [] 29 (some 0)), (6, .ptr 2 [] 26 (some 0)), (7, .ptr 3 [] 29 (some 0)), (12, .int .i64), (13, .int .i64)], [], [.var 26 (d9), .var 29 (.agg 28 [.slice 139 false]), .var 26 (kp4), .var 29 (.agg 28 [.sliceL 139 [] false])], [(3, [0])]⟩
abbrev aaM {α : Type} (f : Int -> Int -> T1 -> α) (fr : Fr) (M : Mm) : α := f (aj (tA fr 2)) (aj (tA fr 12)) ((aj (tA fr 13)), (aj (pA (vR M 0) 0)), (au (pA (vR M 0) 1)), (au (pA (vR M 0) 2)), (av (pA (vR M 0) 3)), (av (pA (vR M 0) 4)), (av (pA (vR M 0) 5)), (aj (pA (vR M 0) 6)), (ay (pA (vR M 1) 0)))
def N8 (F : Tab) (i0 i1 : Int) (s : T1) : LT := Rh i0 i1 (Tr.run (qo F i0 i1) 100000 s)
def MV (F : Tab) (dep : Nat) (fr : Fr) (M : Mm) : Option LT := if zR.ok fr M then some (aaM (N8 F) fr M) else none
def Aq (F : Tab) (i0 i1 : Int) (l0 l1 : List AV) (b0 b1 b2 : Bool) (i2 : Int) (l2 : List AV) (i3 : Int) (l3 l4 : List AV) (b3 b4 b5 : Bool) (i4 : Int) (l5 : List AV) (i5 : Int) : Tr (T2) :=
    let x0 : List AV := au (aA F 10 [aG i3 l3 l4 b3 b4 b5 i4, aB l5, .int .u32 0]);
    let x1 : List AV := au (x0.getD 1 .dead);
    let x2 : List AV := au (x0.getD 2 .dead);
    let x3 : List AV := au (x0.getD 7 .dead);
    let x4 : List AV := au (aA F 12 [dR (av (x0.getD 0 .dead)) (aj (x1.getD 0 .dead)) (au (x1.getD 1 .dead)) (au (x1.getD 2 .dead)) (av (x1.getD 3 .dead)) (av (x1.getD 4 .dead)) (av (x1.getD 5 .dead)) (aj (x1.getD 6 .dead)) (aj (x2.getD 0 .dead)) (au (x2.getD 1 .dead)) (au (x2.getD 2 .dead)) (av (x2.getD 3 .dead)) (av (x2.getD 4 .dead)) (av (x2.getD 5 .dead)) (aj (x2.getD 6 .dead)) (aj (x0.getD 3 .dead)) (ay (x0.getD 4 .dead)) (ay (x0.getD 5 .dead)) (av (x0.getD 6 .dead)) (av (x3.getD 0 .dead)) (aj (x3.getD 1 .dead)) (aj (x3.getD 2 .dead)) (aj (x0.getD 8 .dead)) (aj (x0.getD 9 .dead)) (aj (x0.getD 10 .dead)), .int .u32 0, .bool false]);
    let x5 : List AV := au (x4.getD 1 .dead);
    .br (decide (i5 < i0))
     (.br (aC Pg F 10 [aG i3 l3 l4 b3 b4 b5 i4, aB l5, .int .u32 0])
      (.br (aC Pg F 12 [dR (av (x0.getD 0 .dead)) (aj (x1.getD 0 .dead)) (au (x1.getD 1 .dead)) (au (x1.getD 2 .dead)) (av (x1.getD 3 .dead)) (av (x1.getD 4 .dead)) (av (x1.getD 5 .dead)) (aj (x1.getD 6 .dead)) (aj (x2.getD 0 .dead)) (au (x2.getD 1 .dead)) (au (x2.getD 2 .dead)) (av (x2.getD 3 .dead)) (av (x2.getD 4 .dead)) (av (x2.getD 5 .dead)) (aj (x2.getD 6 .dead)) (aj (x0.getD 3 .dead)) (ay (x0.getD 4 .dead)) (ay (x0.getD 5 .dead)) (av (x0.getD 6 .dead)) (av (x3.getD 0 .dead)) (aj (x3.getD 1 .dead)) (aj (x3.getD 2 .dead)) (aj (x0.getD 8 .dead)) (aj (x0.getD 9 .dead)) (aj (x0.getD 10 .dead)), .int .u32 0, .bool false])
       (.br (!(av (x4.getD 0 .dead)))
        (.out ⟨1, [i3, i4, i5, i3, i4, i5], [b3, b4, b5, b3, b4, b5], [l3, l4, l5, l3, l4, l5], [], [], []⟩)
        (.br (aC Pg F 37 [aB l5, .slice 57 (ay (x4.getD 4 .dead)) false])
         (.next (aj (x5.getD 0 .dead), au (x5.getD 1 .dead), au (x5.getD 2 .dead), av (x5.getD 3 .dead), av (x5.getD 4 .dead), av (x5.getD 5 .dead), aj (x5.getD 6 .dead), ay ((au ((au (aA F 37 [aB l5, .slice 57 (ay (x4.getD 4 .dead)) false])).getD 0 .dead)).getD 0 .dead), IntKind.i64.wrap (i5 + 1)))
         (.bad)))
       (.bad))
      (.bad))
     (.out ⟨2, [i3, i4, i5], [b3, b4, b5], [l3, l4, l5], [], [], []⟩)
def oP (F : Tab) (i0 i1 : Int) (l0 l1 : List AV) (b0 b1 b2 : Bool) (i2 : Int) (l2 : List AV) (s : T2) : Tr (T2) := Aq F i0 i1 l0 l1 b0 b1 b2 i2 l2 s.1 s.2.1 s.2.2.1 s.2.2.2.1 s.2.2.2.2.1 s.2.2.2.2.2.1 s.2.2.2.2.2.2.1 s.2.2.2.2.2.2.2.1 s.2.2.2.2.2.2.2.2
def aaT (i0 i1 : Int) (l0 l1 : List AV) (b0 b1 b2 : Bool) (i2 : Int) (l2 : List AV) : T2 -> Fr := fun (i3, l3, l4, b3, b4, b5, i4, l5, i5) => (aT 41 [(2, .int .i64 i0), (6, .ptr 2 [] 46 0), (7, .ptr 3 [] 46 0)] [])
def JM (i0 i1 : Int) (l0 l1 : List AV) (b0 b1 b2 : Bool) (i2 : Int) (l2 : List AV) : T2 -> Mm := fun (i3, l3, l4, b3, b4, b5, i4, l5, i5) => ⟨[.var 26 (aG i1 l0 l1 b0 b1 b2 i2), .var 29 (aB l2), .var 46 (kv5), .var 46 (yO i3 l3 l4 b3 b4 b5 i4 l5 i5)], [(2, [1, 0])]⟩
def Po (F : Tab) (i0 i1 : Int) (l0 l1 : List AV) (b0 b1 b2 : Bool) (i2 : Int) (l2 : List AV) (fuel : Nat) (i3 : Int) (l3 l4 : List AV) (b3 b4 b5 : Bool) (i4 : Int) (l5 : List AV) (i5 : Int) : LO := Tr.run (oP F i0 i1 l0 l1 b0 b1 b2 i2 l2) fuel (i3, l3, l4, b3, b4, b5, i4, l5, i5)
def J9 (i0 i1 : Int) (l0 l1 : List AV) (b0 b1 b2 : Bool) (i2 : Int) (l2 : List AV) (lo : LO) : LT :=
 .br (lo.k == 1) (.done .ret (aT 41 [(6, .ptr 2 [] 46 0), (7, .ptr 3 [] 46 0)] []) ⟨[.var 26 (aG i1 l0 l1 b0 b1 b2 i2), .var 29 (aB l2), .var 46 (yO (lo.I 0) (lo.L 0) (lo.L 1) (lo.B 0) (lo.B 1) (lo.B 2) (lo.I 1) (lo.L 2) (lo.I 2)), .var 46 (yO (lo.I 3) (lo.L 3) (lo.L 4) (lo.B 3) (lo.B 4) (lo.B 5) (lo.I 4) (lo.L 5) (lo.I 5))], []⟩) (.br (lo.k == 2) (.done (.exit 0) (aT 41 [(6, .ptr 2 [] 46 0), (7, .ptr 3 [] 46 0)] []) (JM i0 i1 l0 l1 b0 b1 b2 i2 l2 ((lo.I 0), (lo.L 0), (lo.L 1), (lo.B 0), (lo.B 1), (lo.B 2), (lo.I 1), (lo.L 2), (lo.I 2)))) (.fail))
def Cz : StP := ⟨41, [(2, .int .i64), (6, .ptr 2 [] 46 (some 0)), (7, .ptr 3 [] 46 (some 0))], [], [.var 26 (d9), .var 29 (.agg 28 [.slice 139 false]), .var 46 (kp6), .var 46 (.agg 45 [d9, .agg 28 [.slice 139 false], .int .i64])], [(2, [1, 0])]⟩
abbrev aec {α : Type} (f : Int -> Int -> List AV -> List AV -> Bool -> Bool -> Bool -> Int -> List AV -> T2 -> α) (fr : Fr) (M : Mm) : α := f (aj (tA fr 2)) (aj (pA (vR M 0) 0)) (au (pA (vR M 0) 1)) (au (pA (vR M 0) 2)) (av (pA (vR M 0) 3)) (av (pA (vR M 0) 4)) (av (pA (vR M 0) 5)) (aj (pA (vR M 0) 6)) (ay (pA (vR M 1) 0)) ((aj (pA (pA (vR M 3) 0) 0)), (au (pA (pA (vR M 3) 0) 1)), (au (pA (pA (vR M 3) 0) 2)), (av (pA (pA (vR M 3) 0) 3)), (av (pA (pA (vR M 3) 0) 4)), (av (pA (pA (vR M 3) 0) 5)), (aj (pA (pA (vR M 3) 0) 6)), (ay (pA (pA (vR M 3) 1) 0)), (aj (pA (vR M 3) 2)))
def ND (F : Tab) (i0 i1 : Int) (l0 l1 : List AV) (b0 b1 b2 : Bool) (i2 : Int) (l2 : List AV) (s : T2) : LT := J9 i0 i1 l0 l1 b0 b1 b2 i2 l2 (Tr.run (oP F i0 i1 l0 l1 b0 b1 b2 i2 l2) 100000 s)
def MG (F : Tab) (dep : Nat) (fr : Fr) (M : Mm) : Option LT := if Cz.ok fr M then some (aec (ND F) fr M) else none
def Iz (F : Tab) (l1 l2 l3 l4 : List AV) (l0 : List AV) (i0 : Int) : Tr (List AV × Int) :=
    .br (decide (i0 < (if ((l4.length : Nat) : Int) > ((l3.length : Nat) : Int) then ((l4.length : Nat) : Int) else ((l3.length : Nat) : Int))))
     (.br (bP (decide (((l3.length : Nat) : Int) <= i0)) true (bP (decide (((l4.length : Nat) : Int) <= i0)) true (cond (aN i0 l3.length) (cond (aN i0 l4.length) true false) false)))
      (.br (cond (decide (((l3.length : Nat) : Int) <= i0)) true (cond (decide (((l4.length : Nat) : Int) <= i0)) true (!(iC (au (l3.getD i0.toNat .dead)) (au (l4.getD i0.toNat .dead))))))
       (.br (decide (((l0.length + 1) * 8) <= 140737488355328))
        (.next (l0 ++ [.int .i64 i0], IntKind.i64.wrap (i0 + 1)))
        (.bad))
       (.next (l0, IntKind.i64.wrap (i0 + 1))))
      (.bad))
     (.out ⟨1, [], [], [l0], [], [], []⟩)
def qM (F : Tab) (l1 l2 l3 l4 : List AV) (s : List AV × Int) : Tr (List AV × Int) := Iz F l1 l2 l3 l4 s.1 s.2
def acn (l1 l2 l3 l4 : List AV) : List AV × Int -> Fr := fun (l0, i0) => (aT 48 [(2, .ptr 2 [] 29 0), (3, .ptr 3 [] 29 0), (5, .slice 3 l0 false), (6, .int .i64 i0)] [(5, .own)])
def aef (l1 l2 l3 l4 : List AV) : List AV × Int -> Mm := fun (l0, i0) => ⟨[.var 29 (aB l1), .var 29 (aB l2), .var 29 (aB l3), .var 29 (aB l4)], []⟩
def Ls (F : Tab) (l1 l2 l3 l4 : List AV) (fuel : Nat) (l0 : List AV) (i0 : Int) : LO := Tr.run (qM F l1 l2 l3 l4) fuel (l0, i0)
def I8 (l1 l2 l3 l4 : List AV) (lo : LO) : LT :=
 .br (lo.k == 1) (.done (.exit 0) (aT 48 [(5, .slice 3 (lo.L 0) false)] [(5, .own)]) ⟨[.var 29 (aB l1), .var 29 (aB l2), .var 29 (aB l3), .var 29 (aB l4)], []⟩) (.fail)
def Bb : StP := ⟨48, [(2, .ptr 2 [] 29 (some 0)), (3, .ptr 3 [] 29 (some 0)), (5, .slice 3 false), (6, .int .i64)], [(5, .own)], [.var 29 (.agg 28 [.slice 139 false]), .var 29 (.agg 28 [.slice 139 false]), .var 29 (.agg 28 [.slice 139 false]), .var 29 (.agg 28 [.slice 139 false])], []⟩
abbrev ac1 {α : Type} (f : List AV -> List AV -> List AV -> List AV -> (List AV × Int) -> α) (fr : Fr) (M : Mm) : α := f (ay (pA (vR M 0) 0)) (ay (pA (vR M 1) 0)) (ay (pA (vR M 2) 0)) (ay (pA (vR M 3) 0)) ((ay (tA fr 5)), (aj (tA fr 6)))
def M9 (F : Tab) (l1 l2 l3 l4 : List AV) (s : List AV × Int) : LT := I8 l1 l2 l3 l4 (Tr.run (qM F l1 l2 l3 l4) 100000 s)
def Lx (F : Tab) (dep : Nat) (fr : Fr) (M : Mm) : Option LT := if Bb.ok fr M then some (ac1 (M9 F) fr M) else none
def OX (F : Tab) (i0 : Int) (b0 : Bool) (i2 : Int) (l0 l1 : List AV) (b1 b2 b3 : Bool) (i3 : Int) (i1 : Int) : Tr (Int) :=
    .br (cond (decide (i1 < 5)) b0 false)
     (.br (aC Pg F 50 [.int .u32 i0, .int .i64 i1])
      (.br (av (aA F 50 [.int .u32 i0, .int .i64 i1]))
       (.out ⟨1, [i1], [], [], [], [], []⟩)
       (.next (IntKind.i64.wrap (i1 + 1))))
      (.bad))
     (.out ⟨2, [], [], [], [], [], []⟩)
def zl (F : Tab) (i0 : Int) (b0 : Bool) (i2 : Int) (l0 l1 : List AV) (b1 b2 b3 : Bool) (i3 : Int) (s : Int) : Tr (Int) := OX F i0 b0 i2 l0 l1 b1 b2 b3 i3 s
def Wu (i0 : Int) (b0 : Bool) (i2 : Int) (l0 l1 : List AV) (b1 b2 b3 : Bool) (i3 : Int) : Int -> Fr := fun i1 => (aT 26 [(1, .int .u32 i0), (4, .ptr 1 [] 67 0), (5, .bool b0), (6, .int .i64 i1)] [])
def adU (i0 : Int) (b0 : Bool) (i2 : Int) (l0 l1 : List AV) (b1 b2 b3 : Bool) (i3 : Int) : Int -> Mm := fun i1 => ⟨[.var 26 (aG i2 l0 l1 b1 b2 b3 i3), .var 67 (.agg 66 [.int .i64 0, .bool false])], []⟩
def LW (F : Tab) (i0 : Int) (b0 : Bool) (i2 : Int) (l0 l1 : List AV) (b1 b2 b3 : Bool) (i3 : Int) (fuel : Nat) (i1 : Int) : LO := Tr.run (zl F i0 b0 i2 l0 l1 b1 b2 b3 i3) fuel (i1)
def La (i0 : Int) (b0 : Bool) (i2 : Int) (l0 l1 : List AV) (b1 b2 b3 : Bool) (i3 : Int) (lo : LO) : LT :=
 .br (lo.k == 1) (.done .ret (aT 26 [(4, .ptr 1 [] 67 0)] []) ⟨[.var 26 (aG i2 l0 l1 b1 b2 b3 i3), .var 67 (.agg 66 [.int .i64 (lo.I 0), .bool true])], []⟩) (.br (lo.k == 2) (.done (.exit 0) (aT 26 [(4, .ptr 1 [] 67 0)] []) ⟨[.var 26 (aG i2 l0 l1 b1 b2 b3 i3), .var 67 (.agg 66 [.int .i64 0, .bool false])], []⟩) (.fail))
def DT : StP := ⟨26, [(1, .int .u32), (4, .ptr 1 [] 67 (some 0)), (5, .bool), (6, .int .i64)], [], [.var 26 (d9), .var 67 (.agg 66 [.intC .i64 0, .boolC false])], []⟩
abbrev acp {α : Type} (f : Int -> Bool -> Int -> List AV -> List AV -> Bool -> Bool -> Bool -> Int -> Int -> α) (fr : Fr) (M : Mm) : α := f (aj (tA fr 1)) (av (tA fr 5)) (aj (pA (vR M 0) 0)) (au (pA (vR M 0) 1)) (au (pA (vR M 0) 2)) (av (pA (vR M 0) 3)) (av (pA (vR M 0) 4)) (av (pA (vR M 0) 5)) (aj (pA (vR M 0) 6)) ((aj (tA fr 6)))
def PW (F : Tab) (i0 : Int) (b0 : Bool) (i2 : Int) (l0 l1 : List AV) (b1 b2 b3 : Bool) (i3 : Int) (s : Int) : LT := La i0 b0 i2 l0 l1 b1 b2 b3 i3 (Tr.run (zl F i0 b0 i2 l0 l1 b1 b2 b3 i3) 100000 s)
def Nq (F : Tab) (dep : Nat) (fr : Fr) (M : Mm) : Option LT := if DT.ok fr M then some (acp (PW F) fr M) else none
def Gw (F : Tab) (i11 i12 : Int) (l7 l8 : List AV) (i13 : Int) (i0 : Int) (b0 : Bool) (i1 : Int) (l0 l1 : List AV) (b1 b2 b3 : Bool) (i2 i3 : Int) (l2 l3 : List AV) (b4 b5 b6 : Bool) (i4 i5 : Int) (l4 l5 : List AV) (b7 b8 : Bool) (i6 i7 i8 i9 i10 : Int) (l6 : List AV) : Tr (T3) :=
    let x0 : List AV := au (aA F 26 [aO b0 i1 l0 l1 b1 b2 b3 i2 i3 l2 l3 b4 b5 b6 i4 i5 l4 l5 b7 b8 i6 i7 i8 i9 i10 l6, .int .i64 (aj (l8.getD i0.toNat .dead)), .int .i64 4]);
    let x1 : List AV := au (x0.getD 0 .dead);
    let x2 : List AV := au (x1.getD 1 .dead);
    let x3 : List AV := au (x1.getD 2 .dead);
    let x4 : List AV := au (x1.getD 7 .dead);
    .br (decide (i0 < ((l8.length : Nat) : Int)))
     (.br (cond (aN i0 l8.length) (cond (aC Pg F 26 [aO b0 i1 l0 l1 b1 b2 b3 i2 i3 l2 l3 b4 b5 b6 i4 i5 l4 l5 b7 b8 i6 i7 i8 i9 i10 l6, .int .i64 (aj (l8.getD i0.toNat .dead)), .int .i64 4]) true false) false)
      (.next (IntKind.i64.wrap (i0 + 1), av (x1.getD 0 .dead), aj (x2.getD 0 .dead), au (x2.getD 1 .dead), au (x2.getD 2 .dead), av (x2.getD 3 .dead), av (x2.getD 4 .dead), av (x2.getD 5 .dead), aj (x2.getD 6 .dead), aj (x3.getD 0 .dead), au (x3.getD 1 .dead), au (x3.getD 2 .dead), av (x3.getD 3 .dead), av (x3.getD 4 .dead), av (x3.getD 5 .dead), aj (x3.getD 6 .dead), aj (x1.getD 3 .dead), ay (x1.getD 4 .dead), ay (x1.getD 5 .dead), av (x1.getD 6 .dead), av (x4.getD 0 .dead), aj (x4.getD 1 .dead), aj (x4.getD 2 .dead), aj (x1.getD 8 .dead), aj (x1.getD 9 .dead), aj (x1.getD 10 .dead), ay ((au (x0.getD 1 .dead)).getD 0 .dead)))
      (.bad))
     (.out ⟨1, [i1, i2, i3, i4, i5, i6, i7, i8, i9, i10], [b0, b1, b2, b3, b4, b5, b6, b7, b8], [l0, l1, l2, l3, l4, l5, l6], [], [], []⟩)
def uD (F : Tab) (i11 i12 : Int) (l7 l8 : List AV) (i13 : Int) (s : T3) : Tr (T3) := Gw F i11 i12 l7 l8 i13 s.1 s.2.1 s.2.2.1 s.2.2.2.1 s.2.2.2.2.1 s.2.2.2.2.2.1 s.2.2.2.2.2.2.1 s.2.2.2.2.2.2.2.1 s.2.2.2.2.2.2.2.2.1 s.2.2.2.2.2.2.2.2.2.1 s.2.2.2.2.2.2.2.2.2.2.1 s.2.2.2.2.2.2.2.2.2.2.2.1 s.2.2.2.2.2.2.2.2.2.2.2.2.1 s.2.2.2.2.2.2.2.2.2.2.2.2.2.1 s.2.2.2.2.2.2.2.2.2.2.2.2.2.2.1 s.2.2.2.2.2.2.2.2.2.2.2.2.2.2.2.1 s.2.2.2.2.2.2.2.2.2.2.2.2.2.2.2.2.1 s.2.2.2.2.2.2.2.2.2.2.2.2.2.2.2.2.2.1 s.2.2.2.2.2.2.2.2.2.2.2.2.2.2.2.2.2.2.1 s.2.2.2.2.2.2.2.2.2.2.2.2.2.2.2.2.2.2.2.1 s.2.2.2.2.2.2.2.2.2.2.2.2.2.2.2.2.2.2.2.2.1 s.2.2.2.2.2.2.2.2.2.2.2.2.2.2.2.2.2.2.2.2.2.1 s.2.2.2.2.2.2.2.2.2.2.2.2.2.2.2.2.2.2.2.2.2.2.1 s.2.2.2.2.2.2.2.2.2.2.2.2.2.2.2.2.2.2.2.2.2.2.2.1 s.2.2.2.2.2.2.2.2.2.2.2.2.2.2.2.2.2.2.2.2.2.2.2.2.1 s.2.2.2.2.2.2.2.2.2.2.2.2.2.2.2.2.2.2.2.2.2.2.2.2.2.1 s.2.2.2.2.2.2.2.2.2.2.2.2.2.2.2.2.2.2.2.2.2.2.2.2.2.2
def aaN (i11 i12 : Int) (l7 l8 : List AV) (i13 : Int) : T3 -> Fr := fun (i0, b0, i1, l0, l1, b1, b2, b3, i2, i3, l2, l3, b4, b5, b6, i4, i5, l4, l5, b7, b8, i6, i7, i8, i9, i10, l6) => (aT 63 [(3, .ptr 0 [] 65 0), (6, .ptr 1 [] 71 0), (7, .ptr 2 [] 120 0), (8, .int .i64 i0)] [])
def adY (i11 i12 : Int) (l7 l8 : List AV) (i13 : Int) : T3 -> Mm := fun (i0, b0, i1, l0, l1, b1, b2, b3, i2, i3, l2, l3, b4, b5, b6, i4, i5, l4, l5, b7, b8, i6, i7, i8, i9, i10, l6) => ⟨[.var 65 (aO b0 i1 l0 l1 b1 b2 b3 i2 i3 l2 l3 b4 b5 b6 i4 i5 l4 l5 b7 b8 i6 i7 i8 i9 i10 l6), .var 71 (Ea), .var 120 (mD i11 i12 l7 l8 i13)], [(1, [0, 0, 4]), (1, [0, 0, 5]), (1, [0, 1, 0])]⟩
def OY (F : Tab) (i11 i12 : Int) (l7 l8 : List AV) (i13 : Int) (fuel : Nat) (i0 : Int) (b0 : Bool) (i1 : Int) (l0 l1 : List AV) (b1 b2 b3 : Bool) (i2 i3 : Int) (l2 l3 : List AV) (b4 b5 b6 : Bool) (i4 i5 : Int) (l4 l5 : List AV) (b7 b8 : Bool) (i6 i7 i8 i9 i10 : Int) (l6 : List AV) : LO := Tr.run (uD F i11 i12 l7 l8 i13) fuel (i0, b0, i1, l0, l1, b1, b2, b3, i2, i3, l2, l3, b4, b5, b6, i4, i5, l4, l5, b7, b8, i6, i7, i8, i9, i10, l6)
def LV (i11 i12 : Int) (l7 l8 : List AV) (i13 : Int) (lo : LO) : LT :=
 .br (lo.k == 1) (.done (.exit 0) (aT 63 [(3, .ptr 0 [] 65 0), (6, .ptr 1 [] 71 0), (7, .ptr 2 [] 120 0)] []) ⟨[.var 65 (aO (lo.B 0) (lo.I 0) (lo.L 0) (lo.L 1) (lo.B 1) (lo.B 2) (lo.B 3) (lo.I 1) (lo.I 2) (lo.L 2) (lo.L 3) (lo.B 4) (lo.B 5) (lo.B 6) (lo.I 3) (lo.I 4) (lo.L 4) (lo.L 5) (lo.B 7) (lo.B 8) (lo.I 5) (lo.I 6) (lo.I 7) (lo.I 8) (lo.I 9) (lo.L 6)), .var 71 (Ea), .var 120 (mD i11 i12 l7 l8 i13)], [(1, [0, 0, 4]), (1, [0, 0, 5]), (1, [0, 1, 0])]⟩) (.fail)
def zY : StP := ⟨63, [(3, .ptr 0 [] 65 (some 0)), (6, .ptr 1 [] 71 (some 0)), (7, .ptr 2 [] 120 (some 0)), (8, .int .i64)], [], [.var 65 (RB), .var 71 (kp8), .var 120 (.agg 119 [.agg 117 [.int .i64, .int .i64, .slice 57 false, .slice 3 false], .int .i64])], [(1, [0, 0, 4]), (1, [0, 0, 5]), (1, [0, 1, 0])]⟩
abbrev Vs {α : Type} (f : Int -> Int -> List AV -> List AV -> Int -> T3 -> α) (fr : Fr) (M : Mm) : α := f (aj (pA (pA (vR M 2) 0) 0)) (aj (pA (pA (vR M 2) 0) 1)) (ay (pA (pA (vR M 2) 0) 2)) (ay (pA (pA (vR M 2) 0) 3)) (aj (pA (vR M 2) 1)) ((aj (tA fr 8)), (av (pA (pA (vR M 0) 0) 0)), (aj (pA (pA (pA (vR M 0) 0) 1) 0)), (au (pA (pA (pA (vR M 0) 0) 1) 1)), (au (pA (pA (pA (vR M 0) 0) 1) 2)), (av (pA (pA (pA (vR M 0) 0) 1) 3)), (av (pA (pA (pA (vR M 0) 0) 1) 4)), (av (pA (pA (pA (vR M 0) 0) 1) 5)), (aj (pA (pA (pA (vR M 0) 0) 1) 6)), (aj (pA (pA (pA (vR M 0) 0) 2) 0)), (au (pA (pA (pA (vR M 0) 0) 2) 1)), (au (pA (pA (pA (vR M 0) 0) 2) 2)), (av (pA (pA (pA (vR M 0) 0) 2) 3)), (av (pA (pA (pA (vR M 0) 0) 2) 4)), (av (pA (pA (pA (vR M 0) 0) 2) 5)), (aj (pA (pA (pA (vR M 0) 0) 2) 6)), (aj (pA (pA (vR M 0) 0) 3)), (ay (pA (pA (vR M 0) 0) 4)), (ay (pA (pA (vR M 0) 0) 5)), (av (pA (pA (vR M 0) 0) 6)), (av (pA (pA (pA (vR M 0) 0) 7) 0)), (aj (pA (pA (pA (vR M 0) 0) 7) 1)), (aj (pA (pA (pA (vR M 0) 0) 7) 2)), (aj (pA (pA (vR M 0) 0) 8)), (aj (pA (pA (vR M 0) 0) 9)), (aj (pA (pA (vR M 0) 0) 10)), (ay (pA (pA (vR M 0) 1) 0)))
def Jy (F : Tab) (i11 i12 : Int) (l7 l8 : List AV) (i13 : Int) (s : T3) : LT := LV i11 i12 l7 l8 i13 (Tr.run (uD F i11 i12 l7 l8 i13) 100000 s)
def Ot (F : Tab) (dep : Nat) (fr : Fr) (M : Mm) : Option LT := if zY.ok fr M then some (Vs (Jy F) fr M) else none
def IU (F : Tab) (i11 i12 : Int) (l7 l8 : List AV) (i13 : Int) (i0 : Int) (b0 : Bool) (i1 : Int) (l0 l1 : List AV) (b1 b2 b3 : Bool) (i2 i3 : Int) (l2 l3 : List AV) (b4 b5 b6 : Bool) (i4 i5 : Int) (l4 l5 : List AV) (b7 b8 : Bool) (i6 i7 i8 i9 i10 : Int) (l6 : List AV) : Tr (T3) :=
    let x0 : List AV := au (aA F 53 [aO b0 i1 l0 l1 b1 b2 b3 i2 i3 l2 l3 b4 b5 b6 i4 i5 l4 l5 b7 b8 i6 i7 i8 i9 i10 l6, bq (aj ((au (l7.getD i0.toNat .dead)).getD 0 .dead)) (aj ((au (l7.getD i0.toNat .dead)).getD 1 .dead)) (aj ((au (l7.getD i0.toNat .dead)).getD 2 .dead))]);
    let x1 : List AV := au (x0.getD 0 .dead);
    let x2 : List AV := au (x1.getD 1 .dead);
    let x3 : List AV := au (x1.getD 2 .dead);
    let x4 : List AV := au (x1.getD 7 .dead);
    .br (decide (i0 < ((l7.length : Nat) : Int)))
     (.br (cond (aN i0 l7.length) (cond (aC Pg F 53 [aO b0 i1 l0 l1 b1 b2 b3 i2 i3 l2 l3 b4 b5 b6 i4 i5 l4 l5 b7 b8 i6 i7 i8 i9 i10 l6, bq (aj ((au (l7.getD i0.toNat .dead)).getD 0 .dead)) (aj ((au (l7.getD i0.toNat .dead)).getD 1 .dead)) (aj ((au (l7.getD i0.toNat .dead)).getD 2 .dead))]) true false) false)
      (.next (IntKind.i64.wrap (i0 + 1), av (x1.getD 0 .dead), aj (x2.getD 0 .dead), au (x2.getD 1 .dead), au (x2.getD 2 .dead), av (x2.getD 3 .dead), av (x2.getD 4 .dead), av (x2.getD 5 .dead), aj (x2.getD 6 .dead), aj (x3.getD 0 .dead), au (x3.getD 1 .dead), au (x3.getD 2 .dead), av (x3.getD 3 .dead), av (x3.getD 4 .dead), av (x3.getD 5 .dead), aj (x3.getD 6 .dead), aj (x1.getD 3 .dead), ay (x1.getD 4 .dead), ay (x1.getD 5 .dead), av (x1.getD 6 .dead), av (x4.getD 0 .dead), aj (x4.getD 1 .dead), aj (x4.getD 2 .dead), aj (x1.getD 8 .dead), aj (x1.getD 9 .dead), aj (x1.getD 10 .dead), ay ((au (x0.getD 1 .dead)).getD 0 .dead)))
      (.bad))
     (.out ⟨1, [i1, i2, i3, i4, i5, i6, i7, i8, i9, i10], [b0, b1, b2, b3, b4, b5, b6, b7, b8], [l0, l1, l2, l3, l4, l5, l6], [], [], []⟩)
def uU (F : Tab) (i11 i12 : Int) (l7 l8 : List AV) (i13 : Int) (s : T3) : Tr (T3) := IU F i11 i12 l7 l8 i13 s.1 s.2.1 s.2.2.1 s.2.2.2.1 s.2.2.2.2.1 s.2.2.2.2.2.1 s.2.2.2.2.2.2.1 s.2.2.2.2.2.2.2.1 s.2.2.2.2.2.2.2.2.1 s.2.2.2.2.2.2.2.2.2.1 s.2.2.2.2.2.2.2.2.2.2.1 s.2.2.2.2.2.2.2.2.2.2.2.1 s.2.2.2.2.2.2.2.2.2.2.2.2.1 s.2.2.2.2.2.2.2.2.2.2.2.2.2.1 s.2.2.2.2.2.2.2.2.2.2.2.2.2.2.1 s.2.2.2.2.2.2.2.2.2.2.2.2.2.2.2.1 s.2.2.2.2.2.2.2.2.2.2.2.2.2.2.2.2.1 s.2.2.2.2.2.2.2.2.2.2.2.2.2.2.2.2.2.1 s.2.2.2.2.2.2.2.2.2.2.2.2.2.2.2.2.2.2.1 s.2.2.2.2.2.2.2.2.2.2.2.2.2.2.2.2.2.2.2.1 s.2.2.2.2.2.2.2.2.2.2.2.2.2.2.2.2.2.2.2.2.1 s.2.2.2.2.2.2.2.2.2.2.2.2.2.2.2.2.2.2.2.2.2.1 s.2.2.2.2.2.2.2.2.2.2.2.2.2.2.2.2.2.2.2.2.2.2.1 s.2.2.2.2.2.2.2.2.2.2.2.2.2.2.2.2.2.2.2.2.2.2.2.1 s.2.2.2.2.2.2.2.2.2.2.2.2.2.2.2.2.2.2.2.2.2.2.2.2.1 s.2.2.2.2.2.2.2.2.2.2.2.2.2.2.2.2.2.2.2.2.2.2.2.2.2.1 s.2.2.2.2.2.2.2.2.2.2.2.2.2.2.2.2.2.2.2.2.2.2.2.2.2.2
def ZM (i11 i12 : Int) (l7 l8 : List AV) (i13 : Int) : T3 -> Fr := fun (i0, b0, i1, l0, l1, b1, b2, b3, i2, i3, l2, l3, b4, b5, b6, i4, i5, l4, l5, b7, b8, i6, i7, i8, i9, i10, l6) => (aT 63 [(3, .ptr 0 [] 65 0), (6, .ptr 1 [] 71 0), (7, .ptr 2 [] 120 0), (9, .int .i64 i0)] [])
def XT (i11 i12 : Int) (l7 l8 : List AV) (i13 : Int) : T3 -> Mm := fun (i0, b0, i1, l0, l1, b1, b2, b3, i2, i3, l2, l3, b4, b5, b6, i4, i5, l4, l5, b7, b8, i6, i7, i8, i9, i10, l6) => ⟨[.var 65 (aO b0 i1 l0 l1 b1 b2 b3 i2 i3 l2 l3 b4 b5 b6 i4 i5 l4 l5 b7 b8 i6 i7 i8 i9 i10 l6), .var 71 (Ea), .var 120 (mD i11 i12 l7 l8 i13)], [(1, [0, 0, 4]), (1, [0, 0, 5]), (1, [0, 1, 0])]⟩
def Q6 (F : Tab) (i11 i12 : Int) (l7 l8 : List AV) (i13 : Int) (fuel : Nat) (i0 : Int) (b0 : Bool) (i1 : Int) (l0 l1 : List AV) (b1 b2 b3 : Bool) (i2 i3 : Int) (l2 l3 : List AV) (b4 b5 b6 : Bool) (i4 i5 : Int) (l4 l5 : List AV) (b7 b8 : Bool) (i6 i7 i8 i9 i10 : Int) (l6 : List AV) : LO := Tr.run (uU F i11 i12 l7 l8 i13) fuel (i0, b0, i1, l0, l1, b1, b2, b3, i2, i3, l2, l3, b4, b5, b6, i4, i5, l4, l5, b7, b8, i6, i7, i8, i9, i10, l6)
def JR (i11 i12 : Int) (l7 l8 : List AV) (i13 : Int) (lo : LO) : LT :=
 .br (lo.k == 1) (.done (.exit 2) (aT 63 [(3, .ptr 0 [] 65 0), (6, .ptr 1 [] 71 0), (7, .ptr 2 [] 120 0)] []) ⟨[.var 65 (aO (lo.B 0) (lo.I 0) (lo.L 0) (lo.L 1) (lo.B 1) (lo.B 2) (lo.B 3) (lo.I 1) (lo.I 2) (lo.L 2) (lo.L 3) (lo.B 4) (lo.B 5) (lo.B 6) (lo.I 3) (lo.I 4) (lo.L 4) (lo.L 5) (lo.B 7) (lo.B 8) (lo.I 5) (lo.I 6) (lo.I 7) (lo.I 8) (lo.I 9) (lo.L 6)), .var 71 (Ea), .var 120 (mD i11 i12 l7 l8 i13)], [(1, [0, 0, 4]), (1, [0, 0, 5]), (1, [0, 1, 0])]⟩) (.fail)
def AY : StP := ⟨63, [(3, .ptr 0 [] 65 (some 0)), (6, .ptr 1 [] 71 (some 0)), (7, .ptr 2 [] 120 (some 0)), (9, .int .i64)], [], [.var 65 (RB), .var 71 (kp8), .var 120 (.agg 119 [.agg 117 [.int .i64, .int .i64, .slice 57 false, .slice 3 false], .int .i64])], [(1, [0, 0, 4]), (1, [0, 0, 5]), (1, [0, 1, 0])]⟩
abbrev acB {α : Type} (f : Int -> Int -> List AV -> List AV -> Int -> T3 -> α) (fr : Fr) (M : Mm) : α := f (aj (pA (pA (vR M 2) 0) 0)) (aj (pA (pA (vR M 2) 0) 1)) (ay (pA (pA (vR M 2) 0) 2)) (ay (pA (pA (vR M 2) 0) 3)) (aj (pA (vR M 2) 1)) ((aj (tA fr 9)), (av (pA (pA (vR M 0) 0) 0)), (aj (pA (pA (pA (vR M 0) 0) 1) 0)), (au (pA (pA (pA (vR M 0) 0) 1) 1)), (au (pA (pA (pA (vR M 0) 0) 1) 2)), (av (pA (pA (pA (vR M 0) 0) 1) 3)), (av (pA (pA (pA (vR M 0) 0) 1) 4)), (av (pA (pA (pA (vR M 0) 0) 1) 5)), (aj (pA (pA (pA (vR M 0) 0) 1) 6)), (aj (pA (pA (pA (vR M 0) 0) 2) 0)), (au (pA (pA (pA (vR M 0) 0) 2) 1)), (au (pA (pA (pA (vR M 0) 0) 2) 2)), (av (pA (pA (pA (vR M 0) 0) 2) 3)), (av (pA (pA (pA (vR M 0) 0) 2) 4)), (av (pA (pA (pA (vR M 0) 0) 2) 5)), (aj (pA (pA (pA (vR M 0) 0) 2) 6)), (aj (pA (pA (vR M 0) 0) 3)), (ay (pA (pA (vR M 0) 0) 4)), (ay (pA (pA (vR M 0) 0) 5)), (av (pA (pA (vR M 0) 0) 6)), (av (pA (pA (pA (vR M 0) 0) 7) 0)), (aj (pA (pA (pA (vR M 0) 0) 7) 1)), (aj (pA (pA (pA (vR M 0) 0) 7) 2)), (aj (pA (pA (vR M 0) 0) 8)), (aj (pA (pA (vR M 0) 0) 9)), (aj (pA (pA (vR M 0) 0) 10)), (ay (pA (pA (vR M 0) 1) 0)))
def P9 (F : Tab) (i11 i12 : Int) (l7 l8 : List AV) (i13 : Int) (s : T3) : LT := JR i11 i12 l7 l8 i13 (Tr.run (uU F i11 i12 l7 l8 i13) 100000 s)
def Ol (F : Tab) (dep : Nat) (fr : Fr) (M : Mm) : Option LT := if AY.ok fr M then some (acB (P9 F) fr M) else none
def Ob (F : Tab) (i0 : Int) (l0 : List AV) (i1 i2 : Int) : Tr (Int × Int) :=
    .br (decide ((0 : Int) <= i2))
     (.br (aC Pg F 55 [aB l0, .int .i64 (IntKind.i64.wrap (i0 + i2))])
      (.next (aL .or .u32 (IntKind.u32.wrap (i1 * 256)) (IntKind.u32.wrap (aj (aA F 55 [aB l0, .int .i64 (IntKind.i64.wrap (i0 + i2))]))), IntKind.i64.wrap (i2 - 1)))
      (.bad))
     (.out ⟨1, [i1], [], [], [], [], []⟩)
def nZ (F : Tab) (i0 : Int) (l0 : List AV) (s : Int × Int) : Tr (Int × Int) := Ob F i0 l0 s.1 s.2
def VU (i0 : Int) (l0 : List AV) : Int × Int -> Fr := fun (i1, i2) => (aT 34 [(1, .int .i64 i0), (3, .ptr 0 [] 29 0), (6, .ptr 1 [] 75 0), (8, .int .u32 i1), (9, .int .i64 i2)] [])
def VN (i0 : Int) (l0 : List AV) : Int × Int -> Mm := fun (i1, i2) => ⟨[.var 29 (aB l0), .var 75 (.agg 74 [.int .u32 0, .bool false])], []⟩
def Gy (F : Tab) (i0 : Int) (l0 : List AV) (fuel : Nat) (i1 i2 : Int) : LO := Tr.run (nZ F i0 l0) fuel (i1, i2)
def Ky (i0 : Int) (l0 : List AV) (lo : LO) : LT :=
 .br (lo.k == 1) (.done (.exit 0) (aT 34 [(6, .ptr 1 [] 75 0), (8, .int .u32 (lo.I 0))] []) ⟨[.var 29 (aB l0), .var 75 (.agg 74 [.int .u32 0, .bool false])], []⟩) (.fail)
def Dz : StP := ⟨34, [(1, .int .i64), (3, .ptr 0 [] 29 (some 0)), (6, .ptr 1 [] 75 (some 0)), (8, .int .u32), (9, .int .i64)], [], [.var 29 (.agg 28 [.slice 139 false]), .var 75 (.agg 74 [.intC .u32 0, .boolC false])], []⟩
abbrev ad2 {α : Type} (f : Int -> List AV -> (Int × Int) -> α) (fr : Fr) (M : Mm) : α := f (aj (tA fr 1)) (ay (pA (vR M 0) 0)) ((aj (tA fr 8)), (aj (tA fr 9)))
def OI (F : Tab) (i0 : Int) (l0 : List AV) (s : Int × Int) : LT := Ky i0 l0 (Tr.run (nZ F i0 l0) 100000 s)
def P5 (F : Tab) (dep : Nat) (fr : Fr) (M : Mm) : Option LT := if Dz.ok fr M then some (ad2 (OI F) fr M) else none
def Rf (F : Tab) (l1 : List AV) (n0 : Nat) (i1 i2 i3 : Int) (n1 : Nat) (i4 i5 i6 : Int) (n2 : Nat) (i0 : Int) (l0 l2 : List AV) : Tr (T4) :=
    .br (decide ((0 : Int) < ((l0.length : Nat) : Int)))
     (.br (aN (IntKind.i64.wrap (i0.tdiv 128)) n2)
      (.br ((decide ((0 : Int) <= (i0.tmod 128))) && (decide ((i0.tmod 128) <= 128)))
       (.br (cond ((decide ((0 : Int) <= ((min l0.length (128 - ((i0.tmod 128).toNat)) : Nat) : Int))) && (decide (((min l0.length (128 - ((i0.tmod 128).toNat)) : Nat) : Int) <= ((l0.length : Nat) : Int)))) true false)
        (.next (IntKind.i64.wrap (i0 + ((min l0.length (128 - ((i0.tmod 128).toNat)) : Nat) : Int)), sub l0 (((min l0.length (128 - ((i0.tmod 128).toNat)) : Nat) : Int).toNat) l0.length, l2.set (0 + ((IntKind.i64.wrap (i0.tdiv 128)).toNat)) (.agg (jo (l2.getD (0 + ((IntKind.i64.wrap (i0.tdiv 128)).toNat)) .dead)) (((au (l2.getD (0 + ((IntKind.i64.wrap (i0.tdiv 128)).toNat)) .dead)).take ((i0.tmod 128).toNat)) ++ ((l0.take (min l0.length (128 - ((i0.tmod 128).toNat)))) ++ ((au (l2.getD (0 + ((IntKind.i64.wrap (i0.tdiv 128)).toNat)) .dead)).drop (((i0.tmod 128).toNat) + (min l0.length (128 - ((i0.tmod 128).toNat))))))))))
        (.bad))
       (.bad))
      (.bad))
     (.out ⟨1, [], [], [l2], [], [], []⟩)
def yg (F : Tab) (l1 : List AV) (n0 : Nat) (i1 i2 i3 : Int) (n1 : Nat) (i4 i5 i6 : Int) (n2 : Nat) (s : T4) : Tr (T4) := Rf F l1 n0 i1 i2 i3 n1 i4 i5 i6 n2 s.1 s.2.1 s.2.2
def Sy (l1 : List AV) (n0 : Nat) (i1 i2 i3 : Int) (n1 : Nat) (i4 i5 i6 : Int) (n2 : Nat) : T4 -> Fr := fun (i0, l0, l2) => (aT 26 [(1, .int .i64 i0), (2, .slice 5 l0 false), (3, .ptr 7 [] 141 0)] [])
def Ud (l1 : List AV) (n0 : Nat) (i1 i2 i3 : Int) (n1 : Nat) (i4 i5 i6 : Int) (n2 : Nat) : T4 -> Mm := fun (i0, l0, l2) => ⟨[.var 29 (aB l1), .var 29 (aB []), .arr 139 l2, .var 141 (.agg 140 [.msl 2 [] 139 0 0 n0]), .var 57 (bq i1 i2 i3), .var 141 (.agg 140 [.msl 2 [] 139 0 0 n1]), .var 57 (bq i4 i5 i6), .var 141 (.agg 140 [.msl 2 [] 139 0 0 n2])], [(1, [0])]⟩
def Gj (F : Tab) (l1 : List AV) (n0 : Nat) (i1 i2 i3 : Int) (n1 : Nat) (i4 i5 i6 : Int) (n2 : Nat) (fuel : Nat) (i0 : Int) (l0 l2 : List AV) : LO := Tr.run (yg F l1 n0 i1 i2 i3 n1 i4 i5 i6 n2) fuel (i0, l0, l2)
def Ni (l1 : List AV) (n0 : Nat) (i1 i2 i3 : Int) (n1 : Nat) (i4 i5 i6 : Int) (n2 : Nat) (lo : LO) : LT :=
 .br (lo.k == 1) (.done (.exit 0) (aT 26 [] []) ⟨[.var 29 (aB l1), .var 29 (aB []), .arr 139 (lo.L 0), .var 141 (.agg 140 [.msl 2 [] 139 0 0 n0]), .var 57 (bq i1 i2 i3), .var 141 (.agg 140 [.msl 2 [] 139 0 0 n1]), .var 57 (bq i4 i5 i6), .var 141 (.agg 140 [.msl 2 [] 139 0 0 n2])], [(1, [0])]⟩) (.fail)
def Dq : StP := ⟨26, [(1, .int .i64), (2, .slice 5 false), (3, .ptr 7 [] 141 (some 0))], [], [.var 29 (.agg 28 [.slice 139 false]), .var 29 (.agg 28 [.sliceL 139 [] false]), .arr 139, .var 141 (.agg 140 [.msl 2 [] 139 (some 0) (some 0) none]), .var 57 (.agg 56 [.int .i64, .int .i64, .int .u32]), .var 141 (.agg 140 [.msl 2 [] 139 (some 0) (some 0) none]), .var 57 (.agg 56 [.int .i64, .int .i64, .int .u32]), .var 141 (.agg 140 [.msl 2 [] 139 (some 0) (some 0) none])], [(1, [0])]⟩
abbrev aaP {α : Type} (f : List AV -> Nat -> Int -> Int -> Int -> Nat -> Int -> Int -> Int -> Nat -> T4 -> α) (fr : Fr) (M : Mm) : α := f (ay (pA (vR M 0) 0)) (nX (pA (vR M 3) 0)) (aj (pA (vR M 4) 0)) (aj (pA (vR M 4) 1)) (aj (pA (vR M 4) 2)) (nX (pA (vR M 5) 0)) (aj (pA (vR M 6) 0)) (aj (pA (vR M 6) 1)) (aj (pA (vR M 6) 2)) (nX (pA (vR M 7) 0)) ((aj (tA fr 1)), (ay (tA fr 2)), (nD (oR M 2)))
def QI (F : Tab) (l1 : List AV) (n0 : Nat) (i1 i2 i3 : Int) (n1 : Nat) (i4 i5 i6 : Int) (n2 : Nat) (s : T4) : LT := Ni l1 n0 i1 i2 i3 n1 i4 i5 i6 n2 (Tr.run (yg F l1 n0 i1 i2 i3 n1 i4 i5 i6 n2) 100000 s)
def K7 (F : Tab) (dep : Nat) (fr : Fr) (M : Mm) : Option LT := if Dq.ok fr M then some (aaP (QI F) fr M) else none
def Ik (F : Tab) (n0 : Nat) (l0 : List AV) (i0 : Int) (l1 : List AV) (n1 : Nat) (i1 : Int) (l2 : List AV) : Tr (Int × List AV) :=
    let x0 : Bool := ((aj ((au (l0.getD i1.toNat .dead)).getD 0 .dead)).tmod (aj ((au (l0.getD i1.toNat .dead)).getD 1 .dead))) == 0;
    let x1 : Bool := !(decide ((aj ((au (l0.getD i1.toNat .dead)).getD 0 .dead)) <= (IntKind.i64.wrap ((IntKind.i64.wrap (((n0 : Nat) : Int) * 128)) - (aj ((au (l0.getD i1.toNat .dead)).getD 1 .dead))))));
    let x2 : Bool := cond ((decide ((0 : Int) <= (aj ((au (l0.getD i1.toNat .dead)).getD 1 .dead)))) && (decide ((aj ((au (l0.getD i1.toNat .dead)).getD 1 .dead)) <= 4))) true false;
    let x3 : LO := Gj F l1 n1 (aj ((au (l0.getD i1.toNat .dead)).getD 0 .dead)) (aj ((au (l0.getD i1.toNat .dead)).getD 1 .dead)) (aj ((au (l0.getD i1.toNat .dead)).getD 2 .dead)) n0 (aj ((au (l0.getD i1.toNat .dead)).getD 0 .dead)) (aj ((au (l0.getD i1.toNat .dead)).getD 1 .dead)) (aj ((au (l0.getD i1.toNat .dead)).getD 2 .dead)) n0 100000 (aj ((au (l0.getD i1.toNat .dead)).getD 0 .dead)) (sub [.int .u8 (IntKind.u8.wrap (aj ((au (l0.getD i1.toNat .dead)).getD 2 .dead))), .int .u8 (IntKind.u8.wrap ((aj ((au (l0.getD i1.toNat .dead)).getD 2 .dead)).fdiv 256)), .int .u8 (IntKind.u8.wrap ((aj ((au (l0.getD i1.toNat .dead)).getD 2 .dead)).fdiv 65536)), .int .u8 (IntKind.u8.wrap ((aj ((au (l0.getD i1.toNat .dead)).getD 2 .dead)).fdiv 16777216))] 0 ((aj ((au (l0.getD i1.toNat .dead)).getD 1 .dead)).toNat)) l2;
    let x4 : List AV := x3.l.getD 0 [];
    let x5 : Bool := x3.k == 1;
    .br (decide (i1 < i0))
     (.br (aN i1 l0.length)
      (.br ((aj ((au (l0.getD i1.toNat .dead)).getD 1 .dead)) == 1)
       (.br (decide ((0 : Int) <= (aj ((au (l0.getD i1.toNat .dead)).getD 0 .dead))))
        (.br (!((aj ((au (l0.getD i1.toNat .dead)).getD 1 .dead)) == 0))
         (.br x0
          (.br x1
           (.out ⟨1, [], [], [l2], [], [], []⟩)
           (.br x2
            (.br x5
             (.next (IntKind.i64.wrap (i1 + 1), x4))
             (.bad))
            (.bad)))
          (.out ⟨1, [], [], [l2], [], [], []⟩))
         (.bad))
        (.out ⟨1, [], [], [l2], [], [], []⟩))
       (.br ((aj ((au (l0.getD i1.toNat .dead)).getD 1 .dead)) == 4)
        (.br (decide ((0 : Int) <= (aj ((au (l0.getD i1.toNat .dead)).getD 0 .dead))))
         (.br (!((aj ((au (l0.getD i1.toNat .dead)).getD 1 .dead)) == 0))
          (.br x0
           (.br x1
            (.out ⟨1, [], [], [l2], [], [], []⟩)
            (.br x2
             (.br x5
              (.next (IntKind.i64.wrap (i1 + 1), x4))
              (.bad))
             (.bad)))
           (.out ⟨1, [], [], [l2], [], [], []⟩))
          (.bad))
         (.out ⟨1, [], [], [l2], [], [], []⟩))
        (.out ⟨1, [], [], [l2], [], [], []⟩)))
      (.bad))
     (.out ⟨2, [], [], [l2], [], [], []⟩)
def qF (F : Tab) (n0 : Nat) (l0 : List AV) (i0 : Int) (l1 : List AV) (n1 : Nat) (s : Int × List AV) : Tr (Int × List AV) := Ik F n0 l0 i0 l1 n1 s.1 s.2
def U7 (n0 : Nat) (l0 : List AV) (i0 : Int) (l1 : List AV) (n1 : Nat) : Int × List AV -> Fr := fun (i1, l2) => (aT 31 [(2, .ptr 0 [] 29 0), (4, .ptr 1 [] 29 0), (6, .ptr 3 [] 141 0), (7, .func (.func 67) [.agg 140 [.msl 2 [] 139 0 0 n0]] []), (16, .slice 57 l0 false), (17, .int .i64 i0), (18, .int .i64 i1)] [])
def YQ (n0 : Nat) (l0 : List AV) (i0 : Int) (l1 : List AV) (n1 : Nat) : Int × List AV -> Mm := fun (i1, l2) => ⟨[.var 29 (aB l1), .var 29 (aB []), .arr 139 l2, .var 141 (.agg 140 [.msl 2 [] 139 0 0 n1])], [(1, [0])]⟩
def Kg (F : Tab) (n0 : Nat) (l0 : List AV) (i0 : Int) (l1 : List AV) (n1 : Nat) (fuel : Nat) (i1 : Int) (l2 : List AV) : LO := Tr.run (qF F n0 l0 i0 l1 n1) fuel (i1, l2)
def Pf (n0 : Nat) (l0 : List AV) (i0 : Int) (l1 : List AV) (n1 : Nat) (lo : LO) : LT :=
 .br (lo.k == 1) (.done .ret (aT 31 [(4, .ptr 1 [] 29 0), (5, .bool false), (6, .ptr 3 [] 141 0)] []) ⟨[.var 29 (aB l1), .var 29 (aB l1), .arr 139 (lo.L 0), .var 141 (.agg 140 [.msl 2 [] 139 0 0 n1])], []⟩) (.br (lo.k == 2) (.done (.exit 0) (aT 31 [(4, .ptr 1 [] 29 0), (6, .ptr 3 [] 141 0)] []) ⟨[.var 29 (aB l1), .var 29 (aB []), .arr 139 (lo.L 0), .var 141 (.agg 140 [.msl 2 [] 139 0 0 n1])], [(1, [0])]⟩) (.fail))
def Dy : StP := ⟨31, [(2, .ptr 0 [] 29 (some 0)), (4, .ptr 1 [] 29 (some 0)), (6, .ptr 3 [] 141 (some 0)), (7, .func 67 [.agg 140 [.msl 2 [] 139 (some 0) (some 0) none]] []), (16, .slice 57 false), (17, .int .i64), (18, .int .i64)], [], [.var 29 (.agg 28 [.slice 139 false]), .var 29 (.agg 28 [.sliceL 139 [] false]), .arr 139, .var 141 (.agg 140 [.msl 2 [] 139 (some 0) (some 0) none])], [(1, [0])]⟩
abbrev abR {α : Type} (f : Nat -> List AV -> Int -> List AV -> Nat -> (Int × List AV) -> α) (fr : Fr) (M : Mm) : α := f (nX (pA ((Hl (tA fr 7)).getD 0 .dead) 0)) (ay (tA fr 16)) (aj (tA fr 17)) (ay (pA (vR M 0) 0)) (nX (pA (vR M 3) 0)) ((aj (tA fr 18)), (nD (oR M 2)))
def Pe (F : Tab) (n0 : Nat) (l0 : List AV) (i0 : Int) (l1 : List AV) (n1 : Nat) (s : Int × List AV) : LT := Pf n0 l0 i0 l1 n1 (Tr.run (qF F n0 l0 i0 l1 n1) 100000 s)
def Oo (F : Tab) (dep : Nat) (fr : Fr) (M : Mm) : Option LT := if Nat.beq dep 5 && Dy.ok fr M then some (abR (Pe F) fr M) else none
def EI (F : Tab) (l0 l1 : List AV) (i0 : Int) (l2 : List AV) (b0 : Bool) : Tr (T5) :=
    let x0 : List AV := au (aA F 40 [aB l2, bq (aj ((au (l0.getD i0.toNat .dead)).getD 0 .dead)) (aj ((au (l0.getD i0.toNat .dead)).getD 1 .dead)) (aj ((au (l0.getD i0.toNat .dead)).getD 2 .dead))]);
    let x1 : List AV := ay ((au (x0.getD 0 .dead)).getD 0 .dead);
    let x2 : Bool := av (x0.getD 1 .dead);
    .br (decide (i0 < ((l0.length : Nat) : Int)))
     (.br (cond (aN i0 l0.length) (cond (aC Pg F 40 [aB l2, bq (aj ((au (l0.getD i0.toNat .dead)).getD 0 .dead)) (aj ((au (l0.getD i0.toNat .dead)).getD 1 .dead)) (aj ((au (l0.getD i0.toNat .dead)).getD 2 .dead))]) true false) false)
      (.br (!x2)
       (.out ⟨1, [], [x2], [x1], [], [], []⟩)
       (.next (IntKind.i64.wrap (i0 + 1), x1, x2)))
      (.bad))
     (.out ⟨2, [], [b0], [l2], [], [], []⟩)
def vP (F : Tab) (l0 l1 : List AV) (s : T5) : Tr (T5) := EI F l0 l1 s.1 s.2.1 s.2.2
def aak (l0 l1 : List AV) : T5 -> Fr := fun (i0, l2, b0) => (aT 28 [(1, .slice 57 l0 false), (2, .ptr 0 [] 29 0), (4, .ptr 1 [] 95 0), (5, .ptr 2 [] 95 0), (6, .int .i64 i0)] [])
def Vj (l0 l1 : List AV) : T5 -> Mm := fun (i0, l2, b0) => ⟨[.var 29 (aB l1), .var 95 (Ah), .var 95 (pG l2 b0)], [(1, [0, 0])]⟩
def KX (F : Tab) (l0 l1 : List AV) (fuel : Nat) (i0 : Int) (l2 : List AV) (b0 : Bool) : LO := Tr.run (vP F l0 l1) fuel (i0, l2, b0)
def Oi (l0 l1 : List AV) (lo : LO) : LT :=
 .br (lo.k == 1) (.done .ret (aT 28 [(4, .ptr 1 [] 95 0), (5, .ptr 2 [] 95 0)] []) ⟨[.var 29 (aB l1), .var 95 (pG l1 false), .var 95 (pG (lo.L 0) (lo.B 0))], []⟩) (.br (lo.k == 2) (.done (.exit 0) (aT 28 [(4, .ptr 1 [] 95 0), (5, .ptr 2 [] 95 0)] []) ⟨[.var 29 (aB l1), .var 95 (Ah), .var 95 (pG (lo.L 0) (lo.B 0))], [(1, [0, 0])]⟩) (.fail))
def CV : StP := ⟨28, [(1, .slice 57 false), (2, .ptr 0 [] 29 (some 0)), (4, .ptr 1 [] 95 (some 0)), (5, .ptr 2 [] 95 (some 0)), (6, .int .i64)], [], [.var 29 (.agg 28 [.slice 139 false]), .var 95 (.agg 94 [.agg 28 [.sliceL 139 [] false], .boolC false]), .var 95 (.agg 94 [.agg 28 [.slice 139 false], .bool])], [(1, [0, 0])]⟩
abbrev ad3 {α : Type} (f : List AV -> List AV -> T5 -> α) (fr : Fr) (M : Mm) : α := f (ay (tA fr 1)) (ay (pA (vR M 0) 0)) ((aj (tA fr 6)), (ay (pA (pA (vR M 2) 0) 0)), (av (pA (vR M 2) 1)))
def LQ (F : Tab) (l0 l1 : List AV) (s : T5) : LT := Oi l0 l1 (Tr.run (vP F l0 l1) 100000 s)
def LP (F : Tab) (dep : Nat) (fr : Fr) (M : Mm) : Option LT := if CV.ok fr M then some (ad3 (LQ F) fr M) else none
def GQ (F : Tab) (l0 : List AV) (i1 i2 i3 : Int) (l1 : List AV) (n0 n1 : Nat) (i0 : Int) (l2 : List AV) : Tr (Int × List AV) :=
    .br (decide (i0 < i2))
     (.br (cond (decide ((0 : Int) <= (IntKind.i64.wrap (8 * i0)))) (cond (aN (IntKind.i64.wrap ((IntKind.i64.wrap (i1 + i0)).tdiv 128)) n1) (cond (aN ((IntKind.i64.wrap (i1 + i0)).tmod 128) 128) true false) false) false)
      (.next (IntKind.i64.wrap (i0 + 1), l2.set (0 + ((IntKind.i64.wrap ((IntKind.i64.wrap (i1 + i0)).tdiv 128)).toNat)) (.agg (jo (l2.getD (0 + ((IntKind.i64.wrap ((IntKind.i64.wrap (i1 + i0)).tdiv 128)).toNat)) .dead)) ((au (l2.getD (0 + ((IntKind.i64.wrap ((IntKind.i64.wrap (i1 + i0)).tdiv 128)).toNat)) .dead)).set (((IntKind.i64.wrap (i1 + i0)).tmod 128).toNat) (.int .u8 (IntKind.u8.wrap (i3.fdiv (2 ^ min (IntKind.i64.wrap (8 * i0)).toNat 32))))))))
      (.bad))
     (.out ⟨1, [], [], [l2], [], [], []⟩)
def nV (F : Tab) (l0 : List AV) (i1 i2 i3 : Int) (l1 : List AV) (n0 n1 : Nat) (s : Int × List AV) : Tr (Int × List AV) := GQ F l0 i1 i2 i3 l1 n0 n1 s.1 s.2
def adz (l0 : List AV) (i1 i2 i3 : Int) (l1 : List AV) (n0 n1 : Nat) : Int × List AV -> Fr := fun (i0, l2) => (aT 48 [(3, .ptr 1 [] 57 0), (4, .ptr 2 [] 95 0), (6, .ptr 6 [] 29 0), (7, .int .i64 i0)] [])
def RU (l0 : List AV) (i1 i2 i3 : Int) (l1 : List AV) (n0 n1 : Nat) : Int × List AV -> Mm := fun (i0, l2) => ⟨[.var 29 (aB l0), .var 57 (bq i1 i2 i3), .var 95 (Ah), .var 29 (aB l1), .var 29 (.agg 28 [.msl 5 [] 139 0 0 n0]), .arr 139 l2, .var 29 (.agg 28 [.msl 5 [] 139 0 0 n1])], [(2, [0, 0])]⟩
def G8 (F : Tab) (l0 : List AV) (i1 i2 i3 : Int) (l1 : List AV) (n0 n1 : Nat) (fuel : Nat) (i0 : Int) (l2 : List AV) : LO := Tr.run (nV F l0 i1 i2 i3 l1 n0 n1) fuel (i0, l2)
def KD (l0 : List AV) (i1 i2 i3 : Int) (l1 : List AV) (n0 n1 : Nat) (lo : LO) : LT :=
 .br (lo.k == 1) (.done (.exit 0) (aT 48 [(4, .ptr 2 [] 95 0), (6, .ptr 6 [] 29 0)] []) ⟨[.var 29 (aB l0), .var 57 (bq i1 i2 i3), .var 95 (Ah), .var 29 (aB l1), .var 29 (.agg 28 [.msl 5 [] 139 0 0 n0]), .arr 139 (lo.L 0), .var 29 (.agg 28 [.msl 5 [] 139 0 0 n1])], [(2, [0, 0])]⟩) (.fail)
def Ab : StP := ⟨48, [(3, .ptr 1 [] 57 (some 0)), (4, .ptr 2 [] 95 (some 0)), (6, .ptr 6 [] 29 (some 0)), (7, .int .i64)], [], [.var 29 (.agg 28 [.slice 139 false]), .var 57 (.agg 56 [.int .i64, .int .i64, .int .u32]), .var 95 (.agg 94 [.agg 28 [.sliceL 139 [] false], .boolC false]), .var 29 (.agg 28 [.slice 139 false]), .var 29 (.agg 28 [.msl 5 [] 139 (some 0) (some 0) none]), .arr 139, .var 29 (.agg 28 [.msl 5 [] 139 (some 0) (some 0) none])], [(2, [0, 0])]⟩
abbrev XW {α : Type} (f : List AV -> Int -> Int -> Int -> List AV -> Nat -> Nat -> (Int × List AV) -> α) (fr : Fr) (M : Mm) : α := f (ay (pA (vR M 0) 0)) (aj (pA (vR M 1) 0)) (aj (pA (vR M 1) 1)) (aj (pA (vR M 1) 2)) (ay (pA (vR M 3) 0)) (nX (pA (vR M 4) 0)) (nX (pA (vR M 6) 0)) ((aj (tA fr 7)), (nD (oR M 5)))
def Rs (F : Tab) (l0 : List AV) (i1 i2 i3 : Int) (l1 : List AV) (n0 n1 : Nat) (s : Int × List AV) : LT := KD l0 i1 i2 i3 l1 n0 n1 (Tr.run (nV F l0 i1 i2 i3 l1 n0 n1) 100000 s)
def Mf (F : Tab) (dep : Nat) (fr : Fr) (M : Mm) : Option LT := if Ab.ok fr M then some (XW (Rs F) fr M) else none
def PK (F : Tab) (i0 i2 : Int) (l0 l1 : List AV) (b0 b1 b2 : Bool) (i3 : Int) (i1 : Int) : Tr (Int) :=
    .br (decide (i1 < 5))
     (.br (decide ((0 : Int) <= i1))
      (.br ((aL .and .u32 (i0.fdiv (2 ^ min i1.toNat 32)) 1) == 1)
       (.out ⟨1, [i1], [], [], [], [], []⟩)
       (.next (IntKind.i64.wrap (i1 + 1))))
      (.bad))
     (.out ⟨2, [], [], [], [], [], []⟩)
def zq (F : Tab) (i0 i2 : Int) (l0 l1 : List AV) (b0 b1 b2 : Bool) (i3 : Int) (s : Int) : Tr (Int) := PK F i0 i2 l0 l1 b0 b1 b2 i3 s
def adC (i0 i2 : Int) (l0 l1 : List AV) (b0 b1 b2 : Bool) (i3 : Int) : Int -> Fr := fun i1 => (aT 22 [(1, .int .u32 i0), (12, .int .i64 i1)] [])
def XL (i0 i2 : Int) (l0 l1 : List AV) (b0 b1 b2 : Bool) (i3 : Int) : Int -> Mm := fun i1 => ⟨[.var 26 (aG i2 l0 l1 b0 b1 b2 i3)], []⟩
def Pw (F : Tab) (i0 i2 : Int) (l0 l1 : List AV) (b0 b1 b2 : Bool) (i3 : Int) (fuel : Nat) (i1 : Int) : LO := Tr.run (zq F i0 i2 l0 l1 b0 b1 b2 i3) fuel (i1)
def Nc (i0 i2 : Int) (l0 l1 : List AV) (b0 b1 b2 : Bool) (i3 : Int) (lo : LO) : LT :=
 .br (lo.k == 1) (.done .ret (aT 22 [(4, .int .i64 (lo.I 0)), (5, .bool true)] []) ⟨[.var 26 (aG i2 l0 l1 b0 b1 b2 i3)], []⟩) (.br (lo.k == 2) (.done (.exit 0) (aT 22 [] []) ⟨[.var 26 (aG i2 l0 l1 b0 b1 b2 i3)], []⟩) (.fail))
def AQ : StP := ⟨22, [(1, .int .u32), (12, .int .i64)], [], [.var 26 (d9)], []⟩
abbrev U2 {α : Type} (f : Int -> Int -> List AV -> List AV -> Bool -> Bool -> Bool -> Int -> Int -> α) (fr : Fr) (M : Mm) : α := f (aj (tA fr 1)) (aj (pA (vR M 0) 0)) (au (pA (vR M 0) 1)) (au (pA (vR M 0) 2)) (av (pA (vR M 0) 3)) (av (pA (vR M 0) 4)) (av (pA (vR M 0) 5)) (aj (pA (vR M 0) 6)) ((aj (tA fr 12)))
def N7 (F : Tab) (i0 i2 : Int) (l0 l1 : List AV) (b0 b1 b2 : Bool) (i3 : Int) (s : Int) : LT := Nc i0 i2 l0 l1 b0 b1 b2 i3 (Tr.run (zq F i0 i2 l0 l1 b0 b1 b2 i3) 100000 s)
def Jb (F : Tab) (dep : Nat) (fr : Fr) (M : Mm) : Option LT := if AQ.ok fr M then some (U2 (N7 F) fr M) else none
def JL (F : Tab) (i0 i1 i2 : Int) (i3 i4 : Int) : Tr (Int × Int) :=
    let x0 : Int := IntKind.u32.wrap ((aj (aA F 114 [.int .u32 i1, .int .i64 i4])) + (aj (aA F 114 [.int .u32 i2, .int .i64 i4])));
    let x1 : Bool := cond (i0 == 5) (x0 == 1) false;
    let x2 : Bool := cond (i0 == 4) (cond (decide ((0 : Int) < x0)) true x1) x1;
    let x3 : Bool := cond (i0 == 3) (cond (x0 == 2) true x2) x2;
    .br (decide (i4 < 32))
     (.br (aC Pg F 114 [.int .u32 i1, .int .i64 i4])
      (.br (aC Pg F 114 [.int .u32 i2, .int .i64 i4])
       (.br (bP x3 (cond (aC Pg F 94 [.int .i64 i4]) true false) true)
        (.next (cond x3 (IntKind.u32.wrap (i3 + (aj (aA F 94 [.int .i64 i4])))) i3, IntKind.i64.wrap (i4 + 1)))
        (.bad))
       (.bad))
      (.bad))
     (.out ⟨1, [i3], [], [], [], [], []⟩)
def yx (F : Tab) (i0 i1 i2 : Int) (s : Int × Int) : Tr (Int × Int) := JL F i0 i1 i2 s.1 s.2
def aaj (i0 i1 i2 : Int) : Int × Int -> Fr := fun (i3, i4) => (aT 54 [(0, .int .i64 i0), (1, .int .u32 i1), (2, .int .u32 i2), (7, .int .u32 i3), (8, .int .i64 i4)] [])
def Sn (i0 i1 i2 : Int) : Int × Int -> Mm := fun (i3, i4) => ⟨[], []⟩
def Ph (F : Tab) (i0 i1 i2 : Int) (fuel : Nat) (i3 i4 : Int) : LO := Tr.run (yx F i0 i1 i2) fuel (i3, i4)
def Rl (i0 i1 i2 : Int) (lo : LO) : LT :=
 .br (lo.k == 1) (.done (.exit 0) (aT 54 [(7, .int .u32 (lo.I 0))] []) ⟨[], []⟩) (.fail)
def zT : StP := ⟨54, [(0, .int .i64), (1, .int .u32), (2, .int .u32), (7, .int .u32), (8, .int .i64)], [], [], []⟩
abbrev adt {α : Type} (f : Int -> Int -> Int -> (Int × Int) -> α) (fr : Fr) (M : Mm) : α := f (aj (tA fr 0)) (aj (tA fr 1)) (aj (tA fr 2)) ((aj (tA fr 7)), (aj (tA fr 8)))
def NM (F : Tab) (i0 i1 i2 : Int) (s : Int × Int) : LT := Rl i0 i1 i2 (Tr.run (yx F i0 i1 i2) 100000 s)
def Ju (F : Tab) (dep : Nat) (fr : Fr) (M : Mm) : Option LT := if zT.ok fr M then some (adt (NM F) fr M) else none
def EK (F : Tab) (i0 : Int) (i1 i2 : Int) : Tr (Int × Int) :=
    .br (decide (i2 < i0))
     (.next (IntKind.u32.wrap (2 * i1), IntKind.i64.wrap (i2 + 1)))
     (.out ⟨1, [i1], [], [], [], [], []⟩)
def uO (F : Tab) (i0 : Int) (s : Int × Int) : Tr (Int × Int) := EK F i0 s.1 s.2
def acD (i0 : Int) : Int × Int -> Fr := fun (i1, i2) => (aT 13 [(0, .int .i64 i0), (3, .int .u32 i1), (4, .int .i64 i2)] [])
def adQ (i0 : Int) : Int × Int -> Mm := fun (i1, i2) => ⟨[], []⟩
def GA (F : Tab) (i0 : Int) (fuel : Nat) (i1 i2 : Int) : LO := Tr.run (uO F i0) fuel (i1, i2)
def Qr (i0 : Int) (lo : LO) : LT :=
 .br (lo.k == 1) (.done (.exit 0) (aT 13 [(3, .int .u32 (lo.I 0))] []) ⟨[], []⟩) (.fail)
def AP : StP := ⟨13, [(0, .int .i64), (3, .int .u32), (4, .int .i64)], [], [], []⟩
abbrev SX {α : Type} (f : Int -> (Int × Int) -> α) (fr : Fr) (M : Mm) : α := f (aj (tA fr 0)) ((aj (tA fr 3)), (aj (tA fr 4)))
def Py (F : Tab) (i0 : Int) (s : Int × Int) : LT := Qr i0 (Tr.run (uO F i0) 100000 s)
def Jp (F : Tab) (dep : Nat) (fr : Fr) (M : Mm) : Option LT := if AP.ok fr M then some (SX (Py F) fr M) else none
def Fe (F : Tab) (i0 i1 : Int) (l0 l1 : List AV) (b0 b1 b2 : Bool) (i2 : Int) (l2 : List AV) (i3 : Int) (l3 l4 : List AV) (b3 b4 : Bool) (i4 : Int) (l5 : List AV) (i5 i6 : Int) (l6 l7 : List AV) (b5 b6 b7 : Bool) (i7 : Int)  : Tr (Unit) :=
    let x0 : List AV := eP (aA F 103 [aB l5, .int .u32 (aj (l7.getD 0 .dead)), .int .u32 i0, .int .i64 4, .bool b5]);
    let x1 : List AV := au (x0.getD 0 .dead);
    let x2 : Int := aj (x1.getD 0 .dead);
    let x3 : Int := aj (x1.getD 1 .dead);
    let x4 : List AV := ay (x1.getD 2 .dead);
    let x5 : List AV := ay (x1.getD 3 .dead);
    let x6 : Int := aj (x0.getD 1 .dead);
    let x7 : LO := Ca F i0 x6 x5 ((x5.length : Nat) : Int) i1 l0 l1 b0 b1 b2 i2 l2 i3 l3 l4 b3 b4 i4 l5 i5 i6 l6 l7 b5 b6 b7 i7 0 [] 0 0 0 0 0 x2 x3 x4 x5 100000 0 [];
    let x8 : LO := zC F i0 x6 x4 ((x4.length : Nat) : Int) i1 l0 l1 b0 b1 b2 i2 l2 i3 l3 l4 b3 b4 i4 i5 i6 l6 l7 b5 b6 b7 i7 0 0 0 0 0 0 x2 x3 x4 x5 100000 0 l5 [] (x7.l.getD 0 []);
    let x9 : List AV := x8.l.getD 0 [];
    let x10 : List AV := x8.l.getD 1 [];
    let x11 : List AV := x8.l.getD 2 [];
    .br (aC Pg F 103 [aB l5, .int .u32 (aj (l7.getD 0 .dead)), .int .u32 i0, .int .i64 4, .bool b5])
     (.br (x7.k == 1)
      (.br (x8.k == 1)
       (.br (x6 != 0)
        (.out ⟨1, [x2, x3, x6], [], [x9, x10, x11, x4, x5], [], [], []⟩)
        (.out ⟨2, [x2], [], [x9, x10, x11], [], [], []⟩))
       (.bad))
      (.bad))
     (.bad)
def Aw (F : Tab) (i0 i1 : Int) (l0 l1 : List AV) (b0 b1 b2 : Bool) (i2 : Int) (l2 : List AV) (i3 : Int) (l3 l4 : List AV) (b3 b4 : Bool) (i4 : Int) (l5 : List AV) (i5 i6 : Int) (l6 l7 : List AV) (b5 b6 b7 : Bool) (i7 : Int) : LO := (Fe F i0 i1 l0 l1 b0 b1 b2 i2 l2 i3 l3 l4 b3 b4 i4 l5 i5 i6 l6 l7 b5 b6 b7 i7).eval fun _ => LO.bad
def abI (i0 i1 : Int) (l0 l1 : List AV) (b0 b1 b2 : Bool) (i2 : Int) (l2 : List AV) (i3 : Int) (l3 l4 : List AV) (b3 b4 : Bool) (i4 : Int) (l5 : List AV) (i5 i6 : Int) (l6 l7 : List AV) (b5 b6 b7 : Bool) (i7 : Int) : Mm := ⟨[.var 26 (aG i1 l0 l1 b0 b1 b2 i2), .var 29 (aB l2), .var 38 (Eb), .var 63 (.agg 62 [aG i3 l3 l4 b3 false b4 i4, aB l5, .int .u32 i5, .agg 37 [.bool true, cO, aG i6 l6 l7 b5 b6 b7 i7, .int .u32 0, .slice 57 [] true, .slice 59 [] true, .bool false, aZ, .int .i64 0, .int .u32 0, .int .i64 0], oI]), .var 61 (.ptr 3 [] 63 0)], []⟩
def MZ (i0 i1 : Int) (l0 l1 : List AV) (b0 b1 b2 : Bool) (i2 : Int) (l2 : List AV) (i3 : Int) (l3 l4 : List AV) (b3 b4 : Bool) (i4 : Int) (l5 : List AV) (i5 i6 : Int) (l6 l7 : List AV) (b5 b6 b7 : Bool) (i7 : Int) (lo : LO) : LT :=
 .br (lo.k == 1) (.done (.panic (.iface 89 (dV (lo.I 2) i0 i6))) (aT 0 [] []) ⟨[.var 26 (aG i1 l0 l1 b0 b1 b2 i2), .var 29 (aB l2), .var 38 (dD), .var 63 (D8 i3 l3 l4 b3 false b4 i4 (lo.L 0) i5 true cO i6 l6 l7 b5 b6 b7 i7 0 (lo.L 1) (lo.L 2) false aZ 0 0 0 oI), .var 61 (.ptr 3 [] 63 0), .var 118 (aW (lo.I 0) (lo.I 1) (lo.L 3) (lo.L 4))], [(2, [4]), (2, [5]), (3, [3, 4]), (3, [3, 5])]⟩) (.br (lo.k == 2) (.done .ret (aT 1 [(0, .int .i64 (lo.I 0))] []) ⟨[.var 26 (aG i1 l0 l1 b0 b1 b2 i2), .var 29 (aB l2), .var 38 (dD), .var 63 (D8 i3 l3 l4 b3 false b4 i4 (lo.L 0) i5 true cO i6 l6 l7 b5 b6 b7 i7 0 (lo.L 1) (lo.L 2) false aZ 0 0 0 oI), .var 61 (.ptr 3 [] 63 0)], [(2, [4]), (2, [5]), (3, [3, 4]), (3, [3, 5])]⟩) (.fail))
def R9 (i0 i1 : Int) (l0 l1 : List AV) (b0 b1 b2 : Bool) (i2 : Int) (l2 : List AV) (i3 : Int) (l3 l4 : List AV) (b3 b4 : Bool) (i4 : Int) (l5 : List AV) (i5 i6 : Int) (l6 l7 : List AV) (b5 b6 b7 : Bool) (i7 : Int) : List AV := [.ptr 3 [] 63 0, .int .u32 i0, .int .i64 4]
def Ed : ArP := ⟨[.ptr 3 [] 63 (some 0), .int .u32, .intC .i64 4], [.var 26 (d9), .var 29 (.agg 28 [.slice 139 false]), .var 38 (EP), .var 63 (F6), .var 61 (.ptr 3 [] 63 (some 0))], []⟩
abbrev Ue {α : Type} (f : Int -> Int -> List AV -> List AV -> Bool -> Bool -> Bool -> Int -> List AV -> Int -> List AV -> List AV -> Bool -> Bool -> Int -> List AV -> Int -> Int -> List AV -> List AV -> Bool -> Bool -> Bool -> Int -> α) (args : List AV) (M : Mm) : α := f (aj (args.getD 1 .dead)) (aj (pA (vR M 0) 0)) (au (pA (vR M 0) 1)) (au (pA (vR M 0) 2)) (av (pA (vR M 0) 3)) (av (pA (vR M 0) 4)) (av (pA (vR M 0) 5)) (aj (pA (vR M 0) 6)) (ay (pA (vR M 1) 0)) (aj (pA (pA (vR M 3) 0) 0)) (au (pA (pA (vR M 3) 0) 1)) (au (pA (pA (vR M 3) 0) 2)) (av (pA (pA (vR M 3) 0) 3)) (av (pA (pA (vR M 3) 0) 5)) (aj (pA (pA (vR M 3) 0) 6)) (ay (pA (pA (vR M 3) 1) 0)) (aj (pA (vR M 3) 2)) (aj (pA (pA (pA (vR M 3) 3) 2) 0)) (au (pA (pA (pA (vR M 3) 3) 2) 1)) (au (pA (pA (pA (vR M 3) 3) 2) 2)) (av (pA (pA (pA (vR M 3) 3) 2) 3)) (av (pA (pA (pA (vR M 3) 3) 2) 4)) (av (pA (pA (pA (vR M 3) 3) 2) 5)) (aj (pA (pA (pA (vR M 3) 3) 2) 6))
def Ms (F : Tab) (i0 i1 : Int) (l0 l1 : List AV) (b0 b1 b2 : Bool) (i2 : Int) (l2 : List AV) (i3 : Int) (l3 l4 : List AV) (b3 b4 : Bool) (i4 : Int) (l5 : List AV) (i5 i6 : Int) (l6 l7 : List AV) (b5 b6 b7 : Bool) (i7 : Int) : LT := MZ i0 i1 l0 l1 b0 b1 b2 i2 l2 i3 l3 l4 b3 b4 i4 l5 i5 i6 l6 l7 b5 b6 b7 i7 (Aw F i0 i1 l0 l1 b0 b1 b2 i2 l2 i3 l3 l4 b3 b4 i4 l5 i5 i6 l6 l7 b5 b6 b7 i7)
def Jz (F : Tab) (dep : Nat) (args : List AV) (M : Mm) : Option LT := if Nat.beq dep 2 && Ed.ok args M then some (Ue (Ms F) args M) else none
def FJ (F : Tab) (i0 i1 i2 : Int) (l0 l1 : List AV) (b0 b1 b2 : Bool) (i3 : Int) (l2 : List AV) (i4 : Int) (l3 l4 : List AV) (b3 b4 : Bool) (i5 : Int) (l5 : List AV) (i6 i7 : Int) (l6 l7 : List AV) (b5 b6 b7 : Bool) (i8 i9 : Int) (l8 l9 : List AV) (i10 i11 i12 i13 i14 : Int)  : Tr (Unit) :=
    .br (decide (((l9.length + 1) * 24) <= 140737488355328))
     (.br (aC Pg F 102 [aB l5, .int .i64 i0, .int .i64 i1])
      (.out ⟨1, [aj ((eP (aA F 102 [aB l5, .int .i64 i0, .int .i64 i1])).getD 0 .dead)], [], [l9 ++ [mV i0 i1 false]], [], [], []⟩)
      (.bad))
     (.bad)
def yY (F : Tab) (i0 i1 i2 : Int) (l0 l1 : List AV) (b0 b1 b2 : Bool) (i3 : Int) (l2 : List AV) (i4 : Int) (l3 l4 : List AV) (b3 b4 : Bool) (i5 : Int) (l5 : List AV) (i6 i7 : Int) (l6 l7 : List AV) (b5 b6 b7 : Bool) (i8 i9 : Int) (l8 l9 : List AV) (i10 i11 i12 i13 i14 : Int) : LO := (FJ F i0 i1 i2 l0 l1 b0 b1 b2 i3 l2 i4 l3 l4 b3 b4 i5 l5 i6 i7 l6 l7 b5 b6 b7 i8 i9 l8 l9 i10 i11 i12 i13 i14).eval fun _ => LO.bad
def LX (i0 i1 i2 : Int) (l0 l1 : List AV) (b0 b1 b2 : Bool) (i3 : Int) (l2 : List AV) (i4 : Int) (l3 l4 : List AV) (b3 b4 : Bool) (i5 : Int) (l5 : List AV) (i6 i7 : Int) (l6 l7 : List AV) (b5 b6 b7 : Bool) (i8 i9 : Int) (l8 l9 : List AV) (i10 i11 i12 i13 i14 : Int) : Mm := ⟨[.var 26 (aG i2 l0 l1 b0 b1 b2 i3), .var 29 (aB l2), .var 38 (dD), .var 63 (dU i4 l3 l4 b3 false b4 i5 l5 i6 true cO i7 l6 l7 b5 b6 b7 i8 i9 l8 l9 false aZ 0 0 0 i10 i11 i12 i13 i14), .var 61 (.ptr 3 [] 63 0)], [(2, [4]), (2, [5]), (3, [3, 4]), (3, [3, 5])]⟩
def Mv (i0 i1 i2 : Int) (l0 l1 : List AV) (b0 b1 b2 : Bool) (i3 : Int) (l2 : List AV) (i4 : Int) (l3 l4 : List AV) (b3 b4 : Bool) (i5 : Int) (l5 : List AV) (i6 i7 : Int) (l6 l7 : List AV) (b5 b6 b7 : Bool) (i8 i9 : Int) (l8 l9 : List AV) (i10 i11 i12 i13 i14 : Int) (lo : LO) : LT :=
 .br (lo.k == 1) (.done .ret (aT 1 [(0, .int .u32 (lo.I 0))] []) ⟨(LX i0 i1 i2 l0 l1 b0 b1 b2 i3 l2 i4 l3 l4 b3 b4 i5 l5 i6 i7 l6 l7 b5 b6 b7 i8 i9 l8 (lo.L 0) i10 i11 i12 i13 i14).rows, [(3, [3, 5]), (2, [4]), (2, [5]), (3, [3, 4])]⟩) (.fail)
def Ur (i0 i1 i2 : Int) (l0 l1 : List AV) (b0 b1 b2 : Bool) (i3 : Int) (l2 : List AV) (i4 : Int) (l3 l4 : List AV) (b3 b4 : Bool) (i5 : Int) (l5 : List AV) (i6 i7 : Int) (l6 l7 : List AV) (b5 b6 b7 : Bool) (i8 i9 : Int) (l8 l9 : List AV) (i10 i11 i12 i13 i14 : Int) : List AV := [.ptr 3 [] 63 0, .int .i64 i0, .int .i64 i1]
def Eo : ArP := ⟨[.ptr 3 [] 63 (some 0), .int .i64, .int .i64], [.var 26 (d9), .var 29 (.agg 28 [.slice 139 false]), .var 38 (iF), .var 63 (jf), .var 61 (.ptr 3 [] 63 (some 0))], [(2, [4]), (2, [5]), (3, [3, 4]), (3, [3, 5])]⟩
abbrev aed {α : Type} (f : Int -> Int -> Int -> List AV -> List AV -> Bool -> Bool -> Bool -> Int -> List AV -> Int -> List AV -> List AV -> Bool -> Bool -> Int -> List AV -> Int -> Int -> List AV -> List AV -> Bool -> Bool -> Bool -> Int -> Int -> List AV -> List AV -> Int -> Int -> Int -> Int -> Int -> α) (args : List AV) (M : Mm) : α := f (aj (args.getD 1 .dead)) (aj (args.getD 2 .dead)) (aj (pA (vR M 0) 0)) (au (pA (vR M 0) 1)) (au (pA (vR M 0) 2)) (av (pA (vR M 0) 3)) (av (pA (vR M 0) 4)) (av (pA (vR M 0) 5)) (aj (pA (vR M 0) 6)) (ay (pA (vR M 1) 0)) (aj (pA (pA (vR M 3) 0) 0)) (au (pA (pA (vR M 3) 0) 1)) (au (pA (pA (vR M 3) 0) 2)) (av (pA (pA (vR M 3) 0) 3)) (av (pA (pA (vR M 3) 0) 5)) (aj (pA (pA (vR M 3) 0) 6)) (ay (pA (pA (vR M 3) 1) 0)) (aj (pA (vR M 3) 2)) (aj (pA (pA (pA (vR M 3) 3) 2) 0)) (au (pA (pA (pA (vR M 3) 3) 2) 1)) (au (pA (pA (pA (vR M 3) 3) 2) 2)) (av (pA (pA (pA (vR M 3) 3) 2) 3)) (av (pA (pA (pA (vR M 3) 3) 2) 4)) (av (pA (pA (pA (vR M 3) 3) 2) 5)) (aj (pA (pA (pA (vR M 3) 3) 2) 6)) (aj (pA (pA (vR M 3) 3) 3)) (ay (pA (pA (vR M 3) 3) 4)) (ay (pA (pA (vR M 3) 3) 5)) (aj (pA (pA (vR M 3) 4) 0)) (aj (pA (pA (vR M 3) 4) 1)) (aj (pA (pA (vR M 3) 4) 2)) (aj (pA (pA (vR M 3) 4) 3)) (aj (pA (pA (vR M 3) 4) 4))
def JQ (F : Tab) (i0 i1 i2 : Int) (l0 l1 : List AV) (b0 b1 b2 : Bool) (i3 : Int) (l2 : List AV) (i4 : Int) (l3 l4 : List AV) (b3 b4 : Bool) (i5 : Int) (l5 : List AV) (i6 i7 : Int) (l6 l7 : List AV) (b5 b6 b7 : Bool) (i8 i9 : Int) (l8 l9 : List AV) (i10 i11 i12 i13 i14 : Int) : LT := Mv i0 i1 i2 l0 l1 b0 b1 b2 i3 l2 i4 l3 l4 b3 b4 i5 l5 i6 i7 l6 l7 b5 b6 b7 i8 i9 l8 l9 i10 i11 i12 i13 i14 (yY F i0 i1 i2 l0 l1 b0 b1 b2 i3 l2 i4 l3 l4 b3 b4 i5 l5 i6 i7 l6 l7 b5 b6 b7 i8 i9 l8 l9 i10 i11 i12 i13 i14)
def QV (F : Tab) (dep : Nat) (args : List AV) (M : Mm) : Option LT := if Nat.beq dep 2 && Eo.ok args M then some (aed (JQ F) args M) else none
def FW (F : Tab) (i0 : Int) (l0 l1 : List AV) (b0 b1 b2 : Bool) (i1 : Int) (l2 : List AV) (i2 : Int) (l3 l4 : List AV) (b3 b4 : Bool) (i3 : Int) (l5 : List AV) (i4 i5 : Int) (l6 l7 : List AV) (b5 b6 b7 : Bool) (i6 : Int)  : Tr (Unit) :=
    let x0 : LO := Aw F i5 i0 l0 l1 b0 b1 b2 i1 l2 i2 l3 l4 b3 b4 i3 l5 i4 i5 l6 l7 b5 b6 b7 i6;
    let x1 : Int := x0.i.getD 0 0;
    let x2 : List AV := x0.l.getD 0 [];
    let x3 : List AV := x0.l.getD 1 [];
    let x4 : List AV := x0.l.getD 2 [];
    let x5 : LO := yY F x1 4 i0 l0 l1 b0 b1 b2 i1 l2 i2 l3 l4 b3 b4 i3 x2 i4 i5 l6 l7 b5 b6 b7 i6 0 x3 x4 0 0 0 0 0;
    let x6 : Int := x5.i.getD 0 0;
    let x7 : List AV := x5.l.getD 0 [];
    let x8 : List AV := eP (aA F 33 [.int .u32 x6]);
    let x9 : List AV := au (x8.getD 0 .dead);
    let x10 : Int := aj (x9.getD 0 .dead);
    let x11 : Int := aj (x9.getD 1 .dead);
    let x12 : Int := aj (x9.getD 2 .dead);
    let x13 : Int := aj (x9.getD 3 .dead);
    let x14 : Int := aj (x9.getD 4 .dead);
    let x15 : Bool := !(av (x8.getD 1 .dead));
    .br ((i5.tmod 4) != 0)
     (.out ⟨1, [], [], [], [], [], []⟩)
     (.br (x0.k == 1)
      (.out ⟨4, [x1, x0.i.getD 1 0, x0.i.getD 2 0], [], [x2, x3, x4, x0.l.getD 3 [], x0.l.getD 4 []], [], [], []⟩)
      (.br (x0.k == 2)
       (.br (x5.k == 1)
        (.br (aC Pg F 33 [.int .u32 x6])
         (.br (bP x15 true (bP b3 (cond (aC Pg F 72 [.int .i64 x10]) true false) true))
          (.br (cond x15 true (cond b3 (av (aA F 72 [.int .i64 x10])) false))
           (.out ⟨2, [x6, x10, x11, x12, x13, x14, x6], [], [x2, x3, x7], [], [], []⟩)
           (.out ⟨3, [x6, x10, x11, x12, x13, x14], [], [x2, x3, x7], [], [], []⟩))
          (.bad))
         (.bad))
        (.bad))
       (.bad)))
def CS (F : Tab) (i0 : Int) (l0 l1 : List AV) (b0 b1 b2 : Bool) (i1 : Int) (l2 : List AV) (i2 : Int) (l3 l4 : List AV) (b3 b4 : Bool) (i3 : Int) (l5 : List AV) (i4 i5 : Int) (l6 l7 : List AV) (b5 b6 b7 : Bool) (i6 : Int) : LO := (FW F i0 l0 l1 b0 b1 b2 i1 l2 i2 l3 l4 b3 b4 i3 l5 i4 i5 l6 l7 b5 b6 b7 i6).eval fun _ => LO.bad
def Kz (i0 : Int) (l0 l1 : List AV) (b0 b1 b2 : Bool) (i1 : Int) (l2 : List AV) (i2 : Int) (l3 l4 : List AV) (b3 b4 : Bool) (i3 : Int) (l5 : List AV) (i4 i5 : Int) (l6 l7 : List AV) (b5 b6 b7 : Bool) (i6 : Int) : Mm := ⟨[.var 26 (aG i0 l0 l1 b0 b1 b2 i1), .var 29 (aB l2), .var 38 (Eb), .var 63 (.agg 62 [aG i2 l3 l4 b3 false b4 i3, aB l5, .int .u32 i4, .agg 37 [.bool true, cO, aG i5 l6 l7 b5 b6 b7 i6, .int .u32 0, .slice 57 [] true, .slice 59 [] true, .bool false, aZ, .int .i64 0, .int .u32 0, .int .i64 0], oI]), .var 61 (.ptr 3 [] 63 0)], []⟩
def QZ (i0 : Int) (l0 l1 : List AV) (b0 b1 b2 : Bool) (i1 : Int) (l2 : List AV) (i2 : Int) (l3 l4 : List AV) (b3 b4 : Bool) (i3 : Int) (l5 : List AV) (i4 i5 : Int) (l6 l7 : List AV) (b5 b6 b7 : Bool) (i6 : Int) (lo : LO) : LT :=
 .br (lo.k == 1) (.done (.panic (.iface 89 (dV 3 i5 i5))) (aT 0 [] []) (Kz i0 l0 l1 b0 b1 b2 i1 l2 i2 l3 l4 b3 b4 i3 l5 i4 i5 l6 l7 b5 b6 b7 i6)) (.br (lo.k == 2) (.done (.panic (.iface 89 (dV 2 (lo.I 6) i5))) (aT 0 [] []) ⟨[.var 26 (aG i0 l0 l1 b0 b1 b2 i1), .var 29 (aB l2), .var 38 (dD), .var 63 (D8 i2 l3 l4 b3 false b4 i3 (lo.L 0) i4 true cO i5 l6 l7 b5 b6 b7 i6 (lo.I 0) (lo.L 1) (lo.L 2) false aZ 0 0 0 oI), .var 61 (.ptr 3 [] 63 0), .var 55 (bI (lo.I 1) (lo.I 2) (lo.I 3) (lo.I 4) (lo.I 5))], [(3, [3, 5]), (2, [4]), (2, [5]), (3, [3, 4])]⟩) (.br (lo.k == 3) (.done .ret (aT 1 [(0, .tuple [])] []) ⟨[.var 26 (aG i0 l0 l1 b0 b1 b2 i1), .var 29 (aB l2), .var 38 (dD), .var 63 (dU i2 l3 l4 b3 false b4 i3 (lo.L 0) i4 true cO i5 l6 l7 b5 b6 b7 i6 (lo.I 0) (lo.L 1) (lo.L 2) false aZ 0 0 0 (lo.I 1) (lo.I 2) (lo.I 3) (lo.I 4) (lo.I 5)), .var 61 (.ptr 3 [] 63 0)], [(3, [3, 5]), (2, [4]), (2, [5]), (3, [3, 4])]⟩) (.br (lo.k == 4) (.done (.panic (.iface 89 (dV (lo.I 2) i5 i5))) (aT 0 [] []) ⟨[.var 26 (aG i0 l0 l1 b0 b1 b2 i1), .var 29 (aB l2), .var 38 (dD), .var 63 (D8 i2 l3 l4 b3 false b4 i3 (lo.L 0) i4 true cO i5 l6 l7 b5 b6 b7 i6 0 (lo.L 1) (lo.L 2) false aZ 0 0 0 oI), .var 61 (.ptr 3 [] 63 0), .var 118 (aW (lo.I 0) (lo.I 1) (lo.L 3) (lo.L 4))], [(2, [4]), (2, [5]), (3, [3, 4]), (3, [3, 5])]⟩) (.fail))))
def acW (i0 : Int) (l0 l1 : List AV) (b0 b1 b2 : Bool) (i1 : Int) (l2 : List AV) (i2 : Int) (l3 l4 : List AV) (b3 b4 : Bool) (i3 : Int) (l5 : List AV) (i4 i5 : Int) (l6 l7 : List AV) (b5 b6 b7 : Bool) (i6 : Int) : List AV := [.ptr 3 [] 63 0]
def DU : ArP := ⟨[.ptr 3 [] 63 (some 0)], [.var 26 (d9), .var 29 (.agg 28 [.slice 139 false]), .var 38 (EP), .var 63 (F6), .var 61 (.ptr 3 [] 63 (some 0))], []⟩
abbrev aai {α : Type} (f : Int -> List AV -> List AV -> Bool -> Bool -> Bool -> Int -> List AV -> Int -> List AV -> List AV -> Bool -> Bool -> Int -> List AV -> Int -> Int -> List AV -> List AV -> Bool -> Bool -> Bool -> Int -> α) (args : List AV) (M : Mm) : α := f (aj (pA (vR M 0) 0)) (au (pA (vR M 0) 1)) (au (pA (vR M 0) 2)) (av (pA (vR M 0) 3)) (av (pA (vR M 0) 4)) (av (pA (vR M 0) 5)) (aj (pA (vR M 0) 6)) (ay (pA (vR M 1) 0)) (aj (pA (pA (vR M 3) 0) 0)) (au (pA (pA (vR M 3) 0) 1)) (au (pA (pA (vR M 3) 0) 2)) (av (pA (pA (vR M 3) 0) 3)) (av (pA (pA (vR M 3) 0) 5)) (aj (pA (pA (vR M 3) 0) 6)) (ay (pA (pA (vR M 3) 1) 0)) (aj (pA (vR M 3) 2)) (aj (pA (pA (pA (vR M 3) 3) 2) 0)) (au (pA (pA (pA (vR M 3) 3) 2) 1)) (au (pA (pA (pA (vR M 3) 3) 2) 2)) (av (pA (pA (pA (vR M 3) 3) 2) 3)) (av (pA (pA (pA (vR M 3) 3) 2) 4)) (av (pA (pA (pA (vR M 3) 3) 2) 5)) (aj (pA (pA (pA (vR M 3) 3) 2) 6))
def OH (F : Tab) (i0 : Int) (l0 l1 : List AV) (b0 b1 b2 : Bool) (i1 : Int) (l2 : List AV) (i2 : Int) (l3 l4 : List AV) (b3 b4 : Bool) (i3 : Int) (l5 : List AV) (i4 i5 : Int) (l6 l7 : List AV) (b5 b6 b7 : Bool) (i6 : Int) : LT := QZ i0 l0 l1 b0 b1 b2 i1 l2 i2 l3 l4 b3 b4 i3 l5 i4 i5 l6 l7 b5 b6 b7 i6 (CS F i0 l0 l1 b0 b1 b2 i1 l2 i2 l3 l4 b3 b4 i3 l5 i4 i5 l6 l7 b5 b6 b7 i6)
def PY (F : Tab) (dep : Nat) (args : List AV) (M : Mm) : Option LT := if Nat.beq dep 3 && DU.ok args M then some (aai (OH F) args M) else none
def F9 (F : Tab) (i0 i1 i2 : Int) (l0 l1 : List AV) (b0 b1 b2 : Bool) (i3 : Int) (l2 : List AV) (i4 : Int) (l3 l4 : List AV) (b3 b4 : Bool) (i5 : Int) (l5 : List AV) (i6 i7 : Int) (l6 l7 : List AV) (b5 b6 b7 : Bool) (i8 i9 : Int) (l8 l9 : List AV) (i10 i11 i12 i13 i14 : Int)  : Tr (Unit) :=
    let x0 : List AV := eP (aA F 103 [aB l5, .int .u32 (aj (l7.getD 0 .dead)), .int .u32 i0, .int .i64 i1, .bool b5]);
    let x1 : List AV := au (x0.getD 0 .dead);
    let x2 : Int := aj (x1.getD 0 .dead);
    let x3 : Int := aj (x1.getD 1 .dead);
    let x4 : List AV := ay (x1.getD 2 .dead);
    let x5 : List AV := ay (x1.getD 3 .dead);
    let x6 : Int := aj (x0.getD 1 .dead);
    let x7 : LO := Ca F i0 x6 x5 ((x5.length : Nat) : Int) i2 l0 l1 b0 b1 b2 i3 l2 i4 l3 l4 b3 b4 i5 l5 i6 i7 l6 l7 b5 b6 b7 i8 i9 l8 i10 i11 i12 i13 i14 x2 x3 x4 x5 100000 0 l9;
    let x8 : LO := zC F i0 x6 x4 ((x4.length : Nat) : Int) i2 l0 l1 b0 b1 b2 i3 l2 i4 l3 l4 b3 b4 i5 i6 i7 l6 l7 b5 b6 b7 i8 i9 i10 i11 i12 i13 i14 x2 x3 x4 x5 100000 0 l5 l8 (x7.l.getD 0 []);
    let x9 : List AV := x8.l.getD 0 [];
    let x10 : List AV := x8.l.getD 1 [];
    let x11 : List AV := x8.l.getD 2 [];
    .br (aC Pg F 103 [aB l5, .int .u32 (aj (l7.getD 0 .dead)), .int .u32 i0, .int .i64 i1, .bool b5])
     (.br (x7.k == 1)
      (.br (x8.k == 1)
       (.br (x6 != 0)
        (.out ⟨1, [x2, x3, x6], [], [x9, x10, x11, x4, x5], [], [], []⟩)
        (.out ⟨2, [x2], [], [x9, x10, x11], [], [], []⟩))
       (.bad))
      (.bad))
     (.bad)
def A8 (F : Tab) (i0 i1 i2 : Int) (l0 l1 : List AV) (b0 b1 b2 : Bool) (i3 : Int) (l2 : List AV) (i4 : Int) (l3 l4 : List AV) (b3 b4 : Bool) (i5 : Int) (l5 : List AV) (i6 i7 : Int) (l6 l7 : List AV) (b5 b6 b7 : Bool) (i8 i9 : Int) (l8 l9 : List AV) (i10 i11 i12 i13 i14 : Int) : LO := (F9 F i0 i1 i2 l0 l1 b0 b1 b2 i3 l2 i4 l3 l4 b3 b4 i5 l5 i6 i7 l6 l7 b5 b6 b7 i8 i9 l8 l9 i10 i11 i12 i13 i14).eval fun _ => LO.bad
def Jt (i0 i1 i2 : Int) (l0 l1 : List AV) (b0 b1 b2 : Bool) (i3 : Int) (l2 : List AV) (i4 : Int) (l3 l4 : List AV) (b3 b4 : Bool) (i5 : Int) (l5 : List AV) (i6 i7 : Int) (l6 l7 : List AV) (b5 b6 b7 : Bool) (i8 i9 : Int) (l8 l9 : List AV) (i10 i11 i12 i13 i14 : Int) : Mm := ⟨[.var 26 (aG i2 l0 l1 b0 b1 b2 i3), .var 29 (aB l2), .var 38 (dD), .var 63 (dU i4 l3 l4 b3 false b4 i5 l5 i6 true cO i7 l6 l7 b5 b6 b7 i8 i9 l8 l9 false aZ 0 0 0 i10 i11 i12 i13 i14), .var 61 (.ptr 3 [] 63 0)], [(3, [3, 5]), (2, [4]), (2, [5]), (3, [3, 4])]⟩
def Rx (i0 i1 i2 : Int) (l0 l1 : List AV) (b0 b1 b2 : Bool) (i3 : Int) (l2 : List AV) (i4 : Int) (l3 l4 : List AV) (b3 b4 : Bool) (i5 : Int) (l5 : List AV) (i6 i7 : Int) (l6 l7 : List AV) (b5 b6 b7 : Bool) (i8 i9 : Int) (l8 l9 : List AV) (i10 i11 i12 i13 i14 : Int) (lo : LO) : LT :=
 .br (lo.k == 1) (.done (.panic (.iface 89 (dV (lo.I 2) i0 i7))) (aT 0 [] []) ⟨[.var 26 (aG i2 l0 l1 b0 b1 b2 i3), .var 29 (aB l2), .var 38 (dD), .var 63 (dU i4 l3 l4 b3 false b4 i5 (lo.L 0) i6 true cO i7 l6 l7 b5 b6 b7 i8 i9 (lo.L 1) (lo.L 2) false aZ 0 0 0 i10 i11 i12 i13 i14), .var 61 (.ptr 3 [] 63 0), .var 118 (aW (lo.I 0) (lo.I 1) (lo.L 3) (lo.L 4))], [(2, [4]), (2, [5]), (3, [3, 4]), (3, [3, 5])]⟩) (.br (lo.k == 2) (.done .ret (aT 1 [(0, .int .i64 (lo.I 0))] []) ⟨(Jt i0 i1 i2 l0 l1 b0 b1 b2 i3 l2 i4 l3 l4 b3 b4 i5 (lo.L 0) i6 i7 l6 l7 b5 b6 b7 i8 i9 (lo.L 1) (lo.L 2) i10 i11 i12 i13 i14).rows, [(2, [4]), (2, [5]), (3, [3, 4]), (3, [3, 5])]⟩) (.fail))
def WW (i0 i1 i2 : Int) (l0 l1 : List AV) (b0 b1 b2 : Bool) (i3 : Int) (l2 : List AV) (i4 : Int) (l3 l4 : List AV) (b3 b4 : Bool) (i5 : Int) (l5 : List AV) (i6 i7 : Int) (l6 l7 : List AV) (b5 b6 b7 : Bool) (i8 i9 : Int) (l8 l9 : List AV) (i10 i11 i12 i13 i14 : Int) : List AV := [.ptr 3 [] 63 0, .int .u32 i0, .int .i64 i1]
def El : ArP := ⟨[.ptr 3 [] 63 (some 0), .int .u32, .int .i64], [.var 26 (d9), .var 29 (.agg 28 [.slice 139 false]), .var 38 (iF), .var 63 (jf), .var 61 (.ptr 3 [] 63 (some 0))], [(3, [3, 5]), (2, [4]), (2, [5]), (3, [3, 4])]⟩
abbrev Tn {α : Type} (f : Int -> Int -> Int -> List AV -> List AV -> Bool -> Bool -> Bool -> Int -> List AV -> Int -> List AV -> List AV -> Bool -> Bool -> Int -> List AV -> Int -> Int -> List AV -> List AV -> Bool -> Bool -> Bool -> Int -> Int -> List AV -> List AV -> Int -> Int -> Int -> Int -> Int -> α) (args : List AV) (M : Mm) : α := f (aj (args.getD 1 .dead)) (aj (args.getD 2 .dead)) (aj (pA (vR M 0) 0)) (au (pA (vR M 0) 1)) (au (pA (vR M 0) 2)) (av (pA (vR M 0) 3)) (av (pA (vR M 0) 4)) (av (pA (vR M 0) 5)) (aj (pA (vR M 0) 6)) (ay (pA (vR M 1) 0)) (aj (pA (pA (vR M 3) 0) 0)) (au (pA (pA (vR M 3) 0) 1)) (au (pA (pA (vR M 3) 0) 2)) (av (pA (pA (vR M 3) 0) 3)) (av (pA (pA (vR M 3) 0) 5)) (aj (pA (pA (vR M 3) 0) 6)) (ay (pA (pA (vR M 3) 1) 0)) (aj (pA (vR M 3) 2)) (aj (pA (pA (pA (vR M 3) 3) 2) 0)) (au (pA (pA (pA (vR M 3) 3) 2) 1)) (au (pA (pA (pA (vR M 3) 3) 2) 2)) (av (pA (pA (pA (vR M 3) 3) 2) 3)) (av (pA (pA (pA (vR M 3) 3) 2) 4)) (av (pA (pA (pA (vR M 3) 3) 2) 5)) (aj (pA (pA (pA (vR M 3) 3) 2) 6)) (aj (pA (pA (vR M 3) 3) 3)) (ay (pA (pA (vR M 3) 3) 4)) (ay (pA (pA (vR M 3) 3) 5)) (aj (pA (pA (vR M 3) 4) 0)) (aj (pA (pA (vR M 3) 4) 1)) (aj (pA (pA (vR M 3) 4) 2)) (aj (pA (pA (vR M 3) 4) 3)) (aj (pA (pA (vR M 3) 4) 4))
def Ru (F : Tab) (i0 i1 i2 : Int) (l0 l1 : List AV) (b0 b1 b2 : Bool) (i3 : Int) (l2 : List AV) (i4 : Int) (l3 l4 : List AV) (b3 b4 : Bool) (i5 : Int) (l5 : List AV) (i6 i7 : Int) (l6 l7 : List AV) (b5 b6 b7 : Bool) (i8 i9 : Int) (l8 l9 : List AV) (i10 i11 i12 i13 i14 : Int) : LT := Rx i0 i1 i2 l0 l1 b0 b1 b2 i3 l2 i4 l3 l4 b3 b4 i5 l5 i6 i7 l6 l7 b5 b6 b7 i8 i9 l8 l9 i10 i11 i12 i13 i14 (A8 F i0 i1 i2 l0 l1 b0 b1 b2 i3 l2 i4 l3 l4 b3 b4 i5 l5 i6 i7 l6 l7 b5 b6 b7 i8 i9 l8 l9 i10 i11 i12 i13 i14)
def OJ (F : Tab) (dep : Nat) (args : List AV) (M : Mm) : Option LT := if Nat.beq dep 2 && El.ok args M then some (Tn (Ru F) args M) else none
def GI (F : Tab) (i0 i1 i2 i3 : Int) (l0 l1 : List AV) (b0 b1 b2 : Bool) (i4 : Int) (l2 : List AV) (i5 : Int) (l3 l4 : List AV) (b3 b4 : Bool) (i6 : Int) (l5 : List AV) (i7 i8 : Int) (l6 l7 : List AV) (b5 b6 b7 : Bool) (i9 i10 : Int) (l8 l9 : List AV) (i11 i12 i13 i14 i15 : Int)  : Tr (Unit) :=
    .br (decide (((l9.length + 1) * 24) <= 140737488355328))
     (.br (decide (((l8.length + 1) * 24) <= 140737488355328))
      (.br (aC Pg F 104 [aB l5, bq i0 i1 i2])
       (.out ⟨1, [], [], [ay ((au ((eP (aA F 104 [aB l5, bq i0 i1 i2])).getD 0 .dead)).getD 0 .dead), l8 ++ [bq i0 i1 i2], l9 ++ [mV i0 i1 true]], [], [], []⟩)
       (.bad))
      (.bad))
     (.bad)
def xS (F : Tab) (i0 i1 i2 i3 : Int) (l0 l1 : List AV) (b0 b1 b2 : Bool) (i4 : Int) (l2 : List AV) (i5 : Int) (l3 l4 : List AV) (b3 b4 : Bool) (i6 : Int) (l5 : List AV) (i7 i8 : Int) (l6 l7 : List AV) (b5 b6 b7 : Bool) (i9 i10 : Int) (l8 l9 : List AV) (i11 i12 i13 i14 i15 : Int) : LO := (GI F i0 i1 i2 i3 l0 l1 b0 b1 b2 i4 l2 i5 l3 l4 b3 b4 i6 l5 i7 i8 l6 l7 b5 b6 b7 i9 i10 l8 l9 i11 i12 i13 i14 i15).eval fun _ => LO.bad
def Jw (i0 i1 i2 i3 : Int) (l0 l1 : List AV) (b0 b1 b2 : Bool) (i4 : Int) (l2 : List AV) (i5 : Int) (l3 l4 : List AV) (b3 b4 : Bool) (i6 : Int) (l5 : List AV) (i7 i8 : Int) (l6 l7 : List AV) (b5 b6 b7 : Bool) (i9 i10 : Int) (l8 l9 : List AV) (i11 i12 i13 i14 i15 : Int) : Mm := ⟨[.var 26 (aG i3 l0 l1 b0 b1 b2 i4), .var 29 (aB l2), .var 38 (dD), .var 63 (dU i5 l3 l4 b3 false b4 i6 l5 i7 true cO i8 l6 l7 b5 b6 b7 i9 i10 l8 l9 false aZ 0 0 0 i11 i12 i13 i14 i15), .var 61 (.ptr 3 [] 63 0)], [(3, [3, 5]), (2, [4]), (2, [5]), (3, [3, 4])]⟩
def PG (i0 i1 i2 i3 : Int) (l0 l1 : List AV) (b0 b1 b2 : Bool) (i4 : Int) (l2 : List AV) (i5 : Int) (l3 l4 : List AV) (b3 b4 : Bool) (i6 : Int) (l5 : List AV) (i7 i8 : Int) (l6 l7 : List AV) (b5 b6 b7 : Bool) (i9 i10 : Int) (l8 l9 : List AV) (i11 i12 i13 i14 i15 : Int) (lo : LO) : LT :=
 .br (lo.k == 1) (.done .ret (aT 1 [(0, .tuple [])] []) ⟨(Jw i0 i1 i2 i3 l0 l1 b0 b1 b2 i4 l2 i5 l3 l4 b3 b4 i6 (lo.L 0) i7 i8 l6 l7 b5 b6 b7 i9 i10 (lo.L 1) (lo.L 2) i11 i12 i13 i14 i15).rows, [(3, [3, 4]), (3, [3, 5]), (2, [4]), (2, [5])]⟩) (.fail)
def aaR (i0 i1 i2 i3 : Int) (l0 l1 : List AV) (b0 b1 b2 : Bool) (i4 : Int) (l2 : List AV) (i5 : Int) (l3 l4 : List AV) (b3 b4 : Bool) (i6 : Int) (l5 : List AV) (i7 i8 : Int) (l6 l7 : List AV) (b5 b6 b7 : Bool) (i9 i10 : Int) (l8 l9 : List AV) (i11 i12 i13 i14 i15 : Int) : List AV := [.ptr 3 [] 63 0, bq i0 i1 i2]
def BL : ArP := ⟨[.ptr 3 [] 63 (some 0), .agg 56 [.int .i64, .int .i64, .int .u32]], [.var 26 (d9), .var 29 (.agg 28 [.slice 139 false]), .var 38 (iF), .var 63 (jf), .var 61 (.ptr 3 [] 63 (some 0))], [(3, [3, 5]), (2, [4]), (2, [5]), (3, [3, 4])]⟩
abbrev Sj {α : Type} (f : Int -> Int -> Int -> Int -> List AV -> List AV -> Bool -> Bool -> Bool -> Int -> List AV -> Int -> List AV -> List AV -> Bool -> Bool -> Int -> List AV -> Int -> Int -> List AV -> List AV -> Bool -> Bool -> Bool -> Int -> Int -> List AV -> List AV -> Int -> Int -> Int -> Int -> Int -> α) (args : List AV) (M : Mm) : α := f (aj (pA (args.getD 1 .dead) 0)) (aj (pA (args.getD 1 .dead) 1)) (aj (pA (args.getD 1 .dead) 2)) (aj (pA (vR M 0) 0)) (au (pA (vR M 0) 1)) (au (pA (vR M 0) 2)) (av (pA (vR M 0) 3)) (av (pA (vR M 0) 4)) (av (pA (vR M 0) 5)) (aj (pA (vR M 0) 6)) (ay (pA (vR M 1) 0)) (aj (pA (pA (vR M 3) 0) 0)) (au (pA (pA (vR M 3) 0) 1)) (au (pA (pA (vR M 3) 0) 2)) (av (pA (pA (vR M 3) 0) 3)) (av (pA (pA (vR M 3) 0) 5)) (aj (pA (pA (vR M 3) 0) 6)) (ay (pA (pA (vR M 3) 1) 0)) (aj (pA (vR M 3) 2)) (aj (pA (pA (pA (vR M 3) 3) 2) 0)) (au (pA (pA (pA (vR M 3) 3) 2) 1)) (au (pA (pA (pA (vR M 3) 3) 2) 2)) (av (pA (pA (pA (vR M 3) 3) 2) 3)) (av (pA (pA (pA (vR M 3) 3) 2) 4)) (av (pA (pA (pA (vR M 3) 3) 2) 5)) (aj (pA (pA (pA (vR M 3) 3) 2) 6)) (aj (pA (pA (vR M 3) 3) 3)) (ay (pA (pA (vR M 3) 3) 4)) (ay (pA (pA (vR M 3) 3) 5)) (aj (pA (pA (vR M 3) 4) 0)) (aj (pA (pA (vR M 3) 4) 1)) (aj (pA (pA (vR M 3) 4) 2)) (aj (pA (pA (vR M 3) 4) 3)) (aj (pA (pA (vR M 3) 4) 4))
def Rz (F : Tab) (i0 i1 i2 i3 : Int) (l0 l1 : List AV) (b0 b1 b2 : Bool) (i4 : Int) (l2 : List AV) (i5 : Int) (l3 l4 : List AV) (b3 b4 : Bool) (i6 : Int) (l5 : List AV) (i7 i8 : Int) (l6 l7 : List AV) (b5 b6 b7 : Bool) (i9 i10 : Int) (l8 l9 : List AV) (i11 i12 i13 i14 i15 : Int) : LT := PG i0 i1 i2 i3 l0 l1 b0 b1 b2 i4 l2 i5 l3 l4 b3 b4 i6 l5 i7 i8 l6 l7 b5 b6 b7 i9 i10 l8 l9 i11 i12 i13 i14 i15 (xS F i0 i1 i2 i3 l0 l1 b0 b1 b2 i4 l2 i5 l3 l4 b3 b4 i6 l5 i7 i8 l6 l7 b5 b6 b7 i9 i10 l8 l9 i11 i12 i13 i14 i15)
def ME (F : Tab) (dep : Nat) (args : List AV) (M : Mm) : Option LT := if Nat.beq dep 2 && BL.ok args M then some (Sj (Rz F) args M) else none
def Fg (F : Tab) (i0 i1 i2 i3 : Int) (l0 l1 : List AV) (b0 b1 b2 : Bool) (i4 : Int) (l2 : List AV) (i5 : Int) (l3 l4 : List AV) (b3 b4 : Bool) (i6 : Int) (l5 : List AV) (i7 i8 : Int) (l6 l7 : List AV) (b5 b6 b7 : Bool) (i9 i10 : Int) (l8 l9 : List AV) (i11 i12 i13 i14 i15 : Int)  : Tr (Unit) :=
    .br (decide (((l9.length + 1) * 24) <= 140737488355328))
     (.br (decide (((l8.length + 1) * 24) <= 140737488355328))
      (.br (aC Pg F 104 [aB l5, bq i0 i1 i2])
       (.out ⟨1, [], [], [ay ((au ((eP (aA F 104 [aB l5, bq i0 i1 i2])).getD 0 .dead)).getD 0 .dead), l8 ++ [bq i0 i1 i2], l9 ++ [mV i0 i1 true]], [], [], []⟩)
       (.bad))
      (.bad))
     (.bad)
def Cq (F : Tab) (i0 i1 i2 i3 : Int) (l0 l1 : List AV) (b0 b1 b2 : Bool) (i4 : Int) (l2 : List AV) (i5 : Int) (l3 l4 : List AV) (b3 b4 : Bool) (i6 : Int) (l5 : List AV) (i7 i8 : Int) (l6 l7 : List AV) (b5 b6 b7 : Bool) (i9 i10 : Int) (l8 l9 : List AV) (i11 i12 i13 i14 i15 : Int) : LO := (Fg F i0 i1 i2 i3 l0 l1 b0 b1 b2 i4 l2 i5 l3 l4 b3 b4 i6 l5 i7 i8 l6 l7 b5 b6 b7 i9 i10 l8 l9 i11 i12 i13 i14 i15).eval fun _ => LO.bad
def M8 (i0 i1 i2 i3 : Int) (l0 l1 : List AV) (b0 b1 b2 : Bool) (i4 : Int) (l2 : List AV) (i5 : Int) (l3 l4 : List AV) (b3 b4 : Bool) (i6 : Int) (l5 : List AV) (i7 i8 : Int) (l6 l7 : List AV) (b5 b6 b7 : Bool) (i9 i10 : Int) (l8 l9 : List AV) (i11 i12 i13 i14 i15 : Int) : Mm := ⟨[.var 26 (aG i3 l0 l1 b0 b1 b2 i4), .var 29 (aB l2), .var 38 (dD), .var 63 (dU i5 l3 l4 b3 false b4 i6 l5 i7 true cO i8 l6 l7 b5 b6 b7 i9 i10 l8 l9 false aZ 0 0 0 i11 i12 i13 i14 i15), .var 61 (.ptr 3 [] 63 0)], [(2, [4]), (2, [5]), (3, [3, 4]), (3, [3, 5])]⟩
def Mi (i0 i1 i2 i3 : Int) (l0 l1 : List AV) (b0 b1 b2 : Bool) (i4 : Int) (l2 : List AV) (i5 : Int) (l3 l4 : List AV) (b3 b4 : Bool) (i6 : Int) (l5 : List AV) (i7 i8 : Int) (l6 l7 : List AV) (b5 b6 b7 : Bool) (i9 i10 : Int) (l8 l9 : List AV) (i11 i12 i13 i14 i15 : Int) (lo : LO) : LT :=
 .br (lo.k == 1) (.done .ret (aT 1 [(0, .tuple [])] []) ⟨(M8 i0 i1 i2 i3 l0 l1 b0 b1 b2 i4 l2 i5 l3 l4 b3 b4 i6 (lo.L 0) i7 i8 l6 l7 b5 b6 b7 i9 i10 (lo.L 1) (lo.L 2) i11 i12 i13 i14 i15).rows, [(3, [3, 4]), (3, [3, 5]), (2, [4]), (2, [5])]⟩) (.fail)
def aei (i0 i1 i2 i3 : Int) (l0 l1 : List AV) (b0 b1 b2 : Bool) (i4 : Int) (l2 : List AV) (i5 : Int) (l3 l4 : List AV) (b3 b4 : Bool) (i6 : Int) (l5 : List AV) (i7 i8 : Int) (l6 l7 : List AV) (b5 b6 b7 : Bool) (i9 i10 : Int) (l8 l9 : List AV) (i11 i12 i13 i14 i15 : Int) : List AV := [.ptr 3 [] 63 0, bq i0 i1 i2]
def zU : ArP := ⟨[.ptr 3 [] 63 (some 0), .agg 56 [.int .i64, .int .i64, .int .u32]], [.var 26 (d9), .var 29 (.agg 28 [.slice 139 false]), .var 38 (iF), .var 63 (jf), .var 61 (.ptr 3 [] 63 (some 0))], [(2, [4]), (2, [5]), (3, [3, 4]), (3, [3, 5])]⟩
abbrev aaV {α : Type} (f : Int -> Int -> Int -> Int -> List AV -> List AV -> Bool -> Bool -> Bool -> Int -> List AV -> Int -> List AV -> List AV -> Bool -> Bool -> Int -> List AV -> Int -> Int -> List AV -> List AV -> Bool -> Bool -> Bool -> Int -> Int -> List AV -> List AV -> Int -> Int -> Int -> Int -> Int -> α) (args : List AV) (M : Mm) : α := f (aj (pA (args.getD 1 .dead) 0)) (aj (pA (args.getD 1 .dead) 1)) (aj (pA (args.getD 1 .dead) 2)) (aj (pA (vR M 0) 0)) (au (pA (vR M 0) 1)) (au (pA (vR M 0) 2)) (av (pA (vR M 0) 3)) (av (pA (vR M 0) 4)) (av (pA (vR M 0) 5)) (aj (pA (vR M 0) 6)) (ay (pA (vR M 1) 0)) (aj (pA (pA (vR M 3) 0) 0)) (au (pA (pA (vR M 3) 0) 1)) (au (pA (pA (vR M 3) 0) 2)) (av (pA (pA (vR M 3) 0) 3)) (av (pA (pA (vR M 3) 0) 5)) (aj (pA (pA (vR M 3) 0) 6)) (ay (pA (pA (vR M 3) 1) 0)) (aj (pA (vR M 3) 2)) (aj (pA (pA (pA (vR M 3) 3) 2) 0)) (au (pA (pA (pA (vR M 3) 3) 2) 1)) (au (pA (pA (pA (vR M 3) 3) 2) 2)) (av (pA (pA (pA (vR M 3) 3) 2) 3)) (av (pA (pA (pA (vR M 3) 3) 2) 4)) (av (pA (pA (pA (vR M 3) 3) 2) 5)) (aj (pA (pA (pA (vR M 3) 3) 2) 6)) (aj (pA (pA (vR M 3) 3) 3)) (ay (pA (pA (vR M 3) 3) 4)) (ay (pA (pA (vR M 3) 3) 5)) (aj (pA (pA (vR M 3) 4) 0)) (aj (pA (pA (vR M 3) 4) 1)) (aj (pA (pA (vR M 3) 4) 2)) (aj (pA (pA (vR M 3) 4) 3)) (aj (pA (pA (vR M 3) 4) 4))
def OD (F : Tab) (i0 i1 i2 i3 : Int) (l0 l1 : List AV) (b0 b1 b2 : Bool) (i4 : Int) (l2 : List AV) (i5 : Int) (l3 l4 : List AV) (b3 b4 : Bool) (i6 : Int) (l5 : List AV) (i7 i8 : Int) (l6 l7 : List AV) (b5 b6 b7 : Bool) (i9 i10 : Int) (l8 l9 : List AV) (i11 i12 i13 i14 i15 : Int) : LT := Mi i0 i1 i2 i3 l0 l1 b0 b1 b2 i4 l2 i5 l3 l4 b3 b4 i6 l5 i7 i8 l6 l7 b5 b6 b7 i9 i10 l8 l9 i11 i12 i13 i14 i15 (Cq F i0 i1 i2 i3 l0 l1 b0 b1 b2 i4 l2 i5 l3 l4 b3 b4 i6 l5 i7 i8 l6 l7 b5 b6 b7 i9 i10 l8 l9 i11 i12 i13 i14 i15)
def M7 (F : Tab) (dep : Nat) (args : List AV) (M : Mm) : Option LT := if Nat.beq dep 2 && zU.ok args M then some (aaV (OD F) args M) else none
def GX (F : Tab) (i0 i1 i2 : Int) (l0 l1 : List AV) (b0 b1 b2 : Bool) (i3 : Int) (l2 : List AV) (i4 : Int) (l3 l4 : List AV) (b3 b4 : Bool) (i5 : Int) (l5 : List AV) (i6 i7 : Int) (l6 l7 : List AV) (b5 b6 b7 : Bool) (i8 i9 : Int) (l8 l9 : List AV) (i10 i11 i12 i13 i14 : Int)  : Tr (Unit) :=
    let x0 : LO := A8 F (IntKind.u32.wrap ((aj (l3.getD i12.toNat .dead)) + (IntKind.u32.wrap i14))) i0 i2 l0 l1 b0 b1 b2 i3 l2 i4 l3 l4 b3 b4 i5 l5 i6 i7 l6 l7 b5 b6 b7 i8 i9 l8 l9 i10 i11 i12 i13 i14;
    let x1 : Int := x0.i.getD 0 0;
    let x2 : List AV := x0.l.getD 0 [];
    let x3 : List AV := x0.l.getD 1 [];
    let x4 : List AV := x0.l.getD 2 [];
    let x5 : LO := yY F x1 i1 i2 l0 l1 b0 b1 b2 i3 l2 i4 l3 l4 b3 b4 i5 x2 i6 i7 l6 l7 b5 b6 b7 i8 i9 x3 x4 i10 i11 i12 i13 i14;
    let x6 : List AV := x5.l.getD 0 [];
    let x7 : List AV := l3.set i11.toNat (.int .u32 (x5.i.getD 0 0));
    let x8 : LO := xS F x1 i1 (aj (l3.getD i11.toNat .dead)) i2 l0 l1 b0 b1 b2 i3 l2 i4 x7 l4 b3 b4 i5 x2 i6 i7 l6 l7 b5 b6 b7 i8 i9 x3 x6 i10 i11 i12 i13 i14;
    let x9 : LO := xS F x1 i1 (aj (l3.getD i11.toNat .dead)) i2 l0 l1 b0 b1 b2 i3 l2 i4 l3 l4 b3 b4 i5 x2 i6 i7 l6 l7 b5 b6 b7 i8 i9 x3 x6 i10 i11 i12 i13 i14;
    let x10 : LO := Cq F x1 i1 (aj (l3.getD i11.toNat .dead)) i2 l0 l1 b0 b1 b2 i3 l2 i4 l3 l4 b3 b4 i5 x2 i6 i7 l6 l7 b5 b6 b7 i8 i9 x3 x4 i10 i11 i12 i13 i14;
    .br (cond (aN i12 16) true false)
     (.br (!((IntKind.u32.wrap i1) == 0))
      (.br (((IntKind.u32.wrap ((aj (l3.getD i12.toNat .dead)) + (IntKind.u32.wrap i14))).tmod (IntKind.u32.wrap i1)) != 0)
       (.out ⟨1, [IntKind.u32.wrap ((aj (l3.getD i12.toNat .dead)) + (IntKind.u32.wrap i14))], [], [], [], [], []⟩)
       (.br (aN i11 16)
        (.br (x0.k == 1)
         (.out ⟨5, [x1, x0.i.getD 1 0, x0.i.getD 2 0, IntKind.u32.wrap ((aj (l3.getD i12.toNat .dead)) + (IntKind.u32.wrap i14))], [], [x2, x3, x4, x0.l.getD 3 [], x0.l.getD 4 []], [], [], []⟩)
         (.br (x0.k == 2)
          (.br ((oV (.int .i64 i11) (.int .i64 i11)) && ((oV (l3.getD i11.toNat .dead) (l3.getD i11.toNat .dead)) && true))
           (.br (i0 != 2)
            (.br (x5.k == 1)
             (.br (i11 != 0)
              (.br (cond (aN i11 16) true false)
               (.br (i0 != 1)
                (.br (x8.k == 1)
                 (.out ⟨2, [], [], [x7, x8.l.getD 0 [], x8.l.getD 1 [], x8.l.getD 2 []], [], [], []⟩)
                 (.bad))
                (.out ⟨3, [], [], [x7, x2, x3, x6], [], [], []⟩))
               (.bad))
              (.br (i0 != 1)
               (.br (x9.k == 1)
                (.out ⟨2, [], [], [l3, x9.l.getD 0 [], x9.l.getD 1 [], x9.l.getD 2 []], [], [], []⟩)
                (.bad))
               (.out ⟨3, [], [], [l3, x2, x3, x6], [], [], []⟩)))
             (.bad))
            (.br (i0 != 1)
             (.br (x10.k == 1)
              (.out ⟨2, [], [], [l3, x10.l.getD 0 [], x10.l.getD 1 [], x10.l.getD 2 []], [], [], []⟩)
              (.bad))
             (.out ⟨4, [], [], [x2, x3, x4], [], [], []⟩)))
           (.bad))
          (.bad)))
        (.bad)))
      (.bad))
     (.bad)
def Ai (F : Tab) (i0 i1 i2 : Int) (l0 l1 : List AV) (b0 b1 b2 : Bool) (i3 : Int) (l2 : List AV) (i4 : Int) (l3 l4 : List AV) (b3 b4 : Bool) (i5 : Int) (l5 : List AV) (i6 i7 : Int) (l6 l7 : List AV) (b5 b6 b7 : Bool) (i8 i9 : Int) (l8 l9 : List AV) (i10 i11 i12 i13 i14 : Int) : LO := (GX F i0 i1 i2 l0 l1 b0 b1 b2 i3 l2 i4 l3 l4 b3 b4 i5 l5 i6 i7 l6 l7 b5 b6 b7 i8 i9 l8 l9 i10 i11 i12 i13 i14).eval fun _ => LO.bad
def wP (i0 i1 i2 : Int) (l0 l1 : List AV) (b0 b1 b2 : Bool) (i3 : Int) (l2 : List AV) (i4 : Int) (l3 l4 : List AV) (b3 b4 : Bool) (i5 : Int) (l5 : List AV) (i6 i7 : Int) (l6 l7 : List AV) (b5 b6 b7 : Bool) (i8 i9 : Int) (l8 l9 : List AV) (i10 i11 i12 i13 i14 : Int) : Mm := ⟨[.var 26 (aG i2 l0 l1 b0 b1 b2 i3), .var 29 (aB l2), .var 38 (dD), .var 63 (dU i4 l3 l4 b3 false b4 i5 l5 i6 true cO i7 l6 l7 b5 b6 b7 i8 i9 l8 l9 false aZ 0 0 0 i10 i11 i12 i13 i14), .var 61 (.ptr 3 [] 63 0)], [(3, [3, 5]), (2, [4]), (2, [5]), (3, [3, 4])]⟩
def OW (i0 i1 i2 : Int) (l0 l1 : List AV) (b0 b1 b2 : Bool) (i3 : Int) (l2 : List AV) (i4 : Int) (l3 l4 : List AV) (b3 b4 : Bool) (i5 : Int) (l5 : List AV) (i6 i7 : Int) (l6 l7 : List AV) (b5 b6 b7 : Bool) (i8 i9 : Int) (l8 l9 : List AV) (i10 i11 i12 i13 i14 : Int) (lo : LO) : LT :=
 .br (lo.k == 1) (.done (.panic (.iface 89 (dV 3 (lo.I 0) i7))) (aT 0 [] []) (wP i0 i1 i2 l0 l1 b0 b1 b2 i3 l2 i4 l3 l4 b3 b4 i5 l5 i6 i7 l6 l7 b5 b6 b7 i8 i9 l8 l9 i10 i11 i12 i13 i14)) (.br (lo.k == 2) (.done .ret (aT 1 [(0, .tuple [])] []) ⟨(wP i0 i1 i2 l0 l1 b0 b1 b2 i3 l2 i4 (lo.L 0) l4 b3 b4 i5 (lo.L 1) i6 i7 l6 l7 b5 b6 b7 i8 i9 (lo.L 2) (lo.L 3) i10 i11 i12 i13 i14).rows, [(3, [3, 4]), (3, [3, 5]), (2, [4]), (2, [5])]⟩) (.br (lo.k == 3) (.done .ret (aT 1 [(0, .tuple [])] []) (wP i0 i1 i2 l0 l1 b0 b1 b2 i3 l2 i4 (lo.L 0) l4 b3 b4 i5 (lo.L 1) i6 i7 l6 l7 b5 b6 b7 i8 i9 (lo.L 2) (lo.L 3) i10 i11 i12 i13 i14)) (.br (lo.k == 4) (.done .ret (aT 1 [(0, .tuple [])] []) ⟨(wP i0 i1 i2 l0 l1 b0 b1 b2 i3 l2 i4 l3 l4 b3 b4 i5 (lo.L 0) i6 i7 l6 l7 b5 b6 b7 i8 i9 (lo.L 1) (lo.L 2) i10 i11 i12 i13 i14).rows, [(2, [4]), (2, [5]), (3, [3, 4]), (3, [3, 5])]⟩) (.br (lo.k == 5) (.done (.panic (.iface 89 (dV (lo.I 2) (lo.I 3) i7))) (aT 0 [] []) ⟨[.var 26 (aG i2 l0 l1 b0 b1 b2 i3), .var 29 (aB l2), .var 38 (dD), .var 63 (dU i4 l3 l4 b3 false b4 i5 (lo.L 0) i6 true cO i7 l6 l7 b5 b6 b7 i8 i9 (lo.L 1) (lo.L 2) false aZ 0 0 0 i10 i11 i12 i13 i14), .var 61 (.ptr 3 [] 63 0), .var 118 (aW (lo.I 0) (lo.I 1) (lo.L 3) (lo.L 4))], [(2, [4]), (2, [5]), (3, [3, 4]), (3, [3, 5])]⟩) (.fail)))))
def WK (i0 i1 i2 : Int) (l0 l1 : List AV) (b0 b1 b2 : Bool) (i3 : Int) (l2 : List AV) (i4 : Int) (l3 l4 : List AV) (b3 b4 : Bool) (i5 : Int) (l5 : List AV) (i6 i7 : Int) (l6 l7 : List AV) (b5 b6 b7 : Bool) (i8 i9 : Int) (l8 l9 : List AV) (i10 i11 i12 i13 i14 : Int) : List AV := [.ptr 3 [] 63 0, .int .i64 i0, .int .i64 i1]
def CG : ArP := ⟨[.ptr 3 [] 63 (some 0), .int .i64, .int .i64], [.var 26 (d9), .var 29 (.agg 28 [.slice 139 false]), .var 38 (iF), .var 63 (jf), .var 61 (.ptr 3 [] 63 (some 0))], [(3, [3, 5]), (2, [4]), (2, [5]), (3, [3, 4])]⟩
abbrev UO {α : Type} (f : Int -> Int -> Int -> List AV -> List AV -> Bool -> Bool -> Bool -> Int -> List AV -> Int -> List AV -> List AV -> Bool -> Bool -> Int -> List AV -> Int -> Int -> List AV -> List AV -> Bool -> Bool -> Bool -> Int -> Int -> List AV -> List AV -> Int -> Int -> Int -> Int -> Int -> α) (args : List AV) (M : Mm) : α := f (aj (args.getD 1 .dead)) (aj (args.getD 2 .dead)) (aj (pA (vR M 0) 0)) (au (pA (vR M 0) 1)) (au (pA (vR M 0) 2)) (av (pA (vR M 0) 3)) (av (pA (vR M 0) 4)) (av (pA (vR M 0) 5)) (aj (pA (vR M 0) 6)) (ay (pA (vR M 1) 0)) (aj (pA (pA (vR M 3) 0) 0)) (au (pA (pA (vR M 3) 0) 1)) (au (pA (pA (vR M 3) 0) 2)) (av (pA (pA (vR M 3) 0) 3)) (av (pA (pA (vR M 3) 0) 5)) (aj (pA (pA (vR M 3) 0) 6)) (ay (pA (pA (vR M 3) 1) 0)) (aj (pA (vR M 3) 2)) (aj (pA (pA (pA (vR M 3) 3) 2) 0)) (au (pA (pA (pA (vR M 3) 3) 2) 1)) (au (pA (pA (pA (vR M 3) 3) 2) 2)) (av (pA (pA (pA (vR M 3) 3) 2) 3)) (av (pA (pA (pA (vR M 3) 3) 2) 4)) (av (pA (pA (pA (vR M 3) 3) 2) 5)) (aj (pA (pA (pA (vR M 3) 3) 2) 6)) (aj (pA (pA (vR M 3) 3) 3)) (ay (pA (pA (vR M 3) 3) 4)) (ay (pA (pA (vR M 3) 3) 5)) (aj (pA (pA (vR M 3) 4) 0)) (aj (pA (pA (vR M 3) 4) 1)) (aj (pA (pA (vR M 3) 4) 2)) (aj (pA (pA (vR M 3) 4) 3)) (aj (pA (pA (vR M 3) 4) 4))
def PU (F : Tab) (i0 i1 i2 : Int) (l0 l1 : List AV) (b0 b1 b2 : Bool) (i3 : Int) (l2 : List AV) (i4 : Int) (l3 l4 : List AV) (b3 b4 : Bool) (i5 : Int) (l5 : List AV) (i6 i7 : Int) (l6 l7 : List AV) (b5 b6 b7 : Bool) (i8 i9 : Int) (l8 l9 : List AV) (i10 i11 i12 i13 i14 : Int) : LT := OW i0 i1 i2 l0 l1 b0 b1 b2 i3 l2 i4 l3 l4 b3 b4 i5 l5 i6 i7 l6 l7 b5 b6 b7 i8 i9 l8 l9 i10 i11 i12 i13 i14 (Ai F i0 i1 i2 l0 l1 b0 b1 b2 i3 l2 i4 l3 l4 b3 b4 i5 l5 i6 i7 l6 l7 b5 b6 b7 i8 i9 l8 l9 i10 i11 i12 i13 i14)
def Jg (F : Tab) (dep : Nat) (args : List AV) (M : Mm) : Option LT := if Nat.beq dep 3 && CG.ok args M then some (UO (PU F) args M) else none
def Ga (F : Tab) (i0 : Int) (l0 l1 : List AV) (b0 b1 b2 : Bool) (i1 : Int) (l2 : List AV) (i2 : Int) (l3 l4 : List AV) (b3 b4 : Bool) (i3 : Int) (l5 : List AV) (i4 i5 : Int) (l6 l7 : List AV) (b5 b6 b7 : Bool) (i6 i7 : Int) (l8 l9 : List AV) (i8 i9 i10 i11 i12 : Int)  : Tr (Unit) :=
    .br (cond (aN i9 16) (cond (aN i10 16) (cond (aC Pg F 105 [.int .i64 i8, .int .u32 (aj (l3.getD i9.toNat .dead)), .int .u32 (aj (l3.getD i10.toNat .dead))]) true false) false) false)
     (.br (av (aA F 105 [.int .i64 i8, .int .u32 (aj (l3.getD i9.toNat .dead)), .int .u32 (aj (l3.getD i10.toNat .dead))]))
      (.br (aC Pg F 106 [.int .u32 i5, bI i8 i9 i10 i11 i12])
       (.out ⟨1, [aj ((eP (aA F 106 [.int .u32 i5, bI i8 i9 i10 i11 i12])).getD 0 .dead)], [], [], [], [], []⟩)
       (.bad))
      (.out ⟨1, [i2], [], [], [], [], []⟩))
     (.bad)
def Cu (F : Tab) (i0 : Int) (l0 l1 : List AV) (b0 b1 b2 : Bool) (i1 : Int) (l2 : List AV) (i2 : Int) (l3 l4 : List AV) (b3 b4 : Bool) (i3 : Int) (l5 : List AV) (i4 i5 : Int) (l6 l7 : List AV) (b5 b6 b7 : Bool) (i6 i7 : Int) (l8 l9 : List AV) (i8 i9 i10 i11 i12 : Int) : LO := (Ga F i0 l0 l1 b0 b1 b2 i1 l2 i2 l3 l4 b3 b4 i3 l5 i4 i5 l6 l7 b5 b6 b7 i6 i7 l8 l9 i8 i9 i10 i11 i12).eval fun _ => LO.bad
def Og (i0 : Int) (l0 l1 : List AV) (b0 b1 b2 : Bool) (i1 : Int) (l2 : List AV) (i2 : Int) (l3 l4 : List AV) (b3 b4 : Bool) (i3 : Int) (l5 : List AV) (i4 i5 : Int) (l6 l7 : List AV) (b5 b6 b7 : Bool) (i6 i7 : Int) (l8 l9 : List AV) (i8 i9 i10 i11 i12 : Int) : Mm := ⟨[.var 26 (aG i0 l0 l1 b0 b1 b2 i1), .var 29 (aB l2), .var 38 (dD), .var 63 (dU i2 l3 l4 b3 false b4 i3 l5 i4 true cO i5 l6 l7 b5 b6 b7 i6 i7 l8 l9 false aZ 0 0 0 i8 i9 i10 i11 i12), .var 61 (.ptr 3 [] 63 0), kE], [(3, [3, 5]), (2, [4]), (2, [5]), (3, [3, 4])]⟩
def Mr (i0 : Int) (l0 l1 : List AV) (b0 b1 b2 : Bool) (i1 : Int) (l2 : List AV) (i2 : Int) (l3 l4 : List AV) (b3 b4 : Bool) (i3 : Int) (l5 : List AV) (i4 i5 : Int) (l6 l7 : List AV) (b5 b6 b7 : Bool) (i6 i7 : Int) (l8 l9 : List AV) (i8 i9 i10 i11 i12 : Int) (lo : LO) : LT :=
 .br (lo.k == 1) (.done .ret (aT 1 [(0, .tuple [])] []) (Og i0 l0 l1 b0 b1 b2 i1 l2 (lo.I 0) l3 l4 b3 b4 i3 l5 i4 i5 l6 l7 b5 b6 b7 i6 i7 l8 l9 i8 i9 i10 i11 i12)) (.fail)
def Ws (i0 : Int) (l0 l1 : List AV) (b0 b1 b2 : Bool) (i1 : Int) (l2 : List AV) (i2 : Int) (l3 l4 : List AV) (b3 b4 : Bool) (i3 : Int) (l5 : List AV) (i4 i5 : Int) (l6 l7 : List AV) (b5 b6 b7 : Bool) (i6 i7 : Int) (l8 l9 : List AV) (i8 i9 i10 i11 i12 : Int) : List AV := [.ptr 3 [] 63 0]
def zJ : ArP := ⟨[.ptr 3 [] 63 (some 0)], [.var 26 (d9), .var 29 (.agg 28 [.slice 139 false]), .var 38 (iF), .var 63 (jf), .var 61 (.ptr 3 [] 63 (some 0)), vM], [(3, [3, 5]), (2, [4]), (2, [5]), (3, [3, 4])]⟩
abbrev aam {α : Type} (f : Int -> List AV -> List AV -> Bool -> Bool -> Bool -> Int -> List AV -> Int -> List AV -> List AV -> Bool -> Bool -> Int -> List AV -> Int -> Int -> List AV -> List AV -> Bool -> Bool -> Bool -> Int -> Int -> List AV -> List AV -> Int -> Int -> Int -> Int -> Int -> α) (args : List AV) (M : Mm) : α := f (aj (pA (vR M 0) 0)) (au (pA (vR M 0) 1)) (au (pA (vR M 0) 2)) (av (pA (vR M 0) 3)) (av (pA (vR M 0) 4)) (av (pA (vR M 0) 5)) (aj (pA (vR M 0) 6)) (ay (pA (vR M 1) 0)) (aj (pA (pA (vR M 3) 0) 0)) (au (pA (pA (vR M 3) 0) 1)) (au (pA (pA (vR M 3) 0) 2)) (av (pA (pA (vR M 3) 0) 3)) (av (pA (pA (vR M 3) 0) 5)) (aj (pA (pA (vR M 3) 0) 6)) (ay (pA (pA (vR M 3) 1) 0)) (aj (pA (vR M 3) 2)) (aj (pA (pA (pA (vR M 3) 3) 2) 0)) (au (pA (pA (pA (vR M 3) 3) 2) 1)) (au (pA (pA (pA (vR M 3) 3) 2) 2)) (av (pA (pA (pA (vR M 3) 3) 2) 3)) (av (pA (pA (pA (vR M 3) 3) 2) 4)) (av (pA (pA (pA (vR M 3) 3) 2) 5)) (aj (pA (pA (pA (vR M 3) 3) 2) 6)) (aj (pA (pA (vR M 3) 3) 3)) (ay (pA (pA (vR M 3) 3) 4)) (ay (pA (pA (vR M 3) 3) 5)) (aj (pA (pA (vR M 3) 4) 0)) (aj (pA (pA (vR M 3) 4) 1)) (aj (pA (pA (vR M 3) 4) 2)) (aj (pA (pA (vR M 3) 4) 3)) (aj (pA (pA (vR M 3) 4) 4))
def Nw (F : Tab) (i0 : Int) (l0 l1 : List AV) (b0 b1 b2 : Bool) (i1 : Int) (l2 : List AV) (i2 : Int) (l3 l4 : List AV) (b3 b4 : Bool) (i3 : Int) (l5 : List AV) (i4 i5 : Int) (l6 l7 : List AV) (b5 b6 b7 : Bool) (i6 i7 : Int) (l8 l9 : List AV) (i8 i9 i10 i11 i12 : Int) : LT := Mr i0 l0 l1 b0 b1 b2 i1 l2 i2 l3 l4 b3 b4 i3 l5 i4 i5 l6 l7 b5 b6 b7 i6 i7 l8 l9 i8 i9 i10 i11 i12 (Cu F i0 l0 l1 b0 b1 b2 i1 l2 i2 l3 l4 b3 b4 i3 l5 i4 i5 l6 l7 b5 b6 b7 i6 i7 l8 l9 i8 i9 i10 i11 i12)
def JD (F : Tab) (dep : Nat) (args : List AV) (M : Mm) : Option LT := if Nat.beq dep 3 && zJ.ok args M then some (aam (Nw F) args M) else none
def Iw (F : Tab) (i0 : Int) (l0 l1 : List AV) (b0 b1 b2 : Bool) (i1 : Int) (l2 : List AV) (i2 : Int) (l3 l4 : List AV) (b3 b4 : Bool) (i3 : Int) (l5 : List AV) (i4 i5 : Int) (l6 l7 : List AV) (b5 b6 b7 : Bool) (i6 i7 : Int) (l8 l9 : List AV) (i8 i9 i10 i11 i12 : Int)  : Tr (Unit) :=
    let x0 : List AV := eP (aA F 106 [.int .u32 i5, bI i8 i9 i10 i11 i12]);
    let x1 : Int := aj (x0.getD 0 .dead);
    .br (cond (aC Pg F 106 [.int .u32 i5, bI i8 i9 i10 i11 i12]) true false)
     (.br (!(av (x0.getD 1 .dead)))
      (.br (cond (aN i10 16) true false)
       (.br (i9 != 0)
        (.br (cond (aN i9 16) true false)
         (.out ⟨1, [IntKind.u32.wrap ((aj (l3.getD i10.toNat .dead)) + (IntKind.u32.wrap i12))], [], [l3.set i9.toNat (.int .u32 (IntKind.u32.wrap (i5 + 4)))], [], [], []⟩)
         (.bad))
        (.out ⟨1, [IntKind.u32.wrap ((aj (l3.getD i10.toNat .dead)) + (IntKind.u32.wrap i12))], [], [l3], [], [], []⟩))
       (.bad))
      (.br (i9 != 0)
       (.br (cond (aN i9 16) true false)
        (.out ⟨1, [x1], [], [l3.set i9.toNat (.int .u32 (IntKind.u32.wrap (i5 + 4)))], [], [], []⟩)
        (.bad))
       (.out ⟨1, [x1], [], [l3], [], [], []⟩)))
     (.bad)
def BK (F : Tab) (i0 : Int) (l0 l1 : List AV) (b0 b1 b2 : Bool) (i1 : Int) (l2 : List AV) (i2 : Int) (l3 l4 : List AV) (b3 b4 : Bool) (i3 : Int) (l5 : List AV) (i4 i5 : Int) (l6 l7 : List AV) (b5 b6 b7 : Bool) (i6 i7 : Int) (l8 l9 : List AV) (i8 i9 i10 i11 i12 : Int) : LO := (Iw F i0 l0 l1 b0 b1 b2 i1 l2 i2 l3 l4 b3 b4 i3 l5 i4 i5 l6 l7 b5 b6 b7 i6 i7 l8 l9 i8 i9 i10 i11 i12).eval fun _ => LO.bad
def MR (i0 : Int) (l0 l1 : List AV) (b0 b1 b2 : Bool) (i1 : Int) (l2 : List AV) (i2 : Int) (l3 l4 : List AV) (b3 b4 : Bool) (i3 : Int) (l5 : List AV) (i4 i5 : Int) (l6 l7 : List AV) (b5 b6 b7 : Bool) (i6 i7 : Int) (l8 l9 : List AV) (i8 i9 i10 i11 i12 : Int) : Mm := ⟨[.var 26 (aG i0 l0 l1 b0 b1 b2 i1), .var 29 (aB l2), .var 38 (dD), .var 63 (dU i2 l3 l4 b3 false b4 i3 l5 i4 true cO i5 l6 l7 b5 b6 b7 i6 i7 l8 l9 false aZ 0 0 0 i8 i9 i10 i11 i12), .var 61 (.ptr 3 [] 63 0), kE], [(3, [3, 5]), (2, [4]), (2, [5]), (3, [3, 4])]⟩
def Kq (i0 : Int) (l0 l1 : List AV) (b0 b1 b2 : Bool) (i1 : Int) (l2 : List AV) (i2 : Int) (l3 l4 : List AV) (b3 b4 : Bool) (i3 : Int) (l5 : List AV) (i4 i5 : Int) (l6 l7 : List AV) (b5 b6 b7 : Bool) (i6 i7 : Int) (l8 l9 : List AV) (i8 i9 i10 i11 i12 : Int) (lo : LO) : LT :=
 .br (lo.k == 1) (.done .ret (aT 1 [(0, .tuple [])] []) (MR i0 l0 l1 b0 b1 b2 i1 l2 (lo.I 0) (lo.L 0) l4 b3 b4 i3 l5 i4 i5 l6 l7 b5 b6 b7 i6 i7 l8 l9 i8 i9 i10 i11 i12)) (.fail)
def RP (i0 : Int) (l0 l1 : List AV) (b0 b1 b2 : Bool) (i1 : Int) (l2 : List AV) (i2 : Int) (l3 l4 : List AV) (b3 b4 : Bool) (i3 : Int) (l5 : List AV) (i4 i5 : Int) (l6 l7 : List AV) (b5 b6 b7 : Bool) (i6 i7 : Int) (l8 l9 : List AV) (i8 i9 i10 i11 i12 : Int) : List AV := [.ptr 3 [] 63 0]
def AU : ArP := ⟨[.ptr 3 [] 63 (some 0)], [.var 26 (d9), .var 29 (.agg 28 [.slice 139 false]), .var 38 (iF), .var 63 (jf), .var 61 (.ptr 3 [] 63 (some 0)), vM], [(3, [3, 5]), (2, [4]), (2, [5]), (3, [3, 4])]⟩
abbrev Sq {α : Type} (f : Int -> List AV -> List AV -> Bool -> Bool -> Bool -> Int -> List AV -> Int -> List AV -> List AV -> Bool -> Bool -> Int -> List AV -> Int -> Int -> List AV -> List AV -> Bool -> Bool -> Bool -> Int -> Int -> List AV -> List AV -> Int -> Int -> Int -> Int -> Int -> α) (args : List AV) (M : Mm) : α := f (aj (pA (vR M 0) 0)) (au (pA (vR M 0) 1)) (au (pA (vR M 0) 2)) (av (pA (vR M 0) 3)) (av (pA (vR M 0) 4)) (av (pA (vR M 0) 5)) (aj (pA (vR M 0) 6)) (ay (pA (vR M 1) 0)) (aj (pA (pA (vR M 3) 0) 0)) (au (pA (pA (vR M 3) 0) 1)) (au (pA (pA (vR M 3) 0) 2)) (av (pA (pA (vR M 3) 0) 3)) (av (pA (pA (vR M 3) 0) 5)) (aj (pA (pA (vR M 3) 0) 6)) (ay (pA (pA (vR M 3) 1) 0)) (aj (pA (vR M 3) 2)) (aj (pA (pA (pA (vR M 3) 3) 2) 0)) (au (pA (pA (pA (vR M 3) 3) 2) 1)) (au (pA (pA (pA (vR M 3) 3) 2) 2)) (av (pA (pA (pA (vR M 3) 3) 2) 3)) (av (pA (pA (pA (vR M 3) 3) 2) 4)) (av (pA (pA (pA (vR M 3) 3) 2) 5)) (aj (pA (pA (pA (vR M 3) 3) 2) 6)) (aj (pA (pA (vR M 3) 3) 3)) (ay (pA (pA (vR M 3) 3) 4)) (ay (pA (pA (vR M 3) 3) 5)) (aj (pA (pA (vR M 3) 4) 0)) (aj (pA (pA (vR M 3) 4) 1)) (aj (pA (pA (vR M 3) 4) 2)) (aj (pA (pA (vR M 3) 4) 3)) (aj (pA (pA (vR M 3) 4) 4))
def Pn (F : Tab) (i0 : Int) (l0 l1 : List AV) (b0 b1 b2 : Bool) (i1 : Int) (l2 : List AV) (i2 : Int) (l3 l4 : List AV) (b3 b4 : Bool) (i3 : Int) (l5 : List AV) (i4 i5 : Int) (l6 l7 : List AV) (b5 b6 b7 : Bool) (i6 i7 : Int) (l8 l9 : List AV) (i8 i9 i10 i11 i12 : Int) : LT := Kq i0 l0 l1 b0 b1 b2 i1 l2 i2 l3 l4 b3 b4 i3 l5 i4 i5 l6 l7 b5 b6 b7 i6 i7 l8 l9 i8 i9 i10 i11 i12 (BK F i0 l0 l1 b0 b1 b2 i1 l2 i2 l3 l4 b3 b4 i3 l5 i4 i5 l6 l7 b5 b6 b7 i6 i7 l8 l9 i8 i9 i10 i11 i12)
def Kc (F : Tab) (dep : Nat) (args : List AV) (M : Mm) : Option LT := if Nat.beq dep 3 && AU.ok args M then some (Sq (Pn F) args M) else none
def Iy (F : Tab) (i0 : Int) (l0 l1 : List AV) (b0 b1 b2 : Bool) (i1 : Int) (l2 : List AV) (i2 : Int) (l3 l4 : List AV) (b3 b4 : Bool) (i3 : Int) (l5 : List AV) (i4 i5 : Int) (l6 l7 : List AV) (b5 b6 b7 : Bool) (i6 i7 : Int) (l8 l9 : List AV) (i8 i9 i10 i11 i12 : Int)  : Tr (Unit) :=
    let x0 : List AV := eP (aA F 107 [aG i2 l3 l4 b3 false b4 i3, .int .i64 i12, .int .u32 i4]);
    let x1 : List AV := l3.set i9.toNat (.int .u32 (aj (x0.getD 0 .dead)));
    let x2 : Bool := (aj (x0.getD 1 .dead)) != 0;
    let x3 : List AV := eP (aA F 108 [aG i2 l3 l4 b3 false b4 i3, .int .i64 i12, .int .u32 (aj (l3.getD i9.toNat .dead))]);
    let x4 : List AV := au (x3.getD 0 .dead);
    let x5 : Int := aj (x4.getD 0 .dead);
    let x6 : List AV := au (x4.getD 1 .dead);
    let x7 : List AV := au (x4.getD 2 .dead);
    let x8 : Bool := av (x4.getD 3 .dead);
    let x9 : Bool := av (x4.getD 4 .dead);
    let x10 : Bool := av (x4.getD 5 .dead);
    let x11 : Int := aj (x4.getD 6 .dead);
    .br (i8 == 42)
     (.br (cond (aC Pg F 107 [aG i2 l3 l4 b3 false b4 i3, .int .i64 i12, .int .u32 i4]) true false)
      (.br (i9 != 0)
       (.br (cond (aN i9 16) true false)
        (.br x2
         (.out ⟨1, [i2, i3], [b3, false, b4], [x1, l4], [], [], []⟩)
         (.out ⟨2, [i2, i3], [b3, false, b4], [x1, l4], [], [], []⟩))
        (.bad))
       (.br x2
        (.out ⟨1, [i2, i3], [b3, false, b4], [l3, l4], [], [], []⟩)
        (.out ⟨2, [i2, i3], [b3, false, b4], [l3, l4], [], [], []⟩)))
      (.bad))
     (.br (aN i9 16)
      (.br (aC Pg F 108 [aG i2 l3 l4 b3 false b4 i3, .int .i64 i12, .int .u32 (aj (l3.getD i9.toNat .dead))])
       (.br ((aj (x3.getD 1 .dead)) != 0)
        (.out ⟨1, [x5, x11], [x8, x9, x10], [x6, x7], [], [], []⟩)
        (.out ⟨2, [x5, x11], [x8, x9, x10], [x6, x7], [], [], []⟩))
       (.bad))
      (.bad))
def Cj (F : Tab) (i0 : Int) (l0 l1 : List AV) (b0 b1 b2 : Bool) (i1 : Int) (l2 : List AV) (i2 : Int) (l3 l4 : List AV) (b3 b4 : Bool) (i3 : Int) (l5 : List AV) (i4 i5 : Int) (l6 l7 : List AV) (b5 b6 b7 : Bool) (i6 i7 : Int) (l8 l9 : List AV) (i8 i9 i10 i11 i12 : Int) : LO := (Iy F i0 l0 l1 b0 b1 b2 i1 l2 i2 l3 l4 b3 b4 i3 l5 i4 i5 l6 l7 b5 b6 b7 i6 i7 l8 l9 i8 i9 i10 i11 i12).eval fun _ => LO.bad
def VK (i0 : Int) (l0 l1 : List AV) (b0 b1 b2 : Bool) (i1 : Int) (l2 : List AV) (i2 : Int) (l3 l4 : List AV) (b3 b4 : Bool) (i3 : Int) (l5 : List AV) (i4 i5 : Int) (l6 l7 : List AV) (b5 b6 b7 : Bool) (i6 i7 : Int) (l8 l9 : List AV) (i8 i9 i10 i11 i12 : Int) : Mm := ⟨[.var 26 (aG i0 l0 l1 b0 b1 b2 i1), .var 29 (aB l2), .var 38 (dD), .var 63 (dU i2 l3 l4 b3 false b4 i3 l5 i4 true cO i5 l6 l7 b5 b6 b7 i6 i7 l8 l9 false aZ 0 0 0 i8 i9 i10 i11 i12), .var 61 (.ptr 3 [] 63 0), kE], [(3, [3, 5]), (2, [4]), (2, [5]), (3, [3, 4])]⟩
def Oz (i0 : Int) (l0 l1 : List AV) (b0 b1 b2 : Bool) (i1 : Int) (l2 : List AV) (i2 : Int) (l3 l4 : List AV) (b3 b4 : Bool) (i3 : Int) (l5 : List AV) (i4 i5 : Int) (l6 l7 : List AV) (b5 b6 b7 : Bool) (i6 i7 : Int) (l8 l9 : List AV) (i8 i9 i10 i11 i12 : Int) (lo : LO) : LT :=
 .br (lo.k == 1) (.done (.panic (.iface 89 (dV 2 i7 i5))) (aT 0 [] []) ⟨[.var 26 (aG i0 l0 l1 b0 b1 b2 i1), .var 29 (aB l2), .var 38 (dD), .var 63 (dU (lo.I 0) (lo.L 0) (lo.L 1) (lo.B 0) (lo.B 1) (lo.B 2) (lo.I 1) l5 i4 true cO i5 l6 l7 b5 b6 b7 i6 i7 l8 l9 false aZ 0 0 0 i8 i9 i10 i11 i12), .var 61 (.ptr 3 [] 63 0), kE], [(3, [3, 5]), (2, [4]), (2, [5]), (3, [3, 4])]⟩) (.br (lo.k == 2) (.done .ret (aT 1 [(0, .tuple [])] []) ⟨[.var 26 (aG i0 l0 l1 b0 b1 b2 i1), .var 29 (aB l2), .var 38 (dD), .var 63 (dU (lo.I 0) (lo.L 0) (lo.L 1) (lo.B 0) (lo.B 1) (lo.B 2) (lo.I 1) l5 i4 true cO i5 l6 l7 b5 b6 b7 i6 i7 l8 l9 false aZ 0 0 0 i8 i9 i10 i11 i12), .var 61 (.ptr 3 [] 63 0), kE], [(3, [3, 5]), (2, [4]), (2, [5]), (3, [3, 4])]⟩) (.fail))
def UU (i0 : Int) (l0 l1 : List AV) (b0 b1 b2 : Bool) (i1 : Int) (l2 : List AV) (i2 : Int) (l3 l4 : List AV) (b3 b4 : Bool) (i3 : Int) (l5 : List AV) (i4 i5 : Int) (l6 l7 : List AV) (b5 b6 b7 : Bool) (i6 i7 : Int) (l8 l9 : List AV) (i8 i9 i10 i11 i12 : Int) : List AV := [.ptr 3 [] 63 0]
def C9 : ArP := ⟨[.ptr 3 [] 63 (some 0)], [.var 26 (d9), .var 29 (.agg 28 [.slice 139 false]), .var 38 (iF), .var 63 (jf), .var 61 (.ptr 3 [] 63 (some 0)), vM], [(3, [3, 5]), (2, [4]), (2, [5]), (3, [3, 4])]⟩
abbrev YK {α : Type} (f : Int -> List AV -> List AV -> Bool -> Bool -> Bool -> Int -> List AV -> Int -> List AV -> List AV -> Bool -> Bool -> Int -> List AV -> Int -> Int -> List AV -> List AV -> Bool -> Bool -> Bool -> Int -> Int -> List AV -> List AV -> Int -> Int -> Int -> Int -> Int -> α) (args : List AV) (M : Mm) : α := f (aj (pA (vR M 0) 0)) (au (pA (vR M 0) 1)) (au (pA (vR M 0) 2)) (av (pA (vR M 0) 3)) (av (pA (vR M 0) 4)) (av (pA (vR M 0) 5)) (aj (pA (vR M 0) 6)) (ay (pA (vR M 1) 0)) (aj (pA (pA (vR M 3) 0) 0)) (au (pA (pA (vR M 3) 0) 1)) (au (pA (pA (vR M 3) 0) 2)) (av (pA (pA (vR M 3) 0) 3)) (av (pA (pA (vR M 3) 0) 5)) (aj (pA (pA (vR M 3) 0) 6)) (ay (pA (pA (vR M 3) 1) 0)) (aj (pA (vR M 3) 2)) (aj (pA (pA (pA (vR M 3) 3) 2) 0)) (au (pA (pA (pA (vR M 3) 3) 2) 1)) (au (pA (pA (pA (vR M 3) 3) 2) 2)) (av (pA (pA (pA (vR M 3) 3) 2) 3)) (av (pA (pA (pA (vR M 3) 3) 2) 4)) (av (pA (pA (pA (vR M 3) 3) 2) 5)) (aj (pA (pA (pA (vR M 3) 3) 2) 6)) (aj (pA (pA (vR M 3) 3) 3)) (ay (pA (pA (vR M 3) 3) 4)) (ay (pA (pA (vR M 3) 3) 5)) (aj (pA (pA (vR M 3) 4) 0)) (aj (pA (pA (vR M 3) 4) 1)) (aj (pA (pA (vR M 3) 4) 2)) (aj (pA (pA (vR M 3) 4) 3)) (aj (pA (pA (vR M 3) 4) 4))
def LK (F : Tab) (i0 : Int) (l0 l1 : List AV) (b0 b1 b2 : Bool) (i1 : Int) (l2 : List AV) (i2 : Int) (l3 l4 : List AV) (b3 b4 : Bool) (i3 : Int) (l5 : List AV) (i4 i5 : Int) (l6 l7 : List AV) (b5 b6 b7 : Bool) (i6 i7 : Int) (l8 l9 : List AV) (i8 i9 i10 i11 i12 : Int) : LT := Oz i0 l0 l1 b0 b1 b2 i1 l2 i2 l3 l4 b3 b4 i3 l5 i4 i5 l6 l7 b5 b6 b7 i6 i7 l8 l9 i8 i9 i10 i11 i12 (Cj F i0 l0 l1 b0 b1 b2 i1 l2 i2 l3 l4 b3 b4 i3 l5 i4 i5 l6 l7 b5 b6 b7 i6 i7 l8 l9 i8 i9 i10 i11 i12)
def Jl (F : Tab) (dep : Nat) (args : List AV) (M : Mm) : Option LT := if Nat.beq dep 3 && C9.ok args M then some (YK (LK F) args M) else none
def GK (F : Tab) (i0 : Int) (l0 l1 : List AV) (b0 b1 b2 : Bool) (i1 : Int) (l2 : List AV) (i2 : Int) (l3 l4 : List AV) (b3 b4 : Bool) (i3 : Int) (l5 : List AV) (i4 i5 : Int) (l6 l7 : List AV) (b5 b6 b7 : Bool) (i6 i7 : Int) (l8 l9 : List AV) (i8 i9 i10 i11 i12 : Int)  : Tr (Unit) :=
    .br (i10 != 0)
     (.br (aN i10 16)
      (.out ⟨1, [1, aj (l3.getD i10.toNat .dead)], [], [], [], [], []⟩)
      (.bad))
     (.out ⟨1, [2, 0], [], [], [], [], []⟩)
def Cw (F : Tab) (i0 : Int) (l0 l1 : List AV) (b0 b1 b2 : Bool) (i1 : Int) (l2 : List AV) (i2 : Int) (l3 l4 : List AV) (b3 b4 : Bool) (i3 : Int) (l5 : List AV) (i4 i5 : Int) (l6 l7 : List AV) (b5 b6 b7 : Bool) (i6 i7 : Int) (l8 l9 : List AV) (i8 i9 i10 i11 i12 : Int) : LO := (GK F i0 l0 l1 b0 b1 b2 i1 l2 i2 l3 l4 b3 b4 i3 l5 i4 i5 l6 l7 b5 b6 b7 i6 i7 l8 l9 i8 i9 i10 i11 i12).eval fun _ => LO.bad
def TL (i0 : Int) (l0 l1 : List AV) (b0 b1 b2 : Bool) (i1 : Int) (l2 : List AV) (i2 : Int) (l3 l4 : List AV) (b3 b4 : Bool) (i3 : Int) (l5 : List AV) (i4 i5 : Int) (l6 l7 : List AV) (b5 b6 b7 : Bool) (i6 i7 : Int) (l8 l9 : List AV) (i8 i9 i10 i11 i12 : Int) : Mm := ⟨[.var 26 (aG i0 l0 l1 b0 b1 b2 i1), .var 29 (aB l2), .var 38 (dD), .var 63 (dU i2 l3 l4 b3 false b4 i3 l5 i4 true cO i5 l6 l7 b5 b6 b7 i6 i7 l8 l9 false aZ 0 0 0 i8 i9 i10 i11 i12), .var 61 (.ptr 3 [] 63 0), kE], [(3, [3, 5]), (2, [4]), (2, [5]), (3, [3, 4])]⟩
def LD (i0 : Int) (l0 l1 : List AV) (b0 b1 b2 : Bool) (i1 : Int) (l2 : List AV) (i2 : Int) (l3 l4 : List AV) (b3 b4 : Bool) (i3 : Int) (l5 : List AV) (i4 i5 : Int) (l6 l7 : List AV) (b5 b6 b7 : Bool) (i6 i7 : Int) (l8 l9 : List AV) (i8 i9 i10 i11 i12 : Int) (lo : LO) : LT :=
 .br (lo.k == 1) (.done .ret (aT 1 [(0, .tuple [])] []) ⟨[.var 26 (aG i0 l0 l1 b0 b1 b2 i1), .var 29 (aB l2), .var 38 (dD), .var 63 (dU i2 l3 l4 b3 false b4 i3 l5 i4 true cO i5 l6 l7 b5 b6 b7 i6 i7 l8 l9 false aZ (lo.I 0) (lo.I 1) 0 i8 i9 i10 i11 i12), .var 61 (.ptr 3 [] 63 0), kE], [(3, [3, 5]), (2, [4]), (2, [5]), (3, [3, 4])]⟩) (.fail)
def ad7 (i0 : Int) (l0 l1 : List AV) (b0 b1 b2 : Bool) (i1 : Int) (l2 : List AV) (i2 : Int) (l3 l4 : List AV) (b3 b4 : Bool) (i3 : Int) (l5 : List AV) (i4 i5 : Int) (l6 l7 : List AV) (b5 b6 b7 : Bool) (i6 i7 : Int) (l8 l9 : List AV) (i8 i9 i10 i11 i12 : Int) : List AV := [.ptr 3 [] 63 0]
def Ae : ArP := ⟨[.ptr 3 [] 63 (some 0)], [.var 26 (d9), .var 29 (.agg 28 [.slice 139 false]), .var 38 (iF), .var 63 (jf), .var 61 (.ptr 3 [] 63 (some 0)), vM], [(3, [3, 5]), (2, [4]), (2, [5]), (3, [3, 4])]⟩
abbrev Zi {α : Type} (f : Int -> List AV -> List AV -> Bool -> Bool -> Bool -> Int -> List AV -> Int -> List AV -> List AV -> Bool -> Bool -> Int -> List AV -> Int -> Int -> List AV -> List AV -> Bool -> Bool -> Bool -> Int -> Int -> List AV -> List AV -> Int -> Int -> Int -> Int -> Int -> α) (args : List AV) (M : Mm) : α := f (aj (pA (vR M 0) 0)) (au (pA (vR M 0) 1)) (au (pA (vR M 0) 2)) (av (pA (vR M 0) 3)) (av (pA (vR M 0) 4)) (av (pA (vR M 0) 5)) (aj (pA (vR M 0) 6)) (ay (pA (vR M 1) 0)) (aj (pA (pA (vR M 3) 0) 0)) (au (pA (pA (vR M 3) 0) 1)) (au (pA (pA (vR M 3) 0) 2)) (av (pA (pA (vR M 3) 0) 3)) (av (pA (pA (vR M 3) 0) 5)) (aj (pA (pA (vR M 3) 0) 6)) (ay (pA (pA (vR M 3) 1) 0)) (aj (pA (vR M 3) 2)) (aj (pA (pA (pA (vR M 3) 3) 2) 0)) (au (pA (pA (pA (vR M 3) 3) 2) 1)) (au (pA (pA (pA (vR M 3) 3) 2) 2)) (av (pA (pA (pA (vR M 3) 3) 2) 3)) (av (pA (pA (pA (vR M 3) 3) 2) 4)) (av (pA (pA (pA (vR M 3) 3) 2) 5)) (aj (pA (pA (pA (vR M 3) 3) 2) 6)) (aj (pA (pA (vR M 3) 3) 3)) (ay (pA (pA (vR M 3) 3) 4)) (ay (pA (pA (vR M 3) 3) 5)) (aj (pA (pA (vR M 3) 4) 0)) (aj (pA (pA (vR M 3) 4) 1)) (aj (pA (pA (vR M 3) 4) 2)) (aj (pA (pA (vR M 3) 4) 3)) (aj (pA (pA (vR M 3) 4) 4))
def PZ (F : Tab) (i0 : Int) (l0 l1 : List AV) (b0 b1 b2 : Bool) (i1 : Int) (l2 : List AV) (i2 : Int) (l3 l4 : List AV) (b3 b4 : Bool) (i3 : Int) (l5 : List AV) (i4 i5 : Int) (l6 l7 : List AV) (b5 b6 b7 : Bool) (i6 i7 : Int) (l8 l9 : List AV) (i8 i9 i10 i11 i12 : Int) : LT := LD i0 l0 l1 b0 b1 b2 i1 l2 i2 l3 l4 b3 b4 i3 l5 i4 i5 l6 l7 b5 b6 b7 i6 i7 l8 l9 i8 i9 i10 i11 i12 (Cw F i0 l0 l1 b0 b1 b2 i1 l2 i2 l3 l4 b3 b4 i3 l5 i4 i5 l6 l7 b5 b6 b7 i6 i7 l8 l9 i8 i9 i10 i11 i12)
def Qb (F : Tab) (dep : Nat) (args : List AV) (M : Mm) : Option LT := if Nat.beq dep 3 && Ae.ok args M then some (Zi (PZ F) args M) else none
def FU (F : Tab) (i0 : Int) (l0 l1 : List AV) (b0 b1 b2 : Bool) (i1 : Int) (l2 : List AV) (i2 : Int) (l3 l4 : List AV) (b3 b4 : Bool) (i3 : Int) (l5 : List AV) (i4 i5 : Int) (l6 l7 : List AV) (b5 b6 b7 : Bool) (i6 i7 : Int) (l8 l9 : List AV) (i8 i9 i10 i11 i12 : Int)  : Tr (Unit) :=
    .br (!(i8 == 46))
     (.br (cond (aN i9 16) true false)
      (.out ⟨1, [aj (l3.getD i9.toNat .dead)], [i8 == 46], [], [], [], []⟩)
      (.bad))
     (.out ⟨1, [0], [i8 == 46], [], [], [], []⟩)
def BO (F : Tab) (i0 : Int) (l0 l1 : List AV) (b0 b1 b2 : Bool) (i1 : Int) (l2 : List AV) (i2 : Int) (l3 l4 : List AV) (b3 b4 : Bool) (i3 : Int) (l5 : List AV) (i4 i5 : Int) (l6 l7 : List AV) (b5 b6 b7 : Bool) (i6 i7 : Int) (l8 l9 : List AV) (i8 i9 i10 i11 i12 : Int) : LO := (FU F i0 l0 l1 b0 b1 b2 i1 l2 i2 l3 l4 b3 b4 i3 l5 i4 i5 l6 l7 b5 b6 b7 i6 i7 l8 l9 i8 i9 i10 i11 i12).eval fun _ => LO.bad
def adp (i0 : Int) (l0 l1 : List AV) (b0 b1 b2 : Bool) (i1 : Int) (l2 : List AV) (i2 : Int) (l3 l4 : List AV) (b3 b4 : Bool) (i3 : Int) (l5 : List AV) (i4 i5 : Int) (l6 l7 : List AV) (b5 b6 b7 : Bool) (i6 i7 : Int) (l8 l9 : List AV) (i8 i9 i10 i11 i12 : Int) : Mm := ⟨[.var 26 (aG i0 l0 l1 b0 b1 b2 i1), .var 29 (aB l2), .var 38 (dD), .var 63 (dU i2 l3 l4 b3 false b4 i3 l5 i4 true cO i5 l6 l7 b5 b6 b7 i6 i7 l8 l9 false aZ 0 0 0 i8 i9 i10 i11 i12), .var 61 (.ptr 3 [] 63 0), kE], [(3, [3, 5]), (2, [4]), (2, [5]), (3, [3, 4])]⟩
def MX (i0 : Int) (l0 l1 : List AV) (b0 b1 b2 : Bool) (i1 : Int) (l2 : List AV) (i2 : Int) (l3 l4 : List AV) (b3 b4 : Bool) (i3 : Int) (l5 : List AV) (i4 i5 : Int) (l6 l7 : List AV) (b5 b6 b7 : Bool) (i6 i7 : Int) (l8 l9 : List AV) (i8 i9 i10 i11 i12 : Int) (lo : LO) : LT :=
 .br (lo.k == 1) (.done .ret (aT 1 [(0, .tuple [])] []) ⟨[.var 26 (aG i0 l0 l1 b0 b1 b2 i1), .var 29 (aB l2), .var 38 (dD), .var 63 (.agg 62 [aG i2 l3 l4 b3 false b4 i3, aB l5, .int .u32 i4, .agg 37 [.bool true, cO, aG i5 l6 l7 b5 b6 b7 i6, .int .u32 i7, .slice 57 l8 false, .slice 59 l9 false, .bool true, EA (lo.B 0) i12 (lo.I 0), .int .i64 0, .int .u32 0, .int .i64 0], bI i8 i9 i10 i11 i12]), .var 61 (.ptr 3 [] 63 0), kE], [(3, [3, 5]), (2, [4]), (2, [5]), (3, [3, 4])]⟩) (.fail)
def abX (i0 : Int) (l0 l1 : List AV) (b0 b1 b2 : Bool) (i1 : Int) (l2 : List AV) (i2 : Int) (l3 l4 : List AV) (b3 b4 : Bool) (i3 : Int) (l5 : List AV) (i4 i5 : Int) (l6 l7 : List AV) (b5 b6 b7 : Bool) (i6 i7 : Int) (l8 l9 : List AV) (i8 i9 i10 i11 i12 : Int) : List AV := [.ptr 3 [] 63 0]
def AA : ArP := ⟨[.ptr 3 [] 63 (some 0)], [.var 26 (d9), .var 29 (.agg 28 [.slice 139 false]), .var 38 (iF), .var 63 (jf), .var 61 (.ptr 3 [] 63 (some 0)), vM], [(3, [3, 5]), (2, [4]), (2, [5]), (3, [3, 4])]⟩
abbrev Y3 {α : Type} (f : Int -> List AV -> List AV -> Bool -> Bool -> Bool -> Int -> List AV -> Int -> List AV -> List AV -> Bool -> Bool -> Int -> List AV -> Int -> Int -> List AV -> List AV -> Bool -> Bool -> Bool -> Int -> Int -> List AV -> List AV -> Int -> Int -> Int -> Int -> Int -> α) (args : List AV) (M : Mm) : α := f (aj (pA (vR M 0) 0)) (au (pA (vR M 0) 1)) (au (pA (vR M 0) 2)) (av (pA (vR M 0) 3)) (av (pA (vR M 0) 4)) (av (pA (vR M 0) 5)) (aj (pA (vR M 0) 6)) (ay (pA (vR M 1) 0)) (aj (pA (pA (vR M 3) 0) 0)) (au (pA (pA (vR M 3) 0) 1)) (au (pA (pA (vR M 3) 0) 2)) (av (pA (pA (vR M 3) 0) 3)) (av (pA (pA (vR M 3) 0) 5)) (aj (pA (pA (vR M 3) 0) 6)) (ay (pA (pA (vR M 3) 1) 0)) (aj (pA (vR M 3) 2)) (aj (pA (pA (pA (vR M 3) 3) 2) 0)) (au (pA (pA (pA (vR M 3) 3) 2) 1)) (au (pA (pA (pA (vR M 3) 3) 2) 2)) (av (pA (pA (pA (vR M 3) 3) 2) 3)) (av (pA (pA (pA (vR M 3) 3) 2) 4)) (av (pA (pA (pA (vR M 3) 3) 2) 5)) (aj (pA (pA (pA (vR M 3) 3) 2) 6)) (aj (pA (pA (vR M 3) 3) 3)) (ay (pA (pA (vR M 3) 3) 4)) (ay (pA (pA (vR M 3) 3) 5)) (aj (pA (pA (vR M 3) 4) 0)) (aj (pA (pA (vR M 3) 4) 1)) (aj (pA (pA (vR M 3) 4) 2)) (aj (pA (pA (vR M 3) 4) 3)) (aj (pA (pA (vR M 3) 4) 4))
def J2 (F : Tab) (i0 : Int) (l0 l1 : List AV) (b0 b1 b2 : Bool) (i1 : Int) (l2 : List AV) (i2 : Int) (l3 l4 : List AV) (b3 b4 : Bool) (i3 : Int) (l5 : List AV) (i4 i5 : Int) (l6 l7 : List AV) (b5 b6 b7 : Bool) (i6 i7 : Int) (l8 l9 : List AV) (i8 i9 i10 i11 i12 : Int) : LT := MX i0 l0 l1 b0 b1 b2 i1 l2 i2 l3 l4 b3 b4 i3 l5 i4 i5 l6 l7 b5 b6 b7 i6 i7 l8 l9 i8 i9 i10 i11 i12 (BO F i0 l0 l1 b0 b1 b2 i1 l2 i2 l3 l4 b3 b4 i3 l5 i4 i5 l6 l7 b5 b6 b7 i6 i7 l8 l9 i8 i9 i10 i11 i12)
def J4 (F : Tab) (dep : Nat) (args : List AV) (M : Mm) : Option LT := if Nat.beq dep 3 && AA.ok args M then some (Y3 (J2 F) args M) else none
def Es (F : Tab) (i0 : Int) (l0 l1 : List AV) (b0 b1 b2 : Bool) (i1 : Int) (l2 : List AV) (i2 : Int) (l3 l4 : List AV) (b3 b4 : Bool) (i3 : Int) (l5 : List AV) (i4 i5 : Int) (l6 l7 : List AV) (b5 b6 b7 : Bool) (i6 i7 : Int) (l8 l9 : List AV) (i8 i9 i10 i11 i12 : Int)  : Tr (Unit) :=
    let x0 : List AV := au (aA F 80 [aG i2 l3 l4 b3 false b4 i3]);
    .br (i8 == 16)
     (.br (cond (aN i10 16) true false)
      (.br (i9 != 0)
       (.br (cond (aN i9 16) true false)
        (.out ⟨1, [i2, i3], [b3, false, b4], [l3.set i9.toNat (.int .u32 (IntKind.u32.wrap ((aj (l3.getD i10.toNat .dead)) + (IntKind.u32.wrap i12)))), l4], [], [], []⟩)
        (.bad))
       (.out ⟨1, [i2, i3], [b3, false, b4], [l3, l4], [], [], []⟩))
      (.bad))
     (.br (i8 == 17)
      (.br (i9 != 0)
       (.br (cond (aN i9 16) true false)
        (.out ⟨1, [i2, i3], [b3, false, b4], [l3.set i9.toNat (.int .u32 (IntKind.u32.wrap ((IntKind.u32.wrap i12) * 16384))), l4], [], [], []⟩)
        (.bad))
       (.out ⟨1, [i2, i3], [b3, false, b4], [l3, l4], [], [], []⟩))
      (.br (i8 == 40)
       (.out ⟨2, [IntKind.u32.wrap (i5 + 4)], [], [], [], [], []⟩)
       (.br (i8 == 41)
        (.br (aC Pg F 80 [aG i2 l3 l4 b3 false b4 i3])
         (.out ⟨1, [aj (x0.getD 0 .dead), aj (x0.getD 6 .dead)], [av (x0.getD 3 .dead), av (x0.getD 4 .dead), av (x0.getD 5 .dead)], [au (x0.getD 1 .dead), au (x0.getD 2 .dead)], [], [], []⟩)
         (.bad))
        (.br (i8 == 45)
         (.out ⟨1, [i2, i3], [b3, true, b4], [l3, l4], [], [], []⟩)
         (.br (i8 == 48)
          (.out ⟨1, [i2, i3], [b3, false, true], [l3, l4], [], [], []⟩)
          (.br (cond (aN i10 16) (cond (aN i11 16) (cond (aC Pg F 81 [.int .i64 i8, .int .u32 (aj (l3.getD i10.toNat .dead)), .int .u32 (aj (l3.getD i11.toNat .dead))]) true false) false) false)
           (.br (i9 != 0)
            (.br (cond (aN i9 16) true false)
             (.out ⟨1, [i2, i3], [b3, false, b4], [l3.set i9.toNat (.int .u32 (aj ((eP (aA F 81 [.int .i64 i8, .int .u32 (aj (l3.getD i10.toNat .dead)), .int .u32 (aj (l3.getD i11.toNat .dead))])).getD 0 .dead))), l4], [], [], []⟩)
             (.bad))
            (.out ⟨1, [i2, i3], [b3, false, b4], [l3, l4], [], [], []⟩))
           (.bad)))))))
def BJ (F : Tab) (i0 : Int) (l0 l1 : List AV) (b0 b1 b2 : Bool) (i1 : Int) (l2 : List AV) (i2 : Int) (l3 l4 : List AV) (b3 b4 : Bool) (i3 : Int) (l5 : List AV) (i4 i5 : Int) (l6 l7 : List AV) (b5 b6 b7 : Bool) (i6 i7 : Int) (l8 l9 : List AV) (i8 i9 i10 i11 i12 : Int) : LO := (Es F i0 l0 l1 b0 b1 b2 i1 l2 i2 l3 l4 b3 b4 i3 l5 i4 i5 l6 l7 b5 b6 b7 i6 i7 l8 l9 i8 i9 i10 i11 i12).eval fun _ => LO.bad
def MW (i0 : Int) (l0 l1 : List AV) (b0 b1 b2 : Bool) (i1 : Int) (l2 : List AV) (i2 : Int) (l3 l4 : List AV) (b3 b4 : Bool) (i3 : Int) (l5 : List AV) (i4 i5 : Int) (l6 l7 : List AV) (b5 b6 b7 : Bool) (i6 i7 : Int) (l8 l9 : List AV) (i8 i9 i10 i11 i12 : Int) : Mm := ⟨[.var 26 (aG i0 l0 l1 b0 b1 b2 i1), .var 29 (aB l2), .var 38 (dD), .var 63 (dU i2 l3 l4 b3 false b4 i3 l5 i4 true cO i5 l6 l7 b5 b6 b7 i6 i7 l8 l9 false aZ 0 0 0 i8 i9 i10 i11 i12), .var 61 (.ptr 3 [] 63 0), kE], [(3, [3, 5]), (2, [4]), (2, [5]), (3, [3, 4])]⟩
def Od (i0 : Int) (l0 l1 : List AV) (b0 b1 b2 : Bool) (i1 : Int) (l2 : List AV) (i2 : Int) (l3 l4 : List AV) (b3 b4 : Bool) (i3 : Int) (l5 : List AV) (i4 i5 : Int) (l6 l7 : List AV) (b5 b6 b7 : Bool) (i6 i7 : Int) (l8 l9 : List AV) (i8 i9 i10 i11 i12 : Int) (lo : LO) : LT :=
 .br (lo.k == 1) (.done .ret (aT 1 [(0, .tuple [])] []) ⟨[.var 26 (aG i0 l0 l1 b0 b1 b2 i1), .var 29 (aB l2), .var 38 (dD), .var 63 (dU (lo.I 0) (lo.L 0) (lo.L 1) (lo.B 0) (lo.B 1) (lo.B 2) (lo.I 1) l5 i4 true cO i5 l6 l7 b5 b6 b7 i6 i7 l8 l9 false aZ 0 0 0 i8 i9 i10 i11 i12), .var 61 (.ptr 3 [] 63 0), kE], [(3, [3, 5]), (2, [4]), (2, [5]), (3, [3, 4])]⟩) (.br (lo.k == 2) (.done (.panic (.iface 89 (dV 1 0 (lo.I 0)))) (aT 0 [] []) (MW i0 l0 l1 b0 b1 b2 i1 l2 i2 l3 l4 b3 b4 i3 l5 i4 i5 l6 l7 b5 b6 b7 i6 i7 l8 l9 i8 i9 i10 i11 i12)) (.fail))
def abW (i0 : Int) (l0 l1 : List AV) (b0 b1 b2 : Bool) (i1 : Int) (l2 : List AV) (i2 : Int) (l3 l4 : List AV) (b3 b4 : Bool) (i3 : Int) (l5 : List AV) (i4 i5 : Int) (l6 l7 : List AV) (b5 b6 b7 : Bool) (i6 i7 : Int) (l8 l9 : List AV) (i8 i9 i10 i11 i12 : Int) : List AV := [.ptr 3 [] 63 0]
def Ej : ArP := ⟨[.ptr 3 [] 63 (some 0)], [.var 26 (d9), .var 29 (.agg 28 [.slice 139 false]), .var 38 (iF), .var 63 (jf), .var 61 (.ptr 3 [] 63 (some 0)), vM], [(3, [3, 5]), (2, [4]), (2, [5]), (3, [3, 4])]⟩
abbrev X9 {α : Type} (f : Int -> List AV -> List AV -> Bool -> Bool -> Bool -> Int -> List AV -> Int -> List AV -> List AV -> Bool -> Bool -> Int -> List AV -> Int -> Int -> List AV -> List AV -> Bool -> Bool -> Bool -> Int -> Int -> List AV -> List AV -> Int -> Int -> Int -> Int -> Int -> α) (args : List AV) (M : Mm) : α := f (aj (pA (vR M 0) 0)) (au (pA (vR M 0) 1)) (au (pA (vR M 0) 2)) (av (pA (vR M 0) 3)) (av (pA (vR M 0) 4)) (av (pA (vR M 0) 5)) (aj (pA (vR M 0) 6)) (ay (pA (vR M 1) 0)) (aj (pA (pA (vR M 3) 0) 0)) (au (pA (pA (vR M 3) 0) 1)) (au (pA (pA (vR M 3) 0) 2)) (av (pA (pA (vR M 3) 0) 3)) (av (pA (pA (vR M 3) 0) 5)) (aj (pA (pA (vR M 3) 0) 6)) (ay (pA (pA (vR M 3) 1) 0)) (aj (pA (vR M 3) 2)) (aj (pA (pA (pA (vR M 3) 3) 2) 0)) (au (pA (pA (pA (vR M 3) 3) 2) 1)) (au (pA (pA (pA (vR M 3) 3) 2) 2)) (av (pA (pA (pA (vR M 3) 3) 2) 3)) (av (pA (pA (pA (vR M 3) 3) 2) 4)) (av (pA (pA (pA (vR M 3) 3) 2) 5)) (aj (pA (pA (pA (vR M 3) 3) 2) 6)) (aj (pA (pA (vR M 3) 3) 3)) (ay (pA (pA (vR M 3) 3) 4)) (ay (pA (pA (vR M 3) 3) 5)) (aj (pA (pA (vR M 3) 4) 0)) (aj (pA (pA (vR M 3) 4) 1)) (aj (pA (pA (vR M 3) 4) 2)) (aj (pA (pA (vR M 3) 4) 3)) (aj (pA (pA (vR M 3) 4) 4))
def Jm (F : Tab) (i0 : Int) (l0 l1 : List AV) (b0 b1 b2 : Bool) (i1 : Int) (l2 : List AV) (i2 : Int) (l3 l4 : List AV) (b3 b4 : Bool) (i3 : Int) (l5 : List AV) (i4 i5 : Int) (l6 l7 : List AV) (b5 b6 b7 : Bool) (i6 i7 : Int) (l8 l9 : List AV) (i8 i9 i10 i11 i12 : Int) : LT := Od i0 l0 l1 b0 b1 b2 i1 l2 i2 l3 l4 b3 b4 i3 l5 i4 i5 l6 l7 b5 b6 b7 i6 i7 l8 l9 i8 i9 i10 i11 i12 (BJ F i0 l0 l1 b0 b1 b2 i1 l2 i2 l3 l4 b3 b4 i3 l5 i4 i5 l6 l7 b5 b6 b7 i6 i7 l8 l9 i8 i9 i10 i11 i12)
def I9 (F : Tab) (dep : Nat) (args : List AV) (M : Mm) : Option LT := if Nat.beq dep 3 && Ej.ok args M then some (X9 (Jm F) args M) else none
def vU (F : Tab) (i0 : Int) (l0 l1 : List AV) (b0 b1 b2 : Bool) (i1 : Int) (l2 : List AV) (i2 : Int) (l3 l4 : List AV) (b3 b4 : Bool) (i3 : Int) (l5 : List AV) (i4 i5 : Int) (l6 l7 : List AV) (b5 b6 b7 : Bool) (i6 : Int)  : Tr (Unit) :=
    let x0 : List AV := eP (aA F 43 [aG i5 l6 l7 b5 b6 b7 i6, .int .u32 i4]);
    let x1 : Int := IntKind.i64.wrap (16 + (aj (x0.getD 0 .dead)));
    let x2 : List AV := au (aA F 34 [aG i5 l6 l7 b5 b6 b7 i6, dV x1 0 i5]);
    let x3 : LO := CS F i0 l0 l1 b0 b1 b2 i1 l2 i2 l3 l4 b3 b4 i3 l5 i4 i5 l6 l7 b5 b6 b7 i6;
    let x4 : List AV := x3.l.getD 0 [];
    let x5 : List AV := x3.l.getD 1 [];
    let x6 : List AV := x3.l.getD 2 [];
    let x7 : Int := x3.i.getD 0 0;
    let x8 : Int := x3.i.getD 1 0;
    let x9 : Int := x3.i.getD 2 0;
    let x10 : List AV := au (aA F 34 [aG i5 l6 l7 b5 b6 b7 i6, dV x9 i5 i5]);
    let x11 : Int := x3.i.getD 3 0;
    let x12 : Int := x3.i.getD 4 0;
    let x13 : Int := x3.i.getD 5 0;
    let x14 : List AV := eP (aA F 46 [.int .i64 x8]);
    let x15 : Int := aj (x14.getD 0 .dead);
    let x16 : LO := Ai F x15 (aj (x14.getD 1 .dead)) i0 l0 l1 b0 b1 b2 i1 l2 (IntKind.u32.wrap (i2 + 4)) l3 l4 b3 b4 i3 x4 i4 i5 l6 l7 b5 b6 b7 i6 x7 x5 x6 x8 x9 x11 x12 x13;
    let x17 : List AV := x16.l.getD 0 [];
    let x18 : List AV := x16.l.getD 1 [];
    let x19 : List AV := x16.l.getD 2 [];
    let x20 : List AV := x16.l.getD 3 [];
    let x21 : Int := x16.i.getD 2 0;
    let x22 : List AV := au (aA F 34 [aG i5 l6 l7 b5 b6 b7 i6, dV x21 (x16.i.getD 3 0) i5]);
    let x23 : List AV := au (aA F 34 [aG i5 l6 l7 b5 b6 b7 i6, dV 3 (x16.i.getD 0 0) i5]);
    let x24 : LO := Cu F i0 l0 l1 b0 b1 b2 i1 l2 (IntKind.u32.wrap (i2 + 4)) l3 l4 b3 b4 i3 x4 i4 i5 l6 l7 b5 b6 b7 i6 x7 x5 x6 x8 x9 x11 x12 x13;
    let x25 : Int := x24.i.getD 0 0;
    let x26 : Bool := x24.k == 1;
    let x27 : LO := BK F i0 l0 l1 b0 b1 b2 i1 l2 (IntKind.u32.wrap (i2 + 4)) l3 l4 b3 b4 i3 x4 i4 i5 l6 l7 b5 b6 b7 i6 x7 x5 x6 x8 x9 x11 x12 x13;
    let x28 : Int := x27.i.getD 0 0;
    let x29 : List AV := x27.l.getD 0 [];
    let x30 : Bool := x27.k == 1;
    let x31 : LO := Cj F i0 l0 l1 b0 b1 b2 i1 l2 (IntKind.u32.wrap (i2 + 4)) l3 l4 b3 b4 i3 x4 i4 i5 l6 l7 b5 b6 b7 i6 x7 x5 x6 x8 x9 x11 x12 x13;
    let x32 : Int := x31.i.getD 0 0;
    let x33 : List AV := x31.l.getD 0 [];
    let x34 : List AV := x31.l.getD 1 [];
    let x35 : Bool := x31.b.getD 0 false;
    let x36 : Bool := x31.b.getD 1 false;
    let x37 : Bool := x31.b.getD 2 false;
    let x38 : Int := x31.i.getD 1 0;
    let x39 : Bool := x31.k == 2;
    let x40 : Bool := x31.k == 1;
    let x41 : Bool := aC Pg F 34 [aG i5 l6 l7 b5 b6 b7 i6, dV 2 x7 i5];
    let x42 : List AV := au (aA F 34 [aG i5 l6 l7 b5 b6 b7 i6, dV 2 x7 i5]);
    let x43 : Int := aj (x42.getD 0 .dead);
    let x44 : List AV := au (x42.getD 1 .dead);
    let x45 : List AV := au (x42.getD 2 .dead);
    let x46 : Bool := av (x42.getD 3 .dead);
    let x47 : Bool := av (x42.getD 4 .dead);
    let x48 : Bool := av (x42.getD 5 .dead);
    let x49 : Int := aj (x42.getD 6 .dead);
    let x50 : LO := Cw F i0 l0 l1 b0 b1 b2 i1 l2 (IntKind.u32.wrap (i2 + 4)) l3 l4 b3 b4 i3 x4 i4 i5 l6 l7 b5 b6 b7 i6 x7 x5 x6 x8 x9 x11 x12 x13;
    let x51 : LO := BO F i0 l0 l1 b0 b1 b2 i1 l2 (IntKind.u32.wrap (i2 + 4)) l3 l4 b3 b4 i3 x4 i4 i5 l6 l7 b5 b6 b7 i6 x7 x5 x6 x8 x9 x11 x12 x13;
    let x52 : Bool := x51.b.getD 0 false;
    let x53 : Int := x51.i.getD 0 0;
    let x54 : Bool := x51.k == 1;
    let x55 : LO := BJ F i0 l0 l1 b0 b1 b2 i1 l2 (IntKind.u32.wrap (i2 + 4)) l3 l4 b3 b4 i3 x4 i4 i5 l6 l7 b5 b6 b7 i6 x7 x5 x6 x8 x9 x11 x12 x13;
    let x56 : Int := x55.i.getD 0 0;
    let x57 : List AV := au (aA F 34 [aG i5 l6 l7 b5 b6 b7 i6, dV 1 0 x56]);
    let x58 : List AV := x55.l.getD 0 [];
    let x59 : List AV := x55.l.getD 1 [];
    let x60 : Bool := x55.b.getD 0 false;
    let x61 : Bool := x55.b.getD 1 false;
    let x62 : Bool := x55.b.getD 2 false;
    let x63 : Int := x55.i.getD 1 0;
    let x64 : List AV := au (aA F 34 [aG i5 l6 l7 b5 b6 b7 i6, dV 2 (x3.i.getD 6 0) i5]);
    let x65 : List AV := au (aA F 34 [aG i5 l6 l7 b5 b6 b7 i6, dV 3 i5 i5]);
    .br (cond (aC Pg F 43 [aG i5 l6 l7 b5 b6 b7 i6, .int .u32 i4]) true false)
     (.br (av (x0.getD 1 .dead))
      (.br (aC Pg F 34 [aG i5 l6 l7 b5 b6 b7 i6, dV x1 0 i5])
       (.out ⟨1, [aj (x2.getD 0 .dead), aj (x2.getD 6 .dead), x1], [av (x2.getD 3 .dead), av (x2.getD 4 .dead), av (x2.getD 5 .dead)], [au (x2.getD 1 .dead), au (x2.getD 2 .dead)], [], [], []⟩)
       (.bad))
      (.br (x3.k == 1)
       (.br (aC Pg F 34 [aG i5 l6 l7 b5 b6 b7 i6, dV 3 i5 i5])
        (.out ⟨1, [aj (x65.getD 0 .dead), aj (x65.getD 6 .dead), 3], [av (x65.getD 3 .dead), av (x65.getD 4 .dead), av (x65.getD 5 .dead)], [au (x65.getD 1 .dead), au (x65.getD 2 .dead)], [], [], []⟩)
        (.bad))
       (.br (x3.k == 2)
        (.br (aC Pg F 34 [aG i5 l6 l7 b5 b6 b7 i6, dV 2 (x3.i.getD 6 0) i5])
         (.out ⟨3, [i2, i3, aj (x64.getD 0 .dead), aj (x64.getD 6 .dead), x7, 0, 0, 0, 0, 2, 0, 0, 0, 0, 0], [b3, false, b4, av (x64.getD 3 .dead), av (x64.getD 4 .dead), av (x64.getD 5 .dead), false, false], [l3, l4, x4, au (x64.getD 1 .dead), au (x64.getD 2 .dead), x5, x6], [], [], []⟩)
         (.bad))
        (.br (x3.k == 3)
         (.br (aC Pg F 46 [.int .i64 x8])
          (.br (x15 != 0)
           (.br (x16.k == 1)
            (.br (aC Pg F 34 [aG i5 l6 l7 b5 b6 b7 i6, dV 3 (x16.i.getD 0 0) i5])
             (.out ⟨3, [IntKind.u32.wrap (i2 + 4), i3, aj (x23.getD 0 .dead), aj (x23.getD 6 .dead), x7, 0, 0, 0, 0, 3, x8, x9, x11, x12, x13], [b3, false, b4, av (x23.getD 3 .dead), av (x23.getD 4 .dead), av (x23.getD 5 .dead), false, false], [l3, l4, x4, au (x23.getD 1 .dead), au (x23.getD 2 .dead), x5, x6], [], [], []⟩)
             (.bad))
            (.br (x16.k == 2)
             (.out ⟨4, [IntKind.u32.wrap (i2 + 4), IntKind.u32.wrap (i2 + 4), x7, x8, x9, x11, x12, x13], [], [x17, x18, x17, x19, x20], [], [], []⟩)
             (.br (x16.k == 3)
              (.out ⟨3, [IntKind.u32.wrap (i2 + 4), i3, IntKind.u32.wrap (i2 + 4), i3, x7, 0, 0, 0, 0, 0, x8, x9, x11, x12, x13], [b3, false, b4, b3, false, b4, false, false], [x17, l4, x18, x17, l4, x19, x20], [], [], []⟩)
              (.br (x16.k == 4)
               (.out ⟨2, [IntKind.u32.wrap (i2 + 4), IntKind.u32.wrap (i2 + 4), i3, x7, 0, x8, x9, x11, x12, x13], [b3, false, b4], [x17, l3, l4, x18, x19], [], [], []⟩)
               (.br (x16.k == 5)
                (.br (aC Pg F 34 [aG i5 l6 l7 b5 b6 b7 i6, dV x21 (x16.i.getD 3 0) i5])
                 (.out ⟨2, [IntKind.u32.wrap (i2 + 4), aj (x22.getD 0 .dead), aj (x22.getD 6 .dead), x7, x21, x8, x9, x11, x12, x13], [av (x22.getD 3 .dead), av (x22.getD 4 .dead), av (x22.getD 5 .dead)], [x17, au (x22.getD 1 .dead), au (x22.getD 2 .dead), x18, x19], [], [], []⟩)
                 (.bad))
                (.bad))))))
           (.br (x8 == 28)
            (.br x26
             (.out ⟨3, [x25, i3, x25, i3, x7, 0, 0, 0, 0, 0, x8, x9, x11, x12, x13], [b3, false, b4, b3, false, b4, false, false], [l3, l4, x4, l3, l4, x5, x6], [], [], []⟩)
             (.bad))
            (.br (x8 == 29)
             (.br x26
              (.out ⟨3, [x25, i3, x25, i3, x7, 0, 0, 0, 0, 0, x8, x9, x11, x12, x13], [b3, false, b4, b3, false, b4, false, false], [l3, l4, x4, l3, l4, x5, x6], [], [], []⟩)
              (.bad))
             (.br (x8 == 30)
              (.br x26
               (.out ⟨3, [x25, i3, x25, i3, x7, 0, 0, 0, 0, 0, x8, x9, x11, x12, x13], [b3, false, b4, b3, false, b4, false, false], [l3, l4, x4, l3, l4, x5, x6], [], [], []⟩)
               (.bad))
              (.br (x8 == 31)
               (.br x26
                (.out ⟨3, [x25, i3, x25, i3, x7, 0, 0, 0, 0, 0, x8, x9, x11, x12, x13], [b3, false, b4, b3, false, b4, false, false], [l3, l4, x4, l3, l4, x5, x6], [], [], []⟩)
                (.bad))
               (.br (x8 == 32)
                (.br x30
                 (.out ⟨3, [x28, i3, x28, i3, x7, 0, 0, 0, 0, 0, x8, x9, x11, x12, x13], [b3, false, b4, b3, false, b4, false, false], [x29, l4, x4, x29, l4, x5, x6], [], [], []⟩)
                 (.bad))
                (.br (x8 == 33)
                 (.br x30
                  (.out ⟨3, [x28, i3, x28, i3, x7, 0, 0, 0, 0, 0, x8, x9, x11, x12, x13], [b3, false, b4, b3, false, b4, false, false], [x29, l4, x4, x29, l4, x5, x6], [], [], []⟩)
                  (.bad))
                 (.br (x8 == 42)
                  (.br x40
                   (.br x41
                    (.out ⟨3, [x32, x38, x43, x49, x7, 0, 0, 0, 0, 2, x8, x9, x11, x12, x13], [x35, x36, x37, x46, x47, x48, false, false], [x33, x34, x4, x44, x45, x5, x6], [], [], []⟩)
                    (.bad))
                   (.br x39
                    (.out ⟨3, [x32, x38, x32, x38, x7, 0, 0, 0, 0, 0, x8, x9, x11, x12, x13], [x35, x36, x37, x35, x36, x37, false, false], [x33, x34, x4, x33, x34, x5, x6], [], [], []⟩)
                    (.bad)))
                  (.br (x8 == 43)
                   (.br x40
                    (.br x41
                     (.out ⟨3, [x32, x38, x43, x49, x7, 0, 0, 0, 0, 2, x8, x9, x11, x12, x13], [x35, x36, x37, x46, x47, x48, false, false], [x33, x34, x4, x44, x45, x5, x6], [], [], []⟩)
                     (.bad))
                    (.br x39
                     (.out ⟨3, [x32, x38, x32, x38, x7, 0, 0, 0, 0, 0, x8, x9, x11, x12, x13], [x35, x36, x37, x35, x36, x37, false, false], [x33, x34, x4, x33, x34, x5, x6], [], [], []⟩)
                     (.bad)))
                   (.br (x8 == 44)
                    (.br (x50.k == 1)
                     (.out ⟨3, [IntKind.u32.wrap (i2 + 4), i3, IntKind.u32.wrap (i2 + 4), i3, x7, 0, 0, x50.i.getD 0 0, x50.i.getD 1 0, 0, x8, x9, x11, x12, x13], [b3, false, b4, b3, false, b4, false, false], [l3, l4, x4, l3, l4, x5, x6], [], [], []⟩)
                     (.bad))
                    (.br (x8 == 46)
                     (.br x54
                      (.out ⟨3, [IntKind.u32.wrap (i2 + 4), i3, IntKind.u32.wrap (i2 + 4), i3, x7, x13, x53, 0, 0, 0, x8, x9, x11, x12, x13], [b3, false, b4, b3, false, b4, true, x52], [l3, l4, x4, l3, l4, x5, x6], [], [], []⟩)
                      (.bad))
                     (.br (x8 == 47)
                      (.br x54
                       (.out ⟨3, [IntKind.u32.wrap (i2 + 4), i3, IntKind.u32.wrap (i2 + 4), i3, x7, x13, x53, 0, 0, 0, x8, x9, x11, x12, x13], [b3, false, b4, b3, false, b4, true, x52], [l3, l4, x4, l3, l4, x5, x6], [], [], []⟩)
                       (.bad))
                      (.br (x55.k == 1)
                       (.out ⟨3, [x56, x63, x56, x63, x7, 0, 0, 0, 0, 0, x8, x9, x11, x12, x13], [x60, x61, x62, x60, x61, x62, false, false], [x58, x59, x4, x58, x59, x5, x6], [], [], []⟩)
                       (.br (x55.k == 2)
                        (.br (aC Pg F 34 [aG i5 l6 l7 b5 b6 b7 i6, dV 1 0 x56])
                         (.out ⟨3, [IntKind.u32.wrap (i2 + 4), i3, aj (x57.getD 0 .dead), aj (x57.getD 6 .dead), x7, 0, 0, 0, 0, 1, x8, x9, x11, x12, x13], [b3, false, b4, av (x57.getD 3 .dead), av (x57.getD 4 .dead), av (x57.getD 5 .dead), false, false], [l3, l4, x4, au (x57.getD 1 .dead), au (x57.getD 2 .dead), x5, x6], [], [], []⟩)
                         (.bad))
                        (.bad)))))))))))))))
          (.bad))
         (.br (x3.k == 4)
          (.br (aC Pg F 34 [aG i5 l6 l7 b5 b6 b7 i6, dV x9 i5 i5])
           (.out ⟨2, [i2, aj (x10.getD 0 .dead), aj (x10.getD 6 .dead), 0, x9, 0, 0, 0, 0, 0], [av (x10.getD 3 .dead), av (x10.getD 4 .dead), av (x10.getD 5 .dead)], [x4, au (x10.getD 1 .dead), au (x10.getD 2 .dead), x5, x6], [], [], []⟩)
           (.bad))
          (.bad))))))
     (.bad)
def su (F : Tab) (i0 : Int) (l0 l1 : List AV) (b0 b1 b2 : Bool) (i1 : Int) (l2 : List AV) (i2 : Int) (l3 l4 : List AV) (b3 b4 : Bool) (i3 : Int) (l5 : List AV) (i4 i5 : Int) (l6 l7 : List AV) (b5 b6 b7 : Bool) (i6 : Int) : LO := (vU F i0 l0 l1 b0 b1 b2 i1 l2 i2 l3 l4 b3 b4 i3 l5 i4 i5 l6 l7 b5 b6 b7 i6).eval fun _ => LO.bad
def ZN (i0 : Int) (l0 l1 : List AV) (b0 b1 b2 : Bool) (i1 : Int) (l2 : List AV) (i2 : Int) (l3 l4 : List AV) (b3 b4 : Bool) (i3 : Int) (l5 : List AV) (i4 i5 : Int) (l6 l7 : List AV) (b5 b6 b7 : Bool) (i6 : Int) : Mm := ⟨[.var 26 (aG i0 l0 l1 b0 b1 b2 i1), .var 29 (aB l2), .var 38 (Eb), .var 63 (.agg 62 [aG i2 l3 l4 b3 false b4 i3, aB l5, .int .u32 i4, .agg 37 [.bool true, cO, aG i5 l6 l7 b5 b6 b7 i6, .int .u32 0, .slice 57 [] true, .slice 59 [] true, .bool false, aZ, .int .i64 0, .int .u32 0, .int .i64 0], oI])], []⟩
def K5 (i0 : Int) (l0 l1 : List AV) (b0 b1 b2 : Bool) (i1 : Int) (l2 : List AV) (i2 : Int) (l3 l4 : List AV) (b3 b4 : Bool) (i3 : Int) (l5 : List AV) (i4 i5 : Int) (l6 l7 : List AV) (b5 b6 b7 : Bool) (i6 : Int) (lo : LO) : LT :=
 .br (lo.k == 1) (.done .ret (aT 1 [(0, .tuple [])] []) ⟨[.var 26 (aG i0 l0 l1 b0 b1 b2 i1), .var 29 (aB l2), .var 38 (Eb), .var 63 (.agg 62 [aG i2 l3 l4 b3 false b4 i3, aB l5, .int .u32 i4, .agg 37 [.bool true, aG (lo.I 0) (lo.L 0) (lo.L 1) (lo.B 0) (lo.B 1) (lo.B 2) (lo.I 1), aG i5 l6 l7 b5 b6 b7 i6, .int .u32 0, .slice 57 [] true, .slice 59 [] true, .bool false, aZ, .int .i64 0, .int .u32 0, .int .i64 (lo.I 2)], oI])], []⟩) (.br (lo.k == 2) (.done .ret (aT 1 [(0, .tuple [])] []) ⟨[.var 26 (aG i0 l0 l1 b0 b1 b2 i1), .var 29 (aB l2), .var 38 (dD), .var 63 (.agg 62 [aG (lo.I 0) l3 l4 b3 false b4 i3, aB (lo.L 0), .int .u32 i4, lM true (lo.I 1) (lo.L 1) (lo.L 2) (lo.B 0) (lo.B 1) (lo.B 2) (lo.I 2) i5 l6 l7 b5 b6 b7 i6 (lo.I 3) (lo.L 3) (lo.L 4) false aZ 0 0 (lo.I 4), bI (lo.I 5) (lo.I 6) (lo.I 7) (lo.I 8) (lo.I 9)])], [(2, [4]), (2, [5]), (3, [3, 4]), (3, [3, 5])]⟩) (.br (lo.k == 3) (.done .ret (aT 1 [(0, .tuple [])] []) ⟨[.var 26 (aG i0 l0 l1 b0 b1 b2 i1), .var 29 (aB l2), .var 38 (dD), .var 63 (.agg 62 [aG (lo.I 0) (lo.L 0) (lo.L 1) (lo.B 0) (lo.B 1) (lo.B 2) (lo.I 1), aB (lo.L 2), .int .u32 i4, dR true (lo.I 2) (lo.L 3) (lo.L 4) (lo.B 3) (lo.B 4) (lo.B 5) (lo.I 3) i5 l6 l7 b5 b6 b7 i6 (lo.I 4) (lo.L 5) (lo.L 6) (lo.B 6) (lo.B 7) (lo.I 5) (lo.I 6) (lo.I 7) (lo.I 8) (lo.I 9), bI (lo.I 10) (lo.I 11) (lo.I 12) (lo.I 13) (lo.I 14)])], [(3, [3, 5]), (2, [4]), (2, [5]), (3, [3, 4])]⟩) (.br (lo.k == 4) (.done .ret (aT 1 [(0, .tuple [])] []) ⟨[.var 26 (aG i0 l0 l1 b0 b1 b2 i1), .var 29 (aB l2), .var 38 (dD), .var 63 (.agg 62 [aG (lo.I 0) (lo.L 0) l4 b3 false b4 i3, aB (lo.L 1), .int .u32 i4, lM true (lo.I 1) (lo.L 2) l4 b3 false b4 i3 i5 l6 l7 b5 b6 b7 i6 (lo.I 2) (lo.L 3) (lo.L 4) false aZ 0 0 0, bI (lo.I 3) (lo.I 4) (lo.I 5) (lo.I 6) (lo.I 7)])], [(3, [3, 4]), (3, [3, 5]), (2, [4]), (2, [5])]⟩) (.fail))))
def Zt (i0 : Int) (l0 l1 : List AV) (b0 b1 b2 : Bool) (i1 : Int) (l2 : List AV) (i2 : Int) (l3 l4 : List AV) (b3 b4 : Bool) (i3 : Int) (l5 : List AV) (i4 i5 : Int) (l6 l7 : List AV) (b5 b6 b7 : Bool) (i6 : Int) : List AV := [.ptr 3 [] 63 0]
def Aj : ArP := ⟨[.ptr 3 [] 63 (some 0)], [.var 26 (d9), .var 29 (.agg 28 [.slice 139 false]), .var 38 (EP), .var 63 (F6)], []⟩
abbrev Xc {α : Type} (f : Int -> List AV -> List AV -> Bool -> Bool -> Bool -> Int -> List AV -> Int -> List AV -> List AV -> Bool -> Bool -> Int -> List AV -> Int -> Int -> List AV -> List AV -> Bool -> Bool -> Bool -> Int -> α) (args : List AV) (M : Mm) : α := f (aj (pA (vR M 0) 0)) (au (pA (vR M 0) 1)) (au (pA (vR M 0) 2)) (av (pA (vR M 0) 3)) (av (pA (vR M 0) 4)) (av (pA (vR M 0) 5)) (aj (pA (vR M 0) 6)) (ay (pA (vR M 1) 0)) (aj (pA (pA (vR M 3) 0) 0)) (au (pA (pA (vR M 3) 0) 1)) (au (pA (pA (vR M 3) 0) 2)) (av (pA (pA (vR M 3) 0) 3)) (av (pA (pA (vR M 3) 0) 5)) (aj (pA (pA (vR M 3) 0) 6)) (ay (pA (pA (vR M 3) 1) 0)) (aj (pA (vR M 3) 2)) (aj (pA (pA (pA (vR M 3) 3) 2) 0)) (au (pA (pA (pA (vR M 3) 3) 2) 1)) (au (pA (pA (pA (vR M 3) 3) 2) 2)) (av (pA (pA (pA (vR M 3) 3) 2) 3)) (av (pA (pA (pA (vR M 3) 3) 2) 4)) (av (pA (pA (pA (vR M 3) 3) 2) 5)) (aj (pA (pA (pA (vR M 3) 3) 2) 6))
def OG (F : Tab) (i0 : Int) (l0 l1 : List AV) (b0 b1 b2 : Bool) (i1 : Int) (l2 : List AV) (i2 : Int) (l3 l4 : List AV) (b3 b4 : Bool) (i3 : Int) (l5 : List AV) (i4 i5 : Int) (l6 l7 : List AV) (b5 b6 b7 : Bool) (i6 : Int) : LT := K5 i0 l0 l1 b0 b1 b2 i1 l2 i2 l3 l4 b3 b4 i3 l5 i4 i5 l6 l7 b5 b6 b7 i6 (su F i0 l0 l1 b0 b1 b2 i1 l2 i2 l3 l4 b3 b4 i3 l5 i4 i5 l6 l7 b5 b6 b7 i6)
def Kj (F : Tab) (dep : Nat) (args : List AV) (M : Mm) : Option LT := if Nat.beq dep 4 && Aj.ok args M then some (Xc (OG F) args M) else none
def yH : ArP := ⟨[], [.var 26 (d9), .var 29 (.agg 28 [.slice 139 false]), .var 38 (iF), .var 63 (jf), .var 61 (.ptr 3 [] 63 (some 0))], [(3, [3, 5]), (2, [4]), (2, [5]), (3, [3, 4])]⟩
def Gz (dep : Nat) (args : List AV) (M : Mm) : Option (AV × List Row) :=
 if Nat.beq dep 4 && yH.ok args M then some (.mapv (some 5), [.map 3 111 [(.int .i64 28, .func (.func 75) [] []), (.int .i64 29, .func (.func 75) [] []), (.int .i64 30, .func (.func 75) [] []), (.int .i64 31, .func (.func 75) [] []), (.int .i64 32, .func (.func 76) [] []), (.int .i64 33, .func (.func 76) [] []), (.int .i64 42, .func (.func 77) [] []), (.int .i64 43, .func (.func 77) [] []), (.int .i64 44, .func (.func 78) [] []), (.int .i64 46, .func (.func 79) [] []), (.int .i64 47, .func (.func 79) [] [])]]) else none
def kn : List FuncId := [5, 6, 7, 8, 9, 10, 11, 12, 13, 14, 15, 16, 17, 18, 19, 20, 22, 23, 24, 25, 26, 27, 28, 29, 30, 31, 32, 33, 34, 35, 36, 37, 39, 40, 41, 43, 46, 50, 51, 52, 53, 54, 55, 56, 57, 58, 59, 60, 61, 63, 64, 65, 68, 72, 80, 81, 82, 83, 84, 85, 86, 87, 88, 89, 90, 91, 92, 93, 94, 95, 96, 100, 101, 102, 103, 104, 105, 106, 107, 108, 110, 111, 112, 113, 114, 118, 119, 120, 121, 122, 123, 124, 125]
noncomputable def cx (F : Tab) : Ctx where
 P := Pg
 n := 100000
 muta := fun f => jq f [66, 69]
 spec := CZ Pg kn F
 kept := fun f id => match f, id with
  | 8, 4 => some ([2, 3, 5], [2, 3, 4])
  | 8, 9 => some ([2, 3, 6], [4])
  | 13, 2 => some ([2, 3, 4, 6, 7, 12, 13], [2, 3, 4, 6, 7, 8])
  | 14, 2 => some ([2, 6, 7], [6, 7])
  | 23, 3 => some ([1, 4, 5, 6], [4])
  | 25, 3 => some ([3, 6, 7, 8], [3, 6, 7])
  | 25, 7 => some ([3, 6, 7, 9], [3, 6, 7])
  | 27, 6 => some ([1, 3, 6, 8, 9], [6, 8])
  | 36, 4 => some ([2, 4, 6, 7, 16, 17, 18], [4, 5, 6])
  | 37, 3 => some ([1, 2, 4, 5, 6], [4, 5])
  | 38, 3 => some ([2, 3, 5, 6], [5])
  | 40, 6 => some ([3, 4, 6, 7], [4, 6])
  | 43, 4 => some ([1, 12], [4, 5])
  | 71, 3 => some ([0, 1, 7, 8, 37, 38, 39], [0, 1, 7, 8])
  | 71, 8 => some ([0, 1, 7, 8, 48, 49, 50], [0, 1, 7, 8])
  | 93, 3 => some ([0, 1, 2, 7, 8], [7])
  | 94, 3 => some ([0, 3, 4], [3])
  | 99, 1 => some ([1, 2, 3], [])
  | _, _ => none
 ends := fun dep f id fr M => match f, id with
  | 8, 4 => LU F dep fr M
  | 8, 9 => MQ F dep fr M
  | 13, 2 => MV F dep fr M
  | 14, 2 => MG F dep fr M
  | 23, 3 => Nq F dep fr M
  | 25, 3 => Ot F dep fr M
  | 25, 7 => Ol F dep fr M
  | 27, 6 => P5 F dep fr M
  | 36, 4 => Oo F dep fr M
  | 37, 3 => LP F dep fr M
  | 38, 3 => Lx F dep fr M
  | 40, 6 => Mf F dep fr M
  | 43, 4 => Jb F dep fr M
  | 71, 3 => Qk F dep fr M
  | 71, 8 => Nj F dep fr M
  | 93, 3 => Ju F dep fr M
  | 94, 3 => Jp F dep fr M
  | 99, 1 => K7 F dep fr M
  | _, _ => none
 acts := fun dep f args M => match f with
  | 21 => Kj F dep args M
  | 45 => PY F dep args M
  | 47 => Jg F dep args M
  | 49 => I9 F dep args M
  | 70 => (match PN F dep args M with | some t => some t | none => QV F dep args M)
  | 71 => (match Jz F dep args M with | some t => some t | none => OJ F dep args M)
  | 74 => (match QS F dep args M with | some t => some t | none => (match ME F dep args M with | some t => some t | none => M7 F dep args M))
  | 75 => JD F dep args M
  | 76 => Kc F dep args M
  | 77 => Jl F dep args M
  | 78 => Qb F dep args M
  | 79 => J4 F dep args M
  | _ => none
 news := fun dep f args M => match f with
  | 48 => Gz dep args M
  | _ => none
 newf := fun f => jq f [48]
 pln := fun t => jq t [27]
 actf := fun f => jq f [71]
end
end Go.Proofs.YtcknhfnbdgleiaaGreat
