/- What the functions return, in terms of what they call. (Printed by a program of mine, gen.py.) -/
import Derived.Test.YtadjlohgmfclpaaIsaC
set_option linter.unusedVariables false
set_option linter.unusedSimpArgs false
namespace Go.Proofs.Ytadjlohgmfclpaa
open Go.AE
set_option maxRecDepth 100000 in
theorem nf_law04_IsaEncodesAsSpecified (F : Tab) (a0 a1 a2 a3 a4 a5 : Int) : fnV (cx F) 6 3 [.agg 22 [.int .i64 a0, .int .i64 a1, .int .i64 a2, .int .i64 a3, .int .i64 a4], .int .u32 a5] =
  (let x0 : List AV := tupOf (valT F 9 [.agg 22 [.int .i64 a0, .int .i64 a1, .int .i64 a2, .int .i64 a3, .int .i64 a4]]);
   let x1 : List AV := partsOf (valT F 10 [.agg 22 [.int .i64 a0, .int .i64 a1, .int .i64 a2, .int .i64 a3, .int .i64 a4]]);
   let x2 : Bool := okT Pg F 12 [.agg 22 [.int .i64 a0, .int .i64 a1, .int .i64 a2, .int .i64 a3, .int .i64 a4]];
   let x3 : Bool := boolOf (valT F 12 [.agg 22 [.int .i64 a0, .int .i64 a1, .int .i64 a2, .int .i64 a3, .int .i64 a4]]);
   let x4 : List AV := tupOf (valT F 14 [.int .u32 a5, .agg 22 [.int .i64 a0, .int .i64 a1, .int .i64 a2, .int .i64 a3, .int .i64 a4]]);
   let x5 : List AV := partsOf (valT F 15 [.int .u32 a5, .agg 22 [.int .i64 a0, .int .i64 a1, .int .i64 a2, .int .i64 a3, .int .i64 a4]]);
   let x6 : Bool := boolOf (valT F 16 [.slice 3 (listOf (valT F 17 [.agg 22 [.int .i64 a0, .int .i64 a1, .int .i64 a2, .int .i64 a3, .int .i64 a4]])) false, .slice 3 (listOf (valT F 18 [.agg 22 [.int .i64 a0, .int .i64 a1, .int .i64 a2, .int .i64 a3, .int .i64 a4]])) false]);
   cond (okT Pg F 9 [.agg 22 [.int .i64 a0, .int .i64 a1, .int .i64 a2, .int .i64 a3, .int .i64 a4]])
    (cond (okT Pg F 10 [.agg 22 [.int .i64 a0, .int .i64 a1, .int .i64 a2, .int .i64 a3, .int .i64 a4]])
     (cond (cond (okT Pg F 11 [.agg 22 [.int .i64 a0, .int .i64 a1, .int .i64 a2, .int .i64 a3, .int .i64 a4]]) (cond x2 true false) false)
      (cond (cond (!((boolOf (valT F 11 [.agg 22 [.int .i64 a0, .int .i64 a1, .int .i64 a2, .int .i64 a3, .int .i64 a4]])) == x3)) true (cond ((intOf (x0.getD 0 .dead)) != (intOf (x1.getD 0 .dead))) true ((intOf (x0.getD 1 .dead)) != (intOf (x1.getD 1 .dead)))))
       (some (.bool false))
       (cond x2
        (cond (!x3)
         (cond (okT Pg F 13 [])
          (some (.bool (boolOf (valT F 13 []))))
          (none))
         (cond (okT Pg F 14 [.int .u32 a5, .agg 22 [.int .i64 a0, .int .i64 a1, .int .i64 a2, .int .i64 a3, .int .i64 a4]])
          (cond (okT Pg F 15 [.int .u32 a5, .agg 22 [.int .i64 a0, .int .i64 a1, .int .i64 a2, .int .i64 a3, .int .i64 a4]])
           (cond (cond (okT Pg F 13 []) (condB (boolOf (valT F 13 [])) (cond (okT Pg F 17 [.agg 22 [.int .i64 a0, .int .i64 a1, .int .i64 a2, .int .i64 a3, .int .i64 a4]]) (cond (okT Pg F 18 [.agg 22 [.int .i64 a0, .int .i64 a1, .int .i64 a2, .int .i64 a3, .int .i64 a4]]) (cond (okT Pg F 16 [.slice 3 (listOf (valT F 17 [.agg 22 [.int .i64 a0, .int .i64 a1, .int .i64 a2, .int .i64 a3, .int .i64 a4]])) false, .slice 3 (listOf (valT F 18 [.agg 22 [.int .i64 a0, .int .i64 a1, .int .i64 a2, .int .i64 a3, .int .i64 a4]])) false]) (condB x6 (cond (okT Pg F 19 [.agg 22 [.int .i64 a0, .int .i64 a1, .int .i64 a2, .int .i64 a3, .int .i64 a4]]) (cond (okT Pg F 20 [.agg 22 [.int .i64 a0, .int .i64 a1, .int .i64 a2, .int .i64 a3, .int .i64 a4]]) true false) false) true) false) false) false) true) false)
            (some (.bool (cond (boolOf (valT F 13 [])) (cond x6 (cond ((intOf (valT F 19 [.agg 22 [.int .i64 a0, .int .i64 a1, .int .i64 a2, .int .i64 a3, .int .i64 a4]])) == (intOf (valT F 20 [.agg 22 [.int .i64 a0, .int .i64 a1, .int .i64 a2, .int .i64 a3, .int .i64 a4]]))) (cond ((intOf (x4.getD 0 .dead)) == (intOf (x5.getD 0 .dead))) ((boolOf (x4.getD 1 .dead)) == (boolOf (x5.getD 1 .dead))) false) false) false) false)))
            (none))
           (none))
          (none)))
        (none)))
      (none))
     (none))
    (none)) := by kernel_rfl
set_option maxRecDepth 100000 in
theorem nf_law04_IsaDecodesAsSpecified (F : Tab) (a0 : Int) : fnV (cx F) 6 4 [.int .u32 a0] =
  (let x0 : List AV := tupOf (valT F 21 [.int .u32 a0]);
   let x1 : List AV := partsOf (x0.getD 0 .dead);
   let x2 : List AV := partsOf (valT F 22 [.int .u32 a0]);
   let x3 : List AV := partsOf (x2.getD 0 .dead);
   cond (okT Pg F 21 [.int .u32 a0])
    (cond (okT Pg F 22 [.int .u32 a0])
     (cond (cond (okT Pg F 13 []) true false)
      (some (.bool (cond (boolOf (valT F 13 [])) (cond (((intOf (x1.getD 0 .dead)) == (intOf (x3.getD 0 .dead))) && (((intOf (x1.getD 1 .dead)) == (intOf (x3.getD 1 .dead))) && (((intOf (x1.getD 2 .dead)) == (intOf (x3.getD 2 .dead))) && (((intOf (x1.getD 3 .dead)) == (intOf (x3.getD 3 .dead))) && (((intOf (x1.getD 4 .dead)) == (intOf (x3.getD 4 .dead))) && true))))) ((boolOf (x0.getD 1 .dead)) == (boolOf (x2.getD 1 .dead))) false) false)))
      (none))
     (none))
    (none)) := by kernel_rfl
set_option maxRecDepth 100000 in
theorem nf_law04_IsaWordsAreOneToOne (F : Tab) (a0 a1 a2 a3 a4 a5 a6 a7 a8 a9 a10 : Int) : fnV (cx F) 6 5 [.int .u32 a0, .agg 22 [.int .i64 a1, .int .i64 a2, .int .i64 a3, .int .i64 a4, .int .i64 a5], .agg 22 [.int .i64 a6, .int .i64 a7, .int .i64 a8, .int .i64 a9, .int .i64 a10]] =
  (let x0 : List AV := tupOf (valT F 21 [.int .u32 a0]);
   let x1 : List AV := partsOf (x0.getD 0 .dead);
   let x2 : Int := intOf (x1.getD 0 .dead);
   let x3 : Int := intOf (x1.getD 1 .dead);
   let x4 : Int := intOf (x1.getD 2 .dead);
   let x5 : Int := intOf (x1.getD 3 .dead);
   let x6 : Int := intOf (x1.getD 4 .dead);
   let x7 : Bool := boolOf (x0.getD 1 .dead);
   let x8 : List AV := tupOf (valT F 9 [.agg 22 [.int .i64 x2, .int .i64 x3, .int .i64 x4, .int .i64 x5, .int .i64 x6]]);
   let x9 : Bool := cond (!x7) (!((x2 == 0) && ((x3 == 0) && ((x4 == 0) && ((x5 == 0) && ((x6 == 0) && true)))))) false;
   let x10 : Bool := okT Pg F 9 [.agg 22 [.int .i64 a1, .int .i64 a2, .int .i64 a3, .int .i64 a4, .int .i64 a5]];
   let x11 : List AV := tupOf (valT F 9 [.agg 22 [.int .i64 a1, .int .i64 a2, .int .i64 a3, .int .i64 a4, .int .i64 a5]]);
   let x12 : Int := intOf (x11.getD 0 .dead);
   let x13 : Int := intOf (x11.getD 1 .dead);
   let x14 : Bool := okT Pg F 9 [.agg 22 [.int .i64 a6, .int .i64 a7, .int .i64 a8, .int .i64 a9, .int .i64 a10]];
   let x15 : List AV := tupOf (valT F 9 [.agg 22 [.int .i64 a6, .int .i64 a7, .int .i64 a8, .int .i64 a9, .int .i64 a10]]);
   let x16 : Int := intOf (x15.getD 1 .dead);
   let x17 : Bool := !((x13 == 0) == (boolOf (valT F 11 [.agg 22 [.int .i64 a1, .int .i64 a2, .int .i64 a3, .int .i64 a4, .int .i64 a5]])));
   let x18 : Bool := cond x17 true (!((x16 == 0) == (boolOf (valT F 11 [.agg 22 [.int .i64 a6, .int .i64 a7, .int .i64 a8, .int .i64 a9, .int .i64 a10]]))));
   let x19 : Bool := cond (okT Pg F 11 [.agg 22 [.int .i64 a1, .int .i64 a2, .int .i64 a3, .int .i64 a4, .int .i64 a5]]) (condB x17 true (cond (okT Pg F 11 [.agg 22 [.int .i64 a6, .int .i64 a7, .int .i64 a8, .int .i64 a9, .int .i64 a10]]) true false)) false;
   let x20 : Bool := x13 != 0;
   let x21 : Bool := cond (boolOf (valT F 13 [])) (x12 == 0) false;
   let x22 : Bool := okT Pg F 21 [.int .u32 x12];
   let x23 : List AV := tupOf (valT F 21 [.int .u32 x12]);
   let x24 : List AV := partsOf (x23.getD 0 .dead);
   let x25 : Bool := cond (boolOf (valT F 13 [])) (cond (boolOf (x23.getD 1 .dead)) (cond (((intOf (x24.getD 0 .dead)) == a1) && (((intOf (x24.getD 1 .dead)) == a2) && (((intOf (x24.getD 2 .dead)) == a3) && (((intOf (x24.getD 3 .dead)) == a4) && (((intOf (x24.getD 4 .dead)) == a5) && true))))) (cond (x16 != 0) true ((x12 == (intOf (x15.getD 0 .dead))) == ((a1 == a6) && ((a2 == a7) && ((a3 == a8) && ((a4 == a9) && ((a5 == a10) && true))))))) false) false) false;
   cond (okT Pg F 21 [.int .u32 a0])
    (cond x7
     (cond (okT Pg F 9 [.agg 22 [.int .i64 x2, .int .i64 x3, .int .i64 x4, .int .i64 x5, .int .i64 x6]])
      (cond (cond (okT Pg F 11 [.agg 22 [.int .i64 x2, .int .i64 x3, .int .i64 x4, .int .i64 x5, .int .i64 x6]]) true false)
       (cond (cond (!(boolOf (valT F 11 [.agg 22 [.int .i64 x2, .int .i64 x3, .int .i64 x4, .int .i64 x5, .int .i64 x6]]))) true (cond ((intOf (x8.getD 1 .dead)) != 0) true ((intOf (x8.getD 0 .dead)) != a0)))
        (some (.bool false))
        (cond x9
         (some (.bool false))
         (cond x10
          (cond x14
           (cond x19
            (cond x18
             (some (.bool false))
             (cond x20
              (cond (cond (okT Pg F 13 []) true false)
               (some (.bool x21))
               (none))
              (cond x22
               (cond (cond (okT Pg F 13 []) true false)
                (some (.bool x25))
                (none))
               (none))))
            (none))
           (none))
          (none))))
       (none))
      (none))
     (cond x9
      (some (.bool false))
      (cond x10
       (cond x14
        (cond x19
         (cond x18
          (some (.bool false))
          (cond x20
           (cond (cond (okT Pg F 13 []) true false)
            (some (.bool x21))
            (none))
           (cond x22
            (cond (cond (okT Pg F 13 []) true false)
             (some (.bool x25))
             (none))
            (none))))
         (none))
        (none))
       (none))))
    (none)) := by kernel_rfl
set_option maxRecDepth 100000 in
theorem nf_law04_IsaNamesAreOneToOne (F : Tab) (a0 a1 : Int) : fnV (cx F) 6 6 [.int .i64 a0, .int .i64 a1] =
  (let x0 : List UInt8 := strOf (valT F 23 [.int .i64 a0]);
   let x1 : Bool := !(x0 == []);
   let x2 : Bool := !(x1 == ((intOf (valT F 24 [.int .i64 a0])) != 0));
   let x3 : Bool := cond x1 (cond (x0 == (strOf (valT F 23 [.int .i64 a1]))) (a0 != a1) false) false;
   cond (okT Pg F 23 [.int .i64 a0])
    (cond (okT Pg F 23 [.int .i64 a1])
     (cond (cond (okT Pg F 24 [.int .i64 a0]) (condB x2 true (condB x1 (cond (okT Pg F 25 [.str x0]) true false) true)) false)
      (cond (cond x2 true (cond x1 (cond ((intOf (valT F 25 [.str x0])) != a0) true x3) x3))
       (some (.bool false))
       (cond ((lf_law04_IsaNamesAreOneToOne_5 F x0 100000 0).k == 1)
        (some (.bool false))
        (cond ((lf_law04_IsaNamesAreOneToOne_5 F x0 100000 0).k == 2)
         (cond (cond (okT Pg F 13 []) (condB (boolOf (valT F 13 [])) (cond (okT Pg F 25 [.str []]) true false) true) false)
          (some (.bool (cond (boolOf (valT F 13 [])) ((intOf (valT F 25 [.str []])) == 0) false)))
          (none))
         (none))))
      (none))
     (none))
    (none)) := by kernel_rfl
set_option maxRecDepth 100000 in
theorem nf_law04_IsaTargetsTurnBack (F : Tab) (a0 a1 a2 a3 a4 a5 : Int) : fnV (cx F) 6 7 [.agg 22 [.int .i64 a0, .int .i64 a1, .int .i64 a2, .int .i64 a3, .int .i64 a4], .int .u32 a5] =
  (let x0 : List AV := tupOf (valT F 14 [.int .u32 a5, .agg 22 [.int .i64 a0, .int .i64 a1, .int .i64 a2, .int .i64 a3, .int .i64 a4]]);
   let x1 : Int := intOf (x0.getD 0 .dead);
   let x2 : List AV := listOf (valT F 17 [.agg 22 [.int .i64 a0, .int .i64 a1, .int .i64 a2, .int .i64 a3, .int .i64 a4]]);
   let x3 : Int := intOf (valT F 19 [.agg 22 [.int .i64 a0, .int .i64 a1, .int .i64 a2, .int .i64 a3, .int .i64 a4]]);
   let x4 : List AV := tupOf (valT F 14 [.int .u32 x1, .agg 22 [.int .i64 a0, .int .i64 a1, .int .i64 a2, .int .i64 a3, .int .i64 (IntKind.i64.wrap (0 - a4))]]);
   cond (okT Pg F 11 [.agg 22 [.int .i64 a0, .int .i64 a1, .int .i64 a2, .int .i64 a3, .int .i64 a4]])
    (cond (!(boolOf (valT F 11 [.agg 22 [.int .i64 a0, .int .i64 a1, .int .i64 a2, .int .i64 a3, .int .i64 a4]])))
     (cond (okT Pg F 13 [])
      (some (.bool (boolOf (valT F 13 []))))
      (none))
     (cond (okT Pg F 17 [.agg 22 [.int .i64 a0, .int .i64 a1, .int .i64 a2, .int .i64 a3, .int .i64 a4]])
      (cond ((lf_law04_IsaTargetsTurnBack_5 F a5 x2 x2 ((x2.length : Nat) : Int) a0 a1 a2 a3 a4 100000 0).k == 1)
       (some (.bool false))
       (cond ((lf_law04_IsaTargetsTurnBack_5 F a5 x2 x2 ((x2.length : Nat) : Int) a0 a1 a2 a3 a4 100000 0).k == 2)
        (cond (okT Pg F 19 [.agg 22 [.int .i64 a0, .int .i64 a1, .int .i64 a2, .int .i64 a3, .int .i64 a4]])
         (cond (cond (x3 != 0) (x3 != a1) false)
          (some (.bool false))
          (cond (okT Pg F 14 [.int .u32 a5, .agg 22 [.int .i64 a0, .int .i64 a1, .int .i64 a2, .int .i64 a3, .int .i64 a4]])
           (cond (!(boolOf (x0.getD 1 .dead)))
            (cond (cond (okT Pg F 13 []) true false)
             (some (.bool (cond (boolOf (valT F 13 [])) (x1 == 0) false)))
             (none))
            (cond (okT Pg F 11 [.agg 22 [.int .i64 a0, .int .i64 a1, .int .i64 a2, .int .i64 a3, .int .i64 (IntKind.i64.wrap (0 - a4))]])
             (cond (!(boolOf (valT F 11 [.agg 22 [.int .i64 a0, .int .i64 a1, .int .i64 a2, .int .i64 a3, .int .i64 (IntKind.i64.wrap (0 - a4))]])))
              (cond (cond (okT Pg F 13 []) true false)
               (some (.bool (cond (boolOf (valT F 13 [])) (a4 == (-131072)) false)))
               (none))
              (cond (okT Pg F 14 [.int .u32 x1, .agg 22 [.int .i64 a0, .int .i64 a1, .int .i64 a2, .int .i64 a3, .int .i64 (IntKind.i64.wrap (0 - a4))]])
               (cond (cond (okT Pg F 13 []) true false)
                (some (.bool (cond (boolOf (valT F 13 [])) (cond (boolOf (x4.getD 1 .dead)) ((intOf (x4.getD 0 .dead)) == a5) false) false)))
                (none))
               (none)))
             (none)))
           (none)))
         (none))
        (none)))
      (none)))
    (none)) := by kernel_rfl
set_option maxRecDepth 100000 in
theorem nf_law04_IsaNamesAsSpecified (F : Tab) (a0 : Int) (s0 : List UInt8) : fnV (cx F) 6 8 [.int .i64 a0, .str s0] =
  (let x0 : List AV := tupOf (valT F 26 [.int .i64 a0]);
   let x1 : List AV := partsOf (valT F 27 [.int .i64 a0]);
   let x2 : Bool := (intOf (valT F 24 [.int .i64 a0])) == (intOf (valT F 28 [.int .i64 a0]));
   let x3 : Bool := (strOf (valT F 23 [.int .i64 a0])) == (strOf (valT F 29 [.int .i64 a0]));
   let x4 : Bool := (boolOf (valT F 30 [.int .i64 a0])) == (boolOf (valT F 31 [.int .i64 a0]));
   let x5 : Bool := (intOf (x0.getD 0 .dead)) == (intOf (x1.getD 0 .dead));
   let x6 : Bool := (intOf (x0.getD 1 .dead)) == (intOf (x1.getD 1 .dead));
   cond (decide ((100 : Int) < ((s0.length : Nat) : Int)))
    (cond (okT Pg F 13 [])
     (some (.bool (boolOf (valT F 13 []))))
     (none))
    (cond (okT Pg F 26 [.int .i64 a0])
     (cond (okT Pg F 27 [.int .i64 a0])
      (cond (cond (okT Pg F 13 []) (condB (boolOf (valT F 13 [])) (cond (okT Pg F 24 [.int .i64 a0]) (cond (okT Pg F 28 [.int .i64 a0]) (condB x2 (cond (okT Pg F 23 [.int .i64 a0]) (cond (okT Pg F 29 [.int .i64 a0]) (condB x3 (cond (okT Pg F 30 [.int .i64 a0]) (cond (okT Pg F 31 [.int .i64 a0]) (condB x4 (condB x5 (condB x6 (cond (okT Pg F 25 [.str s0]) (cond (okT Pg F 32 [.str s0]) true false) false) true) true) true) false) false) true) false) false) true) false) false) true) false)
       (some (.bool (cond (boolOf (valT F 13 [])) (cond x2 (cond x3 (cond x4 (cond x5 (cond x6 ((intOf (valT F 25 [.str s0])) == (intOf (valT F 32 [.str s0]))) false) false) false) false) false) false)))
       (none))
      (none))
     (none))) := by kernel_rfl
set_option maxRecDepth 100000 in
theorem nf_isa_Encode (F : Tab) (a0 a1 a2 a3 a4 : Int) : fnV (cx F) 6 9 [.agg 22 [.int .i64 a0, .int .i64 a1, .int .i64 a2, .int .i64 a3, .int .i64 a4]] =
  cond (okT Pg F 11 [.agg 22 [.int .i64 a0, .int .i64 a1, .int .i64 a2, .int .i64 a3, .int .i64 a4]])
    (cond (!(boolOf (valT F 11 [.agg 22 [.int .i64 a0, .int .i64 a1, .int .i64 a2, .int .i64 a3, .int .i64 a4]])))
     (some (.tuple [.int .u32 0, .int .i64 1]))
     (some (.tuple [.int .u32 (ibits .or .u32 (ibits .or .u32 (ibits .or .u32 (ibits .or .u32 (IntKind.u32.wrap ((IntKind.u32.wrap a0) * 67108864)) (IntKind.u32.wrap ((IntKind.u32.wrap a1) * 4194304))) (IntKind.u32.wrap ((IntKind.u32.wrap a2) * 262144))) (IntKind.u32.wrap ((IntKind.u32.wrap a3) * 16384))) (ibits .and .u32 (IntKind.u32.wrap a4) 262143)), .int .i64 0])))
    (none) := by kernel_rfl
set_option maxRecDepth 100000 in
theorem nf_ref04_Encode (F : Tab) (a0 a1 a2 a3 a4 : Int) : fnV (cx F) 6 10 [.agg 22 [.int .i64 a0, .int .i64 a1, .int .i64 a2, .int .i64 a3, .int .i64 a4]] =
  (let x0 : Int := IntKind.i64.wrap ((IntKind.i64.wrap ((IntKind.i64.wrap ((IntKind.i64.wrap (a0 * 67108864)) + (IntKind.i64.wrap (a1 * 4194304)))) + (IntKind.i64.wrap (a2 * 262144)))) + (IntKind.i64.wrap (a3 * 16384)));
   cond (okT Pg F 12 [.agg 22 [.int .i64 a0, .int .i64 a1, .int .i64 a2, .int .i64 a3, .int .i64 a4]])
    (cond (!(boolOf (valT F 12 [.agg 22 [.int .i64 a0, .int .i64 a1, .int .i64 a2, .int .i64 a3, .int .i64 a4]])))
     (some (.agg 28 [.int .u32 0, .int .i64 1]))
     (some (.agg 28 [.int .u32 (IntKind.u32.wrap (IntKind.i64.wrap ((cond (decide (a4 < 0)) (IntKind.i64.wrap (x0 + 262144)) x0) + a4))), .int .i64 0])))
    (none)) := by kernel_rfl
set_option maxRecDepth 100000 in
theorem nf_isa_Right (F : Tab) (a0 a1 a2 a3 a4 : Int) : fnV (cx F) 6 11 [.agg 22 [.int .i64 a0, .int .i64 a1, .int .i64 a2, .int .i64 a3, .int .i64 a4]] =
  (let x0 : Int := intOf (valT F 24 [.int .i64 a0]);
   cond (okT Pg F 24 [.int .i64 a0])
    (cond (x0 == 1)
     (cond (cond (decide ((0 : Int) ≤ a1)) (decide (a1 < 16)) false)
      (cond (cond (decide ((0 : Int) ≤ a2)) (decide (a2 < 16)) false)
       (cond (cond (decide ((0 : Int) ≤ a3)) (decide (a3 < 16)) false)
        (some (.bool (a4 == 0)))
        (some (.bool false)))
       (some (.bool false)))
      (some (.bool false)))
     (cond (x0 == 2)
      (cond (cond (decide ((0 : Int) ≤ a1)) (decide (a1 < 16)) false)
       (cond (cond (decide ((0 : Int) ≤ a2)) (decide (a2 < 16)) false)
        (cond (cond (decide ((-131072 : Int) ≤ a4)) (decide (a4 ≤ 131071)) false)
         (some (.bool (a3 == 0)))
         (some (.bool false)))
        (some (.bool false)))
       (some (.bool false)))
      (cond (x0 == 3)
       (cond (cond (decide ((0 : Int) ≤ a1)) (decide (a1 < 16)) false)
        (cond (cond (decide ((-131072 : Int) ≤ a4)) (decide (a4 ≤ 131071)) false)
         (cond (a2 == 0)
          (some (.bool (a3 == 0)))
          (some (.bool false)))
         (some (.bool false)))
        (some (.bool false)))
       (cond (x0 == 4)
        (cond ((a0 == a0) && ((a1 == 0) && ((a2 == a2) && ((a3 == 0) && ((a4 == 0) && true)))))
         (some (.bool (cond (decide ((0 : Int) ≤ a2)) (decide (a2 < 16)) false)))
         (some (.bool false)))
        (cond (x0 == 5)
         (some (.bool ((a0 == a0) && ((a1 == 0) && ((a2 == 0) && ((a3 == 0) && ((a4 == 0) && true)))))))
         (some (.bool false)))))))
    (none)) := by kernel_rfl
set_option maxRecDepth 100000 in
theorem nf_ref04_Right (F : Tab) (a0 a1 a2 a3 a4 : Int) : fnV (cx F) 6 12 [.agg 22 [.int .i64 a0, .int .i64 a1, .int .i64 a2, .int .i64 a3, .int .i64 a4]] =
  (let x0 : Int := intOf (valT F 28 [.int .i64 a0]);
   let x1 : Bool := x0 == 0;
   let x2 : Bool := !(boolOf (valT F 34 [.int .i64 a1, .bool (boolOf (valT F 35 [.int .i64 x0, .int .i64 1]))]));
   let x3 : Bool := !(boolOf (valT F 34 [.int .i64 a2, .bool (boolOf (valT F 35 [.int .i64 x0, .int .i64 2]))]));
   cond (okT Pg F 28 [.int .i64 a0])
    (cond (condB x1 true (cond (okT Pg F 35 [.int .i64 x0, .int .i64 1]) (cond (okT Pg F 34 [.int .i64 a1, .bool (boolOf (valT F 35 [.int .i64 x0, .int .i64 1]))]) (condB x2 true (cond (okT Pg F 35 [.int .i64 x0, .int .i64 2]) (cond (okT Pg F 34 [.int .i64 a2, .bool (boolOf (valT F 35 [.int .i64 x0, .int .i64 2]))]) (condB x3 true (cond (okT Pg F 35 [.int .i64 x0, .int .i64 3]) (cond (okT Pg F 34 [.int .i64 a3, .bool (boolOf (valT F 35 [.int .i64 x0, .int .i64 3]))]) true false) false)) false) false)) false) false))
     (cond (cond x1 true (cond x2 true (cond x3 true (!(boolOf (valT F 34 [.int .i64 a3, .bool (boolOf (valT F 35 [.int .i64 x0, .int .i64 3]))]))))))
      (some (.bool false))
      (cond (condB (a4 == 0) true (cond (okT Pg F 35 [.int .i64 x0, .int .i64 4]) true false))
       (some (.bool (cond (a4 == 0) true (cond (boolOf (valT F 35 [.int .i64 x0, .int .i64 4])) (cond (decide ((-131072 : Int) ≤ a4)) (decide (a4 ≤ 131071)) false) false))))
       (none)))
     (none))
    (none)) := by kernel_rfl
set_option maxRecDepth 100000 in
theorem nf_isa_Target (F : Tab) (a0 a1 a2 a3 a4 a5 : Int) : fnV (cx F) 6 14 [.int .u32 a0, .agg 22 [.int .i64 a1, .int .i64 a2, .int .i64 a3, .int .i64 a4, .int .i64 a5]] =
  cond (cond (okT Pg F 36 [.int .i64 a1]) true false)
    (cond (cond (!(boolOf (valT F 36 [.int .i64 a1]))) (a1 != 32) false)
     (some (.tuple [.int .u32 0, .bool false]))
     (some (.tuple [.int .u32 (IntKind.u32.wrap (a0 + (IntKind.u32.wrap ((IntKind.u32.wrap a5) * 4)))), .bool true])))
    (none) := by kernel_rfl
set_option maxRecDepth 100000 in
theorem nf_ref04_Target (F : Tab) (a0 a1 a2 a3 a4 a5 : Int) : fnV (cx F) 6 15 [.int .u32 a0, .agg 22 [.int .i64 a1, .int .i64 a2, .int .i64 a3, .int .i64 a4, .int .i64 a5]] =
  cond (cond (okT Pg F 37 [.int .i64 a1]) true false)
    (cond (cond (!(boolOf (valT F 37 [.int .i64 a1]))) (a1 != 32) false)
     (some (.agg 35 [.int .u32 0, .bool false]))
     (some (.agg 35 [.int .u32 (IntKind.u32.wrap (a0 + (IntKind.u32.wrap (IntKind.i32.wrap (IntKind.i64.wrap (4 * a5)))))), .bool true])))
    (none) := by kernel_rfl
set_option maxRecDepth 100000 in
theorem nf_ref04_Same (F : Tab) (l0 l1 : List AV) : fnV (cx F) 6 16 [.slice 3 l0 false, .slice 3 l1 false] =
  cond (((l0.length : Nat) : Int) != ((l1.length : Nat) : Int))
    (some (.bool false))
    (cond ((lf_ref04_Same_4 F l0 l1 100000 0).k == 1)
     (some (.bool false))
     (cond ((lf_ref04_Same_4 F l0 l1 100000 0).k == 2)
      (some (.bool true))
      (none))) := by kernel_rfl
set_option maxRecDepth 100000 in
theorem nf_isa_Reads (F : Tab) (a0 a1 a2 a3 a4 : Int) : fnV (cx F) 6 17 [.agg 22 [.int .i64 a0, .int .i64 a1, .int .i64 a2, .int .i64 a3, .int .i64 a4]] =
  (let x0 : List AV := ([.bool false, .bool false, .bool false, .bool false, .bool false, .bool false, .bool false, .bool false, .bool false, .bool false, .bool false, .bool false, .bool false, .bool false, .bool false, .bool false] : List AV).set a1.toNat (.bool true);
   let x1 : List AV := x0.set a2.toNat (.bool true);
   let x2 : List AV := (([.bool false, .bool false, .bool false, .bool false, .bool false, .bool false, .bool false, .bool false, .bool false, .bool false, .bool false, .bool false, .bool false, .bool false, .bool false, .bool false] : List AV).set a2.toNat (.bool true)).set a3.toNat (.bool true);
   cond (condB (a0 == 21) true (condB (a0 == 23) true (condB (a0 == 24) true (cond (okT Pg F 36 [.int .i64 a0]) true false))))
    (cond (cond (a0 == 21) true (cond (a0 == 23) true (cond (a0 == 24) true (boolOf (valT F 36 [.int .i64 a0])))))
     (cond (inB a1 16)
      (cond (inB a2 16)
       (cond ((lf_isa_Reads_10 F x1 a0 a1 a2 a3 a4 x1 100000 [] 0).k == 1)
        (some (.slice 3 ((lf_isa_Reads_10 F x1 a0 a1 a2 a3 a4 x1 100000 [] 0).l.getD 0 []) false))
        (none))
       (none))
      (none))
     (cond (cond (a0 == 43) true (a0 == 47))
      (cond (inB a1 16)
       (cond ((lf_isa_Reads_10 F x0 a0 a1 a2 a3 a4 x0 100000 [] 0).k == 1)
        (some (.slice 3 ((lf_isa_Reads_10 F x0 a0 a1 a2 a3 a4 x0 100000 [] 0).l.getD 0 []) false))
        (none))
       (none))
      (cond (okT Pg F 24 [.int .i64 a0])
       (cond ((intOf (valT F 24 [.int .i64 a0])) != 3)
        (cond (inB a2 16)
         (cond (inB a3 16)
          (cond ((lf_isa_Reads_10 F x2 a0 a1 a2 a3 a4 x2 100000 [] 0).k == 1)
           (some (.slice 3 ((lf_isa_Reads_10 F x2 a0 a1 a2 a3 a4 x2 100000 [] 0).l.getD 0 []) false))
           (none))
          (none))
         (none))
        (cond ((lf_isa_Reads_10 F [.bool false, .bool false, .bool false, .bool false, .bool false, .bool false, .bool false, .bool false, .bool false, .bool false, .bool false, .bool false, .bool false, .bool false, .bool false, .bool false] a0 a1 a2 a3 a4 [.bool false, .bool false, .bool false, .bool false, .bool false, .bool false, .bool false, .bool false, .bool false, .bool false, .bool false, .bool false, .bool false, .bool false, .bool false, .bool false] 100000 [] 0).k == 1)
         (some (.slice 3 ((lf_isa_Reads_10 F [.bool false, .bool false, .bool false, .bool false, .bool false, .bool false, .bool false, .bool false, .bool false, .bool false, .bool false, .bool false, .bool false, .bool false, .bool false, .bool false] a0 a1 a2 a3 a4 [.bool false, .bool false, .bool false, .bool false, .bool false, .bool false, .bool false, .bool false, .bool false, .bool false, .bool false, .bool false, .bool false, .bool false, .bool false, .bool false] 100000 [] 0).l.getD 0 []) false))
         (none)))
       (none))))
    (none)) := by kernel_rfl
set_option maxRecDepth 100000 in
theorem nf_ref04_Reads (F : Tab) (a0 a1 a2 a3 a4 : Int) : fnV (cx F) 6 18 [.agg 22 [.int .i64 a0, .int .i64 a1, .int .i64 a2, .int .i64 a3, .int .i64 a4]] =
  (let x0 : Int := intOf (valT F 28 [.int .i64 a0]);
   let x1 : Bool := x0 == 1;
   cond (condB (a0 == 21) true (condB (a0 == 23) true (condB (a0 == 24) true (cond (okT Pg F 37 [.int .i64 a0]) true false))))
    (cond (cond (okT Pg F 28 [.int .i64 a0]) (condB x1 true (cond (okT Pg F 28 [.int .i64 a0]) true false)) false)
     (cond ((lf_ref04_Reads_5 F (cond (a0 == 21) true (cond (a0 == 23) true (cond (a0 == 24) true (cond (boolOf (valT F 37 [.int .i64 a0])) true (cond (a0 == 43) true (a0 == 47)))))) (cond x1 true (cond (x0 == 2) true (a0 == 44))) a0 a1 a2 a3 a4 100000 [] 1).k == 1)
      (some (.slice 3 ((lf_ref04_Reads_5 F (cond (a0 == 21) true (cond (a0 == 23) true (cond (a0 == 24) true (cond (boolOf (valT F 37 [.int .i64 a0])) true (cond (a0 == 43) true (a0 == 47)))))) (cond x1 true (cond (x0 == 2) true (a0 == 44))) a0 a1 a2 a3 a4 100000 [] 1).l.getD 0 []) false))
      (none))
     (none))
    (none)) := by kernel_rfl
set_option maxRecDepth 100000 in
theorem nf_isa_Writes (F : Tab) (a0 a1 a2 a3 a4 : Int) : fnV (cx F) 6 19 [.agg 22 [.int .i64 a0, .int .i64 a1, .int .i64 a2, .int .i64 a3, .int .i64 a4]] =
  (let x0 : Bool := (intOf ((tupOf (valT F 26 [.int .i64 a0])).getD 0 .dead)) == 2;
   cond (okT Pg F 26 [.int .i64 a0])
    (cond (condB x0 true (cond (okT Pg F 36 [.int .i64 a0]) true false))
     (cond (cond x0 true (cond (boolOf (valT F 36 [.int .i64 a0])) true (cond (a0 == 43) true (a0 == 47))))
      (some (.int .i64 0))
      (some (.int .i64 a1)))
     (none))
    (none)) := by kernel_rfl
set_option maxRecDepth 100000 in
theorem nf_ref04_Writes (F : Tab) (a0 a1 a2 a3 a4 : Int) : fnV (cx F) 6 20 [.agg 22 [.int .i64 a0, .int .i64 a1, .int .i64 a2, .int .i64 a3, .int .i64 a4]] =
  cond (condB (a0 == 21) true (condB (a0 == 23) true (cond (okT Pg F 37 [.int .i64 a0]) true false)))
    (cond (cond (a0 == 21) true (cond (a0 == 23) true (cond (boolOf (valT F 37 [.int .i64 a0])) true (cond (a0 == 43) true (cond (a0 == 47) true (a0 == 44))))))
     (some (.int .i64 0))
     (some (.int .i64 a1)))
    (none) := by kernel_rfl
set_option maxRecDepth 100000 in
theorem nf_isa_Decode (F : Tab) (a0 : Int) : fnV (cx F) 6 21 [.int .u32 a0] =
  (let x0 : Int := (IntKind.i64.wrap ((IntKind.i64.wrap (ibits .and .u32 (a0.fdiv 1) 262143)) * 70368744177664)).fdiv 70368744177664;
   cond (okT Pg F 24 [.int .i64 (IntKind.i64.wrap (ibits .and .u32 (a0.fdiv 67108864) 63))])
    (cond ((intOf (valT F 24 [.int .i64 (IntKind.i64.wrap (ibits .and .u32 (a0.fdiv 67108864) 63))])) == 1)
     (cond ((IntKind.i64.wrap (ibits .and .u32 (a0.fdiv 1) 16383)) != 0)
      (some (.tuple [.agg 22 [.int .i64 0, .int .i64 0, .int .i64 0, .int .i64 0, .int .i64 0], .bool false]))
      (cond (okT Pg F 11 [.agg 22 [.int .i64 (IntKind.i64.wrap (ibits .and .u32 (a0.fdiv 67108864) 63)), .int .i64 (IntKind.i64.wrap (ibits .and .u32 (a0.fdiv 4194304) 15)), .int .i64 (IntKind.i64.wrap (ibits .and .u32 (a0.fdiv 262144) 15)), .int .i64 (IntKind.i64.wrap (ibits .and .u32 (a0.fdiv 16384) 15)), .int .i64 0]])
       (cond (!(boolOf (valT F 11 [.agg 22 [.int .i64 (IntKind.i64.wrap (ibits .and .u32 (a0.fdiv 67108864) 63)), .int .i64 (IntKind.i64.wrap (ibits .and .u32 (a0.fdiv 4194304) 15)), .int .i64 (IntKind.i64.wrap (ibits .and .u32 (a0.fdiv 262144) 15)), .int .i64 (IntKind.i64.wrap (ibits .and .u32 (a0.fdiv 16384) 15)), .int .i64 0]])))
        (some (.tuple [.agg 22 [.int .i64 0, .int .i64 0, .int .i64 0, .int .i64 0, .int .i64 0], .bool false]))
        (some (.tuple [.agg 22 [.int .i64 (IntKind.i64.wrap (ibits .and .u32 (a0.fdiv 67108864) 63)), .int .i64 (IntKind.i64.wrap (ibits .and .u32 (a0.fdiv 4194304) 15)), .int .i64 (IntKind.i64.wrap (ibits .and .u32 (a0.fdiv 262144) 15)), .int .i64 (IntKind.i64.wrap (ibits .and .u32 (a0.fdiv 16384) 15)), .int .i64 0], .bool true])))
       (none)))
     (cond (okT Pg F 11 [.agg 22 [.int .i64 (IntKind.i64.wrap (ibits .and .u32 (a0.fdiv 67108864) 63)), .int .i64 (IntKind.i64.wrap (ibits .and .u32 (a0.fdiv 4194304) 15)), .int .i64 (IntKind.i64.wrap (ibits .and .u32 (a0.fdiv 262144) 15)), .int .i64 0, .int .i64 x0]])
      (cond (!(boolOf (valT F 11 [.agg 22 [.int .i64 (IntKind.i64.wrap (ibits .and .u32 (a0.fdiv 67108864) 63)), .int .i64 (IntKind.i64.wrap (ibits .and .u32 (a0.fdiv 4194304) 15)), .int .i64 (IntKind.i64.wrap (ibits .and .u32 (a0.fdiv 262144) 15)), .int .i64 0, .int .i64 x0]])))
       (some (.tuple [.agg 22 [.int .i64 0, .int .i64 0, .int .i64 0, .int .i64 0, .int .i64 0], .bool false]))
       (some (.tuple [.agg 22 [.int .i64 (IntKind.i64.wrap (ibits .and .u32 (a0.fdiv 67108864) 63)), .int .i64 (IntKind.i64.wrap (ibits .and .u32 (a0.fdiv 4194304) 15)), .int .i64 (IntKind.i64.wrap (ibits .and .u32 (a0.fdiv 262144) 15)), .int .i64 0, .int .i64 x0], .bool true])))
      (none)))
    (none)) := by kernel_rfl
set_option maxRecDepth 100000 in
theorem nf_ref04_Decode (F : Tab) (a0 : Int) : fnV (cx F) 6 22 [.int .u32 a0] =
  (let x0 : List AV := partsOf (valT F 10 [.agg 22 [.int .i64 ((IntKind.i64.wrap a0).fdiv 67108864), .int .i64 (ibits .and .i64 ((IntKind.i64.wrap a0).fdiv 4194304) 15), .int .i64 (ibits .and .i64 ((IntKind.i64.wrap a0).fdiv 262144) 15), .int .i64 (ibits .and .i64 ((IntKind.i64.wrap a0).fdiv 16384) 15), .int .i64 0]]);
   let x1 : Int := IntKind.i64.wrap ((ibits .and .i64 (IntKind.i64.wrap a0) 262143) - 262144);
   let x2 : List AV := partsOf (valT F 10 [.agg 22 [.int .i64 ((IntKind.i64.wrap a0).fdiv 67108864), .int .i64 (ibits .and .i64 ((IntKind.i64.wrap a0).fdiv 4194304) 15), .int .i64 (ibits .and .i64 ((IntKind.i64.wrap a0).fdiv 262144) 15), .int .i64 0, .int .i64 x1]]);
   let x3 : List AV := partsOf (valT F 10 [.agg 22 [.int .i64 ((IntKind.i64.wrap a0).fdiv 67108864), .int .i64 (ibits .and .i64 ((IntKind.i64.wrap a0).fdiv 4194304) 15), .int .i64 (ibits .and .i64 ((IntKind.i64.wrap a0).fdiv 262144) 15), .int .i64 0, .int .i64 (ibits .and .i64 (IntKind.i64.wrap a0) 262143)]]);
   cond (okT Pg F 28 [.int .i64 ((IntKind.i64.wrap a0).fdiv 67108864)])
    (cond ((intOf (valT F 28 [.int .i64 ((IntKind.i64.wrap a0).fdiv 67108864)])) == 1)
     (cond (okT Pg F 10 [.agg 22 [.int .i64 ((IntKind.i64.wrap a0).fdiv 67108864), .int .i64 (ibits .and .i64 ((IntKind.i64.wrap a0).fdiv 4194304) 15), .int .i64 (ibits .and .i64 ((IntKind.i64.wrap a0).fdiv 262144) 15), .int .i64 (ibits .and .i64 ((IntKind.i64.wrap a0).fdiv 16384) 15), .int .i64 0]])
      (cond (cond ((intOf (x0.getD 1 .dead)) != 0) true ((intOf (x0.getD 0 .dead)) != a0))
       (some (.agg 45 [.agg 22 [.int .i64 0, .int .i64 0, .int .i64 0, .int .i64 0, .int .i64 0], .bool false]))
       (some (.agg 45 [.agg 22 [.int .i64 ((IntKind.i64.wrap a0).fdiv 67108864), .int .i64 (ibits .and .i64 ((IntKind.i64.wrap a0).fdiv 4194304) 15), .int .i64 (ibits .and .i64 ((IntKind.i64.wrap a0).fdiv 262144) 15), .int .i64 (ibits .and .i64 ((IntKind.i64.wrap a0).fdiv 16384) 15), .int .i64 0], .bool true])))
      (none))
     (cond (decide ((131071 : Int) < (ibits .and .i64 (IntKind.i64.wrap a0) 262143)))
      (cond (okT Pg F 10 [.agg 22 [.int .i64 ((IntKind.i64.wrap a0).fdiv 67108864), .int .i64 (ibits .and .i64 ((IntKind.i64.wrap a0).fdiv 4194304) 15), .int .i64 (ibits .and .i64 ((IntKind.i64.wrap a0).fdiv 262144) 15), .int .i64 0, .int .i64 x1]])
       (cond (cond ((intOf (x2.getD 1 .dead)) != 0) true ((intOf (x2.getD 0 .dead)) != a0))
        (some (.agg 45 [.agg 22 [.int .i64 0, .int .i64 0, .int .i64 0, .int .i64 0, .int .i64 0], .bool false]))
        (some (.agg 45 [.agg 22 [.int .i64 ((IntKind.i64.wrap a0).fdiv 67108864), .int .i64 (ibits .and .i64 ((IntKind.i64.wrap a0).fdiv 4194304) 15), .int .i64 (ibits .and .i64 ((IntKind.i64.wrap a0).fdiv 262144) 15), .int .i64 0, .int .i64 x1], .bool true])))
       (none))
      (cond (okT Pg F 10 [.agg 22 [.int .i64 ((IntKind.i64.wrap a0).fdiv 67108864), .int .i64 (ibits .and .i64 ((IntKind.i64.wrap a0).fdiv 4194304) 15), .int .i64 (ibits .and .i64 ((IntKind.i64.wrap a0).fdiv 262144) 15), .int .i64 0, .int .i64 (ibits .and .i64 (IntKind.i64.wrap a0) 262143)]])
       (cond (cond ((intOf (x3.getD 1 .dead)) != 0) true ((intOf (x3.getD 0 .dead)) != a0))
        (some (.agg 45 [.agg 22 [.int .i64 0, .int .i64 0, .int .i64 0, .int .i64 0, .int .i64 0], .bool false]))
        (some (.agg 45 [.agg 22 [.int .i64 ((IntKind.i64.wrap a0).fdiv 67108864), .int .i64 (ibits .and .i64 ((IntKind.i64.wrap a0).fdiv 4194304) 15), .int .i64 (ibits .and .i64 ((IntKind.i64.wrap a0).fdiv 262144) 15), .int .i64 0, .int .i64 (ibits .and .i64 (IntKind.i64.wrap a0) 262143)], .bool true])))
       (none))))
    (none)) := by kernel_rfl
set_option maxRecDepth 100000 in
theorem nf_isa_Name (F : Tab) (a0 : Int) : fnV (cx F) 6 23 [.int .i64 a0] =
  cond (okT Pg F 39 [])
    (cond (cond (decide ((0 : Int) ≤ a0)) (decide (a0 < 49)) false)
     (cond (inB a0 49)
      (some (.str (strOf ((partsOf ((partsOf (valT F 39 [])).getD a0.toNat .dead)).getD 0 .dead))))
      (none))
     (some (.str [])))
    (none) := by kernel_rfl
set_option maxRecDepth 100000 in
theorem nf_isa_Form (F : Tab) (a0 : Int) : fnV (cx F) 6 24 [.int .i64 a0] =
  cond (okT Pg F 39 [])
    (cond (cond (decide ((0 : Int) ≤ a0)) (decide (a0 < 49)) false)
     (cond (inB a0 49)
      (some (.int .i64 (intOf ((partsOf ((partsOf (valT F 39 [])).getD a0.toNat .dead)).getD 1 .dead))))
      (none))
     (some (.int .i64 0)))
    (none) := by kernel_rfl
set_option maxRecDepth 100000 in
theorem nf_isa_Find (F : Tab) (s0 : List UInt8) : fnV (cx F) 6 25 [.str s0] =
  cond (okT Pg F 39 [])
    (cond ((lf_isa_Find_2 F s0 (partsOf (valT F 39 [])) 100000 0).k == 1)
     (some (.int .i64 ((lf_isa_Find_2 F s0 (partsOf (valT F 39 [])) 100000 0).i.getD 0 0)))
     (cond ((lf_isa_Find_2 F s0 (partsOf (valT F 39 [])) 100000 0).k == 2)
      (some (.int .i64 0))
      (none)))
    (none) := by kernel_rfl
set_option maxRecDepth 100000 in
theorem nf_isa_Access (F : Tab) (a0 : Int) : fnV (cx F) 6 26 [.int .i64 a0] =
  cond (a0 == 20)
    (some (.tuple [.int .i64 1, .int .i64 4]))
    (cond (a0 == 22)
     (some (.tuple [.int .i64 1, .int .i64 1]))
     (cond (a0 == 21)
      (some (.tuple [.int .i64 2, .int .i64 4]))
      (cond (a0 == 23)
       (some (.tuple [.int .i64 2, .int .i64 1]))
       (cond (a0 == 24)
        (some (.tuple [.int .i64 3, .int .i64 4]))
        (some (.tuple [.int .i64 0, .int .i64 0])))))) := by kernel_rfl
set_option maxRecDepth 100000 in
theorem nf_ref04_Access (F : Tab) (a0 : Int) : fnV (cx F) 6 27 [.int .i64 a0] =
  cond (a0 == 20)
    (some (.agg 56 [.int .i64 1, .int .i64 4]))
    (cond (a0 == 22)
     (some (.agg 56 [.int .i64 1, .int .i64 1]))
     (cond (a0 == 21)
      (some (.agg 56 [.int .i64 2, .int .i64 4]))
      (cond (a0 == 23)
       (some (.agg 56 [.int .i64 2, .int .i64 1]))
       (cond (a0 == 24)
        (some (.agg 56 [.int .i64 3, .int .i64 4]))
        (some (.agg 56 [.int .i64 0, .int .i64 0])))))) := by kernel_rfl
set_option maxRecDepth 100000 in
theorem nf_ref04_Form (F : Tab) (a0 : Int) : fnV (cx F) 6 28 [.int .i64 a0] =
  (let x0 : Bool := cond (decide ((28 : Int) ≤ a0)) (cond (decide (a0 ≤ 31)) true (a0 == 33)) (a0 == 33);
   cond (cond (decide ((1 : Int) ≤ a0)) (decide (a0 ≤ 12)) false)
    (some (.int .i64 1))
    (cond (cond (a0 == 16) true (cond (decide ((20 : Int) ≤ a0)) (cond (decide (a0 ≤ 24)) true x0) x0))
     (some (.int .i64 2))
     (cond (cond (a0 == 17) true (cond (a0 == 32) true (cond (a0 == 42) true (cond (a0 == 43) true (cond (a0 == 46) true (a0 == 47))))))
      (some (.int .i64 3))
      (cond (a0 == 44)
       (some (.int .i64 4))
       (cond (cond (a0 == 40) true (cond (a0 == 41) true (cond (a0 == 45) true (a0 == 48))))
        (some (.int .i64 5))
        (some (.int .i64 0))))))) := by kernel_rfl
set_option maxRecDepth 100000 in
theorem nf_ref04_Name (F : Tab) (a0 : Int) : fnV (cx F) 6 29 [.int .i64 a0] =
  cond (okT Pg F 40 [])
    (cond (cond (decide (a0 < 0)) true (decide ((((listOf (valT F 40 [])).length : Nat) : Int) ≤ a0)))
     (some (.str []))
     (cond (inB a0 ((listOf (valT F 40 [])).length))
      (some (.str (strOf ((listOf (valT F 40 [])).getD a0.toNat .dead))))
      (none)))
    (none) := by kernel_rfl
set_option maxRecDepth 100000 in
theorem nf_isa_Privileged (F : Tab) (a0 : Int) : fnV (cx F) 6 30 [.int .i64 a0] =
  some (.bool (cond (decide ((41 : Int) ≤ a0)) (decide (a0 ≤ 48)) false)) := by kernel_rfl
set_option maxRecDepth 100000 in
theorem nf_ref04_Privileged (F : Tab) (a0 : Int) : fnV (cx F) 6 31 [.int .i64 a0] =
  some (.bool (cond (decide ((41 : Int) ≤ a0)) (decide (a0 ≤ 48)) false)) := by kernel_rfl
set_option maxRecDepth 100000 in
theorem nf_ref04_Find (F : Tab) (s0 : List UInt8) : fnV (cx F) 6 32 [.str s0] =
  cond (okT Pg F 40 [])
    (cond ((lf_ref04_Find_3 F s0 (listOf (valT F 40 [])) 100000 0).k == 1)
     (some (.int .i64 ((lf_ref04_Find_3 F s0 (listOf (valT F 40 [])) 100000 0).i.getD 0 0)))
     (cond ((lf_ref04_Find_3 F s0 (listOf (valT F 40 [])) 100000 0).k == 2)
      (some (.int .i64 0))
      (none)))
    (none) := by kernel_rfl
set_option maxRecDepth 100000 in
theorem nf_ref04_register (F : Tab) (a0 : Int) (b0 : Bool) : fnV (cx F) 6 34 [.int .i64 a0, .bool b0] =
  some (.bool (cond (a0 == 0) true (cond b0 (cond (decide ((1 : Int) ≤ a0)) (decide (a0 < 16)) false) false))) := by kernel_rfl
set_option maxRecDepth 100000 in
theorem nf_ref04_Has (F : Tab) (a0 a1 : Int) : fnV (cx F) 6 35 [.int .i64 a0, .int .i64 a1] =
  cond (a0 == 1)
    (some (.bool (decide (a1 ≤ 3))))
    (cond (a0 == 2)
     (some (.bool (a1 != 3)))
     (cond (a0 == 3)
      (some (.bool (cond (a1 == 1) true (a1 == 4))))
      (cond (a0 == 4)
       (some (.bool (a1 == 2)))
       (some (.bool false))))) := by kernel_rfl
set_option maxRecDepth 100000 in
theorem nf_isa_branches (F : Tab) (a0 : Int) : fnV (cx F) 6 36 [.int .i64 a0] =
  some (.bool (cond (decide ((28 : Int) ≤ a0)) (decide (a0 ≤ 31)) false)) := by kernel_rfl
set_option maxRecDepth 100000 in
theorem nf_ref04_branch (F : Tab) (a0 : Int) : fnV (cx F) 6 37 [.int .i64 a0] =
  some (.bool (cond (decide ((28 : Int) ≤ a0)) (decide (a0 ≤ 31)) false)) := by kernel_rfl
def c_isa_table : AV := .agg 67 [.agg 65 [.str [], .int .i64 0], .agg 65 [.str [97, 100, 100], .int .i64 1], .agg 65 [.str [115, 117, 98], .int .i64 1], .agg 65 [.str [97, 110, 100], .int .i64 1], .agg 65 [.str [111, 114], .int .i64 1], .agg 65 [.str [120, 111, 114], .int .i64 1], .agg 65 [.str [115, 104, 108], .int .i64 1], .agg 65 [.str [115, 104, 114], .int .i64 1], .agg 65 [.str [109, 117, 108], .int .i64 1], .agg 65 [.str [100, 105, 118], .int .i64 1], .agg 65 [.str [114, 101, 109], .int .i64 1], .agg 65 [.str [115, 108, 116], .int .i64 1], .agg 65 [.str [115, 108, 116, 117], .int .i64 1], .agg 65 [.str [], .int .i64 0], .agg 65 [.str [], .int .i64 0], .agg 65 [.str [], .int .i64 0], .agg 65 [.str [97, 100, 100, 105], .int .i64 2], .agg 65 [.str [104, 105, 103, 104], .int .i64 3], .agg 65 [.str [], .int .i64 0], .agg 65 [.str [], .int .i64 0], .agg 65 [.str [108, 119], .int .i64 2], .agg 65 [.str [115, 119], .int .i64 2], .agg 65 [.str [108, 98], .int .i64 2], .agg 65 [.str [115, 98], .int .i64 2], .agg 65 [.str [115, 119, 97, 112], .int .i64 2], .agg 65 [.str [], .int .i64 0], .agg 65 [.str [], .int .i64 0], .agg 65 [.str [], .int .i64 0], .agg 65 [.str [98, 101, 113], .int .i64 2], .agg 65 [.str [98, 110, 101], .int .i64 2], .agg 65 [.str [98, 108, 116], .int .i64 2], .agg 65 [.str [98, 108, 116, 117], .int .i64 2], .agg 65 [.str [106, 97, 108], .int .i64 3], .agg 65 [.str [106, 97, 108, 114], .int .i64 2], .agg 65 [.str [], .int .i64 0], .agg 65 [.str [], .int .i64 0], .agg 65 [.str [], .int .i64 0], .agg 65 [.str [], .int .i64 0], .agg 65 [.str [], .int .i64 0], .agg 65 [.str [], .int .i64 0], .agg 65 [.str [101, 99, 97, 108, 108], .int .i64 5], .agg 65 [.str [101, 114, 101, 116], .int .i64 5], .agg 65 [.str [99, 115, 114, 114], .int .i64 3], .agg 65 [.str [99, 115, 114, 119], .int .i64 3], .agg 65 [.str [102, 108, 117, 115, 104], .int .i64 4], .agg 65 [.str [119, 97, 105, 116], .int .i64 5], .agg 65 [.str [105, 110], .int .i64 3], .agg 65 [.str [111, 117, 116], .int .i64 3], .agg 65 [.str [104, 97, 108, 116], .int .i64 5]]
set_option maxRecDepth 100000 in
theorem nf_isa_table (F : Tab) : fnV (cx F) 6 39 [] = some c_isa_table := by kernel_rfl
def c_ref04_Names : AV := .slice 9 [.str [], .str [97, 100, 100], .str [115, 117, 98], .str [97, 110, 100], .str [111, 114], .str [120, 111, 114], .str [115, 104, 108], .str [115, 104, 114], .str [109, 117, 108], .str [100, 105, 118], .str [114, 101, 109], .str [115, 108, 116], .str [115, 108, 116, 117], .str [], .str [], .str [], .str [97, 100, 100, 105], .str [104, 105, 103, 104], .str [], .str [], .str [108, 119], .str [115, 119], .str [108, 98], .str [115, 98], .str [115, 119, 97, 112], .str [], .str [], .str [], .str [98, 101, 113], .str [98, 110, 101], .str [98, 108, 116], .str [98, 108, 116, 117], .str [106, 97, 108], .str [106, 97, 108, 114], .str [], .str [], .str [], .str [], .str [], .str [], .str [101, 99, 97, 108, 108], .str [101, 114, 101, 116], .str [99, 115, 114, 114], .str [99, 115, 114, 119], .str [102, 108, 117, 115, 104], .str [119, 97, 105, 116], .str [105, 110], .str [111, 117, 116], .str [104, 97, 108, 116]] false
set_option maxRecDepth 100000 in
theorem nf_ref04_Names (F : Tab) : fnV (cx F) 6 40 [] = some c_ref04_Names := by kernel_rfl
end Go.Proofs.Ytadjlohgmfclpaa
