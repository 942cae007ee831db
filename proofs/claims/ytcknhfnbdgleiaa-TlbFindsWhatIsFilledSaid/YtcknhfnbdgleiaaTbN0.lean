/- What the functions return, in terms of what they call. (Printed by a program of mine, gen.py.) -/
import Derived.Test.YtcknhfnbdgleiaaTbC
set_option linter.unusedVariables false
set_option linter.unusedSimpArgs false
namespace Go.Proofs.Ytcknhfnbdgleiaa
open Go.AE
set_option maxRecDepth 100000 in
theorem nf_law25_TlbFindsWhatIsFilled (F : Tab) (l0 : List AV) (a0 a1 a2 a3 a4 : Int) (l1 : List AV) (a5 a6 a7 : Int) : fnV (cx F) 6 8 [.agg 67 [.slice 70 l0 false], .agg 69 [.int .u32 a0, .int .i64 a1, .int .i64 a2, .int .i64 a3, .int .i64 a4, .slice 3 l1 false], .int .u8 a5, .int .u32 a6, .int .u32 a7] =
  (let x0 : Bool := !(boolOf (valT F 35 [.agg 67 [.slice 70 l0 false]]));
   let x1 : List AV := listOf ((partsOf (valT F 38 [.agg 67 [.slice 70 l0 false], .agg 69 [.int .u32 a0, .int .i64 a1, .int .i64 a2, .int .i64 a3, .int .i64 a4, .slice 3 l1 false]])).getD 0 .dead);
   let x2 : List AV := tupOf (valT F 39 [.agg 67 [.slice 70 x1 false], .int .u32 a0, .int .u32 (IntKind.u32.wrap (IntKind.i64.wrap ((IntKind.i64.wrap (128 * a1)) + (IntKind.i64.wrap (a5.tmod 128))))), .int .i64 1, .bool false]);
   let x3 : Int := ((x1.length : Nat) : Int);
   let x4 : List AV := tupOf (valT F 39 [.agg 67 [.slice 70 l0 false], .int .u32 a7, .int .u32 a6, .int .i64 1, .bool false]);
   let x5 : Bool := boolOf (x4.getD 2 .dead);
   let x6 : List AV := tupOf (valT F 39 [.agg 67 [.slice 70 x1 false], .int .u32 a7, .int .u32 a6, .int .i64 1, .bool false]);
   let x7 : Bool := boolOf (x6.getD 2 .dead);
   let x8 : Bool := (intOf ((partsOf (l0.getD 0 .dead)).getD 0 .dead)) == a7;
   let x9 : Bool := cond (!x5) true (cond x7 true (cond (((l0.length : Nat) : Int) == 8) (cond x8 ((intOf ((partsOf (l0.getD 0 .dead)).getD 1 .dead)) == (IntKind.i64.wrap (IntKind.u32.wrap (a6.tdiv 128)))) false) false));
   cond (cond (okT Pg F 35 [.agg 67 [.slice 70 l0 false]]) (condB x0 true (cond (okT Pg F 36 [.agg 69 [.int .u32 a0, .int .i64 a1, .int .i64 a2, .int .i64 a3, .int .i64 a4, .slice 3 l1 false]]) true false)) false)
    (cond (cond x0 true (!(boolOf (valT F 36 [.agg 69 [.int .u32 a0, .int .i64 a1, .int .i64 a2, .int .i64 a3, .int .i64 a4, .slice 3 l1 false]]))))
     (cond (okT Pg F 37 [])
      (some (.bool (boolOf (valT F 37 []))))
      (none))
     (cond (okT Pg F 38 [.agg 67 [.slice 70 l0 false], .agg 69 [.int .u32 a0, .int .i64 a1, .int .i64 a2, .int .i64 a3, .int .i64 a4, .slice 3 l1 false]])
      (cond (okT Pg F 39 [.agg 67 [.slice 70 x1 false], .int .u32 a0, .int .u32 (IntKind.u32.wrap (IntKind.i64.wrap ((IntKind.i64.wrap (128 * a1)) + (IntKind.i64.wrap (a5.tmod 128))))), .int .i64 1, .bool false])
       (cond (cond (!(boolOf (x2.getD 2 .dead))) true (cond ((intOf (x2.getD 0 .dead)) != (IntKind.i64.wrap ((IntKind.i64.wrap (128 * a3)) + (IntKind.i64.wrap (a5.tmod 128))))) true (cond ((intOf (x2.getD 1 .dead)) != (IntKind.i64.wrap ((IntKind.i64.wrap (128 * a2)) + (IntKind.i64.wrap (a5.tmod 128))))) true (cond (decide ((8 : Int) < x3)) true (decide (x3 < ((l0.length : Nat) : Int)))))))
        (some (.bool false))
        (cond (cond (a7 == a0) ((IntKind.i64.wrap (IntKind.u32.wrap (a6.tdiv 128))) == a1) false)
         (cond (okT Pg F 37 [])
          (some (.bool (boolOf (valT F 37 []))))
          (none))
         (cond (okT Pg F 39 [.agg 67 [.slice 70 l0 false], .int .u32 a7, .int .u32 a6, .int .i64 1, .bool false])
          (cond (okT Pg F 39 [.agg 67 [.slice 70 x1 false], .int .u32 a7, .int .u32 a6, .int .i64 1, .bool false])
           (cond (condB (((l0.length : Nat) : Int) == 8) (cond (inB 0 l0.length) (condB x8 (cond (inB 0 l0.length) true false) true) false) true)
            (cond (cond (okT Pg F 37 []) true false)
             (some (.bool (cond (boolOf (valT F 37 [])) (cond (!x7) x9 (cond x5 (cond ((intOf (x4.getD 0 .dead)) == (intOf (x6.getD 0 .dead))) (cond ((intOf (x4.getD 1 .dead)) == (intOf (x6.getD 1 .dead))) x9 false) false) false)) false)))
             (none))
            (none))
           (none))
          (none))))
       (none))
      (none)))
    (none)) := by kernel_rfl
set_option maxRecDepth 100000 in
theorem nf_law25_TlbWorksAsSpecified (F : Tab) (l0 l1 : List AV) (a0 a1 a2 : Int) (b0 : Bool) : fnV (cx F) 6 9 [.agg 67 [.slice 70 l0 false], .slice 79 l1 false, .int .u32 a0, .int .u32 a1, .int .i64 a2, .bool b0] =
  (let x0 : Bool := okT Pg F 35 [.agg 67 [.slice 70 l0 false]];
   let x1 : Bool := boolOf (valT F 35 [.agg 67 [.slice 70 l0 false]]);
   cond (condB (decide ((30 : Int) < ((l1.length : Nat) : Int))) true (condB (decide ((20 : Int) < ((l0.length : Nat) : Int))) true (cond (okT Pg F 17 [.int .i64 a2]) true false)))
    (cond (cond (decide ((30 : Int) < ((l1.length : Nat) : Int))) true (cond (decide ((20 : Int) < ((l0.length : Nat) : Int))) true (!(boolOf (valT F 17 [.int .i64 a2])))))
     (cond (okT Pg F 37 [])
      (some (.bool (boolOf (valT F 37 []))))
      (none))
     (cond (cond (okT Pg F 40 [.agg 67 [.slice 70 l0 false]]) (cond x0 true false) false)
      (cond (!((boolOf (valT F 40 [.agg 67 [.slice 70 l0 false]])) == x1))
       (some (.bool false))
       (cond x0
        (cond (!x1)
         (cond (okT Pg F 37 [])
          (some (.bool (boolOf (valT F 37 []))))
          (none))
         (cond ((lf_law25_TlbWorksAsSpecified_8 F a0 a1 a2 b0 l1 ((l1.length : Nat) : Int) 100000 0 l0).k == 1)
          (some (.bool false))
          (cond ((lf_law25_TlbWorksAsSpecified_8 F a0 a1 a2 b0 l1 ((l1.length : Nat) : Int) 100000 0 l0).k == 2)
           (cond (okT Pg F 37 [])
            (some (.bool (boolOf (valT F 37 []))))
            (none))
           (none))))
        (none)))
      (none)))
    (none)) := by kernel_rfl
set_option maxRecDepth 100000 in
theorem nf_law25_TlbForgetsOnlyWhatIsNamed (F : Tab) (l0 : List AV) (a0 a1 a2 : Int) : fnV (cx F) 6 10 [.agg 67 [.slice 70 l0 false], .int .u32 a0, .int .u16 a1, .int .u8 a2] =
  (let x0 : List AV := listOf ((partsOf (valT F 44 [.agg 67 [.slice 70 l0 false], .int .u32 a0])).getD 0 .dead);
   let x1 : List AV := listOf ((partsOf (valT F 45 [.agg 67 [.slice 70 l0 false], .int .i64 ((IntKind.i64.wrap a1).tmod 8192), .int .i64 (IntKind.i64.wrap (1 + (IntKind.i64.wrap a2)))])).getD 0 .dead);
   let x2 : Bool := okT Pg F 46 [.agg 67 [.slice 70 l0 false], .int .i64 (IntKind.i64.wrap (((IntKind.i64.wrap a1).tmod 8192).tdiv 128))];
   let x3 : List AV := listOf ((partsOf (valT F 46 [.agg 67 [.slice 70 l0 false], .int .i64 (IntKind.i64.wrap (((IntKind.i64.wrap a1).tmod 8192).tdiv 128))])).getD 0 .dead);
   let x4 : Bool := !(boolOf (valT F 47 [.agg 67 [.slice 70 x0 false], .agg 67 [.slice 70 l0 false]]));
   let x5 : Bool := !(boolOf (valT F 47 [.agg 67 [.slice 70 x1 false], .agg 67 [.slice 70 l0 false]]));
   let x6 : Bool := !(boolOf (valT F 47 [.agg 67 [.slice 70 x3 false], .agg 67 [.slice 70 l0 false]]));
   let x7 : Bool := !(boolOf (valT F 43 [.agg 67 [.slice 70 (listOf ((partsOf (valT F 44 [.agg 67 [.slice 70 x0 false], .int .u32 a0])).getD 0 .dead)) false], .agg 67 [.slice 70 x0 false]]));
   let x8 : Bool := !(boolOf (valT F 43 [.agg 67 [.slice 70 (listOf ((partsOf (valT F 45 [.agg 67 [.slice 70 x1 false], .int .i64 ((IntKind.i64.wrap a1).tmod 8192), .int .i64 (IntKind.i64.wrap (1 + (IntKind.i64.wrap a2)))])).getD 0 .dead)) false], .agg 67 [.slice 70 x1 false]]));
   let x9 : Bool := okT Pg F 46 [.agg 67 [.slice 70 x0 false], .int .i64 (IntKind.i64.wrap (((IntKind.i64.wrap a1).tmod 8192).tdiv 128))];
   let x10 : List AV := listOf ((partsOf (valT F 46 [.agg 67 [.slice 70 x0 false], .int .i64 (IntKind.i64.wrap (((IntKind.i64.wrap a1).tmod 8192).tdiv 128))])).getD 0 .dead);
   let x11 : Bool := boolOf (valT F 43 [.agg 67 [.slice 70 x3 false], .agg 67 [.slice 70 x3 false]]);
   cond (okT Pg F 35 [.agg 67 [.slice 70 l0 false]])
    (cond (!(boolOf (valT F 35 [.agg 67 [.slice 70 l0 false]])))
     (cond (okT Pg F 37 [])
      (some (.bool (boolOf (valT F 37 []))))
      (none))
     (cond (okT Pg F 44 [.agg 67 [.slice 70 l0 false], .int .u32 a0])
      (cond (okT Pg F 45 [.agg 67 [.slice 70 l0 false], .int .i64 ((IntKind.i64.wrap a1).tmod 8192), .int .i64 (IntKind.i64.wrap (1 + (IntKind.i64.wrap a2)))])
       (cond x2
        (cond (cond (okT Pg F 47 [.agg 67 [.slice 70 x0 false], .agg 67 [.slice 70 l0 false]]) (condB x4 true (cond (okT Pg F 47 [.agg 67 [.slice 70 x1 false], .agg 67 [.slice 70 l0 false]]) (condB x5 true (cond (okT Pg F 47 [.agg 67 [.slice 70 x3 false], .agg 67 [.slice 70 l0 false]]) (condB x6 true (cond (okT Pg F 45 [.agg 67 [.slice 70 l0 false], .int .i64 (IntKind.i64.wrap ((IntKind.i64.wrap (((IntKind.i64.wrap a1).tmod 8192).tdiv 128)) * 128)), .int .i64 128]) (cond (okT Pg F 47 [.agg 67 [.slice 70 x3 false], .agg 67 [.slice 70 (listOf ((partsOf (valT F 45 [.agg 67 [.slice 70 l0 false], .int .i64 (IntKind.i64.wrap ((IntKind.i64.wrap (((IntKind.i64.wrap a1).tmod 8192).tdiv 128)) * 128)), .int .i64 128])).getD 0 .dead)) false]]) true false) false)) false)) false)) false)
         (cond (cond x4 true (cond x5 true (cond x6 true (!(boolOf (valT F 47 [.agg 67 [.slice 70 x3 false], .agg 67 [.slice 70 (listOf ((partsOf (valT F 45 [.agg 67 [.slice 70 l0 false], .int .i64 (IntKind.i64.wrap ((IntKind.i64.wrap (((IntKind.i64.wrap a1).tmod 8192).tdiv 128)) * 128)), .int .i64 128])).getD 0 .dead)) false]]))))))
          (some (.bool false))
          (cond (cond (okT Pg F 44 [.agg 67 [.slice 70 x0 false], .int .u32 a0]) (cond (okT Pg F 43 [.agg 67 [.slice 70 (listOf ((partsOf (valT F 44 [.agg 67 [.slice 70 x0 false], .int .u32 a0])).getD 0 .dead)) false], .agg 67 [.slice 70 x0 false]]) (condB x7 true (cond (okT Pg F 45 [.agg 67 [.slice 70 x1 false], .int .i64 ((IntKind.i64.wrap a1).tmod 8192), .int .i64 (IntKind.i64.wrap (1 + (IntKind.i64.wrap a2)))]) (cond (okT Pg F 43 [.agg 67 [.slice 70 (listOf ((partsOf (valT F 45 [.agg 67 [.slice 70 x1 false], .int .i64 ((IntKind.i64.wrap a1).tmod 8192), .int .i64 (IntKind.i64.wrap (1 + (IntKind.i64.wrap a2)))])).getD 0 .dead)) false], .agg 67 [.slice 70 x1 false]]) (condB x8 true (cond (okT Pg F 46 [.agg 67 [.slice 70 x3 false], .int .i64 (IntKind.i64.wrap (((IntKind.i64.wrap a1).tmod 8192).tdiv 128))]) (cond (okT Pg F 43 [.agg 67 [.slice 70 (listOf ((partsOf (valT F 46 [.agg 67 [.slice 70 x3 false], .int .i64 (IntKind.i64.wrap (((IntKind.i64.wrap a1).tmod 8192).tdiv 128))])).getD 0 .dead)) false], .agg 67 [.slice 70 x3 false]]) true false) false)) false) false)) false) false)
           (cond (cond x7 true (cond x8 true (!(boolOf (valT F 43 [.agg 67 [.slice 70 (listOf ((partsOf (valT F 46 [.agg 67 [.slice 70 x3 false], .int .i64 (IntKind.i64.wrap (((IntKind.i64.wrap a1).tmod 8192).tdiv 128))])).getD 0 .dead)) false], .agg 67 [.slice 70 x3 false]])))))
            (some (.bool false))
            (cond x2
             (cond x9
              (cond (okT Pg F 46 [.agg 67 [.slice 70 [] false], .int .i64 (IntKind.i64.wrap (((IntKind.i64.wrap a1).tmod 8192).tdiv 128))])
               (cond (cond (okT Pg F 37 []) (condB (boolOf (valT F 37 [])) (condB true (cond (okT Pg F 43 [.agg 67 [.slice 70 x3 false], .agg 67 [.slice 70 x3 false]]) (condB x11 (cond x9 (cond (okT Pg F 43 [.agg 67 [.slice 70 x10 false], .agg 67 [.slice 70 x10 false]]) true false) false) true) false) true) true) false)
                (some (.bool (cond (boolOf (valT F 37 [])) (cond x11 (cond (boolOf (valT F 43 [.agg 67 [.slice 70 x10 false], .agg 67 [.slice 70 x10 false]])) ((((listOf ((partsOf (valT F 46 [.agg 67 [.slice 70 [] false], .int .i64 (IntKind.i64.wrap (((IntKind.i64.wrap a1).tmod 8192).tdiv 128))])).getD 0 .dead)).length : Nat) : Int) == 0) false) false) false)))
                (none))
               (none))
              (none))
             (none)))
           (none)))
         (none))
        (none))
       (none))
      (none)))
    (none)) := by kernel_rfl
set_option maxRecDepth 100000 in
theorem nf_ref06_Valid (F : Tab) (l0 : List AV) : fnV (cx F) 6 16 [.agg 23 [.slice 118 l0 false]] =
  some (.bool (cond (decide ((1 : Int) ≤ ((l0.length : Nat) : Int))) (decide (((l0.length : Nat) : Int) ≤ 64)) false)) := by kernel_rfl
set_option maxRecDepth 100000 in
theorem nf_ref10_Access (F : Tab) (a0 : Int) : fnV (cx F) 6 17 [.int .i64 a0] =
  some (.bool (cond (decide ((1 : Int) ≤ a0)) (decide (a0 ≤ 4)) false)) := by kernel_rfl
set_option maxRecDepth 100000 in
theorem nf_table_Walk (F : Tab) (l0 : List AV) (a0 a1 a2 : Int) (b0 : Bool) : fnV (cx F) 6 19 [.agg 23 [.slice 118 l0 false], .int .u32 a0, .int .u32 a1, .int .i64 a2, .bool b0] =
  (let x0 : Int := intOf (([.int .i64 0, .int .i64 5, .int .i64 6, .int .i64 6, .int .i64 4] : List AV).getD a2.toNat .dead);
   let x1 : Int := IntKind.u32.wrap (a0 + (IntKind.u32.wrap (4 * (a1.fdiv 4096))));
   let x2 : Int := intOf (valT F 66 [.agg 23 [.slice 118 l0 false], .int .u32 x1]);
   let x3 : Int := IntKind.i64.wrap x1;
   let x4 : Bool := okT Pg F 69 [.int .u32 x2];
   let x5 : Int := intOf (valT F 69 [.int .u32 x2]);
   let x6 : Int := IntKind.u32.wrap (x5 + (IntKind.u32.wrap (((a1.fdiv 128).tmod 32) * 128)));
   let x7 : Int := IntKind.u32.wrap (x5 + (IntKind.u32.wrap (((a1.fdiv 128).tmod 32) * 4)));
   let x8 : Int := intOf (valT F 66 [.agg 23 [.slice 118 l0 false], .int .u32 x7]);
   let x9 : Int := IntKind.i64.wrap x7;
   let x10 : Int := intOf (valT F 69 [.int .u32 x8]);
   let x11 : Int := IntKind.i64.wrap (IntKind.u32.wrap (x10 + (a1.tmod 128)));
   let x12 : Int := ibits .or .u32 x8 16;
   let x13 : Int := cond (cond (a2 == 2) true (a2 == 3)) (ibits .or .u32 x12 32) x12;
   let x14 : Bool := x13 != x8;
   let x15 : Bool := okT Pg F 67 [.int .u32 x8, .int .u32 4];
   let x16 : Bool := !(boolOf (valT F 67 [.int .u32 x8, .int .u32 4]));
   let x17 : Bool := okT Pg F 67 [.int .u32 x8, .int .u32 8];
   let x18 : Bool := !(boolOf (valT F 67 [.int .u32 x8, .int .u32 8]));
   let x19 : Int := IntKind.i64.wrap (IntKind.u32.wrap (x6 + (a1.tmod 128)));
   let x20 : Int := ibits .or .u32 x2 16;
   let x21 : Int := cond (cond (a2 == 2) true (a2 == 3)) (ibits .or .u32 x20 32) x20;
   let x22 : Bool := x21 != x2;
   let x23 : Bool := okT Pg F 67 [.int .u32 x2, .int .u32 4];
   let x24 : Bool := !(boolOf (valT F 67 [.int .u32 x2, .int .u32 4]));
   let x25 : Bool := okT Pg F 67 [.int .u32 x2, .int .u32 8];
   let x26 : Bool := !(boolOf (valT F 67 [.int .u32 x2, .int .u32 8]));
   cond (a0 == 0)
    (cond (!(decide ((IntKind.i64.wrap a1) < (IntKind.i64.wrap (((l0.length : Nat) : Int) * 128)))))
     (cond (inB a2 5)
      (some (.tuple [.agg 31 [.int .i64 0, .int .i64 0, .slice 42 [] false, .slice 3 [] false], .int .i64 x0]))
      (none))
     (some (.tuple [.agg 31 [.int .i64 (IntKind.i64.wrap a1), .int .i64 (-1), .slice 42 [] false, .slice 3 [] false], .int .i64 0])))
    (cond (decide (a1 < 131072))
     (cond (okT Pg F 65 [.agg 23 [.slice 118 l0 false], .int .u32 a0])
      (cond (!(boolOf (valT F 65 [.agg 23 [.slice 118 l0 false], .int .u32 a0])))
       (cond (inB a2 5)
        (some (.tuple [.agg 31 [.int .i64 0, .int .i64 0, .slice 42 [] false, .slice 3 [] false], .int .i64 x0]))
        (none))
       (cond (okT Pg F 66 [.agg 23 [.slice 118 l0 false], .int .u32 x1])
        (cond (okT Pg F 67 [.int .u32 x2, .int .u32 1])
         (cond (boolOf (valT F 67 [.int .u32 x2, .int .u32 1]))
          (cond (okT Pg F 68 [.int .u32 x2, .agg 23 [.slice 118 l0 false]])
           (cond (!(boolOf (valT F 68 [.int .u32 x2, .agg 23 [.slice 118 l0 false]])))
            (cond (inB a2 5)
             (some (.tuple [.agg 31 [.int .i64 0, .int .i64 0, .slice 42 [] false, .slice 3 [.int .i64 x3] false], .int .i64 x0]))
             (none))
            (cond x4
             (cond (okT Pg F 67 [.int .u32 x2, .int .u32 64])
              (cond (!(boolOf (valT F 67 [.int .u32 x2, .int .u32 64])))
               (cond x4
                (cond (okT Pg F 66 [.agg 23 [.slice 118 l0 false], .int .u32 x7])
                 (cond (okT Pg F 67 [.int .u32 x8, .int .u32 1])
                  (cond (boolOf (valT F 67 [.int .u32 x8, .int .u32 1]))
                   (cond (okT Pg F 67 [.int .u32 x8, .int .u32 64])
                    (cond (!(!(boolOf (valT F 67 [.int .u32 x8, .int .u32 64]))))
                     (cond (inB a2 5)
                      (some (.tuple [.agg 31 [.int .i64 0, .int .i64 0, .slice 42 [] false, .slice 3 [.int .i64 x3, .int .i64 x9] false], .int .i64 x0]))
                      (none))
                     (cond (okT Pg F 69 [.int .u32 x8])
                      (cond (okT Pg F 65 [.agg 23 [.slice 118 l0 false], .int .u32 x10])
                       (cond (!(boolOf (valT F 65 [.agg 23 [.slice 118 l0 false], .int .u32 x10])))
                        (cond (inB a2 5)
                         (some (.tuple [.agg 31 [.int .i64 0, .int .i64 0, .slice 42 [] false, .slice 3 [.int .i64 x3, .int .i64 x9] false], .int .i64 x0]))
                         (none))
                        (cond (!(cond (a2 == 2) true (a2 == 3)))
                         (cond (a2 != 4)
                          (cond (!b0)
                           (cond x14
                            (some (.tuple [.agg 31 [.int .i64 x11, .int .i64 x9, .slice 42 [.agg 41 [.int .i64 x9, .int .i64 4, .int .u32 x13]] false, .slice 3 [.int .i64 x3, .int .i64 x9] false], .int .i64 0]))
                            (some (.tuple [.agg 31 [.int .i64 x11, .int .i64 x9, .slice 42 [] false, .slice 3 [.int .i64 x3, .int .i64 x9] false], .int .i64 0])))
                           (cond x15
                            (cond x16
                             (cond (inB a2 5)
                              (some (.tuple [.agg 31 [.int .i64 0, .int .i64 0, .slice 42 [] false, .slice 3 [.int .i64 x3, .int .i64 x9] false], .int .i64 x0]))
                              (none))
                             (cond x14
                              (some (.tuple [.agg 31 [.int .i64 x11, .int .i64 x9, .slice 42 [.agg 41 [.int .i64 x9, .int .i64 4, .int .u32 x13]] false, .slice 3 [.int .i64 x3, .int .i64 x9] false], .int .i64 0]))
                              (some (.tuple [.agg 31 [.int .i64 x11, .int .i64 x9, .slice 42 [] false, .slice 3 [.int .i64 x3, .int .i64 x9] false], .int .i64 0]))))
                            (none)))
                          (cond x17
                           (cond x18
                            (cond (inB a2 5)
                             (some (.tuple [.agg 31 [.int .i64 0, .int .i64 0, .slice 42 [] false, .slice 3 [.int .i64 x3, .int .i64 x9] false], .int .i64 x0]))
                             (none))
                            (cond (!b0)
                             (cond x14
                              (some (.tuple [.agg 31 [.int .i64 x11, .int .i64 x9, .slice 42 [.agg 41 [.int .i64 x9, .int .i64 4, .int .u32 x13]] false, .slice 3 [.int .i64 x3, .int .i64 x9] false], .int .i64 0]))
                              (some (.tuple [.agg 31 [.int .i64 x11, .int .i64 x9, .slice 42 [] false, .slice 3 [.int .i64 x3, .int .i64 x9] false], .int .i64 0])))
                             (cond x15
                              (cond x16
                               (cond (inB a2 5)
                                (some (.tuple [.agg 31 [.int .i64 0, .int .i64 0, .slice 42 [] false, .slice 3 [.int .i64 x3, .int .i64 x9] false], .int .i64 x0]))
                                (none))
                               (cond x14
                                (some (.tuple [.agg 31 [.int .i64 x11, .int .i64 x9, .slice 42 [.agg 41 [.int .i64 x9, .int .i64 4, .int .u32 x13]] false, .slice 3 [.int .i64 x3, .int .i64 x9] false], .int .i64 0]))
                                (some (.tuple [.agg 31 [.int .i64 x11, .int .i64 x9, .slice 42 [] false, .slice 3 [.int .i64 x3, .int .i64 x9] false], .int .i64 0]))))
                              (none))))
                           (none)))
                         (cond (okT Pg F 67 [.int .u32 x8, .int .u32 2])
                          (cond (!(boolOf (valT F 67 [.int .u32 x8, .int .u32 2])))
                           (cond (inB a2 5)
                            (some (.tuple [.agg 31 [.int .i64 0, .int .i64 0, .slice 42 [] false, .slice 3 [.int .i64 x3, .int .i64 x9] false], .int .i64 x0]))
                            (none))
                           (cond (a2 != 4)
                            (cond (!b0)
                             (cond x14
                              (some (.tuple [.agg 31 [.int .i64 x11, .int .i64 x9, .slice 42 [.agg 41 [.int .i64 x9, .int .i64 4, .int .u32 x13]] false, .slice 3 [.int .i64 x3, .int .i64 x9] false], .int .i64 0]))
                              (some (.tuple [.agg 31 [.int .i64 x11, .int .i64 x9, .slice 42 [] false, .slice 3 [.int .i64 x3, .int .i64 x9] false], .int .i64 0])))
                             (cond x15
                              (cond x16
                               (cond (inB a2 5)
                                (some (.tuple [.agg 31 [.int .i64 0, .int .i64 0, .slice 42 [] false, .slice 3 [.int .i64 x3, .int .i64 x9] false], .int .i64 x0]))
                                (none))
                               (cond x14
                                (some (.tuple [.agg 31 [.int .i64 x11, .int .i64 x9, .slice 42 [.agg 41 [.int .i64 x9, .int .i64 4, .int .u32 x13]] false, .slice 3 [.int .i64 x3, .int .i64 x9] false], .int .i64 0]))
                                (some (.tuple [.agg 31 [.int .i64 x11, .int .i64 x9, .slice 42 [] false, .slice 3 [.int .i64 x3, .int .i64 x9] false], .int .i64 0]))))
                              (none)))
                            (cond x17
                             (cond x18
                              (cond (inB a2 5)
                               (some (.tuple [.agg 31 [.int .i64 0, .int .i64 0, .slice 42 [] false, .slice 3 [.int .i64 x3, .int .i64 x9] false], .int .i64 x0]))
                               (none))
                              (cond (!b0)
                               (cond x14
                                (some (.tuple [.agg 31 [.int .i64 x11, .int .i64 x9, .slice 42 [.agg 41 [.int .i64 x9, .int .i64 4, .int .u32 x13]] false, .slice 3 [.int .i64 x3, .int .i64 x9] false], .int .i64 0]))
                                (some (.tuple [.agg 31 [.int .i64 x11, .int .i64 x9, .slice 42 [] false, .slice 3 [.int .i64 x3, .int .i64 x9] false], .int .i64 0])))
                               (cond x15
                                (cond x16
                                 (cond (inB a2 5)
                                  (some (.tuple [.agg 31 [.int .i64 0, .int .i64 0, .slice 42 [] false, .slice 3 [.int .i64 x3, .int .i64 x9] false], .int .i64 x0]))
                                  (none))
                                 (cond x14
                                  (some (.tuple [.agg 31 [.int .i64 x11, .int .i64 x9, .slice 42 [.agg 41 [.int .i64 x9, .int .i64 4, .int .u32 x13]] false, .slice 3 [.int .i64 x3, .int .i64 x9] false], .int .i64 0]))
                                  (some (.tuple [.agg 31 [.int .i64 x11, .int .i64 x9, .slice 42 [] false, .slice 3 [.int .i64 x3, .int .i64 x9] false], .int .i64 0]))))
                                (none))))
                             (none))))
                          (none))))
                       (none))
                      (none)))
                    (none))
                   (cond (inB a2 5)
                    (some (.tuple [.agg 31 [.int .i64 0, .int .i64 0, .slice 42 [] false, .slice 3 [.int .i64 x3, .int .i64 x9] false], .int .i64 x0]))
                    (none)))
                  (none))
                 (none))
                (none))
               (cond (okT Pg F 65 [.agg 23 [.slice 118 l0 false], .int .u32 x6])
                (cond (!(boolOf (valT F 65 [.agg 23 [.slice 118 l0 false], .int .u32 x6])))
                 (cond (inB a2 5)
                  (some (.tuple [.agg 31 [.int .i64 0, .int .i64 0, .slice 42 [] false, .slice 3 [.int .i64 x3] false], .int .i64 x0]))
                  (none))
                 (cond (!(cond (a2 == 2) true (a2 == 3)))
                  (cond (a2 != 4)
                   (cond (!b0)
                    (cond x22
                     (some (.tuple [.agg 31 [.int .i64 x19, .int .i64 x3, .slice 42 [.agg 41 [.int .i64 x3, .int .i64 4, .int .u32 x21]] false, .slice 3 [.int .i64 x3] false], .int .i64 0]))
                     (some (.tuple [.agg 31 [.int .i64 x19, .int .i64 x3, .slice 42 [] false, .slice 3 [.int .i64 x3] false], .int .i64 0])))
                    (cond x23
                     (cond x24
                      (cond (inB a2 5)
                       (some (.tuple [.agg 31 [.int .i64 0, .int .i64 0, .slice 42 [] false, .slice 3 [.int .i64 x3] false], .int .i64 x0]))
                       (none))
                      (cond x22
                       (some (.tuple [.agg 31 [.int .i64 x19, .int .i64 x3, .slice 42 [.agg 41 [.int .i64 x3, .int .i64 4, .int .u32 x21]] false, .slice 3 [.int .i64 x3] false], .int .i64 0]))
                       (some (.tuple [.agg 31 [.int .i64 x19, .int .i64 x3, .slice 42 [] false, .slice 3 [.int .i64 x3] false], .int .i64 0]))))
                     (none)))
                   (cond x25
                    (cond x26
                     (cond (inB a2 5)
                      (some (.tuple [.agg 31 [.int .i64 0, .int .i64 0, .slice 42 [] false, .slice 3 [.int .i64 x3] false], .int .i64 x0]))
                      (none))
                     (cond (!b0)
                      (cond x22
                       (some (.tuple [.agg 31 [.int .i64 x19, .int .i64 x3, .slice 42 [.agg 41 [.int .i64 x3, .int .i64 4, .int .u32 x21]] false, .slice 3 [.int .i64 x3] false], .int .i64 0]))
                       (some (.tuple [.agg 31 [.int .i64 x19, .int .i64 x3, .slice 42 [] false, .slice 3 [.int .i64 x3] false], .int .i64 0])))
                      (cond x23
                       (cond x24
                        (cond (inB a2 5)
                         (some (.tuple [.agg 31 [.int .i64 0, .int .i64 0, .slice 42 [] false, .slice 3 [.int .i64 x3] false], .int .i64 x0]))
                         (none))
                        (cond x22
                         (some (.tuple [.agg 31 [.int .i64 x19, .int .i64 x3, .slice 42 [.agg 41 [.int .i64 x3, .int .i64 4, .int .u32 x21]] false, .slice 3 [.int .i64 x3] false], .int .i64 0]))
                         (some (.tuple [.agg 31 [.int .i64 x19, .int .i64 x3, .slice 42 [] false, .slice 3 [.int .i64 x3] false], .int .i64 0]))))
                       (none))))
                    (none)))
                  (cond (okT Pg F 67 [.int .u32 x2, .int .u32 2])
                   (cond (!(boolOf (valT F 67 [.int .u32 x2, .int .u32 2])))
                    (cond (inB a2 5)
                     (some (.tuple [.agg 31 [.int .i64 0, .int .i64 0, .slice 42 [] false, .slice 3 [.int .i64 x3] false], .int .i64 x0]))
                     (none))
                    (cond (a2 != 4)
                     (cond (!b0)
                      (cond x22
                       (some (.tuple [.agg 31 [.int .i64 x19, .int .i64 x3, .slice 42 [.agg 41 [.int .i64 x3, .int .i64 4, .int .u32 x21]] false, .slice 3 [.int .i64 x3] false], .int .i64 0]))
                       (some (.tuple [.agg 31 [.int .i64 x19, .int .i64 x3, .slice 42 [] false, .slice 3 [.int .i64 x3] false], .int .i64 0])))
                      (cond x23
                       (cond x24
                        (cond (inB a2 5)
                         (some (.tuple [.agg 31 [.int .i64 0, .int .i64 0, .slice 42 [] false, .slice 3 [.int .i64 x3] false], .int .i64 x0]))
                         (none))
                        (cond x22
                         (some (.tuple [.agg 31 [.int .i64 x19, .int .i64 x3, .slice 42 [.agg 41 [.int .i64 x3, .int .i64 4, .int .u32 x21]] false, .slice 3 [.int .i64 x3] false], .int .i64 0]))
                         (some (.tuple [.agg 31 [.int .i64 x19, .int .i64 x3, .slice 42 [] false, .slice 3 [.int .i64 x3] false], .int .i64 0]))))
                       (none)))
                     (cond x25
                      (cond x26
                       (cond (inB a2 5)
                        (some (.tuple [.agg 31 [.int .i64 0, .int .i64 0, .slice 42 [] false, .slice 3 [.int .i64 x3] false], .int .i64 x0]))
                        (none))
                       (cond (!b0)
                        (cond x22
                         (some (.tuple [.agg 31 [.int .i64 x19, .int .i64 x3, .slice 42 [.agg 41 [.int .i64 x3, .int .i64 4, .int .u32 x21]] false, .slice 3 [.int .i64 x3] false], .int .i64 0]))
                         (some (.tuple [.agg 31 [.int .i64 x19, .int .i64 x3, .slice 42 [] false, .slice 3 [.int .i64 x3] false], .int .i64 0])))
                        (cond x23
                         (cond x24
                          (cond (inB a2 5)
                           (some (.tuple [.agg 31 [.int .i64 0, .int .i64 0, .slice 42 [] false, .slice 3 [.int .i64 x3] false], .int .i64 x0]))
                           (none))
                          (cond x22
                           (some (.tuple [.agg 31 [.int .i64 x19, .int .i64 x3, .slice 42 [.agg 41 [.int .i64 x3, .int .i64 4, .int .u32 x21]] false, .slice 3 [.int .i64 x3] false], .int .i64 0]))
                           (some (.tuple [.agg 31 [.int .i64 x19, .int .i64 x3, .slice 42 [] false, .slice 3 [.int .i64 x3] false], .int .i64 0]))))
                         (none))))
                      (none))))
                   (none))))
                (none)))
              (none))
             (none)))
           (none))
          (cond (inB a2 5)
           (some (.tuple [.agg 31 [.int .i64 0, .int .i64 0, .slice 42 [] false, .slice 3 [.int .i64 x3] false], .int .i64 x0]))
           (none)))
         (none))
        (none)))
      (none))
     (cond (inB a2 5)
      (some (.tuple [.agg 31 [.int .i64 0, .int .i64 0, .slice 42 [] false, .slice 3 [] false], .int .i64 x0]))
      (none)))) := by kernel_rfl
set_option maxRecDepth 100000 in
theorem nf_ref10_Same (F : Tab) (a0 a1 : Int) (l0 l1 : List AV) (a2 a3 : Int) (l2 l3 : List AV) : fnV (cx F) 6 21 [.agg 31 [.int .i64 a0, .int .i64 a1, .slice 42 l0 false, .slice 3 l1 false], .agg 31 [.int .i64 a2, .int .i64 a3, .slice 42 l2 false, .slice 3 l3 false]] =
  cond (condB (a0 != a2) true (condB (a1 != a3) true (condB (((l0.length : Nat) : Int) != ((l2.length : Nat) : Int)) true (cond (okT Pg F 75 [.slice 3 l1 false, .slice 3 l3 false]) true false))))
    (cond (cond (a0 != a2) true (cond (a1 != a3) true (cond (((l0.length : Nat) : Int) != ((l2.length : Nat) : Int)) true (!(boolOf (valT F 75 [.slice 3 l1 false, .slice 3 l3 false]))))))
     (some (.bool false))
     (cond ((lf_ref10_Same_4 F a0 a1 l0 l1 a2 a3 l2 l3 100000 0).k == 1)
      (some (.bool false))
      (cond ((lf_ref10_Same_4 F a0 a1 l0 l1 a2 a3 l2 l3 100000 0).k == 2)
       (some (.bool true))
       (none))))
    (none) := by kernel_rfl
set_option maxRecDepth 100000 in
theorem nf_memory_Load (F : Tab) (l0 : List AV) (a0 a1 : Int) : fnV (cx F) 6 23 [.agg 23 [.slice 118 l0 false], .int .i64 a0, .int .i64 a1] =
  (let x0 : Bool := !(decide (a0 ≤ (IntKind.i64.wrap ((IntKind.i64.wrap (((l0.length : Nat) : Int) * 128)) - a1))));
   let x1 : Bool := (decide ((0 : Int) ≤ (a0.tmod 128))) && (decide ((a0.tmod 128) ≤ 128));
   let x2 : List AV := sub (partsOf (l0.getD ((IntKind.i64.wrap (a0.tdiv 128)).toNat) .dead)) ((a0.tmod 128).toNat) 128;
   let x3 : Nat := x2.length;
   let x4 : Bool := inB 0 x3;
   let x5 : Int := IntKind.u32.wrap (intOf (x2.getD 0 .dead));
   let x6 : Int := ibits .or .u32 (ibits .or .u32 (ibits .or .u32 x5 (IntKind.u32.wrap ((IntKind.u32.wrap (intOf (x2.getD 1 .dead))) * 256))) (IntKind.u32.wrap ((IntKind.u32.wrap (intOf (x2.getD 2 .dead))) * 65536))) (IntKind.u32.wrap ((IntKind.u32.wrap (intOf (x2.getD 3 .dead))) * 16777216));
   let x7 : Bool := cond x4 (cond (inB 1 x3) (cond (inB 2 x3) (cond (inB 3 x3) true false) false) false) false;
   cond (a1 == 1)
    (cond (decide ((0 : Int) ≤ a0))
     (cond (!(a1 == 0))
      (cond ((a0.tmod a1) == 0)
       (cond x0
        (some (.tuple [.int .u32 0, .bool false]))
        (cond (inB (IntKind.i64.wrap (a0.tdiv 128)) l0.length)
         (cond x1
          (cond (a1 == 1)
           (cond x4
            (some (.tuple [.int .u32 x5, .bool true]))
            (none))
           (cond x7
            (some (.tuple [.int .u32 x6, .bool true]))
            (none)))
          (none))
         (none)))
       (some (.tuple [.int .u32 0, .bool false])))
      (none))
     (some (.tuple [.int .u32 0, .bool false])))
    (cond (a1 == 4)
     (cond (decide ((0 : Int) ≤ a0))
      (cond (!(a1 == 0))
       (cond ((a0.tmod a1) == 0)
        (cond x0
         (some (.tuple [.int .u32 0, .bool false]))
         (cond (inB (IntKind.i64.wrap (a0.tdiv 128)) l0.length)
          (cond x1
           (cond (a1 == 1)
            (cond x4
             (some (.tuple [.int .u32 x5, .bool true]))
             (none))
            (cond x7
             (some (.tuple [.int .u32 x6, .bool true]))
             (none)))
           (none))
          (none)))
        (some (.tuple [.int .u32 0, .bool false])))
       (none))
      (some (.tuple [.int .u32 0, .bool false])))
     (some (.tuple [.int .u32 0, .bool false])))) := by kernel_rfl
set_option maxRecDepth 100000 in
theorem nf_memory_Apply (F : Tab) (l0 l1 : List AV) : fnV (cx F) 6 24 [.agg 23 [.slice 118 l0 false], .slice 42 l1 false] =
  cond (decide ((0 : Nat) < l0.length))
    (cond (decide (((0 + l0.length) * 128) ≤ 140737488355328))
     (cond (decide ((0 : Nat) < l0.length))
      (cond ((lf_memory_Apply_4 F l0.length l1 ((l1.length : Nat) : Int) l0 l0.length 100000 0 l0).k == 1)
       (some (.tuple [.agg 23 [.slice 118 l0 false], .bool false]))
       (cond ((lf_memory_Apply_4 F l0.length l1 ((l1.length : Nat) : Int) l0 l0.length 100000 0 l0).k == 2)
        (some (.tuple [.agg 23 [.slice 118 (sub ((lf_memory_Apply_4 F l0.length l1 ((l1.length : Nat) : Int) l0 l0.length 100000 0 l0).l.getD 0 []) 0 (0 + l0.length)) false], .bool true]))
        (none)))
      (none))
     (none))
    (none) := by kernel_rfl
set_option maxRecDepth 100000 in
theorem nf_table_Map (F : Tab) (l0 : List AV) (a0 a1 a2 a3 a4 : Int) : fnV (cx F) 6 26 [.agg 23 [.slice 118 l0 false], .int .u32 a0, .int .u32 a1, .int .u32 a2, .int .i64 a3, .int .u32 a4] =
  (let x0 : Int := IntKind.u32.wrap (a0 + (IntKind.u32.wrap (4 * (a1.fdiv 4096))));
   let x1 : Int := intOf (valT F 66 [.agg 23 [.slice 118 l0 false], .int .u32 x0]);
   let x2 : Bool := okT Pg F 67 [.int .u32 x1, .int .u32 1];
   let x3 : Bool := boolOf (valT F 67 [.int .u32 x1, .int .u32 1]);
   let x4 : Int := IntKind.u32.wrap ((intOf (valT F 69 [.int .u32 x1])) + (IntKind.u32.wrap (((a1.fdiv 128).tmod 32) * 4)));
   let x5 : List AV := listOf ((partsOf (valT F 82 [.agg 23 [.slice 118 (listOf ((partsOf ((tupOf (valT F 81 [.agg 23 [.slice 118 l0 false], .int .i64 (IntKind.i64.wrap a4), .str [0, 0, 0, 0, 0, 0, 0, 0, 0, 0, 0, 0, 0, 0, 0, 0, 0, 0, 0, 0, 0, 0, 0, 0, 0, 0, 0, 0, 0, 0, 0, 0, 0, 0, 0, 0, 0, 0, 0, 0, 0, 0, 0, 0, 0, 0, 0, 0, 0, 0, 0, 0, 0, 0, 0, 0, 0, 0, 0, 0, 0, 0, 0, 0, 0, 0, 0, 0, 0, 0, 0, 0, 0, 0, 0, 0, 0, 0, 0, 0, 0, 0, 0, 0, 0, 0, 0, 0, 0, 0, 0, 0, 0, 0, 0, 0, 0, 0, 0, 0, 0, 0, 0, 0, 0, 0, 0, 0, 0, 0, 0, 0, 0, 0, 0, 0, 0, 0, 0, 0, 0, 0, 0, 0, 0, 0, 0, 0]])).getD 0 .dead)).getD 0 .dead)) false], .int .u32 x0, .int .u32 (ibits .or .u32 a4 1)])).getD 0 .dead);
   let x6 : Int := IntKind.u32.wrap ((intOf (valT F 69 [.int .u32 (ibits .or .u32 a4 1)])) + (IntKind.u32.wrap (((a1.fdiv 128).tmod 32) * 4)));
   let x7 : Int := ibits .or .u32 (ibits .or .u32 a2 1) (IntKind.u32.wrap a3);
   cond (okT Pg F 80 [.agg 23 [.slice 118 l0 false], .int .u32 a0, .int .u32 a1, .int .u32 a2, .int .i64 a3, .int .u32 128])
    (cond (!(boolOf (valT F 80 [.agg 23 [.slice 118 l0 false], .int .u32 a0, .int .u32 a1, .int .u32 a2, .int .i64 a3, .int .u32 128])))
     (some (.tuple [.agg 23 [.slice 118 l0 false], .int .i64 1]))
     (cond (okT Pg F 66 [.agg 23 [.slice 118 l0 false], .int .u32 x0])
      (cond (cond x2 (condB x3 (cond (okT Pg F 68 [.int .u32 x1, .agg 23 [.slice 118 l0 false]]) true false) true) false)
       (cond (cond x3 (!(boolOf (valT F 68 [.int .u32 x1, .agg 23 [.slice 118 l0 false]]))) false)
        (some (.tuple [.agg 23 [.slice 118 l0 false], .int .i64 3]))
        (cond (okT Pg F 67 [.int .u32 x1, .int .u32 65])
         (cond (boolOf (valT F 67 [.int .u32 x1, .int .u32 65]))
          (some (.tuple [.agg 23 [.slice 118 l0 false], .int .i64 6]))
          (cond x2
           (cond (!x3)
            (cond (condB (a4 == 0) true (condB (a4 == a0) true (cond (okT Pg F 65 [.agg 23 [.slice 118 l0 false], .int .u32 a4]) true false)))
             (cond (cond (a4 == 0) true (cond (a4 == a0) true (!(boolOf (valT F 65 [.agg 23 [.slice 118 l0 false], .int .u32 a4])))))
              (some (.tuple [.agg 23 [.slice 118 l0 false], .int .i64 1]))
              (cond (okT Pg F 81 [.agg 23 [.slice 118 l0 false], .int .i64 (IntKind.i64.wrap a4), .str [0, 0, 0, 0, 0, 0, 0, 0, 0, 0, 0, 0, 0, 0, 0, 0, 0, 0, 0, 0, 0, 0, 0, 0, 0, 0, 0, 0, 0, 0, 0, 0, 0, 0, 0, 0, 0, 0, 0, 0, 0, 0, 0, 0, 0, 0, 0, 0, 0, 0, 0, 0, 0, 0, 0, 0, 0, 0, 0, 0, 0, 0, 0, 0, 0, 0, 0, 0, 0, 0, 0, 0, 0, 0, 0, 0, 0, 0, 0, 0, 0, 0, 0, 0, 0, 0, 0, 0, 0, 0, 0, 0, 0, 0, 0, 0, 0, 0, 0, 0, 0, 0, 0, 0, 0, 0, 0, 0, 0, 0, 0, 0, 0, 0, 0, 0, 0, 0, 0, 0, 0, 0, 0, 0, 0, 0, 0, 0]])
               (cond (okT Pg F 82 [.agg 23 [.slice 118 (listOf ((partsOf ((tupOf (valT F 81 [.agg 23 [.slice 118 l0 false], .int .i64 (IntKind.i64.wrap a4), .str [0, 0, 0, 0, 0, 0, 0, 0, 0, 0, 0, 0, 0, 0, 0, 0, 0, 0, 0, 0, 0, 0, 0, 0, 0, 0, 0, 0, 0, 0, 0, 0, 0, 0, 0, 0, 0, 0, 0, 0, 0, 0, 0, 0, 0, 0, 0, 0, 0, 0, 0, 0, 0, 0, 0, 0, 0, 0, 0, 0, 0, 0, 0, 0, 0, 0, 0, 0, 0, 0, 0, 0, 0, 0, 0, 0, 0, 0, 0, 0, 0, 0, 0, 0, 0, 0, 0, 0, 0, 0, 0, 0, 0, 0, 0, 0, 0, 0, 0, 0, 0, 0, 0, 0, 0, 0, 0, 0, 0, 0, 0, 0, 0, 0, 0, 0, 0, 0, 0, 0, 0, 0, 0, 0, 0, 0, 0, 0]])).getD 0 .dead)).getD 0 .dead)) false], .int .u32 x0, .int .u32 (ibits .or .u32 a4 1)])
                (cond (okT Pg F 69 [.int .u32 (ibits .or .u32 a4 1)])
                 (cond (okT Pg F 66 [.agg 23 [.slice 118 x5 false], .int .u32 x6])
                  (cond (okT Pg F 67 [.int .u32 (intOf (valT F 66 [.agg 23 [.slice 118 x5 false], .int .u32 x6])), .int .u32 1])
                   (cond (boolOf (valT F 67 [.int .u32 (intOf (valT F 66 [.agg 23 [.slice 118 x5 false], .int .u32 x6])), .int .u32 1]))
                    (some (.tuple [.agg 23 [.slice 118 l0 false], .int .i64 6]))
                    (cond (okT Pg F 82 [.agg 23 [.slice 118 x5 false], .int .u32 x6, .int .u32 x7])
                     (some (.tuple [.agg 23 [.slice 118 (listOf ((partsOf (valT F 82 [.agg 23 [.slice 118 x5 false], .int .u32 x6, .int .u32 x7])).getD 0 .dead)) false], .int .i64 0]))
                     (none)))
                   (none))
                  (none))
                 (none))
                (none))
               (none)))
             (none))
            (cond (okT Pg F 69 [.int .u32 x1])
             (cond (okT Pg F 66 [.agg 23 [.slice 118 l0 false], .int .u32 x4])
              (cond (okT Pg F 67 [.int .u32 (intOf (valT F 66 [.agg 23 [.slice 118 l0 false], .int .u32 x4])), .int .u32 1])
               (cond (boolOf (valT F 67 [.int .u32 (intOf (valT F 66 [.agg 23 [.slice 118 l0 false], .int .u32 x4])), .int .u32 1]))
                (some (.tuple [.agg 23 [.slice 118 l0 false], .int .i64 6]))
                (cond (okT Pg F 82 [.agg 23 [.slice 118 l0 false], .int .u32 x4, .int .u32 x7])
                 (some (.tuple [.agg 23 [.slice 118 (listOf ((partsOf (valT F 82 [.agg 23 [.slice 118 l0 false], .int .u32 x4, .int .u32 x7])).getD 0 .dead)) false], .int .i64 0]))
                 (none)))
               (none))
              (none))
             (none)))
           (none)))
         (none)))
       (none))
      (none)))
    (none)) := by kernel_rfl
set_option maxRecDepth 100000 in
theorem nf_ref06_Same (F : Tab) (l0 l1 : List AV) : fnV (cx F) 6 32 [.agg 23 [.slice 118 l0 false], .agg 23 [.slice 118 l1 false]] =
  cond (okT Pg F 89 [.agg 23 [.slice 118 l0 false], .agg 23 [.slice 118 l1 false]])
    (some (.bool ((((listOf (valT F 89 [.agg 23 [.slice 118 l0 false], .agg 23 [.slice 118 l1 false]])).length : Nat) : Int) == 0)))
    (none) := by kernel_rfl
set_option maxRecDepth 100000 in
theorem nf_ref25_Valid (F : Tab) (l0 : List AV) : fnV (cx F) 6 35 [.agg 67 [.slice 70 l0 false]] =
  cond (decide ((8 : Int) < ((l0.length : Nat) : Int)))
    (some (.bool false))
    (cond ((lf_ref25_Valid_4 F l0 100000 0).k == 1)
     (some (.bool false))
     (cond ((lf_ref25_Valid_4 F l0 100000 0).k == 2)
      (some (.bool true))
      (none))) := by kernel_rfl
set_option maxRecDepth 100000 in
theorem nf_ref25_Right (F : Tab) (a0 a1 a2 a3 a4 : Int) (l0 : List AV) : fnV (cx F) 6 36 [.agg 69 [.int .u32 a0, .int .i64 a1, .int .i64 a2, .int .i64 a3, .int .i64 a4, .slice 3 l0 false]] =
  cond (condB (decide (a1 < 0)) true (condB (decide ((1024 : Int) ≤ a1)) true (condB (decide (a2 < 0)) true (condB (decide ((64 : Int) ≤ a2)) true (condB (decide (a3 < 0)) true (condB (decide ((1048576 : Int) < a3)) true (cond (okT Pg F 92 [.int .i64 a4]) true false)))))))
    (cond (cond (decide (a1 < 0)) true (cond (decide ((1024 : Int) ≤ a1)) true (cond (decide (a2 < 0)) true (cond (decide ((64 : Int) ≤ a2)) true (cond (decide (a3 < 0)) true (cond (decide ((1048576 : Int) < a3)) true (cond (!(boolOf (valT F 92 [.int .i64 a4]))) true (decide ((2 : Int) < ((l0.length : Nat) : Int))))))))))
     (some (.bool false))
     (cond ((lf_ref25_Right_4 F a0 a1 a2 a3 a4 l0 100000 0).k == 1)
      (some (.bool false))
      (cond ((lf_ref25_Right_4 F a0 a1 a2 a3 a4 l0 100000 0).k == 2)
       (some (.bool true))
       (none))))
    (none) := by kernel_rfl
set_option maxRecDepth 100000 in
theorem nf_tlb_Fill (F : Tab) (l0 : List AV) (a0 a1 a2 a3 a4 : Int) (l1 : List AV) : fnV (cx F) 6 38 [.agg 67 [.slice 70 l0 false], .agg 69 [.int .u32 a0, .int .i64 a1, .int .i64 a2, .int .i64 a3, .int .i64 a4, .slice 3 l1 false]] =
  (let x0 : List AV := (lf_tlb_keep_api_Trans_3 F l0 ((l0.length : Nat) : Int) l0 a0 a1 a2 a3 a4 l1 100000 [] 0).l.getD 0 [];
   let x1 : Nat := x0.length;
   let x2 : Int := ((x1 : Nat) : Int);
   let x3 : List AV := sub x0 1 x1;
   cond ((lf_tlb_keep_api_Trans_3 F l0 ((l0.length : Nat) : Int) l0 a0 a1 a2 a3 a4 l1 100000 [] 0).k == 1)
    (cond (x2 == 8)
     (cond (decide ((1 : Int) ≤ x2))
      (cond (decide (((x3.length + 1) * 64) ≤ 140737488355328))
       (some (.agg 67 [.slice 70 (x3 ++ [.agg 69 [.int .u32 a0, .int .i64 a1, .int .i64 a2, .int .i64 a3, .int .i64 a4, .slice 3 l1 false]]) false]))
       (none))
      (none))
     (cond (decide (((x1 + 1) * 64) ≤ 140737488355328))
      (some (.agg 67 [.slice 70 (x0 ++ [.agg 69 [.int .u32 a0, .int .i64 a1, .int .i64 a2, .int .i64 a3, .int .i64 a4, .slice 3 l1 false]]) false]))
      (none)))
    (none)) := by kernel_rfl
set_option maxRecDepth 100000 in
theorem nf_tlb_Lookup (F : Tab) (l0 : List AV) (a0 a1 a2 : Int) (b0 : Bool) : fnV (cx F) 6 39 [.agg 67 [.slice 70 l0 false], .int .u32 a0, .int .u32 a1, .int .i64 a2, .bool b0] =
  (let x0 : Int := cond (cond (a2 == 2) (a2 == 2) (a2 == 3)) (34 : Int) (cond (a2 == 4) (8 : Int) 0);
   cond ((lf_tlb_Lookup_11 F a0 a1 (cond b0 (ibits .or .i64 x0 4) x0) l0 ((l0.length : Nat) : Int) l0 100000 0).k == 1)
    (some (.tuple [.int .i64 ((lf_tlb_Lookup_11 F a0 a1 (cond b0 (ibits .or .i64 x0 4) x0) l0 ((l0.length : Nat) : Int) l0 100000 0).i.getD 0 0), .int .i64 ((lf_tlb_Lookup_11 F a0 a1 (cond b0 (ibits .or .i64 x0 4) x0) l0 ((l0.length : Nat) : Int) l0 100000 0).i.getD 1 0), .bool true]))
    (cond ((lf_tlb_Lookup_11 F a0 a1 (cond b0 (ibits .or .i64 x0 4) x0) l0 ((l0.length : Nat) : Int) l0 100000 0).k == 2)
     (some (.tuple [.int .i64 0, .int .i64 0, .bool false]))
     (none))) := by kernel_rfl
set_option maxRecDepth 100000 in
theorem nf_tlb_Valid (F : Tab) (l0 : List AV) : fnV (cx F) 6 40 [.agg 67 [.slice 70 l0 false]] =
  cond (decide ((8 : Int) < ((l0.length : Nat) : Int)))
    (some (.bool false))
    (cond ((lf_tlb_Valid_4 F ((l0.length : Nat) : Int) l0 100000 0).k == 1)
     (some (.bool false))
     (cond ((lf_tlb_Valid_4 F ((l0.length : Nat) : Int) l0 100000 0).k == 2)
      (some (.bool true))
      (none))) := by kernel_rfl
set_option maxRecDepth 100000 in
theorem nf_law25_do (F : Tab) (l0 : List AV) (a0 a1 a2 a3 a4 a5 : Int) (l1 : List AV) (a6 a7 : Int) : fnV (cx F) 6 41 [.agg 67 [.slice 70 l0 false], .agg 78 [.int .u8 a0, .agg 69 [.int .u32 a1, .int .i64 a2, .int .i64 a3, .int .i64 a4, .int .i64 a5, .slice 3 l1 false], .int .i64 a6, .int .i64 a7]] =
  (let x0 : Int := IntKind.i64.wrap (1 + (IntKind.i64.wrap ((IntKind.u64.wrap a7).tmod 600)));
   let x1 : Int := IntKind.i64.wrap ((IntKind.i64.wrap ((IntKind.u64.wrap a6).tmod 8192)).tdiv 128);
   cond ((a0.tmod 4) == 0)
    (cond (okT Pg F 36 [.agg 69 [.int .u32 a1, .int .i64 a2, .int .i64 a3, .int .i64 a4, .int .i64 a5, .slice 3 l1 false]])
     (cond (boolOf (valT F 36 [.agg 69 [.int .u32 a1, .int .i64 a2, .int .i64 a3, .int .i64 a4, .int .i64 a5, .slice 3 l1 false]]))
      (cond (okT Pg F 38 [.agg 67 [.slice 70 l0 false], .agg 69 [.int .u32 a1, .int .i64 a2, .int .i64 a3, .int .i64 a4, .int .i64 a5, .slice 3 l1 false]])
       (cond (okT Pg F 98 [.agg 67 [.slice 70 l0 false], .agg 69 [.int .u32 a1, .int .i64 a2, .int .i64 a3, .int .i64 a4, .int .i64 a5, .slice 3 l1 false]])
        (some (.tuple [.agg 67 [.slice 70 (listOf ((partsOf (valT F 38 [.agg 67 [.slice 70 l0 false], .agg 69 [.int .u32 a1, .int .i64 a2, .int .i64 a3, .int .i64 a4, .int .i64 a5, .slice 3 l1 false]])).getD 0 .dead)) false], .agg 67 [.slice 70 (listOf ((partsOf (valT F 98 [.agg 67 [.slice 70 l0 false], .agg 69 [.int .u32 a1, .int .i64 a2, .int .i64 a3, .int .i64 a4, .int .i64 a5, .slice 3 l1 false]])).getD 0 .dead)) false]]))
        (none))
       (none))
      (some (.tuple [.agg 67 [.slice 70 l0 false], .agg 67 [.slice 70 l0 false]])))
     (none))
    (cond ((a0.tmod 4) == 1)
     (cond (okT Pg F 44 [.agg 67 [.slice 70 l0 false], .int .u32 (IntKind.u32.wrap a6)])
      (cond (okT Pg F 99 [.agg 67 [.slice 70 l0 false], .int .u32 (IntKind.u32.wrap a6)])
       (some (.tuple [.agg 67 [.slice 70 (listOf ((partsOf (valT F 44 [.agg 67 [.slice 70 l0 false], .int .u32 (IntKind.u32.wrap a6)])).getD 0 .dead)) false], .agg 67 [.slice 70 (listOf ((partsOf (valT F 99 [.agg 67 [.slice 70 l0 false], .int .u32 (IntKind.u32.wrap a6)])).getD 0 .dead)) false]]))
       (none))
      (none))
     (cond ((a0.tmod 4) == 2)
      (cond (okT Pg F 45 [.agg 67 [.slice 70 l0 false], .int .i64 (IntKind.i64.wrap ((IntKind.u64.wrap a6).tmod 8192)), .int .i64 x0])
       (cond (okT Pg F 100 [.agg 67 [.slice 70 l0 false], .int .i64 (IntKind.i64.wrap ((IntKind.u64.wrap a6).tmod 8192)), .int .i64 x0])
        (some (.tuple [.agg 67 [.slice 70 (listOf ((partsOf (valT F 45 [.agg 67 [.slice 70 l0 false], .int .i64 (IntKind.i64.wrap ((IntKind.u64.wrap a6).tmod 8192)), .int .i64 x0])).getD 0 .dead)) false], .agg 67 [.slice 70 (listOf ((partsOf (valT F 100 [.agg 67 [.slice 70 l0 false], .int .i64 (IntKind.i64.wrap ((IntKind.u64.wrap a6).tmod 8192)), .int .i64 x0])).getD 0 .dead)) false]]))
        (none))
       (none))
      (cond (okT Pg F 46 [.agg 67 [.slice 70 l0 false], .int .i64 x1])
       (cond (okT Pg F 101 [.agg 67 [.slice 70 l0 false], .int .i64 x1])
        (some (.tuple [.agg 67 [.slice 70 (listOf ((partsOf (valT F 46 [.agg 67 [.slice 70 l0 false], .int .i64 x1])).getD 0 .dead)) false], .agg 67 [.slice 70 (listOf ((partsOf (valT F 101 [.agg 67 [.slice 70 l0 false], .int .i64 x1])).getD 0 .dead)) false]]))
        (none))
       (none))))) := by kernel_rfl
set_option maxRecDepth 100000 in
theorem nf_ref25_Lookup (F : Tab) (l0 : List AV) (a0 a1 a2 : Int) (b0 : Bool) : fnV (cx F) 6 42 [.agg 67 [.slice 70 l0 false], .int .u32 a0, .int .u32 a1, .int .i64 a2, .bool b0] =
  (let x0 : Int := intOf (valT F 91 [.agg 67 [.slice 70 l0 false], .int .u32 a0, .int .i64 (IntKind.i64.wrap (IntKind.u32.wrap (a1.tdiv 128)))]);
   let x1 : List AV := partsOf (l0.getD x0.toNat .dead);
   let x2 : Int := intOf (x1.getD 4 .dead);
   let x3 : Bool := !(boolOf (valT F 102 [.int .i64 x2, .int .i64 2]));
   let x4 : Bool := !(boolOf (valT F 102 [.int .i64 x2, .int .i64 32]));
   let x5 : Bool := !(boolOf (valT F 102 [.int .i64 x2, .int .i64 8]));
   let x6 : Bool := cond b0 (!(boolOf (valT F 102 [.int .i64 x2, .int .i64 4]))) false;
   let x7 : Bool := condB b0 (cond (okT Pg F 102 [.int .i64 x2, .int .i64 4]) true false) true;
   let x8 : Bool := cond (a2 == 4) (cond x5 true x6) x6;
   let x9 : Bool := condB (a2 == 4) (cond (okT Pg F 102 [.int .i64 x2, .int .i64 8]) (condB x5 true x7) false) x7;
   cond (okT Pg F 91 [.agg 67 [.slice 70 l0 false], .int .u32 a0, .int .i64 (IntKind.i64.wrap (IntKind.u32.wrap (a1.tdiv 128)))])
    (cond (decide (x0 < 0))
     (some (.agg 82 [.int .i64 0, .int .i64 0, .bool false]))
     (cond (inB x0 l0.length)
      (cond (condB (cond (a2 == 2) true (a2 == 3)) (cond (okT Pg F 102 [.int .i64 x2, .int .i64 2]) (condB x3 true (cond (okT Pg F 102 [.int .i64 x2, .int .i64 32]) (condB x4 true x9) false)) false) x9)
       (cond (cond (cond (a2 == 2) true (a2 == 3)) (cond x3 true (cond x4 true x8)) x8)
        (some (.agg 82 [.int .i64 0, .int .i64 0, .bool false]))
        (some (.agg 82 [.int .i64 (IntKind.i64.wrap ((IntKind.i64.wrap (128 * (intOf (x1.getD 3 .dead)))) + (IntKind.i64.wrap (a1.tmod 128)))), .int .i64 (IntKind.i64.wrap ((IntKind.i64.wrap (128 * (intOf (x1.getD 2 .dead)))) + (IntKind.i64.wrap (a1.tmod 128)))), .bool true])))
       (none))
      (none)))
    (none)) := by kernel_rfl
set_option maxRecDepth 100000 in
theorem nf_ref25_Same (F : Tab) (l0 l1 : List AV) : fnV (cx F) 6 43 [.agg 67 [.slice 70 l0 false], .agg 67 [.slice 70 l1 false]] =
  cond (((l0.length : Nat) : Int) != ((l1.length : Nat) : Int))
    (some (.bool false))
    (cond ((lf_ref25_Same_4 F l0 l1 100000 0).k == 1)
     (some (.bool false))
     (cond ((lf_ref25_Same_4 F l0 l1 100000 0).k == 2)
      (some (.bool true))
      (none))) := by kernel_rfl
set_option maxRecDepth 100000 in
theorem nf_tlb_Flush (F : Tab) (l0 : List AV) (a0 : Int) : fnV (cx F) 6 44 [.agg 67 [.slice 70 l0 false], .int .u32 a0] =
  cond ((lf_tlb_keep_api_Trans_3b F l0 ((l0.length : Nat) : Int) l0 a0 100000 [] 0).k == 1)
    (some (.agg 67 [.slice 70 ((lf_tlb_keep_api_Trans_3b F l0 ((l0.length : Nat) : Int) l0 a0 100000 [] 0).l.getD 0 []) false]))
    (none) := by kernel_rfl
set_option maxRecDepth 100000 in
theorem nf_tlb_Touch (F : Tab) (l0 : List AV) (a0 a1 : Int) : fnV (cx F) 6 45 [.agg 67 [.slice 70 l0 false], .int .i64 a0, .int .i64 a1] =
  cond ((lf_tlb_keep_api_Trans_3c F l0 ((l0.length : Nat) : Int) l0 a0 a1 100000 [] 0).k == 1)
    (some (.agg 67 [.slice 70 ((lf_tlb_keep_api_Trans_3c F l0 ((l0.length : Nat) : Int) l0 a0 a1 100000 [] 0).l.getD 0 []) false]))
    (none) := by kernel_rfl
set_option maxRecDepth 100000 in
theorem nf_tlb_Evict (F : Tab) (l0 : List AV) (a0 : Int) : fnV (cx F) 6 46 [.agg 67 [.slice 70 l0 false], .int .i64 a0] =
  cond ((lf_tlb_keep_api_Trans_3d F l0 ((l0.length : Nat) : Int) l0 a0 100000 [] 0).k == 1)
    (some (.agg 67 [.slice 70 ((lf_tlb_keep_api_Trans_3d F l0 ((l0.length : Nat) : Int) l0 a0 100000 [] 0).l.getD 0 []) false]))
    (none) := by kernel_rfl
set_option maxRecDepth 100000 in
theorem nf_ref25_Within (F : Tab) (l0 l1 : List AV) : fnV (cx F) 6 47 [.agg 67 [.slice 70 l0 false], .agg 67 [.slice 70 l1 false]] =
  cond ((lf_ref25_Within_3 F l0 l1 100000 0 0).k == 1)
    (some (.bool (((lf_ref25_Within_3 F l0 l1 100000 0 0).i.getD 0 0) == ((l0.length : Nat) : Int))))
    (none) := by kernel_rfl
set_option maxRecDepth 100000 in
theorem nf_ref06_Store (F : Tab) (l0 : List AV) (a0 a1 a2 : Int) : fnV (cx F) 6 57 [.agg 23 [.slice 118 l0 false], .agg 41 [.int .i64 a0, .int .i64 a1, .int .u32 a2]] =
  cond (okT Pg F 115 [.agg 23 [.slice 118 l0 false], .int .i64 a0, .int .i64 a1])
    (cond (!(boolOf (valT F 115 [.agg 23 [.slice 118 l0 false], .int .i64 a0, .int .i64 a1])))
     (some (.agg 128 [.agg 23 [.slice 118 l0 false], .bool false]))
     (cond (decide (((0 + l0.length) * 128) ≤ 140737488355328))
      (cond (decide ((0 : Nat) < l0.length))
       (cond ((lf_ref06_Store_6 F l0 a0 a1 a2 l0 l0.length l0.length 100000 0 l0).k == 1)
        (some (.agg 128 [.agg 23 [.slice 118 (sub ((lf_ref06_Store_6 F l0 a0 a1 a2 l0 l0.length l0.length 100000 0 l0).l.getD 0 []) 0 (0 + l0.length)) false], .bool true]))
        (none))
       (none))
      (none)))
    (none) := by kernel_rfl
set_option maxRecDepth 100000 in
theorem nf_memory_New (F : Tab) (a0 : Int) : fnV (cx F) 6 62 [.int .i64 a0] =
  cond (cond (decide (a0 < 1)) true (decide ((64 : Int) < a0)))
    (some (.tuple [.agg 23 [.slice 118 [] false], .int .i64 1]))
    (cond (((decide ((0 : Int) ≤ a0)) && (decide ((a0 * 128) ≤ 140737488355328))) && (decide (a0 ≤ 140737488355328)))
     (some (.tuple [.agg 23 [.slice 118 (sub (List.replicate a0.toNat (.agg 117 [.int .u8 0, .int .u8 0, .int .u8 0, .int .u8 0, .int .u8 0, .int .u8 0, .int .u8 0, .int .u8 0, .int .u8 0, .int .u8 0, .int .u8 0, .int .u8 0, .int .u8 0, .int .u8 0, .int .u8 0, .int .u8 0, .int .u8 0, .int .u8 0, .int .u8 0, .int .u8 0, .int .u8 0, .int .u8 0, .int .u8 0, .int .u8 0, .int .u8 0, .int .u8 0, .int .u8 0, .int .u8 0, .int .u8 0, .int .u8 0, .int .u8 0, .int .u8 0, .int .u8 0, .int .u8 0, .int .u8 0, .int .u8 0, .int .u8 0, .int .u8 0, .int .u8 0, .int .u8 0, .int .u8 0, .int .u8 0, .int .u8 0, .int .u8 0, .int .u8 0, .int .u8 0, .int .u8 0, .int .u8 0, .int .u8 0, .int .u8 0, .int .u8 0, .int .u8 0, .int .u8 0, .int .u8 0, .int .u8 0, .int .u8 0, .int .u8 0, .int .u8 0, .int .u8 0, .int .u8 0, .int .u8 0, .int .u8 0, .int .u8 0, .int .u8 0, .int .u8 0, .int .u8 0, .int .u8 0, .int .u8 0, .int .u8 0, .int .u8 0, .int .u8 0, .int .u8 0, .int .u8 0, .int .u8 0, .int .u8 0, .int .u8 0, .int .u8 0, .int .u8 0, .int .u8 0, .int .u8 0, .int .u8 0, .int .u8 0, .int .u8 0, .int .u8 0, .int .u8 0, .int .u8 0, .int .u8 0, .int .u8 0, .int .u8 0, .int .u8 0, .int .u8 0, .int .u8 0, .int .u8 0, .int .u8 0, .int .u8 0, .int .u8 0, .int .u8 0, .int .u8 0, .int .u8 0, .int .u8 0, .int .u8 0, .int .u8 0, .int .u8 0, .int .u8 0, .int .u8 0, .int .u8 0, .int .u8 0, .int .u8 0, .int .u8 0, .int .u8 0, .int .u8 0, .int .u8 0, .int .u8 0, .int .u8 0, .int .u8 0, .int .u8 0, .int .u8 0, .int .u8 0, .int .u8 0, .int .u8 0, .int .u8 0, .int .u8 0, .int .u8 0, .int .u8 0, .int .u8 0, .int .u8 0, .int .u8 0, .int .u8 0])) 0 (0 + a0.toNat)) false], .int .i64 0]))
     (none)) := by kernel_rfl
set_option maxRecDepth 100000 in
theorem nf_table_paged (F : Tab) (l0 : List AV) (a0 : Int) : fnV (cx F) 6 65 [.agg 23 [.slice 118 l0 false], .int .u32 a0] =
  cond ((a0.tmod 128) == 0)
    (some (.bool (decide ((IntKind.i64.wrap a0) < (IntKind.i64.wrap (((l0.length : Nat) : Int) * 128))))))
    (some (.bool false)) := by kernel_rfl
set_option maxRecDepth 100000 in
theorem nf_table_load (F : Tab) (l0 : List AV) (a0 : Int) : fnV (cx F) 6 66 [.agg 23 [.slice 118 l0 false], .int .u32 a0] =
  cond (okT Pg F 23 [.agg 23 [.slice 118 l0 false], .int .i64 (IntKind.i64.wrap a0), .int .i64 4])
    (some (.int .u32 (intOf ((tupOf (valT F 23 [.agg 23 [.slice 118 l0 false], .int .i64 (IntKind.i64.wrap a0), .int .i64 4])).getD 0 .dead))))
    (none) := by kernel_rfl
set_option maxRecDepth 100000 in
theorem nf_table_entry_has (F : Tab) (a0 a1 : Int) : fnV (cx F) 6 67 [.int .u32 a0, .int .u32 a1] =
  some (.bool ((ibits .and .u32 a0 a1) == a1)) := by kernel_rfl
set_option maxRecDepth 100000 in
theorem nf_table_entry_right (F : Tab) (a0 : Int) (l0 : List AV) : fnV (cx F) 6 68 [.int .u32 a0, .agg 23 [.slice 118 l0 false]] =
  (let x0 : Int := intOf (valT F 69 [.int .u32 a0]);
   cond (okT Pg F 67 [.int .u32 a0, .int .u32 64])
    (cond (boolOf (valT F 67 [.int .u32 a0, .int .u32 64]))
     (cond (okT Pg F 69 [.int .u32 a0])
      (some (.bool ((x0.tmod 4096) == 0)))
      (none))
     (cond (condB ((ibits .and .u32 a0 62) == 0) (cond (okT Pg F 69 [.int .u32 a0]) (cond (okT Pg F 65 [.agg 23 [.slice 118 l0 false], .int .u32 x0]) true false) false) true)
      (some (.bool (cond ((ibits .and .u32 a0 62) == 0) (boolOf (valT F 65 [.agg 23 [.slice 118 l0 false], .int .u32 x0])) false)))
      (none)))
    (none)) := by kernel_rfl
set_option maxRecDepth 100000 in
theorem nf_table_entry_page (F : Tab) (a0 : Int) : fnV (cx F) 6 69 [.int .u32 a0] =
  some (.int .u32 (ibits .andNot .u32 a0 127)) := by kernel_rfl
set_option maxRecDepth 100000 in
theorem nf_ref10_Cause (F : Tab) (a0 : Int) : fnV (cx F) 6 70 [.int .i64 a0] =
  cond (a0 == 1)
    (some (.int .i64 5))
    (cond (a0 == 4)
     (some (.int .i64 4))
     (some (.int .i64 6))) := by kernel_rfl
set_option maxRecDepth 100000 in
theorem nf_ref06_Size (F : Tab) (l0 : List AV) : fnV (cx F) 6 71 [.agg 23 [.slice 118 l0 false]] =
  some (.int .i64 (IntKind.i64.wrap (((l0.length : Nat) : Int) * 128))) := by kernel_rfl
set_option maxRecDepth 100000 in
theorem nf_ref10_page (F : Tab) (l0 : List AV) (a0 : Int) : fnV (cx F) 6 72 [.agg 23 [.slice 118 l0 false], .int .i64 a0] =
  cond (condB (decide ((0 : Int) ≤ a0)) (condB ((a0.tmod 128) == 0) (cond (okT Pg F 71 [.agg 23 [.slice 118 l0 false]]) true false) true) true)
    (some (.bool (cond (decide ((0 : Int) ≤ a0)) (cond ((a0.tmod 128) == 0) (decide (a0 < (intOf (valT F 71 [.agg 23 [.slice 118 l0 false]])))) false) false)))
    (none) := by kernel_rfl
set_option maxRecDepth 100000 in
theorem nf_ref10_find (F : Tab) (l0 : List AV) (a0 a1 : Int) : fnV (cx F) 6 73 [.agg 23 [.slice 118 l0 false], .int .i64 a0, .int .i64 a1] =
  (let x0 : List AV := partsOf (valT F 84 [.agg 23 [.slice 118 l0 false], .int .i64 a0, .int .i64 a1]);
   let x1 : Int := intOf (x0.getD 0 .dead);
   let x2 : Int := intOf (x0.getD 1 .dead);
   let x3 : Bool := boolOf (x0.getD 2 .dead);
   let x4 : Bool := boolOf (x0.getD 3 .dead);
   let x5 : Bool := boolOf (x0.getD 4 .dead);
   let x6 : Int := intOf (valT F 85 [.agg 165 [.int .i64 x1, .int .i64 x2, .bool x3, .bool x4, .bool x5], .int .i64 a1]);
   let x7 : Int := intOf (valT F 88 [.agg 23 [.slice 118 l0 false], .int .i64 x6]);
   let x8 : Int := intOf (valT F 90 [.int .i64 x7]);
   let x9 : Bool := boolOf (valT F 74 [.int .i64 x7, .int .i64 1]);
   cond (okT Pg F 84 [.agg 23 [.slice 118 l0 false], .int .i64 a0, .int .i64 a1])
    (cond (cond (!x3) true (!x4))
     (some (.agg 150 [.int .i64 0, .int .i64 0, .int .i64 0, .slice 3 [.int .i64 x1] false, .bool false]))
     (cond x5
      (cond (cond (okT Pg F 90 [.int .i64 x2]) true false)
       (some (.agg 150 [.int .i64 x1, .int .i64 x2, .int .i64 (IntKind.i64.wrap ((intOf (valT F 90 [.int .i64 x2])) + (IntKind.i64.wrap (128 * ((IntKind.i64.wrap (a1.tdiv 128)).tmod 32))))), .slice 3 [.int .i64 x1] false, .bool true]))
       (none))
      (cond (okT Pg F 85 [.agg 165 [.int .i64 x1, .int .i64 x2, .bool x3, .bool x4, .bool x5], .int .i64 a1])
       (cond (okT Pg F 88 [.agg 23 [.slice 118 l0 false], .int .i64 x6])
        (cond (cond (okT Pg F 90 [.int .i64 x7]) (cond (okT Pg F 74 [.int .i64 x7, .int .i64 1]) (condB x9 (cond (okT Pg F 74 [.int .i64 x7, .int .i64 64]) true false) true) false) false)
         (some (.agg 150 [.int .i64 (cond x9 x6 x6), .int .i64 (cond x9 x7 x7), .int .i64 (cond x9 x8 x8), .slice 3 (cond x9 [.int .i64 x1, .int .i64 x6] [.int .i64 x1, .int .i64 x6]) false, .bool (cond x9 (!(boolOf (valT F 74 [.int .i64 x7, .int .i64 64]))) false)]))
         (none))
        (none))
       (none))))
    (none)) := by kernel_rfl
set_option maxRecDepth 100000 in
theorem nf_ref10_has (F : Tab) (a0 a1 : Int) : fnV (cx F) 6 74 [.int .i64 a0, .int .i64 a1] =
  cond (!(a1 == 0))
    (some (.bool (((IntKind.i64.wrap (a0.tdiv a1)).tmod 2) == 1)))
    (none) := by kernel_rfl
set_option maxRecDepth 100000 in
theorem nf_ref06_SameInts (F : Tab) (l0 l1 : List AV) : fnV (cx F) 6 75 [.slice 3 l0 false, .slice 3 l1 false] =
  cond (((l0.length : Nat) : Int) != ((l1.length : Nat) : Int))
    (some (.bool false))
    (cond ((lf_ref06_SameInts_4 F l0 l1 100000 0).k == 1)
     (some (.bool false))
     (cond ((lf_ref06_SameInts_4 F l0 l1 100000 0).k == 2)
      (some (.bool true))
      (none))) := by kernel_rfl
end Go.Proofs.Ytcknhfnbdgleiaa
