/- What the functions return, in terms of what they call. (Printed by a program of mine, gen.py.) -/
import Derived.Test.YtcknhfnbdgleiaaTaC
set_option linter.unusedVariables false
set_option linter.unusedSimpArgs false
namespace Go.Proofs.Ytcknhfnbdgleiaa
open Go.AE
set_option maxRecDepth 100000 in
theorem nf_law10_TableWalksAsSpecified (F : Tab) (l0 : List AV) (a0 a1 a2 : Int) (b0 : Bool) : fnV (cx F) 6 3 [.agg 23 [.slice 118 l0 false], .int .u32 a0, .int .u32 a1, .int .i64 a2, .bool b0] =
  (let x0 : Bool := !(boolOf (valT F 16 [.agg 23 [.slice 118 l0 false]]));
   let x1 : List AV := tupOf (valT F 19 [.agg 23 [.slice 118 l0 false], .int .u32 a0, .int .u32 a1, .int .i64 a2, .bool b0]);
   let x2 : List AV := partsOf (x1.getD 0 .dead);
   let x3 : List AV := partsOf (valT F 20 [.agg 23 [.slice 118 l0 false], .int .u32 a0, .int .u32 a1, .int .i64 a2, .bool b0]);
   let x4 : List AV := partsOf (x3.getD 0 .dead);
   let x5 : Bool := (intOf (x1.getD 1 .dead)) == (intOf (x3.getD 1 .dead));
   cond (cond (okT Pg F 16 [.agg 23 [.slice 118 l0 false]]) (condB x0 true (cond (okT Pg F 17 [.int .i64 a2]) true false)) false)
    (cond (cond x0 true (!(boolOf (valT F 17 [.int .i64 a2]))))
     (cond (okT Pg F 18 [])
      (some (.bool (boolOf (valT F 18 []))))
      (none))
     (cond (okT Pg F 19 [.agg 23 [.slice 118 l0 false], .int .u32 a0, .int .u32 a1, .int .i64 a2, .bool b0])
      (cond (okT Pg F 20 [.agg 23 [.slice 118 l0 false], .int .u32 a0, .int .u32 a1, .int .i64 a2, .bool b0])
       (cond (cond (okT Pg F 18 []) (condB (boolOf (valT F 18 [])) (condB x5 (cond (okT Pg F 21 [.agg 31 [.int .i64 (intOf (x2.getD 0 .dead)), .int .i64 (intOf (x2.getD 1 .dead)), .slice 42 (listOf (x2.getD 2 .dead)) false, .slice 3 (listOf (x2.getD 3 .dead)) false], .agg 31 [.int .i64 (intOf (x4.getD 0 .dead)), .int .i64 (intOf (x4.getD 1 .dead)), .slice 42 (listOf (x4.getD 2 .dead)) false, .slice 3 (listOf (x4.getD 3 .dead)) false]]) true false) true) true) false)
        (some (.bool (cond (boolOf (valT F 18 [])) (cond x5 (boolOf (valT F 21 [.agg 31 [.int .i64 (intOf (x2.getD 0 .dead)), .int .i64 (intOf (x2.getD 1 .dead)), .slice 42 (listOf (x2.getD 2 .dead)) false, .slice 3 (listOf (x2.getD 3 .dead)) false], .agg 31 [.int .i64 (intOf (x4.getD 0 .dead)), .int .i64 (intOf (x4.getD 1 .dead)), .slice 42 (listOf (x4.getD 2 .dead)) false, .slice 3 (listOf (x4.getD 3 .dead)) false]])) false) false)))
        (none))
       (none))
      (none)))
    (none)) := by kernel_rfl
set_option maxRecDepth 100000 in
theorem nf_law10_TableRightsAreOrdered (F : Tab) (l0 : List AV) (a0 a1 : Int) : fnV (cx F) 6 5 [.agg 23 [.slice 118 l0 false], .int .u32 a0, .int .u32 a1] =
  cond (okT Pg F 16 [.agg 23 [.slice 118 l0 false]])
    (cond (!(boolOf (valT F 16 [.agg 23 [.slice 118 l0 false]])))
     (cond (okT Pg F 18 [])
      (some (.bool (boolOf (valT F 18 []))))
      (none))
     (cond ((lf_law10_TableRightsAreOrdered_4 F a0 a1 l0 100000 1).k == 1)
      (some (.bool false))
      (cond ((lf_law10_TableRightsAreOrdered_4 F a0 a1 l0 100000 1).k == 2)
       (cond (okT Pg F 19 [.agg 23 [.slice 118 l0 false], .int .u32 a0, .int .u32 a1, .int .i64 2, .bool true])
        (cond (okT Pg F 19 [.agg 23 [.slice 118 l0 false], .int .u32 a0, .int .u32 a1, .int .i64 3, .bool true])
         (cond (cond (okT Pg F 18 []) true false)
          (some (.bool (cond (boolOf (valT F 18 [])) ((intOf ((tupOf (valT F 19 [.agg 23 [.slice 118 l0 false], .int .u32 a0, .int .u32 a1, .int .i64 2, .bool true])).getD 1 .dead)) == (intOf ((tupOf (valT F 19 [.agg 23 [.slice 118 l0 false], .int .u32 a0, .int .u32 a1, .int .i64 3, .bool true])).getD 1 .dead))) false)))
          (none))
         (none))
        (none))
       (none))))
    (none) := by kernel_rfl
set_option maxRecDepth 100000 in
theorem nf_law10_TableListIsTranslation (F : Tab) (l0 : List AV) (a0 a1 : Int) : fnV (cx F) 6 6 [.agg 23 [.slice 118 l0 false], .int .u32 a0, .int .u32 a1] =
  (let x0 : List AV := tupOf (valT F 19 [.agg 23 [.slice 118 l0 false], .int .u32 a0, .int .u32 a1, .int .i64 1, .bool false]);
   let x1 : List AV := partsOf (x0.getD 0 .dead);
   let x2 : Int := intOf (x1.getD 0 .dead);
   let x3 : Int := intOf (x0.getD 1 .dead);
   let x4 : List AV := listOf (valT F 25 [.agg 23 [.slice 118 l0 false], .int .u32 a0]);
   let x5 : Int := (lf_law10_TableListIsTranslation_7 F a1 x3 x4 ((x4.length : Nat) : Int) l0 x2 (intOf (x1.getD 1 .dead)) (listOf (x1.getD 2 .dead)) (listOf (x1.getD 3 .dead)) 100000 (-1) (-1) 0).i.getD 0 0;
   let x6 : Int := cond (decide ((IntKind.i64.wrap (((l0.length : Nat) : Int) * 128)) ≤ x5)) (-1 : Int) x5;
   cond (cond (okT Pg F 16 [.agg 23 [.slice 118 l0 false]]) true false)
    (cond (cond (!(boolOf (valT F 16 [.agg 23 [.slice 118 l0 false]]))) true (a0 == 0))
     (cond (okT Pg F 18 [])
      (some (.bool (boolOf (valT F 18 []))))
      (none))
     (cond (okT Pg F 19 [.agg 23 [.slice 118 l0 false], .int .u32 a0, .int .u32 a1, .int .i64 1, .bool false])
      (cond (okT Pg F 25 [.agg 23 [.slice 118 l0 false], .int .u32 a0])
       (cond ((lf_law10_TableListIsTranslation_7 F a1 x3 x4 ((x4.length : Nat) : Int) l0 x2 (intOf (x1.getD 1 .dead)) (listOf (x1.getD 2 .dead)) (listOf (x1.getD 3 .dead)) 100000 (-1) (-1) 0).k == 1)
        (some (.bool false))
        (cond ((lf_law10_TableListIsTranslation_7 F a1 x3 x4 ((x4.length : Nat) : Int) l0 x2 (intOf (x1.getD 1 .dead)) (listOf (x1.getD 2 .dead)) (listOf (x1.getD 3 .dead)) 100000 (-1) (-1) 0).k == 2)
         (cond (cond (okT Pg F 18 []) true false)
          (some (.bool (cond (boolOf (valT F 18 [])) (cond ((x3 == 0) == (decide ((0 : Int) ≤ x6))) (cond (x3 != 0) true (x2 == x6)) false) false)))
          (none))
         (none)))
       (none))
      (none)))
    (none)) := by kernel_rfl
set_option maxRecDepth 100000 in
theorem nf_law10_TableBuildsAsSpecified (F : Tab) (l0 : List AV) (a0 a1 a2 a3 a4 : Int) : fnV (cx F) 6 7 [.agg 23 [.slice 118 l0 false], .int .u32 a0, .int .u32 a1, .int .u32 a2, .int .i64 a3, .int .u32 a4] =
  (let x0 : List AV := tupOf (valT F 26 [.agg 23 [.slice 118 l0 false], .int .u32 a0, .int .u32 a1, .int .u32 a2, .int .i64 a3, .int .u32 a4]);
   let x1 : List AV := tupOf (valT F 27 [.agg 23 [.slice 118 l0 false], .int .u32 a0, .int .u32 a1, .int .u32 a2, .int .i64 a3]);
   let x2 : List AV := tupOf (valT F 28 [.agg 23 [.slice 118 l0 false], .int .u32 a0, .int .u32 a1]);
   let x3 : List AV := partsOf (valT F 29 [.agg 23 [.slice 118 l0 false], .int .u32 a0, .int .u32 a1, .int .u32 a2, .int .i64 a3, .int .u32 a4]);
   let x4 : List AV := partsOf (valT F 30 [.agg 23 [.slice 118 l0 false], .int .u32 a0, .int .u32 a1, .int .u32 a2, .int .i64 a3]);
   let x5 : List AV := partsOf (valT F 31 [.agg 23 [.slice 118 l0 false], .int .u32 a0, .int .u32 a1]);
   let x6 : Bool := (intOf (x0.getD 1 .dead)) != (intOf (x3.getD 1 .dead));
   let x7 : Bool := (intOf (x1.getD 1 .dead)) != (intOf (x4.getD 1 .dead));
   let x8 : Bool := (intOf (x2.getD 1 .dead)) != (intOf (x5.getD 1 .dead));
   let x9 : Bool := !(boolOf (valT F 32 [.agg 23 [.slice 118 (listOf ((partsOf (x0.getD 0 .dead)).getD 0 .dead)) false], .agg 23 [.slice 118 (listOf ((partsOf (x3.getD 0 .dead)).getD 0 .dead)) false]]));
   let x10 : Bool := !(boolOf (valT F 32 [.agg 23 [.slice 118 (listOf ((partsOf (x1.getD 0 .dead)).getD 0 .dead)) false], .agg 23 [.slice 118 (listOf ((partsOf (x4.getD 0 .dead)).getD 0 .dead)) false]]));
   cond (okT Pg F 16 [.agg 23 [.slice 118 l0 false]])
    (cond (!(boolOf (valT F 16 [.agg 23 [.slice 118 l0 false]])))
     (cond (okT Pg F 18 [])
      (some (.bool (boolOf (valT F 18 []))))
      (none))
     (cond (okT Pg F 26 [.agg 23 [.slice 118 l0 false], .int .u32 a0, .int .u32 a1, .int .u32 a2, .int .i64 a3, .int .u32 a4])
      (cond (okT Pg F 27 [.agg 23 [.slice 118 l0 false], .int .u32 a0, .int .u32 a1, .int .u32 a2, .int .i64 a3])
       (cond (okT Pg F 28 [.agg 23 [.slice 118 l0 false], .int .u32 a0, .int .u32 a1])
        (cond (okT Pg F 29 [.agg 23 [.slice 118 l0 false], .int .u32 a0, .int .u32 a1, .int .u32 a2, .int .i64 a3, .int .u32 a4])
         (cond (okT Pg F 30 [.agg 23 [.slice 118 l0 false], .int .u32 a0, .int .u32 a1, .int .u32 a2, .int .i64 a3])
          (cond (okT Pg F 31 [.agg 23 [.slice 118 l0 false], .int .u32 a0, .int .u32 a1])
           (cond (condB x6 true (condB x7 true (condB x8 true (cond (okT Pg F 32 [.agg 23 [.slice 118 (listOf ((partsOf (x0.getD 0 .dead)).getD 0 .dead)) false], .agg 23 [.slice 118 (listOf ((partsOf (x3.getD 0 .dead)).getD 0 .dead)) false]]) (condB x9 true (cond (okT Pg F 32 [.agg 23 [.slice 118 (listOf ((partsOf (x1.getD 0 .dead)).getD 0 .dead)) false], .agg 23 [.slice 118 (listOf ((partsOf (x4.getD 0 .dead)).getD 0 .dead)) false]]) (condB x10 true (cond (okT Pg F 32 [.agg 23 [.slice 118 (listOf ((partsOf (x2.getD 0 .dead)).getD 0 .dead)) false], .agg 23 [.slice 118 (listOf ((partsOf (x5.getD 0 .dead)).getD 0 .dead)) false]]) true false)) false)) false))))
            (cond (cond x6 true (cond x7 true (cond x8 true (cond x9 true (cond x10 true (!(boolOf (valT F 32 [.agg 23 [.slice 118 (listOf ((partsOf (x2.getD 0 .dead)).getD 0 .dead)) false], .agg 23 [.slice 118 (listOf ((partsOf (x5.getD 0 .dead)).getD 0 .dead)) false]]))))))))
             (some (.bool false))
             (cond (cond (okT Pg F 18 []) (condB (boolOf (valT F 18 [])) (cond (okT Pg F 25 [.agg 23 [.slice 118 l0 false], .int .u32 a0]) (cond (okT Pg F 34 [.agg 23 [.slice 118 l0 false], .int .u32 a0]) (cond (okT Pg F 33 [.slice 52 (listOf (valT F 25 [.agg 23 [.slice 118 l0 false], .int .u32 a0])) false, .slice 52 (listOf (valT F 34 [.agg 23 [.slice 118 l0 false], .int .u32 a0])) false]) true false) false) false) true) false)
              (some (.bool (cond (boolOf (valT F 18 [])) (boolOf (valT F 33 [.slice 52 (listOf (valT F 25 [.agg 23 [.slice 118 l0 false], .int .u32 a0])) false, .slice 52 (listOf (valT F 34 [.agg 23 [.slice 118 l0 false], .int .u32 a0])) false])) false)))
              (none)))
            (none))
           (none))
          (none))
         (none))
        (none))
       (none))
      (none)))
    (none)) := by kernel_rfl
set_option maxRecDepth 100000 in
theorem nf_ref06_Valid (F : Tab) (l0 : List AV) : fnV (cx F) 6 16 [.agg 23 [.slice 118 l0 false]] =
  some (.bool (cond (decide ((1 : Int) ≤ ((l0.length : Nat) : Int))) (decide (((l0.length : Nat) : Int) ≤ 64)) false)) := by kernel_rfl
set_option maxRecDepth 100000 in
theorem nf_ref10_Access (F : Tab) (a0 : Int) : fnV (cx F) 6 17 [.int .i64 a0] =
  some (.bool (cond (decide ((1 : Int) ≤ a0)) (decide (a0 ≤ 4)) false)) := by kernel_rfl
set_option maxRecDepth 100000 in
theorem nf_law10_sanity (F : Tab)  : fnV (cx F) 6 18 [] =
  (let x0 : List AV := tupOf (valT F 26 [.agg 23 [.slice 118 (listOf ((partsOf ((tupOf (valT F 62 [.int .i64 64])).getD 0 .dead)).getD 0 .dead)) false], .int .u32 128, .int .u32 4224, .int .u32 256, .int .i64 2, .int .u32 384]);
   let x1 : List AV := tupOf (valT F 27 [.agg 23 [.slice 118 (listOf ((partsOf (x0.getD 0 .dead)).getD 0 .dead)) false], .int .u32 128, .int .u32 8192, .int .u32 4096, .int .i64 8]);
   let x2 : List AV := listOf ((partsOf (x1.getD 0 .dead)).getD 0 .dead);
   let x3 : List AV := tupOf (valT F 19 [.agg 23 [.slice 118 x2 false], .int .u32 128, .int .u32 4230, .int .i64 2, .bool false]);
   let x4 : List AV := partsOf (x3.getD 0 .dead);
   let x5 : List AV := tupOf (valT F 19 [.agg 23 [.slice 118 x2 false], .int .u32 128, .int .u32 8322, .int .i64 4, .bool false]);
   let x6 : List AV := partsOf (x5.getD 0 .dead);
   let x7 : List AV := tupOf (valT F 19 [.agg 23 [.slice 118 x2 false], .int .u32 0, .int .u32 100, .int .i64 1, .bool true]);
   let x8 : List AV := partsOf (x7.getD 0 .dead);
   let x9 : Bool := (intOf ((tupOf (valT F 23 [.agg 23 [.slice 118 x2 false], .int .i64 132, .int .i64 4])).getD 0 .dead)) != 385;
   let x10 : Bool := (intOf ((tupOf (valT F 23 [.agg 23 [.slice 118 x2 false], .int .i64 388, .int .i64 4])).getD 0 .dead)) != 259;
   let x11 : Bool := (intOf (x3.getD 1 .dead)) != 0;
   cond (okT Pg F 62 [.int .i64 64])
    (cond (okT Pg F 26 [.agg 23 [.slice 118 (listOf ((partsOf ((tupOf (valT F 62 [.int .i64 64])).getD 0 .dead)).getD 0 .dead)) false], .int .u32 128, .int .u32 4224, .int .u32 256, .int .i64 2, .int .u32 384])
     (cond (okT Pg F 27 [.agg 23 [.slice 118 (listOf ((partsOf (x0.getD 0 .dead)).getD 0 .dead)) false], .int .u32 128, .int .u32 8192, .int .u32 4096, .int .i64 8])
      (cond (cond ((intOf ((tupOf (valT F 62 [.int .i64 64])).getD 1 .dead)) != 0) true (cond ((intOf (x0.getD 1 .dead)) != 0) true ((intOf (x1.getD 1 .dead)) != 0)))
       (some (.bool false))
       (cond (okT Pg F 23 [.agg 23 [.slice 118 x2 false], .int .i64 132, .int .i64 4])
        (cond (okT Pg F 23 [.agg 23 [.slice 118 x2 false], .int .i64 388, .int .i64 4])
         (cond (okT Pg F 19 [.agg 23 [.slice 118 x2 false], .int .u32 128, .int .u32 4230, .int .i64 2, .bool false])
          (cond (okT Pg F 19 [.agg 23 [.slice 118 x2 false], .int .u32 128, .int .u32 4230, .int .i64 1, .bool true])
           (cond (okT Pg F 19 [.agg 23 [.slice 118 x2 false], .int .u32 128, .int .u32 4230, .int .i64 4, .bool false])
            (cond (okT Pg F 19 [.agg 23 [.slice 118 x2 false], .int .u32 128, .int .u32 8322, .int .i64 4, .bool false])
             (cond (okT Pg F 19 [.agg 23 [.slice 118 x2 false], .int .u32 0, .int .u32 100, .int .i64 1, .bool true])
              (cond (okT Pg F 19 [.agg 23 [.slice 118 x2 false], .int .u32 0, .int .u32 8192, .int .i64 1, .bool false])
               (cond (okT Pg F 25 [.agg 23 [.slice 118 x2 false], .int .u32 128])
                (cond (condB x9 true (condB x10 true (condB x11 true (cond (okT Pg F 21 [.agg 31 [.int .i64 (intOf (x4.getD 0 .dead)), .int .i64 (intOf (x4.getD 1 .dead)), .slice 42 (listOf (x4.getD 2 .dead)) false, .slice 3 (listOf (x4.getD 3 .dead)) false], .agg 31 [.int .i64 262, .int .i64 388, .slice 42 [.agg 41 [.int .i64 388, .int .i64 4, .int .u32 307]] false, .slice 3 [.int .i64 132, .int .i64 388] false]]) true false))))
                 (cond (cond x9 true (cond x10 true (cond x11 true (cond (!(boolOf (valT F 21 [.agg 31 [.int .i64 (intOf (x4.getD 0 .dead)), .int .i64 (intOf (x4.getD 1 .dead)), .slice 42 (listOf (x4.getD 2 .dead)) false, .slice 3 (listOf (x4.getD 3 .dead)) false], .agg 31 [.int .i64 262, .int .i64 388, .slice 42 [.agg 41 [.int .i64 388, .int .i64 4, .int .u32 307]] false, .slice 3 [.int .i64 132, .int .i64 388] false]]))) true (cond ((intOf ((tupOf (valT F 19 [.agg 23 [.slice 118 x2 false], .int .u32 128, .int .u32 4230, .int .i64 1, .bool true])).getD 1 .dead)) != 5) true (cond ((intOf ((tupOf (valT F 19 [.agg 23 [.slice 118 x2 false], .int .u32 128, .int .u32 4230, .int .i64 4, .bool false])).getD 1 .dead)) != 4) true (cond ((intOf (x5.getD 1 .dead)) != 0) true (cond ((intOf (x6.getD 0 .dead)) != 4226) true (cond ((intOf (x6.getD 1 .dead)) != 136) true (cond ((intOf (x7.getD 1 .dead)) != 0) true (cond ((intOf (x8.getD 0 .dead)) != 100) true (cond ((intOf (x8.getD 1 .dead)) != (-1)) true ((intOf ((tupOf (valT F 19 [.agg 23 [.slice 118 x2 false], .int .u32 0, .int .u32 8192, .int .i64 1, .bool false])).getD 1 .dead)) != 5)))))))))))))
                  (some (.bool false))
                  (cond (okT Pg F 33 [.slice 52 (listOf (valT F 25 [.agg 23 [.slice 118 x2 false], .int .u32 128])) false, .slice 52 [.agg 51 [.int .u32 4224, .int .u32 256, .int .i64 3], .agg 51 [.int .u32 8192, .int .u32 4096, .int .i64 73]] false])
                   (some (.bool (boolOf (valT F 33 [.slice 52 (listOf (valT F 25 [.agg 23 [.slice 118 x2 false], .int .u32 128])) false, .slice 52 [.agg 51 [.int .u32 4224, .int .u32 256, .int .i64 3], .agg 51 [.int .u32 8192, .int .u32 4096, .int .i64 73]] false]))))
                   (none)))
                 (none))
                (none))
               (none))
              (none))
             (none))
            (none))
           (none))
          (none))
         (none))
        (none)))
      (none))
     (none))
    (none)) := by kernel_rfl
set_option maxRecDepth 100000 in
theorem nf_table_Walk (F : Tab) (l0 : List AV) (a0 a1 a2 : Int) (b0 : Bool) : fnV (cx F) 6 19 [.agg 23 [.slice 118 l0 false], .int .u32 a0, .int .u32 a1, .int .i64 a2, .bool b0] =
  (let x0 : Int := intOf (([.int .i64 0, .int .i64 5, .int .i64 6, .int .i64 6, .int .i64 4] : List AV).getD a2.toNat .dead);
   let x1 : Int := IntKind.u32.wrap (a0 + (IntKind.u32.wrap (4 * (a1.fdiv 4096))));
   let x2 : Int := intOf (valT F 66 [.agg 23 [.slice 118 l0 false], .int .u32 x1]);
   let x3 : Int := IntKind.i64.wrap x1;
   let x4 : Bool := okT Pg F 69 [.int .u32 x2];
   let x5 : Int := intOf (valT F 69 [.int .u32 x2]);
   let x6 : Int := IntKind.u32.wrap (x5 + (IntKind.u32.wrap (((a1.fdiv 128).tmod 32) * 128)));
   let x7 : Int := IntKind.u32.wrap (x5 + (IntKind.u32.wrap (((a1.fdiv 128).tmod 32) * 4)));
   let x8 : Int := intOf (valT F 66 [.agg 23 [.slice 118 l0 false], .int .u32 x7]);
   let x9 : Int := IntKind.i64.wrap x7;
   let x10 : Int := intOf (valT F 69 [.int .u32 x8]);
   let x11 : Int := IntKind.i64.wrap (IntKind.u32.wrap (x10 + (a1.tmod 128)));
   let x12 : Int := ibits .or .u32 x8 16;
   let x13 : Int := cond (cond (a2 == 2) true (a2 == 3)) (ibits .or .u32 x12 32) x12;
   let x14 : Bool := x13 != x8;
   let x15 : Bool := okT Pg F 67 [.int .u32 x8, .int .u32 4];
   let x16 : Bool := !(boolOf (valT F 67 [.int .u32 x8, .int .u32 4]));
   let x17 : Bool := okT Pg F 67 [.int .u32 x8, .int .u32 8];
   let x18 : Bool := !(boolOf (valT F 67 [.int .u32 x8, .int .u32 8]));
   let x19 : Int := IntKind.i64.wrap (IntKind.u32.wrap (x6 + (a1.tmod 128)));
   let x20 : Int := ibits .or .u32 x2 16;
   let x21 : Int := cond (cond (a2 == 2) true (a2 == 3)) (ibits .or .u32 x20 32) x20;
   let x22 : Bool := x21 != x2;
   let x23 : Bool := okT Pg F 67 [.int .u32 x2, .int .u32 4];
   let x24 : Bool := !(boolOf (valT F 67 [.int .u32 x2, .int .u32 4]));
   let x25 : Bool := okT Pg F 67 [.int .u32 x2, .int .u32 8];
   let x26 : Bool := !(boolOf (valT F 67 [.int .u32 x2, .int .u32 8]));
   cond (a0 == 0)
    (cond (!(decide ((IntKind.i64.wrap a1) < (IntKind.i64.wrap (((l0.length : Nat) : Int) * 128)))))
     (cond (inB a2 5)
      (some (.tuple [.agg 31 [.int .i64 0, .int .i64 0, .slice 42 [] false, .slice 3 [] false], .int .i64 x0]))
      (none))
     (some (.tuple [.agg 31 [.int .i64 (IntKind.i64.wrap a1), .int .i64 (-1), .slice 42 [] false, .slice 3 [] false], .int .i64 0])))
    (cond (decide (a1 < 131072))
     (cond (okT Pg F 65 [.agg 23 [.slice 118 l0 false], .int .u32 a0])
      (cond (!(boolOf (valT F 65 [.agg 23 [.slice 118 l0 false], .int .u32 a0])))
       (cond (inB a2 5)
        (some (.tuple [.agg 31 [.int .i64 0, .int .i64 0, .slice 42 [] false, .slice 3 [] false], .int .i64 x0]))
        (none))
       (cond (okT Pg F 66 [.agg 23 [.slice 118 l0 false], .int .u32 x1])
        (cond (okT Pg F 67 [.int .u32 x2, .int .u32 1])
         (cond (boolOf (valT F 67 [.int .u32 x2, .int .u32 1]))
          (cond (okT Pg F 68 [.int .u32 x2, .agg 23 [.slice 118 l0 false]])
           (cond (!(boolOf (valT F 68 [.int .u32 x2, .agg 23 [.slice 118 l0 false]])))
            (cond (inB a2 5)
             (some (.tuple [.agg 31 [.int .i64 0, .int .i64 0, .slice 42 [] false, .slice 3 [.int .i64 x3] false], .int .i64 x0]))
             (none))
            (cond x4
             (cond (okT Pg F 67 [.int .u32 x2, .int .u32 64])
              (cond (!(boolOf (valT F 67 [.int .u32 x2, .int .u32 64])))
               (cond x4
                (cond (okT Pg F 66 [.agg 23 [.slice 118 l0 false], .int .u32 x7])
                 (cond (okT Pg F 67 [.int .u32 x8, .int .u32 1])
                  (cond (boolOf (valT F 67 [.int .u32 x8, .int .u32 1]))
                   (cond (okT Pg F 67 [.int .u32 x8, .int .u32 64])
                    (cond (!(!(boolOf (valT F 67 [.int .u32 x8, .int .u32 64]))))
                     (cond (inB a2 5)
                      (some (.tuple [.agg 31 [.int .i64 0, .int .i64 0, .slice 42 [] false, .slice 3 [.int .i64 x3, .int .i64 x9] false], .int .i64 x0]))
                      (none))
                     (cond (okT Pg F 69 [.int .u32 x8])
                      (cond (okT Pg F 65 [.agg 23 [.slice 118 l0 false], .int .u32 x10])
                       (cond (!(boolOf (valT F 65 [.agg 23 [.slice 118 l0 false], .int .u32 x10])))
                        (cond (inB a2 5)
                         (some (.tuple [.agg 31 [.int .i64 0, .int .i64 0, .slice 42 [] false, .slice 3 [.int .i64 x3, .int .i64 x9] false], .int .i64 x0]))
                         (none))
                        (cond (!(cond (a2 == 2) true (a2 == 3)))
                         (cond (a2 != 4)
                          (cond (!b0)
                           (cond x14
                            (some (.tuple [.agg 31 [.int .i64 x11, .int .i64 x9, .slice 42 [.agg 41 [.int .i64 x9, .int .i64 4, .int .u32 x13]] false, .slice 3 [.int .i64 x3, .int .i64 x9] false], .int .i64 0]))
                            (some (.tuple [.agg 31 [.int .i64 x11, .int .i64 x9, .slice 42 [] false, .slice 3 [.int .i64 x3, .int .i64 x9] false], .int .i64 0])))
                           (cond x15
                            (cond x16
                             (cond (inB a2 5)
                              (some (.tuple [.agg 31 [.int .i64 0, .int .i64 0, .slice 42 [] false, .slice 3 [.int .i64 x3, .int .i64 x9] false], .int .i64 x0]))
                              (none))
                             (cond x14
                              (some (.tuple [.agg 31 [.int .i64 x11, .int .i64 x9, .slice 42 [.agg 41 [.int .i64 x9, .int .i64 4, .int .u32 x13]] false, .slice 3 [.int .i64 x3, .int .i64 x9] false], .int .i64 0]))
                              (some (.tuple [.agg 31 [.int .i64 x11, .int .i64 x9, .slice 42 [] false, .slice 3 [.int .i64 x3, .int .i64 x9] false], .int .i64 0]))))
                            (none)))
                          (cond x17
                           (cond x18
                            (cond (inB a2 5)
                             (some (.tuple [.agg 31 [.int .i64 0, .int .i64 0, .slice 42 [] false, .slice 3 [.int .i64 x3, .int .i64 x9] false], .int .i64 x0]))
                             (none))
                            (cond (!b0)
                             (cond x14
                              (some (.tuple [.agg 31 [.int .i64 x11, .int .i64 x9, .slice 42 [.agg 41 [.int .i64 x9, .int .i64 4, .int .u32 x13]] false, .slice 3 [.int .i64 x3, .int .i64 x9] false], .int .i64 0]))
                              (some (.tuple [.agg 31 [.int .i64 x11, .int .i64 x9, .slice 42 [] false, .slice 3 [.int .i64 x3, .int .i64 x9] false], .int .i64 0])))
                             (cond x15
                              (cond x16
                               (cond (inB a2 5)
                                (some (.tuple [.agg 31 [.int .i64 0, .int .i64 0, .slice 42 [] false, .slice 3 [.int .i64 x3, .int .i64 x9] false], .int .i64 x0]))
                                (none))
                               (cond x14
                                (some (.tuple [.agg 31 [.int .i64 x11, .int .i64 x9, .slice 42 [.agg 41 [.int .i64 x9, .int .i64 4, .int .u32 x13]] false, .slice 3 [.int .i64 x3, .int .i64 x9] false], .int .i64 0]))
                                (some (.tuple [.agg 31 [.int .i64 x11, .int .i64 x9, .slice 42 [] false, .slice 3 [.int .i64 x3, .int .i64 x9] false], .int .i64 0]))))
                              (none))))
                           (none)))
                         (cond (okT Pg F 67 [.int .u32 x8, .int .u32 2])
                          (cond (!(boolOf (valT F 67 [.int .u32 x8, .int .u32 2])))
                           (cond (inB a2 5)
                            (some (.tuple [.agg 31 [.int .i64 0, .int .i64 0, .slice 42 [] false, .slice 3 [.int .i64 x3, .int .i64 x9] false], .int .i64 x0]))
                            (none))
                           (cond (a2 != 4)
                            (cond (!b0)
                             (cond x14
                              (some (.tuple [.agg 31 [.int .i64 x11, .int .i64 x9, .slice 42 [.agg 41 [.int .i64 x9, .int .i64 4, .int .u32 x13]] false, .slice 3 [.int .i64 x3, .int .i64 x9] false], .int .i64 0]))
                              (some (.tuple [.agg 31 [.int .i64 x11, .int .i64 x9, .slice 42 [] false, .slice 3 [.int .i64 x3, .int .i64 x9] false], .int .i64 0])))
                             (cond x15
                              (cond x16
                               (cond (inB a2 5)
                                (some (.tuple [.agg 31 [.int .i64 0, .int .i64 0, .slice 42 [] false, .slice 3 [.int .i64 x3, .int .i64 x9] false], .int .i64 x0]))
                                (none))
                               (cond x14
                                (some (.tuple [.agg 31 [.int .i64 x11, .int .i64 x9, .slice 42 [.agg 41 [.int .i64 x9, .int .i64 4, .int .u32 x13]] false, .slice 3 [.int .i64 x3, .int .i64 x9] false], .int .i64 0]))
                                (some (.tuple [.agg 31 [.int .i64 x11, .int .i64 x9, .slice 42 [] false, .slice 3 [.int .i64 x3, .int .i64 x9] false], .int .i64 0]))))
                              (none)))
                            (cond x17
                             (cond x18
                              (cond (inB a2 5)
                               (some (.tuple [.agg 31 [.int .i64 0, .int .i64 0, .slice 42 [] false, .slice 3 [.int .i64 x3, .int .i64 x9] false], .int .i64 x0]))
                               (none))
                              (cond (!b0)
                               (cond x14
                                (some (.tuple [.agg 31 [.int .i64 x11, .int .i64 x9, .slice 42 [.agg 41 [.int .i64 x9, .int .i64 4, .int .u32 x13]] false, .slice 3 [.int .i64 x3, .int .i64 x9] false], .int .i64 0]))
                                (some (.tuple [.agg 31 [.int .i64 x11, .int .i64 x9, .slice 42 [] false, .slice 3 [.int .i64 x3, .int .i64 x9] false], .int .i64 0])))
                               (cond x15
                                (cond x16
                                 (cond (inB a2 5)
                                  (some (.tuple [.agg 31 [.int .i64 0, .int .i64 0, .slice 42 [] false, .slice 3 [.int .i64 x3, .int .i64 x9] false], .int .i64 x0]))
                                  (none))
                                 (cond x14
                                  (some (.tuple [.agg 31 [.int .i64 x11, .int .i64 x9, .slice 42 [.agg 41 [.int .i64 x9, .int .i64 4, .int .u32 x13]] false, .slice 3 [.int .i64 x3, .int .i64 x9] false], .int .i64 0]))
                                  (some (.tuple [.agg 31 [.int .i64 x11, .int .i64 x9, .slice 42 [] false, .slice 3 [.int .i64 x3, .int .i64 x9] false], .int .i64 0]))))
                                (none))))
                             (none))))
                          (none))))
                       (none))
                      (none)))
                    (none))
                   (cond (inB a2 5)
                    (some (.tuple [.agg 31 [.int .i64 0, .int .i64 0, .slice 42 [] false, .slice 3 [.int .i64 x3, .int .i64 x9] false], .int .i64 x0]))
                    (none)))
                  (none))
                 (none))
                (none))
               (cond (okT Pg F 65 [.agg 23 [.slice 118 l0 false], .int .u32 x6])
                (cond (!(boolOf (valT F 65 [.agg 23 [.slice 118 l0 false], .int .u32 x6])))
                 (cond (inB a2 5)
                  (some (.tuple [.agg 31 [.int .i64 0, .int .i64 0, .slice 42 [] false, .slice 3 [.int .i64 x3] false], .int .i64 x0]))
                  (none))
                 (cond (!(cond (a2 == 2) true (a2 == 3)))
                  (cond (a2 != 4)
                   (cond (!b0)
                    (cond x22
                     (some (.tuple [.agg 31 [.int .i64 x19, .int .i64 x3, .slice 42 [.agg 41 [.int .i64 x3, .int .i64 4, .int .u32 x21]] false, .slice 3 [.int .i64 x3] false], .int .i64 0]))
                     (some (.tuple [.agg 31 [.int .i64 x19, .int .i64 x3, .slice 42 [] false, .slice 3 [.int .i64 x3] false], .int .i64 0])))
                    (cond x23
                     (cond x24
                      (cond (inB a2 5)
                       (some (.tuple [.agg 31 [.int .i64 0, .int .i64 0, .slice 42 [] false, .slice 3 [.int .i64 x3] false], .int .i64 x0]))
                       (none))
                      (cond x22
                       (some (.tuple [.agg 31 [.int .i64 x19, .int .i64 x3, .slice 42 [.agg 41 [.int .i64 x3, .int .i64 4, .int .u32 x21]] false, .slice 3 [.int .i64 x3] false], .int .i64 0]))
                       (some (.tuple [.agg 31 [.int .i64 x19, .int .i64 x3, .slice 42 [] false, .slice 3 [.int .i64 x3] false], .int .i64 0]))))
                     (none)))
                   (cond x25
                    (cond x26
                     (cond (inB a2 5)
                      (some (.tuple [.agg 31 [.int .i64 0, .int .i64 0, .slice 42 [] false, .slice 3 [.int .i64 x3] false], .int .i64 x0]))
                      (none))
                     (cond (!b0)
                      (cond x22
                       (some (.tuple [.agg 31 [.int .i64 x19, .int .i64 x3, .slice 42 [.agg 41 [.int .i64 x3, .int .i64 4, .int .u32 x21]] false, .slice 3 [.int .i64 x3] false], .int .i64 0]))
                       (some (.tuple [.agg 31 [.int .i64 x19, .int .i64 x3, .slice 42 [] false, .slice 3 [.int .i64 x3] false], .int .i64 0])))
                      (cond x23
                       (cond x24
                        (cond (inB a2 5)
                         (some (.tuple [.agg 31 [.int .i64 0, .int .i64 0, .slice 42 [] false, .slice 3 [.int .i64 x3] false], .int .i64 x0]))
                         (none))
                        (cond x22
                         (some (.tuple [.agg 31 [.int .i64 x19, .int .i64 x3, .slice 42 [.agg 41 [.int .i64 x3, .int .i64 4, .int .u32 x21]] false, .slice 3 [.int .i64 x3] false], .int .i64 0]))
                         (some (.tuple [.agg 31 [.int .i64 x19, .int .i64 x3, .slice 42 [] false, .slice 3 [.int .i64 x3] false], .int .i64 0]))))
                       (none))))
                    (none)))
                  (cond (okT Pg F 67 [.int .u32 x2, .int .u32 2])
                   (cond (!(boolOf (valT F 67 [.int .u32 x2, .int .u32 2])))
                    (cond (inB a2 5)
                     (some (.tuple [.agg 31 [.int .i64 0, .int .i64 0, .slice 42 [] false, .slice 3 [.int .i64 x3] false], .int .i64 x0]))
                     (none))
                    (cond (a2 != 4)
                     (cond (!b0)
                      (cond x22
                       (some (.tuple [.agg 31 [.int .i64 x19, .int .i64 x3, .slice 42 [.agg 41 [.int .i64 x3, .int .i64 4, .int .u32 x21]] false, .slice 3 [.int .i64 x3] false], .int .i64 0]))
                       (some (.tuple [.agg 31 [.int .i64 x19, .int .i64 x3, .slice 42 [] false, .slice 3 [.int .i64 x3] false], .int .i64 0])))
                      (cond x23
                       (cond x24
                        (cond (inB a2 5)
                         (some (.tuple [.agg 31 [.int .i64 0, .int .i64 0, .slice 42 [] false, .slice 3 [.int .i64 x3] false], .int .i64 x0]))
                         (none))
                        (cond x22
                         (some (.tuple [.agg 31 [.int .i64 x19, .int .i64 x3, .slice 42 [.agg 41 [.int .i64 x3, .int .i64 4, .int .u32 x21]] false, .slice 3 [.int .i64 x3] false], .int .i64 0]))
                         (some (.tuple [.agg 31 [.int .i64 x19, .int .i64 x3, .slice 42 [] false, .slice 3 [.int .i64 x3] false], .int .i64 0]))))
                       (none)))
                     (cond x25
                      (cond x26
                       (cond (inB a2 5)
                        (some (.tuple [.agg 31 [.int .i64 0, .int .i64 0, .slice 42 [] false, .slice 3 [.int .i64 x3] false], .int .i64 x0]))
                        (none))
                       (cond (!b0)
                        (cond x22
                         (some (.tuple [.agg 31 [.int .i64 x19, .int .i64 x3, .slice 42 [.agg 41 [.int .i64 x3, .int .i64 4, .int .u32 x21]] false, .slice 3 [.int .i64 x3] false], .int .i64 0]))
                         (some (.tuple [.agg 31 [.int .i64 x19, .int .i64 x3, .slice 42 [] false, .slice 3 [.int .i64 x3] false], .int .i64 0])))
                        (cond x23
                         (cond x24
                          (cond (inB a2 5)
                           (some (.tuple [.agg 31 [.int .i64 0, .int .i64 0, .slice 42 [] false, .slice 3 [.int .i64 x3] false], .int .i64 x0]))
                           (none))
                          (cond x22
                           (some (.tuple [.agg 31 [.int .i64 x19, .int .i64 x3, .slice 42 [.agg 41 [.int .i64 x3, .int .i64 4, .int .u32 x21]] false, .slice 3 [.int .i64 x3] false], .int .i64 0]))
                           (some (.tuple [.agg 31 [.int .i64 x19, .int .i64 x3, .slice 42 [] false, .slice 3 [.int .i64 x3] false], .int .i64 0]))))
                         (none))))
                      (none))))
                   (none))))
                (none)))
              (none))
             (none)))
           (none))
          (cond (inB a2 5)
           (some (.tuple [.agg 31 [.int .i64 0, .int .i64 0, .slice 42 [] false, .slice 3 [.int .i64 x3] false], .int .i64 x0]))
           (none)))
         (none))
        (none)))
      (none))
     (cond (inB a2 5)
      (some (.tuple [.agg 31 [.int .i64 0, .int .i64 0, .slice 42 [] false, .slice 3 [] false], .int .i64 x0]))
      (none)))) := by kernel_rfl
set_option maxRecDepth 100000 in
theorem nf_ref10_Walk (F : Tab) (l0 : List AV) (a0 a1 a2 : Int) (b0 : Bool) : fnV (cx F) 6 20 [.agg 23 [.slice 118 l0 false], .int .u32 a0, .int .u32 a1, .int .i64 a2, .bool b0] =
  (let x0 : Int := intOf (valT F 70 [.int .i64 a2]);
   let x1 : List AV := partsOf (valT F 73 [.agg 23 [.slice 118 l0 false], .int .i64 (IntKind.i64.wrap a0), .int .i64 (IntKind.i64.wrap a1)]);
   let x2 : Int := intOf (x1.getD 0 .dead);
   let x3 : Int := intOf (x1.getD 1 .dead);
   let x4 : Int := intOf (x1.getD 2 .dead);
   let x5 : List AV := listOf (x1.getD 3 .dead);
   let x6 : Bool := !(boolOf (x1.getD 4 .dead));
   let x7 : Bool := !(boolOf (valT F 74 [.int .i64 x3, .int .i64 2]));
   let x8 : Bool := !(boolOf (valT F 74 [.int .i64 x3, .int .i64 8]));
   let x9 : Bool := cond b0 (!(boolOf (valT F 74 [.int .i64 x3, .int .i64 4]))) false;
   let x10 : Bool := condB b0 (cond (okT Pg F 74 [.int .i64 x3, .int .i64 4]) true false) true;
   let x11 : Bool := cond (a2 == 4) (cond x8 true x9) x9;
   let x12 : Bool := condB (a2 == 4) (cond (okT Pg F 74 [.int .i64 x3, .int .i64 8]) (condB x8 true x10) false) x10;
   let x13 : Int := IntKind.i64.wrap (x4 + ((IntKind.i64.wrap a1).tmod 128));
   let x14 : Int := cond (!(boolOf (valT F 74 [.int .i64 x3, .int .i64 16]))) (IntKind.i64.wrap (x3 + 16)) x3;
   let x15 : Int := cond (cond (cond (a2 == 2) true (a2 == 3)) (!(boolOf (valT F 74 [.int .i64 x14, .int .i64 32]))) false) (IntKind.i64.wrap (x14 + 32)) x14;
   cond (okT Pg F 70 [.int .i64 a2])
    (cond (a0 == 0)
     (cond (okT Pg F 71 [.agg 23 [.slice 118 l0 false]])
      (cond (decide ((intOf (valT F 71 [.agg 23 [.slice 118 l0 false]])) ≤ (IntKind.i64.wrap a1)))
       (some (.agg 35 [.agg 31 [.int .i64 0, .int .i64 0, .slice 42 [] false, .slice 3 [] false], .int .i64 x0]))
       (some (.agg 35 [.agg 31 [.int .i64 (IntKind.i64.wrap a1), .int .i64 (-1), .slice 42 [] false, .slice 3 [] false], .int .i64 0])))
      (none))
     (cond (condB (decide ((131072 : Int) ≤ (IntKind.i64.wrap a1))) true (cond (okT Pg F 72 [.agg 23 [.slice 118 l0 false], .int .i64 (IntKind.i64.wrap a0)]) true false))
      (cond (cond (decide ((131072 : Int) ≤ (IntKind.i64.wrap a1))) true (!(boolOf (valT F 72 [.agg 23 [.slice 118 l0 false], .int .i64 (IntKind.i64.wrap a0)]))))
       (some (.agg 35 [.agg 31 [.int .i64 0, .int .i64 0, .slice 42 [] false, .slice 3 [] false], .int .i64 x0]))
       (cond (okT Pg F 73 [.agg 23 [.slice 118 l0 false], .int .i64 (IntKind.i64.wrap a0), .int .i64 (IntKind.i64.wrap a1)])
        (cond (condB x6 true (cond (okT Pg F 72 [.agg 23 [.slice 118 l0 false], .int .i64 x4]) true false))
         (cond (cond x6 true (!(boolOf (valT F 72 [.agg 23 [.slice 118 l0 false], .int .i64 x4]))))
          (some (.agg 35 [.agg 31 [.int .i64 0, .int .i64 0, .slice 42 [] false, .slice 3 x5 false], .int .i64 x0]))
          (cond (condB (cond (a2 == 2) true (a2 == 3)) (cond (okT Pg F 74 [.int .i64 x3, .int .i64 2]) (condB x7 true x12) false) x12)
           (cond (cond (cond (a2 == 2) true (a2 == 3)) (cond x7 true x11) x11)
            (some (.agg 35 [.agg 31 [.int .i64 0, .int .i64 0, .slice 42 [] false, .slice 3 x5 false], .int .i64 x0]))
            (cond (okT Pg F 74 [.int .i64 x3, .int .i64 16])
             (cond (condB (cond (a2 == 2) true (a2 == 3)) (cond (okT Pg F 74 [.int .i64 x14, .int .i64 32]) true false) true)
              (cond (x15 != x3)
               (some (.agg 35 [.agg 31 [.int .i64 x13, .int .i64 x2, .slice 42 [.agg 41 [.int .i64 x2, .int .i64 4, .int .u32 (IntKind.u32.wrap x15)]] false, .slice 3 x5 false], .int .i64 0]))
               (some (.agg 35 [.agg 31 [.int .i64 x13, .int .i64 x2, .slice 42 [] false, .slice 3 x5 false], .int .i64 0])))
              (none))
             (none)))
           (none)))
         (none))
        (none)))
      (none)))
    (none)) := by kernel_rfl
set_option maxRecDepth 100000 in
theorem nf_ref10_Same (F : Tab) (a0 a1 : Int) (l0 l1 : List AV) (a2 a3 : Int) (l2 l3 : List AV) : fnV (cx F) 6 21 [.agg 31 [.int .i64 a0, .int .i64 a1, .slice 42 l0 false, .slice 3 l1 false], .agg 31 [.int .i64 a2, .int .i64 a3, .slice 42 l2 false, .slice 3 l3 false]] =
  cond (condB (a0 != a2) true (condB (a1 != a3) true (condB (((l0.length : Nat) : Int) != ((l2.length : Nat) : Int)) true (cond (okT Pg F 75 [.slice 3 l1 false, .slice 3 l3 false]) true false))))
    (cond (cond (a0 != a2) true (cond (a1 != a3) true (cond (((l0.length : Nat) : Int) != ((l2.length : Nat) : Int)) true (!(boolOf (valT F 75 [.slice 3 l1 false, .slice 3 l3 false]))))))
     (some (.bool false))
     (cond ((lf_ref10_Same_4 F a0 a1 l0 l1 a2 a3 l2 l3 100000 0).k == 1)
      (some (.bool false))
      (cond ((lf_ref10_Same_4 F a0 a1 l0 l1 a2 a3 l2 l3 100000 0).k == 2)
       (some (.bool true))
       (none))))
    (none) := by kernel_rfl
set_option maxRecDepth 100000 in
theorem nf_memory_Load (F : Tab) (l0 : List AV) (a0 a1 : Int) : fnV (cx F) 6 23 [.agg 23 [.slice 118 l0 false], .int .i64 a0, .int .i64 a1] =
  (let x0 : Bool := !(decide (a0 ≤ (IntKind.i64.wrap ((IntKind.i64.wrap (((l0.length : Nat) : Int) * 128)) - a1))));
   let x1 : Bool := (decide ((0 : Int) ≤ (a0.tmod 128))) && (decide ((a0.tmod 128) ≤ 128));
   let x2 : List AV := sub (partsOf (l0.getD ((IntKind.i64.wrap (a0.tdiv 128)).toNat) .dead)) ((a0.tmod 128).toNat) 128;
   let x3 : Nat := x2.length;
   let x4 : Bool := inB 0 x3;
   let x5 : Int := IntKind.u32.wrap (intOf (x2.getD 0 .dead));
   let x6 : Int := ibits .or .u32 (ibits .or .u32 (ibits .or .u32 x5 (IntKind.u32.wrap ((IntKind.u32.wrap (intOf (x2.getD 1 .dead))) * 256))) (IntKind.u32.wrap ((IntKind.u32.wrap (intOf (x2.getD 2 .dead))) * 65536))) (IntKind.u32.wrap ((IntKind.u32.wrap (intOf (x2.getD 3 .dead))) * 16777216));
   let x7 : Bool := cond x4 (cond (inB 1 x3) (cond (inB 2 x3) (cond (inB 3 x3) true false) false) false) false;
   cond (a1 == 1)
    (cond (decide ((0 : Int) ≤ a0))
     (cond (!(a1 == 0))
      (cond ((a0.tmod a1) == 0)
       (cond x0
        (some (.tuple [.int .u32 0, .bool false]))
        (cond (inB (IntKind.i64.wrap (a0.tdiv 128)) l0.length)
         (cond x1
          (cond (a1 == 1)
           (cond x4
            (some (.tuple [.int .u32 x5, .bool true]))
            (none))
           (cond x7
            (some (.tuple [.int .u32 x6, .bool true]))
            (none)))
          (none))
         (none)))
       (some (.tuple [.int .u32 0, .bool false])))
      (none))
     (some (.tuple [.int .u32 0, .bool false])))
    (cond (a1 == 4)
     (cond (decide ((0 : Int) ≤ a0))
      (cond (!(a1 == 0))
       (cond ((a0.tmod a1) == 0)
        (cond x0
         (some (.tuple [.int .u32 0, .bool false]))
         (cond (inB (IntKind.i64.wrap (a0.tdiv 128)) l0.length)
          (cond x1
           (cond (a1 == 1)
            (cond x4
             (some (.tuple [.int .u32 x5, .bool true]))
             (none))
            (cond x7
             (some (.tuple [.int .u32 x6, .bool true]))
             (none)))
           (none))
          (none)))
        (some (.tuple [.int .u32 0, .bool false])))
       (none))
      (some (.tuple [.int .u32 0, .bool false])))
     (some (.tuple [.int .u32 0, .bool false])))) := by kernel_rfl
set_option maxRecDepth 100000 in
theorem nf_memory_Apply (F : Tab) (l0 l1 : List AV) : fnV (cx F) 6 24 [.agg 23 [.slice 118 l0 false], .slice 42 l1 false] =
  cond (decide ((0 : Nat) < l0.length))
    (cond (decide (((0 + l0.length) * 128) ≤ 140737488355328))
     (cond (decide ((0 : Nat) < l0.length))
      (cond ((lf_memory_Apply_4 F l0.length l1 ((l1.length : Nat) : Int) l0 l0.length 100000 0 l0).k == 1)
       (some (.tuple [.agg 23 [.slice 118 l0 false], .bool false]))
       (cond ((lf_memory_Apply_4 F l0.length l1 ((l1.length : Nat) : Int) l0 l0.length 100000 0 l0).k == 2)
        (some (.tuple [.agg 23 [.slice 118 (sub ((lf_memory_Apply_4 F l0.length l1 ((l1.length : Nat) : Int) l0 l0.length 100000 0 l0).l.getD 0 []) 0 (0 + l0.length)) false], .bool true]))
        (none)))
      (none))
     (none))
    (none) := by kernel_rfl
set_option maxRecDepth 100000 in
theorem nf_table_List (F : Tab) (l0 : List AV) (a0 : Int) : fnV (cx F) 6 25 [.agg 23 [.slice 118 l0 false], .int .u32 a0] =
  cond (condB (a0 == 0) true (cond (okT Pg F 65 [.agg 23 [.slice 118 l0 false], .int .u32 a0]) true false))
    (cond (cond (a0 == 0) true (!(boolOf (valT F 65 [.agg 23 [.slice 118 l0 false], .int .u32 a0]))))
     (some (.slice 52 [] false))
     (cond ((lf_table_leaves_1_1 F l0 l0 a0 100000 0 []).k == 1)
      (some (.slice 52 ((lf_table_leaves_1_1 F l0 l0 a0 100000 0 []).l.getD 0 []) false))
      (none)))
    (none) := by kernel_rfl
set_option maxRecDepth 100000 in
theorem nf_table_Map (F : Tab) (l0 : List AV) (a0 a1 a2 a3 a4 : Int) : fnV (cx F) 6 26 [.agg 23 [.slice 118 l0 false], .int .u32 a0, .int .u32 a1, .int .u32 a2, .int .i64 a3, .int .u32 a4] =
  (let x0 : Int := IntKind.u32.wrap (a0 + (IntKind.u32.wrap (4 * (a1.fdiv 4096))));
   let x1 : Int := intOf (valT F 66 [.agg 23 [.slice 118 l0 false], .int .u32 x0]);
   let x2 : Bool := okT Pg F 67 [.int .u32 x1, .int .u32 1];
   let x3 : Bool := boolOf (valT F 67 [.int .u32 x1, .int .u32 1]);
   let x4 : Int := IntKind.u32.wrap ((intOf (valT F 69 [.int .u32 x1])) + (IntKind.u32.wrap (((a1.fdiv 128).tmod 32) * 4)));
   let x5 : List AV := listOf ((partsOf (valT F 82 [.agg 23 [.slice 118 (listOf ((partsOf ((tupOf (valT F 81 [.agg 23 [.slice 118 l0 false], .int .i64 (IntKind.i64.wrap a4), .str [0, 0, 0, 0, 0, 0, 0, 0, 0, 0, 0, 0, 0, 0, 0, 0, 0, 0, 0, 0, 0, 0, 0, 0, 0, 0, 0, 0, 0, 0, 0, 0, 0, 0, 0, 0, 0, 0, 0, 0, 0, 0, 0, 0, 0, 0, 0, 0, 0, 0, 0, 0, 0, 0, 0, 0, 0, 0, 0, 0, 0, 0, 0, 0, 0, 0, 0, 0, 0, 0, 0, 0, 0, 0, 0, 0, 0, 0, 0, 0, 0, 0, 0, 0, 0, 0, 0, 0, 0, 0, 0, 0, 0, 0, 0, 0, 0, 0, 0, 0, 0, 0, 0, 0, 0, 0, 0, 0, 0, 0, 0, 0, 0, 0, 0, 0, 0, 0, 0, 0, 0, 0, 0, 0, 0, 0, 0, 0]])).getD 0 .dead)).getD 0 .dead)) false], .int .u32 x0, .int .u32 (ibits .or .u32 a4 1)])).getD 0 .dead);
   let x6 : Int := IntKind.u32.wrap ((intOf (valT F 69 [.int .u32 (ibits .or .u32 a4 1)])) + (IntKind.u32.wrap (((a1.fdiv 128).tmod 32) * 4)));
   let x7 : Int := ibits .or .u32 (ibits .or .u32 a2 1) (IntKind.u32.wrap a3);
   cond (okT Pg F 80 [.agg 23 [.slice 118 l0 false], .int .u32 a0, .int .u32 a1, .int .u32 a2, .int .i64 a3, .int .u32 128])
    (cond (!(boolOf (valT F 80 [.agg 23 [.slice 118 l0 false], .int .u32 a0, .int .u32 a1, .int .u32 a2, .int .i64 a3, .int .u32 128])))
     (some (.tuple [.agg 23 [.slice 118 l0 false], .int .i64 1]))
     (cond (okT Pg F 66 [.agg 23 [.slice 118 l0 false], .int .u32 x0])
      (cond (cond x2 (condB x3 (cond (okT Pg F 68 [.int .u32 x1, .agg 23 [.slice 118 l0 false]]) true false) true) false)
       (cond (cond x3 (!(boolOf (valT F 68 [.int .u32 x1, .agg 23 [.slice 118 l0 false]]))) false)
        (some (.tuple [.agg 23 [.slice 118 l0 false], .int .i64 3]))
        (cond (okT Pg F 67 [.int .u32 x1, .int .u32 65])
         (cond (boolOf (valT F 67 [.int .u32 x1, .int .u32 65]))
          (some (.tuple [.agg 23 [.slice 118 l0 false], .int .i64 6]))
          (cond x2
           (cond (!x3)
            (cond (condB (a4 == 0) true (condB (a4 == a0) true (cond (okT Pg F 65 [.agg 23 [.slice 118 l0 false], .int .u32 a4]) true false)))
             (cond (cond (a4 == 0) true (cond (a4 == a0) true (!(boolOf (valT F 65 [.agg 23 [.slice 118 l0 false], .int .u32 a4])))))
              (some (.tuple [.agg 23 [.slice 118 l0 false], .int .i64 1]))
              (cond (okT Pg F 81 [.agg 23 [.slice 118 l0 false], .int .i64 (IntKind.i64.wrap a4), .str [0, 0, 0, 0, 0, 0, 0, 0, 0, 0, 0, 0, 0, 0, 0, 0, 0, 0, 0, 0, 0, 0, 0, 0, 0, 0, 0, 0, 0, 0, 0, 0, 0, 0, 0, 0, 0, 0, 0, 0, 0, 0, 0, 0, 0, 0, 0, 0, 0, 0, 0, 0, 0, 0, 0, 0, 0, 0, 0, 0, 0, 0, 0, 0, 0, 0, 0, 0, 0, 0, 0, 0, 0, 0, 0, 0, 0, 0, 0, 0, 0, 0, 0, 0, 0, 0, 0, 0, 0, 0, 0, 0, 0, 0, 0, 0, 0, 0, 0, 0, 0, 0, 0, 0, 0, 0, 0, 0, 0, 0, 0, 0, 0, 0, 0, 0, 0, 0, 0, 0, 0, 0, 0, 0, 0, 0, 0, 0]])
               (cond (okT Pg F 82 [.agg 23 [.slice 118 (listOf ((partsOf ((tupOf (valT F 81 [.agg 23 [.slice 118 l0 false], .int .i64 (IntKind.i64.wrap a4), .str [0, 0, 0, 0, 0, 0, 0, 0, 0, 0, 0, 0, 0, 0, 0, 0, 0, 0, 0, 0, 0, 0, 0, 0, 0, 0, 0, 0, 0, 0, 0, 0, 0, 0, 0, 0, 0, 0, 0, 0, 0, 0, 0, 0, 0, 0, 0, 0, 0, 0, 0, 0, 0, 0, 0, 0, 0, 0, 0, 0, 0, 0, 0, 0, 0, 0, 0, 0, 0, 0, 0, 0, 0, 0, 0, 0, 0, 0, 0, 0, 0, 0, 0, 0, 0, 0, 0, 0, 0, 0, 0, 0, 0, 0, 0, 0, 0, 0, 0, 0, 0, 0, 0, 0, 0, 0, 0, 0, 0, 0, 0, 0, 0, 0, 0, 0, 0, 0, 0, 0, 0, 0, 0, 0, 0, 0, 0, 0]])).getD 0 .dead)).getD 0 .dead)) false], .int .u32 x0, .int .u32 (ibits .or .u32 a4 1)])
                (cond (okT Pg F 69 [.int .u32 (ibits .or .u32 a4 1)])
                 (cond (okT Pg F 66 [.agg 23 [.slice 118 x5 false], .int .u32 x6])
                  (cond (okT Pg F 67 [.int .u32 (intOf (valT F 66 [.agg 23 [.slice 118 x5 false], .int .u32 x6])), .int .u32 1])
                   (cond (boolOf (valT F 67 [.int .u32 (intOf (valT F 66 [.agg 23 [.slice 118 x5 false], .int .u32 x6])), .int .u32 1]))
                    (some (.tuple [.agg 23 [.slice 118 l0 false], .int .i64 6]))
                    (cond (okT Pg F 82 [.agg 23 [.slice 118 x5 false], .int .u32 x6, .int .u32 x7])
                     (some (.tuple [.agg 23 [.slice 118 (listOf ((partsOf (valT F 82 [.agg 23 [.slice 118 x5 false], .int .u32 x6, .int .u32 x7])).getD 0 .dead)) false], .int .i64 0]))
                     (none)))
                   (none))
                  (none))
                 (none))
                (none))
               (none)))
             (none))
            (cond (okT Pg F 69 [.int .u32 x1])
             (cond (okT Pg F 66 [.agg 23 [.slice 118 l0 false], .int .u32 x4])
              (cond (okT Pg F 67 [.int .u32 (intOf (valT F 66 [.agg 23 [.slice 118 l0 false], .int .u32 x4])), .int .u32 1])
               (cond (boolOf (valT F 67 [.int .u32 (intOf (valT F 66 [.agg 23 [.slice 118 l0 false], .int .u32 x4])), .int .u32 1]))
                (some (.tuple [.agg 23 [.slice 118 l0 false], .int .i64 6]))
                (cond (okT Pg F 82 [.agg 23 [.slice 118 l0 false], .int .u32 x4, .int .u32 x7])
                 (some (.tuple [.agg 23 [.slice 118 (listOf ((partsOf (valT F 82 [.agg 23 [.slice 118 l0 false], .int .u32 x4, .int .u32 x7])).getD 0 .dead)) false], .int .i64 0]))
                 (none)))
               (none))
              (none))
             (none)))
           (none)))
         (none)))
       (none))
      (none)))
    (none)) := by kernel_rfl
set_option maxRecDepth 100000 in
theorem nf_table_MapLarge (F : Tab) (l0 : List AV) (a0 a1 a2 a3 : Int) : fnV (cx F) 6 27 [.agg 23 [.slice 118 l0 false], .int .u32 a0, .int .u32 a1, .int .u32 a2, .int .i64 a3] =
  (let x0 : Int := IntKind.u32.wrap (a0 + (IntKind.u32.wrap (4 * (a1.fdiv 4096))));
   cond (okT Pg F 80 [.agg 23 [.slice 118 l0 false], .int .u32 a0, .int .u32 a1, .int .u32 a2, .int .i64 a3, .int .u32 4096])
    (cond (!(boolOf (valT F 80 [.agg 23 [.slice 118 l0 false], .int .u32 a0, .int .u32 a1, .int .u32 a2, .int .i64 a3, .int .u32 4096])))
     (some (.tuple [.agg 23 [.slice 118 l0 false], .int .i64 1]))
     (cond (okT Pg F 66 [.agg 23 [.slice 118 l0 false], .int .u32 x0])
      (cond (okT Pg F 67 [.int .u32 (intOf (valT F 66 [.agg 23 [.slice 118 l0 false], .int .u32 x0])), .int .u32 1])
       (cond (boolOf (valT F 67 [.int .u32 (intOf (valT F 66 [.agg 23 [.slice 118 l0 false], .int .u32 x0])), .int .u32 1]))
        (some (.tuple [.agg 23 [.slice 118 l0 false], .int .i64 6]))
        (cond (okT Pg F 82 [.agg 23 [.slice 118 l0 false], .int .u32 x0, .int .u32 (ibits .or .u32 (ibits .or .u32 (ibits .or .u32 a2 1) 64) (IntKind.u32.wrap a3))])
         (some (.tuple [.agg 23 [.slice 118 (listOf ((partsOf (valT F 82 [.agg 23 [.slice 118 l0 false], .int .u32 x0, .int .u32 (ibits .or .u32 (ibits .or .u32 (ibits .or .u32 a2 1) 64) (IntKind.u32.wrap a3))])).getD 0 .dead)) false], .int .i64 0]))
         (none)))
       (none))
      (none)))
    (none)) := by kernel_rfl
set_option maxRecDepth 100000 in
theorem nf_table_Unmap (F : Tab) (l0 : List AV) (a0 a1 : Int) : fnV (cx F) 6 28 [.agg 23 [.slice 118 l0 false], .int .u32 a0, .int .u32 a1] =
  (let x0 : Int := IntKind.u32.wrap (a0 + (IntKind.u32.wrap (4 * (a1.fdiv 4096))));
   let x1 : Int := intOf (valT F 66 [.agg 23 [.slice 118 l0 false], .int .u32 x0]);
   let x2 : Bool := okT Pg F 67 [.int .u32 x1, .int .u32 1];
   let x3 : Bool := boolOf (valT F 67 [.int .u32 x1, .int .u32 1]);
   let x4 : Int := IntKind.u32.wrap ((intOf (valT F 69 [.int .u32 x1])) + (IntKind.u32.wrap (((a1.fdiv 128).tmod 32) * 4)));
   let x5 : Bool := cond x3 (!(boolOf (valT F 67 [.int .u32 x1, .int .u32 64]))) false;
   cond (condB (decide ((131072 : Int) ≤ a1)) true (condB (a0 == 0) true (cond (okT Pg F 65 [.agg 23 [.slice 118 l0 false], .int .u32 a0]) true false)))
    (cond (cond (decide ((131072 : Int) ≤ a1)) true (cond (a0 == 0) true (!(boolOf (valT F 65 [.agg 23 [.slice 118 l0 false], .int .u32 a0])))))
     (some (.tuple [.agg 23 [.slice 118 l0 false], .int .i64 1]))
     (cond (okT Pg F 66 [.agg 23 [.slice 118 l0 false], .int .u32 x0])
      (cond (cond x2 (condB x3 (cond (okT Pg F 68 [.int .u32 x1, .agg 23 [.slice 118 l0 false]]) true false) true) false)
       (cond (cond x3 (!(boolOf (valT F 68 [.int .u32 x1, .agg 23 [.slice 118 l0 false]]))) false)
        (some (.tuple [.agg 23 [.slice 118 l0 false], .int .i64 3]))
        (cond (cond x2 (condB x3 (cond (okT Pg F 67 [.int .u32 x1, .int .u32 64]) true false) true) false)
         (cond (condB x5 (cond (okT Pg F 69 [.int .u32 x1]) (cond (okT Pg F 66 [.agg 23 [.slice 118 l0 false], .int .u32 x4]) true false) false) true)
          (cond (okT Pg F 67 [.int .u32 (cond x5 (intOf (valT F 66 [.agg 23 [.slice 118 l0 false], .int .u32 x4])) x1), .int .u32 1])
           (cond (!(boolOf (valT F 67 [.int .u32 (cond x5 (intOf (valT F 66 [.agg 23 [.slice 118 l0 false], .int .u32 x4])) x1), .int .u32 1])))
            (some (.tuple [.agg 23 [.slice 118 l0 false], .int .i64 5]))
            (cond (okT Pg F 82 [.agg 23 [.slice 118 l0 false], .int .u32 (cond x5 x4 x0), .int .u32 0])
             (some (.tuple [.agg 23 [.slice 118 (listOf ((partsOf (valT F 82 [.agg 23 [.slice 118 l0 false], .int .u32 (cond x5 x4 x0), .int .u32 0])).getD 0 .dead)) false], .int .i64 0]))
             (none)))
           (none))
          (none))
         (none)))
       (none))
      (none)))
    (none)) := by kernel_rfl
set_option maxRecDepth 100000 in
theorem nf_ref10_Map (F : Tab) (l0 : List AV) (a0 a1 a2 a3 a4 : Int) : fnV (cx F) 6 29 [.agg 23 [.slice 118 l0 false], .int .u32 a0, .int .u32 a1, .int .u32 a2, .int .i64 a3, .int .u32 a4] =
  (let x0 : Bool := !(boolOf (valT F 72 [.agg 23 [.slice 118 l0 false], .int .i64 (IntKind.i64.wrap a2)]));
   let x1 : Bool := !(boolOf (valT F 83 [.int .i64 a3]));
   let x2 : List AV := partsOf (valT F 84 [.agg 23 [.slice 118 l0 false], .int .i64 (IntKind.i64.wrap a0), .int .i64 (IntKind.i64.wrap a1)]);
   let x3 : Int := intOf (x2.getD 0 .dead);
   let x4 : Bool := boolOf (x2.getD 2 .dead);
   let x5 : Bool := boolOf (x2.getD 3 .dead);
   let x6 : Bool := boolOf (x2.getD 4 .dead);
   let x7 : Int := intOf (valT F 85 [.agg 165 [.int .i64 x3, .int .i64 (intOf (x2.getD 1 .dead)), .bool x4, .bool x5, .bool x6], .int .i64 (IntKind.i64.wrap a1)]);
   let x8 : Int := IntKind.i64.wrap ((IntKind.i64.wrap ((IntKind.i64.wrap a2) + 1)) + a3);
   let x9 : List AV := listOf ((partsOf (valT F 87 [.agg 23 [.slice 118 (listOf ((partsOf ((partsOf (valT F 86 [.agg 23 [.slice 118 l0 false], .int .i64 (IntKind.i64.wrap a4), .str [0, 0, 0, 0, 0, 0, 0, 0, 0, 0, 0, 0, 0, 0, 0, 0, 0, 0, 0, 0, 0, 0, 0, 0, 0, 0, 0, 0, 0, 0, 0, 0, 0, 0, 0, 0, 0, 0, 0, 0, 0, 0, 0, 0, 0, 0, 0, 0, 0, 0, 0, 0, 0, 0, 0, 0, 0, 0, 0, 0, 0, 0, 0, 0, 0, 0, 0, 0, 0, 0, 0, 0, 0, 0, 0, 0, 0, 0, 0, 0, 0, 0, 0, 0, 0, 0, 0, 0, 0, 0, 0, 0, 0, 0, 0, 0, 0, 0, 0, 0, 0, 0, 0, 0, 0, 0, 0, 0, 0, 0, 0, 0, 0, 0, 0, 0, 0, 0, 0, 0, 0, 0, 0, 0, 0, 0, 0, 0]])).getD 0 .dead)).getD 0 .dead)) false], .int .i64 x3, .int .i64 (IntKind.i64.wrap ((IntKind.i64.wrap a4) + 1))])).getD 0 .dead);
   let x10 : Int := IntKind.i64.wrap ((IntKind.i64.wrap a4) + (IntKind.i64.wrap (4 * ((IntKind.i64.wrap ((IntKind.i64.wrap a1).tdiv 128)).tmod 32))));
   cond (condB (decide ((131072 : Int) ≤ (IntKind.i64.wrap a1))) true (condB (((IntKind.i64.wrap a1).tmod 128) != 0) true (cond (okT Pg F 72 [.agg 23 [.slice 118 l0 false], .int .i64 (IntKind.i64.wrap a2)]) (condB x0 true (cond (okT Pg F 83 [.int .i64 a3]) (condB x1 true (condB (a0 == 0) true (cond (okT Pg F 72 [.agg 23 [.slice 118 l0 false], .int .i64 (IntKind.i64.wrap a0)]) true false))) false)) false)))
    (cond (cond (decide ((131072 : Int) ≤ (IntKind.i64.wrap a1))) true (cond (((IntKind.i64.wrap a1).tmod 128) != 0) true (cond x0 true (cond x1 true (cond (a0 == 0) true (!(boolOf (valT F 72 [.agg 23 [.slice 118 l0 false], .int .i64 (IntKind.i64.wrap a0)]))))))))
     (some (.agg 58 [.agg 23 [.slice 118 l0 false], .int .i64 1]))
     (cond (okT Pg F 84 [.agg 23 [.slice 118 l0 false], .int .i64 (IntKind.i64.wrap a0), .int .i64 (IntKind.i64.wrap a1)])
      (cond (cond x4 (!x5) false)
       (some (.agg 58 [.agg 23 [.slice 118 l0 false], .int .i64 3]))
       (cond (cond x4 x6 false)
        (some (.agg 58 [.agg 23 [.slice 118 l0 false], .int .i64 6]))
        (cond x4
         (cond (okT Pg F 85 [.agg 165 [.int .i64 x3, .int .i64 (intOf (x2.getD 1 .dead)), .bool x4, .bool x5, .bool x6], .int .i64 (IntKind.i64.wrap a1)])
          (cond (okT Pg F 88 [.agg 23 [.slice 118 l0 false], .int .i64 x7])
           (cond (okT Pg F 74 [.int .i64 (intOf (valT F 88 [.agg 23 [.slice 118 l0 false], .int .i64 x7])), .int .i64 1])
            (cond (boolOf (valT F 74 [.int .i64 (intOf (valT F 88 [.agg 23 [.slice 118 l0 false], .int .i64 x7])), .int .i64 1]))
             (some (.agg 58 [.agg 23 [.slice 118 l0 false], .int .i64 6]))
             (cond (okT Pg F 87 [.agg 23 [.slice 118 l0 false], .int .i64 x7, .int .i64 x8])
              (some (.agg 58 [.agg 23 [.slice 118 (listOf ((partsOf (valT F 87 [.agg 23 [.slice 118 l0 false], .int .i64 x7, .int .i64 x8])).getD 0 .dead)) false], .int .i64 0]))
              (none)))
            (none))
           (none))
          (none))
         (cond (condB (a4 == 0) true (condB (a4 == a0) true (cond (okT Pg F 72 [.agg 23 [.slice 118 l0 false], .int .i64 (IntKind.i64.wrap a4)]) true false)))
          (cond (cond (a4 == 0) true (cond (a4 == a0) true (!(boolOf (valT F 72 [.agg 23 [.slice 118 l0 false], .int .i64 (IntKind.i64.wrap a4)])))))
           (some (.agg 58 [.agg 23 [.slice 118 l0 false], .int .i64 1]))
           (cond (okT Pg F 86 [.agg 23 [.slice 118 l0 false], .int .i64 (IntKind.i64.wrap a4), .str [0, 0, 0, 0, 0, 0, 0, 0, 0, 0, 0, 0, 0, 0, 0, 0, 0, 0, 0, 0, 0, 0, 0, 0, 0, 0, 0, 0, 0, 0, 0, 0, 0, 0, 0, 0, 0, 0, 0, 0, 0, 0, 0, 0, 0, 0, 0, 0, 0, 0, 0, 0, 0, 0, 0, 0, 0, 0, 0, 0, 0, 0, 0, 0, 0, 0, 0, 0, 0, 0, 0, 0, 0, 0, 0, 0, 0, 0, 0, 0, 0, 0, 0, 0, 0, 0, 0, 0, 0, 0, 0, 0, 0, 0, 0, 0, 0, 0, 0, 0, 0, 0, 0, 0, 0, 0, 0, 0, 0, 0, 0, 0, 0, 0, 0, 0, 0, 0, 0, 0, 0, 0, 0, 0, 0, 0, 0, 0]])
            (cond (okT Pg F 87 [.agg 23 [.slice 118 (listOf ((partsOf ((partsOf (valT F 86 [.agg 23 [.slice 118 l0 false], .int .i64 (IntKind.i64.wrap a4), .str [0, 0, 0, 0, 0, 0, 0, 0, 0, 0, 0, 0, 0, 0, 0, 0, 0, 0, 0, 0, 0, 0, 0, 0, 0, 0, 0, 0, 0, 0, 0, 0, 0, 0, 0, 0, 0, 0, 0, 0, 0, 0, 0, 0, 0, 0, 0, 0, 0, 0, 0, 0, 0, 0, 0, 0, 0, 0, 0, 0, 0, 0, 0, 0, 0, 0, 0, 0, 0, 0, 0, 0, 0, 0, 0, 0, 0, 0, 0, 0, 0, 0, 0, 0, 0, 0, 0, 0, 0, 0, 0, 0, 0, 0, 0, 0, 0, 0, 0, 0, 0, 0, 0, 0, 0, 0, 0, 0, 0, 0, 0, 0, 0, 0, 0, 0, 0, 0, 0, 0, 0, 0, 0, 0, 0, 0, 0, 0]])).getD 0 .dead)).getD 0 .dead)) false], .int .i64 x3, .int .i64 (IntKind.i64.wrap ((IntKind.i64.wrap a4) + 1))])
             (cond (okT Pg F 88 [.agg 23 [.slice 118 x9 false], .int .i64 x10])
              (cond (okT Pg F 74 [.int .i64 (intOf (valT F 88 [.agg 23 [.slice 118 x9 false], .int .i64 x10])), .int .i64 1])
               (cond (boolOf (valT F 74 [.int .i64 (intOf (valT F 88 [.agg 23 [.slice 118 x9 false], .int .i64 x10])), .int .i64 1]))
                (some (.agg 58 [.agg 23 [.slice 118 l0 false], .int .i64 6]))
                (cond (okT Pg F 87 [.agg 23 [.slice 118 x9 false], .int .i64 x10, .int .i64 x8])
                 (some (.agg 58 [.agg 23 [.slice 118 (listOf ((partsOf (valT F 87 [.agg 23 [.slice 118 x9 false], .int .i64 x10, .int .i64 x8])).getD 0 .dead)) false], .int .i64 0]))
                 (none)))
               (none))
              (none))
             (none))
            (none)))
          (none)))))
      (none)))
    (none)) := by kernel_rfl
end Go.Proofs.Ytcknhfnbdgleiaa
