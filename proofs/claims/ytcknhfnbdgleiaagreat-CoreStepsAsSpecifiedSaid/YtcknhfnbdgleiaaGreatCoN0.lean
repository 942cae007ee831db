/- What the functions return, in terms of what they call. (Printed by a program of mine, gen.py.) -/
import Derived.Test.YtcknhfnbdgleiaaGreatCoC
set_option linter.unusedVariables false
set_option linter.unusedSimpArgs false
set_option maxRecDepth 100000
namespace Go.Proofs.YtcknhfnbdgleiaaGreat
open Go.AE
theorem Kr (F : Tab) (a0 : Int) (l0 l1 : List AV) (b0 b1 b2 : Bool) (a1 : Int) (l2 : List AV) (a2 : Int) : aO (cx F) 6 3 [aD a0 l0 l1 b0 b1 b2 a1, aC l2, .int .u32 a2] =
 (let x0 : List AV := ak (ay F 9 [aD a0 l0 l1 b0 b1 b2 a1, aC l2, .int .u32 a2]);
  let x1 : List AV := ak (x0.getD 1 .dead);
  let x2 : List AV := ak (x0.getD 2 .dead);
  let x3 : List AV := ak (x0.getD 7 .dead);
  let x4 : List AV := ak (ay F 10 [aD a0 l0 l1 b0 b1 b2 a1, aC l2, .int .u32 a2]);
  let x5 : List AV := ak (x4.getD 1 .dead);
  let x6 : List AV := ak (x4.getD 2 .dead);
  let x7 : List AV := ak (x4.getD 7 .dead);
  cond (aA Pg F 6 [aD a0 l0 l1 b0 b1 b2 a1, aC l2])
   (cond (!(au (ay F 6 [aD a0 l0 l1 b0 b1 b2 a1, aC l2])))
    (cond (aA Pg F 7 [])
     (some (.bool (au (ay F 7 []))))
     (none))
    (cond (cond (aA Pg F 7 []) (bT (au (ay F 7 [])) (cond (aA Pg F 9 [aD a0 l0 l1 b0 b1 b2 a1, aC l2, .int .u32 a2]) (cond (aA Pg F 10 [aD a0 l0 l1 b0 b1 b2 a1, aC l2, .int .u32 a2]) (cond (aA Pg F 8 [dI (au (x0.getD 0 .dead)) (aj (x1.getD 0 .dead)) (ak (x1.getD 1 .dead)) (ak (x1.getD 2 .dead)) (au (x1.getD 3 .dead)) (au (x1.getD 4 .dead)) (au (x1.getD 5 .dead)) (aj (x1.getD 6 .dead)) (aj (x2.getD 0 .dead)) (ak (x2.getD 1 .dead)) (ak (x2.getD 2 .dead)) (au (x2.getD 3 .dead)) (au (x2.getD 4 .dead)) (au (x2.getD 5 .dead)) (aj (x2.getD 6 .dead)) (aj (x0.getD 3 .dead)) (av (x0.getD 4 .dead)) (av (x0.getD 5 .dead)) (au (x0.getD 6 .dead)) (au (x3.getD 0 .dead)) (aj (x3.getD 1 .dead)) (aj (x3.getD 2 .dead)) (aj (x0.getD 8 .dead)) (aj (x0.getD 9 .dead)) (aj (x0.getD 10 .dead)), dI (au (x4.getD 0 .dead)) (aj (x5.getD 0 .dead)) (ak (x5.getD 1 .dead)) (ak (x5.getD 2 .dead)) (au (x5.getD 3 .dead)) (au (x5.getD 4 .dead)) (au (x5.getD 5 .dead)) (aj (x5.getD 6 .dead)) (aj (x6.getD 0 .dead)) (ak (x6.getD 1 .dead)) (ak (x6.getD 2 .dead)) (au (x6.getD 3 .dead)) (au (x6.getD 4 .dead)) (au (x6.getD 5 .dead)) (aj (x6.getD 6 .dead)) (aj (x4.getD 3 .dead)) (av (x4.getD 4 .dead)) (av (x4.getD 5 .dead)) (au (x4.getD 6 .dead)) (au (x7.getD 0 .dead)) (aj (x7.getD 1 .dead)) (aj (x7.getD 2 .dead)) (aj (x4.getD 8 .dead)) (aj (x4.getD 9 .dead)) (aj (x4.getD 10 .dead))]) true false) false) false) true) false)
     (some (.bool (cond (au (ay F 7 [])) (au (ay F 8 [dI (au (x0.getD 0 .dead)) (aj (x1.getD 0 .dead)) (ak (x1.getD 1 .dead)) (ak (x1.getD 2 .dead)) (au (x1.getD 3 .dead)) (au (x1.getD 4 .dead)) (au (x1.getD 5 .dead)) (aj (x1.getD 6 .dead)) (aj (x2.getD 0 .dead)) (ak (x2.getD 1 .dead)) (ak (x2.getD 2 .dead)) (au (x2.getD 3 .dead)) (au (x2.getD 4 .dead)) (au (x2.getD 5 .dead)) (aj (x2.getD 6 .dead)) (aj (x0.getD 3 .dead)) (av (x0.getD 4 .dead)) (av (x0.getD 5 .dead)) (au (x0.getD 6 .dead)) (au (x3.getD 0 .dead)) (aj (x3.getD 1 .dead)) (aj (x3.getD 2 .dead)) (aj (x0.getD 8 .dead)) (aj (x0.getD 9 .dead)) (aj (x0.getD 10 .dead)), dI (au (x4.getD 0 .dead)) (aj (x5.getD 0 .dead)) (ak (x5.getD 1 .dead)) (ak (x5.getD 2 .dead)) (au (x5.getD 3 .dead)) (au (x5.getD 4 .dead)) (au (x5.getD 5 .dead)) (aj (x5.getD 6 .dead)) (aj (x6.getD 0 .dead)) (ak (x6.getD 1 .dead)) (ak (x6.getD 2 .dead)) (au (x6.getD 3 .dead)) (au (x6.getD 4 .dead)) (au (x6.getD 5 .dead)) (aj (x6.getD 6 .dead)) (aj (x4.getD 3 .dead)) (av (x4.getD 4 .dead)) (av (x4.getD 5 .dead)) (au (x4.getD 6 .dead)) (au (x7.getD 0 .dead)) (aj (x7.getD 1 .dead)) (aj (x7.getD 2 .dead)) (aj (x4.getD 8 .dead)) (aj (x4.getD 9 .dead)) (aj (x4.getD 10 .dead))])) false)))
     (none)))
   (none)) := by kernel_rfl
theorem TD (F : Tab) (a0 : Int) (l0 l1 : List AV) (b0 b1 b2 : Bool) (a1 : Int) (l2 : List AV) : aO (cx F) 6 6 [aD a0 l0 l1 b0 b1 b2 a1, aC l2] =
 (let x0 : Bool := au (ay F 16 [aD a0 l0 l1 b0 b1 b2 a1]);
  cond (aA Pg F 16 [aD a0 l0 l1 b0 b1 b2 a1])
   (cond (bT x0 (bT (decide (a1 < 1099511627776)) (cond (aA Pg F 17 [aC l2]) true false) true) true)
    (some (.bool (cond x0 (cond (decide (a1 < 1099511627776)) (au (ay F 17 [aC l2])) false) false)))
    (none))
   (none)) := by kernel_rfl
theorem acF (F : Tab)  : aO (cx F) 6 7 [] =
 (let x0 : List AV := ak (ay F 18 [.int .i64 0, .int .u32 0]);
  let x1 : Int := aj (x0.getD 0 .dead);
  let x2 : Bool := au (x0.getD 3 .dead);
  let x3 : Bool := au (x0.getD 4 .dead);
  let x4 : Bool := au (x0.getD 5 .dead);
  let x5 : Int := aj (x0.getD 6 .dead);
  let x6 : List AV := (ak (x0.getD 2 .dead)).set 1 (.int .u32 64);
  let x7 : List AV := (ak (x0.getD 1 .dead)).set 2 (.int .u32 7);
  let x8 : List AV := ak (ay F 9 [aD x1 x7 x6 x2 x3 x4 x5, aC (av ((ak (ay F 19 Cm)).getD 0 .dead)), .int .u32 0]);
  let x9 : List AV := ak (x8.getD 1 .dead);
  let x10 : List AV := ak (ay F 9 [aD x1 x7 x6 x2 x3 x4 x5, aC (av ((ak (ay F 19 Dn)).getD 0 .dead)), .int .u32 0]);
  let x11 : List AV := av (x10.getD 4 .dead);
  let x12 : List AV := av (x10.getD 5 .dead);
  let x13 : List AV := ak (ay F 9 [aD x1 x7 x6 x2 x3 x4 x5, aC (av ((ak (ay F 19 Dm)).getD 0 .dead)), .int .u32 0]);
  let x14 : List AV := ak (x13.getD 1 .dead);
  let x15 : List AV := ak (ay F 9 [aD x1 x7 x6 x2 x3 x4 x5, aC (av ((ak (ay F 19 C8)).getD 0 .dead)), .int .u32 0]);
  let x16 : List AV := ak (ay F 9 [aD x1 x7 x6 x2 x3 x4 x5, vL, .int .u32 0]);
  let x17 : List AV := ak (ay F 9 [aD x1 x7 x6 x2 x3 x4 x5, aC (av ((ak (ay F 19 DN)).getD 0 .dead)), .int .u32 0]);
  let x18 : List AV := ak (ay F 9 [aD x1 x7 x6 x2 x3 x4 x5, aC (av ((ak (ay F 19 Ap)).getD 0 .dead)), .int .u32 0]);
  let x19 : List AV := ak (x18.getD 1 .dead);
  let x20 : List AV := ak (x18.getD 2 .dead);
  let x21 : Bool := au (x18.getD 6 .dead);
  let x22 : List AV := ak (x18.getD 7 .dead);
  let x23 : Int := aj (x22.getD 1 .dead);
  let x24 : List AV := ak (ay F 11 [dI (au (x18.getD 0 .dead)) (aj (x19.getD 0 .dead)) (ak (x19.getD 1 .dead)) (ak (x19.getD 2 .dead)) (au (x19.getD 3 .dead)) (au (x19.getD 4 .dead)) (au (x19.getD 5 .dead)) (aj (x19.getD 6 .dead)) (aj (x20.getD 0 .dead)) (ak (x20.getD 1 .dead)) (ak (x20.getD 2 .dead)) (au (x20.getD 3 .dead)) (au (x20.getD 4 .dead)) (au (x20.getD 5 .dead)) (aj (x20.getD 6 .dead)) (aj (x18.getD 3 .dead)) (av (x18.getD 4 .dead)) (av (x18.getD 5 .dead)) x21 (au (x22.getD 0 .dead)) x23 (aj (x22.getD 2 .dead)) (aj (x18.getD 8 .dead)) (aj (x18.getD 9 .dead)) (aj (x18.getD 10 .dead)), .int .u32 9, .bool true]);
  let x25 : List AV := ak (x24.getD 1 .dead);
  let x26 : Nat := x11.length;
  let x27 : Nat := x12.length;
  let x28 : List AV := ak (x11.getD 0 .dead);
  let x29 : Bool := ((aj (x28.getD 0 .dead)) == 8) && (((aj (x28.getD 1 .dead)) == 4) && (((aj (x28.getD 2 .dead)) == 7) && true));
  let x30 : Bool := aM 0 x27;
  let x31 : List AV := ak (x12.getD 0 .dead);
  let x32 : Bool := (aj (x31.getD 0 .dead)) == 0;
  let x33 : Bool := !(au (x31.getD 2 .dead));
  let x34 : Bool := aM 1 x27;
  let x35 : List AV := ak (x12.getD 1 .dead);
  let x36 : Bool := (aj (x35.getD 0 .dead)) == 8;
  cond (aA Pg F 18 [.int .i64 0, .int .u32 0])
   (cond (aA Pg F 19 Cm)
    (cond (aA Pg F 9 [aD x1 x7 x6 x2 x3 x4 x5, aC (av ((ak (ay F 19 Cm)).getD 0 .dead)), .int .u32 0])
     (cond (aA Pg F 19 Dn)
      (cond (aA Pg F 9 [aD x1 x7 x6 x2 x3 x4 x5, aC (av ((ak (ay F 19 Dn)).getD 0 .dead)), .int .u32 0])
       (cond (aA Pg F 19 Dm)
        (cond (aA Pg F 9 [aD x1 x7 x6 x2 x3 x4 x5, aC (av ((ak (ay F 19 Dm)).getD 0 .dead)), .int .u32 0])
         (cond (aA Pg F 19 C8)
          (cond (aA Pg F 9 [aD x1 x7 x6 x2 x3 x4 x5, aC (av ((ak (ay F 19 C8)).getD 0 .dead)), .int .u32 0])
           (cond (aA Pg F 9 [aD x1 x7 x6 x2 x3 x4 x5, vL, .int .u32 0])
            (cond (aA Pg F 19 DN)
             (cond (aA Pg F 9 [aD x1 x7 x6 x2 x3 x4 x5, aC (av ((ak (ay F 19 DN)).getD 0 .dead)), .int .u32 0])
              (cond (aA Pg F 19 Ap)
               (cond (aA Pg F 9 [aD x1 x7 x6 x2 x3 x4 x5, aC (av ((ak (ay F 19 Ap)).getD 0 .dead)), .int .u32 0])
                (cond (aA Pg F 11 [dI (au (x18.getD 0 .dead)) (aj (x19.getD 0 .dead)) (ak (x19.getD 1 .dead)) (ak (x19.getD 2 .dead)) (au (x19.getD 3 .dead)) (au (x19.getD 4 .dead)) (au (x19.getD 5 .dead)) (aj (x19.getD 6 .dead)) (aj (x20.getD 0 .dead)) (ak (x20.getD 1 .dead)) (ak (x20.getD 2 .dead)) (au (x20.getD 3 .dead)) (au (x20.getD 4 .dead)) (au (x20.getD 5 .dead)) (aj (x20.getD 6 .dead)) (aj (x18.getD 3 .dead)) (av (x18.getD 4 .dead)) (av (x18.getD 5 .dead)) x21 (au (x22.getD 0 .dead)) x23 (aj (x22.getD 2 .dead)) (aj (x18.getD 8 .dead)) (aj (x18.getD 9 .dead)) (aj (x18.getD 10 .dead)), .int .u32 9, .bool true])
                 (cond (cond (!(au (x8.getD 0 .dead))) true (cond ((aj ((ak (x9.getD 1 .dead)).getD 1 .dead)) != 5) true (cond ((aj (x9.getD 0 .dead)) != 4) true (cond ((aj (x9.getD 6 .dead)) != 1) true (cond (((x26 : Nat) : Int) != 1) true (((x27 : Nat) : Int) != 2))))))
                  (some (.bool false))
                  (cond (cond (aM 0 x26) (bT x29 (cond x30 (bT x32 (cond x30 (bT x33 (cond x34 (bT x36 (cond x34 true false) true) false) true) false) true) false) true) false)
                   (some (.bool (cond (cond x29 (cond x32 (cond x33 (cond x36 (au (x35.getD 2 .dead)) false) false) false) false) (cond (cond ((aj (x13.getD 10 .dead)) == 3) (cond ((aj ((ak (x14.getD 2 .dead)).getD 4 .dead)) == 130) (cond ((aj (x14.getD 0 .dead)) == 64) (cond ((aj (x15.getD 10 .dead)) == 5) (cond ((aj ((ak ((ak (x15.getD 1 .dead)).getD 2 .dead)).getD 4 .dead)) == 128) (cond ((aj (x16.getD 10 .dead)) == 2) ((aj ((ak ((ak (x16.getD 1 .dead)).getD 2 .dead)).getD 2 .dead)) == 0) false) false) false) false) false) false) (cond ((aj (x17.getD 10 .dead)) == 1) (cond ((aj ((ak ((ak (x17.getD 1 .dead)).getD 2 .dead)).getD 2 .dead)) == 4) (cond x21 (cond (x23 == 33) (cond (!(au (x24.getD 6 .dead))) (cond ((aj ((ak (x25.getD 1 .dead)).getD 1 .dead)) == 9) ((aj (x25.getD 0 .dead)) == 4) false) false) false) false) false) false) false) false)))
                   (none)))
                 (none))
                (none))
               (none))
              (none))
             (none))
            (none))
           (none))
          (none))
         (none))
        (none))
       (none))
      (none))
     (none))
    (none))
   (none)) := by kernel_rfl
theorem VB (F : Tab) (b0 : Bool) (a0 : Int) (l0 l1 : List AV) (b1 b2 b3 : Bool) (a1 a2 : Int) (l2 l3 : List AV) (b4 b5 b6 : Bool) (a3 a4 : Int) (l4 l5 : List AV) (b7 b8 : Bool) (a5 a6 a7 a8 a9 : Int) (b9 : Bool) (a10 : Int) (l6 l7 : List AV) (b10 b11 b12 : Bool) (a11 a12 : Int) (l8 l9 : List AV) (b13 b14 b15 : Bool) (a13 a14 : Int) (l10 l11 : List AV) (b16 b17 : Bool) (a15 a16 a17 a18 a19 : Int) : aO (cx F) 6 8 [dI b0 a0 l0 l1 b1 b2 b3 a1 a2 l2 l3 b4 b5 b6 a3 a4 l4 l5 b7 b8 a5 a6 a7 a8 a9, dI b9 a10 l6 l7 b10 b11 b12 a11 a12 l8 l9 b13 b14 b15 a13 a14 l10 l11 b16 b17 a15 a16 a17 a18 a19] =
 (let x0 : LO := Nb F b0 a0 l0 l1 b1 b2 b3 a1 a2 l2 l3 b4 b5 b6 a3 a4 l4 l5 b7 b8 a5 a6 a7 a8 a9 b9 a10 l6 l7 b10 b11 b12 a11 a12 l8 l9 b13 b14 b15 a13 a14 l10 l11 b16 b17 a15 a16 a17 a18 a19 100000 0;
  let x1 : LO := Lx F b0 a0 l0 l1 b1 b2 b3 a1 a2 l2 l3 b4 b5 b6 a3 a4 l4 l5 b7 b8 a5 a6 a7 a8 a9 b9 a10 l6 l7 b10 b11 b12 a11 a12 l8 l9 b13 b14 b15 a13 a14 l10 l11 b16 b17 a15 a16 a17 a18 a19 100000 0;
  cond (cond (!(b0 == b9)) true (cond (!((a0 == a10) && ((jG l0 l6) && ((jG l1 l7) && ((b1 == b10) && ((b2 == b11) && ((b3 == b12) && ((a1 == a11) && true)))))))) true (cond (!((a2 == a12) && ((jG l2 l8) && ((jG l3 l9) && ((b4 == b13) && ((b5 == b14) && ((b6 == b15) && ((a3 == a13) && true)))))))) true (cond (a4 != a14) true (cond (!(b7 == b16)) true (cond (!((b8 == b17) && ((a5 == a15) && ((a6 == a16) && true)))) true (cond (a7 != a17) true (cond (a8 != a18) true (cond (a9 != a19) true (cond (((l4.length : Nat) : Int) != ((l10.length : Nat) : Int)) true (((l5.length : Nat) : Int) != ((l11.length : Nat) : Int))))))))))))
   (some (.bool false))
   (cond (x0.k == 1)
    (some (.bool false))
    (cond (x0.k == 2)
     (cond (x1.k == 1)
      (some (.bool false))
      (cond (x1.k == 2)
       (some (.bool true))
       (none)))
     (none)))) := by kernel_rfl
theorem Wu (F : Tab) (a0 : Int) (l0 l1 : List AV) (b0 b1 b2 : Bool) (a1 : Int) (l2 : List AV) (a2 : Int) : aO (cx F) 6 9 [aD a0 l0 l1 b0 b1 b2 a1, aC l2, .int .u32 a2] =
 (let x0 : LO := sH F a0 l0 l1 b0 b1 b2 a1 l2 a0 l0 l1 b0 b2 (IntKind.i64.wrap (a1 + 1)) l2 a2 a0 l0 l1 b0 b1 b2 a1;
  let x1 : List AV := x0.l.getD 1 [];
  let x2 : Int := x0.i.getD 1 0;
  let x3 : List AV := x0.l.getD 2 [];
  let x4 : Int := x0.i.getD 2 0;
  let x5 : List AV := x0.l.getD 3 [];
  let x6 : List AV := x0.l.getD 4 [];
  let x7 : Int := x0.i.getD 3 0;
  let x8 : Int := x0.i.getD 4 0;
  let x9 : Bool := x0.b.getD 0 false;
  let x10 : Bool := x0.b.getD 1 false;
  let x11 : Bool := x0.b.getD 2 false;
  cond (aA Pg F 20 [aD a0 l0 l1 b0 b1 b2 a1, .int .u32 a2])
   (cond (!(au (ay F 20 [aD a0 l0 l1 b0 b1 b2 a1, .int .u32 a2])))
    (some (xw false a0 l0 l1 b0 b1 b2 a1 gy 0 [] [] false aY 0 0 0))
    (cond (x0.k == 1)
     (some (oW true (x0.i.getD 0 0) (x0.l.getD 0 []) x1 x9 x10 x11 x2 a0 l0 l1 b0 b1 b2 a1 0 [] [] false aY 0 0 x4))
     (cond (x0.k == 2)
      (some (oW true x2 x1 x3 x9 x10 x11 x4 a0 l0 l1 b0 b1 b2 a1 x7 x5 x6 false aY 0 0 x8))
      (cond (x0.k == 3)
       (some (dI true x4 x5 x6 (x0.b.getD 3 false) (x0.b.getD 4 false) (x0.b.getD 5 false) x7 a0 l0 l1 b0 b1 b2 a1 x8 (x0.l.getD 5 []) (x0.l.getD 6 []) (x0.b.getD 6 false) (x0.b.getD 7 false) (x0.i.getD 5 0) (x0.i.getD 6 0) (x0.i.getD 7 0) (x0.i.getD 8 0) (x0.i.getD 9 0)))
       (cond (x0.k == 4)
        (some (oW true x2 x3 l1 b0 false b2 (IntKind.i64.wrap (a1 + 1)) a0 l0 l1 b0 b1 b2 a1 x4 x5 x6 false aY 0 0 0))
        (none))))))
   (none)) := by kernel_rfl
theorem r9 (F : Tab) (a0 : Int) (l0 l1 : List AV) (b0 b1 b2 : Bool) (a1 : Int) (l2 : List AV) (a2 : Int) : aO (cx F) 6 10 [aD a0 l0 l1 b0 b1 b2 a1, aC l2, .int .u32 a2] =
 (let x0 : List AV := ak (ay F 23 [aD a0 l0 l1 b0 b1 b2 a1, .int .u32 a2]);
  let x1 : List AV := ak ((ak (ay F 24 [vD true gy a0 l0 l1 b0 b1 b2 a1 0 [] [] false aY 0 0 0 l2, .int .i64 (IntKind.i64.wrap (16 + (aj (x0.getD 0 .dead)))), .int .u32 0, .int .u32 a0])).getD 0 .dead);
  let x2 : List AV := ak (x1.getD 1 .dead);
  let x3 : List AV := ak (x1.getD 2 .dead);
  let x4 : List AV := ak (x1.getD 7 .dead);
  let x5 : List AV := ak ((ak (ay F 24 [vD true gy a0 l0 l1 b0 b1 b2 a1 0 [] [] false aY 0 0 0 l2, .int .i64 3, .int .u32 a0, .int .u32 a0])).getD 0 .dead);
  let x6 : List AV := ak (x5.getD 1 .dead);
  let x7 : List AV := ak (x5.getD 2 .dead);
  let x8 : List AV := ak (x5.getD 7 .dead);
  let x9 : List AV := ak (ay F 25 [vD true gy a0 l0 l1 b0 b1 b2 a1 0 [] [] false aY 0 0 0 l2, .int .u32 a0, .int .i64 4]);
  let x10 : List AV := ak (x9.getD 0 .dead);
  let x11 : List AV := ak (x10.getD 0 .dead);
  let x12 : Bool := au (x11.getD 0 .dead);
  let x13 : List AV := ak (x11.getD 1 .dead);
  let x14 : Int := aj (x13.getD 0 .dead);
  let x15 : List AV := ak (x13.getD 1 .dead);
  let x16 : List AV := ak (x13.getD 2 .dead);
  let x17 : Bool := au (x13.getD 3 .dead);
  let x18 : Bool := au (x13.getD 4 .dead);
  let x19 : Bool := au (x13.getD 5 .dead);
  let x20 : Int := aj (x13.getD 6 .dead);
  let x21 : List AV := ak (x11.getD 2 .dead);
  let x22 : Int := aj (x21.getD 0 .dead);
  let x23 : List AV := ak (x21.getD 1 .dead);
  let x24 : List AV := ak (x21.getD 2 .dead);
  let x25 : Bool := au (x21.getD 3 .dead);
  let x26 : Bool := au (x21.getD 4 .dead);
  let x27 : Bool := au (x21.getD 5 .dead);
  let x28 : Int := aj (x21.getD 6 .dead);
  let x29 : Int := aj (x11.getD 3 .dead);
  let x30 : List AV := av (x11.getD 4 .dead);
  let x31 : List AV := av (x11.getD 5 .dead);
  let x32 : Bool := au (x11.getD 6 .dead);
  let x33 : List AV := ak (x11.getD 7 .dead);
  let x34 : Bool := au (x33.getD 0 .dead);
  let x35 : Int := aj (x33.getD 1 .dead);
  let x36 : Int := aj (x33.getD 2 .dead);
  let x37 : Int := aj (x11.getD 8 .dead);
  let x38 : Int := aj (x11.getD 9 .dead);
  let x39 : Int := aj (x11.getD 10 .dead);
  let x40 : List AV := av ((ak (x10.getD 1 .dead)).getD 0 .dead);
  let x41 : Int := aj (x9.getD 1 .dead);
  let x42 : Int := aj (x9.getD 2 .dead);
  let x43 : List AV := ak ((ak (ay F 24 [aN x12 x14 x15 x16 x17 x18 x19 x20 x22 x23 x24 x25 x26 x27 x28 x29 x30 x31 x32 x34 x35 x36 x37 x38 x39 x40, .int .i64 x42, .int .u32 a0, .int .u32 a0])).getD 0 .dead);
  let x44 : List AV := ak (x43.getD 1 .dead);
  let x45 : List AV := ak (x43.getD 2 .dead);
  let x46 : List AV := ak (x43.getD 7 .dead);
  let x47 : List AV := ak (ay F 26 [aN x12 x14 x15 x16 x17 x18 x19 x20 x22 x23 x24 x25 x26 x27 x28 x29 x30 x31 x32 x34 x35 x36 x37 x38 x39 x40, .int .i64 x41, .int .i64 4]);
  let x48 : List AV := ak (x47.getD 0 .dead);
  let x49 : Bool := au (x48.getD 0 .dead);
  let x50 : List AV := ak (x48.getD 1 .dead);
  let x51 : List AV := ak (x48.getD 2 .dead);
  let x52 : Int := aj (x51.getD 0 .dead);
  let x53 : List AV := ak (x51.getD 1 .dead);
  let x54 : List AV := ak (x51.getD 2 .dead);
  let x55 : Bool := au (x51.getD 3 .dead);
  let x56 : Bool := au (x51.getD 4 .dead);
  let x57 : Bool := au (x51.getD 5 .dead);
  let x58 : Int := aj (x51.getD 6 .dead);
  let x59 : List AV := av (x48.getD 4 .dead);
  let x60 : List AV := av (x48.getD 5 .dead);
  let x61 : Bool := au (x48.getD 6 .dead);
  let x62 : List AV := ak (x48.getD 7 .dead);
  let x63 : Bool := au (x62.getD 0 .dead);
  let x64 : Int := aj (x62.getD 1 .dead);
  let x65 : Int := aj (x62.getD 2 .dead);
  let x66 : Int := aj (x48.getD 8 .dead);
  let x67 : Int := aj (x48.getD 9 .dead);
  let x68 : Int := aj (x48.getD 10 .dead);
  let x69 : List AV := av ((ak (x47.getD 1 .dead)).getD 0 .dead);
  let x70 : Int := aj ((ak (ay F 27 [aC x69, .int .i64 x41, .int .i64 4])).getD 0 .dead);
  let x71 : List AV := ak (ay F 28 [.int .u32 x70]);
  let x72 : List AV := ak (x71.getD 0 .dead);
  let x73 : Int := aj (x72.getD 0 .dead);
  let x74 : Int := aj (x72.getD 1 .dead);
  let x75 : Int := aj (x72.getD 2 .dead);
  let x76 : Int := aj (x72.getD 3 .dead);
  let x77 : Int := aj (x72.getD 4 .dead);
  let x78 : Bool := !(au (x71.getD 1 .dead));
  let x79 : List AV := ak ((ak (ay F 24 [aN x49 (aj (x50.getD 0 .dead)) (ak (x50.getD 1 .dead)) (ak (x50.getD 2 .dead)) (au (x50.getD 3 .dead)) (au (x50.getD 4 .dead)) (au (x50.getD 5 .dead)) (aj (x50.getD 6 .dead)) x52 x53 x54 x55 x56 x57 x58 x70 x59 x60 x61 x63 x64 x65 x66 x67 x68 x69, .int .i64 2, .int .u32 x70, .int .u32 a0])).getD 0 .dead);
  let x80 : List AV := ak (x79.getD 1 .dead);
  let x81 : List AV := ak (x79.getD 2 .dead);
  let x82 : List AV := ak (x79.getD 7 .dead);
  let x83 : List AV := ak ((ak (ay F 31 [aN x49 (IntKind.u32.wrap (a0 + 4)) l0 l1 b0 false b2 (IntKind.i64.wrap (a1 + 1)) x52 x53 x54 x55 x56 x57 x58 x70 x59 x60 x61 x63 x64 x65 x66 x67 x68 x69, bE x73 x74 x75 x76 x77])).getD 0 .dead);
  let x84 : List AV := ak (x83.getD 1 .dead);
  let x85 : List AV := ak (x83.getD 2 .dead);
  let x86 : List AV := ak (x83.getD 7 .dead);
  let x87 : List AV := ak ((ak (ay F 32 [aN x49 (IntKind.u32.wrap (a0 + 4)) l0 l1 b0 false b2 (IntKind.i64.wrap (a1 + 1)) x52 x53 x54 x55 x56 x57 x58 x70 x59 x60 x61 x63 x64 x65 x66 x67 x68 x69, bE x73 x74 x75 x76 x77, .int .u32 a2])).getD 0 .dead);
  let x88 : List AV := ak (x87.getD 1 .dead);
  let x89 : List AV := ak (x87.getD 2 .dead);
  let x90 : List AV := ak (x87.getD 7 .dead);
  cond (aA Pg F 22 [aD a0 l0 l1 b0 b1 b2 a1, .int .u32 a2])
   (cond (!(au (ay F 22 [aD a0 l0 l1 b0 b1 b2 a1, .int .u32 a2])))
    (some (xw false a0 l0 l1 b0 b1 b2 a1 gy 0 [] [] false aY 0 0 0))
    (cond (aA Pg F 23 [aD a0 l0 l1 b0 b1 b2 a1, .int .u32 a2])
     (cond (au (x0.getD 1 .dead))
      (cond (aA Pg F 24 [vD true gy a0 l0 l1 b0 b1 b2 a1 0 [] [] false aY 0 0 0 l2, .int .i64 (IntKind.i64.wrap (16 + (aj (x0.getD 0 .dead)))), .int .u32 0, .int .u32 a0])
       (some (dI (au (x1.getD 0 .dead)) (aj (x2.getD 0 .dead)) (ak (x2.getD 1 .dead)) (ak (x2.getD 2 .dead)) (au (x2.getD 3 .dead)) (au (x2.getD 4 .dead)) (au (x2.getD 5 .dead)) (aj (x2.getD 6 .dead)) (aj (x3.getD 0 .dead)) (ak (x3.getD 1 .dead)) (ak (x3.getD 2 .dead)) (au (x3.getD 3 .dead)) (au (x3.getD 4 .dead)) (au (x3.getD 5 .dead)) (aj (x3.getD 6 .dead)) (aj (x1.getD 3 .dead)) (av (x1.getD 4 .dead)) (av (x1.getD 5 .dead)) (au (x1.getD 6 .dead)) (au (x4.getD 0 .dead)) (aj (x4.getD 1 .dead)) (aj (x4.getD 2 .dead)) (aj (x1.getD 8 .dead)) (aj (x1.getD 9 .dead)) (aj (x1.getD 10 .dead))))
       (none))
      (cond ((a0.tmod 4) != 0)
       (cond (aA Pg F 24 [vD true gy a0 l0 l1 b0 b1 b2 a1 0 [] [] false aY 0 0 0 l2, .int .i64 3, .int .u32 a0, .int .u32 a0])
        (some (dI (au (x5.getD 0 .dead)) (aj (x6.getD 0 .dead)) (ak (x6.getD 1 .dead)) (ak (x6.getD 2 .dead)) (au (x6.getD 3 .dead)) (au (x6.getD 4 .dead)) (au (x6.getD 5 .dead)) (aj (x6.getD 6 .dead)) (aj (x7.getD 0 .dead)) (ak (x7.getD 1 .dead)) (ak (x7.getD 2 .dead)) (au (x7.getD 3 .dead)) (au (x7.getD 4 .dead)) (au (x7.getD 5 .dead)) (aj (x7.getD 6 .dead)) (aj (x5.getD 3 .dead)) (av (x5.getD 4 .dead)) (av (x5.getD 5 .dead)) (au (x5.getD 6 .dead)) (au (x8.getD 0 .dead)) (aj (x8.getD 1 .dead)) (aj (x8.getD 2 .dead)) (aj (x5.getD 8 .dead)) (aj (x5.getD 9 .dead)) (aj (x5.getD 10 .dead))))
        (none))
       (cond (aA Pg F 25 [vD true gy a0 l0 l1 b0 b1 b2 a1 0 [] [] false aY 0 0 0 l2, .int .u32 a0, .int .i64 4])
        (cond (x42 != 0)
         (cond (aA Pg F 24 [aN x12 x14 x15 x16 x17 x18 x19 x20 x22 x23 x24 x25 x26 x27 x28 x29 x30 x31 x32 x34 x35 x36 x37 x38 x39 x40, .int .i64 x42, .int .u32 a0, .int .u32 a0])
          (some (dI (au (x43.getD 0 .dead)) (aj (x44.getD 0 .dead)) (ak (x44.getD 1 .dead)) (ak (x44.getD 2 .dead)) (au (x44.getD 3 .dead)) (au (x44.getD 4 .dead)) (au (x44.getD 5 .dead)) (aj (x44.getD 6 .dead)) (aj (x45.getD 0 .dead)) (ak (x45.getD 1 .dead)) (ak (x45.getD 2 .dead)) (au (x45.getD 3 .dead)) (au (x45.getD 4 .dead)) (au (x45.getD 5 .dead)) (aj (x45.getD 6 .dead)) (aj (x43.getD 3 .dead)) (av (x43.getD 4 .dead)) (av (x43.getD 5 .dead)) (au (x43.getD 6 .dead)) (au (x46.getD 0 .dead)) (aj (x46.getD 1 .dead)) (aj (x46.getD 2 .dead)) (aj (x43.getD 8 .dead)) (aj (x43.getD 9 .dead)) (aj (x43.getD 10 .dead))))
          (none))
         (cond (aA Pg F 26 [aN x12 x14 x15 x16 x17 x18 x19 x20 x22 x23 x24 x25 x26 x27 x28 x29 x30 x31 x32 x34 x35 x36 x37 x38 x39 x40, .int .i64 x41, .int .i64 4])
          (cond (aA Pg F 27 [aC x69, .int .i64 x41, .int .i64 4])
           (cond (aA Pg F 28 [.int .u32 x70])
            (cond (bT x78 true (bT b0 (cond (aA Pg F 29 [.int .i64 x73]) true false) true))
             (cond (cond x78 true (cond b0 (au (ay F 29 [.int .i64 x73])) false))
              (cond (aA Pg F 24 [aN x49 (aj (x50.getD 0 .dead)) (ak (x50.getD 1 .dead)) (ak (x50.getD 2 .dead)) (au (x50.getD 3 .dead)) (au (x50.getD 4 .dead)) (au (x50.getD 5 .dead)) (aj (x50.getD 6 .dead)) x52 x53 x54 x55 x56 x57 x58 x70 x59 x60 x61 x63 x64 x65 x66 x67 x68 x69, .int .i64 2, .int .u32 x70, .int .u32 a0])
               (some (dI (au (x79.getD 0 .dead)) (aj (x80.getD 0 .dead)) (ak (x80.getD 1 .dead)) (ak (x80.getD 2 .dead)) (au (x80.getD 3 .dead)) (au (x80.getD 4 .dead)) (au (x80.getD 5 .dead)) (aj (x80.getD 6 .dead)) (aj (x81.getD 0 .dead)) (ak (x81.getD 1 .dead)) (ak (x81.getD 2 .dead)) (au (x81.getD 3 .dead)) (au (x81.getD 4 .dead)) (au (x81.getD 5 .dead)) (aj (x81.getD 6 .dead)) (aj (x79.getD 3 .dead)) (av (x79.getD 4 .dead)) (av (x79.getD 5 .dead)) (au (x79.getD 6 .dead)) (au (x82.getD 0 .dead)) (aj (x82.getD 1 .dead)) (aj (x82.getD 2 .dead)) (aj (x79.getD 8 .dead)) (aj (x79.getD 9 .dead)) (aj (x79.getD 10 .dead))))
               (none))
              (cond (aA Pg F 30 [.int .i64 x73])
               (cond ((aj ((ak (ay F 30 [.int .i64 x73])).getD 0 .dead)) != 0)
                (cond (aA Pg F 31 [aN x49 (IntKind.u32.wrap (a0 + 4)) l0 l1 b0 false b2 (IntKind.i64.wrap (a1 + 1)) x52 x53 x54 x55 x56 x57 x58 x70 x59 x60 x61 x63 x64 x65 x66 x67 x68 x69, bE x73 x74 x75 x76 x77])
                 (some (dI (au (x83.getD 0 .dead)) (aj (x84.getD 0 .dead)) (ak (x84.getD 1 .dead)) (ak (x84.getD 2 .dead)) (au (x84.getD 3 .dead)) (au (x84.getD 4 .dead)) (au (x84.getD 5 .dead)) (aj (x84.getD 6 .dead)) (aj (x85.getD 0 .dead)) (ak (x85.getD 1 .dead)) (ak (x85.getD 2 .dead)) (au (x85.getD 3 .dead)) (au (x85.getD 4 .dead)) (au (x85.getD 5 .dead)) (aj (x85.getD 6 .dead)) (aj (x83.getD 3 .dead)) (av (x83.getD 4 .dead)) (av (x83.getD 5 .dead)) (au (x83.getD 6 .dead)) (au (x86.getD 0 .dead)) (aj (x86.getD 1 .dead)) (aj (x86.getD 2 .dead)) (aj (x83.getD 8 .dead)) (aj (x83.getD 9 .dead)) (aj (x83.getD 10 .dead))))
                 (none))
                (cond (aA Pg F 32 [aN x49 (IntKind.u32.wrap (a0 + 4)) l0 l1 b0 false b2 (IntKind.i64.wrap (a1 + 1)) x52 x53 x54 x55 x56 x57 x58 x70 x59 x60 x61 x63 x64 x65 x66 x67 x68 x69, bE x73 x74 x75 x76 x77, .int .u32 a2])
                 (some (dI (au (x87.getD 0 .dead)) (aj (x88.getD 0 .dead)) (ak (x88.getD 1 .dead)) (ak (x88.getD 2 .dead)) (au (x88.getD 3 .dead)) (au (x88.getD 4 .dead)) (au (x88.getD 5 .dead)) (aj (x88.getD 6 .dead)) (aj (x89.getD 0 .dead)) (ak (x89.getD 1 .dead)) (ak (x89.getD 2 .dead)) (au (x89.getD 3 .dead)) (au (x89.getD 4 .dead)) (au (x89.getD 5 .dead)) (aj (x89.getD 6 .dead)) (aj (x87.getD 3 .dead)) (av (x87.getD 4 .dead)) (av (x87.getD 5 .dead)) (au (x87.getD 6 .dead)) (au (x90.getD 0 .dead)) (aj (x90.getD 1 .dead)) (aj (x90.getD 2 .dead)) (aj (x87.getD 8 .dead)) (aj (x87.getD 9 .dead)) (aj (x87.getD 10 .dead))))
                 (none)))
               (none)))
             (none))
            (none))
           (none))
          (none)))
        (none))))
     (none)))
   (none)) := by kernel_rfl
theorem Y0 (F : Tab) (b0 : Bool) (a0 : Int) (l0 l1 : List AV) (b1 b2 b3 : Bool) (a1 a2 : Int) (l2 l3 : List AV) (b4 b5 b6 : Bool) (a3 a4 : Int) (l4 l5 : List AV) (b7 b8 : Bool) (a5 a6 a7 a8 a9 a10 : Int) (b9 : Bool) : aO (cx F) 6 11 [dI b0 a0 l0 l1 b1 b2 b3 a1 a2 l2 l3 b4 b5 b6 a3 a4 l4 l5 b7 b8 a5 a6 a7 a8 a9, .int .u32 a10, .bool b9] =
 (let x0 : Int := aj ((ak ((fG (ay F 33 [.int .u32 a4])).getD 0 .dead)).getD 1 .dead);
  let x1 : List AV := ak (ay F 34 [aD a2 l2 l3 b4 b5 b6 a3, dM 2 a4 a2]);
  cond (!b7)
   (some (dI b0 a0 l0 l1 b1 b2 b3 a1 a2 l2 l3 b4 b5 b6 a3 a4 l4 l5 b7 b8 a5 a6 a7 a8 a9))
   (cond (aA Pg F 33 [.int .u32 a4])
    (cond (!b9)
     (cond (aA Pg F 34 [aD a2 l2 l3 b4 b5 b6 a3, dM 2 a4 a2])
      (some (oW b0 (aj (x1.getD 0 .dead)) (ak (x1.getD 1 .dead)) (ak (x1.getD 2 .dead)) (au (x1.getD 3 .dead)) (au (x1.getD 4 .dead)) (au (x1.getD 5 .dead)) (aj (x1.getD 6 .dead)) a2 l2 l3 b4 b5 b6 a3 a4 l4 l5 false aY a7 a8 2))
      (none))
     (cond (cond b8 (x0 != 0) false)
      (cond (aM x0 16)
       (some (oW b0 a0 (l0.set x0.toNat (.int .u32 a10)) l1 b1 b2 b3 a1 a2 l2 l3 b4 b5 b6 a3 a4 l4 l5 false aY a7 a8 a9))
       (none))
      (some (oW b0 a0 l0 l1 b1 b2 b3 a1 a2 l2 l3 b4 b5 b6 a3 a4 l4 l5 false aY a7 a8 a9))))
    (none))) := by kernel_rfl
theorem Rq (F : Tab) (a0 : Int) (l0 l1 : List AV) (b0 b1 b2 : Bool) (a1 : Int) : aO (cx F) 6 16 [aD a0 l0 l1 b0 b1 b2 a1] =
 some (.bool (cond ((aj (l0.getD 0 .dead)) == 0) (cond (decide ((aj (l1.getD 5 .dead)) <= 7)) (cond ((aj (l1.getD 7 .dead)) == 0) (cond (decide ((aj (l1.getD 8 .dead)) <= 3)) (cond (decide ((0 : Int) <= a1)) (cond (decide (a1 <= 1099511627776)) (cond (!b1) true (!b2)) false) false) false) false) false) false)) := by kernel_rfl
theorem Y8 (F : Tab) (l0 : List AV) : aO (cx F) 6 17 [aC l0] =
 some (.bool (cond (decide ((1 : Int) <= ((l0.length : Nat) : Int))) (decide (((l0.length : Nat) : Int) <= 64)) false)) := by kernel_rfl
theorem Ws (F : Tab) (a0 a1 : Int) : aO (cx F) 6 18 [.int .i64 a0, .int .u32 a1] =
 some (.agg 25 [.int .u32 a1, zz2, .agg 24 [.int .u32 0, .int .u32 0, .int .u32 0, .int .u32 0, .int .u32 0, .int .u32 0, .int .u32 0, .int .u32 0, .int .u32 (IntKind.u32.wrap a0)], .bool false, .bool (a0 != 0), .bool false, .int .i64 0]) := by kernel_rfl
end Go.Proofs.YtcknhfnbdgleiaaGreat
