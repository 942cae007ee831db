/- A step that touches no memory. -/
import Derived.Test.YtcknhfnbdgleiaaCor13
set_option linter.unusedVariables false
set_option linter.unusedSimpArgs false
namespace Go.Proofs.Ytcknhfnbdgleiaa
open Go.AE
def nS (x y : Cp) (p : Pt') (w : Nat) (i : In) (port val fl flAt trap : Int) (asks ioIn : Bool) : LO :=
 ⟨3, [(x.pc : Int), (x.count : Int), (y.pc : Int), (y.count : Int), (w : Int), port, val, fl, flAt, trap, (i.op : Int), (i.a : Int), (i.b : Int), (i.c : Int), i.aG], [x.user, x.waits, x.halts, y.user, y.waits, y.halts, asks, ioIn], [x.r.map uv, x.c.map uv, p.m.map pg, y.r.map uv, y.c.map uv, p.ws.map wv, p.ac.map bI], [], [], []⟩
def BF (c : Cp) (q : Pt') (w : Nat) (i : In) (p : Nat) : LO :=
 let x := dQ c
 cond (decide (28 <= i.op /\ i.op <= 31)) (nS { x with pc := pR c.r i x.pc c.pc } { x with pc := pR c.r i x.pc c.pc } q w i 0 0 0 0 0 false false)
 (cond (decide (i.op = 32 \/ i.op = 33)) (nS { x with pc := oU c.r i c.pc, r := dI c.r i.a (u32 ((c.pc : Int) + 4)) } { x with pc := oU c.r i c.pc, r := dI c.r i.a (u32 ((c.pc : Int) + 4)) } q w i 0 0 0 0 0 false false)
 (cond (decide (i.op = 42 \/ i.op = 43)) (cond ((iF x i p).2 == 0) (nS (iF x i p).1 (iF x i p).1 q w i 0 0 0 0 0 false false) (nS (iF x i p).1 (cB c 2 w c.pc) q w i 0 0 0 0 2 false false))
 (cond (i.op == 44) (nS x x q w i 0 0 (cond (i.b == 0) 2 1) (cond (i.b == 0) 0 (ru c.r i.b : Nat)) 0 false false)
 (cond (decide (i.op = 46 \/ i.op = 47)) (nS x x q w i i.aG (cond (i.op == 46) 0 (ru c.r i.a : Nat)) 0 0 0 true (i.op == 46))
 (cond (i.op == 40) (nS x (cB c 1 0 (u32 ((c.pc : Int) + 4))) q w i 0 0 0 0 1 false false) (nS (mK x i) (mK x i) q w i 0 0 0 0 0 false false))))))
theorem Fh {c : Cp} (w : Wc c) : Wc (dQ c) := ⟨(show u32 ((c.pc : Int) + 4) < 4294967296 from iQ _), w.rl, w.cl, w.r, w.c⟩
theorem Uy (k : Nat) {c : Cp} (w : Wc c) (hc : c.count < 1099511627776) {m : av} (wm : Wm m) (p : Nat) (hp : p < 4294967296) (hd : due c p = none) (h0 : c.pc % 4 = 0) (h1 : (bW m c.c c.pc c.user).cause = 0) (h2 : legal m c.c c.pc c.user = true)
    (i : In) (hi : bN (word m c.c c.pc c.user) = i) (hk : (eG i.op).1 = 0) :
    jQ k c m p = BF c (eD m c.c c.pc c.user) (word m c.c c.pc c.user) i p := by
 have r1 := Ay (k + 4) w p hp
 rw [hd] at r1
 have hf := fetch (k + 1) wm c.pc w.pc c.c w.cl w.c c.user c.pc (c.r.map uv) (c.c.map uv) c.user c.waits c.halts c.count (m.map pg) c.pc (c.r.map uv) (c.c.map uv) c.halts ((c.count + 1 : Nat) : Int) p (c.r.map uv) c.waits c.halts c.count
 have ra := Ox (k + 4) i.op
 rw [hk] at ra
 have hregs := EO (word m c.c c.pc c.user)
 rw [hi] at hregs
 have hw : word m c.c c.pc c.user < 4294967296 := by
  have ok := jw wm (ru c.c 0) c.pc 4 c.user
  exact vJ (oV _ wm (fun y hy => (ok.set y hy).1)).1 _ _
 have b1 := fun i0 l0 l1 b0 b1 b2 i1 l2 l4 b3 b4 i3 l5 i4 l6 l7 b5 b6 b7 i6 i7 l8 l9 => branch (k + 2) c.r w.rl i hregs.1 hregs.2.1 (u32 ((c.pc : Int) + 4)) c.pc i0 l0 l1 b0 b1 b2 i1 l2 l4 b3 b4 i3 l5 i4 l6 l7 b5 b6 b7 i6 i7 l8 l9
 have b2 := fun i0 l0 l1 b0 b1 b2 i1 l2 l4 b3 b4 i3 l5 i4 l6 l7 b5 b6 b7 i6 i7 l8 l9 => jump (k + 2) c.r w.rl i hregs.1 hregs.2.1 (u32 ((c.pc : Int) + 4)) c.pc i0 l0 l1 b0 b1 b2 i1 l2 l4 b3 b4 i3 l5 i4 l6 l7 b5 b6 b7 i6 i7 l8 l9
 have b3 := fun i0 l0 l1 b0 b1 b2 i1 l2 l5 i5 l6 l7 b5 b6 b7 i6 i7 l8 l9 => control (k + 3) (Fh w) rfl i hregs.1 p hp i0 l0 l1 b0 b1 b2 i1 l2 l5 i5 l6 l7 b5 b6 b7 i6 i7 l8 l9
 have b4 := fun i0 l0 l1 b0 b1 b2 i1 l2 l4 b3 b4 i3 l5 i4 l6 l7 b5 b6 b7 i6 i7 l8 l9 => flush (k + 5) c.r w.rl i hregs.2.1 (u32 ((c.pc : Int) + 4)) c.pc i0 l0 l1 b0 b1 b2 i1 l2 l4 b3 b4 i3 l5 i4 l6 l7 b5 b6 b7 i6 i7 l8 l9
 have b5 := fun i0 l0 l1 b0 b1 b2 i1 l2 l4 b3 b4 i3 l5 i4 l6 l7 b5 b6 b7 i6 i7 l8 l9 => ask (k + 5) c.r w.rl i hregs.1 (u32 ((c.pc : Int) + 4)) c.pc i0 l0 l1 b0 b1 b2 i1 l2 l4 b3 b4 i3 l5 i4 l6 l7 b5 b6 b7 i6 i7 l8 l9
 have b6 := fun i0 l0 l1 b0 b1 b2 i1 l2 l5 i4 l6 l7 b5 b6 b7 i6 i7 l8 l9 => rest (k + 2) (Fh w) rfl i hregs.1 hregs.2.1 hregs.2.2 c.pc i0 l0 l1 b0 b1 b2 i1 l2 l5 i4 l6 l7 b5 b6 b7 i6 i7 l8 l9
 unfold dQ at b3 b6
 dsimp only at b3 b6
 unfold jQ bQ uG
 simp only [Tr.eval, r1.ok, r1.val, tO, g0, g1, iO, bO, Option.isSome_none, cond_true, cond_false, hf]
 unfold wR
 rw [beq_iff_eq.mpr h0, beq_iff_eq.mpr h1, h2]
 simp only [hi, tJ, jL, cond_true, cond_false, List.getD_cons_zero, List.getD_cons_succ, show ((3 : Nat) == 1) = false from rfl, show ((3 : Nat) == 2) = false from rfl, show ((3 : Nat) == 3) = true from rfl, ra.ok, ra.val, tO, g0, g1, iO, nM ((c.pc : Int) + 4),
  show (((0 : Nat) : Int) != 0) = false from rfl, b1, b2, b3, b4, b5, b6]
 have e : ∀ n : Nat, (((i.op : Nat) : Int) == (n : Int)) = (i.op == n) := fun n => bP _ n
 rw [show (((i.op : Nat) : Int) == 28) = (i.op == 28) from e 28, show (((i.op : Nat) : Int) == 29) = (i.op == 29) from e 29, show (((i.op : Nat) : Int) == 30) = (i.op == 30) from e 30, show (((i.op : Nat) : Int) == 31) = (i.op == 31) from e 31, show (((i.op : Nat) : Int) == 32) = (i.op == 32) from e 32, show (((i.op : Nat) : Int) == 33) = (i.op == 33) from e 33, show (((i.op : Nat) : Int) == 42) = (i.op == 42) from e 42, show (((i.op : Nat) : Int) == 43) = (i.op == 43) from e 43, show (((i.op : Nat) : Int) == 44) = (i.op == 44) from e 44, show (((i.op : Nat) : Int) == 46) = (i.op == 46) from e 46, show (((i.op : Nat) : Int) == 47) = (i.op == 47) from e 47]
 unfold BF
 dsimp only
 cases h28 : i.op == 28 with
 | true =>
  have g28' : i.op = 28 := by simpa using h28
  rw [decide_eq_true (show 28 <= i.op /\ i.op <= 31 by omega)]; rfl
 | false =>
 have n28 : i.op ≠ 28 := by simpa using h28
 cases h29 : i.op == 29 with
 | true =>
  have g29' : i.op = 29 := by simpa using h29
  rw [decide_eq_true (show 28 <= i.op /\ i.op <= 31 by omega)]; rfl
 | false =>
 have n29 : i.op ≠ 29 := by simpa using h29
 cases h30 : i.op == 30 with
 | true =>
  have g30' : i.op = 30 := by simpa using h30
  rw [decide_eq_true (show 28 <= i.op /\ i.op <= 31 by omega)]; rfl
 | false =>
 have n30 : i.op ≠ 30 := by simpa using h30
 cases h31 : i.op == 31 with
 | true =>
  have g31' : i.op = 31 := by simpa using h31
  rw [decide_eq_true (show 28 <= i.op /\ i.op <= 31 by omega)]; rfl
 | false =>
 have n31 : i.op ≠ 31 := by simpa using h31
 cases h32 : i.op == 32 with
 | true =>
  have g32' : i.op = 32 := by simpa using h32
  rw [decide_eq_false (show ¬ (28 <= i.op /\ i.op <= 31) by omega), decide_eq_true (show i.op = 32 \/ i.op = 33 by omega)]; rfl
 | false =>
 have n32 : i.op ≠ 32 := by simpa using h32
 cases h33 : i.op == 33 with
 | true =>
  have g33' : i.op = 33 := by simpa using h33
  rw [decide_eq_false (show ¬ (28 <= i.op /\ i.op <= 31) by omega), decide_eq_true (show i.op = 32 \/ i.op = 33 by omega)]; rfl
 | false =>
 have n33 : i.op ≠ 33 := by simpa using h33
 cases h42 : i.op == 42 with
 | true =>
  have g42' : i.op = 42 := by simpa using h42
  rw [decide_eq_false (show ¬ (28 <= i.op /\ i.op <= 31) by omega), decide_eq_false (show ¬ (i.op = 32 \/ i.op = 33) by omega), decide_eq_true (show i.op = 42 \/ i.op = 43 by omega)]
  have rT : Rt Pg (D (k + 5)) 119 [dH c, .agg 192 [.int .i64 2, uv (word m c.c c.pc c.user), uv c.pc]] _ := lG (k + 3) w (by omega) 2 (word m c.c c.pc c.user) c.pc (by omega)
  unfold dQ
  generalize iF { c with pc := u32 ((c.pc : Int) + 4), waits := false, count := c.count + 1 } i p = X
  unfold kX
  cases X.2 == 0 with
  | true => rfl
  | false =>
   simp only [cond_true, cond_false, List.getD_cons_zero, show ((1 : Nat) == 1) = true from rfl, rT.ok, rT.val, mO, g0, g1, g2, g3, g4, iO, bO, pO]
   rfl
 | false =>
 have n42 : i.op ≠ 42 := by simpa using h42
 cases h43 : i.op == 43 with
 | true =>
  have g43' : i.op = 43 := by simpa using h43
  rw [decide_eq_false (show ¬ (28 <= i.op /\ i.op <= 31) by omega), decide_eq_false (show ¬ (i.op = 32 \/ i.op = 33) by omega), decide_eq_true (show i.op = 42 \/ i.op = 43 by omega)]
  have rT : Rt Pg (D (k + 5)) 119 [dH c, .agg 192 [.int .i64 2, uv (word m c.c c.pc c.user), uv c.pc]] _ := lG (k + 3) w (by omega) 2 (word m c.c c.pc c.user) c.pc (by omega)
  unfold dQ
  generalize iF { c with pc := u32 ((c.pc : Int) + 4), waits := false, count := c.count + 1 } i p = X
  unfold kX
  cases X.2 == 0 with
  | true => rfl
  | false =>
   simp only [cond_true, cond_false, List.getD_cons_zero, show ((1 : Nat) == 1) = true from rfl, rT.ok, rT.val, mO, g0, g1, g2, g3, g4, iO, bO, pO]
   rfl
 | false =>
 have n43 : i.op ≠ 43 := by simpa using h43
 cases h44 : i.op == 44 with
 | true =>
  have g44' : i.op = 44 := by simpa using h44
  rw [decide_eq_false (show ¬ (28 <= i.op /\ i.op <= 31) by omega), decide_eq_false (show ¬ (i.op = 32 \/ i.op = 33) by omega), decide_eq_false (show ¬ (i.op = 42 \/ i.op = 43) by omega)]
  cases i.b == 0 <;> rfl
 | false =>
 have n44 : i.op ≠ 44 := by simpa using h44
 cases h46 : i.op == 46 with
 | true =>
  have g46' : i.op = 46 := by simpa using h46
  rw [decide_eq_false (show ¬ (28 <= i.op /\ i.op <= 31) by omega), decide_eq_false (show ¬ (i.op = 32 \/ i.op = 33) by omega), decide_eq_false (show ¬ (i.op = 42 \/ i.op = 43) by omega), decide_eq_true (show i.op = 46 \/ i.op = 47 by omega)]; rfl
 | false =>
 have n46 : i.op ≠ 46 := by simpa using h46
 cases h47 : i.op == 47 with
 | true =>
  have g47' : i.op = 47 := by simpa using h47
  rw [decide_eq_false (show ¬ (28 <= i.op /\ i.op <= 31) by omega), decide_eq_false (show ¬ (i.op = 32 \/ i.op = 33) by omega), decide_eq_false (show ¬ (i.op = 42 \/ i.op = 43) by omega), decide_eq_true (show i.op = 46 \/ i.op = 47 by omega)]; rfl
 | false =>
 have n47 : i.op ≠ 47 := by simpa using h47
 rw [decide_eq_false (show ¬ (28 <= i.op /\ i.op <= 31) by omega), decide_eq_false (show ¬ (i.op = 32 \/ i.op = 33) by omega), decide_eq_false (show ¬ (i.op = 42 \/ i.op = 43) by omega), decide_eq_false (show ¬ (i.op = 46 \/ i.op = 47) by omega)]
 have rT : Rt Pg (D (k + 5)) 119 [dH c, .agg 192 [.int .i64 1, .int .u32 0, uv (u32 ((c.pc : Int) + 4))]] _ := lG (k + 3) w (by omega) 1 0 (u32 ((c.pc : Int) + 4)) (by omega)
 unfold Gj
 cases h40 : i.op == 40 with
 | false => rfl
 | true =>
  simp only [cond_true, cond_false, List.getD_cons_zero, show ((2 : Nat) == 1) = false from rfl, show ((2 : Nat) == 2) = true from rfl, rT.ok, rT.val, mO, g0, g1, g2, g3, g4, iO, bO, pO]
  rfl
end Go.Proofs.Ytcknhfnbdgleiaa
