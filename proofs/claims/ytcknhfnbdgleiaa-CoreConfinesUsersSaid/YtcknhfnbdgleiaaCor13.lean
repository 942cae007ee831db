/- A step that loads or stores. -/
import Derived.Test.YtcknhfnbdgleiaaCor12
set_option linter.unusedVariables false
set_option linter.unusedSimpArgs false
namespace Go.Proofs.Ytcknhfnbdgleiaa
open Go.AE
def Kc (c : Cp) (pc : Nat) (r : List Nat) (p : Pt') (w : Nat) (i : In) : LO :=
 ⟨3, [(pc : Int), ((c.count + 1 : Nat) : Int), (pc : Int), ((c.count + 1 : Nat) : Int), (w : Int), 0, 0, 0, 0, 0, (i.op : Int), (i.a : Int), (i.b : Int), (i.c : Int), i.aG], [c.user, false, c.halts, c.user, false, c.halts, false, false], [r.map uv, c.c.map uv, p.m.map pg, r.map uv, c.c.map uv, p.ws.map wv, p.ac.map bI], [], [], []⟩
def EH (pc : Nat) (r : List Nat) (p : Pt') (w : Nat) (i : In) : LO := ⟨4, [(pc : Int), (pc : Int), (w : Int), (i.op : Int), (i.a : Int), (i.b : Int), (i.c : Int), i.aG], [], [r.map uv, p.m.map pg, r.map uv, p.ws.map wv, p.ac.map bI], [], [], []⟩
def JV (x : Cp) (pc : Nat) (p : Pt') (w cause : Nat) (i : In) (r : List AV) : LO := ⟨2, [(pc : Int), (x.pc : Int), (x.count : Int), (w : Int), (cause : Int), (i.op : Int), (i.a : Int), (i.b : Int), (i.c : Int), i.aG], [x.user, x.waits, x.halts], [p.m.map pg, x.r.map uv, x.c.map uv, p.ws.map wv, p.ac.map bI], [], [], []⟩
theorem D5 (op : Nat) : (eG op).1 <= 3 /\ ((eG op).1 ≠ 0 -> (eG op).2 = 1 \/ (eG op).2 = 4) := by
 unfold eG
 repeat' split
 all_goals simp
theorem Sd {m : av} (w : Wm m) (c : List Nat) (pc : Nat) (user : Bool) : Wm (eD m c pc user).m /\ (eD m c pc user).m.length = m.length /\ (eD m c pc user).ws.length <= 1 /\ (eD m c pc user).ac.length <= 4 := by
 have ok := jw w (ru c 0) pc 4 user
 have s := oV (bW m c pc user).set' w (fun y hy => (ok.set y hy).1)
 have h1 : (bW m c pc user).reads.length <= 2 := ok.few
 have h2 : (bW m c pc user).set'.length <= 1 := ok.one
 refine ⟨s.1, s.2, ?_, ?_⟩
 . show ([] ++ (bW m c pc user).set').length <= 1
   simpa using h2
 . show (bB [] (bW m c pc user).reads ++ dw (bW m c pc user).set' ++ [_]).length <= 4
   simp [bB, dw]; omega
theorem VJ (k : Nat) {c : Cp} (w : Wc c) (hc : c.count < 1099511627776) {m : av} (wm : Wm m) (p : Nat) (hp : p < 4294967296) (hd : due c p = none) (h0 : c.pc % 4 = 0) (h1 : (bW m c.c c.pc c.user).cause = 0) (h2 : legal m c.c c.pc c.user = true)
    (i : In) (hi : bN (word m c.c c.pc c.user) = i) (kind size : Nat) (hk : eG i.op = (kind, size)) (hk0 : kind ≠ 0) :
    jQ k c m p = (let q := eD m c.c c.pc c.user; let wd := word m c.c c.pc c.user; let va := bD c.r i; let W := fI q c.c c.user va kind; let p1 := kI q W; let n := W.at'.toNat; let pc4 := u32 ((c.pc : Int) + 4)
     cond (va % size == 0) (cond (W.cause == 0)
      (cond (kind == 2) (EH pc4 c.r (stP p1 ⟨n, size, ru c.r i.a⟩) wd i) (cond (kind == 1) (Kc c pc4 (dI c.r i.a (gG p1.m n size)) (kG p1 n size) wd i) (EH pc4 (dI c.r i.a (gG p1.m n size)) (stP (kG p1 n size) ⟨n, size, ru c.r i.a⟩) wd i)))
      (JV (cB c W.cause va c.pc) pc4 p1 wd W.cause i [])) (Dv c (cB c 3 va c.pc) pc4 q wd 3 i)) := by
 have r1 := Ay (k + 4) w p hp
 rw [hd] at r1
 have hf := fetch (k + 1) wm c.pc w.pc c.c w.cl w.c c.user c.pc (c.r.map uv) (c.c.map uv) c.user c.waits c.halts c.count (m.map pg) c.pc (c.r.map uv) (c.c.map uv) c.halts ((c.count + 1 : Nat) : Int) p (c.r.map uv) c.waits c.halts c.count
 have ra := Ox (k + 4) i.op
 rw [hk] at ra
 have hkk := D5 i.op
 rw [hk] at hkk
 have hregs := EO (word m c.c c.pc c.user)
 rw [hi] at hregs
 obtain ⟨q1, q2, q3, q4⟩ := Sd wm c.c c.pc c.user
 have hq := access (k + 2) (eD m c.c c.pc c.user) q1 (by omega) (by omega) c.r c.c w.rl w.r w.cl w.c c.user i hregs.1 hregs.2.1 kind size ⟨by omega, hkk.1⟩ (hkk.2 hk0)
  c.pc (c.r.map uv) (c.c.map uv) c.user c.waits c.halts c.count (m.map pg) ((u32 ((c.pc : Int) + 4) : Nat) : Int) (c.c.map uv) c.user c.halts ((c.count + 1 : Nat) : Int) p c.pc (c.r.map uv) c.waits c.halts c.count (word m c.c c.pc c.user : Int) i.op i.c
 unfold jQ bQ uG
 simp only [Tr.eval, r1.ok, r1.val, tO, g0, g1, iO, bO, Option.isSome_none, cond_true, cond_false, hf]
 unfold wR
 rw [beq_iff_eq.mpr h0, beq_iff_eq.mpr h1, h2]
 simp only [hi, tJ, jL, cond_true, cond_false, List.getD_cons_zero, List.getD_cons_succ, show ((3 : Nat) == 1) = false from rfl, show ((3 : Nat) == 2) = false from rfl, show ((3 : Nat) == 3) = true from rfl, ra.ok, ra.val, tO, g0, g1, iO, nM ((c.pc : Int) + 4),
  show (((kind : Nat) : Int) != 0) = !(kind == 0) from dX _ 0, beq_eq_false_iff_ne.mpr hk0, Bool.not_false, hq]
 have hva : bD c.r i < 4294967296 := iQ _
 have r2 := lG (k + 3) w (by omega) 3 (bD c.r i) c.pc (by omega)
 simp only [show ((3 : Nat) : Int) = 3 from rfl] at r2
 have hW7 : (fI (eD m c.c c.pc c.user) c.c c.user (bD c.r i) kind).cause < 7 := (jw q1 _ _ _ _).cause
 have r3 := lG (k + 3) w (by omega) (fI (eD m c.c c.pc c.user) c.c c.user (bD c.r i) kind).cause (bD c.r i) c.pc (by omega)
 unfold Fp
 dsimp only
 cases hm : bD c.r i % size == 0 with
 | false =>
  simp only [cond_false, cond_true, List.getD_cons_zero, List.getD_cons_succ, show ((1 : Nat) == 1) = true from rfl, r2.ok, r2.val, mO, g0, g1, g2, g3, g4, iO, bO, pO]
  rfl
 | true =>
 cases hW : (fI (eD m c.c c.pc c.user) c.c c.user (bD c.r i) kind).cause == 0 with
 | false =>
  simp only [jL, cond_false, cond_true, List.cons_append, List.nil_append, List.getD_cons_zero, List.getD_cons_succ, show ((5 : Nat) == 1) = false from rfl, show ((5 : Nat) == 2) = false from rfl, show ((5 : Nat) == 3) = false from rfl, show ((5 : Nat) == 4) = false from rfl, show ((5 : Nat) == 5) = true from rfl, r3.ok, r3.val, mO, g0, g1, g2, g3, g4, iO, bO, pO]
  rfl
 | true =>
  cases kind == 2
  . cases kind == 1 <;> rfl
  . rfl
end Go.Proofs.Ytcknhfnbdgleiaa
