/- A step that loads or stores. -/
import Derived.Test.YtcknhfnbdgleiaaCor12
set_option linter.unusedVariables false
set_option linter.unusedSimpArgs false
namespace Go.Proofs.Ytcknhfnbdgleiaa
open Go.AE

/-- Done, as a load leaves it. -/
def okLO3 (c : Cp) (pc : Nat) (r : List Nat) (p : Pt') (w : Nat) (i : In) : LO :=
 ⟨3, [(pc : Int), ((c.count + 1 : Nat) : Int), (pc : Int), ((c.count + 1 : Nat) : Int), (w : Int), 0, 0, 0, 0, 0, (i.op : Int), (i.a : Int), (i.b : Int), (i.c : Int), i.imm], [c.user, false, c.halts, c.user, false, c.halts, false, false], [r.map uv, c.c.map uv, p.m.map pg, r.map uv, c.c.map uv, p.ws.map wv, p.ac.map acv], [], [], []⟩
/-- Done, as a store leaves it. -/
def QG (pc : Nat) (r : List Nat) (p : Pt') (w : Nat) (i : In) : LO := ⟨4, [(pc : Int), (pc : Int), (w : Int), (i.op : Int), (i.a : Int), (i.b : Int), (i.c : Int), i.imm], [], [r.map uv, p.m.map pg, r.map uv, p.ws.map wv, p.ac.map acv], [], [], []⟩
def O7 (x : Cp) (pc : Nat) (p : Pt') (w cause : Nat) (i : In) (r : List AV) : LO := ⟨2, [(pc : Int), (x.pc : Int), (x.count : Int), (w : Int), (cause : Int), (i.op : Int), (i.a : Int), (i.b : Int), (i.c : Int), i.imm], [x.user, x.waits, x.halts], [p.m.map pg, x.r.map uv, x.c.map uv, p.ws.map wv, p.ac.map acv], [], [], []⟩
theorem NP (op : Nat) : (accK op).1 ≤ 3 ∧ ((accK op).1 ≠ 0 → (accK op).2 = 1 ∨ (accK op).2 = 4) := by
 unfold accK
 repeat' split
 all_goals simp
theorem Qp {m : Pgs} (w : Wm m) (c : List Nat) (pc : Nat) (user : Bool) : Wm (fetQ m c pc user).m ∧ (fetQ m c pc user).m.length = m.length ∧ (fetQ m c pc user).ws.length ≤ 1 ∧ (fetQ m c pc user).ac.length ≤ 4 := by
 have ok := sI w (ru c 0) pc 4 user
 have s := Ej (fetW m c pc user).set' w (fun y hy => (ok.set y hy).1)
 have h1 : (fetW m c pc user).reads.length ≤ 2 := ok.few
 have h2 : (fetW m c pc user).set'.length ≤ 1 := ok.one
 refine ⟨s.1, s.2, ?_, ?_⟩
 · show ([] ++ (fetW m c pc user).set').length ≤ 1
   simpa using h2
 · show (rds [] (fetW m c pc user).reads ++ acs (fetW m c pc user).set' ++ [_]).length ≤ 4
   simp [rds, acs]; omega
theorem do_mem (k : Nat) {c : Cp} (w : Wc c) (hc : c.count < 1099511627776) {m : Pgs} (wm : Wm m) (p : Nat) (hp : p < 4294967296) (hd : due c p = none) (h0 : c.pc % 4 = 0) (h1 : (fetW m c.c c.pc c.user).cause = 0) (h2 : legal m c.c c.pc c.user = true)
    (i : In) (hi : decI (word m c.c c.pc c.user) = i) (kind size : Nat) (hk : accK i.op = (kind, size)) (hk0 : kind ≠ 0) :
    doX k c m p = (let q := fetQ m c.c c.pc c.user; let wd := word m c.c c.pc c.user; let va := vaI c.r i; let W := accW q c.c c.user va kind; let p1 := trP q W; let n := W.at'.toNat; let pc4 := u32 ((c.pc : Int) + 4)
     cond (va % size == 0) (cond (W.cause == 0)
      (cond (kind == 2) (QG pc4 c.r (stP p1 ⟨n, size, ru c.r i.a⟩) wd i) (cond (kind == 1) (okLO3 c pc4 (setR c.r i.a (ldd p1.m n size)) (rdP p1 n size) wd i) (QG pc4 (setR c.r i.a (ldd p1.m n size)) (stP (rdP p1 n size) ⟨n, size, ru c.r i.a⟩) wd i)))
      (O7 (trp c W.cause va c.pc) pc4 p1 wd W.cause i [])) (Qz c (trp c 3 va c.pc) pc4 q wd 3 i)) := by
 have r1 := N8 (k + 4) w p hp
 rw [hd] at r1
 have hf := fetch (k + 1) wm c.pc w.pc c.c w.cl w.c c.user c.pc (c.r.map uv) (c.c.map uv) c.user c.waits c.halts c.count (m.map pg) c.pc (c.r.map uv) (c.c.map uv) c.halts ((c.count + 1 : Nat) : Int) p (c.r.map uv) c.waits c.halts c.count
 have ra := r_acc (k + 4) i.op
 rw [hk] at ra
 have hkk := NP i.op
 rw [hk] at hkk
 have hregs := Co (word m c.c c.pc c.user)
 rw [hi] at hregs
 obtain ⟨q1, q2, q3, q4⟩ := Qp wm c.c c.pc c.user
 have hq := access (k + 2) (fetQ m c.c c.pc c.user) q1 (by omega) (by omega) c.r c.c w.rl w.r w.cl w.c c.user i hregs.1 hregs.2.1 kind size ⟨by omega, hkk.1⟩ (hkk.2 hk0)
  c.pc (c.r.map uv) (c.c.map uv) c.user c.waits c.halts c.count (m.map pg) ((u32 ((c.pc : Int) + 4) : Nat) : Int) (c.c.map uv) c.user c.halts ((c.count + 1 : Nat) : Int) p c.pc (c.r.map uv) c.waits c.halts c.count (word m c.c c.pc c.user : Int) i.op i.c
 unfold doX au cB
 simp only [Tr.eval, r1.ok, r1.val, tO, g0, g1, iO, bO, Option.isSome_none, cond_true, cond_false, hf]
 unfold fetR
 rw [beq_iff_eq.mpr h0, beq_iff_eq.mpr h1, h2]
 simp only [hi, inL, lsP, cond_true, cond_false, List.getD_cons_zero, List.getD_cons_succ, show ((3 : Nat) == 1) = false from rfl, show ((3 : Nat) == 2) = false from rfl, show ((3 : Nat) == 3) = true from rfl, ra.ok, ra.val, tO, g0, g1, iO, Dp ((c.pc : Int) + 4),
  show (((kind : Nat) : Int) != 0) = !(kind == 0) from bneN _ 0, beq_eq_false_iff_ne.mpr hk0, Bool.not_false, hq]
 have hva : vaI c.r i < 4294967296 := xQ _
 have r2 := qj (k + 3) w (by omega) 3 (vaI c.r i) c.pc (by omega)
 simp only [show ((3 : Nat) : Int) = 3 from rfl] at r2
 have hW7 : (accW (fetQ m c.c c.pc c.user) c.c c.user (vaI c.r i) kind).cause < 7 := (sI q1 _ _ _ _).cause
 have r3 := qj (k + 3) w (by omega) (accW (fetQ m c.c c.pc c.user) c.c c.user (vaI c.r i) kind).cause (vaI c.r i) c.pc (by omega)
 unfold accR
 dsimp only
 cases hm : vaI c.r i % size == 0 with
 | false =>
  simp only [cond_false, cond_true, List.getD_cons_zero, List.getD_cons_succ, show ((1 : Nat) == 1) = true from rfl, r2.ok, r2.val, lK, g0, g1, g2, g3, g4, iO, bO, pO]
  rfl
 | true =>
 cases hW : (accW (fetQ m c.c c.pc c.user) c.c c.user (vaI c.r i) kind).cause == 0 with
 | false =>
  simp only [lsP, cond_false, cond_true, List.cons_append, List.nil_append, List.getD_cons_zero, List.getD_cons_succ, show ((5 : Nat) == 1) = false from rfl, show ((5 : Nat) == 2) = false from rfl, show ((5 : Nat) == 3) = false from rfl, show ((5 : Nat) == 4) = false from rfl, show ((5 : Nat) == 5) = true from rfl, r3.ok, r3.val, lK, g0, g1, g2, g3, g4, iO, bO, pO]
  rfl
 | true =>
  cases kind == 2
  · cases kind == 1 <;> rfl
  · rfl
end Go.Proofs.Ytcknhfnbdgleiaa
