/- A step returns that. -/
import Derived.Test.YtcknhfnbdgleiaaCor11
set_option linter.unusedVariables false
set_option linter.unusedSimpArgs false
namespace Go.Proofs.Ytcknhfnbdgleiaa
open Go.AE
noncomputable abbrev jQ (k : Nat) (c : Cp) (m : av) (p : Nat) : LO :=
 bQ (D (k + 5)) c.pc (c.r.map uv) (c.c.map uv) c.user c.waits c.halts c.count (m.map pg) c.pc (c.r.map uv) (c.c.map uv) c.user c.halts ((c.count + 1 : Nat) : Int) (m.map pg) p c.pc (c.r.map uv) (c.c.map uv) c.user c.waits c.halts c.count
theorem mO (c : Cp) (cause value epc : Nat) : partsOf (dH (cB c cause value epc)) = [uv (cB c cause value epc).pc, .agg 102 ((cB c cause value epc).r.map uv), .agg 103 ((cB c cause value epc).c.map uv), .bool (cB c cause value epc).user, .bool (cB c cause value epc).waits, .bool (cB c cause value epc).halts, .int .i64 ((cB c cause value epc).count : Int)] := rfl
def D9 (x : Cp) (cause : Nat) : LO := ⟨1, [(x.pc : Int), (x.count : Int), (cause : Int)], [x.user, x.waits, x.halts], [x.r.map uv, x.c.map uv], [], [], []⟩
theorem Wy (k : Nat) {c : Cp} (w : Wc c) (hc : c.count < 1099511627776) {m : av} (wm : Wm m) (p : Nat) (hp : p < 4294967296) {n : Nat} (hd : due c p = some n) : jQ k c m p = D9 (cB c (16 + n) 0 c.pc) (16 + n) := by
 have h5 := MR hd
 have r1 := Ay (k + 4) w p hp
 rw [hd] at r1
 have r2 := lG (k + 3) w (by omega) (16 + n) 0 c.pc (by omega)
 have e : IntKind.i64.wrap (16 + ((Option.some n).getD 0 : Nat)) = ((16 + n : Nat) : Int) := by rw [dP (by simp; omega) (by simp; omega)]; simp
 unfold jQ bQ uG
 simp only [Tr.eval, r1.ok, r1.val, tO, g0, g1, iO, bO, e, Option.isSome_some, cond_true]
 rw [show (.int .u32 0 : AV) = uv 0 from rfl]
 simp only [r2.ok, r2.val, mO, g0, g1, g2, g3, g4, iO, bO, pO, cond_true]
 rfl
def Mw (x : Cp) (pc : Nat) (p : Pt') (cause : Nat) : LO := ⟨2, [(pc : Int), (x.pc : Int), (x.count : Int), 0, (cause : Int), 0, 0, 0, 0, 0], [x.user, x.waits, x.halts], [p.m.map pg, x.r.map uv, x.c.map uv, p.ws.map wv, p.ac.map bI], [], [], []⟩
def Dv (c x : Cp) (pc : Nat) (p : Pt') (w : Nat) (cause : Nat) (i : In) : LO := ⟨3, [(pc : Int), ((c.count + 1 : Nat) : Int), (x.pc : Int), (x.count : Int), (w : Int), 0, 0, 0, 0, (cause : Int), (i.op : Int), (i.a : Int), (i.b : Int), (i.c : Int), i.aG], [c.user, false, c.halts, x.user, x.waits, x.halts, false, false], [c.r.map uv, c.c.map uv, p.m.map pg, x.r.map uv, x.c.map uv, p.ws.map wv, p.ac.map bI], [], [], []⟩
theorem YP (k : Nat) {c : Cp} (w : Wc c) (hc : c.count < 1099511627776) {m : av} (wm : Wm m) (p : Nat) (hp : p < 4294967296) (hd : due c p = none) :
    (c.pc % 4 ≠ 0 -> jQ k c m p = D9 (cB c 3 c.pc c.pc) 3) /\
    (c.pc % 4 = 0 -> (bW m c.c c.pc c.user).cause ≠ 0 -> jQ k c m p = Mw (cB c (bW m c.c c.pc c.user).cause c.pc c.pc) c.pc (mM m c.c c.pc c.user) (bW m c.c c.pc c.user).cause) /\
    (c.pc % 4 = 0 -> (bW m c.c c.pc c.user).cause = 0 -> legal m c.c c.pc c.user = false -> jQ k c m p = Dv c (cB c 2 (word m c.c c.pc c.user) c.pc) c.pc (eD m c.c c.pc c.user) (word m c.c c.pc c.user) 2 FV) := by
 have r1 := Ay (k + 4) w p hp
 rw [hd] at r1
 have hf := fetch (k + 1) wm c.pc w.pc c.c w.cl w.c c.user c.pc (c.r.map uv) (c.c.map uv) c.user c.waits c.halts c.count (m.map pg) c.pc (c.r.map uv) (c.c.map uv) c.halts ((c.count + 1 : Nat) : Int) p (c.r.map uv) c.waits c.halts c.count
 unfold jQ bQ uG
 simp only [Tr.eval, r1.ok, r1.val, tO, g0, g1, iO, bO, Option.isSome_none, cond_true, cond_false, hf]
 unfold wR
 refine ⟨fun h => ?_, fun h h2 => ?_, fun h h2 h3 => ?_⟩
 . have r2 := lG (k + 3) w (by omega) 3 c.pc c.pc (by omega)
   simp only [show ((3 : Nat) : Int) = 3 from rfl] at r2
   rw [beq_eq_false_iff_ne.mpr h]
   simp only [cond_false, show ((1 : Nat) == 1) = true from rfl, cond_true, r2.ok, r2.val, mO, g0, g1, g2, g3, g4, iO, bO, pO]
   rfl
 . have ok : (bW m c.c c.pc c.user).cause < 7 := (jw wm (ru c.c 0) c.pc 4 c.user).cause
   have r2 := lG (k + 3) w (by omega) (bW m c.c c.pc c.user).cause c.pc c.pc (by omega)
   rw [beq_iff_eq.mpr h, beq_eq_false_iff_ne.mpr h2]
   simp only [cond_false, cond_true, List.getD_cons_zero, List.getD_cons_succ, show ((4 : Nat) == 1) = false from rfl, show ((4 : Nat) == 2) = false from rfl, show ((4 : Nat) == 3) = false from rfl, show ((4 : Nat) == 4) = true from rfl, r2.ok, r2.val, mO, g0, g1, g2, g3, g4, iO, bO, pO]
   rfl
 . have hw : word m c.c c.pc c.user < 4294967296 := by
     have ok := jw wm (ru c.c 0) c.pc 4 c.user
     exact vJ (oV _ wm (fun y hy => (ok.set y hy).1)).1 _ _
   have r2 := lG (k + 3) w (by omega) 2 (word m c.c c.pc c.user) c.pc (by omega)
   simp only [show ((2 : Nat) : Int) = 2 from rfl] at r2
   rw [beq_iff_eq.mpr h, beq_iff_eq.mpr h2, h3]
   simp only [tJ, cond_false, cond_true, List.cons_append, List.nil_append, List.getD_cons_zero, List.getD_cons_succ, show ((2 : Nat) == 1) = false from rfl, show ((2 : Nat) == 2) = true from rfl, r2.ok, r2.val, mO, g0, g1, g2, g3, g4, iO, bO, pO]
   rfl
end Go.Proofs.Ytcknhfnbdgleiaa
