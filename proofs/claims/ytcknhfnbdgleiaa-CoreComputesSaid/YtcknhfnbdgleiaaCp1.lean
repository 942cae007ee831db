/- CoreComputes. -/
import Derived.Test.YtcknhfnbdgleiaaCp0
import Derived.Test.YtcknhfnbdgleiaaKv0
import Derived.Test.YtcknhfnbdgleiaaCpD
import Derived.Test.YtcknhfnbdgleiaaCpN0
set_option linter.unusedVariables false
set_option linter.unusedSimpArgs false
namespace Go.Proofs.Ytcknhfnbdgleiaa
open Go.AE

theorem P6 (r : List Nat) (hr : r.length = 16) (a v n : Nat) (hn : n < 16) : ru (setR r a v) n = if n = a ∧ n ≠ 0 then v else ru r n := by
 unfold setR
 by_cases h0 : a = 0
 · rw [beq_iff_eq.mpr h0, cond_true, if_neg (by omega)]
 · rw [beq_eq_false_iff_ne.mpr h0, cond_false, Kj]
   by_cases h : a = n
   · rw [if_pos ⟨h, by omega⟩, if_pos (by omega)]
   · rw [if_neg (fun hh => h hh.1), if_neg (by omega)]
open Computes in
theorem Py {F : Tab} {r : List Nat} (hr : r.length = 16) (a v : Nat) (i2 : Int) (l1 : List AV) (b0 b1 b2 : Bool) (i3 : Int) (l2 : List AV) (i4 i6 i7 i8 i9 i10 : Int) (l3 : List AV) (b3 b4 : Bool) (i11 : Int) (l5 : List AV) (b5 b6 b7 : Bool) (i12 i13 : Int) (l6 l7 : List AV) (b8 b9 b10 : Bool) (i14 i15 : Int) (l8 l9 : List AV) (b11 b12 : Bool) (i16 i17 i18 i19 i20 : Int) :
    ∀ (j n fuel : Nat), n + j = 16 → j < fuel →
     Tr.run (aW F v i2 (r.map uv) l1 b0 b1 b2 i3 l2 i4 a i6 i7 i8 i9 i10 l3 b3 b4 i11 ((setR r a v).map uv) l5 b5 b6 b7 i12 i13 l6 l7 b8 b9 b10 i14 i15 l8 l9 b11 b12 i16 i17 i18 i19 i20) fuel (n : Int) = ⟨2, [], [], [], [], [], []⟩
 | 0, n, fuel, hn, hf => by
  obtain ⟨f, rfl⟩ : ∃ f, fuel = f + 1 := ⟨fuel - 1, by omega⟩
  obtain rfl : n = 16 := by omega
  rw [run1]; rfl
 | j + 1, n, fuel, hn, hf => by
  obtain ⟨f, rfl⟩ : ∃ f, fuel = f + 1 := ⟨fuel - 1, by omega⟩
  have hl : (setR r a v).length = 16 := by unfold setR; cases a == 0 <;> simp [hr]
  have e1 : intOf (((setR r a v).map uv).getD n .dead) = ((if n = a ∧ n ≠ 0 then v else ru r n : Nat) : Int) := by rw [ng (by omega), iO, P6 r hr a v n (by omega)]
  have e2 : intOf ((r.map uv).getD n .dead) = ((ru r n : Nat) : Int) := by rw [ng (by omega), iO]
  have ih := Py (F := F) hr a v i2 l1 b0 b1 b2 i3 l2 i4 i6 i7 i8 i9 i10 l3 b3 b4 i11 l5 b5 b6 b7 i12 i13 l6 l7 b8 b9 b10 i14 i15 l8 l9 b11 b12 i16 i17 i18 i19 i20 j (n + 1) f (by omega) (by omega)
  rw [run1]
  simp only [aW, kU, Tr.eval, Int.toNat_natCast, e1, e2, decide_eq_true (show (n : Int) < 16 by omega), ny (show n < 16 by omega), cond_true, nx_n (show n < 1000000 by omega), fG,
   show ((n : Int) == (a : Int)) = (n == a) from beqN n a, show ((n : Int) != (a : Int)) = !(n == a) from bneN n a, show ((n : Int) == 0) = (n == 0) from beqN n 0, show ((n : Int) != 0) = !(n == 0) from bneN n 0]
  by_cases ha : n = a
  · by_cases h0 : n = 0
    · rw [beq_iff_eq.mpr ha, beq_iff_eq.mpr h0, if_neg (by omega)]
      simp only [Bool.not_true, cond_true, cond_false, bne_self_eq_false, fG]
      exact ih
    · rw [beq_iff_eq.mpr ha, beq_eq_false_iff_ne.mpr h0, if_pos ⟨ha, h0⟩]
      simp only [Bool.not_true, Bool.not_false, cond_true, cond_false, bne_self_eq_false, fG]
      exact ih
  · rw [beq_eq_false_iff_ne.mpr ha, if_neg (fun hh => ha hh.1)]
    simp only [Bool.not_false, cond_true, cond_false, bne_self_eq_false, fG]
    exact ih
/-- What the law asks of a processor. -/
structure Cq (c : Cp) (m : Pgs) : Prop where
 t : ru c.c 0 = 0
 p : c.pc % 4 = 0
 l : c.pc + 4 ≤ 128 * m.length
 w : c.waits = false
 h : c.halts = false
theorem Er (k : Nat) {c : Cp} (h : Wv c) (hc : c.count < 1099511627776) {m : Pgs} (wm : Wm m) (q : Cq c m) (i : In) (ha : i.a < 16) (hb' : i.b < 16) (hcc : i.c < 16) (ho : (1 ≤ i.op ∧ i.op ≤ 12) ∨ i.op = 16) (W : Nat) (hW : W < 4294967296) (hd : decB W = true) (hi : decI W = i)
    (rR : Rt Pg (D (k + 12)) 55 [inv i] (.bool true)) (rE : Rt Pg (D (k + 12)) 56 [inv i] (.agg 125 [uv W, .int .i64 0])) :
    Computes.E (k + 12) 14 [cpv c, mv m, inv i] = some (.bool true) := by
 obtain ⟨q0, q1, q2, q3, q4⟩ := q
 have hl := wm.le
 have rs : Rt Pg (D (k + 12)) 52 [] (.bool true) := BJ k
 have r1 : Rt Pg (D (k + 12)) 51 _ _ := Kg (k + 10) h hc wm
 have hx : (⟨c.pc, 4, W⟩ : Wr).ok := ⟨h.w.pc, .inr rfl, hW⟩
 have ht : th m c.pc 4 = true := by unfold th; rw [q1, decide_eq_true q2]; rfl
 have rS : Rt Pg (D (k + 12)) 57 _ _ := KC (k + 9) wm hx
 have eS : stR m ⟨c.pc, 4, W⟩ = st m c.pc (wb W) := by
  unfold stR
  rw [show th m (⟨c.pc, 4, W⟩ : Wr).a (⟨c.pc, 4, W⟩ : Wr).s = true from ht, cond_true]
  rfl
 rw [eS, show th m (⟨c.pc, 4, W⟩ : Wr).a (⟨c.pc, 4, W⟩ : Wr).s = true from ht] at rS
 have wm' : Wm (st m c.pc (wb W)) := (eS ▸ LU wm hx).1
 have r2 : Rt Pg (D (k + 12)) 53 [cpv c, mv (st m c.pc (wb W)), .int .u32 0] (efv (stp c (st m c.pc (wb W)) 0)) := Po (k + 6) h.w hc wm' 0 (by decide)
 rw [Rn wm q0 q1 q2 q3 q4 hW hd hi ho] at r2
 unfold efv at r2
 unfold wv at rS
 dsimp only at r2 rS
 simp only [List.map_nil, show ((0 : Nat) : Int) = 0 from rfl, show ((4 : Nat) : Int) = 4 from rfl] at r2 rS
 have rA : Rt Pg (D (k + 12)) 58 [.int .i64 1, uv (ru c.r i.b), uv (u32 i.imm)] (.tuple [uv (alu 1 (ru c.r i.b) (u32 i.imm)), .int .i64 0]) := Qj (k + 10) 1 (ru c.r i.b) (u32 i.imm) (xE h.w.r _) (xQ _)
 have vA : alu 1 (ru c.r i.b) (u32 i.imm) = vaI c.r i := by
  show u32 (((ru c.r i.b : Nat) : Int) + ((u32 i.imm : Nat) : Int)) = u32 ((ru c.r i.b : Int) + i.imm)
  unfold u32; omega
 rw [vA] at rA
 have eb : (c.r.map uv).getD i.b .dead = uv (ru c.r i.b) := ng (by rw [h.w.rl]; exact hb')
 have ec : (c.r.map uv).getD i.c .dead = uv (ru c.r i.c) := ng (by rw [h.w.rl]; exact hcc)
 have e0 : (c.c.map uv).getD 0 .dead = uv 0 := by rw [ng (by rw [h.w.cl]; omega), q0]
 have hlen : ((m.map pg).length : Nat) = m.length := List.length_map ..
 have e3 : decide (IntKind.i64.wrap (IntKind.i64.wrap (((m.length : Nat) : Int) * 128) - 4) < (c.pc : Int)) = false := by
  rw [av (n := ((m.length : Nat) : Int) * 128) (by omega) (by omega), av (by omega) (by omega)]; exact decide_eq_false (by omega)
 have hpc := h.w.pc
 show fnV (Computes.cx (D (k + 12))) 6 14 _ = _
 rw [Computes.eX]
 have lp := fun v => Py (F := D (k + 12)) (r := c.r) h.w.rl i.a v
 unfold inv at rR rE
 simp only [r1.ok, r1.val, bO, Bool.not_true, e0, iO, show (((0 : Nat) : Int) != 0) = false from rfl, show (((c.pc : Int)).tmod 4 != 0) = false by rw [show ((c.pc : Int)).tmod 4 = ((c.pc % 4 : Nat) : Int) from tmN _ 4, q1]; rfl, hlen, e3, w64 (show c.pc < 9223372036854775808 by omega), cond_true, cond_false, fG, F6,
  rR.ok, rR.val, rE.ok, rE.val, pO, g0, g1, rS.ok, rS.val, lO, r2.ok, r2.val, g2, g3, g4, g5, g6, g7, g8, g9, g10, tO, rs.ok, rs.val, Int.toNat_natCast, eb, ec, ny hb', ny hcc, Dp i.imm, rA.ok, rA.val, bne_self_eq_false, List.length_nil, Dp ((c.pc : Int) + 4)]
 simp only [q3, q4, cond_true, cond_false, F6, fG, Bool.not_true, Bool.true_and, Bool.not_false, Bool.false_and]
 have hpc4 : ((nxt c).pc : Int) = ((u32 ((c.pc : Int) + 4) : Nat) : Int) := rfl
 rcases ho with ho | ho
 · have r3 : Rt Pg (D (k + 12)) 58 [.int .i64 (i.op : Int), uv (ru c.r i.b), uv (ru c.r i.c)] _ := Qj (k + 10) i.op (ru c.r i.b) (ru c.r i.c) (xE h.w.r _) (xE h.w.r _)
   have e4 : aluE i.op = 0 := by unfold aluE; rw [if_pos ho]
   rw [e4] at r3
   have e5 : (cond (decide ((1 : Int) ≤ (i.op : Int))) (decide ((i.op : Int) ≤ 12)) false) = true := by rw [decide_eq_true (by omega), decide_eq_true (by omega)]; rfl
   have e6 : ¬ i.op = 16 := by omega
   rw [if_neg e6]
   have lp2 : ∀ i2 l1 b0 b1 b2 i3 l2 i4 i6 i7 i8 i9 i10 l3 b3 b4 i11 l5 b5 b6 b7 i12 i13 l6 l7 b8 b9 b10 i14 i15 l8 l9 b11 b12 i16 i17 i18 i19 i20, Computes.aN (D (k + 12)) ((alu i.op (ru c.r i.b) (ru c.r i.c) : Nat) : Int) i2 (c.r.map uv) l1 b0 b1 b2 i3 l2 i4 i.a i6 i7 i8 i9 i10 l3 b3 b4 i11 ((setR c.r i.a (alu i.op (ru c.r i.b) (ru c.r i.c))).map uv) l5 b5 b6 b7 i12 i13 l6 l7 b8 b9 b10 i14 i15 l8 l9 b11 b12 i16 i17 i18 i19 i20 100000 0 = ⟨2, [], [], [], [], [], []⟩ :=
    fun i2 l1 b0 b1 b2 i3 l2 i4 i6 i7 i8 i9 i10 l3 b3 b4 i11 l5 b5 b6 b7 i12 i13 l6 l7 b8 b9 b10 i14 i15 l8 l9 b11 b12 i16 i17 i18 i19 i20 => lp _ i2 l1 b0 b1 b2 i3 l2 i4 i6 i7 i8 i9 i10 l3 b3 b4 i11 l5 b5 b6 b7 i12 i13 l6 l7 b8 b9 b10 i14 i15 l8 l9 b11 b12 i16 i17 i18 i19 i20 16 0 100000 rfl (by omega)
   simp only [e5, r3.ok, r3.val, tO, g0, g1, iO, cond_true, cond_false, Bool.not_true, fG, F6, hpc4, bne_self_eq_false, show (((0 : Nat) : Int) != 0) = false from rfl, lp2, show ((2 : Nat) == 1) = false from rfl, show ((2 : Nat) == 2) = true from rfl]
 · have e5 : (cond (decide ((1 : Int) ≤ (i.op : Int))) (decide ((i.op : Int) ≤ 12)) false) = false := by rw [ho]; rfl
   have e6 : (((i.op : Nat) : Int) != 16) = false := by rw [ho]; rfl
   rw [if_pos ho]
   have lp2 : ∀ i2 l1 b0 b1 b2 i3 l2 i4 i6 i7 i8 i9 i10 l3 b3 b4 i11 l5 b5 b6 b7 i12 i13 l6 l7 b8 b9 b10 i14 i15 l8 l9 b11 b12 i16 i17 i18 i19 i20, Computes.aN (D (k + 12)) ((vaI c.r i : Nat) : Int) i2 (c.r.map uv) l1 b0 b1 b2 i3 l2 i4 i.a i6 i7 i8 i9 i10 l3 b3 b4 i11 ((setR c.r i.a (vaI c.r i)).map uv) l5 b5 b6 b7 i12 i13 l6 l7 b8 b9 b10 i14 i15 l8 l9 b11 b12 i16 i17 i18 i19 i20 100000 0 = ⟨2, [], [], [], [], [], []⟩ :=
    fun i2 l1 b0 b1 b2 i3 l2 i4 i6 i7 i8 i9 i10 l3 b3 b4 i11 l5 b5 b6 b7 i12 i13 l6 l7 b8 b9 b10 i14 i15 l8 l9 b11 b12 i16 i17 i18 i19 i20 => lp _ i2 l1 b0 b1 b2 i3 l2 i4 i6 i7 i8 i9 i10 l3 b3 b4 i11 l5 b5 b6 b7 i12 i13 l6 l7 b8 b9 b10 i14 i15 l8 l9 b11 b12 i16 i17 i18 i19 i20 16 0 100000 rfl (by omega)
   simp only [e5, e6, tO, g0, g1, iO, cond_true, cond_false, Bool.not_true, Bool.not_false, fG, F6, hpc4, bne_self_eq_false, show (((0 : Nat) : Int) != 0) = false from rfl, lp2, show ((2 : Nat) == 1) = false from rfl, show ((2 : Nat) == 2) = true from rfl]
theorem KM (k : Nat) {c : Cp} (h : Wv c) (hc : c.count < 1099511627776) {m : Pgs} (wm : Wm m) (op a b cc imm : Int) :
    Computes.E (k + 12) 14 [cpv c, mv m, .agg 122 [.int .i64 op, .int .i64 a, .int .i64 b, .int .i64 cc, .int .i64 imm]] = some (.bool true) := by
 have hl := wm.le
 have hpc := h.w.pc
 have rs : Rt Pg (D (k + 12)) 52 [] (.bool true) := BJ k
 have r1 : Rt Pg (D (k + 12)) 51 _ _ := Kg (k + 10) h hc wm
 have e0 : (c.c.map uv).getD 0 .dead = uv (ru c.c 0) := ng (by rw [h.w.cl]; omega)
 have hlen : ((m.map pg).length : Nat) = m.length := List.length_map ..
 have e3 : decide (IntKind.i64.wrap (IntKind.i64.wrap (((m.length : Nat) : Int) * 128) - 4) < (c.pc : Int)) = !decide (c.pc + 4 ≤ 128 * m.length) := by
  rw [av (n := ((m.length : Nat) : Int) * 128) (by omega) (by omega), av (by omega) (by omega), ← decide_not]; exact decide_eq_decide.mpr (by omega)
 by_cases hT : 1 ≤ op ∧ op ≤ 12 ∨ op = 16
 · have hR : ∃ R : Bool, Rt Pg (D (k + 12)) 55 [.agg 122 [.int .i64 op, .int .i64 a, .int .i64 b, .int .i64 cc, .int .i64 imm]] (.bool R) ∧ (Cq c m → R = true → Computes.E (k + 12) 14 [cpv c, mv m, .agg 122 [.int .i64 op, .int .i64 a, .int .i64 b, .int .i64 cc, .int .i64 imm]] = some (.bool true)) := by
     have hz : ∀ {a b : Bool}, cond a b false = true → a = true ∧ b = true := fun {a b} h => by cases a <;> cases b <;> simp_all
     rcases hT with hT | rfl
     · refine ⟨_, QC (k + 10) hT a b cc imm, fun q hr => ?_⟩
       have hr2 := hr
       unfold rr3 at hr
       obtain ⟨t1, hr⟩ := hz hr
       obtain ⟨t2, hr⟩ := hz hr
       obtain ⟨t3, t4⟩ := hz hr
       obtain ⟨a, rfl, ha⟩ := Hl t1
       obtain ⟨b, rfl, hb'⟩ := Hl t2
       obtain ⟨cc, rfl, hcc⟩ := Hl t3
       obtain rfl : imm = 0 := by simpa using t4
       obtain ⟨o, rfl⟩ : ∃ o : Nat, op = o := ⟨op.toNat, by omega⟩
       have ho : 1 ≤ o ∧ o ≤ 12 := by omega
       obtain ⟨d1, d2, d3⟩ := dec3 ho ha hb' hcc
       have rR := QC (k + 10) hT a b cc 0
       rw [hr2] at rR
       exact Er k h hc wm q ⟨o, a, b, cc, 0⟩ ha hb' hcc (.inl ho) (enc3 o a b cc) d3 d1 d2 rR (r_enc3 (k + 9) ho ha hb' hcc hr2)
     · refine ⟨_, Qw (k + 10) a b cc imm, fun q hr => ?_⟩
       have hr2 := hr
       unfold rrA at hr
       obtain ⟨t1, hr⟩ := hz hr
       obtain ⟨t2, hr⟩ := hz hr
       obtain ⟨t3, hr⟩ := hz hr
       obtain ⟨t4, t5⟩ := hz hr
       obtain ⟨a, rfl, ha⟩ := Hl t1
       obtain ⟨b, rfl, hb'⟩ := Hl t2
       obtain rfl : cc = 0 := by simpa using t3
       have t4 : -131072 ≤ imm := of_decide_eq_true t4
       have t5 : imm ≤ 131071 := of_decide_eq_true t5
       obtain ⟨d1, d2, d3⟩ := decA ha hb' t4 t5
       have rR := Qw (k + 10) a b 0 imm
       rw [hr2] at rR
       exact Er k h hc wm q ⟨16, a, b, 0, imm⟩ ha hb' (by show 0 < 16; omega) (.inr rfl) (encA a b imm) d3 d1 d2 rR (r_encA (k + 9) ha hb' t4 t5 hr2)
   obtain ⟨R, rR, hgo⟩ := hR
   by_cases hall : Cq c m ∧ R = true
   · exact hgo hall.1 hall.2
   · have e5 : (cond (!(cond (decide ((1 : Int) ≤ op)) (decide (op ≤ 12)) false)) (cond (op != 16) true (!R)) (!R)) = !R := by
       rcases hT with hT | rfl
       · rw [decide_eq_true hT.1, decide_eq_true hT.2]; rfl
       · rfl
     show fnV (Computes.cx (D (k + 12))) 6 14 _ = _
     rw [Computes.eX]
     simp only [r1.ok, r1.val, bO, Bool.not_true, e0, iO, show (((ru c.c 0 : Nat) : Int) != 0) = !(ru c.c 0 == 0) from bneN _ 0, show (((c.pc : Int)).tmod 4 != 0) = !(c.pc % 4 == 0) by rw [show ((c.pc : Int)).tmod 4 = ((c.pc % 4 : Nat) : Int) from tmN _ 4]; exact bneN _ 0, hlen, w64 (show c.pc < 9223372036854775808 by omega), e3, cond_true, cond_false, fG, BX,
      rR.ok, rR.val, rs.ok, rs.val, e5, Bool.or_true]
     cases b1 : ru c.c 0 == 0 with
     | false => rfl
     | true =>
     cases b2 : c.pc % 4 == 0 with
     | false => rfl
     | true =>
     cases b3 : decide (c.pc + 4 ≤ 128 * m.length) with
     | false => rfl
     | true =>
     cases b4 : c.waits with
     | true => rfl
     | false =>
     cases b5 : c.halts with
     | true => rfl
     | false =>
     have : R = false := by
      cases hR : R with
      | false => rfl
      | true => exact absurd ⟨⟨by simpa using b1, by simpa using b2, by simpa using b3, b4, b5⟩, hR⟩ hall
     rw [this]; rfl
 · have e5 : (cond (decide ((1 : Int) ≤ op)) (decide (op ≤ 12)) false) = false := by
     rw [K7, Bool.and_eq_false_iff, decide_eq_false_iff_not, decide_eq_false_iff_not]; omega
   have e6 : (op != 16) = true := by rw [bne_iff_ne]; omega
   show fnV (Computes.cx (D (k + 12))) 6 14 _ = _
   rw [Computes.eX]
   simp only [r1.ok, r1.val, bO, Bool.not_true, Bool.not_false, e0, iO, show (((ru c.c 0 : Nat) : Int) != 0) = !(ru c.c 0 == 0) from bneN _ 0, show (((c.pc : Int)).tmod 4 != 0) = !(c.pc % 4 == 0) by rw [show ((c.pc : Int)).tmod 4 = ((c.pc % 4 : Nat) : Int) from tmN _ 4]; exact bneN _ 0, hlen, w64 (show c.pc < 9223372036854775808 by omega), e3, cond_true, cond_false, fG, BX,
    rs.ok, rs.val, e5, e6, Bool.or_true, Bool.true_or]
   cases b1 : ru c.c 0 == 0 with
   | false => rfl
   | true =>
   cases b2 : c.pc % 4 == 0 with
   | false => rfl
   | true =>
   cases b3 : decide (c.pc + 4 ≤ 128 * m.length) with
   | false => rfl
   | true =>
   cases b4 : c.waits with
   | true => rfl
   | false =>
   cases b5 : c.halts with
   | true => rfl
   | false => rfl
theorem FC (k : Nat) (pc : Nat) (hpc : pc < 4294967296) (r c : List Nat) (hr : r.length = 16) (hr2 : ∀ n ∈ r, n < 4294967296) (hc : c.length = 9) (hc2 : ∀ n ∈ c, n < 4294967296) (u wt ht : Bool) (n : Int) (m : Pgs) (hm : pgsOK m) (op a b cc imm : Int) :
    Computes.E (k + 12) 14 [.agg 104 [uv pc, .agg 102 (r.map uv), .agg 103 (c.map uv), .bool u, .bool wt, .bool ht, .int .i64 n], mv m, .agg 122 [.int .i64 op, .int .i64 a, .int .i64 b, .int .i64 cc, .int .i64 imm]] = some (.bool true) := by
 cases hR : rgtB r c wt ht n m with
 | false =>
  have rs : Rt Pg (D (k + 12)) 52 [] (.bool true) := BJ k
  have r1 : Rt Pg (D (k + 12)) 51 _ _ := PK (k + 10) pc r c hr hc u wt ht n m
  show fnV (Computes.cx (D (k + 12))) 6 14 _ = _
  rw [Computes.eX]
  simp only [r1.ok, r1.val, hR, bO, Bool.not_false, cond_true, rs.ok, rs.val, BX, Bool.true_or]
 | true =>
  obtain ⟨cnt, rfl, hcnt, hv', h1, h2⟩ := rgt_of (pc := pc) (u := u) hR
  exact KM k (c := ⟨pc, r, c, u, wt, ht, cnt⟩) ⟨⟨hpc, hr, hc, hr2, hc2⟩, hv'⟩ hcnt ⟨h1, h2, fun p hp => (hm p hp).1, fun p hp => (hm p hp).2⟩ op a b cc imm
end Go.Proofs.Ytcknhfnbdgleiaa
