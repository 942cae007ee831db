/- CoreKeepsValid. -/
import Derived.Test.YtcknhfnbdgleiaaCor19
import Derived.Test.YtcknhfnbdgleiaaKvD
import Derived.Test.YtcknhfnbdgleiaaKvN0
set_option linter.unusedVariables false
set_option linter.unusedSimpArgs false
namespace Go.Proofs.Ytcknhfnbdgleiaa
open Go.AE

theorem g5 (a b c d e f : AV) (l : List AV) : (a :: b :: c :: d :: e :: f :: l).getD 5 .dead = f := rfl
theorem g6 (a b c d e f g : AV) (l : List AV) : (a :: b :: c :: d :: e :: f :: g :: l).getD 6 .dead = g := rfl
theorem g7 (a b c d e f g h : AV) (l : List AV) : (a :: b :: c :: d :: e :: f :: g :: h :: l).getD 7 .dead = h := rfl
theorem g8 (a b c d e f g h i : AV) (l : List AV) : (a :: b :: c :: d :: e :: f :: g :: h :: i :: l).getD 8 .dead = i := rfl
theorem g9 (a b c d e f g h i j : AV) (l : List AV) : (a :: b :: c :: d :: e :: f :: g :: h :: i :: j :: l).getD 9 .dead = j := rfl
theorem g10 (a b c d e f g h i j k : AV) (l : List AV) : (a :: b :: c :: d :: e :: f :: g :: h :: i :: j :: k :: l).getD 10 .dead = k := rfl
theorem FX : ∀ (l : List Nat), eqVs (l.map uv) (l.map uv) = true
 | [] => rfl
 | n :: l => by
  have := FX l
  simp [eqVs, eqV, this]
theorem PL {α : Type} (f : α → AV) (pre : List α) (a : α) (rest : List α) : ((pre ++ a :: rest).map f).getD pre.length .dead = f a := by simp
theorem Gi {α : Type} (f : α → AV) (pre : List α) (a : α) (rest : List α) : pre.length < ((pre ++ a :: rest).map f).length := by simp
open Keeps in
theorem Nw (k : Nat) {m : Pgs} (w : Wm m) (b0 : Bool) (i2 : Int) (l0 l1 : List AV) (b1 b2 b3 : Bool) (i3 : Int) (b4 : Bool) (i4 : Int) (l3 l4 : List AV) (b5 b6 b7 : Bool) (i5 i6 : Int) (l5 l6 : List AV) (b8 b9 b10 : Bool) (i7 i8 : Int) (b11 b12 : Bool) (i9 i10 i11 i12 i13 : Int) (l9 : List AV) :
    ∀ (rest pre : List Ac) (wrest wpre : List Wr) (fuel : Nat), rest.length < fuel → pre.length + rest.length < 1000 → wpre.length + wrest.length < 1000 → (∀ a ∈ rest, th m a.a a.s = true ∧ (a.s = 1 ∨ a.s = 4)) →
     (rest.filter (·.st)).map (fun a => (a.a, a.s)) = wrest.map (fun y => (y.a, y.s)) →
     Tr.run (aL (D (k + 1)) b0 i2 l0 l1 b1 b2 b3 i3 (m.map pg) b4 i4 l3 l4 b5 b6 b7 i5 i6 l5 l6 b8 b9 b10 i7 i8 ((wpre ++ wrest).map wv) ((pre ++ rest).map acv) b11 b12 i9 i10 i11 i12 i13 l9) fuel ((wpre.length : Int), (pre.length : Int)) = ⟨2, [((wpre ++ wrest).length : Nat)], [], [], [], [], []⟩
 | [], pre, wrest, wpre, 0, h, _, _, _, _ => absurd h (by simp)
 | [], pre, wrest, wpre, f + 1, _, _, _, _, hm => by
  have : wrest = [] := by
   cases wrest with
   | nil => rfl
   | cons y l => exact absurd hm (by simp)
  subst this
  rw [run1]
  simp only [aL, eF, Tr.eval, List.append_nil, List.length_map, Oa, cond_false]
 | a :: rest, pre, wrest, wpre, 0, h, _, _, _, _ => absurd h (by simp)
 | a :: rest, pre, wrest, wpre, f + 1, hf, hp, hw, ha, hm => by
  have hl := w.le
  obtain ⟨ht, hs⟩ := ha a (List.mem_cons_self ..)
  have ht2 := Gj ht
  have r := JE k w a.a a.s (by omega) hs
  have hr : ∀ x ∈ rest, th m x.a x.s = true ∧ (x.s = 1 ∨ x.s = 4) := fun x hx => ha x (List.mem_cons_of_mem _ hx)
  simp only [List.length_cons] at hf hp
  have e1 : decide ((pre.length : Int) < ((((pre ++ a :: rest).map acv).length : Nat) : Int)) = true := decide_eq_true (by have := Gi acv pre a rest; omega)
  have e2 : inB (pre.length : Int) ((pre ++ a :: rest).map acv).length = true := nG (Gi acv pre a rest)
  have e3 : (pre ++ a :: rest) = (pre ++ [a]) ++ rest := by simp
  have e4 : ((pre ++ [a]).length : Int) = ((pre.length + 1 : Nat) : Int) := by simp
  rw [run1]
  simp only [aL, eF, Tr.eval, e1, e2, PL, Int.toNat_natCast, pO, g0, g1, g2, iO, bO, r.ok, r.val, tO, ht, Bool.not_true, cond_true, cond_false, nx_n (show pre.length < 1000000 by omega)]
  cases hst : a.st with
  | false =>
   simp only [List.filter_cons, hst, Bool.false_eq_true, if_false] at hm
   have := Nw k w b0 i2 l0 l1 b1 b2 b3 i3 b4 i4 l3 l4 b5 b6 b7 i5 i6 l5 l6 b8 b9 b10 i7 i8 b11 b12 i9 i10 i11 i12 i13 l9 rest (pre ++ [a]) wrest wpre f (by omega) (by simp; omega) hw hr hm
   rw [← e3, e4] at this
   simp only [cond_false]
   exact this
  | true =>
   simp only [List.filter_cons, hst, if_true, List.map_cons] at hm
   cases wrest with
   | nil => exact absurd hm (by simp)
   | cons y wrest =>
   simp only [List.map_cons, List.cons.injEq, Prod.mk.injEq] at hm
   obtain ⟨⟨m1, m2⟩, m3⟩ := hm
   simp only [List.length_cons] at hw
   have this := Nw k w b0 i2 l0 l1 b1 b2 b3 i3 b4 i4 l3 l4 b5 b6 b7 i5 i6 l5 l6 b8 b9 b10 i7 i8 b11 b12 i9 i10 i11 i12 i13 l9 rest (pre ++ [a]) wrest (wpre ++ [y]) f (by omega) (by simp; omega) (by simp; omega) hr m3
   have e5 : (wpre ++ y :: wrest) = (wpre ++ [y]) ++ wrest := by simp
   have e6 : ((wpre ++ [y]).length : Int) = ((wpre.length + 1 : Nat) : Int) := by simp
   rw [← e3, e4, ← e5, e6] at this
   have e7 : decide (((((wpre ++ y :: wrest).map wv).length : Nat) : Int) ≤ (wpre.length : Int)) = false := decide_eq_false (by have := Gi wv wpre y wrest; omega)
   have e8 : inB (wpre.length : Int) ((wpre ++ y :: wrest).map wv).length = true := nG (Gi wv wpre y wrest)
   simp only [cond_true, cond_false, e7, e8, PL, pO, g0, g1, iO, m1, m2, bne_self_eq_false, I9, nx_n (show wpre.length < 1000000 by omega)]
   exact this
theorem ap_ok : ∀ (l : List Wr) {m : Pgs}, (∀ y ∈ l, th m y.a y.s = true) → (ap m l).2 = true
 | [], m, _ => rfl
 | x :: l, m, h => by
  unfold ap
  rw [if_pos (h x (List.mem_cons_self ..))]
  exact ap_ok l (fun y hy => by rw [G6 (Cb ..)]; exact h y (List.mem_cons_of_mem _ hy))
theorem OY (k : Nat) {c : Cp} (h : Wv c) (hc : c.count < 1099511627776) {m : Pgs} (wm : Wm m) : Rt Pg (D (k + 2)) 51 [cpv c, mv m] (.bool true) := by
 have r := O6 k c.pc c.r c.c h.w.rl h.w.cl c.user c.waits c.halts c.count m
 have : rgtB c.r c.c c.waits c.halts c.count m = true := by
  have hl := wm.le
  have hp := wm.pos
  unfold rgtB vdB
  obtain ⟨v0, v5, v7, v8, vn, vw⟩ := h.v
  rw [v0, v7, decide_eq_true v5, decide_eq_true v8, decide_eq_true (show (0 : Int) ≤ ((c.count : Nat) : Int) by omega), decide_eq_true (show ((c.count : Nat) : Int) ≤ 1099511627776 by omega), decide_eq_true (show ((c.count : Nat) : Int) < 1099511627776 by omega), decide_eq_true (show 1 ≤ m.length by omega), decide_eq_true (show m.length ≤ 64 by omega)]
  cases hw : c.waits with
  | false => rfl
  | true => rw [vw hw]; rfl
 rw [this] at r
 exact r
theorem Ri (x : Nat) (h : x = 0 ∨ x = 2) (u : Bool) : (aC .and .u32 ((x + if u then 4 else 0 : Nat) : Int) 1 == 0) = true ∧ ((aC .and .u32 ((x + if u then 4 else 0 : Nat) : Int) 4 != 0) == u) = true := by
 rcases h with rfl | rfl <;> cases u <;> exact ⟨by decide +kernel, by decide +kernel⟩
set_option maxHeartbeats 1000000 in
theorem Qm (k : Nat) {c : Cp} (h : Wv c) (hc : c.count < 1099511627776) {m : Pgs} (wm : Wm m) (p v : Nat) (hp : p < 4294967296) (hv : v < 4294967296) (ok : Bool) :
    Keeps.E (k + 12) 15 [cpv c, mv m, uv p, uv v, .bool ok] = some (.bool true) := by
 have rs : Rt Pg (D (k + 12)) 52 [] (.bool true) := Iz k
 have r1 : Rt Pg (D (k + 12)) 51 _ _ := OY (k + 10) h hc wm
 have r2 : Rt Pg (D (k + 12)) 53 _ _ := Pe (k + 6) h.w hc wm p hp
 have r4 : Rt Pg (D (k + 12)) 60 _ _ := Nl (k + 10) c p hp
 have hl := wm.le
 show fnV (Keeps.cx (D (k + 12))) 6 15 _ = _
 rw [Keeps.lS]
 cases hr : rdy c p with
 | false =>
  have e1 : stp c m p = ⟨false, c, zCp, 0, [], [], false, false, 0, 0, 0, 0, 0⟩ := by unfold stp; rw [if_pos hr]
  have r3 : Rt Pg (D (k + 12)) 59 _ _ := QV (k + 7) (e := stp c m p) (fun ha => by rw [e1] at ha; exact absurd ha (by simp)) v ok
  have r5 : Rt Pg (D (k + 12)) 61 _ _ := Ki (k + 11) h.w h.v
  have e2 : ans (stp c m p) v ok = stp c m p := by unfold ans; rw [e1]; rfl
  rw [e2] at r3
  rw [hr] at r4
  rw [e1] at r2 r3
  unfold efv at r2 r3
  dsimp only at r2 r3
  simp only [List.map_nil] at r2 r3
  simp only [r1.ok, r1.val, bO, Bool.not_true, cond_true, cond_false, r2.ok, r2.val, r3.ok, r3.val, r4.ok, r4.val, r5.ok, r5.val, rs.ok, rs.val, pO, g0, g1, g2, g3, g4, g5, g6, g7, g8, g9, g10, iO, lO, tO, Bool.not_false, I9, beq_self_eq_true, FX, Bool.and_self, List.map_nil, List.length_nil, wD]
  rfl
 | true =>
  have kp := kp_stp h hc wm p hp hr
  have r3 : Rt Pg (D (k + 12)) 59 _ _ := QV (k + 7) (e := stp c m p) (fun ha => ⟨kp.word, by rw [kp.old]; exact h.w, by rw [kp.old]; exact hc⟩) v ok
  obtain ⟨ka, kas⟩ := kp_ans h hc kp hv ok
  generalize stp c m p = e at *
  generalize ans e v ok = x at *
  rw [hr] at r4
  have r5 : Rt Pg (D (k + 12)) 61 _ _ := Ki (k + 11) ka.v.w ka.v.v
  obtain ⟨M, pk⟩ := ka.pk
  have nw := pk.nw
  have na := pk.na
  have r6 : Rt Pg (D (k + 12)) 24 _ _ := Mh (k + 11) wm x.ws (by show x.ws.length < 1000; have : x.ws.length ≤ 3 := nw; omega) (fun y hy => (pk.ws y hy).1)
  have e6 : (ap m x.ws).2 = true := ap_ok x.ws (fun y hy => (pk.ws y hy).2)
  rw [e6] at r6
  have e7 : ∀ b0 i2 l0 l1 b1 b2 b3 i3 b4 i4 l3 l4 b5 b6 b7 i5 i6 l5 l6 b8 b9 b10 i7 i8 b11 b12 i9 i10 i11 i12 i13 l9, Keeps.aQ (D (k + 12)) b0 i2 l0 l1 b1 b2 b3 i3 (m.map pg) b4 i4 l3 l4 b5 b6 b7 i5 i6 l5 l6 b8 b9 b10 i7 i8 (x.ws.map wv) (x.ac.map acv) b11 b12 i9 i10 i11 i12 i13 l9 100000 0 0 = ⟨2, [(x.ws.length : Nat)], [], [], [], [], []⟩ := fun b0 i2 l0 l1 b1 b2 b3 i3 b4 i4 l3 l4 b5 b6 b7 i5 i6 l5 l6 b8 b9 b10 i7 i8 b11 b12 i9 i10 i11 i12 i13 l9 => by
   have := Nw (k + 11) wm b0 i2 l0 l1 b1 b2 b3 i3 b4 i4 l3 l4 b5 b6 b7 i5 i6 l5 l6 b8 b9 b10 i7 i8 b11 b12 i9 i10 i11 i12 i13 l9 x.ac [] x.ws [] 100000 (by have : x.ac.length ≤ 9 := na; omega) (by have : x.ac.length ≤ 9 := na; simp; omega) (by have : x.ws.length ≤ 3 := nw; simp; omega) pk.ac pk.st
   simp only [List.nil_append, List.length_nil] at this
   unfold Keeps.aQ
   exact this
  have d1 := ka.done
  have d2 := ka.old
  have d3 := ka.n
  have kt := ka.tr
  have ktl := ka.tl
  obtain ⟨xd, xc, xo, xw, xws, xac, xas, xio, xpo, xva, xfl, xfa, xtr⟩ := x
  dsimp only at d1 d2 d3 kas kt ktl r5 r6 e7
  subst d1 d2 kas
  unfold efv at r2 r3
  dsimp only at r2 r3
  have en : IntKind.i64.wrap ((xo.count : Int) + 1) = (xc.count : Int) := by rw [nx_i (show xo.count < 4611686018427387904 by omega), d3]
  simp only [r1.ok, r1.val, bO, Bool.not_true, cond_true, cond_false, r2.ok, r2.val, r3.ok, r3.val, r4.ok, r4.val, r5.ok, r5.val, r6.ok, r6.val, rs.ok, rs.val, pO, g0, g1, g2, g3, g4, g5, g6, g7, g8, g9, g10, iO, lO, tO, Bool.not_false, I9, beq_self_eq_true, FX, Bool.and_self, e7,
   show ((2 : Nat) == 1) = false from rfl, show ((2 : Nat) == 2) = true from rfl, List.getD_cons_zero, List.length_map, bne_self_eq_false, en, wD]
  by_cases ht : xtr = 0
  · subst ht; rfl
  · obtain ⟨value, epc, hx⟩ := kt ht
    rw [show (((xtr : Nat) : Int) == 0) = false from (beqN xtr 0).trans (beq_eq_false_iff_ne.mpr ht)]
    have hcl := h.w.cl
    have c5 : (xc.c.map uv).getD 5 .dead = uv (status { xo with waits := false, count := xo.count + 1 }) := by
     rw [hx, oD (by simp [trp, ent, hcl])]
     show uv (ru (((((xo.c.set 5 _).set 3 _).set 4 _).set 2 _)) 5) = _
     rw [qm (by omega), qm (by omega), qm (by omega), OZ (by omega)]
    have c3 : (xc.c.map uv).getD 3 .dead = uv xtr := by
     rw [hx, oD (by simp [trp, ent, hcl])]
     show uv (ru (((((xo.c.set 5 _).set 3 _).set 4 _).set 2 _)) 3) = _
     rw [qm (by omega), qm (by omega), OZ (by simp [hcl])]
    have c1 : (xo.c.map uv).getD 1 .dead = uv (ru xo.c 1) := oD (by omega)
    have xpc : xc.pc = ru xo.c 1 := by rw [hx]; rfl
    have xu : xc.user = false := by rw [hx]; rfl
    have xr : xc.r = xo.r := by rw [hx]; rfl
    obtain ⟨s1, s2⟩ := Ri (if ru xo.c 5 % 2 = 0 then 0 else 2) (by split <;> simp) xo.user
    have hs : status { xo with waits := false, count := xo.count + 1 } = (if ru xo.c 5 % 2 = 0 then 0 else 2) + (if xo.user then 4 else 0) := rfl
    simp only [cond_false, c5, c3, c1, iO, xpc, xu, xr, w32 ktl, beq_self_eq_true, hs, s1, s2, cond_true, Bool.not_false, FX]
theorem Lg (k : Nat) (pc : Nat) (hpc : pc < 4294967296) (r c : List Nat) (hr : r.length = 16) (hr2 : ∀ n ∈ r, n < 4294967296) (hc : c.length = 9) (hc2 : ∀ n ∈ c, n < 4294967296) (u wt ht : Bool) (n : Int) (m : Pgs) (hm : pgsOK m) (p v : Nat) (hp : p < 4294967296) (hv : v < 4294967296) (ok : Bool) :
    Keeps.E (k + 12) 15 [.agg 104 [uv pc, .agg 102 (r.map uv), .agg 103 (c.map uv), .bool u, .bool wt, .bool ht, .int .i64 n], mv m, uv p, uv v, .bool ok] = some (.bool true) := by
 cases hR : rgtB r c wt ht n m with
 | false =>
  have rs : Rt Pg (D (k + 12)) 52 [] (.bool true) := Iz k
  have r1 : Rt Pg (D (k + 12)) 51 _ _ := O6 (k + 10) pc r c hr hc u wt ht n m
  show fnV (Keeps.cx (D (k + 12))) 6 15 _ = _
  rw [Keeps.lS]
  simp only [r1.ok, r1.val, hR, bO, Bool.not_false, cond_true, rs.ok, rs.val]
 | true =>
  obtain ⟨cnt, rfl, hcnt, hv', h1, h2⟩ := rgt_of (pc := pc) (u := u) hR
  exact Qm k (c := ⟨pc, r, c, u, wt, ht, cnt⟩) ⟨⟨hpc, hr, hc, hr2, hc2⟩, hv'⟩ hcnt ⟨h1, h2, fun p hp => (hm p hp).1, fun p hp => (hm p hp).2⟩ p v hp hv ok
end Go.Proofs.Ytcknhfnbdgleiaa
