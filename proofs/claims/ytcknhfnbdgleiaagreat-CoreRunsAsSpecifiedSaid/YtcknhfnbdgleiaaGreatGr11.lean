/- Runs. -/
import Derived.Test.YtcknhfnbdgleiaaGreatCoM
set_option linter.unusedVariables false
set_option linter.unusedSimpArgs false
set_option maxRecDepth 10000
namespace Go.Proofs.YtcknhfnbdgleiaaGreat
open Go.AE
def bA (c : Cp) (m : aF) : Ef := ans (dz c m 0) 0 false
def rn : Nat -> Cp -> aF -> Cp × aF × Nat
 | 0, c, m => (c, m, 0)
 | j + 1, c, m => cond (bA c m).done ((rn j (bA c m).cpu (fC m (bA c m).ws)).1, (rn j (bA c m).cpu (fC m (bA c m).ws)).2.1, (rn j (bA c m).cpu (fC m (bA c m).ws)).2.2 + 1) (c, m, 0)
structure Nx (c : Cp) (m : aF) (e : Ef) : Prop where
 v : Wv e.cpu
 n : e.cpu.count = c.count + 1
 ws : e.ws.length < 1000
 ok : ∀ x ∈ e.ws, x.ok
 th : ∀ x ∈ e.ws, th m x.a x.s = true
 a : (ap m e.ws).2 = true
 m : Wm (fC m e.ws)
theorem GH {c : Cp} (h : Wv c) (hc : c.count < 1099511627776) {m : aF} (wm : Wm m) (hd : (bA c m).done = true) : Nx c m (bA c m) := by
 by_cases hr : lQ c 0 = true
 . have kp := (aa1 h hc (NT h hc wm 0 (by decide) hr) (v := 0) (by decide) false).1
   rw [show ans (dz c m 0) 0 false = bA c m from rfl] at kp
   obtain ⟨M, pk⟩ := kp.pk
   have hok : ∀ x ∈ (bA c m).ws, x.ok := fun x hx => (pk.ws x hx).1
   have ha := Ko (bA c m).ws (m := m) (fun x hx => (pk.ws x hx).2)
   refine ⟨kp.v, kp.n, by have := pk.nw; simp only at this; omega, hok, fun x hx => (pk.ws x hx).2, ha, ?_⟩
   unfold fC
   rw [ha]
   exact (HV _ wm hok).1
 . exfalso
   have : bA c m = ⟨false, c, lD, 0, [], [], false, false, 0, 0, 0, 0, 0⟩ := by
    unfold bA
    have : dz c m 0 = ⟨false, c, lD, 0, [], [], false, false, 0, 0, 0, 0, 0⟩ := by unfold dz; rw [if_pos (by simpa using hr)]
    rw [this]; rfl
   rw [this] at hd
   exact absurd hd (by simp)
theorem xO : ∀ (j : Nat) {c : Cp} {m : aF}, Wv c -> c.count + j <= 1099511627776 -> Wm m -> Wv (rn j c m).1 /\ (rn j c m).1.count = c.count + (rn j c m).2.2 /\ (rn j c m).2.2 <= j /\ Wm (rn j c m).2.1
 | 0, c, m, h, _, wm => ⟨h, rfl, Nat.le_refl _, wm⟩
 | j + 1, c, m, h, hc, wm => by
  unfold rn
  cases hd : (bA c m).done with
  | false => exact ⟨h, rfl, Nat.zero_le _, wm⟩
  | true =>
   have nx := GH h (by omega) wm hd
   obtain ⟨a1, a2, a3, a4⟩ := xO j nx.v (by have := nx.n; omega) nx.m
   simp only [cond_true]
   refine ⟨a1, ?_, by omega, a4⟩
   rw [a2, nx.n]; omega
theorem Ri (j : Nat) (c : Cp) (m : aF) : rn (j + 1) c m = cond (bA c m).done ((rn j (bA c m).cpu (fC m (bA c m).ws)).1, (rn j (bA c m).cpu (fC m (bA c m).ws)).2.1, (rn j (bA c m).cpu (fC m (bA c m).ws)).2.2 + 1) (c, m, 0) := rfl
theorem JI : ∀ (i j : Nat) (c : Cp) (m : aF), (rn i c m).2.2 = i -> rn (i + j) c m = ((rn j (rn i c m).1 (rn i c m).2.1).1, (rn j (rn i c m).1 (rn i c m).2.1).2.1, i + (rn j (rn i c m).1 (rn i c m).2.1).2.2)
 | 0, j, c, m, _ => by rw [Nat.zero_add, rn]; simp
 | i + 1, j, c, m, h => by
  rw [show i + 1 + j = (i + j) + 1 by omega, Ri (i + j) c m]
  rw [Ri i c m] at h ⊢
  cases hd : (bA c m).done with
  | false => rw [hd] at h; exact absurd h (by simp)
  | true =>
   rw [hd] at h
   simp only [cond_true] at h ⊢
   have := JI i j (bA c m).cpu (fC m (bA c m).ws) (by omega)
   rw [this]
   simp only [Prod.mk.injEq, true_and]
   omega
def oc (i j : Nat) (r : Cp × aF × Nat) : LO :=
 cond (decide (r.2.2 < j)) ⟨1, [((i + r.2.2 : Nat) : Int), r.1.pc, r.1.count, r.1.pc, r.1.count], [r.1.user, r.1.waits, r.1.halts, r.1.user, r.1.waits, r.1.halts], [r.1.r.map uv, r.1.c.map uv, r.2.1.map pg, r.1.r.map uv, r.1.c.map uv, r.2.1.map pg], [], [], []⟩
  ⟨2, [(r.1.pc : Int), r.1.count], [r.1.user, r.1.waits, r.1.halts], [r.1.r.map uv, r.1.c.map uv, r.2.1.map pg], [], [], []⟩
theorem Vx (i j : Nat) (r : Cp × aF × Nat) : oc i (j + 1) (r.1, r.2.1, r.2.2 + 1) = oc (i + 1) j r := by
 unfold oc
 rw [decide_eq_decide.mpr (show r.2.2 + 1 < j + 1 ↔ r.2.2 < j by omega), show i + (r.2.2 + 1) = i + 1 + r.2.2 by omega]
theorem Lh (k : Nat) (n : Int) (N : Nat) (hN : N < 1000) : ∀ (j i : Nat) (c : Cp) (m : aF) (fuel : Nat), Wv c -> c.count + j <= 1099511627776 -> Wm m -> i + j = N -> j < fuel ->
    Tr.run (qo (D (k + 6)) n (N : Int)) fuel ((i : Int), (c.pc : Int), c.r.map uv, c.c.map uv, c.user, c.waits, c.halts, (c.count : Int), m.map pg) = oc i j (rn j c m)
 | 0, i, c, m, fuel, h, hc, wm, hi, hf => by
  obtain ⟨f, rfl⟩ : ∃ f, fuel = f + 1 := ⟨fuel - 1, by omega⟩
  obtain rfl : i = N := by omega
  rw [dM]
  simp only [qo, AO, Tr.eval, ow, cond_false]
  all_goals rfl
 | j + 1, i, c, m, fuel, h, hc, wm, hi, hf => by
  obtain ⟨f, rfl⟩ : ∃ f, fuel = f + 1 := ⟨fuel - 1, by omega⟩
  have hlt : i < N := by omega
  have r1 : Rt Pg (D (k + 6)) 9 [bH c, mv m, .int .u32 0] (dS (dz c m 0)) := OU k h.w (by omega) wm 0 (by decide)
  obtain ⟨f1, f2, f3⟩ := few h (by omega) wm 0 (by decide)
  have r2 : Rt Pg (D (k + 6)) 11 [dS (dz c m 0), .int .u32 0, .bool false] (dS (bA c m)) := Nb (k + 1) (e := dz c m 0) (fun ha => by obtain ⟨a1, a2, a3⟩ := f3 ha; rw [a2]; exact ⟨a1, h.w, by omega⟩) 0 false
  have hnx := fun hd => GH h (by omega) wm hd
  rw [dM]
  cases hd : (bA c m).done with
  | false =>
   rw [show rn (j + 1) c m = (c, m, 0) by rw [rn, hd]; rfl]
   clear hnx
   generalize bA c m = e at *
   generalize dz c m 0 = e0 at *
   simp only [qo, AO, Tr.eval, lt_n hlt, cond_true, r1.ok, r1.val, pO, g0, g1, g2, g3, g4, g5, g6, g7, g8, g9, g10, iO, bO, lO]
   simp only [r2.ok, r2.val, cond_true, pO, g0, g1, bO, hd, Bool.not_false]
   all_goals rfl
  | true =>
   have nx := hnx hd
   have r3 : Rt Pg (D (k + 6)) 36 [mv m, .slice 57 ((bA c m).ws.map wv) false] _ := OL (k + 5) wm (bA c m).ws nx.ws nx.ok
   have ih := Lh k n N hN j (i + 1) (bA c m).cpu (fC m (bA c m).ws) f nx.v (by have := nx.n; omega) nx.m (by omega) (by omega)
   rw [show rn (j + 1) c m = ((rn j (bA c m).cpu (fC m (bA c m).ws)).1, (rn j (bA c m).cpu (fC m (bA c m).ws)).2.1, (rn j (bA c m).cpu (fC m (bA c m).ws)).2.2 + 1) by rw [rn, hd]; rfl, Vx, <- ih]
   clear ih hnx
   generalize fC m (bA c m).ws = m' at *
   generalize bA c m = e at *
   generalize dz c m 0 = e0 at *
   simp only [qo, AO, Tr.eval, lt_n hlt, cond_true, r1.ok, r1.val, pO, g0, g1, g2, g3, g4, g5, g6, g7, g8, g9, g10, iO, bO, lO]
   simp only [r2.ok, r2.val, cond_true, cond_false, pO, g0, g1, g2, g3, g4, g5, g6, iO, bO, lO, hd, Bool.not_true, r3.ok, r3.val, tO, kD (show i < 1000000 by omega)]
   all_goals rfl
theorem MH (k : Nat) (l1 : List AV) (l : List Wr) (hl : l.length < 1000) : ∀ (rest pre : List Wr) (m : aF) (fuel : Nat), pre ++ rest = l -> Wm m -> (∀ x ∈ rest, x.ok) -> (∀ x ∈ rest, th m x.a x.s = true) -> rest.length < fuel ->
    Tr.run (vP (D (k + 3)) (l.map wv) l1) fuel ((pre.length : Int), m.map pg, true) = ⟨2, [], [true], [(ap m rest).1.map pg], [], [], []⟩
 | [], pre, m, fuel, hp, wm, _, _, hf => by
  obtain ⟨f, rfl⟩ : ∃ f, fuel = f + 1 := ⟨fuel - 1, by omega⟩
  subst hp
  rw [dM]
  simp only [vP, EI, Tr.eval, List.append_nil, List.length_map, ow, cond_false]
  rfl
 | x :: rest, pre, m, fuel, hp, wm, ho, ht, hf => by
  obtain ⟨f, rfl⟩ : ∃ f, fuel = f + 1 := ⟨fuel - 1, by omega⟩
  have hx := ho x (List.mem_cons_self ..)
  have htx := ht x (List.mem_cons_self ..)
  have r := Hf k wm hx
  have hm : fK m x = st m x.a x.d := by unfold fK; rw [htx]; rfl
  rw [hm, htx] at r
  have ih := MH k l1 l hl rest (pre ++ [x]) (st m x.a x.d) f (by rw [<- hp]; simp) (Bg wm hx htx) (fun y hy => ho y (List.mem_cons_of_mem _ hy)) (fun y hy => by rw [tX (qp ..)]; exact ht y (List.mem_cons_of_mem _ hy)) (by simp only [List.length_cons] at hf; omega)
  rw [ap, if_pos htx, <- ih, dM]
  have hlen : pre.length < l.length := by rw [<- hp]; simp
  subst hp
  simp only [vP, EI, Tr.eval, List.length_map, lt_n hlen, bF hlen, Int.toNat_natCast, He, cond_true, pO, g0, g1, g2, iO, bO, r.ok, r.val, lO, Bool.not_true, cond_false, kD (show pre.length < 1000000 by omega)]
  rw [show ((pre ++ [x]).length : Int) = ((pre.length + 1 : Nat) : Int) by simp]
theorem Yb (k : Nat) {m : aF} (w : Wm m) (l : List Wr) (hs : l.length < 1000) (hok : ∀ x ∈ l, x.ok) (ht : ∀ x ∈ l, th m x.a x.s = true) (ha : (ap m l).2 = true) : Rt Pg (D (k + 4)) 37 [mv m, .slice 57 (l.map wv) false] (.agg 94 [mv (fC m l), .bool true]) := .of (by
 have := MH k (m.map pg) l hs l [] m 100000 rfl w hok ht (by omega)
 rw [Dk, abU]
 unfold KX
 rw [show (([] : List Wr).length : Int) = 0 from rfl] at this
 rw [this]
 unfold fC
 rw [ha]
 rfl) (by kernel_rfl)
def vZ (i j : Nat) (r : Cp × aF × Nat) : LO :=
 cond (decide (r.2.2 < j)) ⟨1, [(r.1.pc : Int), r.1.count, ((i + r.2.2 : Nat) : Int), r.1.pc, r.1.count, ((i + r.2.2 : Nat) : Int)], [r.1.user, r.1.waits, r.1.halts, r.1.user, r.1.waits, r.1.halts], [r.1.r.map uv, r.1.c.map uv, r.2.1.map pg, r.1.r.map uv, r.1.c.map uv, r.2.1.map pg], [], [], []⟩
  ⟨2, [(r.1.pc : Int), r.1.count, ((i + j : Nat) : Int)], [r.1.user, r.1.waits, r.1.halts], [r.1.r.map uv, r.1.c.map uv, r.2.1.map pg], [], [], []⟩
theorem aa6 (i j : Nat) (r : Cp × aF × Nat) : vZ i (j + 1) (r.1, r.2.1, r.2.2 + 1) = vZ (i + 1) j r := by
 unfold vZ
 rw [decide_eq_decide.mpr (show r.2.2 + 1 < j + 1 ↔ r.2.2 < j by omega), show i + (r.2.2 + 1) = i + 1 + r.2.2 by omega, show i + (j + 1) = i + 1 + j by omega]
theorem NV (k : Nat) (n : Int) (N : Nat) (hn : n.toNat = N) (hN : N < 1000) (i1 : Int) (l0 l1 : List AV) (b0 b1 b2 : Bool) (i2 : Int) (l2 : List AV) : ∀ (j i : Nat) (c : Cp) (m : aF) (fuel : Nat), Wv c -> c.count + j <= 1099511627776 -> Wm m -> i + j = N -> j < fuel ->
    Tr.run (oP (D (k + 10)) n i1 l0 l1 b0 b1 b2 i2 l2) fuel ((c.pc : Int), c.r.map uv, c.c.map uv, c.user, c.waits, c.halts, (c.count : Int), m.map pg, (i : Int)) = vZ i j (rn j c m)
 | 0, i, c, m, fuel, h, hc, wm, hi, hf => by
  obtain ⟨f, rfl⟩ : ∃ f, fuel = f + 1 := ⟨fuel - 1, by omega⟩
  rw [dM]
  simp only [oP, Aq, Tr.eval, decide_eq_false (show ¬ (i : Int) < n by omega), cond_false]
  rfl
 | j + 1, i, c, m, fuel, h, hc, wm, hi, hf => by
  obtain ⟨f, rfl⟩ : ∃ f, fuel = f + 1 := ⟨fuel - 1, by omega⟩
  have hlt : (i : Int) < n := by omega
  have r1 : Rt Pg (D (k + 10)) 10 [bH c, mv m, .int .u32 0] (dS (dz c m 0)) := aax k h.w (by omega) wm 0 (by decide)
  obtain ⟨f1, f2, f3⟩ := few h (by omega) wm 0 (by decide)
  have r2 : Rt Pg (D (k + 10)) 12 [dS (dz c m 0), .int .u32 0, .bool false] (dS (bA c m)) := Wx (k + 5) (e := dz c m 0) (fun ha => by obtain ⟨a1, a2, a3⟩ := f3 ha; rw [a2]; exact ⟨a1, h.w, by omega, a3⟩) 0 false
  have hnx := fun hd => GH h (by omega) wm hd
  rw [dM]
  cases hd : (bA c m).done with
  | false =>
   rw [show rn (j + 1) c m = (c, m, 0) by rw [rn, hd]; rfl]
   clear hnx
   generalize bA c m = e at *
   generalize dz c m 0 = e0 at *
   simp only [oP, Aq, Tr.eval, decide_eq_true hlt, cond_true, r1.ok, r1.val, pO, g0, g1, g2, g3, g4, g5, g6, g7, g8, g9, g10, iO, bO, lO]
   simp only [r2.ok, r2.val, cond_true, pO, g0, g1, bO, hd, Bool.not_false]
   rfl
  | true =>
   have nx := hnx hd
   have r3 : Rt Pg (D (k + 10)) 37 [mv m, .slice 57 ((bA c m).ws.map wv) false] _ := Yb (k + 6) wm (bA c m).ws nx.ws nx.ok nx.th nx.a
   have ih := NV k n N hn hN i1 l0 l1 b0 b1 b2 i2 l2 j (i + 1) (bA c m).cpu (fC m (bA c m).ws) f nx.v (by have := nx.n; omega) nx.m (by omega) (by omega)
   rw [show rn (j + 1) c m = ((rn j (bA c m).cpu (fC m (bA c m).ws)).1, (rn j (bA c m).cpu (fC m (bA c m).ws)).2.1, (rn j (bA c m).cpu (fC m (bA c m).ws)).2.2 + 1) by rw [rn, hd]; rfl, aa6, <- ih]
   clear ih hnx
   generalize fC m (bA c m).ws = m' at *
   generalize bA c m = e at *
   generalize dz c m 0 = e0 at *
   simp only [oP, Aq, Tr.eval, decide_eq_true hlt, cond_true, r1.ok, r1.val, pO, g0, g1, g2, g3, g4, g5, g6, g7, g8, g9, g10, iO, bO, lO]
   simp only [r2.ok, r2.val, cond_true, cond_false, pO, g0, g1, g2, g3, g4, g5, g6, iO, bO, lO, hd, Bool.not_true, r3.ok, r3.val, kD (show i < 1000000 by omega)]
end Go.Proofs.YtcknhfnbdgleiaaGreat
