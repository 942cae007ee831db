/- CoreTouchesWhatItSays. -/
import Derived.Test.YtcknhfnbdgleiaaTc2
set_option linter.unusedVariables false
set_option linter.unusedSimpArgs false
namespace Go.Proofs.Ytcknhfnbdgleiaa
open Go.AE
theorem ME {F : Tab} (ws : List Wr) (hl : ws.length < 1000) (b0 : Bool) (i1 : Int) (l0 l1 : List AV) (b1 b2 b3 : Bool) (i2 i3 : Int) (l2 l3 : List AV) (b4 b5 b6 : Bool) (i4 i5 : Int) (l5 : List AV) (b7 b8 : Bool) (i6 i7 i8 i9 i10 : Int) (b9 : Bool) (i11 : Int) (l6 l7 : List AV) (b10 b11 b12 : Bool) (i12 i13 : Int) (l8 l9 : List AV) (b13 b14 b15 : Bool) (i14 i15 : Int) (l11 : List AV) (b16 b17 : Bool) (i16 i17 i18 i19 i20 : Int) :
    ∀ (j i fuel : Nat), i + j = ws.length -> j < fuel -> Tr.run (pz F b0 i1 l0 l1 b1 b2 b3 i2 i3 l2 l3 b4 b5 b6 i4 i5 (ws.map wv) l5 b7 b8 i6 i7 i8 i9 i10 b9 i11 l6 l7 b10 b11 b12 i12 i13 l8 l9 b13 b14 b15 i14 i15 (ws.map wv) l11 b16 b17 i16 i17 i18 i19 i20) fuel (i : Int) = ⟨2, [], [], [], [], [], []⟩
 | 0, i, fuel, hi, hf => by
  obtain ⟨f, rfl⟩ : ∃ f, fuel = f + 1 := ⟨fuel - 1, by omega⟩
  obtain rfl : i = ws.length := by omega
  rw [dQ]
  simp only [pz, FV, Tr.eval, List.length_map, nP, cond_false]
 | j + 1, i, fuel, hi, hf => by
  obtain ⟨f, rfl⟩ : ∃ f, fuel = f + 1 := ⟨fuel - 1, by omega⟩
  have h : i < ws.length := by omega
  rw [dQ]
  simp only [pz, FV, Tr.eval, List.length_map, lt_n h, bZ h, kP (show i < 1000000 by omega), cond_true, beq_self_eq_true, Bool.and_self, Bool.not_true, cond_false]
  exact ME ws hl b0 i1 l0 l1 b1 b2 b3 i2 i3 l2 l3 b4 b5 b6 i4 i5 l5 b7 b8 i6 i7 i8 i9 i10 b9 i11 l6 l7 b10 b11 b12 i12 i13 l8 l9 b13 b14 b15 i14 i15 l11 b16 b17 i16 i17 i18 i19 i20 j (i + 1) f (by omega) (by omega)
theorem Ox {F : Tab} (ac : List Ac) (hl : ac.length < 1000) (b0 : Bool) (i1 : Int) (l0 l1 : List AV) (b1 b2 b3 : Bool) (i2 i3 : Int) (l2 l3 : List AV) (b4 b5 b6 : Bool) (i4 i5 : Int) (l4 : List AV) (b7 b8 : Bool) (i6 i7 i8 i9 i10 : Int) (b9 : Bool) (i11 : Int) (l6 l7 : List AV) (b10 b11 b12 : Bool) (i12 i13 : Int) (l8 l9 : List AV) (b13 b14 b15 : Bool) (i14 i15 : Int) (l10 : List AV) (b16 b17 : Bool) (i16 i17 i18 i19 i20 : Int) :
    ∀ (j i fuel : Nat), i + j = ac.length -> j < fuel -> Tr.run (qo F b0 i1 l0 l1 b1 b2 b3 i2 i3 l2 l3 b4 b5 b6 i4 i5 l4 (ac.map bF) b7 b8 i6 i7 i8 i9 i10 b9 i11 l6 l7 b10 b11 b12 i12 i13 l8 l9 b13 b14 b15 i14 i15 l10 (ac.map bF) b16 b17 i16 i17 i18 i19 i20) fuel (i : Int) = ⟨2, [], [], [], [], [], []⟩
 | 0, i, fuel, hi, hf => by
  obtain ⟨f, rfl⟩ : ∃ f, fuel = f + 1 := ⟨fuel - 1, by omega⟩
  obtain rfl : i = ac.length := by omega
  rw [dQ]
  simp only [qo, Gc, Tr.eval, List.length_map, nP, cond_false]
 | j + 1, i, fuel, hi, hf => by
  obtain ⟨f, rfl⟩ : ∃ f, fuel = f + 1 := ⟨fuel - 1, by omega⟩
  have h : i < ac.length := by omega
  rw [dQ]
  simp only [qo, Gc, Tr.eval, List.length_map, lt_n h, bZ h, kP (show i < 1000000 by omega), cond_true, beq_self_eq_true, Bool.and_self, Bool.not_true, cond_false]
  exact Ox ac hl b0 i1 l0 l1 b1 b2 b3 i2 i3 l2 l3 b4 b5 b6 i4 i5 l4 b7 b8 i6 i7 i8 i9 i10 b9 i11 l6 l7 b10 b11 b12 i12 i13 l8 l9 b13 b14 b15 i14 i15 l10 b16 b17 i16 i17 i18 i19 i20 j (i + 1) f (by omega) (by omega)
theorem Sg (k : Nat) (e : Ef) (h1 : e.ws.length < 1000) (h2 : e.ac.length < 1000) : Rt Pg (D (k + 1)) 54 [eT e, eT e] (.bool true) := .of (by
 have s4 : ∀ b0 i1 l0 l1 b1 b2 b3 i2 i3 l2 l3 b4 b5 b6 i4 i5 l5 b7 b8 i6 i7 i8 i9 i10 b9 i11 l6 l7 b10 b11 b12 i12 i13 l8 l9 b13 b14 b15 i14 i15 l11 b16 b17 i16 i17 i18 i19 i20, Ar (D k) b0 i1 l0 l1 b1 b2 b3 i2 i3 l2 l3 b4 b5 b6 i4 i5 (e.ws.map wv) l5 b7 b8 i6 i7 i8 i9 i10 b9 i11 l6 l7 b10 b11 b12 i12 i13 l8 l9 b13 b14 b15 i14 i15 (e.ws.map wv) l11 b16 b17 i16 i17 i18 i19 i20 100000 0 = ⟨2, [], [], [], [], [], []⟩ :=
  fun b0 i1 l0 l1 b1 b2 b3 i2 i3 l2 l3 b4 b5 b6 i4 i5 l5 b7 b8 i6 i7 i8 i9 i10 b9 i11 l6 l7 b10 b11 b12 i12 i13 l8 l9 b13 b14 b15 i14 i15 l11 b16 b17 i16 i17 i18 i19 i20 => ME e.ws h1 b0 i1 l0 l1 b1 b2 b3 i2 i3 l2 l3 b4 b5 b6 i4 i5 l5 b7 b8 i6 i7 i8 i9 i10 b9 i11 l6 l7 b10 b11 b12 i12 i13 l8 l9 b13 b14 b15 i14 i15 l11 b16 b17 i16 i17 i18 i19 i20 e.ws.length 0 100000 (by omega) (by omega)
 have s9 : ∀ b0 i1 l0 l1 b1 b2 b3 i2 i3 l2 l3 b4 b5 b6 i4 i5 l4 b7 b8 i6 i7 i8 i9 i10 b9 i11 l6 l7 b10 b11 b12 i12 i13 l8 l9 b13 b14 b15 i14 i15 l10 b16 b17 i16 i17 i18 i19 i20, zQ (D k) b0 i1 l0 l1 b1 b2 b3 i2 i3 l2 l3 b4 b5 b6 i4 i5 l4 (e.ac.map bF) b7 b8 i6 i7 i8 i9 i10 b9 i11 l6 l7 b10 b11 b12 i12 i13 l8 l9 b13 b14 b15 i14 i15 l10 (e.ac.map bF) b16 b17 i16 i17 i18 i19 i20 100000 0 = ⟨2, [], [], [], [], [], []⟩ :=
  fun b0 i1 l0 l1 b1 b2 b3 i2 i3 l2 l3 b4 b5 b6 i4 i5 l4 b7 b8 i6 i7 i8 i9 i10 b9 i11 l6 l7 b10 b11 b12 i12 i13 l8 l9 b13 b14 b15 i14 i15 l10 b16 b17 i16 i17 i18 i19 i20 => Ox e.ac h2 b0 i1 l0 l1 b1 b2 b3 i2 i3 l2 l3 b4 b5 b6 i4 i5 l4 b7 b8 i6 i7 i8 i9 i10 b9 i11 l6 l7 b10 b11 b12 i12 i13 l8 l9 b13 b14 b15 i14 i15 l10 b16 b17 i16 i17 i18 i19 i20 e.ac.length 0 100000 (by omega) (by omega)
 rw [Dk, Vk]
 simp only [beq_self_eq_true, KE, Bool.and_self, Bool.not_true, bne_self_eq_false, cond_false, s4, s9, cond_true, show ((2 : Nat) == 1) = false from rfl, show ((2 : Nat) == 2) = true from rfl]) (by kernel_rfl)
theorem few {c : Cp} (h : Wv c) (hc : c.count < 1099511627776) {m : aA} (wm : Wm m) (p : Nat) (hp : p < 4294967296) : (dG c m p).ws.length <= 3 /\ (dG c m p).ac.length <= 9 /\ ∀ a ∈ (dG c m p).ac, a.a + a.s <= 128 * m.length /\ 1 <= a.s /\ a.s <= 4 := by
 by_cases hr : nQ c p = true
 . obtain ⟨M, pk⟩ := (Qr h hc wm p hp hr).pk
   refine ⟨pk.nw, pk.na, fun a ha => ?_⟩
   obtain ⟨t1, t2⟩ := pk.ac a ha
   have := zA t1
   omega
 . have : dG c m p = ⟨false, c, zCp, 0, [], [], false, false, 0, 0, 0, 0, 0⟩ := by unfold dG; rw [if_pos (by simpa using hr)]
   rw [this]; exact ⟨Nat.zero_le _, Nat.zero_le _, fun a ha => absurd ha (by simp)⟩
theorem XM (k : Nat) {c : Cp} (h : Wv c) (hc : c.count < 1099511627776) {m : aA} (wm : Wm m) (p : Nat) (hp : p < 4294967296) (o : List Nat) (ho2 : ∀ b ∈ o, b < 256) :
    Touches.E (k + 12) 12 [dD c, mv m, uv p, .slice 5 (o.map bv) false] = some (.bool true) := by
 have rs : Rt Pg (D (k + 12)) 52 [] (.bool true) := NU k
 have r1 : Rt Pg (D (k + 12)) 51 _ _ := Pd (k + 10) h hc wm
 have r2 : Rt Pg (D (k + 12)) 53 _ _ := Ce (k + 6) h.w hc wm p hp
 have hl := wm.le
 have hpos := wm.pos
 show aY (Touches.cx (D (k + 12))) 6 12 _ = _
 rw [Touches.JF]
 by_cases ho : o.length <= 10000
 . obtain ⟨f1, f2, f3⟩ := few h hc wm p hp
   have hsz : IntKind.i64.wrap (((m.length : Nat) : Int) * 128) = ((128 * m.length : Nat) : Int) := by rw [iW (by omega) (by omega)]; omega
   have hst : ∀ m', Wm m' -> Ag (fun x => ∃ a ∈ (dG c m p).ac, a.a <= x /\ x < a.a + a.s) m m' -> dG c m' p = dG c m p := fun m' w' ha => Y4 wm w' ha p (fun a ha x h1 h2 => ⟨a, ha, h1, h2⟩)
   have rS := Sg (k + 11) (dG c m p) (by omega) (by omega)
   have r2' : ∀ m', Wm m' -> dG c m' p = dG c m p -> Rt Pg (D (k + 12)) 53 [dD c, mv m', uv p] (eT (dG c m p)) := fun m' w' e => by
    have := Ce (k + 6) h.w hc w' p hp
    rw [e] at this; exact this
   generalize dG c m p = e at *
   have e0 : (List.replicate (128 * m.length) (.bool false : AV)) = (List.replicate (128 * m.length) false).map kv := by rw [List.map_replicate]
   obtain ⟨kb, q1, q2, q3, q4⟩ := Ll (F := D (k + 12)) (p : Int) (o.map bv) (128 * m.length) (by omega) (c.pc : Int) (c.r.map uv) (c.c.map uv) c.user c.waits c.halts (c.count : Int) (m.map pg) e.done (e.cpu.pc : Int) (e.cpu.r.map uv) (e.cpu.c.map uv) e.cpu.user e.cpu.waits e.cpu.halts (e.cpu.count : Int)
    (e.old.pc : Int) (e.old.r.map uv) (e.old.c.map uv) e.old.user e.old.waits e.old.halts (e.old.count : Int) (e.word : Int) (e.ws.map wv) e.asks e.ioIn e.port (e.val : Int) e.fl (e.flAt : Int) (e.trap : Int) e.ac [] (List.replicate (128 * m.length) false) 100000 (by omega) (by simp; omega) (by simp) f3
   obtain ⟨m', t1, t2, t3⟩ := Ht (F := D (k + 12)) (p : Int) o ho ho2 (128 * m.length) kb q2 (m := m) rfl (c.pc : Int) (c.r.map uv) (c.c.map uv) c.user c.waits c.halts (c.count : Int) (m.map pg) e.done (e.cpu.pc : Int) (e.cpu.r.map uv) (e.cpu.c.map uv) e.cpu.user e.cpu.waits e.cpu.halts (e.cpu.count : Int)
    (e.old.pc : Int) (e.old.r.map uv) (e.old.c.map uv) e.old.user e.old.waits e.old.halts (e.old.count : Int) (e.word : Int) (e.ws.map wv) (e.ac.map bF) e.asks e.ioIn e.port (e.val : Int) e.fl (e.flAt : Int) (e.trap : Int) (128 * m.length) 0 m 100000 (by omega) (by omega) wm ⟨rfl, fun _ _ => rfl⟩
   have r3 := r2' m' t2 (hst m' t2 ⟨t3.len, fun x ⟨a, ha, h1, h2⟩ => t3.bt x (q4 a ha x h1 h2)⟩)
   rw [<- e0] at q1
   simp only [List.nil_append, List.length_nil, show ((0 : Nat) : Int) = 0 from rfl] at q1 t1
   have L7 : Touches.qQ (D (k + 12)) (p : Int) (o.map bv) ((128 * m.length : Nat) : Int) (128 * m.length) (c.pc : Int) (c.r.map uv) (c.c.map uv) c.user c.waits c.halts (c.count : Int) (m.map pg) e.done (e.cpu.pc : Int) (e.cpu.r.map uv) (e.cpu.c.map uv) e.cpu.user e.cpu.waits e.cpu.halts (e.cpu.count : Int)
    (e.old.pc : Int) (e.old.r.map uv) (e.old.c.map uv) e.old.user e.old.waits e.old.halts (e.old.count : Int) (e.word : Int) (e.ws.map wv) (e.ac.map bF) e.asks e.ioIn e.port (e.val : Int) e.fl (e.flAt : Int) (e.trap : Int) 100000 0 (List.replicate (128 * m.length) (.bool false)) = _ := q1
   have L18 : Touches.xA (D (k + 12)) (p : Int) (o.map bv) ((128 * m.length : Nat) : Int) (128 * m.length) (c.pc : Int) (c.r.map uv) (c.c.map uv) c.user c.waits c.halts (c.count : Int) (m.map pg) e.done (e.cpu.pc : Int) (e.cpu.r.map uv) (e.cpu.c.map uv) e.cpu.user e.cpu.waits e.cpu.halts (e.cpu.count : Int)
    (e.old.pc : Int) (e.old.r.map uv) (e.old.c.map uv) e.old.user e.old.waits e.old.halts (e.old.count : Int) (e.word : Int) (e.ws.map wv) (e.ac.map bF) e.asks e.ioIn e.port (e.val : Int) e.fl (e.flAt : Int) (e.trap : Int) (kb.map kv) m.length 100000 0 (m.map pg) = _ := t1
   have hsub : sub (m'.map pg) 0 (0 + m.length) = m'.map pg := by rw [Nat.zero_add]; exact CO _ (by rw [List.length_map, t3.len])
   unfold eT at r2 r3 rS
   simp only [r1.ok, r1.val, bO, Bool.not_true, cond_true, cond_false, List.length_map, decide_eq_false (show ¬ ((10000 : Int) < ((o.length : Nat) : Int)) by omega), r2.ok, r2.val, pO, g0, g1, g2, g3, g4, g5, g6, g7, g8, g9, g10, iO, lO, hsz, Int.toNat_natCast,
    decide_eq_true (show (0 : Int) <= ((128 * m.length : Nat) : Int) by omega), decide_eq_true (show ((128 * m.length : Nat) : Int) * 1 <= 140737488355328 by omega), decide_eq_true (show ((128 * m.length : Nat) : Int) <= 140737488355328 by omega), Bool.and_self, L7, List.getD_cons_zero, L18, hsub,
    show ((2 : Nat) == 1) = false from rfl, show ((2 : Nat) == 2) = true from rfl, show ((1 : Nat) == 1) = true from rfl, decide_eq_true (show (0 + m.length) * 128 <= 140737488355328 by omega), decide_eq_true (show 0 < m.length by omega), r3.ok, r3.val, rS.ok, rS.val, rs.ok, rs.val, yU]
 . simp only [r1.ok, r1.val, bO, Bool.not_true, cond_true, cond_false, List.length_map, decide_eq_true (show ((10000 : Int) < ((o.length : Nat) : Int)) by omega), rs.ok, rs.val]
theorem RS (k : Nat) (pc : Nat) (hpc : pc < 4294967296) (r c : List Nat) (hr : r.length = 16) (hr2 : ∀ n ∈ r, n < 4294967296) (hc : c.length = 9) (hc2 : ∀ n ∈ c, n < 4294967296) (u wt ht : Bool) (n : Int) (m : aA) (hm : Kj m) (p : Nat) (hp : p < 4294967296) (o : List Nat) (ho2 : ∀ b ∈ o, b < 256) :
    Touches.E (k + 12) 12 [.agg 104 [uv pc, .agg 102 (r.map uv), .agg 103 (c.map uv), .bool u, .bool wt, .bool ht, .int .i64 n], mv m, uv p, .slice 5 (o.map bv) false] = some (.bool true) := by
 cases hR : qH r c wt ht n m with
 | false =>
  have rs : Rt Pg (D (k + 12)) 52 [] (.bool true) := NU k
  have r1 : Rt Pg (D (k + 12)) 51 _ _ := Mr (k + 10) pc r c hr hc u wt ht n m
  show aY (Touches.cx (D (k + 12))) 6 12 _ = _
  rw [Touches.JF]
  simp only [r1.ok, r1.val, hR, bO, Bool.not_false, cond_true, rs.ok, rs.val]
 | true =>
  obtain ⟨cnt, rfl, hcnt, hv', h1, h2⟩ := Vl (pc := pc) (u := u) hR
  exact XM k (c := ⟨pc, r, c, u, wt, ht, cnt⟩) ⟨⟨hpc, hr, hc, hr2, hc2⟩, hv'⟩ hcnt ⟨h1, h2, fun p hp => (hm p hp).1, fun p hp => (hm p hp).2⟩ p hp o ho2
end Go.Proofs.Ytcknhfnbdgleiaa
