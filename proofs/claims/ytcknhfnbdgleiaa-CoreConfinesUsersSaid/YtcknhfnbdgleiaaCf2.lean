/- CoreConfinesUsers. -/
import Derived.Test.YtcknhfnbdgleiaaCf1
import Derived.Test.YtcknhfnbdgleiaaCfD
import Derived.Test.YtcknhfnbdgleiaaCfN0
set_option linter.unusedVariables false
set_option linter.unusedSimpArgs false
namespace Go.Proofs.Ytcknhfnbdgleiaa
open Go.AE
def vA (y : Wr) (a : Ac) : Bool := !a.st && (a.a == y.a && y.s == 4)
def vX (n : Nat) (x : Mg) : Bool :=
 cond (cond (decide (IntKind.i64.wrap (x.pa : Int) <= (n : Int))) (decide ((n : Int) < IntKind.i64.wrap (IntKind.i64.wrap (x.pa : Int) + IntKind.i64.wrap ((cond (aD .and .i64 (x.bits : Int) 64 != 0) (32 : Int) 1) * 128)))) false)
  (cond (aD .and .i64 (x.bits : Int) 4 != 0) (aD .and .i64 (x.bits : Int) 2 != 0) false) false
theorem V9 : ∀ n : Nat, n < 128 -> (aD .and .i64 (n : Int) 64 != 0) = hb n 64 /\ (aD .and .i64 (n : Int) 4 != 0) = hb n 4 /\ (aD .and .i64 (n : Int) 2 != 0) = hb n 2 := by decide +kernel
theorem Uq {m : av} {root n : Nat} (h : sI m root n) : (kQ m root).any (vX n) = true := by
 obtain ⟨x, hx, ⟨h1, h2⟩, h4, h3, h5, h6⟩ := h
 refine List.any_eq_true.mpr ⟨x, hx, ?_⟩
 obtain ⟨b1, b2, b3⟩ := V9 x.bits h6
 unfold vX
 rw [b1, b2, b3, h4, h3, eH (show x.pa < 9223372036854775808 by omega), decide_eq_true (show (x.pa : Int) <= (n : Int) by omega)]
 have e : IntKind.i64.wrap ((x.pa : Int) + IntKind.i64.wrap ((cond (hb x.bits 64) (32 : Int) 1) * 128)) = ((x.pa + sz x : Nat) : Int) := by
  unfold sz
  cases hb x.bits 64 with
  | true => rw [cond_true, cond_true, show IntKind.i64.wrap ((32 : Int) * 128) = 4096 from rfl, dP (by omega) (by omega)]; omega
  | false => rw [cond_false, cond_false, show IntKind.i64.wrap ((1 : Int) * 128) = 128 from rfl, dP (by omega) (by omega)]; omega
 rw [e, decide_eq_true (by omega)]; rfl
open Confines in
theorem LD {F : Tab} (l0 : List AV) (i0 i2 : Int) (l1 l2 : List AV) (b1 b2 b3 : Bool) (i3 : Int) (l3 : List AV) (b4 : Bool) (i4 : Int) (l4 l5 : List AV) (b5 b6 b7 : Bool) (i5 i6 : Int) (l6 l7 : List AV) (b8 b9 b10 : Bool) (i7 i8 : Int) (l8 : List AV) (b11 b12 : Bool) (i9 i10 i11 i12 i13 : Int) (y : Wr) (i16 : Int) :
    ∀ (rest pre : List Ac) (b0 : Bool) (fuel : Nat), rest.length < fuel -> pre.length + rest.length < 1000 ->
     Tr.run (pF F l0 i0 i2 l1 l2 b1 b2 b3 i3 l3 b4 i4 l4 l5 b5 b6 b7 i5 i6 l6 l7 b8 b9 b10 i7 i8 l8 ((pre ++ rest).map bI) b11 b12 i9 i10 i11 i12 i13 y.a y.s i16) fuel (b0, (pre.length : Int)) = ⟨1, [], [b0 || rest.any (vA y)], [], [], [], []⟩
 | [], pre, b0, 0, h, _ => absurd h (by simp)
 | [], pre, b0, f + 1, _, _ => by
  rw [fM]
  simp only [pF, D8, Tr.eval, List.append_nil, List.length_map, rD, cond_false, List.any_nil, Bool.or_false]
 | a :: rest, pre, b0, 0, h, _ => absurd h (by simp)
 | a :: rest, pre, b0, f + 1, hf, hp => by
  simp only [List.length_cons] at hf hp
  have e1 : decide ((pre.length : Int) < ((((pre ++ a :: rest).map bI).length : Nat) : Int)) = true := decide_eq_true (by have := uw bI pre a rest; omega)
  have e2 : aH (pre.length : Int) ((pre ++ a :: rest).map bI).length = true := dh (uw bI pre a rest)
  have e3 : (pre ++ a :: rest) = (pre ++ [a]) ++ rest := by simp
  have e4 : ((pre ++ [a]).length : Int) = ((pre.length + 1 : Nat) : Int) := by simp
  have ih := LD (F := F) l0 i0 i2 l1 l2 b1 b2 b3 i3 l3 b4 i4 l4 l5 b5 b6 b7 i5 i6 l6 l7 b8 b9 b10 i7 i8 l8 b11 b12 i9 i10 i11 i12 i13 y i16 rest (pre ++ [a]) (b0 || vA y a) f (by omega) (by simp; omega)
  rw [<- e3, e4] at ih
  have e5 : cond b0 true (cond (!a.st) (cond ((a.a : Int) == (y.a : Int)) ((y.s : Int) == 4) false) false) = (b0 || vA y a) := by
   unfold vA
   rw [show ((a.a : Int) == (y.a : Int)) = (a.a == y.a) from bP _ _, show ((y.s : Int) == 4) = (y.s == 4) from bP _ 4]
   cases b0 <;> cases a.st <;> cases a.a == y.a <;> rfl
  rw [fM]
  simp only [pF, D8, Tr.eval, e1, e2, Ir, Int.toNat_natCast, pO, g0, g1, g2, iO, bO, cond_true, o9, mH (show pre.length < 1000000 by omega), e5]
  rw [ih, List.any_cons, Bool.or_assoc]
open Confines in
theorem J2 {F : Tab} (i0 i2 : Int) (l1 l2 : List AV) (b1 b2 b3 : Bool) (i3 : Int) (l3 : List AV) (b4 : Bool) (i4 : Int) (l4 l5 : List AV) (b5 b6 b7 : Bool) (i5 i6 : Int) (l6 l7 : List AV) (b8 b9 b10 : Bool) (i7 i8 : Int) (l8 l9 : List AV) (b11 b12 : Bool) (i9 i10 i11 i12 i13 : Int) (n : Nat) (i15 i16 : Int) :
    ∀ (rest pre : List Mg) (b0 : Bool) (fuel : Nat), rest.length < fuel -> pre.length + rest.length < 10000 ->
     Tr.run (qy F ((pre ++ rest).map fQ) i0 i2 l1 l2 b1 b2 b3 i3 l3 b4 i4 l4 l5 b5 b6 b7 i5 i6 l6 l7 b8 b9 b10 i7 i8 l8 l9 b11 b12 i9 i10 i11 i12 i13 n i15 i16) fuel (b0, (pre.length : Int)) = ⟨1, [], [b0 || rest.any (vX n)], [], [], [], []⟩
 | [], pre, b0, 0, h, _ => absurd h (by simp)
 | [], pre, b0, f + 1, _, _ => by
  rw [fM]
  simp only [qy, Ed, Tr.eval, List.append_nil, List.length_map, rD, cond_false, List.any_nil, Bool.or_false]
 | a :: rest, pre, b0, 0, h, _ => absurd h (by simp)
 | a :: rest, pre, b0, f + 1, hf, hp => by
  simp only [List.length_cons] at hf hp
  have e1 : decide ((pre.length : Int) < ((((pre ++ a :: rest).map fQ).length : Nat) : Int)) = true := decide_eq_true (by have := uw fQ pre a rest; omega)
  have e2 : aH (pre.length : Int) ((pre ++ a :: rest).map fQ).length = true := dh (uw fQ pre a rest)
  have e3 : (pre ++ a :: rest) = (pre ++ [a]) ++ rest := by simp
  have e4 : ((pre ++ [a]).length : Int) = ((pre.length + 1 : Nat) : Int) := by simp
  have ih := J2 (F := F) i0 i2 l1 l2 b1 b2 b3 i3 l3 b4 i4 l4 l5 b5 b6 b7 i5 i6 l6 l7 b8 b9 b10 i7 i8 l8 l9 b11 b12 i9 i10 i11 i12 i13 n i15 i16 rest (pre ++ [a]) (b0 || vX n a) f (by omega) (by simp; omega)
  rw [<- e3, e4] at ih
  have e5 : ∀ b : Bool, cond b0 true b = (b0 || b) := fun b => by cases b0 <;> rfl
  rw [fM]
  simp only [qy, Ed, Tr.eval, e1, e2, Ir, Int.toNat_natCast, pO, g0, g1, g2, iO, bO, cond_true, o9, mH (show pre.length < 1000000 by omega), e5]
  rw [show (cond (cond (decide (IntKind.i64.wrap (a.pa : Int) <= (n : Int))) (decide ((n : Int) < IntKind.i64.wrap (IntKind.i64.wrap (a.pa : Int) + IntKind.i64.wrap ((cond (aD .and .i64 (a.bits : Int) 64 != 0) (32 : Int) 1) * 128)))) false)
  (cond (aD .and .i64 (a.bits : Int) 4 != 0) (aD .and .i64 (a.bits : Int) 2 != 0) false) false) = vX n a from rfl, ih, List.any_cons, Bool.or_assoc]
open Confines in
theorem NR {F : Tab} (l0 : List Mg) (h0 : l0.length < 5000) (ac : List Ac) (hac : ac.length < 500) (i1 : Int) (l1 l2 : List AV) (b0 b1 b2 : Bool) (i2 : Int) (l3 : List AV) (b3 : Bool) (i3 : Int) (l4 l5 : List AV) (b4 b5 b6 : Bool) (i4 i5 : Int) (l6 l7 : List AV) (b7 b8 b9 : Bool) (i6 i7 : Int) (b10 b11 : Bool) (i8 i9 i10 i11 i12 : Int) :
    ∀ (rest pre : List Wr) (fuel : Nat), rest.length < fuel -> pre.length + rest.length < 1000 -> (∀ y ∈ rest, (ac.any (vA y) || l0.any (vX y.a)) = true) ->
     Tr.run (oO F (l0.map fQ) i1 l1 l2 b0 b1 b2 i2 l3 b3 i3 l4 l5 b4 b5 b6 i4 i5 l6 l7 b7 b8 b9 i6 i7 ((pre ++ rest).map wv) (ac.map bI) b10 b11 i8 i9 i10 i11 i12) fuel (pre.length : Int) = ⟨2, [], [], [], [], [], []⟩
 | [], pre, 0, h, _, _ => absurd h (by simp)
 | [], pre, f + 1, _, _, _ => by
  rw [fM]
  simp only [oO, Dm, Tr.eval, List.append_nil, List.length_map, rD, cond_false]
 | a :: rest, pre, 0, h, _, _ => absurd h (by simp)
 | a :: rest, pre, f + 1, hf, hp, hy => by
  simp only [List.length_cons] at hf hp
  have e1 : decide ((pre.length : Int) < ((((pre ++ a :: rest).map wv).length : Nat) : Int)) = true := decide_eq_true (by have := uw wv pre a rest; omega)
  have e2 : aH (pre.length : Int) ((pre ++ a :: rest).map wv).length = true := dh (uw wv pre a rest)
  have e3 : (pre ++ a :: rest) = (pre ++ [a]) ++ rest := by simp
  have e4 : ((pre ++ [a]).length : Int) = ((pre.length + 1 : Nat) : Int) := by simp
  have ih := NR (F := F) l0 h0 ac hac i1 l1 l2 b0 b1 b2 i2 l3 b3 i3 l4 l5 b4 b5 b6 i4 i5 l6 l7 b7 b8 b9 i6 i7 b10 b11 i8 i9 i10 i11 i12 rest (pre ++ [a]) f (by omega) (by simp; omega) (fun y h => hy y (List.mem_cons_of_mem _ h))
  rw [<- e3, e4] at ih
  have r1 : ∀ l0 i0 i2 l1 l2 b1 b2 b3 i3 l3 b4 i4 l4 l5 b5 b6 b7 i5 i6 l6 l7 b8 b9 b10 i7 i8 l8 b11 b12 i9 i10 i11 i12 i13 i16, EY F l0 i0 i2 l1 l2 b1 b2 b3 i3 l3 b4 i4 l4 l5 b5 b6 b7 i5 i6 l6 l7 b8 b9 b10 i7 i8 l8 (ac.map bI) b11 b12 i9 i10 i11 i12 i13 a.a a.s i16 100000 false 0 = ⟨1, [], [false || ac.any (vA a)], [], [], [], []⟩ :=
   fun l0 i0 i2 l1 l2 b1 b2 b3 i3 l3 b4 i4 l4 l5 b5 b6 b7 i5 i6 l6 l7 b8 b9 b10 i7 i8 l8 b11 b12 i9 i10 i11 i12 i13 i16 => LD l0 i0 i2 l1 l2 b1 b2 b3 i3 l3 b4 i4 l4 l5 b5 b6 b7 i5 i6 l6 l7 b8 b9 b10 i7 i8 l8 b11 b12 i9 i10 i11 i12 i13 a i16 ac [] false 100000 (by omega) (by simp; omega)
  have r2 : ∀ i0 i2 l1 l2 b1 b2 b3 i3 l3 b4 i4 l4 l5 b5 b6 b7 i5 i6 l6 l7 b8 b9 b10 i7 i8 l8 l9 b11 b12 i9 i10 i11 i12 i13 i15 i16 b, Gs F (l0.map fQ) i0 i2 l1 l2 b1 b2 b3 i3 l3 b4 i4 l4 l5 b5 b6 b7 i5 i6 l6 l7 b8 b9 b10 i7 i8 l8 l9 b11 b12 i9 i10 i11 i12 i13 a.a i15 i16 100000 b 0 = ⟨1, [], [b || l0.any (vX a.a)], [], [], [], []⟩ :=
   fun i0 i2 l1 l2 b1 b2 b3 i3 l3 b4 i4 l4 l5 b5 b6 b7 i5 i6 l6 l7 b8 b9 b10 i7 i8 l8 l9 b11 b12 i9 i10 i11 i12 i13 i15 i16 b => J2 i0 i2 l1 l2 b1 b2 b3 i3 l3 b4 i4 l4 l5 b5 b6 b7 i5 i6 l6 l7 b8 b9 b10 i7 i8 l8 l9 b11 b12 i9 i10 i11 i12 i13 a.a i15 i16 l0 [] b 100000 (by omega) (by simp; omega)
  have hya := hy a (List.mem_cons_self ..)
  rw [fM]
  simp only [oO, Dm, Tr.eval, e1, e2, Ir, Int.toNat_natCast, pO, g0, g1, g2, iO, bO, cond_true, cond_false, r1, r2, List.getD_cons_zero, show ((1 : Nat) == 1) = true from rfl, Bool.false_or, hya, Bool.not_true, mH (show pre.length < 1000000 by omega)]
  exact ih
theorem OX (k : Nat) {c : Cp} (h : Wv c) (hc : c.count < 1099511627776) {m : av} (wm : Wm m) (p : Nat) (hp : p < 4294967296) : Confines.E (k + 12) 13 [dH c, mv m, uv p] = some (.bool true) := by
 have rs : Rt Pg (D (k + 12)) 52 [] (.bool true) := Ld k
 have r1 : Rt Pg (D (k + 12)) 51 _ _ := aaD (k + 10) h hc wm
 have r2 : Rt Pg (D (k + 12)) 53 _ _ := ME (k + 6) h.w hc wm p hp
 have r3 : Rt Pg (D (k + 12)) 34 [mv m, uv (ru c.c 0)] _ := Yc (k + 6) wm (ru c.c 0) (gu h.w.c 0)
 have e0 : (c.c.map uv).getD 0 .dead = uv (ru c.c 0) := eO (by rw [h.w.cl]; omega)
 show aS (Confines.cx (D (k + 12))) 6 13 _ = _
 rw [Confines.Ov]
 by_cases hu : c.user = true
 . have up := O9 wm hu p
   have hfew : (fB c m p).ws.length <= 3 /\ (fB c m p).ac.length <= 9 := by
    by_cases hr : nQ c p = true
    . obtain ⟨M, pk⟩ := (ZF h hc wm p hp hr).pk
      exact ⟨pk.nw, pk.na⟩
    . have : fB c m p = ⟨false, c, zCp, 0, [], [], false, false, 0, 0, 0, 0, 0⟩ := by unfold fB; rw [if_pos (by simpa using hr)]
      rw [this]; exact ⟨Nat.zero_le _, Nat.zero_le _⟩
   generalize fB c m p = e at *
   obtain ⟨u1, ⟨u2, u3, u4⟩, u5, u6, u7⟩ := up
   obtain ⟨xd, xc, xo, xw, xws, xac, xas, xio, xpo, xva, xfl, xfa, xtr⟩ := e
   dsimp only at u1 u2 u3 u4 u5 u6 u7 hfew
   subst u1 u2 u3 u4 u5
   have hll := TW m (ru c.c 0)
   have lp : ru c.c 0 ≠ 0 -> ∀ i1 l1 l2 b0 b1 b2 i2 l3 b3 i3 l4 l5 b4 b5 b6 i4 i5 l6 l7 b7 b8 b9 i6 i7 b10 b11 i8 i9 i10 i11 i12, Confines.zO (D (k + 12)) ((kQ m (ru c.c 0)).map fQ) i1 l1 l2 b0 b1 b2 i2 l3 b3 i3 l4 l5 b4 b5 b6 i4 i5 l6 l7 b7 b8 b9 i6 i7 (xws.map wv) (xac.map bI) b10 b11 i8 i9 i10 i11 i12 100000 0 = ⟨2, [], [], [], [], [], []⟩ :=
    fun h0 i1 l1 l2 b0 b1 b2 i2 l3 b3 i3 l4 l5 b4 b5 b6 i4 i5 l6 l7 b7 b8 b9 i6 i7 b10 b11 i8 i9 i10 i11 i12 => NR (kQ m (ru c.c 0)) (by omega) xac (by omega) i1 l1 l2 b0 b1 b2 i2 l3 b3 i3 l4 l5 b4 b5 b6 i4 i5 l6 l7 b7 b8 b9 i6 i7 b10 b11 i8 i9 i10 i11 i12 xws [] 100000 (by omega) (by simp; omega) (fun y hy => by
     rcases u7 h0 y hy with ⟨a, ha, a1, a2, a3⟩ | hcov
     . rw [Bool.or_eq_true]; exact .inl (List.any_eq_true.mpr ⟨a, ha, by unfold vA; rw [a1, a2, a3]; simp⟩)
     . rw [Bool.or_eq_true]; exact .inr (Uq hcov))
   unfold fZ at r2
   dsimp only at r2
   simp only [r1.ok, r1.val, bO, Bool.not_true, e0, iO, cond_true, cond_false, r2.ok, r2.val, pO, g0, g1, g2, g3, g4, g5, g6, g7, g8, g9, g10, lO, r3.ok, r3.val, rs.ok, rs.val]
   simp only [hu, Bool.not_true, cond_false, cond_true, show ((0 : Int) != 0) = false from rfl, show (((0 : Nat) : Int) == 0) = true from rfl, beq_self_eq_true, Bool.and_self, show (((ru c.c 0 : Nat) : Int) == 0) = (ru c.c 0 == 0) from bP _ 0]
   have key : cond xd (cond (((xtr : Nat) : Int) == 0) (cond (!(jX (xc.c.map uv) (c.c.map uv))) true (cond (!xc.user) true (cond (!(xc.halts == c.halts)) true xc.waits))) false) false = false := by
    cases hd : xd with
    | false => rfl
    | true =>
     rw [cond_true]
     by_cases ht : xtr = 0
     . obtain ⟨v1, v2, v3, v4⟩ := u6 hd ht
       rw [v1, v2, v3, v4, L9, beq_self_eq_true]
       cases ((xtr : Nat) : Int) == 0 <;> rfl
     . rw [show (((xtr : Nat) : Int) == 0) = false from (bP xtr 0).trans (beq_eq_false_iff_ne.mpr ht)]; rfl
   rw [key]
   simp only [cond_false]
   cases h0 : ru c.c 0 == 0 with
   | true => rfl
   | false =>
    simp only [cond_false, lp (by simpa using h0), show ((2 : Nat) == 1) = false from rfl, show ((2 : Nat) == 2) = true from rfl, cond_true]
 . have hu : c.user = false := by simpa using hu
   simp only [r1.ok, r1.val, bO, Bool.not_true, cond_true, cond_false, rs.ok, rs.val]
   rw [hu]; rfl
theorem U6 (k : Nat) (pc : Nat) (hpc : pc < 4294967296) (r c : List Nat) (hr : r.length = 16) (hr2 : ∀ n ∈ r, n < 4294967296) (hc : c.length = 9) (hc2 : ∀ n ∈ c, n < 4294967296) (u wt ht : Bool) (n : Int) (m : av) (hm : Og m) (p : Nat) (hp : p < 4294967296) :
    Confines.E (k + 12) 13 [.agg 104 [uv pc, .agg 102 (r.map uv), .agg 103 (c.map uv), .bool u, .bool wt, .bool ht, .int .i64 n], mv m, uv p] = some (.bool true) := by
 cases hR : qI r c wt ht n m with
 | false =>
  have rs : Rt Pg (D (k + 12)) 52 [] (.bool true) := Ld k
  have r1 : Rt Pg (D (k + 12)) 51 _ _ := JL (k + 10) pc r c hr hc u wt ht n m
  show aS (Confines.cx (D (k + 12))) 6 13 _ = _
  rw [Confines.Ov]
  simp only [r1.ok, r1.val, hR, bO, Bool.not_false, cond_true, rs.ok, rs.val]
 | true =>
  obtain ⟨cnt, rfl, hcnt, hv', h1, h2⟩ := aaM (pc := pc) (u := u) hR
  exact OX k (c := ⟨pc, r, c, u, wt, ht, cnt⟩) ⟨⟨hpc, hr, hc, hr2, hc2⟩, hv'⟩ hcnt ⟨h1, h2, fun p hp => (hm p hp).1, fun p hp => (hm p hp).2⟩ p hp
end Go.Proofs.Ytcknhfnbdgleiaa
