/- CoreTouchesWhatItSays: its loops. -/
import Derived.Test.YtcknhfnbdgleiaaTc1
import Derived.Test.YtcknhfnbdgleiaaTcD
import Derived.Test.YtcknhfnbdgleiaaTcN0
set_option linter.unusedVariables false
set_option linter.unusedSimpArgs false
namespace Go.Proofs.Ytcknhfnbdgleiaa
open Go.AE
abbrev kv (b : Bool) : AV := .bool b
def kp (l : List Bool) (x : Nat) : Bool := l.getD x false
theorem Ju {l : List Bool} {i x : Nat} (h : i < l.length) : kp (l.set i true) x = if i = x then true else kp l x := by
 unfold kp
 simp only [List.getD_eq_getElem?_getD, List.getElem?_set]
 by_cases e : i = x
 . subst e; simp [h]
 . simp [e]
theorem Sv {l : List Bool} {x : Nat} (h : x < l.length) : (l.map kv).getD x .dead = .bool (kp l x) := by rw [ug kv h, kp, getD_get h]
open Touches in
theorem I6 {F : Tab} (i0 : Int) (l0 : List AV) (i1 : Int) (n0 : Nat) (hn0 : n0 < 1000000) (i2 i4 : Int) (l1 l2 : List AV) (b0 b1 b2 : Bool) (i5 : Int) (l3 : List AV) (b3 : Bool) (i6 : Int) (l4 l5 : List AV) (b4 b5 b6 : Bool) (i7 i8 : Int) (l6 l7 : List AV) (b7 b8 b9 : Bool) (i9 i10 : Int) (l8 l9 : List AV) (b10 b11 : Bool) (i11 i12 i13 i14 i15 : Int) (a s : Nat) (ha : a + s <= n0) (b12 : Bool) :
    ∀ (j k : Nat) (kb : List Bool) (fuel : Nat), k + j = s -> j < fuel -> kb.length = n0 ->
     ∃ kb' : List Bool, Tr.run (qJ F i0 l0 i1 n0 i2 i4 l1 l2 b0 b1 b2 i5 l3 b3 i6 l4 l5 b4 b5 b6 i7 i8 l6 l7 b7 b8 b9 i9 i10 l8 l9 b10 b11 i11 i12 i13 i14 i15 a s b12) fuel ((k : Int), kb.map kv) = ⟨1, [], [], [kb'.map kv], [], [], []⟩ /\ kb'.length = n0 /\ (∀ x, kp kb x = true -> kp kb' x = true) /\ ∀ x, a + k <= x -> x < a + s -> kp kb' x = true
 | 0, k, kb, fuel, hk, hf, hl => by
  obtain ⟨f, rfl⟩ : ∃ f, fuel = f + 1 := ⟨fuel - 1, by omega⟩
  obtain rfl : k = s := by omega
  refine ⟨kb, ?_, hl, fun x h => h, fun x h1 h2 => absurd h1 (by omega)⟩
  rw [dQ]
  simp only [qJ, DU, Tr.eval, nP, cond_false]
 | j + 1, k, kb, fuel, hk, hf, hl => by
  obtain ⟨f, rfl⟩ : ∃ f, fuel = f + 1 := ⟨fuel - 1, by omega⟩
  obtain ⟨kb', e, h1, h2, h3⟩ := I6 (F := F) i0 l0 i1 n0 hn0 i2 i4 l1 l2 b0 b1 b2 i5 l3 b3 i6 l4 l5 b4 b5 b6 i7 i8 l6 l7 b7 b8 b9 i9 i10 l8 l9 b10 b11 i11 i12 i13 i14 i15 a s ha b12 j (k + 1) (kb.set (a + k) true) f (by omega) (by omega) (by rw [List.length_set]; exact hl)
  refine ⟨kb', ?_, h1, fun x h => h2 x ?_, fun x q1 q2 => ?_⟩
  . rw [dQ]
    simp only [qJ, DU, Tr.eval, lt_n (show k < s by omega), cond_true, show IntKind.i64.wrap ((a : Int) + (k : Int)) = ((a + k : Nat) : Int) by rw [iW (by omega) (by omega)]; rfl, bZ (show a + k < n0 by omega), kP (show k < 1000000 by omega), Int.toNat_natCast, Nat.zero_add]
    rw [<- e, List.map_set]
  . rw [Ju (by omega)]; split
    . rfl
    . exact h
  . by_cases hx : x = a + k
    . refine h2 x ?_
      rw [Ju (by omega), if_pos hx.symm]
    . exact h3 x (by omega) q2
open Touches in
theorem Ll {F : Tab} (i0 : Int) (l0 : List AV) (n0 : Nat) (hn0 : n0 < 1000000) (i3 : Int) (l1 l2 : List AV) (b0 b1 b2 : Bool) (i4 : Int) (l3 : List AV) (b3 : Bool) (i5 : Int) (l4 l5 : List AV) (b4 b5 b6 : Bool) (i6 i7 : Int) (l6 l7 : List AV) (b7 b8 b9 : Bool) (i8 i9 : Int) (l8 : List AV) (b10 b11 : Bool) (i10 i11 i12 i13 i14 : Int) :
    ∀ (rest pre : List Ac) (kb : List Bool) (fuel : Nat), rest.length < fuel -> pre.length + rest.length < 1000 -> kb.length = n0 -> (∀ a ∈ rest, a.a + a.s <= n0 /\ 1 <= a.s /\ a.s <= 4) ->
     ∃ kb' : List Bool, Tr.run (qw F i0 l0 n0 n0 i3 l1 l2 b0 b1 b2 i4 l3 b3 i5 l4 l5 b4 b5 b6 i6 i7 l6 l7 b7 b8 b9 i8 i9 l8 ((pre ++ rest).map bF) b10 b11 i10 i11 i12 i13 i14) fuel ((pre.length : Int), kb.map kv) = ⟨2, [], [], [kb'.map kv], [], [], []⟩ /\ kb'.length = n0 /\ (∀ x, kp kb x = true -> kp kb' x = true) /\ ∀ a ∈ rest, ∀ x, a.a <= x -> x < a.a + a.s -> kp kb' x = true
 | [], pre, kb, 0, h, _, _, _ => absurd h (by simp)
 | [], pre, kb, f + 1, _, _, hl, _ => by
  refine ⟨kb, ?_, hl, fun x h => h, fun a h => absurd h (by simp)⟩
  rw [dQ]
  simp only [qw, Ea, Tr.eval, List.append_nil, List.length_map, nP, cond_false]
 | a :: rest, pre, kb, 0, h, _, _, _ => absurd h (by simp)
 | a :: rest, pre, kb, f + 1, hf, hp, hl, ha => by
  simp only [List.length_cons] at hf hp
  obtain ⟨a1, a2, a3⟩ := ha a (List.mem_cons_self ..)
  have e1 : decide ((pre.length : Int) < ((((pre ++ a :: rest).map bF).length : Nat) : Int)) = true := decide_eq_true (by have := L8 bF pre a rest; omega)
  have e2 : aL (pre.length : Int) ((pre ++ a :: rest).map bF).length = true := bZ (L8 bF pre a rest)
  have e3 : (pre ++ a :: rest) = (pre ++ [a]) ++ rest := by simp
  have e4 : ((pre ++ [a]).length : Int) = ((pre.length + 1 : Nat) : Int) := by simp
  obtain ⟨k1, q1, q2, q3, q4⟩ := I6 (F := F) i0 l0 n0 n0 hn0 (pre.length : Int) i3 l1 l2 b0 b1 b2 i4 l3 b3 i5 l4 l5 b4 b5 b6 i6 i7 l6 l7 b7 b8 b9 i8 i9 l8 ((pre ++ a :: rest).map bF) b10 b11 i10 i11 i12 i13 i14 a.a a.s a1 a.st a.s 0 kb 100000 (by omega) (by omega) hl
  obtain ⟨k2, r1, r2, r3, r4⟩ := Ll (F := F) i0 l0 n0 hn0 i3 l1 l2 b0 b1 b2 i4 l3 b3 i5 l4 l5 b4 b5 b6 i6 i7 l6 l7 b7 b8 b9 i8 i9 l8 b10 b11 i10 i11 i12 i13 i14 rest (pre ++ [a]) k1 f (by omega) (by simp; omega) q2 (fun y h => ha y (List.mem_cons_of_mem _ h))
  rw [<- e3, e4] at r1
  have q1 : Ih F i0 l0 n0 n0 (pre.length : Int) i3 l1 l2 b0 b1 b2 i4 l3 b3 i5 l4 l5 b4 b5 b6 i6 i7 l6 l7 b7 b8 b9 i8 i9 l8 ((pre ++ a :: rest).map bF) b10 b11 i10 i11 i12 i13 i14 a.a a.s a.st 100000 0 (kb.map kv) = ⟨1, [], [], [k1.map kv], [], [], []⟩ := q1
  refine ⟨k2, ?_, r2, fun x h => r3 x (q3 x h), fun y hy x x1 x2 => ?_⟩
  . rw [dQ]
    have g1' : decide ((a.a : Int) < 0) = false := decide_eq_false (by omega)
    have g2' : decide ((a.s : Int) < 1) = false := decide_eq_false (by omega)
    have g3' : decide ((4 : Int) < (a.s : Int)) = false := decide_eq_false (by omega)
    have g4' : decide ((n0 : Int) < IntKind.i64.wrap ((a.a : Int) + (a.s : Int))) = false := by rw [iW (by omega) (by omega)]; exact decide_eq_false (by omega)
    simp only [qw, Ea, Tr.eval, e1, e2, YS, Int.toNat_natCast, pO, g0, g1, g2, iO, bO, cond_true, cond_false, g1', g2', g3', g4', q1, show ((1 : Nat) == 1) = true from rfl, List.getD_cons_zero, kP (show pre.length < 1000000 by omega)]
    exact r1
  . rcases List.mem_cons.mp hy with rfl | hy
    . exact r3 x (q4 x (by omega) x2)
    . exact r4 y hy x x1 x2
open Touches in
theorem Ht {F : Tab} (i0 : Int) (o : List Nat) (ho : o.length <= 10000) (ho2 : ∀ b ∈ o, b < 256) (n0 : Nat) (kb : List Bool) (hk : kb.length = n0) {m : aA} (hm : n0 = 128 * m.length) (i3 : Int) (l1 l2 : List AV) (b0 b1 b2 : Bool) (i4 : Int) (l3 : List AV) (b3 : Bool) (i5 : Int) (l4 l5 : List AV) (b4 b5 b6 : Bool) (i6 i7 : Int) (l6 l7 : List AV) (b7 b8 b9 : Bool) (i8 i9 : Int) (l8 l9 : List AV) (b10 b11 : Bool) (i10 i11 i12 i13 i14 : Int) :
    ∀ (j i : Nat) (cur : aA) (fuel : Nat), i + j = n0 -> j < fuel -> Wm cur -> Ag (fun x => kp kb x = true) m cur ->
     ∃ m' : aA, Tr.run (mo F i0 (o.map bv) n0 n0 i3 l1 l2 b0 b1 b2 i4 l3 b3 i5 l4 l5 b4 b5 b6 i6 i7 l6 l7 b7 b8 b9 i8 i9 l8 l9 b10 b11 i10 i11 i12 i13 i14 (kb.map kv) m.length) fuel ((i : Int), cur.map pg) = ⟨1, [], [], [m'.map pg], [], [], []⟩ /\ Wm m' /\ Ag (fun x => kp kb x = true) m m'
 | 0, i, cur, fuel, hi, hf, w, h => by
  obtain ⟨f, rfl⟩ : ∃ f, fuel = f + 1 := ⟨fuel - 1, by omega⟩
  obtain rfl : i = n0 := by omega
  refine ⟨cur, ?_, w, h⟩
  rw [dQ]
  simp only [mo, xQ, Tr.eval, nP, cond_false]
 | j + 1, i, cur, fuel, hi, hf, w, h => by
  obtain ⟨f, rfl⟩ : ∃ f, fuel = f + 1 := ⟨fuel - 1, by omega⟩
  have hl := w.le
  have hlen := h.len
  have e1 : decide ((i : Int) < (n0 : Int)) = true := lt_n (by omega)
  by_cases h0 : o.length = 0
  . refine ⟨cur, ?_, w, h⟩
    rw [dQ]
    simp only [mo, xQ, Tr.eval, e1, List.length_map, h0, show decide ((0 : Int) < ((0 : Nat) : Int)) = false from rfl, cond_true, cond_false]
  . have e2 : decide ((0 : Int) < ((o.length : Nat) : Int)) = true := decide_eq_true (by omega)
    have ek : (kb.map kv).getD (0 + i) .dead = .bool (kp kb i) := by rw [Nat.zero_add]; exact Sv (by omega)
    cases hkb : kp kb i with
    | true =>
     obtain ⟨m', r1, r2, r3⟩ := Ht (F := F) i0 o ho ho2 n0 kb hk hm i3 l1 l2 b0 b1 b2 i4 l3 b3 i5 l4 l5 b4 b5 b6 i6 i7 l6 l7 b7 b8 b9 i8 i9 l8 l9 b10 b11 i10 i11 i12 i13 i14 j (i + 1) cur f (by omega) (by omega) w h
     refine ⟨m', ?_, r2, r3⟩
     rw [dQ]
     simp only [mo, xQ, Tr.eval, e1, List.length_map, e2, cond_true, cond_false, bZ (show i < n0 by omega), Int.toNat_natCast, ek, hkb, bO, Bool.not_true, kP (show i < 1000000 by omega)]
     exact r1
    | false =>
     have hp : i / 128 < cur.length := by omega
     have hpl := w.qN hp
     have hil : i % o.length < o.length := Nat.mod_lt _ (by omega)
     have hb' : o.getD (i % o.length) 0 < 256 := by rw [getD_get hil]; exact ho2 _ (List.getElem_mem _)
     have w1 : Wm (st cur i [o.getD (i % o.length) 0]) := Ms w hp (by show i % 128 + 1 <= 128; omega) (fun b hb => by rw [List.mem_singleton.mp hb]; exact hb')
     have a1 : Ag (fun x => kp kb x = true) m (st cur i [o.getD (i % o.length) 0]) := by
      refine ⟨by rw [lV]; exact hlen, fun x hx => ?_⟩
      rw [D6 w hp (by show i % 128 + 1 <= 128; omega)]
      have : x ≠ i := fun e => by rw [e] at hx; rw [hkb] at hx; exact absurd hx (by decide)
      rw [if_neg (by simp; omega)]
      exact h.bt x hx
     obtain ⟨m', r1, r2, r3⟩ := Ht (F := F) i0 o ho ho2 n0 kb hk hm i3 l1 l2 b0 b1 b2 i4 l3 b3 i5 l4 l5 b4 b5 b6 i6 i7 l6 l7 b7 b8 b9 i8 i9 l8 l9 b10 b11 i10 i11 i12 i13 i14 j (i + 1) (st cur i [o.getD (i % o.length) 0]) f (by omega) (by omega) w1 a1
     refine ⟨m', ?_, r2, r3⟩
     rw [dQ]
     have e3 : ((i : Int)).tmod ((o.length : Nat) : Int) = ((i % o.length : Nat) : Int) := lQ _ _
     have e4 : IntKind.i64.wrap ((i : Int).tdiv 128) = ((i / 128 : Nat) : Int) := by rw [xH, ku (by omega)]
     have e5 : (((o.length : Nat) : Int) == 0) = false := (dL _ 0).trans (beq_eq_false_iff_ne.mpr h0)
     have e6 : (o.map bv).getD (i % o.length) .dead = bv (o.getD (i % o.length) 0) := EF hil
     have e7 : (cur.map pg).getD (0 + i / 128) .dead = pg (dR cur (i / 128)) := by rw [Nat.zero_add]; exact uI hp
     simp only [mo, xQ, Tr.eval, e1, List.length_map, e2, cond_true, cond_false, bZ (show i < n0 by omega), Int.toNat_natCast, ek, hkb, bO, Bool.not_false, kP (show i < 1000000 by omega), e3, e4, e5, qO, bZ hil, bZ (show i / 128 < m.length by omega), bZ (show i % 128 < 128 by omega), e6, e7, iO]
     rw [<- r1]
     have e8 : (cur.map pg).set (0 + i / 128) (.agg (gG (pg (dR cur (i / 128)))) ((au (pg (dR cur (i / 128)))).set (i % 128) (.int .u8 ((o.getD (i % o.length) 0 : Nat) : Int)))) = (st cur i [o.getD (i % o.length) 0]).map pg := by
      rw [Nat.zero_add, st, List.map_set, <- set1 _ _ _ (by omega)]
      congr 1
      show AV.agg 117 _ = pg _
      unfold pg
      rw [pO, List.map_set]
     rw [e8]
end Go.Proofs.Ytcknhfnbdgleiaa
