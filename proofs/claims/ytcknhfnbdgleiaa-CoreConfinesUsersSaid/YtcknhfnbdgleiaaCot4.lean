/- The memory of a guest: stores of the specification, pages of zeros, the same memory. -/
import Derived.Test.YtcknhfnbdgleiaaCot3
set_option linter.unusedVariables false
set_option linter.unusedSimpArgs false
namespace Go.Proofs.Ytcknhfnbdgleiaa
open Go.AE
def fE (m : av) (x : Wr) : av := cond (th m x.a x.s) (st m x.a x.d) m
theorem Hl (k : Nat) {m : av} (w : Wm m) {x : Wr} (h : x.ok) : Rt Pg (D (k + 2)) 93 [mv m, wv x] (.tuple [mv (fE m x), .bool (th m x.a x.s)]) := .of (by
 have r := Xx k w [x] (by simp) (by simpa using h)
 simp only [List.map_cons, List.map_nil] at r
 rw [Dk, ZW]
 simp only [r.ok, r.val, tO, g0, g1, pO, lO, bO, cond_true]
 unfold fE Ib ap
 cases th m x.a x.s <;> rfl) (by kernel_rfl)
theorem Ul {F : Tab} {m : av} (w : Wm m) (x : Wr) (h : x.ok) (ht : th m x.a x.s = true) {i : Nat} (hi : i < x.s) (l0 l1 : List AV) (n0 : Nat) (cur : av) (hc : cur.length = m.length) (K : Int × List AV -> LO) :
    (lS F l0 (x.a : Int) (x.s : Int) (x.v : Int) l1 n0 m.length ((i : Int), cur.map pg)).eval K =
     K (((i + 1 : Nat) : Int), (cur.set (x.a / 128) ((d9 cur (x.a / 128)).set (x.a % 128 + i) (x.v / 256 ^ i % 256))).map pg) := by
 have hl := w.le
 obtain ⟨h1, h2⟩ := zu ht
 have h4 : x.s <= 4 := by rcases h.s with e | e <;> omega
 have t : x.a / 128 < m.length /\ x.a % 128 + x.s <= 128 := by rcases h.s with e | e <;> (rw [e] at h1 h2 ⊢; omega)
 have e1 : IntKind.i64.wrap ((x.a : Int) + (i : Int)) = ((x.a + i : Nat) : Int) := by have := h.a; rw [dP (by omega) (by omega)]; omega
 have e2 : IntKind.i64.wrap (8 * (i : Int)) = ((8 * i : Nat) : Int) := by rw [dP (by omega) (by omega)]; omega
 have e3 : (x.a + i) / 128 = x.a / 128 := by omega
 have e4 : (x.a + i) % 128 = x.a % 128 + i := by omega
 have e5 : IntKind.u8.wrap ((x.v : Int).fdiv (2 ^ min (8 * i) 32)) = ((x.v / 256 ^ i % 256 : Nat) : Int) := by
  rw [Nat.min_eq_left (by omega)]
  have : ∀ n : Nat, (2 : Int) ^ n = ((2 ^ n : Nat) : Int) := fun n => by simp
  rw [this, kM (by have := Nat.pow_pos (n := 8 * i) (show 0 < 2 by decide); omega), wrap_u8, Nat.pow_mul]
  rfl
 simp only [lS, Hz, Tr.eval, e1, e2, qK, kR, e3, e4, Int.toNat_natCast, eH (show x.a / 128 < 9223372036854775808 by omega), lt_n hi, Nat.zero_add, e5]
 rw [dh t.1, show aH ((x.a % 128 + i : Nat) : Int) 128 = true from dh (by omega), show decide ((0 : Int) <= ((8 * i : Nat) : Int)) = true from decide_eq_true (by omega), mH (by omega)]
 simp only [cond_true]
 rw [xu (by omega), show iK (pg (d9 cur (x.a / 128))) = 117 from rfl, List.map_set, pg, pO, pg, List.map_set]
theorem Uc (p : List Nat) (o a b c d : Nat) (h : o + 4 <= p.length) : (((p.set o a).set (o + 1) b).set (o + 2) c).set (o + 3) d = pt p o [a, b, c, d] := by
 apply List.ext_getElem?
 intro i
 have h1 : (pt p o [a, b, c, d]).length = p.length := Oq h
 by_cases hi : i < p.length
 . have e := Ke (p := p) (o := o) (d := [a, b, c, d]) h i
   rw [getD_get (by omega)] at e
   rw [List.getElem?_eq_getElem (by simpa using hi), List.getElem?_eq_getElem (by omega), e]
   congr 1
   simp only [List.getElem_set]
   have e4 : ([a, b, c, d] : List Nat).length = 4 := rfl
   rw [e4]
   by_cases g0 : o = i
   . subst g0; rw [if_neg (by omega), if_neg (by omega), if_neg (by omega), if_pos rfl, if_pos (by omega), Nat.sub_self]; rfl
   . by_cases g1 : o + 1 = i
     . subst g1; rw [if_neg (by omega), if_neg (by omega), if_pos rfl, if_pos (by omega), show o + 1 - o = 1 by omega]; rfl
     . by_cases g2 : o + 2 = i
       . subst g2; rw [if_neg (by omega), if_pos rfl, if_pos (by omega), show o + 2 - o = 2 by omega]; rfl
       . by_cases g3 : o + 3 = i
         . subst g3; rw [if_pos rfl, if_pos (by omega), show o + 3 - o = 3 by omega]; rfl
         . rw [if_neg g3, if_neg g2, if_neg g1, if_neg g0, if_neg (by omega), getD_get hi]
 . rw [List.getElem?_eq_none (by simpa using (show p.length <= i by omega)), List.getElem?_eq_none (by omega)]
theorem set1 (p : List Nat) (o a : Nat) (h : o + 1 <= p.length) : p.set o a = pt p o [a] := by
 rw [List.set_eq_take_append_cons_drop, if_pos (by omega)]; rfl
theorem Ea (m : av) (i : Nat) (p : List Nat) (hi : i < m.length) (q : List Nat -> List Nat) : (m.set i p).set i (q (d9 (m.set i p) i)) = m.set i (q p) := by
 rw [Jg hi, if_pos rfl, List.set_set]
theorem Wx {F : Tab} {m : av} (w : Wm m) (x : Wr) (h : x.ok) (ht : th m x.a x.s = true) (l0 l1 : List AV) (n0 : Nat) :
    vg F l0 (x.a : Int) (x.s : Int) (x.v : Int) l1 n0 m.length 100000 0 (m.map pg) = ⟨1, [], [], [(st m x.a x.d).map pg], [], [], []⟩ := by
 obtain ⟨t1, t2, t3⟩ := Dp h ht
 rw [Lc h] at t2
 have hp := w.rA t1
 have one : ∀ (f i : Nat) (cur : av), i < x.s -> cur.length = m.length -> Tr.run (lS F l0 (x.a : Int) (x.s : Int) (x.v : Int) l1 n0 m.length) (f + 1) ((i : Int), cur.map pg) = Tr.run (lS F l0 (x.a : Int) (x.s : Int) (x.v : Int) l1 n0 m.length) f (((i + 1 : Nat) : Int), (cur.set (x.a / 128) ((d9 cur (x.a / 128)).set (x.a % 128 + i) (x.v / 256 ^ i % 256))).map pg) := fun f i cur hi hc => by
  rw [fM, Ul w x h ht hi l0 l1 n0 cur hc]
 have last : ∀ (f : Nat) (l : List AV), Tr.run (lS F l0 (x.a : Int) (x.s : Int) (x.v : Int) l1 n0 m.length) (f + 1) ((x.s : Int), l) = ⟨1, [], [], [l], [], [], []⟩ := fun f l => by
  rw [fM]
  simp only [lS, Hz, Tr.eval, rD, cond_false]
 unfold vg
 have hv := h.v
 rcases h.s with e | e
 . rw [show (100000 : Nat) = 99998 + 1 + 1 from rfl]
   refine (one (99998 + 1) 0 m (by omega) rfl).trans ?_
   have := last 99998
   rw [e] at this ⊢
   refine (this _).trans ?_
   rw [st, Wr.d, e, Nat.add_zero, set1 _ _ _ (by omega)]
   simp [wb]
 . rw [show (100000 : Nat) = 99995 + 1 + 1 + 1 + 1 + 1 from rfl]
   refine (one (99995 + 1 + 1 + 1 + 1) 0 m (by omega) rfl).trans ?_
   refine (one (99995 + 1 + 1 + 1) 1 _ (by omega) (by simp)).trans ?_
   refine (one (99995 + 1 + 1) 2 _ (by omega) (by simp)).trans ?_
   refine (one (99995 + 1) 3 _ (by omega) (by simp)).trans ?_
   have := last 99995
   rw [e] at this ⊢
   refine (this _).trans ?_
   rw [Ea m _ _ t1 (fun p => p.set _ _), Ea m _ _ t1 (fun p => p.set _ _), Ea m _ _ t1 (fun p => p.set _ _), Nat.add_zero, Uc _ _ _ _ _ _ (by omega), st, Wr.d, e]
   simp [wb]
theorem Wj (k : Nat) {m : av} (w : Wm m) {x : Wr} (h : x.ok) : Rt Pg (D (k + 3)) 57 [mv m, wv x] (.agg 128 [mv (fE m x), .bool (th m x.a x.s)]) := .of (by
 have hl := w.le
 have hp := w.pos
 have r := LY k w x.a x.s h.a h.s
 rw [Dk, O6]
 simp only [r.ok, r.val, bO, cond_true, List.length_map]
 unfold fE
 cases ht : th m x.a x.s with
 | false => rfl
 | true =>
  rw [Wx w x h ht, decide_eq_true hp, decide_eq_true (show (0 + m.length) * 128 <= 140737488355328 by omega)]
  simp only [Bool.not_true, cond_true, cond_false]
  rw [show ([(st m x.a x.d).map pg] : List (List AV)).getD 0 [] = (st m x.a x.d).map pg from rfl, Nat.zero_add, IV _ (by rw [List.length_map, qd])]
  rfl) (by kernel_rfl)
end Go.Proofs.Ytcknhfnbdgleiaa
