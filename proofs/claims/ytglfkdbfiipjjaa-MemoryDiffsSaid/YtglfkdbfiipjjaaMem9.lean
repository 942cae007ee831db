/- Memories in plain terms: bytes. -/
import Derived.Test.YtglfkdbfiipjjaaMem8
set_option linter.unusedVariables false
set_option linter.unusedSimpArgs false
namespace Go.Proofs.Ytglfkdbfiipjjaa
open Go.AE

theorem byOK_spec {v : AV} : byOK v = true ↔ ∃ n : Int, v = .int .u8 n ∧ 0 ≤ n ∧ n < 256 := by
  constructor
  · intro h
    unfold byOK at h
    split at h
    · rename_i n
      simp only [Bool.and_eq_true, decide_eq_true_eq] at h
      exact ⟨n, rfl, h⟩
    · exact absurd h (by simp)
  · rintro ⟨n, rfl, h1, h2⟩
    simp [byOK, h1, h2]
theorem pgOK_spec {p : AV} : pgOK p = true ↔ ∃ ps, p = .agg 71 ps ∧ ps.length = 128 ∧ ∀ q ∈ ps, byOK q = true := by
  constructor
  · intro h
    unfold pgOK at h
    split at h
    · rename_i ps
      simp only [Bool.and_eq_true, decide_eq_true_eq, List.all_eq_true] at h
      exact ⟨ps, rfl, h⟩
    · exact absurd h (by simp)
  · rintro ⟨ps, rfl, h1, h2⟩
    simp only [pgOK, Bool.and_eq_true, decide_eq_true_eq, List.all_eq_true]
    exact ⟨h1, h2⟩
theorem getD_mem {l : List AV} {i : Nat} (h : i < l.length) : l.getD i .dead ∈ l := by
  simp only [List.getD, List.getElem?_eq_getElem h, Option.getD_some]; exact List.getElem_mem h
theorem ok_page {l : List AV} (h : okF l = true) {i : Nat} (hi : i < l.length) : ∃ ps, l.getD i .dead = .agg 71 ps ∧ ps.length = 128 ∧ ∀ q ∈ ps, byOK q = true :=
  pgOK_spec.1 ((okF_spec h).2.2 _ (getD_mem hi))
theorem ok_set {l : List AV} (h : okF l = true) {p : AV} (hp : pgOK p = true) (i : Nat) : okF (l.set i p) = true := by
  obtain ⟨h1, h2, h3⟩ := okF_spec h
  unfold okF
  rw [List.length_set, decide_eq_true h1, decide_eq_true h2]
  simp only [Bool.true_and, List.all_eq_true]
  intro q hq
  rcases List.mem_or_eq_of_mem_set hq with hq | rfl
  · exact h3 q hq
  · exact hp
theorem getD_setA (l : List AV) (i j : Nat) (v : AV) : (l.set i v).getD j .dead = if i = j ∧ i < l.length then v else l.getD j .dead := getD_set l i j v
/-! one byte -/
theorem byteSet_len (l : List AV) (i j : Nat) (v : AV) : (byteSet l i j v).length = l.length := by simp [byteSet]
theorem byteSet_ok {l : List AV} (h : okF l = true) {i j : Nat} {v : AV} (hi : i < l.length) (hv : byOK v = true) : okF (byteSet l i j v) = true := by
  obtain ⟨ps, hp, hl, hb⟩ := ok_page h hi
  unfold byteSet
  rw [hp]
  refine ok_set h (pgOK_spec.2 ⟨ps.set j v, rfl, by simpa using hl, fun q hq => ?_⟩) i
  rcases List.mem_or_eq_of_mem_set hq with hq | rfl
  · exact hb q hq
  · exact hv
theorem byAt_nat (l : List AV) (i j : Nat) : byAt l (i : Int) (j : Int) = intOf ((partsOf (l.getD i .dead)).getD j .dead) := rfl
theorem byN_set {l : List AV} (h : okF l = true) {x : Nat} {v : AV} (hx : x < 128 * l.length) (y : Nat) : byN (byteSet l (x / 128) (x % 128) v) y = if y = x then intOf v else byN l y := by
  have hi : x / 128 < l.length := by omega
  obtain ⟨ps, hp, hl, hb⟩ := ok_page h hi
  unfold byN
  rw [byAt_nat, byAt_nat]
  unfold byteSet
  rw [getD_setA, hp]
  by_cases hq : x / 128 = y / 128
  · rw [if_pos ⟨hq, hi⟩, ← hq, hp]
    show intOf ((ps.set (x % 128) v).getD (y % 128) .dead) = _
    rw [getD_setA]
    by_cases hr : x % 128 = y % 128
    · rw [if_pos ⟨hr, by omega⟩, if_pos (by omega)]
    · rw [if_neg (fun e => hr e.1), if_neg (fun e => hr (by rw [e]))]; rfl
  · rw [if_neg (fun e => hq e.1), if_neg (fun e => hq (by rw [e]))]
/-! a run of bytes in one page -/
theorem pageSet_len (l : List AV) (i a : Nat) (d : List AV) : (pageSet l i a d).length = l.length := by simp [pageSet]
theorem pageSet_ok {l : List AV} (h : okF l = true) {i a : Nat} {d : List AV} (hi : i < l.length) (had : a + d.length ≤ 128) (hd : ∀ q ∈ d, byOK q = true) : okF (pageSet l i a d) = true := by
  obtain ⟨ps, hp, hl, hb⟩ := ok_page h hi
  unfold pageSet
  rw [hp]
  refine ok_set h (pgOK_spec.2 ⟨_, rfl, ?_, fun q hq => ?_⟩) i
  · simp only [partsOf, List.length_append, List.length_take, List.length_drop, hl]; omega
  · simp only [partsOf, List.mem_append] at hq
    rcases hq with hq | hq | hq
    · exact hb q (List.mem_of_mem_take hq)
    · exact hd q hq
    · exact hb q (List.mem_of_mem_drop hq)
theorem getD_app (a b : List AV) (i : Nat) : (a ++ b).getD i .dead = if i < a.length then a.getD i .dead else b.getD (i - a.length) .dead := by
  simp only [List.getD, List.getElem?_append]
  split <;> rfl
theorem getD_take (a : List AV) (n i : Nat) : (a.take n).getD i .dead = if i < n then a.getD i .dead else .dead := by
  simp only [List.getD, List.getElem?_take]
  split <;> rfl
theorem getD_drop (a : List AV) (n i : Nat) : (a.drop n).getD i .dead = a.getD (n + i) .dead := by
  simp only [List.getD, List.getElem?_drop]
theorem byN_page {l : List AV} (h : okF l = true) {x : Nat} {d : List AV} (hx : x / 128 < l.length) (hd : x % 128 + d.length ≤ 128) (y : Nat) :
    byN (pageSet l (x / 128) (x % 128) d) y = if x ≤ y ∧ y < x + d.length then intOf (d.getD (y - x) .dead) else byN l y := by
  obtain ⟨ps, hp, hl, hb⟩ := ok_page h hx
  unfold byN
  rw [byAt_nat, byAt_nat]
  unfold pageSet
  rw [getD_setA, hp]
  by_cases hq : x / 128 = y / 128
  · rw [if_pos ⟨hq, hx⟩, ← hq, hp]
    show intOf ((ps.take (x % 128) ++ (d ++ ps.drop (x % 128 + d.length))).getD (y % 128) .dead) = _
    have ht : (ps.take (x % 128)).length = x % 128 := by rw [List.length_take, hl]; omega
    rw [getD_app, ht]
    by_cases h1 : y % 128 < x % 128
    · rw [if_pos h1, getD_take, if_pos h1, if_neg (by omega)]; rfl
    · rw [if_neg h1, getD_app]
      by_cases h2 : y % 128 - x % 128 < d.length
      · rw [if_pos h2, if_pos (by omega)]
        congr 2; omega
      · rw [if_neg h2, getD_drop, if_neg (by omega)]
        show _ = intOf (ps.getD (y % 128) .dead)
        congr 2; omega
  · rw [if_neg (fun e => hq e.1)]
    rw [if_neg]
    rintro ⟨h1, h2⟩
    exact hq (by omega)
theorem putL_ok : ∀ (f : Nat) {l : List AV} {a : Nat} {d : List AV}, okF l = true → a + d.length ≤ 128 * l.length → (∀ q ∈ d, byOK q = true) → okF (putL f l a d) = true ∧ (putL f l a d).length = l.length
  | 0, l, a, d, h, _, _ => ⟨h, rfl⟩
  | f + 1, l, a, d, h, had, hd => by
    unfold putL
    split
    · exact ⟨h, rfl⟩
    · rename_i h0
      have hk : (d.take (min d.length (128 - a % 128))).length = min d.length (128 - a % 128) := by rw [List.length_take]; omega
      have h1 := pageSet_ok h (i := a / 128) (a := a % 128) (d := d.take (min d.length (128 - a % 128))) (by omega) (by rw [hk]; omega) (fun q hq => hd q (List.mem_of_mem_take hq))
      have := putL_ok f (a := a + min d.length (128 - a % 128)) (d := d.drop (min d.length (128 - a % 128))) h1 (by rw [pageSet_len, List.length_drop]; omega) (fun q hq => hd q (List.mem_of_mem_drop hq))
      rw [pageSet_len] at this
      exact this
theorem byN_put : ∀ (f : Nat) {l : List AV} {a : Nat} {d : List AV}, okF l = true → a + d.length ≤ 128 * l.length → (∀ q ∈ d, byOK q = true) → d.length ≤ f → ∀ y, byN (putL f l a d) y = if a ≤ y ∧ y < a + d.length then intOf (d.getD (y - a) .dead) else byN l y
  | 0, l, a, d, h, had, hd, hf, y => by
    rw [putL, if_neg (by omega)]
  | f + 1, l, a, d, h, had, hd, hf, y => by
    unfold putL
    split
    · rename_i h0; rw [if_neg (by omega)]
    · rename_i h0
      have hk : (d.take (min d.length (128 - a % 128))).length = min d.length (128 - a % 128) := by rw [List.length_take]; omega
      have h1 := pageSet_ok h (i := a / 128) (a := a % 128) (d := d.take (min d.length (128 - a % 128))) (by omega) (by rw [hk]; omega) (fun q hq => hd q (List.mem_of_mem_take hq))
      show byN (putL f _ (a + min d.length (128 - a % 128)) (d.drop (min d.length (128 - a % 128)))) y = _
      rw [byN_put f h1 (by rw [pageSet_len, List.length_drop]; omega) (fun q hq => hd q (List.mem_of_mem_drop hq)) (by rw [List.length_drop]; omega), byN_page h (by omega) (by rw [hk]; omega), List.length_drop, hk]
      by_cases c1 : a ≤ y ∧ y < a + min d.length (128 - a % 128)
      · rw [if_neg (by omega), if_pos c1, if_pos (by omega), getD_take, if_pos (by omega)]
      · by_cases c2 : a + min d.length (128 - a % 128) ≤ y ∧ y < a + d.length
        · rw [if_pos (by omega), if_pos (by omega), getD_drop]
          congr 2; omega
        · rw [if_neg (by omega), if_neg c1, if_neg (by omega)]
theorem rsN_ok {v : Int} : ∀ (k : Nat) {l : List AV} {a : Nat}, okF l = true → a + k ≤ 128 * l.length → okF (rsN l a v k) = true ∧ (rsN l a v k).length = l.length
  | 0, l, a, h, _ => ⟨h, rfl⟩
  | k + 1, l, a, h, hk => by
    obtain ⟨h1, h2⟩ := rsN_ok k h (show a + k ≤ 128 * l.length by omega)
    refine ⟨byteSet_ok h1 (by rw [h2]; omega) (byOK_spec.2 ⟨_, rfl, ?_⟩), by rw [rsN, byteSet_len, h2]⟩
    rw [wrap_u8]; omega
theorem byN_rs {v : Int} : ∀ (k : Nat) {l : List AV} {a : Nat}, okF l = true → a + k ≤ 128 * l.length → ∀ y, byN (rsN l a v k) y = if a ≤ y ∧ y < a + k then IntKind.u8.wrap (v.fdiv (2 ^ min (8 * (y - a)) 32)) else byN l y
  | 0, l, a, h, _, y => by rw [rsN, if_neg (by omega)]
  | k + 1, l, a, h, hk, y => by
    obtain ⟨h1, h2⟩ := rsN_ok (v := v) k h (show a + k ≤ 128 * l.length by omega)
    rw [rsN, byN_set h1 (by rw [h2]; omega), byN_rs k h (by omega)]
    by_cases c : y = a + k
    · rw [if_pos c, if_pos (by omega), show y - a = k from by omega]; rfl
    · rw [if_neg c]
      by_cases c2 : a ≤ y ∧ y < a + k
      · rw [if_pos c2, if_pos (by omega)]
      · rw [if_neg c2, if_neg (by omega)]
theorem byte_ok (b : UInt8) : byOK (.int .u8 (b.toNat : Int)) = true := byOK_spec.2 ⟨_, rfl, by omega, by have := b.toNat_lt; omega⟩
theorem rwN_ok {s : List UInt8} : ∀ (k : Nat) {l : List AV} {a : Nat}, okF l = true → a + k ≤ 128 * l.length → okF (rwN l a s k) = true ∧ (rwN l a s k).length = l.length
  | 0, l, a, h, _ => ⟨h, rfl⟩
  | k + 1, l, a, h, hk => by
    obtain ⟨h1, h2⟩ := rwN_ok (s := s) k h (show a + k ≤ 128 * l.length by omega)
    exact ⟨byteSet_ok h1 (by rw [h2]; omega) (byte_ok _), by rw [rwN, byteSet_len, h2]⟩
theorem byN_rw {s : List UInt8} : ∀ (k : Nat) {l : List AV} {a : Nat}, okF l = true → a + k ≤ 128 * l.length → ∀ y, byN (rwN l a s k) y = if a ≤ y ∧ y < a + k then ((s.getD (y - a) 0).toNat : Int) else byN l y
  | 0, l, a, h, _, y => by rw [rwN, if_neg (by omega)]
  | k + 1, l, a, h, hk, y => by
    obtain ⟨h1, h2⟩ := rwN_ok (s := s) k h (show a + k ≤ 128 * l.length by omega)
    rw [rwN, byN_set h1 (by rw [h2]; omega), byN_rw k h (by omega)]
    by_cases c : y = a + k
    · rw [if_pos c, if_pos (by omega), show y - a = k from by omega]; rfl
    · rw [if_neg c]
      by_cases c2 : a ≤ y ∧ y < a + k
      · rw [if_pos c2, if_pos (by omega)]
      · rw [if_neg c2, if_neg (by omega)]
/-- The same bytes: the same memory. -/
theorem mem_ext {l m : List AV} (hl : okF l = true) (hm : okF m = true) (hlen : l.length = m.length) (h : ∀ y, y < 128 * l.length → byN l y = byN m y) : l = m := by
  apply List.ext_getElem hlen
  intro i h1 h2
  obtain ⟨ps, e1, l1, b1⟩ := ok_page hl h1
  obtain ⟨qs, e2, l2, b2⟩ := ok_page hm h2
  have g1 : l[i] = .agg 71 ps := by rw [← e1]; simp [List.getD, h1]
  have g2 : m[i] = .agg 71 qs := by rw [← e2]; simp [List.getD, h2]
  rw [g1, g2]
  congr 1
  apply List.ext_getElem (by rw [l1, l2])
  intro j k1 k2
  have := h (128 * i + j) (by omega)
  unfold byN at this
  rw [byAt_nat, byAt_nat, show (128 * i + j) / 128 = i from by omega, show (128 * i + j) % 128 = j from by omega, e1, e2] at this
  obtain ⟨n1, m1, _⟩ := byOK_spec.1 (b1 _ (List.getElem_mem k1))
  obtain ⟨n2, m2, _⟩ := byOK_spec.1 (b2 _ (List.getElem_mem k2))
  have t1 : (partsOf (.agg 71 ps)).getD j .dead = .int .u8 n1 := by rw [← m1]; simp [partsOf, List.getD, k1]
  have t2 : (partsOf (.agg 71 qs)).getD j .dead = .int .u8 n2 := by rw [← m2]; simp [partsOf, List.getD, k2]
  rw [t1, t2] at this
  rw [m1, m2]
  exact congrArg _ this
theorem sz0_eq {p : List AV} {n : Nat} (h : p.length = n) : sz0 p n = p := by
  unfold sz0 sub
  rw [Nat.zero_add, ← h]; simp
end Go.Proofs.Ytglfkdbfiipjjaa
