/- List is translation: plain facts. -/
import Derived.Test.YtcknhfnbdgleiaaTab17
set_option linter.unusedVariables false
set_option linter.unusedSimpArgs false
namespace Go.Proofs.Ytcknhfnbdgleiaa
open Go.AE

def sz (x : Mg) : Nat := cond (hb x.bits 64) 4096 128
def cov (va : Nat) (x : Mg) : Bool := decide (x.va ≤ va) && decide (va - x.va < sz x)
def valM (va : Nat) (x : Mg) : Int := ((x.pa + (va - x.va) : Nat) : Int)
def foldAt (va : Nat) : List Mg → Int → Int
  | [], a => a
  | x :: l, a => foldAt va l (cond (cov va x) (valM va x) a)
theorem foldAt_append (va : Nat) : ∀ (l l' : List Mg) (a : Int), foldAt va (l ++ l') a = foldAt va l' (foldAt va l a)
  | [], _, _ => rfl
  | x :: l, l', a => by rw [List.cons_append, foldAt, foldAt_append va l l', foldAt]
theorem foldAt_none (va : Nat) : ∀ (l : List Mg) (a : Int), (∀ x ∈ l, cov va x = false) → foldAt va l a = a
  | [], _, _ => rfl
  | x :: l, a, h => by rw [foldAt, h x (List.mem_cons_self ..), cond_false, foldAt_none va l a (fun y hy => h y (List.mem_cons_of_mem _ hy))]
theorem foldAt_flat (va i : Nat) (f : Nat → List Mg) (h : ∀ j, j ≠ i → ∀ x ∈ f j, cov va x = false) : ∀ (n s : Nat) (a : Int), foldAt va ((List.range' s n).flatMap f) a = if s ≤ i ∧ i < s + n then foldAt va (f i) a else a
  | 0, s, a => by rw [if_neg (by omega)]; rfl
  | n + 1, s, a => by
    rw [List.range'_succ, List.flatMap_cons, foldAt_append, foldAt_flat va i f h n (s + 1)]
    by_cases e : s = i
    · subst e; rw [if_neg (by omega), if_pos (by omega)]
    · rw [foldAt_none va (f s) a (h s e)]
      by_cases h2 : s ≤ i ∧ i < s + (n + 1)
      · rw [if_pos h2, if_pos (by omega)]
      · rw [if_neg h2, if_neg (by omega)]
/-! ### what stands in the list -/
structure Wg (x : Mg) : Prop where
  va : x.va % sz x = 0
  pa : x.pa % sz x = 0
  small : x.pa < 8192
  bits : x.bits < 128
  odd : hb x.bits 1 = true
theorem hb_mod (e : Nat) : hb (e % 128) 1 = hb e 1 ∧ hb (e % 128) 64 = hb e 64 := by
  unfold hb
  exact ⟨by rw [show e % 128 / 1 % 2 = e / 1 % 2 by omega], by rw [show e % 128 / 64 % 2 = e / 64 % 2 by omega]⟩
theorem itm_mem {m : Pgs} (w : Wm m) {e i k : Nat} {x : Mg} (h : x ∈ itm m e i k) : Wg x ∧ x.va = 4096 * i + 128 * k ∧ sz x = 128 ∧ (hb (wo m (pa e + 4 * k)) 1 = true ∧ hb (wo m (pa e + 4 * k)) 64 = false ∧ pgd m (pa (wo m (pa e + 4 * k))) = true ∧ x = ⟨4096 * i + 128 * k, pa (wo m (pa e + 4 * k)), wo m (pa e + 4 * k) % 128⟩) := by
  have hl := w.le
  unfold itm at h
  cases h1 : hb (wo m (pa e + 4 * k)) 1 with
  | false => rw [h1] at h; exact absurd h (by simp)
  | true =>
  cases h2 : hb (wo m (pa e + 4 * k)) 64 with
  | true => rw [h1, h2] at h; exact absurd h (by simp)
  | false =>
  cases h3 : pgd m (pa (wo m (pa e + 4 * k))) with
  | false => rw [h1, h2, h3] at h; exact absurd h (by simp)
  | true =>
  rw [h1, h2, h3] at h
  simp only [cond_true, cond_false, List.mem_singleton] at h
  have g := pgd_of h3
  obtain ⟨m1, m2⟩ := hb_mod (wo m (pa e + 4 * k))
  have hs : sz x = 128 := by rw [h, sz]; simp only [m2, h2, cond_false]
  refine ⟨⟨by rw [hs, h]; simp only; omega, by rw [hs, h]; exact g.1, by rw [h]; simp only; omega, by rw [h]; simp only; omega, by rw [h]; simp only [m1, h1]⟩, by rw [h], hs, rfl, rfl, rfl, h⟩
theorem row1_mem {m : Pgs} (w : Wm m) {root i : Nat} {x : Mg} (h : x ∈ row1 m root i) : Wg x ∧ 4096 * i ≤ x.va ∧ x.va + sz x ≤ 4096 * (i + 1) := by
  have hl := w.le
  unfold row1 at h
  cases h1 : hb (wo m (root + 4 * i)) 1 with
  | false => rw [h1] at h; exact absurd h (by simp)
  | true =>
  cases h2 : right m (wo m (root + 4 * i)) with
  | false => rw [h1, h2] at h; exact absurd h (by simp)
  | true =>
  cases h3 : hb (wo m (root + 4 * i)) 64 with
  | true =>
    cases h4 : pgd m (pa (wo m (root + 4 * i))) with
    | false => rw [h1, h2, h3, h4] at h; exact absurd h (by simp)
    | true =>
      rw [h1, h2, h3, h4] at h
      simp only [cond_true, List.mem_singleton] at h
      have g := pgd_of h4
      obtain ⟨m1, m2⟩ := hb_mod (wo m (root + 4 * i))
      have hs : sz x = 4096 := by rw [h, sz]; simp only [m2, h3, cond_true]
      refine ⟨⟨by rw [hs, h]; simp only; omega, by rw [hs, h]; exact right_large h2 h3, by rw [h]; simp only; omega, by rw [h]; simp only; omega, by rw [h]; simp only [m1, h1]⟩, by rw [h]; exact Nat.le_refl _, by rw [hs, h]; simp only; omega⟩
  | false =>
    rw [h1, h2, h3] at h
    simp only [cond_true, cond_false, List.mem_flatMap, List.mem_range] at h
    obtain ⟨k, hk, hx⟩ := h
    obtain ⟨a, b, c, _⟩ := itm_mem w hx
    exact ⟨a, by omega, by omega⟩
theorem one_asc {l : List Mg} (h : l.length ≤ 1) : l.Pairwise (fun x y => x.va < y.va) := by
  match l, h with
  | [], _ => exact List.Pairwise.nil
  | [x], _ => simp
theorem sz_pos (x : Mg) : 0 < sz x := by unfold sz; cases hb x.bits 64 <;> simp
theorem row1_asc {m : Pgs} (w : Wm m) (root i : Nat) : (row1 m root i).Pairwise (fun x y => x.va < y.va) := by
  unfold row1
  cases hb (wo m (root + 4 * i)) 1
  · exact List.Pairwise.nil
  · cases right m (wo m (root + 4 * i))
    · exact List.Pairwise.nil
    · cases hb (wo m (root + 4 * i)) 64
      · simp only [cond_true, cond_false]
        rw [List.pairwise_flatMap]
        refine ⟨fun k _ => one_asc (itm_len ..), ?_⟩
        refine List.Pairwise.imp ?_ List.pairwise_lt_range
        intro k1 k2 hlt x hx y hy
        obtain ⟨_, a, _⟩ := itm_mem w hx
        obtain ⟨_, b, _⟩ := itm_mem w hy
        omega
      · simp only [cond_true]
        exact one_asc (by cases pgd m (pa (wo m (root + 4 * i))) <;> simp)
theorem lst_asc {m : Pgs} (w : Wm m) (root : Nat) : (lst m root).Pairwise (fun x y => x.va < y.va) := by
  unfold lst
  cases cond (root == 0) true (!pgd m root)
  · simp only [cond_false]
    rw [List.pairwise_flatMap]
    refine ⟨fun i _ => row1_asc w root i, ?_⟩
    refine List.Pairwise.imp ?_ List.pairwise_lt_range
    intro i1 i2 hlt x hx y hy
    obtain ⟨_, a, b⟩ := row1_mem w hx
    obtain ⟨_, c, _⟩ := row1_mem w hy
    have := sz_pos x
    omega
  · exact List.Pairwise.nil
theorem lst_mem {m : Pgs} (w : Wm m) {root : Nat} {x : Mg} (h : x ∈ lst m root) : Wg x ∧ x.va + sz x ≤ 131072 := by
  unfold lst at h
  cases hc : cond (root == 0) true (!pgd m root) with
  | true => rw [hc] at h; exact absurd h (by simp)
  | false =>
    rw [hc, cond_false, List.mem_flatMap] at h
    obtain ⟨i, hi, hx⟩ := h
    rw [List.mem_range] at hi
    obtain ⟨a, _, b⟩ := row1_mem w hx
    exact ⟨a, by omega⟩
theorem lst_len (m : Pgs) (root : Nat) : (lst m root).length ≤ 1024 := by
  unfold lst
  cases cond (root == 0) true (!pgd m root) with
  | true => simp
  | false =>
    have := flat_len (row1_len m root) (List.range 32)
    rw [List.length_range] at this
    simp only [cond_false]
    omega
/-! ### what the list says of an address -/
theorem cov_false {va : Nat} {x : Mg} (h : va < x.va ∨ x.va + sz x ≤ va) : cov va x = false := by
  unfold cov
  rw [Bool.and_eq_false_iff]
  rcases h with h | h
  · exact .inl (decide_eq_false (by omega))
  · by_cases h2 : x.va ≤ va
    · exact .inr (decide_eq_false (by omega))
    · exact .inl (decide_eq_false h2)
theorem lst_at {m : Pgs} (w : Wm m) {root va : Nat} (h0 : root ≠ 0) (hp : pgd m root = true) : foldAt va (lst m root) (-1) = if va < 131072 then foldAt va (row1 m root (va / 4096)) (-1) else -1 := by
  have h : (cond (root == 0) true (!pgd m root)) = false := by rw [beq_eq_false_iff_ne.mpr h0, hp]; rfl
  unfold lst
  rw [h, cond_false, List.range_eq_range', foldAt_flat va (va / 4096) (row1 m root) (fun j hj x hx => by
    obtain ⟨_, a, b⟩ := row1_mem w hx
    exact cov_false (by omega))]
  by_cases hv : va < 131072
  · rw [if_pos hv, if_pos (by omega)]
  · rw [if_neg hv, if_neg (by omega)]
def clip (m : Pgs) (a : Int) : Int := cond (decide (((128 * m.length : Nat) : Int) ≤ a)) (-1) a
theorem clip_none (m : Pgs) : clip m (-1) = -1 := by unfold clip; rw [decide_eq_false (by omega)]; rfl
theorem trans_is {m : Pgs} (w : Wm m) {root va : Nat} (h0 : root ≠ 0) :
    ((walk m root va 1 false).cause = 0 ∧ (walk m root va 1 false).at' = clip m (foldAt va (lst m root) (-1)) ∧ 0 ≤ clip m (foldAt va (lst m root) (-1))) ∨ ((walk m root va 1 false).cause = 5 ∧ clip m (foldAt va (lst m root) (-1)) = -1) := by
  have hl := w.le
  have h0' : (root == 0) = false := beq_eq_false_iff_ne.mpr h0
  have hbad : ∀ r, bad 1 r = ⟨0, 0, [], r, 5⟩ := fun _ => rfl
  unfold walk
  rw [h0', cond_false]
  cases hr : pgd m root with
  | false =>
    have : lst m root = [] := by unfold lst; rw [h0', hr]; rfl
    rw [this]
    right
    refine ⟨?_, clip_none m⟩
    cases decide (va < 131072) <;> rfl
  | true =>
  rw [lst_at w h0 hr]
  cases hv : decide (va < 131072) with
  | false =>
    rw [if_neg (by simpa using hv)]
    exact .inr ⟨rfl, clip_none m⟩
  | true =>
  have hv' : va < 131072 := by simpa using hv
  rw [if_pos hv']
  simp only [cond_true]
  have ea : at1 root va = root + 4 * (va / 4096) := rfl
  unfold row1
  rw [← ea]
  cases h1 : hb (wo m (at1 root va)) 1 with
  | false => exact .inr ⟨rfl, clip_none m⟩
  | true =>
  cases h2 : right m (wo m (at1 root va)) with
  | false => exact .inr ⟨rfl, clip_none m⟩
  | true =>
  simp only [cond_true]
  generalize wo m (at1 root va) = e at *
  cases h3 : hb e 64 with
  | true =>
    have hlg := right_large h2 h3
    simp only [cond_true]
    unfold fin
    rw [may_load]
    cases h4 : pgd m (pa e) with
    | false =>
      have : pgd m (pg1 e va) = false := by
        cases h5 : pgd m (pg1 e va) with
        | false => rfl
        | true =>
          exfalso
          have g := pgd_of h5
          have : pgd m (pa e) = true := by
            unfold pgd
            rw [decide_eq_true (show pa e < 128 * m.length by unfold pg1 at g; omega), beq_iff_eq.mpr (show pa e % 128 = 0 by omega)]; rfl
          rw [h4] at this; exact absurd this (by simp)
      rw [this]
      exact .inr ⟨rfl, clip_none m⟩
    | true =>
      have g4 := pgd_of h4
      have hc : cov va ⟨4096 * (va / 4096), pa e, e % 128⟩ = true := by
        unfold cov sz
        rw [(hb_mod e).2, h3]
        simp only [cond_true, Bool.and_eq_true, decide_eq_true_eq]
        omega
      have hf : foldAt va [⟨4096 * (va / 4096), pa e, e % 128⟩] (-1) = ((pg1 e va + va % 128 : Nat) : Int) := by
        rw [foldAt, hc, foldAt, cond_true, valM]
        simp only [pg1]
        congr 1
        omega
      simp only [cond_true]
      rw [hf]
      unfold clip
      cases h5 : pgd m (pg1 e va) with
      | true =>
        have g5 := pgd_of h5
        left
        rw [decide_eq_false (show ¬ (((128 * m.length : Nat) : Int) ≤ ((pg1 e va + va % 128 : Nat) : Int)) by omega)]
        exact ⟨rfl, rfl, by simp only [cond_false]; omega⟩
      | false =>
        right
        have hn : ¬ pg1 e va < 128 * m.length := by
          intro hh
          have : pgd m (pg1 e va) = true := by
            unfold pgd
            rw [decide_eq_true hh, beq_iff_eq.mpr (show pg1 e va % 128 = 0 by unfold pg1; omega)]; rfl
          rw [h5] at this; exact absurd this (by simp)
        rw [decide_eq_true (show (((128 * m.length : Nat) : Int) ≤ ((pg1 e va + va % 128 : Nat) : Int)) by omega)]
        exact ⟨rfl, rfl⟩
  | false =>
    simp only [cond_false]
    have ek : at2 e va = pa e + 4 * (va / 128 % 32) := by unfold at2; omega
    rw [List.range_eq_range', foldAt_flat va (va / 128 % 32) (itm m e (va / 4096)) (fun j hj x hx => by
      obtain ⟨_, a, b, _⟩ := itm_mem w hx
      refine cov_false ?_
      rw [b, a]
      omega), if_pos (by omega)]
    unfold itm
    rw [← ek]
    cases h6 : hb (wo m (at2 e va)) 1 with
    | false => exact .inr ⟨rfl, clip_none m⟩
    | true =>
    cases h7 : hb (wo m (at2 e va)) 64 with
    | true => exact .inr ⟨rfl, clip_none m⟩
    | false =>
    simp only [cond_true, cond_false]
    unfold fin
    rw [may_load]
    cases h8 : pgd m (pa (wo m (at2 e va))) with
    | false => exact .inr ⟨rfl, clip_none m⟩
    | true =>
      have g8 := pgd_of h8
      have hc : cov va ⟨4096 * (va / 4096) + 128 * (va / 128 % 32), pa (wo m (at2 e va)), wo m (at2 e va) % 128⟩ = true := by
        unfold cov sz
        rw [(hb_mod (wo m (at2 e va))).2, h7]
        simp only [cond_false, Bool.and_eq_true, decide_eq_true_eq]
        omega
      have hf : foldAt va [⟨4096 * (va / 4096) + 128 * (va / 128 % 32), pa (wo m (at2 e va)), wo m (at2 e va) % 128⟩] (-1) = ((pa (wo m (at2 e va)) + va % 128 : Nat) : Int) := by
        rw [foldAt, hc, foldAt, cond_true, valM]
        congr 1
        simp only
        omega
      simp only [cond_true]
      rw [hf]
      left
      unfold clip
      rw [decide_eq_false (show ¬ (((128 * m.length : Nat) : Int) ≤ ((pa (wo m (at2 e va)) + va % 128 : Nat) : Int)) by omega)]
      exact ⟨by first | trivial | rfl, by first | rfl | trivial, by simp only [cond_false]; omega⟩
end Go.Proofs.Ytcknhfnbdgleiaa
