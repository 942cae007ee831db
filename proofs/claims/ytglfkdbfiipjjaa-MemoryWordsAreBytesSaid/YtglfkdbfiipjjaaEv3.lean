/- Parts of what a value is: elements, fields, paths; what a load finds and a store leaves. -/
import Derived.Test.YtglfkdbfiipjjaaEv2
set_option linter.unusedVariables false
set_option linter.unusedSimpArgs false
namespace Go.AE
open Go.RowKit
section
variable {P : Program} {x : X}

theorem tyA_agg {t u : TypeId} {ps : List AV} (h : fits P t (.agg u ps) = true) : likeT P u t = true ∧ tyA P t = true := by
  simpa [fits] using h
theorem fits_isA {t : TypeId} {v : AV} (h : fits P t v = true) : v.isA = tyA P t := by
  cases v <;> simp_all [fits, AV.isA]
theorem under_uid (P : Program) (t : TypeId) : P.underlying t = (P.info? (uid P t)).map (·.desc) := by
  unfold Program.underlying uid
  cases h : P.info? t with
  | none => simp [h]
  | some i =>
    obtain ⟨desc, _⟩ := i
    cases desc <;> simp [h]
theorem like_under {t u : TypeId} (h : likeT P t u = true) : P.underlying t = P.underlying u := by
  simp only [likeT, Bool.and_eq_true] at h
  rw [under_uid P t, under_uid P u, Nat.eq_of_beq_eq_true h.1]
theorem like_cells {t u : TypeId} (h : likeT P t u = true) : P.cellsOf t = P.cellsOf u := by
  simp only [likeT, Bool.and_eq_true] at h
  exact Nat.eq_of_beq_eq_true h.2
theorem like_tyA {t u : TypeId} (h : likeT P t u = true) : tyA P t = tyA P u := by
  simp only [tyA, like_under h]
theorem like_refl (t : TypeId) : likeT P t t = true := by simp [likeT]

/-! ### lists of cells -/
theorem relAr_len {e : TypeId} : ∀ {l : List AV} {cs : List Value}, relAr P x e l cs → cs.length = l.length * P.cellsOf e
  | [], cs, h => by simp only [relAr] at h; simp [h]
  | v :: vs, cs, h => by
    obtain ⟨c, r, rfl, h1, h2, h3, h4⟩ := h
    have := relAr_len h4
    simp [this, h2, Nat.add_mul, Nat.add_comm]
/-- Element i of an array's cells. -/
theorem relAr_get {e : TypeId} : ∀ {l : List AV} {cs : List Value} (i : Nat), relAr P x e l cs → i < l.length →
    ∃ p c r, cs = p ++ c ++ r ∧ p.length = i * P.cellsOf e ∧ rel P x (l.getD i .dead) c ∧ c.length = P.cellsOf e ∧ fits P e (l.getD i .dead) = true ∧
      ∀ v' c', rel P x v' c' → c'.length = P.cellsOf e → fits P e v' = true → relAr P x e (l.set i v') (p ++ c' ++ r)
  | [], _, i, _, hi => absurd hi (by simp)
  | v :: vs, cs, 0, h, _ => by
    obtain ⟨c, r, rfl, h1, h2, h3, h4⟩ := h
    exact ⟨[], c, r, by simp, by simp, by simpa using h1, h2, by simpa using h3, fun v' c' k1 k2 k3 => by
      simp only [List.set_cons_zero, List.nil_append]
      exact ⟨c', r, rfl, k1, k2, k3, h4⟩⟩
  | v :: vs, cs, i + 1, h, hi => by
    obtain ⟨c, r, rfl, h1, h2, h3, h4⟩ := h
    obtain ⟨p, c1, r1, e1, e2, e3, e4, e5, e6⟩ := relAr_get i h4 (by simpa using hi)
    refine ⟨c ++ p, c1, r1, by rw [e1]; simp, by simp [e2, h2, Nat.add_mul, Nat.add_comm], by simpa using e3, e4, by simpa using e5, fun v' c' k1 k2 k3 => ?_⟩
    simp only [List.set_cons_succ]
    exact ⟨c, p ++ c' ++ r1, by simp, h1, h2, h3, e6 v' c' k1 k2 k3⟩
theorem relAr_append {e : TypeId} : ∀ {l m : List AV} {cs ds : List Value}, relAr P x e l cs → relAr P x e m ds → relAr P x e (l ++ m) (cs ++ ds)
  | [], m, cs, ds, h, k => by simp only [relAr] at h; subst h; simpa using k
  | v :: vs, m, cs, ds, h, k => by
    obtain ⟨c, r, rfl, h1, h2, h3, h4⟩ := h
    exact ⟨c, r ++ ds, by simp, h1, h2, h3, relAr_append h4 k⟩
theorem relAr_take {e : TypeId} : ∀ {l : List AV} {cs : List Value} (n : Nat), relAr P x e l cs → relAr P x e (l.take n) (cs.take (n * P.cellsOf e))
  | l, cs, 0, h => by simp [relAr]
  | [], cs, n + 1, h => by simp only [relAr] at h; subst h; simp [relAr]
  | v :: vs, cs, n + 1, h => by
    obtain ⟨c, r, rfl, h1, h2, h3, h4⟩ := h
    simp only [List.take_succ_cons]
    refine ⟨c, r.take (n * P.cellsOf e), ?_, h1, h2, h3, relAr_take n h4⟩
    rw [List.take_append, h2, List.take_of_length_le (by rw [h2, Nat.add_mul]; omega)]
    congr 2
    rw [Nat.add_mul]; omega
theorem relAr_drop {e : TypeId} : ∀ {l : List AV} {cs : List Value} (n : Nat), relAr P x e l cs → relAr P x e (l.drop n) (cs.drop (n * P.cellsOf e))
  | l, cs, 0, h => by simpa using h
  | [], cs, n + 1, h => by simp only [relAr] at h; subst h; simp [relAr]
  | v :: vs, cs, n + 1, h => by
    obtain ⟨c, r, rfl, h1, h2, h3, h4⟩ := h
    simp only [List.drop_succ_cons]
    have := relAr_drop n h4
    have e1 : (n + 1) * P.cellsOf e - P.cellsOf e = n * P.cellsOf e := by rw [Nat.add_mul]; omega
    have e2 : List.drop ((n + 1) * P.cellsOf e) c = [] := List.drop_of_length_le (by rw [h2, Nat.add_mul]; omega)
    rw [List.drop_append, h2, e2, List.nil_append, e1]
    exact this
/-- Fields. -/
theorem relSt_get : ∀ {ts : List TypeId} {ps : List AV} {cs : List Value} (i : Nat) (t : TypeId), relSt P x ts ps cs → ts[i]? = some t →
    ∃ p c r, cs = p ++ c ++ r ∧ p.length = ((ts.take i).map P.cellsOf).sum ∧ rel P x (ps.getD i .dead) c ∧ c.length = P.cellsOf t ∧ fits P t (ps.getD i .dead) = true ∧
      ∀ v' c', rel P x v' c' → c'.length = P.cellsOf t → fits P t v' = true → relSt P x ts (ps.set i v') (p ++ c' ++ r)
  | [], ps, cs, i, t, _, hi => by simp at hi
  | t0 :: ts, [], cs, i, t, h, hi => h.elim
  | t0 :: ts, v :: vs, cs, 0, t, h, hi => by
    obtain ⟨c, r, rfl, h1, h2, h3, h4⟩ := h
    simp only [List.getElem?_cons_zero, Option.some.injEq] at hi
    subst hi
    exact ⟨[], c, r, by simp, by simp, by simpa using h1, h2, by simpa using h3, fun v' c' k1 k2 k3 => by
      simp only [List.set_cons_zero, List.nil_append]
      exact ⟨c', r, rfl, k1, k2, k3, h4⟩⟩
  | t0 :: ts, v :: vs, cs, i + 1, t, h, hi => by
    obtain ⟨c, r, rfl, h1, h2, h3, h4⟩ := h
    obtain ⟨p, c1, r1, e1, e2, e3, e4, e5, e6⟩ := relSt_get i t h4 (by simpa using hi)
    refine ⟨c ++ p, c1, r1, by rw [e1]; simp, by simp [e2, h2], by simpa using e3, e4, by simpa using e5, fun v' c' k1 k2 k3 => ?_⟩
    simp only [List.set_cons_succ]
    exact ⟨c, p ++ c' ++ r1, by simp, h1, h2, h3, e6 v' c' k1 k2 k3⟩
theorem relSl_get {e : TypeId} {b : Nat} : ∀ {l : List AV} {o : Nat} (i : Nat), relSl P x e b o l → i < l.length →
    ∃ c, rel P x (l.getD i .dead) c ∧ c.length = P.cellsOf e ∧ fits P e (l.getD i .dead) = true ∧ At x b (o + i * P.cellsOf e) c
  | [], _, i, _, hi => absurd hi (by simp)
  | v :: vs, o, 0, h, _ => by
    obtain ⟨⟨c, h1, h2, h3, h4⟩, _⟩ := h
    exact ⟨c, by simpa using h1, h2, by simpa using h3, by simpa using h4⟩
  | v :: vs, o, i + 1, h, hi => by
    obtain ⟨_, h5⟩ := h
    obtain ⟨c, e1, e2, e3, e4⟩ := relSl_get i h5 (by simpa using hi)
    refine ⟨c, by simpa using e1, e2, by simpa using e3, ?_⟩
    have : o + P.cellsOf e + i * P.cellsOf e = o + (i + 1) * P.cellsOf e := by rw [Nat.add_mul]; omega
    rwa [this] at e4
theorem relSl_take {e : TypeId} {b : Nat} : ∀ {l : List AV} {o : Nat} (n : Nat), relSl P x e b o l → relSl P x e b o (l.take n)
  | l, o, 0, h => by simp [relSl]
  | [], o, n + 1, h => by simp [relSl]
  | v :: vs, o, n + 1, h => by
    simp only [List.take_succ_cons]
    exact ⟨h.1, relSl_take n h.2⟩
theorem relSl_drop {e : TypeId} {b : Nat} : ∀ {l : List AV} {o : Nat} (n : Nat), relSl P x e b o l → relSl P x e b (o + n * P.cellsOf e) (l.drop n)
  | l, o, 0, h => by simpa using h
  | [], o, n + 1, h => by simp [relSl]
  | v :: vs, o, n + 1, h => by
    simp only [List.drop_succ_cons]
    have := relSl_drop n h.2
    have e1 : o + P.cellsOf e + n * P.cellsOf e = o + (n + 1) * P.cellsOf e := by rw [Nat.add_mul]; omega
    rwa [e1] at this
/-- A slice's cells, one after the other. -/
theorem relSl_cells {e : TypeId} {b : Nat} : ∀ {l : List AV} {o : Nat}, relSl P x e b o l → ∃ cs, relAr P x e l cs ∧ At x b o cs
  | [], o, _ => ⟨[], by simp [relAr], fun i v h => by simp at h⟩
  | v :: vs, o, h => by
    obtain ⟨⟨c, h1, h2, h3, h4⟩, h5⟩ := h
    obtain ⟨cs, k1, k2⟩ := relSl_cells h5
    refine ⟨c ++ cs, ⟨c, cs, rfl, h1, h2, h3, k1⟩, fun i v hv => ?_⟩
    by_cases hi : i < c.length
    · rw [List.getElem?_append_left hi] at hv
      exact h4 i v hv
    · rw [List.getElem?_append_right (by omega)] at hv
      have := k2 _ _ hv
      have e1 : o + P.cellsOf e + (i - c.length) = o + i := by omega
      rwa [e1] at this
theorem relSl_of {e : TypeId} {b : Nat} : ∀ {l : List AV} {o : Nat} {cs : List Value}, relAr P x e l cs → At x b o cs → relSl P x e b o l
  | [], o, cs, _, _ => trivial
  | v :: vs, o, cs, h, k => by
    obtain ⟨c, r, rfl, h1, h2, h3, h4⟩ := h
    refine ⟨⟨c, h1, h2, h3, fun i v hv => k i v ?_⟩, relSl_of h4 fun i v hv => ?_⟩
    · rw [List.getElem?_append_left (by have := (List.getElem?_eq_some_iff.1 hv).1; exact this)]; exact hv
    · have := k (c.length + i) v (by rw [List.getElem?_append_right (by omega)]; simpa using hv)
      rwa [h2, ← Nat.add_assoc] at this
end
end Go.AE
