/- Paths into rows: what lies at a path, what a change at a path leaves. -/
import Derived.Test.YtglfkdbfiipjjaaEv3
set_option linter.unusedVariables false
set_option linter.unusedSimpArgs false
namespace Go.AE
open Go.RowKit
section
variable {P : Program} {x : X}

theorem getP_cons (i : Nat) (p : List Nat) (t : TypeId) (ps : List AV) : getP (i :: p) (.agg t ps) = getP p (ps.getD i .dead) := rfl
theorem setP_cons (i : Nat) (p : List Nat) (new : AV) (t : TypeId) (ps : List AV) : setP (i :: p) new (.agg t ps) = .agg t (ps.set i (setP p new (ps.getD i .dead))) := rfl
theorem getD_set_self {l : List AV} {i : Nat} {v d : AV} (h : i < l.length) : (l.set i v).getD i d = v := by
  simp [List.getD, h]
theorem getD_set_ne {l : List AV} {i j : Nat} {v d : AV} (h : i ≠ j) : (l.set i v).getD j d = l.getD j d := by
  simp [List.getD, List.getElem?_set_ne h]

/-- A struct that fits a type whose make is known. -/
theorem struct_of {t0 : TypeId} {v : AV} {cs : List Value} {fs : Array Field} (hu : P.underlying t0 = some (.struct fs)) (hf : fits P t0 v = true) (hr : rel P x v cs) :
    ∃ u ps, v = .agg u ps ∧ likeT P u t0 = true ∧ P.underlying u = some (.struct fs) ∧ relSt P x (fs.toList.map (·.type)) ps cs := by
  have hA : tyA P t0 = true := by simp [tyA, hu]
  cases v with
  | agg u ps =>
    have h1 := (tyA_agg hf).1
    have h2 : P.underlying u = some (.struct fs) := (like_under h1).trans hu
    exact ⟨u, ps, rfl, h1, h2, (rel_struct hr h2).2⟩
  | _ => simp [fits, hA] at hf
theorem array_of {t0 : TypeId} {v : AV} {cs : List Value} {n : Nat} {e : TypeId} (hu : P.underlying t0 = some (.array n e)) (hf : fits P t0 v = true) (hr : rel P x v cs) :
    ∃ u ps, v = .agg u ps ∧ likeT P u t0 = true ∧ P.underlying u = some (.array n e) ∧ ps.length = n ∧ relAr P x e ps cs := by
  have hA : tyA P t0 = true := by simp [tyA, hu]
  cases v with
  | agg u ps =>
    have h1 := (tyA_agg hf).1
    have h2 : P.underlying u = some (.array n e) := (like_under h1).trans hu
    exact ⟨u, ps, rfl, h1, h2, (rel_array hr h2).2⟩
  | _ => simp [fits, hA] at hf
theorem sizesTo_eq {t0 : TypeId} {fs : Array Field} (hu : P.underlying t0 = some (.struct fs)) (k : Nat) : sizesTo P t0 k = (((fs.toList.map (·.type)).take k).map P.cellsOf).sum := by
  simp [sizesTo, hu, List.map_take, Function.comp_def]
theorem fieldT {fs : Array Field} {k : Nat} {f : Field} (h : fs[k]? = some f) : (fs.toList.map (·.type))[k]? = some f.type := by
  simp [h]

/-- What lies at a path, and what a change there leaves. -/
theorem relP : ∀ (p : List Nat) {t0 t : TypeId} {off : Nat} {v : AV} {cs : List Value}, PathT P p t0 t off → rel P x v cs → cs.length = P.cellsOf t0 → fits P t0 v = true →
    ∃ pre c post, cs = pre ++ c ++ post ∧ pre.length = off ∧ rel P x (getP p v) c ∧ c.length = P.cellsOf t ∧ fits P t (getP p v) = true ∧
      ∀ v' c', rel P x v' c' → c'.length = P.cellsOf t → fits P t v' = true → rel P x (setP p v' v) (pre ++ c' ++ post) ∧ fits P t0 (setP p v' v) = true
  | [], t0, t, off, v, cs, hp, hr, hl, hf => by
    obtain ⟨rfl, rfl⟩ := hp
    exact ⟨[], cs, [], by simp, rfl, by simpa [getP] using hr, hl, by simpa [getP] using hf, fun v' c' h1 h2 h3 => by simpa [setP] using ⟨h1, h3⟩⟩
  | k :: p, t0, t, off, v, cs, hp, hr, hl, hf => by
    unfold PathT at hp
    split at hp
    · rename_i fs hu
      obtain ⟨f, off', hk, rfl, hp⟩ := hp
      obtain ⟨u, ps, rfl, hlk, hu', hs⟩ := struct_of hu hf hr
      obtain ⟨pre, c, post, rfl, h2, h3, h4, h5, h6⟩ := relSt_get k f.type hs (fieldT hk)
      obtain ⟨pre1, c1, post1, rfl, k2, k3, k4, k5, k6⟩ := relP p hp h3 h4 h5
      refine ⟨pre ++ pre1, c1, post1 ++ post, by simp [List.append_assoc], by rw [List.length_append, h2, k2, sizesTo_eq hu], by rw [getP_cons]; exact k3, k4, by rw [getP_cons]; exact k5, fun v' c' j1 j2 j3 => ?_⟩
      obtain ⟨m1, m2⟩ := k6 v' c' j1 j2 j3
      have hlen : (pre1 ++ c' ++ post1).length = P.cellsOf f.type := by rw [← h4]; simp [k4, j2]
      have := h6 _ _ m1 hlen m2
      rw [setP_cons]
      refine ⟨mk_struct hu' ?_ (by simpa [List.append_assoc] using this), by simpa [fits] using hf⟩
      rw [like_cells hlk, ← hl]
      simp [k4, j2]
    · rename_i n e hu
      obtain ⟨hk, off', rfl, hp⟩ := hp
      obtain ⟨u, ps, rfl, hlk, hu', hn, hs⟩ := array_of hu hf hr
      obtain ⟨pre, c, post, rfl, h2, h3, h4, h5, h6⟩ := relAr_get k hs (by omega)
      obtain ⟨pre1, c1, post1, rfl, k2, k3, k4, k5, k6⟩ := relP p hp h3 h4 h5
      refine ⟨pre ++ pre1, c1, post1 ++ post, by simp [List.append_assoc], by rw [List.length_append, h2, k2], by rw [getP_cons]; exact k3, k4, by rw [getP_cons]; exact k5, fun v' c' j1 j2 j3 => ?_⟩
      obtain ⟨m1, m2⟩ := k6 v' c' j1 j2 j3
      have hlen : (pre1 ++ c' ++ post1).length = P.cellsOf e := by rw [← h4]; simp [k4, j2]
      have := h6 _ _ m1 hlen m2
      rw [setP_cons]
      refine ⟨mk_array hu' ?_ (by simpa using hn) (by simpa [List.append_assoc] using this), by simpa [fits] using hf⟩
      rw [like_cells hlk, ← hl]
      simp [k4, j2]
    · exact hp.elim
theorem relP_le {p : List Nat} {t0 t : TypeId} {off : Nat} {v : AV} {cs : List Value} (hp : PathT P p t0 t off) (hr : rel P x v cs) (hl : cs.length = P.cellsOf t0) (hf : fits P t0 v = true) : off + P.cellsOf t ≤ cs.length := by
  obtain ⟨pre, c, post, rfl, h2, h3, h4, _⟩ := relP p hp hr hl hf
  simp only [List.length_append, h2, h4]; omega

theorem sum_take_le : ∀ (l : List Nat) (i j : Nat) (a : Nat), i < j → l[i]? = some a → (l.take i).sum + a ≤ (l.take j).sum
  | [], i, j, a, _, h => by simp at h
  | b :: l, 0, j + 1, a, _, h => by
    simp only [List.getElem?_cons_zero, Option.some.injEq] at h
    subst h
    simp
  | b :: l, i + 1, j + 1, a, hij, h => by
    have := sum_take_le l i j a (by omega) (by simpa using h)
    simp only [List.take_succ_cons, List.sum_cons]
    omega
/-- A change at a path leaves what lies at a path apart from it. -/
theorem relP_apart : ∀ (p q : List Nat) {t0 t t2 : TypeId} {off off2 : Nat} {v : AV} {pre c post : List Value}, apart q p = true → PathT P p t0 t off → PathT P q t0 t2 off2 →
    rel P x v (pre ++ c ++ post) → (pre ++ c ++ post).length = P.cellsOf t0 → fits P t0 v = true → pre.length = off → c.length = P.cellsOf t → ∀ c' : List Value, c'.length = c.length → ∀ v', 
    getP q (setP p v' v) = getP q v ∧ (off2 + P.cellsOf t2 ≤ off ∨ off + P.cellsOf t ≤ off2)
  | [], q, t0, t, t2, off, off2, v, pre, c, post, ha, _, _, _, _, _, _, _, c', _, v' => by cases q <;> simp [apart] at ha
  | k :: p, [], t0, t, t2, off, off2, v, pre, c, post, ha, _, _, _, _, _, _, _, c', _, v' => by simp [apart] at ha
  | k :: p, j :: q, t0, t, t2, off, off2, v, pre, c, post, ha, hp, hq, hr, hl, hf, h1, h2, c', h3, v' => by
    simp only [apart] at ha
    unfold PathT at hp hq
    split at hp
    · rename_i fs hu
      rw [hu] at hq
      obtain ⟨f, off', hk, hoff, hp⟩ := hp
      obtain ⟨f2, off2', hk2, hoff2, hq⟩ := hq
      obtain ⟨u, ps, rfl, hlk, hu', hs⟩ := struct_of hu hf hr
      obtain ⟨pa, ca, ra, ea, la, ra3, ra4, ra5, _⟩ := relSt_get k f.type hs (fieldT hk)
      obtain ⟨pb, cb, rb, eb, lb, rb3, rb4, rb5, _⟩ := relSt_get j f2.type hs (fieldT hk2)
      have w1 := relP_le hp ra3 ra4 ra5
      have w2 := relP_le hq rb3 rb4 rb5
      by_cases hkj : j = k
      · subst hkj
        simp only [Nat.beq_refl, if_true] at ha
        have hff : f = f2 := by rw [hk] at hk2; exact Option.some.inj hk2
        subst hff
        obtain ⟨pre1, c1, post1, e1, l1, m3, m4, m5, _⟩ := relP p hp ra3 ra4 ra5
        subst e1
        obtain ⟨g1, g2⟩ := relP_apart p q ha hp hq ra3 ra4 ra5 l1 m4 c1 rfl v'
        rw [setP_cons, getP_cons, getP_cons]
        have hlt : j < ps.length := by
          by_cases hj : j < ps.length
          · exact hj
          · exfalso
            rw [show ps.getD j .dead = .dead by simp [List.getD, List.getElem?_eq_none (Nat.le_of_not_lt hj)]] at ra5
            simp [fits, leafOK] at ra5
        rw [getD_set_self hlt]
        exact ⟨g1, by omega⟩
      · rw [setP_cons, getP_cons, getP_cons, getD_set_ne (fun h => hkj h.symm)]
        refine ⟨rfl, ?_⟩
        have hsz : ∀ k, sizesTo P t0 k = (((fs.toList.map (·.type)).map P.cellsOf).take k).sum := fun k => by rw [sizesTo_eq hu, List.map_take]
        have t1 : ((fs.toList.map (·.type)).map P.cellsOf)[k]? = some (P.cellsOf f.type) := by simp [hk]
        have t2' : ((fs.toList.map (·.type)).map P.cellsOf)[j]? = some (P.cellsOf f2.type) := by simp [hk2]
        rcases Nat.lt_or_ge j k with h | h
        · have := sum_take_le _ j k _ h t2'
          rw [← hsz, ← hsz] at this
          omega
        · have := sum_take_le _ k j _ (by omega) t1
          rw [← hsz, ← hsz] at this
          omega
    · rename_i n e hu
      rw [hu] at hq
      obtain ⟨hk, off', hoff, hp⟩ := hp
      obtain ⟨hk2, off2', hoff2, hq⟩ := hq
      obtain ⟨u, ps, rfl, hlk, hu', hn, hs⟩ := array_of hu hf hr
      obtain ⟨pa, ca, ra, ea, la, ra3, ra4, ra5, _⟩ := relAr_get k hs (by omega)
      obtain ⟨pb, cb, rb, eb, lb, rb3, rb4, rb5, _⟩ := relAr_get j hs (by omega)
      have w1 := relP_le hp ra3 ra4 ra5
      have w2 := relP_le hq rb3 rb4 rb5
      by_cases hkj : j = k
      · subst hkj
        simp only [Nat.beq_refl, if_true] at ha
        obtain ⟨pre1, c1, post1, e1, l1, m3, m4, m5, _⟩ := relP p hp ra3 ra4 ra5
        subst e1
        obtain ⟨g1, g2⟩ := relP_apart p q ha hp hq ra3 ra4 ra5 l1 m4 c1 rfl v'
        rw [setP_cons, getP_cons, getP_cons, getD_set_self (by omega)]
        exact ⟨g1, by omega⟩
      · rw [setP_cons, getP_cons, getP_cons, getD_set_ne (fun h => hkj h.symm)]
        refine ⟨rfl, ?_⟩
        rcases Nat.lt_or_ge j k with h | h
        · have : (j + 1) * P.cellsOf e ≤ k * P.cellsOf e := Nat.mul_le_mul_right _ h
          rw [Nat.add_mul] at this
          omega
        · have : (k + 1) * P.cellsOf e ≤ j * P.cellsOf e := Nat.mul_le_mul_right _ (by omega)
          rw [Nat.add_mul] at this
          omega
    · exact hp.elim

/-! ### rows -/
/-- The cells of a row. -/
def RowC (P : Program) (x : X) (root : Root) (row : Row) (cs : List Value) : Prop :=
  match row with
  | .var t v => root = .var t ∧ fits P t v = true ∧ rel P x v cs ∧ cs.length = P.cellsOf t
  | .arr e l => root = .arr e l.length ∧ ∃ c r, cs = c ++ r ∧ relAr P x e l c
  | .map _ _ _ => False
theorem RowC.le {y : X} (h : Le x y) {root : Root} {row : Row} {cs : List Value} (k : RowC P x root row cs) : RowC P y root row cs := by
  cases row with
  | var t v => exact ⟨k.1, k.2.1, rel_le h _ _ k.2.2.1, k.2.2.2⟩
  | arr e l => exact ⟨k.1, by obtain ⟨c, r, h1, h2⟩ := k.2; exact ⟨c, r, h1, relAr_le h e l c h2⟩⟩
  | map => exact k.elim
theorem rowC_path {root : Root} {row : Row} {cs : List Value} {p : List Nat} {t : TypeId} {off : Nat} (h : RowC P x root row cs) (hp : PathR P root p t off) :
    ∃ pre c post, cs = pre ++ c ++ post ∧ pre.length = off ∧ rel P x (row.get p) c ∧ c.length = P.cellsOf t ∧ fits P t (row.get p) = true ∧
      ∀ v' c', rel P x v' c' → c'.length = P.cellsOf t → fits P t v' = true → RowC P x root (row.put p v') (pre ++ c' ++ post) := by
  cases row with
  | var t0 v =>
    obtain ⟨rfl, h2, h3, h4⟩ := h
    obtain ⟨pre, c, post, rfl, e2, e3, e4, e5, e6⟩ := relP p hp h3 h4 h2
    refine ⟨pre, c, post, rfl, e2, e3, e4, e5, fun v' c' k1 k2 k3 => ?_⟩
    obtain ⟨m1, m2⟩ := e6 v' c' k1 k2 k3
    exact ⟨rfl, m2, m1, by rw [← h4]; simp [e4, k2]⟩
  | arr e l =>
    obtain ⟨rfl, c0, r0, rfl, h3⟩ := h
    cases p with
    | nil => exact hp.elim
    | cons k p =>
      obtain ⟨hk, off', rfl, hp⟩ := hp
      obtain ⟨pa, ca, ra, rfl, la, ra3, ra4, ra5, ra6⟩ := relAr_get k h3 hk
      obtain ⟨pre, c, post, rfl, e2, e3, e4, e5, e6⟩ := relP p hp ra3 ra4 ra5
      refine ⟨pa ++ pre, c, post ++ ra ++ r0, by simp [List.append_assoc], by simp [la, e2], e3, e4, e5, fun v' c' k1 k2 k3 => ?_⟩
      obtain ⟨m1, m2⟩ := e6 v' c' k1 k2 k3
      have := ra6 _ _ m1 (by rw [← ra4]; simp [e4, k2]) m2
      exact ⟨by simp, _, r0, by simp [List.append_assoc], this⟩
  | map => exact h.elim
theorem rowC_apart {root : Root} {row : Row} {cs : List Value} {p q : List Nat} {t t2 : TypeId} {off off2 : Nat} (h : RowC P x root row cs) (hp : PathR P root p t off) (hq : PathR P root q t2 off2) (ha : apart q p = true) (v' : AV) :
    (row.put p v').get q = row.get q ∧ (off2 + P.cellsOf t2 ≤ off ∨ off + P.cellsOf t ≤ off2) := by
  cases row with
  | var t0 v =>
    obtain ⟨rfl, h2, h3, h4⟩ := h
    obtain ⟨pre, c, post, rfl, e2, e3, e4, e5, e6⟩ := relP p hp h3 h4 h2
    exact relP_apart p q ha hp hq h3 h4 h2 e2 e4 c rfl v'
  | arr e l =>
    obtain ⟨rfl, c0, r0, rfl, h3⟩ := h
    cases p with
    | nil => exact hp.elim
    | cons k p =>
      cases q with
      | nil => exact hq.elim
      | cons j q =>
        obtain ⟨hk, off', rfl, hp⟩ := hp
        obtain ⟨hj, off2', rfl, hq⟩ := hq
        obtain ⟨pa, ca, ra, ea, la, ra3, ra4, ra5, ra6⟩ := relAr_get k h3 hk
        obtain ⟨pb, cb, rb, eb, lb, rb3, rb4, rb5, rb6⟩ := relAr_get j h3 hj
        have w1 := relP_le hp ra3 ra4 ra5
        have w2 := relP_le hq rb3 rb4 rb5
        simp only [apart] at ha
        by_cases hkj : j = k
        · subst hkj
          simp only [Nat.beq_refl, if_true] at ha
          obtain ⟨pre1, c1, post1, e1, l1, m3, m4, m5, _⟩ := relP p hp ra3 ra4 ra5
          subst e1
          obtain ⟨g1, g2⟩ := relP_apart p q ha hp hq ra3 ra4 ra5 l1 m4 c1 rfl v'
          simp only [Row.put, Row.get]
          rw [getD_set_self hj]
          exact ⟨g1, by omega⟩
        · simp only [Row.put, Row.get]
          rw [getD_set_ne (fun h => hkj h.symm)]
          refine ⟨rfl, ?_⟩
          rcases Nat.lt_or_ge j k with h | h
          · have : (j + 1) * P.cellsOf e ≤ k * P.cellsOf e := Nat.mul_le_mul_right _ h
            rw [Nat.add_mul] at this
            omega
          · have : (k + 1) * P.cellsOf e ≤ j * P.cellsOf e := Nat.mul_le_mul_right _ (by omega)
            rw [Nat.add_mul] at this
            omega
  | map => exact h.elim
/-- The elements of an array in a row. -/
theorem rowC_elems {root : Root} {row : Row} {cs : List Value} {p : List Nat} {e : TypeId} {n o0 : Nat} (h : RowC P x root row cs) (hp : PathC P root p e n o0) :
    (row.elems p).length = n ∧ ∃ pre c post, cs = pre ++ c ++ post ∧ pre.length = o0 ∧ relAr P x e (row.elems p) c ∧
      ∀ l' c', relAr P x e l' c' → l'.length = n → RowC P x root (row.putElems p l') (pre ++ c' ++ post) := by
  rcases hp with ⟨rfl, rfl, rfl⟩ | ⟨t, hp, hu⟩
  · cases row with
    | var t v => exact absurd h.1 (by simp)
    | map => exact h.elim
    | arr e' l =>
      obtain ⟨h1, c, r, rfl, h3⟩ := h
      simp only [Root.arr.injEq] at h1
      obtain ⟨rfl, rfl⟩ := h1
      refine ⟨rfl, [], c, r, by simp, rfl, h3, fun l' c' k1 k2 => ⟨by simp [k2], c', r, by simp, k1⟩⟩
  · obtain ⟨pre, c, post, rfl, e2, e3, e4, e5, e6⟩ := rowC_path h hp
    obtain ⟨u, ps, hv, hlk, hu', hn, hs⟩ := array_of hu e5 e3
    have hne : ∀ e' l, row = .arr e' l → p ≠ [] := by
      rintro e' l rfl rfl
      obtain ⟨rfl, _⟩ := h
      exact hp.elim
    have hel : row.elems p = ps := by
      cases row with
      | arr e' l =>
        cases p with
        | nil => exact absurd rfl (hne e' l rfl)
        | cons k p => simp only [Row.elems, hv, partsOf]
      | var t v => simp only [Row.elems, hv, partsOf]
      | map k e es => simp only [Row.elems, hv, partsOf]
    rw [hel]
    refine ⟨hn, pre, c, post, rfl, e2, hs, fun l' c' k1 k2 => ?_⟩
    have hpe : row.putElems p l' = row.put p (.agg u l') := by
      cases row with
      | arr e' l =>
        cases p with
        | nil => exact absurd rfl (hne e' l rfl)
        | cons k p => simp only [Row.putElems, hv, aggT]
      | var t v => simp only [Row.putElems, hv, aggT]
      | map k e es => simp only [Row.putElems, hv, aggT]
    rw [hpe]
    refine e6 (.agg u l') c' ?_ ?_ ?_
    · exact mk_array hu' (by rw [relAr_len k1, k2, ← hn, ← relAr_len hs, e4, like_cells hlk]) k2 k1
    · rw [relAr_len k1, k2, ← hn, ← relAr_len hs, e4]
    · simp only [fits, hlk, Bool.true_and]; simp [tyA, hu]
/-! what is read, in its type's form -/
theorem etaFs_rel {rec : TypeId → AV → AV} {x : X} (hrec : ∀ (t : TypeId) (v : AV) (cs : List Value), fits P t v = true → rel P x v cs → fits P t (rec t v) = true ∧ rel P x (rec t v) cs) :
    ∀ (fs : List Field) (k : Nat) (ps qs : List AV) (cs : List Value), (∀ j, qs.getD j .dead = ps.getD (k + j) .dead) → relSt P x (fs.map (·.type)) qs cs → relSt P x (fs.map (·.type)) (etaFs rec k fs ps) cs
  | [], k, ps, [], cs, _, h => h
  | [], k, ps, _ :: _, cs, _, h => h.elim
  | f :: fs, k, ps, [], cs, _, h => h.elim
  | f :: fs, k, ps, q :: qs, cs, hq, h => by
    obtain ⟨c, r, rfl, h1, h2, h3, h4⟩ := h
    have h0 : q = ps.getD k .dead := by simpa using hq 0
    obtain ⟨e1, e2⟩ := hrec f.type q c h3 h1
    rw [h0] at e1 e2
    exact ⟨c, r, rfl, e2, h2, e1, etaFs_rel hrec fs (k + 1) ps qs r (fun j => by rw [show k + 1 + j = k + (j + 1) from by omega, ← hq]; rfl) h4⟩
theorem eta_spec {im : Bool} {x : X} (him : im = true → x.m = false) : ∀ (d : Nat) (t : TypeId) (v : AV) (cs : List Value), fits P t v = true → rel P x v cs → fits P t (etaA P im d t v) = true ∧ rel P x (etaA P im d t v) cs
  | 0, t, v, cs, hf, hr => ⟨hf, hr⟩
  | d + 1, t, v, cs, hf, hr => by
    unfold etaA
    split
    · rename_i hu
      cases v <;> simp_all [fits, leafOK, boolOf]
      rename_i u ps; simp [tyA, hu] at hf
    · rename_i k hu
      cases v <;> simp_all [fits, leafOK, intOf]
      rename_i u ps; simp [tyA, hu] at hf
    · rename_i hu
      cases v <;> simp_all [fits, leafOK, strOf]
      rename_i u ps; simp [tyA, hu] at hf
    · rename_i fs hu
      split
      · rename_i hl
        obtain ⟨u, ps, rfl, h1, h2, h3⟩ := struct_of hu hf hr
        have hlen := rel_aggLen hr
        refine ⟨by simp [fits, hl, tyA, hu], mk_struct ((like_under hl).trans hu) (by rw [hlen, like_cells h1, like_cells hl]) ?_⟩
        exact etaFs_rel (fun t v cs a b => eta_spec him d t v cs a b) fs.toList 0 ps ps cs (fun j => by rw [Nat.zero_add]) h3
      · exact ⟨hf, hr⟩
    · rename_i n e hu
      split
      · rename_i hl
        obtain ⟨u, ps, rfl, h1, h2, h3, h4⟩ := array_of hu hf hr
        have hlen := rel_aggLen hr
        exact ⟨by simp [fits, hl, tyA, hu], mk_array ((like_under hl).trans hu) (by rw [hlen, like_cells h1, like_cells hl]) h3 h4⟩
      · exact ⟨hf, hr⟩
    · rename_i e hu
      split
      · rename_i hi
        cases v with
        | slice e' l ex =>
          have he : e' = e := by
            simp only [fits, leafOK, hu, Bool.and_eq_true] at hf
            exact Nat.eq_of_beq_eq_true hf.1
          subst he
          obtain ⟨base, len, cap, h1, h2, h3, h4, h5⟩ := hr
          exact ⟨hf, base, len, cap, h1, h2, h3, fun k => absurd k (by simp), h5⟩
        | msl r p e' off coff len =>
          have := hr.1
          rw [him hi] at this
          exact absurd this (by simp)
        | agg u ps => simp [fits, tyA, hu] at hf
        | _ => simp [fits, leafOK, hu] at hf
      · exact ⟨hf, hr⟩
    · exact ⟨hf, hr⟩
theorem isA_fits {t : TypeId} {v : AV} (h : fits P t v = true) : v.isA = tyA P t := fits_isA h
theorem relV_eta {im : Bool} {x : X} (him : im = true → x.m = false) {d : Nat} {t : TypeId} {v : AV} {c : Value} (hf : fits P t v = true) (h : relV P x v c) : relV P x (etaA P im d t v) c := by
  obtain ⟨cs, rfl, hr, h1⟩ := h
  obtain ⟨e1, e2⟩ := eta_spec him d t v cs hf hr
  have ha : (etaA P im d t v).isA = v.isA := by rw [fits_isA e1, fits_isA hf]
  exact ⟨cs, by rw [ha], e2, by rw [ha]; exact h1⟩
theorem eta_slice {d : Nat} {t : TypeId} {v : AV} {e : TypeId} {l : List AV} {ex : Bool} (h : etaA P false d t v = .slice e l ex) : v = .slice e l ex := by
  cases d with
  | zero => exact h
  | succ d =>
    unfold etaA at h
    split at h
    · exact absurd h (by simp)
    · exact absurd h (by simp)
    · exact absurd h (by simp)
    · split at h
      · exact absurd h (by simp)
      · exact h
    · split at h
      · exact absurd h (by simp)
      · exact h
    · simpa using h
    · exact h
end
end Go.AE
