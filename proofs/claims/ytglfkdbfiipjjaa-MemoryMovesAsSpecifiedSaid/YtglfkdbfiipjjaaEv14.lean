/- Memory that is written: new rows, who may append, stores. -/
import Derived.Test.YtglfkdbfiipjjaaEv13
set_option linter.unusedVariables false
set_option linter.unusedSimpArgs false
namespace Go.AE
open Go.RowKit Go.Lib
section
variable {E : Env} {d : Nat} {g : G} {fr : Fr} {M : Mm} {a : Act} {w : World}

theorem stOf_eq {cls cls' : Nat → Cls} {b o : Nat} (h : cls' b = cls b) : stOf E cls b o → stOf E cls' b o := by
  unfold stOf; rw [h]; exact id

/-! ### a new row -/
theorem alloc_size (w : World) (o : Obj) : (w.alloc o).heap.size = w.heap.size + 1 := by show (w.heap.push o).size = _; simp
theorem alloc_get (w : World) (o : Obj) : (w.alloc o).heap[w.heap.size]? = some o := by show (w.heap.push o)[w.heap.size]? = _; simp
def G.row (g : G) (b : Nat) (root : Root) : G := ⟨g.rows ++ [(b, root)], fun k => if k = b then .row else g.cls k⟩
theorem getElem?_snoc {α : Type} {l : List α} {x y : α} {i : Nat} (h : (l ++ [x])[i]? = some y) : l[i]? = some y ∨ (i = l.length ∧ y = x) := by
  rcases Nat.lt_or_ge i l.length with hi | hi
  · rw [List.getElem?_append_left hi] at h; exact .inl h
  · rw [List.getElem?_append_right hi] at h
    have : i - l.length = 0 := by
      rcases Nat.eq_zero_or_pos (i - l.length) with h0 | h0
      · exact h0
      · rw [List.getElem?_eq_none (by simp; omega)] at h; exact absurd h (by simp)
    rw [this] at h
    simp only [List.getElem?_cons_zero, Option.some.injEq] at h
    exact .inr ⟨by omega, h.symm⟩
theorem ext_newRow (h : Rel E d g fr M a w) (o : Obj) (root : Root) : Ext E d g w (g.row w.heap.size root) (w.alloc o) := by
  have hne : ∀ b, b < w.heap.size → (g.row w.heap.size root).cls b = g.cls b := fun b hb => if_neg (by omega)
  refine ⟨fun r z hz => ?_, fun b o v hs hc => stOf_eq (hne b (cell_lt hc)) hs, fun b o' v _ hc => ?_, fun b d' i u _ hb _ => ⟨hne b hb, Below.heap_alloc w o b hb⟩, by rw [alloc_size]; omega⟩
  · show (g.rows ++ _)[r]? = _
    rw [List.getElem?_append_left (List.getElem?_eq_some_iff.1 hz).1]; exact hz
  · exact (((Below.refl w.heap.size w).alloc (Nat.le_refl _) o).cell (p := ⟨b, o', none⟩) (cell_lt hc)).trans hc
theorem Rel.newRow (h : Rel E d g fr M a w) (o : Obj) (root : Root) (row : Row) (hrow : ∀ x, Le (xOf E g w) x → x.w = w.alloc o → RowOK E.P x w.heap.size root row) :
    Rel E d (g.row w.heap.size root) fr { M with rows := M.rows ++ [row] } a (w.alloc o) := by
  have hx := ext_newRow h o root
  have hle := hx.le
  have hne : ∀ b, b < w.heap.size → (g.row w.heap.size root).cls b = g.cls b := fun b hb => if_neg (by omega)
  have hcell : ∀ b o' v, w.cell? ⟨b, o', none⟩ = some v → (w.alloc o).cell? ⟨b, o', none⟩ = some v := fun b o' v hc => (((Below.refl w.heap.size w).alloc (Nat.le_refl _) o).cell (p := ⟨b, o', none⟩) (cell_lt hc)).trans hc
  have hown : ∀ {o' : Onr} {e : TypeId} {v : Value}, OwnC E g w o' e v → OwnC E (g.row w.heap.size root) (w.alloc o) o' e v := fun k => k.le fun b u _ hlt _ => ⟨hne b hlt, Below.heap_alloc w o b hlt⟩
  refine ⟨h.below.alloc h.hN o, Nat.le_trans h.hN (by rw [alloc_size]; omega), fun b hlt => ?_, h.size, fun i => relV_le hle (h.tmps i), by simp [G.row, h.lenr], ?_, ?_, ?_, h.viaT, ?_, ?_⟩
  · have hb : w.heap.size < b := by rw [alloc_size] at hlt; omega
    show (if b = w.heap.size then _ else _) = _
    rw [if_neg (by omega)]
    exact h.fresh b (by omega)
  · intro r b root' hr
    rcases getElem?_snoc hr with hr | ⟨rfl, hr'⟩
    · obtain ⟨k1, k2, k3, k4⟩ := h.rows r b root' hr
      have hlt := (List.getElem?_eq_some_iff.1 hr).1
      refine ⟨k1, by rw [alloc_size]; omega, (hne b k2).trans k3, ?_⟩
      have : (M.rows ++ [row]).getD r (.arr 0 []) = M.rows.getD r (.arr 0 []) := by
        rw [h.lenr] at hlt
        simp [List.getD, List.getElem?_append_left hlt]
      rw [this]
      exact k4.le hle (Below.heap_alloc w o b k2)
    · obtain ⟨rfl, rfl⟩ := Prod.mk.inj hr'
      refine ⟨h.hN, by rw [alloc_size]; omega, if_pos rfl, ?_⟩
      have : (M.rows ++ [row]).getD g.rows.length (.arr 0 []) = row := by rw [h.lenr]; simp [List.getD]
      rw [this]
      exact hrow _ hle rfl
  · intro r r' b root1 root2 h1 h2
    rcases getElem?_snoc h1 with k1 | ⟨k1, k1'⟩ <;> rcases getElem?_snoc h2 with k2 | ⟨k2, k2'⟩
    · exact h.inj r r' b _ _ k1 k2
    · have := (h.rows _ _ _ k1).2.1
      have := (Prod.mk.inj k2').1
      omega
    · have := (h.rows _ _ _ k2).2.1
      have := (Prod.mk.inj k1').1
      omega
    · rw [k1, k2]
  · intro t ht
    obtain ⟨e, l, ex, k1, k2⟩ := h.own t ht
    exact ⟨e, l, ex, k1, hown k2⟩
  · intro t r p ht
    obtain ⟨k1, e, l, ex, k2, b, root', ty, off, k3, k4, k5, k6⟩ := h.viaR t r p ht
    exact ⟨k1, e, l, ex, k2, b, root', ty, off, hx.rows _ _ k3, k4, k5, hcell _ _ _ k6⟩
  · intro r p ht
    obtain ⟨b, root', ty, off, e, v, k1, k2, k3, k4, k5⟩ := h.ro r p ht
    exact ⟨b, root', ty, off, e, v, hx.rows _ _ k1, k2, k3, hcell _ _ _ k4, hown k5⟩
/-- A new row's own pointer. -/
theorem newPtr (h : Rel E d g fr M a w) (o : Obj) (t : TypeId) : relV E.P (xOf E (g.row w.heap.size (.var t)) (w.alloc o)) (.ptr M.rows.length [] t 0) (.pointer (some ⟨w.heap.size, 0, none⟩)) := by
  have : rel E.P (xOf E (g.row w.heap.size (.var t)) (w.alloc o)) (.ptr M.rows.length [] t 0) [.pointer (some ⟨w.heap.size, 0, none⟩)] :=
    ⟨w.heap.size, .var t, by show (g.rows ++ _)[M.rows.length]? = _; rw [← h.lenr]; simp, ⟨rfl, rfl⟩, rfl⟩
  exact relV_leaf this rfl
/-- A variable of its own: what 'alloc' and 'box' leave. -/
theorem Rel.newVar (h : Rel E d g fr M a w) {t : TypeId} {v : AV} {c : Value} (hv : relV E.P (xOf E g w) v c) (hf : fits E.P t v = true) (h1 : tyA E.P t = false → E.P.cellsOf t = 1) (dst : Option Nat) :
    let w' := w.alloc (.cells c.cells t (0, 0))
    Rel E d (g.row w.heap.size (.var t)) (fr.set dst (.ptr M.rows.length [] t 0)) { M with rows := M.rows ++ [.var t v] } (a.put dst (.pointer (some ⟨w.heap.size, 0, none⟩))) w' := by
  intro w'
  refine (h.newRow _ (.var t) (.var t v) fun x hle hw => ?_).set dst (newPtr h _ t)
  obtain ⟨cs, rfl, hr, _⟩ := hv
  refine ⟨(mkV v.isA cs).cells, t, ?_, rfl, hf, ?_, ?_⟩
  · rw [hw]; exact alloc_get _ _
  · rw [cells_mkV hf hr]; exact rel_le hle v cs hr
  · rw [cells_mkV hf hr]; exact fits_len hf hr h1
theorem ext_newVar (h : Rel E d g fr M a w) (o : Obj) (t : TypeId) : Ext E d g w (g.row w.heap.size (.var t)) (w.alloc o) := ext_newRow h o _

/-! ### who may append -/
/-- Another becomes the one who may append. -/
theorem Rel.reown (h : Rel E d g fr M a w) {o : Onr} (o' : Onr) {e : TypeId} {v : Value} (ho : OwnC E g w o e v)
    (ht : ∀ t, o = .t d t → (t, TF.own) ∉ fr.tf) (hr : ∀ r p, o = .r r p → (r, p) ∉ M.ro) (hd : ∀ d' i, o = .t d' i → d ≤ d') :
    ∃ g', Rel E d g' fr M a w ∧ Ext E d g w g' w ∧ g'.rows = g.rows ∧ OwnC E g' w o' e v := by
  obtain ⟨base, len, cap, rfl, hc | ⟨b, off, cs, ty, rfl, hN, hcl, hh, hs⟩⟩ := ho
  · exact ⟨g, h, Ext.refl _ _ _ _, rfl, base, len, cap, rfl, .inl hc⟩
  · have hst : ∀ k u, stOf E g.cls k u ↔ stOf E (fun k => if k = b then Cls.grow o' (off + len * E.P.cellsOf e) else g.cls k) k u := by
      intro k u
      unfold stOf
      by_cases hk : k = b
      · subst hk; simp only [if_true, hcl]
      · simp only [if_neg hk]
    have hle : Le (xOf E g w) (xOf E ⟨g.rows, fun k => if k = b then Cls.grow o' (off + len * E.P.cellsOf e) else g.cls k⟩ w) := ⟨fun _ _ k => k, fun b o v k _ => (hst b o).1 k, fun _ _ _ _ k => k, id⟩
    have hne : ∀ {k : Nat} {c : Cls}, g.cls k = c → c ≠ .grow o (off + len * E.P.cellsOf e) → (if k = b then Cls.grow o' (off + len * E.P.cellsOf e) else g.cls k) = g.cls k := fun {k c} h1 h2 =>
      if_neg fun hkb => by subst hkb; exact h2 (h1.symm.trans hcl)
    have hother : ∀ {o2 : Onr} {e2 : TypeId} {v2 : Value}, o2 ≠ o → OwnC E g w o2 e2 v2 → OwnC E ⟨g.rows, fun k => if k = b then Cls.grow o' (off + len * E.P.cellsOf e) else g.cls k⟩ w o2 e2 v2 := fun hno k =>
      k.le fun b2 u _ _ hc2 => ⟨hne hc2 (fun e => by cases e; exact hno rfl), rfl⟩
    refine ⟨⟨g.rows, fun k => if k = b then Cls.grow o' (off + len * E.P.cellsOf e) else g.cls k⟩, ⟨h.below, h.hN, fun k hk => ?_, h.size, fun i => relV_le hle (h.tmps i), h.lenr, ?_, h.inj, ?_, h.viaT, h.viaR, ?_⟩, ⟨fun _ _ k => k, fun b o v k _ => (hst b o).1 k, fun _ _ _ _ k => k, fun k d' i u hd' _ hc => ⟨hne hc fun e => ?_, rfl⟩, Nat.le_refl _⟩, rfl, ?_⟩
    · show (if k = b then _ else _) = _
      rw [if_neg (by have := heap_lt hh; omega)]
      exact h.fresh k hk
    · intro r k root hr'
      obtain ⟨k1, k2, k3, k4⟩ := h.rows r k root hr'
      exact ⟨k1, k2, (hne k3 (by simp)).trans k3, k4.le hle rfl⟩
    · intro t ht'
      obtain ⟨e, l, ex, k1, k2⟩ := h.own t ht'
      exact ⟨e, l, ex, k1, hother (fun e => ht t e.symm ht') k2⟩
    · intro r p hr'
      obtain ⟨b', root, ty', off', e', v', k1, k2, k3, k4, k5⟩ := h.ro r p hr'
      exact ⟨b', root, ty', off', e', v', k1, k2, k3, k4, hother (fun e => hr r p e.symm hr') k5⟩
    · cases e
      exact absurd (hd d' i rfl) (by omega)
    · exact ⟨_, len, cap, rfl, .inr ⟨b, off, cs, ty, rfl, hN, if_pos rfl, hh, hs⟩⟩
/-- A flag more. -/
theorem Rel.flagOwn (h : Rel E d g fr M a w) {t : Nat} {e : TypeId} {l : List AV} {ex : Bool} (h1 : fr.tmps.getD t .dead = .slice e l ex) (h2 : OwnC E g w (.t d t) e (a.tmps.getD t undef)) :
    Rel E d g { fr with tf := (t, .own) :: fr.tf } M a w := by
  refine ⟨h.below, h.hN, h.fresh, h.size, h.tmps, h.lenr, h.rows, h.inj, fun i hi => ?_, fun i s hi => ?_, fun i r p hi => ?_, h.ro⟩
  · rcases List.mem_cons.1 hi with hi | hi
    · cases hi; exact ⟨e, l, ex, h1, h2⟩
    · exact h.own i hi
  · rcases List.mem_cons.1 hi with hi | hi
    · cases hi
    · obtain ⟨k1, k2⟩ := h.viaT i s hi
      exact ⟨List.mem_cons_of_mem _ k1, k2⟩
  · rcases List.mem_cons.1 hi with hi | hi
    · cases hi
    · exact h.viaR i r p hi
theorem Rel.flagT (h : Rel E d g fr M a w) {t s : Nat} {e : TypeId} {l : List AV} {ex : Bool} (h1 : fr.tmps.getD t .dead = .slice e l ex) {l' : List AV} {ex' : Bool} (h1' : fr.tmps.getD s .dead = .slice e l' ex') (h2 : (s, TF.own) ∈ fr.tf) (h3 : a.tmps.getD t undef = a.tmps.getD s undef) :
    Rel E d g { fr with tf := (t, .viaT s) :: fr.tf } M a w := by
  refine ⟨h.below, h.hN, h.fresh, h.size, h.tmps, h.lenr, h.rows, h.inj, fun i hi => ?_, fun i s' hi => ?_, fun i r p hi => ?_, h.ro⟩
  · rcases List.mem_cons.1 hi with hi | hi
    · cases hi
    · exact h.own i hi
  · rcases List.mem_cons.1 hi with hi | hi
    · cases hi
      exact ⟨List.mem_cons_of_mem _ h2, h3, e, l, ex, l', ex', h1, h1'⟩
    · obtain ⟨k1, k2⟩ := h.viaT i s' hi
      exact ⟨List.mem_cons_of_mem _ k1, k2⟩
  · rcases List.mem_cons.1 hi with hi | hi
    · cases hi
    · exact h.viaR i r p hi
theorem Rel.flagR (h : Rel E d g fr M a w) {t r : Nat} {p : List Nat} {e : TypeId} {l : List AV} {ex : Bool} (h1 : fr.tmps.getD t .dead = .slice e l ex) (h2 : (r, p) ∈ M.ro)
    {b : Nat} {root : Root} {ty : TypeId} {off : Nat} (k3 : g.rows[r]? = some (b, root)) (k4 : PathR E.P root p ty off) (k5 : E.P.underlying ty = some (.slice e)) (k6 : w.cell? ⟨b, off, none⟩ = some (a.tmps.getD t undef)) :
    Rel E d g { fr with tf := (t, .viaR r p) :: fr.tf } M a w := by
  refine ⟨h.below, h.hN, h.fresh, h.size, h.tmps, h.lenr, h.rows, h.inj, fun i hi => ?_, fun i s' hi => ?_, fun i r p hi => ?_, h.ro⟩
  · rcases List.mem_cons.1 hi with hi | hi
    · cases hi
    · exact h.own i hi
  · rcases List.mem_cons.1 hi with hi | hi
    · cases hi
    · obtain ⟨k1, k2⟩ := h.viaT i s' hi
      exact ⟨List.mem_cons_of_mem _ k1, k2⟩
  · rcases List.mem_cons.1 hi with hi | hi
    · cases hi
      exact ⟨h2, e, l, ex, h1, b, root, ty, off, k3, k4, k5, k6⟩
    · exact h.viaR i r p hi
end
end Go.AE
