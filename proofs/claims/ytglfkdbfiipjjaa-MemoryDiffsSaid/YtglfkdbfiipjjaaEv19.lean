/- Appends in place and to a new block. -/
import Derived.Test.YtglfkdbfiipjjaaEv18
set_option linter.unusedVariables false
set_option linter.unusedSimpArgs false
namespace Go.AE
open Go.RowKit Go.Lib
section
variable {E : Env} {d : Nat} {g : G} {fr : Fr} {M : Mm} {a : Act} {w : World}

def G.own (g : G) (b : Nat) (o : Onr) (u : Nat) : G := ⟨g.rows, fun k => if k = b then .grow o u else g.cls k⟩
/-- A block's owner writes behind what is used: what the state says goes on. -/
theorem Rel.growTo (h : Rel E d g fr M a w) {o : Onr} (o' : Onr) {b u u' : Nat} {cs cs' : Array Value} {ty : TypeId} (hN : E.N ≤ b) (hcl : g.cls b = .grow o u) (hh : w.heap[b]? = some (.cells cs ty (0, 0))) (hu : u ≤ u')
    (hkeep : ∀ i v, i < u → cs[i]? = some v → cs'[i]? = some v)
    (ht : ∀ t, o = .t d t → (t, TF.own) ∉ fr.tf) (hr : ∀ r p, o = .r r p → (r, p) ∉ M.ro) (hd : ∀ d' i, o = .t d' i → d ≤ d') :
    Ext E d g w (g.own b o' u') (w.setRow b cs') ∧ Rel E d (g.own b o' u') fr M a (w.setRow b cs') := by
  have hbN : ¬ b < E.N := by omega
  have hst : ∀ k i, stOf E g.cls k i → stOf E (g.own b o' u').cls k i := by
    intro k i hk
    unfold stOf at hk ⊢
    split
    · rename_i hlt; rw [if_pos hlt] at hk; exact hk
    · rename_i hlt
      rw [if_neg hlt] at hk
      show match (if k = b then Cls.grow o' u' else g.cls k) with | .froz => True | .row => False | .grow _ u => i < u
      by_cases hkb : k = b
      · subst hkb
        rw [hcl] at hk
        simp only [if_true]
        exact Nat.lt_of_lt_of_le hk hu
      · rw [if_neg hkb]; exact hk
  have hcell : ∀ k i v, stOf E g.cls k i → w.cell? ⟨k, i, none⟩ = some v → (w.setRow b cs').cell? ⟨k, i, none⟩ = some v := by
    intro k i v hk hc
    by_cases hkb : k = b
    · subst hkb
      rw [cell_heap (setRow_heap w k cs cs' ty _ hh)]
      rw [cell_heap hh] at hc
      unfold stOf at hk
      rw [if_neg hbN, hcl] at hk
      exact hkeep i v hk hc
    · rw [← hc]; exact World.cell?_of_block (w := w) (setRow_other w b k cs' hkb)
  have hne : ∀ {k : Nat} {c : Cls}, g.cls k = c → (∀ u, c ≠ .grow o u) → k ≠ b := fun {k c} h1 h2 e => by subst e; exact h2 u (h1.symm.trans hcl)
  have hsame : ∀ {k : Nat}, k ≠ b → (g.own b o' u').cls k = g.cls k ∧ (w.setRow b cs').heap[k]? = w.heap[k]? := fun {k} hk => ⟨if_neg hk, setRow_other w b k cs' hk⟩
  have hx : Ext E d g w (g.own b o' u') (w.setRow b cs') := by
    refine ⟨fun _ _ k => k, fun k i v hk _ => hst k i hk, hcell, fun k d' i v hd' _ hc => hsame (hne hc fun u2 e => ?_), by simp⟩
    cases e
    exact absurd (hd d' i rfl) (by omega)
  have hle := hx.le
  have hown : ∀ {o2 : Onr} {e2 : TypeId} {v2 : Value}, o2 ≠ o → OwnC E g w o2 e2 v2 → OwnC E (g.own b o' u') (w.setRow b cs') o2 e2 v2 := fun hno k =>
    k.le fun b2 u2 _ _ hc2 => hsame (hne hc2 fun u3 e => by cases e; exact hno rfl)
  have hrow : ∀ r k root, g.rows[r]? = some (k, root) → k ≠ b := fun r k root hr' => hne (h.rows r k root hr').2.2.1 (by simp)
  have hcr : ∀ r k root i, g.rows[r]? = some (k, root) → (w.setRow b cs').cell? ⟨k, i, none⟩ = w.cell? ⟨k, i, none⟩ := fun r k root i hr' => World.cell?_of_block (w := w) (setRow_other w b k cs' (hrow r k root hr'))
  refine ⟨hx, below_setRow h.below hN cs', by simpa using h.hN, fun k hk => ?_, h.size, fun i => relV_le hle (h.tmps i), h.lenr, ?_, h.inj, ?_, h.viaT, ?_, ?_⟩
  · have := heap_lt hh
    show (if k = b then _ else _) = _
    rw [if_neg (by simp at hk; omega)]
    exact h.fresh k (by simpa using hk)
  · intro r k root hr'
    obtain ⟨k1, k2, k3, k4⟩ := h.rows r k root hr'
    exact ⟨k1, by simpa using k2, (hsame (hrow r k root hr')).1.trans k3, k4.le hle (hsame (hrow r k root hr')).2⟩
  · intro t ht'
    obtain ⟨e, l, ex, k1, k2⟩ := h.own t ht'
    exact ⟨e, l, ex, k1, hown (fun e => ht t e.symm ht') k2⟩
  · intro t r p ht'
    obtain ⟨k1, e, l, ex, k2, b', root, ty', off, k3, k4, k5, k6⟩ := h.viaR t r p ht'
    exact ⟨k1, e, l, ex, k2, b', root, ty', off, k3, k4, k5, by rw [hcr r b' root off k3]; exact k6⟩
  · intro r p hr'
    obtain ⟨b', root, ty', off', e', v', k1, k2, k3, k4, k5⟩ := h.ro r p hr'
    exact ⟨b', root, ty', off', e', v', k1, k2, k3, by rw [hcr r b' root off' k1]; exact k4, hown (fun e => hr r p e.symm hr') k5⟩
/-- Cells that lie in a block, and are never written again. -/
theorem At_own {g : G} {w : World} {b off u : Nat} {o : Onr} {cs : Array Value} {ty : TypeId} {l : List Value} (hN : E.N ≤ b) (hcl : g.cls b = .grow o u) (hh : w.heap[b]? = some (.cells cs ty (0, 0)))
    (hl : ∀ i v, l[i]? = some v → cs[off + i]? = some v) (hu : off + l.length ≤ u) : At (xOf E g w) b off l := by
  intro i v hv
  have hi := (List.getElem?_eq_some_iff.1 hv).1
  refine ⟨?_, (cell_heap hh).trans (hl i v hv)⟩
  show stOf E g.cls b (off + i)
  unfold stOf
  rw [if_neg (by omega), hcl]
  show off + i < u
  omega
theorem relSl_append {P : Program} {x : X} {e : TypeId} {b : Nat} : ∀ {l m : List AV} {o : Nat}, relSl P x e b o l → relSl P x e b (o + l.length * P.cellsOf e) m → relSl P x e b o (l ++ m)
  | [], m, o, _, k => by simpa using k
  | v :: vs, m, o, h, k => ⟨h.1, relSl_append h.2 (by
      have : o + P.cellsOf e + vs.length * P.cellsOf e = o + (v :: vs).length * P.cellsOf e := by simp [Nat.add_mul]; omega
      rw [this]; exact k)⟩
theorem At.imm' {x : X} {b o : Nat} {cs : List Value} (h : At x b o cs) : At x.imm b o cs := h
theorem mkSlice {P : Program} {x : X} {e : TypeId} {l : List AV} {b o cap : Nat} (h : relSl P x.imm e b o l) (hc : l.length ≤ cap) : relV P x (.slice e l false) (.slice (some ⟨b, o, none⟩) l.length cap) := by
  have : rel P x (.slice e l false) [.slice (some ⟨b, o, none⟩) l.length cap] := ⟨_, _, _, rfl, rfl, hc, fun k => absurd k (by simp), .inr ⟨b, o, rfl, h⟩⟩
  exact relV_leaf this rfl
/-- In place. -/
theorem Rel.appendRoom (h : Rel E d g fr M a w) {o : Onr} (o' : Onr) {e : TypeId} {l l2 : List AV} {ex : Bool} {b off cap : Nat} {cs : Array Value} {ty : TypeId} {news : List Value} (hN : E.N ≤ b)
    (hcl : g.cls b = .grow o (off + l.length * E.P.cellsOf e)) (hh : w.heap[b]? = some (.cells cs ty (0, 0))) (hfit : off + cap * E.P.cellsOf e ≤ cs.size)
    (ht : ∀ t, o = .t d t → (t, TF.own) ∉ fr.tf) (hr : ∀ r p, o = .r r p → (r, p) ∉ M.ro) (hd : ∀ d' i, o = .t d' i → d ≤ d')
    (hl : l.length = 0 ∨ relSl E.P (xOf E g w).imm e b off l) (hnew : relAr E.P (xOf E g w).imm e l2 news) (hroom : l.length + l2.length ≤ cap) :
    ∃ cs' g', (storeCells ⟨b, off + l.length * E.P.cellsOf e, none⟩ news).run E.P w = .ok () (w.setRow b cs') ∧ Ext E d g w g' (w.setRow b cs') ∧ Rel E d g' fr M a (w.setRow b cs') ∧
      relV E.P (xOf E g' (w.setRow b cs')) (.slice e (l ++ l2) false) (.slice (some ⟨b, off, none⟩) (l.length + l2.length) cap) ∧
      OwnC E g' (w.setRow b cs') o' e (.slice (some ⟨b, off, none⟩) (l.length + l2.length) cap) := by
  have hnl := relAr_len hnew
  have hmul : (l.length + l2.length) * E.P.cellsOf e ≤ cap * E.P.cellsOf e := Nat.mul_le_mul_right _ hroom
  rw [Nat.add_mul] at hmul
  have hst := run_storeCells_at E.P b (off + l.length * E.P.cellsOf e) ty news 0 cs w hh (by omega) (oneCell_ar l2 hnew)
  simp only [Nat.add_zero] at hst
  generalize hcs' : (cs.toList.take (off + l.length * E.P.cellsOf e) ++ news ++ cs.toList.drop (off + l.length * E.P.cellsOf e + news.length)).toArray = cs' at hst
  have hlt : (cs.toList.take (off + l.length * E.P.cellsOf e)).length = off + l.length * E.P.cellsOf e := by simp; omega
  have hnews : ∀ i v, news[i]? = some v → cs'[off + l.length * E.P.cellsOf e + i]? = some v := fun i v hv => by
    have hi := (List.getElem?_eq_some_iff.1 hv).1
    subst hcs'
    rw [List.getElem?_toArray, List.append_assoc, List.getElem?_append_right (by omega), hlt, Nat.add_sub_cancel_left, List.getElem?_append_left hi]
    exact hv
  have hkeep : ∀ i v, i < off + l.length * E.P.cellsOf e → cs[i]? = some v → cs'[i]? = some v := fun i v hi hv => by
    subst hcs'
    rw [List.getElem?_toArray, List.append_assoc, List.getElem?_append_left (by omega), List.getElem?_take, if_pos hi]
    simpa using hv
  obtain ⟨hx, hrel⟩ := h.growTo o' (u' := off + (l.length + l2.length) * E.P.cellsOf e) (cs' := cs') hN hcl hh (by rw [Nat.add_mul]; omega) hkeep ht hr hd
  have hle := hx.le
  have hh' := setRow_heap w b cs cs' ty _ hh
  refine ⟨cs', _, hst, hx, hrel, ?_, ⟨_, _, cap, rfl, .inr ⟨b, off, cs', ty, rfl, hN, if_pos rfl, hh', ?_⟩⟩⟩
  · have hsl : relSl E.P (xOf E (g.own b o' (off + (l.length + l2.length) * E.P.cellsOf e)) (w.setRow b cs')).imm e b off (l ++ l2) := by
      refine relSl_append ?_ ?_
      · rcases hl with hl | hl
        · rw [List.eq_nil_of_length_eq_zero hl]; trivial
        · exact relSl_le hle.imm e b off l hl
      · refine relSl_of (relAr_le hle.imm e l2 news hnew) (At.imm' ?_)
        exact At_own hN (if_pos rfl) hh' hnews (by rw [hnl, Nat.add_mul]; omega)
    have := mkSlice (cap := cap) hsl (by simpa using hroom)
    simpa using this
  · subst hcs'
    simp
    omega
/-- To a new block. -/
theorem Rel.appendNew (h : Rel E d g fr M a w) (o' : Onr) {e : TypeId} {l l2 : List AV} {cap : Nat} {olds news rest : List Value} {wd : World} (hwd : Below w.heap.size w wd) (hwh : wd.heap = w.heap)
    (hold : relAr E.P (xOf E g w).imm e l olds) (hnew : relAr E.P (xOf E g w).imm e l2 news) (hcap : l.length + l2.length ≤ cap) (hrest : rest.length = (cap - (l.length + l2.length)) * E.P.cellsOf e) :
    let w' := wd.alloc (.cells (olds ++ news ++ rest).toArray e)
    ∃ g', Ext E d g w g' w' ∧ Rel E d g' fr M a w' ∧
      relV E.P (xOf E g' w') (.slice e (l ++ l2) false) (.slice (some ⟨w.heap.size, 0, none⟩) (l.length + l2.length) cap) ∧
      OwnC E g' w' o' e (.slice (some ⟨w.heap.size, 0, none⟩) (l.length + l2.length) cap) := by
  intro w'
  have hbel : Below w.heap.size w w' := hwd.trans ((Below.refl w.heap.size wd).alloc (by rw [hwh]; omega) _)
  have h1 := h.grown hbel
  have hget : w'.heap[w.heap.size]? = some (.cells (olds ++ news ++ rest).toArray e) := by
    have := alloc_get wd (.cells (olds ++ news ++ rest).toArray e)
    rw [hwh] at this
    exact this
  have hsz : w'.heap.size = w.heap.size + 1 := by show (wd.alloc _).heap.size = _; rw [alloc_size, hwh]
  have hlt : ∀ {k}, k < w.heap.size → (g.own w.heap.size o' ((l.length + l2.length) * E.P.cellsOf e)).cls k = g.cls k := fun {k} hk => if_neg (by omega)
  have hcell : ∀ b o v, w.cell? ⟨b, o, none⟩ = some v → w'.cell? ⟨b, o, none⟩ = some v := fun b o v hc => (hbel.cell (p := ⟨b, o, none⟩) (cell_lt hc)).trans hc
  have hx : Ext E d g w (g.own w.heap.size o' ((l.length + l2.length) * E.P.cellsOf e)) w' :=
    ⟨fun _ _ k => k, fun b o v hs hc => stOf_eq (hlt (cell_lt hc)) hs, fun b o v _ hc => hcell b o v hc, fun b d' i u _ hb _ => ⟨hlt hb, hbel.block b hb⟩, hbel.size⟩
  have hle := hx.le
  have hown : ∀ {o2 : Onr} {e2 : TypeId} {v2 : Value}, OwnC E g w o2 e2 v2 → OwnC E (g.own w.heap.size o' ((l.length + l2.length) * E.P.cellsOf e)) w' o2 e2 v2 := fun k => k.le fun b2 u2 _ hb _ => ⟨hlt hb, hbel.block b2 hb⟩
  have ho := relAr_len hold
  have hn := relAr_len hnew
  refine ⟨_, hx, ⟨h1.below, h1.hN, fun k hk => ?_, h.size, fun i => relV_le hle (h.tmps i), h.lenr, ?_, h.inj, ?_, h.viaT, ?_, ?_⟩, ?_, ⟨_, _, cap, rfl, .inr ⟨w.heap.size, 0, (olds ++ news ++ rest).toArray, e, rfl, h.hN, ?_, hget, ?_⟩⟩⟩
  · show (if k = w.heap.size then _ else _) = _
    rw [if_neg (by omega)]
    exact h.fresh k (by omega)
  · intro r k root hr'
    obtain ⟨k1, k2, k3, k4⟩ := h.rows r k root hr'
    exact ⟨k1, by omega, (hlt k2).trans k3, k4.le hle (hbel.block k k2)⟩
  · intro t ht'
    obtain ⟨e, l, ex, k1, k2⟩ := h.own t ht'
    exact ⟨e, l, ex, k1, hown k2⟩
  · intro t r p ht'
    obtain ⟨k1, e, l, ex, k2, b', root, ty', off, k3, k4, k5, k6⟩ := h.viaR t r p ht'
    exact ⟨k1, e, l, ex, k2, b', root, ty', off, k3, k4, k5, hcell _ _ _ k6⟩
  · intro r p hr'
    obtain ⟨b', root, ty', off', e', v', k1, k2, k3, k4, k5⟩ := h.ro r p hr'
    exact ⟨b', root, ty', off', e', v', k1, k2, k3, hcell _ _ _ k4, hown k5⟩
  · have hsl : relSl E.P (xOf E (g.own w.heap.size o' ((l.length + l2.length) * E.P.cellsOf e)) w').imm e w.heap.size 0 (l ++ l2) := by
      refine relSl_of (relAr_append (relAr_le hle.imm e l olds hold) (relAr_le hle.imm e l2 news hnew)) (At.imm' ?_)
      refine At_own h.hN (if_pos rfl) hget (fun i v hv => ?_) (by simp only [List.length_append, ho, hn, Nat.add_mul]; omega)
      rw [List.getElem?_toArray, Nat.zero_add, List.getElem?_append_left (List.getElem?_eq_some_iff.1 hv).1]
      exact hv
    have := mkSlice (cap := cap) hsl (by simpa using hcap)
    simpa using this
  · show (if w.heap.size = w.heap.size then _ else _) = _
    rw [if_pos rfl, Nat.zero_add]
  · have hmul : (l.length + l2.length) * E.P.cellsOf e + (cap - (l.length + l2.length)) * E.P.cellsOf e = cap * E.P.cellsOf e := by rw [← Nat.add_mul]; congr 1; omega
    rw [Nat.add_mul] at hmul
    simp only [List.size_toArray, List.length_append, ho, hn, hrest]
    omega
end
end Go.AE
