/- Stores to rows, and loads of what a row may append to. -/
import Derived.Test.YtglfkdbfiipjjaaEv15
import Derived.Laws.CopyOwn
set_option linter.unusedVariables false
set_option linter.unusedSimpArgs false
namespace Go.AE
open Go.RowKit Go.Lib
section
variable {E : Env} {d : Nat} {g : G} {fr : Fr} {M : Mm} {a : Act} {w : World}

theorem like_symm {P : Program} {t u : TypeId} (h : likeT P t u = true) : likeT P u t = true := by
  simp only [likeT, Bool.and_eq_true] at h ⊢
  rw [Nat.eq_of_beq_eq_true h.1, Nat.eq_of_beq_eq_true h.2]
  simp
theorem mem_dropViaR {r : Nat} {p : List Nat} {x : Nat × TF} {tf : List (Nat × TF)} (h : x ∈ dropViaR r p tf) : x ∈ tf ∧ ∀ r' q, x.2 = .viaR r' q → r' ≠ r ∨ apart q p = true := by
  simp only [dropViaR, List.mem_filter] at h
  refine ⟨h.1, fun r' q e => ?_⟩
  have := h.2
  rw [e] at this
  simp only [Bool.or_eq_true, Bool.not_eq_true'] at this
  rcases this with k | k
  · exact .inl fun e => by subst e; simp at k
  · exact .inr k
theorem mem_dropR {r : Nat} {p : List Nat} {x : Nat × List Nat} {ro : List (Nat × List Nat)} : x ∈ dropR r p ro ↔ x ∈ ro ∧ (x.1 ≠ r ∨ apart x.2 p = true) := by
  simp only [dropR, List.mem_filter, Bool.or_eq_true, Bool.not_eq_true']
  refine and_congr_right fun _ => or_congr_left ⟨fun k e => by rw [e] at k; simp at k, fun k => ?_⟩
  cases hb : Nat.beq x.1 r with
  | false => rfl
  | true => exact absurd (Nat.eq_of_beq_eq_true hb) k
theorem mem_dropViaR_of {r : Nat} {p : List Nat} {t : Nat} {f : TF} {tf : List (Nat × TF)} (h : (t, f) ∈ tf) (hf : ∀ r' q, f ≠ .viaR r' q) : (t, f) ∈ dropViaR r p tf := by
  simp only [dropViaR, List.mem_filter]
  refine ⟨h, ?_⟩
  cases f with
  | viaR r' q => exact absurd rfl (hf r' q)
  | _ => trivial
theorem rowOK_of {P : Program} {x : X} {b : Nat} {root : Root} {row : Row} {cs : Array Value} {ty : TypeId} (h1 : x.w.heap[b]? = some (.cells cs ty (0, 0))) (h2 : RowC P x root row cs.toList) : RowOK P x b root row := by
  cases row with
  | map => exact h2.elim
  | var t v => exact ⟨cs, ty, h1, h2⟩
  | arr e l => exact ⟨cs, ty, h1, h2⟩
theorem ext_setRow (h : Rel E d g fr M a w) {r b : Nat} {root : Root} (hr : g.rows[r]? = some (b, root)) (cs' : Array Value) : Ext E d g w g (w.setRow b cs') := by
  obtain ⟨k1, k2, k3, k4⟩ := h.rows r b root hr
  refine ⟨fun _ _ k => k, fun _ _ _ k _ => k, fun b' o v hs hc => ?_, fun b' d' i u _ _ hc => ⟨rfl, setRow_other w b b' cs' fun e => ?_⟩, by simp⟩
  · have hne : b' ≠ b := fun e => by
      subst e
      unfold stOf at hs
      rw [if_neg (by show ¬ b' < E.N; omega), k3] at hs
      exact hs
    rw [← hc]
    exact World.cell?_of_block (w := w) (setRow_other w b b' cs' hne)
  · subst e; rw [k3] at hc; cases hc
theorem own_setRow (h : Rel E d g fr M a w) {r b : Nat} {root : Root} (hr : g.rows[r]? = some (b, root)) (cs' : Array Value) {o : Onr} {e : TypeId} {v : Value} (ho : OwnC E g w o e v) : OwnC E g (w.setRow b cs') o e v := by
  obtain ⟨k1, k2, k3, k4⟩ := h.rows r b root hr
  exact ho.le fun b2 u _ _ hc => ⟨rfl, setRow_other w b b2 cs' fun e => by subst e; rw [k3] at hc; cases hc⟩
/-- A row's cells are written. -/
theorem Rel.setRow (h : Rel E d g fr M a w) {r b : Nat} {root : Root} (hr : g.rows[r]? = some (b, root)) {cur cs' : Array Value} {ty : TypeId} (hh : w.heap[b]? = some (.cells cur ty (0, 0))) {row' : Row}
    (hrow : RowC E.P (xOf E g w) root row' cs'.toList) (p : List Nat)
    (hkeep : ∀ q ty off e v, (r, q) ∈ M.ro → apart q p = true → PathR E.P root q ty off → E.P.underlying ty = some (.slice e) → cur[off]? = some v → cs'[off]? = some v) :
    Rel E d g { fr with tf := dropViaR r p fr.tf } { rows := M.rows.set r row', ro := dropR r p M.ro } a (w.setRow b cs') := by
  obtain ⟨k1, k2, k3, k4⟩ := h.rows r b root hr
  have hx := ext_setRow h hr cs'
  have hle := hx.le
  have hlt : r < M.rows.length := by rw [← h.lenr]; exact (List.getElem?_eq_some_iff.1 hr).1
  have hcellb : ∀ o, w.cell? ⟨b, o, none⟩ = cur[o]? := fun o => cell_heap hh
  have hcellb' : ∀ o, (w.setRow b cs').cell? ⟨b, o, none⟩ = cs'[o]? := fun o => cell_heap (setRow_heap w b cur cs' ty _ hh)
  have hcell : ∀ b' o, b' ≠ b → (w.setRow b cs').cell? ⟨b', o, none⟩ = w.cell? ⟨b', o, none⟩ := fun b' o hne => World.cell?_of_block (w := w) (setRow_other w b b' cs' hne)
  have hcell2 : ∀ r' q b' root' ty' off e v, (r', q) ∈ M.ro → (r' ≠ r ∨ apart q p = true) → g.rows[r']? = some (b', root') → PathR E.P root' q ty' off → E.P.underlying ty' = some (.slice e) → w.cell? ⟨b', off, none⟩ = some v → (w.setRow b cs').cell? ⟨b', off, none⟩ = some v := by
    intro r' q b' root' ty' off e v hro hor hr' hp hu hc
    by_cases hb : b' = b
    · subst hb
      have := h.inj r r' b' _ _ hr hr'
      subst this
      rw [hr] at hr'
      simp only [Option.some.injEq, Prod.mk.injEq, true_and] at hr'
      subst hr'
      rw [hcellb'] 
      rw [hcellb] at hc
      exact hkeep q ty' off e v hro (hor.resolve_left fun k => k rfl) hp hu hc
    · rw [hcell b' off hb]; exact hc
  refine ⟨below_setRow h.below k1 cs', by simpa using h.hN, fun k hk => h.fresh k (by simpa using hk), h.size, fun i => relV_le hle (h.tmps i), by simpa using h.lenr, ?_, h.inj, ?_, ?_, ?_, ?_⟩
  · intro r' b' root' hr'
    obtain ⟨m1, m2, m3, m4⟩ := h.rows r' b' root' hr'
    refine ⟨m1, by simpa using m2, m3, ?_⟩
    by_cases hrr : r' = r
    · subst hrr
      rw [hr] at hr'
      simp only [Option.some.injEq, Prod.mk.injEq] at hr'
      obtain ⟨rfl, rfl⟩ := hr'
      have : (M.rows.set r' row').getD r' (.arr 0 []) = row' := by simp [List.getD, hlt]
      rw [this]
      exact rowOK_of (setRow_heap w b cur cs' ty _ hh) (hrow.le hle)
    · have hne : b' ≠ b := fun e => hrr (h.inj r' r b _ _ (e ▸ hr') hr)
      have : (M.rows.set r row').getD r' (.arr 0 []) = M.rows.getD r' (.arr 0 []) := by simp [List.getD, List.getElem?_set_ne (Ne.symm hrr)]
      rw [this]
      exact m4.le hle (setRow_other w b b' cs' hne)
  · intro t ht
    obtain ⟨e, l, ex, m1, m2⟩ := h.own t (mem_dropViaR ht).1
    exact ⟨e, l, ex, m1, own_setRow h hr cs' m2⟩
  · intro t s ht
    obtain ⟨m1, m2⟩ := h.viaT t s (mem_dropViaR ht).1
    exact ⟨mem_dropViaR_of m1 (by simp), m2⟩
  · intro t r' q ht
    obtain ⟨m0, m1⟩ := mem_dropViaR ht
    have hor := m1 r' q rfl
    obtain ⟨n1, e, l, ex, n2, b', root', ty', off, n3, n4, n5, n6⟩ := h.viaR t r' q m0
    exact ⟨mem_dropR.2 ⟨n1, hor⟩, e, l, ex, n2, b', root', ty', off, n3, n4, n5, hcell2 r' q b' root' ty' off e _ n1 hor n3 n4 n5 n6⟩
  · intro r' q ht
    obtain ⟨n1, hor⟩ := mem_dropR.1 ht
    obtain ⟨b', root', ty', off, e, v, n3, n4, n5, n6, n7⟩ := h.ro r' q n1
    exact ⟨b', root', ty', off, e, v, n3, n4, n5, hcell2 r' q b' root' ty' off e v n1 hor n3 n4 n5 n6, own_setRow h hr cs' n7⟩
theorem Rel.addRo (h : Rel E d g fr M a w) {r : Nat} {p : List Nat} {b : Nat} {root : Root} {ty : TypeId} {off : Nat} {e : TypeId} {v : Value} (h1 : g.rows[r]? = some (b, root)) (h2 : PathR E.P root p ty off)
    (h3 : E.P.underlying ty = some (.slice e)) (h4 : w.cell? ⟨b, off, none⟩ = some v) (h5 : OwnC E g w (.r r p) e v) : Rel E d g fr { M with ro := (r, p) :: M.ro } a w := by
  refine ⟨h.below, h.hN, h.fresh, h.size, h.tmps, h.lenr, h.rows, h.inj, h.own, h.viaT, fun t r' q ht => ?_, fun r' q ht => ?_⟩
  · obtain ⟨k1, k2⟩ := h.viaR t r' q ht
    exact ⟨List.mem_cons_of_mem _ k1, k2⟩
  · rcases List.mem_cons.1 ht with ht | ht
    · cases ht; exact ⟨b, root, ty, off, e, v, h1, h2, h3, h4, h5⟩
    · exact h.ro r' q ht
/-- A store. -/
theorem storeCore (h : Rel E d g fr M a w) {r : Nat} {p : List Nat} {t' t : TypeId} {off : Nat} {ca c : Value} {v : AV} (hp : relV E.P (xOf E g w) (.ptr r p t' off) ca) (hv : relV E.P (xOf E g w) v c)
    (hl : likeT E.P t' t = true) (hf : fits E.P t v = true) :
    ∃ b root w', (Instr.storeAt t ca c).run E.P w = .ok () w' ∧ Ext E d g w g w' ∧
      Rel E d g { fr with tf := dropViaR r p fr.tf } { rows := M.rows.set r ((M.rows.getD r (.arr 0 [])).put p v), ro := dropR r p M.ro } a w' ∧
      g.rows[r]? = some (b, root) ∧ PathR E.P root p t' off ∧ (v.isA = false → w'.cell? ⟨b, off, none⟩ = some c) ∧ (∀ o e u, OwnC E g w o e u → OwnC E g w' o e u) := by
  obtain ⟨b, root, h1, h2, rfl⟩ := relV_ptr hp
  obtain ⟨k1, k2, k3, k4⟩ := h.rows r b root h1
  obtain ⟨cur, ty, hh, hrc⟩ := rowOK_cells k4 h2
  obtain ⟨pre, cold, post, e1, e2, e3, e4, e5, e6⟩ := rowC_path hrc h2
  obtain ⟨cn, rfl, hr, hone⟩ := hv
  have hf' : fits E.P t' v = true := fits_like (like_symm hl) hf
  have hlen : cn.length = E.P.cellsOf t' := fits_len hf' hr fun hA => one_of e5 e3 e4 hA
  have hcm := cells_mkV hf hr
  obtain ⟨dd, hu⟩ := fits_under hf
  have hsz := run_sizeOf' (w := w) hu
  have hst := run_storeCells_at E.P b off ty cn 0 cur w hh (by rw [← Array.length_toList, e1]; simp [e2, hlen, e4]) (oneCell_rel v hf hr)
  have hcs : (cur.toList.take (off + 0) ++ cn ++ cur.toList.drop (off + 0 + cn.length)) = pre ++ cn ++ post := by
    rw [e1, Nat.add_zero, ← e2, hlen, ← e4]
    simp
  rw [hcs] at hst
  refine ⟨b, root, w.setRow b (pre ++ cn ++ post).toArray, ?_, ext_setRow h h1 _, ?_, h1, h2, ?_, fun o e u k => own_setRow h h1 _ k⟩
  · simp only [Instr.storeAt, Instr.sureAddr, Sem.run_bind, Sem.run_pure, Result.andThen_ok, storeVar, hsz, hcm]
    rw [if_neg (by simp [hlen, like_cells hl])]
    simpa using hst
  · refine h.setRow h1 hh (by simpa using e6 v cn hr hlen hf') p ?_
    intro q ty2 off2 e u hro hap hq hu2 hcu
    obtain ⟨_, hdis⟩ := rowC_apart hrc h2 hq hap v
    obtain ⟨pre2, c2, post2, m1, m2, m3, m4, m5, _⟩ := rowC_path hrc hq
    have hc1 : E.P.cellsOf ty2 = 1 := one_of m5 m3 m4 (by simp [tyA, hu2])
    rw [hc1] at hdis
    rw [← Array.getElem?_toList, e1] at hcu
    simp only [List.getElem?_toArray]
    rw [List.append_assoc] at hcu ⊢
    rcases hdis with hd1 | hd1
    · rw [List.getElem?_append_left (by omega)] at hcu ⊢
      exact hcu
    · rw [List.getElem?_append_right (by omega), List.getElem?_append_right (by omega)] at hcu ⊢
      rw [hlen, ← e4]
      exact hcu
  · intro hA
    have h1' := hone hA
    rw [cell_heap (setRow_heap w b cur _ ty _ hh)]
    match cn, h1' with
    | [u], _ =>
      simp only [hA, mkV, List.headD_cons, List.getElem?_toArray, Bool.false_eq_true, if_false]
      rw [List.append_assoc, List.getElem?_append_right (by omega), e2, Nat.sub_self]
      rfl
theorem relV_sliceTy {P : Program} {t e : TypeId} {l : List AV} {ex : Bool} (h : fits P t (.slice e l ex) = true) : P.underlying t = some (.slice e) := by
  simp only [fits, leafOK, Bool.and_eq_true] at h
  have := h.1
  split at this
  · rename_i e' hu; rw [Nat.eq_of_beq_eq_true this]; exact hu
  · exact absurd this (by simp)
end
end Go.AE
