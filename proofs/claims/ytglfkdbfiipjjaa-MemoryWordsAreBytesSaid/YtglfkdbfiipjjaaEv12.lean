/- Operations on values: literals of structs, arrays and slices; assertions. -/
import Derived.Test.YtglfkdbfiipjjaaEv11
set_option linter.unusedVariables false
set_option linter.unusedSimpArgs false
namespace Go.AE
open Go.RowKit Go.Lib
section
variable {P : Program} {rows : List (Nat × Root)} {st : Nat → Nat → Prop} {w : World}

theorem cells_mkV {x : X} {t : TypeId} {a : AV} {c : List Value} (hf : fits P t a = true) (hr : rel P x a c) : (mkV a.isA c).cells = c.toArray := by
  cases a with
  | agg u ps => rfl
  | dead => simp [fits, leafOK] at hf
  | tuple vs => simp [fits, leafOK] at hf
  | bool b => simp only [rel] at hr; subst hr; rfl
  | int k n => simp only [rel] at hr; subst hr; rfl
  | str s => simp only [rel] at hr; subst hr; rfl
  | nilp => simp only [rel] at hr; subst hr; rfl
  | nilf => simp only [rel] at hr; subst hr; rfl
  | nili => simp only [rel] at hr; subst hr; rfl
  | ptr r p t off => obtain ⟨b, root, h1, h2, rfl⟩ := hr; rfl
  | rptr t v => obtain ⟨b, o, c, rfl, _⟩ := hr; rfl
  | slice e l ex => obtain ⟨base, len, cap, rfl, _⟩ := hr; rfl
  | msl r p e off coff len => obtain ⟨_, b, root, n, o0, h1, h2, h3, h4, base, cap, h5, rfl, _⟩ := hr; rfl
  | mapv r =>
    cases r with
    | none => simp only [rel] at hr; subst hr; rfl
    | some r => obtain ⟨b, k, e, h1, rfl⟩ := hr; rfl
  | func fn a b => obtain ⟨a, b, rfl, _⟩ := hr; rfl
  | iface t v => obtain ⟨c, h1, h2, h3, rfl⟩ := hr; rfl
/-- The cells of a value that a variable of its type may hold are cells of one value each. -/
theorem oneCell_leaf {x : X} {t : TypeId} {a : AV} {c : List Value} (hA : a.isA = false) (hf : fits P t a = true) (hr : rel P x a c) : ∀ u ∈ c, u.oneCell' = true := by
  cases a with
  | agg u ps => simp [AV.isA] at hA
  | dead => simp [fits, leafOK] at hf
  | tuple vs => simp [fits, leafOK] at hf
  | bool b => simp only [rel] at hr; subst hr; simp [Value.oneCell']
  | int k n => simp only [rel] at hr; subst hr; simp [Value.oneCell']
  | str s => simp only [rel] at hr; subst hr; simp [Value.oneCell']
  | nilp => simp only [rel] at hr; subst hr; simp [Value.oneCell']
  | nilf => simp only [rel] at hr; subst hr; simp [Value.oneCell']
  | nili => simp only [rel] at hr; subst hr; simp [Value.oneCell']
  | ptr r p t off => obtain ⟨b, root, h1, h2, rfl⟩ := hr; simp [Value.oneCell']
  | rptr t v => obtain ⟨b, o, c, rfl, _⟩ := hr; simp [Value.oneCell']
  | slice e l ex => obtain ⟨base, len, cap, rfl, _⟩ := hr; simp [Value.oneCell']
  | msl r p e off coff len => obtain ⟨_, b, root, n, o0, h1, h2, h3, h4, base, cap, h5, rfl, _⟩ := hr; simp [Value.oneCell']
  | mapv r =>
    cases r with
    | none => simp only [rel] at hr; subst hr; simp [Value.oneCell']
    | some r => obtain ⟨b, k, e, h1, rfl⟩ := hr; simp [Value.oneCell']
  | func fn a b => obtain ⟨a, b, rfl, _⟩ := hr; simp [Value.oneCell']
  | iface t v => obtain ⟨c, h1, h2, h3, rfl⟩ := hr; simp [Value.oneCell']
mutual
theorem oneCell_rel {x : X} : ∀ (a : AV) {t : TypeId} {c : List Value}, fits P t a = true → rel P x a c → ∀ u ∈ c, u.oneCell' = true
  | .agg s ps, t, c, hf, hr => by
    unfold rel at hr
    replace hr := hr.2
    split at hr
    · exact oneCell_st ps hr
    · exact oneCell_ar ps hr.2
    · exact hr.elim
  | .dead, t, c, hf, hr => oneCell_leaf rfl hf hr
  | .bool _, t, c, hf, hr => oneCell_leaf rfl hf hr
  | .int _ _, t, c, hf, hr => oneCell_leaf rfl hf hr
  | .str _, t, c, hf, hr => oneCell_leaf rfl hf hr
  | .nilp, t, c, hf, hr => oneCell_leaf rfl hf hr
  | .ptr _ _ _ _, t, c, hf, hr => oneCell_leaf rfl hf hr
  | .rptr _ _, t, c, hf, hr => oneCell_leaf rfl hf hr
  | .slice _ _ _, t, c, hf, hr => oneCell_leaf rfl hf hr
  | .msl _ _ _ _ _ _, t, c, hf, hr => oneCell_leaf rfl hf hr
  | .mapv _, t, c, hf, hr => oneCell_leaf rfl hf hr
  | .func _ _ _, t, c, hf, hr => oneCell_leaf rfl hf hr
  | .nilf, t, c, hf, hr => oneCell_leaf rfl hf hr
  | .iface _ _, t, c, hf, hr => oneCell_leaf rfl hf hr
  | .nili, t, c, hf, hr => oneCell_leaf rfl hf hr
  | .tuple _, t, c, hf, hr => oneCell_leaf rfl hf hr
theorem oneCell_st {x : X} : ∀ (ps : List AV) {ts : List TypeId} {c : List Value}, relSt P x ts ps c → ∀ u ∈ c, u.oneCell' = true
  | [], [], c, h => by simp only [relSt] at h; subst h; simp
  | [], _ :: _, c, h => h.elim
  | _ :: _, [], c, h => h.elim
  | p :: ps, t :: ts, c, h => by
    obtain ⟨c1, r, rfl, h1, h2, h3, h4⟩ := h
    intro u hu
    rcases List.mem_append.1 hu with hu | hu
    · exact oneCell_rel p h3 h1 u hu
    · exact oneCell_st ps h4 u hu
theorem oneCell_ar {x : X} : ∀ (ps : List AV) {e : TypeId} {c : List Value}, relAr P x e ps c → ∀ u ∈ c, u.oneCell' = true
  | [], e, c, h => by simp only [relAr] at h; subst h; simp
  | p :: ps, e, c, h => by
    obtain ⟨c1, r, rfl, h1, h2, h3, h4⟩ := h
    intro u hu
    rcases List.mem_append.1 hu with hu | hu
    · exact oneCell_rel p h3 h1 u hu
    · exact oneCell_ar ps h4 u hu
end

theorem run_zeroV {t : TypeId} (h : zero P t ≠ .dead) {x : X} : ∃ z, (zeroValue t).run P w = .ok z w ∧ relV P x (zero P t) z := by
  unfold zero at h ⊢
  split at h
  · rename_i i hi
    split at h
    · rename_i z hz
      exact ⟨z, by simp [zeroValue, typeInfo, hi, hz], ofVal_rel t z⟩
    · exact absurd rfl h
  · exact absurd rfl h
theorem splice_list : ∀ (c : List Value) (k off : Nat) (cells : Array Value) (pre old post : List Value), cells.toList = pre ++ old ++ post → old.length = c.length → pre.length = off + k →
    ((c.zipIdx k).foldl (fun cs (p : Value × Nat) => cs.setIfInBounds (off + p.2) p.1) cells).toList = pre ++ c ++ post
  | [], k, off, cells, pre, old, post, h, hl, _ => by
    have : old = [] := List.eq_nil_of_length_eq_zero (by simpa using hl)
    subst this
    simpa using h
  | v :: c, k, off, cells, pre, old, post, h, hl, hp => by
    match old, hl with
    | o :: old, hl =>
      simp only [List.zipIdx_cons, List.foldl_cons]
      rw [splice_list c (k + 1) off _ (pre ++ [v]) old post ?_ (by simpa using hl) (by simp; omega)]
      · simp
      · rw [Array.toList_setIfInBounds, h, ← hp]
        simp
theorem splice_cells {c : List Value} {off : Nat} {cells : Array Value} {pre old post : List Value} (h : cells.toList = pre ++ old ++ post) (hl : old.length = c.length) (hp : pre.length = off) :
    (c.toArray.zipIdx.foldl (fun cs (p : Value × Nat) => cs.setIfInBounds (off + p.2) p.1) cells).toList = pre ++ c ++ post := by
  rw [← Array.foldl_toList, Array.toList_zipIdx]
  exact splice_list c 0 off cells pre old post h hl (by simpa using hp)
/-- The pairs of a literal. -/
def relPs (P : Program) (x : X) : List (Nat × AV) → List (Nat × Value) → Prop
  | [], [] => True
  | (i, a) :: as, (j, v) :: vs => i = j ∧ relV P x a v ∧ relPs P x as vs
  | _, _ => False
theorem fill_rel {x : X} {t : TypeId} (place : Nat → Option (Nat × Nat)) (R : List AV → List Value → Prop)
    (hstep : ∀ (ps : List AV) (cs : List Value) (i : Nat), R ps cs → i < ps.length → ∃ pre old post, cs = pre ++ old ++ post ∧ place i = some (pre.length, old.length) ∧
      ∀ a c, fits P (partsT P t i) a = true → rel P x a c → c.length = old.length ∧ R (ps.set i a) (pre ++ c ++ post)) :
    ∀ (parts : List (Nat × AV)) (cparts : List (Nat × Value)) (ps ps' : List AV) (cells : Array Value), R ps cells.toList → fillAt parts ps = some ps' → fitsParts P t parts = true → relPs P x parts cparts →
      ∃ cells', Instr.fill place cells cparts = some cells' ∧ R ps' cells'.toList
  | [], [], ps, ps', cells, hR, hf, _, _ => by
    simp only [fillAt, Option.some.injEq] at hf
    subst hf
    exact ⟨cells, rfl, hR⟩
  | [], _ :: _, ps, ps', cells, _, _, _, h => h.elim
  | _ :: _, [], ps, ps', cells, _, _, _, h => h.elim
  | (i, a) :: parts, (j, v) :: cparts, ps, ps', cells, hR, hf, hfit, hp => by
    obtain ⟨rfl, hv, hp⟩ := hp
    simp only [fillAt] at hf
    simp only [fitsParts, Bool.and_eq_true] at hfit
    split at hf
    · rename_i hlt
      obtain ⟨pre, old, post, h1, h2, h3⟩ := hstep ps cells.toList i hR (Nat.blt_eq.mp hlt)
      obtain ⟨c, rfl, hr, _⟩ := hv
      obtain ⟨h4, h5⟩ := h3 a c hfit.1 hr
      have hc := cells_mkV hfit.1 hr
      have hs := splice_cells (c := c) h1 h4.symm rfl
      obtain ⟨cells', e1, e2⟩ := fill_rel place R hstep parts cparts (ps.set i a) ps' _ (by rw [hs]; exact h5) hf hfit.2 hp
      refine ⟨cells', ?_, e2⟩
      simp only [Instr.fill, h2, hc]
      have hsz : cells.size = pre.length + old.length + post.length := by rw [← Array.length_toList, h1]; simp [Nat.add_assoc]
      rw [if_neg]
      · exact e1
      · simp only [List.size_toArray, ne_eq, gt_iff_lt, Bool.or_eq_true, decide_eq_true_eq, not_or, Decidable.not_not]
        omega
    · exact absurd hf (by simp)
theorem partsT_struct {t : TypeId} {fs : Array Field} (hu : P.underlying t = some (.struct fs)) {i : Nat} {f : Field} (h : fs[i]? = some f) : partsT P t i = f.type := by simp [partsT, hu, h]
/-- The cells of a value that fits are as many as the type's, where one leaf is one cell. -/
theorem fits_len {x : X} {t : TypeId} {a : AV} {c : List Value} (hf : fits P t a = true) (hr : rel P x a c) (h1 : tyA P t = false → P.cellsOf t = 1) : c.length = P.cellsOf t := by
  have hA := fits_isA hf
  cases a with
  | agg u ps => rw [rel_aggLen hr, like_cells (tyA_agg hf).1]
  | _ => rw [fits_one hf hr rfl, h1 (by rw [← hA]; rfl)]
theorem offsGo_at : ∀ (fs : List Field) (o : Nat), offsGo P o fs = true → ∀ (i : Nat) (f : Field), fs[i]? = some f → f.offset = o + (((fs.map (·.type)).take i).map P.cellsOf).sum
  | [], o, h, i, f, hf => by simp at hf
  | g :: fs, o, h, 0, f, hf => by
    simp only [List.getElem?_cons_zero, Option.some.injEq] at hf
    subst hf
    simp only [offsGo, Bool.and_eq_true] at h
    simpa using Nat.eq_of_beq_eq_true h.1
  | g :: fs, o, h, i + 1, f, hf => by
    simp only [offsGo, Bool.and_eq_true] at h
    have := offsGo_at fs _ h.2 i f (by simpa using hf)
    rw [this]
    simp
    omega

theorem run_mapM_places : ∀ (fs : List Field), (∀ f ∈ fs, ∃ i, P.info? f.type = some i) → (fs.mapM fun f => do pure (f.offset, ← sizeOf f.type) : Sem (List (Nat × Nat))).run P w = .ok (fs.map fun f => (f.offset, P.cellsOf f.type)) w
  | [], _ => by simp
  | f :: fs, h => by
    obtain ⟨i, hi⟩ := h f (by simp)
    have ih := run_mapM_places fs (fun g hg => h g (by simp [hg]))
    simp only [List.mapM_cons, Sem.run_bind, run_sizeOf w hi, Result.andThen_ok, Sem.run_pure, ih, List.map_cons]
theorem relSt_fits {x : X} : ∀ {ts : List TypeId} {ps : List AV} {cs : List Value}, relSt P x ts ps cs → ps.length = ts.length ∧ ∀ t ∈ ts, ∃ d, P.underlying t = some d
  | [], [], _, _ => ⟨rfl, fun t ht => by simp at ht⟩
  | [], _ :: _, _, h => h.elim
  | _ :: _, [], _, h => h.elim
  | t :: ts, v :: vs, cs, h => by
    obtain ⟨c, r, rfl, h1, h2, h3, h4⟩ := h
    obtain ⟨k1, k2⟩ := relSt_fits h4
    refine ⟨by simp [k1], fun u hu => ?_⟩
    rcases List.mem_cons.1 hu with rfl | hu
    · exact fits_under h3
    · exact k2 u hu
theorem one_of {x : X} {t : TypeId} {v : AV} {c : List Value} (hf : fits P t v = true) (hr : rel P x v c) (hl : c.length = P.cellsOf t) : tyA P t = false → P.cellsOf t = 1 := by
  intro hA
  rw [← hl, fits_one hf hr (by rw [fits_isA hf, hA])]
theorem yield_buildV {t : TypeId} {parts : List (Nat × AV)} {cparts : Array (Nat × Value)} {v : AV} (h : buildV P t parts = some v) (hf : fitsParts P t parts = true) (hp : relPs P (X.mk rows st w true) parts cparts.toList) :
    Yield P rows st w (Instr.build t cparts) v := by
  unfold buildV at h
  split at h
  · rename_i u ps hz
    split at h
    · rename_i hc
      simp only [Bool.and_eq_true] at hc
      obtain ⟨ps', hfl, rfl⟩ := Option.map_eq_some_iff.1 h
      obtain ⟨z, e1, e2⟩ := run_zeroV (w := w) (x := (X.mk rows st w true)) (t := t) (by rw [hz]; simp)
      rw [hz] at e2
      obtain ⟨c0, rfl, hr⟩ := relV_agg e2
      have hlike := hc.1.2
      cases hu : P.underlying t with
      | none =>
        unfold rel at hr
        rw [like_under hlike, hu] at hr
        exact hr.2.elim
      | some d =>
        cases d with
        | struct fs =>
          obtain ⟨hl, hr⟩ := rel_struct hr ((like_under hlike).trans hu)
          have hoff : offsGo P 0 fs.toList = true := by have := hc.1.1; simpa [offsOK, hu] using this
          have hfits := relSt_fits hr
          have hm := run_mapM_places (P := P) (w := w) fs.toList (fun f hf => info_of_underlying (hfits.2 f.type (List.mem_map.2 ⟨f, hf, rfl⟩)).choose_spec)
          obtain ⟨cells', k1, k2⟩ := fill_rel (x := (X.mk rows st w true)) (t := t) (fun i => (fs.toList.map fun f => (f.offset, P.cellsOf f.type))[i]?)
            (fun ps cs => relSt P (X.mk rows st w true) (fs.toList.map (·.type)) ps cs ∧ cs.length = P.cellsOf u)
            (by
              intro ps cs i hR hi
              have hlen := (relSt_fits hR.1).1
              have hi' : i < fs.toList.length := by rw [hlen] at hi; simpa using hi
              have hfi : fs[i]? = some (fs.toList[i]'hi') := by rw [← Array.getElem?_toList, List.getElem?_eq_getElem hi']
              obtain ⟨pre, c, post, rfl, g2, g3, g4, g5, g6⟩ := relSt_get i _ hR.1 (fieldT hfi)
              refine ⟨pre, c, post, rfl, ?_, fun a c' k1 k2 => ?_⟩
              · rw [List.getElem?_map, List.getElem?_eq_getElem hi', Option.map_some, g4, g2]
                rw [offsGo_at fs.toList 0 hoff i _ (List.getElem?_eq_getElem hi')]
                simp
              · rw [partsT_struct hu hfi] at k1
                have hlc : c'.length = c.length := by rw [g4]; exact fits_len k1 k2 (one_of g5 g3 g4)
                exact ⟨hlc, g6 a c' k2 (hlc.trans g4) k1, by rw [← hR.2]; simp [hlc]⟩)
            parts cparts.toList ps ps' c0.toArray ⟨by simpa using hr, by simpa using hl⟩ hfl hf hp
          refine .of (c := .agg cells') ?_ ⟨cells'.toList, by simp [mkV, AV.isA], mk_struct ((like_under hlike).trans hu) k2.2 k2.1, by simp [AV.isA]⟩
          have hmA : (fs.mapM fun f => do pure (f.offset, ← sizeOf f.type) : Sem (Array (Nat × Nat))).run P w = .ok (fs.toList.map fun f => (f.offset, P.cellsOf f.type)).toArray w := by
            have : fs = fs.toList.toArray := by simp
            rw [this, List.mapM_toArray, Sem.run_map, hm]
            simp
          simp only [Instr.build, Sem.run_bind, e1, Result.andThen_ok, run_underlying hu, hmA]
          have : (fun (i : Nat) => (fs.toList.map fun f => (f.offset, P.cellsOf f.type)).toArray[i]?) = fun i => (fs.toList.map fun f => (f.offset, P.cellsOf f.type))[i]? := by funext i; simp
          simp only [Value.cells, this, k1, Sem.run_pure]
        | array n e =>
          obtain ⟨hl, hn, hr⟩ := rel_array hr ((like_under hlike).trans hu)
          have hes : (∃ i, P.info? e = some i) ∨ ps = [] := by
            cases ps with
            | nil => exact .inr rfl
            | cons p ps =>
              obtain ⟨c1, r1, _, g1, g2, g3, _⟩ := hr
              exact .inl (info_of_underlying (fits_under g3).choose_spec)
          obtain ⟨cells', k1, k2⟩ := fill_rel (x := (X.mk rows st w true)) (t := t) (fun i => some (i * P.cellsOf e, P.cellsOf e))
            (fun ps cs => ps.length = n ∧ relAr P (X.mk rows st w true) e ps cs ∧ cs.length = P.cellsOf u)
            (by
              intro ps cs i hR hi
              obtain ⟨pre, c, post, rfl, g2, g3, g4, g5, g6⟩ := relAr_get i hR.2.1 hi
              refine ⟨pre, c, post, rfl, by rw [g2, g4], fun a c' k1 k2 => ?_⟩
              have hpt : partsT P t i = e := by simp [partsT, hu]
              rw [hpt] at k1
              have hlc : c'.length = c.length := by rw [g4]; exact fits_len k1 k2 (one_of g5 g3 g4)
              exact ⟨hlc, by simpa using hR.1, g6 a c' k2 (hlc.trans g4) k1, by rw [← hR.2.2]; simp [hlc]⟩)
            parts cparts.toList ps ps' c0.toArray ⟨hn, by simpa using hr, by simpa using hl⟩ hfl hf hp
          rcases hes with ⟨i, hi⟩ | h0
          · refine .of (c := .agg cells') ?_ ⟨cells'.toList, by simp [mkV, AV.isA], mk_array ((like_under hlike).trans hu) k2.2.2 k2.1 k2.2.1, by simp [AV.isA]⟩
            simp only [Instr.build, Sem.run_bind, e1, Result.andThen_ok, run_underlying hu, run_sizeOf w hi, Value.cells, k1, Sem.run_pure]
          · obtain ⟨i, hi⟩ := Option.isSome_iff_exists.mp hc.2
            have : elemT P t = e := by simp [elemT, hu]
            rw [this] at hi
            refine .of (c := .agg cells') ?_ ⟨cells'.toList, by simp [mkV, AV.isA], mk_array ((like_under hlike).trans hu) k2.2.2 k2.1 k2.2.1, by simp [AV.isA]⟩
            simp only [Instr.build, Sem.run_bind, e1, Result.andThen_ok, run_underlying hu, run_sizeOf w hi, Value.cells, k1, Sem.run_pure]
        | _ =>
          unfold rel at hr
          rw [like_under hlike, hu] at hr
          exact hr.2.elim
    · exact absurd h (by simp)
  · exact absurd h (by simp)

/-! ### what rests on no row -/
mutual
theorem flat_rel {x y : X} : ∀ (v : AV) (n : Nat) {t : TypeId} {c : List Value}, flatT P n t = true → fits P t v = true → rel P x v c → rel P y v c
  | v, 0, t, c, h, _, _ => by simp [flatT] at h
  | .agg u ps, n + 1, t, c, h, hf, hr => by
    have hl := (tyA_agg hf).1
    simp only [flatT] at h
    split at h
    · rename_i hu; have := (tyA_agg hf).2; simp [tyA, hu] at this
    · rename_i hu; have := (tyA_agg hf).2; simp [tyA, hu] at this
    · rename_i hu; have := (tyA_agg hf).2; simp [tyA, hu] at this
    · rename_i fs hu
      have hu' := (like_under hl).trans hu
      obtain ⟨k1, k2⟩ := rel_struct hr hu'
      exact mk_struct hu' k1 (flat_st ps n h k2)
    · rename_i m e hu
      have hu' := (like_under hl).trans hu
      obtain ⟨k1, k2, k3⟩ := rel_array hr hu'
      exact mk_array hu' k1 k2 (flat_ar ps n h k3)
    · exact absurd h (by simp)
  | .bool _, n + 1, t, c, h, hf, hr => hr
  | .int _ _, n + 1, t, c, h, hf, hr => hr
  | .str _, n + 1, t, c, h, hf, hr => hr
  | .dead, n + 1, t, c, h, hf, hr => by simp [fits, leafOK] at hf
  | .nilp, n + 1, t, c, h, hf, hr => hr
  | .nilf, n + 1, t, c, h, hf, hr => hr
  | .nili, n + 1, t, c, h, hf, hr => hr
  | .tuple _, n + 1, t, c, h, hf, hr => by simp [fits, leafOK] at hf
  | .ptr _ _ _ _, n + 1, t, c, h, hf, hr => by
    simp only [flatT] at h
    split at h <;> simp_all [fits, leafOK]
  | .rptr _ _, n + 1, t, c, h, hf, hr => by
    simp only [flatT] at h
    split at h <;> simp_all [fits, leafOK]
  | .slice _ _ _, n + 1, t, c, h, hf, hr => by
    simp only [flatT] at h
    split at h <;> simp_all [fits, leafOK]
  | .msl _ _ _ _ _ _, n + 1, t, c, h, hf, hr => by
    simp only [flatT] at h
    split at h <;> simp_all [fits, leafOK]
  | .mapv _, n + 1, t, c, h, hf, hr => by
    simp only [flatT] at h
    split at h <;> simp_all [fits, leafOK]
  | .func _ _ _, n + 1, t, c, h, hf, hr => by
    simp only [flatT] at h
    split at h <;> simp_all [fits, leafOK]
  | .iface _ _, n + 1, t, c, h, hf, hr => by
    simp only [flatT] at h
    split at h <;> simp_all [fits, leafOK]
theorem flat_st {x y : X} : ∀ (ps : List AV) (n : Nat) {fs : List Field} {c : List Value}, flatFs (flatT P n) fs = true → relSt P x (fs.map (·.type)) ps c → relSt P y (fs.map (·.type)) ps c
  | [], n, [], c, _, h => h
  | [], n, _ :: _, c, _, h => h.elim
  | _ :: _, n, [], c, _, h => h.elim
  | p :: ps, n, f :: fs, c, hf, h => by
    obtain ⟨c1, r, rfl, h1, h2, h3, h4⟩ := h
    simp only [flatFs, Bool.and_eq_true] at hf
    exact ⟨c1, r, rfl, flat_rel p n hf.1 h3 h1, h2, h3, flat_st ps n hf.2 h4⟩
theorem flat_ar {x y : X} : ∀ (ps : List AV) (n : Nat) {e : TypeId} {c : List Value}, flatT P n e = true → relAr P x e ps c → relAr P y e ps c
  | [], n, e, c, _, h => h
  | p :: ps, n, e, c, hf, h => by
    obtain ⟨c1, r, rfl, h1, h2, h3, h4⟩ := h
    exact ⟨c1, r, rfl, flat_rel p n hf h3 h1, h2, h3, flat_ar ps n hf h4⟩
end
theorem relSt_map {x y : X} : ∀ {ts : List TypeId} {ps : List AV} {c : List Value}, (∀ p ∈ ps, ∀ c, rel P x p c → rel P y p c) → relSt P x ts ps c → relSt P y ts ps c
  | [], [], c, _, h => h
  | [], _ :: _, c, _, h => h.elim
  | _ :: _, [], c, _, h => h.elim
  | t :: ts, p :: ps, c, hk, h => by
    obtain ⟨c1, r, rfl, h1, h2, h3, h4⟩ := h
    exact ⟨c1, r, rfl, hk p (by simp) _ h1, h2, h3, relSt_map (fun q hq => hk q (by simp [hq])) h4⟩
theorem relVs_map {x y : X} : ∀ {as : List AV} {vs : List Value}, (∀ p ∈ as, ∀ c, rel P x p c → rel P y p c) → relVs P x as vs → relVs P y as vs
  | [], vs, _, h => h
  | a :: as, vs, hk, h => by
    obtain ⟨c, r, rfl, h1, h2, h3⟩ := h
    exact ⟨c, r, rfl, hk a (by simp) _ h1, h2, relVs_map (fun q hq => hk q (by simp [hq])) h3⟩
theorem allL_mem {p : AV → Bool} : ∀ {l : List AV}, allL p l = true → ∀ v ∈ l, p v = true
  | [], _, v, hv => by simp at hv
  | a :: l, h, v, hv => by
    simp only [allL, Bool.and_eq_true] at h
    rcases List.mem_cons.1 hv with rfl | hv
    · exact h.1
    · exact allL_mem h.2 v hv
theorem noMsl_rel {x : X} : ∀ (n : Nat) (v : AV) {c : List Value}, noMsl P n v = true → rel P x v c → rel P x.imm v c
  | 0, v, c, h, _ => by simp [noMsl] at h
  | n + 1, v, c, h, hr => by
    cases v with
    | dead => trivial
    | bool b => exact hr
    | int k i => exact hr
    | str s => exact hr
    | nilp => exact hr
    | nilf => exact hr
    | nili => exact hr
    | ptr r p t o => exact hr
    | rptr t v => exact hr
    | slice e l ex => exact hr
    | msl r p e a b c => simp [noMsl] at h
    | mapv r => cases r <;> exact hr
    | func fn f cp =>
      obtain ⟨a, b, h1, h2, h3⟩ := hr
      simp only [noMsl, Bool.and_eq_true] at h
      exact ⟨a, b, h1, relVs_map (fun p hp c hc => noMsl_rel n p (allL_mem h.1 p hp) hc) h2, relVs_map (fun p hp c hc => noMsl_rel n p (allL_mem h.2 p hp) hc) h3⟩
    | iface t v =>
      obtain ⟨c, h1, h2, h3, h4⟩ := hr
      simp only [noMsl] at h
      exact ⟨c, noMsl_rel n v h h1, h2, h3, h4⟩
    | tuple vs =>
      obtain ⟨a, h1, h2⟩ := hr
      simp only [noMsl] at h
      exact ⟨a, h1, relVs_map (fun p hp c hc => noMsl_rel n p (allL_mem h p hp) hc) h2⟩
    | agg t ps =>
      simp only [noMsl] at h
      split at h
      · rename_i fs hu
        obtain ⟨k1, k2⟩ := rel_struct hr hu
        exact mk_struct hu k1 (relSt_map (fun p hp c hc => noMsl_rel n p (allL_mem h p hp) hc) k2)
      · rename_i m e hu
        obtain ⟨k1, k2, k3⟩ := rel_array hr hu
        exact mk_array hu k1 k2 (flat_ar ps 20 h k3)
      · exact absurd h (by simp)
theorem relPs_imm {x : X} : ∀ {as : List (Nat × AV)} {vs : List (Nat × Value)}, noMsls P as = true → relPs P x as vs → relPs P x.imm as vs
  | [], [], _, _ => trivial
  | [], _ :: _, _, h => h.elim
  | _ :: _, [], _, h => h.elim
  | (i, a) :: as, (j, v) :: vs, hn, ⟨h1, ⟨c, h2, h3, h4⟩, h5⟩ => by
    simp only [noMsls, Bool.and_eq_true] at hn
    exact ⟨h1, ⟨c, h2, noMsl_rel 8 a hn.1 h3, h4⟩, relPs_imm hn.2 h5⟩

/-! ### cells of zeros -/
theorem made_flat (z : Array Value) : ∀ n : Nat, (madeCells z (n * z.size)).toList = (List.replicate n z.toList).flatten
  | 0 => by simp [madeCells]
  | n + 1 => by
    have ih := made_flat z n
    simp only [madeCells, Array.toList_map, Array.toList_range] at ih ⊢
    rw [Nat.add_mul, Nat.one_mul, Nat.add_comm, List.range_add, List.map_append, List.replicate_succ, List.flatten_cons]
    congr 1
    · apply List.ext_getElem
      · simp
      · intro i h1 h2
        simp only [List.length_map, List.length_range] at h1
        simp [Nat.mod_eq_of_lt h1, h1]
    · rw [← ih, List.map_map]
      apply List.map_congr_left
      intro i _
      simp
theorem relAr_replicate {x : X} {e : TypeId} {v : AV} {c : List Value} (hr : rel P x v c) (hl : c.length = P.cellsOf e) (hf : fits P e v = true) : ∀ n : Nat, relAr P x e (List.replicate n v) (List.replicate n c).flatten
  | 0 => rfl
  | n + 1 => ⟨c, (List.replicate n c).flatten, rfl, hr, hl, hf, relAr_replicate hr hl hf n⟩
theorem yield_sliceLit {t : TypeId} {n : Nat} {parts : List (Nat × AV)} {cparts : Array (Nat × Value)} {v : AV} (h : sliceLit P t n parts = some v) (hf : fitsParts P t parts = true) (hp0 : relPs P (X.mk rows st w true) parts cparts.toList) (hno : noMsls P parts = true)
    (hst : ∀ b o, w.heap.size ≤ b → st b o) : Yield P rows st w (Instr.buildSlice t n cparts) v := by
  have hp := relPs_imm hno hp0
  unfold sliceLit at h
  split at h
  · rename_i e hu
    split at h
    · rename_i hc
      simp only [Bool.and_eq_true, Bool.or_eq_true] at hc
      obtain ⟨⟨h24, hfz⟩, hone⟩ := hc
      have h24 := Nat.ble_eq.mp h24
      obtain ⟨l, hfl, rfl⟩ := Option.map_eq_some_iff.1 h
      have hone' : tyA P e = false → P.cellsOf e = 1 := fun hA => by
        rcases hone with hone | hone
        · rw [hA] at hone; exact absurd hone (by simp)
        · exact Nat.eq_of_beq_eq_true hone
      obtain ⟨d, hue⟩ := fits_under hfz
      obtain ⟨i, hi⟩ := info_of_underlying hue
      obtain ⟨z, e1, c, rfl, hr, _⟩ := run_zeroV (w := w) (x := X.imm (X.mk rows st w true)) (t := e) (by intro h0; rw [h0] at hfz; simp [fits, leafOK] at hfz)
      have hcz := cells_mkV hfz hr
      have hlz := fits_len hfz hr hone'
      have hpt : ∀ i, partsT P t i = e := fun i => by simp [partsT, hu]
      have hbase : ((if n * P.cellsOf e = 0 then (#[] : Array Value) else madeCells c.toArray (n * P.cellsOf e))).toList = (List.replicate n c).flatten := by
        have hz : P.cellsOf e = c.toArray.size := by simp [hlz]
        split
        · rename_i h0
          rw [hz] at h0
          have := made_flat c.toArray n
          rw [h0] at this
          simpa [madeCells] using this
        · rw [hz]
          simpa using made_flat c.toArray n
      obtain ⟨cells', k1, k2⟩ := fill_rel (x := X.imm (X.mk rows st w true)) (t := t) (fun i => some (i * P.cellsOf e, P.cellsOf e))
        (fun ps cs => ps.length = n ∧ relAr P (X.imm (X.mk rows st w true)) e ps cs)
        (by
          intro ps cs i hR hi
          obtain ⟨pre, c, post, rfl, g2, g3, g4, g5, g6⟩ := relAr_get i hR.2 hi
          refine ⟨pre, c, post, rfl, by rw [g2, g4], fun a c' k1 k2 => ?_⟩
          rw [hpt] at k1
          have hlc : c'.length = c.length := by rw [g4]; exact fits_len k1 k2 hone'
          exact ⟨hlc, by simpa using hR.1, g6 a c' k2 (hlc.trans g4) k1⟩)
        parts cparts.toList (List.replicate n (zero P e)) l (if n * P.cellsOf e = 0 then #[] else madeCells c.toArray (n * P.cellsOf e)) ⟨by simp, by rw [hbase]; exact relAr_replicate hr hlz hfz n⟩ hfl hf hp
      refine ⟨.slice (some ⟨w.heap.size, 0, none⟩) n n, w.alloc (.cells cells' e), ?_, (Below.refl _ _).alloc (Nat.le_refl _) _, relV_leaf ⟨_, _, _, rfl, k2.1.symm, Nat.le_refl _, fun _ => rfl, .inr ⟨w.heap.size, 0, rfl, ?_⟩⟩ rfl⟩
      · simp only [Instr.buildSlice, Sem.run_bind, run_underlying hu, Result.andThen_ok, run_sizeOf w hi, Sem.run_ite, if_neg (show ¬ n * P.cellsOf e > 2 ^ 24 by omega), Sem.run_pure]
        by_cases h0 : n * P.cellsOf e = 0
        · simp only [if_pos h0] at k1 ⊢
          have hr0 : ∀ f : Nat → Value, Array.map f (Array.range (n * P.cellsOf e)) = #[] := fun f => by simp [h0]
          rw [hr0, k1]
          simp [newRow]
        · simp only [if_neg h0] at k1 ⊢
          rw [e1]
          simp only [Result.andThen_ok, hcz]
          have hm : Array.map (fun x => c.toArray[x % c.toArray.size]!) (Array.range (n * P.cellsOf e)) = madeCells c.toArray (n * P.cellsOf e) := rfl
          rw [hm, k1]
          simp [newRow]
      · have hle : Le (X.imm (X.mk rows st w true)) (X.imm (X.mk rows st (w.alloc (.cells cells' e)) true)) := ⟨fun _ _ h => h, fun _ _ _ h _ => h, fun b o v _ hc => (by
          show (w.alloc _).cell? _ = _
          rw [World.cell?_alloc_lt _ _ _ (cell_lt hc)]; exact hc), id⟩
        refine relSl_of (relAr_le hle e l _ k2.2) fun i v hv => ⟨hst _ _ (Nat.le_refl _), ?_⟩
        show (w.alloc _).cell? _ = _
        rw [World.cell?_alloc_new, ← Array.getElem?_toList, Nat.zero_add]
        exact hv
    · exact absurd h (by simp)
  · exact absurd h (by simp)
theorem yield_assertV {x v : AV} {cx : Value} {xt t : TypeId} {ok : Bool} (h : assertV P x t ok = some v) (hx : relV P (X.mk rows st w true) x cx) : Yield P rows st w (Instr.typeAssert cx xt t ok) v := by
  unfold assertV at h
  have tup : ∀ {a : AV} {c : Value} {b : Bool}, relV P (X.mk rows st w true) a c → relV P (X.mk rows st w true) (.tuple [a, .bool b]) (.tuple #[c, .bool b]) := fun hc =>
    relV_leaf ⟨_, rfl, relVs_cons hc (relVs_cons (relV_bool.2 rfl) rfl)⟩ rfl
  split at h
  · exact absurd h (by simp)
  · rename_i d u a hni hu
    obtain ⟨c, rfl, hc, _⟩ := relV_iface hx
    have hd : ∀ ms, d ≠ .interface ms := fun ms e => hni ms (by rw [e])
    split at h
    · rename_i hut
      have := Nat.eq_of_beq_eq_true hut
      subst this
      simp only [Option.some.injEq] at h
      subst h
      refine .of (c := if ok then .tuple #[c, .bool true] else c) ?_ ?_
      · simp only [Instr.typeAssert, Sem.run_bind, run_underlying hu, Result.andThen_ok]
        cases d <;> first | exact absurd rfl (hd _) | simp
      · cases ok
        · simpa using hc
        · simpa using tup hc
    · rename_i hut
      have hne : ¬ u = t := fun e => by subst e; simp at hut
      split at h
      · rename_i hok
        simp only [Bool.and_eq_true] at hok
        obtain ⟨rfl, hfz⟩ := hok
        simp only [Option.some.injEq] at h
        subst h
        obtain ⟨z, e1, e2⟩ := run_zeroV (w := w) (x := (X.mk rows st w true)) (t := t) (by intro h0; rw [h0] at hfz; simp [fits, leafOK] at hfz)
        refine .of (c := .tuple #[z, .bool false]) ?_ (tup e2)
        simp only [Instr.typeAssert, Sem.run_bind, run_underlying hu, Result.andThen_ok]
        cases d <;> first | exact absurd rfl (hd _) | simp [hne, e1]
      · exact absurd h (by simp)
  · rename_i d hni hu
    obtain rfl := relV_nili hx
    have hd : ∀ ms, d ≠ .interface ms := fun ms e => hni ms (by rw [e])
    split at h
    · rename_i hok
      simp only [Bool.and_eq_true] at hok
      obtain ⟨rfl, hfz⟩ := hok
      simp only [Option.some.injEq] at h
      subst h
      obtain ⟨z, e1, e2⟩ := run_zeroV (w := w) (x := (X.mk rows st w true)) (t := t) (by intro h0; rw [h0] at hfz; simp [fits, leafOK] at hfz)
      refine .of (c := .tuple #[z, .bool false]) ?_ (tup e2)
      simp only [Instr.typeAssert, Sem.run_bind, run_underlying hu, Result.andThen_ok]
      cases d <;> first | exact absurd rfl (hd _) | simp [e1]
    · exact absurd h (by simp)
  · exact absurd h (by simp)
end
end Go.AE
