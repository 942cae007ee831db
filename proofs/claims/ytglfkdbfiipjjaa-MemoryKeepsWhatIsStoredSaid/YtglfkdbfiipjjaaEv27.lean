/- What a function answers to plain data is what it returns. -/
import Derived.Test.YtglfkdbfiipjjaaEv26
set_option linter.unusedVariables false
set_option linter.unusedSimpArgs false
namespace Go.AE
open Go.RowKit Go.Lib
section
variable {cx : Ctx} {N d : Nat} {S : Nat → Nat → Prop} {w0 : World} {g : G} {fr : Fr} {M : Mm} {a : Act} {w : World}
def outX (S : Nat → Nat → Prop) (N : Nat) (w : World) : X := ⟨[], fun b o => S b o ∨ N ≤ b, w, false⟩
theorem lp_out (g : G) (w : World) : Lp (xOf (Env.mk (Ctx.P cx) N S w0) g w).imm (outX S N w) := by
  refine ⟨fun b o h => ?_, fun b o v _ h => h, rfl⟩
  change stOf (Env.mk (Ctx.P cx) N S w0) g.cls b o at h
  unfold stOf at h
  split at h
  · exact .inl h
  · rename_i hb; exact .inr (Nat.not_lt.1 hb)
theorem relVs_take_drop {P : Program} {x : X} {e : TypeId} {l : List AV} {c : List Value} (h : relAr P x e l c) (i j : Nat) : relAr P x e (sub l i j) ((c.take (j * P.cellsOf e)).drop (i * P.cellsOf e)) := relAr_drop i (relAr_take j h)
theorem freeze_fits {P : Program} {M : Mm} : ∀ (n : Nat) (v : AV) {t : TypeId}, fits P t (freeze P M n v) = true → fits P t v = true
  | 0, v, t, h => by simp [freeze, fits, leafOK] at h
  | n + 1, v, t, h => by
    cases v with
    | msl r p e off coff len =>
      simp only [freeze] at h
      split at h
      · exact h
      · simp [fits, leafOK] at h
    | slice e l ex => exact h
    | agg u ps =>
      simp only [freeze] at h
      split at h
      · split at h
        · exact h
        · simp [fits, leafOK] at h
      · split at h
        · exact h
        · simp [fits, leafOK] at h
      · simp [fits, leafOK] at h
    | tuple vs => exact h
    | _ => exact h
theorem plain_shape {P : Program} {k : Nat} {t : TypeId} {v : AV} (hp : plainT P k t = true) (hf : fits P t v = true) : match v with | .ptr .. | .rptr .. | .mapv _ | .func .. | .iface .. => False | _ => True := by
  cases k with
  | zero => simp [plainT] at hp
  | succ k =>
    simp only [plainT] at hp
    cases v <;> first | trivial | (exfalso; unfold fits leafOK at hf; split at hp <;> rename_i hu <;> simp [hu] at hf hp)
theorem freeze_tuple {P : Program} {M : Mm} {n : Nat} {v : AV} {vs : List AV} (h : freeze P M (n + 1) v = .tuple vs) : ∃ us, v = .tuple us ∧ vs = us.map (freeze P M n) := by
  cases v with
  | tuple us => simp only [freeze, AV.tuple.injEq] at h; exact ⟨us, rfl, h.symm⟩
  | msl r p e off coff len => simp only [freeze] at h; split at h <;> exact absurd h (by simp)
  | agg t ps =>
    simp only [freeze] at h
    split at h
    · split at h <;> exact absurd h (by simp)
    · split at h <;> exact absurd h (by simp)
    · exact absurd h (by simp)
  | _ => simp [freeze] at h
theorem freeze_st {P : Program} {M : Mm} {x y : X} (n : Nat) (ih : ∀ (v : AV) {k : Nat} {t : TypeId} {c : List Value}, plainT P k t = true → fits P t (freeze P M n v) = true → rel P x v c → rel P y (freeze P M n v) c) :
    ∀ (ps : List AV) (k : Nat) {fs : List Field} {c : List Value}, plainFs (plainT P k) fs = true → relSt P x (fs.map (·.type)) ps c → fitsAll P (fs.map (·.type)) (ps.map (freeze P M n)) = true → relSt P y (fs.map (·.type)) (ps.map (freeze P M n)) c
  | [], k, [], c, _, h, _ => h
  | [], k, _ :: _, c, _, h, _ => h.elim
  | _ :: _, k, [], c, _, h, _ => h.elim
  | p :: ps, k, f :: fs, c, hp, h, hf => by
    obtain ⟨c1, r, rfl, h1, h2, h3, h4⟩ := h
    simp only [plainFs, Bool.and_eq_true] at hp
    simp only [List.map_cons, fitsAll, Bool.and_eq_true] at hf
    exact ⟨c1, r, rfl, ih p hp.1 hf.1 h1, h2, hf.1, freeze_st n ih ps k hp.2 h4 hf.2⟩
theorem freeze_rel (hr : Rel (Env.mk (Ctx.P cx) N S w0) d g fr M a w) : ∀ (n : Nat) (v : AV) {k : Nat} {t : TypeId} {c : List Value}, plainT cx.P k t = true → fits cx.P t (freeze cx.P M n v) = true → rel cx.P (xOf (Env.mk (Ctx.P cx) N S w0) g w) v c → rel cx.P (outX S N w) (freeze cx.P M n v) c
  | 0, v, k, t, c, _, hf, _ => by simp [freeze, fits, leafOK] at hf
  | n + 1, v, k, t, c, hp, hf, hv => by
    have hlp := lp_out (cx := cx) (N := N) (S := S) (w0 := w0) g w
    cases v with
    | msl r p e off coff len =>
      simp only [freeze] at hf ⊢
      split at hf
      · rename_i hfl
        rw [if_pos hfl]
        obtain ⟨_, b, root, m, o0, m1, m2, m3, m4, base, cap, m5, rfl, m6⟩ := hv
        obtain ⟨cs, ty, k1, k2⟩ : ∃ cs ty, w.heap[b]? = some (.cells cs ty (0, 0)) ∧ RowC cx.P (xOf (Env.mk (Ctx.P cx) N S w0) g w) root (M.rows.getD r (.arr 0 [])) cs.toList := by
          have := hr.rowsOK r b root m1
          rcases m2 with ⟨rfl, rfl, rfl⟩ | ⟨t, m2, hu⟩
          · revert this
            cases M.rows.getD r (.arr 0 []) with
            | map k e es => intro hk; exact absurd hk.1 (by simp)
            | var t v => exact id
            | arr e l => exact id
          · exact rowOK_cells this m2
        obtain ⟨j1, pre, c, post, j2, j3, j4, _⟩ := rowC_elems k2 m2
        have hlen : (sub ((M.rows.getD r (.arr 0 [])).elems p) off (off + len)).length = len := by simp only [sub, List.length_drop, List.length_take, j1]; omega
        have hra := relVs_take_drop j4 off (off + len)
        have hnl := relAr_len hra
        rw [hlen] at hnl
        refine ⟨base, len, cap, rfl, hlen.symm, m5, fun k => absurd k (by simp), ?_⟩
        rcases Nat.eq_zero_or_pos len with h0' | h0'
        · exact .inl h0'
        · refine .inr ⟨b, coff, m6 h0', relSl_of (flat_ar _ 20 hfl hra) fun i u hu => ⟨.inr (hr.rows r b root m1).1, ?_⟩⟩
          rw [List.getElem?_drop, List.getElem?_take] at hu
          split at hu
          · show w.cell? _ = _
            rw [cell_heap k1, ← Array.getElem?_toList, j2, m4, List.append_assoc, List.getElem?_append_right (by omega), List.getElem?_append_left (by have := (List.getElem?_eq_some_iff.1 hu).1; omega)]
            rw [← hu]
            congr 1
            omega
          · exact absurd hu (by simp)
      · simp [fits, leafOK] at hf
    | slice e l ex =>
      simp only [freeze] at hf ⊢
      obtain ⟨base, len, cap, h1, h2, h3, h4, h5⟩ := hv
      have : rel cx.P (xOf (Env.mk (Ctx.P cx) N S w0) g w).imm (.slice e l false) c := ⟨base, len, cap, h1, h2, h3, fun k => absurd k (by simp), h5⟩
      exact plain_rel hlp _ k hp hf this
    | agg u ps =>
      have hf0 := freeze_fits _ _ hf
      have hlk := (tyA_agg hf0).1
      simp only [freeze] at hf ⊢
      split at hf
      · rename_i fs hu
        split at hf
        · rename_i hall
          rw [if_pos hall]
          obtain ⟨k1, k2⟩ := rel_struct hv hu
          refine mk_struct hu k1 ?_
          have hplain : ∃ k', plainFs (plainT cx.P k') fs.toList = true := by
            cases k with
            | zero => simp [plainT] at hp
            | succ k' => exact ⟨k', by simpa only [plainT, ← like_under hlk, hu] using hp⟩
          obtain ⟨k', hpl⟩ := hplain
          exact freeze_st n (fun v {k t c} h1 h2 h3 => freeze_rel hr n v h1 h2 h3) ps k' hpl k2 hall
        · simp [fits, leafOK] at hf
      · rename_i m e hu
        split at hf
        · rename_i hfl
          rw [if_pos hfl]
          obtain ⟨k1, k2, k3⟩ := rel_array hv hu
          exact mk_array hu k1 k2 (flat_ar ps 20 hfl k3)
        · simp [fits, leafOK] at hf
      · simp [fits, leafOK] at hf
    | bool b => exact hv
    | int kk i => exact hv
    | str s => exact hv
    | nilp => exact hv
    | nilf => exact hv
    | nili => exact hv
    | dead => simp [freeze, fits, leafOK] at hf
    | tuple vs => simp [freeze, fits, leafOK] at hf
    | ptr r p t' o => exact (plain_shape hp (freeze_fits _ _ hf)).elim
    | rptr t' v => exact (plain_shape hp (freeze_fits _ _ hf)).elim
    | mapv r => exact (plain_shape hp (freeze_fits _ _ hf)).elim
    | func f x y => exact (plain_shape hp (freeze_fits _ _ hf)).elim
    | iface t' v => exact (plain_shape hp (freeze_fits _ _ hf)).elim
theorem freeze_isA {P : Program} {M : Mm} {n : Nat} {v : AV} {t : TypeId} (h : fits P t (freeze P M n v) = true) : (freeze P M n v).isA = v.isA := (fits_isA h).trans (fits_isA (freeze_fits n v h)).symm
theorem freeze_relV (hr : Rel (Env.mk (Ctx.P cx) N S w0) d g fr M a w) {n : Nat} {v : AV} {k : Nat} {t : TypeId} {c : Value} (hp : plainT cx.P k t = true) (hf : fits cx.P t (freeze cx.P M n v) = true) (hv : relV cx.P (xOf (Env.mk (Ctx.P cx) N S w0) g w) v c) : relV cx.P (outX S N w) (freeze cx.P M n v) c := by
  obtain ⟨cs, rfl, h1, h2⟩ := hv
  have hA := freeze_isA hf
  exact ⟨cs, by rw [hA], freeze_rel hr n v hp hf h1, fun e => h2 (by rw [← hA]; exact e)⟩
theorem freeze_relVs (hr : Rel (Env.mk (Ctx.P cx) N S w0) d g fr M a w) {n : Nat} : ∀ {ts : List TypeId} {vs : List AV} {cs : List Value}, plainAll cx.P ts = true → fitsAll cx.P ts (vs.map (freeze cx.P M n)) = true → relVs cx.P (xOf (Env.mk (Ctx.P cx) N S w0) g w) vs cs → relVs cx.P (outX S N w) (vs.map (freeze cx.P M n)) cs
  | [], [], cs, _, _, h => h
  | [], _ :: _, cs, _, hf, _ => by simp [fitsAll] at hf
  | _ :: _, [], cs, _, hf, _ => by simp [fitsAll] at hf
  | t :: ts, v :: vs, cs, hp, hf, h => by
    obtain ⟨c, r, rfl, h1, h2, h3⟩ := h
    simp only [plainAll, Bool.and_eq_true] at hp
    simp only [List.map_cons, fitsAll, Bool.and_eq_true] at hf
    exact relVs_cons (freeze_relV hr hp.1 hf.1 ⟨c, rfl, h1, h2⟩) (freeze_relVs hr hp.2 hf.2 h3)
end
/-- A world in which nothing has been made yet. -/
theorem rel_start (P : Program) (S : Nat → Nat → Prop) (w : World) : Rel (Env.mk P w.heap.size S w) 0 ⟨[], fun _ => .froz⟩ fr0 ⟨[], []⟩ act0 w :=
  ⟨Below.refl _ _, Nat.le_refl _, fun _ _ => rfl, rfl, fun i => by simpa [fr0, act0] using relV_dead _, rfl, fun r b root h => by simp at h, fun r r' b root root' h => by simp at h, fun t ht => by simp [fr0] at ht, fun t s ht => by simp [fr0] at ht, fun t r p ht => by simp [fr0] at ht, fun r p ht => by simp at ht⟩
theorem fnV_sound {cx : Ctx} (hG : cx.Good) (hL : cx.Loops) {n : Nat} {f : FuncId} {args : List AV} {v : AV} (h : fnV cx n f args = some v) : CallsS cx.P f args v := by
  intro w S cargs ha
  unfold fnV at h
  split at h
  · exact absurd h (by simp)
  · rename_i fn hfn
    have h0 := rel_start cx.P S w
    have hargs : relVs cx.P (xOf (Env.mk cx.P w.heap.size S w) ⟨[], fun _ => .froz⟩ w) args cargs.toList := by
      have hle : Le ⟨[], S, w, false⟩ (xOf (Env.mk cx.P w.heap.size S w) ⟨[], fun _ => .froz⟩ w) := by
        refine ⟨fun r z hz => absurd hz (by simp), fun b o v hs hc => ?_, fun _ _ _ _ h => h, fun e => absurd e (by simp)⟩
        show stOf (Env.mk cx.P w.heap.size S w) (fun _ => .froz) b o
        unfold stOf
        rw [if_pos (cell_lt hc)]
        exact hs
      exact relVs_le hle args _ ha
    refine (evF_sound hG hL n w.heap.size S w 0 _ _ w f args cargs _ v _ h0 hargs h fun rv c M' g' w' hr hx hv => ⟨fun hk => ?_, fun hk => absurd hk (by simp)⟩).2
    simp only at hk
    split at hk
    · rename_i hgood
      obtain rfl := Option.some.inj hk
      refine ⟨c, rfl, hr.below, ?_⟩
      unfold goodR at hgood
      simp only [Bool.and_eq_true] at hgood
      obtain ⟨hpl, hgood⟩ := hgood
      generalize fn.resultTypes.toList = ts at hpl hgood
      split at hgood
      · rename_i t v hts
        simp only [plainAll, Bool.and_eq_true] at hpl
        exact freeze_relV hr hpl.1 hgood hv
      · rename_i ts vs hne hvs
        obtain ⟨us, rfl, rfl⟩ := freeze_tuple hvs
        obtain ⟨arr, rfl, hus⟩ := relV_tuple hv
        have : rel cx.P (outX S w.heap.size w') (.tuple (us.map (freeze cx.P M' 5))) [.tuple arr] := ⟨arr, rfl, freeze_relVs hr hpl hgood hus⟩
        rw [hvs]
        exact relV_leaf this rfl
      · exact absurd hgood (by simp)
    · exact absurd hk (by simp)
end Go.AE
