/- Calls, and what a function answers to plain data. -/
import Derived.Test.YtglfkdbfiipjjaaEv25
set_option linter.unusedVariables false
set_option linter.unusedSimpArgs false
namespace Go.AE
open Go.RowKit Go.Lib
section
variable {cx : Ctx} {N d : Nat} {S : Nat → Nat → Prop} {w0 : World} {g : G} {fr : Fr} {M : Mm} {a : Act} {w : World}

theorem loadPtr_run (hr : Rel (Env.mk (Ctx.P cx) N S w0) d g fr M a w) {rr : Nat} {p : List Nat} {t t' : TypeId} {off : Nat} {ca : Value} {v : AV} (hp : relV cx.P (xOf (Env.mk (Ctx.P cx) N S w0) g w) (.ptr rr p t' off) ca) (h : loadV cx.P M t (.ptr rr p t' off) = some v) :
    ∃ c, (do loadVar t (← asAddr ca) : Sem Value).run cx.P w = .ok c w ∧ relV cx.P (xOf (Env.mk (Ctx.P cx) N S w0) g w) v c := by
  obtain ⟨b, root, h1, h2, rfl⟩ := relV_ptr hp
  obtain ⟨cs, ty, k1, k2⟩ := rowOK_cells (hr.rowsOK rr b root h1) h2
  obtain ⟨pre, c, post, e1, e2, e3, e4, e5, _⟩ := rowC_path k2 h2
  simp only [loadV] at h
  split at h
  · rename_i hl
    obtain rfl := Option.some.inj h
    generalize (M.rows.getD rr (.arr 0 [])).get p = u at *
    have hf := fits_like hl e5
    have hcell : ∀ i u, c[i]? = some u → w.cell? ⟨b, off + i, none⟩ = some u := fun i u hu => by
      rw [cell_heap k1, ← Array.getElem?_toList, e1, List.append_assoc, ← e2, List.getElem?_append_right (by omega), Nat.add_sub_cancel_left, List.getElem?_append_left (List.getElem?_eq_some_iff.1 hu).1]
      exact hu
    have hrun := run_loadVar (w := w) (b := b) (o := off) hf e3 (by rw [e4, like_cells hl]) hcell
    exact ⟨_, by simp only [asAddr, Sem.run_bind, Sem.run_pure, Result.andThen_ok, hrun], relV_eta (fun h => absurd h (by simp)) hf (relV_of hf e3)⟩
  · exact absurd h (by simp)
def resRun (tmps : Array Value) : ResultVar → Sem Value
  | .tmp t => pure (tmps.getD t undef)
  | .cell a t => do loadVar t (← asAddr (tmps.getD a undef))
theorem resultsV_sound (hr : Rel (Env.mk (Ctx.P cx) N S w0) d g fr M a w) : ∀ (rs : List ResultVar) {vs : List AV}, resultsV cx.P M fr.tmps rs = some vs → ∃ cs, (rs.mapM (resRun a.tmps)).run cx.P w = .ok cs w ∧ relVs cx.P (xOf (Env.mk (Ctx.P cx) N S w0) g w) vs cs
  | [], vs, h => by
    simp only [resultsV, Option.some.injEq] at h
    subst h
    exact ⟨[], by simp, rfl⟩
  | rv :: rs, vs, h => by
    simp only [resultsV] at h
    split at h
    · exact absurd h (by simp)
    · rename_i vs' hvs
      obtain ⟨cs, k1, k2⟩ := resultsV_sound hr rs hvs
      split at h
      · rename_i t
        obtain rfl := Option.some.inj h
        exact ⟨a.tmps.getD t undef :: cs, by simp only [List.mapM_cons, resRun, Sem.run_bind, Sem.run_pure, Result.andThen_ok, k1], relVs_cons (hr.tmps t) k2⟩
      · rename_i ai t
        split at h
        · rename_i rr p t' o hp
          split at h
          · rename_i v hv
            obtain rfl := Option.some.inj h
            obtain ⟨c, m1, m2⟩ := loadPtr_run hr (hp ▸ hr.tmps ai) hv
            exact ⟨c :: cs, by simp only [List.mapM_cons, resRun, Sem.run_bind, m1, Sem.run_pure, Result.andThen_ok, k1] at m1 ⊢, relVs_cons m2 k2⟩
          · exact absurd h (by simp)
        · exact absurd h (by simp)
theorem resultV_sound (hr : Rel (Env.mk (Ctx.P cx) N S w0) d g fr M a w) {fn : Func} {v : AV} (h : resultV cx.P M fn fr.tmps = some v) : ∃ c, (results fn a.tmps).run cx.P w = .ok c w ∧ relV cx.P (xOf (Env.mk (Ctx.P cx) N S w0) g w) v c := by
  have hrun : ∀ {cs}, (fn.results.toList.mapM (resRun a.tmps)).run cx.P w = .ok cs w → (results fn a.tmps).run cx.P w = .ok (if h : cs.toArray.size = 1 then cs.toArray[0] else .tuple cs.toArray) w := by
    intro cs hcs
    have e : results fn a.tmps = (do let vs ← fn.results.mapM (resRun a.tmps); pure (if h : vs.size = 1 then vs[0] else .tuple vs)) := by
      unfold results
      congr 1
    rw [e, Array.mapM_eq_mapM_toList]
    simp only [Sem.run_bind, map_eq_pure_bind, hcs, Result.andThen_ok, Sem.run_pure]
  unfold resultV at h
  split at h
  · rename_i v' hv
    obtain rfl := Option.some.inj h
    obtain ⟨cs, k1, k2⟩ := resultsV_sound hr _ hv
    obtain ⟨c, r, rfl, m1, m2, m3⟩ := k2
    simp only [relVs] at m3
    subst m3
    exact ⟨_, hrun k1, ⟨c, by simp, m1, m2⟩⟩
  · rename_i vs hne hv
    obtain rfl := Option.some.inj h
    obtain ⟨cs, k1, k2⟩ := resultsV_sound hr _ hv
    have hlen := (relVs_getD k2).1
    have h1 : ¬ cs.toArray.size = 1 := fun e => by
      have : vs.length = 1 := by rw [hlen]; simpa using e
      match vs, this with
      | [v], _ => exact hne v rfl
    refine ⟨_, hrun k1, ?_⟩
    rw [dif_neg h1]
    have : rel cx.P (xOf (Env.mk (Ctx.P cx) N S w0) g w) (.tuple vs) [.tuple cs.toArray] := ⟨_, rfl, k2⟩
    exact relV_leaf this rfl
  · exact absurd h (by simp)
theorem relVs_undef {P : Program} {x : X} : ∀ n : Nat, relVs P x (List.replicate n undefV) (List.replicate n undef)
  | 0 => rfl
  | n + 1 => relVs_cons relV_undef (relVs_undef n)
end
section
variable {R : Type} {cx : Ctx}
theorem evF_sound (hG : cx.Good) (hL : cx.Loops) : ∀ n : Nat, CallSound (R := R) cx (evF cx n)
  | 0 => fun N S w0 d g M w f args cargs K r R' hr ha h hK => by simp [evF] at h
  | n + 1 => fun N S w0 d g M w f args cargs K r R' hr ha h hK => by
    simp only [evF] at h
    split at h
    · exact absurd h (by simp)
    · rename_i fn hfn
      split at h
      · exact absurd h (by simp)
      · rename_i c hb
        split at h
        · exact absurd h (by simp)
        · rename_i hname
          have hname' : ¬ fn.name = "runtime.NumGoroutine" := by simpa using hname
          refine ⟨by simp [callFunc, hfn, hname', hb], calls_of_wp hfn hb ?_⟩
          have hlen := (relVs_getD ha).1
          have hall : relVs cx.P (xOf (Env.mk cx.P N S w0) g w) (args ++ List.replicate (fn.ntmps - args.length) undefV) (cargs ++ Array.replicate (fn.ntmps - cargs.size) undef).toList := by
            rw [Array.toList_append, Array.toList_replicate]
            have : cargs.size = args.length := by rw [hlen]; simp
            rw [this]
            exact relVs_append ha (relVs_undef _)
          have hget := relVs_getD hall
          have h0 : Rel (Env.mk cx.P N S w0) d g { tmps := args ++ List.replicate (fn.ntmps - args.length) undefV, tf := [] } M { tmps := cargs ++ Array.replicate (fn.ntmps - cargs.size) undef, defers := [] } w := by
            refine ⟨hr.below, hr.hN, hr.fresh, by rw [hget.1]; simp, fun i => ?_, hr.lenr, hr.rows, hr.inj, fun t ht => by simp at ht, fun t s ht => by simp at ht, fun t r p ht => by simp at ht, hr.ro⟩
            have := hget.2 i
            have e : ∀ arr : Array Value, arr.toList.getD i undef = arr.getD i undef := fun arr => by simp [List.getD, Array.getD_eq_getD_getElem?]
            rwa [e] at this
          refine evC_sound hG hL hfn hb rfl (evF_sound hG hL n) c (fun l hl => hl) _ _ _ M g _ w h0 h fun x fr' M' g' a' w' hr' hx hd hk => ?_
          have hret : ∀ {K2 : Option R}, (match resultV cx.P M' fn fr'.tmps with | some v => cutK cx.P M.rows.length (fun _ M => K (.ret v) M) { tmps := [v], tf := [] } M' | none => none) = some r → a'.defers = [] ∧ ∃ v, (results fn a'.tmps).run cx.P w' = .ok v w' ∧ R' (.returned v) w' := by
            intro _ hk
            split at hk
            · rename_i v hv
              obtain ⟨c', m1, m2⟩ := resultV_sound hr' hv
              unfold cutK at hk
              split at hk
              · rename_i hc
                simp only [Bool.and_eq_true, allL, Bool.and_true] at hc
                exact ⟨hd, c', m1, (hK v c' (M'.cut M.rows.length) (g'.cut M.rows.length) w' ((hr'.bare d).cut (N := M.rows.length) rfl hc.2) (hx.cut (by rw [hr.lenr]; exact Nat.le_refl _)) (below_relV hc.1 m2)).1 hk⟩
              · exact ⟨hd, c', m1, (hK v c' M' g' w' (hr'.bare d) hx m2).1 hk⟩
            · exact absurd hk (by simp)
          cases x with
          | normal => exact hret (K2 := none) hk
          | ret => exact hret (K2 := none) hk
          | exit i => exact absurd hk (by simp)
          | panic v => exact fun c' hv => ⟨hd, (hK v c' M' g' w' (hr'.bare d) hx hv).2 hk⟩
end
end Go.AE
