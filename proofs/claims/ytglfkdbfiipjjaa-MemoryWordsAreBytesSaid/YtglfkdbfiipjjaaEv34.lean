/- Rows that nobody reaches any more may be dropped. -/
import Derived.Test.YtglfkdbfiipjjaaEv24
set_option linter.unusedVariables false
set_option linter.unusedSimpArgs false
namespace Go.AE
open Go.RowKit Go.Lib
def X.cut (x : X) (N : Nat) : X := { x with rows := x.rows.take N }
def G.cut (g : G) (N : Nat) : G := { g with rows := g.rows.take N }
section
variable {P : Program}
/-- The same but for the rows. -/
def Alike (x y : X) : Prop := y.st = x.st ∧ y.w = x.w ∧ y.m = x.m
theorem Alike.at {x y : X} (h : Alike x y) {b o : Nat} {cs : List Value} (k : At x b o cs) : At y b o cs := fun i v hv => by
  obtain ⟨h1, h2, _⟩ := h
  have := k i v hv
  rw [h1, h2]
  exact this
theorem Alike.imm {x y : X} (h : Alike x y) : Alike x.imm y.imm := ⟨h.1, h.2.1, rfl⟩
mutual
theorem pln_rel {x y : X} (h : Alike x y) (hm : x.m = false) : ∀ (v : AV) (n : Nat) {t : TypeId} {c : List Value}, plainT P n t = true → fits P t v = true → rel P x v c → rel P y v c
  | .dead, n, t, c, _, _, _ => trivial
  | .bool b, n, t, c, _, _, hr => hr
  | .int k i, n, t, c, _, _, hr => hr
  | .str s, n, t, c, _, _, hr => hr
  | .nilp, n, t, c, _, _, hr => hr
  | .nilf, n, t, c, _, _, hr => hr
  | .nili, n, t, c, _, _, hr => hr
  | .mapv none, n, t, c, _, _, hr => hr
  | .mapv (some r), n, t, c, hp, hf, hr => by
    cases n with
    | zero => simp [plainT] at hp
    | succ n =>
      simp only [fits, leafOK, Bool.and_eq_true] at hf
      have hf := hf.1
      split at hf
      · rename_i hu; simp [plainT, hu] at hp
      · exact absurd hf (by simp)
  | .ptr r p t' o, n, t, c, hp, hf, hr => by
    cases n with
    | zero => simp [plainT] at hp
    | succ n =>
      simp only [fits, leafOK, Bool.and_eq_true] at hf
      have hf := hf.1
      split at hf
      · rename_i hu; simp [plainT, hu] at hp
      · exact absurd hf (by simp)
  | .rptr t' v, n, t, c, hp, hf, hr => by
    cases n with
    | zero => simp [plainT] at hp
    | succ n =>
      simp only [fits, leafOK, Bool.and_eq_true] at hf
      have hf := hf.1
      split at hf
      · rename_i hu; simp [plainT, hu] at hp
      · exact absurd hf (by simp)
  | .func fn f cp, n, t, c, hp, hf, hr => by
    cases n with
    | zero => simp [plainT] at hp
    | succ n =>
      simp only [fits, leafOK, Bool.and_eq_true] at hf
      have hf := hf.1
      split at hf
      · rename_i hu; simp [plainT, hu] at hp
      · exact absurd hf (by simp)
  | .iface t' v, n, t, c, hp, hf, hr => by
    cases n with
    | zero => simp [plainT] at hp
    | succ n =>
      simp only [fits, leafOK, Bool.and_eq_true] at hf
      have hf := hf.1
      split at hf
      · rename_i hu; simp [plainT, hu] at hp
      · exact absurd hf (by simp)
  | .tuple vs, n, t, c, hp, hf, hr => by simp [fits, leafOK] at hf
  | .msl r p e off coff len, n, t, c, hp, hf, hr => by
    have := hr.1
    rw [hm] at this
    exact absurd this (by simp)
  | .slice e l ex, n, t, c, hp, hf, hr => by
    cases n with
    | zero => simp [plainT] at hp
    | succ n =>
      simp only [fits, leafOK, Bool.and_eq_true] at hf
      have hf := hf.1
      split at hf
      · rename_i e' hu
        have he := Nat.eq_of_beq_eq_true hf
        subst he
        simp only [plainT, hu] at hp
        obtain ⟨base, len, cap, h1, h2, h3, h4, h5⟩ := hr
        exact ⟨base, len, cap, h1, h2, h3, h4, h5.imp id fun ⟨b, o, h6, h7⟩ => ⟨b, o, h6, pln_sl h.imm rfl l n hp h7⟩⟩
      · exact absurd hf (by simp)
  | .agg u ps, n, t, c, hp, hf, hr => by
    cases n with
    | zero => simp [plainT] at hp
    | succ n =>
      have hlk := (tyA_agg hf).1
      have hA := (tyA_agg hf).2
      have hu0 := like_under hlk
      simp only [plainT, ← hu0] at hp
      unfold rel at hr ⊢
      obtain ⟨k0, k⟩ := hr
      refine ⟨k0, ?_⟩
      split at k
      · rename_i fs hu
        rw [hu] at hp
        exact pln_st h hm ps n hp k
      · rename_i m e hu
        rw [hu] at hp
        exact ⟨k.1, pln_ar h hm ps n hp k.2⟩
      · exact k.elim
theorem pln_sl {x y : X} (h : Alike x y) (hm : x.m = false) : ∀ (l : List AV) (n : Nat) {e : TypeId} {b o : Nat}, plainT P n e = true → relSl P x e b o l → relSl P y e b o l
  | [], n, e, b, o, _, _ => trivial
  | v :: vs, n, e, b, o, hp, ⟨⟨c, h1, h2, h3, h4⟩, h5⟩ => ⟨⟨c, pln_rel h hm v n hp h3 h1, h2, h3, h.at h4⟩, pln_sl h hm vs n hp h5⟩
theorem pln_st {x y : X} (h : Alike x y) (hm : x.m = false) : ∀ (ps : List AV) (n : Nat) {fs : List Field} {c : List Value}, plainFs (plainT P n) fs = true → relSt P x (fs.map (·.type)) ps c → relSt P y (fs.map (·.type)) ps c
  | [], n, [], c, _, k => k
  | [], n, _ :: _, c, _, k => k.elim
  | _ :: _, n, [], c, _, k => k.elim
  | p :: ps, n, f :: fs, c, hf, k => by
    obtain ⟨c1, r, rfl, h1, h2, h3, h4⟩ := k
    simp only [plainFs, Bool.and_eq_true] at hf
    exact ⟨c1, r, rfl, pln_rel h hm p n hf.1 h3 h1, h2, h3, pln_st h hm ps n hf.2 h4⟩
theorem pln_ar {x y : X} (h : Alike x y) (hm : x.m = false) : ∀ (ps : List AV) (n : Nat) {e : TypeId} {c : List Value}, plainT P n e = true → relAr P x e ps c → relAr P y e ps c
  | [], n, e, c, _, k => k
  | p :: ps, n, e, c, hf, k => by
    obtain ⟨c1, r, rfl, h1, h2, h3, h4⟩ := k
    exact ⟨c1, r, rfl, pln_rel h hm p n hf h3 h1, h2, h3, pln_ar h hm ps n hf h4⟩
end
theorem cut_alike (x : X) (N : Nat) : Alike x (x.cut N) := ⟨rfl, rfl, rfl⟩
theorem cut_get {x : X} {N r : Nat} (h : r < N) {z : Nat × Root} (k : x.rows[r]? = some z) : (x.cut N).rows[r]? = some z := by
  show (x.rows.take N)[r]? = _
  rw [List.getElem?_take_of_lt h]; exact k
theorem below_rel {x : X} {N : Nat} : ∀ (n : Nat) (v : AV) {c : List Value}, belowV P n N v = true → rel P x v c → rel P (x.cut N) v c
  | 0, v, c, h, _ => by simp [belowV] at h
  | n + 1, v, c, h, hr => by
    cases v with
    | dead => trivial
    | bool b => exact hr
    | int k i => exact hr
    | str s => exact hr
    | nilp => exact hr
    | nilf => exact hr
    | nili => exact hr
    | ptr r p t o =>
      simp only [belowV] at h
      obtain ⟨b, root, h1, h2, h3⟩ := hr
      exact ⟨b, root, cut_get (Nat.blt_eq.mp h) h1, h2, h3⟩
    | rptr t v =>
      simp only [belowV] at h
      obtain ⟨b, o, c', h1, h2, h3, h4, h5⟩ := hr
      exact ⟨b, o, c', h1, pln_rel (cut_alike x N).imm rfl v 20 h h4 h2, h3, h4, (cut_alike x N).at h5⟩
    | slice e l ex =>
      simp only [belowV] at h
      obtain ⟨base, len, cap, h1, h2, h3, h4, h5⟩ := hr
      exact ⟨base, len, cap, h1, h2, h3, h4, h5.imp id fun ⟨b, o, h6, h7⟩ => ⟨b, o, h6, pln_sl (cut_alike x N).imm rfl l 20 h h7⟩⟩
    | msl r p e off coff len =>
      simp only [belowV] at h
      obtain ⟨h0, b, root, n0, o0, h1, h2⟩ := hr
      exact ⟨h0, b, root, n0, o0, cut_get (Nat.blt_eq.mp h) h1, h2⟩
    | mapv r =>
      cases r with
      | none => exact hr
      | some r =>
        simp only [belowV] at h
        obtain ⟨b, k, e, h1, h2⟩ := hr
        exact ⟨b, k, e, cut_get (Nat.blt_eq.mp h) h1, h2⟩
    | func fn f cp =>
      obtain ⟨a, b, h1, h2, h3⟩ := hr
      simp only [belowV, Bool.and_eq_true] at h
      exact ⟨a, b, h1, relVs_map (fun p hp c hc => below_rel n p (allL_mem h.1 p hp) hc) h2, relVs_map (fun p hp c hc => below_rel n p (allL_mem h.2 p hp) hc) h3⟩
    | iface t v =>
      obtain ⟨c, h1, h2, h3, h4⟩ := hr
      simp only [belowV] at h
      exact ⟨c, below_rel n v h h1, h2, h3, h4⟩
    | tuple vs =>
      obtain ⟨a, h1, h2⟩ := hr
      simp only [belowV] at h
      exact ⟨a, h1, relVs_map (fun p hp c hc => below_rel n p (allL_mem h p hp) hc) h2⟩
    | agg t ps =>
      simp only [belowV] at h
      split at h
      · rename_i fs hu
        obtain ⟨k1, k2⟩ := rel_struct hr hu
        exact mk_struct hu k1 (relSt_map (fun p hp c hc => below_rel n p (allL_mem h p hp) hc) k2)
      · rename_i m e hu
        obtain ⟨k1, k2, k3⟩ := rel_array hr hu
        exact mk_array hu k1 k2 (flat_ar ps 20 h k3)
      · exact absurd h (by simp)
theorem below_relV {x : X} {N n : Nat} {v : AV} {c : Value} (h : belowV P n N v = true) (hr : relV P x v c) : relV P (x.cut N) v c := by
  obtain ⟨cs, h1, h2, h3⟩ := hr
  exact ⟨cs, h1, below_rel n v h h2, h3⟩
theorem relAr_map {x y : X} {e : TypeId} : ∀ {ps : List AV} {c : List Value}, (∀ p ∈ ps, ∀ c, rel P x p c → rel P y p c) → relAr P x e ps c → relAr P y e ps c
  | [], c, _, h => h
  | p :: ps, c, hk, h => by
    obtain ⟨c1, r, rfl, h1, h2, h3, h4⟩ := h
    exact ⟨c1, r, rfl, hk p (by simp) _ h1, h2, h3, relAr_map (fun q hq => hk q (by simp [hq])) h4⟩
theorem below_relM {x : X} {N : Nat} {k e : TypeId} : ∀ {es : List (AV × AV)} {ces : List MapEntry}, belowEs P N es = true → relM P x k e es ces → relM P (x.cut N) k e es ces
  | [], [], _, h => h
  | [], _ :: _, _, h => h.elim
  | _ :: _, [], _, h => h.elim
  | (a, v) :: es, c :: cs, hb, ⟨⟨h1, h2, h3, h4, h5⟩, h6⟩ => by
    simp only [belowEs, Bool.and_eq_true] at hb
    exact ⟨⟨below_relV hb.1.1 h1, h2, h3, below_relV hb.1.2 h4, h5⟩, below_relM hb.2 h6⟩
theorem below_row {x : X} {N b : Nat} {root : Root} {row : Row} (h : belowR P N row = true) (hr : RowOK P x b root row) : RowOK P (x.cut N) b root row := by
  cases row with
  | map k e es =>
    obtain ⟨h1, ces, clock, h2, h3⟩ := hr
    exact ⟨h1, ces, clock, h2, below_relM h h3⟩
  | var t v =>
    obtain ⟨cs, ty, h1, h2, h3, h4, h5⟩ := hr
    exact ⟨cs, ty, h1, h2, h3, below_rel 8 v h h4, h5⟩
  | arr e l =>
    obtain ⟨cs, ty, h1, h2, c, r, h3, h4⟩ := hr
    refine ⟨cs, ty, h1, h2, c, r, h3, ?_⟩
    simp only [belowR] at h
    split at h
    · rename_i hf; exact flat_ar l 20 hf h4
    · exact relAr_map (fun p hp c hc => below_rel 8 p (allL_mem h p hp) hc) h4
theorem belowRs_get {N : Nat} : ∀ {l : List Row} {i : Nat}, belowRs P N l = true → i < l.length → belowR P N (l.getD i (.arr 0 [])) = true
  | [], i, _, h => absurd h (by simp)
  | r :: rs, 0, h, _ => by simp only [belowRs, Bool.and_eq_true] at h; exact h.1
  | r :: rs, i + 1, h, hi => by
    simp only [belowRs, Bool.and_eq_true] at h
    rw [List.getD_cons_succ]
    exact belowRs_get h.2 (by simpa using hi)
end
section
variable {E : Env} {d : Nat} {g : G} {fr : Fr} {M : Mm} {a : Act} {w : World}
theorem xOf_cut (N : Nat) : xOf E (g.cut N) w = (xOf E g w).cut N := rfl
theorem mem_cutR {N r : Nat} {p : List Nat} : (r, p) ∈ (M.cut N).ro ↔ (r, p) ∈ M.ro ∧ r < N := by
  simp only [Mm.cut, List.mem_filter]
  exact ⟨fun h => ⟨h.1, Nat.blt_eq.mp h.2⟩, fun h => ⟨h.1, Nat.blt_eq.mpr h.2⟩⟩
theorem mem_cutF {N t : Nat} {f : TF} (h : (t, f) ∈ (fr.cut N).tf) : (t, f) ∈ fr.tf ∧ ∀ r p, f = .viaR r p → r < N := by
  simp only [Fr.cut, List.mem_filter] at h
  refine ⟨h.1, fun r p e => ?_⟩
  subst e
  exact Nat.blt_eq.mp h.2
theorem own_cut {N : Nat} {o : Onr} {e : TypeId} {v : Value} (h : OwnC E g w o e v) : OwnC E (g.cut N) w o e v := h
theorem Rel.cut (h : Rel E d g fr M a w) {N : Nat} (ht : allL (belowV E.P 8 N) fr.tmps = true) (hm : belowRs E.P N (M.rows.take N) = true) : Rel E d (g.cut N) (fr.cut N) (M.cut N) a w := by
  have hget : ∀ {r : Nat} {z : Nat × Root}, (g.cut N).rows[r]? = some z → g.rows[r]? = some z ∧ r < N := fun {r z} hz => by
    have hz : (g.rows.take N)[r]? = some z := hz
    rw [List.getElem?_take] at hz
    split at hz
    · rename_i hl; exact ⟨hz, hl⟩
    · exact absurd hz (by simp)
  have hput : ∀ {r : Nat} {z : Nat × Root}, g.rows[r]? = some z → r < N → (g.cut N).rows[r]? = some z := fun {r z} hz hl => by
    show (g.rows.take N)[r]? = _
    rw [List.getElem?_take_of_lt hl]; exact hz
  refine ⟨h.below, h.hN, h.fresh, h.size, fun i => ?_, ?_, fun r b root hr => ?_, fun r r' b root root' h1 h2 => h.inj r r' b root root' (hget h1).1 (hget h2).1, fun t ht' => ?_, fun t s ht' => ?_, fun t r p ht' => ?_, fun r p hr => ?_⟩
  · rw [xOf_cut]
    by_cases hi : i < fr.tmps.length
    · have hm' : fr.tmps.getD i .dead ∈ fr.tmps := by simp only [List.getD, List.getElem?_eq_getElem hi, Option.getD_some]; exact List.getElem_mem hi
      exact below_relV (allL_mem ht _ hm') (h.tmps i)
    · have : (fr.cut N).tmps.getD i .dead = .dead := by
        show fr.tmps.getD i .dead = _
        rw [List.getD, List.getElem?_eq_none (by omega)]; rfl
      rw [this]
      exact relV_dead _
  · show (g.rows.take N).length = (M.rows.take N).length
    rw [List.length_take, List.length_take, h.lenr]
  · obtain ⟨h1, h2⟩ := hget hr
    obtain ⟨k1, k2, k3, k4⟩ := h.rows r b root h1
    have hlt : r < M.rows.length := by rw [← h.lenr]; exact (List.getElem?_eq_some_iff.1 h1).1
    have hgd : (M.cut N).rows.getD r (.arr 0 []) = M.rows.getD r (.arr 0 []) := by
      show (M.rows.take N).getD r (.arr 0 []) = _
      simp only [List.getD, List.getElem?_take_of_lt h2]
    rw [xOf_cut, hgd]
    refine ⟨k1, k2, k3, below_row ?_ k4⟩
    have := belowRs_get hm (i := r) (by rw [List.length_take]; omega)
    simpa only [List.getD, List.getElem?_take_of_lt h2] using this
  · obtain ⟨e, l, ex, k1, k2⟩ := h.own t (mem_cutF ht').1
    exact ⟨e, l, ex, k1, own_cut k2⟩
  · obtain ⟨m1, m2⟩ := h.viaT t s (mem_cutF ht').1
    refine ⟨?_, m2⟩
    simp only [Fr.cut, List.mem_filter]
    exact ⟨m1, trivial⟩
  · obtain ⟨n1, n2⟩ := mem_cutF ht'
    obtain ⟨m1, e, l, ex, m2, b, root, ty, off, m3, m4, m5, m6⟩ := h.viaR t r p n1
    exact ⟨mem_cutR.2 ⟨m1, n2 r p rfl⟩, e, l, ex, m2, b, root, ty, off, hput m3 (n2 r p rfl), m4, m5, m6⟩
  · obtain ⟨n1, n2⟩ := mem_cutR.1 hr
    obtain ⟨b, root, ty, off, e, v, m1, m2, m3, m4, m5⟩ := h.ro r p n1
    exact ⟨b, root, ty, off, e, v, hput m1 n2, m2, m3, m4, own_cut m5⟩
theorem Ext.cut {g0 : G} {w0 : World} {N : Nat} (h : Ext E d g0 w0 g w) (hN : g0.rows.length ≤ N) : Ext E d g0 w0 (g.cut N) w :=
  ⟨fun r z hz => by
    have hl : r < N := Nat.lt_of_lt_of_le (List.getElem?_eq_some_iff.1 hz).1 hN
    show (g.rows.take N)[r]? = _
    rw [List.getElem?_take_of_lt hl]
    exact h.rows r z hz, h.st, h.cell, h.grow, h.size⟩
end
end Go.AE
