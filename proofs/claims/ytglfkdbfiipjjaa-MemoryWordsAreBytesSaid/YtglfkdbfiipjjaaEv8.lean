/- Operations on values: addresses, loads, slices, strings and bytes. -/
import Derived.Test.YtglfkdbfiipjjaaEv7
set_option linter.unusedVariables false
set_option linter.unusedSimpArgs false
namespace Go.AE
open Go.RowKit
section
variable {P : Program} {rows : List (Nat × Root)} {st : Nat → Nat → Prop} {w : World}

/-! ### paths grow -/
theorem sizesTo_like {s t : TypeId} (h : P.underlying t = P.underlying s) (k : Nat) : sizesTo P t k = sizesTo P s k := by simp only [sizesTo, h]
theorem pathT_field : ∀ {p : List Nat} {t0 t : TypeId} {off k : Nat} {fs : Array Field} {f : Field}, PathT P p t0 t off → P.underlying t = some (.struct fs) → fs[k]? = some f → PathT P (p ++ [k]) t0 f.type (off + sizesTo P t k)
  | [], t0, t, off, k, fs, f, h, hu, hk => by
    obtain ⟨rfl, rfl⟩ := h
    simp only [List.nil_append]
    unfold PathT
    rw [hu]
    exact ⟨f, 0, hk, by simp, rfl, rfl⟩
  | j :: p, t0, t, off, k, fs, f, h, hu, hk => by
    simp only [List.cons_append]
    unfold PathT at h ⊢
    split at h
    · obtain ⟨f', off', h1, rfl, h3⟩ := h
      exact ⟨f', off' + sizesTo P t k, h1, by omega, pathT_field h3 hu hk⟩
    · obtain ⟨h1, off', rfl, h3⟩ := h
      exact ⟨h1, off' + sizesTo P t k, by omega, pathT_field h3 hu hk⟩
    · exact h.elim
theorem pathT_index : ∀ {p : List Nat} {t0 t : TypeId} {off i n : Nat} {e : TypeId}, PathT P p t0 t off → P.underlying t = some (.array n e) → i < n → PathT P (p ++ [i]) t0 e (off + i * P.cellsOf e)
  | [], t0, t, off, i, n, e, h, hu, hi => by
    obtain ⟨rfl, rfl⟩ := h
    simp only [List.nil_append]
    unfold PathT
    rw [hu]
    exact ⟨hi, 0, by simp, rfl, rfl⟩
  | j :: p, t0, t, off, i, n, e, h, hu, hi => by
    simp only [List.cons_append]
    unfold PathT at h ⊢
    split at h
    · obtain ⟨f', off', h1, rfl, h3⟩ := h
      exact ⟨f', off' + i * P.cellsOf e, h1, by omega, pathT_index h3 hu hi⟩
    · obtain ⟨h1, off', rfl, h3⟩ := h
      exact ⟨h1, off' + i * P.cellsOf e, by omega, pathT_index h3 hu hi⟩
    · exact h.elim
theorem pathR_field {root : Root} {p : List Nat} {t : TypeId} {off k : Nat} {fs : Array Field} {f : Field} (h : PathR P root p t off) (hu : P.underlying t = some (.struct fs)) (hk : fs[k]? = some f) : PathR P root (p ++ [k]) f.type (off + sizesTo P t k) := by
  cases root with
  | var t0 => exact pathT_field h hu hk
  | arr e n =>
    cases p with
    | nil => exact h.elim
    | cons j p =>
      obtain ⟨h1, off', rfl, h3⟩ := h
      exact ⟨h1, off' + sizesTo P t k, by omega, pathT_field h3 hu hk⟩
  | map => exact h.elim
theorem pathR_index {root : Root} {p : List Nat} {t : TypeId} {off i n : Nat} {e : TypeId} (h : PathR P root p t off) (hu : P.underlying t = some (.array n e)) (hi : i < n) : PathR P root (p ++ [i]) e (off + i * P.cellsOf e) := by
  cases root with
  | var t0 => exact pathT_index h hu hi
  | arr e' m =>
    cases p with
    | nil => exact h.elim
    | cons j p =>
      obtain ⟨h1, off', rfl, h3⟩ := h
      exact ⟨h1, off' + i * P.cellsOf e, by omega, pathT_index h3 hu hi⟩
  | map => exact h.elim
theorem pathC_index {root : Root} {p : List Nat} {e : TypeId} {n o0 i : Nat} (h : PathC P root p e n o0) (hi : i < n) : PathR P root (p ++ [i]) e (o0 + i * P.cellsOf e) := by
  rcases h with ⟨rfl, rfl, rfl⟩ | ⟨t, h, hu⟩
  · exact ⟨hi, 0, by simp, rfl, rfl⟩
  · exact pathR_index h hu hi

/-! ### addresses -/
theorem run_fieldAt {s : TypeId} {k b o : Nat} {fs : Array Field} {f : Field} (hu : P.underlying s = some (.struct fs)) (hk : fs[k]? = some f) (h0 : 0 < P.cellsOf f.type) :
    (Instr.fieldAt s (.pointer (some ⟨b, o, none⟩)) k).run P w = .ok (.pointer (some ⟨b, o + f.offset, none⟩)) w := by
  have hi : ∃ i, P.info? f.type = some i := by
    cases hi : P.info? f.type with
    | some i => exact ⟨i, rfl⟩
    | none => simp [Program.cellsOf, hi] at h0
  obtain ⟨i, hi⟩ := hi
  have hs := run_sizeOf w hi
  have hne : ¬ P.cellsOf f.type = 0 := by omega
  simp only [Instr.fieldAt, Sem.run_bind, run_underlying hu, Result.andThen_ok, hk, Instr.sureAddr, Sem.run_pure, fieldPlace, hs, Sem.run_ite, if_neg hne, Addr.add_lit]
theorem yield_fieldAddrV {s : TypeId} {x v : AV} {k : Nat} {cx : Value} (h : fieldAddrV P s x k = some v) (hx : relV P (X.mk rows st w true) x cx) : Yield P rows st w (Instr.fieldAt s cx k) v := by
  unfold fieldAddrV at h
  split at h
  · rename_i r p t off ft fo hf
    obtain ⟨fs, f, hu, hk, rfl, rfl⟩ := fieldOf_some hf
    split at h
    · rename_i hc
      simp only [Bool.and_eq_true] at hc
      obtain rfl := Option.some.inj h
      obtain ⟨b, root, h1, h2, rfl⟩ := relV_ptr hx
      have ho := Nat.eq_of_beq_eq_true hc.1.2
      have hu' := (like_under hc.1.1).trans hu
      refine .of (run_fieldAt hu hk (Nat.blt_eq.mp hc.2)) (relV_leaf ⟨b, root, h1, ?_, rfl⟩ rfl)
      have := pathR_field h2 hu' hk
      rwa [sizesTo_like (hu'.trans hu.symm), ho] at this
    · exact absurd h (by simp)
  · rename_i t u ps ft fo hf
    obtain ⟨fs, f, hu, hk, rfl, rfl⟩ := fieldOf_some hf
    split at h
    · rename_i hc
      simp only [Bool.and_eq_true] at hc
      obtain rfl := Option.some.inj h
      obtain ⟨b, o, c, rfl, hr, hl, hft, hat⟩ := relV_rptr hx
      have ho := Nat.eq_of_beq_eq_true hc.1.2
      have hr := (rel_struct hr ((like_under hc.1.1.2).trans hu)).2
      obtain ⟨pre, c1, post, rfl, h2, h3, h4, h5, _⟩ := relSt_get k f.type hr (fieldT hk)
      refine .of (run_fieldAt hu hk (Nat.blt_eq.mp hc.2)) (relV_leaf ⟨b, o + f.offset, c1, rfl, (eta_spec (fun _ => rfl) 8 _ _ _ h5 h3).2, h4, (eta_spec (fun _ => rfl) 8 _ _ _ h5 h3).1, fun i v hv => ?_⟩ rfl)
      have := hat (pre.length + i) v (by
        rw [List.append_assoc, List.getElem?_append_right (by omega), Nat.add_sub_cancel_left, List.getElem?_append_left (List.getElem?_eq_some_iff.1 hv).1]; exact hv)
      rwa [h2, ← sizesTo_eq hu, ho, ← Nat.add_assoc] at this
    · exact absurd h (by simp)
  · exact absurd h (by simp)
theorem inB_true {i : Int} {n : Nat} (h : inB i n = true) : 0 ≤ i ∧ i < (n : Int) ∧ i.toNat < n := by
  simp only [inB, Bool.and_eq_true, decide_eq_true_eq] at h
  exact ⟨h.1, h.2, by omega⟩
theorem run_sizeOf' {e : TypeId} {d : TypeDesc} (h : P.underlying e = some d) : (sizeOf e).run P w = .ok (P.cellsOf e) w := by
  obtain ⟨i, hi⟩ := info_of_underlying h
  exact run_sizeOf w hi
theorem yield_indexAddrV {t : TypeId} {x v : AV} {k : IntKind} {i : Int} {cx : Value} (h : indexAddrV P t x i = some (true, v)) (hx : relV P (X.mk rows st w true) x cx) (he : ∃ i, P.info? (elemT P t) = some i) : Yield P rows st w (Instr.indexAt t cx (.int k i)) v := by
  obtain ⟨ti, hti⟩ := he
  unfold indexAddrV at h
  split at h
  · rename_i e e' l ex hu
    split at h
    · rename_i hc
      have hee := Nat.eq_of_beq_eq_true hc
      subst hee
      simp only [Option.some.injEq, Prod.mk.injEq] at h
      obtain ⟨hb, rfl⟩ := h
      obtain ⟨h0, h1, h2⟩ := inB_true hb
      obtain ⟨base, len, cap, rfl, rfl, _, _, h5⟩ := relV_slice hx
      rcases h5 with h5 | ⟨b, o, rfl, h5⟩
      · omega
      · obtain ⟨c, k1, k2, k3, k4⟩ := relSl_get i.toNat h5 h2
        have hs : (sizeOf e).run P w = .ok (P.cellsOf e) w := by
          have : elemT P t = e := by simp [elemT, hu]
          rw [this] at hti
          exact run_sizeOf w hti
        refine .of (c := .pointer (some ⟨b, o + i.toNat * P.cellsOf e, none⟩)) ?_ (relV_leaf ⟨b, _, c, rfl, (eta_spec (fun _ => rfl) 8 _ _ _ k3 k1).2, k2, (eta_spec (fun _ => rfl) 8 _ _ _ k3 k1).1, k4⟩ rfl)
        simp only [Instr.indexAt, Sem.run_bind, asIntOf, Sem.run_pure, Result.andThen_ok, run_underlying hu]
        simp [h0, h1, hs, Addr.add_lit]
    · exact absurd h (by simp)
  · rename_i e r p e' off coff len hu
    split at h
    · rename_i hc
      have hee := Nat.eq_of_beq_eq_true hc
      subst hee
      simp only [Option.some.injEq, Prod.mk.injEq] at h
      obtain ⟨hb, rfl⟩ := h
      obtain ⟨h0, h1, h2⟩ := inB_true hb
      obtain ⟨b, root, n, o0, m1, m2, m3, m4, base, cap, m5, rfl, m6⟩ := relV_msl hx
      obtain rfl := m6 (by omega)
      have hs : (sizeOf e).run P w = .ok (P.cellsOf e) w := by
        have : elemT P t = e := by simp [elemT, hu]
        rw [this] at hti
        exact run_sizeOf w hti
      refine .of (c := .pointer (some ⟨b, coff + i.toNat * P.cellsOf e, none⟩)) ?_ (relV_leaf ⟨b, root, m1, ?_, rfl⟩ rfl)
      · simp only [Instr.indexAt, Sem.run_bind, asIntOf, Sem.run_pure, Result.andThen_ok, run_underlying hu]
        simp [h0, h1, hs, Addr.add_lit]
      · have := pathC_index m2 (i := off + i.toNat) (by omega)
        rwa [Nat.add_mul, ← Nat.add_assoc, ← m4] at this
    · exact absurd h (by simp)
  · rename_i n e r p t' off hu
    split at h
    · rename_i hc
      simp only [Option.some.injEq, Prod.mk.injEq] at h
      obtain ⟨hb, rfl⟩ := h
      obtain ⟨h0, h1, h2⟩ := inB_true hb
      obtain ⟨b, root, m1, m2, rfl⟩ := relV_ptr hx
      have hs : (sizeOf e).run P w = .ok (P.cellsOf e) w := by
        have : elemT P t = e := by simp [elemT, hu]
        rw [this] at hti
        exact run_sizeOf w hti
      refine .of (c := .pointer (some ⟨b, off + i.toNat * P.cellsOf e, none⟩)) ?_ (relV_leaf ⟨b, root, m1, pathR_index m2 ((like_under hc).trans hu) h2, rfl⟩ rfl)
      simp only [Instr.indexAt, Sem.run_bind, asIntOf, Sem.run_pure, Result.andThen_ok, run_underlying hu, Instr.sureAddr]
      simp [h0, h1, hs, Addr.add_lit]
    · exact absurd h (by simp)
  · rename_i n e t' u ps hu
    split at h
    · rename_i hc
      simp only [Bool.and_eq_true] at hc
      simp only [Option.some.injEq, Prod.mk.injEq] at h
      obtain ⟨hb, rfl⟩ := h
      obtain ⟨h0, h1, h2⟩ := inB_true hb
      obtain ⟨b, o, c, rfl, hr, hl, hft, hat⟩ := relV_rptr hx
      have hr := (rel_array hr ((like_under hc.2).trans hu)).2
      obtain ⟨pre, c1, post, rfl, k2, k3, k4, k5, _⟩ := relAr_get i.toNat hr.2 (by omega)
      have hs : (sizeOf e).run P w = .ok (P.cellsOf e) w := by
        have : elemT P t = e := by simp [elemT, hu]
        rw [this] at hti
        exact run_sizeOf w hti
      refine .of (c := .pointer (some ⟨b, o + i.toNat * P.cellsOf e, none⟩)) ?_ (relV_leaf ⟨b, _, c1, rfl, (eta_spec (fun _ => rfl) 8 _ _ _ k5 k3).2, k4, (eta_spec (fun _ => rfl) 8 _ _ _ k5 k3).1, fun j v hv => ?_⟩ rfl)
      · simp only [Instr.indexAt, Sem.run_bind, asIntOf, Sem.run_pure, Result.andThen_ok, run_underlying hu, Instr.sureAddr]
        simp [h0, h1, hs, Addr.add_lit]
      · have := hat (pre.length + j) v (by
          rw [List.append_assoc, List.getElem?_append_right (by omega), Nat.add_sub_cancel_left, List.getElem?_append_left (List.getElem?_eq_some_iff.1 hv).1]; exact hv)
        rwa [k2, ← Nat.add_assoc] at this
    · exact absurd h (by simp)
  · exact absurd h (by simp)
end
end Go.AE
