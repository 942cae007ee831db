/- Operations on values: lengths, least and greatest, conversions, literals, assertions. -/
import Derived.Test.YtglfkdbfiipjjaaEv10
import Derived.Laws.MakeOwn
import Derived.Laws.Build
set_option linter.unusedVariables false
set_option linter.unusedSimpArgs false
namespace Go.AE
open Go.RowKit Go.Lib
section
variable {P : Program} {rows : List (Nat × Root)} {st : Nat → Nat → Prop} {w : World}

theorem yield_lenV {t ty : TypeId} {M : Mm} {x v : AV} {cx : Value} (h : lenV P t M x = some v) (hx : relV P (X.mk rows st w true) x cx) : Yield P rows st w (Builtin.len_ #[t] ty #[cx]) v := by
  unfold lenV at h
  split at h
  · split at h
    · rename_i hu
      obtain rfl := Option.some.inj h
      obtain rfl := relV_str.1 hx
      exact .of (c := .int .i64 _) (by simp [Builtin.len_, run_underlying hu]; rfl) (relV_int.2 (by simp [ByteArray.size]))
    · exact absurd h (by simp)
  · split at h
    · rename_i hu
      obtain rfl := Option.some.inj h
      obtain ⟨base, len, cap, rfl, rfl, _⟩ := relV_slice hx
      exact .of (by simp [Builtin.len_, run_underlying hu, goInt]) (relV_int.2 rfl)
    · exact absurd h (by simp)
  · split at h
    · rename_i hu
      obtain rfl := Option.some.inj h
      obtain ⟨b, root, n, o0, m1, m2, m3, m4, base, cap, m5, rfl, m6⟩ := relV_msl hx
      exact .of (by simp [Builtin.len_, run_underlying hu, goInt]) (relV_int.2 rfl)
    · exact absurd h (by simp)
  · split at h
    · rename_i hu
      obtain rfl := Option.some.inj h
      obtain ⟨c, rfl, _⟩ := relV_agg hx
      exact .of (by simp [Builtin.len_, run_underlying hu, goInt]) (relV_int.2 rfl)
    · exact absurd h (by simp)
  · exact absurd h (by simp)
theorem run_minV : ∀ {r : List AV} {x v : AV} {cx : Value} {cs : List Value}, minV x r = some v → relV P (X.mk rows st w true) x cx → relVs P (X.mk rows st w true) r cs → ∃ c, (cs.foldlM Builtin.min2 cx).run P w = .ok c w ∧ relV P (X.mk rows st w true) v c
  | [], x, v, cx, cs, h, hx, hr => by
    simp only [minV, Option.some.injEq] at h
    subst h
    simp only [relVs] at hr
    subst hr
    exact ⟨cx, by simp, hx⟩
  | y :: r, x, v, cx, cs, h, hx, hr => by
    obtain ⟨c, rs, rfl, h1, h2, h3⟩ := hr
    have hy : relV P (X.mk rows st w true) y (mkV y.isA c) := ⟨c, rfl, h1, h2⟩
    cases x <;> first | (exfalso; simp [minV] at h; done) | skip
    cases y <;> first | (exfalso; simp [minV] at h; done) | skip
    rename_i k a k' b
    simp only [minV] at h
    split at h
    · rename_i hk
      subst hk
      obtain rfl := relV_int.1 hx
      rw [relV_int.1 hy]
      obtain ⟨c', e1, e2⟩ := run_minV h (relV_int.2 rfl) h3
      exact ⟨c', by simpa [Builtin.min2] using e1, e2⟩
    · exact absurd h (by simp)
theorem run_maxV : ∀ {r : List AV} {x v : AV} {cx : Value} {cs : List Value}, maxV x r = some v → relV P (X.mk rows st w true) x cx → relVs P (X.mk rows st w true) r cs → ∃ c, (cs.foldlM Builtin.max2 cx).run P w = .ok c w ∧ relV P (X.mk rows st w true) v c
  | [], x, v, cx, cs, h, hx, hr => by
    simp only [maxV, Option.some.injEq] at h
    subst h
    simp only [relVs] at hr
    subst hr
    exact ⟨cx, by simp, hx⟩
  | y :: r, x, v, cx, cs, h, hx, hr => by
    obtain ⟨c, rs, rfl, h1, h2, h3⟩ := hr
    have hy : relV P (X.mk rows st w true) y (mkV y.isA c) := ⟨c, rfl, h1, h2⟩
    cases x <;> first | (exfalso; simp [maxV] at h; done) | skip
    cases y <;> first | (exfalso; simp [maxV] at h; done) | skip
    rename_i k a k' b
    simp only [maxV] at h
    split at h
    · rename_i hk
      subst hk
      obtain rfl := relV_int.1 hx
      rw [relV_int.1 hy]
      obtain ⟨c', e1, e2⟩ := run_maxV h (relV_int.2 rfl) h3
      exact ⟨c', by simpa [Builtin.max2] using e1, e2⟩
    · exact absurd h (by simp)

/-! ### conversions -/
theorem isU8_under {e : TypeId} (h : isU8 P e = true) : P.underlying e = some (.int .u8) := by
  unfold isU8 at h
  split at h
  · assumption
  · simp at h
theorem u8_of {x : X} {e : TypeId} {v : AV} {c : List Value} (he : isU8 P e = true) (hf : fits P e v = true) (hr : rel P x v c) : ∃ n : Int, v = .int .u8 n ∧ c = [.int .u8 n] := by
  have hu := isU8_under he
  cases v <;> simp_all [fits, leafOK, tyA]
  simpa [rel] using hr
theorem u8_list {x : X} {e : TypeId} (he : isU8 P e = true) : ∀ {l : List AV} {cs : List Value}, relAr P x e l cs → ∃ xs : List Int, l = xs.map (AV.int .u8) ∧ cs = xs.map (Value.int .u8)
  | [], cs, h => by simp only [relAr] at h; exact ⟨[], rfl, h⟩
  | v :: vs, cs, h => by
    obtain ⟨c, r, rfl, h1, h2, h3, h4⟩ := h
    obtain ⟨n, rfl, rfl⟩ := u8_of he h3 h1
    obtain ⟨xs, rfl, rfl⟩ := u8_list he h4
    exact ⟨n :: xs, rfl, rfl⟩
theorem bytes_map (xs : List Int) : (xs.map (AV.int .u8)).map byteOf = xs.map fun n => UInt8.ofNat n.toNat := by simp [byteOf, Function.comp_def]
theorem relAr_bytes {e : TypeId} (he : isU8 P e = true) (h1 : P.cellsOf e = 1) (s : List UInt8) {x : X} : relAr P x e (s.map byteAV) (s.map fun b => Value.int .u8 (b.toNat : Int)) := by
  have hu := isU8_under he
  induction s with
  | nil => rfl
  | cons b s ih => exact ⟨[.int .u8 b.toNat], _, rfl, rfl, by simp [h1], by simp [byteAV, fits, leafOK, tyA, hu], ih⟩
theorem yield_convV {src dst : TypeId} {M : Mm} {x v : AV} {cx : Value} (h : convV P src dst M x = some v) (hs : (P.underlying src).isSome = true) (hx : relV P (X.mk rows st w true) x cx) (hM : RowsOK P rows st w M) (hst : ∀ b o, w.heap.size ≤ b → st b o) :
    Yield P rows st w (convert src dst cx) v := by
  obtain ⟨ds, hds⟩ := Option.isSome_iff_exists.mp hs
  unfold convV at h
  split at h
  · rename_i k k' n hu
    obtain rfl := Option.some.inj h
    obtain rfl := relV_int.1 hx
    exact .of (by simp [convert, run_underlying hds, run_underlying hu, Conv.intToInt]) (relV_int.2 rfl)
  · rename_i s hu
    obtain rfl := Option.some.inj h
    obtain rfl := relV_str.1 hx
    exact .of (by simp [convert, run_underlying hds, run_underlying hu]) (relV_str.2 rfl)
  · rename_i e' l ex hu
    split at h
    · rename_i e hse
      split at h
      · rename_i hc
        simp only [Bool.and_eq_true] at hc
        have hee := Nat.eq_of_beq_eq_true hc.2
        subst hee
        obtain rfl := Option.some.inj h
        obtain ⟨base, len, cap, rfl, rfl, q1, q2, q3⟩ := relV_slice hx
        have hu8 := isU8_under hc.1
        rcases q3 with q3 | ⟨b, o, rfl, q3⟩
        · have : l = [] := List.eq_nil_of_length_eq_zero q3
          subst this
          refine .of (c := .string ⟨#[]⟩) ?_ (relV_str.2 rfl)
          cases base with
          | none => exact run_convert_bytes_nil w src e hse hu8 0 cap dst hu
          | some ad =>
            rw [run_convert_bytes_string w src dst e _ _ _ hse hu8 hu]
            simp [Conv.bytesToString, loadCells, loadCellsFrom]
            rfl
        · obtain ⟨cs, k1, k2⟩ := relSl_cells q3
          obtain ⟨xs, rfl, rfl⟩ := u8_list hc.1 k1
          refine .of (run_convert_bytes_arg w src e hse hu8 b o _ cap xs (by simp) (fun i hi => ?_) dst hu) ?_
          · simp only [List.length_map] at hi
            exact (k2 i _ (by rw [List.getElem?_map, List.getElem?_eq_getElem hi]; rfl)).2.trans (by simp [List.getD, hi])
          · rw [relV_str, bytes_map]; rfl
      · exact absurd h (by simp)
    · exact absurd h (by simp)
  · rename_i r p e' off coff len hu
    split at h
    · rename_i e hse
      split at h
      · rename_i hc
        simp only [Bool.and_eq_true] at hc
        have hee := Nat.eq_of_beq_eq_true hc.2
        subst hee
        obtain rfl := Option.some.inj h
        obtain ⟨b, root, n, o0, m1, m2, m3, m4, base, cap, m5, rfl, m6⟩ := relV_msl hx
        have hu8 := isU8_under hc.1
        by_cases hpos : 0 < len
        · obtain rfl := m6 hpos
          have hrow := hM r b root m1
          have hcells : ∃ cs ty, w.heap[b]? = some (.cells cs ty (0, 0)) ∧ RowC P (X.mk rows st w true) root (M.rows.getD r (.arr 0 [])) cs.toList := by
            rcases m2 with ⟨rfl, rfl, rfl⟩ | ⟨t, m2, _⟩
            · cases hr : M.rows.getD r (.arr 0 []) with
              | map k e es => rw [hr] at hrow; exact absurd hrow.1 (by simp)
              | var t v => rw [hr] at hrow; exact hrow
              | arr e l => rw [hr] at hrow; exact hrow
            · exact rowOK_cells hrow m2
          obtain ⟨cs, ty, k1, k2⟩ := hcells
          obtain ⟨hl, pre, c, post, e1, e2, e3, _⟩ := rowC_elems k2 m2
          have e4 := relAr_drop off (relAr_take (off + len) e3)
          obtain ⟨xs, hxs, hcs⟩ := u8_list hc.1 e4
          have hlen : xs.length = len := by
            have := congrArg List.length hxs
            simp only [List.length_drop, List.length_take, List.length_map, hl] at this
            omega
          have h1 : P.cellsOf e = 1 := by
            have h2 : ((M.rows.getD r (.arr 0 [])).elems p) ≠ [] := by
              intro h0
              rw [h0] at hl
              simp at hl; omega
            match hq : (M.rows.getD r (.arr 0 [])).elems p, h2 with
            | u :: us, _ =>
              rw [hq] at e3
              obtain ⟨c1, r1, _, g1, g2, g3, _⟩ := e3
              obtain ⟨n, rfl, rfl⟩ := u8_of hc.1 g3 g1
              simpa using g2.symm
          refine .of (run_convert_bytes_arg w src e hse hu8 b coff len cap xs hlen (fun i hi => ?_) dst hu) ?_
          · rw [cell_heap k1, ← Array.getElem?_toList, e1]
            have : ((c.take ((off + len) * P.cellsOf e)).drop (off * P.cellsOf e))[i]? = some (.int .u8 (xs.getD i 0)) := by
              rw [hcs, List.getElem?_map, List.getElem?_eq_getElem (by omega)]
              simp [List.getD, show i < xs.length by omega]
            rw [List.getElem?_drop, List.getElem?_take] at this
            split at this
            · rw [List.append_assoc, List.getElem?_append_right (by omega)]
              rw [m4, ← e2]
              have e5 : pre.length + off * P.cellsOf e + i - pre.length = off * P.cellsOf e + i := by omega
              rw [e5, List.getElem?_append_left (List.getElem?_eq_some_iff.1 this).1]
              exact this
            · exact absurd this (by simp)
          · rw [relV_str]
            show _ = Value.string ⟨(((sub _ off (off + len)).map byteOf)).toArray⟩
            unfold sub
            rw [hxs, bytes_map]; rfl
        · have h0 : len = 0 := by omega
          subst h0
          have hsub : sub ((M.rows.getD r (.arr 0 [])).elems p) off (off + 0) = [] := by simp [sub]
          rw [hsub]
          refine .of (c := .string ⟨#[]⟩) ?_ (relV_str.2 rfl)
          cases base with
          | none => exact run_convert_bytes_nil w src e hse hu8 0 cap dst hu
          | some ad =>
            rw [run_convert_bytes_string w src dst e _ _ _ hse hu8 hu]
            simp [Conv.bytesToString, loadCells, loadCellsFrom]
            rfl
      · exact absurd h (by simp)
    · exact absurd h (by simp)
  · rename_i e s hu
    split at h
    · rename_i hc
      simp only [Bool.and_eq_true] at hc
      obtain rfl := Option.some.inj h
      obtain rfl := relV_str.1 hx
      have hu8 := isU8_under hc.1
      have hc1 := Nat.eq_of_beq_eq_true hc.2
      have hsz : (ByteArray.mk s.toArray).size = s.length := by simp [ByteArray.size]
      refine ⟨_, _, run_convert_string_bytes w src dst e ⟨s.toArray⟩ hds hu hu8, ⟨rfl, rfl, rfl, by rw [bytesWorld_size]; omega, fun k hk => bytesWorld_at_old w e _ k hk⟩, relV_leaf ⟨_, _, _, rfl, by simp [hsz], ?_, fun e => by simp at e, ?_⟩ rfl⟩
      · exact grownCap_ge _ _ _ _
      · by_cases h0 : s.length = 0
        · exact .inl (hsz.trans h0)
        · refine .inr ⟨w.heap.size, 0, rfl, relSl_of (relAr_bytes hc.1 hc1 s) fun i v hv => ⟨hst _ _ (Nat.le_refl _), ?_⟩⟩
          have hi : i < s.length := by simpa using (List.getElem?_eq_some_iff.1 hv).1
          have := bytesWorld_cell w e ⟨s.toArray⟩ i (by rw [hsz]; exact hi)
          rw [Nat.zero_add]
          show (bytesWorld w e ⟨s.toArray⟩).cell? _ = _
          rw [this, ← hv]
          simp [hi, List.getD]
    · exact absurd h (by simp)
  · exact absurd h (by simp)
end
end Go.AE
