/- Operations on values: elements, loads, parts of slices and strings. -/
import Derived.Test.YtglfkdbfiipjjaaEv8
set_option linter.unusedVariables false
set_option linter.unusedSimpArgs false
namespace Go.AE
open Go.RowKit
section
variable {P : Program} {rows : List (Nat × Root)} {st : Nat → Nat → Prop} {w : World}

theorem getD_bytes {s : List UInt8} {i : Nat} (h : i < s.length) : (ByteArray.mk s.toArray)[i]? = some (s.getD i 0) := by
  have hs : i < (ByteArray.mk s.toArray).size := by simpa [ByteArray.size] using h
  rw [getElem?_pos (ByteArray.mk s.toArray) i hs]
  congr 1
  show (ByteArray.mk s.toArray).data[i] = _
  simp [List.getD, h]
theorem yield_indexV {t : TypeId} {x v : AV} {k : IntKind} {i : Int} {cx : Value} (h : indexV P t x i = some (true, v)) (hx : relV P (X.mk rows st w true) x cx) (he : ∃ i, P.info? (elemT P t) = some i) : Yield P rows st w (Instr.index t cx (.int k i)) v := by
  obtain ⟨ti, hti⟩ := he
  unfold indexV at h
  split at h
  · rename_i n e u ps hu
    split at h
    · rename_i hc
      simp only [Option.some.injEq, Prod.mk.injEq] at h
      obtain ⟨hb, rfl⟩ := h
      obtain ⟨h0, h1, h2⟩ := inB_true hb
      obtain ⟨c, rfl, hr⟩ := relV_agg hx
      have hr := (rel_array hr ((like_under hc).trans hu)).2
      obtain ⟨pre, c1, post, rfl, k2, k3, k4, k5, _⟩ := relAr_get i.toNat hr.2 (by omega)
      have hs : (sizeOf e).run P w = .ok (P.cellsOf e) w := by
        have : elemT P t = e := by simp [elemT, hu]
        rw [this] at hti
        exact run_sizeOf w hti
      have e1 := run_part (w := w) (cs := (pre ++ c1 ++ post).toArray) (pre := pre) (c := c1) (post := post) (off := i.toNat * P.cellsOf e) (by simp) k2 k5 k3 k4
      refine .of ?_ (relV_eta (fun h => absurd h (by simp)) k5 (relV_of k5 k3))
      simp only [Instr.index, Sem.run_bind, asIntOf, Sem.run_pure, Result.andThen_ok, run_underlying hu, Sem.run_ite, if_pos (show 0 ≤ i ∧ i < (n : Int) from ⟨h0, h1⟩), hs, e1]
    · exact absurd h (by simp)
  · rename_i s hu
    simp only [Option.some.injEq, Prod.mk.injEq] at h
    obtain ⟨hb, rfl⟩ := h
    obtain ⟨h0, h1, h2⟩ := inB_true hb
    obtain rfl := relV_str.1 hx
    refine .of (c := .int .u8 ((s.getD i.toNat 0).toNat : Int)) ?_ (relV_int.2 rfl)
    simp only [Instr.index, Sem.run_bind, asIntOf, Sem.run_pure, Result.andThen_ok, run_underlying hu, if_pos h0, getD_bytes h2]
  · exact absurd h (by simp)

/-! ### loads -/
theorem fits_like {t' t : TypeId} {u : AV} (hc : likeT P t' t = true) (hft : fits P t' u = true) : fits P t u = true := by
  cases u with
  | agg s ps =>
    have := tyA_agg hft
    simp only [fits, Bool.and_eq_true, ← like_tyA hc, this.2, and_true]
    simp only [likeT, Bool.and_eq_true] at this hc ⊢
    exact ⟨by rw [Nat.eq_of_beq_eq_true this.1.1, Nat.eq_of_beq_eq_true hc.1]; simp, by rw [Nat.eq_of_beq_eq_true this.1.2, Nat.eq_of_beq_eq_true hc.2]; simp⟩
  | _ => simp only [fits, leafOK, like_under hc, like_tyA hc] at hft ⊢; exact hft
theorem run_loadVar {x : X} {t : TypeId} {b o : Nat} {v : AV} {c : List Value} (hf : fits P t v = true) (hr : rel P x v c) (hl : c.length = P.cellsOf t) (hc : ∀ i u, c[i]? = some u → w.cell? ⟨b, o + i, none⟩ = some u) :
    (loadVar t ⟨b, o, none⟩).run P w = .ok (mkV v.isA c) w := by
  obtain ⟨d, hu⟩ := fits_under hf
  have hA := fits_isA hf
  have hagg : (isAgg t).run P w = .ok (tyA P t) w := by
    unfold isAgg tyA
    rw [Sem.run_bind, run_underlying hu w, hu]
    cases d <;> rfl
  unfold loadVar
  rw [Sem.run_bind, hagg, Result.andThen_ok, hA]
  cases hA' : tyA P t with
  | true =>
    have := run_loadCells_list (P := P) w ⟨b, o, none⟩ c (fun j u hu => by rw [Addr.add_lit]; exact hc j u hu)
    simp only [if_true, Sem.run_bind, run_sizeOf' hu, Result.andThen_ok, ← hl, this, Sem.run_pure, mkV]
  | false =>
    have h1 := fits_one hf hr (by rw [hA, hA'])
    match c, h1 with
    | [u], _ =>
      have := hc 0 u (by simp)
      simp only [Nat.add_zero] at this
      simp [run_load, this, mkV]
/-- What the rows hold lies in their blocks. -/
def RowsOK (P : Program) (rows : List (Nat × Root)) (st : Nat → Nat → Prop) (w : World) (M : Mm) : Prop :=
  ∀ (r b : Nat) (root : Root), rows[r]? = some (b, root) → RowOK P ⟨rows, st, w, true⟩ b root (M.rows.getD r (.arr 0 []))
theorem rowOK_cells {x : X} {b : Nat} {root : Root} {row : Row} {p : List Nat} {t : TypeId} {off : Nat} (h : RowOK P x b root row) (hp : PathR P root p t off) :
    ∃ cs ty, x.w.heap[b]? = some (.cells cs ty (0, 0)) ∧ RowC P x root row cs.toList := by
  cases row with
  | map k e es =>
    obtain ⟨rfl, _⟩ := h
    exact hp.elim
  | var t v => exact h
  | arr e l => exact h
theorem cell_heap {b o : Nat} {cs : Array Value} {ty : TypeId} {fr : Nat × Nat} (h : w.heap[b]? = some (.cells cs ty fr)) : w.cell? ⟨b, o, none⟩ = cs[o]? := by simp [World.cell?, h]
theorem yield_loadV {t : TypeId} {M : Mm} {x v : AV} {cx : Value} (h : loadV P M t x = some v) (hx : relV P (X.mk rows st w true) x cx) (hM : RowsOK P rows st w M) : Yield P rows st w (Instr.loadAt t cx) v := by
  unfold loadV at h
  split at h
  · rename_i t' u
    split at h
    · rename_i hc
      obtain rfl := Option.some.inj h
      obtain ⟨b, o, c, rfl, hr, hl, hft, hat⟩ := relV_rptr hx
      have hf := fits_like hc hft
      have := run_loadVar (w := w) (b := b) (o := o) hf hr (by rw [hl, like_cells hc]) (fun i u hu => (hat i u hu).2)
      exact .of (by simp only [Instr.loadAt, Sem.run_bind, Instr.sureAddr, Sem.run_pure, Result.andThen_ok, this]) (relV_of hf (rel_le (imm_le _) _ _ hr))
    · exact absurd h (by simp)
  · rename_i r p t' off
    split at h
    · rename_i hc
      obtain rfl := Option.some.inj h
      obtain ⟨b, root, h1, h2, rfl⟩ := relV_ptr hx
      obtain ⟨cs, ty, k1, k2⟩ := rowOK_cells (hM r b root h1) h2
      obtain ⟨pre, c, post, e1, e2, e3, e4, e5, _⟩ := rowC_path k2 h2
      generalize hu : (M.rows.getD r (.arr 0 [])).get p = u at *
      have hf := fits_like hc e5
      have := run_loadVar (w := w) (b := b) (o := off) hf e3 (by rw [e4, like_cells hc]) (fun i u hu => by
        rw [cell_heap k1, ← Array.getElem?_toList, e1, List.append_assoc, ← e2, List.getElem?_append_right (by omega), Nat.add_sub_cancel_left, List.getElem?_append_left (List.getElem?_eq_some_iff.1 hu).1]
        exact hu)
      exact .of (by simp only [Instr.loadAt, Sem.run_bind, Instr.sureAddr, Sem.run_pure, Result.andThen_ok, this]) (relV_eta (fun h => absurd h (by simp)) hf (relV_of hf e3))
    · exact absurd h (by simp)
  · exact absurd h (by simp)
end
end Go.AE
