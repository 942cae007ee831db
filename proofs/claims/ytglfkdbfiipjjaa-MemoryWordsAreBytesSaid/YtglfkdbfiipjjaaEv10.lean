/- Operations on values: slice expressions, lengths, conversions. -/
import Derived.Test.YtglfkdbfiipjjaaEv9
import Derived.Laws.Slices
set_option linter.unusedVariables false
set_option linter.unusedSimpArgs false
namespace Go.AE
open Go.RowKit
section
variable {P : Program} {rows : List (Nat × Root)} {st : Nat → Nat → Prop} {w : World}

def relO (P : Program) (x : X) : Option AV → Option Value → Prop
  | none, none => True
  | some a, some v => relV P x a v
  | _, _ => False
theorem run_sliceBound {k : IntKind} {i : Int} {y : Nat} {code : BoundsCode} (h0 : 0 ≤ i) (h1 : i ≤ (y : Int)) : (Instr.sliceBound (.int k i) y code).run P w = .ok i.toNat w := by
  simp [Instr.sliceBound, asIntOf, h0, h1]
theorem run_bounds {isS : Bool} {len cap a b : Nat} {lo hi : Option AV} {clo chi : Option Value} (h : bnd lo hi len = some (true, a, b)) (h1 : relO P (X.mk rows st w true) lo clo) (h2 : relO P (X.mk rows st w true) hi chi) (hc : len ≤ cap) :
    (Instr.sliceBounds isS len cap clo chi none).run P w = .ok (a, b, cap) w ∧ a ≤ b ∧ b ≤ len ∧ (hi = none → b = len) := by
  unfold bnd at h
  split at h
  · simp only [Option.some.injEq, Prod.mk.injEq, true_and] at h
    obtain ⟨rfl, rfl⟩ := h
    cases clo with
    | some v => exact h1.elim
    | none => cases chi with
      | some v => exact h2.elim
      | none => exact ⟨by simp [Instr.sliceBounds], by omega, by omega, fun _ => rfl⟩
  · rename_i k i
    simp only [Option.some.injEq, Prod.mk.injEq, Bool.and_eq_true, decide_eq_true_eq] at h
    obtain ⟨⟨g0, g1⟩, rfl, rfl⟩ := h
    cases clo with
    | none => exact h1.elim
    | some v => cases chi with
      | some v => exact h2.elim
      | none =>
        obtain rfl := relV_int.1 h1
        exact ⟨by simp [Instr.sliceBounds, run_sliceBound g0 g1], by omega, by omega, fun _ => rfl⟩
  · rename_i k i
    simp only [Option.some.injEq, Prod.mk.injEq, Bool.and_eq_true, decide_eq_true_eq] at h
    obtain ⟨⟨g0, g1⟩, rfl, rfl⟩ := h
    cases clo with
    | some v => exact h1.elim
    | none => cases chi with
      | none => exact h2.elim
      | some v =>
        obtain rfl := relV_int.1 h2
        have g2 : i ≤ (cap : Int) := by omega
        exact ⟨by simp [Instr.sliceBounds, run_sliceBound g0 g2], by omega, by omega, fun e => by simp at e⟩
  · rename_i k i k' j
    simp only [Option.some.injEq, Prod.mk.injEq, Bool.and_eq_true, decide_eq_true_eq] at h
    obtain ⟨⟨⟨g0, g1⟩, g2⟩, rfl, rfl⟩ := h
    cases clo with
    | none => exact h1.elim
    | some v => cases chi with
      | none => exact h2.elim
      | some u =>
        obtain rfl := relV_int.1 h1
        obtain rfl := relV_int.1 h2
        have g3 : j ≤ (cap : Int) := by omega
        have g4 : i ≤ ((j.toNat : Nat) : Int) := by omega
        exact ⟨by simp [Instr.sliceBounds, run_sliceBound (show 0 ≤ j by omega) g3, run_sliceBound g0 g4], by omega, by omega, fun e => by simp at e⟩
  · exact absurd h (by simp)
theorem run_bounds3 {isS : Bool} {len cap a b : Nat} {lo : Option AV} {k k' : IntKind} {j c : Int} {clo : Option Value} (h : bnd lo (some (.int k j)) len = some (true, a, b)) (he : j = c) (h1 : relO P (X.mk rows st w true) lo clo) (hc : len ≤ cap) :
    (Instr.sliceBounds isS len cap clo (some (.int k j)) (some (.int k' c))).run P w = .ok (a, b, b) w ∧ a ≤ b ∧ b ≤ len := by
  subst he
  unfold bnd at h
  split at h
  · rename_i h3 h4; simp at h4
  · rename_i h3 h4; simp at h4
  · rename_i k2 i h4
    simp only [Option.some.injEq, AV.int.injEq] at h4
    obtain ⟨rfl, rfl⟩ := h4
    simp only [Option.some.injEq, Prod.mk.injEq, Bool.and_eq_true, decide_eq_true_eq] at h
    obtain ⟨⟨g0, g1⟩, rfl, rfl⟩ := h
    cases clo with
    | some v => exact h1.elim
    | none =>
      have g2 : j ≤ (cap : Int) := by omega
      have g3 : j ≤ ((j.toNat : Nat) : Int) := by omega
      exact ⟨by simp [Instr.sliceBounds, run_sliceBound g0 g2, run_sliceBound g0 g3], by omega, by omega⟩
  · rename_i k1 i k2 i' h4
    simp only [Option.some.injEq, AV.int.injEq] at h4
    obtain ⟨rfl, rfl⟩ := h4
    simp only [Option.some.injEq, Prod.mk.injEq, Bool.and_eq_true, decide_eq_true_eq] at h
    obtain ⟨⟨⟨g0, g1⟩, g2⟩, rfl, rfl⟩ := h
    cases clo with
    | none => exact h1.elim
    | some v =>
      obtain rfl := relV_int.1 h1
      have q0 : 0 ≤ j := by omega
      have q1 : j ≤ (cap : Int) := by omega
      have q2 : j ≤ ((j.toNat : Nat) : Int) := by omega
      have q3 : i ≤ ((j.toNat : Nat) : Int) := by omega
      exact ⟨by simp [Instr.sliceBounds, run_sliceBound q0 q1, run_sliceBound q0 q2, run_sliceBound g0 q3], by omega, by omega⟩
  · exact absurd h (by simp)
theorem relSl_sub {e : TypeId} {b o : Nat} {l : List AV} {x : X} (h : relSl P x e b o l) (i j : Nat) : relSl P x e b (o + i * P.cellsOf e) (sub l i j) := relSl_drop i (relSl_take j h)
theorem length_sub {α : Type} {l : List α} {i j : Nat} (h : j ≤ l.length) : (sub l i j).length = j - i := by simp [sub]; omega
theorem extract_bytes (s : List UInt8) (i j : Nat) : (ByteArray.mk s.toArray).extract i j = ByteArray.mk (sub s i j).toArray := by
  apply ByteArray.ext
  apply Array.ext'
  simp [sub, List.extract]
  rw [List.drop_take]
theorem yield_sliceV {t : TypeId} {x v : AV} {lo hi mx : Option AV} {cx : Value} {clo chi cmx : Option Value} (h : sliceV P t x lo hi mx = some (true, v)) (hx : relV P (X.mk rows st w true) x cx)
    (h1 : relO P (X.mk rows st w true) lo clo) (h2 : relO P (X.mk rows st w true) hi chi) (h3 : relO P (X.mk rows st w true) mx cmx) (he : ∃ i, P.info? (elemT P t) = some i) : Yield P rows st w (Instr.sliceAt t cx clo chi cmx) v := by
  obtain ⟨ti, hti⟩ := he
  unfold sliceV at h
  split at h
  · rename_i s hu
    cases cmx with
    | some v => exact h3.elim
    | none =>
      split at h
      · rename_i ok i j hb
        simp only [Option.some.injEq, Prod.mk.injEq] at h
        obtain ⟨rfl, rfl⟩ := h
        obtain rfl := relV_str.1 hx
        have hsz : (ByteArray.mk s.toArray).size = s.length := by simp [ByteArray.size]
        obtain ⟨g1, g2, g3, _⟩ := run_bounds (rows := rows) (st := st) (w := w) (isS := false) hb h1 h2 (Nat.le_refl _)
        refine .of (c := .string ⟨(sub s i j).toArray⟩) ?_ (relV_str.2 rfl)
        rw [run_sliceAt_string w t _ _ _ _ hu]
        simp [Instr.slice, run_underlying hu, hsz, g1, extract_bytes]
      · exact absurd h (by simp)
  · rename_i e e' l ex hu
    split at h
    · rename_i hc
      have hee := Nat.eq_of_beq_eq_true hc
      subst hee
      cases cmx with
      | some v => exact h3.elim
      | none =>
        split at h
        · rename_i ok i j hb
          simp only [Option.some.injEq, Prod.mk.injEq] at h
          obtain ⟨rfl, rfl⟩ := h
          obtain ⟨base, len, cap, rfl, rfl, q1, q2, q3⟩ := relV_slice hx
          obtain ⟨g1, g2, g3, g4⟩ := run_bounds (rows := rows) (st := st) (w := w) (isS := true) hb h1 h2 q1
          have hs : (sizeOf e).run P w = .ok (P.cellsOf e) w := by
            have : elemT P t = e := by simp [elemT, hu]
            rw [this] at hti
            exact run_sizeOf w hti
          refine .of (c := .slice (if cap = i then base else base.map (·.add (i * P.cellsOf e))) (j - i) (cap - i)) ?_ (relV_leaf ⟨_, _, _, rfl, (length_sub g3).symm, by omega, ?_, ?_⟩ rfl)
          · simp [Instr.sliceAt, Instr.slice, run_underlying hu, g1, hs]
          · intro hx'
            simp only [Bool.and_eq_true, Option.isNone_iff_eq_none] at hx'
            have := q2 hx'.1
            have := g4 hx'.2
            omega
          · rcases q3 with q3 | ⟨b, o, rfl, q3⟩
            · exact .inl (by omega)
            · by_cases hci : cap = i
              · exact .inl (by omega)
              · refine .inr ⟨b, o + i * P.cellsOf e, ?_, relSl_sub q3 i j⟩
                simp [hci, Addr.add_lit]
        · exact absurd h (by simp)
    · exact absurd h (by simp)
  · rename_i e e' l ex k c hu
    split at h
    · rename_i hc
      have hee := Nat.eq_of_beq_eq_true hc
      subst hee
      split at h
      · rename_i k' j
        split at h
        · rename_i ok i j' hb
          simp only [Option.some.injEq, Prod.mk.injEq, Bool.and_eq_true, decide_eq_true_eq] at h
          obtain ⟨⟨rfl, hjc⟩, rfl⟩ := h
          cases cmx with
          | none => exact h3.elim
          | some cm =>
            obtain rfl := relV_int.1 h3
            cases chi with
            | none => exact h2.elim
            | some ch =>
              obtain rfl := relV_int.1 h2
              obtain ⟨base, len, cap, rfl, rfl, q1, q2, q3⟩ := relV_slice hx
              obtain ⟨g1, g2, g3⟩ := run_bounds3 (rows := rows) (st := st) (w := w) (isS := true) (k' := k) hb hjc h1 q1
              have hs : (sizeOf e).run P w = .ok (P.cellsOf e) w := by
                have : elemT P t = e := by simp [elemT, hu]
                rw [this] at hti
                exact run_sizeOf w hti
              refine .of (c := .slice (if j' = i then base else base.map (·.add (i * P.cellsOf e))) (j' - i) (j' - i)) ?_ (relV_leaf ⟨_, _, _, rfl, (length_sub g3).symm, by omega, fun _ => rfl, ?_⟩ rfl)
              · simp [Instr.sliceAt, Instr.slice, run_underlying hu, g1, hs]
              · rcases q3 with q3 | ⟨b, o, rfl, q3⟩
                · exact .inl (by omega)
                · by_cases hci : j' = i
                  · exact .inl (by omega)
                  · refine .inr ⟨b, o + i * P.cellsOf e, ?_, relSl_sub q3 i j'⟩
                    simp [hci, Addr.add_lit]
        · exact absurd h (by simp)
      · exact absurd h (by simp)
    · exact absurd h (by simp)
  · rename_i e r p e' off coff len hu
    split at h
    · rename_i hc
      have hee := Nat.eq_of_beq_eq_true hc
      subst hee
      cases cmx with
      | some v => exact h3.elim
      | none =>
        split at h
        · rename_i ok i j hb
          simp only [Option.some.injEq, Prod.mk.injEq] at h
          obtain ⟨rfl, rfl⟩ := h
          obtain ⟨b, root, n, o0, m1, m2, m3, m4, base, cap, m5, rfl, m6⟩ := relV_msl hx
          obtain ⟨g1, g2, g3, g4⟩ := run_bounds (rows := rows) (st := st) (w := w) (isS := true) hb h1 h2 m5
          have hs : (sizeOf e).run P w = .ok (P.cellsOf e) w := by
            have : elemT P t = e := by simp [elemT, hu]
            rw [this] at hti
            exact run_sizeOf w hti
          refine .of (c := .slice (if cap = i then base else base.map (·.add (i * P.cellsOf e))) (j - i) (cap - i)) ?_
            (relV_leaf ⟨rfl, b, root, n, o0, m1, m2, by omega, by rw [m4, Nat.add_mul, Nat.add_assoc], _, _, ?_, rfl, ?_⟩ rfl)
          · simp [Instr.sliceAt, Instr.slice, run_underlying hu, g1, hs]
          · omega
          · intro hpos
            have : ¬ cap = i := by omega
            rw [m6 (by omega)]
            simp [this, Addr.add_lit]
        · exact absurd h (by simp)
    · exact absurd h (by simp)
  · rename_i n e r p t' off hu
    split at h
    · rename_i hc
      cases cmx with
      | some v => exact h3.elim
      | none =>
        split at h
        · rename_i ok i j hb
          simp only [Option.some.injEq, Prod.mk.injEq] at h
          obtain ⟨rfl, rfl⟩ := h
          obtain ⟨b, root, m1, m2, rfl⟩ := relV_ptr hx
          obtain ⟨g1, g2, g3, g4⟩ := run_bounds (rows := rows) (st := st) (w := w) (isS := false) hb h1 h2 (Nat.le_refl _)
          have hs : (sizeOf e).run P w = .ok (P.cellsOf e) w := by
            have : elemT P t = e := by simp [elemT, hu]
            rw [this] at hti
            exact run_sizeOf w hti
          refine .of (c := .slice (some (if n = i then ⟨b, off, none⟩ else (⟨b, off, none⟩ : Addr).add (i * P.cellsOf e))) (j - i) (n - i)) ?_
            (relV_leaf ⟨rfl, b, root, n, off, m1, .inr ⟨t', m2, (like_under hc).trans hu⟩, by omega, rfl, _, _, ?_, rfl, ?_⟩ rfl)
          · simp [Instr.sliceAt, run_underlying hu, Instr.sureAddr, g1, hs]
          · omega
          · intro hpos
            have : ¬ n = i := by omega
            simp [this, Addr.add_lit]
        · exact absurd h (by simp)
    · exact absurd h (by simp)
  · rename_i n e t' u ps hu
    split at h
    · rename_i hc
      simp only [Bool.and_eq_true] at hc
      cases cmx with
      | some v => exact h3.elim
      | none =>
        split at h
        · rename_i ok i j hb
          simp only [Option.some.injEq, Prod.mk.injEq] at h
          obtain ⟨rfl, rfl⟩ := h
          obtain ⟨b, o, c, rfl, hr, hl, hft, hat⟩ := relV_rptr hx
          have hr := (rel_array hr ((like_under hc.2).trans hu)).2
          obtain ⟨g1, g2, g3, g4⟩ := run_bounds (rows := rows) (st := st) (w := w) (isS := false) hb h1 h2 (Nat.le_refl _)
          have hs : (sizeOf e).run P w = .ok (P.cellsOf e) w := by
            have : elemT P t = e := by simp [elemT, hu]
            rw [this] at hti
            exact run_sizeOf w hti
          refine .of (c := .slice (some (if n = i then ⟨b, o, none⟩ else (⟨b, o, none⟩ : Addr).add (i * P.cellsOf e))) (j - i) (n - i)) ?_
            (relV_leaf ⟨_, _, _, rfl, (length_sub (by omega)).symm, by omega, fun e => by simp at e, ?_⟩ rfl)
          · simp [Instr.sliceAt, run_underlying hu, Instr.sureAddr, g1, hs]
          · by_cases hci : n = i
            · exact .inl (by omega)
            · exact .inr ⟨b, o + i * P.cellsOf e, by simp [hci, Addr.add_lit], relSl_sub (relSl_of hr.2 hat) i j⟩
        · exact absurd h (by simp)
    · exact absurd h (by simp)
  · exact absurd h (by simp)
end
end Go.AE
