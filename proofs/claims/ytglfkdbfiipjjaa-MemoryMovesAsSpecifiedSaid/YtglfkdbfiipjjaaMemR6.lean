/- MemoryMovesAsSpecified: whatever its arguments (any two memories, any numbers, any text, any stores), the law returns true, changes nothing and does not panic. Conditions: none. -/
import Derived.Test.YtglfkdbfiipjjaaMem19
namespace Go.Proofs.Ytglfkdbfiipjjaa
open Go.AE

theorem calls6 (l : List AV) (h : HasL (fun v t => Has Try.checked.prog 8 t v) Try.f6.params.toList l) : CallsS Try.checked.prog 6 l (.bool true) := by
  have h0 : HasL (fun v t => Has Try.checked.prog 8 t v) [24, 3, 3, 3, 9, 50, 24] l := h
  obtain ⟨p0, r0, rfl, g0, h1⟩ := hasL_cons h0
  obtain ⟨p1, r1, rfl, g1, h2⟩ := hasL_cons h1
  obtain ⟨p2, r2, rfl, g2, h3⟩ := hasL_cons h2
  obtain ⟨p3, r3, rfl, g3, h4⟩ := hasL_cons h3
  obtain ⟨p4, r4, rfl, g4, h5⟩ := hasL_cons h4
  obtain ⟨p5, r5, rfl, g5, h6⟩ := hasL_cons h5
  obtain ⟨p6, r6, rfl, g6, h7⟩ := hasL_cons h6
  obtain rfl := hasL_nil h7
  obtain ⟨m, rfl, hm⟩ := has_mem g0
  obtain ⟨pg, rfl⟩ := has_i g1
  obtain ⟨a, rfl⟩ := has_i g2
  obtain ⟨n, rfl⟩ := has_i g3
  obtain ⟨t, rfl, _⟩ := has_str und9 g4
  obtain ⟨ws, rfl, _⟩ := has_slice und50 g5
  obtain ⟨o, rfl, ho⟩ := has_mem g6
  exact fnV_sound good_2 (loopsG 2) (law6_true m o ws pg a n t hm ho)
set_option maxRecDepth 100000 in
theorem lifted6 (os : Os) (started : os.Started) (H : Type) (enc : TypeId × Value → H) :
    ReturnsInHanded {} Try.checked os 6 .any (Rows.memoryMovesAsSpecifiedSpec.pre6 enc Try.checked.prog Try.f6 Rows.memoryMovesAsSpecifiedRow.domain false) (Rows.memoryMovesAsSpecifiedSpec.post enc Try.checked.prog Try.f6 false true false false) :=
  law_lifted (tb := 4) Try.own started (by kernel_rfl) Try.func6
    (ChangeSpec.witness6 (enc := enc) (C := Try.checked) false ⟨#[], #[.agg #[.slice none 0 0], .int .i64 0, .int .i64 0, .int .i64 0, .string ⟨#[]⟩, .slice none 0 0, .agg #[.slice none 0 0]], []⟩ 8 (by kernel_rfl) (by kernel_rfl) (by kernel_rfl) (by kernel_rfl))
    Try.laidOut rfl (by kernel_rfl) rfl und4 (fun ds hds => by
      match ds, hds with
      | [d0, d1, d2, d3, d4, d5, d6], _ => rfl) calls6
theorem memoryMovesAsSpecified_holds : Rows.MemoryMovesAsSpecifiedSaid :=
  OpenClaim.holds_of_wide 6 Try.f6 rfl rfl rfl rfl rfl rfl rfl ⟨rfl, rfl, rfl, rfl, rfl⟩ rfl rfl rfl rfl rfl (by kernel_rfl) Try.func6 (by kernel_rfl)
    (of_decide_eq_true (by kernel_rfl)) (by unfold Func.isWrapper; first | (rw [if_pos (by decide +kernel)]; kernel_rfl) | (rw [if_neg (by decide +kernel)]; exact ⟨rfl, rfl⟩))
    (fun os started H enc _ => lifted6 os started H enc)
end Go.Proofs.Ytglfkdbfiipjjaa
