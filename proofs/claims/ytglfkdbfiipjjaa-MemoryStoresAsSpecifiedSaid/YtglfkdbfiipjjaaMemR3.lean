/- MemoryStoresAsSpecified: whatever its arguments (any memory, any numbers, any store), the law returns true, changes nothing and does not panic. Conditions: none. -/
import Derived.Test.YtglfkdbfiipjjaaMem14
namespace Go.Proofs.Ytglfkdbfiipjjaa
open Go.AE

theorem calls3 (l : List AV) (h : HasL (fun v t => Has Try.checked.prog 8 t v) Try.f3.params.toList l) : CallsS Try.checked.prog 3 l (.bool true) := by
  have h0 : HasL (fun v t => Has Try.checked.prog 8 t v) [24, 3, 3, 27] l := h
  obtain ⟨a0, r0, rfl, g1, h1⟩ := hasL_cons h0
  obtain ⟨a1, r1, rfl, g2, h2⟩ := hasL_cons h1
  obtain ⟨a2, r2, rfl, g3, h3⟩ := hasL_cons h2
  obtain ⟨a3, r3, rfl, g4, h4⟩ := hasL_cons h3
  obtain rfl := hasL_nil h4
  obtain ⟨m, rfl, hm⟩ := has_mem g1
  obtain ⟨a, rfl⟩ := has_i g2
  obtain ⟨s, rfl⟩ := has_i g3
  obtain ⟨wa, ws, wv, rfl, _⟩ := has_write g4
  exact fnV_sound good_2 (loopsG 2) (law3_true m a s wa ws wv hm)
set_option maxRecDepth 100000 in
theorem lifted3 (os : Os) (started : os.Started) (H : Type) (enc : TypeId × Value → H) :
    ReturnsInHanded {} Try.checked os 3 .any (Rows.memoryStoresAsSpecifiedSpec.pre6 enc Try.checked.prog Try.f3 Rows.memoryStoresAsSpecifiedRow.domain false) (Rows.memoryStoresAsSpecifiedSpec.post enc Try.checked.prog Try.f3 false true false false) :=
  law_lifted (tb := 4) Try.own started (by kernel_rfl) Try.func3
    (ChangeSpec.witness6 (enc := enc) (C := Try.checked) false ⟨#[], #[.agg #[.slice none 0 0], .int .i64 0, .int .i64 0, .agg #[.int .i64 0, .int .i64 0, .int .u32 0]], []⟩ 8 (by kernel_rfl) (by kernel_rfl) (by kernel_rfl) (by kernel_rfl))
    Try.laidOut rfl (by kernel_rfl) rfl und4 (fun ds hds => by
      match ds, hds with
      | [d0, d1, d2, d3], _ => rfl) calls3
theorem memoryStoresAsSpecified_holds : Rows.MemoryStoresAsSpecifiedSaid :=
  OpenClaim.holds_of_wide 3 Try.f3 rfl rfl rfl rfl rfl rfl rfl ⟨rfl, rfl, rfl, rfl, rfl⟩ rfl rfl rfl rfl rfl (by kernel_rfl) Try.func3 (by kernel_rfl)
    (of_decide_eq_true (by kernel_rfl)) (by unfold Func.isWrapper; first | (rw [if_pos (by decide +kernel)]; kernel_rfl) | (rw [if_neg (by decide +kernel)]; exact ⟨rfl, rfl⟩))
    (fun os started H enc _ => lifted3 os started H enc)
end Go.Proofs.Ytglfkdbfiipjjaa
