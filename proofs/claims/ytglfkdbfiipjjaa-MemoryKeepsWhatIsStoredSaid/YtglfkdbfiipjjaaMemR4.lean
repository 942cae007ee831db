/- MemoryKeepsWhatIsStored: whatever its arguments (any memory, any store, any numbers), the law returns true, changes nothing and does not panic. Conditions: none. -/
import Derived.Test.YtglfkdbfiipjjaaMem19
namespace Go.Proofs.Ytglfkdbfiipjjaa
open Go.AE

theorem calls4 (l : List AV) (h : HasL (fun v t => Has Try.checked.prog 8 t v) Try.f4.params.toList l) : CallsS Try.checked.prog 4 l (.bool true) := by
  have h0 : HasL (fun v t => Has Try.checked.prog 8 t v) [24, 27, 3, 3] l := h
  obtain ⟨p0, r0, rfl, g0, h1⟩ := hasL_cons h0
  obtain ⟨p1, r1, rfl, g1, h2⟩ := hasL_cons h1
  obtain ⟨p2, r2, rfl, g2, h3⟩ := hasL_cons h2
  obtain ⟨p3, r3, rfl, g3, h4⟩ := hasL_cons h3
  obtain rfl := hasL_nil h4
  obtain ⟨m, rfl, hm⟩ := has_mem g0
  obtain ⟨wa, ws, wv, rfl, w0, w1⟩ := has_write g1
  obtain ⟨a, rfl⟩ := has_i g2
  obtain ⟨s, rfl⟩ := has_i g3
  exact fnV_sound good_2 (loopsG 2) (law4_true m wa ws wv a s hm w0 w1)
set_option maxRecDepth 100000 in
theorem lifted4 (os : Os) (started : os.Started) (H : Type) (enc : TypeId × Value → H) :
    ReturnsInHanded {} Try.checked os 4 .any (Rows.memoryKeepsWhatIsStoredSpec.pre6 enc Try.checked.prog Try.f4 Rows.memoryKeepsWhatIsStoredRow.domain false) (Rows.memoryKeepsWhatIsStoredSpec.post enc Try.checked.prog Try.f4 false true false false) :=
  law_lifted (tb := 4) Try.own started (by kernel_rfl) Try.func4
    (ChangeSpec.witness6 (enc := enc) (C := Try.checked) false ⟨#[], #[.agg #[.slice none 0 0], .agg #[.int .i64 0, .int .i64 0, .int .u32 0], .int .i64 0, .int .i64 0], []⟩ 8 (by kernel_rfl) (by kernel_rfl) (by kernel_rfl) (by kernel_rfl))
    Try.laidOut rfl (by kernel_rfl) rfl und4 (fun ds hds => by
      match ds, hds with
      | [d0, d1, d2, d3], _ => rfl) calls4
theorem memoryKeepsWhatIsStored_holds : Rows.MemoryKeepsWhatIsStoredSaid :=
  OpenClaim.holds_of_wide 4 Try.f4 rfl rfl rfl rfl rfl rfl rfl ⟨rfl, rfl, rfl, rfl, rfl⟩ rfl rfl rfl rfl rfl (by kernel_rfl) Try.func4 (by kernel_rfl)
    (of_decide_eq_true (by kernel_rfl)) (by unfold Func.isWrapper; first | (rw [if_pos (by decide +kernel)]; kernel_rfl) | (rw [if_neg (by decide +kernel)]; exact ⟨rfl, rfl⟩))
    (fun os started H enc _ => lifted4 os started H enc)
end Go.Proofs.Ytglfkdbfiipjjaa
