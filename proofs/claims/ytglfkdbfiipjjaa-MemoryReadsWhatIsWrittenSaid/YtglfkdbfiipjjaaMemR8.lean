/- MemoryReadsWhatIsWritten: whatever its arguments (any memory, any number, any text, any numbers of 16 bits), the law returns true, changes nothing and does not panic. Conditions: none. -/
import Derived.Test.YtglfkdbfiipjjaaMem19
namespace Go.Proofs.Ytglfkdbfiipjjaa
open Go.AE

theorem calls8 (l : List AV) (h : HasL (fun v t => Has Try.checked.prog 8 t v) Try.f8.params.toList l) : CallsS Try.checked.prog 8 l (.bool true) := by
  have h0 : HasL (fun v t => Has Try.checked.prog 8 t v) [24, 3, 9, 68, 68] l := h
  obtain ⟨p0, r0, rfl, g0, h1⟩ := hasL_cons h0
  obtain ⟨p1, r1, rfl, g1, h2⟩ := hasL_cons h1
  obtain ⟨p2, r2, rfl, g2, h3⟩ := hasL_cons h2
  obtain ⟨p3, r3, rfl, g3, h4⟩ := hasL_cons h3
  obtain ⟨p4, r4, rfl, g4, h5⟩ := hasL_cons h4
  obtain rfl := hasL_nil h5
  obtain ⟨m, rfl, hm⟩ := has_mem g0
  obtain ⟨a, rfl⟩ := has_i g1
  obtain ⟨t, rfl, _⟩ := has_str und9 g2
  obtain ⟨x, rfl, x0, x1⟩ := has_u16 g3
  obtain ⟨n, rfl, n0, n1⟩ := has_u16 g4
  exact fnV_sound good_2 (loopsG 2) (law8_true m a t x n hm x0 x1 n0 n1)
set_option maxRecDepth 100000 in
theorem lifted8 (os : Os) (started : os.Started) (H : Type) (enc : TypeId × Value → H) :
    ReturnsInHanded {} Try.checked os 8 .any (Rows.memoryReadsWhatIsWrittenSpec.pre6 enc Try.checked.prog Try.f8 Rows.memoryReadsWhatIsWrittenRow.domain false) (Rows.memoryReadsWhatIsWrittenSpec.post enc Try.checked.prog Try.f8 false true false false) :=
  law_lifted (tb := 4) Try.own started (by kernel_rfl) Try.func8
    (ChangeSpec.witness6 (enc := enc) (C := Try.checked) false ⟨#[], #[.agg #[.slice none 0 0], .int .i64 0, .string ⟨#[]⟩, .int .u16 0, .int .u16 0], []⟩ 8 (by kernel_rfl) (by kernel_rfl) (by kernel_rfl) (by kernel_rfl))
    Try.laidOut rfl (by kernel_rfl) rfl und4 (fun ds hds => by
      match ds, hds with
      | [d0, d1, d2, d3, d4], _ => rfl) calls8
theorem memoryReadsWhatIsWritten_holds : Rows.MemoryReadsWhatIsWrittenSaid :=
  OpenClaim.holds_of_wide 8 Try.f8 rfl rfl rfl rfl rfl rfl rfl ⟨rfl, rfl, rfl, rfl, rfl⟩ rfl rfl rfl rfl rfl (by kernel_rfl) Try.func8 (by kernel_rfl)
    (of_decide_eq_true (by kernel_rfl)) (by unfold Func.isWrapper; first | (rw [if_pos (by decide +kernel)]; kernel_rfl) | (rw [if_neg (by decide +kernel)]; exact ⟨rfl, rfl⟩))
    (fun os started H enc _ => lifted8 os started H enc)
end Go.Proofs.Ytglfkdbfiipjjaa
