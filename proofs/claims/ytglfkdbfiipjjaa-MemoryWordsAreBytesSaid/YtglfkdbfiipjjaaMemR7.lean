/- MemoryWordsAreBytes: whatever its arguments (any memory, any number, any word), the law returns true, changes nothing and does not panic. Conditions: none. -/
import Derived.Test.YtglfkdbfiipjjaaMem19
namespace Go.Proofs.Ytglfkdbfiipjjaa
open Go.AE

theorem calls7 (l : List AV) (h : HasL (fun v t => Has Try.checked.prog 8 t v) Try.f7.params.toList l) : CallsS Try.checked.prog 7 l (.bool true) := by
  have h0 : HasL (fun v t => Has Try.checked.prog 8 t v) [24, 3, 25] l := h
  obtain ⟨p0, r0, rfl, g0, h1⟩ := hasL_cons h0
  obtain ⟨p1, r1, rfl, g1, h2⟩ := hasL_cons h1
  obtain ⟨p2, r2, rfl, g2, h3⟩ := hasL_cons h2
  obtain rfl := hasL_nil h3
  obtain ⟨m, rfl, hm⟩ := has_mem g0
  obtain ⟨a, rfl⟩ := has_i g1
  obtain ⟨v, rfl, v0, v1⟩ := has_u32 g2
  exact fnV_sound good_2 (loopsG 2) (law7_true m a v hm v0 v1)
set_option maxRecDepth 100000 in
theorem lifted7 (os : Os) (started : os.Started) (H : Type) (enc : TypeId × Value → H) :
    ReturnsInHanded {} Try.checked os 7 .any (Rows.memoryWordsAreBytesSpec.pre6 enc Try.checked.prog Try.f7 Rows.memoryWordsAreBytesRow.domain false) (Rows.memoryWordsAreBytesSpec.post enc Try.checked.prog Try.f7 false true false false) :=
  law_lifted (tb := 4) Try.own started (by kernel_rfl) Try.func7
    (ChangeSpec.witness6 (enc := enc) (C := Try.checked) false ⟨#[], #[.agg #[.slice none 0 0], .int .i64 0, .int .u32 0], []⟩ 8 (by kernel_rfl) (by kernel_rfl) (by kernel_rfl) (by kernel_rfl))
    Try.laidOut rfl (by kernel_rfl) rfl und4 (fun ds hds => by
      match ds, hds with
      | [d0, d1, d2], _ => rfl) calls7
theorem memoryWordsAreBytes_holds : Rows.MemoryWordsAreBytesSaid :=
  OpenClaim.holds_of_wide 7 Try.f7 rfl rfl rfl rfl rfl rfl rfl ⟨rfl, rfl, rfl, rfl, rfl⟩ rfl rfl rfl rfl rfl (by kernel_rfl) Try.func7 (by kernel_rfl)
    (of_decide_eq_true (by kernel_rfl)) (by unfold Func.isWrapper; first | (rw [if_pos (by decide +kernel)]; kernel_rfl) | (rw [if_neg (by decide +kernel)]; exact ⟨rfl, rfl⟩))
    (fun os started H enc _ => lifted7 os started H enc)
end Go.Proofs.Ytglfkdbfiipjjaa
