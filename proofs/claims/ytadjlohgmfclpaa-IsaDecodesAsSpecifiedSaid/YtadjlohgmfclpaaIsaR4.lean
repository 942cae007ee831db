/- IsaDecodesAsSpecified: whatever its arguments (any word), the law returns true, changes nothing and does not panic. Conditions: none. -/
import Derived.Test.YtadjlohgmfclpaaIsa7
namespace Go.Proofs.Ytadjlohgmfclpaa
open Go.AE

theorem calls4 (l : List AV) (h : HasL (fun v t => Has Try.checked.prog 8 t v) Try.f4.params.toList l) : CallsS Try.checked.prog 4 l (.bool true) := by
  have h0 : HasL (fun v t => Has Try.checked.prog 8 t v) [24] l := h
  obtain ⟨p0, r0, rfl, g0, h1⟩ := hasL_cons h0
  obtain rfl := hasL_nil h1
  obtain ⟨w, rfl, w0, w1⟩ := has_u32 g0
  exact D_ok 12 _ _ _ (law4_true 0 w0 w1)
set_option maxRecDepth 100000 in
theorem lifted4 (os : Os) (started : os.Started) (H : Type) (enc : TypeId × Value → H) :
    ReturnsInHanded {} Try.checked os 4 .any (Rows.isaDecodesAsSpecifiedSpec.pre6 enc Try.checked.prog Try.f4 Rows.isaDecodesAsSpecifiedRow.domain false) (Rows.isaDecodesAsSpecifiedSpec.post enc Try.checked.prog Try.f4 false true false false) :=
  law_lifted (tb := 4) Try.own started (by kernel_rfl) Try.func4
    (ChangeSpec.witness6 (enc := enc) (C := Try.checked) false ⟨#[], #[.int .u32 0], []⟩ 8 (by kernel_rfl) (by kernel_rfl) (by kernel_rfl) (by kernel_rfl))
    Try.laidOut rfl (by kernel_rfl) rfl undBool (fun ds hds => by
      match ds, hds with
      | [d0], _ => rfl) calls4
theorem isaDecodesAsSpecified_holds : Rows.IsaDecodesAsSpecifiedSaid :=
  OpenClaim.holds_of_wide 4 Try.f4 rfl rfl rfl rfl rfl rfl rfl ⟨rfl, rfl, rfl, rfl, rfl⟩ rfl rfl rfl rfl rfl (by kernel_rfl) Try.func4 (by kernel_rfl)
    (of_decide_eq_true (by kernel_rfl)) (by unfold Func.isWrapper; first | (rw [if_pos (by decide +kernel)]; kernel_rfl) | (rw [if_neg (by decide +kernel)]; exact ⟨rfl, rfl⟩))
    (fun os started H enc _ => lifted4 os started H enc)
end Go.Proofs.Ytadjlohgmfclpaa
