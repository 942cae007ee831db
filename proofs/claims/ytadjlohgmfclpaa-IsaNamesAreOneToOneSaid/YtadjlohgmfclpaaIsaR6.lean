/- IsaNamesAreOneToOne: whatever its arguments (any two numbers), the law returns true, changes nothing and does not panic. Conditions: none. -/
import Derived.Test.YtadjlohgmfclpaaIsa7
namespace Go.Proofs.Ytadjlohgmfclpaa
open Go.AE

theorem calls6 (l : List AV) (h : HasL (fun v t => Has Try.checked.prog 8 t v) Try.f6.params.toList l) : CallsS Try.checked.prog 6 l (.bool true) := by
  have h0 : HasL (fun v t => Has Try.checked.prog 8 t v) [3, 3] l := h
  obtain ⟨p0, r0, rfl, g0, h1⟩ := hasL_cons h0
  obtain ⟨p1, r1, rfl, g1, h2⟩ := hasL_cons h1
  obtain rfl := hasL_nil h2
  obtain ⟨a, rfl⟩ := has_i g0
  obtain ⟨b, rfl⟩ := has_i g1
  exact D_ok 12 _ _ _ (law6_true 0 a b)
set_option maxRecDepth 100000 in
theorem lifted6 (os : Os) (started : os.Started) (H : Type) (enc : TypeId × Value → H) :
    ReturnsInHanded {} Try.checked os 6 .any (Rows.isaNamesAreOneToOneSpec.pre6 enc Try.checked.prog Try.f6 Rows.isaNamesAreOneToOneRow.domain false) (Rows.isaNamesAreOneToOneSpec.post enc Try.checked.prog Try.f6 false true false false) :=
  law_lifted (tb := 4) Try.own started (by kernel_rfl) Try.func6
    (ChangeSpec.witness6 (enc := enc) (C := Try.checked) false ⟨#[], #[.int .i64 0, .int .i64 0], []⟩ 8 (by kernel_rfl) (by kernel_rfl) (by kernel_rfl) (by kernel_rfl))
    Try.laidOut rfl (by kernel_rfl) rfl undBool (fun ds hds => by
      match ds, hds with
      | [d0, d1], _ => rfl) calls6
theorem isaNamesAreOneToOne_holds : Rows.IsaNamesAreOneToOneSaid :=
  OpenClaim.holds_of_wide 6 Try.f6 rfl rfl rfl rfl rfl rfl rfl ⟨rfl, rfl, rfl, rfl, rfl⟩ rfl rfl rfl rfl rfl (by kernel_rfl) Try.func6 (by kernel_rfl)
    (of_decide_eq_true (by kernel_rfl)) (by unfold Func.isWrapper; first | (rw [if_pos (by decide +kernel)]; kernel_rfl) | (rw [if_neg (by decide +kernel)]; exact ⟨rfl, rfl⟩))
    (fun os started H enc _ => lifted6 os started H enc)
end Go.Proofs.Ytadjlohgmfclpaa
