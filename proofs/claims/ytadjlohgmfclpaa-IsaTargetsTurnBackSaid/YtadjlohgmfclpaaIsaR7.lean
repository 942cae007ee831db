/- IsaTargetsTurnBack: whatever its arguments (any instruction, any address), the law returns true, changes nothing and does not panic. Conditions: none. -/
import Derived.Test.YtadjlohgmfclpaaIsa7
namespace Go.Proofs.Ytadjlohgmfclpaa
open Go.AE

theorem calls7 (l : List AV) (h : HasL (fun v t => Has Try.checked.prog 8 t v) Try.f7.params.toList l) : CallsS Try.checked.prog 7 l (.bool true) := by
  have h0 : HasL (fun v t => Has Try.checked.prog 8 t v) [23, 24] l := h
  obtain ⟨p0, r0, rfl, g0, h1⟩ := hasL_cons h0
  obtain ⟨p1, r1, rfl, g1, h2⟩ := hasL_cons h1
  obtain rfl := hasL_nil h2
  obtain ⟨o, a, b, c, m, rfl⟩ := has_ins g0
  obtain ⟨pc, rfl, p0', p1'⟩ := has_u32 g1
  exact D_ok 12 _ _ _ (law7_true 0 p0' p1')
set_option maxRecDepth 100000 in
theorem lifted7 (os : Os) (started : os.Started) (H : Type) (enc : TypeId × Value → H) :
    ReturnsInHanded {} Try.checked os 7 .any (Rows.isaTargetsTurnBackSpec.pre6 enc Try.checked.prog Try.f7 Rows.isaTargetsTurnBackRow.domain false) (Rows.isaTargetsTurnBackSpec.post enc Try.checked.prog Try.f7 false true false false) :=
  law_lifted (tb := 4) Try.own started (by kernel_rfl) Try.func7
    (ChangeSpec.witness6 (enc := enc) (C := Try.checked) false ⟨#[], #[.agg #[.int .i64 0, .int .i64 0, .int .i64 0, .int .i64 0, .int .i64 0], .int .u32 0], []⟩ 8 (by kernel_rfl) (by kernel_rfl) (by kernel_rfl) (by kernel_rfl))
    Try.laidOut rfl (by kernel_rfl) rfl undBool (fun ds hds => by
      match ds, hds with
      | [d0, d1], _ => rfl) calls7
theorem isaTargetsTurnBack_holds : Rows.IsaTargetsTurnBackSaid :=
  OpenClaim.holds_of_wide 7 Try.f7 rfl rfl rfl rfl rfl rfl rfl ⟨rfl, rfl, rfl, rfl, rfl⟩ rfl rfl rfl rfl rfl (by kernel_rfl) Try.func7 (by kernel_rfl)
    (of_decide_eq_true (by kernel_rfl)) (by unfold Func.isWrapper; first | (rw [if_pos (by decide +kernel)]; kernel_rfl) | (rw [if_neg (by decide +kernel)]; exact ⟨rfl, rfl⟩))
    (fun os started H enc _ => lifted7 os started H enc)
end Go.Proofs.Ytadjlohgmfclpaa
