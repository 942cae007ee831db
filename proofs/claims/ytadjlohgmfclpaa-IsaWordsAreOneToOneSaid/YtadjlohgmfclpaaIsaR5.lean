/- IsaWordsAreOneToOne: whatever its arguments (any word, any two instructions), the law returns true, changes nothing and does not panic. Conditions: none. -/
import Derived.Test.YtadjlohgmfclpaaIsa7
namespace Go.Proofs.Ytadjlohgmfclpaa
open Go.AE

theorem calls5 (l : List AV) (h : HasL (fun v t => Has Try.checked.prog 8 t v) Try.f5.params.toList l) : CallsS Try.checked.prog 5 l (.bool true) := by
  have h0 : HasL (fun v t => Has Try.checked.prog 8 t v) [24, 23, 23] l := h
  obtain ⟨p0, r0, rfl, g0, h1⟩ := hasL_cons h0
  obtain ⟨p1, r1, rfl, g1, h2⟩ := hasL_cons h1
  obtain ⟨p2, r2, rfl, g2, h3⟩ := hasL_cons h2
  obtain rfl := hasL_nil h3
  obtain ⟨w, rfl, w0, w1⟩ := has_u32 g0
  obtain ⟨o, a, b, c, m, rfl⟩ := has_ins g1
  obtain ⟨o', a', b', c', m', rfl⟩ := has_ins g2
  exact D_ok 12 _ _ _ (law5_true 0 w0 w1)
set_option maxRecDepth 100000 in
theorem lifted5 (os : Os) (started : os.Started) (H : Type) (enc : TypeId × Value → H) :
    ReturnsInHanded {} Try.checked os 5 .any (Rows.isaWordsAreOneToOneSpec.pre6 enc Try.checked.prog Try.f5 Rows.isaWordsAreOneToOneRow.domain false) (Rows.isaWordsAreOneToOneSpec.post enc Try.checked.prog Try.f5 false true false false) :=
  law_lifted (tb := 4) Try.own started (by kernel_rfl) Try.func5
    (ChangeSpec.witness6 (enc := enc) (C := Try.checked) false ⟨#[], #[.int .u32 0, .agg #[.int .i64 0, .int .i64 0, .int .i64 0, .int .i64 0, .int .i64 0], .agg #[.int .i64 0, .int .i64 0, .int .i64 0, .int .i64 0, .int .i64 0]], []⟩ 8 (by kernel_rfl) (by kernel_rfl) (by kernel_rfl) (by kernel_rfl))
    Try.laidOut rfl (by kernel_rfl) rfl undBool (fun ds hds => by
      match ds, hds with
      | [d0, d1, d2], _ => rfl) calls5
theorem isaWordsAreOneToOne_holds : Rows.IsaWordsAreOneToOneSaid :=
  OpenClaim.holds_of_wide 5 Try.f5 rfl rfl rfl rfl rfl rfl rfl ⟨rfl, rfl, rfl, rfl, rfl⟩ rfl rfl rfl rfl rfl (by kernel_rfl) Try.func5 (by kernel_rfl)
    (of_decide_eq_true (by kernel_rfl)) (by unfold Func.isWrapper; first | (rw [if_pos (by decide +kernel)]; kernel_rfl) | (rw [if_neg (by decide +kernel)]; exact ⟨rfl, rfl⟩))
    (fun os started H enc _ => lifted5 os started H enc)
end Go.Proofs.Ytadjlohgmfclpaa
