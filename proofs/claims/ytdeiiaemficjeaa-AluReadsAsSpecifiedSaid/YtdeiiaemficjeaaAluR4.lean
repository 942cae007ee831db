/- AluReadsAsSpecified: whatever its arguments (words, numbers and bytes of their Go types), the law returns true, changes nothing and does not panic. Conditions: none. -/
import Derived.Test.YtdeiiaemficjeaaAlu10
namespace Go.Proofs.Ytdeiiaemficjeaa
open Go.AE

theorem calls4 (l : List AV) (h : HasL (fun v t => Has Try.checked.prog 8 t v) Try.f4.params.toList l) : CallsS Try.checked.prog 4 l (.bool true) := by
  have h0 : HasL (fun v t => Has Try.checked.prog 8 t v) [22, 3, 3, 5] l := h
  obtain ⟨a0, r0, rfl, g0, h1⟩ := hasL_cons h0
  obtain ⟨a1, r1, rfl, g1, h2⟩ := hasL_cons h1
  obtain ⟨a2, r2, rfl, g2, h3⟩ := hasL_cons h2
  obtain ⟨a3, r3, rfl, g3, h4⟩ := hasL_cons h3
  obtain rfl := hasL_nil h4
  obtain ⟨x0, rfl⟩ := ex_word g0
  obtain ⟨x1, rfl⟩ := ex_int g1
  obtain ⟨x2, rfl⟩ := ex_int g2
  obtain ⟨x3, b3, rfl⟩ := ex_byte g3
  exact fnV_sound good_4 (loopsF 4) (law4_true x0 x1 x2 x3 b3)
set_option maxRecDepth 100000 in
theorem lifted4 (os : Os) (started : os.Started) (H : Type) (enc : TypeId × Value → H) :
    ReturnsInHanded {} Try.checked os 4 .any (Rows.aluReadsAsSpecifiedSpec.pre6 enc Try.checked.prog Try.f4 Rows.aluReadsAsSpecifiedRow.domain false) (Rows.aluReadsAsSpecifiedSpec.post enc Try.checked.prog Try.f4 false true false false) :=
  law_lifted (tb := 4) Try.own started (by kernel_rfl) Try.func4
    (ChangeSpec.witness6 (enc := enc) (C := Try.checked) false ⟨#[], #[.int .u32 0, .int .i64 0, .int .i64 0, .int .u8 0], []⟩ 8 (by kernel_rfl) (by kernel_rfl) (by kernel_rfl) (by kernel_rfl))
    Try.laidOut rfl (by kernel_rfl) rfl und4 (fun ds hds => by
      match ds, hds with
      | [d0, d1, d2, d3], _ => rfl) calls4
theorem aluReadsAsSpecified_holds : Rows.AluReadsAsSpecifiedSaid :=
  OpenClaim.holds_of_wide 4 Try.f4 rfl rfl rfl rfl rfl rfl rfl ⟨rfl, rfl, rfl, rfl, rfl⟩ rfl rfl rfl rfl rfl (by kernel_rfl) Try.func4 (by kernel_rfl)
    (of_decide_eq_true (by kernel_rfl)) (by unfold Func.isWrapper; first | (rw [if_pos (by decide +kernel)]; kernel_rfl) | (rw [if_neg (by decide +kernel)]; exact ⟨rfl, rfl⟩))
    (fun os started H enc _ => lifted4 os started H enc)
end Go.Proofs.Ytdeiiaemficjeaa
