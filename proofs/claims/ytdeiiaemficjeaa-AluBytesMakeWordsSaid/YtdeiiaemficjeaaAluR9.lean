/- AluBytesMakeWords: whatever its arguments (words, numbers and bytes of their Go types), the law returns true, changes nothing and does not panic. Conditions: none. -/
import Derived.Test.YtdeiiaemficjeaaAlu10
namespace Go.Proofs.Ytdeiiaemficjeaa
open Go.AE

theorem calls9 (l : List AV) (h : HasL (fun v t => Has Try.checked.prog 8 t v) Try.f9.params.toList l) : CallsS Try.checked.prog 9 l (.bool true) := by
  have h0 : HasL (fun v t => Has Try.checked.prog 8 t v) [22, 3, 5, 5] l := h
  obtain ⟨a0, r0, rfl, g0, h1⟩ := hasL_cons h0
  obtain ⟨a1, r1, rfl, g1, h2⟩ := hasL_cons h1
  obtain ⟨a2, r2, rfl, g2, h3⟩ := hasL_cons h2
  obtain ⟨a3, r3, rfl, g3, h4⟩ := hasL_cons h3
  obtain rfl := hasL_nil h4
  obtain ⟨x0, rfl⟩ := ex_word g0
  obtain ⟨x1, rfl⟩ := ex_int g1
  obtain ⟨x2, b2, rfl⟩ := ex_byte g2
  obtain ⟨x3, b3, rfl⟩ := ex_byte g3
  exact fnV_sound good_4 (loopsF 4) (law9_true x0 x1 x2 x3 b2)
set_option maxRecDepth 100000 in
theorem lifted9 (os : Os) (started : os.Started) (H : Type) (enc : TypeId × Value → H) :
    ReturnsInHanded {} Try.checked os 9 .any (Rows.aluBytesMakeWordsSpec.pre6 enc Try.checked.prog Try.f9 Rows.aluBytesMakeWordsRow.domain false) (Rows.aluBytesMakeWordsSpec.post enc Try.checked.prog Try.f9 false true false false) :=
  law_lifted (tb := 4) Try.own started (by kernel_rfl) Try.func9
    (ChangeSpec.witness6 (enc := enc) (C := Try.checked) false ⟨#[], #[.int .u32 0, .int .i64 0, .int .u8 0, .int .u8 0], []⟩ 8 (by kernel_rfl) (by kernel_rfl) (by kernel_rfl) (by kernel_rfl))
    Try.laidOut rfl (by kernel_rfl) rfl und4 (fun ds hds => by
      match ds, hds with
      | [d0, d1, d2, d3], _ => rfl) calls9
theorem aluBytesMakeWords_holds : Rows.AluBytesMakeWordsSaid :=
  OpenClaim.holds_of_wide 9 Try.f9 rfl rfl rfl rfl rfl rfl rfl ⟨rfl, rfl, rfl, rfl, rfl⟩ rfl rfl rfl rfl rfl (by kernel_rfl) Try.func9 (by kernel_rfl)
    (of_decide_eq_true (by kernel_rfl)) (by unfold Func.isWrapper; first | (rw [if_pos (by decide +kernel)]; kernel_rfl) | (rw [if_neg (by decide +kernel)]; exact ⟨rfl, rfl⟩))
    (fun os started H enc _ => lifted9 os started H enc)
end Go.Proofs.Ytdeiiaemficjeaa
