/- AluIsALattice: whatever its arguments (words, numbers and bytes of their Go types), the law returns true, changes nothing and does not panic. Conditions: none. -/
import Derived.Test.YtdeiiaemficjeaaAlu10
namespace Go.Proofs.Ytdeiiaemficjeaa
open Go.AE

theorem calls6 (l : List AV) (h : HasL (fun v t => Has Try.checked.prog 8 t v) Try.f6.params.toList l) : CallsS Try.checked.prog 6 l (.bool true) := by
  have h0 : HasL (fun v t => Has Try.checked.prog 8 t v) [22, 22, 22] l := h
  obtain ⟨a0, r0, rfl, g0, h1⟩ := hasL_cons h0
  obtain ⟨a1, r1, rfl, g1, h2⟩ := hasL_cons h1
  obtain ⟨a2, r2, rfl, g2, h3⟩ := hasL_cons h2
  obtain rfl := hasL_nil h3
  obtain ⟨x0, rfl⟩ := ex_word g0
  obtain ⟨x1, rfl⟩ := ex_word g1
  obtain ⟨x2, rfl⟩ := ex_word g2
  exact fnV_sound good_4 (loopsF 4) (law6_true x0 x1 x2)
set_option maxRecDepth 100000 in
theorem lifted6 (os : Os) (started : os.Started) (H : Type) (enc : TypeId × Value → H) :
    ReturnsInHanded {} Try.checked os 6 .any (Rows.aluIsALatticeSpec.pre6 enc Try.checked.prog Try.f6 Rows.aluIsALatticeRow.domain false) (Rows.aluIsALatticeSpec.post enc Try.checked.prog Try.f6 false true false false) :=
  law_lifted (tb := 4) Try.own started (by kernel_rfl) Try.func6
    (ChangeSpec.witness6 (enc := enc) (C := Try.checked) false ⟨#[], #[.int .u32 0, .int .u32 0, .int .u32 0], []⟩ 8 (by kernel_rfl) (by kernel_rfl) (by kernel_rfl) (by kernel_rfl))
    Try.laidOut rfl (by kernel_rfl) rfl und4 (fun ds hds => by
      match ds, hds with
      | [d0, d1, d2], _ => rfl) calls6
theorem aluIsALattice_holds : Rows.AluIsALatticeSaid :=
  OpenClaim.holds_of_wide 6 Try.f6 rfl rfl rfl rfl rfl rfl rfl ⟨rfl, rfl, rfl, rfl, rfl⟩ rfl rfl rfl rfl rfl (by kernel_rfl) Try.func6 (by kernel_rfl)
    (of_decide_eq_true (by kernel_rfl)) (by unfold Func.isWrapper; first | (rw [if_pos (by decide +kernel)]; kernel_rfl) | (rw [if_neg (by decide +kernel)]; exact ⟨rfl, rfl⟩))
    (fun os started H enc _ => lifted6 os started H enc)
end Go.Proofs.Ytdeiiaemficjeaa
