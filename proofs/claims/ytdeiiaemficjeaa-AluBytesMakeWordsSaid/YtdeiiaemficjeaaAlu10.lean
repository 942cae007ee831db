/- The rows of the arithmetic's laws. -/
import Derived.Test.YtdeiiaemficjeaaAlu9
import Derived.Test.YtdeiiaemficjeaaEv32
import Derived.ProofKit
namespace Go.Proofs.Ytdeiiaemficjeaa
open Go.AE

theorem Try.own : ownKnob Try.checked.prog.godebug = none := by kernel_rfl
theorem Try.laidOut : laidOutB Try.checked.prog = true := by kernel_rfl
theorem und3 : Try.checked.prog.underlying 3 = some (.int .i64) := by kernel_rfl
theorem und5 : Try.checked.prog.underlying 5 = some (.int .u8) := by kernel_rfl
theorem und22 : Try.checked.prog.underlying 22 = some (.int .u32) := by kernel_rfl
theorem und4 : Try.checked.prog.underlying 4 = some .bool := by kernel_rfl
theorem ex_word {v : AV} (h : Has Try.checked.prog 8 22 v) : ∃ A : W, v = .int .u32 (u A) := by
  obtain ⟨n, rfl, h1, h2⟩ := has_int und22 h
  have h1' : (0 : Int) ≤ n := h1
  have h2' : n ≤ 4294967295 := h2
  obtain ⟨A, rfl⟩ := ex_u h1' (by omega)
  exact ⟨A, rfl⟩
theorem ex_int {v : AV} (h : Has Try.checked.prog 8 3 v) : ∃ n : Int, v = .int .i64 n := by
  obtain ⟨n, rfl, _⟩ := has_int und3 h
  exact ⟨n, rfl⟩
theorem ex_byte {v : AV} (h : Has Try.checked.prog 8 5 v) : ∃ b : Nat, b < 256 ∧ v = .int .u8 (b : Int) := by
  obtain ⟨n, rfl, h1, h2⟩ := has_int und5 h
  have h1' : (0 : Int) ≤ n := h1
  have h2' : n ≤ 255 := h2
  exact ⟨n.toNat, by omega, by rw [Int.toNat_of_nonneg h1']⟩
end Go.Proofs.Ytdeiiaemficjeaa
