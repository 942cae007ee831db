/- Instructions: the laws' arguments. -/
import Derived.Test.YtadjlohgmfclpaaIsa6
import Derived.ProofKit
set_option linter.unusedVariables false
namespace Go.Proofs.Ytadjlohgmfclpaa
open Go.AE
theorem Try.own : ownKnob Try.checked.prog.godebug = none := by kernel_rfl
theorem Try.laidOut : laidOutB Try.checked.prog = true := by kernel_rfl
theorem undBool : Try.checked.prog.underlying 4 = some .bool := by kernel_rfl
theorem undInt : Try.checked.prog.underlying 3 = some (.int .i64) := by kernel_rfl
theorem undU32 : Try.checked.prog.underlying 24 = some (.int .u32) := by kernel_rfl
theorem undStr : Try.checked.prog.underlying 9 = some .string := by kernel_rfl
theorem undIns : ∃ fs, Try.checked.prog.underlying 23 = some (.struct fs) ∧ fs.toList.map (·.type) = [3, 3, 3, 3, 3] := ⟨_, rfl, rfl⟩
theorem uidIns : uid Try.checked.prog 23 = 22 := by kernel_rfl
theorem has_i {d : Nat} {v : AV} (h : Has Try.checked.prog (d + 1) 3 v) : ∃ n : Int, v = .int .i64 n := by
  obtain ⟨n, rfl, _⟩ := has_int undInt h
  exact ⟨n, rfl⟩
theorem has_u32 {d : Nat} {v : AV} (h : Has Try.checked.prog (d + 1) 24 v) : ∃ n : Int, v = .int .u32 n ∧ 0 ≤ n ∧ n < 4294967296 := by
  obtain ⟨n, rfl, h1, h2⟩ := has_int undU32 h
  have h1' : (0 : Int) ≤ n := h1
  have h2' : n ≤ 4294967295 := h2
  exact ⟨n, rfl, h1', by omega⟩
theorem has_ins {d : Nat} {v : AV} (h : Has Try.checked.prog (d + 2) 23 v) : ∃ o a b c m : Int, v = Ia o a b c m := by
  obtain ⟨fs, hu, hf⟩ := undIns
  obtain ⟨ps, rfl, h1⟩ := has_struct hu h
  rw [hf] at h1
  obtain ⟨p0, r, rfl, q0, h2⟩ := hasL_cons h1
  obtain ⟨p1, r, rfl, q1, h3⟩ := hasL_cons h2
  obtain ⟨p2, r, rfl, q2, h4⟩ := hasL_cons h3
  obtain ⟨p3, r, rfl, q3, h5⟩ := hasL_cons h4
  obtain ⟨p4, r, rfl, q4, h6⟩ := hasL_cons h5
  obtain rfl := hasL_nil h6
  obtain ⟨o, rfl⟩ := has_i q0
  obtain ⟨a, rfl⟩ := has_i q1
  obtain ⟨b, rfl⟩ := has_i q2
  obtain ⟨c, rfl⟩ := has_i q3
  obtain ⟨m, rfl⟩ := has_i q4
  rw [uidIns]
  exact ⟨o, a, b, c, m, rfl⟩
end Go.Proofs.Ytadjlohgmfclpaa
