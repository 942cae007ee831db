/- The rows of the memory's laws: their arguments. -/
import Derived.Test.YtglfkdbfiipjjaaMem13
import Derived.ProofKit
namespace Go.Proofs.Ytglfkdbfiipjjaa
open Go.AE

theorem Try.own : ownKnob Try.checked.prog.godebug = none := by kernel_rfl
theorem Try.laidOut : laidOutB Try.checked.prog = true := by kernel_rfl
theorem und3 : Try.checked.prog.underlying 3 = some (.int .i64) := by kernel_rfl
theorem und5 : Try.checked.prog.underlying 5 = some (.int .u8) := by kernel_rfl
theorem und9 : Try.checked.prog.underlying 9 = some .string := by kernel_rfl
theorem und25 : Try.checked.prog.underlying 25 = some (.int .u32) := by kernel_rfl
theorem und68 : Try.checked.prog.underlying 68 = some (.int .u16) := by kernel_rfl
theorem und4 : Try.checked.prog.underlying 4 = some .bool := by kernel_rfl
theorem und22 : Try.checked.prog.underlying 22 = some (.slice 72) := by kernel_rfl
theorem und50 : Try.checked.prog.underlying 50 = some (.slice 27) := by kernel_rfl
theorem und72 : Try.checked.prog.underlying 72 = some (.array 128 5) := by kernel_rfl
theorem uid72 : uid Try.checked.prog 72 = 71 := by kernel_rfl
theorem uid24 : uid Try.checked.prog 24 = 23 := by kernel_rfl
theorem uid27 : uid Try.checked.prog 27 = 26 := by kernel_rfl
theorem und24 : ∃ fs, Try.checked.prog.underlying 24 = some (.struct fs) ∧ fs.toList.map (·.type) = [22] := ⟨_, rfl, rfl⟩
theorem und27 : ∃ fs, Try.checked.prog.underlying 27 = some (.struct fs) ∧ fs.toList.map (·.type) = [3, 3, 25] := ⟨_, rfl, rfl⟩
theorem has_byte {d : Nat} {v : AV} (h : Has Try.checked.prog (d + 1) 5 v) : byOK v = true := by
  obtain ⟨n, rfl, h1, h2⟩ := has_int und5 h
  have h1' : (0 : Int) ≤ n := h1
  have h2' : n ≤ 255 := h2
  exact byOK_spec.2 ⟨n, rfl, h1', by omega⟩
theorem has_page {d : Nat} {v : AV} (h : Has Try.checked.prog (d + 2) 72 v) : pgOK v = true := by
  obtain ⟨ps, rfl, h1, h2⟩ := has_array und72 h
  rw [uid72]
  exact pgOK_spec.2 ⟨ps, rfl, h1, fun q hq => has_byte (h2 q hq)⟩
theorem has_mem {d : Nat} {v : AV} (h : Has Try.checked.prog (d + 4) 24 v) : ∃ l, v = Mv l ∧ ∀ p ∈ l, pgOK p = true := by
  obtain ⟨fs, hu, hf⟩ := und24
  obtain ⟨ps, rfl, h1⟩ := has_struct hu h
  rw [hf] at h1
  obtain ⟨a, r, rfl, g1, h2⟩ := hasL_cons h1
  obtain rfl := hasL_nil h2
  obtain ⟨l, rfl, _, h3⟩ := has_slice und22 g1
  rw [uid24]
  exact ⟨l, rfl, fun p hp => has_page (h3 p hp)⟩
theorem has_i {d : Nat} {v : AV} (h : Has Try.checked.prog (d + 1) 3 v) : ∃ n : Int, v = .int .i64 n := by
  obtain ⟨n, rfl, _⟩ := has_int und3 h
  exact ⟨n, rfl⟩
theorem has_u32 {d : Nat} {v : AV} (h : Has Try.checked.prog (d + 1) 25 v) : ∃ n : Int, v = .int .u32 n ∧ 0 ≤ n ∧ n < 4294967296 := by
  obtain ⟨n, rfl, h1, h2⟩ := has_int und25 h
  have h1' : (0 : Int) ≤ n := h1
  have h2' : n ≤ 4294967295 := h2
  exact ⟨n, rfl, h1', by omega⟩
theorem has_write {d : Nat} {v : AV} (h : Has Try.checked.prog (d + 2) 27 v) : ∃ a s w : Int, v = Wv a s w ∧ 0 ≤ w ∧ w < 4294967296 := by
  obtain ⟨fs, hu, hf⟩ := und27
  obtain ⟨ps, rfl, h1⟩ := has_struct hu h
  rw [hf] at h1
  obtain ⟨a, r, rfl, g1, h2⟩ := hasL_cons h1
  obtain ⟨b, r, rfl, g2, h3⟩ := hasL_cons h2
  obtain ⟨c, r, rfl, g3, h4⟩ := hasL_cons h3
  obtain rfl := hasL_nil h4
  obtain ⟨x, rfl⟩ := has_i g1
  obtain ⟨y, rfl⟩ := has_i g2
  obtain ⟨z, rfl, z1, z2⟩ := has_u32 g3
  rw [uid27]
  exact ⟨x, y, z, rfl, z1, z2⟩
end Go.Proofs.Ytglfkdbfiipjjaa
