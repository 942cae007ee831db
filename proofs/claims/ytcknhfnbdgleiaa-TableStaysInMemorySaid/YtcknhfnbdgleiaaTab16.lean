/- The laws' arguments. -/
import Derived.Test.YtcknhfnbdgleiaaTab15
import Derived.Test.YtcknhfnbdgleiaaEvD
set_option linter.unusedVariables false
set_option maxRecDepth 100000
namespace Go.Proofs.Ytcknhfnbdgleiaa
open Go.AE
theorem Try.own : ownKnob Try.checked.prog.godebug = none := by kernel_rfl
theorem Try.laidOut : laidOutB Try.checked.prog = true := by kernel_rfl
theorem Try.mapsRowed : mapsRowed Try.checked.prog = true := by kernel_rfl
theorem Try.noStops : (((Rows.tableWalksAsSpecifiedRow).stops == []) && (Try.checked.prog.stops == []) && ((Rows.tableWalksAsSpecifiedRow).knobs == []) && (Try.checked.prog.stopKnobs == [])) = true := by kernel_rfl
theorem Try.joinedP : joinedP Try.checked.prog Rows.tableWalksAsSpecifiedRow = true := by kernel_rfl
theorem undBool : Try.checked.prog.underlying 4 = some .bool := by kernel_rfl
theorem undInt : Try.checked.prog.underlying 3 = some (.int .i64) := by kernel_rfl
theorem undU32 : Try.checked.prog.underlying 25 = some (.int .u32) := by kernel_rfl
theorem undU8 : Try.checked.prog.underlying 5 = some (.int .u8) := by kernel_rfl
theorem has_i {d : Nat} {v : AV} (h : Has Try.checked.prog (d + 1) 3 v) : ∃ n : Int, v = .int .i64 n ∧ -9223372036854775808 ≤ n ∧ n < 9223372036854775808 := by
  obtain ⟨n, rfl, h1, h2⟩ := has_int undInt h
  have h1' : (-9223372036854775808 : Int) ≤ n := h1
  have h2' : n ≤ 9223372036854775807 := h2
  exact ⟨n, rfl, h1', by omega⟩
theorem has_u32 {d : Nat} {v : AV} (h : Has Try.checked.prog (d + 1) 25 v) : ∃ n : Nat, v = .int .u32 (n : Int) ∧ n < 4294967296 := by
  obtain ⟨n, rfl, h1, h2⟩ := has_int undU32 h
  have h1' : (0 : Int) ≤ n := h1
  have h2' : n ≤ 4294967295 := h2
  exact ⟨n.toNat, by rw [Int.toNat_of_nonneg h1'], by omega⟩
theorem has_u8 {d : Nat} {v : AV} (h : Has Try.checked.prog (d + 1) 5 v) : ∃ n : Nat, v = bv n ∧ n < 256 := by
  obtain ⟨n, rfl, h1, h2⟩ := has_int undU8 h
  have h1' : (0 : Int) ≤ n := h1
  have h2' : n ≤ 255 := h2
  exact ⟨n.toNat, by rw [bv, Int.toNat_of_nonneg h1'], by omega⟩
theorem map_of {α : Type} (f : α → AV) (p : α → Prop) : ∀ (l : List AV), (∀ x ∈ l, ∃ y, x = f y ∧ p y) → ∃ ys : List α, l = ys.map f ∧ ∀ y ∈ ys, p y
  | [], _ => ⟨[], rfl, by simp⟩
  | x :: l, h => by
    obtain ⟨y, rfl, hy⟩ := h x (List.mem_cons_self ..)
    obtain ⟨ys, rfl, hys⟩ := map_of f p l (fun x hx => h x (List.mem_cons_of_mem _ hx))
    refine ⟨y :: ys, rfl, fun z hz => ?_⟩
    rcases List.mem_cons.mp hz with rfl | hz
    · exact hy
    · exact hys z hz
theorem undPage : Try.checked.prog.underlying 118 = some (.array 128 5) := by kernel_rfl
theorem uidPage : uid Try.checked.prog 118 = 117 := by kernel_rfl
theorem has_page {d : Nat} {v : AV} (h : Has Try.checked.prog (d + 2) 118 v) : ∃ p : List Nat, v = pg p ∧ p.length = 128 ∧ ∀ b ∈ p, b < 256 := by
  obtain ⟨ps, rfl, hl, hx⟩ := has_array undPage h
  obtain ⟨ys, rfl, hy⟩ := map_of bv (fun b => b < 256) ps (fun x hx' => has_u8 (hx x hx'))
  exact ⟨ys, by rw [uidPage]; rfl, by simpa using hl, hy⟩
theorem undMem : ∃ fs, Try.checked.prog.underlying 24 = some (.struct fs) ∧ fs.toList.map (·.type) = [22] := ⟨_, rfl, rfl⟩
theorem uidMem : uid Try.checked.prog 24 = 23 := by kernel_rfl
theorem undPages : Try.checked.prog.underlying 22 = some (.slice 118) := by kernel_rfl
theorem has_mem {d : Nat} {v : AV} (h : Has Try.checked.prog (d + 4) 24 v) : ∃ m : Pgs, v = mv m ∧ pgsOK m := by
  obtain ⟨fs, hu, hf⟩ := undMem
  obtain ⟨ps, rfl, h1⟩ := has_struct hu h
  rw [hf] at h1
  obtain ⟨p0, r, rfl, q0, h2⟩ := hasL_cons h1
  obtain rfl := hasL_nil h2
  obtain ⟨l, rfl, _, hl⟩ := has_slice undPages q0
  obtain ⟨ys, rfl, hy⟩ := map_of pg (fun p => p.length = 128 ∧ ∀ b ∈ p, b < 256) l (fun x hx => has_page (hl x hx))
  exact ⟨ys, by rw [uidMem], hy⟩
end Go.Proofs.Ytcknhfnbdgleiaa
