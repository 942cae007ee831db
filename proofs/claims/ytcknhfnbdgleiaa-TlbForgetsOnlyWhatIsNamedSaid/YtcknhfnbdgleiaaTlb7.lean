/- The buffer of translations: the laws' arguments. -/
import Derived.Test.YtcknhfnbdgleiaaTlb6
import Derived.Test.YtcknhfnbdgleiaaEvD
set_option linter.unusedVariables false
set_option maxRecDepth 100000
namespace Go.Proofs.Ytcknhfnbdgleiaa
open Go.AE
theorem Try.own : ownKnob Try.checked.prog.godebug = none := by kernel_rfl
theorem Try.laidOut : laidOutB Try.checked.prog = true := by kernel_rfl
theorem Try.mapsRowed : mapsRowed Try.checked.prog = true := by kernel_rfl
theorem Try.noStops : (((Rows.tlbFindsWhatIsFilledRow).stops == []) && (Try.checked.prog.stops == []) && ((Rows.tlbFindsWhatIsFilledRow).knobs == []) && (Try.checked.prog.stopKnobs == [])) = true := by kernel_rfl
theorem Try.joinedP : joinedP Try.checked.prog Rows.tlbFindsWhatIsFilledRow = true := by kernel_rfl
theorem undBool : Try.checked.prog.underlying 4 = some .bool := by kernel_rfl
theorem undInt : Try.checked.prog.underlying 3 = some (.int .i64) := by kernel_rfl
theorem undU32 : Try.checked.prog.underlying 25 = some (.int .u32) := by kernel_rfl
theorem undU16 : Try.checked.prog.underlying 87 = some (.int .u16) := by kernel_rfl
theorem undU8 : Try.checked.prog.underlying 5 = some (.int .u8) := by kernel_rfl
theorem has_i {d : Nat} {v : AV} (h : Has Try.checked.prog (d + 1) 3 v) : ∃ n : Int, v = .int .i64 n ∧ -9223372036854775808 ≤ n ∧ n < 9223372036854775808 := by
  obtain ⟨n, rfl, h1, h2⟩ := has_int undInt h
  have h1' : (-9223372036854775808 : Int) ≤ n := h1
  have h2' : n ≤ 9223372036854775807 := h2
  exact ⟨n, rfl, h1', by omega⟩
theorem has_u32 {d : Nat} {v : AV} (h : Has Try.checked.prog (d + 1) 25 v) : ∃ n : Int, v = .int .u32 n := by
  obtain ⟨n, rfl, h1, h2⟩ := has_int undU32 h
  exact ⟨n, rfl⟩
theorem has_u16 {d : Nat} {v : AV} (h : Has Try.checked.prog (d + 1) 87 v) : ∃ n : Int, v = .int .u16 n := by
  obtain ⟨n, rfl, h1, h2⟩ := has_int undU16 h
  exact ⟨n, rfl⟩
theorem has_u8 {d : Nat} {v : AV} (h : Has Try.checked.prog (d + 1) 5 v) : ∃ n : Int, v = .int .u8 n ∧ 0 ≤ n ∧ n < 256 := by
  obtain ⟨n, rfl, h1, h2⟩ := has_int undU8 h
  have h1' : (0 : Int) ≤ n := h1
  have h2' : n ≤ 255 := h2
  exact ⟨n, rfl, h1', by omega⟩
theorem map_of {α : Type} (f : α → AV) (p : α → Prop) : ∀ (l : List AV), (∀ x ∈ l, ∃ y, x = f y ∧ p y) → ∃ ys : List α, l = ys.map f ∧ ∀ y ∈ ys, p y
  | [], _ => ⟨[], rfl, by simp⟩
  | x :: l, h => by
    obtain ⟨y, rfl, hy⟩ := h x (List.mem_cons_self ..)
    obtain ⟨ys, rfl, hys⟩ := map_of f p l (fun x hx => h x (List.mem_cons_of_mem _ hx))
    refine ⟨y :: ys, rfl, fun z hz => ?_⟩
    rcases List.mem_cons.mp hz with rfl | hz
    · exact hy
    · exact hys z hz
theorem undInts : Try.checked.prog.underlying 30 = some (.slice 3) := by kernel_rfl
theorem has_ints {d : Nat} {v : AV} (h : Has Try.checked.prog (d + 2) 30 v) : ∃ l : List Int, v = .slice 3 (rv l) false := by
  obtain ⟨l, rfl, _, hl⟩ := has_slice undInts h
  obtain ⟨ys, rfl, _⟩ := map_of (.int .i64) (fun _ => True) l (fun x hx => by obtain ⟨n, rfl, _⟩ := has_i (hl x hx); exact ⟨n, rfl, trivial⟩)
  exact ⟨ys, rfl⟩
theorem undTrans : ∃ fs, Try.checked.prog.underlying 70 = some (.struct fs) ∧ fs.toList.map (·.type) = [25, 3, 3, 3, 3, 30] := ⟨_, rfl, rfl⟩
theorem uidTrans : uid Try.checked.prog 70 = 69 := by kernel_rfl
theorem has_trans {d : Nat} {v : AV} (h : Has Try.checked.prog (d + 3) 70 v) : ∃ x : Xl, v = tv x ∧ WX x := by
  obtain ⟨fs, hu, hf⟩ := undTrans
  obtain ⟨ps, rfl, h1⟩ := has_struct hu h
  rw [hf] at h1
  obtain ⟨p0, r, rfl, q0, h2⟩ := hasL_cons h1
  obtain ⟨p1, r, rfl, q1, h3⟩ := hasL_cons h2
  obtain ⟨p2, r, rfl, q2, h4⟩ := hasL_cons h3
  obtain ⟨p3, r, rfl, q3, h5⟩ := hasL_cons h4
  obtain ⟨p4, r, rfl, q4, h6⟩ := hasL_cons h5
  obtain ⟨p5, r, rfl, q5, h7⟩ := hasL_cons h6
  obtain rfl := hasL_nil h7
  obtain ⟨n0, rfl⟩ := has_u32 q0
  obtain ⟨n1, rfl, _⟩ := has_i q1
  obtain ⟨n2, rfl, _⟩ := has_i q2
  obtain ⟨n3, rfl, _⟩ := has_i q3
  obtain ⟨n4, rfl, b0, b1⟩ := has_i q4
  obtain ⟨l, rfl⟩ := has_ints q5
  exact ⟨⟨n0, n1, n2, n3, n4, l⟩, by rw [uidTrans]; rfl, ⟨b0, b1⟩⟩
theorem undTLB : ∃ fs, Try.checked.prog.underlying 68 = some (.struct fs) ∧ fs.toList.map (·.type) = [66] := ⟨_, rfl, rfl⟩
theorem uidTLB : uid Try.checked.prog 68 = 67 := by kernel_rfl
theorem undTranss : Try.checked.prog.underlying 66 = some (.slice 70) := by kernel_rfl
theorem has_tlb {d : Nat} {v : AV} (h : Has Try.checked.prog (d + 5) 68 v) : ∃ xs : List Xl, v = Bv xs ∧ ∀ x ∈ xs, WX x := by
  obtain ⟨fs, hu, hf⟩ := undTLB
  obtain ⟨ps, rfl, h1⟩ := has_struct hu h
  rw [hf] at h1
  obtain ⟨p0, r, rfl, q0, h2⟩ := hasL_cons h1
  obtain rfl := hasL_nil h2
  obtain ⟨l, rfl, _, hl⟩ := has_slice undTranss q0
  obtain ⟨ys, rfl, hy⟩ := map_of tv WX l (fun x hx => has_trans (hl x hx))
  exact ⟨ys, by rw [uidTLB], hy⟩
theorem undOp : ∃ fs, Try.checked.prog.underlying 79 = some (.struct fs) ∧ fs.toList.map (·.type) = [5, 70, 3, 3] := ⟨_, rfl, rfl⟩
theorem uidOp : uid Try.checked.prog 79 = 78 := by kernel_rfl
theorem undOps : Try.checked.prog.underlying 77 = some (.slice 79) := by kernel_rfl
theorem has_ops {d : Nat} {v : AV} (h : Has Try.checked.prog (d + 5) 77 v) : ∃ os : List Ox, v = .slice 79 (os.map ov) false ∧ ∀ o ∈ os, WX o.x := by
  obtain ⟨l, rfl, _, hl⟩ := has_slice undOps h
  obtain ⟨ys, rfl, hy⟩ := map_of ov (fun o => WX o.x) l (fun x hx => by
    obtain ⟨fs, hu, hf⟩ := undOp
    obtain ⟨ps, rfl, h1⟩ := has_struct hu (hl x hx)
    rw [hf] at h1
    obtain ⟨p0, r, rfl, q0, h2⟩ := hasL_cons h1
    obtain ⟨p1, r, rfl, q1, h3⟩ := hasL_cons h2
    obtain ⟨p2, r, rfl, q2, h4⟩ := hasL_cons h3
    obtain ⟨p3, r, rfl, q3, h5⟩ := hasL_cons h4
    obtain rfl := hasL_nil h5
    obtain ⟨n0, rfl, _⟩ := has_u8 q0
    obtain ⟨x, rfl, w⟩ := has_trans q1
    obtain ⟨n2, rfl, _⟩ := has_i q2
    obtain ⟨n3, rfl, _⟩ := has_i q3
    exact ⟨⟨n0, x, n2, n3⟩, by rw [uidOp]; rfl, w⟩)
  exact ⟨ys, rfl, hy⟩
end Go.Proofs.Ytcknhfnbdgleiaa
