/- The laws' arguments. -/
import Derived.Test.YtcknhfnbdgleiaaCor19
import Derived.Test.YtcknhfnbdgleiaaEvD
set_option linter.unusedVariables false
set_option maxRecDepth 100000
namespace Go.Proofs.Ytcknhfnbdgleiaa
open Go.AE
theorem Try.own : ownKnob Try.checked.prog.godebug = none := by kernel_rfl
theorem Try.laidOut : laidOutB Try.checked.prog = true := by kernel_rfl
theorem Try.mapsRowed : mapsRowed Try.checked.prog = true := by kernel_rfl
theorem Try.QV : (((Rows.coreKeepsValidRow).stops == []) && (Try.checked.prog.stops == []) && ((Rows.coreKeepsValidRow).knobs == []) && (Try.checked.prog.stopKnobs == [])) = true := by kernel_rfl
theorem Try.BR : BR Try.checked.prog Rows.coreKeepsValidRow = true := by kernel_rfl
theorem Gj : Try.checked.prog.underlying 4 = some .bool := by kernel_rfl
theorem undInt : Try.checked.prog.underlying 3 = some (.int .i64) := by kernel_rfl
theorem undU32 : Try.checked.prog.underlying 25 = some (.int .u32) := by kernel_rfl
theorem undU8 : Try.checked.prog.underlying 5 = some (.int .u8) := by kernel_rfl
theorem KW {d : Nat} {v : AV} (h : Has Try.checked.prog (d + 1) 3 v) : ∃ n : Int, v = .int .i64 n ∧ -9223372036854775808 ≤ n ∧ n < 9223372036854775808 := by
 obtain ⟨n, rfl, h1, h2⟩ := Jy undInt h
 have h1' : (-9223372036854775808 : Int) ≤ n := h1
 have h2' : n ≤ 9223372036854775807 := h2
 exact ⟨n, rfl, h1', by omega⟩
theorem I7 {d : Nat} {v : AV} (h : Has Try.checked.prog (d + 1) 25 v) : ∃ n : Nat, v = .int .u32 (n : Int) ∧ n < 4294967296 := by
 obtain ⟨n, rfl, h1, h2⟩ := Jy undU32 h
 have h1' : (0 : Int) ≤ n := h1
 have h2' : n ≤ 4294967295 := h2
 exact ⟨n.toNat, by rw [Int.toNat_of_nonneg h1'], by omega⟩
theorem has_u8 {d : Nat} {v : AV} (h : Has Try.checked.prog (d + 1) 5 v) : ∃ n : Nat, v = bv n ∧ n < 256 := by
 obtain ⟨n, rfl, h1, h2⟩ := Jy undU8 h
 have h1' : (0 : Int) ≤ n := h1
 have h2' : n ≤ 255 := h2
 exact ⟨n.toNat, by rw [bv, Int.toNat_of_nonneg h1'], by omega⟩
theorem Ih {α : Type} (f : α → AV) (p : α → Prop) : ∀ (l : List AV), (∀ x ∈ l, ∃ y, x = f y ∧ p y) → ∃ ys : List α, l = ys.map f ∧ ∀ y ∈ ys, p y
 | [], _ => ⟨[], rfl, by simp⟩
 | x :: l, h => by
  obtain ⟨y, rfl, hy⟩ := h x (List.mem_cons_self ..)
  obtain ⟨ys, rfl, hys⟩ := Ih f p l (fun x hx => h x (List.mem_cons_of_mem _ hx))
  refine ⟨y :: ys, rfl, fun z hz => ?_⟩
  rcases List.mem_cons.mp hz with rfl | hz
  · exact hy
  · exact hys z hz
theorem Qh : Try.checked.prog.underlying 118 = some (.array 128 5) := by kernel_rfl
theorem QZ : uid Try.checked.prog 118 = 117 := by kernel_rfl
theorem Ob {d : Nat} {v : AV} (h : Has Try.checked.prog (d + 2) 118 v) : ∃ p : List Nat, v = pg p ∧ p.length = 128 ∧ ∀ b ∈ p, b < 256 := by
 obtain ⟨ps, rfl, hl, hx⟩ := Da Qh h
 obtain ⟨ys, rfl, hy⟩ := Ih bv (fun b => b < 256) ps (fun x hx' => has_u8 (hx x hx'))
 exact ⟨ys, by rw [QZ]; rfl, by simpa using hl, hy⟩
theorem undMem : ∃ fs, Try.checked.prog.underlying 24 = some (.struct fs) ∧ fs.toList.map (·.type) = [22] := ⟨_, rfl, rfl⟩
theorem uidMem : uid Try.checked.prog 24 = 23 := by kernel_rfl
theorem NZ : Try.checked.prog.underlying 22 = some (.slice 118) := by kernel_rfl
theorem QB {d : Nat} {v : AV} (h : Has Try.checked.prog (d + 4) 24 v) : ∃ m : Pgs, v = mv m ∧ pgsOK m := by
 obtain ⟨fs, hu, hf⟩ := undMem
 obtain ⟨ps, rfl, h1⟩ := Ab hu h
 rw [hf] at h1
 obtain ⟨p0, r, rfl, q0, h2⟩ := dG h1
 obtain rfl := Bu h2
 obtain ⟨l, rfl, _, hl⟩ := LQ NZ q0
 obtain ⟨ys, rfl, hy⟩ := Ih pg (fun p => p.length = 128 ∧ ∀ b ∈ p, b < 256) l (fun x hx => Ob (hl x hx))
 exact ⟨ys, by rw [uidMem], hy⟩
theorem PY : Try.checked.prog.underlying 102 = some (.array 16 25) := by kernel_rfl
theorem Qt : uid Try.checked.prog 102 = 102 := by kernel_rfl
theorem PS : Try.checked.prog.underlying 103 = some (.array 9 25) := by kernel_rfl
theorem PZ : uid Try.checked.prog 103 = 103 := by kernel_rfl
theorem OZ {d : Nat} {v : AV} (h : Has Try.checked.prog (d + 2) 102 v) : ∃ r : List Nat, v = .agg 102 (r.map uv) ∧ r.length = 16 ∧ ∀ n ∈ r, n < 4294967296 := by
 obtain ⟨ps, rfl, hl, hx⟩ := Da PY h
 obtain ⟨ys, rfl, hy⟩ := Ih uv (fun b => b < 4294967296) ps (fun x hx' => I7 (hx x hx'))
 exact ⟨ys, by rw [Qt], by simpa using hl, hy⟩
theorem Oj {d : Nat} {v : AV} (h : Has Try.checked.prog (d + 2) 103 v) : ∃ r : List Nat, v = .agg 103 (r.map uv) ∧ r.length = 9 ∧ ∀ n ∈ r, n < 4294967296 := by
 obtain ⟨ps, rfl, hl, hx⟩ := Da PS h
 obtain ⟨ys, rfl, hy⟩ := Ih uv (fun b => b < 4294967296) ps (fun x hx' => I7 (hx x hx'))
 exact ⟨ys, by rw [PZ], by simpa using hl, hy⟩
theorem undCPU : ∃ fs, Try.checked.prog.underlying 105 = some (.struct fs) ∧ fs.toList.map (·.type) = [25, 102, 103, 4, 4, 4, 3] := ⟨_, rfl, rfl⟩
theorem uidCPU : uid Try.checked.prog 105 = 104 := by kernel_rfl
theorem Rl {d : Nat} {v : AV} (h : Has Try.checked.prog (d + 3) 105 v) : ∃ (pc : Nat) (r c : List Nat) (u wt ht : Bool) (n : Int), v = .agg 104 [uv pc, .agg 102 (r.map uv), .agg 103 (c.map uv), .bool u, .bool wt, .bool ht, .int .i64 n] ∧
    pc < 4294967296 ∧ r.length = 16 ∧ (∀ x ∈ r, x < 4294967296) ∧ c.length = 9 ∧ ∀ x ∈ c, x < 4294967296 := by
 obtain ⟨fs, hu, hf⟩ := undCPU
 obtain ⟨ps, rfl, h1⟩ := Ab hu h
 rw [hf] at h1
 obtain ⟨p0, r, rfl, q0, h2⟩ := dG h1
 obtain ⟨p1, r, rfl, q1, h3⟩ := dG h2
 obtain ⟨p2, r, rfl, q2, h4⟩ := dG h3
 obtain ⟨p3, r, rfl, q3, h5⟩ := dG h4
 obtain ⟨p4, r, rfl, q4, h6⟩ := dG h5
 obtain ⟨p5, r, rfl, q5, h7⟩ := dG h6
 obtain ⟨p6, r, rfl, q6, h8⟩ := dG h7
 obtain rfl := Bu h8
 obtain ⟨pc, rfl, hpc⟩ := I7 q0
 obtain ⟨r, rfl, r1, r2⟩ := OZ q1
 obtain ⟨c, rfl, c1, c2⟩ := Oj q2
 obtain ⟨u, rfl⟩ := FV Gj q3
 obtain ⟨w, rfl⟩ := FV Gj q4
 obtain ⟨t, rfl⟩ := FV Gj q5
 obtain ⟨n, rfl, _⟩ := KW q6
 exact ⟨pc, r, c, u, w, t, n, by rw [uidCPU], hpc, r1, r2, c1, c2⟩
theorem undIns : ∃ fs, Try.checked.prog.underlying 123 = some (.struct fs) ∧ fs.toList.map (·.type) = [3, 3, 3, 3, 3] := ⟨_, rfl, rfl⟩
theorem uidIns : uid Try.checked.prog 123 = 122 := by kernel_rfl
theorem Qs {d : Nat} {v : AV} (h : Has Try.checked.prog (d + 3) 123 v) : ∃ op a b c imm : Int, v = .agg 122 [.int .i64 op, .int .i64 a, .int .i64 b, .int .i64 c, .int .i64 imm] := by
 obtain ⟨fs, hu, hf⟩ := undIns
 obtain ⟨ps, rfl, h1⟩ := Ab hu h
 rw [hf] at h1
 obtain ⟨p0, r, rfl, q0, h2⟩ := dG h1
 obtain ⟨p1, r, rfl, q1, h3⟩ := dG h2
 obtain ⟨p2, r, rfl, q2, h4⟩ := dG h3
 obtain ⟨p3, r, rfl, q3, h5⟩ := dG h4
 obtain ⟨p4, r, rfl, q4, h6⟩ := dG h5
 obtain rfl := Bu h6
 obtain ⟨n0, rfl, _⟩ := KW q0
 obtain ⟨n1, rfl, _⟩ := KW q1
 obtain ⟨n2, rfl, _⟩ := KW q2
 obtain ⟨n3, rfl, _⟩ := KW q3
 obtain ⟨n4, rfl, _⟩ := KW q4
 exact ⟨n0, n1, n2, n3, n4, by rw [uidIns]⟩
end Go.Proofs.Ytcknhfnbdgleiaa
