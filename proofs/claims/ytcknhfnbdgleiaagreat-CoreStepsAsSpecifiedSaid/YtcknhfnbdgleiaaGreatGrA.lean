/- The laws' arguments. -/
import Derived.Test.YtcknhfnbdgleiaaGreatCoM
import Derived.Test.YtcknhfnbdgleiaaGreatEvD
set_option linter.unusedVariables false
set_option maxRecDepth 100000
namespace Go.Proofs.YtcknhfnbdgleiaaGreat
open Go.AE
theorem Tryz.own : ownKnob Tryz.checked.prog.godebug = none := by kernel_rfl
theorem Tryz.laidOut : laidOutB Tryz.checked.prog = true := by kernel_rfl
theorem Tryz.mapsRowed : mapsRowed Tryz.checked.prog = true := by kernel_rfl
theorem Tryz.acA : (((Rows.coreStepsAsSpecifiedRow).stops == []) && (Tryz.checked.prog.stops == []) && ((Rows.coreStepsAsSpecifiedRow).knobs == []) && (Tryz.checked.prog.stopKnobs == [])) = true := by kernel_rfl
theorem Tryz.xE : xE Tryz.checked.prog Rows.coreStepsAsSpecifiedRow = true := by kernel_rfl
theorem Cz : Tryz.checked.prog.underlying 4 = some .bool := by kernel_rfl
theorem Vo : Tryz.checked.prog.underlying 3 = some (.int .i64) := by kernel_rfl
theorem Xd : Tryz.checked.prog.underlying 22 = some (.int .u32) := by kernel_rfl
theorem abz : Tryz.checked.prog.underlying 5 = some (.int .u8) := by kernel_rfl
theorem SA {d : Nat} {v : AV} (h : Has Tryz.checked.prog (d + 1) 3 v) : ∃ n : Int, v = .int .i64 n /\ -9223372036854775808 <= n /\ n < 9223372036854775808 := by
 obtain ⟨n, rfl, h1, h2⟩ := D7 Vo h
 have h1' : (-9223372036854775808 : Int) <= n := h1
 have h2' : n <= 9223372036854775807 := h2
 exact ⟨n, rfl, h1', by omega⟩
theorem Au {d : Nat} {v : AV} (h : Has Tryz.checked.prog (d + 1) 22 v) : ∃ n : Nat, v = .int .u32 (n : Int) /\ n < 4294967296 := by
 obtain ⟨n, rfl, h1, h2⟩ := D7 Xd h
 have h1' : (0 : Int) <= n := h1
 have h2' : n <= 4294967295 := h2
 exact ⟨n.toNat, by rw [Int.toNat_of_nonneg h1'], by omega⟩
theorem aaQ {d : Nat} {v : AV} (h : Has Tryz.checked.prog (d + 1) 5 v) : ∃ n : Nat, v = bv n /\ n < 256 := by
 obtain ⟨n, rfl, h1, h2⟩ := D7 abz h
 have h1' : (0 : Int) <= n := h1
 have h2' : n <= 255 := h2
 exact ⟨n.toNat, by rw [bv, Int.toNat_of_nonneg h1'], by omega⟩
theorem yt {α : Type} (f : α -> AV) (p : α -> Prop) : ∀ (l : List AV), (∀ x ∈ l, ∃ y, x = f y /\ p y) -> ∃ ys : List α, l = ys.map f /\ ∀ y ∈ ys, p y
 | [], _ => ⟨[], rfl, by simp⟩
 | x :: l, h => by
  obtain ⟨y, rfl, hy⟩ := h x (List.mem_cons_self ..)
  obtain ⟨ys, rfl, hys⟩ := yt f p l (fun x hx => h x (List.mem_cons_of_mem _ hx))
  refine ⟨y :: ys, rfl, fun z hz => ?_⟩
  rcases List.mem_cons.mp hz with rfl | hz
  . exact hy
  . exact hys z hz
theorem Uw : Tryz.checked.prog.underlying 139 = some (.array 128 5) := by kernel_rfl
theorem aaE : uid Tryz.checked.prog 139 = 138 := by kernel_rfl
theorem Yk {d : Nat} {v : AV} (h : Has Tryz.checked.prog (d + 2) 139 v) : ∃ p : List Nat, v = pg p /\ p.length = 128 /\ ∀ b ∈ p, b < 256 := by
 obtain ⟨ps, rfl, hl, hx⟩ := E8 Uw h
 obtain ⟨ys, rfl, hy⟩ := yt bv (fun b => b < 256) ps (fun x hx' => aaQ (hx x hx'))
 exact ⟨ys, by rw [aaE]; rfl, by simpa using hl, hy⟩
theorem WY : ∃ fs, Tryz.checked.prog.underlying 29 = some (.struct fs) /\ fs.toList.map (·.type) = [27] := ⟨_, rfl, rfl⟩
theorem Vr : uid Tryz.checked.prog 29 = 28 := by kernel_rfl
theorem Tq : Tryz.checked.prog.underlying 27 = some (.slice 139) := by kernel_rfl
theorem X8 {d : Nat} {v : AV} (h : Has Tryz.checked.prog (d + 4) 29 v) : ∃ m : aF, v = mv m /\ Nz m := by
 obtain ⟨fs, hu, hf⟩ := WY
 obtain ⟨ps, rfl, h1⟩ := Qc hu h
 rw [hf] at h1
 obtain ⟨p0, r, rfl, q0, h2⟩ := lF h1
 obtain rfl := F4 h2
 obtain ⟨l, rfl, _, hl⟩ := aa3 Tq q0
 obtain ⟨ys, rfl, hy⟩ := yt pg (fun p => p.length = 128 /\ ∀ b ∈ p, b < 256) l (fun x hx => Yk (hl x hx))
 exact ⟨ys, by rw [Vr], hy⟩
theorem X6 : Tryz.checked.prog.underlying 23 = some (.array 16 22) := by kernel_rfl
theorem abe : uid Tryz.checked.prog 23 = 23 := by kernel_rfl
theorem Ue : Tryz.checked.prog.underlying 24 = some (.array 9 22) := by kernel_rfl
theorem abr : uid Tryz.checked.prog 24 = 24 := by kernel_rfl
theorem aa1 {d : Nat} {v : AV} (h : Has Tryz.checked.prog (d + 2) 23 v) : ∃ r : List Nat, v = .agg 23 (r.map uv) /\ r.length = 16 /\ ∀ n ∈ r, n < 4294967296 := by
 obtain ⟨ps, rfl, hl, hx⟩ := E8 X6 h
 obtain ⟨ys, rfl, hy⟩ := yt uv (fun b => b < 4294967296) ps (fun x hx' => Au (hx x hx'))
 exact ⟨ys, by rw [abe], by simpa using hl, hy⟩
theorem abE {d : Nat} {v : AV} (h : Has Tryz.checked.prog (d + 2) 24 v) : ∃ r : List Nat, v = .agg 24 (r.map uv) /\ r.length = 9 /\ ∀ n ∈ r, n < 4294967296 := by
 obtain ⟨ps, rfl, hl, hx⟩ := E8 Ue h
 obtain ⟨ys, rfl, hy⟩ := yt uv (fun b => b < 4294967296) ps (fun x hx' => Au (hx x hx'))
 exact ⟨ys, by rw [abr], by simpa using hl, hy⟩
theorem VP : ∃ fs, Tryz.checked.prog.underlying 26 = some (.struct fs) /\ fs.toList.map (·.type) = [22, 23, 24, 4, 4, 4, 3] := ⟨_, rfl, rfl⟩
theorem Xi : uid Tryz.checked.prog 26 = 25 := by kernel_rfl
theorem abM {d : Nat} {v : AV} (h : Has Tryz.checked.prog (d + 3) 26 v) : ∃ (pc : Nat) (r c : List Nat) (u wt ht : Bool) (n : Int), v = wS (uv pc) (r.map uv) (c.map uv) u wt ht n /\
    pc < 4294967296 /\ r.length = 16 /\ (∀ x ∈ r, x < 4294967296) /\ c.length = 9 /\ ∀ x ∈ c, x < 4294967296 := by
 obtain ⟨fs, hu, hf⟩ := VP
 obtain ⟨ps, rfl, h1⟩ := Qc hu h
 rw [hf] at h1
 obtain ⟨p0, r, rfl, q0, h2⟩ := lF h1
 obtain ⟨p1, r, rfl, q1, h3⟩ := lF h2
 obtain ⟨p2, r, rfl, q2, h4⟩ := lF h3
 obtain ⟨p3, r, rfl, q3, h5⟩ := lF h4
 obtain ⟨p4, r, rfl, q4, h6⟩ := lF h5
 obtain ⟨p5, r, rfl, q5, h7⟩ := lF h6
 obtain ⟨p6, r, rfl, q6, h8⟩ := lF h7
 obtain rfl := F4 h8
 obtain ⟨pc, rfl, hpc⟩ := Au q0
 obtain ⟨r, rfl, r1, r2⟩ := aa1 q1
 obtain ⟨c, rfl, c1, c2⟩ := abE q2
 obtain ⟨u, rfl⟩ := Ec Cz q3
 obtain ⟨w, rfl⟩ := Ec Cz q4
 obtain ⟨t, rfl⟩ := Ec Cz q5
 obtain ⟨n, rfl, _⟩ := SA q6
 exact ⟨pc, r, c, u, w, t, n, by rw [Xi], hpc, r1, r2, c1, c2⟩
end Go.Proofs.YtcknhfnbdgleiaaGreat
