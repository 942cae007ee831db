/- The laws' arguments. -/
import Derived.Test.YtcknhfnbdgleiaaGreatCoM
import Derived.Test.YtcknhfnbdgleiaaGreatEvD
set_option linter.unusedVariables false
set_option maxRecDepth 100000
namespace Go.Proofs.YtcknhfnbdgleiaaGreat
open Go.AE
theorem Tryz.own : ownKnob Tryz.checked.prog.godebug = none := by kernel_rfl
theorem Tryz.laidOut : laidOutB Tryz.checked.prog = true := by kernel_rfl
theorem Tryz.mapsRowed : mapsRowed Tryz.checked.prog = true := by kernel_rfl
theorem Tryz.ach : (((Rows.coreStepsAsSpecifiedRow).stops == []) && (Tryz.checked.prog.stops == []) && ((Rows.coreStepsAsSpecifiedRow).knobs == []) && (Tryz.checked.prog.stopKnobs == [])) = true := by kernel_rfl
theorem Tryz.wM : wM Tryz.checked.prog Rows.coreStepsAsSpecifiedRow = true := by kernel_rfl
theorem AJ : Tryz.checked.prog.underlying 4 = some .bool := by kernel_rfl
theorem abV : Tryz.checked.prog.underlying 3 = some (.int .i64) := by kernel_rfl
theorem Za : Tryz.checked.prog.underlying 22 = some (.int .u32) := by kernel_rfl
theorem Ui : Tryz.checked.prog.underlying 5 = some (.int .u8) := by kernel_rfl
theorem Jc {d : Nat} {v : AV} (h : Has Tryz.checked.prog (d + 1) 3 v) : ∃ n : Int, v = .int .i64 n /\ -9223372036854775808 <= n /\ n < 9223372036854775808 := by
 obtain ⟨n, rfl, h1, h2⟩ := EJ abV h
 have h1' : (-9223372036854775808 : Int) <= n := h1
 have h2' : n <= 9223372036854775807 := h2
 exact ⟨n, rfl, h1', by omega⟩
theorem E8 {d : Nat} {v : AV} (h : Has Tryz.checked.prog (d + 1) 22 v) : ∃ n : Nat, v = .int .u32 (n : Int) /\ n < 4294967296 := by
 obtain ⟨n, rfl, h1, h2⟩ := EJ Za h
 have h1' : (0 : Int) <= n := h1
 have h2' : n <= 4294967295 := h2
 exact ⟨n.toNat, by rw [Int.toNat_of_nonneg h1'], by omega⟩
theorem Ki {d : Nat} {v : AV} (h : Has Tryz.checked.prog (d + 1) 5 v) : ∃ n : Nat, v = bv n /\ n < 256 := by
 obtain ⟨n, rfl, h1, h2⟩ := EJ Ui h
 have h1' : (0 : Int) <= n := h1
 have h2' : n <= 255 := h2
 exact ⟨n.toNat, by rw [bv, Int.toNat_of_nonneg h1'], by omega⟩
theorem xG {α : Type} (f : α -> AV) (p : α -> Prop) : ∀ (l : List AV), (∀ x ∈ l, ∃ y, x = f y /\ p y) -> ∃ ys : List α, l = ys.map f /\ ∀ y ∈ ys, p y
 | [], _ => ⟨[], rfl, by simp⟩
 | x :: l, h => by
  obtain ⟨y, rfl, hy⟩ := h x (List.mem_cons_self ..)
  obtain ⟨ys, rfl, hys⟩ := xG f p l (fun x hx => h x (List.mem_cons_of_mem _ hx))
  refine ⟨y :: ys, rfl, fun z hz => ?_⟩
  rcases List.mem_cons.mp hz with rfl | hz
  . exact hy
  . exact hys z hz
theorem aaQ : Tryz.checked.prog.underlying 139 = some (.array 128 5) := by kernel_rfl
theorem YO : uid Tryz.checked.prog 139 = 138 := by kernel_rfl
theorem abk {d : Nat} {v : AV} (h : Has Tryz.checked.prog (d + 2) 139 v) : ∃ p : List Nat, v = pg p /\ p.length = 128 /\ ∀ b ∈ p, b < 256 := by
 obtain ⟨ps, rfl, hl, hx⟩ := Gl aaQ h
 obtain ⟨ys, rfl, hy⟩ := xG bv (fun b => b < 256) ps (fun x hx' => Ki (hx x hx'))
 exact ⟨ys, by rw [YO]; rfl, by simpa using hl, hy⟩
theorem XE : ∃ fs, Tryz.checked.prog.underlying 29 = some (.struct fs) /\ fs.toList.map (·.type) = [27] := ⟨_, rfl, rfl⟩
theorem V4 : uid Tryz.checked.prog 29 = 28 := by kernel_rfl
theorem aaD : Tryz.checked.prog.underlying 27 = some (.slice 139) := by kernel_rfl
theorem SA {d : Nat} {v : AV} (h : Has Tryz.checked.prog (d + 4) 29 v) : ∃ m : aF, v = mv m /\ RI m := by
 obtain ⟨fs, hu, hf⟩ := XE
 obtain ⟨ps, rfl, h1⟩ := KZ hu h
 rw [hf] at h1
 obtain ⟨p0, r, rfl, q0, h2⟩ := kG h1
 obtain rfl := Et h2
 obtain ⟨l, rfl, _, hl⟩ := R7 aaD q0
 obtain ⟨ys, rfl, hy⟩ := xG pg (fun p => p.length = 128 /\ ∀ b ∈ p, b < 256) l (fun x hx => abk (hl x hx))
 exact ⟨ys, by rw [V4], hy⟩
theorem V5 : Tryz.checked.prog.underlying 23 = some (.array 16 22) := by kernel_rfl
theorem WL : uid Tryz.checked.prog 23 = 23 := by kernel_rfl
theorem acQ : Tryz.checked.prog.underlying 24 = some (.array 9 22) := by kernel_rfl
theorem ZQ : uid Tryz.checked.prog 24 = 24 := by kernel_rfl
theorem abm {d : Nat} {v : AV} (h : Has Tryz.checked.prog (d + 2) 23 v) : ∃ r : List Nat, v = .agg 23 (r.map uv) /\ r.length = 16 /\ ∀ n ∈ r, n < 4294967296 := by
 obtain ⟨ps, rfl, hl, hx⟩ := Gl V5 h
 obtain ⟨ys, rfl, hy⟩ := xG uv (fun b => b < 4294967296) ps (fun x hx' => E8 (hx x hx'))
 exact ⟨ys, by rw [WL], by simpa using hl, hy⟩
theorem WU {d : Nat} {v : AV} (h : Has Tryz.checked.prog (d + 2) 24 v) : ∃ r : List Nat, v = .agg 24 (r.map uv) /\ r.length = 9 /\ ∀ n ∈ r, n < 4294967296 := by
 obtain ⟨ps, rfl, hl, hx⟩ := Gl acQ h
 obtain ⟨ys, rfl, hy⟩ := xG uv (fun b => b < 4294967296) ps (fun x hx' => E8 (hx x hx'))
 exact ⟨ys, by rw [ZQ], by simpa using hl, hy⟩
theorem aaF : ∃ fs, Tryz.checked.prog.underlying 26 = some (.struct fs) /\ fs.toList.map (·.type) = [22, 23, 24, 4, 4, 4, 3] := ⟨_, rfl, rfl⟩
theorem adf : uid Tryz.checked.prog 26 = 25 := by kernel_rfl
theorem aaS {d : Nat} {v : AV} (h : Has Tryz.checked.prog (d + 3) 26 v) : ∃ (pc : Nat) (r c : List Nat) (u wt ht : Bool) (n : Int), v = xM (uv pc) (r.map uv) (c.map uv) u wt ht n /\
    pc < 4294967296 /\ r.length = 16 /\ (∀ x ∈ r, x < 4294967296) /\ c.length = 9 /\ ∀ x ∈ c, x < 4294967296 := by
 obtain ⟨fs, hu, hf⟩ := aaF
 obtain ⟨ps, rfl, h1⟩ := KZ hu h
 rw [hf] at h1
 obtain ⟨p0, r, rfl, q0, h2⟩ := kG h1
 obtain ⟨p1, r, rfl, q1, h3⟩ := kG h2
 obtain ⟨p2, r, rfl, q2, h4⟩ := kG h3
 obtain ⟨p3, r, rfl, q3, h5⟩ := kG h4
 obtain ⟨p4, r, rfl, q4, h6⟩ := kG h5
 obtain ⟨p5, r, rfl, q5, h7⟩ := kG h6
 obtain ⟨p6, r, rfl, q6, h8⟩ := kG h7
 obtain rfl := Et h8
 obtain ⟨pc, rfl, hpc⟩ := E8 q0
 obtain ⟨r, rfl, r1, r2⟩ := abm q1
 obtain ⟨c, rfl, c1, c2⟩ := WU q2
 obtain ⟨u, rfl⟩ := Ew AJ q3
 obtain ⟨w, rfl⟩ := Ew AJ q4
 obtain ⟨t, rfl⟩ := Ew AJ q5
 obtain ⟨n, rfl, _⟩ := Jc q6
 exact ⟨pc, r, c, u, w, t, n, by rw [adf], hpc, r1, r2, c1, c2⟩
end Go.Proofs.YtcknhfnbdgleiaaGreat
