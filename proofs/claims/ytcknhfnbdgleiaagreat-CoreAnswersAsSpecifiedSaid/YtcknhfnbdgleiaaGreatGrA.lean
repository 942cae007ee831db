/- The laws' arguments. -/
import Derived.Test.YtcknhfnbdgleiaaGreatCoM
import Derived.Test.YtcknhfnbdgleiaaGreatEvD
set_option linter.unusedVariables false
set_option maxRecDepth 100000
namespace Go.Proofs.YtcknhfnbdgleiaaGreat
open Go.AE
theorem Tryz.own : ownKnob Tryz.checked.prog.godebug = none := by kernel_rfl
theorem Tryz.laidOut : laidOutB Tryz.checked.prog = true := by kernel_rfl
theorem Tryz.mapsRowed : mapsRowed Tryz.checked.prog = true := by kernel_rfl
theorem Tryz.Wy : (((Rows.coreStepsAsSpecifiedRow).stops == []) && (Tryz.checked.prog.stops == []) && ((Rows.coreStepsAsSpecifiedRow).knobs == []) && (Tryz.checked.prog.stopKnobs == [])) = true := by kernel_rfl
theorem Tryz.zf : zf Tryz.checked.prog Rows.coreStepsAsSpecifiedRow = true := by kernel_rfl
theorem xI : Tryz.checked.prog.underlying 4 = some .bool := by kernel_rfl
theorem aaq : Tryz.checked.prog.underlying 3 = some (.int .i64) := by kernel_rfl
theorem acD : Tryz.checked.prog.underlying 22 = some (.int .u32) := by kernel_rfl
theorem UW : Tryz.checked.prog.underlying 5 = some (.int .u8) := by kernel_rfl
theorem YL {d : Nat} {v : AV} (h : Has Tryz.checked.prog (d + 1) 3 v) : ∃ n : Int, v = .int .i64 n /\ -9223372036854775808 <= n /\ n < 9223372036854775808 := by
 obtain ⟨n, rfl, h1, h2⟩ := F5 aaq h
 have h1' : (-9223372036854775808 : Int) <= n := h1
 have h2' : n <= 9223372036854775807 := h2
 exact ⟨n, rfl, h1', by omega⟩
theorem yQ {d : Nat} {v : AV} (h : Has Tryz.checked.prog (d + 1) 22 v) : ∃ n : Nat, v = .int .u32 (n : Int) /\ n < 4294967296 := by
 obtain ⟨n, rfl, h1, h2⟩ := F5 acD h
 have h1' : (0 : Int) <= n := h1
 have h2' : n <= 4294967295 := h2
 exact ⟨n.toNat, by rw [Int.toNat_of_nonneg h1'], by omega⟩
theorem Vh {d : Nat} {v : AV} (h : Has Tryz.checked.prog (d + 1) 5 v) : ∃ n : Nat, v = bv n /\ n < 256 := by
 obtain ⟨n, rfl, h1, h2⟩ := F5 UW h
 have h1' : (0 : Int) <= n := h1
 have h2' : n <= 255 := h2
 exact ⟨n.toNat, by rw [bv, Int.toNat_of_nonneg h1'], by omega⟩
theorem yI {α : Type} (f : α -> AV) (p : α -> Prop) : ∀ (l : List AV), (∀ x ∈ l, ∃ y, x = f y /\ p y) -> ∃ ys : List α, l = ys.map f /\ ∀ y ∈ ys, p y
 | [], _ => ⟨[], rfl, by simp⟩
 | x :: l, h => by
  obtain ⟨y, rfl, hy⟩ := h x (List.mem_cons_self ..)
  obtain ⟨ys, rfl, hys⟩ := yI f p l (fun x hx => h x (List.mem_cons_of_mem _ hx))
  refine ⟨y :: ys, rfl, fun z hz => ?_⟩
  rcases List.mem_cons.mp hz with rfl | hz
  . exact hy
  . exact hys z hz
theorem YK : Tryz.checked.prog.underlying 139 = some (.array 128 5) := by kernel_rfl
theorem RV : uid Tryz.checked.prog 139 = 138 := by kernel_rfl
theorem abW {d : Nat} {v : AV} (h : Has Tryz.checked.prog (d + 2) 139 v) : ∃ p : List Nat, v = pg p /\ p.length = 128 /\ ∀ b ∈ p, b < 256 := by
 obtain ⟨ps, rfl, hl, hx⟩ := Fv YK h
 obtain ⟨ys, rfl, hy⟩ := yI bv (fun b => b < 256) ps (fun x hx' => Vh (hx x hx'))
 exact ⟨ys, by rw [RV]; rfl, by simpa using hl, hy⟩
theorem Va : ∃ fs, Tryz.checked.prog.underlying 29 = some (.struct fs) /\ fs.toList.map (·.type) = [27] := ⟨_, rfl, rfl⟩
theorem ZW : uid Tryz.checked.prog 29 = 28 := by kernel_rfl
theorem abR : Tryz.checked.prog.underlying 27 = some (.slice 139) := by kernel_rfl
theorem aby {d : Nat} {v : AV} (h : Has Tryz.checked.prog (d + 4) 29 v) : ∃ m : aF, v = mv m /\ Kz m := by
 obtain ⟨fs, hu, hf⟩ := Va
 obtain ⟨ps, rfl, h1⟩ := LC hu h
 rw [hf] at h1
 obtain ⟨p0, r, rfl, q0, h2⟩ := jS h1
 obtain rfl := Ev h2
 obtain ⟨l, rfl, _, hl⟩ := YW abR q0
 obtain ⟨ys, rfl, hy⟩ := yI pg (fun p => p.length = 128 /\ ∀ b ∈ p, b < 256) l (fun x hx => abW (hl x hx))
 exact ⟨ys, by rw [ZW], hy⟩
theorem XY : Tryz.checked.prog.underlying 23 = some (.array 16 22) := by kernel_rfl
theorem Te : uid Tryz.checked.prog 23 = 23 := by kernel_rfl
theorem SX : Tryz.checked.prog.underlying 24 = some (.array 9 22) := by kernel_rfl
theorem Vb : uid Tryz.checked.prog 24 = 24 := by kernel_rfl
theorem abJ {d : Nat} {v : AV} (h : Has Tryz.checked.prog (d + 2) 23 v) : ∃ r : List Nat, v = .agg 23 (r.map uv) /\ r.length = 16 /\ ∀ n ∈ r, n < 4294967296 := by
 obtain ⟨ps, rfl, hl, hx⟩ := Fv XY h
 obtain ⟨ys, rfl, hy⟩ := yI uv (fun b => b < 4294967296) ps (fun x hx' => yQ (hx x hx'))
 exact ⟨ys, by rw [Te], by simpa using hl, hy⟩
theorem YS {d : Nat} {v : AV} (h : Has Tryz.checked.prog (d + 2) 24 v) : ∃ r : List Nat, v = .agg 24 (r.map uv) /\ r.length = 9 /\ ∀ n ∈ r, n < 4294967296 := by
 obtain ⟨ps, rfl, hl, hx⟩ := Fv SX h
 obtain ⟨ys, rfl, hy⟩ := yI uv (fun b => b < 4294967296) ps (fun x hx' => yQ (hx x hx'))
 exact ⟨ys, by rw [Vb], by simpa using hl, hy⟩
theorem V7 : ∃ fs, Tryz.checked.prog.underlying 26 = some (.struct fs) /\ fs.toList.map (·.type) = [22, 23, 24, 4, 4, 4, 3] := ⟨_, rfl, rfl⟩
theorem aad : uid Tryz.checked.prog 26 = 25 := by kernel_rfl
theorem WX {d : Nat} {v : AV} (h : Has Tryz.checked.prog (d + 3) 26 v) : ∃ (pc : Nat) (r c : List Nat) (u wt ht : Bool) (n : Int), v = yG (uv pc) (r.map uv) (c.map uv) u wt ht n /\
    pc < 4294967296 /\ r.length = 16 /\ (∀ x ∈ r, x < 4294967296) /\ c.length = 9 /\ ∀ x ∈ c, x < 4294967296 := by
 obtain ⟨fs, hu, hf⟩ := V7
 obtain ⟨ps, rfl, h1⟩ := LC hu h
 rw [hf] at h1
 obtain ⟨p0, r, rfl, q0, h2⟩ := jS h1
 obtain ⟨p1, r, rfl, q1, h3⟩ := jS h2
 obtain ⟨p2, r, rfl, q2, h4⟩ := jS h3
 obtain ⟨p3, r, rfl, q3, h5⟩ := jS h4
 obtain ⟨p4, r, rfl, q4, h6⟩ := jS h5
 obtain ⟨p5, r, rfl, q5, h7⟩ := jS h6
 obtain ⟨p6, r, rfl, q6, h8⟩ := jS h7
 obtain rfl := Ev h8
 obtain ⟨pc, rfl, hpc⟩ := yQ q0
 obtain ⟨r, rfl, r1, r2⟩ := abJ q1
 obtain ⟨c, rfl, c1, c2⟩ := YS q2
 obtain ⟨u, rfl⟩ := CX xI q3
 obtain ⟨w, rfl⟩ := CX xI q4
 obtain ⟨t, rfl⟩ := CX xI q5
 obtain ⟨n, rfl, _⟩ := YL q6
 exact ⟨pc, r, c, u, w, t, n, by rw [aad], hpc, r1, r2, c1, c2⟩
end Go.Proofs.YtcknhfnbdgleiaaGreat
