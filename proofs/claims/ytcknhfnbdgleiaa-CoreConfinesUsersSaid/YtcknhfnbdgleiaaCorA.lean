/- The laws' arguments. -/
import Derived.Test.YtcknhfnbdgleiaaCor19
import Derived.Test.YtcknhfnbdgleiaaEvD
set_option linter.unusedVariables false
set_option maxRecDepth 100000
namespace Go.Proofs.Ytcknhfnbdgleiaa
open Go.AE
theorem Try.own : ownKnob Try.checked.prog.godebug = none := by kernel_rfl
theorem Try.laidOut : laidOutB Try.checked.prog = true := by kernel_rfl
theorem Try.mapsRowed : mapsRowed Try.checked.prog = true := by kernel_rfl
theorem Try.aaz : (((Rows.coreKeepsValidRow).stops == []) && (Try.checked.prog.stops == []) && ((Rows.coreKeepsValidRow).knobs == []) && (Try.checked.prog.stopKnobs == [])) = true := by kernel_rfl
theorem Try.vP : vP Try.checked.prog Rows.coreKeepsValidRow = true := by kernel_rfl
theorem zP : Try.checked.prog.underlying 4 = some .bool := by kernel_rfl
theorem Yv : Try.checked.prog.underlying 3 = some (.int .i64) := by kernel_rfl
theorem Rx : Try.checked.prog.underlying 25 = some (.int .u32) := by kernel_rfl
theorem Xo : Try.checked.prog.underlying 5 = some (.int .u8) := by kernel_rfl
theorem Zg {d : Nat} {v : AV} (h : Has Try.checked.prog (d + 1) 3 v) : ∃ n : Int, v = .int .i64 n /\ -9223372036854775808 <= n /\ n < 9223372036854775808 := by
 obtain ⟨n, rfl, h1, h2⟩ := E5 Yv h
 have h1' : (-9223372036854775808 : Int) <= n := h1
 have h2' : n <= 9223372036854775807 := h2
 exact ⟨n, rfl, h1', by omega⟩
theorem Ch {d : Nat} {v : AV} (h : Has Try.checked.prog (d + 1) 25 v) : ∃ n : Nat, v = .int .u32 (n : Int) /\ n < 4294967296 := by
 obtain ⟨n, rfl, h1, h2⟩ := E5 Rx h
 have h1' : (0 : Int) <= n := h1
 have h2' : n <= 4294967295 := h2
 exact ⟨n.toNat, by rw [Int.toNat_of_nonneg h1'], by omega⟩
theorem Ya {d : Nat} {v : AV} (h : Has Try.checked.prog (d + 1) 5 v) : ∃ n : Nat, v = bv n /\ n < 256 := by
 obtain ⟨n, rfl, h1, h2⟩ := E5 Xo h
 have h1' : (0 : Int) <= n := h1
 have h2' : n <= 255 := h2
 exact ⟨n.toNat, by rw [bv, Int.toNat_of_nonneg h1'], by omega⟩
theorem vV {α : Type} (f : α -> AV) (p : α -> Prop) : ∀ (l : List AV), (∀ x ∈ l, ∃ y, x = f y /\ p y) -> ∃ ys : List α, l = ys.map f /\ ∀ y ∈ ys, p y
 | [], _ => ⟨[], rfl, by simp⟩
 | x :: l, h => by
  obtain ⟨y, rfl, hy⟩ := h x (List.mem_cons_self ..)
  obtain ⟨ys, rfl, hys⟩ := vV f p l (fun x hx => h x (List.mem_cons_of_mem _ hx))
  refine ⟨y :: ys, rfl, fun z hz => ?_⟩
  rcases List.mem_cons.mp hz with rfl | hz
  . exact hy
  . exact hys z hz
theorem Vm : Try.checked.prog.underlying 118 = some (.array 128 5) := by kernel_rfl
theorem OZ : uid Try.checked.prog 118 = 117 := by kernel_rfl
theorem Zw {d : Nat} {v : AV} (h : Has Try.checked.prog (d + 2) 118 v) : ∃ p : List Nat, v = pg p /\ p.length = 128 /\ ∀ b ∈ p, b < 256 := by
 obtain ⟨ps, rfl, hl, hx⟩ := EM Vm h
 obtain ⟨ys, rfl, hy⟩ := vV bv (fun b => b < 256) ps (fun x hx' => Ya (hx x hx'))
 exact ⟨ys, by rw [OZ]; rfl, by simpa using hl, hy⟩
theorem U5 : ∃ fs, Try.checked.prog.underlying 24 = some (.struct fs) /\ fs.toList.map (·.type) = [22] := ⟨_, rfl, rfl⟩
theorem WC : uid Try.checked.prog 24 = 23 := by kernel_rfl
theorem Vh : Try.checked.prog.underlying 22 = some (.slice 118) := by kernel_rfl
theorem Vb {d : Nat} {v : AV} (h : Has Try.checked.prog (d + 4) 24 v) : ∃ m : av, v = mv m /\ Og m := by
 obtain ⟨fs, hu, hf⟩ := U5
 obtain ⟨ps, rfl, h1⟩ := IQ hu h
 rw [hf] at h1
 obtain ⟨p0, r, rfl, q0, h2⟩ := jZ h1
 obtain rfl := H7 h2
 obtain ⟨l, rfl, _, hl⟩ := U3 Vh q0
 obtain ⟨ys, rfl, hy⟩ := vV pg (fun p => p.length = 128 /\ ∀ b ∈ p, b < 256) l (fun x hx => Zw (hl x hx))
 exact ⟨ys, by rw [WC], hy⟩
theorem XL : Try.checked.prog.underlying 102 = some (.array 16 25) := by kernel_rfl
theorem Qk : uid Try.checked.prog 102 = 102 := by kernel_rfl
theorem VP : Try.checked.prog.underlying 103 = some (.array 9 25) := by kernel_rfl
theorem Qw : uid Try.checked.prog 103 = 103 := by kernel_rfl
theorem VX {d : Nat} {v : AV} (h : Has Try.checked.prog (d + 2) 102 v) : ∃ r : List Nat, v = .agg 102 (r.map uv) /\ r.length = 16 /\ ∀ n ∈ r, n < 4294967296 := by
 obtain ⟨ps, rfl, hl, hx⟩ := EM XL h
 obtain ⟨ys, rfl, hy⟩ := vV uv (fun b => b < 4294967296) ps (fun x hx' => Ch (hx x hx'))
 exact ⟨ys, by rw [Qk], by simpa using hl, hy⟩
theorem YA {d : Nat} {v : AV} (h : Has Try.checked.prog (d + 2) 103 v) : ∃ r : List Nat, v = .agg 103 (r.map uv) /\ r.length = 9 /\ ∀ n ∈ r, n < 4294967296 := by
 obtain ⟨ps, rfl, hl, hx⟩ := EM VP h
 obtain ⟨ys, rfl, hy⟩ := vV uv (fun b => b < 4294967296) ps (fun x hx' => Ch (hx x hx'))
 exact ⟨ys, by rw [Qw], by simpa using hl, hy⟩
theorem UD : ∃ fs, Try.checked.prog.underlying 105 = some (.struct fs) /\ fs.toList.map (·.type) = [25, 102, 103, 4, 4, 4, 3] := ⟨_, rfl, rfl⟩
theorem Zf : uid Try.checked.prog 105 = 104 := by kernel_rfl
theorem Sn {d : Nat} {v : AV} (h : Has Try.checked.prog (d + 3) 105 v) : ∃ (pc : Nat) (r c : List Nat) (u wt ht : Bool) (n : Int), v = .agg 104 [uv pc, .agg 102 (r.map uv), .agg 103 (c.map uv), .bool u, .bool wt, .bool ht, .int .i64 n] /\
    pc < 4294967296 /\ r.length = 16 /\ (∀ x ∈ r, x < 4294967296) /\ c.length = 9 /\ ∀ x ∈ c, x < 4294967296 := by
 obtain ⟨fs, hu, hf⟩ := UD
 obtain ⟨ps, rfl, h1⟩ := IQ hu h
 rw [hf] at h1
 obtain ⟨p0, r, rfl, q0, h2⟩ := jZ h1
 obtain ⟨p1, r, rfl, q1, h3⟩ := jZ h2
 obtain ⟨p2, r, rfl, q2, h4⟩ := jZ h3
 obtain ⟨p3, r, rfl, q3, h5⟩ := jZ h4
 obtain ⟨p4, r, rfl, q4, h6⟩ := jZ h5
 obtain ⟨p5, r, rfl, q5, h7⟩ := jZ h6
 obtain ⟨p6, r, rfl, q6, h8⟩ := jZ h7
 obtain rfl := H7 h8
 obtain ⟨pc, rfl, hpc⟩ := Ch q0
 obtain ⟨r, rfl, r1, r2⟩ := VX q1
 obtain ⟨c, rfl, c1, c2⟩ := YA q2
 obtain ⟨u, rfl⟩ := II zP q3
 obtain ⟨w, rfl⟩ := II zP q4
 obtain ⟨t, rfl⟩ := II zP q5
 obtain ⟨n, rfl, _⟩ := Zg q6
 exact ⟨pc, r, c, u, w, t, n, by rw [Zf], hpc, r1, r2, c1, c2⟩
end Go.Proofs.Ytcknhfnbdgleiaa
