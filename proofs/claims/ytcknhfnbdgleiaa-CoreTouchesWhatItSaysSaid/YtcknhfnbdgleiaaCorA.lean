/- The laws' arguments. -/
import Derived.Test.YtcknhfnbdgleiaaCoM
import Derived.Test.YtcknhfnbdgleiaaEvD
set_option linter.unusedVariables false
set_option maxRecDepth 100000
namespace Go.Proofs.Ytcknhfnbdgleiaa
open Go.AE
theorem Try.own : ownKnob Try.checked.prog.godebug = none := by kernel_rfl
theorem Try.laidOut : laidOutB Try.checked.prog = true := by kernel_rfl
theorem Try.mapsRowed : mapsRowed Try.checked.prog = true := by kernel_rfl
theorem Try.O7 : (((Rows.coreKeepsValidRow).stops == []) && (Try.checked.prog.stops == []) && ((Rows.coreKeepsValidRow).knobs == []) && (Try.checked.prog.stopKnobs == [])) = true := by kernel_rfl
theorem Try.xq : xq Try.checked.prog Rows.coreKeepsValidRow = true := by kernel_rfl
theorem AA : Try.checked.prog.underlying 4 = some .bool := by kernel_rfl
theorem Pn : Try.checked.prog.underlying 3 = some (.int .i64) := by kernel_rfl
theorem ZG : Try.checked.prog.underlying 25 = some (.int .u32) := by kernel_rfl
theorem Y2 : Try.checked.prog.underlying 5 = some (.int .u8) := by kernel_rfl
theorem UL {d : Nat} {v : AV} (h : Has Try.checked.prog (d + 1) 3 v) : ∃ n : Int, v = .int .i64 n /\ -9223372036854775808 <= n /\ n < 9223372036854775808 := by
 obtain ⟨n, rfl, h1, h2⟩ := CF Pn h
 have h1' : (-9223372036854775808 : Int) <= n := h1
 have h2' : n <= 9223372036854775807 := h2
 exact ⟨n, rfl, h1', by omega⟩
theorem zm {d : Nat} {v : AV} (h : Has Try.checked.prog (d + 1) 25 v) : ∃ n : Nat, v = .int .u32 (n : Int) /\ n < 4294967296 := by
 obtain ⟨n, rfl, h1, h2⟩ := CF ZG h
 have h1' : (0 : Int) <= n := h1
 have h2' : n <= 4294967295 := h2
 exact ⟨n.toNat, by rw [Int.toNat_of_nonneg h1'], by omega⟩
theorem Nh {d : Nat} {v : AV} (h : Has Try.checked.prog (d + 1) 5 v) : ∃ n : Nat, v = bv n /\ n < 256 := by
 obtain ⟨n, rfl, h1, h2⟩ := CF Y2 h
 have h1' : (0 : Int) <= n := h1
 have h2' : n <= 255 := h2
 exact ⟨n.toNat, by rw [bv, Int.toNat_of_nonneg h1'], by omega⟩
theorem sO {α : Type} (f : α -> AV) (p : α -> Prop) : ∀ (l : List AV), (∀ x ∈ l, ∃ y, x = f y /\ p y) -> ∃ ys : List α, l = ys.map f /\ ∀ y ∈ ys, p y
 | [], _ => ⟨[], rfl, by simp⟩
 | x :: l, h => by
  obtain ⟨y, rfl, hy⟩ := h x (List.mem_cons_self ..)
  obtain ⟨ys, rfl, hys⟩ := sO f p l (fun x hx => h x (List.mem_cons_of_mem _ hx))
  refine ⟨y :: ys, rfl, fun z hz => ?_⟩
  rcases List.mem_cons.mp hz with rfl | hz
  . exact hy
  . exact hys z hz
theorem Rb : Try.checked.prog.underlying 118 = some (.array 128 5) := by kernel_rfl
theorem XA : uid Try.checked.prog 118 = 117 := by kernel_rfl
theorem Rn {d : Nat} {v : AV} (h : Has Try.checked.prog (d + 2) 118 v) : ∃ p : List Nat, v = pg p /\ p.length = 128 /\ ∀ b ∈ p, b < 256 := by
 obtain ⟨ps, rfl, hl, hx⟩ := Dr Rb h
 obtain ⟨ys, rfl, hy⟩ := sO bv (fun b => b < 256) ps (fun x hx' => Nh (hx x hx'))
 exact ⟨ys, by rw [XA]; rfl, by simpa using hl, hy⟩
theorem Ye : ∃ fs, Try.checked.prog.underlying 24 = some (.struct fs) /\ fs.toList.map (·.type) = [22] := ⟨_, rfl, rfl⟩
theorem XB : uid Try.checked.prog 24 = 23 := by kernel_rfl
theorem VB : Try.checked.prog.underlying 22 = some (.slice 118) := by kernel_rfl
theorem SS {d : Nat} {v : AV} (h : Has Try.checked.prog (d + 4) 24 v) : ∃ m : aA, v = mv m /\ Kj m := by
 obtain ⟨fs, hu, hf⟩ := Ye
 obtain ⟨ps, rfl, h1⟩ := K4 hu h
 rw [hf] at h1
 obtain ⟨p0, r, rfl, q0, h2⟩ := jJ h1
 obtain rfl := Fb h2
 obtain ⟨l, rfl, _, hl⟩ := LZ VB q0
 obtain ⟨ys, rfl, hy⟩ := sO pg (fun p => p.length = 128 /\ ∀ b ∈ p, b < 256) l (fun x hx => Rn (hl x hx))
 exact ⟨ys, by rw [XB], hy⟩
theorem Vs : Try.checked.prog.underlying 102 = some (.array 16 25) := by kernel_rfl
theorem Pj : uid Try.checked.prog 102 = 102 := by kernel_rfl
theorem Ve : Try.checked.prog.underlying 103 = some (.array 9 25) := by kernel_rfl
theorem Ur : uid Try.checked.prog 103 = 103 := by kernel_rfl
theorem Y6 {d : Nat} {v : AV} (h : Has Try.checked.prog (d + 2) 102 v) : ∃ r : List Nat, v = .agg 102 (r.map uv) /\ r.length = 16 /\ ∀ n ∈ r, n < 4294967296 := by
 obtain ⟨ps, rfl, hl, hx⟩ := Dr Vs h
 obtain ⟨ys, rfl, hy⟩ := sO uv (fun b => b < 4294967296) ps (fun x hx' => zm (hx x hx'))
 exact ⟨ys, by rw [Pj], by simpa using hl, hy⟩
theorem UO {d : Nat} {v : AV} (h : Has Try.checked.prog (d + 2) 103 v) : ∃ r : List Nat, v = .agg 103 (r.map uv) /\ r.length = 9 /\ ∀ n ∈ r, n < 4294967296 := by
 obtain ⟨ps, rfl, hl, hx⟩ := Dr Ve h
 obtain ⟨ys, rfl, hy⟩ := sO uv (fun b => b < 4294967296) ps (fun x hx' => zm (hx x hx'))
 exact ⟨ys, by rw [Ur], by simpa using hl, hy⟩
theorem Zh : ∃ fs, Try.checked.prog.underlying 105 = some (.struct fs) /\ fs.toList.map (·.type) = [25, 102, 103, 4, 4, 4, 3] := ⟨_, rfl, rfl⟩
theorem Um : uid Try.checked.prog 105 = 104 := by kernel_rfl
theorem Tk {d : Nat} {v : AV} (h : Has Try.checked.prog (d + 3) 105 v) : ∃ (pc : Nat) (r c : List Nat) (u wt ht : Bool) (n : Int), v = .agg 104 [uv pc, .agg 102 (r.map uv), .agg 103 (c.map uv), .bool u, .bool wt, .bool ht, .int .i64 n] /\
    pc < 4294967296 /\ r.length = 16 /\ (∀ x ∈ r, x < 4294967296) /\ c.length = 9 /\ ∀ x ∈ c, x < 4294967296 := by
 obtain ⟨fs, hu, hf⟩ := Zh
 obtain ⟨ps, rfl, h1⟩ := K4 hu h
 rw [hf] at h1
 obtain ⟨p0, r, rfl, q0, h2⟩ := jJ h1
 obtain ⟨p1, r, rfl, q1, h3⟩ := jJ h2
 obtain ⟨p2, r, rfl, q2, h4⟩ := jJ h3
 obtain ⟨p3, r, rfl, q3, h5⟩ := jJ h4
 obtain ⟨p4, r, rfl, q4, h6⟩ := jJ h5
 obtain ⟨p5, r, rfl, q5, h7⟩ := jJ h6
 obtain ⟨p6, r, rfl, q6, h8⟩ := jJ h7
 obtain rfl := Fb h8
 obtain ⟨pc, rfl, hpc⟩ := zm q0
 obtain ⟨r, rfl, r1, r2⟩ := Y6 q1
 obtain ⟨c, rfl, c1, c2⟩ := UO q2
 obtain ⟨u, rfl⟩ := Fa AA q3
 obtain ⟨w, rfl⟩ := Fa AA q4
 obtain ⟨t, rfl⟩ := Fa AA q5
 obtain ⟨n, rfl, _⟩ := UL q6
 exact ⟨pc, r, c, u, w, t, n, by rw [Um], hpc, r1, r2, c1, c2⟩
theorem Xl : Try.checked.prog.underlying 106 = some (.slice 5) := by kernel_rfl
theorem RQ {d : Nat} {v : AV} (h : Has Try.checked.prog (d + 2) 106 v) : ∃ o : List Nat, v = .slice 5 (o.map bv) false /\ ∀ b ∈ o, b < 256 := by
 obtain ⟨l, rfl, _, hl⟩ := LZ Xl h
 obtain ⟨ys, rfl, hy⟩ := sO bv (fun b => b < 256) l (fun x hx => Nh (hl x hx))
 exact ⟨ys, rfl, hy⟩
end Go.Proofs.Ytcknhfnbdgleiaa
