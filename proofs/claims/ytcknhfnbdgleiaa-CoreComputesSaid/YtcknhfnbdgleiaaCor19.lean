/- The examples. -/
import Derived.Test.YtcknhfnbdgleiaaCor18
set_option linter.unusedVariables false
set_option linter.unusedSimpArgs false
set_option maxRecDepth 100000
namespace Go.Proofs.Ytcknhfnbdgleiaa
open Go.AE

def pgsOK (m : Pgs) : Prop := ∀ p ∈ m, p.length = 128 ∧ ∀ b ∈ p, b < 256
def pgE (w : Nat) : Pgs := [wb w ++ List.replicate 124 0]
theorem Pm {w : Nat} : Wm (pgE w) := ⟨by show 0 < 1; decide, by show 1 ≤ 64; decide, fun p hp => by rw [List.mem_singleton.mp hp]; simp [wb], fun p hp b hb' => by
 rw [List.mem_singleton.mp hp] at hb'
 rcases List.mem_append.mp hb' with h | h
 · exact wb_lt w b h
 · rw [List.eq_of_mem_replicate h]; decide⟩
def C0 : Cp := ⟨0, [0, 0, 7, 0, 0, 0, 0, 0, 0, 0, 0, 0, 0, 0, 0, 0], [0, 64, 0, 0, 0, 0, 0, 0, 0], false, false, false, 0⟩
theorem C0_wc : Wc C0 := ⟨by decide, by decide, by decide, by decide, by decide⟩
abbrev C0v : AV := .agg 104 [.int .u32 0, .agg 102 [.int .u32 0, .int .u32 0, .int .u32 7, .int .u32 0, .int .u32 0, .int .u32 0, .int .u32 0, .int .u32 0, .int .u32 0, .int .u32 0, .int .u32 0, .int .u32 0, .int .u32 0, .int .u32 0, .int .u32 0, .int .u32 0], .agg 103 [.int .u32 0, .int .u32 64, .int .u32 0, .int .u32 0, .int .u32 0, .int .u32 0, .int .u32 0, .int .u32 0, .int .u32 0], .bool false, .bool false, .bool false, .int .i64 0]
theorem Qm (k : Nat) : Rt Pg (D (k + 1)) 109 [.int .i64 0, .int .u32 0] (.agg 104 [.int .u32 0, .agg 102 [.int .u32 0, .int .u32 0, .int .u32 0, .int .u32 0, .int .u32 0, .int .u32 0, .int .u32 0, .int .u32 0, .int .u32 0, .int .u32 0, .int .u32 0, .int .u32 0, .int .u32 0, .int .u32 0, .int .u32 0, .int .u32 0], .agg 103 [.int .u32 0, .int .u32 0, .int .u32 0, .int .u32 0, .int .u32 0, .int .u32 0, .int .u32 0, .int .u32 0, .int .u32 0], .bool false, .bool false, .bool false, .int .i64 0]) := .of (by rw [Dk, DJ]; rfl) (by kernel_rfl)
def S (w : Nat) : Ef := stp C0 (pgE w) 0
theorem Cm (k w : Nat) : Rt Pg (D (k + 6)) 53 [C0v, mv (pgE w), .int .u32 0] (efv (S w)) := Po k C0_wc (by decide) Pm 0 (by decide)
theorem q_bad (k : Nat) : Rt Pg (D (k + 6)) 53 [C0v, .agg 23 [.slice 118 [.agg 117 [.int .u8 0, .int .u8 0, .int .u8 0, .int .u8 0, .int .u8 0, .int .u8 0, .int .u8 0, .int .u8 0, .int .u8 0, .int .u8 0, .int .u8 0, .int .u8 0, .int .u8 0, .int .u8 0, .int .u8 0, .int .u8 0, .int .u8 0, .int .u8 0, .int .u8 0, .int .u8 0, .int .u8 0, .int .u8 0, .int .u8 0, .int .u8 0, .int .u8 0, .int .u8 0, .int .u8 0, .int .u8 0, .int .u8 0, .int .u8 0, .int .u8 0, .int .u8 0, .int .u8 0, .int .u8 0, .int .u8 0, .int .u8 0, .int .u8 0, .int .u8 0, .int .u8 0, .int .u8 0, .int .u8 0, .int .u8 0, .int .u8 0, .int .u8 0, .int .u8 0, .int .u8 0, .int .u8 0, .int .u8 0, .int .u8 0, .int .u8 0, .int .u8 0, .int .u8 0, .int .u8 0, .int .u8 0, .int .u8 0, .int .u8 0, .int .u8 0, .int .u8 0, .int .u8 0, .int .u8 0, .int .u8 0, .int .u8 0, .int .u8 0, .int .u8 0, .int .u8 0, .int .u8 0, .int .u8 0, .int .u8 0, .int .u8 0, .int .u8 0, .int .u8 0, .int .u8 0, .int .u8 0, .int .u8 0, .int .u8 0, .int .u8 0, .int .u8 0, .int .u8 0, .int .u8 0, .int .u8 0, .int .u8 0, .int .u8 0, .int .u8 0, .int .u8 0, .int .u8 0, .int .u8 0, .int .u8 0, .int .u8 0, .int .u8 0, .int .u8 0, .int .u8 0, .int .u8 0, .int .u8 0, .int .u8 0, .int .u8 0, .int .u8 0, .int .u8 0, .int .u8 0, .int .u8 0, .int .u8 0, .int .u8 0, .int .u8 0, .int .u8 0, .int .u8 0, .int .u8 0, .int .u8 0, .int .u8 0, .int .u8 0, .int .u8 0, .int .u8 0, .int .u8 0, .int .u8 0, .int .u8 0, .int .u8 0, .int .u8 0, .int .u8 0, .int .u8 0, .int .u8 0, .int .u8 0, .int .u8 0, .int .u8 0, .int .u8 0, .int .u8 0, .int .u8 0, .int .u8 0, .int .u8 0, .int .u8 0, .int .u8 0]] false], .int .u32 0] (efv (S 0)) := Cm k 0
theorem th_z : th (pgE 0) 0 4 = true := by decide +kernel
theorem stR_z (w : Nat) : stR (pgE 0) ⟨0, 4, w⟩ = pgE w := by
 unfold stR
 have e : th (pgE 0) (⟨0, 4, w⟩ : Wr).a (⟨0, 4, w⟩ : Wr).s = true := th_z
 rw [e, cond_true]
 simp [st, pt, pgAt, pgE, Wr.d, wb]
theorem st_z (w : Nat) (hw : w < 4294967296) (k : Nat) : Rt Pg (D (k + 3)) 57 [.agg 23 [.slice 118 [.agg 117 [.int .u8 0, .int .u8 0, .int .u8 0, .int .u8 0, .int .u8 0, .int .u8 0, .int .u8 0, .int .u8 0, .int .u8 0, .int .u8 0, .int .u8 0, .int .u8 0, .int .u8 0, .int .u8 0, .int .u8 0, .int .u8 0, .int .u8 0, .int .u8 0, .int .u8 0, .int .u8 0, .int .u8 0, .int .u8 0, .int .u8 0, .int .u8 0, .int .u8 0, .int .u8 0, .int .u8 0, .int .u8 0, .int .u8 0, .int .u8 0, .int .u8 0, .int .u8 0, .int .u8 0, .int .u8 0, .int .u8 0, .int .u8 0, .int .u8 0, .int .u8 0, .int .u8 0, .int .u8 0, .int .u8 0, .int .u8 0, .int .u8 0, .int .u8 0, .int .u8 0, .int .u8 0, .int .u8 0, .int .u8 0, .int .u8 0, .int .u8 0, .int .u8 0, .int .u8 0, .int .u8 0, .int .u8 0, .int .u8 0, .int .u8 0, .int .u8 0, .int .u8 0, .int .u8 0, .int .u8 0, .int .u8 0, .int .u8 0, .int .u8 0, .int .u8 0, .int .u8 0, .int .u8 0, .int .u8 0, .int .u8 0, .int .u8 0, .int .u8 0, .int .u8 0, .int .u8 0, .int .u8 0, .int .u8 0, .int .u8 0, .int .u8 0, .int .u8 0, .int .u8 0, .int .u8 0, .int .u8 0, .int .u8 0, .int .u8 0, .int .u8 0, .int .u8 0, .int .u8 0, .int .u8 0, .int .u8 0, .int .u8 0, .int .u8 0, .int .u8 0, .int .u8 0, .int .u8 0, .int .u8 0, .int .u8 0, .int .u8 0, .int .u8 0, .int .u8 0, .int .u8 0, .int .u8 0, .int .u8 0, .int .u8 0, .int .u8 0, .int .u8 0, .int .u8 0, .int .u8 0, .int .u8 0, .int .u8 0, .int .u8 0, .int .u8 0, .int .u8 0, .int .u8 0, .int .u8 0, .int .u8 0, .int .u8 0, .int .u8 0, .int .u8 0, .int .u8 0, .int .u8 0, .int .u8 0, .int .u8 0, .int .u8 0, .int .u8 0, .int .u8 0, .int .u8 0, .int .u8 0, .int .u8 0, .int .u8 0, .int .u8 0]] false], .agg 41 [.int .i64 0, .int .i64 4, uv w]] (.agg 128 [mv (pgE w), .bool true]) :=
 by
 have r := KC k (Pm (w := 0)) (x := ⟨0, 4, w⟩) ⟨by show 0 < 4294967296; omega, .inr rfl, hw⟩
 rw [stR_z] at r
 have e : th (pgE 0) (⟨0, 4, w⟩ : Wr).a (⟨0, 4, w⟩ : Wr).s = true := th_z
 rw [e] at r
 exact r
theorem LD (k w : Nat) (hw : w < 4294967296) {a b c d e : Int} (h : Rt Pg (D (k + 5)) 56 [.agg 122 [.int .i64 a, .int .i64 b, .int .i64 c, .int .i64 d, .int .i64 e]] (.agg 125 [uv w, .int .i64 0])) :
    Rt Pg (D (k + 6)) 110 [.agg 122 [.int .i64 a, .int .i64 b, .int .i64 c, .int .i64 d, .int .i64 e]] (mv (pgE w)) := .of (by
 have r := st_z w hw (k + 2)
 rw [Dk, Js]
 simp only [h.ok, h.val, pO, g0, g1, iO, bO, lO, r.ok, r.val, cond_true]) (by kernel_rfl)
theorem r_at1 (k : Nat) : Rt Pg (D (k + 6)) 110 [.agg 122 [.int .i64 16, .int .i64 1, .int .i64 0, .int .i64 0, .int .i64 5]] (mv (pgE 1077936133)) := LD k 1077936133 (by decide) (.of (by kernel_rfl) (by kernel_rfl))
theorem r_at2 (k : Nat) : Rt Pg (D (k + 6)) 110 [.agg 122 [.int .i64 21, .int .i64 2, .int .i64 0, .int .i64 0, .int .i64 8]] (mv (pgE 1417674760)) := LD k 1417674760 (by decide) (.of (by kernel_rfl) (by kernel_rfl))
theorem r_at3 (k : Nat) : Rt Pg (D (k + 6)) 110 [.agg 122 [.int .i64 20, .int .i64 1, .int .i64 0, .int .i64 0, .int .i64 130]] (mv (pgE 1346371714)) := LD k 1346371714 (by decide) (.of (by kernel_rfl) (by kernel_rfl))
theorem r_at4 (k : Nat) : Rt Pg (D (k + 6)) 110 [.agg 122 [.int .i64 20, .int .i64 1, .int .i64 0, .int .i64 0, .int .i64 128]] (mv (pgE 1346371712)) := LD k 1346371712 (by decide) (.of (by kernel_rfl) (by kernel_rfl))
theorem r_at5 (k : Nat) : Rt Pg (D (k + 6)) 110 [.agg 122 [.int .i64 40, .int .i64 0, .int .i64 0, .int .i64 0, .int .i64 0]] (mv (pgE 2684354560)) := LD k 2684354560 (by decide) (.of (by kernel_rfl) (by kernel_rfl))
theorem r_at6 (k : Nat) : Rt Pg (D (k + 6)) 110 [.agg 122 [.int .i64 46, .int .i64 1, .int .i64 0, .int .i64 0, .int .i64 33]] (mv (pgE 3091202081)) := LD k 3091202081 (by decide) (.of (by kernel_rfl) (by kernel_rfl))
theorem q_ans (k : Nat) : Rt Pg (D (k + 5)) 59 [efv (S 3091202081), .int .u32 9, .bool true] (efv (ans (S 3091202081) 9 true)) := r_ans k (fun _ => ⟨by decide +kernel, C0_wc, by decide⟩) 9 true
theorem IX (k : Nat) : D (k + 12) 52 [] = some (.bool true) := by
 rw [Dk, Dj]
 have b := Qm (k + 10)
 have a1 := r_at1 (k + 5)
 have s1 := Cm (k + 5) 1077936133
 have a2 := r_at2 (k + 5)
 have s2 := Cm (k + 5) 1417674760
 have a3 := r_at3 (k + 5)
 have s3 := Cm (k + 5) 1346371714
 have a4 := r_at4 (k + 5)
 have s4 := Cm (k + 5) 1346371712
 have a5 := r_at5 (k + 5)
 have s5 := Cm (k + 5) 2684354560
 have a6 := r_at6 (k + 5)
 have s6 := Cm (k + 5) 3091202081
 have s7 := q_bad (k + 5)
 have s8 := q_ans (k + 6)
 unfold efv at *
 simp only [b.ok, b.val, pO, g0, g1, g2, g3, g4, iO, bO, lO, List.set_cons_succ, List.set_cons_zero, cond_true, List.getD_cons_succ, List.getD_cons_zero, a1.ok, a1.val, s1.ok, s1.val, a2.ok, a2.val, s2.ok, s2.val, a3.ok, a3.val, s3.ok, s3.val, a4.ok, a4.val, s4.ok, s4.val, a5.ok, a5.val, s5.ok, s5.val, a6.ok, a6.val, s6.ok, s6.val, s7.ok, s7.val, s8.ok, s8.val]
 refine Eq.trans (b := some (.bool true)) ?_ rfl
 kernel_rfl
theorem BJ (k : Nat) : Rt Pg (D (k + 12)) 52 [] (.bool true) := .of (IX k) (by kernel_rfl)
end Go.Proofs.Ytcknhfnbdgleiaa
