/- The examples. -/
import Derived.Test.YtcknhfnbdgleiaaCor18
set_option linter.unusedVariables false
set_option linter.unusedSimpArgs false
set_option maxRecDepth 100000
namespace Go.Proofs.Ytcknhfnbdgleiaa
open Go.AE
def Og (m : av) : Prop := ∀ p ∈ m, p.length = 128 /\ ∀ b ∈ p, b < 256
def gI (w : Nat) : av := [wb w ++ List.replicate 124 0]
theorem Jt {w : Nat} : Wm (gI w) := ⟨by show 0 < 1; decide, by show 1 <= 64; decide, fun p hp => by rw [List.mem_singleton.mp hp]; simp [wb], fun p hp b hb' => by
 rw [List.mem_singleton.mp hp] at hb'
 rcases List.mem_append.mp hb' with h | h
 . exact OB w b h
 . rw [List.eq_of_mem_replicate h]; decide⟩
def C0 : Cp := ⟨0, [0, 0, 7, 0, 0, 0, 0, 0, 0, 0, 0, 0, 0, 0, 0, 0], [0, 64, 0, 0, 0, 0, 0, 0, 0], false, false, false, 0⟩
theorem OP : Wc C0 := ⟨by decide, by decide, by decide, by decide, by decide⟩
abbrev C0v : AV := .agg 104 [.int .u32 0, .agg 102 [.int .u32 0, .int .u32 0, .int .u32 7, .int .u32 0, .int .u32 0, .int .u32 0, .int .u32 0, .int .u32 0, .int .u32 0, .int .u32 0, .int .u32 0, .int .u32 0, .int .u32 0, .int .u32 0, .int .u32 0, .int .u32 0], .agg 103 [.int .u32 0, .int .u32 64, .int .u32 0, .int .u32 0, .int .u32 0, .int .u32 0, .int .u32 0, .int .u32 0, .int .u32 0], .bool false, .bool false, .bool false, .int .i64 0]
theorem TD (k : Nat) : Rt Pg (D (k + 1)) 109 [.int .i64 0, .int .u32 0] (.agg 104 [.int .u32 0, .agg 102 [.int .u32 0, .int .u32 0, .int .u32 0, .int .u32 0, .int .u32 0, .int .u32 0, .int .u32 0, .int .u32 0, .int .u32 0, .int .u32 0, .int .u32 0, .int .u32 0, .int .u32 0, .int .u32 0, .int .u32 0, .int .u32 0], .agg 103 [.int .u32 0, .int .u32 0, .int .u32 0, .int .u32 0, .int .u32 0, .int .u32 0, .int .u32 0, .int .u32 0, .int .u32 0], .bool false, .bool false, .bool false, .int .i64 0]) := .of (by rw [Dk, YD]; rfl) (by kernel_rfl)
def S (w : Nat) : Ef := fB C0 (gI w) 0
theorem pJ (k w : Nat) : Rt Pg (D (k + 6)) 53 [C0v, mv (gI w), .int .u32 0] (fZ (S w)) := ME k OP (by decide) Jt 0 (by decide)
theorem UG (k : Nat) : Rt Pg (D (k + 6)) 53 [C0v, .agg 23 [.slice 118 [.agg 117 [.int .u8 0, .int .u8 0, .int .u8 0, .int .u8 0, .int .u8 0, .int .u8 0, .int .u8 0, .int .u8 0, .int .u8 0, .int .u8 0, .int .u8 0, .int .u8 0, .int .u8 0, .int .u8 0, .int .u8 0, .int .u8 0, .int .u8 0, .int .u8 0, .int .u8 0, .int .u8 0, .int .u8 0, .int .u8 0, .int .u8 0, .int .u8 0, .int .u8 0, .int .u8 0, .int .u8 0, .int .u8 0, .int .u8 0, .int .u8 0, .int .u8 0, .int .u8 0, .int .u8 0, .int .u8 0, .int .u8 0, .int .u8 0, .int .u8 0, .int .u8 0, .int .u8 0, .int .u8 0, .int .u8 0, .int .u8 0, .int .u8 0, .int .u8 0, .int .u8 0, .int .u8 0, .int .u8 0, .int .u8 0, .int .u8 0, .int .u8 0, .int .u8 0, .int .u8 0, .int .u8 0, .int .u8 0, .int .u8 0, .int .u8 0, .int .u8 0, .int .u8 0, .int .u8 0, .int .u8 0, .int .u8 0, .int .u8 0, .int .u8 0, .int .u8 0, .int .u8 0, .int .u8 0, .int .u8 0, .int .u8 0, .int .u8 0, .int .u8 0, .int .u8 0, .int .u8 0, .int .u8 0, .int .u8 0, .int .u8 0, .int .u8 0, .int .u8 0, .int .u8 0, .int .u8 0, .int .u8 0, .int .u8 0, .int .u8 0, .int .u8 0, .int .u8 0, .int .u8 0, .int .u8 0, .int .u8 0, .int .u8 0, .int .u8 0, .int .u8 0, .int .u8 0, .int .u8 0, .int .u8 0, .int .u8 0, .int .u8 0, .int .u8 0, .int .u8 0, .int .u8 0, .int .u8 0, .int .u8 0, .int .u8 0, .int .u8 0, .int .u8 0, .int .u8 0, .int .u8 0, .int .u8 0, .int .u8 0, .int .u8 0, .int .u8 0, .int .u8 0, .int .u8 0, .int .u8 0, .int .u8 0, .int .u8 0, .int .u8 0, .int .u8 0, .int .u8 0, .int .u8 0, .int .u8 0, .int .u8 0, .int .u8 0, .int .u8 0, .int .u8 0, .int .u8 0, .int .u8 0, .int .u8 0, .int .u8 0, .int .u8 0]] false], .int .u32 0] (fZ (S 0)) := pJ k 0
theorem Jw : th (gI 0) 0 4 = true := by decide +kernel
theorem WQ (w : Nat) : fE (gI 0) ⟨0, 4, w⟩ = gI w := by
 unfold fE
 have e : th (gI 0) (⟨0, 4, w⟩ : Wr).a (⟨0, 4, w⟩ : Wr).s = true := Jw
 rw [e, cond_true]
 simp [st, pt, d9, gI, Wr.d, wb]
theorem QL (w : Nat) (hw : w < 4294967296) (k : Nat) : Rt Pg (D (k + 3)) 57 [.agg 23 [.slice 118 [.agg 117 [.int .u8 0, .int .u8 0, .int .u8 0, .int .u8 0, .int .u8 0, .int .u8 0, .int .u8 0, .int .u8 0, .int .u8 0, .int .u8 0, .int .u8 0, .int .u8 0, .int .u8 0, .int .u8 0, .int .u8 0, .int .u8 0, .int .u8 0, .int .u8 0, .int .u8 0, .int .u8 0, .int .u8 0, .int .u8 0, .int .u8 0, .int .u8 0, .int .u8 0, .int .u8 0, .int .u8 0, .int .u8 0, .int .u8 0, .int .u8 0, .int .u8 0, .int .u8 0, .int .u8 0, .int .u8 0, .int .u8 0, .int .u8 0, .int .u8 0, .int .u8 0, .int .u8 0, .int .u8 0, .int .u8 0, .int .u8 0, .int .u8 0, .int .u8 0, .int .u8 0, .int .u8 0, .int .u8 0, .int .u8 0, .int .u8 0, .int .u8 0, .int .u8 0, .int .u8 0, .int .u8 0, .int .u8 0, .int .u8 0, .int .u8 0, .int .u8 0, .int .u8 0, .int .u8 0, .int .u8 0, .int .u8 0, .int .u8 0, .int .u8 0, .int .u8 0, .int .u8 0, .int .u8 0, .int .u8 0, .int .u8 0, .int .u8 0, .int .u8 0, .int .u8 0, .int .u8 0, .int .u8 0, .int .u8 0, .int .u8 0, .int .u8 0, .int .u8 0, .int .u8 0, .int .u8 0, .int .u8 0, .int .u8 0, .int .u8 0, .int .u8 0, .int .u8 0, .int .u8 0, .int .u8 0, .int .u8 0, .int .u8 0, .int .u8 0, .int .u8 0, .int .u8 0, .int .u8 0, .int .u8 0, .int .u8 0, .int .u8 0, .int .u8 0, .int .u8 0, .int .u8 0, .int .u8 0, .int .u8 0, .int .u8 0, .int .u8 0, .int .u8 0, .int .u8 0, .int .u8 0, .int .u8 0, .int .u8 0, .int .u8 0, .int .u8 0, .int .u8 0, .int .u8 0, .int .u8 0, .int .u8 0, .int .u8 0, .int .u8 0, .int .u8 0, .int .u8 0, .int .u8 0, .int .u8 0, .int .u8 0, .int .u8 0, .int .u8 0, .int .u8 0, .int .u8 0, .int .u8 0, .int .u8 0, .int .u8 0, .int .u8 0]] false], .agg 41 [.int .i64 0, .int .i64 4, uv w]] (.agg 128 [mv (gI w), .bool true]) :=
 by
 have r := Wj k (Jt (w := 0)) (x := ⟨0, 4, w⟩) ⟨by show 0 < 4294967296; omega, .inr rfl, hw⟩
 rw [WQ] at r
 have e : th (gI 0) (⟨0, 4, w⟩ : Wr).a (⟨0, 4, w⟩ : Wr).s = true := Jw
 rw [e] at r
 exact r
theorem rE (k w : Nat) (hw : w < 4294967296) {a b c d e : Int} (h : Rt Pg (D (k + 5)) 56 [.agg 122 [.int .i64 a, .int .i64 b, .int .i64 c, .int .i64 d, .int .i64 e]] (.agg 125 [uv w, .int .i64 0])) :
    Rt Pg (D (k + 6)) 110 [.agg 122 [.int .i64 a, .int .i64 b, .int .i64 c, .int .i64 d, .int .i64 e]] (mv (gI w)) := .of (by
 have r := QL w hw (k + 2)
 rw [Dk, aaJ]
 simp only [h.ok, h.val, pO, g0, g1, iO, bO, lO, r.ok, r.val, cond_true]) (by kernel_rfl)
theorem UU (k : Nat) : Rt Pg (D (k + 6)) 110 [.agg 122 [.int .i64 16, .int .i64 1, .int .i64 0, .int .i64 0, .int .i64 5]] (mv (gI 1077936133)) := rE k 1077936133 (by decide) (.of (by kernel_rfl) (by kernel_rfl))
theorem XY (k : Nat) : Rt Pg (D (k + 6)) 110 [.agg 122 [.int .i64 21, .int .i64 2, .int .i64 0, .int .i64 0, .int .i64 8]] (mv (gI 1417674760)) := rE k 1417674760 (by decide) (.of (by kernel_rfl) (by kernel_rfl))
theorem V6 (k : Nat) : Rt Pg (D (k + 6)) 110 [.agg 122 [.int .i64 20, .int .i64 1, .int .i64 0, .int .i64 0, .int .i64 130]] (mv (gI 1346371714)) := rE k 1346371714 (by decide) (.of (by kernel_rfl) (by kernel_rfl))
theorem TN (k : Nat) : Rt Pg (D (k + 6)) 110 [.agg 122 [.int .i64 20, .int .i64 1, .int .i64 0, .int .i64 0, .int .i64 128]] (mv (gI 1346371712)) := rE k 1346371712 (by decide) (.of (by kernel_rfl) (by kernel_rfl))
theorem V3 (k : Nat) : Rt Pg (D (k + 6)) 110 [.agg 122 [.int .i64 40, .int .i64 0, .int .i64 0, .int .i64 0, .int .i64 0]] (mv (gI 2684354560)) := rE k 2684354560 (by decide) (.of (by kernel_rfl) (by kernel_rfl))
theorem Wd (k : Nat) : Rt Pg (D (k + 6)) 110 [.agg 122 [.int .i64 46, .int .i64 1, .int .i64 0, .int .i64 0, .int .i64 33]] (mv (gI 3091202081)) := rE k 3091202081 (by decide) (.of (by kernel_rfl) (by kernel_rfl))
theorem Xc (k : Nat) : Rt Pg (D (k + 5)) 59 [fZ (S 3091202081), .int .u32 9, .bool true] (fZ (ans (S 3091202081) 9 true)) := WS k (fun _ => ⟨by decide +kernel, OP, by decide⟩) 9 true
theorem WJ (k : Nat) : D (k + 12) 52 [] = some (.bool true) := by
 rw [Dk, Z4]
 have b := TD (k + 10)
 have a1 := UU (k + 5)
 have s1 := pJ (k + 5) 1077936133
 have a2 := XY (k + 5)
 have s2 := pJ (k + 5) 1417674760
 have a3 := V6 (k + 5)
 have s3 := pJ (k + 5) 1346371714
 have a4 := TN (k + 5)
 have s4 := pJ (k + 5) 1346371712
 have a5 := V3 (k + 5)
 have s5 := pJ (k + 5) 2684354560
 have a6 := Wd (k + 5)
 have s6 := pJ (k + 5) 3091202081
 have s7 := UG (k + 5)
 have s8 := Xc (k + 6)
 unfold fZ at *
 simp only [b.ok, b.val, pO, g0, g1, g2, g3, g4, iO, bO, lO, List.set_cons_succ, List.set_cons_zero, cond_true, List.getD_cons_succ, List.getD_cons_zero, a1.ok, a1.val, s1.ok, s1.val, a2.ok, a2.val, s2.ok, s2.val, a3.ok, a3.val, s3.ok, s3.val, a4.ok, a4.val, s4.ok, s4.val, a5.ok, a5.val, s5.ok, s5.val, a6.ok, a6.val, s6.ok, s6.val, s7.ok, s7.val, s8.ok, s8.val]
 refine Eq.trans (b := some (.bool true)) ?_ rfl
 kernel_rfl
theorem Ld (k : Nat) : Rt Pg (D (k + 12)) 52 [] (.bool true) := .of (WJ k) (by kernel_rfl)
end Go.Proofs.Ytcknhfnbdgleiaa
