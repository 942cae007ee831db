/- The same walks, the same mappings; new memories; what is valid. -/
import Derived.Test.YtcknhfnbdgleiaaTab13
set_option linter.unusedVariables false
set_option linter.unusedSimpArgs false
namespace Go.Proofs.Ytcknhfnbdgleiaa
open Go.AE

theorem r_valid (k : Nat) (l : List AV) : Rt Pg (D (k + 1)) 16 [.agg 23 [.slice 118 l false]] (.bool (decide (1 ≤ l.length) && decide (l.length ≤ 64))) := .of (by
  rw [Dk, nf_ref06_Valid, decide_eq_decide.mpr (show ((1 : Int) ≤ ((l.length : Nat) : Int)) ↔ 1 ≤ l.length by omega), decide_eq_decide.mpr (show (((l.length : Nat) : Int) ≤ 64) ↔ l.length ≤ 64 by omega), c_and]) (by kernel_rfl)
theorem r_access (k : Nat) (a : Int) : Rt Pg (D (k + 1)) 17 [.int .i64 a] (.bool (decide (1 ≤ a) && decide (a ≤ 4))) := .of (by
  rw [Dk, nf_ref10_Access, c_and]) (by kernel_rfl)
theorem sw_run {F : Tab} (a b : Int) (l : List Wr) (l3 : List AV) (hl : l.length < 1000) : ∀ (j i : Nat) (fuel : Nat), i + j = l.length → j < fuel →
    Tr.run (st_ref10_Same_4 F a b (l.map wv) l3 a b (l.map wv) l3) fuel (i : Int) = ⟨2, [], [], [], [], [], []⟩
  | 0, i, fuel, hi, hf => by
    obtain ⟨f, rfl⟩ : ∃ f, fuel = f + 1 := ⟨fuel - 1, by omega⟩
    obtain rfl : i = l.length := by omega
    rw [run1]
    simp only [st_ref10_Same_4, sp_ref10_Same_4, Tr.eval, List.length_map, nlt_n, cond_false]
  | j + 1, i, fuel, hi, hf => by
    obtain ⟨f, rfl⟩ : ∃ f, fuel = f + 1 := ⟨fuel - 1, by omega⟩
    have h : i < l.length := by omega
    rw [run1]
    simp only [st_ref10_Same_4, sp_ref10_Same_4, Tr.eval, List.length_map, lt_n h, inB_n h, nx_n (show i < 1000000 by omega), cond_true, beq_self_eq_true, Bool.and_self, Bool.not_true, cond_false]
    exact sw_run a b l l3 hl j (i + 1) f (by omega) (by omega)
theorem r_samew (k : Nat) (a b : Int) (l : List Wr) (l3 : List Nat) (hl : l.length < 1000) (h3 : l3.length < 1000) :
    Rt Pg (D (k + 2)) 21 [.agg 31 [.int .i64 a, .int .i64 b, .slice 42 (l.map wv) false, .slice 3 (l3.map iv) false], .agg 31 [.int .i64 a, .int .i64 b, .slice 42 (l.map wv) false, .slice 3 (l3.map iv) false]] (.bool true) := .of (by
  have r := r_si k l3 h3
  have := sw_run (F := D (k + 1)) a b l (l3.map iv) hl l.length 0 100000 (by omega) (by omega)
  rw [Dk, nf_ref10_Same]
  unfold lf_ref10_Same_4
  rw [show ((0 : Nat) : Int) = 0 from rfl] at this
  rw [this]
  simp only [r.ok, r.val, bO, bne_self_eq_false, condB_tt, cond_true, cond_false, Bool.not_true]
  rfl) (by kernel_rfl)
theorem sm_run {F : Tab} (l : List Mg) (hl : l.length < 5000) : ∀ (j i : Nat) (fuel : Nat), i + j = l.length → j < fuel →
    Tr.run (st_ref10_SameMappings_4 F (l.map mgv) (l.map mgv)) fuel (i : Int) = ⟨2, [], [], [], [], [], []⟩
  | 0, i, fuel, hi, hf => by
    obtain ⟨f, rfl⟩ : ∃ f, fuel = f + 1 := ⟨fuel - 1, by omega⟩
    obtain rfl : i = l.length := by omega
    rw [run1]
    simp only [st_ref10_SameMappings_4, sp_ref10_SameMappings_4, Tr.eval, List.length_map, nlt_n, cond_false]
  | j + 1, i, fuel, hi, hf => by
    obtain ⟨f, rfl⟩ : ∃ f, fuel = f + 1 := ⟨fuel - 1, by omega⟩
    have h : i < l.length := by omega
    rw [run1]
    simp only [st_ref10_SameMappings_4, sp_ref10_SameMappings_4, Tr.eval, List.length_map, lt_n h, inB_n h, nx_n (show i < 1000000 by omega), cond_true, beq_self_eq_true, Bool.and_self, Bool.not_true, cond_false]
    exact sm_run l hl j (i + 1) f (by omega) (by omega)
theorem r_samem (k : Nat) (l : List Mg) (hl : l.length < 5000) : Rt Pg (D (k + 1)) 33 [.slice 52 (l.map mgv) false, .slice 52 (l.map mgv) false] (.bool true) := .of (by
  have := sm_run (F := D k) l hl l.length 0 100000 (by omega) (by omega)
  rw [Dk, nf_ref10_SameMappings]
  unfold lf_ref10_SameMappings_4
  rw [show ((0 : Nat) : Int) = 0 from rfl] at this
  rw [this, bne_self_eq_false]
  rfl) (by kernel_rfl)
def z64 : Pgs := List.replicate 64 (List.replicate 128 0)
theorem z64_wm : Wm z64 := ⟨by decide, by decide, fun p hp => by rw [List.eq_of_mem_replicate hp]; rfl, fun p hp b hb => by rw [List.eq_of_mem_replicate hp] at hb; rw [List.eq_of_mem_replicate hb]; decide⟩
theorem r_new (k : Nat) : Rt Pg (D (k + 1)) 62 [.int .i64 64] (.tuple [mv z64, .int .i64 0]) := .of (by
  rw [Dk, nf_memory_New]
  kernel_rfl) (by kernel_rfl)
/-! ### the examples -/
def M1 : Pgs := (mp z64 128 4224 256 2 384).1
def M2 : Pgs := (ml M1 128 8192 4096 8).1
theorem M1_e : errT (mp z64 128 4224 256 2 384) = .tuple [mv M1, .int .i64 0] := by
  have : (mp z64 128 4224 256 2 384).2 = 0 := by decide +kernel
  unfold errT; rw [this]; rfl
theorem M2_e : errT (ml M1 128 8192 4096 8) = .tuple [mv M2, .int .i64 0] := by
  have : (ml M1 128 8192 4096 8).2 = 0 := by decide +kernel
  unfold errT; rw [this]; rfl
theorem sw_wm' {m : Pgs} (w : Wm m) {a v : Nat} (ha : a < 4294967296) (hv : v < 4294967296) : Wm (sw m a v) := (sw_wm w ha hv).1
theorem ml_wm {m : Pgs} (w : Wm m) {root va pa' : Nat} {r : Int} (hp : pa' < 4294967296) : Wm (ml m root va pa' r).1 := by
  have := w.le
  unfold ml
  cases hf : fit m root va pa' r 4096 with
  | false => exact w
  | true =>
    obtain ⟨f1, f2, f3, f4, f5, f6, f7⟩ := fit_of hf
    have g7 := pgd_of f7
    have g3' := pgd_of f3
    obtain ⟨n, rfl, n1, n2⟩ := rts_nat f5
    cases hb (wo m (at1 root va)) 1 with
    | true => exact w
    | false => exact sw_wm' w (by unfold at1; omega) (by rw [Int.toNat_natCast]; omega)
theorem mp_wm {m : Pgs} (w : Wm m) {root va pa' t : Nat} {r : Int} (hp : pa' < 4294967296) : Wm (mp m root va pa' r t).1 := by
  have := w.le
  unfold mp
  cases hf : fit m root va pa' r 128 with
  | false => exact w
  | true =>
    obtain ⟨f1, f2, f3, f4, f5, f6, f7⟩ := fit_of hf
    have g7 := pgd_of f7
    have g3' := pgd_of f3
    obtain ⟨n, rfl, n1, n2⟩ := rts_nat f5
    simp only [cond_true, Int.toNat_natCast]
    have l1 : at1 root va < 4294967296 := by unfold at1; omega
    cases h1 : hb (wo m (at1 root va)) 1 with
    | true =>
      simp only [cond_true]
      cases h2 : right m (wo m (at1 root va)) with
      | false => exact w
      | true =>
        simp only [cond_true]
        cases h3 : hb (wo m (at1 root va)) 64 with
        | true => exact w
        | false =>
          have hp' := right_small w h2 h3
          simp only [cond_false]
          cases hb (wo m (at2 (wo m (at1 root va)) va)) 1 with
          | true => exact w
          | false => exact sw_wm' w (by unfold at2; omega) (by omega)
    | false =>
      simp only [cond_false]
      cases h2 : bad2 m root t with
      | true => exact w
      | false =>
        obtain ⟨b1, b2, b3⟩ := bad2_of h2
        have g := pgd_of b3
        obtain ⟨_, wm2⟩ := m2_wm (va := va) w b3 l1
        simp only [cond_false]
        cases hb (wo (m2 m root va t) (at3 t va)) 1 with
        | true => exact w
        | false => exact sw_wm' wm2 (by unfold at3; omega) (by omega)
theorem um_wm {m : Pgs} (w : Wm m) {root va : Nat} : Wm (um m root va).1 := by
  have := w.le
  unfold um
  cases hf : fitU m root va with
  | false => exact w
  | true =>
    obtain ⟨f1, f2, f3⟩ := fitU_of hf
    have gg3 := pgd_of f3
    simp only [cond_true]
    have l1 : at1 root va < 4294967296 := by unfold at1; omega
    cases h1 : hb (wo m (at1 root va)) 1 with
    | false => exact w
    | true =>
      simp only [cond_true]
      cases h2 : right m (wo m (at1 root va)) with
      | false => exact w
      | true =>
        simp only [cond_true]
        cases h3 : hb (wo m (at1 root va)) 64 with
        | true => exact sw_wm' w l1 (by omega)
        | false =>
          have hp' := right_small w h2 h3
          simp only [cond_false]
          cases hb (wo m (at2 (wo m (at1 root va)) va)) 1 with
          | true => exact sw_wm' w (by unfold at2; omega) (by omega)
          | false => exact w
theorem M1_wm : Wm M1 := mp_wm z64_wm (by omega)
theorem M2_wm : Wm M2 := ml_wm M1_wm (by omega)
abbrev W1 : AV := .agg 31 [.int .i64 262, .int .i64 388, .slice 42 [.agg 41 [.int .i64 388, .int .i64 4, .int .u32 307]] false, .slice 3 [.int .i64 132, .int .i64 388] false]
theorem w1 : wkT (walk M2 128 4230 2 false) = .tuple [W1, .int .i64 0] := by kernel_rfl
theorem w2 : ∃ a, wkT (walk M2 128 4230 1 true) = .tuple [a, .int .i64 5] := ⟨wkA (walk M2 128 4230 1 true), by kernel_rfl⟩
theorem w3 : ∃ a, wkT (walk M2 128 4230 4 false) = .tuple [a, .int .i64 4] := ⟨wkA (walk M2 128 4230 4 false), by kernel_rfl⟩
theorem w4 : ∃ a b, wkT (walk M2 128 8322 4 false) = .tuple [.agg 31 [.int .i64 4226, .int .i64 136, a, b], .int .i64 0] := ⟨.slice 42 ((walk M2 128 8322 4 false).set'.map wv) false, .slice 3 ((walk M2 128 8322 4 false).reads.map iv) false, by kernel_rfl⟩
theorem w5 : ∃ a b, wkT (walk M2 0 100 1 true) = .tuple [.agg 31 [.int .i64 100, .int .i64 (-1), a, b], .int .i64 0] := ⟨.slice 42 ((walk M2 0 100 1 true).set'.map wv) false, .slice 3 ((walk M2 0 100 1 true).reads.map iv) false, by kernel_rfl⟩
theorem w6 : ∃ a, wkT (walk M2 0 8192 1 false) = .tuple [a, .int .i64 5] := ⟨wkA (walk M2 0 8192 1 false), by kernel_rfl⟩
theorem w7 : lst M2 128 = [⟨4224, 256, 3⟩, ⟨8192, 4096, 73⟩] := by decide +kernel
theorem w8 : (cond (th M2 132 4) (ld M2 132 4) 0 = 385 ∧ th M2 132 4 = true) ∧ (cond (th M2 388 4) (ld M2 388 4) 0 = 259 ∧ th M2 388 4 = true) := by decide +kernel
theorem sanity_true (k : Nat) : D (k + 12) 18 [] = some (.bool true) := by
  rw [Dk, nf_law10_sanity]
  have q0 : Rt Pg (D (k + 11)) 62 [.int .i64 64] (.tuple [mv z64, .int .i64 0]) := r_new (k + 10)
  have q1 : Rt Pg (D (k + 11)) 26 [mv z64, .int .u32 128, .int .u32 4224, .int .u32 256, .int .i64 2, .int .u32 384] (.tuple [mv M1, .int .i64 0]) := M1_e ▸ r_mp (k + 7) z64_wm 128 4224 256 384 2 (by omega) (by omega) (by omega) (by omega) (by omega) (by omega)
  have q2 : Rt Pg (D (k + 11)) 27 [mv M1, .int .u32 128, .int .u32 8192, .int .u32 4096, .int .i64 8] (.tuple [mv M2, .int .i64 0]) := M2_e ▸ r_ml (k + 7) M1_wm 128 8192 4096 8 (by omega) (by omega) (by omega) (by omega) (by omega)
  have q3 : Rt Pg (D (k + 11)) 23 [mv M2, .int .i64 132, .int .i64 4] (.tuple [.int .u32 385, .bool true]) := by
    have := r_load (k + 10) M2_wm 132 4 (by omega) (.inr rfl)
    rw [w8.1.1, w8.1.2] at this; exact this
  have q4 : Rt Pg (D (k + 11)) 23 [mv M2, .int .i64 388, .int .i64 4] (.tuple [.int .u32 259, .bool true]) := by
    have := r_load (k + 10) M2_wm 388 4 (by omega) (.inr rfl)
    rw [w8.2.1, w8.2.2] at this; exact this
  have e1 : Rt Pg (D (k + 11)) 19 [mv M2, .int .u32 128, .int .u32 4230, .int .i64 2, .bool false] (.tuple [W1, .int .i64 0]) := w1 ▸ r_walk (k + 8) M2_wm 128 4230 2 false (by omega) (by omega) (by omega)
  obtain ⟨b2, w2⟩ := w2
  have e2 : Rt Pg (D (k + 11)) 19 [mv M2, .int .u32 128, .int .u32 4230, .int .i64 1, .bool true] (.tuple [b2, .int .i64 5]) := w2 ▸ r_walk (k + 8) M2_wm 128 4230 1 true (by omega) (by omega) (by omega)
  obtain ⟨b3, w3⟩ := w3
  have e3 : Rt Pg (D (k + 11)) 19 [mv M2, .int .u32 128, .int .u32 4230, .int .i64 4, .bool false] (.tuple [b3, .int .i64 4]) := w3 ▸ r_walk (k + 8) M2_wm 128 4230 4 false (by omega) (by omega) (by omega)
  obtain ⟨b4, c4, w4⟩ := w4
  have e4 : Rt Pg (D (k + 11)) 19 [mv M2, .int .u32 128, .int .u32 8322, .int .i64 4, .bool false] (.tuple [.agg 31 [.int .i64 4226, .int .i64 136, b4, c4], .int .i64 0]) := w4 ▸ r_walk (k + 8) M2_wm 128 8322 4 false (by omega) (by omega) (by omega)
  obtain ⟨b5, c5, w5⟩ := w5
  have e5 : Rt Pg (D (k + 11)) 19 [mv M2, .int .u32 0, .int .u32 100, .int .i64 1, .bool true] (.tuple [.agg 31 [.int .i64 100, .int .i64 (-1), b5, c5], .int .i64 0]) := w5 ▸ r_walk (k + 8) M2_wm 0 100 1 true (by omega) (by omega) (by omega)
  obtain ⟨b6, w6⟩ := w6
  have e6 : Rt Pg (D (k + 11)) 19 [mv M2, .int .u32 0, .int .u32 8192, .int .i64 1, .bool false] (.tuple [b6, .int .i64 5]) := w6 ▸ r_walk (k + 8) M2_wm 0 8192 1 false (by omega) (by omega) (by omega)
  have e7 : Rt Pg (D (k + 11)) 25 [mv M2, .int .u32 128] (.slice 52 [.agg 51 [.int .u32 4224, .int .u32 256, .int .i64 3], .agg 51 [.int .u32 8192, .int .u32 4096, .int .i64 73]] false) := by
    have := r_list (k + 7) M2_wm 128 (by omega)
    rw [w7] at this; exact this
  have e8 : Rt Pg (D (k + 11)) 33 [.slice 52 [.agg 51 [.int .u32 4224, .int .u32 256, .int .i64 3], .agg 51 [.int .u32 8192, .int .u32 4096, .int .i64 73]] false, .slice 52 [.agg 51 [.int .u32 4224, .int .u32 256, .int .i64 3], .agg 51 [.int .u32 8192, .int .u32 4096, .int .i64 73]] false] (.bool true) :=
    r_samem (k + 10) [⟨4224, 256, 3⟩, ⟨8192, 4096, 73⟩] (by decide)
  have e9 : Rt Pg (D (k + 11)) 21 [W1, W1] (.bool true) := r_samew (k + 9) 262 388 [⟨388, 4, 307⟩] [132, 388] (by decide) (by decide)
  simp only [q0.ok, q0.val, tO, g0, g1, pO, lO, iO, q1.ok, q1.val, q2.ok, q2.val, q3.ok, q3.val, q4.ok, q4.val, e1.ok, e1.val, e2.ok, e2.val, e3.ok, e3.val, e4.ok, e4.val, e5.ok, e5.val, e6.ok, e6.val, e7.ok, e7.val, g2, g3, e8.ok, e8.val, e9.ok, e9.val, bO]
  rfl
end Go.Proofs.Ytcknhfnbdgleiaa
