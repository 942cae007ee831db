/- Entries of tables; pages of zeros. -/
import Derived.Test.YtcknhfnbdgleiaaTab4
set_option linter.unusedVariables false
set_option linter.unusedSimpArgs false
namespace Go.Proofs.Ytcknhfnbdgleiaa
open Go.AE

abbrev zs : List UInt8 := [0, 0, 0, 0, 0, 0, 0, 0, 0, 0, 0, 0, 0, 0, 0, 0, 0, 0, 0, 0, 0, 0, 0, 0, 0, 0, 0, 0, 0, 0, 0, 0, 0, 0, 0, 0, 0, 0, 0, 0, 0, 0, 0, 0, 0, 0, 0, 0, 0, 0, 0, 0, 0, 0, 0, 0, 0, 0, 0, 0, 0, 0, 0, 0, 0, 0, 0, 0, 0, 0, 0, 0, 0, 0, 0, 0, 0, 0, 0, 0, 0, 0, 0, 0, 0, 0, 0, 0, 0, 0, 0, 0, 0, 0, 0, 0, 0, 0, 0, 0, 0, 0, 0, 0, 0, 0, 0, 0, 0, 0, 0, 0, 0, 0, 0, 0, 0, 0, 0, 0, 0, 0, 0, 0, 0, 0, 0, 0]
def zn : List Nat := List.replicate 128 0
theorem zs_bv : zs.map byteAV = zn.map bv := by rfl
def wz (m : Pgs) (a : Nat) : Pgs := st m a zn
theorem wz_wm {m : Pgs} (w : Wm m) {a : Nat} (h : a < 128 * m.length) (h0 : a % 128 = 0) : Wm (wz m a) :=
  st_wm w (by omega) (by rw [h0]; simp [zn]) (by intro b hb; simp [zn] at hb; omega)
theorem r_write (k : Nat) {m : Pgs} (w : Wm m) {a : Nat} (h : a < 128 * m.length) (h0 : a % 128 = 0) : Rt Pg (D (k + 1)) 81 [mv m, .int .i64 (a : Int), .str zs] (.tuple [mv (wz m a), .bool true]) := .of (by
  have hl := w.le
  have hp := w.pos
  rw [Dk, nf_memory_Write, size_n w]
  have e1 : decide (((128 * m.length : Nat) : Int) < (a : Int)) = false := decide_eq_false (by omega)
  have e2 : decide (IntKind.i64.wrap (((128 * m.length : Nat) : Int) - (a : Int)) < ((zs.length : Nat) : Int)) = false := by
    rw [wrap_i64_id (by omega) (by omega)]; exact decide_eq_false (by rw [show zs.length = 128 from rfl]; omega)
  have e3 : decide ((a : Int) < 0) = false := decide_eq_false (by omega)
  rw [e1, e2, e3, zs_bv]
  simp only [List.length_map]
  rw [put1a w (by simp [zn]) (by omega) (by rw [h0]; simp [zn]), decide_eq_true hp, decide_eq_true (show (0 + m.length) * 128 ≤ 140737488355328 by omega)]
  simp only [cond_true, cond_false]
  rw [show ([(st m a zn).map pg] : List (List AV)).getD 0 [] = (st m a zn).map pg from rfl, Nat.zero_add, sub_all _ (by rw [List.length_map, st_len])]
  rfl) (by kernel_rfl)
theorem rw_step {F : Tab} {m : Pgs} (w : Wm m) {a : Nat} (h : a < 128 * m.length) (h0 : a % 128 = 0) {i : Nat} (hi : i < 128) (l0 l1 : List AV) (n0 : Nat) (cur : Pgs) (hc : cur.length = m.length) (K : Int × List AV → LO) :
    (st_ref06_Write_5 F (a : Int) zs l0 l1 n0 m.length ((i : Int), cur.map pg)).eval K = K (((i + 1 : Nat) : Int), (cur.set (a / 128) ((pgAt cur (a / 128)).set i 0)).map pg) := by
  have hl := w.le
  have e1 : IntKind.i64.wrap ((a : Int) + (i : Int)) = ((a + i : Nat) : Int) := by rw [wrap_i64_id (by omega) (by omega)]; omega
  have e3 : (a + i) / 128 = a / 128 := by omega
  have e4 : (a + i) % 128 = i := by omega
  have e5 : (zs.getD i 0).toNat = 0 := by
    have : zs = List.replicate 128 0 := by rfl
    rw [this, List.getD_eq_getElem?_getD, List.getElem?_replicate]; simp [hi]
  simp only [st_ref06_Write_5, sp_ref06_Write_5, Tr.eval, e1, q128, m128, e3, e4, e5, Int.toNat_natCast, w64 (show a / 128 < 9223372036854775808 by omega), show zs.length = 128 from rfl, Nat.zero_add]
  rw [lt_n hi, inB_n hi, inB_n (show a / 128 < m.length by omega), nx_n (by omega)]
  simp only [cond_true]
  rw [pg_at (by omega), show aggT (pg (pgAt cur (a / 128))) = 117 from rfl, List.map_set, pg, pO, pg, List.map_set]
theorem set_run (p : List Nat) (i : Nat) (h : i < p.length) : (pt p 0 (List.replicate i 0)).set i 0 = pt p 0 (List.replicate (i + 1) 0) := by
  simp only [pt, List.take_zero, List.nil_append, List.length_replicate, Nat.zero_add]
  rw [List.set_append_right i 0 (by simp), List.length_replicate, Nat.sub_self, List.drop_eq_getElem_cons h, List.set_cons_zero, List.replicate_succ', List.append_assoc]
  rfl
theorem rw_run {F : Tab} {m : Pgs} (w : Wm m) {a : Nat} (h : a < 128 * m.length) (h0 : a % 128 = 0) (l0 l1 : List AV) (n0 : Nat) : ∀ (j i : Nat) (fuel : Nat), i + j = 128 → j < fuel →
    Tr.run (st_ref06_Write_5 F (a : Int) zs l0 l1 n0 m.length) fuel ((i : Int), (st m a (List.replicate i 0)).map pg) = ⟨1, [], [], [(wz m a).map pg], [], [], []⟩
  | 0, i, fuel, hi, hf => by
    obtain ⟨f, rfl⟩ : ∃ f, fuel = f + 1 := ⟨fuel - 1, by omega⟩
    obtain rfl : i = 128 := by omega
    rw [run1]
    simp only [st_ref06_Write_5, sp_ref06_Write_5, Tr.eval, show zs.length = 128 from rfl, show decide (((128 : Nat) : Int) < ((128 : Nat) : Int)) = false from rfl, cond_false]
    rfl
  | j + 1, i, fuel, hi, hf => by
    obtain ⟨f, rfl⟩ : ∃ f, fuel = f + 1 := ⟨fuel - 1, by omega⟩
    have hp := w.pgLen (show a / 128 < m.length by omega)
    rw [run1, rw_step w h h0 (by omega) l0 l1 n0 _ (st_len ..)]
    rw [show (st m a (List.replicate i 0)).set (a / 128) ((pgAt (st m a (List.replicate i 0)) (a / 128)).set i 0) = st m a (List.replicate (i + 1) 0) by
      unfold st
      rw [pgAt_set (by omega), if_pos rfl, List.set_set, h0, set_run _ _ (by omega)]]
    exact rw_run w h h0 l0 l1 n0 j (i + 1) f (by omega) (by omega)
theorem r_rwrite (k : Nat) {m : Pgs} (w : Wm m) {a : Nat} (h : a < 128 * m.length) (h0 : a % 128 = 0) : Rt Pg (D (k + 2)) 86 [mv m, .int .i64 (a : Int), .str zs] (.agg 128 [mv (wz m a), .bool true]) := .of (by
  have hl := w.le
  have hp := w.pos
  have r := r_size k w
  rw [Dk, nf_ref06_Write]
  simp only [r.ok, r.val, iO]
  have e1 : decide (((128 * m.length : Nat) : Int) < (a : Int)) = false := decide_eq_false (by omega)
  have e2 : decide (IntKind.i64.wrap (((128 * m.length : Nat) : Int) - (a : Int)) < ((zs.length : Nat) : Int)) = false := by
    rw [wrap_i64_id (by omega) (by omega)]; exact decide_eq_false (by rw [show zs.length = 128 from rfl]; omega)
  have e3 : decide ((a : Int) < 0) = false := decide_eq_false (by omega)
  rw [e1, e2, e3]
  simp only [List.length_map]
  have := rw_run (F := D (k + 1)) w h h0 (m.map pg) (m.map pg) m.length 128 0 100000 rfl (by omega)
  rw [show st m a (List.replicate 0 0) = m by
    unfold st pt
    have hi : a / 128 < m.length := by omega
    simp only [h0, List.replicate_zero, List.take_zero, List.nil_append, List.length_nil, Nat.add_zero, List.drop_zero]
    rw [pgAt, getD_get hi, List.set_getElem_self]] at this
  unfold lf_ref06_Write_5
  rw [show ((0 : Nat) : Int) = 0 from rfl] at this
  rw [this, decide_eq_true hp, decide_eq_true (show (0 + m.length) * 128 ≤ 140737488355328 by omega)]
  simp only [cond_true, cond_false]
  rw [show ([(wz m a).map pg] : List (List AV)).getD 0 [] = (wz m a).map pg from rfl, Nat.zero_add, sub_all _ (by rw [List.length_map, wz, st_len])]
  rfl) (by kernel_rfl)
/-! ### the same memory -/
theorem eqVs_self : ∀ (p : List Nat), eqVs (p.map bv) (p.map bv) = true
  | [] => rfl
  | b :: p => by
    simp only [List.map_cons, eqVs, eqVs_self p, Bool.and_true]
    simp [bv, eqV]
theorem df_run {F : Tab} {m : Pgs} (w : Wm m) : ∀ (j i : Nat) (fuel : Nat), i + j = m.length → j < fuel →
    Tr.run (st_ref06_Diff_3 F (m.map pg) (m.map pg)) fuel ([], (i : Int)) = ⟨1, [], [], [[]], [], [], []⟩
  | 0, i, fuel, hi, hf => by
    obtain ⟨f, rfl⟩ : ∃ f, fuel = f + 1 := ⟨fuel - 1, by omega⟩
    obtain rfl : i = m.length := by omega
    rw [run1]
    simp only [st_ref06_Diff_3, sp_ref06_Diff_3, Tr.eval, List.length_map]
    rw [show decide ((m.length : Int) < if ((m.length : Nat) : Int) > ((m.length : Nat) : Int) then ((m.length : Nat) : Int) else ((m.length : Nat) : Int)) = false by simp]
    rfl
  | j + 1, i, fuel, hi, hf => by
    obtain ⟨f, rfl⟩ : ∃ f, fuel = f + 1 := ⟨fuel - 1, by omega⟩
    have hl := w.le
    have h : i < m.length := by omega
    rw [run1]
    simp only [st_ref06_Diff_3, sp_ref06_Diff_3, Tr.eval, List.length_map]
    rw [show decide ((i : Int) < if ((m.length : Nat) : Int) > ((m.length : Nat) : Int) then ((m.length : Nat) : Int) else ((m.length : Nat) : Int)) = true by simp; omega,
      inB_n h, show decide (((m.length : Nat) : Int) ≤ (i : Int)) = false from decide_eq_false (by omega), Int.toNat_natCast, pg_at h, pg, pO, eqVs_self, nx_n (by omega)]
    simp only [condB_tt, cond_true, cond_false, Bool.not_true]
    exact df_run w j (i + 1) f (by omega) (by omega)
theorem r_same (k : Nat) {m : Pgs} (w : Wm m) : Rt Pg (D (k + 2)) 32 [mv m, mv m] (.bool true) := .of (by
  have r : Rt Pg (D (k + 1)) 89 [mv m, mv m] (.slice 3 [] false) := .of (by
    have hl := w.le
    have := df_run (F := D k) w m.length 0 100000 (by omega) (by omega)
    rw [Dk, nf_ref06_Diff]
    unfold lf_ref06_Diff_3
    rw [show ((0 : Nat) : Int) = 0 from rfl] at this
    rw [this]; rfl) (by kernel_rfl)
  rw [Dk, nf_ref06_Same]
  simp only [r.ok, r.val, lO, cond_true]
  rfl) (by kernel_rfl)
abbrev iv (n : Nat) : AV := .int .i64 (n : Int)
theorem si_run {F : Tab} (l : List Nat) (hl : l.length < 1000) : ∀ (j i : Nat) (fuel : Nat), i + j = l.length → j < fuel →
    Tr.run (st_ref06_SameInts_4 F (l.map iv) (l.map iv)) fuel (i : Int) = ⟨2, [], [], [], [], [], []⟩
  | 0, i, fuel, hi, hf => by
    obtain ⟨f, rfl⟩ : ∃ f, fuel = f + 1 := ⟨fuel - 1, by omega⟩
    obtain rfl : i = l.length := by omega
    rw [run1]
    simp only [st_ref06_SameInts_4, sp_ref06_SameInts_4, Tr.eval, List.length_map, nlt_n, cond_false]
  | j + 1, i, fuel, hi, hf => by
    obtain ⟨f, rfl⟩ : ∃ f, fuel = f + 1 := ⟨fuel - 1, by omega⟩
    have h : i < l.length := by omega
    rw [run1]
    simp only [st_ref06_SameInts_4, sp_ref06_SameInts_4, Tr.eval, List.length_map, lt_n h, inB_n h, nx_n (show i < 1000000 by omega), cond_true, bne_self_eq_false, cond_false]
    exact si_run l hl j (i + 1) f (by omega) (by omega)
theorem r_si (k : Nat) (l : List Nat) (hl : l.length < 1000) : Rt Pg (D (k + 1)) 75 [.slice 3 (l.map iv) false, .slice 3 (l.map iv) false] (.bool true) := .of (by
  have := si_run (F := D k) l hl l.length 0 100000 (by omega) (by omega)
  rw [Dk, nf_ref06_SameInts]
  unfold lf_ref06_SameInts_4
  rw [show ((0 : Nat) : Int) = 0 from rfl] at this
  rw [this]
  simp) (by kernel_rfl)
end Go.Proofs.Ytcknhfnbdgleiaa
