/- The memory of a guest: what it is, what is read of it. -/
import Derived.Test.YtcknhfnbdgleiaaCoD
import Derived.Test.YtcknhfnbdgleiaaCoN0
import Derived.Test.YtcknhfnbdgleiaaCoN1
import Derived.Test.YtcknhfnbdgleiaaEvD
set_option linter.unusedVariables false
set_option linter.unusedSimpArgs false
namespace Go.Proofs.Ytcknhfnbdgleiaa
open Go.AE

theorem Dk (k : Nat) (f : FuncId) (args : List AV) : D (k + 1) f args = fnV (cx (D k)) 6 f args := rfl
abbrev bv (b : Nat) : AV := .int .u8 (b : Int)
def pg (p : List Nat) : AV := .agg 117 (p.map bv)
abbrev Pgs := List (List Nat)
abbrev mv (m : Pgs) : AV := .agg 23 [.slice 118 (m.map pg) false]
structure Wm (m : Pgs) : Prop where
 pos : 0 < m.length
 le : m.length ≤ 64
 len : ∀ p ∈ m, p.length = 128
 byte : ∀ p ∈ m, ∀ b ∈ p, b < 256
def pgAt (m : Pgs) (i : Nat) : List Nat := m.getD i []
def bt (m : Pgs) (a : Nat) : Nat := (pgAt m (a / 128)).getD (a % 128) 0
def wd (m : Pgs) (a : Nat) : Nat := bt m a + 256 * bt m (a + 1) + 65536 * bt m (a + 2) + 16777216 * bt m (a + 3)
/-- Is a place there? -/
def th (m : Pgs) (a s : Nat) : Bool := a % s == 0 && decide (a + s ≤ 128 * m.length)
def ld (m : Pgs) (a s : Nat) : Nat := if s = 1 then bt m a else wd m a
theorem getD_get {α : Type} {l : List α} {i : Nat} {d : α} (h : i < l.length) : l.getD i d = l[i] := by simp [List.getD, h]
theorem Hr {α : Type} (f : α → AV) {xs : List α} {n : Nat} (h : n < xs.length) : (xs.map f).getD n .dead = f xs[n] := by simp [List.getD, h]
theorem Wm.KX {m : Pgs} (w : Wm m) {i : Nat} (h : i < m.length) : (pgAt m i).length = 128 := by
 rw [pgAt, getD_get h]; exact w.len _ (List.getElem_mem h)
theorem Wm.FH {m : Pgs} (w : Wm m) (a : Nat) : bt m a < 256 := by
 unfold bt
 by_cases h : a / 128 < m.length
 · have hl := w.KX h
   rw [getD_get (show a % 128 < (pgAt m (a / 128)).length by omega)]
   refine w.byte (pgAt m (a / 128)) ?_ _ (List.getElem_mem _)
   rw [pgAt, getD_get h]; exact List.getElem_mem h
 · have : pgAt m (a / 128) = [] := by simp [pgAt, List.getD, show m.length ≤ a / 128 by omega]
   rw [this]; simp
theorem wd_lt {m : Pgs} (w : Wm m) (a : Nat) : wd m a < 4294967296 := by
 have := w.FH a; have := w.FH (a + 1); have := w.FH (a + 2); have := w.FH (a + 3)
 unfold wd; omega
theorem ny {n m : Nat} (h : n < m) : inB (n : Int) m = true := by simp [inB]; omega
theorem lt_n {n m : Nat} (h : n < m) : decide ((n : Int) < ((m : Nat) : Int)) = true := by simp; omega
theorem QU (n : Nat) : decide ((n : Int) < ((n : Nat) : Int)) = false := by simp
theorem nx_n {n : Nat} (h : n < 1000000) : IntKind.i64.wrap ((n : Int) + 1) = ((n + 1 : Nat) : Int) := by
 rw [av (by omega) (by omega)]; rfl
theorem w64 {n : Nat} (h : n < 9223372036854775808) : IntKind.i64.wrap (n : Int) = (n : Int) := av (by omega) (by omega)
theorem w32 {n : Nat} (h : n < 4294967296) : IntKind.u32.wrap (n : Int) = (n : Int) := bq (by omega) (by omega)
theorem q128 (a : Nat) : (a : Int).tdiv 128 = ((a / 128 : Nat) : Int) := by rw [Int.tdiv_eq_ediv_of_nonneg (by omega)]; omega
theorem m128 (a : Nat) : (a : Int).tmod 128 = ((a % 128 : Nat) : Int) := by rw [Int.tmod_eq_emod_of_nonneg (by omega)]; omega
theorem tmN (a s : Nat) : (a : Int).tmod (s : Int) = ((a % s : Nat) : Int) := by rw [Int.tmod_eq_emod_of_nonneg (by omega)]; rfl
theorem tdN (a s : Nat) : (a : Int).tdiv (s : Int) = ((a / s : Nat) : Int) := by rw [Int.tdiv_eq_ediv_of_nonneg (by omega)]; rfl
theorem beqN (a b : Nat) : ((a : Int) == (b : Int)) = (a == b) := by
 rcases Nat.decEq a b with h | h
 · rw [beq_eq_false_iff_ne.mpr h]; exact beq_eq_false_iff_ne.mpr (by omega)
 · subst h; simp
theorem Ki {m : Pgs} (w : Wm m) : IntKind.i64.wrap (((m.map pg).length : Nat) * 128 : Int) = ((128 * m.length : Nat) : Int) := by
 have := w.le
 rw [List.length_map, av (by omega) (by omega)]; omega
theorem P5 {m : Pgs} {a o : Nat} (h : a % 128 + o < 128) : bt m (a + o) = (pgAt m (a / 128)).getD (a % 128 + o) 0 := by
 unfold bt
 rw [show (a + o) / 128 = a / 128 by omega, show (a + o) % 128 = a % 128 + o by omega]
theorem LP {m : Pgs} {i : Nat} (h : i < m.length) : (m.map pg).getD i .dead = pg (pgAt m i) := by rw [Hr pg h, pgAt, getD_get h]
theorem bv_at {p : List Nat} {i : Nat} (h : i < p.length) : (p.map bv).getD i .dead = bv (p.getD i 0) := by rw [Hr bv h, getD_get h]
theorem byte_at {m : Pgs} (w : Wm m) {a : Nat} (h : a < 128 * m.length) : (partsOf ((m.map pg).getD (a / 128) .dead)).getD (a % 128) .dead = bv (bt m a) := by
 have h1 : a / 128 < m.length := by omega
 have h2 := w.KX h1
 rw [LP h1, pg, pO, bv_at (by omega)]; rfl
theorem or4 {a b c d : Nat} (ha : a < 256) (hb : b < 256) (hc : c < 256) (hd : d < 256) :
    aF .or .u32 (aF .or .u32 (aF .or .u32 (a : Int) ((256 * b : Nat) : Int)) ((65536 * c : Nat) : Int)) ((16777216 * d : Nat) : Int) = ((a + 256 * b + 65536 * c + 16777216 * d : Nat) : Int) := by
 have swap : ∀ x y : Nat, x < 4294967296 → y < 4294967296 → aF .or .u32 (x : Int) (y : Int) = aF .or .u32 (y : Int) (x : Int) := fun x y hx hy => by
  rw [kV (by omega) (by omega) (by omega) (by omega), kV (by omega) (by omega) (by omega) (by omega), Nat.or_comm]
 rw [swap a (256 * b) (by omega) (by omega), JB 8 (by omega) (by omega) (by omega), swap _ (65536 * c) (by omega) (by omega), JB 16 (by omega) (by omega) (by omega), swap _ (16777216 * d) (by omega) (by omega), JB 24 (by omega) (by omega) (by omega)]
 congr 1; omega
theorem sub_at {l : List AV} {o e i : Nat} (h : o + i < e) (he : e ≤ l.length) : (sub l o e).getD i .dead = l.getD (o + i) .dead := by
 simp [sub, List.getD, List.getElem?_take, List.getElem?_drop, show i < e - o by omega, h]
theorem QY {l : List AV} {o e : Nat} (he : e ≤ l.length) : (sub l o e).length = e - o := by simp [sub]; omega
/-! ### Load -/
theorem Oo {m : Pgs} {a s : Nat} (h : th m a s = false) : a % s ≠ 0 ∨ 128 * m.length < a + s := by
 simp [th] at h; omega
theorem IQ {m : Pgs} {a s : Nat} (h : th m a s = true) : a % s = 0 ∧ a + s ≤ 128 * m.length := by
 simpa [th] using h
theorem O6 {m : Pgs} (w : Wm m) (a s : Nat) (hs : s ≤ 4) : decide ((a : Int) ≤ IntKind.i64.wrap (IntKind.i64.wrap (((m.map pg).length : Nat) * 128 : Int) - (s : Int))) = decide (a + s ≤ 128 * m.length) := by
 have := w.le
 rw [Ki w, av (by omega) (by omega)]
 exact decide_eq_decide.mpr (by omega)
theorem LV (k : Nat) {m : Pgs} (w : Wm m) (a s : Nat) (ha : a < 4294967296) (hs : s = 1 ∨ s = 4) : Rt Pg (D (k + 1)) 23 [mv m, .int .i64 (a : Int), .int .i64 (s : Int)] (.tuple [.int .u32 (cond (th m a s) (ld m a s) 0 : Nat), .bool (th m a s)]) := .of (by
 have hl := w.le
 rw [Dk, Dy]
 simp only [O6 w a s (by omega), q128, m128, tmN, w64 (show a / 128 < 9223372036854775808 by omega), Int.toNat_natCast, show decide ((0 : Int) ≤ (a : Int)) = true by simp, cond_true]
 have es : ∀ x : Nat, ((s : Int) == (x : Int)) = (s == x) := fun x => beqN s x
 rw [show ((s : Int) == 1) = (s == 1) from es 1, show ((s : Int) == 4) = (s == 4) from es 4, show ((s : Int) == 0) = (s == 0) from es 0]
 rw [show (((a % s : Nat) : Int) == 0) = (a % s == 0) from beqN _ 0]
 cases ht : th m a s with
 | false =>
  have := Oo ht
  simp only [cond_false]
  rcases hs with rfl | rfl
  · have h1 : decide (a + 1 ≤ 128 * m.length) = false := by simp; omega
    simp only [h1, Nat.mod_one, beq_self_eq_true, cond_true, Bool.not_false]; rfl
  · cases h1 : a % 4 == 0
    · rfl
    · have h1 : decide (a + 4 ≤ 128 * m.length) = false := by simp at h1 ⊢; omega
      simp only [h1]; rfl
 | true =>
  obtain ⟨h1, h2⟩ := IQ ht
  have hi : a / 128 < m.length := by omega
  have hp := w.KX hi
  have hb := byte_at w (show a < 128 * m.length by omega)
  have e1 : inB ((a / 128 : Nat) : Int) (m.map pg).length = true := ny (by rw [List.length_map]; exact hi)
  have e2 : (decide ((0 : Int) ≤ ((a % 128 : Nat) : Int)) && decide (((a % 128 : Nat) : Int) ≤ 128)) = true := by simp; omega
  have e3 : (sub (partsOf ((m.map pg).getD (a / 128) .dead)) (a % 128) 128).length = 128 - a % 128 := by
   rw [LP hi, pg, pO]; exact QY (by simp [hp])
  have e4 : ∀ i : Nat, a % 128 + i < 128 → (sub (partsOf ((m.map pg).getD (a / 128) .dead)) (a % 128) 128).getD i .dead = bv (bt m (a + i)) := fun i h => by
   rw [P5 h, LP hi, pg, pO, sub_at h (by simp [hp]), bv_at (by omega)]
  have b0 := w.FH a
  have b1 := w.FH (a + 1)
  have b2 := w.FH (a + 2)
  have b3 := w.FH (a + 3)
  simp only [e1, e2, e3, h1, decide_eq_true h2, Bool.not_true, cond_true, cond_false, beq_self_eq_true]
  have i0 : ∀ i : Nat, a % 128 + i < 128 → inB (i : Int) (128 - a % 128) = true := fun i h => ny (by omega)
  rcases hs with rfl | rfl
  · rw [show inB 0 (128 - a % 128) = true from i0 0 (by omega), e4 0 (by omega)]
    simp only [bv, iO, Nat.add_zero, w32 (show bt m a < 4294967296 by omega)]; rfl
  · rw [show inB 0 (128 - a % 128) = true from i0 0 (by omega), show inB 1 (128 - a % 128) = true from i0 1 (by omega), show inB 2 (128 - a % 128) = true from i0 2 (by omega), show inB 3 (128 - a % 128) = true from i0 3 (by omega),
      e4 0 (by omega), e4 1 (by omega), e4 2 (by omega), e4 3 (by omega)]
    simp only [bv, iO, Nat.add_zero, w32 (show bt m a < 4294967296 by omega), w32 (show bt m (a + 1) < 4294967296 by omega), w32 (show bt m (a + 2) < 4294967296 by omega), w32 (show bt m (a + 3) < 4294967296 by omega)]
    rw [show ((bt m (a + 1) : Nat) : Int) * 256 = ((256 * bt m (a + 1) : Nat) : Int) by omega, show ((bt m (a + 2) : Nat) : Int) * 65536 = ((65536 * bt m (a + 2) : Nat) : Int) by omega, show ((bt m (a + 3) : Nat) : Int) * 16777216 = ((16777216 * bt m (a + 3) : Nat) : Int) by omega,
     w32 (by omega), w32 (by omega), w32 (by omega), or4 b0 b1 b2 b3]
    rfl) (by kernel_rfl)
end Go.Proofs.Ytcknhfnbdgleiaa
