/- The memory of a guest: what it is, what is read of it. -/
import Derived.Test.YtcknhfnbdgleiaaCoD
import Derived.Test.YtcknhfnbdgleiaaCoN0
import Derived.Test.YtcknhfnbdgleiaaCoN1
import Derived.Test.YtcknhfnbdgleiaaEvD
set_option linter.unusedVariables false
set_option linter.unusedSimpArgs false
namespace Go.Proofs.Ytcknhfnbdgleiaa
open Go.AE
theorem Dk (k : Nat) (f : FuncId) (args : List AV) : D (k + 1) f args = aS (cx (D k)) 6 f args := rfl
abbrev bv (b : Nat) : AV := .int .u8 (b : Int)
def pg (p : List Nat) : AV := .agg 117 (p.map bv)
abbrev av := List (List Nat)
abbrev mv (m : av) : AV := .agg 23 [.slice 118 (m.map pg) false]
structure Wm (m : av) : Prop where
 pos : 0 < m.length
 le : m.length <= 64
 len : ∀ p ∈ m, p.length = 128
 byte : ∀ p ∈ m, ∀ b ∈ p, b < 256
def d9 (m : av) (i : Nat) : List Nat := m.getD i []
def bt (m : av) (a : Nat) : Nat := (d9 m (a / 128)).getD (a % 128) 0
def wd (m : av) (a : Nat) : Nat := bt m a + 256 * bt m (a + 1) + 65536 * bt m (a + 2) + 16777216 * bt m (a + 3)
def th (m : av) (a s : Nat) : Bool := a % s == 0 && decide (a + s <= 128 * m.length)
def ld (m : av) (a s : Nat) : Nat := if s = 1 then bt m a else wd m a
theorem getD_get {α : Type} {l : List α} {i : Nat} {d : α} (h : i < l.length) : l.getD i d = l[i] := by simp [List.getD, h]
theorem wZ {α : Type} (f : α -> AV) {xs : List α} {n : Nat} (h : n < xs.length) : (xs.map f).getD n .dead = f xs[n] := by simp [List.getD, h]
theorem Wm.rA {m : av} (w : Wm m) {i : Nat} (h : i < m.length) : (d9 m i).length = 128 := by
 rw [d9, getD_get h]; exact w.len _ (List.getElem_mem h)
theorem Wm.iR {m : av} (w : Wm m) (a : Nat) : bt m a < 256 := by
 unfold bt
 by_cases h : a / 128 < m.length
 . have hl := w.rA h
   rw [getD_get (show a % 128 < (d9 m (a / 128)).length by omega)]
   refine w.byte (d9 m (a / 128)) ?_ _ (List.getElem_mem _)
   rw [d9, getD_get h]; exact List.getElem_mem h
 . have : d9 m (a / 128) = [] := by simp [d9, List.getD, show m.length <= a / 128 by omega]
   rw [this]; simp
theorem N9 {m : av} (w : Wm m) (a : Nat) : wd m a < 4294967296 := by
 have := w.iR a; have := w.iR (a + 1); have := w.iR (a + 2); have := w.iR (a + 3)
 unfold wd; omega
theorem dh {n m : Nat} (h : n < m) : aH (n : Int) m = true := by simp [aH]; omega
theorem lt_n {n m : Nat} (h : n < m) : decide ((n : Int) < ((m : Nat) : Int)) = true := by simp; omega
theorem rD (n : Nat) : decide ((n : Int) < ((n : Nat) : Int)) = false := by simp
theorem mH {n : Nat} (h : n < 1000000) : IntKind.i64.wrap ((n : Int) + 1) = ((n + 1 : Nat) : Int) := by
 rw [dP (by omega) (by omega)]; rfl
theorem eH {n : Nat} (h : n < 9223372036854775808) : IntKind.i64.wrap (n : Int) = (n : Int) := dP (by omega) (by omega)
theorem w32 {n : Nat} (h : n < 4294967296) : IntKind.u32.wrap (n : Int) = (n : Int) := jA (by omega) (by omega)
theorem qK (a : Nat) : (a : Int).tdiv 128 = ((a / 128 : Nat) : Int) := by rw [Int.tdiv_eq_ediv_of_nonneg (by omega)]; omega
theorem kR (a : Nat) : (a : Int).tmod 128 = ((a % 128 : Nat) : Int) := by rw [Int.tmod_eq_emod_of_nonneg (by omega)]; omega
theorem jo (a s : Nat) : (a : Int).tmod (s : Int) = ((a % s : Nat) : Int) := by rw [Int.tmod_eq_emod_of_nonneg (by omega)]; rfl
theorem zR (a s : Nat) : (a : Int).tdiv (s : Int) = ((a / s : Nat) : Int) := by rw [Int.tdiv_eq_ediv_of_nonneg (by omega)]; rfl
theorem bP (a b : Nat) : ((a : Int) == (b : Int)) = (a == b) := by
 rcases Nat.decEq a b with h | h
 . rw [beq_eq_false_iff_ne.mpr h]; exact beq_eq_false_iff_ne.mpr (by omega)
 . subst h; simp
theorem Bl {m : av} (w : Wm m) : IntKind.i64.wrap (((m.map pg).length : Nat) * 128 : Int) = ((128 * m.length : Nat) : Int) := by
 have := w.le
 rw [List.length_map, dP (by omega) (by omega)]; omega
theorem Pf {m : av} {a o : Nat} (h : a % 128 + o < 128) : bt m (a + o) = (d9 m (a / 128)).getD (a % 128 + o) 0 := by
 unfold bt
 rw [show (a + o) / 128 = a / 128 by omega, show (a + o) % 128 = a % 128 + o by omega]
theorem xu {m : av} {i : Nat} (h : i < m.length) : (m.map pg).getD i .dead = pg (d9 m i) := by rw [wZ pg h, d9, getD_get h]
theorem KS {p : List Nat} {i : Nat} (h : i < p.length) : (p.map bv).getD i .dead = bv (p.getD i 0) := by rw [wZ bv h, getD_get h]
theorem byte_at {m : av} (w : Wm m) {a : Nat} (h : a < 128 * m.length) : (partsOf ((m.map pg).getD (a / 128) .dead)).getD (a % 128) .dead = bv (bt m a) := by
 have h1 : a / 128 < m.length := by omega
 have h2 := w.rA h1
 rw [xu h1, pg, pO, KS (by omega)]; rfl
theorem or4 {a b c d : Nat} (ha : a < 256) (hb : b < 256) (hc : c < 256) (hd : d < 256) :
    aD .or .u32 (aD .or .u32 (aD .or .u32 (a : Int) ((256 * b : Nat) : Int)) ((65536 * c : Nat) : Int)) ((16777216 * d : Nat) : Int) = ((a + 256 * b + 65536 * c + 16777216 * d : Nat) : Int) := by
 have swap : ∀ x y : Nat, x < 4294967296 -> y < 4294967296 -> aD .or .u32 (x : Int) (y : Int) = aD .or .u32 (y : Int) (x : Int) := fun x y hx hy => by
  rw [uE (by omega) (by omega) (by omega) (by omega), uE (by omega) (by omega) (by omega) (by omega), Nat.or_comm]
 rw [swap a (256 * b) (by omega) (by omega), zN 8 (by omega) (by omega) (by omega), swap _ (65536 * c) (by omega) (by omega), zN 16 (by omega) (by omega) (by omega), swap _ (16777216 * d) (by omega) (by omega), zN 24 (by omega) (by omega) (by omega)]
 congr 1; omega
theorem PU {l : List AV} {o e i : Nat} (h : o + i < e) (he : e <= l.length) : (sub l o e).getD i .dead = l.getD (o + i) .dead := by
 simp [sub, List.getD, List.getElem?_take, List.getElem?_drop, show i < e - o by omega, h]
theorem X7 {l : List AV} {o e : Nat} (he : e <= l.length) : (sub l o e).length = e - o := by simp [sub]; omega
theorem Sl {m : av} {a s : Nat} (h : th m a s = false) : a % s ≠ 0 \/ 128 * m.length < a + s := by
 simp [th] at h; omega
theorem zu {m : av} {a s : Nat} (h : th m a s = true) : a % s = 0 /\ a + s <= 128 * m.length := by
 simpa [th] using h
theorem Jl {m : av} (w : Wm m) (a s : Nat) (hs : s <= 4) : decide ((a : Int) <= IntKind.i64.wrap (IntKind.i64.wrap (((m.map pg).length : Nat) * 128 : Int) - (s : Int))) = decide (a + s <= 128 * m.length) := by
 have := w.le
 rw [Bl w, dP (by omega) (by omega)]
 exact decide_eq_decide.mpr (by omega)
theorem CP (k : Nat) {m : av} (w : Wm m) (a s : Nat) (ha : a < 4294967296) (hs : s = 1 \/ s = 4) : Rt Pg (D (k + 1)) 23 [mv m, .int .i64 (a : Int), .int .i64 (s : Int)] (.tuple [.int .u32 (cond (th m a s) (ld m a s) 0 : Nat), .bool (th m a s)]) := .of (by
 have hl := w.le
 rw [Dk, ZL]
 simp only [Jl w a s (by omega), qK, kR, jo, eH (show a / 128 < 9223372036854775808 by omega), Int.toNat_natCast, show decide ((0 : Int) <= (a : Int)) = true by simp, cond_true]
 have es : ∀ x : Nat, ((s : Int) == (x : Int)) = (s == x) := fun x => bP s x
 rw [show ((s : Int) == 1) = (s == 1) from es 1, show ((s : Int) == 4) = (s == 4) from es 4, show ((s : Int) == 0) = (s == 0) from es 0]
 rw [show (((a % s : Nat) : Int) == 0) = (a % s == 0) from bP _ 0]
 cases ht : th m a s with
 | false =>
  have := Sl ht
  simp only [cond_false]
  rcases hs with rfl | rfl
  . have h1 : decide (a + 1 <= 128 * m.length) = false := by simp; omega
    simp only [h1, Nat.mod_one, beq_self_eq_true, cond_true, Bool.not_false]; rfl
  . cases h1 : a % 4 == 0
    . rfl
    . have h1 : decide (a + 4 <= 128 * m.length) = false := by simp at h1 ⊢; omega
      simp only [h1]; rfl
 | true =>
  obtain ⟨h1, h2⟩ := zu ht
  have hi : a / 128 < m.length := by omega
  have hp := w.rA hi
  have hb := byte_at w (show a < 128 * m.length by omega)
  have e1 : aH ((a / 128 : Nat) : Int) (m.map pg).length = true := dh (by rw [List.length_map]; exact hi)
  have e2 : (decide ((0 : Int) <= ((a % 128 : Nat) : Int)) && decide (((a % 128 : Nat) : Int) <= 128)) = true := by simp; omega
  have e3 : (sub (partsOf ((m.map pg).getD (a / 128) .dead)) (a % 128) 128).length = 128 - a % 128 := by
   rw [xu hi, pg, pO]; exact X7 (by simp [hp])
  have e4 : ∀ i : Nat, a % 128 + i < 128 -> (sub (partsOf ((m.map pg).getD (a / 128) .dead)) (a % 128) 128).getD i .dead = bv (bt m (a + i)) := fun i h => by
   rw [Pf h, xu hi, pg, pO, PU h (by simp [hp]), KS (by omega)]
  have b0 := w.iR a
  have b1 := w.iR (a + 1)
  have b2 := w.iR (a + 2)
  have b3 := w.iR (a + 3)
  simp only [e1, e2, e3, h1, decide_eq_true h2, Bool.not_true, cond_true, cond_false, beq_self_eq_true]
  have i0 : ∀ i : Nat, a % 128 + i < 128 -> aH (i : Int) (128 - a % 128) = true := fun i h => dh (by omega)
  rcases hs with rfl | rfl
  . rw [show aH 0 (128 - a % 128) = true from i0 0 (by omega), e4 0 (by omega)]
    simp only [bv, iO, Nat.add_zero, w32 (show bt m a < 4294967296 by omega)]; rfl
  . rw [show aH 0 (128 - a % 128) = true from i0 0 (by omega), show aH 1 (128 - a % 128) = true from i0 1 (by omega), show aH 2 (128 - a % 128) = true from i0 2 (by omega), show aH 3 (128 - a % 128) = true from i0 3 (by omega),
      e4 0 (by omega), e4 1 (by omega), e4 2 (by omega), e4 3 (by omega)]
    simp only [bv, iO, Nat.add_zero, w32 (show bt m a < 4294967296 by omega), w32 (show bt m (a + 1) < 4294967296 by omega), w32 (show bt m (a + 2) < 4294967296 by omega), w32 (show bt m (a + 3) < 4294967296 by omega)]
    rw [show ((bt m (a + 1) : Nat) : Int) * 256 = ((256 * bt m (a + 1) : Nat) : Int) by omega, show ((bt m (a + 2) : Nat) : Int) * 65536 = ((65536 * bt m (a + 2) : Nat) : Int) by omega, show ((bt m (a + 3) : Nat) : Int) * 16777216 = ((16777216 * bt m (a + 3) : Nat) : Int) by omega,
     w32 (by omega), w32 (by omega), w32 (by omega), or4 b0 b1 b2 b3]
    rfl) (by kernel_rfl)
end Go.Proofs.Ytcknhfnbdgleiaa
