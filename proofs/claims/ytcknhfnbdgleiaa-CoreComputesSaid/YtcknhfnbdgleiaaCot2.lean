/- The memory of a guest: what the specification reads; stores. -/
import Derived.Test.YtcknhfnbdgleiaaCot1
set_option linter.unusedVariables false
set_option linter.unusedSimpArgs false
namespace Go.Proofs.Ytcknhfnbdgleiaa
open Go.AE

theorem PI (k : Nat) {m : Pgs} (w : Wm m) : Rt Pg (D (k + 1)) 71 [mv m] (.int .i64 (128 * m.length : Nat)) := .of (by
 rw [Dk, Fp, Ki w]) (by kernel_rfl)
theorem PW (k : Nat) {m : Pgs} (w : Wm m) (a s : Nat) (ha : a < 4294967296) (hs : s = 1 ∨ s = 4) : Rt Pg (D (k + 2)) 115 [mv m, .int .i64 (a : Int), .int .i64 (s : Int)] (.bool (th m a s)) := .of (by
 have hl := w.le
 rw [Dk, Dr]
 simp only [(PI k w).ok, (PI k w).val, iO, tmN, show decide ((0 : Int) ≤ (a : Int)) = true by simp, cond_true, fG, tZ]
 rw [show (((a % s : Nat) : Int) == 0) = (a % s == 0) from beqN _ 0, av (by omega) (by omega), decide_eq_decide.mpr (show ((a : Int) ≤ ((128 * m.length : Nat) : Int) - (s : Int)) ↔ a + s ≤ 128 * m.length by omega)]
 have e : (cond ((s : Int) != 1) ((s : Int) != 4) false) = false := by rcases hs with rfl | rfl <;> rfl
 rw [e]
 have e0 : (!((s : Int) == 0)) = true := by rcases hs with rfl | rfl <;> rfl
 rw [e0]
 unfold th
 cases a % s == 0 <;> rfl) (by kernel_rfl)
/-! ### Stores -/
def pt (p : List Nat) (o : Nat) (d : List Nat) : List Nat := p.take o ++ (d ++ p.drop (o + d.length))
def st (m : Pgs) (a : Nat) (d : List Nat) : Pgs := m.set (a / 128) (pt (pgAt m (a / 128)) (a % 128) d)
def wb (v : Nat) : List Nat := [v % 256, v / 256 % 256, v / 65536 % 256, v / 16777216 % 256]
theorem O9 {p : List Nat} {o : Nat} {d : List Nat} (h : o + d.length ≤ p.length) : (pt p o d).length = p.length := by simp [pt]; omega
theorem pt_at {p : List Nat} {o : Nat} {d : List Nat} (h : o + d.length ≤ p.length) (i : Nat) : (pt p o d).getD i 0 = if o ≤ i ∧ i < o + d.length then d.getD (i - o) 0 else p.getD i 0 := by
 unfold pt
 simp only [List.getD]
 by_cases h1 : i < o
 · rw [List.getElem?_append_left (by simp; omega), List.getElem?_take_of_lt h1, if_neg (by omega)]
 · rw [List.getElem?_append_right (by simp; omega)]
   have e : (p.take o).length = o := by simp; omega
   rw [e]
   by_cases h2 : i < o + d.length
   · rw [List.getElem?_append_left (by omega), if_pos ⟨by omega, h2⟩]
   · rw [List.getElem?_append_right (by omega), List.getElem?_drop, if_neg (by omega)]
     congr 2; omega
theorem Cc (m : Pgs) (a : Nat) (d : List Nat) : (st m a d).length = m.length := by simp [st]
theorem JX {m : Pgs} {i j : Nat} {p : List Nat} (h : i < m.length) : pgAt (m.set i p) j = if j = i then p else pgAt m j := by
 unfold pgAt
 by_cases e : j = i
 · subst e; simp [List.getD, h]
 · rw [if_neg e]; simp [List.getD, List.getElem?_set, Ne.symm e]
theorem st_wm {m : Pgs} (w : Wm m) {a : Nat} {d : List Nat} (h1 : a / 128 < m.length) (h2 : a % 128 + d.length ≤ 128) (hd : ∀ b ∈ d, b < 256) : Wm (st m a d) := by
 have hl := w.KX h1
 have hin : pgAt m (a / 128) ∈ m := by rw [pgAt, getD_get h1]; exact List.getElem_mem h1
 refine ⟨by rw [Cc]; exact w.pos, by rw [Cc]; exact w.le, fun p hp => ?_, fun p hp b hb => ?_⟩
 · rcases List.mem_or_eq_of_mem_set hp with h | rfl
   · exact w.len p h
   · rw [O9 (by omega), hl]
 · rcases List.mem_or_eq_of_mem_set hp with h | rfl
   · exact w.byte p h b hb
   · unfold pt at hb
     rcases List.mem_append.mp hb with h | h
     · exact w.byte _ hin b (List.mem_of_mem_take h)
     · rcases List.mem_append.mp h with h | h
       · exact hd b h
       · exact w.byte _ hin b (List.mem_of_mem_drop h)
theorem bt_st {m : Pgs} (w : Wm m) {a : Nat} {d : List Nat} (h1 : a / 128 < m.length) (h2 : a % 128 + d.length ≤ 128) (x : Nat) :
    bt (st m a d) x = if a ≤ x ∧ x < a + d.length then d.getD (x - a) 0 else bt m x := by
 have hl := w.KX h1
 unfold bt st
 rw [JX h1]
 by_cases e : x / 128 = a / 128
 · rw [if_pos e, pt_at (by omega), e]
   by_cases h : a ≤ x ∧ x < a + d.length
   · rw [if_pos h, if_pos (by omega)]; congr 1; omega
   · rw [if_neg h, if_neg (by omega)]
 · rw [if_neg e, if_neg (by omega)]
theorem wb_lt (v : Nat) : ∀ b ∈ wb v, b < 256 := by intro b hb; simp [wb] at hb; omega
theorem wd_st {m : Pgs} (w : Wm m) {a v : Nat} (ha : a % 4 = 0) (h1 : a / 128 < m.length) (hv : v < 4294967296) (x : Nat) (hx : x % 4 = 0) : wd (st m a (wb v)) x = if x = a then v else wd m x := by
 have h2 : a % 128 + (wb v).length ≤ 128 := by simp [wb]; omega
 unfold wd
 simp only [bt_st w h1 h2]
 have : (wb v).length = 4 := rfl
 by_cases e : x = a
 · subst e
   rw [if_pos rfl, if_pos (by omega), if_pos (by omega), if_pos (by omega), if_pos (by omega)]
   rw [Nat.sub_self, show x + 1 - x = 1 by omega, show x + 2 - x = 2 by omega, show x + 3 - x = 3 by omega]
   show v % 256 + 256 * (v / 256 % 256) + 65536 * (v / 65536 % 256) + 16777216 * (v / 16777216 % 256) = v
   omega
 · rw [if_neg e, if_neg (by omega), if_neg (by omega), if_neg (by omega), if_neg (by omega)]
end Go.Proofs.Ytcknhfnbdgleiaa
