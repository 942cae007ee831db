/- The memory of a guest: what the specification reads; stores. -/
import Derived.Test.YtcknhfnbdgleiaaCot1
set_option linter.unusedVariables false
set_option linter.unusedSimpArgs false
namespace Go.Proofs.Ytcknhfnbdgleiaa
open Go.AE

theorem O9 (k : Nat) {m : Pgs} (w : Wm m) : Rt Pg (D (k + 1)) 71 [mv m] (.int .i64 (128 * m.length : Nat)) := .of (by
 rw [Dk, FR, JB w]) (by kernel_rfl)
theorem Qp (k : Nat) {m : Pgs} (w : Wm m) (a s : Nat) (ha : a < 4294967296) (hs : s = 1 ∨ s = 4) : Rt Pg (D (k + 2)) 115 [mv m, .int .i64 (a : Int), .int .i64 (s : Int)] (.bool (th m a s)) := .of (by
 have hl := w.le
 rw [Dk, Dq]
 simp only [(O9 k w).ok, (O9 k w).val, iO, tmN, show decide ((0 : Int) ≤ (a : Int)) = true by simp, cond_true, wD, zo]
 rw [show (((a % s : Nat) : Int) == 0) = (a % s == 0) from beqN _ 0, dU (by omega) (by omega), decide_eq_decide.mpr (show ((a : Int) ≤ ((128 * m.length : Nat) : Int) - (s : Int)) ↔ a + s ≤ 128 * m.length by omega)]
 have e : (cond ((s : Int) != 1) ((s : Int) != 4) false) = false := by rcases hs with rfl | rfl <;> rfl
 rw [e]
 have e0 : (!((s : Int) == 0)) = true := by rcases hs with rfl | rfl <;> rfl
 rw [e0]
 unfold th
 cases a % s == 0 <;> rfl) (by kernel_rfl)
/-! ### Stores -/
def pt (p : List Nat) (o : Nat) (d : List Nat) : List Nat := p.take o ++ (d ++ p.drop (o + d.length))
def st (m : Pgs) (a : Nat) (d : List Nat) : Pgs := m.set (a / 128) (pt (pgAt m (a / 128)) (a % 128) d)
def wb (v : Nat) : List Nat := [v % 256, v / 256 % 256, v / 65536 % 256, v / 16777216 % 256]
theorem Pw {p : List Nat} {o : Nat} {d : List Nat} (h : o + d.length ≤ p.length) : (pt p o d).length = p.length := by simp [pt]; omega
theorem pt_at {p : List Nat} {o : Nat} {d : List Nat} (h : o + d.length ≤ p.length) (i : Nat) : (pt p o d).getD i 0 = if o ≤ i ∧ i < o + d.length then d.getD (i - o) 0 else p.getD i 0 := by
 unfold pt
 simp only [List.getD]
 by_cases h1 : i < o
 · rw [List.getElem?_append_left (by simp; omega), List.getElem?_take_of_lt h1, if_neg (by omega)]
 · rw [List.getElem?_append_right (by simp; omega)]
   have e : (p.take o).length = o := by simp; omega
   rw [e]
   by_cases h2 : i < o + d.length
   · rw [List.getElem?_append_left (by omega), if_pos ⟨by omega, h2⟩]
   · rw [List.getElem?_append_right (by omega), List.getElem?_drop, if_neg (by omega)]
     congr 2; omega
theorem Cb (m : Pgs) (a : Nat) (d : List Nat) : (st m a d).length = m.length := by simp [st]
theorem NZ {m : Pgs} {i j : Nat} {p : List Nat} (h : i < m.length) : pgAt (m.set i p) j = if j = i then p else pgAt m j := by
 unfold pgAt
 by_cases e : j = i
 · subst e; simp [List.getD, h]
 · rw [if_neg e]; simp [List.getD, List.getElem?_set, Ne.symm e]
theorem st_wm {m : Pgs} (w : Wm m) {a : Nat} {d : List Nat} (h1 : a / 128 < m.length) (h2 : a % 128 + d.length ≤ 128) (hd : ∀ b ∈ d, b < 256) : Wm (st m a d) := by
 have hl := w.LH h1
 have hin : pgAt m (a / 128) ∈ m := by rw [pgAt, getD_get h1]; exact List.getElem_mem h1
 refine ⟨by rw [Cb]; exact w.pos, by rw [Cb]; exact w.le, fun p hp => ?_, fun p hp b hb => ?_⟩
 · rcases List.mem_or_eq_of_mem_set hp with h | rfl
   · exact w.len p h
   · rw [Pw (by omega), hl]
 · rcases List.mem_or_eq_of_mem_set hp with h | rfl
   · exact w.byte p h b hb
   · unfold pt at hb
     rcases List.mem_append.mp hb with h | h
     · exact w.byte _ hin b (List.mem_of_mem_take h)
     · rcases List.mem_append.mp h with h | h
       · exact hd b h
       · exact w.byte _ hin b (List.mem_of_mem_drop h)
theorem wb_lt (v : Nat) : ∀ b ∈ wb v, b < 256 := by intro b hb; simp [wb] at hb; omega
end Go.Proofs.Ytcknhfnbdgleiaa
