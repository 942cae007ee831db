/- The memory of a guest: what the specification reads; stores. -/
import Derived.Test.YtcknhfnbdgleiaaCot1
set_option linter.unusedVariables false
set_option linter.unusedSimpArgs false
namespace Go.Proofs.Ytcknhfnbdgleiaa
open Go.AE
theorem GU (k : Nat) {m : av} (w : Wm m) : Rt Pg (D (k + 1)) 71 [mv m] (.int .i64 (128 * m.length : Nat)) := .of (by
 rw [Dk, RB, Bl w]) (by kernel_rfl)
theorem OD (k : Nat) {m : av} (w : Wm m) {a : Nat} (h : a < 128 * m.length) : Rt Pg (D (k + 1)) 154 [mv m, .int .i64 (a : Int)] (bv (bt m a)) := .of (by
 have := w.le
 rw [Dk, Xr]
 simp only [qK, kR, eH (show a / 128 < 9223372036854775808 by omega), Int.toNat_natCast, byte_at w h, bv, iO]
 rw [dh (show a / 128 < (m.map pg).length by rw [List.length_map]; omega), dh (show a % 128 < 128 by omega)]; rfl) (by kernel_rfl)
theorem LY (k : Nat) {m : av} (w : Wm m) (a s : Nat) (ha : a < 4294967296) (hs : s = 1 \/ s = 4) : Rt Pg (D (k + 2)) 115 [mv m, .int .i64 (a : Int), .int .i64 (s : Int)] (.bool (th m a s)) := .of (by
 have hl := w.le
 rw [Dk, SF]
 simp only [(GU k w).ok, (GU k w).val, iO, jo, show decide ((0 : Int) <= (a : Int)) = true by simp, cond_true, o9, nE]
 rw [show (((a % s : Nat) : Int) == 0) = (a % s == 0) from bP _ 0, dP (by omega) (by omega), decide_eq_decide.mpr (show ((a : Int) <= ((128 * m.length : Nat) : Int) - (s : Int)) ↔ a + s <= 128 * m.length by omega)]
 have e : (cond ((s : Int) != 1) ((s : Int) != 4) false) = false := by rcases hs with rfl | rfl <;> rfl
 rw [e]
 have e0 : (!((s : Int) == 0)) = true := by rcases hs with rfl | rfl <;> rfl
 rw [e0]
 unfold th
 cases a % s == 0 <;> rfl) (by kernel_rfl)
theorem Yt (k : Nat) {m : av} (w : Wm m) {a i : Nat} (h : a + i < 128 * m.length) (n : Nat) (hn : n < 16777216) (K : Int × Int -> LO) :
    (kV (D (k + 1)) a (m.map pg) ((n : Int), (i : Int))).eval K = K (((256 * n + bt m (a + i) : Nat) : Int), (i : Int) - 1) := by
 have := w.le
 have hb := w.iR (a + i)
 have e : IntKind.i64.wrap ((a : Int) + (i : Int)) = ((a + i : Nat) : Int) := by rw [dP (by omega) (by omega)]; omega
 simp only [kV, Mk, Tr.eval, e, (OD k w h).ok, (OD k w h).val, show decide ((0 : Int) <= (i : Int)) = true by simp, cond_true, bv, iO]
 rw [show (n : Int) * 256 = ((256 * n : Nat) : Int) by omega, w32 (by omega), w32 (by omega), zN 8 (by omega) (by omega) (by omega), dP (by omega) (by omega)]
theorem Wp (F : Tab) (a : Int) (l : List AV) (n : Int) (K : Int × Int -> LO) : (kV F a l (n, -1)).eval K = ⟨1, [n], [], [], [], [], []⟩ := rfl
theorem RN (k : Nat) {m : av} (w : Wm m) (a s : Nat) (ha : a < 4294967296) (hs : s = 1 \/ s = 4) (ht : th m a s = true) :
    wV (D (k + 1)) a (m.map pg) 100000 0 ((s : Int) - 1) = ⟨1, [(ld m a s : Nat)], [], [], [], [], []⟩ := by
 obtain ⟨h1, h2⟩ := zu ht
 have b0 := w.iR a
 have b1 := w.iR (a + 1)
 have b2 := w.iR (a + 2)
 have b3 := w.iR (a + 3)
 have one : ∀ (f i : Nat) (n : Nat), a + i < 128 * m.length -> n < 16777216 -> Tr.run (kV (D (k + 1)) a (m.map pg)) (f + 1) ((n : Int), (i : Int)) = Tr.run (kV (D (k + 1)) a (m.map pg)) f (((256 * n + bt m (a + i) : Nat) : Int), (i : Int) - 1) := fun f i n h hn => by
  rw [Tr.run, Yt k w h n hn]
 have last : ∀ (f : Nat) (n : Int), Tr.run (kV (D (k + 1)) a (m.map pg)) (f + 1) (n, -1) = ⟨1, [n], [], [], [], [], []⟩ := fun f n => by
  rw [Tr.run, Wp]
 unfold wV
 rcases hs with rfl | rfl
 . rw [show (100000 : Nat) = 99998 + 1 + 1 from rfl]
   refine (one (99998 + 1) 0 0 (by omega) (by omega)).trans ((last 99998 _).trans ?_)
   simp [ld]
 . rw [show (100000 : Nat) = 99995 + 1 + 1 + 1 + 1 + 1 from rfl]
   refine (one (99995 + 1 + 1 + 1 + 1) 3 0 (by omega) (by omega)).trans ?_
   refine (one (99995 + 1 + 1 + 1) 2 (256 * 0 + bt m (a + 3)) (by omega) (by omega)).trans ?_
   refine (one (99995 + 1 + 1) 1 _ (by omega) (by omega)).trans ?_
   refine (one (99995 + 1) 0 _ (by omega) (by omega)).trans ((last 99995 _).trans ?_)
   have e : 256 * (256 * (256 * (256 * 0 + bt m (a + 3)) + bt m (a + 2)) + bt m (a + 1)) + bt m (a + 0) = ld m a 4 := by simp only [ld, wd, Nat.add_zero, if_neg (show ¬ (4 = 1) by decide)]; omega
   rw [e]
theorem Rs (k : Nat) {m : av} (w : Wm m) (a s : Nat) (ha : a < 4294967296) (hs : s = 1 \/ s = 4) : Rt Pg (D (k + 3)) 123 [mv m, .int .i64 (a : Int), .int .i64 (s : Int)] (.agg 198 [.int .u32 (cond (th m a s) (ld m a s) 0 : Nat), .bool (th m a s)]) := .of (by
 have hl := w.le
 have h := LY k w a s ha hs
 have e : IntKind.i64.wrap ((s : Int) - 1) = (s : Int) - 1 := dP (by omega) (by omega)
 rw [Dk, Uu]
 simp only [h.ok, h.val, bO, e]
 cases ht : th m a s with
 | false => rfl
 | true => rw [show D (k + 2) = D ((k + 1) + 1) from rfl, RN (k + 1) w a s ha hs ht]; rfl) (by kernel_rfl)
def pt (p : List Nat) (o : Nat) (d : List Nat) : List Nat := p.take o ++ (d ++ p.drop (o + d.length))
def st (m : av) (a : Nat) (d : List Nat) : av := m.set (a / 128) (pt (d9 m (a / 128)) (a % 128) d)
def wb (v : Nat) : List Nat := [v % 256, v / 256 % 256, v / 65536 % 256, v / 16777216 % 256]
theorem Oq {p : List Nat} {o : Nat} {d : List Nat} (h : o + d.length <= p.length) : (pt p o d).length = p.length := by simp [pt]; omega
theorem Ke {p : List Nat} {o : Nat} {d : List Nat} (h : o + d.length <= p.length) (i : Nat) : (pt p o d).getD i 0 = if o <= i /\ i < o + d.length then d.getD (i - o) 0 else p.getD i 0 := by
 unfold pt
 simp only [List.getD]
 by_cases h1 : i < o
 . rw [List.getElem?_append_left (by simp; omega), List.getElem?_take_of_lt h1, if_neg (by omega)]
 . rw [List.getElem?_append_right (by simp; omega)]
   have e : (p.take o).length = o := by simp; omega
   rw [e]
   by_cases h2 : i < o + d.length
   . rw [List.getElem?_append_left (by omega), if_pos ⟨by omega, h2⟩]
   . rw [List.getElem?_append_right (by omega), List.getElem?_drop, if_neg (by omega)]
     congr 2; omega
theorem qd (m : av) (a : Nat) (d : List Nat) : (st m a d).length = m.length := by simp [st]
theorem Jg {m : av} {i j : Nat} {p : List Nat} (h : i < m.length) : d9 (m.set i p) j = if j = i then p else d9 m j := by
 unfold d9
 by_cases e : j = i
 . subst e; simp [List.getD, h]
 . rw [if_neg e]; simp [List.getD, List.getElem?_set, Ne.symm e]
theorem Ry {m : av} (w : Wm m) {a : Nat} {d : List Nat} (h1 : a / 128 < m.length) (h2 : a % 128 + d.length <= 128) (hd : ∀ b ∈ d, b < 256) : Wm (st m a d) := by
 have hl := w.rA h1
 have hin : d9 m (a / 128) ∈ m := by rw [d9, getD_get h1]; exact List.getElem_mem h1
 refine ⟨by rw [qd]; exact w.pos, by rw [qd]; exact w.le, fun p hp => ?_, fun p hp b hb => ?_⟩
 . rcases List.mem_or_eq_of_mem_set hp with h | rfl
   . exact w.len p h
   . rw [Oq (by omega), hl]
 . rcases List.mem_or_eq_of_mem_set hp with h | rfl
   . exact w.byte p h b hb
   . unfold pt at hb
     rcases List.mem_append.mp hb with h | h
     . exact w.byte _ hin b (List.mem_of_mem_take h)
     . rcases List.mem_append.mp h with h | h
       . exact hd b h
       . exact w.byte _ hin b (List.mem_of_mem_drop h)
theorem Qr {m : av} (w : Wm m) {a : Nat} {d : List Nat} (h1 : a / 128 < m.length) (h2 : a % 128 + d.length <= 128) (x : Nat) :
    bt (st m a d) x = if a <= x /\ x < a + d.length then d.getD (x - a) 0 else bt m x := by
 have hl := w.rA h1
 unfold bt st
 rw [Jg h1]
 by_cases e : x / 128 = a / 128
 . rw [if_pos e, Ke (by omega), e]
   by_cases h : a <= x /\ x < a + d.length
   . rw [if_pos h, if_pos (by omega)]; congr 1; omega
   . rw [if_neg h, if_neg (by omega)]
 . rw [if_neg e, if_neg (by omega)]
theorem OB (v : Nat) : ∀ b ∈ wb v, b < 256 := by intro b hb; simp [wb] at hb; omega
theorem Lm {m : av} (w : Wm m) {a v : Nat} (ha : a % 4 = 0) (h1 : a / 128 < m.length) (hv : v < 4294967296) (x : Nat) (hx : x % 4 = 0) : wd (st m a (wb v)) x = if x = a then v else wd m x := by
 have h2 : a % 128 + (wb v).length <= 128 := by simp [wb]; omega
 unfold wd
 simp only [Qr w h1 h2]
 have : (wb v).length = 4 := rfl
 by_cases e : x = a
 . subst e
   rw [if_pos rfl, if_pos (by omega), if_pos (by omega), if_pos (by omega), if_pos (by omega)]
   rw [Nat.sub_self, show x + 1 - x = 1 by omega, show x + 2 - x = 2 by omega, show x + 3 - x = 3 by omega]
   show v % 256 + 256 * (v / 256 % 256) + 65536 * (v / 65536 % 256) + 16777216 * (v / 16777216 % 256) = v
   omega
 . rw [if_neg e, if_neg (by omega), if_neg (by omega), if_neg (by omega), if_neg (by omega)]
end Go.Proofs.Ytcknhfnbdgleiaa
