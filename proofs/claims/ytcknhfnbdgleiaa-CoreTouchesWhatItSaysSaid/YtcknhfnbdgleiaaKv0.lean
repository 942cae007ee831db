/- What the laws share. -/
import Derived.Test.YtcknhfnbdgleiaaCoM
set_option linter.unusedVariables false
set_option linter.unusedSimpArgs false
namespace Go.Proofs.Ytcknhfnbdgleiaa
open Go.AE
theorem g5 (a b c d e f : AV) (l : List AV) : (a :: b :: c :: d :: e :: f :: l).getD 5 .dead = f := rfl
theorem g6 (a b c d e f g : AV) (l : List AV) : (a :: b :: c :: d :: e :: f :: g :: l).getD 6 .dead = g := rfl
theorem g7 (a b c d e f g h : AV) (l : List AV) : (a :: b :: c :: d :: e :: f :: g :: h :: l).getD 7 .dead = h := rfl
theorem g8 (a b c d e f g h i : AV) (l : List AV) : (a :: b :: c :: d :: e :: f :: g :: h :: i :: l).getD 8 .dead = i := rfl
theorem g9 (a b c d e f g h i j : AV) (l : List AV) : (a :: b :: c :: d :: e :: f :: g :: h :: i :: j :: l).getD 9 .dead = j := rfl
theorem g10 (a b c d e f g h i j k : AV) (l : List AV) : (a :: b :: c :: d :: e :: f :: g :: h :: i :: j :: k :: l).getD 10 .dead = k := rfl
theorem KE : ∀ (l : List Nat), iR (l.map uv) (l.map uv) = true
 | [] => rfl
 | n :: l => by
  have := KE l
  simp [iR, mV, this]
theorem YS {α : Type} (f : α -> AV) (pre : List α) (a : α) (rest : List α) : ((pre ++ a :: rest).map f).getD pre.length .dead = f a := by simp
theorem L8 {α : Type} (f : α -> AV) (pre : List α) (a : α) (rest : List α) : pre.length < ((pre ++ a :: rest).map f).length := by simp
theorem Pd (k : Nat) {c : Cp} (h : Wv c) (hc : c.count < 1099511627776) {m : aA} (wm : Wm m) : Rt Pg (D (k + 2)) 51 [dD c, mv m] (.bool true) := by
 have r := Mr k c.pc c.r c.c h.w.rl h.w.cl c.user c.waits c.halts c.count m
 have : qH c.r c.c c.waits c.halts c.count m = true := by
  have hl := wm.le
  have hp := wm.pos
  unfold qH za
  obtain ⟨v0, v5, v7, v8, vn, vw⟩ := h.v
  rw [v0, v7, decide_eq_true v5, decide_eq_true v8, decide_eq_true (show (0 : Int) <= ((c.count : Nat) : Int) by omega), decide_eq_true (show ((c.count : Nat) : Int) <= 1099511627776 by omega), decide_eq_true (show ((c.count : Nat) : Int) < 1099511627776 by omega), decide_eq_true (show 1 <= m.length by omega), decide_eq_true (show m.length <= 64 by omega)]
  cases hw : c.waits with
  | false => rfl
  | true => rw [vw hw]; rfl
 rw [this] at r
 exact r
end Go.Proofs.Ytcknhfnbdgleiaa
