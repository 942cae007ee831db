/- Instructions. -/
import Derived.Test.YtcknhfnbdgleiaaCor1
set_option linter.unusedVariables false
set_option linter.unusedSimpArgs false
namespace Go.Proofs.Ytcknhfnbdgleiaa
open Go.AE

structure In where
 op : Nat
 a : Nat
 b : Nat
 c : Nat
 imm : Int
abbrev inv (i : In) : AV := .agg 122 [.int .i64 (i.op : Int), .int .i64 (i.a : Int), .int .i64 (i.b : Int), .int .i64 (i.c : Int), .int .i64 i.imm]
/-- What an operation's form is. -/
def frm (n : Nat) : Nat := if n < 49 then (intOf ((partsOf ((partsOf oz).getD n .dead)).getD 1 .dead)).toNat else 0
theorem Qi : ∀ n : Nat, n < 49 → intOf ((partsOf ((partsOf oz).getD n .dead)).getD 1 .dead) = (((intOf ((partsOf ((partsOf oz).getD n .dead)).getD 1 .dead)).toNat : Nat) : Int) := by decide +kernel
theorem Oy (k : Nat) : Rt Pg (D (k + 1)) 166 [] oz := .of (by rw [Dk, GZ]) (by kernel_rfl)
theorem Ph (k : Nat) (n : Nat) : Rt Pg (D (k + 2)) 151 [.int .i64 (n : Int)] (.int .i64 (frm n : Int)) := .of (by
 have r := Oy k
 rw [Dk, Jt]
 simp only [r.ok, r.val, cond_true]
 rw [show decide ((0 : Int) ≤ (n : Int)) = true from decide_eq_true (by omega), cond_true, decide_eq_decide.mpr (show ((n : Int) < 49) ↔ n < 49 by omega)]
 unfold frm
 by_cases h : n < 49
 · rw [decide_eq_true h, if_pos h, ny h, Int.toNat_natCast, ← Qi n h]; rfl
 · rw [decide_eq_false h, if_neg h]; rfl) (by kernel_rfl)
def rgtI (i : In) : Bool :=
 cond (frm i.op == 1) (i.imm == 0) (cond (frm i.op == 2) (cond (cond (decide (-131072 ≤ i.imm)) (decide (i.imm ≤ 131071)) false) (i.c == 0) false)
  (cond (frm i.op == 3) (cond (cond (decide (-131072 ≤ i.imm)) (decide (i.imm ≤ 131071)) false) (cond (i.b == 0) (i.c == 0) false) false)
   (cond (frm i.op == 4) (cond (i.a == 0) (cond (i.c == 0) (i.imm == 0) false) false)
    (cond (frm i.op == 5) (cond (i.a == 0) (cond (i.b == 0) (cond (i.c == 0) (i.imm == 0) false) false) false) false))))
theorem in16 {n : Nat} (h : n < 16) : cond (decide ((0 : Int) ≤ (n : Int))) (decide ((n : Int) < 16)) false = true := by
 rw [decide_eq_true (show (0 : Int) ≤ (n : Int) by omega), decide_eq_true (show (n : Int) < 16 by omega)]; rfl
theorem Kr (k : Nat) (i : In) (ha : i.a < 16) (hb' : i.b < 16) (hc : i.c < 16) : Rt Pg (D (k + 3)) 152 [inv i] (.bool (rgtI i)) := .of (by
 have r := Ph k i.op
 have e : ∀ j : Nat, (((frm i.op : Nat) : Int) == (j : Int)) = (frm i.op == j) := fun j => beqN _ j
 have z : ∀ x : Nat, ((x : Int) == 0) = (x == 0) := fun x => beqN x 0
 rw [Dk, Ht]
 simp only [r.ok, r.val, iO, in16 ha, in16 hb', in16 hc, z, beq_self_eq_true, Bool.true_and, Bool.and_true]
 rw [show (((frm i.op : Nat) : Int) == 1) = (frm i.op == 1) from e 1, show (((frm i.op : Nat) : Int) == 2) = (frm i.op == 2) from e 2, show (((frm i.op : Nat) : Int) == 3) = (frm i.op == 3) from e 3, show (((frm i.op : Nat) : Int) == 4) = (frm i.op == 4) from e 4, show (((frm i.op : Nat) : Int) == 5) = (frm i.op == 5) from e 5]
 unfold rgtI
 cases frm i.op == 1
 · cases frm i.op == 2
   · cases frm i.op == 3
     · cases frm i.op == 4
       · cases frm i.op == 5 <;> cases i.a == 0 <;> cases i.b == 0 <;> cases i.c == 0 <;> cases i.imm == 0 <;> rfl
       · cases i.a == 0 <;> cases i.c == 0 <;> cases i.imm == 0 <;> rfl
     · cases cond (decide (-131072 ≤ i.imm)) (decide (i.imm ≤ 131071)) false <;> cases i.b == 0 <;> rfl
   · cases cond (decide (-131072 ≤ i.imm)) (decide (i.imm ≤ 131071)) false <;> rfl
 · rfl) (by kernel_rfl)
/-! ### Decode -/
def I6 (w : Nat) : Int := if w % 262144 < 131072 then (w % 262144 : Nat) else ((w % 262144 : Nat) : Int) - 262144
def fld (w : Nat) : In := cond (frm (w / 67108864 % 64) == 1) ⟨w / 67108864 % 64, w / 4194304 % 16, w / 262144 % 16, w / 16384 % 16, 0⟩ ⟨w / 67108864 % 64, w / 4194304 % 16, w / 262144 % 16, 0, I6 w⟩
def decB (w : Nat) : Bool := cond (frm (w / 67108864 % 64) == 1) (cond (w % 16384 == 0) (rgtI (fld w)) false) (rgtI (fld w))
def noI : In := ⟨0, 0, 0, 0, 0⟩
def decI (w : Nat) : In := cond (decB w) (fld w) noI
theorem D7 (w q m : Nat) (hq : 0 < q) (hm : m < 30) (hw : w < 4294967296) : IntKind.i64.wrap (aF .and .u32 ((w : Int).fdiv (q : Int)) (2 ^ m - 1)) = ((w / q % 2 ^ m : Nat) : Int) := by
 rw [mY (by omega), yx m _ (by omega), ← Int.natCast_ediv]
 have e : (((w / q : Nat) : Int)) % 2 ^ m = ((w / q % 2 ^ m : Nat) : Int) := by
  rw [Int.natCast_emod]; simp
 rw [e]
 have : w / q % 2 ^ m ≤ w / q := Nat.mod_le _ _
 have : w / q ≤ w := Nat.div_le_self _ _
 exact w64 (by omega)
theorem immN (w : Nat) (hw : w < 4294967296) : (IntKind.i64.wrap ((IntKind.i64.wrap (aF .and .u32 ((w : Int).fdiv 1) 262143)) * 70368744177664)).fdiv 70368744177664 = I6 w := by
 have := D7 w 1 18 (by omega) (by omega) hw
 rw [show ((1 : Nat) : Int) = 1 from rfl, show ((2 : Int) ^ 18 - 1) = 262143 from rfl, show (2 : Nat) ^ 18 = 262144 from rfl, Nat.div_one] at this
 rw [this, mY (by decide), wrap_i64]
 unfold I6
 split <;> omega
theorem Kh (k : Nat) (w : Nat) (hw : w < 4294967296) : Rt Pg (D (k + 4)) 118 [uv w] (.tuple [inv (decI w), .bool (decB w)]) := .of (by
 have e1 := D7 w 67108864 6 (by omega) (by omega) hw
 have e2 := D7 w 4194304 4 (by omega) (by omega) hw
 have e3 := D7 w 262144 4 (by omega) (by omega) hw
 have e4 := D7 w 16384 4 (by omega) (by omega) hw
 have e5 := D7 w 1 14 (by omega) (by omega) hw
 rw [show ((67108864 : Nat) : Int) = 67108864 from rfl, show ((2 : Int) ^ 6 - 1) = 63 from rfl, show (2 : Nat) ^ 6 = 64 from rfl] at e1
 rw [show ((4194304 : Nat) : Int) = 4194304 from rfl, show ((2 : Int) ^ 4 - 1) = 15 from rfl, show (2 : Nat) ^ 4 = 16 from rfl] at e2
 rw [show ((262144 : Nat) : Int) = 262144 from rfl, show ((2 : Int) ^ 4 - 1) = 15 from rfl, show (2 : Nat) ^ 4 = 16 from rfl] at e3
 rw [show ((16384 : Nat) : Int) = 16384 from rfl, show ((2 : Int) ^ 4 - 1) = 15 from rfl, show (2 : Nat) ^ 4 = 16 from rfl] at e4
 rw [show ((1 : Nat) : Int) = 1 from rfl, show ((2 : Int) ^ 14 - 1) = 16383 from rfl, show (2 : Nat) ^ 14 = 16384 from rfl, Nat.div_one] at e5
 have rf := Ph (k + 1) (w / 67108864 % 64)
 rw [Dk, Fa]
 simp only [e1, e2, e3, e4, e5, immN w hw, rf.ok, rf.val, iO, cond_true]
 rw [show (((frm (w / 67108864 % 64) : Nat) : Int) == 1) = (frm (w / 67108864 % 64) == 1) from beqN _ 1, show (((w % 16384 : Nat) : Int) != 0) = !(w % 16384 == 0) from bneN _ 0]
 unfold decI decB fld
 cases h1 : frm (w / 67108864 % 64) == 1 with
 | true =>
  have r := Kr k ⟨w / 67108864 % 64, w / 4194304 % 16, w / 262144 % 16, w / 16384 % 16, 0⟩ (Nat.mod_lt _ (by omega)) (Nat.mod_lt _ (by omega)) (Nat.mod_lt _ (by omega))
  unfold inv at r
  dsimp only at r
  simp only [cond_true, r.ok, r.val, bO]
  cases w % 16384 == 0 with
  | false => rfl
  | true => cases rgtI ⟨w / 67108864 % 64, w / 4194304 % 16, w / 262144 % 16, w / 16384 % 16, 0⟩ <;> rfl
 | false =>
  have r := Kr k ⟨w / 67108864 % 64, w / 4194304 % 16, w / 262144 % 16, 0, I6 w⟩ (Nat.mod_lt _ (by omega)) (Nat.mod_lt _ (by omega)) (by show 0 < 16; omega)
  unfold inv at r
  dsimp only at r
  simp only [show ((0 : Nat) : Int) = 0 from rfl] at r
  simp only [cond_false, r.ok, r.val, bO, cond_true]
  cases rgtI ⟨w / 67108864 % 64, w / 4194304 % 16, w / 262144 % 16, 0, I6 w⟩ <;> rfl) (by kernel_rfl)
theorem Co (w : Nat) : (decI w).a < 16 ∧ (decI w).b < 16 ∧ (decI w).c < 16 := by
 unfold decI fld noI
 cases decB w
 · exact ⟨(show (0 : Nat) < 16 by decide), (show (0 : Nat) < 16 by decide), (show (0 : Nat) < 16 by decide)⟩
 · cases frm (w / 67108864 % 64) == 1
   · exact ⟨Nat.mod_lt _ (by omega), Nat.mod_lt _ (by omega), by show 0 < 16; omega⟩
   · exact ⟨Nat.mod_lt _ (by omega), Nat.mod_lt _ (by omega), Nat.mod_lt _ (by omega)⟩
end Go.Proofs.Ytcknhfnbdgleiaa
