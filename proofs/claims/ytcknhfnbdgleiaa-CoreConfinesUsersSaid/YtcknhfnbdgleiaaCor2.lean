/- Instructions. -/
import Derived.Test.YtcknhfnbdgleiaaCor1
set_option linter.unusedVariables false
set_option linter.unusedSimpArgs false
namespace Go.Proofs.Ytcknhfnbdgleiaa
open Go.AE
structure In where
 op : Nat
 a : Nat
 b : Nat
 c : Nat
 aG : Int
abbrev inv (i : In) : AV := .agg 122 [.int .i64 (i.op : Int), .int .i64 (i.a : Int), .int .i64 (i.b : Int), .int .i64 (i.c : Int), .int .i64 i.aG]
def cu (n : Nat) : Nat := if n < 49 then (intOf ((partsOf ((partsOf xJ).getD n .dead)).getD 1 .dead)).toNat else 0
theorem SQ : ∀ n : Nat, n < 49 -> intOf ((partsOf ((partsOf xJ).getD n .dead)).getD 1 .dead) = (((intOf ((partsOf ((partsOf xJ).getD n .dead)).getD 1 .dead)).toNat : Nat) : Int) := by decide +kernel
theorem RD (k : Nat) : Rt Pg (D (k + 1)) 166 [] xJ := .of (by rw [Dk, RJ]) (by kernel_rfl)
theorem IW (k : Nat) (n : Nat) : Rt Pg (D (k + 2)) 151 [.int .i64 (n : Int)] (.int .i64 (cu n : Int)) := .of (by
 have r := RD k
 rw [Dk, TL]
 simp only [r.ok, r.val, cond_true]
 rw [show decide ((0 : Int) <= (n : Int)) = true from decide_eq_true (by omega), cond_true, decide_eq_decide.mpr (show ((n : Int) < 49) ↔ n < 49 by omega)]
 unfold cu
 by_cases h : n < 49
 . rw [decide_eq_true h, if_pos h, dh h, Int.toNat_natCast, <- SQ n h]; rfl
 . rw [decide_eq_false h, if_neg h]; rfl) (by kernel_rfl)
def rV (i : In) : Bool :=
 cond (cu i.op == 1) (i.aG == 0) (cond (cu i.op == 2) (cond (cond (decide (-131072 <= i.aG)) (decide (i.aG <= 131071)) false) (i.c == 0) false)
  (cond (cu i.op == 3) (cond (cond (decide (-131072 <= i.aG)) (decide (i.aG <= 131071)) false) (cond (i.b == 0) (i.c == 0) false) false)
   (cond (cu i.op == 4) (cond (i.a == 0) (cond (i.c == 0) (i.aG == 0) false) false)
    (cond (cu i.op == 5) (cond (i.a == 0) (cond (i.b == 0) (cond (i.c == 0) (i.aG == 0) false) false) false) false))))
theorem FM {n : Nat} (h : n < 16) : cond (decide ((0 : Int) <= (n : Int))) (decide ((n : Int) < 16)) false = true := by
 rw [decide_eq_true (show (0 : Int) <= (n : Int) by omega), decide_eq_true (show (n : Int) < 16 by omega)]; rfl
theorem NM (k : Nat) (i : In) (ha : i.a < 16) (hb' : i.b < 16) (hc : i.c < 16) : Rt Pg (D (k + 3)) 152 [inv i] (.bool (rV i)) := .of (by
 have r := IW k i.op
 have e : ∀ j : Nat, (((cu i.op : Nat) : Int) == (j : Int)) = (cu i.op == j) := fun j => bP _ j
 have z : ∀ x : Nat, ((x : Int) == 0) = (x == 0) := fun x => bP x 0
 rw [Dk, ZA]
 simp only [r.ok, r.val, iO, FM ha, FM hb', FM hc, z, beq_self_eq_true, Bool.true_and, Bool.and_true]
 rw [show (((cu i.op : Nat) : Int) == 1) = (cu i.op == 1) from e 1, show (((cu i.op : Nat) : Int) == 2) = (cu i.op == 2) from e 2, show (((cu i.op : Nat) : Int) == 3) = (cu i.op == 3) from e 3, show (((cu i.op : Nat) : Int) == 4) = (cu i.op == 4) from e 4, show (((cu i.op : Nat) : Int) == 5) = (cu i.op == 5) from e 5]
 unfold rV
 cases cu i.op == 1
 . cases cu i.op == 2
   . cases cu i.op == 3
     . cases cu i.op == 4
       . cases cu i.op == 5 <;> cases i.a == 0 <;> cases i.b == 0 <;> cases i.c == 0 <;> cases i.aG == 0 <;> rfl
       . cases i.a == 0 <;> cases i.c == 0 <;> cases i.aG == 0 <;> rfl
     . cases cond (decide (-131072 <= i.aG)) (decide (i.aG <= 131071)) false <;> cases i.b == 0 <;> rfl
   . cases cond (decide (-131072 <= i.aG)) (decide (i.aG <= 131071)) false <;> rfl
 . rfl) (by kernel_rfl)
def yw (w : Nat) : Int := if w % 262144 < 131072 then (w % 262144 : Nat) else ((w % 262144 : Nat) : Int) - 262144
def vM (w : Nat) : In := cond (cu (w / 67108864 % 64) == 1) ⟨w / 67108864 % 64, w / 4194304 % 16, w / 262144 % 16, w / 16384 % 16, 0⟩ ⟨w / 67108864 % 64, w / 4194304 % 16, w / 262144 % 16, 0, yw w⟩
def sO (w : Nat) : Bool := cond (cu (w / 67108864 % 64) == 1) (cond (w % 16384 == 0) (rV (vM w)) false) (rV (vM w))
def FV : In := ⟨0, 0, 0, 0, 0⟩
def bN (w : Nat) : In := cond (sO w) (vM w) FV
theorem rC (w q m : Nat) (hq : 0 < q) (hm : m < 30) (hw : w < 4294967296) : IntKind.i64.wrap (aD .and .u32 ((w : Int).fdiv (q : Int)) (2 ^ m - 1)) = ((w / q % 2 ^ m : Nat) : Int) := by
 rw [kM (by omega), oJ m _ (by omega), <- Int.natCast_ediv]
 have e : (((w / q : Nat) : Int)) % 2 ^ m = ((w / q % 2 ^ m : Nat) : Int) := by
  rw [Int.natCast_emod]; simp
 rw [e]
 have : w / q % 2 ^ m <= w / q := Nat.mod_le _ _
 have : w / q <= w := Nat.div_le_self _ _
 exact eH (by omega)
theorem Qe (w : Nat) (hw : w < 4294967296) : (IntKind.i64.wrap ((IntKind.i64.wrap (aD .and .u32 ((w : Int).fdiv 1) 262143)) * 70368744177664)).fdiv 70368744177664 = yw w := by
 have := rC w 1 18 (by omega) (by omega) hw
 rw [show ((1 : Nat) : Int) = 1 from rfl, show ((2 : Int) ^ 18 - 1) = 262143 from rfl, show (2 : Nat) ^ 18 = 262144 from rfl, Nat.div_one] at this
 rw [this, kM (by decide), wrap_i64]
 unfold yw
 split <;> omega
theorem J7 (k : Nat) (w : Nat) (hw : w < 4294967296) : Rt Pg (D (k + 4)) 118 [uv w] (.tuple [inv (bN w), .bool (sO w)]) := .of (by
 have e1 := rC w 67108864 6 (by omega) (by omega) hw
 have e2 := rC w 4194304 4 (by omega) (by omega) hw
 have e3 := rC w 262144 4 (by omega) (by omega) hw
 have e4 := rC w 16384 4 (by omega) (by omega) hw
 have e5 := rC w 1 14 (by omega) (by omega) hw
 rw [show ((67108864 : Nat) : Int) = 67108864 from rfl, show ((2 : Int) ^ 6 - 1) = 63 from rfl, show (2 : Nat) ^ 6 = 64 from rfl] at e1
 rw [show ((4194304 : Nat) : Int) = 4194304 from rfl, show ((2 : Int) ^ 4 - 1) = 15 from rfl, show (2 : Nat) ^ 4 = 16 from rfl] at e2
 rw [show ((262144 : Nat) : Int) = 262144 from rfl, show ((2 : Int) ^ 4 - 1) = 15 from rfl, show (2 : Nat) ^ 4 = 16 from rfl] at e3
 rw [show ((16384 : Nat) : Int) = 16384 from rfl, show ((2 : Int) ^ 4 - 1) = 15 from rfl, show (2 : Nat) ^ 4 = 16 from rfl] at e4
 rw [show ((1 : Nat) : Int) = 1 from rfl, show ((2 : Int) ^ 14 - 1) = 16383 from rfl, show (2 : Nat) ^ 14 = 16384 from rfl, Nat.div_one] at e5
 have rf := IW (k + 1) (w / 67108864 % 64)
 rw [Dk, Qv]
 simp only [e1, e2, e3, e4, e5, Qe w hw, rf.ok, rf.val, iO, cond_true]
 rw [show (((cu (w / 67108864 % 64) : Nat) : Int) == 1) = (cu (w / 67108864 % 64) == 1) from bP _ 1, show (((w % 16384 : Nat) : Int) != 0) = !(w % 16384 == 0) from dX _ 0]
 unfold bN sO vM
 cases h1 : cu (w / 67108864 % 64) == 1 with
 | true =>
  have r := NM k ⟨w / 67108864 % 64, w / 4194304 % 16, w / 262144 % 16, w / 16384 % 16, 0⟩ (Nat.mod_lt _ (by omega)) (Nat.mod_lt _ (by omega)) (Nat.mod_lt _ (by omega))
  unfold inv at r
  dsimp only at r
  simp only [cond_true, r.ok, r.val, bO]
  cases w % 16384 == 0 with
  | false => rfl
  | true => cases rV ⟨w / 67108864 % 64, w / 4194304 % 16, w / 262144 % 16, w / 16384 % 16, 0⟩ <;> rfl
 | false =>
  have r := NM k ⟨w / 67108864 % 64, w / 4194304 % 16, w / 262144 % 16, 0, yw w⟩ (Nat.mod_lt _ (by omega)) (Nat.mod_lt _ (by omega)) (by show 0 < 16; omega)
  unfold inv at r
  dsimp only at r
  simp only [show ((0 : Nat) : Int) = 0 from rfl] at r
  simp only [cond_false, r.ok, r.val, bO, cond_true]
  cases rV ⟨w / 67108864 % 64, w / 4194304 % 16, w / 262144 % 16, 0, yw w⟩ <;> rfl) (by kernel_rfl)
theorem EO (w : Nat) : (bN w).a < 16 /\ (bN w).b < 16 /\ (bN w).c < 16 := by
 unfold bN vM FV
 cases sO w
 . exact ⟨(show (0 : Nat) < 16 by decide), (show (0 : Nat) < 16 by decide), (show (0 : Nat) < 16 by decide)⟩
 . cases cu (w / 67108864 % 64) == 1
   . exact ⟨Nat.mod_lt _ (by omega), Nat.mod_lt _ (by omega), by show 0 < 16; omega⟩
   . exact ⟨Nat.mod_lt _ (by omega), Nat.mod_lt _ (by omega), Nat.mod_lt _ (by omega)⟩
end Go.Proofs.Ytcknhfnbdgleiaa
