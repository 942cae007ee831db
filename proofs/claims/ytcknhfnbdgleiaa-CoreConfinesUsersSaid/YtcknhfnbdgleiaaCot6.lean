/- Entries of tables. -/
import Derived.Test.YtcknhfnbdgleiaaCot5
set_option linter.unusedVariables false
set_option linter.unusedSimpArgs false
namespace Go.Proofs.Ytcknhfnbdgleiaa
open Go.AE
def bE (m : av) (a : Nat) : Bool := a % 128 == 0 && decide (a < 128 * m.length)
def wo (m : av) (a : Nat) : Nat := cond (th m a 4) (ld m a 4) 0
def hb (e b : Nat) : Bool := e / b % 2 == 1
def pa (e : Nat) : Nat := e / 128 * 128
def right (m : av) (e : Nat) : Bool := cond (hb e 64) (pa e % 4096 == 0) (cond (e / 2 % 32 == 0) (bE m (pa e)) false)
theorem oD {m : av} (w : Wm m) (a : Nat) : wo m a < 4294967296 := by
 unfold wo
 cases th m a 4 with
 | false => exact Nat.zero_lt_succ _
 | true => exact N9 w a
theorem zG (k : Nat) {m : av} (w : Wm m) (a : Nat) (ha : a < 4294967296) : Rt Pg (D (k + 1)) 65 [mv m, .int .u32 (a : Int)] (.bool (bE m a)) := .of (by
 rw [Dk, Vf, Bl w, eH (by omega), kR, show (((a % 128 : Nat) : Int) == 0) = (a % 128 == 0) from bP _ 0]
 rw [decide_eq_decide.mpr (show ((a : Int) < ((128 * m.length : Nat) : Int)) ↔ a < 128 * m.length by omega)]
 unfold bE
 cases a % 128 == 0 <;> rfl) (by kernel_rfl)
theorem Jj (k : Nat) {m : av} (w : Wm m) (a : Nat) (ha : a < 4294967296) : Rt Pg (D (k + 2)) 66 [mv m, .int .u32 (a : Int)] (.int .u32 (wo m a : Nat)) := .of (by
 have r := CP k w a 4 ha (.inr rfl)
 rw [show ((4 : Nat) : Int) = 4 from rfl] at r
 rw [Dk, Te, eH (by omega)]
 simp only [r.ok, r.val, tO, g0, iO, cond_true]
 rfl) (by kernel_rfl)
theorem J8 (e c : Nat) (hc : c < 128) : e &&& c = e % 128 &&& c := by
 apply Nat.eq_of_testBit_eq
 intro i
 rw [Nat.testBit_and, Nat.testBit_and, show (128 : Nat) = 2 ^ 7 from rfl, Nat.testBit_mod_two_pow]
 by_cases hi : i < 7
 . simp [hi]
 . have : c.testBit i = false := Nat.testBit_lt_two_pow (Nat.lt_of_lt_of_le hc (by rw [show (128 : Nat) = 2 ^ 7 from rfl]; exact Nat.pow_le_pow_right (by decide) (by omega)))
   simp [this]
theorem TU : ∀ r : Nat, r < 128 -> ((r &&& 1 == 1) = (r / 1 % 2 == 1) /\ (r &&& 2 == 2) = (r / 2 % 2 == 1) /\ (r &&& 4 == 4) = (r / 4 % 2 == 1)) /\ ((r &&& 8 == 8) = (r / 8 % 2 == 1) /\ (r &&& 64 == 64) = (r / 64 % 2 == 1)) /\
    (r &&& 65 == 65) = ((r / 1 % 2 == 1) && (r / 64 % 2 == 1)) /\ (r &&& 62 == 0) = (r / 2 % 32 == 0) := by decide +kernel
theorem has_eq {e : Nat} (he : e < 4294967296) : ((aD .and .u32 (e : Int) 1 == 1) = hb e 1 /\ (aD .and .u32 (e : Int) 2 == 2) = hb e 2 /\ (aD .and .u32 (e : Int) 4 == 4) = hb e 4) /\ ((aD .and .u32 (e : Int) 8 == 8) = hb e 8 /\ (aD .and .u32 (e : Int) 64 == 64) = hb e 64) /\
    (aD .and .u32 (e : Int) 65 == 65) = (hb e 1 && hb e 64) /\ (aD .and .u32 (e : Int) 62 == 0) = (e / 2 % 32 == 0) := by
 have hr := TU (e % 128) (by omega)
 have key : ∀ c x : Nat, c < 128 -> (aD .and .u32 (e : Int) (c : Int) == (x : Int)) = (e % 128 &&& c == x) := fun c x hc => by
  rw [L8 (by omega) (by omega) (by omega) (by omega), Int.toNat_natCast, Int.toNat_natCast, bP, J8 _ _ hc]
 have e1 : e % 128 / 1 % 2 = e / 1 % 2 := by omega
 have e2 : e % 128 / 2 % 2 = e / 2 % 2 := by omega
 have e4 : e % 128 / 4 % 2 = e / 4 % 2 := by omega
 have e8 : e % 128 / 8 % 2 = e / 8 % 2 := by omega
 have e64 : e % 128 / 64 % 2 = e / 64 % 2 := by omega
 have e62 : e % 128 / 2 % 32 = e / 2 % 32 := by omega
 rw [e1, e2, e4, e8, e64, e62] at hr
 exact ⟨⟨(key 1 1 (by omega)).trans hr.1.1, (key 2 2 (by omega)).trans hr.1.2.1, (key 4 4 (by omega)).trans hr.1.2.2⟩, ⟨(key 8 8 (by omega)).trans hr.2.1.1, (key 64 64 (by omega)).trans hr.2.1.2⟩, (key 65 65 (by omega)).trans hr.2.2.1, (key 62 0 (by omega)).trans hr.2.2.2⟩
section
variable (k : Nat) (e : Nat) (he : e < 4294967296)
theorem N7 (k : Nat) {e : Nat} (he : e < 4294967296) : Rt Pg (D (k + 1)) 67 [.int .u32 (e : Int), .int .u32 1] (.bool (hb e 1)) := .of (by rw [Dk, vE, (has_eq he).1.1]) (by kernel_rfl)
theorem KW (k : Nat) {e : Nat} (he : e < 4294967296) : Rt Pg (D (k + 1)) 67 [.int .u32 (e : Int), .int .u32 2] (.bool (hb e 2)) := .of (by rw [Dk, vE, (has_eq he).1.2.1]) (by kernel_rfl)
theorem Mf (k : Nat) {e : Nat} (he : e < 4294967296) : Rt Pg (D (k + 1)) 67 [.int .u32 (e : Int), .int .u32 4] (.bool (hb e 4)) := .of (by rw [Dk, vE, (has_eq he).1.2.2]) (by kernel_rfl)
theorem MV (k : Nat) {e : Nat} (he : e < 4294967296) : Rt Pg (D (k + 1)) 67 [.int .u32 (e : Int), .int .u32 8] (.bool (hb e 8)) := .of (by rw [Dk, vE, (has_eq he).2.1.1]) (by kernel_rfl)
theorem Fa (k : Nat) {e : Nat} (he : e < 4294967296) : Rt Pg (D (k + 1)) 67 [.int .u32 (e : Int), .int .u32 64] (.bool (hb e 64)) := .of (by rw [Dk, vE, (has_eq he).2.1.2]) (by kernel_rfl)
end
theorem ZR {x y : Nat} (hx : x < 4294967296) (hy : y < 4294967296) : aD .andNot .u32 (x : Int) (y : Int) = ((x &&& (4294967295 - y) : Nat) : Int) := by
 have e1 : (BitVec.ofInt 32 (x : Int)).toNat = x := by rw [mP (by omega) (by omega), Int.toNat_natCast]
 have e2 : (BitVec.ofInt 32 (y : Int)).toNat = y := by rw [mP (by omega) (by omega), Int.toNat_natCast]
 show IntKind.u32.wrap (((BitVec.ofInt 32 (x : Int)) &&& ~~~(BitVec.ofInt 32 (y : Int))).toNat : Int) = _
 rw [BitVec.toNat_and, BitVec.toNat_not, e1, e2, show 2 ^ 32 - 1 - y = 4294967295 - y by omega]
 have : x &&& (4294967295 - y) <= x := Nat.and_le_left
 exact w32 (by omega)
theorem WL {e : Nat} (he : e < 4294967296) : aD .andNot .u32 (e : Int) 127 = ((pa e : Nat) : Int) := by
 rw [show (127 : Int) = ((127 : Nat) : Int) from rfl, ZR he (by omega)]
 congr 1
 unfold pa
 apply Nat.eq_of_testBit_eq
 intro i
 rw [Nat.testBit_and, show (128 : Nat) = 2 ^ 7 from rfl, Nat.testBit_mul_two_pow, Nat.testBit_div_two_pow]
 by_cases hi : i < 7
 . have : ∀ i, i < 7 -> (4294967295 - 127 : Nat).testBit i = false := by decide
   rw [this i hi]; simp; omega
 . by_cases h2 : i < 32
   . have : ∀ i, i < 32 -> ¬ i < 7 -> (4294967295 - 127 : Nat).testBit i = true := by decide
     rw [this i h2 hi, show i - 7 + 7 = i by omega]; simp; omega
   . have : e.testBit i = false := Nat.testBit_lt_two_pow (Nat.lt_of_lt_of_le he (by rw [show (4294967296 : Nat) = 2 ^ 32 from rfl]; exact Nat.pow_le_pow_right (by decide) (by omega)))
     rw [show i - 7 + 7 = i by omega, this]; simp
theorem lZ (e : Nat) : pa e <= e := by unfold pa; omega
theorem Fq (k : Nat) {e : Nat} (he : e < 4294967296) : Rt Pg (D (k + 1)) 69 [.int .u32 (e : Int)] (.int .u32 (pa e : Nat)) := .of (by rw [Dk, Rf, WL he]) (by kernel_rfl)
theorem aan (k : Nat) {m : av} (w : Wm m) {e : Nat} (he : e < 4294967296) : Rt Pg (D (k + 2)) 68 [.int .u32 (e : Int), mv m] (.bool (right m e)) := .of (by
 have h1 := Fa k he
 have h2 := Fq k he
 have h3 := zG k w (pa e) (by have := lZ e; omega)
 rw [Dk, ZQ]
 simp only [h1.ok, h1.val, h2.ok, h2.val, h3.ok, h3.val, bO, iO, cond_true, nE, Bool.or_true, (has_eq he).2.2.2]
 rw [show ((pa e : Nat) : Int).tmod 4096 = ((pa e % 4096 : Nat) : Int) from jo _ 4096, show (((pa e % 4096 : Nat) : Int) == 0) = (pa e % 4096 == 0) from bP _ 0]
 unfold right
 cases hb e 64 <;> rfl) (by kernel_rfl)
theorem zZ (k : Nat) {m : av} (w : Wm m) (a : Nat) (ha : a < 9223372036854775808) : Rt Pg (D (k + 2)) 72 [mv m, .int .i64 (a : Int)] (.bool (bE m a)) := .of (by
 have r := GU k w
 rw [Dk, QZ]
 simp only [r.ok, r.val, iO, kR, show decide ((0 : Int) <= (a : Int)) = true by simp, cond_true, nE, Bool.or_true]
 rw [show (((a % 128 : Nat) : Int) == 0) = (a % 128 == 0) from bP _ 0]
 rw [decide_eq_decide.mpr (show ((a : Int) < ((128 * m.length : Nat) : Int)) ↔ a < 128 * m.length by omega)]
 unfold bE
 cases a % 128 == 0 <;> rfl) (by kernel_rfl)
theorem JA (k : Nat) {m : av} (w : Wm m) (a : Nat) (ha : a < 4294967296) : Rt Pg (D (k + 4)) 88 [mv m, .int .i64 (a : Int)] (.int .i64 (wo m a : Nat)) := .of (by
 have r := Rs k w a 4 ha (.inr rfl)
 rw [show ((4 : Nat) : Int) = 4 from rfl] at r
 have hw := oD w a
 rw [Dk, Tw]
 simp only [r.ok, r.val, pO, g0, iO, cond_true]
 rw [show (bif th m a 4 then ld m a 4 else 0) = wo m a from rfl, eH (by omega)]) (by kernel_rfl)
theorem ze (k : Nat) {e : Nat} (he : e < 4294967296) : Rt Pg (D (k + 1)) 90 [.int .i64 (e : Int)] (.int .i64 (pa e : Nat)) := .of (by
 rw [Dk, Ud, qK, eH (by omega), show ((e / 128 : Nat) : Int) * 128 = ((pa e : Nat) : Int) by unfold pa; omega, eH (by have := lZ e; omega)]) (by kernel_rfl)
theorem Qm (e b : Nat) (he : e < 4294967296) (hb' : 0 < b) : ((IntKind.i64.wrap ((e : Int).tdiv (b : Int))).tmod 2 == 1) = hb e b := by
 have : e / b <= e := Nat.div_le_self _ _
 rw [zR, eH (by omega), show ((e / b : Nat) : Int).tmod 2 = ((e / b % 2 : Nat) : Int) from jo _ 2]
 exact bP _ 1
theorem Cg (k : Nat) {e : Nat} (he : e < 4294967296) (b : Nat) (h0 : 0 < b) : Rt Pg (D (k + 1)) 74 [.int .i64 (e : Int), .int .i64 (b : Int)] (.bool (hb e b)) := .of (by
 rw [Dk, YJ, Qm e b he h0, show ((b : Int) == 0) = (b == 0) from bP _ 0, beq_eq_false_iff_ne.mpr (by omega)]; rfl) (by kernel_rfl)
end Go.Proofs.Ytcknhfnbdgleiaa
