/- The laws of the arithmetic, in plain terms: bytes, and the sign. -/
import Derived.Test.YtdeiiaemficjeaaAlu5
namespace Go.Proofs.Ytdeiiaemficjeaa
open Go.AE

theorem fdiv_nat (a b : Nat) : ((a : Int)).fdiv (b : Int) = ((a / b : Nat) : Int) := by
  rw [Int.fdiv_eq_ediv_of_nonneg _ (Int.natCast_nonneg _)]; exact ediv_nat _ _
/-- The place of a byte. -/
def jF (k : Int) : Nat := (k % 4).toNat
theorem jF_lt (k : Int) : jF k < 4 := by unfold jF; omega
theorem at_nat (k : Int) : min (atF k).toNat 32 = 8 * jF k := by rw [at_eq]; unfold jF; omega
theorem place_nat (k : Int) : wi (8 * placeF k) = ((8 * jF k : Nat) : Int) := by
  unfold wi jF
  rw [place_eq, wrap_i64_id] <;> omega
theorem lt_pow {k : Int} {b : Nat} (h : b < 256) : b * 2 ^ (8 * jF k) < 4294967296 := by
  have := jF_lt k
  have h3 : (2 : Nat) ^ (8 * jF k) ≤ 2 ^ 24 := Nat.pow_le_pow_right (by omega) (by omega)
  calc b * 2 ^ (8 * jF k) ≤ 255 * 2 ^ 24 := Nat.mul_le_mul (by omega) h3
    _ < 4294967296 := by decide
theorem byte_nat (A : W) (k : Int) : byteF (u A) k = ((A.toNat / 2 ^ (8 * jF k) % 256 : Nat) : Int) := by
  unfold byteF
  rw [at_nat, pow_int, show (u A).fdiv ((2 ^ (8 * jF k) : Nat) : Int) = ((A.toNat / 2 ^ (8 * jF k) : Nat) : Int) from fdiv_nat _ _, wrap_u8]
  rfl
theorem rbyte_nat (A : W) (k : Int) : rbyteF (u A) k = ((A.toNat / 2 ^ (8 * jF k) % 256 : Nat) : Int) := by
  unfold rbyteF
  rw [place_nat, pw_nat, show (u A).tdiv ((2 ^ (8 * jF k) : Nat) : Int) = ((A.toNat / 2 ^ (8 * jF k) : Nat) : Int) from tdiv_nat _ _, wrap_nat,
    Nat.mod_eq_of_lt (Nat.lt_of_le_of_lt (Nat.div_le_self _ _) A.isLt), show ((A.toNat / 2 ^ (8 * jF k) : Nat) : Int).tmod 256 = ((A.toNat / 2 ^ (8 * jF k) % 256 : Nat) : Int) from tmod_nat _ 256, wrap_u8]
  omega
/-- A word with another byte. -/
def setN (x a b : Nat) : Nat := 2 ^ a * (2 ^ 8 * (x / 2 ^ a / 2 ^ 8) + b) + x % 2 ^ a
theorem set_split (x a : Nat) : x = 2 ^ a * (2 ^ 8 * (x / 2 ^ a / 2 ^ 8) + x / 2 ^ a % 2 ^ 8) + x % 2 ^ a := by
  have h1 := Nat.div_add_mod x (2 ^ a)
  have h2 := Nat.div_add_mod (x / 2 ^ a) (2 ^ 8)
  rw [h2, h1]
theorem setN_bit {x a b : Nat} (hb : b < 2 ^ 8) (i : Nat) : (setN x a b).testBit i = if i < a then x.testBit i else if i < a + 8 then b.testBit (i - a) else x.testBit i := by
  unfold setN
  rw [Nat.testBit_two_pow_mul_add _ (Nat.mod_lt _ (Nat.two_pow_pos a)), Nat.testBit_mod_two_pow]
  by_cases h : i < a
  · simp [h]
  · rw [if_neg h, if_neg h, Nat.testBit_two_pow_mul_add _ hb]
    by_cases h2 : i < a + 8
    · rw [if_pos (by omega), if_pos h2]
    · rw [if_neg (by omega), if_neg h2, Nat.testBit_div_two_pow, Nat.testBit_div_two_pow]
      congr 1; omega
theorem setN_lt {x a b : Nat} (hx : x < 2 ^ 32) (ha : a + 8 ≤ 32) (hb : b < 2 ^ 8) : setN x a b < 2 ^ 32 := by
  apply Nat.lt_pow_two_of_testBit
  intro i hi
  rw [setN_bit hb, if_neg (by omega), if_neg (by omega)]
  exact Nat.testBit_lt_two_pow (Nat.lt_of_lt_of_le hx (Nat.pow_le_pow_right (by omega) hi))
theorem mul_bit (c a i : Nat) : (c * 2 ^ a).testBit i = (decide (a ≤ i) && c.testBit (i - a)) := by
  rw [Nat.mul_comm, Nat.testBit_two_pow_mul]
theorem setb_nat (A : W) (k : Int) (b : Nat) (hb : b < 256) : setbF (u A) k b = ((setN A.toNat (8 * jF k) b : Nat) : Int) := by
  have hj := jF_lt k
  have h255 : 255 * 2 ^ (8 * jF k) < 4294967296 := lt_pow (by omega)
  have hbl : b * 2 ^ (8 * jF k) < 4294967296 := lt_pow hb
  unfold setbF
  rw [at_nat, pow_int]
  have e1 : IntKind.u32.wrap (255 * ((2 ^ (8 * jF k) : Nat) : Int)) = ((255 * 2 ^ (8 * jF k) : Nat) : Int) := by
    rw [show (255 * ((2 ^ (8 * jF k) : Nat) : Int)) = ((255 * 2 ^ (8 * jF k) : Nat) : Int) from (Int.natCast_mul _ _).symm, wrap_nat, Nat.mod_eq_of_lt h255]
  have e2 : IntKind.u32.wrap (IntKind.u32.wrap (b : Int) * ((2 ^ (8 * jF k) : Nat) : Int)) = ((b * 2 ^ (8 * jF k) : Nat) : Int) := by
    rw [wrap_nat, Nat.mod_eq_of_lt (by omega), show ((b : Int) * ((2 ^ (8 * jF k) : Nat) : Int)) = ((b * 2 ^ (8 * jF k) : Nat) : Int) from (Int.natCast_mul _ _).symm, wrap_nat, Nat.mod_eq_of_lt hbl]
  rw [e1, e2]
  obtain ⟨M, hM⟩ : ∃ M : W, M.toNat = 255 * 2 ^ (8 * jF k) := ⟨BitVec.ofNat 32 (255 * 2 ^ (8 * jF k)), by rw [BitVec.toNat_ofNat]; exact Nat.mod_eq_of_lt h255⟩
  obtain ⟨B, hB⟩ : ∃ B : W, B.toNat = b * 2 ^ (8 * jF k) := ⟨BitVec.ofNat 32 (b * 2 ^ (8 * jF k)), by rw [BitVec.toNat_ofNat]; exact Nat.mod_eq_of_lt hbl⟩
  rw [← hM, ← hB]
  have e3 : ibits .andNot .u32 (u A) (u M) = u (A &&& ~~~M) := by
    simp only [ibits, IntKind.bits, ofInt_u]
    exact wrap_u _
  show ibits .or .u32 (ibits .andNot .u32 (u A) (u M)) (u B) = _
  rw [e3, show ibits .or .u32 (u (A &&& ~~~M)) (u B) = u ((A &&& ~~~M) ||| B) from d4 _ _]
  show ((((A &&& ~~~M) ||| B).toNat : Nat) : Int) = _
  congr 1
  apply Nat.eq_of_testBit_eq
  intro i
  rw [setN_bit (by omega)]
  have hbB : B.getLsbD i = (b * 2 ^ (8 * jF k)).testBit i := by rw [← hB, BitVec.testBit_toNat]
  have hbM : M.getLsbD i = (255 * 2 ^ (8 * jF k)).testBit i := by rw [← hM, BitVec.testBit_toNat]
  rw [BitVec.testBit_toNat, BitVec.getLsbD_or, BitVec.getLsbD_and, BitVec.getLsbD_not, hbB, hbM, mul_bit, mul_bit, BitVec.testBit_toNat]
  have h255b : ∀ j, (255 : Nat).testBit j = decide (j < 8) := fun j => Nat.testBit_two_pow_sub_one 8 j
  rw [h255b]
  by_cases h1 : i < 8 * jF k
  · rw [if_pos h1]
    simp only [show ¬ 8 * jF k ≤ i from by omega, show i < 32 from by omega, decide_true, decide_false, Bool.false_and, Bool.not_false, Bool.and_true, Bool.or_false]
  · rw [if_neg h1]
    by_cases h2 : i < 8 * jF k + 8
    · rw [if_pos h2]
      simp only [show 8 * jF k ≤ i from by omega, show i - 8 * jF k < 8 from by omega, decide_true, Bool.true_and, Bool.not_true, Bool.and_false, Bool.false_or]
    · rw [if_neg h2]
      have hb0 : b.testBit (i - 8 * jF k) = false := Nat.testBit_lt_two_pow (Nat.lt_of_lt_of_le hb (by
        have : (2 : Nat) ^ 8 ≤ 2 ^ (i - 8 * jF k) := Nat.pow_le_pow_right (by omega) (by omega)
        omega))
      rw [hb0]
      simp only [show ¬ i - 8 * jF k < 8 from by omega, decide_false, Bool.and_false, Bool.not_false, Bool.or_false, Bool.and_true]
      by_cases h3 : i < 32
      · simp [h3]
      · have : A.getLsbD i = false := BitVec.getLsbD_of_ge _ _ (by omega)
        simp [this]
theorem rsetb_nat (A : W) (k : Int) (b : Nat) (hb : b < 256) : rsetbF (u A) k b = ((setN A.toNat (8 * jF k) b : Nat) : Int) := by
  have hj := jF_lt k
  have hlt := setN_lt (x := A.toNat) (a := 8 * jF k) (b := b) A.isLt (by omega) (by omega)
  have hbl : b * 2 ^ (8 * jF k) < 4294967296 := lt_pow hb
  have hml : A.toNat / 2 ^ (8 * jF k) % 256 * 2 ^ (8 * jF k) < 4294967296 := lt_pow (Nat.mod_lt _ (by omega))
  unfold rsetbF wu
  rw [rbyte_nat, place_nat, pw_nat, wrap_nat, Nat.mod_eq_of_lt (by omega), wrap_nat, Nat.mod_eq_of_lt (a := b) (by omega)]
  rw [show (((A.toNat / 2 ^ (8 * jF k) % 256 : Nat) : Int) * ((2 ^ (8 * jF k) : Nat) : Int)) = ((A.toNat / 2 ^ (8 * jF k) % 256 * 2 ^ (8 * jF k) : Nat) : Int) from (Int.natCast_mul _ _).symm, wrap_nat, Nat.mod_eq_of_lt hml]
  rw [show ((b : Int) * ((2 ^ (8 * jF k) : Nat) : Int)) = ((b * 2 ^ (8 * jF k) : Nat) : Int) from (Int.natCast_mul _ _).symm, wrap_nat, Nat.mod_eq_of_lt hbl]
  have hs := set_split A.toNat (8 * jF k)
  have hd : setN A.toNat (8 * jF k) b + A.toNat / 2 ^ (8 * jF k) % 256 * 2 ^ (8 * jF k) = A.toNat + b * 2 ^ (8 * jF k) := by
    unfold setN
    conv => rhs; rw [hs]
    rw [show (256 : Nat) = 2 ^ 8 from rfl]
    generalize A.toNat / 2 ^ (8 * jF k) / 2 ^ 8 = h
    generalize A.toNat / 2 ^ (8 * jF k) % 2 ^ 8 = m
    generalize (2 : Nat) ^ (8 * jF k) = p
    rw [Nat.mul_add p, Nat.mul_add p, Nat.mul_comm m p, Nat.mul_comm b p]
    omega
  unfold u
  generalize setN A.toNat (8 * jF k) b = S at *
  generalize A.toNat / 2 ^ (8 * jF k) % 256 * 2 ^ (8 * jF k) = m at *
  generalize b * 2 ^ (8 * jF k) = bb at *
  rw [wrap_u32, wrap_u32]
  have := A.isLt
  omega
end Go.Proofs.Ytdeiiaemficjeaa
