/- The laws of the arithmetic, in plain terms: the sign extended; what is read. -/
import Derived.Test.YtdeiiaemficjeaaAlu6
namespace Go.Proofs.Ytdeiiaemficjeaa
open Go.AE

/-- A word of n bits with its sign. -/
def xtN (x n : Nat) : Nat := 2 ^ n * (if x.testBit (n - 1) then 2 ^ (32 - n) - 1 else 0) + x % 2 ^ n
theorem xtN_bit {x n : Nat} (hn : 1 ≤ n) (hn2 : n ≤ 32) {i : Nat} (hi : i < 32) : (xtN x n).testBit i = x.testBit (min i (n - 1)) := by
  unfold xtN
  rw [Nat.testBit_two_pow_mul_add _ (Nat.mod_lt _ (Nat.two_pow_pos n)), Nat.testBit_mod_two_pow]
  by_cases h : i < n
  · rw [if_pos h, Nat.min_eq_left (by omega)]; simp [h]
  · rw [if_neg h, Nat.min_eq_right (by omega)]
    by_cases hs : x.testBit (n - 1) = true
    · rw [if_pos hs, Nat.testBit_two_pow_sub_one, hs]; simp; omega
    · rw [if_neg hs, Nat.zero_testBit]; simpa using hs
theorem xtN_lt {x n : Nat} (hn2 : n ≤ 32) : xtN x n < 2 ^ 32 := by
  have hp : 2 ^ n * 2 ^ (32 - n) = 2 ^ 32 := by rw [← Nat.pow_add]; congr 1; omega
  have hm := Nat.mod_lt x (Nat.two_pow_pos n)
  unfold xtN
  split
  · rw [Nat.mul_sub, hp, Nat.mul_one]
    have : 2 ^ n ≤ 2 ^ 32 := Nat.pow_le_pow_right (by omega) hn2
    omega
  · have : 2 ^ n ≤ 2 ^ 32 := Nat.pow_le_pow_right (by omega) hn2
    omega
theorem fromK_eq {n k : Nat} (hn : 1 ≤ n) (hn2 : n ≤ 32) : fromK (n : Int) (k : Int) = ((min k (n - 1) : Nat) : Int) := by
  unfold fromK
  rw [wrap_i64_id (by omega) (by omega)]
  by_cases h : (n : Int) - 1 < (k : Int)
  · simp only [h, decide_true, cond_true]; omega
  · simp only [h, decide_false, cond_false]; omega
theorem exN_eq (A : W) {n : Nat} (hn : 1 ≤ n) (hn2 : n ≤ 32) : ∀ k : Nat, k ≤ 32 → exN F1 (u A) n k = ((xtN A.toNat n % 2 ^ k : Nat) : Int)
  | 0, _ => by simp [exN, Nat.mod_one]
  | k + 1, hk => by
    have hb : (F1.bit (u A) (fromK n k) == 1) = (xtN A.toNat n).testBit k := by
      rw [fromK_eq hn hn2, bit1, xtN_bit hn hn2 (by omega)]
      cases A.toNat.testBit (min k (n - 1)) <;> rfl
    rw [exN, exN_eq A hn hn2 k (by omega), hb]
    exact step_pow (xtN_lt hn2) rfl rfl
theorem rext_nat (A : W) {n : Nat} (hn : 1 ≤ n) (hn2 : n ≤ 32) : rextF (u A) n = ((xtN A.toNat n : Nat) : Int) := by
  unfold rextF
  rw [exN_eq A hn hn2 32 (by omega), Nat.mod_eq_of_lt (xtN_lt hn2)]
theorem sign_bit {x h : Nat} : x.testBit h = decide (2 ^ h ≤ x % 2 ^ (h + 1)) := by
  rw [Nat.testBit_eq_decide_div_mod_eq]
  have h1 : x % 2 ^ (h + 1) / 2 ^ h = x / 2 ^ h % 2 := by rw [Nat.pow_succ, Nat.mod_mul_right_div_self]
  rw [← h1]
  have h2 : x % 2 ^ (h + 1) < 2 ^ h * 2 := by rw [← Nat.pow_succ]; exact Nat.mod_lt _ (Nat.two_pow_pos _)
  have hp := Nat.two_pow_pos h
  congr 1
  apply propext
  constructor
  · intro e
    rcases Nat.lt_or_ge (x % 2 ^ (h + 1)) (2 ^ h) with h3 | h3
    · rw [Nat.div_eq_of_lt h3] at e; omega
    · exact h3
  · intro e
    have h4 : x % 2 ^ (h + 1) / 2 ^ h < 2 := Nat.div_lt_of_lt_mul (by omega)
    have h5 : 1 ≤ x % 2 ^ (h + 1) / 2 ^ h := (Nat.one_le_div_iff hp).2 e
    omega
theorem ext_nat (A : W) {n : Nat} (hn : 1 ≤ n) (hn2 : n ≤ 32) : extF (u A) n = ((xtN A.toNat n : Nat) : Int) := by
  have ha : min (IntKind.i64.wrap (32 - (n : Int))).toNat 32 = 32 - n := by rw [wrap_i64_id (by omega) (by omega)]; omega
  unfold extF
  rw [ha, pow_int]
  obtain ⟨h, rfl⟩ : ∃ h, n = h + 1 := ⟨n - 1, by omega⟩
  have hp : 2 ^ (h + 1) * 2 ^ (32 - (h + 1)) = 4294967296 := by rw [← Nat.pow_add, show h + 1 + (32 - (h + 1)) = 32 from by omega]
  have hh : 2 ^ h * 2 ^ (32 - (h + 1)) = 2147483648 := by rw [← Nat.pow_add, show h + (32 - (h + 1)) = 31 from by omega]
  have hm := Nat.mod_lt A.toNat (Nat.two_pow_pos (h + 1))
  have hq := Nat.two_pow_pos (32 - (h + 1))
  have hple : 2 ^ (h + 1) ≤ 4294967296 := by rw [← hp]; exact Nat.le_mul_of_pos_right _ hq
  have e1 : IntKind.u32.wrap (u A * ((2 ^ (32 - (h + 1)) : Nat) : Int)) = ((A.toNat % 2 ^ (h + 1) * 2 ^ (32 - (h + 1)) : Nat) : Int) := by
    rw [show u A * ((2 ^ (32 - (h + 1)) : Nat) : Int) = ((A.toNat * 2 ^ (32 - (h + 1)) : Nat) : Int) from (Int.natCast_mul _ _).symm, wrap_nat, ← hp, Nat.mul_mod_mul_right]
  rw [e1]
  have hs := sign_bit (x := A.toNat) (h := h)
  unfold xtN
  simp only [Nat.add_sub_cancel]
  rw [hs]
  generalize A.toNat % 2 ^ (h + 1) = m at *
  by_cases hc : 2 ^ h ≤ m
  · simp only [hc, decide_true, if_true]
    have hge : 2147483648 ≤ m * 2 ^ (32 - (h + 1)) := by rw [← hh]; exact Nat.mul_le_mul_right _ hc
    have hlt : m * 2 ^ (32 - (h + 1)) < 4294967296 := by rw [← hp]; exact (Nat.mul_lt_mul_right hq).2 hm
    have e2 : IntKind.i32.wrap ((m * 2 ^ (32 - (h + 1)) : Nat) : Int) = ((m : Int) - ((2 ^ (h + 1) : Nat) : Int)) * ((2 ^ (32 - (h + 1)) : Nat) : Int) := by
      rw [wrap_i32, Int.sub_mul, ← Int.natCast_mul, ← Int.natCast_mul, hp]; omega
    rw [e2, Int.fdiv_eq_ediv_of_nonneg _ (Int.natCast_nonneg _), Int.mul_ediv_cancel _ (by omega), wrap_u32, Nat.mul_sub, hp, Nat.mul_one]
    omega
  · simp only [hc, decide_false, if_false, Bool.false_eq_true]
    have hlt : m * 2 ^ (32 - (h + 1)) < 2147483648 := by rw [← hh]; exact (Nat.mul_lt_mul_right hq).2 (by omega)
    have e2 : IntKind.i32.wrap ((m * 2 ^ (32 - (h + 1)) : Nat) : Int) = (m : Int) * ((2 ^ (32 - (h + 1)) : Nat) : Int) := by
      rw [wrap_i32, ← Int.natCast_mul]; omega
    have hm2 : m < 4294967296 := Nat.lt_of_lt_of_le hm hple
    rw [e2, Int.fdiv_eq_ediv_of_nonneg _ (Int.natCast_nonneg _), Int.mul_ediv_cancel _ (by omega), wrap_nat, Nat.mod_eq_of_lt hm2, Nat.mul_zero, Nat.zero_add]
theorem F0sg : F0.sg = sgF := rfl
theorem F0rsg : F0.rsg = rsgF := rfl
theorem F0byte : F0.byte = byteF := rfl
theorem F0rbyte : F0.rbyte = rbyteF := rfl
theorem F0setb : F0.setb = setbF := rfl
theorem F0rsetb : F0.rsetb = rsetbF := rfl
theorem F0ext : F0.ext = extF := rfl
theorem F0rext : F0.rext = rextF := rfl
theorem F0taken : F0.taken = takenF := rfl
theorem F0ok {n : Int} (h : 1 ≤ n) (h2 : n ≤ 32) : F0.extok n = true := by show (decide (1 ≤ n) && decide (n ≤ 32)) = true; simp [h, h2]
theorem law4_true (A : W) (n k : Int) (b : Nat) (hb : b < 256) : fnV (cxF F0 4) 6 4 [.int .u32 (u A), .int .i64 n, .int .i64 k, .int .u8 (b : Int)] = some (.bool true) := by
  rw [law4]
  simp only [F0sg, F0rsg, F0byte, F0rbyte, F0setb, F0rsetb, F0ext, F0rext]
  have h1 : (sgF (u A) == rsgF (u A) && (byteF (u A) k == rbyteF (u A) k && setbF (u A) k b == rsetbF (u A) k b)) = true := by
    rw [sg_eq, byte_nat, rbyte_nat, setb_nat A k b hb, rsetb_nat A k b hb]
    simp
  rw [h1]
  by_cases hn : 1 ≤ n
  · by_cases hn2 : n ≤ 32
    · have h2 : F0.extok n = true := F0ok hn hn2
      have h3 : (extF (u A) n != rextF (u A) n) = false := by
        obtain ⟨m, rfl⟩ : ∃ m : Nat, n = m := ⟨n.toNat, by omega⟩
        rw [ext_nat A (by omega) (by omega), rext_nat A (by omega) (by omega)]; simp
      rw [h2, h3]
      simp only [hn, hn2, decide_true]; rfl
    · simp only [hn, hn2, decide_true, decide_false, condB_eq, cond_true, cond_false]
  · simp only [hn, decide_false, condB_eq, cond_true, cond_false]
end Go.Proofs.Ytdeiiaemficjeaa
