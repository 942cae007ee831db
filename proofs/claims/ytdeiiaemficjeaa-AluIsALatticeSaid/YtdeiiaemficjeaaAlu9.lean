/- The laws of the arithmetic, in plain terms: bytes make words. -/
import Derived.Test.YtdeiiaemficjeaaAlu8
namespace Go.Proofs.Ytdeiiaemficjeaa
open Go.AE

theorem byte_bit (x a t : Nat) : (x / 2 ^ a % 256).testBit t = (decide (t < 8) && x.testBit (a + t)) := by
  rw [show (256 : Nat) = 2 ^ 8 from rfl, Nat.testBit_mod_two_pow, Nat.testBit_div_two_pow, Nat.add_comm]
theorem byte_set {x b : Nat} (hb : b < 256) (j i : Nat) : setN x (8 * j) b / 2 ^ (8 * i) % 256 = if i = j then b else x / 2 ^ (8 * i) % 256 := by
  apply Nat.eq_of_testBit_eq
  intro t
  rw [byte_bit, setN_bit (by omega)]
  by_cases h : i = j
  · subst h
    rw [if_pos rfl]
    by_cases ht : t < 8
    · rw [if_neg (by omega), if_pos (by omega)]; simp [ht]
    · simp only [ht, decide_false, Bool.false_and]
      exact (Nat.testBit_lt_two_pow (Nat.lt_of_lt_of_le hb (by
        have : (2 : Nat) ^ 8 ≤ 2 ^ t := Nat.pow_le_pow_right (by omega) (by omega)
        omega))).symm
  · rw [if_neg h, byte_bit]
    by_cases ht : t < 8
    · simp only [ht, decide_true, Bool.true_and]
      rcases Nat.lt_or_gt_of_ne h with h1 | h1
      · rw [if_pos (by omega)]
      · rw [if_neg (by omega), if_neg (by omega)]
    · simp only [ht, decide_false, Bool.false_and]
theorem made_eq {x : Nat} (hx : x < 2 ^ 32) : setN (setN (setN (setN 0 0 (x / 2 ^ 0 % 256)) 8 (x / 2 ^ 8 % 256)) 16 (x / 2 ^ 16 % 256)) 24 (x / 2 ^ 24 % 256) = x := by
  have hb : ∀ a, x / 2 ^ a % 256 < 2 ^ 8 := fun a => Nat.mod_lt _ (by decide)
  apply Nat.eq_of_testBit_eq
  intro i
  rw [setN_bit (hb 24), setN_bit (hb 16), setN_bit (hb 8), setN_bit (hb 0), byte_bit, byte_bit, byte_bit, byte_bit, Nat.zero_testBit]
  by_cases h4 : i < 32
  · by_cases h3 : i < 24
    · rw [if_pos h3]
      by_cases h2 : i < 16
      · rw [if_pos h2]
        by_cases h1 : i < 8
        · rw [if_pos h1, if_neg (by omega), if_pos (by omega)]; simp [h1]
        · rw [if_neg h1, if_pos (by omega), show 8 + (i - 8) = i from by omega]; simp; omega
      · rw [if_neg h2, if_pos (by omega), show 16 + (i - 16) = i from by omega]; simp; omega
    · rw [if_neg h3, if_pos (by omega), show 24 + (i - 24) = i from by omega]; simp; omega
  · rw [if_neg (by omega), if_neg (by omega), if_neg (by omega), if_neg (by omega), if_neg (by omega), if_neg (by omega), if_neg (by omega), if_neg (by omega)]
    exact (Nat.testBit_lt_two_pow (Nat.lt_of_lt_of_le hx (Nat.pow_le_pow_right (by omega) (by omega)))).symm
theorem xt_xt {x n : Nat} (hn : 1 ≤ n) (hn2 : n ≤ 32) : xtN (xtN x n) n = xtN x n := by
  apply Nat.eq_of_testBit_eq
  intro i
  by_cases hi : i < 32
  · rw [xtN_bit hn hn2 hi, xtN_bit hn hn2 (by omega), xtN_bit hn hn2 hi]
    congr 1; omega
  · rw [Nat.testBit_lt_two_pow (Nat.lt_of_lt_of_le (xtN_lt hn2) (Nat.pow_le_pow_right (by omega) (by omega))), Nat.testBit_lt_two_pow (Nat.lt_of_lt_of_le (xtN_lt hn2) (Nat.pow_le_pow_right (by omega) (by omega)))]
theorem xt_mod (x n : Nat) : xtN x n % 2 ^ n = x % 2 ^ n := by
  unfold xtN
  rw [Nat.mul_add_mod, Nat.mod_mod]
theorem xt_sg {x n : Nat} (hn : 1 ≤ n) (hn2 : n ≤ 32) {Z : W} (hZ : Z.toNat = xtN x n) : -((2 ^ (n - 1) : Nat) : Int) ≤ rsgF (u Z) ∧ rsgF (u Z) < ((2 ^ (n - 1) : Nat) : Int) := by
  obtain ⟨h, rfl⟩ : ∃ h, n = h + 1 := ⟨n - 1, by omega⟩
  have hs := sign_bit (x := x) (h := h)
  have hp : 2 ^ (h + 1) * 2 ^ (32 - (h + 1)) = 4294967296 := by rw [← Nat.pow_add, show h + 1 + (32 - (h + 1)) = 32 from by omega]
  have hm := Nat.mod_lt x (Nat.two_pow_pos (h + 1))
  have hh : 2 ^ h ≤ 2147483648 := Nat.le_trans (Nat.pow_le_pow_right (by omega) (show h ≤ 31 by omega)) (by decide)
  have hd : 2 ^ (h + 1) = 2 ^ h * 2 := Nat.pow_succ 2 h
  rw [rsg_val]
  unfold u
  rw [hZ]
  unfold xtN
  simp only [Nat.add_sub_cancel]
  rw [hs]
  generalize x % 2 ^ (h + 1) = m at *
  by_cases hc : 2 ^ h ≤ m
  · simp only [hc, decide_true, if_true]
    rw [Nat.mul_sub, hp, Nat.mul_one]
    generalize 2 ^ (h + 1) = P at *
    generalize 2 ^ h = Q at *
    clear hp hs hZ
    split <;> omega
  · simp only [hc, decide_false, if_false, Bool.false_eq_true, Nat.mul_zero, Nat.zero_add]
    generalize 2 ^ (h + 1) = P at *
    generalize 2 ^ h = Q at *
    clear hp hs hZ
    split <;> omega
theorem j_lit : jF 0 = 0 ∧ jF 1 = 1 ∧ jF 2 = 2 ∧ jF 3 = 3 := by decide
theorem bne_self' (x : Int) : (x != x) = false := by simp
theorem law9_true (A : W) (k : Int) (b p : Nat) (hb : b < 256) : fnV (cxF F0 4) 6 9 [.int .u32 (u A), .int .i64 k, .int .u8 (b : Int), .int .u8 (p : Int)] = some (.bool true) := by
  rw [law9]
  simp only [F0d, F0byte, F0setb, F0ext, F0sg]
  obtain ⟨j0, j1, j2, j3⟩ := j_lit
  obtain ⟨Y, hY, eY⟩ := u_nat (n := setN A.toNat (8 * jF k) b) (setN_lt A.isLt (by have := jF_lt k; omega) (by omega))
  have hbyte : ∀ (X : W) (i : Int), X.toNat / 2 ^ (8 * jF i) % 256 < 256 := fun X i => Nat.mod_lt _ (by omega)
  rw [setb_nat A k b hb, eY]
  /- what is made of the bytes -/
  have hmade : setbF (setbF (setbF (setbF 0 0 (byteF (u A) 0)) 1 (byteF (u A) 1)) 2 (byteF (u A) 2)) 3 (byteF (u A) 3) = u A := by
    have st : ∀ (x : Nat) (i : Int), x < 2 ^ 32 → ∃ X : W, X.toNat = setN x (8 * jF i) (A.toNat / 2 ^ (8 * jF i) % 256) ∧ setbF (x : Int) i (byteF (u A) i) = u X := fun x i hx => by
      obtain ⟨X0, h0, e0⟩ := u_nat hx
      obtain ⟨X, h1, e1⟩ := u_nat (n := setN x (8 * jF i) (A.toNat / 2 ^ (8 * jF i) % 256)) (setN_lt hx (by have := jF_lt i; omega) (hbyte A i))
      exact ⟨X, h1, by rw [byte_nat, e0, setb_nat X0 i _ (hbyte A i), h0, e1]⟩
    obtain ⟨X0, h0, e0⟩ := st 0 0 (by decide)
    obtain ⟨X1, h1, e1⟩ := st X0.toNat 1 X0.isLt
    obtain ⟨X2, h2, e2⟩ := st X1.toNat 2 X1.isLt
    obtain ⟨X3, h3, e3⟩ := st X2.toNat 3 X2.isLt
    have e0' : setbF 0 0 (byteF (u A) 0) = u X0 := e0
    have e1' : setbF (u X0) 1 (byteF (u A) 1) = u X1 := e1
    have e2' : setbF (u X1) 2 (byteF (u A) 2) = u X2 := e2
    have e3' : setbF (u X2) 3 (byteF (u A) 3) = u X3 := e3
    rw [e0', e1', e2', e3']
    apply u_inj.2
    apply BitVec.eq_of_toNat_eq
    rw [h3, h2, h1, h0, j0, j1, j2, j3]
    exact made_eq A.isLt
  /- a byte of what was set -/
  have hby : ∀ i : Int, byteF (u Y) i = if jF i = jF k then (b : Int) else byteF (u A) i := fun i => by
    rw [byte_nat, byte_nat, hY, byte_set hb]
    split <;> rfl
  have hyk : byteF (u Y) k = (b : Int) := by rw [hby, if_pos rfl]
  have hsame : ∀ i : Int, jF i ≠ jF k → (byteF (u Y) i != byteF (u A) i) = false := fun i h => by rw [hby, if_neg h]; exact bne_self' _
  have hat : ∀ i : Int, jF i = jF k → (byteF (u Y) i != byteF (u A) i) = !(byteF (u A) k == (b : Int)) := fun i h => by
    rw [hby, if_pos h, show byteF (u A) i = byteF (u A) k from by rw [byte_nat, byte_nat, h]]
    unfold bne
    rw [Bool.beq_comm]
  have hch : ∃ c : Int, (cond (byteF (u Y) 3 != byteF (u A) 3) (IntKind.i64.wrap (cond (byteF (u Y) 2 != byteF (u A) 2) (IntKind.i64.wrap (cond (byteF (u Y) 1 != byteF (u A) 1) (IntKind.i64.wrap (cond (byteF (u Y) 0 != byteF (u A) 0) (IntKind.i64.wrap (0 + 1)) 0 + 1)) (cond (byteF (u Y) 0 != byteF (u A) 0) (IntKind.i64.wrap (0 + 1)) 0) + 1)) (cond (byteF (u Y) 1 != byteF (u A) 1) (IntKind.i64.wrap (cond (byteF (u Y) 0 != byteF (u A) 0) (IntKind.i64.wrap (0 + 1)) 0 + 1)) (cond (byteF (u Y) 0 != byteF (u A) 0) (IntKind.i64.wrap (0 + 1)) 0)) + 1)) (cond (byteF (u Y) 2 != byteF (u A) 2) (IntKind.i64.wrap (cond (byteF (u Y) 1 != byteF (u A) 1) (IntKind.i64.wrap (cond (byteF (u Y) 0 != byteF (u A) 0) (IntKind.i64.wrap (0 + 1)) 0 + 1)) (cond (byteF (u Y) 0 != byteF (u A) 0) (IntKind.i64.wrap (0 + 1)) 0) + 1)) (cond (byteF (u Y) 1 != byteF (u A) 1) (IntKind.i64.wrap (cond (byteF (u Y) 0 != byteF (u A) 0) (IntKind.i64.wrap (0 + 1)) 0 + 1)) (cond (byteF (u Y) 0 != byteF (u A) 0) (IntKind.i64.wrap (0 + 1)) 0)))) = c ∧ c = cond (byteF (u A) k == (b : Int)) 0 1 := ⟨_, rfl, by
    have hj := jF_lt k
    rcases (by omega : jF k = 0 ∨ jF k = 1 ∨ jF k = 2 ∨ jF k = 3) with h | h | h | h
    · rw [hat 0 (by omega), hsame 1 (by omega), hsame 2 (by omega), hsame 3 (by omega)]
      cases (byteF (u A) k == (b : Int)) <;> rfl
    · rw [hat 1 (by omega), hsame 0 (by omega), hsame 2 (by omega), hsame 3 (by omega)]
      cases (byteF (u A) k == (b : Int)) <;> rfl
    · rw [hat 2 (by omega), hsame 1 (by omega), hsame 0 (by omega), hsame 3 (by omega)]
      cases (byteF (u A) k == (b : Int)) <;> rfl
    · rw [hat 3 (by omega), hsame 1 (by omega), hsame 2 (by omega), hsame 0 (by omega)]
      cases (byteF (u A) k == (b : Int)) <;> rfl⟩
  obtain ⟨c, hc, hc2⟩ := hch
  have hfirst : (cond (setbF (setbF (setbF (setbF 0 0 (byteF (u A) 0)) 1 (byteF (u A) 1)) 2 (byteF (u A) 2)) 3 (byteF (u A) 3) != u A) true (cond (byteF (u Y) k != (b : Int)) true (cond (ltI 1 c) true ((c == 0) != (byteF (u A) k == (b : Int)))))) = false := by
    rw [hmade, hyk, bne_self', bne_self', hc2]
    cases (byteF (u A) k == (b : Int)) <;> rfl
  subst hc
  refine Eq.trans (congrArg (fun z => cond z _ _) hfirst) ?_
  rw [cond_false]
  /- the sign -/
  have hn : IntKind.i64.wrap (1 + IntKind.i64.wrap ((p : Int).tmod 32)) = ((p % 32 + 1 : Nat) : Int) := by
    rw [show (p : Int).tmod 32 = ((p % 32 : Nat) : Int) from tmod_nat p 32, wrap_i64_id (n := ((p % 32 : Nat) : Int)) (by omega) (by omega), wrap_i64_id (by omega) (by omega)]
    omega
  rw [hn]
  have h32 : p % 32 < 32 := Nat.mod_lt _ (by omega)
  generalize p % 32 = h at h32
  rw [F0ok (n := ((h + 1 : Nat) : Int)) (by omega) (by omega)]
  simp only [cond_true]
  have hm : IntKind.i64.wrap (((h + 1 : Nat) : Int) - 1) = ((h : Nat) : Int) := by rw [wrap_i64_id (by omega) (by omega)]; omega
  rw [hm, show leI 0 (h : Int) = true from by simp [leI], cond_true]
  have hpow : 2 ^ h ≤ 2147483648 := Nat.le_trans (Nat.pow_le_pow_right (by omega) (show h ≤ 31 by omega)) (by decide)
  have hnn : (0 : Int) ≤ ((2 ^ h : Nat) : Int) := Int.natCast_nonneg _
  have hpow' : ((2 ^ h : Nat) : Int) ≤ 2147483648 := Int.ofNat_le.2 hpow
  have hhalf : IntKind.i64.wrap (1 * 2 ^ min ((h : Int)).toNat 64) = ((2 ^ h : Nat) : Int) := by
    rw [show min ((h : Int)).toNat 64 = h from by omega, pow_int, Int.one_mul]
    exact wrap_i64_id (by omega) (by omega)
  have hneg : IntKind.i64.wrap (0 - ((2 ^ h : Nat) : Int)) = -((2 ^ h : Nat) : Int) := by rw [wrap_i64_id (by omega) (by omega)]; omega
  rw [hhalf, hneg]
  obtain ⟨Z, hZ, eZ⟩ := u_nat (n := xtN A.toNat (h + 1)) (xtN_lt (by omega))
  have hz : extF (u A) ((h + 1 : Nat) : Int) = u Z := by rw [ext_nat A (by omega) (by omega), eZ]
  have hzz : extF (u Z) ((h + 1 : Nat) : Int) = u Z := by rw [ext_nat Z (by omega) (by omega), hZ, xt_xt (by omega) (by omega), eZ]
  rw [hz, hzz]
  have hlow : IntKind.u32.wrap (IntKind.i64.wrap (32 - ((h + 1 : Nat) : Int))) = ((31 - h : Nat) : Int) := by
    rw [wrap_i64_id (by omega) (by omega), wrap_u32]; omega
  obtain ⟨S, hS, eS⟩ := u_nat (n := 31 - h) (by omega)
  have hpw : 2 ^ (h + 1) ≤ 4294967296 := Nat.le_trans (Nat.pow_le_pow_right (by omega) (show h + 1 ≤ 32 by omega)) (by decide)
  have hpos := Nat.two_pow_pos (h + 1)
  obtain ⟨L, hL, eL⟩ := u_nat (n := 2 ^ (h + 1) - 1) (by omega)
  have hlo : doXF 7 4294967295 (IntKind.u32.wrap (IntKind.i64.wrap (32 - ((h + 1 : Nat) : Int)))) = u L := by
    rw [hlow, eS, show doXF 7 4294967295 (u S) = _ from d7 4294967295#32 S, ← eL, hS, Nat.mod_eq_of_lt (by omega)]
    congr 1
    have hp : 2 ^ (h + 1) * 2 ^ (31 - h) = 4294967296 := by rw [← Nat.pow_add, show h + 1 + (31 - h) = 32 from by omega]
    have hq := Nat.two_pow_pos (31 - h)
    rw [show (4294967295#32 : W).toNat = 4294967295 from rfl]
    have e : 4294967295 = (2 ^ (31 - h) - 1) + 2 ^ (31 - h) * (2 ^ (h + 1) - 1) := by
      rw [Nat.mul_sub, Nat.mul_comm (2 ^ (31 - h)) (2 ^ (h + 1)), hp, Nat.mul_one]
      have : 2 ^ (31 - h) ≤ 4294967296 := by rw [← hp]; exact Nat.le_mul_of_pos_left _ hpos
      omega
    rw [e, Nat.add_mul_div_left _ _ hq, Nat.div_eq_of_lt (by omega), Nat.zero_add]
  rw [hlo, d3, d3]
  have hand : Z &&& L = A &&& L := by
    apply BitVec.eq_of_toNat_eq
    rw [BitVec.toNat_and, BitVec.toNat_and, hL, Nat.and_two_pow_sub_one_eq_mod, Nat.and_two_pow_sub_one_eq_mod, hZ, xt_mod]
  rw [hand, sg_eq]
  obtain ⟨s1, s2⟩ := xt_sg (n := h + 1) (by omega) (by omega) hZ
  simp only [Nat.add_sub_cancel] at s1 s2
  have d1 : leI (-((2 ^ h : Nat) : Int)) (rsgF (u Z)) = true := decide_eq_true s1
  have d2 : ltI (rsgF (u Z)) ((2 ^ h : Nat) : Int) = true := decide_eq_true s2
  rw [d1, d2]
  simp
end Go.Proofs.Ytdeiiaemficjeaa
