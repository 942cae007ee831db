/- The laws of the arithmetic, in plain terms: division, orders, bytes. -/
import Derived.Test.YtdeiiaemficjeaaAlu7
namespace Go.Proofs.Ytdeiiaemficjeaa
open Go.AE

theorem u_zero (B : W) : (u B == 0) = decide (B = 0#32) := by
  rw [show (0 : Int) = u 0#32 from rfl, u_beq]; rfl
theorem d9 (A B : W) (h : B ≠ 0#32) : doXF 9 (u A) (u B) = u (A / B) := by
  show divF (u A) (u B) = _
  unfold divF
  rw [u_zero, show decide (B = 0#32) = false from by simp [h], cond_false, show (u A).tdiv (u B) = ((A.toNat / B.toNat : Nat) : Int) from tdiv_nat _ _, wrap_nat,
    Nat.mod_eq_of_lt (Nat.lt_of_le_of_lt (Nat.div_le_self _ _) A.isLt)]
  unfold u; rw [BitVec.toNat_udiv]
theorem d10 (A B : W) (h : B ≠ 0#32) : doXF 10 (u A) (u B) = u (A % B) := by
  show remF (u A) (u B) = _
  unfold remF
  rw [u_zero, show decide (B = 0#32) = false from by simp [h], cond_false, show (u A).tmod (u B) = ((A.toNat % B.toNat : Nat) : Int) from tmod_nat _ _]
  unfold u; rw [BitVec.toNat_umod]
theorem d6 (A B : W) : doXF 6 (u A) (u B) = ((A.toNat * 2 ^ (B.toNat % 32) % 4294967296 : Nat) : Int) := by
  show shlF (u A) (u B) = _
  unfold shlF
  rw [sh32, pow_int, show u A * ((2 ^ (B.toNat % 32) : Nat) : Int) = ((A.toNat * 2 ^ (B.toNat % 32) : Nat) : Int) from (Int.natCast_mul _ _).symm, wrap_nat]
theorem d7 (A B : W) : doXF 7 (u A) (u B) = ((A.toNat / 2 ^ (B.toNat % 32) : Nat) : Int) := by
  show shrF (u A) (u B) = _
  unfold shrF
  rw [sh32, pow_int]
  exact fdiv_nat _ _
theorem taken31 (a b : Int) : takenF 31 a b = decide (a < b) := rfl
theorem u_nat {n : Nat} (h : n < 4294967296) : ∃ K : W, K.toNat = n ∧ (n : Int) = u K := ⟨BitVec.ofNat 32 n, by rw [BitVec.toNat_ofNat]; exact Nat.mod_eq_of_lt h, by unfold u; rw [BitVec.toNat_ofNat]; congr 1; exact (Nat.mod_eq_of_lt h).symm⟩
theorem law7_true (A B : W) (p : Nat) (_hp : p < 256) : fnV (cxF F0 4) 6 7 [.int .u32 (u A), .int .u32 (u B), .int .u8 (p : Int)] = some (.bool true) := by
  rw [law7]
  simp only [F0d, F0taken, u_zero]
  by_cases hB : B = 0#32
  · subst hB
    simp only [decide_true, cond_true]
    have e1 : doXF 9 (u A) (u 0#32) = 4294967295 := by
      show divF (u A) (u 0#32) = _
      unfold divF
      rw [u_zero, show decide ((0#32 : W) = 0#32) = true from by simp, cond_true]
      exact div0
    have e2 : doXF 10 (u A) (u 0#32) = u A := by
      show remF (u A) (u 0#32) = _
      unfold remF
      rw [u_zero, show decide ((0#32 : W) = 0#32) = true from by simp, cond_true]
    rw [e1, e2]; simp
  · rw [show decide (B = 0#32) = false from by simp [hB], cond_false, d9 A B hB, d10 A B hB, d8, d1]
    have hB' : 0 < B.toNat := by
      rcases Nat.eq_zero_or_pos B.toNat with h | h
      · exact absurd (BitVec.eq_of_toNat_eq (by simpa using h)) hB
      · exact h
    have hle : A.toNat / B.toNat * B.toNat ≤ A.toNat := Nat.div_mul_le_self _ _
    have hq : (A / B * B).toNat = A.toNat / B.toNat * B.toNat := by
      rw [BitVec.toNat_mul, BitVec.toNat_udiv, Nat.mod_eq_of_lt (Nat.lt_of_le_of_lt hle A.isLt)]
    have hsum : A / B * B + A % B = A := by
      apply BitVec.eq_of_toNat_eq
      rw [BitVec.toNat_add, hq, BitVec.toNat_umod, Nat.div_add_mod', Nat.mod_eq_of_lt A.isLt]
    rw [hsum]
    have t1 : takenF 31 (u (A % B)) (u B) = true := by
      rw [taken31]; unfold u; rw [BitVec.toNat_umod]
      have := Nat.mod_lt A.toNat hB'
      simp; omega
    have t2 : takenF 31 (u A) (u (A / B * B)) = false := by
      rw [taken31]; unfold u; rw [hq]
      simp only [decide_eq_false_iff_not, Int.not_lt]
      exact Int.ofNat_le.2 hle
    rw [t1, t2, show (u A != u A || cond (!true) true false) = false from by simp, cond_false]
    have hk : IntKind.u32.wrap ((p : Int).tmod 32) = ((p % 32 : Nat) : Int) := by
      rw [show (p : Int).tmod 32 = ((p % 32 : Nat) : Int) from tmod_nat p 32, wrap_nat, Nat.mod_eq_of_lt (by omega)]
    rw [hk]
    have hk32 : p % 32 < 32 := Nat.mod_lt _ (by omega)
    generalize p % 32 = k at hk32
    obtain ⟨K, hK, eK⟩ := u_nat (n := k) (by omega)
    have hpw : 2 ^ k < 4294967296 := Nat.lt_of_lt_of_le (Nat.pow_lt_pow_right (by omega) hk32) (by decide)
    obtain ⟨Pw, hP, eP⟩ := u_nat (n := 2 ^ k) hpw
    have hk2 : IntKind.u32.wrap ((k : Int) + 32) = ((k + 32 : Nat) : Int) := by
      rw [show (k : Int) + 32 = ((k + 32 : Nat) : Int) from by omega, wrap_nat, Nat.mod_eq_of_lt (by omega)]
    obtain ⟨K2, hK2, eK2⟩ := u_nat (n := k + 32) (by omega)
    have hPne : Pw ≠ 0#32 := fun e => by
      rw [e] at hP
      have := Nat.two_pow_pos k
      simp at hP; omega
    have w1 : doXF 6 1 (u K) = u Pw := by
      rw [show doXF 6 1 (u K) = _ from d6 1#32 K, hK, Nat.mod_eq_of_lt hk32, ← eP]
      have : (1#32 : W).toNat = 1 := rfl
      rw [this, Nat.one_mul, Nat.mod_eq_of_lt hpw]
    have w2 : doXF 2 (u Pw) 1 = u (Pw - 1#32) := d2 Pw 1#32
    have hP1 : (Pw - 1#32).toNat = 2 ^ k - 1 := by
      rw [BitVec.toNat_sub, hP]
      have h1 : (1#32 : W).toNat = 1 := rfl
      have := Nat.two_pow_pos k
      rw [h1]
      generalize 2 ^ k = z at *
      omega
    rw [hk2, eK, eK2, w1, w2, d7, d9 A Pw hPne, d10 A Pw hPne, d3, d6, d6, d8, hK, hK2]
    have e1 : ((A.toNat / 2 ^ (k % 32) : Nat) : Int) = u (A / Pw) := by
      unfold u; rw [BitVec.toNat_udiv, hP, Nat.mod_eq_of_lt hk32]
    have e2 : A &&& (Pw - 1#32) = A % Pw := by
      apply BitVec.eq_of_toNat_eq
      rw [BitVec.toNat_and, hP1, BitVec.toNat_umod, hP, Nat.and_two_pow_sub_one_eq_mod]
    have e3 : ((A.toNat * 2 ^ (k % 32) % 4294967296 : Nat) : Int) = u (A * Pw) := by
      unfold u; rw [BitVec.toNat_mul, hP, Nat.mod_eq_of_lt hk32]
    rw [e1, e2, e3, show (k + 32) % 32 = k % 32 from by omega, e3]
    simp
/-! orders -/
theorem two {X Y : Bool} {p q z r : Option AV} (hx : X = false) (hy : Y = false) (hz : z = r) : cond X p (cond Y q z) = r := by rw [hx, hy]; exact hz
theorem orders {x y z : Int} {e : Bool} (he : e = decide (x = y)) {Tab Tba Tbc Tac : Bool} (h1 : Tab = decide (x < y)) (h2 : Tba = decide (y < x)) (h3 : Tbc = decide (y < z)) (h4 : Tac = decide (x < z)) {d : Int} (hd : d = oneF (decide (x < y))) :
    cond (cond e (IntKind.i64.wrap (cond Tba (IntKind.i64.wrap (cond Tab 1 0 + 1)) (cond Tab 1 0) + 1)) (cond Tba (IntKind.i64.wrap (cond Tab 1 0 + 1)) (cond Tab 1 0)) != 1) true
      (cond Tab (cond Tbc (cond (!Tac) true (cond ((d == 1) != Tab) true (decide (1 < d)))) (cond ((d == 1) != Tab) true (decide (1 < d)))) (cond ((d == 1) != Tab) true (decide (1 < d)))) = false := by
  subst he h1 h2 h3 h4 hd
  rcases Int.lt_trichotomy x y with h | h | h
  · have e1 : decide (x = y) = false := by simp; omega
    have e2 : decide (y < x) = false := by simp; omega
    have e3 : decide (x < y) = true := by simp; omega
    rw [e1, e2, e3]
    by_cases h5 : y < z
    · rw [show decide (y < z) = true from by simp [h5], show decide (x < z) = true from by simp; omega]; rfl
    · rw [show decide (y < z) = false from by simp [h5]]; rfl
  · have e1 : decide (x = y) = true := by simp; omega
    have e2 : decide (y < x) = false := by simp; omega
    have e3 : decide (x < y) = false := by simp; omega
    rw [e1, e2, e3]; rfl
  · have e1 : decide (x = y) = false := by simp; omega
    have e2 : decide (y < x) = true := by simp; omega
    have e3 : decide (x < y) = false := by simp; omega
    rw [e1, e2, e3]; rfl
theorem xor_top {a : Nat} (ha : a < 2 ^ 31) : a ^^^ 2 ^ 31 = a + 2 ^ 31 := by
  rw [Nat.add_comm, show 2 ^ 31 + a = 2 ^ 31 * 1 + a from by omega]
  apply Nat.eq_of_testBit_eq
  intro i
  rw [Nat.testBit_xor, Nat.testBit_two_pow_mul_add _ ha, Nat.testBit_two_pow]
  by_cases h : i < 31
  · rw [if_pos h, show decide (31 = i) = false from by simp; omega]; simp
  · rw [if_neg h, Nat.testBit_lt_two_pow (Nat.lt_of_lt_of_le ha (Nat.pow_le_pow_right (by omega) (by omega)))]
    by_cases h2 : i = 31
    · subst h2; rfl
    · rw [show decide (31 = i) = false from by simp; omega, Nat.testBit_lt_two_pow (x := 1) (Nat.one_lt_two_pow (by omega))]; rfl
theorem xor_top2 (A : W) : (A ^^^ 2147483648#32).toNat = (A.toNat + 2147483648) % 4294967296 := by
  have h := A.isLt
  rw [BitVec.toNat_xor, show (2147483648#32 : W).toNat = 2 ^ 31 from rfl]
  rcases Nat.lt_or_ge A.toNat (2 ^ 31) with h1 | h1
  · rw [xor_top h1]; omega
  · have h2 := xor_top (a := A.toNat - 2 ^ 31) (by omega)
    rw [Nat.sub_add_cancel h1] at h2
    rw [← h2, Nat.xor_assoc, Nat.xor_self, Nat.xor_zero, h2]
    omega
theorem rsg_val (A : W) : rsgF (u A) = if u A < 2147483648 then u A else u A - 4294967296 := by
  have := u_lt A; have := u_ge A
  unfold rsgF
  by_cases h : u A < 2147483648
  · simp only [h, decide_true, cond_true, if_true]; rw [wrap_i64_id] <;> omega
  · simp only [h, decide_false, cond_false, if_false]; rw [wrap_i64_id (n := u A) (by omega) (by omega), wrap_i64_id] <;> omega
theorem taken30 (A B : W) : takenF 30 (u A) (u B) = decide (rsgF (u A) < rsgF (u B)) := by
  show decide (IntKind.i32.wrap (u A) < IntKind.i32.wrap (u B)) = _
  exact lt_eq A B
theorem d11 (A B : W) : doXF 11 (u A) (u B) = oneF (decide (rsgF (u A) < rsgF (u B))) := by
  show oneF (decide (IntKind.i32.wrap (u A) < IntKind.i32.wrap (u B))) = _
  rw [lt_eq]
theorem law8_true (A B C : W) : fnV (cxF F0 4) 6 8 [.int .u32 (u A), .int .u32 (u B), .int .u32 (u C)] = some (.bool true) := by
  rw [law8]
  simp only [F0d, F0taken, F0sg]
  have b30 := orders (x := rsgF (u A)) (y := rsgF (u B)) (z := rsgF (u C)) (e := takenF 28 (u A) (u B)) (by
    show (u A == u B) = _
    rw [u_beq]
    have : (A = B) ↔ (rsgF (u A) = rsgF (u B)) := by
      constructor
      · intro e; rw [e]
      · intro e
        rw [rsg_val, rsg_val] at e
        apply u_inj.1
        have := u_lt A; have := u_ge A; have := u_lt B; have := u_ge B
        split at e <;> split at e <;> omega
    by_cases h : A = B
    · rw [beq_iff_eq.2 h]; simp [this.1 h]
    · rw [beq_eq_false_iff_ne.2 h]
      exact (decide_eq_false (fun e => h (this.2 e))).symm) (taken30 A B) (taken30 B A) (taken30 B C) (taken30 A C) (d11 A B)
  have b31 := orders (x := u A) (y := u B) (z := u C) (e := takenF 28 (u A) (u B)) (by
    show (u A == u B) = _
    by_cases h : u A = u B
    · rw [h]; simp
    · rw [beq_eq_false_iff_ne.2 h]; simp [h]) (taken31 (u A) (u B)) (taken31 (u B) (u A)) (taken31 (u B) (u C)) (taken31 (u A) (u C)) (d := doXF 12 (u A) (u B)) rfl
  refine two b30 b31 ?_
  have t1 : (takenF 28 (u A) (u B) != takenF 29 (u A) (u B)) = true := by
    show ((u A == u B) != (u A != u B)) = true
    unfold bne
    cases (u A == u B) <;> rfl
  have t2 : takenF 30 (u A) (u B) = takenF 31 (doXF 5 (u A) 2147483648) (doXF 5 (u B) 2147483648) := by
    rw [show doXF 5 (u A) 2147483648 = _ from d5 A 2147483648#32, show doXF 5 (u B) 2147483648 = _ from d5 B 2147483648#32, taken30, taken31, rsg_val, rsg_val]
    unfold u
    rw [xor_top2, xor_top2]
    have := A.isLt; have := B.isLt
    apply decide_eq_decide.2
    split <;> split <;> omega
  rw [t1, ← t2]
  have t3 : takenF 30 (u A) (u B) = decide (sgF (u A) < sgF (u B)) := by rw [taken30]; simp only [sg_eq]
  refine congrArg (fun b => some (AV.bool b)) ?_
  show (true && (takenF 30 (u A) (u B) == takenF 30 (u A) (u B) && takenF 30 (u A) (u B) == decide (sgF (u A) < sgF (u B)))) = true
  rw [← t3]; simp
end Go.Proofs.Ytdeiiaemficjeaa
