/- The laws of the arithmetic, in plain terms: what the specification says. -/
import Derived.Test.YtdeiiaemficjeaaAlu4
namespace Go.Proofs.Ytdeiiaemficjeaa
open Go.AE

theorem sg_eq (A : W) : sgF (u A) = rsgF (u A) := by
  have := u_lt A; have := u_ge A
  unfold sgF rsgF
  rw [wrap_i32, wrap_i64]
  by_cases h : u A < 2147483648
  · simp only [h, decide_true, cond_true]; rw [wrap_i64]; omega
  · simp only [h, decide_false, cond_false]; rw [wrap_i64, wrap_i64]; omega
theorem i32_eq (A : W) : IntKind.i32.wrap (u A) = rsgF (u A) := by
  rw [← sg_eq]
  unfold sgF
  rw [wrap_i64_id] <;> (rw [wrap_i32]; omega)
theorem taken_eq (n : Int) (A B : W) : takenF n (u A) (u B) = rtakenF n (u A) (u B) := by
  unfold takenF rtakenF
  rw [i32_eq, i32_eq]
theorem pw_nat (k : Nat) : pwF (k : Int) = ((2 ^ k : Nat) : Int) := by unfold pwF; simp
theorem bit_eq (A : W) (k : Nat) : bitF (u A) k = ((A.toNat.testBit k).toNat : Int) := by
  have h1 : (u A).tdiv (pwF k) = ((A.toNat / 2 ^ k : Nat) : Int) := by
    rw [pw_nat]; unfold u; rfl
  have h2 : A.toNat / 2 ^ k < 4294967296 := Nat.lt_of_le_of_lt (Nat.div_le_self _ _) A.isLt
  unfold bitF
  rw [h1, wrap_nat, Nat.mod_eq_of_lt h2, Nat.toNat_testBit]
  rfl
theorem tdiv_nat (a b : Nat) : ((a : Int)).tdiv (b : Int) = ((a / b : Nat) : Int) := rfl
theorem tmod_nat (a b : Nat) : ((a : Int)).tmod (b : Int) = ((a % b : Nat) : Int) := rfl
theorem ediv_nat (a b : Nat) : (a : Int) / (b : Int) = ((a / b : Nat) : Int) := rfl
theorem bit1 (A : W) (k : Nat) : F1.bit (u A) k = ((A.toNat.testBit k).toNat : Int) := bit_eq A k
theorem lgT3 {b c k : Int} {p q : Bool} (hp : F1.bit b k = (p.toNat : Int)) (hq : F1.bit c k = (q.toNat : Int)) : lgT F1 3 b c k = (p && q) := by
  unfold lgT; rw [hp, hq]; cases p <;> cases q <;> rfl
theorem lgT4 {b c k : Int} {p q : Bool} (hp : F1.bit b k = (p.toNat : Int)) (hq : F1.bit c k = (q.toNat : Int)) : lgT F1 4 b c k = (p || q) := by
  unfold lgT; rw [hp, hq]; cases p <;> cases q <;> rfl
theorem lgT5 {b c k : Int} {p q : Bool} (hp : F1.bit b k = (p.toNat : Int)) (hq : F1.bit c k = (q.toNat : Int)) : lgT F1 5 b c k = (p ^^ q) := by
  unfold lgT; rw [hp, hq]; cases p <;> cases q <;> rfl
theorem step_pow {out m : Nat} {k : Nat} {b : Bool} (hm : m < 2 ^ 32) (h : out = m % 2 ^ k) (hb : m.testBit k = b) :
    cond b (IntKind.u32.wrap ((out : Int) + F1.pw k)) (out : Int) = ((m % 2 ^ (k + 1) : Nat) : Int) := by
  have e := Nat.mod_pow_succ (b := 2) (x := m) (k := k)
  rw [← Nat.toNat_testBit, hb] at e
  show cond b (IntKind.u32.wrap ((out : Int) + pwF k)) (out : Int) = _
  rw [e, ← h]
  cases b with
  | false => simp
  | true =>
    have : m % 2 ^ (k + 1) < 4294967296 := Nat.lt_of_le_of_lt (Nat.mod_le _ _) hm
    rw [e, ← h] at this
    rw [pw_nat]
    simp only [cond_true, Bool.toNat_true, Nat.mul_one] at this ⊢
    rw [show ((out : Int) + ((2 ^ k : Nat) : Int)) = ((out + 2 ^ k : Nat) : Int) from by push_cast; rfl, wrap_nat, Nat.mod_eq_of_lt this]
theorem lgN_eq {op : Int} {A B N : W} (hT : ∀ k : Nat, lgT F1 op (u A) (u B) k = N.toNat.testBit k) : ∀ k : Nat, k ≤ 32 → lgN F1 op (u A) (u B) k = ((N.toNat % 2 ^ k : Nat) : Int)
  | 0, _ => by simp [lgN, Nat.mod_one]
  | k + 1, hk => by
    rw [lgN, lgN_eq hT k (by omega), hT]
    exact step_pow N.isLt rfl rfl
theorem logic_eq {op : Int} {A B N : W} (hT : ∀ k : Nat, lgT F1 op (u A) (u B) k = N.toNat.testBit k) : logicF op (u A) (u B) = u N := by
  unfold logicF
  rw [lgN_eq hT 32 (by omega), Nat.mod_eq_of_lt N.isLt]; rfl
theorem logic3 (A B : W) : logicF 3 (u A) (u B) = u (A &&& B) := logic_eq fun k => by
  exact (lgT3 (bit1 A k) (bit1 B k)).trans (by rw [BitVec.toNat_and, Nat.testBit_and])
theorem logic4 (A B : W) : logicF 4 (u A) (u B) = u (A ||| B) := logic_eq fun k => by
  exact (lgT4 (bit1 A k) (bit1 B k)).trans (by rw [BitVec.toNat_or, Nat.testBit_or])
theorem logic5 (A B : W) : logicF 5 (u A) (u B) = u (A ^^^ B) := logic_eq fun k => by
  exact (lgT5 (bit1 A k) (bit1 B k)).trans (by rw [BitVec.toNat_xor, Nat.testBit_xor])
theorem wi_u (A : W) : wi (u A) = u A := by
  have := u_lt A; have := u_ge A
  exact wrap_i64_id (by omega) (by omega)
theorem k32 (A : W) : wi ((u A).tmod 32) = ((A.toNat % 32 : Nat) : Int) := by
  have : (u A).tmod 32 = ((A.toNat % 32 : Nat) : Int) := by unfold u; rfl
  rw [this]
  exact wrap_i64_id (by omega) (by omega)
theorem sh32 (A : W) : min (ibits .and .u32 (u A) 31).toNat 32 = A.toNat % 32 := by
  rw [and31]; unfold u; omega
theorem pow_int (k : Nat) : (2 : Int) ^ k = ((2 ^ k : Nat) : Int) := by norm_cast
theorem i3 (A B : W) : ibits .and .u32 (u A) (u B) = u (A &&& B) := d3 A B
theorem i4 (A B : W) : ibits .or .u32 (u A) (u B) = u (A ||| B) := d4 A B
theorem i5 (A B : W) : ibits .xor .u32 (u A) (u B) = u (A ^^^ B) := d5 A B
theorem lt_eq (A B : W) : decide (IntKind.i32.wrap (u A) < IntKind.i32.wrap (u B)) = decide (rsgF (u A) < rsgF (u B)) := by rw [i32_eq, i32_eq]
theorem div0 : ibits .xor .u32 (IntKind.u32.max) 0 = 4294967295 := by
  have := ibits_xor_u32 (x := 4294967295) (y := 0) (by omega) (by omega) (by omega) (by omega)
  exact this
theorem doX_eq (n : Int) (A B : W) : doXF n (u A) (u B) = rXF n (u A) (u B) := by
  have ha := u_lt A; have ha' := u_ge A; have hb := u_lt B; have hb' := u_ge B
  unfold doXF rXF
  rw [lt_eq]
  cases h1 : (n == 1); rotate_left
  · simp only [cond_true, wi_u]
    show _ = IntKind.u32.wrap (IntKind.i64.wrap (u A + u B))
    rw [wrap_i64_id (by omega) (by omega)]
  cases h2 : (n == 2); rotate_left
  · simp only [cond_true, cond_false, wi_u]
    show _ = IntKind.u32.wrap (IntKind.i64.wrap (u A - u B))
    rw [wrap_i64_id (by omega) (by omega)]
  cases h3 : (n == 3); rotate_left
  · obtain rfl := eq_of_beq h3
    simp only [cond_true, cond_false, i3, logic3]
  cases h4 : (n == 4); rotate_left
  · obtain rfl := eq_of_beq h4
    simp only [cond_true, cond_false, i4, logic4]
  cases h5 : (n == 5); rotate_left
  · obtain rfl := eq_of_beq h5
    simp only [cond_true, cond_false, i5, logic5]
  cases h6 : (n == 6); rotate_left
  · simp only [cond_true, cond_false, k32, pw_nat]
    unfold shlF wu
    rw [sh32, pow_int]
  cases h7 : (n == 7); rotate_left
  · simp only [cond_true, cond_false, k32, pw_nat]
    unfold shrF wu
    rw [sh32, pow_int]
    have e1 : (u A).fdiv ((2 ^ (B.toNat % 32) : Nat) : Int) = ((A.toNat / 2 ^ (B.toNat % 32) : Nat) : Int) := by
      rw [Int.fdiv_eq_ediv_of_nonneg _ (Int.natCast_nonneg _)]; exact ediv_nat _ _
    have e2 : (u A).tdiv ((2 ^ (B.toNat % 32) : Nat) : Int) = ((A.toNat / 2 ^ (B.toNat % 32) : Nat) : Int) := tdiv_nat _ _
    rw [e1, e2, wrap_nat, Nat.mod_eq_of_lt (Nat.lt_of_le_of_lt (Nat.div_le_self _ _) A.isLt)]
  cases h8 : (n == 8); rotate_left
  · rfl
  cases h9 : (n == 9); rotate_left
  · simp only [cond_true, cond_false]
    unfold divF
    cases hc : (u B == 0)
    · rfl
    · rw [eq_of_beq hc, cond_true, cond_true, div0]
  cases h10 : (n == 10); rotate_left
  · simp only [cond_true, cond_false]
    unfold remF
    cases hc : (u B == 0)
    · simp only [cond_false]
      have e1 : (u A).tdiv (u B) = ((A.toNat / B.toNat : Nat) : Int) := tdiv_nat _ _
      have e2 : (u A).tmod (u B) = ((A.toNat % B.toNat : Nat) : Int) := tmod_nat _ _
      have h1 : A.toNat / B.toNat ≤ A.toNat := Nat.div_le_self _ _
      have h2 : A.toNat / B.toNat * B.toNat ≤ A.toNat := Nat.div_mul_le_self _ _
      have h3 := Nat.div_add_mod' A.toNat B.toNat
      have hA := A.isLt
      unfold wu
      rw [e1, e2, wrap_nat, Nat.mod_eq_of_lt (Nat.lt_of_le_of_lt h1 hA)]
      have e3 : ((A.toNat / B.toNat : Nat) : Int) * u B = ((A.toNat / B.toNat * B.toNat : Nat) : Int) := by unfold u; push_cast; rfl
      rw [e3, wrap_nat, Nat.mod_eq_of_lt (Nat.lt_of_le_of_lt h2 hA)]
      unfold u
      rw [wrap_u32]
      generalize A.toNat / B.toNat * B.toNat = z at *
      generalize A.toNat % B.toNat = y at *
      omega
    · rfl
  simp only [cond_false]
theorem law3_true (n : Int) (A B : W) : fnV (cxF F0 4) 6 3 [.int .i64 n, .int .u32 (u A), .int .u32 (u B)] = some (.bool true) := by
  rw [law3]
  refine congrArg (fun b => some (AV.bool b)) ?_
  show (doXF n (u A) (u B) == rXF n (u A) (u B) && (doEF n == doEF n && (takenF n (u A) (u B) == rtakenF n (u A) (u B)))) = true
  rw [doX_eq, taken_eq]; simp
end Go.Proofs.Ytdeiiaemficjeaa
