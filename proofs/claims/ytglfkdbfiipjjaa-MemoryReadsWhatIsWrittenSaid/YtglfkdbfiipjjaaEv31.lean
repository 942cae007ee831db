/- Whole numbers of a kind: plain facts. -/
import Derived.Test.YtglfkdbfiipjjaaEv30
set_option linter.unusedVariables false
set_option linter.unusedSimpArgs false
namespace Go.AE

theorem wrap_u8 (n : Int) : IntKind.u8.wrap n = n % 256 := by simp [IntKind.wrap, IntKind.bits, IntKind.signed]
theorem wrap_u16 (n : Int) : IntKind.u16.wrap n = n % 65536 := by simp [IntKind.wrap, IntKind.bits, IntKind.signed]
theorem wrap_u32 (n : Int) : IntKind.u32.wrap n = n % 4294967296 := by simp [IntKind.wrap, IntKind.bits, IntKind.signed]
theorem wrap_u64 (n : Int) : IntKind.u64.wrap n = n % 18446744073709551616 := by simp [IntKind.wrap, IntKind.bits, IntKind.signed]
theorem wrap_i32 (n : Int) : IntKind.i32.wrap n = (n + 2147483648) % 4294967296 - 2147483648 := by
  simp [IntKind.wrap, IntKind.bits, IntKind.signed]
  split <;> omega
theorem wrap_i64 (n : Int) : IntKind.i64.wrap n = (n + 9223372036854775808) % 18446744073709551616 - 9223372036854775808 := by
  simp [IntKind.wrap, IntKind.bits, IntKind.signed]
  split <;> omega
theorem wrap_i64_id {n : Int} (h1 : -9223372036854775808 ≤ n) (h2 : n < 9223372036854775808) : IntKind.i64.wrap n = n := by
  rw [wrap_i64]; omega
theorem wrap_u32_id {n : Int} (h1 : 0 ≤ n) (h2 : n < 4294967296) : IntKind.u32.wrap n = n := by
  rw [wrap_u32]; omega
theorem wrap_u8_id {n : Int} (h1 : 0 ≤ n) (h2 : n < 256) : IntKind.u8.wrap n = n := by
  rw [wrap_u8]; omega
theorem ofInt_toNat {w : Nat} {x : Int} (h1 : 0 ≤ x) (h2 : x < 2 ^ w) : (BitVec.ofInt w x).toNat = x.toNat := by
  rw [BitVec.toNat_ofInt]
  have : x % (2 ^ w : Nat) = x := Int.emod_eq_of_lt h1 (by exact_mod_cast h2)
  rw [this]
theorem lt_two_pow_of {w : Nat} {x : Int} (h1 : 0 ≤ x) (h2 : x < 2 ^ w) : x.toNat < 2 ^ w := by
  have : ((2 ^ w : Nat) : Int) = 2 ^ w := by norm_cast
  omega
theorem ibits_and_u32 {x y : Int} (hx : 0 ≤ x) (hx2 : x < 4294967296) (hy : 0 ≤ y) (hy2 : y < 4294967296) : ibits .and .u32 x y = ((x.toNat &&& y.toNat : Nat) : Int) := by
  have h1 := ofInt_toNat (w := 32) hx (by simpa using hx2)
  have h2 := ofInt_toNat (w := 32) hy (by simpa using hy2)
  have hl : x.toNat &&& y.toNat < 2 ^ 32 := Nat.and_lt_two_pow _ (lt_two_pow_of hy (by simpa using hy2))
  have e : (BitVec.ofInt 32 x &&& BitVec.ofInt 32 y).toNat = x.toNat &&& y.toNat := by rw [BitVec.toNat_and, h1, h2]
  show IntKind.u32.wrap ((BitVec.ofInt 32 x &&& BitVec.ofInt 32 y).toNat : Int) = _
  rw [e, wrap_u32_id (by omega) (by simp at hl; omega)]
theorem ibits_or_u32 {x y : Int} (hx : 0 ≤ x) (hx2 : x < 4294967296) (hy : 0 ≤ y) (hy2 : y < 4294967296) : ibits .or .u32 x y = ((x.toNat ||| y.toNat : Nat) : Int) := by
  have h1 := ofInt_toNat (w := 32) hx (by simpa using hx2)
  have h2 := ofInt_toNat (w := 32) hy (by simpa using hy2)
  have hl : x.toNat ||| y.toNat < 2 ^ 32 := Nat.or_lt_two_pow (lt_two_pow_of hx (by simpa using hx2)) (lt_two_pow_of hy (by simpa using hy2))
  have e : (BitVec.ofInt 32 x ||| BitVec.ofInt 32 y).toNat = x.toNat ||| y.toNat := by rw [BitVec.toNat_or, h1, h2]
  show IntKind.u32.wrap ((BitVec.ofInt 32 x ||| BitVec.ofInt 32 y).toNat : Int) = _
  rw [e, wrap_u32_id (by omega) (by simp at hl; omega)]
theorem ibits_xor_u32 {x y : Int} (hx : 0 ≤ x) (hx2 : x < 4294967296) (hy : 0 ≤ y) (hy2 : y < 4294967296) : ibits .xor .u32 x y = ((x.toNat ^^^ y.toNat : Nat) : Int) := by
  have h1 := ofInt_toNat (w := 32) hx (by simpa using hx2)
  have h2 := ofInt_toNat (w := 32) hy (by simpa using hy2)
  have hl : x.toNat ^^^ y.toNat < 2 ^ 32 := Nat.xor_lt_two_pow (lt_two_pow_of hx (by simpa using hx2)) (lt_two_pow_of hy (by simpa using hy2))
  have e : (BitVec.ofInt 32 x ^^^ BitVec.ofInt 32 y).toNat = x.toNat ^^^ y.toNat := by rw [BitVec.toNat_xor, h1, h2]
  show IntKind.u32.wrap ((BitVec.ofInt 32 x ^^^ BitVec.ofInt 32 y).toNat : Int) = _
  rw [e, wrap_u32_id (by omega) (by simp at hl; omega)]
theorem ibits_u32_range (op : BinOp) (x y : Int) : 0 ≤ ibits op .u32 x y ∧ ibits op .u32 x y < 4294967296 := by
  unfold ibits
  split <;> (rw [wrap_u32]; omega)
theorem ibits_and_mask {w : Nat} (k : IntKind) (m : Nat) (x : Int) (hk : k.bits = w) (hm : m < w) (hw : k.wrap ((x % 2 ^ m).toNat : Int) = x % 2 ^ m) : ibits .and k x (2 ^ m - 1) = x % 2 ^ m := by
  have hp : (2 : Nat) ^ m < 2 ^ w := Nat.pow_lt_pow_right (by omega) hm
  have hpos : 0 < (2 : Nat) ^ m := Nat.two_pow_pos m
  have e1 : ((2 ^ m : Nat) : Int) = 2 ^ m := by norm_cast
  have h2 : (BitVec.ofInt w ((2 : Int) ^ m - 1)).toNat = 2 ^ m - 1 := by
    rw [ofInt_toNat (by omega) (by have : ((2 ^ w : Nat) : Int) = 2 ^ w := by norm_cast
                                   omega)]
    omega
  have h1 : (BitVec.ofInt w x).toNat = (x % (2 ^ w : Nat)).toNat := by rw [BitVec.toNat_ofInt]
  subst hk
  simp only [ibits, BitVec.toNat_and, h1, h2]
  rw [Nat.and_two_pow_sub_one_eq_mod]
  have e2 : (x % (2 ^ k.bits : Nat)).toNat % 2 ^ m = (x % 2 ^ m).toNat := by
    have hd : ((2 ^ m : Nat) : Int) ∣ ((2 ^ k.bits : Nat) : Int) := by
      exact_mod_cast Nat.pow_dvd_pow 2 (Nat.le_of_lt hm)
    have h3 : 0 ≤ x % (2 ^ k.bits : Nat) := Int.emod_nonneg _ (by have := Nat.two_pow_pos k.bits; omega)
    have h4 : x % (2 ^ k.bits : Nat) % (2 ^ m : Nat) = x % (2 ^ m : Nat) := Int.emod_emod_of_dvd _ hd
    have h5 : 0 ≤ x % (2 ^ m : Nat) := Int.emod_nonneg _ (by omega)
    rw [e1] at h4 h5
    apply Int.ofNat.inj
    show (((x % (2 ^ k.bits : Nat)).toNat % 2 ^ m : Nat) : Int) = ((x % 2 ^ m).toNat : Int)
    rw [Int.natCast_emod, Int.toNat_of_nonneg h3, e1, h4, Int.toNat_of_nonneg h5]
  rw [e2, hw]
end Go.AE
