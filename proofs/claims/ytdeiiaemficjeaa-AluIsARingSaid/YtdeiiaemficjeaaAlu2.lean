/- The arithmetic's functions: what they return, shown of the program; and the laws in terms of it. -/
import Derived.Test.YtdeiiaemficjeaaAlu1
import Derived.Test.YtdeiiaemficjeaaEv31
namespace Go.Proofs.Ytdeiiaemficjeaa
open Go.AE

def wu (n : Int) : Int := IntKind.u32.wrap n
def wi (n : Int) : Int := IntKind.i64.wrap n
def pwF (k : Int) : Int := 2 ^ k.toNat
def bitF (x k : Int) : Int := (IntKind.u32.wrap (x.tdiv (pwF k))).tmod 2
def placeF (k : Int) : Int := cond (decide (k.tmod 4 < 0)) (IntKind.i64.wrap (k.tmod 4 + 4)) (k.tmod 4)
def shlF (b c : Int) : Int := IntKind.u32.wrap (b * 2 ^ min (ibits .and .u32 c 31).toNat 32)
def shrF (b c : Int) : Int := b.fdiv (2 ^ min (ibits .and .u32 c 31).toNat 32)
def divF (b c : Int) : Int := cond (c == 0) (ibits .xor .u32 (IntKind.u32.max) c) (IntKind.u32.wrap (b.tdiv c))
def remF (b c : Int) : Int := cond (c == 0) b (b.tmod c)
def oneF (p : Bool) : Int := cond p 1 0
def sgF (b : Int) : Int := IntKind.i64.wrap (IntKind.i32.wrap b)
def rsgF (b : Int) : Int := cond (decide (b < 2147483648)) (IntKind.i64.wrap b) (IntKind.i64.wrap (IntKind.i64.wrap b - 4294967296))
def doXF (n b c : Int) : Int :=
  cond (n == 1) (IntKind.u32.wrap (b + c)) (cond (n == 2) (IntKind.u32.wrap (b - c)) (cond (n == 3) (ibits .and .u32 b c) (cond (n == 4) (ibits .or .u32 b c) (cond (n == 5) (ibits .xor .u32 b c)
  (cond (n == 6) (shlF b c) (cond (n == 7) (shrF b c) (cond (n == 8) (IntKind.u32.wrap (b * c)) (cond (n == 9) (divF b c) (cond (n == 10) (remF b c) (cond (n == 11) (oneF (decide (IntKind.i32.wrap b < IntKind.i32.wrap c)))
  (cond (n == 12) (oneF (decide (b < c))) 0)))))))))))
def doEF (n : Int) : Int :=
  cond (n == 1) 0 (cond (n == 2) 0 (cond (n == 3) 0 (cond (n == 4) 0 (cond (n == 5) 0 (cond (n == 6) 0 (cond (n == 7) 0 (cond (n == 8) 0 (cond (n == 9) 0 (cond (n == 10) 0 (cond (n == 11) 0 (cond (n == 12) 0 1)))))))))))
def F1 : Fns := ⟨pwF, bitF, fun _ _ _ => 0, placeF, fun _ _ _ => 0, fun _ => 0, fun _ _ _ => 0, fun _ => 0, fun _ _ _ => true, fun _ _ _ => true, fun _ => true, fun _ _ => 0, fun _ _ => 0, sgF, rsgF, fun _ _ => 0, fun _ _ => 0, fun _ _ _ => 0, fun _ _ _ => 0⟩
def logicF (n b c : Int) : Int := lgN F1 n b c 32
def rXF (n b c : Int) : Int :=
  cond (n == 1) (wu (wi (wi b + wi c))) (cond (n == 2) (wu (wi (wi b - wi c)))
  (cond (cond (n == 3) (n == 3) (cond (n == 4) (n == 4) (n == 5))) (logicF n b c)
  (cond (n == 6) (wu (b * pwF (wi (c.tmod 32)))) (cond (n == 7) (wu (b.tdiv (pwF (wi (c.tmod 32)))))
  (cond (n == 8) (wu (b * c)) (cond (n == 9) (cond (c == 0) 4294967295 (wu (b.tdiv c))) (cond (n == 10) (cond (c == 0) b (wu (b - wu (wu (b.tdiv c) * c))))
  (cond (n == 11) (oneF (decide (rsgF b < rsgF c))) (cond (n == 12) (oneF (decide (b < c))) 0)))))))))
def takenF (n b c : Int) : Bool := cond (n == 28) (b == c) (cond (n == 29) (b != c) (cond (n == 30) (decide (IntKind.i32.wrap b < IntKind.i32.wrap c)) (cond (n == 31) (decide (b < c)) false)))
def rtakenF (n b c : Int) : Bool := cond (n == 28) (b == c) (cond (n == 29) (b != c) (cond (n == 30) (decide (rsgF b < rsgF c)) (cond (n == 31) (decide (b < c)) false)))
def extF (x n : Int) : Int := IntKind.u32.wrap ((IntKind.i32.wrap (IntKind.u32.wrap (x * 2 ^ min (IntKind.i64.wrap (32 - n)).toNat 32))).fdiv (2 ^ min (IntKind.i64.wrap (32 - n)).toNat 32))
def rextF (x n : Int) : Int := exN F1 x n 32
def atF (k : Int) : Int := IntKind.i64.wrap (8 * ibits .and .i64 k 3)
def byteF (x k : Int) : Int := IntKind.u8.wrap (x.fdiv (2 ^ min (atF k).toNat 32))
def setbF (x k b : Int) : Int := ibits .or .u32 (ibits .andNot .u32 x (IntKind.u32.wrap (255 * 2 ^ min (atF k).toNat 32))) (IntKind.u32.wrap (IntKind.u32.wrap b * 2 ^ min (atF k).toNat 32))
def rbyteF (x k : Int) : Int := IntKind.u8.wrap ((IntKind.u32.wrap (x.tdiv (pwF (wi (8 * placeF k))))).tmod 256)
def rsetbF (x k b : Int) : Int := wu (wu (x - wu (wu (rbyteF x k) * pwF (wi (8 * placeF k)))) + wu (wu b * pwF (wi (8 * placeF k))))
def F0 : Fns := ⟨pwF, bitF, logicF, placeF, doXF, doEF, rXF, doEF, takenF, rtakenF, fun n => decide (1 ≤ n) && decide (n ≤ 32), extF, rextF, sgF, rsgF, byteF, rbyteF, setbF, rsetbF⟩
theorem lgN_F (op b c : Int) : ∀ k, lgN F0 op b c k = lgN F1 op b c k
  | 0 => rfl
  | k + 1 => by simp only [lgN, lgN_F op b c k]; rfl
theorem exN_F (x n : Int) : ∀ k, exN F0 x n k = exN F1 x n k
  | 0 => rfl
  | k + 1 => by simp only [exN, exN_F x n k]; rfl

/-! plain facts that the walk needs -/
theorem pwN_eq (k : Int) : ∀ (m : Nat) (i : Nat) (n : Nat), k.toNat = i + m → k ≤ 31 → m < n → pwN k n i (2 ^ i) = some (.int .u32 (2 ^ k.toNat))
  | 0, i, n, h, hk, hn => by
    obtain ⟨n', rfl⟩ : ∃ n', n = n' + 1 := ⟨n - 1, by omega⟩
    have : decide ((i : Int) < k) = false := by simp; omega
    simp only [pwN, this, cond_false]
    rw [h, Nat.add_zero]
  | m + 1, i, n, h, hk, hn => by
    obtain ⟨n', rfl⟩ : ∃ n', n = n' + 1 := ⟨n - 1, by omega⟩
    have : decide ((i : Int) < k) = true := by simp; omega
    simp only [pwN, this, cond_true]
    have e1 : IntKind.i64.wrap ((i : Int) + 1) = ((i + 1 : Nat) : Int) := by rw [wrap_i64_id (by omega) (by omega)]; omega
    have e2 : IntKind.u32.wrap (2 * 2 ^ i) = 2 ^ (i + 1) := by
      have hle : (2 : Nat) ^ (i + 1) ≤ 2 ^ 31 := Nat.pow_le_pow_right (by omega) (by omega)
      have hle' : (2 : Int) ^ (i + 1) ≤ 2 ^ 31 := by exact_mod_cast hle
      have hpos : (0 : Int) < 2 ^ (i + 1) := Int.pow_pos (by omega)
      have hm : (2 : Int) * 2 ^ i = 2 ^ (i + 1) := by rw [Int.pow_succ, Int.mul_comm]
      rw [hm, wrap_u32_id (Int.le_of_lt hpos) (Int.lt_of_le_of_lt hle' (by decide))]
    rw [e1, e2]
    exact pwN_eq k m (i + 1) n' (by omega) hk (by omega)
theorem power_eq {k : Int} (h : k ≤ 31) : pwN k 40 0 1 = some (.int .u32 (pwF k)) := by
  have := pwN_eq k k.toNat 0 40 (by omega) h (by omega)
  simpa [pwF] using this
theorem pwF_pos (k : Int) : 0 < pwF k := by unfold pwF; exact Int.pow_pos (by omega)
theorem and31 (c : Int) : ibits .and .u32 c 31 = c % 32 := by
  have := ibits_and_mask (w := 32) .u32 5 c rfl (by omega) (by rw [wrap_u32]; omega)
  simpa using this
theorem and3 (k : Int) : ibits .and .i64 k 3 = k % 4 := by
  have := ibits_and_mask (w := 64) .i64 2 k rfl (by omega) (by rw [wrap_i64]; omega)
  simpa using this
theorem at_eq (k : Int) : atF k = 8 * (k % 4) := by unfold atF; rw [and3, wrap_i64_id] <;> omega
theorem place_eq (k : Int) : placeF k = k % 4 := by
  unfold placeF
  have h1 := Int.tmod_def k 4
  have h2 := Int.tdiv_eq_ediv (a := k) (b := 4)
  by_cases h : k.tmod 4 < 0
  · simp only [h, decide_true, cond_true]
    have : -4 < k.tmod 4 := by have := Int.lt_tmod_of_pos k (b := 4) (by omega); omega
    rw [wrap_i64_id (by omega) (by omega)]
    omega
  · simp only [h, decide_false, cond_false]
    have : k.tmod 4 < 4 := Int.tmod_lt_of_pos k (by omega)
    omega
end Go.Proofs.Ytdeiiaemficjeaa
