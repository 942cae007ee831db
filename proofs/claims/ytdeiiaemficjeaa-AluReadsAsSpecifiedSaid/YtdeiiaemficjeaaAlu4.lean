/- The laws of the arithmetic, in plain terms: words as bits. -/
import Derived.Test.YtdeiiaemficjeaaAlu3
namespace Go.Proofs.Ytdeiiaemficjeaa
open Go.AE

abbrev W := BitVec 32
def u (A : W) : Int := (A.toNat : Int)
theorem ex_u {x : Int} (h : 0 ≤ x) (h2 : x < 4294967296) : ∃ A : W, x = u A := ⟨BitVec.ofNat 32 x.toNat, by simp [u]; omega⟩
theorem u_lt (A : W) : u A < 4294967296 := by have := A.isLt; unfold u; omega
theorem u_ge (A : W) : 0 ≤ u A := by unfold u; omega
theorem u_inj {A B : W} : u A = u B ↔ A = B := ⟨fun h => BitVec.eq_of_toNat_eq (by unfold u at h; omega), fun h => by rw [h]⟩
theorem u_beq (A B : W) : (u A == u B) = (A == B) := by
  by_cases h : A = B
  · subst h; rw [beq_self_eq_true, beq_self_eq_true]
  · have : ¬ u A = u B := fun e => h (u_inj.1 e)
    rw [beq_eq_false_iff_ne.2 h, beq_eq_false_iff_ne.2 this]
theorem wrap_nat (n : Nat) : IntKind.u32.wrap (n : Int) = ((n % 4294967296 : Nat) : Int) := by rw [wrap_u32]; omega
theorem ofInt_u (A : W) : BitVec.ofInt 32 (u A) = A := by simp [u]
theorem wrap_u (A : W) : IntKind.u32.wrap (A.toNat : Int) = u A := by rw [wrap_nat]; have := A.isLt; unfold u; omega
theorem d1 (A B : W) : doXF 1 (u A) (u B) = u (A + B) := by
  show IntKind.u32.wrap _ = _
  unfold u; rw [wrap_u32, BitVec.toNat_add]; omega
theorem d2 (A B : W) : doXF 2 (u A) (u B) = u (A - B) := by
  show IntKind.u32.wrap _ = _
  have := A.isLt; have := B.isLt
  unfold u; rw [wrap_u32, BitVec.toNat_sub]; omega
theorem d3 (A B : W) : doXF 3 (u A) (u B) = u (A &&& B) := by
  show ibits .and .u32 _ _ = _
  simp only [ibits, IntKind.bits, ofInt_u]
  exact wrap_u _
theorem d4 (A B : W) : doXF 4 (u A) (u B) = u (A ||| B) := by
  show ibits .or .u32 _ _ = _
  simp only [ibits, IntKind.bits, ofInt_u]
  exact wrap_u _
theorem d5 (A B : W) : doXF 5 (u A) (u B) = u (A ^^^ B) := by
  show ibits .xor .u32 _ _ = _
  simp only [ibits, IntKind.bits, ofInt_u]
  exact wrap_u _
theorem d8 (A B : W) : doXF 8 (u A) (u B) = u (A * B) := by
  show IntKind.u32.wrap _ = _
  unfold u
  rw [show ((A.toNat : Int) * (B.toNat : Int)) = ((A.toNat * B.toNat : Nat) : Int) from by push_cast; rfl, wrap_nat, BitVec.toNat_mul]
theorem F0d : F0.doX = doXF := rfl
theorem law5_true (A B C : W) : fnV (cxF F0 4) 6 5 [.int .u32 (u A), .int .u32 (u B), .int .u32 (u C)] = some (.bool true) := by
  rw [law5]
  have e0 : (0 : Int) = u 0 := rfl
  have e1 : (1 : Int) = u 1 := rfl
  refine congrArg (fun b => some (AV.bool b)) ?_
  simp only [F0d]
  have z1 : doXF 1 (u A) (doXF 2 0 (u A)) = u 0 := by
    rw [show doXF 2 0 (u A) = u (0 - A) from d2 0 A, d1]
    congr 1
    show A + (0#32 - A) = 0#32
    rw [BitVec.zero_sub, BitVec.add_right_neg]
  have z2 : doXF 8 (u A) 1 = u A := (d8 A 1).trans (by show u (A * 1#32) = _; rw [BitVec.mul_one])
  rw [z1, z2]
  simp only [d1, d2, d8, u_beq, Bool.and_eq_true, beq_iff_eq]
  refine ⟨⟨BitVec.add_comm _ _, BitVec.add_assoc _ _ _, BitVec.add_sub_cancel _ _, rfl⟩, ⟨BitVec.mul_comm _ _, BitVec.mul_assoc _ _ _, trivial⟩, BitVec.mul_add⟩
theorem law6_true (A B C : W) : fnV (cxF F0 4) 6 6 [.int .u32 (u A), .int .u32 (u B), .int .u32 (u C)] = some (.bool true) := by
  rw [law6]
  refine congrArg (fun b => some (AV.bool b)) ?_
  have e1 : (4294967295 : Int) = u (BitVec.allOnes 32) := rfl
  simp only [F0d, e1]
  simp only [d2, d3, d4, d5, u_beq, Bool.and_eq_true, beq_iff_eq]
  refine ⟨⟨BitVec.and_comm _ _, BitVec.or_comm _ _, BitVec.and_assoc _ _ _, BitVec.or_assoc _ _ _⟩, ⟨BitVec.and_or_distrib_left, ?_⟩, ?_, ?_, ?_⟩
  · ext i h
    simp only [BitVec.getElem_or, BitVec.getElem_and]
    cases A[i] <;> cases B[i] <;> rfl
  · ext i h
    simp only [BitVec.getElem_or, BitVec.getElem_and, BitVec.getElem_xor, BitVec.getElem_allOnes]
    cases A[i] <;> cases B[i] <;> rfl
  · ext i h
    simp only [BitVec.getElem_xor]
    cases A[i] <;> cases B[i] <;> rfl
  · have h : (A ^^^ B) + (A &&& B) = (A ^^^ B) ||| (A &&& B) := BitVec.add_eq_or_of_and_eq_zero _ _ (by
      ext i h
      simp only [BitVec.getElem_xor, BitVec.getElem_and, BitVec.getElem_zero]
      cases A[i] <;> cases B[i] <;> rfl)
    have h2 : (A ^^^ B) ||| (A &&& B) = A ||| B := by
      ext i h
      simp only [BitVec.getElem_or, BitVec.getElem_xor, BitVec.getElem_and]
      cases A[i] <;> cases B[i] <;> rfl
    rw [← h2, ← h, BitVec.add_sub_cancel]
end Go.Proofs.Ytdeiiaemficjeaa
