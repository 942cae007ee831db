/- Instructions: what is right, words, registers. -/
import Derived.Test.YtadjlohgmfclpaaIsa1
set_option linter.unusedVariables false
set_option linter.unusedSimpArgs false
namespace Go.Proofs.Ytadjlohgmfclpaa
open Go.AE

def inR (n : Int) : Prop := 0 ≤ n ∧ n < 16
def imm (m : Int) : Prop := -131072 ≤ m ∧ m ≤ 131071
def RP (f a b c m : Int) : Prop := (f = 1 ∧ inR a ∧ inR b ∧ inR c ∧ m = 0) ∨ (f = 2 ∧ inR a ∧ inR b ∧ c = 0 ∧ imm m) ∨ (f = 3 ∧ inR a ∧ b = 0 ∧ c = 0 ∧ imm m) ∨ (f = 4 ∧ a = 0 ∧ inR b ∧ c = 0 ∧ m = 0) ∨ (f = 5 ∧ a = 0 ∧ b = 0 ∧ c = 0 ∧ m = 0)
instance (f a b c m : Int) : Decidable (RP f a b c m) := by unfold RP inR imm; infer_instance
def rgt (o a b c m : Int) : Bool := decide (RP (formI o) a b c m)
def hasB (f n : Int) : Bool := cond (f == 1) (decide (n ≤ 3)) (cond (f == 2) (n != 3) (cond (f == 3) (cond (n == 1) true (n == 4)) (cond (f == 4) (n == 2) false)))
def regB (a : Int) (h : Bool) : Bool := cond (a == 0) true (cond h (cond (decide ((1 : Int) ≤ a)) (decide (a < 16)) false) false)
theorem r_has (k : Nat) (f n : Int) : Rt Pg (D (k + 1)) 35 [.int .i64 f, .int .i64 n] (.bool (hasB f n)) := .of (by
  rw [Dk, nf_ref04_Has]
  simp only [pB]
  rfl) (by kernel_rfl)
theorem r_reg (k : Nat) (a : Int) (h : Bool) : Rt Pg (D (k + 1)) 34 [.int .i64 a, .bool h] (.bool (regB a h)) := .of (nf_ref04_register _ _ _) (by kernel_rfl)
theorem r_right (k : Nat) (o a b c m : Int) : Rt Pg (D (k + 3)) 11 [Ia o a b c m] (.bool (rgt o a b c m)) := .of (by
  rw [Dk, nf_isa_Right]
  simp only [(r_form (k) o).ok, (r_form k o).val, iO, cond_true, pB, rgt]
  generalize formI o = f
  congr 2
  rw [Bool.eq_iff_iff, decide_eq_true_iff]
  by_cases h1 : f = 1
  · subst h1; simp [RP, inR, imm, c_and] <;> omega
  by_cases h2 : f = 2
  · subst h2; simp [RP, inR, imm, c_and] <;> omega
  by_cases h3 : f = 3
  · subst h3; simp [RP, inR, imm, c_and] <;> omega
  by_cases h4 : f = 4
  · subst h4; simp [RP, inR, imm, c_and] <;> omega
  by_cases h5 : f = 5
  · subst h5; simp [RP, inR, imm, c_and]
  simp [RP, h1, h2, h3, h4, h5]) (by kernel_rfl)
theorem form_le : ∀ n : Nat, n < 49 → 0 ≤ formI n ∧ formI n ≤ 5 := by decide +kernel
theorem form_range (o : Int) : 0 ≤ formI o ∧ formI o ≤ 5 := by
  by_cases h : 0 ≤ o ∧ o < 49
  · obtain ⟨n, rfl⟩ : ∃ n : Nat, o = n := ⟨o.toNat, by omega⟩
    exact form_le n (by omega)
  · rw [form_out h]; omega
theorem r_rright (k : Nat) (o a b c m : Int) : Rt Pg (D (k + 2)) 12 [Ia o a b c m] (.bool (rgt o a b c m)) := .of (by
  rw [Dk, nf_ref04_Right]
  simp only [(r_rform k o).ok, (r_rform k o).val, iO, bO, (r_has k _ _).ok, (r_has k _ _).val, (r_reg k _ _).ok, (r_reg k _ _).val, cond_true, condB_tt, pB, rgt]
  have hf := form_range o
  generalize formI o = f at *
  congr 2
  rw [Bool.eq_iff_iff, decide_eq_true_iff]
  have : f = 0 ∨ f = 1 ∨ f = 2 ∨ f = 3 ∨ f = 4 ∨ f = 5 := by omega
  rcases this with rfl | rfl | rfl | rfl | rfl | rfl <;> simp [RP, inR, imm, hasB, regB, c_and, c_or] <;> omega) (by kernel_rfl)
end Go.Proofs.Ytadjlohgmfclpaa
