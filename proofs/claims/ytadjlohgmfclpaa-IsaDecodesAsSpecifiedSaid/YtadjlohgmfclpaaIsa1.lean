/- Instructions: what the functions return. -/
import Derived.Test.YtadjlohgmfclpaaIsa0
import Derived.Test.YtadjlohgmfclpaaEvC
set_option linter.unusedVariables false
set_option linter.unusedSimpArgs false
namespace Go.Proofs.Ytadjlohgmfclpaa
open Go.AE

abbrev Ia (o a b c m : Int) : AV := .agg 22 [.int .i64 o, .int .i64 a, .int .i64 b, .int .i64 c, .int .i64 m]
theorem Dk (k : Nat) (f : FuncId) (args : List AV) : D (k + 1) f args = fnV (cx (D k)) 6 f args := rfl
/-! ### the table of operations -/
def tabL : List AV := partsOf c_isa_table
def namL : List AV := listOf c_ref04_Names
theorem r_table (k : Nat) : Rt Pg (D (k + 1)) 39 [] c_isa_table := .of (nf_isa_table _) (by kernel_rfl)
theorem r_names (k : Nat) : Rt Pg (D (k + 1)) 40 [] c_ref04_Names := .of (nf_ref04_Names _) (by kernel_rfl)
def formI (a0 : Int) : Int :=
  let x0 : Bool := cond (decide ((28 : Int) ≤ a0)) (cond (decide (a0 ≤ 31)) true (a0 == 33)) (a0 == 33)
  cond (cond (decide ((1 : Int) ≤ a0)) (decide (a0 ≤ 12)) false) 1
    (cond (cond (a0 == 16) true (cond (decide ((20 : Int) ≤ a0)) (cond (decide (a0 ≤ 24)) true x0) x0)) 2
     (cond (cond (a0 == 17) true (cond (a0 == 32) true (cond (a0 == 42) true (cond (a0 == 43) true (cond (a0 == 46) true (a0 == 47)))))) 3
      (cond (a0 == 44) 4 (cond (cond (a0 == 40) true (cond (a0 == 41) true (cond (a0 == 45) true (a0 == 48)))) 5 0))))
def nameN (n : Nat) : List UInt8 := strOf (namL.getD n .dead)
def nameS (a : Int) : List UInt8 := cond (cond (decide ((0 : Int) ≤ a)) (decide (a < 49)) false) (nameN a.toNat) []
theorem form_tab : ∀ n : Nat, n < 49 → intOf ((partsOf (tabL.getD n .dead)).getD 1 .dead) = formI n := by decide +kernel
theorem name_tab : ∀ n : Nat, n < 49 → strOf ((partsOf (tabL.getD n .dead)).getD 0 .dead) = nameN n := by decide +kernel
theorem namL_len : namL.length = 49 := by decide +kernel
theorem out49 {a : Int} (h : ¬ (0 ≤ a ∧ a < 49)) : (cond (decide ((0 : Int) ≤ a)) (decide (a < 49)) false) = false := by
  by_cases h1 : 0 ≤ a
  · simp [h1]; omega
  · simp [h1]
theorem in49 {a : Int} (h : 0 ≤ a ∧ a < 49) : (cond (decide ((0 : Int) ≤ a)) (decide (a < 49)) false) = true := by simp [h.1, h.2]
theorem inB49 {a : Int} (h : 0 ≤ a ∧ a < 49) : inB a 49 = true := by simp [inB]; omega
theorem form_out {a : Int} (h : ¬ (0 ≤ a ∧ a < 49)) : formI a = 0 := by
  have n : ∀ k : Int, 0 ≤ k → k < 49 → (a == k) = false := fun k h1 h2 => by simp; omega
  have hab : a < 0 ∨ 49 ≤ a := by omega
  have l : ∀ p q : Int, 0 ≤ p → p ≤ q → q < 49 → ∀ x : Bool, (cond (decide (p ≤ a)) (cond (decide (a ≤ q)) true x) x) = x := fun p q h1 h2 h3 x => by
    rcases hab with h | h
    · rw [decide_eq_false (by omega : ¬ p ≤ a)]; rfl
    · rw [decide_eq_true (by omega : p ≤ a), decide_eq_false (by omega : ¬ a ≤ q)]; rfl
  unfold formI
  have e0 : (cond (decide ((1 : Int) ≤ a)) (decide (a ≤ 12)) false) = false := by
    rcases hab with h | h
    · rw [decide_eq_false (by omega : ¬ 1 ≤ a)]; rfl
    · rw [decide_eq_true (by omega : 1 ≤ a), decide_eq_false (by omega : ¬ a ≤ 12)]; rfl
  simp only [l 28 31 (by omega) (by omega) (by omega), l 20 24 (by omega) (by omega) (by omega), e0, n 16 (by omega) (by omega), n 33 (by omega) (by omega), n 17 (by omega) (by omega), n 32 (by omega) (by omega), n 42 (by omega) (by omega), n 43 (by omega) (by omega),
    n 46 (by omega) (by omega), n 47 (by omega) (by omega), n 44 (by omega) (by omega), n 40 (by omega) (by omega), n 41 (by omega) (by omega), n 45 (by omega) (by omega), n 48 (by omega) (by omega), cond_true, cond_false]
theorem r_rform (k : Nat) (a : Int) : Rt Pg (D (k + 1)) 28 [.int .i64 a] (.int .i64 (formI a)) := .of (by
  rw [Dk, nf_ref04_Form]
  simp only [pI]
  rfl) (by kernel_rfl)
theorem r_form (k : Nat) (a : Int) : Rt Pg (D (k + 2)) 24 [.int .i64 a] (.int .i64 (formI a)) := .of (by
  rw [Dk, nf_isa_Form, (r_table k).ok, (r_table k).val]
  show cond true (cond _ (cond _ (some (AV.int .i64 (intOf ((partsOf (tabL.getD a.toNat .dead)).getD 1 .dead)))) none) _) none = _
  by_cases h : 0 ≤ a ∧ a < 49
  · obtain ⟨n, rfl⟩ : ∃ n : Nat, a = n := ⟨a.toNat, by omega⟩
    rw [in49 h, inB49 h, Int.toNat_natCast, form_tab n (by omega)]; rfl
  · rw [out49 h, form_out h]; rfl) (by kernel_rfl)
theorem r_name (k : Nat) (a : Int) : Rt Pg (D (k + 2)) 23 [.int .i64 a] (.str (nameS a)) := .of (by
  rw [Dk, nf_isa_Name, (r_table k).ok, (r_table k).val]
  show cond true (cond _ (cond _ (some (AV.str (strOf ((partsOf (tabL.getD a.toNat .dead)).getD 0 .dead)))) none) _) none = _
  unfold nameS
  by_cases h : 0 ≤ a ∧ a < 49
  · obtain ⟨n, rfl⟩ : ∃ n : Nat, a = n := ⟨a.toNat, by omega⟩
    rw [in49 h, inB49 h, Int.toNat_natCast, name_tab n (by omega)]; rfl
  · rw [out49 h]; rfl) (by kernel_rfl)
theorem r_rname (k : Nat) (a : Int) : Rt Pg (D (k + 2)) 29 [.int .i64 a] (.str (nameS a)) := .of (by
  rw [Dk, nf_ref04_Name, (r_names k).ok, (r_names k).val]
  show cond true (cond (cond _ true (decide (((namL.length : Nat) : Int) ≤ a))) _ (cond (inB a namL.length) (some (AV.str (nameN a.toNat))) none)) none = _
  rw [namL_len]
  unfold nameS
  by_cases h : 0 ≤ a ∧ a < 49
  · rw [in49 h, inB49 h, decide_eq_false (by omega : ¬ a < 0), decide_eq_false (by omega : ¬ ((49 : Nat) : Int) ≤ a)]; rfl
  · rw [out49 h]
    by_cases h1 : a < 0
    · rw [decide_eq_true h1]; rfl
    · rw [decide_eq_false h1, decide_eq_true (by omega : ((49 : Nat) : Int) ≤ a)]; rfl) (by kernel_rfl)
/-! ### finding a name -/
/-- The first of m places from i on that has this name; -1: none. -/
def findN (s : List UInt8) : Nat → Nat → Option Nat
  | 0, _ => none
  | m + 1, i => cond (cond (!(s == [])) (nameN i == s) false) (some i) (findN s m (i + 1))
def findI (s : List UInt8) : Int := match findN s 49 0 with | some i => i | none => 0
def loF : Option Nat → LO
  | some i => ⟨1, [(i : Int)], [], [], [], [], []⟩
  | none => ⟨2, [], [], [], [], [], []⟩
theorem lf_find (F : Tab) (s : List UInt8) : ∀ (m i fuel : Nat), i + m = 49 → m < fuel → lf_isa_Find_2 F s tabL fuel (i : Int) = loF (findN s m i)
  | 0, i, fuel, hi, hf => by
    obtain ⟨fuel, rfl⟩ : ∃ f, fuel = f + 1 := ⟨fuel - 1, by omega⟩
    unfold lf_isa_Find_2
    rw [decide_eq_false (by omega : ¬ (i : Int) < 49)]; rfl
  | m + 1, i, fuel, hi, hf => by
    obtain ⟨fuel, rfl⟩ : ∃ f, fuel = f + 1 := ⟨fuel - 1, by omega⟩
    unfold lf_isa_Find_2
    rw [decide_eq_true (by omega : (i : Int) < 49), inB49 (by omega), Int.toNat_natCast, name_tab i (by omega), wrap_i64_id (by omega) (by omega), show (i : Int) + 1 = ((i + 1 : Nat) : Int) from by omega, lf_find F s m (i + 1) fuel (by omega) (by omega)]
    simp only [cond_true, findN]
    cases (cond (!(s == [])) (nameN i == s) false) <;> rfl
theorem lf_rfind (F : Tab) (s : List UInt8) : ∀ (m i fuel : Nat), i + m = 49 → m < fuel → lf_ref04_Find_3 F s namL fuel (i : Int) = loF (findN s m i)
  | 0, i, fuel, hi, hf => by
    obtain ⟨fuel, rfl⟩ : ∃ f, fuel = f + 1 := ⟨fuel - 1, by omega⟩
    unfold lf_ref04_Find_3
    rw [namL_len, decide_eq_false (by omega : ¬ (i : Int) < ((49 : Nat) : Int))]; rfl
  | m + 1, i, fuel, hi, hf => by
    obtain ⟨fuel, rfl⟩ : ∃ f, fuel = f + 1 := ⟨fuel - 1, by omega⟩
    unfold lf_ref04_Find_3
    rw [namL_len, decide_eq_true (by omega : (i : Int) < ((49 : Nat) : Int)), inB49 (by omega), Int.toNat_natCast, wrap_i64_id (by omega) (by omega), show (i : Int) + 1 = ((i + 1 : Nat) : Int) from by omega, lf_rfind F s m (i + 1) fuel (by omega) (by omega)]
    show cond true (cond (cond true true false) (cond (cond (nameN i == s) (!(s == [])) false) _ _) _) _ = _
    simp only [cond_true, findN]
    cases (nameN i == s) <;> cases (s == []) <;> rfl
theorem r_find (k : Nat) (s : List UInt8) : Rt Pg (D (k + 2)) 25 [.str s] (.int .i64 (findI s)) := .of (by
  rw [Dk, nf_isa_Find, (r_table k).ok, (r_table k).val]
  have h : lf_isa_Find_2 (D (k + 1)) s (partsOf c_isa_table) 100000 0 = loF (findN s 49 0) := lf_find _ s 49 0 100000 rfl (by omega)
  rw [h]
  unfold findI
  cases findN s 49 0 <;> rfl) (by kernel_rfl)
theorem r_rfind (k : Nat) (s : List UInt8) : Rt Pg (D (k + 2)) 32 [.str s] (.int .i64 (findI s)) := .of (by
  rw [Dk, nf_ref04_Find, (r_names k).ok, (r_names k).val]
  have h : lf_ref04_Find_3 (D (k + 1)) s (listOf c_ref04_Names) 100000 0 = loF (findN s 49 0) := lf_rfind _ s 49 0 100000 rfl (by omega)
  rw [h]
  unfold findI
  cases findN s 49 0 <;> rfl) (by kernel_rfl)
end Go.Proofs.Ytadjlohgmfclpaa
