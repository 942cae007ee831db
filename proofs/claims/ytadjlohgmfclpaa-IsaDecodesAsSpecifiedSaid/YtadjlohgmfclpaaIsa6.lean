/- Instructions: the laws about names and targets. -/
import Derived.Test.YtadjlohgmfclpaaIsa5
set_option linter.unusedVariables false
set_option linter.unusedSimpArgs false
namespace Go.Proofs.Ytadjlohgmfclpaa
open Go.AE

theorem law8_true (k : Nat) (o : Int) (s : List UInt8) : D (k + 12) 8 [.int .i64 o, .str s] = some (.bool true) := by
  rw [Dk, nf_law04_IsaNamesAsSpecified]
  simp only [(r_sanity (k + 2)).ok, (r_sanity (k + 2)).val, (r_access (k + 10) o).ok, (r_access (k + 10) o).val, (r_raccess (k + 10) o).ok, (r_raccess (k + 10) o).val, (r_form (k + 9) o).ok, (r_form (k + 9) o).val, (r_rform (k + 10) o).ok, (r_rform (k + 10) o).val,
    (r_name (k + 9) o).ok, (r_name (k + 9) o).val, (r_rname (k + 9) o).ok, (r_rname (k + 9) o).val, (r_priv (k + 10) o).ok, (r_priv (k + 10) o).val, (r_rpriv (k + 10) o).ok, (r_rpriv (k + 10) o).val, (r_find (k + 9) s).ok, (r_find (k + 9) s).val, (r_rfind (k + 9) s).ok, (r_rfind (k + 9) s).val,
    tO, pO, g0, g1, iO, bO, sO, cond_true, beq_self_eq_true, condB_tt, cond_same]
/-! ### names -/
def lowB (s : List UInt8) : Bool := s.all fun b => decide (97 ≤ b.toNat) && decide (b.toNat ≤ 122)
def namOK (n : Nat) : Bool := ((nameN n == []) == (formI n == 0)) && (lowB (nameN n) && (decide ((nameN n).length < 100) && ((nameN n == []) || decide (findN (nameN n) 49 0 = some n))))
theorem nam_tab : ∀ n : Nat, n < 49 → namOK n = true := by decide +kernel
theorem name_out {a : Int} (h : ¬ (0 ≤ a ∧ a < 49)) : nameS a = [] := by unfold nameS; rw [out49 h]; rfl
theorem name_in {n : Nat} (h : n < 49) : nameS (n : Int) = nameN n := by unfold nameS; rw [in49 (by omega), Int.toNat_natCast]; rfl
theorem name_facts (a : Int) : (nameS a == []) = (formI a == 0) ∧ lowB (nameS a) = true ∧ (nameS a).length < 100 ∧ (nameS a ≠ [] → findI (nameS a) = a) := by
  by_cases h : 0 ≤ a ∧ a < 49
  · obtain ⟨n, rfl⟩ : ∃ n : Nat, a = n := ⟨a.toNat, by omega⟩
    have := nam_tab n (by omega)
    simp only [namOK, Bool.and_eq_true, Bool.or_eq_true, decide_eq_true_eq, beq_iff_eq] at this
    obtain ⟨h1, h2, h3, h4⟩ := this
    rw [name_in (by omega)]
    refine ⟨h1, h2, h3, fun hne => ?_⟩
    unfold findI
    rw [h4.resolve_left hne]
  · rw [name_out h, form_out h]
    exact ⟨rfl, rfl, by simp, fun h => absurd rfl h⟩
theorem lf_low (F : Tab) (s : List UInt8) (hlow : lowB s = true) (hl : s.length < 1000) : ∀ (m i fuel : Nat), i + m = s.length → m < fuel → lf_law04_IsaNamesAreOneToOne_5 F s fuel (i : Int) = ⟨2, [], [], [], [], [], []⟩
  | 0, i, fuel, hi, hf => by
    obtain ⟨fuel, rfl⟩ : ∃ f, fuel = f + 1 := ⟨fuel - 1, by omega⟩
    unfold lf_law04_IsaNamesAreOneToOne_5
    rw [decide_eq_false (by omega : ¬ (i : Int) < ((s.length : Nat) : Int))]; rfl
  | m + 1, i, fuel, hi, hf => by
    obtain ⟨fuel, rfl⟩ : ∃ f, fuel = f + 1 := ⟨fuel - 1, by omega⟩
    unfold lf_law04_IsaNamesAreOneToOne_5
    have h0 : inB (i : Int) s.length = true := by simp [inB]; omega
    have hb : 97 ≤ (s.getD i 0).toNat ∧ (s.getD i 0).toNat ≤ 122 := by
      unfold lowB at hlow
      rw [List.all_eq_true] at hlow
      have hm : s.getD i 0 ∈ s := by
        have : i < s.length := by omega
        simp [List.getD, this]
      simpa using hlow _ hm
    rw [decide_eq_true (by omega : (i : Int) < ((s.length : Nat) : Int)), h0, Int.toNat_natCast, decide_eq_false (by omega : ¬ (((s.getD i 0).toNat : Nat) : Int) < 97), decide_eq_false (by omega : ¬ (122 : Int) < (((s.getD i 0).toNat : Nat) : Int)), wrap_i64_id (by omega) (by omega),
      show (i : Int) + 1 = ((i + 1 : Nat) : Int) from by omega, lf_low F s hlow hl m (i + 1) fuel (by omega) (by omega)]
    rfl
theorem find_nil : findI [] = 0 := by decide +kernel
theorem law6_true (k : Nat) (a b : Int) : D (k + 12) 6 [.int .i64 a, .int .i64 b] = some (.bool true) := by
  rw [Dk, nf_law04_IsaNamesAreOneToOne]
  obtain ⟨h1, h2, h3, h4⟩ := name_facts a
  obtain ⟨_, _, _, h4b⟩ := name_facts b
  have hl := lf_low (D (k + 11)) (nameS a) h2 (by omega) (nameS a).length 0 100000 (by omega) (by omega)
  rw [show ((0 : Nat) : Int) = 0 from rfl] at hl
  simp only [(r_sanity (k + 2)).ok, (r_sanity (k + 2)).val, (r_form (k + 9) _).ok, (r_form (k + 9) _).val, (r_name (k + 9) _).ok, (r_name (k + 9) _).val, (r_find (k + 9) _).ok, (r_find (k + 9) _).val, iO, bO, sO, cond_true, condB_tt, cond_same, hl, h1, find_nil, beq_self_eq_true]
  have e1 : ((!(formI a == 0)) == (formI a != 0)) = true := by cases h : (formI a == 0) <;> simp [bne, h]
  rw [e1]
  cases hf : (formI a == 0) with
  | true => rfl
  | false =>
    have hne : nameS a ≠ [] := by
      intro e
      rw [e] at h1
      rw [hf] at h1
      cases h1
    have e2 : (findI (nameS a) != a) = false := by rw [h4 hne]; simp
    have e3 : cond (nameS a == nameS b) (a != b) false = false := by
      cases hab : (nameS a == nameS b) with
      | false => rfl
      | true =>
        have hab := eq_of_beq hab
        have := h4 hne
        rw [hab, h4b (by rw [← hab]; exact hne)] at this
        simp [this]
    simp only [Bool.not_true, Bool.not_false, cond_true, cond_false, e2, e3]
    rfl
/-! ### targets -/
theorem rdF_get {q : Nat → Bool} : ∀ (m i j : Nat), j < (rdF q m i).length → ∃ n : Nat, (rdF q m i).getD j .dead = .int .i64 n ∧ i ≤ n ∧ n < i + m ∧ (0 < j → ∃ n' : Nat, (rdF q m i).getD (j - 1) .dead = .int .i64 n' ∧ n' < n)
  | 0, i, j, h => by simp [rdF] at h
  | m + 1, i, j, h => by
    rw [rdF_succ] at h ⊢
    cases hq : q i with
    | false =>
      rw [hq, cond_false] at h
      rw [cond_false]
      obtain ⟨n, e1, e2, e3, e4⟩ := rdF_get m (i + 1) j h
      exact ⟨n, e1, by omega, by omega, e4⟩
    | true =>
      rw [hq, cond_true] at h
      rw [cond_true]
      cases j with
      | zero => exact ⟨i, rfl, Nat.le_refl _, by omega, fun h => absurd h (by omega)⟩
      | succ j =>
        simp only [List.length_cons] at h
        obtain ⟨n, e1, e2, e3, e4⟩ := rdF_get (q := q) m (i + 1) j (by omega)
        refine ⟨n, e1, by omega, by omega, fun _ => ?_⟩
        cases j with
        | zero => exact ⟨i, rfl, by omega⟩
        | succ j => exact e4 (by omega)
theorem lf_asc (F : Tab) (l : List AV) (hl : l.length < 1000) (hg : ∀ j, j < l.length → ∃ n : Nat, l.getD j .dead = .int .i64 n ∧ 1 ≤ n ∧ n < 16 ∧ (0 < j → ∃ n' : Nat, l.getD (j - 1) .dead = .int .i64 n' ∧ n' < n)) (pc o a b c m : Int) :
    ∀ (r i fuel : Nat), i + r = l.length → r < fuel → lf_law04_IsaTargetsTurnBack_5 F pc l l ((l.length : Nat) : Int) o a b c m fuel (i : Int) = ⟨2, [], [], [], [], [], []⟩
  | 0, i, fuel, hi, hf => by
    obtain ⟨fuel, rfl⟩ : ∃ f, fuel = f + 1 := ⟨fuel - 1, by omega⟩
    unfold lf_law04_IsaTargetsTurnBack_5
    rw [decide_eq_false (by omega : ¬ (i : Int) < ((l.length : Nat) : Int))]; rfl
  | r + 1, i, fuel, hi, hf => by
    obtain ⟨fuel, rfl⟩ : ∃ f, fuel = f + 1 := ⟨fuel - 1, by omega⟩
    obtain ⟨n, e1, e2, e3, e4⟩ := hg i (by omega)
    unfold lf_law04_IsaTargetsTurnBack_5
    have h0 : inB (i : Int) l.length = true := by simp [inB]; omega
    rw [decide_eq_true (by omega : (i : Int) < ((l.length : Nat) : Int)), h0, Int.toNat_natCast, e1, iO, decide_eq_false (by omega : ¬ (n : Int) < 1), decide_eq_false (by omega : ¬ (16 : Int) ≤ (n : Int)), wrap_i64_id (n := (i : Int) + 1) (by omega) (by omega), wrap_i64_id (n := (i : Int) - 1) (by omega) (by omega),
      show (i : Int) + 1 = ((i + 1 : Nat) : Int) from by omega, lf_asc F l hl hg pc o a b c m r (i + 1) fuel (by omega) (by omega)]
    by_cases hp : 0 < i
    · obtain ⟨n', e5, e6⟩ := e4 hp
      have h2 : inB ((i : Int) - 1) l.length = true := by simp [inB]; omega
      rw [decide_eq_true (by omega : (0 : Int) < (i : Int)), h2, show ((i : Int) - 1).toNat = i - 1 from by omega, e5, iO, decide_eq_false (by omega : ¬ (n : Int) ≤ (n' : Int))]
      rfl
    · rw [decide_eq_false (by omega : ¬ (0 : Int) < (i : Int)), show condB false (cond (inB ((i : Int) - 1) l.length) true false) true = true from by rw [condB_t']; rfl]
      rfl
theorem wr_eq (o a : Int) : cond (wrI o a != 0) (wrI o a != a) false = false := by
  unfold wrI
  cases (cond (acA o == 2) true (cond (brB o) true (cond (o == 43) true (o == 47)))) <;> simp
theorem law7_true (k : Nat) {o a b c m pc : Int} (h0 : 0 ≤ pc) (h1 : pc < 4294967296) : D (k + 12) 7 [Ia o a b c m, .int .u32 pc] = some (.bool true) := by
  rw [Dk, nf_law04_IsaTargetsTurnBack]
  simp only [(r_sanity (k + 2)).ok, (r_sanity (k + 2)).val, (r_right (k + 8) _ _ _ _ _).ok, (r_right (k + 8) _ _ _ _ _).val, bO, cond_true]
  cases h : rgt o a b c m with
  | false => rfl
  | true =>
    obtain ⟨k1, k2, k3, k4, k5, k6, k7⟩ := rgt_spec h
    have hl := lf_asc (D (k + 11)) (rdL o a b c) (rdL_len o a b c) (fun j hj => by
      obtain ⟨n, e1, e2, e3, e4⟩ := rdF_get 15 1 j hj
      exact ⟨n, e1, e2, by omega, e4⟩) pc o a b c m (rdL o a b c).length 0 100000 (by omega) (by have := rdL_len o a b c; omega)
    rw [show ((0 : Nat) : Int) = 0 from rfl] at hl
    have ew : IntKind.i64.wrap (0 - m) = -m := by unfold imm at k5; rw [wrap_i64_id (by omega) (by omega)]; omega
    simp only [(r_reads (k + 8) h).ok, (r_reads (k + 8) h).val, lO, hl, (r_writes (k + 9) _ _ _ _ _).ok, (r_writes (k + 9) _ _ _ _ _).val, (r_target (k + 9) _ _ _ _ _ _).ok, (r_target (k + 9) _ _ _ _ _ _).val, tO, g0, g1, iO, bO, cond_true, Bool.not_true, cond_false, wr_eq, Bool.not_not, ew]
    cases hgo : goB o with
    | true => rfl
    | false =>
      simp only [cond_false, Bool.not_false, cond_true]
      cases hr : rgt o a b c (-m) with
      | true =>
        have : (toI (toI pc m) (-m) == pc) = true := by
          unfold toI
          rw [beq_iff_eq]
          omega
        simp only [this, Bool.not_true, cond_false, cond_true]
        rfl
      | false =>
        have : (m == -131072) = true := by
          unfold rgt at h hr
          rw [decide_eq_true_iff] at h
          rw [decide_eq_false_iff_not] at hr
          generalize formI o = f at *
          rw [beq_iff_eq]
          unfold RP inR imm at *
          omega
        rw [this]
        rfl
end Go.Proofs.Ytadjlohgmfclpaa
