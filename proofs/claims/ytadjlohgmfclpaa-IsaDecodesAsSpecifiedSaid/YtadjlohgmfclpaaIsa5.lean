/- Instructions: the laws about words. -/
import Derived.Test.YtadjlohgmfclpaaIsa4
set_option linter.unusedVariables false
set_option linter.unusedSimpArgs false
namespace Go.Proofs.Ytadjlohgmfclpaa
open Go.AE

theorem r_sanity (k : Nat) : Rt Pg (D (k + 9)) 13 [] (.bool true) := .of (sanity_true k) (by kernel_rfl)
theorem lf_same (F : Tab) (l : List AV) (hl : l.length < 1000) : ∀ (m i fuel : Nat), i + m = l.length → m < fuel → lf_ref04_Same_4 F l l fuel (i : Int) = ⟨2, [], [], [], [], [], []⟩
  | 0, i, fuel, hi, hf => by
    obtain ⟨fuel, rfl⟩ : ∃ f, fuel = f + 1 := ⟨fuel - 1, by omega⟩
    unfold lf_ref04_Same_4
    rw [decide_eq_false (by omega : ¬ (i : Int) < ((l.length : Nat) : Int))]; rfl
  | m + 1, i, fuel, hi, hf => by
    obtain ⟨fuel, rfl⟩ : ∃ f, fuel = f + 1 := ⟨fuel - 1, by omega⟩
    unfold lf_ref04_Same_4
    have h0 : inB (i : Int) l.length = true := by simp [inB]; omega
    rw [decide_eq_true (by omega : (i : Int) < ((l.length : Nat) : Int)), h0, bne_self_eq_false, wrap_i64_id (by omega) (by omega), show (i : Int) + 1 = ((i + 1 : Nat) : Int) from by omega, lf_same F l hl m (i + 1) fuel (by omega) (by omega)]
    rfl
theorem r_same (k : Nat) (l : List AV) (hl : l.length < 1000) : Rt Pg (D (k + 1)) 16 [.slice 3 l false, .slice 3 l false] (.bool true) := .of (by
  have := lf_same (D k) l hl l.length 0 100000 (by omega) (by omega)
  rw [show ((0 : Nat) : Int) = 0 from rfl] at this
  rw [Dk, nf_ref04_Same, this, bne_self_eq_false]
  rfl) (by kernel_rfl)
theorem rdL_len (o a b c : Int) : (rdL o a b c).length < 1000 := by
  have := rdF_len (qR o a b c) 15 1
  unfold rdL; omega
theorem law3_true (k : Nat) (o a b c m pc : Int) : D (k + 12) 3 [Ia o a b c m, .int .u32 pc] = some (.bool true) := by
  rw [Dk, nf_law04_IsaEncodesAsSpecified]
  simp only [(r_encode (k + 7) _ _ _ _ _).ok, (r_encode (k + 7) _ _ _ _ _).val, (r_rencode (k + 8) _ _ _ _ _).ok, (r_rencode (k + 8) _ _ _ _ _).val, (r_right (k + 8) _ _ _ _ _).ok, (r_right (k + 8) _ _ _ _ _).val, (r_rright (k + 9) _ _ _ _ _).ok, (r_rright (k + 9) _ _ _ _ _).val,
    tO, pO, g0, g1, iO, bO, cond_true, cond_false, beq_self_eq_true, bne_self_eq_false, Bool.not_true, (r_sanity (k + 2)).ok, (r_sanity (k + 2)).val]
  cases h : rgt o a b c m with
  | false => rfl
  | true =>
    obtain ⟨h1, h2, h3, h4, h5, h6, h7⟩ := rgt_spec h
    simp only [Bool.not_true, cond_false, (r_target (k + 9) _ _ _ _ _ _).ok, (r_target (k + 9) _ _ _ _ _ _).val, (r_rtarget (k + 9) pc o a b c m h5).ok, (r_rtarget (k + 9) pc o a b c m h5).val, (r_reads (k + 8) h).ok, (r_reads (k + 8) h).val, (r_rreads (k + 9) _ _ _ _ _).ok, (r_rreads (k + 9) _ _ _ _ _).val,
      lO, (r_same (k + 10) _ (rdL_len o a b c)).ok, (r_same (k + 10) _ (rdL_len o a b c)).val, (r_writes (k + 9) _ _ _ _ _).ok, (r_writes (k + 9) _ _ _ _ _).val, (r_rwrites (k + 9) h).ok, (r_rwrites (k + 9) h).val, tO, pO, g0, g1, iO, bO, cond_true, beq_self_eq_true, condB_tt, condB_t, condB_t', Bool.not_true, Bool.false_or]
theorem law4_true (k : Nat) {w : Int} (h0 : 0 ≤ w) (h1 : w < 4294967296) : D (k + 12) 4 [.int .u32 w] = some (.bool true) := by
  rw [Dk, nf_law04_IsaDecodesAsSpecified]
  simp only [(r_decode h0 h1 (k + 7)).ok, (r_decode h0 h1 (k + 7)).val, (r_rdecode h0 h1 (k + 7)).ok, (r_rdecode h0 h1 (k + 7)).val, (r_sanity (k + 2)).ok, (r_sanity (k + 2)).val, tO, pO, g0, g1, g2, g3, g4, iO, bO, cond_true, beq_self_eq_true, Bool.true_and]
theorem fm_imm {w : Int} (h0 : 0 ≤ w) : imm (fM w) := by
  unfold imm fM
  by_cases h : 131071 < w % 262144
  · rw [decide_eq_true h]; simp only [cond_true]; omega
  · rw [decide_eq_false h]; simp only [cond_false]; omega
/-- What is decoded is right, and its word is this one. -/
theorem dec_right {w : Int} (h0 : 0 ≤ w) (h1 : w < 4294967296) (h : decB w = true) : rgt (fO w) (fA w) (fB w) (dC w) (dM w) = true ∧ encI (fO w) (fA w) (fB w) (dC w) (dM w) = w := by
  unfold decB at h
  unfold dC dM
  cases hf : (formI (fO w) == 1)
  · rw [hf, cond_false] at h
    exact ⟨h, en2 w⟩
  · rw [hf, cond_true] at h
    cases hw : (w % 16384 != 0)
    · rw [hw, cond_false] at h
      refine ⟨h, ?_⟩
      have := en1 (eq_of_beq hf) h
      rw [hw] at this
      simpa using this
    · rw [hw] at h; cases h
/-- A right instruction's word has its fields. -/
theorem enc_fields {o a b c m : Int} (h : rgt o a b c m = true) : fO (encI o a b c m) = o ∧ fA (encI o a b c m) = a ∧ fB (encI o a b c m) = b ∧ dC (encI o a b c m) = c ∧ dM (encI o a b c m) = m ∧ decB (encI o a b c m) = true ∧ 0 ≤ encI o a b c m ∧ encI o a b c m < 4294967296 := by
  obtain ⟨h1, h2, h3, h4, h5, h6, h7⟩ := rgt_spec h
  have hx : formI o = 1 ∧ m = 0 ∨ formI o ≠ 1 ∧ c = 0 := by
    by_cases e : formI o = 1
    · exact .inl ⟨e, h6 e⟩
    · exact .inr ⟨e, h7 e⟩
  unfold inR at h2 h3 h4
  unfold imm at h5
  have e1 : fO (encI o a b c m) = o := by unfold fO encI; omega
  have e2 : fA (encI o a b c m) = a := by unfold fA encI; omega
  have e3 : fB (encI o a b c m) = b := by unfold fB encI; omega
  have e8 : 0 ≤ encI o a b c m ∧ encI o a b c m < 4294967296 := by unfold encI; omega
  rcases hx with ⟨hf, rfl⟩ | ⟨hf, rfl⟩
  · have e4 : fC (encI o a b c 0) = c := by unfold fC encI; omega
    have e5 : (encI o a b c 0 % 16384 != 0) = false := by
      have : encI o a b c 0 % 16384 = 0 := by unfold encI; omega
      rw [this]; rfl
    refine ⟨e1, e2, e3, ?_, ?_, ?_, e8⟩
    · unfold dC; rw [e1, hf, e4]; rfl
    · unfold dM; rw [e1, hf]; rfl
    · unfold decB; rw [e1, hf, e2, e3, e4, e5]; exact h
  · have hf' : (formI o == 1) = false := by simp [hf]
    have e4 : fM (encI o a b 0 m) = m := by
      have em : encI o a b 0 m % 262144 = m % 262144 := by unfold encI; omega
      unfold fM
      rw [em]
      by_cases hm : 131071 < m % 262144
      · rw [decide_eq_true hm]; simp only [cond_true]; omega
      · rw [decide_eq_false hm]; simp only [cond_false]; omega
    refine ⟨e1, e2, e3, ?_, ?_, ?_, e8⟩
    · unfold dC; rw [e1, hf']; rfl
    · unfold dM; rw [e1, hf', e4]; rfl
    · unfold decB; rw [e1, hf', e2, e3, e4]; exact h
theorem law5_true (k : Nat) {w o a b c m o' a' b' c' m' : Int} (h0 : 0 ≤ w) (h1 : w < 4294967296) : D (k + 12) 5 [.int .u32 w, Ia o a b c m, Ia o' a' b' c' m'] = some (.bool true) := by
  rw [Dk, nf_law04_IsaWordsAreOneToOne]
  simp only [(r_decode h0 h1 (k + 7)).ok, (r_decode h0 h1 (k + 7)).val, tO, pO, g0, g1, g2, g3, g4, iO, bO, cond_true, (r_encode (k + 7) _ _ _ _ _).ok, (r_encode (k + 7) _ _ _ _ _).val, (r_right (k + 8) _ _ _ _ _).ok, (r_right (k + 8) _ _ _ _ _).val, condB_tt, (r_sanity (k + 2)).ok, (r_sanity (k + 2)).val]
  have e1 : ∀ o a b c m, ((enE o a b c m == 0) == rgt o a b c m) = true := fun o a b c m => by unfold enE; cases rgt o a b c m <;> rfl
  have e2 : ∀ o a b c m, (enE o a b c m != 0) = !(rgt o a b c m) := fun o a b c m => by unfold enE; cases rgt o a b c m <;> rfl
  simp only [e1, e2, Bool.not_true, cond_false, cond_same]
  have hz : ∀ x, zI w x = cond (decB w) x 0 := fun x => rfl
  cases h : rgt o a b c m with
  | false =>
    have ew : enW o a b c m = 0 := by unfold enW; rw [h]; rfl
    cases hd : decB w with
    | false => simp only [hz, hd, ew, cond_false, Bool.not_false, cond_true, beq_self_eq_true, Bool.and_self, Bool.not_true]
    | true =>
      obtain ⟨q1, q2⟩ := dec_right h0 h1 hd
      have ew' : enW (fO w) (fA w) (fB w) (dC w) (dM w) = w := by unfold enW; rw [q1, q2]; rfl
      simp only [hz, hd, cond_true, q1, ew, ew', bne_self_eq_false, Bool.not_true, Bool.not_false, cond_false, beq_self_eq_true]
  | true =>
    obtain ⟨f1, f2, f3, f4, f5, f6, f7, f8⟩ := enc_fields h
    have ew : enW o a b c m = encI o a b c m := by unfold enW; rw [h]; rfl
    have hz2 : ∀ x, zI (encI o a b c m) x = x := fun x => by unfold zI; rw [f6]; rfl
    have last : cond (!(rgt o' a' b' c' m')) true ((encI o a b c m == enW o' a' b' c' m') == ((o == o') && ((a == a') && ((b == b') && ((c == c') && ((m == m') && true)))))) = true := by
      cases h' : rgt o' a' b' c' m' with
      | false => rfl
      | true =>
        obtain ⟨p1, p2, p3, p4, p5, p6, p7, p8⟩ := enc_fields h'
        have ew' : enW o' a' b' c' m' = encI o' a' b' c' m' := by unfold enW; rw [h']; rfl
        have : (encI o a b c m == encI o' a' b' c' m') = ((o == o') && ((a == a') && ((b == b') && ((c == c') && ((m == m') && true))))) := by
          rw [Bool.eq_iff_iff]
          simp only [beq_iff_eq, Bool.and_eq_true, and_true]
          constructor
          · intro e
            rw [e] at f1 f2 f3 f4 f5
            exact ⟨f1.symm.trans p1, f2.symm.trans p2, f3.symm.trans p3, f4.symm.trans p4, f5.symm.trans p5⟩
          · rintro ⟨rfl, rfl, rfl, rfl, rfl⟩; rfl
        rw [ew', this, beq_self_eq_true]; rfl
    cases hd : decB w with
    | false =>
      simp only [hz, hd, ew, (r_decode f7 f8 (k + 7)).ok, (r_decode f7 f8 (k + 7)).val, tO, pO, g0, g1, g2, g3, g4, iO, bO, hz2, f1, f2, f3, f4, f5, f6, cond_false, Bool.not_false, cond_true, beq_self_eq_true, Bool.and_self, Bool.not_true, Bool.true_and, last]
    | true =>
      obtain ⟨q1, q2⟩ := dec_right h0 h1 hd
      have ew' : enW (fO w) (fA w) (fB w) (dC w) (dM w) = w := by unfold enW; rw [q1, q2]; rfl
      simp only [hz, hd, q1, ew', ew, (r_decode f7 f8 (k + 7)).ok, (r_decode f7 f8 (k + 7)).val, tO, pO, g0, g1, g2, g3, g4, iO, bO, hz2, f1, f2, f3, f4, f5, f6, cond_false, bne_self_eq_false, Bool.not_false, cond_true, beq_self_eq_true, Bool.and_self, Bool.not_true, Bool.true_and, last]
end Go.Proofs.Ytadjlohgmfclpaa
