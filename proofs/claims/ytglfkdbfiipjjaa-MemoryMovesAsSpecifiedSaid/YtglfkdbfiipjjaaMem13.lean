/- The memory's laws, in plain terms: loads, stores. -/
import Derived.Test.YtglfkdbfiipjjaaMem12
import Derived.Test.YtglfkdbfiipjjaaMem7
set_option linter.unusedVariables false
set_option linter.unusedSimpArgs false
namespace Go.Proofs.Ytglfkdbfiipjjaa
open Go.AE

theorem byN_val {l : List AV} (h : okF l = true) {y : Nat} (hy : y < 128 * l.length) : ∃ b : Nat, b < 256 ∧ byN l y = (b : Int) := by
  obtain ⟨ps, e1, l1, b1⟩ := ok_page h (i := y / 128) (by omega)
  obtain ⟨n, m1, m2, m3⟩ := byOK_spec.1 (b1 _ (getD_mem (l := ps) (i := y % 128) (by omega)))
  refine ⟨n.toNat, by omega, ?_⟩
  unfold byN
  rw [byAt_nat, e1]
  show intOf (ps.getD (y % 128) .dead) = _
  rw [m1]
  show n = _
  omega
/-- Lower bits beside higher ones. -/
theorem or_hi {k b lo : Nat} (hk : k < 32) (hlo : lo < 2 ^ k) (hs : b * 2 ^ k + lo < 4294967296) : ibits .or .u32 (lo : Int) (((b * 2 ^ k : Nat) : Int)) = ((b * 2 ^ k + lo : Nat) : Int) := by
  rw [ibits_or_u32 (by omega) (by omega) (by omega) (by omega), Int.toNat_natCast, Int.toNat_natCast, Nat.or_comm, Nat.mul_comm, ← Nat.two_pow_add_eq_or_of_lt hlo]
theorem or_lo {k b lo : Nat} (hk : k < 32) (hlo : lo < 2 ^ k) (hs : b * 2 ^ k + lo < 4294967296) : ibits .or .u32 (((b * 2 ^ k : Nat) : Int)) (lo : Int) = ((b * 2 ^ k + lo : Nat) : Int) := by
  rw [ibits_or_u32 (by omega) (by omega) (by omega) (by omega), Int.toNat_natCast, Int.toNat_natCast, Nat.mul_comm, ← Nat.two_pow_add_eq_or_of_lt hlo]
theorem wrapn {n : Nat} (h : n < 4294967296) : IntKind.u32.wrap (n : Int) = (n : Int) := wrap_u32_id (by omega) (by omega)
theorem wrap_sh {b k : Nat} (h : b * 2 ^ k < 4294967296) : IntKind.u32.wrap ((b : Int) * 2 ^ k) = ((b * 2 ^ k : Nat) : Int) := by
  have : ((b : Int) * 2 ^ k) = ((b * 2 ^ k : Nat) : Int) := by rw [Int.natCast_mul]; congr 1
  rw [this, wrapn h]
set_option maxRecDepth 20000 in
theorem ld_rld (l : List AV) (a s : Int) (h : okF l = true) : ldV l a s = rldV l a s := by
  unfold ldV rldV
  cases ht : thF l a s with
  | false => rfl
  | true =>
    obtain ⟨x, k, rfl, rfl, hk, hm, hle⟩ := th_spec h ht
    simp only [cond_true]
    obtain ⟨k1, k2, _⟩ := okF_spec h
    have hpl := wf_len (ok_wfP h) (i := x / 128) (by rcases hk with rfl | rfl <;> omega)
    have hg : ∀ i : Nat, x % 128 + i < 128 → intOf ((sub (partsOf (l.getD (x / 128) .dead)) (x % 128) 128).getD i .dead) = byN l (x + i) := fun i hi => by
      unfold sub byN
      rw [getD_drop, getD_take, if_pos (by omega), byAt_nat, show (x + i) / 128 = x / 128 from by omega, show (x + i) % 128 = x % 128 + i from by omega]
    unfold ldF0
    rw [ad2 x (by rcases hk with rfl | rfl <;> omega), ad3, Int.toNat_natCast, Int.toNat_natCast, Int.toNat_natCast]
    have ei : (IntKind.i64.wrap ((k : Int) - 1)).toNat + 1 = k := by rw [wrap_i64_id (by omega) (by omega)]; omega
    rw [ei]
    rcases hk with rfl | rfl
    · obtain ⟨b0, c0, e0⟩ := byN_val h (y := x) (by omega)
      show IntKind.u32.wrap (intOf ((sub (partsOf (l.getD (x / 128) .dead)) (x % 128) 128).getD 0 .dead)) = rlN l x 1 0
      rw [hg 0 (by omega), Nat.add_zero, e0, wrapn (by omega)]
      show _ = ibits .or .u32 (IntKind.u32.wrap (0 * 2 ^ 8)) (IntKind.u32.wrap (byN l (x + 0)))
      rw [Nat.add_zero, e0, wrapn (n := b0) (by omega)]
      have := or_lo (k := 8) (b := 0) (lo := b0) (by omega) (by omega) (by omega)
      simp only [Nat.zero_mul, Nat.zero_add] at this
      exact this.symm
    · have hm' : x % 4 = 0 := hm
      obtain ⟨b0, c0, e0⟩ := byN_val h (y := x) (by omega)
      obtain ⟨b1, c1, e1⟩ := byN_val h (y := x + 1) (by omega)
      obtain ⟨b2, c2, e2⟩ := byN_val h (y := x + 2) (by omega)
      obtain ⟨b3, c3, e3⟩ := byN_val h (y := x + 3) (by omega)
      show ibits .or .u32 (ibits .or .u32 (ibits .or .u32 (IntKind.u32.wrap (intOf ((sub (partsOf (l.getD (x / 128) .dead)) (x % 128) 128).getD 0 .dead))) (IntKind.u32.wrap (IntKind.u32.wrap (intOf ((sub (partsOf (l.getD (x / 128) .dead)) (x % 128) 128).getD 1 .dead)) * 2 ^ 8))) (IntKind.u32.wrap (IntKind.u32.wrap (intOf ((sub (partsOf (l.getD (x / 128) .dead)) (x % 128) 128).getD 2 .dead)) * 2 ^ 16))) (IntKind.u32.wrap (IntKind.u32.wrap (intOf ((sub (partsOf (l.getD (x / 128) .dead)) (x % 128) 128).getD 3 .dead)) * 2 ^ 24)) = rlN l x 4 0
      rw [hg 0 (by omega), hg 1 (by omega), hg 2 (by omega), hg 3 (by omega), Nat.add_zero, e0, e1, e2, e3, wrapn (n := b0) (by omega), wrapn (n := b1) (by omega), wrapn (n := b2) (by omega), wrapn (n := b3) (by omega),
        wrap_sh (b := b1) (k := 8) (by omega), wrap_sh (b := b2) (k := 16) (by omega), wrap_sh (b := b3) (k := 24) (by omega),
        or_hi (k := 8) (b := b1) (lo := b0) (by omega) (by omega) (by omega), or_hi (k := 16) (b := b2) (lo := b1 * 2 ^ 8 + b0) (by omega) (by omega) (by omega), or_hi (k := 24) (b := b3) (lo := b2 * 2 ^ 16 + (b1 * 2 ^ 8 + b0)) (by omega) (by omega) (by omega)]
      show _ = ibits .or .u32 (IntKind.u32.wrap (ibits .or .u32 (IntKind.u32.wrap (ibits .or .u32 (IntKind.u32.wrap (ibits .or .u32 (IntKind.u32.wrap (0 * 2 ^ 8)) (IntKind.u32.wrap (byN l (x + 3))) * 2 ^ 8)) (IntKind.u32.wrap (byN l (x + 2))) * 2 ^ 8)) (IntKind.u32.wrap (byN l (x + 1))) * 2 ^ 8)) (IntKind.u32.wrap (byN l x))
      rw [e0, e1, e2, e3, wrapn (n := b0) (by omega), wrapn (n := b1) (by omega), wrapn (n := b2) (by omega), wrapn (n := b3) (by omega)]
      have s0 := or_lo (k := 8) (b := 0) (lo := b3) (by omega) (by omega) (by omega)
      simp only [Nat.zero_mul, Nat.zero_add] at s0
      have z : IntKind.u32.wrap (0 * 2 ^ 8) = ((0 : Nat) : Int) := rfl
      rw [z, s0, wrap_sh (b := b3) (k := 8) (by omega), or_lo (k := 8) (b := b3) (lo := b2) (by omega) (by omega) (by omega), wrap_sh (b := b3 * 2 ^ 8 + b2) (k := 8) (by omega), or_lo (k := 8) (b := b3 * 2 ^ 8 + b2) (lo := b1) (by omega) (by omega) (by omega),
        wrap_sh (b := (b3 * 2 ^ 8 + b2) * 2 ^ 8 + b1) (k := 8) (by omega), or_lo (k := 8) (b := (b3 * 2 ^ 8 + b2) * 2 ^ 8 + b1) (lo := b0) (by omega) (by omega) (by omega)]
      congr 1
      omega
/-! what differs -/
theorem eqVs_self : ∀ (ps : List AV), (∀ q ∈ ps, byOK q = true) → eqVs ps ps = true
  | [], _ => rfl
  | p :: ps, h => by
    obtain ⟨n, rfl, _⟩ := byOK_spec.1 (h p List.mem_cons_self)
    simp only [eqVs, eqV, beq_self_eq_true, Bool.true_and]
    exact eqVs_self ps fun q hq => h q (List.mem_cons_of_mem _ hq)
theorem differs_self {l : List AV} (h : okF l = true) (i : Nat) (hi : i < l.length) : differs l l (i : Int) = false := by
  obtain ⟨ps, e1, l1, b1⟩ := ok_page h hi
  unfold differs
  rw [decide_eq_false (show ¬ (l.length : Int) ≤ (i : Int) by omega), Int.toNat_natCast, e1]
  show (!(eqVs ps ps)) = false
  rw [eqVs_self ps b1]; rfl
theorem dfN_self {l : List AV} (h : okF l = true) : ∀ k, k ≤ l.length → dfN l l k = []
  | 0, _ => rfl
  | k + 1, hk => by rw [dfN, differs_self h k (by omega), cond_false, dfN_self h k (by omega)]
theorem df_self {l : List AV} (h : okF l = true) : dfF l l = [] := by
  unfold dfF maxI
  split
  · exact dfN_self h _ (by omega)
  · exact dfN_self h _ (by omega)
theorem sm_self {l : List AV} (h : okF l = true) : smF l l = true := by
  unfold smF; rw [df_self h]; rfl
theorem ok_of {l : List AV} (hp : ∀ p ∈ l, pgOK p = true) (hv : vldF l = true) : okF l = true := by
  unfold vldF at hv
  simp only [Bool.and_eq_true, decide_eq_true_eq] at hv
  unfold okF
  rw [decide_eq_true (show 1 ≤ l.length by omega), decide_eq_true (show l.length ≤ 64 by omega)]
  simpa using hp
theorem law3_true (l : List AV) (a s wa ws wv : Int) (hp : ∀ p ∈ l, pgOK p = true) : fnV (cxG F0 2) 6 3 [Mv l, .int .i64 a, .int .i64 s, Wv wa ws wv] = some (.bool true) := by
  rw [law3]
  cases h80 : decide (80 < (l.length : Int)) with
  | true => rfl
  | false =>
    have ev : F0.vld l = vldF l := rfl
    have e0 : (vldF l != vldF l) = false := by simp
    rw [cond_false, ev, e0, cond_false]
    cases hv : vldF l with
    | false => rfl
    | true =>
      have h := ok_of hp hv
      have e1 : F0.ok l = true := h
      have e2 : F0.ld l a s = F0.rld l a s := ld_rld l a s h
      have e3 : F0.ldB l a s = F0.rldB l a s := rfl
      have e4 : F0.stB l wa ws wv = F0.rstB l wa ws wv := stB_eq h
      have e5 : F0.st l wa ws wv = F0.rst l wa ws wv := st_rst wa ws wv h
      have e6 : F0.okd (F0.rst l wa ws wv) = true := okd_of (rst_ok wa ws wv h).1
      have e7 : F0.sm (F0.rst l wa ws wv) (F0.rst l wa ws wv) = true := sm_self (rst_ok wa ws wv h).1
      simp only [Bool.not_true, cond_false, e1, cond_true, e2, e3, e4, e5, e6, e7, beq_self_eq_true, Bool.and_self, condB_eq]
end Go.Proofs.Ytglfkdbfiipjjaa
