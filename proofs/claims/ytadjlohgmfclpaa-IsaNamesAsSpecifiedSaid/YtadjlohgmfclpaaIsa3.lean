/- Instructions: words, and back. -/
import Derived.Test.YtadjlohgmfclpaaIsa2
set_option linter.unusedVariables false
set_option linter.unusedSimpArgs false
namespace Go.Proofs.Ytadjlohgmfclpaa
open Go.AE

def encI (o a b c m : Int) : Int := o * 67108864 + a * 4194304 + b * 262144 + c * 16384 + m % 262144
theorem form_pos {o : Int} (h : formI o ≠ 0) : 0 ≤ o ∧ o < 49 := by
  by_cases h1 : 0 ≤ o ∧ o < 49
  · exact h1
  · exact absurd (form_out h1) h
theorem rgt_spec {o a b c m : Int} (h : rgt o a b c m = true) : (0 ≤ o ∧ o < 49) ∧ inR a ∧ inR b ∧ inR c ∧ imm m ∧ (formI o = 1 → m = 0) ∧ (formI o ≠ 1 → c = 0) := by
  unfold rgt at h
  rw [decide_eq_true_iff] at h
  have ho : formI o ≠ 0 := by unfold RP at h; omega
  refine ⟨form_pos ho, ?_⟩
  generalize formI o = f at *
  unfold RP inR imm at *
  omega
def enW (o a b c m : Int) : Int := cond (rgt o a b c m) (encI o a b c m) 0
def enE (o a b c m : Int) : Int := cond (rgt o a b c m) 0 1
theorem enc_or {o a b c m : Int} (h : rgt o a b c m = true) : ibits .or .u32 (ibits .or .u32 (ibits .or .u32 (ibits .or .u32 (IntKind.u32.wrap ((IntKind.u32.wrap o) * 67108864)) (IntKind.u32.wrap ((IntKind.u32.wrap a) * 4194304))) (IntKind.u32.wrap ((IntKind.u32.wrap b) * 262144))) (IntKind.u32.wrap ((IntKind.u32.wrap c) * 16384))) (ibits .and .u32 (IntKind.u32.wrap m) 262143) = encI o a b c m := by
  obtain ⟨h1, h2, h3, h4, h5, h6, h7⟩ := rgt_spec h
  unfold inR at h2 h3 h4
  unfold imm at h5
  have hm : ibits .and .u32 (IntKind.u32.wrap m) 262143 = m % 262144 := by
    refine (and_u32 18 (IntKind.u32.wrap m) (by omega)).trans ?_
    rw [wrap_u32]
    show m % 4294967296 % 262144 = _
    omega
  rw [hm, wrap_u32_id (n := o) (by omega) (by omega), wrap_u32_id (n := a) (by omega) (by omega), wrap_u32_id (n := b) (by omega) (by omega), wrap_u32_id (n := c) (by omega) (by omega),
    wrap_u32_id (n := o * 67108864) (by omega) (by omega), wrap_u32_id (n := a * 4194304) (by omega) (by omega), wrap_u32_id (n := b * 262144) (by omega) (by omega), wrap_u32_id (n := c * 16384) (by omega) (by omega)]
  obtain ⟨x, hx⟩ : ∃ x : Nat, m % 262144 = x := ⟨(m % 262144).toNat, by omega⟩
  have hx2 : x < 262144 := by omega
  have hx3 : formI o = 1 → x = 0 := fun e => by have := h6 e; omega
  have hx4 : x < 16384 ∨ c = 0 := by
    by_cases e : formI o = 1
    · left; have := hx3 e; omega
    · right; exact h7 e
  obtain ⟨o, rfl⟩ : ∃ n : Nat, o = n := ⟨o.toNat, by omega⟩
  obtain ⟨a, rfl⟩ : ∃ n : Nat, a = n := ⟨a.toNat, by omega⟩
  obtain ⟨b, rfl⟩ : ∃ n : Nat, b = n := ⟨b.toNat, by omega⟩
  obtain ⟨c, rfl⟩ : ∃ n : Nat, c = n := ⟨c.toNat, by omega⟩
  unfold encI
  rw [hx, show (o : Int) * 67108864 = ((o * 67108864 : Nat) : Int) from by omega, show (a : Int) * 4194304 = ((a * 4194304 : Nat) : Int) from by omega, show (b : Int) * 262144 = ((b * 262144 : Nat) : Int) from by omega, show (c : Int) * 16384 = ((c * 16384 : Nat) : Int) from by omega]
  have ho : o < 49 := by omega
  have ha : a < 16 := by omega
  have hb : b < 16 := by omega
  have hc : c < 16 := by omega
  have hx5 : x < 16384 ∨ c = 0 := by omega
  clear h hm hx hx3 hx4 h1 h2 h3 h4 h5 h6 h7
  rw [or_u32N 26 (h := o * 67108864) (l := a * 4194304) (by show _ < 67108864; omega) (by show _ % 67108864 = 0; omega) (by omega),
    or_u32N 22 (l := b * 262144) (by show _ < 4194304; omega) (by show _ % 4194304 = 0; omega) (by omega),
    or_u32N 18 (l := c * 16384) (by show _ < 262144; omega) (by show _ % 262144 = 0; omega) (by omega)]
  rcases hx5 with hx5 | rfl
  · rw [or_u32N 14 (l := x) (by show _ < 16384; omega) (by show _ % 16384 = 0; omega) (by omega)]
    omega
  · rw [or_u32N 18 (l := x) (by show _ < 262144; omega) (by show _ % 262144 = 0; omega) (by omega)]
    omega
theorem r_encode (k : Nat) (o a b c m : Int) : Rt Pg (D (k + 4)) 9 [Ia o a b c m] (.tuple [.int .u32 (enW o a b c m), .int .i64 (enE o a b c m)]) := .of (by
  rw [Dk, nf_isa_Encode, (r_right k _ _ _ _ _).ok, (r_right k _ _ _ _ _).val]
  unfold enW enE
  cases h : rgt o a b c m with
  | false => rfl
  | true => rw [enc_or h]; rfl) (by kernel_rfl)
theorem renc {o a b c m : Int} (h : rgt o a b c m = true) : (let x0 : Int := IntKind.i64.wrap ((IntKind.i64.wrap ((IntKind.i64.wrap ((IntKind.i64.wrap (o * 67108864)) + (IntKind.i64.wrap (a * 4194304)))) + (IntKind.i64.wrap (b * 262144)))) + (IntKind.i64.wrap (c * 16384)))
    IntKind.u32.wrap (IntKind.i64.wrap ((cond (decide (m < 0)) (IntKind.i64.wrap (x0 + 262144)) x0) + m))) = encI o a b c m := by
  obtain ⟨h1, h2, h3, h4, h5, h6, h7⟩ := rgt_spec h
  unfold inR at h2 h3 h4
  unfold imm at h5
  have hx : m = 0 ∨ c = 0 := by
    by_cases e : formI o = 1
    · exact .inl (h6 e)
    · exact .inr (h7 e)
  clear h h6 h7
  dsimp only
  rw [wrap_i64_id (n := o * 67108864) (by omega) (by omega), wrap_i64_id (n := a * 4194304) (by omega) (by omega), wrap_i64_id (n := b * 262144) (by omega) (by omega), wrap_i64_id (n := c * 16384) (by omega) (by omega),
    wrap_i64_id (n := o * 67108864 + a * 4194304) (by omega) (by omega), wrap_i64_id (n := o * 67108864 + a * 4194304 + b * 262144) (by omega) (by omega), wrap_i64_id (n := o * 67108864 + a * 4194304 + b * 262144 + c * 16384) (by omega) (by omega)]
  unfold encI
  by_cases hm : m < 0
  · rw [decide_eq_true hm, cond_true, wrap_i64_id (n := o * 67108864 + a * 4194304 + b * 262144 + c * 16384 + 262144) (by omega) (by omega), wrap_i64_id (by omega) (by omega), wrap_u32_id (by omega) (by omega)]
    omega
  · rw [decide_eq_false hm, cond_false, wrap_i64_id (by omega) (by omega), wrap_u32_id (by omega) (by omega)]
    omega
theorem r_rencode (k : Nat) (o a b c m : Int) : Rt Pg (D (k + 3)) 10 [Ia o a b c m] (.agg 28 [.int .u32 (enW o a b c m), .int .i64 (enE o a b c m)]) := .of (by
  rw [Dk, nf_ref04_Encode, (r_rright k _ _ _ _ _).ok, (r_rright k _ _ _ _ _).val]
  unfold enW enE
  cases h : rgt o a b c m with
  | false => rfl
  | true =>
    have := renc h
    dsimp only at this ⊢
    rw [this]; rfl) (by kernel_rfl)
/-! ### fields of words -/
def fO (w : Int) : Int := w / 67108864
def fA (w : Int) : Int := w / 4194304 % 16
def fB (w : Int) : Int := w / 262144 % 16
def fC (w : Int) : Int := w / 16384 % 16
def fM (w : Int) : Int := cond (decide ((131071 : Int) < w % 262144)) (w % 262144 - 262144) (w % 262144)
def dC (w : Int) : Int := cond (formI (fO w) == 1) (fC w) 0
def dM (w : Int) : Int := cond (formI (fO w) == 1) 0 (fM w)
def decB (w : Int) : Bool := cond (formI (fO w) == 1) (cond (w % 16384 != 0) false (rgt (fO w) (fA w) (fB w) (fC w) 0)) (rgt (fO w) (fA w) (fB w) 0 (fM w))
def zI (w x : Int) : Int := cond (decB w) x 0
abbrev dI (w : Int) : AV := Ia (zI w (fO w)) (zI w (fA w)) (zI w (fB w)) (zI w (dC w)) (zI w (dM w))
theorem fm_eq (w : Int) : (IntKind.i64.wrap ((IntKind.i64.wrap (w % 262144)) * 70368744177664)).fdiv 70368744177664 = fM w := by
  unfold fM
  rw [wrap_i64_id (n := w % 262144) (by omega) (by omega), fdiv_pos (by omega), wrap_i64]
  by_cases h : 131071 < w % 262144
  · rw [decide_eq_true h]; simp only [cond_true]; omega
  · rw [decide_eq_false h]; simp only [cond_false]; omega
theorem ms {w : Int} (d m : Int) (k : Nat) (hk : k < 32) (hd : 0 < d) (hm : m = 2 ^ k - 1) : IntKind.i64.wrap (ibits .and .u32 (w.fdiv d) m) = w / d % 2 ^ k := by
  subst hm
  rw [and_u32 k _ hk, fdiv_pos hd]
  have hp : (0 : Int) < 2 ^ k := by exact_mod_cast Nat.two_pow_pos k
  have hp2 : (2 : Int) ^ k < 2 ^ 32 := by exact_mod_cast Nat.pow_lt_pow_right (by omega) hk
  have a1 := Int.emod_nonneg (w / d) (b := 2 ^ k) (by omega)
  have a2 := Int.emod_lt_of_pos (w / d) hp
  exact wrap_i64_id (by omega) (by omega)
theorem r_decode {w : Int} (h0 : 0 ≤ w) (h1 : w < 4294967296) (k : Nat) : Rt Pg (D (k + 4)) 21 [.int .u32 w] (.tuple [dI w, .bool (decB w)]) := .of (by
  have e1 : IntKind.i64.wrap (ibits .and .u32 (w.fdiv 67108864) 63) = fO w := by rw [ms 67108864 63 6 (by omega) (by omega) rfl]; unfold fO; omega
  have e2 : IntKind.i64.wrap (ibits .and .u32 (w.fdiv 4194304) 15) = fA w := ms 4194304 15 4 (by omega) (by omega) rfl
  have e3 : IntKind.i64.wrap (ibits .and .u32 (w.fdiv 262144) 15) = fB w := ms 262144 15 4 (by omega) (by omega) rfl
  have e4 : IntKind.i64.wrap (ibits .and .u32 (w.fdiv 16384) 15) = fC w := ms 16384 15 4 (by omega) (by omega) rfl
  have e5 : IntKind.i64.wrap (ibits .and .u32 (w.fdiv 1) 16383) = w % 16384 := by
    rw [ms 1 16383 14 (by omega) (by omega) rfl, Int.ediv_one]; rfl
  have e6 : IntKind.i64.wrap (ibits .and .u32 (w.fdiv 1) 262143) = w % 262144 := by
    rw [ms 1 262143 18 (by omega) (by omega) rfl, Int.ediv_one]; rfl
  have e7 := fm_eq w
  rw [wrap_i64_id (n := w % 262144) (by omega) (by omega)] at e7
  rw [Dk, nf_isa_Decode]
  dsimp only
  rw [e1, e2, e3, e4, e5, e6, e7]
  simp only [(r_form (k + 1) _).ok, (r_form (k + 1) _).val, (r_right k _ _ _ _ _).ok, (r_right k _ _ _ _ _).val, iO, bO, cond_true]
  unfold dI zI dC dM decB
  cases (formI (fO w) == 1)
  · simp only [cond_false]
    cases rgt (fO w) (fA w) (fB w) 0 (fM w) <;> rfl
  · simp only [cond_true]
    cases (w % 16384 != 0)
    · simp only [cond_false]
      cases rgt (fO w) (fA w) (fB w) (fC w) 0 <;> rfl
    · rfl) (by kernel_rfl)
theorem en1 {w : Int} (hf : formI (fO w) = 1) (hr : rgt (fO w) (fA w) (fB w) (fC w) 0 = true) : (encI (fO w) (fA w) (fB w) (fC w) 0 != w) = (w % 16384 != 0) := by
  unfold encI fO fA fB fC
  rw [Bool.eq_iff_iff]
  simp only [bne_iff_ne, ne_eq]
  omega
theorem en2 (w : Int) : encI (fO w) (fA w) (fB w) 0 (fM w) = w := by
  unfold encI fO fA fB fM
  by_cases h : 131071 < w % 262144
  · rw [decide_eq_true h]; simp only [cond_true]; omega
  · rw [decide_eq_false h]; simp only [cond_false]; omega
theorem r_rdecode {w : Int} (h0 : 0 ≤ w) (h1 : w < 4294967296) (k : Nat) : Rt Pg (D (k + 4)) 22 [.int .u32 w] (.agg 45 [dI w, .bool (decB w)]) := .of (by
  have e0 : IntKind.i64.wrap w = w := wrap_i64_id (by omega) (by omega)
  have e1 : w.fdiv 67108864 = fO w := fdiv_pos (by omega)
  have e2 : ibits .and .i64 (w.fdiv 4194304) 15 = fA w := by rw [fdiv_pos (by omega)]; exact and_i64 4 _ (by omega)
  have e3 : ibits .and .i64 (w.fdiv 262144) 15 = fB w := by rw [fdiv_pos (by omega)]; exact and_i64 4 _ (by omega)
  have e4 : ibits .and .i64 (w.fdiv 16384) 15 = fC w := by rw [fdiv_pos (by omega)]; exact and_i64 4 _ (by omega)
  have e6 : ibits .and .i64 w 262143 = w % 262144 := and_i64 18 _ (by omega)
  have e7 : IntKind.i64.wrap (w % 262144 - 262144) = w % 262144 - 262144 := wrap_i64_id (by omega) (by omega)
  rw [Dk, nf_ref04_Decode]
  dsimp only
  rw [e0, e1, e2, e3, e4, e6, e7]
  simp only [(r_rform (k + 2) _).ok, (r_rform (k + 2) _).val, (r_rencode k _ _ _ _ _).ok, (r_rencode k _ _ _ _ _).val, iO, bO, pO, g0, g1, cond_true]
  have en2 := en2 w
  unfold dI zI dC dM decB
  cases hf : (formI (fO w) == 1)
  · simp only [cond_false]
    unfold fM at en2 ⊢
    cases hd : (decide (131071 < w % 262144)) <;> simp only [hd, cond_true, cond_false] at en2 ⊢ <;> unfold enW enE
    · cases hr : rgt (fO w) (fA w) (fB w) 0 (w % 262144)
      · rfl
      · rw [cond_true, en2]; simp
    · cases hr : rgt (fO w) (fA w) (fB w) 0 (w % 262144 - 262144)
      · rfl
      · rw [cond_true, en2]; simp
  · simp only [cond_true]
    unfold enW enE
    cases hr : rgt (fO w) (fA w) (fB w) (fC w) 0
    · simp only [cond_false]
      cases (w % 16384 != 0) <;> rfl
    · simp only [cond_true, bne_self_eq_false, cond_false, en1 (eq_of_beq hf) hr]
      cases (w % 16384 != 0) <;> rfl) (by kernel_rfl)
end Go.Proofs.Ytadjlohgmfclpaa
