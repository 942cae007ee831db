/- The buffer of translations: what the functions return. -/
import Derived.Test.YtcknhfnbdgleiaaTlb1
import Derived.Test.YtcknhfnbdgleiaaTbN1
set_option linter.unusedVariables false
set_option linter.unusedSimpArgs false
namespace Go.Proofs.Ytcknhfnbdgleiaa
open Go.AE

theorem tvE (x : Xl) : AV.agg 69 [.int .u32 (intOf ((partsOf (tv x)).getD 0 .dead)), .int .i64 (intOf ((partsOf (tv x)).getD 1 .dead)), .int .i64 (intOf ((partsOf (tv x)).getD 2 .dead)), .int .i64 (intOf ((partsOf (tv x)).getD 3 .dead)), .int .i64 (intOf ((partsOf (tv x)).getD 4 .dead)), .slice 3 (listOf ((partsOf (tv x)).getD 5 .dead)) false] = tv x := rfl
/-! ### the bits -/
def bitB (n : Int) : Bool := ibits .andNot .i64 n 46 == 0
theorem bits_in : ∀ n : Nat, n < 256 → (((lf_ref25_bits_3 (fun _ _ => none) n 100000 1).k == 1) = !(bitB n)) ∧ (((lf_ref25_bits_3 (fun _ _ => none) n 100000 1).k == 2) = bitB n) := by decide +kernel
theorem andNot0 {a b : BitVec 64} (h : a &&& ~~~b = 0#64) : a = a &&& b := by
  apply BitVec.eq_of_getLsbD_eq
  intro i hi
  have := congrArg (fun v : BitVec 64 => v.getLsbD i) h
  simp only [BitVec.getLsbD_and, BitVec.getLsbD_not, hi, decide_true, Bool.true_and, BitVec.getLsbD_zero] at this
  rw [BitVec.getLsbD_and]
  revert this
  cases a.getLsbD i <;> cases b.getLsbD i <;> simp
theorem bit_out {n : Int} (h0 : -9223372036854775808 ≤ n) (h1 : n < 9223372036854775808) (h : ¬ (0 ≤ n ∧ n < 256)) : bitB n = false := by
  cases hb : bitB n with
  | false => rfl
  | true =>
    exfalso
    apply h
    have e : IntKind.i64.wrap ((BitVec.ofInt 64 n &&& ~~~(46#64)).toNat : Int) = 0 := by
      have : ibits .andNot .i64 n 46 = 0 := by simpa [bitB] using hb
      exact this
    have e2 : BitVec.ofInt 64 n &&& ~~~(46#64) = 0#64 := by
      apply BitVec.eq_of_toNat_eq
      have hl := (BitVec.ofInt 64 n &&& ~~~(46#64)).isLt
      generalize (BitVec.ofInt 64 n &&& ~~~(46#64)).toNat = m at e hl ⊢
      rw [wrap_i64] at e
      simp only [BitVec.toNat_ofNat, Nat.zero_mod]
      omega
    have e3 := andNot0 e2
    have e4 : (BitVec.ofInt 64 n).toNat ≤ 46 := by
      rw [e3, BitVec.toNat_and]
      exact Nat.and_le_right
    rw [BitVec.toNat_ofInt] at e4
    omega
theorem b_step (F : Tab) (n : Int) (K : Int → LO) (i : Int) (hi : i ∈ ([1, 2, 4, 8, 16, 32, 64, 128] : List Int)) :
    (st_ref25_bits_3 F n i).eval K = cond (cond (((IntKind.i64.wrap (n.tdiv i)).tmod 2) == 1) (((IntKind.i64.wrap ((46 : Int).tdiv i)).tmod 2) == 0) false) ⟨1, [], [], [], [], [], []⟩ (K (2 * i)) := by
  simp only [List.mem_cons, List.not_mem_nil, or_false] at hi
  have hw : IntKind.i64.wrap (2 * i) = 2 * i := by rcases hi with rfl | rfl | rfl | rfl | rfl | rfl | rfl | rfl <;> rfl
  have h0 : (!(i == 0)) = true := by rcases hi with rfl | rfl | rfl | rfl | rfl | rfl | rfl | rfl <;> rfl
  have h1 : decide (i ≤ 128) = true := by rcases hi with rfl | rfl | rfl | rfl | rfl | rfl | rfl | rfl <;> rfl
  simp only [st_ref25_bits_3, sp_ref25_bits_3, Tr.eval, hw, h0, h1, cond_true, condB_tt]
theorem c12 (c : Bool) {x y : LO} (hx : x.k = 1 ∨ x.k = 2) (hy : y.k = 1 ∨ y.k = 2) : (cond c x y).k = 1 ∨ (cond c x y).k = 2 := by cases c <;> assumption
theorem b_run (F : Tab) (n : Int) : (lf_ref25_bits_3 F n 100000 1).k = 1 ∨ (lf_ref25_bits_3 F n 100000 1).k = 2 := by
  have last : ∀ f : Nat, (Tr.run (st_ref25_bits_3 F n) (f + 1) 256).k = 2 := fun f => rfl
  have go : ∀ (f : Nat) (i : Int), i ∈ ([1, 2, 4, 8, 16, 32, 64, 128] : List Int) → ((Tr.run (st_ref25_bits_3 F n) f (2 * i)).k = 1 ∨ (Tr.run (st_ref25_bits_3 F n) f (2 * i)).k = 2) →
      ((Tr.run (st_ref25_bits_3 F n) (f + 1) i).k = 1 ∨ (Tr.run (st_ref25_bits_3 F n) (f + 1) i).k = 2) := fun f i hi h => by
    rw [Tr.run, b_step F n _ i hi]
    exact c12 _ (.inl rfl) h
  exact go 99999 1 (by decide) (go 99998 2 (by decide) (go 99997 4 (by decide) (go 99996 8 (by decide) (go 99995 16 (by decide) (go 99994 32 (by decide) (go 99993 64 (by decide) (go 99992 128 (by decide) (.inr (last 99991)))))))))
theorem r_bits (k : Nat) {n : Int} (h0 : -9223372036854775808 ≤ n) (h1 : n < 9223372036854775808) : Rt Pg (D (k + 1)) 92 [.int .i64 n] (.bool (bitB n)) := .of (by
  rw [Dk, nf_ref25_bits]
  by_cases h : 0 ≤ n ∧ n < 256
  · obtain ⟨m, rfl⟩ : ∃ m : Nat, n = m := ⟨n.toNat, by omega⟩
    have := bits_in m (by omega)
    rw [show lf_ref25_bits_3 (D k) m 100000 1 = lf_ref25_bits_3 (fun _ _ => none) m 100000 1 from rfl, this.1, this.2, decide_eq_true h.1, decide_eq_true h.2]
    cases bitB m <;> rfl
  · rw [bit_out h0 h1 h]
    have hf : cond (decide ((0 : Int) ≤ n)) (decide (n < 256)) false = false := by
      by_cases h2 : 0 ≤ n
      · rw [decide_eq_true h2, decide_eq_false (by omega)]; rfl
      · rw [decide_eq_false h2]; rfl
    rw [hf]
    rcases b_run (D k) n with h2 | h2 <;> rw [h2] <;> rfl) (by kernel_rfl)
/-! ### right translations -/
def preB (x : Xl) : Bool := cond (decide (x.page < 0)) true (cond (decide ((1024 : Int) ≤ x.page)) true (cond (decide (x.guest < 0)) true (cond (decide ((64 : Int) ≤ x.guest)) true (cond (decide (x.frame < 0)) true (cond (decide ((1048576 : Int) < x.frame)) true (cond (!(bitB x.bits)) true (decide ((2 : Int) < ((x.reads.length : Nat) : Int)))))))))
def rightX (x : Xl) : Bool := cond (preB x) false ((x.reads.filter pWrong).isEmpty)
theorem pre_len {x : Xl} (h : preB x = false) : x.reads.length ≤ 2 := by
  unfold preB at h
  simp only [c_or, Bool.or_eq_false_iff, decide_eq_false_iff_not] at h
  omega
theorem r_right (k : Nat) (x : Xl) : Rt Pg (D (k + 1)) 97 [tv x] (.bool (rightX x)) := .of (by
  rw [Dk]; unfold tv; rw [nf_tlb_right]
  simp only [rv, List.length_map]
  show cond (preB x) _ _ = _
  cases h : preB x with
  | true => simp [rightX, h]
  | false =>
    have hl := pre_len h
    simp only [cond_false]
    rw [keepi (D k) x.reads _ x.root x.page x.guest x.frame x.bits (by omega) (by omega)]
    simp only [rightX, h, cond_false]
    cases hh : x.reads.filter pWrong with
    | nil => rfl
    | cons a l => simp [rv]; omega) (by kernel_rfl)
theorem fst_any {α : Type} (xs : List α) (d : α) (p : α → Bool) : (fstP (fun n => p (xs.getD n d)) xs.length 0).isSome = xs.any p := by
  cases h : fstP (fun n => p (xs.getD n d)) xs.length 0 with
  | none =>
    rw [fstP_none] at h
    symm
    simp only [Option.isSome_none, List.any_eq_false]
    intro x hx
    obtain ⟨i, hi, rfl⟩ := List.mem_iff_getElem.mp hx
    have := h i (by omega) (by omega)
    simpa [List.getD, hi] using this
  | some n =>
    obtain ⟨_, h2, h3, _⟩ := fstP_some _ _ _ h
    symm
    simp only [Option.isSome_some, List.any_eq_true]
    have hn : n < xs.length := by omega
    exact ⟨xs[n], List.getElem_mem hn, by simpa [List.getD, hn] using h3⟩
theorem filt_any {α : Type} (xs : List α) (p : α → Bool) : (xs.filter p).isEmpty = !(xs.any p) := by
  induction xs with
  | nil => rfl
  | cons a l ih => rw [List.filter_cons]; cases h : p a <;> simp [h, ih]
theorem r_rright (k : Nat) (x : Xl) (h0 : -9223372036854775808 ≤ x.bits) (h1 : x.bits < 9223372036854775808) : Rt Pg (D (k + 2)) 36 [tv x] (.bool (rightX x)) := .of (by
  rw [Dk]; unfold tv; rw [nf_ref25_Right]
  simp only [(r_bits k h0 h1).ok, (r_bits k h0 h1).val, bO, cond_true, condB_tt, rv, List.length_map]
  show cond (preB x) _ _ = _
  cases h : preB x with
  | true => simp [rightX, h]
  | false =>
    have hl := pre_len h
    rw [rright (D (k + 1)) x.reads x.root x.page x.guest x.frame x.bits (by omega) (by omega)]
    have := fst_any x.reads 0 pWrong
    simp only [rightX, h, cond_false, filt_any]
    rw [← this]
    cases fstP (fun n => pWrong (x.reads.getD n 0)) x.reads.length 0 <;> rfl) (by kernel_rfl)
/-! ### what a translation has read -/
def readX (a s : Int) (x : Xl) : Bool := x.reads.any (pRead a s)
theorem r_reads (k : Nat) (x : Xl) (a s : Int) (hl : x.reads.length < 1000) : Rt Pg (D (k + 1)) 106 [tv x, .int .i64 a, .int .i64 s] (.bool (readX a s x)) := .of (by
  rw [Dk]; unfold tv; rw [nf_tlb_reads]
  simp only [rv, List.length_map]
  rw [keepia (D k) x.reads _ x.root x.page x.guest x.frame x.bits a s (by omega) (by omega)]
  have := filt_any x.reads (pRead a s)
  unfold readX
  cases hh : x.reads.filter (pRead a s) with
  | nil => rw [hh] at this; simp [rv] at this ⊢; exact this
  | cons b l =>
    rw [hh] at this
    have e : x.reads.any (pRead a s) = true := by revert this; cases x.reads.any (pRead a s) <;> simp
    rw [e]; simp [rv]) (by kernel_rfl)
theorem r_rreads (k : Nat) (x : Xl) (a s : Int) (hl : x.reads.length < 1000) : Rt Pg (D (k + 1)) 126 [tv x, .int .i64 a, .int .i64 s] (.bool (readX a s x)) := .of (by
  rw [Dk]; unfold tv; rw [nf_ref25_reads]
  rw [rreads (D k) x.reads x.root x.page x.guest x.frame x.bits a s (by omega) (by omega)]
  have := fst_any x.reads 0 (pRead a s)
  unfold readX
  rw [← this]
  cases fstP (fun n => pRead a s (x.reads.getD n 0)) x.reads.length 0 <;> rfl) (by kernel_rfl)
/-! ### equal translations -/
def eqX (a b : Xl) : Bool := decide (a = b)
theorem r_same (k : Nat) (a b : Xl) (hl : a.reads.length < 1000) : Rt Pg (D (k + 1)) 103 [tv a, tv b] (.bool (eqX a b)) := .of (by
  rw [Dk]; unfold tv; rw [nf_ref25_same]
  simp only [rv, List.length_map]
  obtain ⟨a1, a2, a3, a4, a5, a6⟩ := a
  obtain ⟨b1, b2, b3, b4, b5, b6⟩ := b
  unfold eqX
  simp only [Xl.mk.injEq]
  have nb : ∀ {x y : Int}, ¬ x = y → (x != y) = true := fun h => by simp [h]
  by_cases h1 : a1 = b1
  case neg => simp only [nb h1, cond_true, cond_same]; simp [h1]
  by_cases h2 : a2 = b2
  case neg => simp only [nb h2, cond_true, cond_same]; simp [h2]
  by_cases h3 : a3 = b3
  case neg => simp only [nb h3, cond_true, cond_same]; simp [h3]
  by_cases h4 : a4 = b4
  case neg => simp only [nb h4, cond_true, cond_same]; simp [h4]
  by_cases h5 : a5 = b5
  case neg => simp only [nb h5, cond_true, cond_same]; simp [h5]
  by_cases h6 : a6.length = b6.length
  case neg =>
    have : a6 ≠ b6 := fun e => h6 (by rw [e])
    have e : ((a6.length : Int) != (b6.length : Int)) = true := by simp; omega
    simp only [e, cond_true, cond_same]; simp [this]
  subst h1 h2 h3 h4 h5
  have e : ((a6.length : Int) != (b6.length : Int)) = false := by simp; omega
  rw [rsame (D k) a6 b6 a1 a2 a3 a4 a5 a1 a2 a3 a4 a5 (by simpa using hl) h6.symm (by simp at hl; omega)]
  simp only [bne_self_eq_false, cond_false, e, true_and]
  cases hf : fstP (fun n => a6.getD n 0 != b6.getD n 0) a6.length 0 with
  | none =>
    rw [fstP_none] at hf
    have : a6 = b6 := List.ext_getElem h6 (fun i i1 i2 => by
      have := hf i (by omega) (by omega)
      simpa [List.getD, i1, i2] using this)
    rw [decide_eq_true this]; rfl
  | some n =>
    obtain ⟨_, i2, i3, _⟩ := fstP_some _ _ _ hf
    have : a6 ≠ b6 := fun e => by rw [e] at i3; simp at i3
    rw [decide_eq_false this]; rfl) (by kernel_rfl)
end Go.Proofs.Ytcknhfnbdgleiaa
