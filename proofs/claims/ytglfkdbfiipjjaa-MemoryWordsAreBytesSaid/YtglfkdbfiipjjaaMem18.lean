/- The memory's laws, in plain terms: what differs. -/
import Derived.Test.YtglfkdbfiipjjaaMem17
set_option linter.unusedVariables false
set_option linter.unusedSimpArgs false
namespace Go.Proofs.Ytglfkdbfiipjjaa
open Go.AE

theorem eqVs_bytes : ∀ (ps qs : List AV), (∀ q ∈ ps, byOK q = true) → (∀ q ∈ qs, byOK q = true) → (eqVs ps qs = true ↔ ps = qs)
  | [], [], _, _ => by simp [eqVs]
  | [], q :: qs, _, _ => by simp [eqVs]
  | p :: ps, [], _, _ => by simp [eqVs]
  | p :: ps, q :: qs, hp, hq => by
    obtain ⟨n, rfl, _⟩ := byOK_spec.1 (hp p List.mem_cons_self)
    obtain ⟨m, rfl, _⟩ := byOK_spec.1 (hq q List.mem_cons_self)
    have := eqVs_bytes ps qs (fun q h => hp q (List.mem_cons_of_mem _ h)) (fun q h => hq q (List.mem_cons_of_mem _ h))
    simp only [eqVs, eqV, Bool.and_eq_true, beq_iff_eq, this, List.cons.injEq, AV.int.injEq, true_and]
theorem differs_in {a b : List AV} (ha : okF a = true) (hb : okF b = true) {i : Nat} (h1 : i < a.length) (h2 : i < b.length) : differs a b (i : Int) = false ↔ a.getD i .dead = b.getD i .dead := by
  obtain ⟨ps, e1, p1, q1⟩ := ok_page ha h1
  obtain ⟨qs, e2, p2, q2⟩ := ok_page hb h2
  unfold differs
  rw [decide_eq_false (show ¬ (a.length : Int) ≤ (i : Int) by omega), decide_eq_false (show ¬ (b.length : Int) ≤ (i : Int) by omega), Int.toNat_natCast, e1, e2, cond_false, cond_false]
  show (!(eqVs ps qs)) = false ↔ _
  rw [Bool.not_eq_false', eqVs_bytes ps qs q1 q2]
  constructor
  · rintro rfl; rfl
  · intro h; injection h
theorem differs_comm {a b : List AV} (ha : okF a = true) (hb : okF b = true) (i : Nat) : differs a b (i : Int) = differs b a (i : Int) := by
  by_cases h1 : i < a.length
  · by_cases h2 : i < b.length
    · have e1 := differs_in ha hb h1 h2
      have e2 := differs_in hb ha h2 h1
      cases c1 : differs a b (i : Int) with
      | false => exact (e2.2 (e1.1 c1).symm).symm
      | true =>
        cases c2 : differs b a (i : Int) with
        | true => rfl
        | false =>
          have := e1.2 (e2.1 c2).symm
          rw [c1] at this; exact absurd this (by simp)
    · unfold differs
      rw [decide_eq_true (show (b.length : Int) ≤ (i : Int) by omega)]
      cases decide ((a.length : Int) ≤ (i : Int)) <;> rfl
  · unfold differs
    rw [decide_eq_true (show (a.length : Int) ≤ (i : Int) by omega)]
    cases decide ((b.length : Int) ≤ (i : Int)) <;> rfl
theorem dfN_comm {a b : List AV} (ha : okF a = true) (hb : okF b = true) : ∀ k, dfN a b k = dfN b a k
  | 0 => rfl
  | k + 1 => by rw [dfN, dfN, dfN_comm ha hb k, differs_comm ha hb k]
theorem maxI_comm (a b : List AV) : maxI a b = maxI b a := by unfold maxI; split <;> split <;> omega
theorem df_comm {a b : List AV} (ha : okF a = true) (hb : okF b = true) : dfF a b = dfF b a := by
  unfold dfF; rw [maxI_comm, dfN_comm ha hb]
theorem dfN_asc (a b : List AV) : ∀ k, (∀ i, i < (dfN a b k).length → intOf ((dfN a b k).getD i .dead) < (k : Int)) ∧ ∀ i, i + 1 < (dfN a b k).length → intOf ((dfN a b k).getD i .dead) < intOf ((dfN a b k).getD (i + 1) .dead)
  | 0 => ⟨fun i h => absurd h (by simp [dfN]), fun i h => absurd h (by simp [dfN])⟩
  | k + 1 => by
    obtain ⟨h1, h2⟩ := dfN_asc a b k
    rw [dfN]
    cases differs a b (k : Int) with
    | false =>
      rw [cond_false]
      exact ⟨fun i hi => by have := h1 i hi; omega, h2⟩
    | true =>
      rw [cond_true]
      refine ⟨fun i hi => ?_, fun i hi => ?_⟩
      · rw [getD_app]
        split
        · rename_i hc; have := h1 i hc; omega
        · rw [List.length_append, List.length_singleton] at hi
          rw [show i - (dfN a b k).length = 0 from by omega]
          show (k : Int) < ((k + 1 : Nat) : Int)
          omega
      · rw [List.length_append, List.length_singleton] at hi
        rw [getD_app, getD_app, if_pos (by omega)]
        split
        · rename_i hc; exact h2 i hc
        · rw [show i + 1 - (dfN a b k).length = 0 from by omega]
          exact h1 i (by omega)
theorem asc_of {d : List AV} (h : ∀ i, i + 1 < d.length → intOf (d.getD i .dead) < intOf (d.getD (i + 1) .dead)) : ∀ j i, 1 ≤ i → i + j ≤ d.length → ascN d j i = true
  | 0, _, _, _ => rfl
  | j + 1, i, h1, h2 => by
    have := h (i - 1) (by omega)
    rw [show i - 1 + 1 = i from by omega] at this
    rw [ascN, decide_eq_false (by omega), asc_of h j (i + 1) (by omega) (by omega)]; rfl
theorem dfN_nil {a b : List AV} : ∀ k, dfN a b k = [] → ∀ i, i < k → differs a b (i : Int) = false
  | 0, _, i, h => absurd h (by omega)
  | k + 1, h, i, hi => by
    rw [dfN] at h
    cases hd : differs a b (k : Int) with
    | true => rw [hd, cond_true] at h; exact absurd h (by simp)
    | false =>
      rw [hd, cond_false] at h
      by_cases hk : i = k
      · rw [hk, hd]
      · exact dfN_nil k h i (by omega)
theorem df_nil {a b : List AV} (ha : okF a = true) (hb : okF b = true) (h : dfF a b = []) : a = b := by
  have hd := dfN_nil _ h
  have hl : a.length = b.length := by
    by_cases c1 : a.length < b.length
    · have := hd a.length (by unfold maxI; split <;> omega)
      unfold differs at this
      rw [decide_eq_true (show (a.length : Int) ≤ (a.length : Int) by omega)] at this
      exact absurd this (by simp)
    · by_cases c2 : b.length < a.length
      · have := hd b.length (by unfold maxI; split <;> omega)
        unfold differs at this
        rw [decide_eq_true (show (b.length : Int) ≤ (b.length : Int) by omega)] at this
        cases hc : decide ((a.length : Int) ≤ (b.length : Int)) <;> rw [hc] at this <;> exact absurd this (by simp)
      · omega
  refine List.ext_getElem hl fun i h1 h2 => ?_
  have := (differs_in ha hb h1 h2).1 (hd i (by unfold maxI; split <;> omega))
  simpa [List.getD, List.getElem?_eq_getElem h1, List.getElem?_eq_getElem h2] using this
theorem byte_inj {a b : Nat} (ha : a < 256) (hb : b < 256) (h : Go.AE.byteOf (.int .u8 (a : Int)) = Go.AE.byteOf (.int .u8 (b : Int))) : a = b := by
  have h' : UInt8.ofNat (Int.toNat (a : Int)) = UInt8.ofNat (Int.toNat (b : Int)) := h
  rw [Int.toNat_natCast, Int.toNat_natCast] at h'
  have := congrArg UInt8.toNat h'
  rw [UInt8.toNat_ofNat', UInt8.toNat_ofNat'] at this
  omega
theorem bytes_eq {a b : List AV} (ha : okF a = true) (hb : okF b = true) (h : rdF a 0 (szI a.length) = rdF b 0 (szI b.length)) : a = b := by
  obtain ⟨a1, a2, _⟩ := okF_spec ha
  obtain ⟨b1, b2, _⟩ := okF_spec hb
  have ea : szI a.length = ((128 * a.length : Nat) : Int) := by rw [sz_id a2]; omega
  have eb : szI b.length = ((128 * b.length : Nat) : Int) := by rw [sz_id b2]; omega
  obtain ⟨_, p2⟩ := rd_list (a := 0) (n := 128 * a.length) ha (by omega)
  obtain ⟨_, q2⟩ := rd_list (a := 0) (n := 128 * b.length) hb (by omega)
  have p2' : rdF a 0 (szI a.length) = (List.range (128 * a.length)).map fun i => bt a (0 + i) := by rw [ea]; exact p2
  have q2' : rdF b 0 (szI b.length) = (List.range (128 * b.length)).map fun i => bt b (0 + i) := by rw [eb]; exact q2
  rw [p2', q2'] at h
  have hl : a.length = b.length := by
    have := congrArg List.length h
    simp only [List.length_map, List.length_range] at this
    omega
  refine mem_ext ha hb hl fun y hy => ?_
  have hy2 : y < 128 * b.length := by omega
  have := congrArg (fun t : List UInt8 => t[y]?) h
  simp only [List.getElem?_map, List.getElem?_range hy, List.getElem?_range hy2, Option.map_some, Option.some.injEq, Nat.zero_add] at this
  obtain ⟨m, m1, m2⟩ := byN_val ha hy
  obtain ⟨n, n1, n2⟩ := byN_val hb hy2
  unfold bt at this
  rw [m2, n2] at this ⊢
  rw [byte_inj m1 n1 this]
theorem page_ext {l m : List AV} (hl : okF l = true) (hm : okF m = true) {i : Nat} (h1 : i < l.length) (h2 : i < m.length) (h : ∀ r, r < 128 → byN l (128 * i + r) = byN m (128 * i + r)) : l.getD i .dead = m.getD i .dead := by
  obtain ⟨ps, e1, p1, q1⟩ := ok_page hl h1
  obtain ⟨qs, e2, p2, q2⟩ := ok_page hm h2
  rw [e1, e2]
  congr 1
  refine List.ext_getElem (by omega) fun r hr hr2 => ?_
  have f1 := page_at hl (y := 128 * i + r) (by omega)
  have f2 := page_at hm (y := 128 * i + r) (by omega)
  rw [show (128 * i + r) / 128 = i from by omega, show (128 * i + r) % 128 = r from by omega] at f1 f2
  rw [e1] at f1
  rw [e2, ← h r (by omega), ← f1] at f2
  have f3 : qs.getD r .dead = ps.getD r .dead := f2
  simpa [List.getD, List.getElem?_eq_getElem hr, List.getElem?_eq_getElem hr2] using f3.symm
theorem dfN_one {a b : List AV} {j : Nat} : ∀ k, (∀ i, i < k → i ≠ j → differs a b (i : Int) = false) → dfN a b k = [] ∨ dfN a b k = [.int .i64 (j : Int)]
  | 0, _ => .inl rfl
  | k + 1, h => by
    rw [dfN]
    by_cases hk : k = j
    · have hn : dfN a b k = [] := by
        have : ∀ n, n ≤ k → dfN a b n = [] := fun n => by
          induction n with
          | zero => intro _; rfl
          | succ n ih => intro hn; rw [dfN, h n (by omega) (by omega), cond_false, ih (by omega)]
        exact this k (Nat.le_refl _)
      rw [hn, hk]
      cases differs a b (j : Int) with
      | false => exact .inl rfl
      | true => exact .inr rfl
    · rw [h k (by omega) hk, cond_false]
      exact dfN_one k fun i hi => h i (by omega)
theorem df_st {l : List AV} {x k : Nat} {v : Int} (h : okF l = true) (ht : thF l x k = true) : dfF l (stF l x k v) = [] ∨ dfF l (stF l x k v) = [.int .i64 ((x / 128 : Nat) : Int)] := by
  obtain ⟨x', k', e1, e2, hk, hm, hle⟩ := th_spec h ht
  have : x' = x := by omega
  subst this
  have : k' = k := by omega
  subst this
  obtain ⟨r1, r2⟩ := st_ok (x' : Int) (k' : Int) v h
  refine dfN_one _ fun i hi hne => ?_
  have hil : i < l.length := by unfold maxI at hi; rw [r2] at hi; split at hi <;> omega
  refine (differs_in h r1 hil (by omega)).2 (page_ext h r1 hil (by omega) fun r hr => ?_)
  rw [byN_st h ht, if_neg]
  rcases hk with rfl | rfl <;> omega
theorem law5_true (a b : List AV) (wa ws wv : Int) (hpa : ∀ p ∈ a, pgOK p = true) (hpb : ∀ p ∈ b, pgOK p = true) : fnV (cxG F0 2) 6 5 [Mv a, Mv b, Wv wa ws wv] = some (.bool true) := by
  rw [law5]
  have ev1 : F0.vld a = vldF a := rfl
  have ev2 : F0.vld b = vldF b := rfl
  rw [ev1, ev2]
  cases h1 : vldF a with
  | false => rfl
  | true =>
    cases h2 : vldF b with
    | false => rfl
    | true =>
      have ha := ok_of hpa h1
      have hb := ok_of hpb h2
      have e1 : F0.ok a = true := ha
      have e2 : F0.ok b = true := hb
      have e3 : F0.okd a = true := okd_of ha
      have e4 : F0.okd b = true := okd_of hb
      have e5 : F0.df b a = F0.df a b := (df_comm ha hb).symm
      have hdl : (F0.df a b).length ≤ 64 := df_len (okd_of ha) (okd_of hb)
      have e6 : F0.siOK (F0.df a b) (F0.df a b) = true := decide_eq_true (by omega)
      have e7 : F0.si (F0.df a b) (F0.df a b) = true := si_self _
      have e8 : ascN (F0.df a b) ((F0.df a b).length - 1) 1 = true := by
        by_cases hn : (F0.df a b).length = 0
        · rw [hn]; rfl
        · exact asc_of (d := dfN a b (maxI a b).toNat) (dfN_asc a b _).2 _ _ (Nat.le_refl _) (by have : (F0.df a b).length = (dfN a b (maxI a b).toNat).length := rfl; omega)
      have e9 : F0.sz a = szI a.length := rfl
      have e10 : F0.sz b = szI b.length := rfl
      have e11 : (((F0.df a b).length : Int) == 0) = (F0.rd a 0 (F0.sz a) == F0.rd b 0 (F0.sz b)) := by
        by_cases hab : a = b
        · subst hab
          have : F0.df a a = [] := df_self ha
          rw [this]; simp
        · have q1 : F0.df a b ≠ [] := fun h => hab (df_nil ha hb h)
          have q2 : F0.rd a 0 (F0.sz a) ≠ F0.rd b 0 (F0.sz b) := fun h => hab (bytes_eq ha hb h)
          have q3 : (F0.df a b).length ≠ 0 := fun h => q1 (List.length_eq_zero_iff.1 h)
          rw [beq_false_of_ne q2, beq_false_of_ne (by omega)]
      have e12 : F0.okd (F0.st a wa ws wv) = true := okd_of (st_ok wa ws wv ha).1
      have e13 : F0.df a a = [] := df_self ha
      have e14 : F0.stB a wa ws wv = thF a wa ws := stB_eq ha
      have hfew : F0.df a (F0.st a wa ws wv) = [] ∨ (thF a wa ws = true ∧ F0.df a (F0.st a wa ws wv) = [.int .i64 (IntKind.i64.wrap (wa.tdiv 128))]) := by
        cases ht : thF a wa ws with
        | false =>
          have : F0.st a wa ws wv = a := (st_not ht).1
          rw [this]; exact .inl e13
        | true =>
          obtain ⟨x, k, rfl, rfl, hk, hm, hle⟩ := th_spec ha ht
          obtain ⟨l1, l2, _⟩ := okF_spec ha
          rcases df_st (v := wv) ha ht with h | h
          · exact .inl h
          · refine .inr ⟨rfl, ?_⟩
            have : IntKind.i64.wrap (((x : Nat) : Int).tdiv 128) = ((x / 128 : Nat) : Int) := by
              have e : ((x : Nat) : Int).tdiv 128 = ((x / 128 : Nat) : Int) := rfl
              rw [e, wrap_i64_id (by omega) (by omega)]
            rw [this]; exact h
      simp only [Bool.not_true, cond_false, cond_true, e1, e2, e3, e4, e5, e6, e7, e8, e11, e12, e13, e14, Bool.and_self, decide_eq_true (show (F0.df a b).length < 5000 by omega)]
      rcases hfew with hf | ⟨ht, hf⟩
      · rw [hf]; simp [condB_eq]
      · rw [hf, ht]; simp [condB_eq, inB, intOf]
end Go.Proofs.Ytglfkdbfiipjjaa
