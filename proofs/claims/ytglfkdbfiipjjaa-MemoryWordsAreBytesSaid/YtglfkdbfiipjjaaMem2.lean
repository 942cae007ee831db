/- The memory: its loops. -/
import Derived.Test.YtglfkdbfiipjjaaMem1
import Derived.Test.YtglfkdbfiipjjaaEv32
set_option linter.unusedVariables false
set_option linter.unusedSimpArgs false
namespace Go.Proofs.Ytglfkdbfiipjjaa
open Go.AE

theorem i64s {k : Nat} (h : k < 1000000000) : IntKind.i64.wrap ((k : Int) + 1) = ((k + 1 : Nat) : Int) := by rw [wrap_i64_id (by omega) (by omega)]; omega
theorem dif_ok (a b : List AV) (k : Nat) : diffOK a b k = true := by
  unfold diffOK inB
  rw [condB_eq, condB_eq]
  by_cases h1 : (a.length : Int) ≤ k
  · simp [h1]
  · by_cases h2 : (b.length : Int) ≤ k
    · simp [h1, h2]
    · have e1 : (k : Int) < a.length := by omega
      have e2 : (k : Int) < b.length := by omega
      simp [h1, h2, e1, e2]
theorem dfN_len (a b : List AV) : ∀ k, (dfN a b k).length ≤ k
  | 0 => by simp [dfN]
  | k + 1 => by
    have := dfN_len a b k
    unfold dfN
    cases differs a b k <;> simp <;> omega
theorem loops19 {fr : Fr} {M : Mm} {t : LT} (ht : lp19 fr M = some t) {R : Type} (call : CallH R) (dep : Nat) (K : AX → Fr → Mm → Option R) (r : R) (hgo : t.go K = some r) :
    iter 10000 (fun fr M' k => evC cxE 19 call dep code19 fr M' (roundK Try.checked.prog M.rows.length (some ([2, 3, 5, 13, 14], [5])) K k)) fr M = some r := by
  unfold lp19 at ht
  split at ht
  · rename_i hok
    split at ht
    · rename_i len i a b h2 h3 h5 h13 h14 htf
      split at ht
      · rename_i h
        subst h
        have he := okFr_eq hok
        simp only [List.map_cons, List.map_nil, h2, h3, h5, h13, h14, htf] at he
        obtain rfl := Option.some.inj ht
        cases hc : decide (0 ≤ len) && decide (len < 1000) with
        | false => rw [LT.go, hc] at hgo; exact absurd hgo (by simp [LT.go])
        | true =>
          rw [LT.go, hc] at hgo
          simp only [cond_true, LT.go] at hgo
          simp only [Bool.and_eq_true, decide_eq_true_eq] at hc
          rw [he]
          refine (iter_rounds2 (st := fun k => fr19 (dfN a b k) len k) (mm := fun _ => ⟨rows2 a b, []⟩) (N := len.toNat) (out := some r) ?_ ?_ 10000 (by omega))
          · intro k hk kk
            have e0 : decide ((k : Int) < len) = true := by simp; omega
            have hl := dfN_len a b k
            have e1 : decide (((dfN a b k).length + 1) * 8 ≤ 140737488355328) = true := by simp; omega
            refine (round19 call dep K kk a b (dfN a b k) len k).trans ?_
            rw [e0, dif_ok, e1, i64s (by omega)]
            simp only [cond_true, dfN]
            cases differs a b k <;> rfl
          · intro kk
            refine (round19 call dep K kk a b (dfN a b len.toNat) len len.toNat).trans ?_
            have e0 : decide (((len.toNat : Nat) : Int) < len) = false := by simp; omega
            rw [e0]
            exact hgo
      · exact absurd ht (by simp)
    · exact absurd ht (by simp)
  · exact absurd ht (by simp)
theorem loops29 {fr : Fr} {M : Mm} {t : LT} (ht : lp29 fr M = some t) {R : Type} (call : CallH R) (dep : Nat) (K : AX → Fr → Mm → Option R) (r : R) (hgo : t.go K = some r) :
    iter 10000 (fun fr M' k => evC cxE 29 call dep code29 fr M' (roundK Try.checked.prog M.rows.length (some ([2, 3, 5, 6], [5])) K k)) fr M = some r := by
  unfold lp29 at ht
  split at ht
  · rename_i hok
    split at ht
    · rename_i i a b h2 h3 h5 h6 htf
      split at ht
      · rename_i h
        subst h
        have he := okFr_eq hok
        simp only [List.map_cons, List.map_nil, h2, h3, h5, h6, htf] at he
        obtain rfl := Option.some.inj ht
        cases hc : decide (maxI a b < 1000) with
        | false => rw [LT.go, hc] at hgo; exact absurd hgo (by simp [LT.go])
        | true =>
          rw [LT.go, hc] at hgo
          simp only [cond_true, LT.go] at hgo
          simp only [Bool.and_eq_true, decide_eq_true_eq] at hc
          rw [he]
          have h0 : 0 ≤ maxI a b := by unfold maxI; split <;> omega
          refine (iter_rounds2 (st := fun k => fr29 (dfN a b k) k) (mm := fun _ => ⟨rows2 a b, []⟩) (N := (maxI a b).toNat) (out := some r) ?_ ?_ 10000 (by omega))
          · intro k hk kk
            have e0 : decide ((k : Int) < maxI a b) = true := by simp; omega
            have hl := dfN_len a b k
            have e1 : decide (((dfN a b k).length + 1) * 8 ≤ 140737488355328) = true := by simp; omega
            refine (round29 call dep K kk a b (dfN a b k) k).trans ?_
            rw [e0, dif_ok, e1, i64s (by omega)]
            simp only [cond_true, dfN]
            cases differs a b k <;> rfl
          · intro kk
            refine (round29 call dep K kk a b (dfN a b (maxI a b).toNat) (maxI a b).toNat).trans ?_
            have e0 : decide ((((maxI a b).toNat : Nat) : Int) < maxI a b) = false := by simp; omega
            rw [e0]
            exact hgo
      · exact absurd ht (by simp)
    · exact absurd ht (by simp)
  · exact absurd ht (by simp)
theorem saN_iter {R : Type} (call : CallH R) (dep : Nat) (K : AX → Fr → Mm → Option R) (a b : List AV) (hab : a.length = b.length) (hlen : a.length < 5000) : ∀ (j k m : Nat), k + j = a.length → j < m →
    iter m (fun fr M' k => evC cxE 20 call dep code20 fr M' (roundK Try.checked.prog 0 (some ([0, 1, 4, 5], [4])) K k)) (fr20 a b k) ⟨[], []⟩ = cond (saN a b j k) (K (.exit 0) fx20 ⟨[], []⟩) (K .ret fx20 ⟨[], []⟩)
  | 0, k, m, hk, hm => by
    obtain ⟨m', rfl⟩ : ∃ m', m = m' + 1 := ⟨m - 1, by omega⟩
    refine (round20 call dep K _ a b k).trans ?_
    have e0 : decide ((k : Int) < (a.length : Int)) = false := by simp; omega
    rw [e0]; rfl
  | j + 1, k, m, hk, hm => by
    obtain ⟨m', rfl⟩ : ∃ m', m = m' + 1 := ⟨m - 1, by omega⟩
    refine (round20 call dep K _ a b k).trans ?_
    have e0 : decide ((k : Int) < (a.length : Int)) = true := by simp; omega
    have e1 : inB (k : Int) a.length = true := by simp [inB]; omega
    have e2 : inB (k : Int) b.length = true := by simp [inB]; omega
    rw [e0, e1, e2, i64s (by omega)]
    simp only [cond_true, saN, Int.toNat_natCast]
    have ih := saN_iter call dep K a b hab hlen j (k + 1) m' (by omega) (by omega)
    rw [ih]
    cases (intOf (a.getD k .dead) != intOf (b.getD k .dead)) <;> rfl
theorem loops20 {fr : Fr} {M : Mm} {t : LT} (ht : lp20 fr M = some t) {R : Type} (call : CallH R) (dep : Nat) (K : AX → Fr → Mm → Option R) (r : R) (hgo : t.go K = some r) :
    iter 10000 (fun fr M' k => evC cxE 20 call dep code20 fr M' (roundK Try.checked.prog M.rows.length (some ([0, 1, 4, 5], [4])) K k)) fr M = some r := by
  unfold lp20 at ht
  split at ht
  · rename_i hok
    split at ht
    · rename_i a b i h0 h1 h4 h5 htf
      split at ht
      · rename_i h
        subst h
        have he := okFr_eq hok
        simp only [List.map_cons, List.map_nil, h0, h1, h4, h5, htf] at he
        obtain rfl := Option.some.inj ht
        cases hc : decide (a.length = b.length) && decide (a.length < 5000) with
        | false => rw [LT.go, hc] at hgo; exact absurd hgo (by simp [LT.go])
        | true =>
          rw [LT.go, hc] at hgo
          simp only [cond_true, LT.go] at hgo
          simp only [Bool.and_eq_true, decide_eq_true_eq] at hc
          rw [he]
          exact (saN_iter call dep K a b hc.1 hc.2 a.length 0 10000 (by omega) (by omega)).trans hgo
      · exact absurd ht (by simp)
    · exact absurd ht (by simp)
  · exact absurd ht (by simp)
/-! addresses -/
theorem ad1 {a : Int} {k L : Nat} (h0 : 0 ≤ a) (h : a + k < 128 * (L : Int)) (hL : L ≤ 64) : IntKind.i64.wrap (a + (k : Int)) = ((a.toNat + k : Nat) : Int) := by rw [wrap_i64_id (by omega) (by omega)]; omega
theorem ad2 (x : Nat) (h : x < 100000) : IntKind.i64.wrap (((x : Nat) : Int).tdiv 128) = ((x / 128 : Nat) : Int) := by
  rw [show ((x : Nat) : Int).tdiv 128 = ((x / 128 : Nat) : Int) from rfl, wrap_i64_id (by omega) (by omega)]
theorem ad3 (x : Nat) : ((x : Nat) : Int).tmod 128 = ((x % 128 : Nat) : Int) := rfl
theorem ad4 {x L : Nat} (h : x < 128 * L) : inB ((x / 128 : Nat) : Int) L = true := by simp [inB]; omega
theorem ad5 (x : Nat) : inB ((x % 128 : Nat) : Int) 128 = true := by simp [inB]; omega
theorem rrN_len (m : List AV) (a : Nat) : ∀ k, (rrN m a k).length = k
  | 0 => rfl
  | k + 1 => by simp [rrN, rrN_len m a k]
theorem loops26 {dep : Nat} {fr : Fr} {M : Mm} {t : LT} (ht : lp26 dep fr M = some t) {R : Type} (K : AX → Fr → Mm → Option R) (r : R) (hgo : t.go K = some r) :
    iter 10000 (fun fr M' k => evC cxE 26 (evF cxE dep) dep code26 fr M' (roundK Try.checked.prog M.rows.length (some ([1, 2, 3, 6, 7, 8], [6, 7])) K k)) fr M = some r := by
  unfold lp26 at ht
  split at ht
  · rename_i hok
    split at ht
    · rename_i a n i m s bb h1 h2 h3 h6 h7 h8 htf
      split at ht
      · rename_i h
        obtain ⟨rfl, rfl⟩ := h
        have he := okFr_eq hok
        simp only [List.map_cons, List.map_nil, h1, h2, h3, h6, h7, h8, htf] at he
        obtain rfl := Option.some.inj ht
        cases hc : decide (0 ≤ a) && (decide (0 ≤ n) && (decide (a + n ≤ 128 * (m.length : Int)) && decide (m.length ≤ 64))) with
        | false => rw [LT.go, hc] at hgo; exact absurd hgo (by simp [LT.go])
        | true =>
          rw [LT.go, hc] at hgo
          simp only [cond_true, LT.go] at hgo
          simp only [Bool.and_eq_true, decide_eq_true_eq] at hc
          rw [he]
          obtain ⟨c1, c2, c3, c4⟩ := hc
          refine (iter_rounds2 (st := fun k => fr26 a n (rrN m a.toNat k) k) (mm := fun _ => ⟨rows26 m s bb, []⟩) (N := n.toNat) (out := some r) ?_ ?_ 10000 (by omega))
          · intro k hk kk
            have e0 : decide ((k : Int) < n) = true := by simp; omega
            have e1 : decide (((rrN m a.toNat k).length + 1) * 1 ≤ 140737488355328) = true := by rw [rrN_len]; simp; omega
            refine (round26 K kk m (rrN m a.toNat k) a n k s bb).trans ?_
            simp only [ad1 (k := k) c1 (by omega) c4, ad2 (a.toNat + k) (by omega), ad3, ad4 (x := a.toNat + k) (L := m.length) (by omega), ad5, e0, e1, cond_true, i64s (k := k) (by omega)]
            rfl
          · intro kk
            refine (round26 K kk m (rrN m a.toNat n.toNat) a n n.toNat s bb).trans ?_
            have e0 : decide (((n.toNat : Nat) : Int) < n) = false := by simp; omega
            rw [e0]
            exact hgo
      · exact absurd ht (by simp)
    · exact absurd ht (by simp)
  · exact absurd ht (by simp)
theorem loops27 {fr : Fr} {M : Mm} {t : LT} (ht : lp27 fr M = some t) {R : Type} (call : CallH R) (dep : Nat) (K : AX → Fr → Mm → Option R) (r : R) (hgo : t.go K = some r) :
    iter 10000 (fun fr M' k => evC cxE 27 call dep code27 fr M' (roundK Try.checked.prog M.rows.length (some ([1, 2, 6, 7, 8], [6, 7])) K k)) fr M = some r := by
  unfold lp27 at ht
  split at ht
  · rename_i hok
    split at ht
    · rename_i a s i m bb m' n' pages n h1 h2 h6 h7 h8 htf
      split at ht
      · rename_i h
        subst h
        have he := okFr_eq hok
        simp only [List.map_cons, List.map_nil, h1, h2, h6, h7, h8, htf] at he
        obtain rfl := Option.some.inj ht
        cases hc : decide (0 ≤ a) && (decide (a + (s.length : Int) ≤ 128 * (n : Int)) && decide (n ≤ 64)) with
        | false => rw [LT.go, hc] at hgo; exact absurd hgo (by simp [LT.go])
        | true =>
          rw [LT.go, hc] at hgo
          simp only [cond_true, LT.go] at hgo
          simp only [Bool.and_eq_true, decide_eq_true_eq] at hc
          rw [he]
          obtain ⟨c1, c2, c3⟩ := hc
          refine (iter_rounds2 (st := fun k => fr27 a s k) (mm := fun k => ⟨rows27 m [] bb m' n' (rwN pages a.toNat s k) n, []⟩) (N := s.length) (out := some r) ?_ ?_ 10000 (by omega))
          · intro k hk kk
            have e0 : decide ((k : Int) < (s.length : Int)) = true := by simp; omega
            have e1 : inB (k : Int) s.length = true := by simp [inB]; omega
            refine (round27 call dep K kk m [] m' (rwN pages a.toNat s k) bb n n' a k s).trans ?_
            simp only [ad1 (k := k) c1 (by omega) c3, ad2 (a.toNat + k) (by omega), ad3, ad4 (x := a.toNat + k) (L := n) (by omega), ad5, e0, e1, cond_true, i64s (k := k) (by omega), Int.toNat_natCast, Nat.zero_add]
            rfl
          · intro kk
            refine (round27 call dep K kk m [] m' (rwN pages a.toNat s s.length) bb n n' a s.length s).trans ?_
            have e0 : decide ((s.length : Int) < (s.length : Int)) = false := by simp
            rw [e0]
            exact hgo
      · exact absurd ht (by simp)
    · exact absurd ht (by simp)
  · exact absurd ht (by simp)
theorem rlN_iter {R : Type} (K : AX → Fr → Mm → Option R) (m : List AV) (zn : Int) (zb : Bool) (a s : Int) (h0 : 0 ≤ a) (hL : m.length ≤ 64) : ∀ (j : Nat) (n : Int) (f : Nat), a + (j : Int) ≤ 128 * (m.length : Int) → j < f →
    iter f (fun fr M' k => evC cxE 14 (evF cxE 5) 5 code14 fr M' (roundK Try.checked.prog 2 (some ([1, 2, 3, 6, 8, 9], [6, 8])) K k)) (fr14 a s n ((j : Int) - 1)) ⟨rows14 m zn zb, []⟩ = K (.exit 0) (fx14 (rlN m a.toNat j n)) ⟨rows14 m zn zb, []⟩
  | 0, n, f, hj, hf => by
    obtain ⟨f', rfl⟩ : ∃ f', f = f' + 1 := ⟨f - 1, by omega⟩
    exact (round14 K _ m zn zb a s n ((0 : Nat) - 1 : Int)).trans rfl
  | j + 1, n, f, hj, hf => by
    obtain ⟨f', rfl⟩ : ∃ f', f = f' + 1 := ⟨f - 1, by omega⟩
    have ej : (((j + 1 : Nat) : Int) - 1) = (j : Int) := by omega
    rw [ej]
    refine (round14 K _ m zn zb a s n (j : Int)).trans ?_
    have e0 : decide (0 ≤ (j : Int)) = true := by simp
    have e1 : IntKind.i64.wrap ((j : Int) - 1) = (j : Int) - 1 := wrap_i64_id (by omega) (by omega)
    simp only [ad1 (k := j) (L := m.length) h0 (by omega) hL, ad2 (a.toNat + j) (by omega), ad3, ad4 (x := a.toNat + j) (L := m.length) (by omega), ad5, e0, cond_true, e1]
    exact rlN_iter K m zn zb a s h0 hL j _ f' (by omega) (by omega)
theorem loops14 {dep : Nat} {fr : Fr} {M : Mm} {t : LT} (ht : lp14 dep fr M = some t) {R : Type} (K : AX → Fr → Mm → Option R) (r : R) (hgo : t.go K = some r) :
    iter 10000 (fun fr M' k => evC cxE 14 (evF cxE dep) dep code14 fr M' (roundK Try.checked.prog M.rows.length (some ([1, 2, 3, 6, 8, 9], [6, 8])) K k)) fr M = some r := by
  unfold lp14 at ht
  split at ht
  · rename_i hok
    split at ht
    · rename_i a s n i m zn zb h1 h2 h3 h6 h8 h9 htf
      split at ht
      · rename_i h
        obtain ⟨rfl, rfl⟩ := h
        have he := okFr_eq hok
        simp only [List.map_cons, List.map_nil, h1, h2, h3, h6, h8, h9, htf] at he
        obtain rfl := Option.some.inj ht
        cases hc : decide (0 ≤ a) && (decide (0 ≤ i) && (decide (a + i < 128 * (m.length : Int)) && decide (m.length ≤ 64))) with
        | false => rw [LT.go, hc] at hgo; exact absurd hgo (by simp [LT.go])
        | true =>
          rw [LT.go, hc] at hgo
          simp only [cond_true, LT.go] at hgo
          simp only [Bool.and_eq_true, decide_eq_true_eq] at hc
          rw [he]
          obtain ⟨c1, c2, c3, c4⟩ := hc
          have ei : i = ((i.toNat + 1 : Nat) : Int) - 1 := by omega
          have := rlN_iter K m zn zb a s c1 c4 (i.toNat + 1) 0 10000 (by omega) (by omega)
          rw [← ei] at this
          exact this.trans hgo
      · exact absurd ht (by simp)
    · exact absurd ht (by simp)
  · exact absurd ht (by simp)
theorem loops15 {fr : Fr} {M : Mm} {t : LT} (ht : lp15 fr M = some t) {R : Type} (call : CallH R) (dep : Nat) (K : AX → Fr → Mm → Option R) (r : R) (hgo : t.go K = some r) :
    iter 10000 (fun fr M' k => evC cxE 15 call dep code15 fr M' (roundK Try.checked.prog M.rows.length (some ([2, 3, 4, 6, 7], [4, 6])) K k)) fr M = some r := by
  unfold lp15 at ht
  split at ht
  · rename_i hok
    split at ht
    · rename_i i m a s v bb m' n' pages n h2 h3 h4 h6 h7 htf
      split at ht
      · rename_i h
        subst h
        have he := okFr_eq hok
        simp only [List.map_cons, List.map_nil, h2, h3, h4, h6, h7, htf] at he
        obtain rfl := Option.some.inj ht
        cases hc : decide (0 ≤ a) && (decide (0 ≤ s) && (decide (s ≤ 4) && (decide (a + s ≤ 128 * (n : Int)) && decide (n ≤ 64)))) with
        | false => rw [LT.go, hc] at hgo; exact absurd hgo (by simp [LT.go])
        | true =>
          rw [LT.go, hc] at hgo
          simp only [cond_true, LT.go] at hgo
          simp only [Bool.and_eq_true, decide_eq_true_eq] at hc
          rw [he]
          obtain ⟨c1, c2, c3, c4, c5⟩ := hc
          refine (iter_rounds2 (st := fun k => fr15 k) (mm := fun k => ⟨rows15 m [] bb a s v m' n' (rsN pages a.toNat v k) n, []⟩) (N := s.toNat) (out := some r) ?_ ?_ 10000 (by omega))
          · intro k hk kk
            have e0 : decide ((k : Int) < s) = true := by simp; omega
            have e1 : IntKind.i64.wrap (8 * (k : Int)) = ((8 * k : Nat) : Int) := by rw [wrap_i64_id (by omega) (by omega)]; omega
            have e2 : decide (0 ≤ ((8 * k : Nat) : Int)) = true := decide_eq_true (Int.natCast_nonneg _)
            refine (round15 call dep K kk m [] m' (rsN pages a.toNat v k) bb n n' a s v k).trans ?_
            simp only [ad1 (k := k) (L := n) c1 (by omega) c5, ad2 (a.toNat + k) (by omega), ad3, ad4 (x := a.toNat + k) (L := n) (by omega), ad5, e0, e1, e2, cond_true, i64s (k := k) (by omega), Int.toNat_natCast, Nat.zero_add]
            rfl
          · intro kk
            refine (round15 call dep K kk m [] m' (rsN pages a.toNat v s.toNat) bb n n' a s v s.toNat).trans ?_
            have e0 : decide (((s.toNat : Nat) : Int) < s) = false := by simp; omega
            rw [e0]
            exact hgo
      · exact absurd ht (by simp)
    · exact absurd ht (by simp)
  · exact absurd ht (by simp)
end Go.Proofs.Ytglfkdbfiipjjaa
