/- The memory: its other loops. -/
import Derived.Test.YtglfkdbfiipjjaaMem2
set_option linter.unusedVariables false
set_option linter.unusedSimpArgs false
namespace Go.Proofs.Ytglfkdbfiipjjaa
open Go.AE

theorem sub_len {α : Type} (l : List α) (a b : Nat) (h : b ≤ l.length) : (sub l a b).length = b - a := by simp [sub]; omega
theorem wf_len {m : List AV} (h : wfP m = true) {i : Nat} (hi : i < m.length) : (partsOf (m.getD i .dead)).length = 128 := by
  simp only [wfP, List.all_eq_true, decide_eq_true_eq] at h
  exact h _ (by simp only [List.getD, List.getElem?_eq_getElem hi, Option.getD_some]; exact List.getElem_mem hi)
theorem rdN_iter {R : Type} (call : CallH R) (dep : Nat) (K : AX → Fr → Mm → Option R) (m : List AV) (a n : Nat) (hwf : wfP m = true) (hL : m.length ≤ 64) (han : a + n ≤ 128 * m.length) : ∀ (f : Nat) (out : List AV) (g : Nat), out.length ≤ n → n - out.length ≤ f → f < g →
    iter g (fun fr M' k => evC cxE 21 call dep code21 fr M' (roundK Try.checked.prog 1 (some ([1, 2, 3, 6, 7, 8], [8])) K k)) (fr21 a n out) ⟨[.var 24 (Mv m)], []⟩ = K (.exit 0) (fx21 (rdN m a n f out)) ⟨[.var 24 (Mv m)], []⟩
  | 0, out, g, h0, h1, hg => by
    obtain ⟨g', rfl⟩ : ∃ g', g = g' + 1 := ⟨g - 1, by omega⟩
    refine (round21 call dep K _ m out a n).trans ?_
    have e0 : decide ((out.length : Int) < (n : Int)) = false := by simp; omega
    rw [e0]; rfl
  | f + 1, out, g, h0, h1, hg => by
    obtain ⟨g', rfl⟩ : ∃ g', g = g' + 1 := ⟨g - 1, by omega⟩
    refine (round21 call dep K _ m out a n).trans ?_
    by_cases h : out.length < n
    · have e0 : decide ((out.length : Int) < (n : Int)) = true := by simp; omega
      have ep : IntKind.i64.wrap ((a : Int) + (out.length : Int)) = ((a + out.length : Nat) : Int) := by rw [wrap_i64_id (by omega) (by omega)]; omega
      have e2 : (decide (0 ≤ (((a + out.length) % 128 : Nat) : Int)) && decide ((((a + out.length) % 128 : Nat) : Int) ≤ ((128 : Nat) : Int))) = true := by simp; omega
      have ey : IntKind.i64.wrap ((n : Int) - (out.length : Int)) = ((n - out.length : Nat) : Int) := by rw [wrap_i64_id (by omega) (by omega)]; omega
      have ek : (if ((n - out.length : Nat) : Int) < ((128 - (a + out.length) % 128 : Nat) : Int) then ((n - out.length : Nat) : Int) else ((128 - (a + out.length) % 128 : Nat) : Int)) = ((min (128 - (a + out.length) % 128) (n - out.length) : Nat) : Int) := by
        split <;> omega
      have hpl := wf_len hwf (i := (a + out.length) / 128) (by omega)
      have hch : (sub (partsOf (m.getD ((a + out.length) / 128) .dead)) ((a + out.length) % 128) ((a + out.length) % 128 + min (128 - (a + out.length) % 128) (n - out.length))).length = min (128 - (a + out.length) % 128) (n - out.length) := by
        rw [sub_len _ _ _ (by rw [hpl]; omega)]; omega
      have e3 : (decide (0 ≤ ((min (128 - (a + out.length) % 128) (n - out.length) : Nat) : Int)) && decide (((min (128 - (a + out.length) % 128) (n - out.length) : Nat) : Int) ≤ ((128 - (a + out.length) % 128 : Nat) : Int))) = true := by
        rw [Bool.and_eq_true]
        exact ⟨decide_eq_true (Int.natCast_nonneg _), decide_eq_true (by omega)⟩
      simp only [ep, ad2 (a + out.length) (by omega), ad3, ad4 (x := a + out.length) (L := m.length) (by omega), e0, e2, ey, cond_true, Int.toNat_natCast, Nat.add_zero, Nat.sub_zero, ek, e3, hch]
      have e4 : decide ((out.length + min (128 - (a + out.length) % 128) (n - out.length)) * 1 ≤ 140737488355328) = true := by simp; omega
      rw [e4, cond_true]
      have ih := rdN_iter call dep K m a n hwf hL han f (out ++ sub (partsOf (m.getD ((a + out.length) / 128) .dead)) ((a + out.length) % 128) ((a + out.length) % 128 + min (128 - (a + out.length) % 128) (n - out.length))) g' (by rw [List.length_append, hch]; omega) (by rw [List.length_append, hch]; omega) (by omega)
      refine ih.trans ?_
      rw [rdN, if_pos h]
    · have e0 : decide ((out.length : Int) < (n : Int)) = false := by simp; omega
      rw [e0, cond_false, rdN, if_neg h]
theorem loops21 {fr : Fr} {M : Mm} {t : LT} (ht : lp21 fr M = some t) {R : Type} (call : CallH R) (dep : Nat) (K : AX → Fr → Mm → Option R) (r : R) (hgo : t.go K = some r) :
    iter 10000 (fun fr M' k => evC cxE 21 call dep code21 fr M' (roundK Try.checked.prog M.rows.length (some ([1, 2, 3, 6, 7, 8], [8])) K k)) fr M = some r := by
  unfold lp21 at ht
  split at ht
  · rename_i hok
    split at ht
    · rename_i a n m h1 h2 h3 h6 h7 h8 htf
      have he := okFr_eq hok
      simp only [List.map_cons, List.map_nil, h1, h2, h3, h6, h7, h8, htf] at he
      obtain rfl := Option.some.inj ht
      cases hc : decide (0 ≤ a) && (decide (0 ≤ n) && (decide (a + n ≤ 128 * (m.length : Int)) && (decide (m.length ≤ 64) && wfP m))) with
      | false => rw [LT.go, hc] at hgo; exact absurd hgo (by simp [LT.go])
      | true =>
        rw [LT.go, hc] at hgo
        simp only [cond_true, LT.go] at hgo
        simp only [Bool.and_eq_true, decide_eq_true_eq] at hc
        obtain ⟨c1, c2, c3, c4, c5⟩ := hc
        rw [he]
        have := rdN_iter call dep K m a.toNat n.toNat c5 c4 (by omega) n.toNat [] 10000 (by simp) (by simp) (by omega)
        rw [Int.toNat_of_nonneg c1, Int.toNat_of_nonneg c2] at this
        exact this.trans hgo
    · exact absurd ht (by simp)
  · exact absurd ht (by simp)
/-! put -/
theorem putW_iter {R : Type} (call : CallH R) (dep : Nat) (K : AX → Fr → Mm → Option R) (m z : List AV) (n n' : Nat) (hn : n ≤ 64) : ∀ (f : Nat) (pages : List AV) (a : Nat) (d : List AV) (g : Nat), d.length ≤ f → a + d.length ≤ 128 * n → f < g →
    iter g (fun fr M' k => evC cxE 35 call dep code35 fr M' (roundK Try.checked.prog 5 (some ([1, 2, 3], [])) K k)) (fr35 4 (.int .i64 (a : Int)) (.slice 5 d false)) ⟨rowsW (Mv m) Zv (.agg 76 [.msl 2 [] 72 0 0 n']) pages n, []⟩ =
      K (.exit 0) (mkFr 26 [] []) ⟨rowsW (Mv m) Zv (.agg 76 [.msl 2 [] 72 0 0 n']) (putL f pages a d) n, []⟩
  | 0, pages, a, d, g, hd, han, hg => by
    obtain ⟨g', rfl⟩ : ∃ g', g = g' + 1 := ⟨g - 1, by omega⟩
    refine (round35W call dep K _ m z pages n a d n').trans ?_
    have e0 : decide (0 < (d.length : Int)) = false := decide_eq_false (by omega)
    rw [e0]; rfl
  | f + 1, pages, a, d, g, hd, han, hg => by
    obtain ⟨g', rfl⟩ : ∃ g', g = g' + 1 := ⟨g - 1, by omega⟩
    refine (round35W call dep K _ m z pages n a d n').trans ?_
    by_cases h : d.length = 0
    · have e0 : decide (0 < (d.length : Int)) = false := decide_eq_false (by omega)
      rw [e0, cond_false, putL, if_pos h]
    · have e0 : decide (0 < (d.length : Int)) = true := decide_eq_true (by omega)
      have e2 : (decide (0 ≤ ((a % 128 : Nat) : Int)) && decide (((a % 128 : Nat) : Int) ≤ ((128 : Nat) : Int))) = true := by simp; omega
      have e3 : (cond (decide (0 ≤ ((min d.length (128 - a % 128) : Nat) : Int)) && decide (((min d.length (128 - a % 128) : Nat) : Int) ≤ (d.length : Int))) true false) = true := by
        have : (decide (0 ≤ ((min d.length (128 - a % 128) : Nat) : Int)) && decide (((min d.length (128 - a % 128) : Nat) : Int) ≤ (d.length : Int))) = true := by
          rw [Bool.and_eq_true]
          exact ⟨decide_eq_true (Int.natCast_nonneg _), decide_eq_true (by omega)⟩
        rw [this]; rfl
      have e4 : IntKind.i64.wrap ((a : Int) + ((min d.length (128 - a % 128) : Nat) : Int)) = ((a + min d.length (128 - a % 128) : Nat) : Int) := by rw [wrap_i64_id (by omega) (by omega)]; omega
      have e5 : sub d (min d.length (128 - a % 128)) d.length = d.drop (min d.length (128 - a % 128)) := by simp [sub]
      simp only [ad2 a (by omega), ad3, ad4 (x := a) (L := n) (by omega), e0, e2, cond_true, Int.toNat_natCast, Nat.zero_add, e3, e4, e5]
      have hk : min (min d.length (128 - a % 128)) d.length = min d.length (128 - a % 128) := by omega
      have ih := putW_iter call dep K m z n n' hn f (pageSet pages (a / 128) (a % 128) (d.take (min d.length (128 - a % 128)))) (a + min d.length (128 - a % 128)) (d.drop (min d.length (128 - a % 128))) g' (by rw [List.length_drop]; omega) (by rw [List.length_drop]; omega) (by omega)
      unfold pageSet at ih
      rw [List.length_take, hk] at ih
      refine ih.trans ?_
      rw [putL, if_neg h]
      unfold pageSet
      dsimp only
      rw [List.length_take, hk]
theorem putS_iter {R : Type} (call : CallH R) (dep : Nat) (K : AX → Fr → Mm → Option R) (m z : List AV) (n n1 n2 : Nat) (a1 s1 v1 a2 s2 v2 : Int) (hn : n ≤ 64) : ∀ (f : Nat) (pages : List AV) (a : Nat) (d : List AV) (g : Nat), d.length ≤ f → a + d.length ≤ 128 * n → f < g →
    iter g (fun fr M' k => evC cxE 35 call dep code35 fr M' (roundK Try.checked.prog 8 (some ([1, 2, 3], [])) K k)) (fr35 7 (.int .i64 (a : Int)) (.slice 5 d false)) ⟨rowsS (Mv m) Zv pages (.agg 76 [.msl 2 [] 72 0 0 n1]) (Wv a1 s1 v1) (.agg 76 [.msl 2 [] 72 0 0 n2]) (Wv a2 s2 v2) n, []⟩ =
      K (.exit 0) (mkFr 26 [] []) ⟨rowsS (Mv m) Zv (putL f pages a d) (.agg 76 [.msl 2 [] 72 0 0 n1]) (Wv a1 s1 v1) (.agg 76 [.msl 2 [] 72 0 0 n2]) (Wv a2 s2 v2) n, []⟩
  | 0, pages, a, d, g, hd, han, hg => by
    obtain ⟨g', rfl⟩ : ∃ g', g = g' + 1 := ⟨g - 1, by omega⟩
    refine (round35S call dep K _ m z pages n a d n1 n2 a1 s1 v1 a2 s2 v2).trans ?_
    have e0 : decide (0 < (d.length : Int)) = false := decide_eq_false (by omega)
    rw [e0]; rfl
  | f + 1, pages, a, d, g, hd, han, hg => by
    obtain ⟨g', rfl⟩ : ∃ g', g = g' + 1 := ⟨g - 1, by omega⟩
    refine (round35S call dep K _ m z pages n a d n1 n2 a1 s1 v1 a2 s2 v2).trans ?_
    by_cases h : d.length = 0
    · have e0 : decide (0 < (d.length : Int)) = false := decide_eq_false (by omega)
      rw [e0, cond_false, putL, if_pos h]
    · have e0 : decide (0 < (d.length : Int)) = true := decide_eq_true (by omega)
      have e2 : (decide (0 ≤ ((a % 128 : Nat) : Int)) && decide (((a % 128 : Nat) : Int) ≤ ((128 : Nat) : Int))) = true := by simp; omega
      have e3 : (cond (decide (0 ≤ ((min d.length (128 - a % 128) : Nat) : Int)) && decide (((min d.length (128 - a % 128) : Nat) : Int) ≤ (d.length : Int))) true false) = true := by
        have : (decide (0 ≤ ((min d.length (128 - a % 128) : Nat) : Int)) && decide (((min d.length (128 - a % 128) : Nat) : Int) ≤ (d.length : Int))) = true := by
          rw [Bool.and_eq_true]
          exact ⟨decide_eq_true (Int.natCast_nonneg _), decide_eq_true (by omega)⟩
        rw [this]; rfl
      have e4 : IntKind.i64.wrap ((a : Int) + ((min d.length (128 - a % 128) : Nat) : Int)) = ((a + min d.length (128 - a % 128) : Nat) : Int) := by rw [wrap_i64_id (by omega) (by omega)]; omega
      have e5 : sub d (min d.length (128 - a % 128)) d.length = d.drop (min d.length (128 - a % 128)) := by simp [sub]
      simp only [ad2 a (by omega), ad3, ad4 (x := a) (L := n) (by omega), e0, e2, cond_true, Int.toNat_natCast, Nat.zero_add, e3, e4, e5]
      have hk : min (min d.length (128 - a % 128)) d.length = min d.length (128 - a % 128) := by omega
      have ih := putS_iter call dep K m z n n1 n2 a1 s1 v1 a2 s2 v2 hn f (pageSet pages (a / 128) (a % 128) (d.take (min d.length (128 - a % 128)))) (a + min d.length (128 - a % 128)) (d.drop (min d.length (128 - a % 128))) g' (by rw [List.length_drop]; omega) (by rw [List.length_drop]; omega) (by omega)
      unfold pageSet at ih
      rw [List.length_take, hk] at ih
      refine ih.trans ?_
      rw [putL, if_neg h]
      unfold pageSet
      dsimp only
      rw [List.length_take, hk]
theorem putOK_spec {n : Nat} {a : Int} {d : List AV} (h : putOK n a d = true) : 0 ≤ a ∧ a + (d.length : Int) ≤ 128 * (n : Int) ∧ n ≤ 64 := by
  simpa [putOK] using h
theorem loops35 {fr : Fr} {M : Mm} {t : LT} (ht : lp35 fr M = some t) {R : Type} (call : CallH R) (dep : Nat) (K : AX → Fr → Mm → Option R) (r : R) (hgo : t.go K = some r) :
    iter 10000 (fun fr M' k => evC cxE 35 call dep code35 fr M' (roundK Try.checked.prog M.rows.length (some ([1, 2, 3], [])) K k)) fr M = some r := by
  unfold lp35 at ht
  split at ht
  · rename_i hok
    split at ht
    · rename_i a d rr m pages n' n h1 h2 h3 htf
      split at ht
      · rename_i h
        subst h
        have he := okFr_eq hok
        simp only [List.map_cons, List.map_nil, h1, h2, h3, htf] at he
        obtain rfl := Option.some.inj ht
        cases hc : putOK n a d with
        | false => rw [LT.go, hc] at hgo; exact absurd hgo (by simp [LT.go])
        | true =>
          rw [LT.go, hc] at hgo
          simp only [cond_true, LT.go] at hgo
          obtain ⟨c1, c2, c3⟩ := putOK_spec hc
          rw [he]
          have := putW_iter call dep K m [] n n' c3 d.length pages a.toNat d 10000 (Nat.le_refl _) (by omega) (by omega)
          rw [Int.toNat_of_nonneg c1] at this
          exact this.trans hgo
      · exact absurd ht (by simp)
    · rename_i a d rr m pages n1 a1 s1 v1 n2 a2 s2 v2 n h1 h2 h3 htf
      split at ht
      · rename_i h
        subst h
        have he := okFr_eq hok
        simp only [List.map_cons, List.map_nil, h1, h2, h3, htf] at he
        obtain rfl := Option.some.inj ht
        cases hc : putOK n a d with
        | false => rw [LT.go, hc] at hgo; exact absurd hgo (by simp [LT.go])
        | true =>
          rw [LT.go, hc] at hgo
          simp only [cond_true, LT.go] at hgo
          obtain ⟨c1, c2, c3⟩ := putOK_spec hc
          rw [he]
          have := putS_iter call dep K m [] n n1 n2 a1 s1 v1 a2 s2 v2 c3 d.length pages a.toNat d 10000 (Nat.le_refl _) (by omega) (by omega)
          rw [Int.toNat_of_nonneg c1] at this
          exact this.trans hgo
      · exact absurd ht (by simp)
    · exact absurd ht (by simp)
  · exact absurd ht (by simp)
end Go.Proofs.Ytglfkdbfiipjjaa
