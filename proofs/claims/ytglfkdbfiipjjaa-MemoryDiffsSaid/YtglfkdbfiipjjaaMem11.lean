/- The memory: all that is said of its functions holds. -/
import Derived.Test.YtglfkdbfiipjjaaMem10
set_option linter.unusedVariables false
set_option linter.unusedSimpArgs false
namespace Go.Proofs.Ytglfkdbfiipjjaa
open Go.AE

theorem rap_iter {R : Type} (call : CallH R) (dep : Nat) (K : AX → Fr → Mm → Option R) (m ws : List AV) (hws : ws.length < 1000) : ∀ (rest : List AV) (i : Nat) (cur : List AV) (g : Nat), ws.drop i = rest → i ≤ ws.length → rest.length < g → rapOK F0 rest cur = true →
    iter g (fun fr M' k => evC (cxG F0 1) 28 call dep code28 fr M' (roundK Try.checked.prog 3 (some ([1, 2, 4, 5, 6], [4, 5])) K k)) (fr28 ws (i : Int)) ⟨rows28 m z38 cur true, []⟩ =
      cond (rapN F0 rest cur).2 (K (.exit 0) fx28 ⟨rows28 m z38 (rapN F0 rest cur).1 true, []⟩) (K .ret fx28 ⟨rows28 m (.agg 37 [Mv m, .bool false]) (rapN F0 rest cur).1 false, []⟩)
  | [], i, cur, g, hd, hi, hg, hok => by
    obtain ⟨g', rfl⟩ : ∃ g', g = g' + 1 := ⟨g - 1, by omega⟩
    have hil : i = ws.length := by
      have := congrArg List.length hd
      simp only [List.length_drop, List.length_nil] at this
      omega
    refine (round28 F0 call dep K _ m cur ws true i).trans ?_
    have e0 : decide ((i : Int) < (ws.length : Int)) = false := decide_eq_false (by omega)
    rw [e0]; rfl
  | w :: rest, i, cur, g, hd, hi, hg, hok => by
    obtain ⟨g', rfl⟩ : ∃ g', g = g' + 1 := ⟨g - 1, by omega⟩
    have hlen := congrArg List.length hd
    simp only [List.length_drop, List.length_cons] at hlen
    have hw : ws.getD i .dead = w := by
      have := congrArg (fun l => l.head?) hd
      simp only [List.head?_drop, List.head?_cons] at this
      simp [List.getD, this]
    have hd' : ws.drop (i + 1) = rest := by
      rw [← List.drop_drop, hd]; rfl
    refine (round28 F0 call dep K _ m cur ws true i).trans ?_
    have e0 : decide ((i : Int) < (ws.length : Int)) = true := decide_eq_true (by omega)
    have e1 : inB (i : Int) ws.length = true := by
      unfold inB
      rw [Bool.and_eq_true]
      exact ⟨decide_eq_true (Int.natCast_nonneg _), decide_eq_true (by omega)⟩
    have hcur : F0.ok cur = true := by
      unfold rapOK at hok
      cases hc : F0.ok cur with
      | false => rw [hc] at hok; exact absurd hok (by simp)
      | true => rfl
    unfold rapOK at hok
    rw [hcur, cond_true] at hok
    simp only [e0, e1, hcur, cond_true, Int.toNat_natCast, hw, i64s (k := i) (by omega)]
    cases hth : F0.rstB cur (wA w) (wS w) (wV w) with
    | false => simp only [Bool.not_false, cond_true, rapN, hth, cond_false]
    | true =>
      rw [hth, cond_true] at hok
      simp only [Bool.not_true, cond_false, cond_true, rapN, hth]
      exact rap_iter call dep K m ws hws rest (i + 1) _ g' hd' (by omega) (by simp only [List.length_cons] at hg; omega) hok
theorem loops28 {fr : Fr} {M : Mm} {t : LT} (ht : lp28 F0 fr M = some t) {R : Type} (call : CallH R) (dep : Nat) (K : AX → Fr → Mm → Option R) (r : R) (hgo : t.go K = some r) :
    iter 10000 (fun fr M' k => evC (cxG F0 1) 28 call dep code28 fr M' (roundK Try.checked.prog M.rows.length (some ([1, 2, 4, 5, 6], [4, 5])) K k)) fr M = some r := by
  unfold lp28 at ht
  split at ht
  · rename_i hok
    split at ht
    · rename_i ws i m cur h1 h2 h4 h5 h6 htf
      split at ht
      · rename_i h
        subst h
        have he := okFr_eq hok
        simp only [List.map_cons, List.map_nil, h1, h2, h4, h5, h6, htf] at he
        obtain rfl := Option.some.inj ht
        cases hc : (rapOK F0 ws cur && decide (ws.length < 1000)) with
        | false => rw [LT.go, hc] at hgo; exact absurd hgo (by simp [LT.go])
        | true =>
          rw [LT.go, hc] at hgo
          simp only [cond_true, LT.go] at hgo
          simp only [Bool.and_eq_true, decide_eq_true_eq] at hc
          rw [he]
          exact (rap_iter call dep K m ws hc.2 ws 0 cur 10000 rfl (by omega) (by omega) hc.1).trans hgo
      · exact absurd ht (by simp)
    · exact absurd ht (by simp)
  · exact absurd ht (by simp)
theorem asc_iter {R : Type} (call : CallH R) (dep : Nat) (K : AX → Fr → Mm → Option R) (a b d : List AV) (wa ws wv : Int) (hlen : d.length < 5000) : ∀ (j i m : Nat), 1 ≤ i → d.length ≤ i + j → (d.length = i + j ∨ j = 0) → j < m →
    iter m (fun fr M' k => evC (cxG F0 2) 5 call dep code5 fr M' (roundK Try.checked.prog 3 (some ([3, 4, 5, 6, 7, 8], [3, 4, 5, 6, 7])) K k)) (fr5 d i) ⟨rows5 a b wa ws wv, []⟩ = cond (ascN d j i) (K (.exit 0) (fx5 d) ⟨rows5 a b wa ws wv, []⟩) (K .ret (fx5 d) ⟨rows5 a b wa ws wv, []⟩)
  | 0, i, m, hi, hk, _, hm => by
    obtain ⟨m', rfl⟩ : ∃ m', m = m' + 1 := ⟨m - 1, by omega⟩
    refine (round5 F0 call dep K _ a b d wa ws wv i).trans ?_
    have e0 : decide ((i : Int) < (d.length : Int)) = false := decide_eq_false (by omega)
    rw [e0]; rfl
  | j + 1, i, m, hi, hk, hd, hm => by
    obtain ⟨m', rfl⟩ : ∃ m', m = m' + 1 := ⟨m - 1, by omega⟩
    refine (round5 F0 call dep K _ a b d wa ws wv i).trans ?_
    have e0 : decide ((i : Int) < (d.length : Int)) = true := decide_eq_true (by omega)
    have e1 : inB (i : Int) d.length = true := by
      unfold inB; rw [decide_eq_true (show 0 ≤ (i : Int) by omega), decide_eq_true (show (i : Int) < d.length by omega)]; rfl
    have e3 : IntKind.i64.wrap ((i : Int) - 1) = ((i - 1 : Nat) : Int) := by rw [wrap_i64_id (by omega) (by omega)]; omega
    have e2 : inB ((i - 1 : Nat) : Int) d.length = true := by
      unfold inB; rw [decide_eq_true (show 0 ≤ ((i - 1 : Nat) : Int) by omega), decide_eq_true (show ((i - 1 : Nat) : Int) < d.length by omega)]; rfl
    rw [e3]
    simp only [e0, e1, e2, cond_true, i64s (k := i) (by omega), Int.toNat_natCast, ascN]
    have ih := asc_iter call dep K a b d wa ws wv hlen j (i + 1) m' (by omega) (by omega) (by omega) (by omega)
    rw [ih]
    cases decide (intOf (d.getD i .dead) ≤ intOf (d.getD (i - 1) .dead)) <;> rfl
theorem loops5 {fr : Fr} {M : Mm} {t : LT} (ht : lp5 fr M = some t) {R : Type} (call : CallH R) (dep : Nat) (K : AX → Fr → Mm → Option R) (r : R) (hgo : t.go K = some r) :
    iter 10000 (fun fr M' k => evC (cxG F0 2) 5 call dep code5 fr M' (roundK Try.checked.prog M.rows.length (some ([3, 4, 5, 6, 7, 8], [3, 4, 5, 6, 7])) K k)) fr M = some r := by
  unfold lp5 at ht
  split at ht
  · rename_i hok
    split at ht
    · rename_i d i a b wa ws wv h3 h4 h5 h6 h7 h8 htf
      split at ht
      · rename_i h
        subst h
        have he := okFr_eq hok
        simp only [List.map_cons, List.map_nil, h3, h4, h5, h6, h7, h8, htf] at he
        obtain rfl := Option.some.inj ht
        cases hc : decide (d.length < 5000) with
        | false => rw [LT.go, hc] at hgo; exact absurd hgo (by simp [LT.go])
        | true =>
          rw [LT.go, hc] at hgo
          simp only [cond_true, LT.go] at hgo
          simp only [decide_eq_true_eq] at hc
          rw [he]
          exact (asc_iter call dep K a b d wa ws wv hc (d.length - 1) 1 10000 (by omega) (by omega) (by omega) (by omega)).trans hgo
      · exact absurd ht (by simp)
    · exact absurd ht (by simp)
  · exact absurd ht (by simp)
set_option maxRecDepth 100000 in
theorem at28 : (Try.f28.body.bind fun c => loopAt c 3) = some code28 := by kernel_rfl
theorem fn28 : Try.checked.prog.funcs[28]? = some Try.f28 := by kernel_rfl
set_option maxRecDepth 100000 in
theorem at5 : (Try.f5.body.bind fun c => loopAt c 7) = some code5 := by kernel_rfl
theorem fn5 : Try.checked.prog.funcs[5]? = some Try.f5 := by kernel_rfl
theorem loopsG (lv : Nat) : (cxG F0 lv).Loops := by
  intro dep f id fr M t ht fn body hfn hbody
  simp only [cxG] at ht
  split at ht
  · have hfn' : Try.checked.prog.funcs[28]? = some fn := hfn
    rw [fn28] at hfn'
    obtain rfl := Option.some.inj hfn'
    have ha := at28
    rw [hbody] at ha
    exact ⟨code28, ha, fun R K r hgo => loops28 ht (evF (cxG F0 1) dep) dep K r hgo⟩
  · have hfn' : Try.checked.prog.funcs[5]? = some fn := hfn
    rw [fn5] at hfn'
    obtain rfl := Option.some.inj hfn'
    have ha := at5
    rw [hbody] at ha
    exact ⟨code5, ha, fun R K r hgo => loops5 ht (evF (cxG F0 2) dep) dep K r hgo⟩
  · exact absurd ht (by simp)
end Go.Proofs.Ytglfkdbfiipjjaa
