/- The memory: the loop of stores; all that is said of loops holds. -/
import Derived.Test.YtglfkdbfiipjjaaMem3
set_option linter.unusedVariables false
set_option linter.unusedSimpArgs false
namespace Go.Proofs.Ytglfkdbfiipjjaa
open Go.AE

theorem thereK_eq {X : Type} (n : Nat) (a s : Int) (k : Bool → Option X) : thereK n a s k = k (thereB n a s) := by
  unfold thereK thereB
  by_cases h1 : s = 1
  · subst h1
    cases decide (0 ≤ a) <;> cases (a.tmod 1 == 0) <;> rfl
  · have e1 : (s == 1) = false := by simp [h1]
    by_cases h4 : s = 4
    · subst h4
      rw [e1]
      cases decide (0 ≤ a) <;> cases (a.tmod 4 == 0) <;> rfl
    · have e4 : (s == 4) = false := by simp [h4]
      rw [e1, e4]; rfl
theorem thereB_spec {n : Nat} {a s : Int} (hn : n ≤ 64) (h : thereB n a s = true) : 0 ≤ a ∧ (s = 1 ∨ s = 4) ∧ a.tmod s = 0 ∧ a + s ≤ 128 * (n : Int) := by
  have key : ∀ s : Int, s = 1 ∨ s = 4 → (cond (decide (0 ≤ a)) (cond (a.tmod s == 0) (decide (a ≤ IntKind.i64.wrap (IntKind.i64.wrap ((n : Int) * 128) - s))) false) false) = true → 0 ≤ a ∧ a.tmod s = 0 ∧ a + s ≤ 128 * (n : Int) := by
    intro s hs h
    cases h0 : decide (0 ≤ a) with
    | false => rw [h0] at h; exact absurd h (by simp)
    | true =>
      cases h1 : (a.tmod s == 0) with
      | false => rw [h0, h1] at h; exact absurd h (by simp)
      | true =>
        rw [h0, h1] at h
        simp only [cond_true, decide_eq_true_eq] at h h0
        rw [wrap_i64_id (n := (n : Int) * 128) (by omega) (by omega), wrap_i64_id (by omega) (by omega)] at h
        exact ⟨h0, eq_of_beq h1, by omega⟩
  unfold thereB at h
  by_cases h1 : s = 1
  · subst h1
    obtain ⟨k1, k2, k3⟩ := key 1 (.inl rfl) h
    exact ⟨k1, .inl rfl, k2, k3⟩
  · by_cases h4 : s = 4
    · subst h4
      obtain ⟨k1, k2, k3⟩ := key 4 (.inr rfl) h
      exact ⟨k1, .inr rfl, k2, k3⟩
    · have e1 : (s == 1) = false := by simp [h1]
      have e4 : (s == 4) = false := by simp [h4]
      rw [e1, e4] at h
      exact absurd h (by simp)
theorem store_ok {n : Nat} {a s v : Int} (hn : n ≤ 64) (h : thereB n a s = true) : (cond (decide (0 ≤ s) && decide (s ≤ ((4 : Nat) : Int))) true false) = true ∧ putOK n a (sub (bytes4 v) 0 s.toNat) = true := by
  obtain ⟨h0, h1, h2, h3⟩ := thereB_spec hn h
  rcases h1 with rfl | rfl
  · refine ⟨rfl, ?_⟩
    have : ((sub (bytes4 v) 0 (1 : Int).toNat).length : Int) = 1 := rfl
    unfold putOK
    rw [this, decide_eq_true h0, decide_eq_true h3, decide_eq_true hn]; rfl
  · refine ⟨rfl, ?_⟩
    have : ((sub (bytes4 v) 0 (4 : Int).toNat).length : Int) = 4 := rfl
    unfold putOK
    rw [this, decide_eq_true h0, decide_eq_true h3, decide_eq_true hn]; rfl
theorem app_iter {R : Type} (K : AX → Fr → Mm → Option R) (l z : List AV) (n : Nat) (hn : n ≤ 64) (ws : List AV) (hws : ws.length < 1000) : ∀ (rest : List AV) (i : Nat) (pages : List AV) (g : Nat), ws.drop i = rest → i ≤ ws.length → rest.length < g →
    iter g (fun fr M' k => evC cxE 24 (evF cxE 5) 5 code24 fr M' (roundK Try.checked.prog 4 (some ([2, 4, 5, 6, 7, 16, 17, 18], [4, 5, 6])) K k)) (fr24 n ws (ws.length : Int) (i : Int)) ⟨rowsA (Mv l) Zv pages n, []⟩ =
      cond (appL n rest pages).2 (K (.exit 0) fx24 ⟨rowsA (Mv l) Zv (appL n rest pages).1 n, []⟩) (K .ret fx24 ⟨rowsA (Mv l) (Mv l) (appL n rest pages).1 n, []⟩)
  | [], i, pages, g, hd, hi, hg => by
    obtain ⟨g', rfl⟩ : ∃ g', g = g' + 1 := ⟨g - 1, by omega⟩
    have hil : i = ws.length := by
      have := congrArg List.length hd
      simp only [List.length_drop, List.length_nil] at this
      omega
    refine (round24 K _ l z pages ws n ws.length i).trans ?_
    have e0 : decide ((i : Int) < (ws.length : Int)) = false := decide_eq_false (by omega)
    rw [e0]; rfl
  | w :: rest, i, pages, g, hd, hi, hg => by
    obtain ⟨g', rfl⟩ : ∃ g', g = g' + 1 := ⟨g - 1, by omega⟩
    have hlen := congrArg List.length hd
    simp only [List.length_drop, List.length_cons] at hlen
    have hw : ws.getD i .dead = w := by
      have := congrArg (fun l => l.head?) hd
      simp only [List.head?_drop, List.head?_cons] at this
      simp [List.getD, this]
    have hd' : ws.drop (i + 1) = rest := by
      rw [← List.drop_drop, hd]; rfl
    refine (round24 K _ l z pages ws n ws.length i).trans ?_
    have e0 : decide ((i : Int) < (ws.length : Int)) = true := decide_eq_true (by omega)
    have e1 : inB (i : Int) ws.length = true := by
      unfold inB
      rw [Bool.and_eq_true]
      exact ⟨decide_eq_true (Int.natCast_nonneg _), decide_eq_true (by omega)⟩
    simp only [e0, e1, cond_true, Int.toNat_natCast, hw, thereK_eq, i64s (k := i) (by omega)]
    cases hth : thereB n (wA w) (wS w) with
    | false => simp only [Bool.not_false, cond_true, appL, hth, cond_false]
    | true =>
      obtain ⟨s1, s2⟩ := store_ok (v := wV w) hn hth
      simp only [Bool.not_true, cond_false, s1, s2, cond_true, appL, hth]
      exact app_iter K l z n hn ws hws rest (i + 1) _ g' hd' (by omega) (by simp only [List.length_cons] at hg; omega)
theorem loops24 {dep : Nat} {fr : Fr} {M : Mm} {t : LT} (ht : lp24 dep fr M = some t) {R : Type} (K : AX → Fr → Mm → Option R) (r : R) (hgo : t.go K = some r) :
    iter 10000 (fun fr M' k => evC cxE 24 (evF cxE dep) dep code24 fr M' (roundK Try.checked.prog M.rows.length (some ([2, 4, 5, 6, 7, 16, 17, 18], [4, 5, 6])) K k)) fr M = some r := by
  unfold lp24 at ht
  split at ht
  · rename_i hok
    split at ht
    · rename_i n ws len i l pages n' h2 h4 h5 h6 h7 h16 h17 h18 htf
      split at ht
      · rename_i h
        obtain ⟨rfl, rfl⟩ := h
        have he := okFr_eq hok
        simp only [List.map_cons, List.map_nil, h2, h4, h5, h6, h7, h16, h17, h18, htf] at he
        obtain rfl := Option.some.inj ht
        cases hc : (decide (len = (ws.length : Int)) && (decide (n' = n) && (decide (n ≤ 64) && decide (ws.length < 1000)))) with
        | false => rw [LT.go, hc] at hgo; exact absurd hgo (by simp [LT.go])
        | true =>
          rw [LT.go, hc] at hgo
          simp only [cond_true, LT.go] at hgo
          simp only [Bool.and_eq_true, decide_eq_true_eq] at hc
          obtain ⟨rfl, rfl, c3, c4⟩ := hc
          rw [he]
          exact (app_iter K l [] n' c3 ws c4 ws 0 pages 10000 rfl (by omega) (by omega)).trans hgo
      · exact absurd ht (by simp)
    · exact absurd ht (by simp)
  · exact absurd ht (by simp)
set_option maxRecDepth 100000 in
theorem at35 : (Try.f35.body.bind fun c => loopAt c 1) = some code35 := by kernel_rfl
theorem fn35 : Try.checked.prog.funcs[35]? = some Try.f35 := by kernel_rfl
set_option maxRecDepth 100000 in
theorem at24 : (Try.f24.body.bind fun c => loopAt c 4) = some code24 := by kernel_rfl
theorem fn24 : Try.checked.prog.funcs[24]? = some Try.f24 := by kernel_rfl
set_option maxRecDepth 100000 in
theorem at19 : (Try.f19.body.bind fun c => loopAt c 3) = some code19 := by kernel_rfl
theorem fn19 : Try.checked.prog.funcs[19]? = some Try.f19 := by kernel_rfl
set_option maxRecDepth 100000 in
theorem at29 : (Try.f29.body.bind fun c => loopAt c 3) = some code29 := by kernel_rfl
theorem fn29 : Try.checked.prog.funcs[29]? = some Try.f29 := by kernel_rfl
set_option maxRecDepth 100000 in
theorem at20 : (Try.f20.body.bind fun c => loopAt c 4) = some code20 := by kernel_rfl
theorem fn20 : Try.checked.prog.funcs[20]? = some Try.f20 := by kernel_rfl
set_option maxRecDepth 100000 in
theorem at26 : (Try.f26.body.bind fun c => loopAt c 5) = some code26 := by kernel_rfl
theorem fn26 : Try.checked.prog.funcs[26]? = some Try.f26 := by kernel_rfl
set_option maxRecDepth 100000 in
theorem at27 : (Try.f27.body.bind fun c => loopAt c 5) = some code27 := by kernel_rfl
theorem fn27 : Try.checked.prog.funcs[27]? = some Try.f27 := by kernel_rfl
set_option maxRecDepth 100000 in
theorem at21 : (Try.f21.body.bind fun c => loopAt c 4) = some code21 := by kernel_rfl
theorem fn21 : Try.checked.prog.funcs[21]? = some Try.f21 := by kernel_rfl
set_option maxRecDepth 100000 in
theorem at14 : (Try.f14.body.bind fun c => loopAt c 6) = some code14 := by kernel_rfl
theorem fn14 : Try.checked.prog.funcs[14]? = some Try.f14 := by kernel_rfl
set_option maxRecDepth 100000 in
theorem at15 : (Try.f15.body.bind fun c => loopAt c 6) = some code15 := by kernel_rfl
theorem fn15 : Try.checked.prog.funcs[15]? = some Try.f15 := by kernel_rfl
theorem loopsE : cxE.Loops := by
  intro dep f id fr M t ht fn body hfn hbody
  simp only [cxE] at ht
  split at ht
  · have hfn' : Try.checked.prog.funcs[35]? = some fn := hfn
    rw [fn35] at hfn'
    obtain rfl := Option.some.inj hfn'
    have ha := at35
    rw [hbody] at ha
    exact ⟨code35, ha, fun R K r hgo => loops35 ht (evF cxE dep) dep K r hgo⟩
  · have hfn' : Try.checked.prog.funcs[24]? = some fn := hfn
    rw [fn24] at hfn'
    obtain rfl := Option.some.inj hfn'
    have ha := at24
    rw [hbody] at ha
    exact ⟨code24, ha, fun R K r hgo => loops24 ht K r hgo⟩
  · have hfn' : Try.checked.prog.funcs[19]? = some fn := hfn
    rw [fn19] at hfn'
    obtain rfl := Option.some.inj hfn'
    have ha := at19
    rw [hbody] at ha
    exact ⟨code19, ha, fun R K r hgo => loops19 ht (evF cxE dep) dep K r hgo⟩
  · have hfn' : Try.checked.prog.funcs[29]? = some fn := hfn
    rw [fn29] at hfn'
    obtain rfl := Option.some.inj hfn'
    have ha := at29
    rw [hbody] at ha
    exact ⟨code29, ha, fun R K r hgo => loops29 ht (evF cxE dep) dep K r hgo⟩
  · have hfn' : Try.checked.prog.funcs[20]? = some fn := hfn
    rw [fn20] at hfn'
    obtain rfl := Option.some.inj hfn'
    have ha := at20
    rw [hbody] at ha
    exact ⟨code20, ha, fun R K r hgo => loops20 ht (evF cxE dep) dep K r hgo⟩
  · have hfn' : Try.checked.prog.funcs[26]? = some fn := hfn
    rw [fn26] at hfn'
    obtain rfl := Option.some.inj hfn'
    have ha := at26
    rw [hbody] at ha
    exact ⟨code26, ha, fun R K r hgo => loops26 ht K r hgo⟩
  · have hfn' : Try.checked.prog.funcs[27]? = some fn := hfn
    rw [fn27] at hfn'
    obtain rfl := Option.some.inj hfn'
    have ha := at27
    rw [hbody] at ha
    exact ⟨code27, ha, fun R K r hgo => loops27 ht (evF cxE dep) dep K r hgo⟩
  · have hfn' : Try.checked.prog.funcs[21]? = some fn := hfn
    rw [fn21] at hfn'
    obtain rfl := Option.some.inj hfn'
    have ha := at21
    rw [hbody] at ha
    exact ⟨code21, ha, fun R K r hgo => loops21 ht (evF cxE dep) dep K r hgo⟩
  · have hfn' : Try.checked.prog.funcs[14]? = some fn := hfn
    rw [fn14] at hfn'
    obtain rfl := Option.some.inj hfn'
    have ha := at14
    rw [hbody] at ha
    exact ⟨code14, ha, fun R K r hgo => loops14 ht K r hgo⟩
  · have hfn' : Try.checked.prog.funcs[15]? = some fn := hfn
    rw [fn15] at hfn'
    obtain rfl := Option.some.inj hfn'
    have ha := at15
    rw [hbody] at ha
    exact ⟨code15, ha, fun R K r hgo => loops15 ht (evF cxE dep) dep K r hgo⟩
  · exact absurd ht (by simp)
theorem goodE : cxE.Good := fun f args v h => by simp [cxE] at h
end Go.Proofs.Ytglfkdbfiipjjaa
