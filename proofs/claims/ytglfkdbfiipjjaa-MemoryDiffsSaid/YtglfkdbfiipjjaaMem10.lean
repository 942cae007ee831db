/- Memories in plain terms: what stores do; all that is said of the functions holds. -/
import Derived.Test.YtglfkdbfiipjjaaMem9
set_option linter.unusedVariables false
set_option linter.unusedSimpArgs false
namespace Go.Proofs.Ytglfkdbfiipjjaa
open Go.AE

theorem bytes_ok (v : Int) : ∀ q ∈ bytes4 v, byOK q = true := by
  intro q hq
  have hw : ∀ n : Int, byOK (.int .u8 (IntKind.u8.wrap n)) = true := fun n => byOK_spec.2 ⟨_, rfl, by rw [wrap_u8]; omega, by rw [wrap_u8]; omega⟩
  simp only [bytes4, List.mem_cons, List.not_mem_nil, or_false] at hq
  rcases hq with rfl | rfl | rfl | rfl <;> exact hw _
theorem sub_mem {l : List AV} {a b : Nat} {q : AV} (h : q ∈ sub l a b) : q ∈ l := List.mem_of_mem_take (List.mem_of_mem_drop h)
theorem bytes_at (v : Int) {s i : Nat} (hs : s ≤ 4) (hi : i < s) : (sub (bytes4 v) 0 s).getD i .dead = .int .u8 (IntKind.u8.wrap (v.fdiv (2 ^ min (8 * i) 32))) := by
  have h0 : (sub (bytes4 v) 0 s).getD i .dead = (bytes4 v).getD i .dead := by
    unfold sub
    rw [List.drop_zero, getD_take, if_pos hi]
  rw [h0]
  have : i = 0 ∨ i = 1 ∨ i = 2 ∨ i = 3 := by omega
  rcases this with rfl | rfl | rfl | rfl
  · show AV.int .u8 (IntKind.u8.wrap v) = _
    congr 2
    simp
  · rfl
  · rfl
  · rfl
theorem sub_bytes_len (v : Int) {s : Nat} (hs : s ≤ 4) : (sub (bytes4 v) 0 s).length = s := by
  rw [sub_len _ _ _ (by simpa [bytes4] using hs)]; omega
/-- A place that is there. -/
theorem th_spec {l : List AV} {a s : Int} (h : okF l = true) (ht : thF l a s = true) : ∃ (x k : Nat), a = (x : Int) ∧ s = (k : Int) ∧ (k = 1 ∨ k = 4) ∧ x % k = 0 ∧ x + k ≤ 128 * l.length := by
  obtain ⟨h0, hs, hm, hle⟩ := thereB_spec (okF_spec h).2.1 ht
  refine ⟨a.toNat, s.toNat, by omega, by omega, by omega, ?_, by omega⟩
  obtain ⟨x, rfl⟩ : ∃ x : Nat, a = x := ⟨a.toNat, by omega⟩
  rcases hs with rfl | rfl
  · simp [Nat.mod_one]
  · have : ((x : Nat) : Int).tmod 4 = ((x % 4 : Nat) : Int) := rfl
    rw [this] at hm
    show x % 4 = 0
    omega
theorem th_of {l : List AV} {x k : Nat} (h : okF l = true) (hk : k = 1 ∨ k = 4) (hm : x % k = 0) (hle : x + k ≤ 128 * l.length) : thF l x k = true := by
  have h64 := (okF_spec h).2.1
  have key : decide ((x : Int) ≤ IntKind.i64.wrap (IntKind.i64.wrap ((l.length : Int) * 128) - (k : Int))) = true := by
    rw [wrap_i64_id (n := (l.length : Int) * 128) (by omega) (by omega), wrap_i64_id (by omega) (by omega)]
    exact decide_eq_true (by omega)
  unfold thF thereB
  have h0 : decide (0 ≤ (x : Int)) = true := decide_eq_true (by omega)
  rw [key, h0]
  rcases hk with rfl | rfl
  · have : ((x : Nat) : Int).tmod ((1 : Nat) : Int) = ((x % 1 : Nat) : Int) := rfl
    rw [this, hm]; rfl
  · have : ((x : Nat) : Int).tmod ((4 : Nat) : Int) = ((x % 4 : Nat) : Int) := rfl
    rw [this, hm]; rfl
theorem app_ok : ∀ (ws : List AV) {l : List AV}, okF l = true → okF (appL l.length ws l).1 = true ∧ (appL l.length ws l).1.length = l.length
  | [], l, h => ⟨h, rfl⟩
  | w :: ws, l, h => by
    unfold appL
    cases ht : thereB l.length (wA w) (wS w) with
    | false => exact ⟨h, rfl⟩
    | true =>
      obtain ⟨x, k, e1, e2, hk, hm, hle⟩ := th_spec h ht
      have hk4 : k ≤ 4 := by omega
      have e3 : (wS w).toNat = k := by omega
      have e4 : (wA w).toNat = x := by omega
      rw [e3, e4, cond_true]
      obtain ⟨p1, p2⟩ := putL_ok (sub (bytes4 (wV w)) 0 k).length h (a := x) (d := sub (bytes4 (wV w)) 0 k) (by rw [sub_bytes_len _ hk4]; exact hle) (fun q hq => bytes_ok _ q (sub_mem hq))
      have := app_ok ws p1
      rw [p2] at this
      exact this
theorem ap_ok {l : List AV} (ws : List AV) (h : okF l = true) : okF (apF l ws) = true ∧ (apF l ws).length = l.length := by
  obtain ⟨h1, h2⟩ := app_ok ws h
  unfold apF
  cases (appL l.length ws l).2
  · exact ⟨h, rfl⟩
  · rw [cond_true, sz0_eq h2]; exact ⟨h1, h2⟩
theorem st_ok {l : List AV} (a s v : Int) (h : okF l = true) : okF (stF l a s v) = true ∧ (stF l a s v).length = l.length := ap_ok _ h
/-- A store, in plain terms. -/
theorem st_there {l : List AV} {x k : Nat} {v : Int} (h : okF l = true) (ht : thF l x k = true) : stF l x k v = putP l x (sub (bytes4 v) 0 k) ∧ stBF l x k v = true := by
  have ht' : thereB l.length (x : Int) (k : Int) = true := ht
  have hw : appL l.length [Wv x k v] l = (putP l x (sub (bytes4 v) 0 k), true) := by
    show cond (thereB l.length (x : Int) (k : Int)) _ _ = _
    rw [ht', cond_true]; rfl
  obtain ⟨p1, p2⟩ := app_ok [Wv x k v] h
  unfold stF stBF apF apBF
  rw [hw] at p2 ⊢
  exact ⟨by rw [cond_true]; exact sz0_eq p2, rfl⟩
theorem st_not {l : List AV} {a s v : Int} (ht : thF l a s = false) : stF l a s v = l ∧ stBF l a s v = false := by
  have ht' : thereB l.length a s = false := ht
  have hw : appL l.length [Wv a s v] l = (l, false) := by
    show cond (thereB l.length a s) _ _ = _
    rw [ht', cond_false]
  unfold stF stBF apF apBF
  rw [hw]; exact ⟨rfl, rfl⟩
theorem stB_eq {l : List AV} {a s v : Int} (h : okF l = true) : stBF l a s v = thF l a s := by
  cases ht : thF l a s with
  | false => exact (st_not ht).2
  | true =>
    obtain ⟨x, k, rfl, rfl, _⟩ := th_spec h ht
    exact (st_there h ht).2
theorem rst_ok {l : List AV} (a s v : Int) (h : okF l = true) : okF (rstF l a s v) = true ∧ (rstF l a s v).length = l.length := by
  unfold rstF
  cases ht : thF l a s with
  | false => exact ⟨h, rfl⟩
  | true =>
    obtain ⟨x, k, rfl, rfl, hk, hm, hle⟩ := th_spec h ht
    obtain ⟨h1, h2⟩ := rsN_ok (v := v) k h hle
    rw [cond_true, Int.toNat_natCast, Int.toNat_natCast, sz0_eq h2]
    exact ⟨h1, h2⟩
theorem byN_st {l : List AV} {x k : Nat} {v : Int} (h : okF l = true) (ht : thF l x k = true) (y : Nat) : byN (stF l x k v) y = if x ≤ y ∧ y < x + k then IntKind.u8.wrap (v.fdiv (2 ^ min (8 * (y - x)) 32)) else byN l y := by
  obtain ⟨x', k', e1, e2, hk, hm, hle⟩ := th_spec h ht
  have : x' = x := by omega
  subst this
  have : k' = k := by omega
  subst this
  have hk4 : k' ≤ 4 := by omega
  rw [(st_there h ht).1]
  unfold putP
  rw [byN_put _ h (by rw [sub_bytes_len _ hk4]; exact hle) (fun q hq => bytes_ok _ q (sub_mem hq)) (Nat.le_refl _), sub_bytes_len _ hk4]
  split
  · rename_i hc
    rw [bytes_at v hk4 (by omega)]; rfl
  · rfl
theorem st_rst {l : List AV} (a s v : Int) (h : okF l = true) : stF l a s v = rstF l a s v := by
  cases ht : thF l a s with
  | false => rw [(st_not ht).1]; unfold rstF; rw [ht]; rfl
  | true =>
    obtain ⟨x, k, rfl, rfl, hk, hm, hle⟩ := th_spec h ht
    obtain ⟨h1, h2⟩ := st_ok (x : Int) (k : Int) v h
    obtain ⟨r1, r2⟩ := rst_ok (x : Int) (k : Int) v h
    refine mem_ext h1 r1 (by rw [h2, r2]) fun y hy => ?_
    rw [byN_st h ht]
    unfold rstF
    obtain ⟨m1, m2⟩ := rsN_ok (v := v) k h hle
    rw [ht, cond_true, Int.toNat_natCast, Int.toNat_natCast, sz0_eq m2, byN_rs k h hle]
theorem wr_ok {l : List AV} (a : Int) (s : List UInt8) (h : okF l = true) : okF (wrF l a s) = true ∧ (wrF l a s).length = l.length := by
  unfold wrF
  cases hr : inW l a s.length with
  | false => exact ⟨h, rfl⟩
  | true =>
    obtain ⟨r1, r2, r3⟩ := (inW_spec (okF_spec h).2.1).1 hr
    obtain ⟨h1, h2⟩ := putL_ok (s.map byteAV).length h (a := a.toNat) (d := s.map byteAV) (by rw [List.length_map]; omega) (fun q hq => by
      obtain ⟨b, _, rfl⟩ := List.mem_map.1 hq
      exact byte_ok b)
    have : (putP l a.toNat (s.map byteAV)).length = l.length := h2
    rw [cond_true, sz0_eq this]
    exact ⟨h1, h2⟩
theorem rwr_ok {l : List AV} (a : Int) (s : List UInt8) (h : okF l = true) : okF (rwrF l a s) = true ∧ (rwrF l a s).length = l.length := by
  unfold rwrF
  cases hr : inW l a s.length with
  | false => exact ⟨h, rfl⟩
  | true =>
    obtain ⟨r1, r2, r3⟩ := (inW_spec (okF_spec h).2.1).1 hr
    obtain ⟨h1, h2⟩ := rwN_ok (s := s) s.length h (a := a.toNat) (by omega)
    rw [cond_true, sz0_eq h2]
    exact ⟨h1, h2⟩
theorem wr_rwr {l : List AV} (a : Int) (s : List UInt8) (h : okF l = true) : wrF l a s = rwrF l a s := by
  obtain ⟨h1, h2⟩ := wr_ok a s h
  obtain ⟨r1, r2⟩ := rwr_ok a s h
  unfold wrF rwrF at *
  cases hr : inW l a s.length with
  | false => rfl
  | true =>
    rw [hr] at h1 h2 r1 r2
    obtain ⟨c1, c2, c3⟩ := (inW_spec (okF_spec h).2.1).1 hr
    refine mem_ext h1 r1 (by rw [h2, r2]) fun y hy => ?_
    have hb : ∀ q ∈ s.map byteAV, byOK q = true := fun q hq => by
      obtain ⟨b, _, rfl⟩ := List.mem_map.1 hq
      exact byte_ok b
    obtain ⟨p1, p2⟩ := putL_ok (s.map byteAV).length h (a := a.toNat) (d := s.map byteAV) (by rw [List.length_map]; omega) hb
    obtain ⟨q1, q2⟩ := rwN_ok (s := s) s.length h (a := a.toNat) (by omega)
    have p2' : (putP l a.toNat (s.map byteAV)).length = l.length := p2
    rw [cond_true, cond_true, sz0_eq p2', sz0_eq q2]
    unfold putP
    rw [byN_put _ h (by rw [List.length_map]; omega) hb (Nat.le_refl _), byN_rw _ h (by omega), List.length_map]
    split
    · rename_i hc
      have hl : y - a.toNat < s.length := by omega
      simp only [List.getD, List.getElem?_map, List.getElem?_eq_getElem hl, Option.map_some, Option.getD_some]
      rfl
    · rfl
/-! the specification's stores, one after the other -/
theorem rap_ok : ∀ (ws : List AV) {l : List AV}, okF l = true → rapOK F1 ws l = true ∧ okF (rapN F1 ws l).1 = true ∧ (rapN F1 ws l).1.length = l.length
  | [], l, h => ⟨rfl, h, rfl⟩
  | w :: ws, l, h => by
    obtain ⟨r1, r2⟩ := rst_ok (wA w) (wS w) (wV w) h
    obtain ⟨k1, k2, k3⟩ := rap_ok ws r1
    have e1 : F1.ok l = true := h
    have e2 : F1.rst l (wA w) (wS w) (wV w) = rstF l (wA w) (wS w) (wV w) := rfl
    unfold rapOK rapN
    rw [e1, e2]
    cases F1.rstB l (wA w) (wS w) (wV w) with
    | false => exact ⟨rfl, r1, r2⟩
    | true => exact ⟨k1, k2, k3.trans r2⟩
theorem rap_eq : ∀ (ws : List AV) {l : List AV}, okF l = true → (rapN F1 ws l).2 = (appL l.length ws l).2 ∧ ((appL l.length ws l).2 = true → (rapN F1 ws l).1 = (appL l.length ws l).1)
  | [], l, h => ⟨rfl, fun _ => rfl⟩
  | w :: ws, l, h => by
    have e3 : F1.rstB l (wA w) (wS w) (wV w) = thF l (wA w) (wS w) := rfl
    have e2 : F1.rst l (wA w) (wS w) (wV w) = rstF l (wA w) (wS w) (wV w) := rfl
    unfold rapN appL
    rw [e3, e2]
    have e4 : thereB l.length (wA w) (wS w) = thF l (wA w) (wS w) := rfl
    rw [e4]
    cases ht : thF l (wA w) (wS w) with
    | false => exact ⟨rfl, fun h => absurd h (by simp)⟩
    | true =>
      obtain ⟨x, k, e5, e6, hk, hm, hle⟩ := th_spec h ht
      have hst := st_rst (wA w) (wS w) (wV w) h
      obtain ⟨r1, r2⟩ := rst_ok (wA w) (wS w) (wV w) h
      have hput : putP l (wA w).toNat (sub (bytes4 (wV w)) 0 (wS w).toNat) = rstF l (wA w) (wS w) (wV w) := by
        rw [← hst, e5, e6]
        rw [e5, e6] at ht
        exact (st_there h ht).1.symm
      rw [cond_true, cond_true, hput]
      have := rap_eq ws r1
      rw [r2] at this
      exact this
theorem rapF_eq {l : List AV} (ws : List AV) (h : okF l = true) : rapF l ws = apF l ws ∧ rapBF l ws = apBF l ws := by
  obtain ⟨h1, h2⟩ := rap_eq ws h
  obtain ⟨a1, a2⟩ := app_ok ws h
  unfold rapF rapBF apF apBF
  rw [h1]
  cases hc : (appL l.length ws l).2 with
  | false => exact ⟨rfl, rfl⟩
  | true => exact ⟨by rw [cond_true, cond_true, h2 hc, sz0_eq a2], rfl⟩
theorem pgOK_zero : pgOK (zero Try.checked.prog 72) = true := by kernel_rfl
theorem nw_ok {n : Int} (h : nwBad n = false) : okF (nwF n) = true := by
  have h' := h
  unfold nwBad at h'
  by_cases h1 : n < 1
  · simp [h1] at h'
  · have h2 : ¬ 64 < n := by simpa [h1] using h'
    unfold nwF
    rw [h, cond_false, sz0_eq (by simp)]
    unfold okF
    rw [List.length_replicate, decide_eq_true (show 1 ≤ n.toNat by omega), decide_eq_true (show n.toNat ≤ 64 by omega)]
    simp only [Bool.true_and, List.all_eq_true]
    intro p hp
    rw [List.eq_of_mem_replicate hp]
    exact pgOK_zero
end Go.Proofs.Ytglfkdbfiipjjaa
