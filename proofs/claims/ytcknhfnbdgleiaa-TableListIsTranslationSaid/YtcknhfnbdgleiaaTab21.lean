/- List is translation. -/
import Derived.Test.YtcknhfnbdgleiaaTab20
set_option linter.unusedVariables false
set_option linter.unusedSimpArgs false
namespace Go.Proofs.Ytcknhfnbdgleiaa
open Go.AE

theorem b64_low : ∀ n : Nat, n < 128 → (ibits .and .i64 (n : Int) 64 != 0) = hb n 64 ∧ (ibits .and .i64 (n : Int) 1 == 0) = !hb n 1 := by decide +kernel
theorem tr_step {F : Tab} {l0 : List Mg} (hl : l0.length < 5000) (hg : ∀ x ∈ l0, Wg x ∧ x.va + sz x ≤ 131072) {va : Nat} (hv : va < 4294967296) (c : Int) (l1 : List AV) (i6 i7 : Int) (l2 l3 : List AV) {n : Nat} (h : n < l0.length) (a last : Int) (hlast : last < (l0[n].va : Int)) (K : Int × Int × Int → LO) :
    (st_law10_TableListIsTranslation_7 F va c (l0.map mgv) ((l0.length : Nat) : Int) l1 i6 i7 l2 l3 (a, last, (n : Int))).eval K = K (cond (cov va l0[n]) (valM va l0[n]) a, (l0[n].va : Int), ((n + 1 : Nat) : Int)) := by
  obtain ⟨g, gv⟩ := hg l0[n] (List.getElem_mem h)
  simp only [st_law10_TableListIsTranslation_7, sp_law10_TableListIsTranslation_7, Tr.eval, Int.toNat_natCast, at_map mgv h, pO, g0, g1, g2, iO, lt_n h, nx_n (show n < 1000000 by omega), cond_true]
  rw [inB_n (show n < (l0.map mgv).length by rw [List.length_map]; exact h)]
  generalize l0[n] = x at *
  obtain ⟨b1, b2⟩ := b64_low x.bits g.bits
  have hsz : (cond (hb x.bits 64) (4096 : Int) 128) = ((sz x : Nat) : Int) := by unfold sz; cases hb x.bits 64 <;> rfl
  have hpos := sz_pos x
  have hsm : sz x ≤ 4096 := by unfold sz; cases hb x.bits 64 <;> simp
  have e0 : (((sz x : Nat) : Int) == 0) = false := (beqN _ 0).trans (beq_eq_false_iff_ne.mpr (by omega))
  have e1 : decide (IntKind.i64.wrap ((x.va : Nat) : Int) ≤ last) = false := by rw [w64 (by omega)]; exact decide_eq_false (by omega)
  have e2 : (((x.va : Nat) : Int).tmod ((sz x : Nat) : Int) != 0) = false := by rw [tmN, g.va]; rfl
  have e3 : (((x.pa : Nat) : Int).tmod ((sz x : Nat) : Int) != 0) = false := by rw [tmN, g.pa]; rfl
  have e4 : cond (decide (((x.va : Nat) : Int) ≤ (va : Int))) (decide (IntKind.u32.wrap ((va : Int) - (x.va : Int)) < ((sz x : Nat) : Int))) false = cov va x := by
    unfold cov
    by_cases hh : x.va ≤ va
    · rw [decide_eq_true (show ((x.va : Nat) : Int) ≤ (va : Int) by omega), decide_eq_true hh, wrap_u32_id (by omega) (by omega), cond_true, Bool.true_and]
      exact decide_eq_decide.mpr (by omega)
    · rw [decide_eq_false (show ¬ ((x.va : Nat) : Int) ≤ (va : Int) by omega), decide_eq_false hh]; rfl
  rw [b1, hsz, b2, g.odd, e0, e1, e2, e3, e4, w64 (show x.va < 9223372036854775808 by omega)]
  simp only [Bool.not_true, Bool.not_false, cond_true, cond_false, condB_tt, condB_f, condB_t, condB_t', Bool.true_or, Bool.or_true, Bool.false_or]
  have gs := g.small
  cases hc : cov va x with
  | false => rfl
  | true =>
    have hc' : x.va ≤ va ∧ va - x.va < sz x := by simpa [cov] using hc
    have : IntKind.i64.wrap (IntKind.u32.wrap (IntKind.u32.wrap ((x.pa : Int) + (va : Int)) - (x.va : Int))) = valM va x := by
      unfold valM
      rw [wrap_u32, wrap_u32, wrap_i64_id (by omega) (by omega)]
      omega
    rw [this]
theorem tr_run {F : Tab} {l0 : List Mg} (hl : l0.length < 5000) (hg : ∀ x ∈ l0, Wg x ∧ x.va + sz x ≤ 131072) (ha : l0.Pairwise (fun x y => x.va < y.va)) {va : Nat} (hv : va < 4294967296) (c : Int) (l1 : List AV) (i6 i7 : Int) (l2 l3 : List AV) :
    ∀ (j n : Nat) (a last : Int) (fuel : Nat), n + j = l0.length → j < fuel → (∀ x ∈ l0.drop n, last < (x.va : Int)) →
    Tr.run (st_law10_TableListIsTranslation_7 F va c (l0.map mgv) ((l0.length : Nat) : Int) l1 i6 i7 l2 l3) fuel (a, last, (n : Int)) = ⟨2, [foldAt va (l0.drop n) a], [], [], [], [], []⟩
  | 0, n, a, last, fuel, hn, hf, hlast => by
    obtain ⟨f, rfl⟩ : ∃ f, fuel = f + 1 := ⟨fuel - 1, by omega⟩
    obtain rfl : n = l0.length := by omega
    rw [run1, List.drop_length]
    simp only [st_law10_TableListIsTranslation_7, sp_law10_TableListIsTranslation_7, Tr.eval, nlt_n, cond_false, foldAt]
  | j + 1, n, a, last, fuel, hn, hf, hlast => by
    obtain ⟨f, rfl⟩ : ∃ f, fuel = f + 1 := ⟨fuel - 1, by omega⟩
    have h : n < l0.length := by omega
    have hd := List.drop_eq_getElem_cons h
    rw [run1, tr_step hl hg hv c l1 i6 i7 l2 l3 h a last (hlast _ (by rw [hd]; exact List.mem_cons_self ..))]
    have hp : (l0.drop n).Pairwise (fun x y => x.va < y.va) := List.Pairwise.sublist (List.drop_sublist n l0) ha
    rw [hd, List.pairwise_cons] at hp
    rw [tr_run hl hg ha hv c l1 i6 i7 l2 l3 j (n + 1) _ _ f (by omega) (by omega) (fun x hx => by have := hp.1 x hx; omega), hd, foldAt]
theorem law6_true (k : Nat) (m : Pgs) (hm : pgsOK m) (root va : Nat) (hr : root < 4294967296) (hv : va < 4294967296) :
    D (k + 14) 6 [mv m, .int .u32 (root : Int), .int .u32 (va : Int)] = some (.bool true) := by
  have rs := rt_sanity (k + 1)
  have rv := r_valid (k + 12) (m.map pg)
  have eR : ((root : Int) == 0) = (root == 0) := beqN _ 0
  rw [Dk, nf_law10_TableListIsTranslation]
  simp only [rs.ok, rs.val, rv.ok, rv.val, bO, condB_tt, cond_true, eR]
  cases h2 : (decide (1 ≤ (m.map pg).length) && decide ((m.map pg).length ≤ 64)) with
  | false => rfl
  | true =>
  cases h0 : root == 0 with
  | true => rfl
  | false =>
  have w := wm_of hm h2
  have e1 : Rt Pg (D (k + 13)) _ _ _ := r_walk (k + 10) w root va 1 false hr hv ⟨by omega, by omega⟩
  simp only [show ((1 : Nat) : Int) = 1 from rfl] at e1
  have e2 : Rt Pg (D (k + 13)) _ _ _ := r_list (k + 9) w root hr
  have ht := trans_is w (root := root) (va := va) (by simpa using h0)
  have hll := lst_len m root
  have hrun : ∀ (c : Int) (i6 i7 : Int) (l2 l3 : List AV), lf_law10_TableListIsTranslation_7 (D (k + 13)) va c ((lst m root).map mgv) (((lst m root).length : Nat) : Int) (m.map pg) i6 i7 l2 l3 100000 (-1) (-1) 0 = ⟨2, [foldAt va (lst m root) (-1)], [], [], [], [], []⟩ := fun c i6 i7 l2 l3 => by
    have := tr_run (F := D (k + 13)) (l0 := lst m root) (by omega) (fun x hx => lst_mem w hx) (lst_asc w root) hv c (m.map pg) i6 i7 l2 l3 (lst m root).length 0 (-1) (-1) 100000 (by omega) (by omega) (fun x _ => by omega)
    exact this
  unfold wkT wkA at e1
  generalize walk m root va 1 false = x at *
  have hclip : (cond (decide (IntKind.i64.wrap (((m.map pg).length : Nat) * 128 : Int) ≤ foldAt va (lst m root) (-1))) (-1 : Int) (foldAt va (lst m root) (-1))) = clip m (foldAt va (lst m root) (-1)) := by rw [size_n w]; rfl
  simp only [Bool.not_true, cond_false, e1.ok, e1.val, tO, pO, g0, g1, g2, g3, iO, lO, e2.ok, e2.val, List.length_map, hrun, cond_true]
  rw [List.length_map] at hclip
  rw [show (⟨2, [foldAt va (lst m root) (-1)], [], [], [], [], []⟩ : LO).i.getD 0 0 = foldAt va (lst m root) (-1) from rfl, hclip]
  rcases ht with ⟨t1, t2, t3⟩ | ⟨t1, t2⟩
  · rw [t1, t2, decide_eq_true t3]
    simp
  · rw [t1, t2]
    rfl
end Go.Proofs.Ytcknhfnbdgleiaa
