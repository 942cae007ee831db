/- The buffer of translations: two laws. -/
import Derived.Test.YtcknhfnbdgleiaaTlb4
set_option linter.unusedVariables false
set_option linter.unusedSimpArgs false
namespace Go.Proofs.Ytcknhfnbdgleiaa
open Go.AE

theorem r_san (k : Nat) : Rt Pg (D (k + 9)) 37 [] (.bool true) := .of (sanity_true k) (by kernel_rfl)
theorem lM (xs : List Xl) : listOf ((partsOf (Bv xs)).getD 0 .dead) = xs.map tv := rfl
/-! ### TlbForgetsOnlyWhatIsNamed -/
theorem evict_touch (xs : List Xl) (p : Int) : (xs.filter (pEvict p)).Sublist (xs.filter (pTouch (IntKind.i64.wrap (128 * p)) 128)) := by
  have : xs.filter (pEvict p) = (xs.filter (pTouch (IntKind.i64.wrap (128 * p)) 128)).filter (fun x => x.guest != p) := by
    rw [List.filter_filter]
    congr 1
    funext x
    unfold pEvict pTouch
    rw [c_and]
  rw [this]
  exact List.filter_sublist
set_option maxHeartbeats 1000000 in
theorem law10_true (k : Nat) (xs : List Xl) (hw : ∀ x ∈ xs, WX x) (va w s : Int) : D (k + 12) 10 [Bv xs, .int .u32 va, .int .u16 w, .int .u8 s] = some (.bool true) := by
  have e0 : Rt Pg (D (k + 11)) 37 [] (.bool true) := r_san (k + 2)
  have e1 : Rt Pg (D (k + 11)) 35 [Bv xs] (.bool (vR xs)) := r_rvalid (k + 8) xs hw
  rw [Dk, nf_law25_TlbForgetsOnlyWhatIsNamed]
  cases hv : vR xs with
  | false => rw [hv] at e1; simp only [e0.ok, e0.val, e1.ok, e1.val, bO, cond_true, Bool.not_false]
  | true =>
    rw [hv] at e1
    have v := (vR_iff xs).mp hv
    generalize ha : (IntKind.i64.wrap w).tmod 8192 = a
    generalize hn : IntKind.i64.wrap (1 + IntKind.i64.wrap s) = n
    generalize hp : IntKind.i64.wrap (a.tdiv 128) = p
    have vf := v.filter (pFlush va)
    have vu := v.filter (pTouch a n)
    have ve := v.filter (pEvict p)
    have vg := vf.filter (pEvict p)
    have vt := v.filter (pTouch (IntKind.i64.wrap (128 * p)) 128)
    have ff : ∀ q : Xl → Bool, (xs.filter q).filter q = xs.filter q := fun q => by rw [List.filter_filter]; congr 1; funext x; simp
    have f1 : Rt Pg (D (k + 11)) 44 [Bv xs, .int .u32 va] (Bv (xs.filter (pFlush va))) := r_flush (k + 10) xs va v.l
    have f2 : Rt Pg (D (k + 11)) 45 [Bv xs, .int .i64 a, .int .i64 n] (Bv (xs.filter (pTouch a n))) := r_touch (k + 9) xs a n v.l v.r
    have f3 : Rt Pg (D (k + 11)) 46 [Bv xs, .int .i64 p] (Bv (xs.filter (pEvict p))) := r_evict (k + 9) xs p v.l v.r
    have g1 : Rt Pg (D (k + 11)) 44 [Bv (xs.filter (pFlush va)), .int .u32 va] (Bv (xs.filter (pFlush va))) := by have := r_flush (k + 10) (xs.filter (pFlush va)) va vf.l; rw [ff] at this; exact this
    have g2 : Rt Pg (D (k + 11)) 45 [Bv (xs.filter (pTouch a n)), .int .i64 a, .int .i64 n] (Bv (xs.filter (pTouch a n))) := by have := r_touch (k + 9) (xs.filter (pTouch a n)) a n vu.l vu.r; rw [ff] at this; exact this
    have g3 : Rt Pg (D (k + 11)) 46 [Bv (xs.filter (pEvict p)), .int .i64 p] (Bv (xs.filter (pEvict p))) := by have := r_evict (k + 9) (xs.filter (pEvict p)) p ve.l ve.r; rw [ff] at this; exact this
    have g4 : Rt Pg (D (k + 11)) 46 [Bv (xs.filter (pFlush va)), .int .i64 p] (Bv ((xs.filter (pFlush va)).filter (pEvict p))) := r_evict (k + 9) _ p vf.l vf.r
    have g5 : Rt Pg (D (k + 11)) 46 [.agg 67 [.slice 70 [] false], .int .i64 p] (.agg 67 [.slice 70 [] false]) := r_evict (k + 9) [] p VX.nil.l VX.nil.r
    have g6 : Rt Pg (D (k + 11)) 45 [Bv xs, .int .i64 (IntKind.i64.wrap (p * 128)), .int .i64 128] (Bv (xs.filter (pTouch (IntKind.i64.wrap (128 * p)) 128))) := by rw [Int.mul_comm p 128]; exact r_touch (k + 9) xs _ 128 v.l v.r
    have s1 : Rt Pg (D (k + 11)) 43 [Bv (xs.filter (pFlush va)), Bv (xs.filter (pFlush va))] (.bool true) := r_Same (k + 9) _ vf.l vf.r
    have s2 : Rt Pg (D (k + 11)) 43 [Bv (xs.filter (pTouch a n)), Bv (xs.filter (pTouch a n))] (.bool true) := r_Same (k + 9) _ vu.l vu.r
    have s3 : Rt Pg (D (k + 11)) 43 [Bv (xs.filter (pEvict p)), Bv (xs.filter (pEvict p))] (.bool true) := r_Same (k + 9) _ ve.l ve.r
    have s4 : Rt Pg (D (k + 11)) 43 [Bv ((xs.filter (pFlush va)).filter (pEvict p)), Bv ((xs.filter (pFlush va)).filter (pEvict p))] (.bool true) := r_Same (k + 9) _ vg.l vg.r
    have w1 : Rt Pg (D (k + 11)) 47 [Bv (xs.filter (pFlush va)), Bv xs] (.bool true) := r_Within (k + 9) _ _ List.filter_sublist v.l vf.r
    have w2 : Rt Pg (D (k + 11)) 47 [Bv (xs.filter (pTouch a n)), Bv xs] (.bool true) := r_Within (k + 9) _ _ List.filter_sublist v.l vu.r
    have w3 : Rt Pg (D (k + 11)) 47 [Bv (xs.filter (pEvict p)), Bv xs] (.bool true) := r_Within (k + 9) _ _ List.filter_sublist v.l ve.r
    have w4 : Rt Pg (D (k + 11)) 47 [Bv (xs.filter (pEvict p)), Bv (xs.filter (pTouch (IntKind.i64.wrap (128 * p)) 128))] (.bool true) := r_Within (k + 9) _ _ (evict_touch xs p) vt.l ve.r
    simp only [e0.ok, e0.val, e1.ok, e1.val, f1.ok, f1.val, f2.ok, f2.val, f3.ok, f3.val, g1.ok, g1.val, g2.ok, g2.val, g3.ok, g3.val, g4.ok, g4.val, g5.ok, g5.val, g6.ok, g6.val, s1.ok, s1.val, s2.ok, s2.val, s3.ok, s3.val, s4.ok, s4.val, w1.ok, w1.val, w2.ok, w2.val, w3.ok, w3.val, w4.ok, w4.val, lM, pO, g0, lO, bO, Bool.not_true, Bool.not_false, cond_true, cond_false, condB_tt]
    rfl
/-! ### TlbFindsWhatIsFilled -/
theorem look_mem {ys : List Xl} (hv : VX ys) (hw : ∀ x ∈ ys, WX x) (r va : Int) (y : Xl) : lookX ys r va 1 false = some y ↔ y ∈ ys ∧ pTwin r (IntKind.i64.wrap (IntKind.u32.wrap (va.tdiv 128))) y = true := by
  have hb : ∀ x ∈ ys, ((ibits .and .i64 x.bits (needX 1 false)) == needX 1 false) = true := fun x hx => by
    obtain ⟨b0, b1⟩ := bits64 (hv.rt x hx) (hw x hx).b0 (hw x hx).b1
    have := bad_need x.bits.toNat (by omega) 1 (by omega) false
    rw [Int.toNat_of_nonneg b0] at this
    exact this
  have hl : ∀ x ∈ ys, pLook r va (needX 1 false) x = pTwin r (IntKind.i64.wrap (IntKind.u32.wrap (va.tdiv 128))) x := fun x hx => by
    rw [look_iff, hb x hx, Bool.and_true]
  unfold lookX
  constructor
  · intro h
    obtain ⟨n, h1, rfl⟩ := Option.map_eq_some_iff.mp h
    obtain ⟨_, h2, h3, _⟩ := fstP_some _ _ _ h1
    have hn : n < ys.length := by omega
    rw [getD_n hn] at h3 ⊢
    exact ⟨List.getElem_mem hn, by rw [← hl _ (List.getElem_mem hn)]; exact h3⟩
  · rintro ⟨hm, ht⟩
    obtain ⟨i, hi, rfl⟩ := List.mem_iff_getElem.mp hm
    cases h1 : fstP (fun n => pLook r va (needX 1 false) (ys.getD n d0)) ys.length 0 with
    | none =>
      rw [fstP_none] at h1
      have h2 : pLook r va (needX 1 false) (ys.getD i d0) = false := h1 i (by omega) (by omega)
      rw [getD_n hi, hl _ hm, ht] at h2
      exact absurd h2 (by simp)
    | some n =>
      obtain ⟨_, h2, h3, _⟩ := fstP_some _ _ _ h1
      have hn : n < ys.length := by omega
      have h3 : pLook r va (needX 1 false) (ys.getD n d0) = true := h3
      rw [getD_n hn, hl _ (List.getElem_mem hn)] at h3
      rw [Option.map_some, getD_n hn]
      have t1 : tw ys[n] ys[i] := by
        unfold pTwin at ht h3
        simp only [c_and, Bool.and_eq_true, beq_iff_eq] at ht h3
        exact ⟨by rw [ht.1, h3.1], by rw [ht.2, h3.2]⟩
      have := hv.pw
      rw [List.pairwise_iff_getElem] at this
      by_cases e : n = i
      · subst e; rfl
      · exfalso
        by_cases hlt : n < i
        · exact this n i hn hi hlt t1
        · exact this i n hi hn (by omega) (tw_symm t1)
theorem fill_len (x : Xl) : ∀ xs : List Xl, xs.Pairwise (fun a b => ¬ tw a b) → xs.length ≤ (xs.filter (pFill x.root x.page)).length + 1
  | [], _ => by simp
  | a :: l, h => by
    rw [List.pairwise_cons] at h
    rw [List.filter_cons]
    cases hp : pFill x.root x.page a with
    | true =>
      have := fill_len x l h.2
      simp; omega
    | false =>
      have ta : tw a x := by
        by_cases h' : tw a x
        · exact h'
        · rw [(fill_iff a x).mpr h'] at hp; exact absurd hp (by simp)
      have : l.filter (pFill x.root x.page) = l := by
        rw [List.filter_eq_self]
        intro b hb
        refine (fill_iff b x).mpr fun tb => h.1 b hb ⟨by rw [ta.1, tb.1], by rw [ta.2, tb.2]⟩
      simp [this]
theorem fillX_len {xs : List Xl} (hv : VX xs) (x : Xl) : xs.length ≤ (fillX xs x).length := by
  have h1 := fill_len x xs hv.pw
  have h2 := hv.len
  unfold fillX
  simp only
  by_cases h8 : 8 ≤ (xs.filter (pFill x.root x.page)).length
  · rw [decide_eq_true h8, cond_true]; simp; omega
  · rw [decide_eq_false h8, cond_false]; simp; omega
theorem fill_mem {xs : List Xl} (x : Xl) : x ∈ fillX xs x := by
  unfold fillX
  simp only
  cases decide (8 ≤ (xs.filter (pFill x.root x.page)).length) <;> simp
theorem fill_old {xs : List Xl} {x y : Xl} (h : y ∈ fillX xs x) : y = x ∨ y ∈ xs := by
  unfold fillX at h
  simp only at h
  cases hb : decide (8 ≤ (xs.filter (pFill x.root x.page)).length) with
  | true =>
    rw [hb, cond_true] at h
    rcases List.mem_append.mp h with h | h
    · exact .inr (List.mem_filter.mp (List.mem_of_mem_drop h)).1
    · exact .inl (List.mem_singleton.mp h)
  | false =>
    rw [hb, cond_false] at h
    rcases List.mem_append.mp h with h | h
    · exact .inr (List.mem_filter.mp h).1
    · exact .inl (List.mem_singleton.mp h)
theorem fill_keeps {xs : List Xl} (hv : VX xs) {x y : Xl} (h : y ∈ xs) (ht : ¬ tw y x) : y ∈ fillX xs x ∨ (xs.length = 8 ∧ xs.getD 0 d0 = y) := by
  have hm : y ∈ xs.filter (pFill x.root x.page) := List.mem_filter.mpr ⟨h, (fill_iff y x).mpr ht⟩
  unfold fillX
  simp only
  by_cases h8 : 8 ≤ (xs.filter (pFill x.root x.page)).length
  · have he : xs.filter (pFill x.root x.page) = xs := by
      apply List.filter_sublist.eq_of_length
      have := hv.len
      have := List.length_filter_le (pFill x.root x.page) xs
      omega
    rw [he] at h8 ⊢
    rw [decide_eq_true h8, cond_true]
    cases xs with
    | nil => exact absurd h (by simp)
    | cons a l =>
      rcases List.mem_cons.mp h with rfl | h'
      · right
        have := hv.len
        exact ⟨by omega, rfl⟩
      · left; simp [h']
  · rw [decide_eq_false h8, cond_false]
    exact .inl (List.mem_append.mpr (.inl hm))
theorem right_page {x : Xl} (h : rightX x = true) : 0 ≤ x.page ∧ x.page < 1024 := by
  have h1 : preB x = false := by
    cases hp : preB x with
    | false => rfl
    | true => unfold rightX at h; rw [hp] at h; exact absurd h (by simp)
  unfold preB at h1
  simp only [c_or, Bool.or_eq_false_iff, decide_eq_false_iff_not] at h1
  omega
set_option maxHeartbeats 1000000 in
theorem law8_true (k : Nat) (xs : List Xl) (hw : ∀ x ∈ xs, WX x) (x : Xl) (wx : WX x) (off va r : Int) (o0 : 0 ≤ off) (o1 : off < 256) : D (k + 12) 8 [Bv xs, tv x, .int .u8 off, .int .u32 va, .int .u32 r] = some (.bool true) := by
  have e0 : Rt Pg (D (k + 11)) 37 [] (.bool true) := r_san (k + 2)
  have e1 : Rt Pg (D (k + 11)) 35 [Bv xs] (.bool (vR xs)) := r_rvalid (k + 8) xs hw
  have e2 : Rt Pg (D (k + 11)) 36 [tv x] (.bool (rightX x)) := r_rright (k + 9) x wx.b0 wx.b1
  have tvX : AV.agg 69 [.int .u32 x.root, .int .i64 x.page, .int .i64 x.guest, .int .i64 x.frame, .int .i64 x.bits, .slice 3 (rv x.reads) false] = tv x := rfl
  rw [Dk, ← tvX, nf_law25_TlbFindsWhatIsFilled]
  simp only [tvX]
  cases hv : vR xs with
  | false => rw [hv] at e1; simp only [e0.ok, e0.val, e1.ok, e1.val, e2.ok, bO, cond_true, Bool.not_false, condB_tt]
  | true =>
    cases hx : rightX x with
    | false => rw [hv] at e1; rw [hx] at e2; simp only [e0.ok, e0.val, e1.ok, e1.val, e2.ok, e2.val, bO, cond_true, Bool.not_false, Bool.not_true, cond_false, condB_tt]
    | true =>
      rw [hv] at e1; rw [hx] at e2
      have v := (vR_iff xs).mp hv
      have vn := v.fill hx
      have wn : ∀ y ∈ fillX xs x, WX y := fun y hy => by
        rcases fill_old hy with rfl | h
        · exact wx
        · exact hw y h
      obtain ⟨p0, p1⟩ := right_page hx
      have hto : off.tmod 128 = off % 128 := Int.tmod_eq_emod_of_nonneg o0
      have hva : IntKind.u32.wrap (IntKind.i64.wrap (IntKind.i64.wrap (128 * x.page) + IntKind.i64.wrap (off.tmod 128))) = 128 * x.page + off % 128 := by
        rw [hto, wrap_i64_id (n := 128 * x.page) (by omega) (by omega), wrap_i64_id (n := off % 128) (by omega) (by omega), wrap_i64_id (by omega) (by omega), wrap_u32_id (by omega) (by omega)]
      have f1 : Rt Pg (D (k + 11)) 38 [Bv xs, tv x] (Bv (fillX xs x)) := r_fill (k + 10) xs x v.len
      have f2 : Rt Pg (D (k + 11)) 39 [Bv (fillX xs x), .int .u32 x.root, .int .u32 (128 * x.page + off % 128), .int .i64 1, .bool false] _ := r_look (k + 10) (fillX xs x) x.root (128 * x.page + off % 128) 1 false vn.l
      have f3 : Rt Pg (D (k + 11)) 39 [Bv xs, .int .u32 r, .int .u32 va, .int .i64 1, .bool false] _ := r_look (k + 10) xs r va 1 false v.l
      have f4 : Rt Pg (D (k + 11)) 39 [Bv (fillX xs x), .int .u32 r, .int .u32 va, .int .i64 1, .bool false] _ := r_look (k + 10) (fillX xs x) r va 1 false vn.l
      have hpg : IntKind.i64.wrap (IntKind.u32.wrap ((128 * x.page + off % 128).tdiv 128)) = x.page := by
        rw [Int.tdiv_eq_ediv_of_nonneg (by omega), wrap_u32_id (by omega) (by omega), wrap_i64_id (by omega) (by omega)]
        omega
      have hmo : (128 * x.page + off % 128).tmod 128 = off.tmod 128 := by
        rw [Int.tmod_eq_emod_of_nonneg (by omega), hto]; omega
      have l2 : lookX (fillX xs x) x.root (128 * x.page + off % 128) 1 false = some x := by
        rw [look_mem vn wn]
        exact ⟨fill_mem x, by rw [hpg]; exact (twin_iff x x).mpr ⟨rfl, rfl⟩⟩
      rw [l2] at f2
      have hlen := fillX_len v x
      have hlen2 := vn.len
      have c1 : decide ((8 : Int) < (((fillX xs x).length : Nat) : Int)) = false := decide_eq_false (by omega)
      have c2 : decide ((((fillX xs x).length : Nat) : Int) < ((xs.length : Nat) : Int)) = false := decide_eq_false (by omega)
      simp only [hva, e1.ok, e1.val, e2.ok, e2.val, f1.ok, f1.val, f2.ok, f2.val, lM, bO, Bool.not_true, Bool.not_false, cond_true, cond_false, condB_tt, tO, g0, g1, g2, iO, List.length_map, c1, c2, hostO, guestO, hostX, guestX, hmo, bne_self_eq_false, Option.isSome_some, e0.ok, e0.val]
      generalize hq : IntKind.i64.wrap (IntKind.u32.wrap (va.tdiv 128)) = q
      cases hk : cond (r == x.root) (q == x.page) false with
      | true => rfl
      | false =>
        have nk : ¬ (r = x.root ∧ q = x.page) := by
          rw [c_and] at hk
          intro h; rw [h.1, h.2] at hk; simp at hk
        have m1 := look_mem v hw r va
        have m2 := look_mem vn wn r va
        rw [hq] at m1 m2
        have tq : ∀ y, pTwin r q y = true → y.root = r ∧ y.page = q := fun y h => by
          unfold pTwin at h
          rw [c_and] at h
          simpa using h
        have up : ∀ y, lookX (fillX xs x) r va 1 false = some y → lookX xs r va 1 false = some y := fun y h => by
          obtain ⟨h1, h2⟩ := (m2 y).mp h
          refine (m1 y).mpr ⟨?_, h2⟩
          rcases fill_old h1 with rfl | h3
          · exact absurd ⟨(tq _ h2).1.symm, (tq _ h2).2.symm⟩ nk
          · exact h3
        have down : ∀ y, lookX xs r va 1 false = some y → lookX (fillX xs x) r va 1 false = some y ∨ (xs.length = 8 ∧ xs.getD 0 d0 = y ∧ y.root = r ∧ y.page = q) := fun y h => by
          obtain ⟨h1, h2⟩ := (m1 y).mp h
          obtain ⟨t1, t2⟩ := tq _ h2
          rcases fill_keeps v h1 (x := x) (fun t => nk ⟨by rw [← t.1, t1], by rw [← t.2, t2]⟩) with h3 | ⟨h3, h4⟩
          · exact .inl ((m2 y).mpr ⟨h3, h2⟩)
          · exact .inr ⟨h3, h4, t1, t2⟩
        simp only [f3.ok, f3.val, f4.ok, f4.val, tO, g0, g1, g2, bO, iO, cond_false, cond_true]
        have guard : ∀ c : Bool, (condB (((xs.length : Nat) : Int) == 8) (cond (inB 0 xs.length) (condB c (cond (inB 0 xs.length) true false) true) false) true) = true := fun c => by
          by_cases h8 : xs.length = 8
          · rw [h8]; cases c <;> rfl
          · rw [show (((xs.length : Nat) : Int) == 8) = false by simp; omega]
            cases (cond (inB 0 xs.length) (condB c (cond (inB 0 xs.length) true false) true) false) <;> rfl
        rw [guard, cond_true]
        cases ho2 : lookX (fillX xs x) r va 1 false with
        | some y =>
          rw [up y ho2]
          simp
        | none =>
          cases ho1 : lookX xs r va 1 false with
          | none => simp
          | some y =>
            rcases down y ho1 with h | ⟨h8, hy, hr, hqq⟩
            · rw [ho2] at h; exact absurd h (by simp)
            · have h0 : 0 < xs.length := by omega
              rw [getD_n h0] at hy
              rw [at_map tv h0, hy]
              have : ((xs.length : Int) == 8) = true := by simp; omega
              rw [this]
              subst hr
              subst hqq
              simp [tv, partsOf, intOf]
end Go.Proofs.Ytcknhfnbdgleiaa
