/- The buffer of translations: valid buffers, looking, comparing. -/
import Derived.Test.YtcknhfnbdgleiaaTlb3
set_option linter.unusedVariables false
set_option linter.unusedSimpArgs false
namespace Go.Proofs.Ytcknhfnbdgleiaa
open Go.AE

/-! ### valid buffers -/
def tw (a b : Xl) : Prop := a.root = b.root ∧ a.page = b.page
structure VX (xs : List Xl) : Prop where
  len : xs.length ≤ 8
  rt : ∀ x ∈ xs, rightX x = true
  pw : xs.Pairwise (fun a b => ¬ tw a b)
theorem twin_iff (a b : Xl) : pTwin b.root b.page a = true ↔ tw a b := by
  unfold pTwin tw
  rw [c_and]; simp
theorem fill_iff (a b : Xl) : pFill b.root b.page a = true ↔ ¬ tw a b := by
  unfold pFill tw
  rw [c_or]; simp; omega
theorem fnd_neg (xs : List Xl) (r p : Int) : decide ((0 : Int) ≤ fndX xs r p) = (fstP (fun n => pTwin r p (xs.getD n d0)) xs.length 0).isSome := by
  unfold fndX
  cases fstP (fun n => pTwin r p (xs.getD n d0)) xs.length 0 <;> simp
theorem vR_iff (xs : List Xl) : vR xs = true ↔ VX xs := by
  have key : (fstP (nrR xs) xs.length 0).isNone = true ↔ (∀ x ∈ xs, rightX x = true) ∧ xs.Pairwise (fun a b => ¬ tw a b) := by
    rw [Option.isNone_iff_eq_none, fstP_none]
    have e : ∀ i (h : i < xs.length), nrR xs i = false ↔ rightX xs[i] = true ∧ ∀ j (hj : j < i), ¬ tw (xs[j]'(by omega)) xs[i] := fun i h => by
      unfold nrR
      rw [getD_n h, c_or, fnd_neg, fst_any, Bool.or_eq_false_iff, List.any_eq_false]
      constructor
      · rintro ⟨h1, h2⟩
        refine ⟨by simpa using h1, fun j hj ht => ?_⟩
        have hm : xs[j]'(by omega) ∈ xs.take i := List.mem_take_iff_getElem.mpr ⟨j, by omega, rfl⟩
        exact h2 _ hm ((twin_iff _ _).mpr ht)
      · rintro ⟨h1, h2⟩
        refine ⟨by simpa using h1, fun x hx ht => ?_⟩
        obtain ⟨j, hj, rfl⟩ := List.mem_take_iff_getElem.mp hx
        exact h2 j (by omega) ((twin_iff _ _).mp ht)
    rw [List.pairwise_iff_getElem]
    constructor
    · intro h
      refine ⟨fun x hx => ?_, fun i j hi hj hij => ?_⟩
      · obtain ⟨i, hi, rfl⟩ := List.mem_iff_getElem.mp hx
        exact ((e i hi).mp (h i (by omega) (by omega))).1
      · exact ((e j hj).mp (h j (by omega) (by omega))).2 i hij
    · rintro ⟨h1, h2⟩ i _ hi
      exact (e i (by omega)).mpr ⟨h1 _ (List.getElem_mem _), fun j hj => h2 j i _ _ hj⟩
  unfold vR
  by_cases h : (8 : Int) < ((xs.length : Nat) : Int)
  · rw [decide_eq_true h]
    exact ⟨fun h' => absurd h' (by simp), fun h' => absurd h'.len (by omega)⟩
  · rw [decide_eq_false h, cond_false, key]
    exact ⟨fun h' => ⟨by omega, h'.1, h'.2⟩, fun h' => ⟨h'.rt, h'.pw⟩⟩
theorem one_twin {xs : List Xl} (n : Nat) (h : n < xs.length) : (xs.filter (pTwin xs[n].root xs[n].page)).length = 1 ↔ (∀ j (hj : j < xs.length), j ≠ n → ¬ tw xs[j] xs[n]) := by
  have hs : xs = xs.take n ++ xs[n] :: xs.drop (n + 1) := by rw [← List.drop_eq_getElem_cons h, List.take_append_drop]
  have hself : pTwin xs[n].root xs[n].page xs[n] = true := (twin_iff _ _).mpr ⟨rfl, rfl⟩
  have e : (xs.filter (pTwin xs[n].root xs[n].page)).length = ((xs.take n).filter (pTwin xs[n].root xs[n].page)).length + (((xs.drop (n + 1)).filter (pTwin xs[n].root xs[n].page)).length + 1) := by
    have gen : ∀ q : Xl → Bool, (xs.filter q).length = ((xs.take n).filter q).length + ((xs[n] :: xs.drop (n + 1)).filter q).length := fun q => by
      rw [← List.length_append, ← List.filter_append, ← hs]
    rw [gen, List.filter_cons, hself]
    simp
  rw [e]
  constructor
  · intro h1 j hj hne ht
    have ht := (twin_iff _ _).mpr ht
    by_cases hlt : j < n
    · have : xs[j] ∈ (xs.take n).filter (pTwin xs[n].root xs[n].page) := List.mem_filter.mpr ⟨List.mem_take_iff_getElem.mpr ⟨j, by omega, rfl⟩, ht⟩
      have := List.length_pos_of_mem this
      omega
    · have : xs[j] ∈ (xs.drop (n + 1)).filter (pTwin xs[n].root xs[n].page) := List.mem_filter.mpr ⟨List.mem_drop_iff_getElem.mpr ⟨j - (n + 1), by omega, by congr 1; omega⟩, ht⟩
      have := List.length_pos_of_mem this
      omega
  · intro h1
    have e1 : (xs.take n).filter (pTwin xs[n].root xs[n].page) = [] := by
      rw [List.filter_eq_nil_iff]
      intro x hx ht
      obtain ⟨j, hj, rfl⟩ := List.mem_take_iff_getElem.mp hx
      exact h1 j (by omega) (by omega) ((twin_iff _ _).mp ht)
    have e2 : (xs.drop (n + 1)).filter (pTwin xs[n].root xs[n].page) = [] := by
      rw [List.filter_eq_nil_iff]
      intro x hx ht
      obtain ⟨j, hj, rfl⟩ := List.mem_drop_iff_getElem.mp hx
      exact h1 _ (by omega) (by omega) ((twin_iff _ _).mp ht)
    rw [e1, e2]; rfl
theorem tw_symm {a b : Xl} (h : tw a b) : tw b a := ⟨h.1.symm, h.2.symm⟩
theorem vT_iff (xs : List Xl) : vT xs = true ↔ VX xs := by
  have key : (fstP (nrT xs) xs.length 0).isNone = true ↔ (∀ x ∈ xs, rightX x = true) ∧ xs.Pairwise (fun a b => ¬ tw a b) := by
    rw [Option.isNone_iff_eq_none, fstP_none]
    have e : ∀ i (h : i < xs.length), nrT xs i = false ↔ rightX xs[i] = true ∧ ∀ j (hj : j < xs.length), j ≠ i → ¬ tw xs[j] xs[i] := fun i h => by
      unfold nrT
      rw [getD_n h, c_or, Bool.or_eq_false_iff, ← one_twin i h]
      constructor
      · rintro ⟨h1, h2⟩
        simp only [bne_eq_false_iff_eq] at h2
        exact ⟨by simpa using h1, by omega⟩
      · rintro ⟨h1, h2⟩
        exact ⟨by simpa using h1, by rw [h2]; rfl⟩
    rw [List.pairwise_iff_getElem]
    constructor
    · intro h
      refine ⟨fun x hx => ?_, fun i j hi hj hij => ?_⟩
      · obtain ⟨i, hi, rfl⟩ := List.mem_iff_getElem.mp hx
        exact ((e i hi).mp (h i (by omega) (by omega))).1
      · exact ((e j hj).mp (h j (by omega) (by omega))).2 i hi (by omega)
    · rintro ⟨h1, h2⟩ i _ hi
      refine (e i (by omega)).mpr ⟨h1 _ (List.getElem_mem _), fun j hj hne ht => ?_⟩
      by_cases hlt : j < i
      · exact h2 j i _ _ hlt ht
      · exact h2 i j _ _ (by omega) (tw_symm ht)
  unfold vT
  by_cases h : (8 : Int) < ((xs.length : Nat) : Int)
  · rw [decide_eq_true h]
    exact ⟨fun h' => absurd h' (by simp), fun h' => absurd h'.len (by omega)⟩
  · rw [decide_eq_false h, cond_false, key]
    exact ⟨fun h' => ⟨by omega, h'.1, h'.2⟩, fun h' => ⟨h'.rt, h'.pw⟩⟩
theorem vT_vR (xs : List Xl) : vT xs = vR xs := by
  rw [Bool.eq_iff_iff, vT_iff, vR_iff]
theorem right_len {x : Xl} (h : rightX x = true) : x.reads.length < 1000 := by
  have : preB x = false := by
    cases hp : preB x with
    | false => rfl
    | true => unfold rightX at h; rw [hp] at h; exact absurd h (by simp)
  have := pre_len this
  omega
theorem VX.l {xs : List Xl} (h : VX xs) : xs.length < 1000 := by have := h.len; omega
theorem VX.r {xs : List Xl} (h : VX xs) : ∀ x ∈ xs, x.reads.length < 1000 := fun x hx => right_len (h.rt x hx)
theorem VX.filter {xs : List Xl} (h : VX xs) (p : Xl → Bool) : VX (xs.filter p) :=
  ⟨Nat.le_trans (List.length_filter_le _ _) h.len, fun x hx => h.rt x (List.mem_filter.mp hx).1, h.pw.filter _⟩
theorem VX.fill {xs : List Xl} (h : VX xs) {x : Xl} (hx : rightX x = true) : VX (fillX xs x) := by
  have h' := h.filter (pFill x.root x.page)
  have hn : ∀ a ∈ xs.filter (pFill x.root x.page), ¬ tw a x := fun a ha => (fill_iff _ _).mp (List.mem_filter.mp ha).2
  unfold fillX
  simp only
  generalize xs.filter (pFill x.root x.page) = l at h' hn ⊢
  have app : ∀ l' : List Xl, l'.length < 8 → (∀ a ∈ l', rightX a = true ∧ ¬ tw a x) → l'.Pairwise (fun a b => ¬ tw a b) → VX (l' ++ [x]) := fun l' e1 e2 e3 =>
    ⟨by simp; omega, fun a ha => by
      rcases List.mem_append.mp ha with ha | ha
      · exact (e2 a ha).1
      · rw [List.mem_singleton.mp ha]; exact hx, by
      rw [List.pairwise_append]
      refine ⟨e3, by simp, fun a ha b hb => ?_⟩
      rw [List.mem_singleton.mp hb]; exact (e2 a ha).2⟩
  by_cases h8 : 8 ≤ l.length
  · rw [decide_eq_true h8, cond_true]
    have := h'.len
    exact app _ (by simp; omega) (fun a ha => ⟨h'.rt a (List.mem_of_mem_drop ha), hn a (List.mem_of_mem_drop ha)⟩) (h'.pw.sublist (List.drop_sublist _ _))
  · rw [decide_eq_false h8, cond_false]
    exact app _ (by omega) (fun a ha => ⟨h'.rt a ha, hn a ha⟩) h'.pw
theorem VX.nil : VX [] := ⟨by simp, by simp, by simp⟩
/-! ### looking -/
def needX (a : Int) (u : Bool) : Int :=
  let x0 : Int := cond (cond (a == 2) (a == 2) (a == 3)) (34 : Int) (cond (a == 4) (8 : Int) 0)
  cond u (ibits .or .i64 x0 4) x0
def lookX (xs : List Xl) (r va a : Int) (u : Bool) : Option Xl := (fstP (fun n => pLook r va (needX a u) (xs.getD n d0)) xs.length 0).map (fun n => xs.getD n d0)
def hostO (va : Int) : Option Xl → Int
  | some x => hostX va x
  | none => 0
def guestO (va : Int) : Option Xl → Int
  | some x => guestX va x
  | none => 0
theorem r_look (k : Nat) (xs : List Xl) (r va a : Int) (u : Bool) (hl : xs.length < 1000) : Rt Pg (D (k + 1)) 39 [Bv xs, .int .u32 r, .int .u32 va, .int .i64 a, .bool u] (.tuple [.int .i64 (hostO va (lookX xs r va a u)), .int .i64 (guestO va (lookX xs r va a u)), .bool (lookX xs r va a u).isSome]) := .of (by
  rw [Dk, nf_tlb_Lookup]
  simp only [List.length_map]
  rw [rlook (D k) xs d0 r va _ _ hl (by omega)]
  unfold lookX
  rw [show needX a u = cond u (ibits .or .i64 (cond (cond (a == 2) (a == 2) (a == 3)) (34 : Int) (cond (a == 4) (8 : Int) 0)) 4) (cond (cond (a == 2) (a == 2) (a == 3)) (34 : Int) (cond (a == 4) (8 : Int) 0)) from rfl]
  cases fstP (fun n => pLook r va (cond u (ibits .or .i64 (cond (cond (a == 2) (a == 2) (a == 3)) (34 : Int) (cond (a == 4) (8 : Int) 0)) 4) (cond (cond (a == 2) (a == 2) (a == 3)) (34 : Int) (cond (a == 4) (8 : Int) 0))) (xs.getD n d0)) xs.length 0 <;> rfl) (by kernel_rfl)
def hasX (n b : Int) : Bool := (IntKind.i64.wrap (n.tdiv b)).tmod 2 == 1
theorem r_has (k : Nat) (n b : Int) (hb : (b == 0) = false) : Rt Pg (D (k + 1)) 102 [.int .i64 n, .int .i64 b] (.bool (hasX n b)) := .of (by
  rw [Dk, nf_ref25_has, hb]; rfl) (by kernel_rfl)
def badX (n a : Int) (u : Bool) : Bool :=
  let x3 : Bool := !(hasX n 2)
  let x4 : Bool := !(hasX n 32)
  let x5 : Bool := !(hasX n 8)
  let x6 : Bool := cond u (!(hasX n 4)) false
  let x8 : Bool := cond (a == 4) (cond x5 true x6) x6
  cond (cond (a == 2) true (a == 3)) (cond x3 true (cond x4 true x8)) x8
theorem bad_need : ∀ n : Nat, n < 64 → ∀ a : Nat, a < 5 → ∀ u : Bool, ((ibits .and .i64 n (needX a u)) == needX a u) = !(badX n a u) := by decide +kernel
def refX (xs : List Xl) (r va a : Int) (u : Bool) : Option Xl :=
  match fstP (fun n => pTwin r (IntKind.i64.wrap (IntKind.u32.wrap (va.tdiv 128))) (xs.getD n d0)) xs.length 0 with
  | some n => cond (badX (xs.getD n d0).bits a u) none (some (xs.getD n d0))
  | none => none
theorem r_rlook (k : Nat) (xs : List Xl) (r va a : Int) (u : Bool) (hl : xs.length < 1000) : Rt Pg (D (k + 2)) 42 [Bv xs, .int .u32 r, .int .u32 va, .int .i64 a, .bool u] (.agg 82 [.int .i64 (hostO va (refX xs r va a u)), .int .i64 (guestO va (refX xs r va a u)), .bool (refX xs r va a u).isSome]) := .of (by
  rw [Dk, nf_ref25_Lookup]
  simp only [(r_find k xs r _ hl).ok, (r_find k xs r _ hl).val, iO, cond_true, (r_has k _ 2 rfl).ok, (r_has k _ 2 rfl).val, (r_has k _ 4 rfl).ok, (r_has k _ 4 rfl).val, (r_has k _ 8 rfl).ok, (r_has k _ 8 rfl).val, (r_has k _ 32 rfl).ok, (r_has k _ 32 rfl).val, bO, condB_tt, cond_same, List.length_map]
  unfold refX fndX
  cases h : fstP (fun n => pTwin r (IntKind.i64.wrap (IntKind.u32.wrap (va.tdiv 128))) (xs.getD n d0)) xs.length 0 with
  | none => rfl
  | some n =>
    obtain ⟨_, h2, _, _⟩ := fstP_some _ _ _ h
    have hn : n < xs.length := by omega
    simp only [Int.toNat_natCast, at_map tv hn, inB_n hn, cond_true, getD_n hn]
    rw [decide_eq_false (show ¬ ((n : Int) < 0) by omega), cond_false]
    show cond (badX xs[n].bits a u) _ _ = _
    cases badX xs[n].bits a u <;> rfl) (by kernel_rfl)
theorem bits64 {x : Xl} (h : rightX x = true) (w0 : -9223372036854775808 ≤ x.bits) (w1 : x.bits < 9223372036854775808) : 0 ≤ x.bits ∧ x.bits < 64 := by
  have h1 : preB x = false := by
    cases hp : preB x with
    | false => rfl
    | true => unfold rightX at h; rw [hp] at h; exact absurd h (by simp)
  have h2 : bitB x.bits = true := by
    unfold preB at h1
    simp only [c_or, Bool.or_eq_false_iff] at h1
    simpa using h1.2.2.2.2.2.2.1
  by_cases h3 : 0 ≤ x.bits ∧ x.bits < 256
  · obtain ⟨m, hm⟩ : ∃ m : Nat, x.bits = m := ⟨x.bits.toNat, by omega⟩
    have : ∀ m : Nat, m < 256 → bitB m = true → m < 64 := by decide +kernel
    rw [hm] at h2 ⊢
    have := this m (by omega) h2
    omega
  · rw [bit_out w0 w1 h3] at h2; exact absurd h2 (by simp)
theorem look_twin {r va need : Int} {x : Xl} (h : pLook r va need x = true) : pTwin r (IntKind.i64.wrap (IntKind.u32.wrap (va.tdiv 128))) x = true := by
  unfold pLook at h; unfold pTwin
  simp only [c_and, Bool.and_eq_true] at h ⊢
  exact ⟨h.1, h.2.1⟩
theorem look_iff {r va need : Int} {x : Xl} : pLook r va need x = (pTwin r (IntKind.i64.wrap (IntKind.u32.wrap (va.tdiv 128))) x && ((ibits .and .i64 x.bits need) == need)) := by
  unfold pLook pTwin
  simp only [c_and, Bool.and_assoc]
theorem look_ref {xs : List Xl} (hv : VX xs) (hw : ∀ x ∈ xs, WX x) (r va : Int) {a : Int} (ha0 : 1 ≤ a) (ha1 : a ≤ 4) (u : Bool) : lookX xs r va a u = refX xs r va a u := by
  have hb : ∀ x ∈ xs, ((ibits .and .i64 x.bits (needX a u)) == needX a u) = !(badX x.bits a u) := fun x hx => by
    obtain ⟨b0, b1⟩ := bits64 (hv.rt x hx) (hw x hx).b0 (hw x hx).b1
    have := bad_need x.bits.toNat (by omega) a.toNat (by omega) u
    rwa [Int.toNat_of_nonneg b0, Int.toNat_of_nonneg (by omega)] at this
  unfold lookX refX
  generalize hpg : IntKind.i64.wrap (IntKind.u32.wrap (va.tdiv 128)) = p
  cases h : fstP (fun n => pTwin r p (xs.getD n d0)) xs.length 0 with
  | none =>
    rw [fstP_none] at h
    have : fstP (fun n => pLook r va (needX a u) (xs.getD n d0)) xs.length 0 = none := by
      rw [fstP_none]
      intro i i0 i1
      have h' : pTwin r p (xs.getD i d0) = false := h i i0 i1
      show pLook r va (needX a u) (xs.getD i d0) = false
      rw [look_iff, hpg, h']; rfl
    rw [this]; rfl
  | some n =>
    obtain ⟨_, h2, h3, h4⟩ := fstP_some _ _ _ h
    have hn : n < xs.length := by omega
    have hbn := hb xs[n] (List.getElem_mem hn)
    simp only [getD_n hn] at h3 ⊢
    have other : ∀ j (hj : j < xs.length), j ≠ n → pTwin r p xs[j] = false := fun j hj hne => by
      cases ht : pTwin r p xs[j] with
      | false => rfl
      | true =>
        exfalso
        have t1 : tw xs[j] xs[n] := by
          unfold pTwin at ht h3
          simp only [c_and, Bool.and_eq_true, beq_iff_eq] at ht h3
          exact ⟨by rw [ht.1, h3.1], by rw [ht.2, h3.2]⟩
        have := hv.pw
        rw [List.pairwise_iff_getElem] at this
        by_cases hlt : j < n
        · exact this j n hj hn hlt t1
        · exact this n j hn hj (by omega) (tw_symm t1)
    cases hbad : badX xs[n].bits a u with
    | true =>
      have : fstP (fun n => pLook r va (needX a u) (xs.getD n d0)) xs.length 0 = none := by
        rw [fstP_none]
        intro i i0 i1
        have hi : i < xs.length := by omega
        simp only [getD_n hi]
        rw [look_iff, hpg]
        by_cases e : i = n
        · subst e; rw [hbn, hbad]; simp
        · rw [other i hi e]; rfl
      rw [this]; rfl
    | false =>
      have : fstP (fun n => pLook r va (needX a u) (xs.getD n d0)) xs.length 0 = some n := by
        cases hf : fstP (fun n => pLook r va (needX a u) (xs.getD n d0)) xs.length 0 with
        | none =>
          rw [fstP_none] at hf
          have := hf n (by omega) (by omega)
          simp only [getD_n hn] at this
          rw [look_iff, hpg, h3, hbn, hbad] at this
          exact absurd this (by simp)
        | some m =>
          obtain ⟨_, m2, m3, _⟩ := fstP_some _ _ _ hf
          have hm : m < xs.length := by omega
          simp only [getD_n hm] at m3
          rw [look_iff, hpg] at m3
          by_cases e : m = n
          · rw [e]
          · rw [other m hm e] at m3; exact absurd m3 (by simp)
      rw [this]; simp [hn]
/-! ### comparing -/
theorem r_Same (k : Nat) (xs : List Xl) (hl : xs.length < 1000) (hr : ∀ x ∈ xs, x.reads.length < 1000) : Rt Pg (D (k + 2)) 43 [Bv xs, Bv xs] (.bool true) := .of (by
  rw [Dk, nf_ref25_Same]
  simp only [List.length_map, bne_self_eq_false, cond_false]
  have : lf_ref25_Same_4 (D (k + 1)) (xs.map tv) (xs.map tv) 100000 0 = _ :=
    findL (st := st_ref25_Same_4 (D (k + 1)) (xs.map tv) (xs.map tv)) (fun i => i) xs.length (fun n => false) (fun _ => ⟨1, [], [], [], [], [], []⟩) ⟨2, [], [], [], [], [], []⟩ hl (fun n K h => by
      have w := hr xs[n] (List.getElem_mem h)
      simp only [st_ref25_Same_4, sp_ref25_Same_4, Tr.eval, List.length_map, Int.toNat_natCast, at_map tv h, tvE, lt_n h, inB_n h, cond_true, nx_n (show n < 1000000 by omega), (r_same k xs[n] xs[n] w).ok, (r_same k xs[n] xs[n] w).val, bO, condB_tt]
      rw [show eqX xs[n] xs[n] = true by simp [eqX]]
      rfl) (fun K => by
      simp only [st_ref25_Same_4, sp_ref25_Same_4, Tr.eval, List.length_map, nlt_n, cond_false]) (by omega)
  rw [this, (fstP_none (p := fun _ => false) xs.length 0).mpr (fun _ _ _ => rfl)]; rfl) (by kernel_rfl)
theorem r_Within (k : Nat) (us bs : List Xl) (hs : us.Sublist bs) (hl : bs.length < 1000) (hr : ∀ x ∈ us, x.reads.length < 1000) : Rt Pg (D (k + 2)) 47 [Bv us, Bv bs] (.bool true) := .of (by
  rw [Dk, nf_ref25_Within]
  have hla := hs.length_le
  have key : ∀ (m n i : Nat) (fuel : Nat), n + m = bs.length → m < fuel → i ≤ us.length → (us.drop i).Sublist (bs.drop n) →
      Tr.run (st_ref25_Within_3 (D (k + 1)) (us.map tv) (bs.map tv)) fuel ((i : Int), (n : Int)) = ⟨1, [(us.length : Int)], [], [], [], [], []⟩ := by
    intro m
    induction m with
    | zero =>
      intro n i fuel hn hf hi hsub
      obtain ⟨f, rfl⟩ : ∃ f, fuel = f + 1 := ⟨fuel - 1, by omega⟩
      obtain rfl : n = bs.length := by omega
      have : i = us.length := by
        have := hsub.length_le
        simp at this
        omega
      subst this
      simp only [Tr.run, st_ref25_Within_3, sp_ref25_Within_3, Tr.eval, List.length_map, nlt_n, cond_false]
    | succ m ih =>
      intro n i fuel hn hf hi hsub
      obtain ⟨f, rfl⟩ : ∃ f, fuel = f + 1 := ⟨fuel - 1, by omega⟩
      have h : n < bs.length := by omega
      by_cases hia : i = us.length
      · subst hia
        simp only [Tr.run, st_ref25_Within_3, sp_ref25_Within_3, Tr.eval, List.length_map, nlt_n, cond_false, cond_same]
      · have hi' : i < us.length := by omega
        have w := hr us[i] (List.getElem_mem hi')
        simp only [Tr.run, st_ref25_Within_3, sp_ref25_Within_3, Tr.eval, List.length_map, Int.toNat_natCast, at_map tv h, at_map tv hi', tvE, lt_n h, lt_n hi', inB_n h, inB_n hi', cond_true, nx_n (show n < 1000000 by omega), nx_n (show i < 1000000 by omega), (r_same k us[i] bs[n] w).ok, (r_same k us[i] bs[n] w).val, bO]
        rw [List.drop_eq_getElem_cons h, List.drop_eq_getElem_cons hi'] at hsub
        by_cases he : us[i] = bs[n]
        · rw [show eqX us[i] bs[n] = true by simp [eqX, he], cond_true]
          refine ih (n + 1) (i + 1) f (by omega) (by omega) (by omega) ?_
          rw [he] at hsub
          exact List.cons_sublist_cons.mp hsub
        · rw [show eqX us[i] bs[n] = false by simp [eqX, he], cond_false]
          refine ih (n + 1) i f (by omega) (by omega) (by omega) ?_
          rw [List.drop_eq_getElem_cons hi']
          rcases List.sublist_cons_iff.mp hsub with h' | ⟨r, h', _⟩
          · exact h'
          · exact absurd (List.cons.inj h').1 he
  have := key bs.length 0 0 100000 (by omega) (by omega) (by omega) (by simpa using hs)
  rw [show lf_ref25_Within_3 (D (k + 1)) (us.map tv) (bs.map tv) 100000 0 0 = _ from this]
  simp) (by kernel_rfl)
end Go.Proofs.Ytcknhfnbdgleiaa
