/- The buffer of translations: what the loops do. -/
import Derived.Test.YtcknhfnbdgleiaaTlb0
import Derived.Test.YtcknhfnbdgleiaaEvD
set_option linter.unusedVariables false
set_option linter.unusedSimpArgs false
namespace Go.Proofs.Ytcknhfnbdgleiaa
open Go.AE

theorem Dk (k : Nat) (f : FuncId) (args : List AV) : D (k + 1) f args = fnV (cx (D k)) 6 f args := rfl
/-- A translation. -/
structure Xl where
  root : Int
  page : Int
  guest : Int
  frame : Int
  bits : Int
  reads : List Int
deriving DecidableEq
abbrev rv : List Int → List AV := List.map (.int .i64)
def tv (x : Xl) : AV := .agg 69 [.int .u32 x.root, .int .i64 x.page, .int .i64 x.guest, .int .i64 x.frame, .int .i64 x.bits, .slice 3 (rv x.reads) false]
abbrev Bv (xs : List Xl) : AV := .agg 67 [.slice 70 (xs.map tv) false]
theorem at_map {α : Type} (f : α → AV) {xs : List α} {n : Nat} (h : n < xs.length) : (xs.map f).getD n .dead = f xs[n] := by simp [List.getD, h]
theorem inB_n {n m : Nat} (h : n < m) : inB (n : Int) m = true := by simp [inB]; omega
theorem lt_n {n m : Nat} (h : n < m) : decide ((n : Int) < ((m : Nat) : Int)) = true := by simp; omega
theorem nlt_n (n : Nat) : decide ((n : Int) < ((n : Nat) : Int)) = false := by simp
theorem nx_n {n : Nat} (h : n < 1000000) : IntKind.i64.wrap ((n : Int) + 1) = ((n + 1 : Nat) : Int) := by
  rw [wrap_i64_id (by omega) (by omega)]; rfl
theorem me_n {n : Nat} (h : n < 1000000) : decide ((n + 1) * 64 ≤ 140737488355328) = true := by simp; omega
theorem me8_n {n : Nat} (h : n < 1000000) : decide ((n + 1) * 8 ≤ 140737488355328) = true := by simp; omega
/-- A loop that keeps some. -/
theorem filtL {σ α : Type} {st : σ → Tr σ} (mk : List α → Int → σ) (xs : List α) (p : α → Bool) (R : List α → LO) (hl : xs.length < 1000)
    (hs : ∀ (o : List α) (n : Nat) (K : σ → LO) (h : n < xs.length), o.length ≤ n → (st (mk o n)).eval K = K (mk (cond (p xs[n]) (o ++ [xs[n]]) o) ((n + 1 : Nat) : Int)))
    (he : ∀ (o : List α) (K : σ → LO), (st (mk o (xs.length : Nat))).eval K = R o) {fuel : Nat} (hf : xs.length < fuel) : Tr.run st fuel (mk [] 0) = R (xs.filter p) := by
  have key : ∀ (m n : Nat) (o : List α) (fuel : Nat), n + m = xs.length → o.length ≤ n → m < fuel → Tr.run st fuel (mk o (n : Int)) = R (o ++ (xs.drop n).filter p) := by
    intro m
    induction m with
    | zero =>
      intro n o fuel hn ho hf
      obtain ⟨f, rfl⟩ : ∃ f, fuel = f + 1 := ⟨fuel - 1, by omega⟩
      obtain rfl : n = xs.length := by omega
      rw [Tr.run, he]; simp
    | succ m ih =>
      intro n o fuel hn ho hf
      obtain ⟨f, rfl⟩ : ∃ f, fuel = f + 1 := ⟨fuel - 1, by omega⟩
      have h : n < xs.length := by omega
      rw [Tr.run, hs o n _ h ho, ih (n + 1) _ f (by omega) (by cases p xs[n] <;> simp <;> omega) (by omega)]
      rw [List.drop_eq_getElem_cons h, List.filter_cons]
      cases p xs[n] <;> simp
  have := key xs.length 0 [] fuel (by omega) (by simp) hf
  simpa using this
/-- The first of n places. -/
def fstP (p : Nat → Bool) : Nat → Nat → Option Nat
  | 0, _ => none
  | m + 1, n => cond (p n) (some n) (fstP p m (n + 1))
theorem findL {σ : Type} {st : σ → Tr σ} (mk : Int → σ) (N : Nat) (p : Nat → Bool) (A : Nat → LO) (R0 : LO) (hl : N < 1000)
    (hs : ∀ (n : Nat) (K : σ → LO), n < N → (st (mk n)).eval K = cond (p n) (A n) (K (mk ((n + 1 : Nat) : Int))))
    (he : ∀ K : σ → LO, (st (mk (N : Nat))).eval K = R0) {fuel : Nat} (hf : N < fuel) : Tr.run st fuel (mk 0) = (match fstP p N 0 with | some n => A n | none => R0) := by
  have key : ∀ (m n : Nat) (fuel : Nat), n + m = N → m < fuel → Tr.run st fuel (mk (n : Int)) = (match fstP p m n with | some n => A n | none => R0) := by
    intro m
    induction m with
    | zero =>
      intro n fuel hn hf
      obtain ⟨f, rfl⟩ : ∃ f, fuel = f + 1 := ⟨fuel - 1, by omega⟩
      obtain rfl : n = N := by omega
      rw [Tr.run, he]; rfl
    | succ m ih =>
      intro n fuel hn hf
      obtain ⟨f, rfl⟩ : ∃ f, fuel = f + 1 := ⟨fuel - 1, by omega⟩
      rw [Tr.run, hs n _ (by omega), fstP]
      cases p n
      · rw [cond_false, cond_false, ih (n + 1) f (by omega) (by omega)]
      · rfl
  have := key N 0 fuel (by omega) hf
  simpa using this
theorem fstP_none {p : Nat → Bool} : ∀ (m n : Nat), fstP p m n = none ↔ ∀ i, n ≤ i → i < n + m → p i = false
  | 0, n => by simp [fstP]; intro i h1 h2; omega
  | m + 1, n => by
    rw [fstP]
    cases h : p n with
    | true =>
      simp only [cond_true]
      constructor
      · intro h'; exact absurd h' (by simp)
      · intro h'; have := h' n (by omega) (by omega); rw [h] at this; exact absurd this (by simp)
    | false =>
      rw [cond_false, fstP_none m (n + 1)]
      constructor
      · intro h' i h1 h2
        by_cases e : i = n
        · rw [e, h]
        · exact h' i (by omega) (by omega)
      · intro h' i h1 h2; exact h' i (by omega) (by omega)
theorem fstP_some {p : Nat → Bool} : ∀ (m n i : Nat), fstP p m n = some i → n ≤ i ∧ i < n + m ∧ p i = true ∧ ∀ j, n ≤ j → j < i → p j = false
  | 0, n, i => by simp [fstP]
  | m + 1, n, i => by
    rw [fstP]
    cases h : p n with
    | true =>
      simp only [cond_true, Option.some.injEq]
      rintro rfl
      exact ⟨by omega, by omega, h, fun j h1 h2 => by omega⟩
    | false =>
      rw [cond_false]
      intro h'
      obtain ⟨h1, h2, h3, h4⟩ := fstP_some m (n + 1) i h'
      refine ⟨by omega, by omega, h3, fun j h5 h6 => ?_⟩
      by_cases e : j = n
      · rw [e, h]
      · exact h4 j (by omega) h6
/-! ### the loops that keep translations -/
abbrev RL (o : List AV) : LO := ⟨1, [], [], [o], [], [], []⟩
def pFill (r p : Int) (x : Xl) : Bool := cond (x.root != r) true (x.page != p)
def pTwin (r p : Int) (x : Xl) : Bool := cond (x.root == r) (x.page == p) false
def pFlush (va : Int) (x : Xl) : Bool := cond (decide (va < 131072)) (x.page != IntKind.i64.wrap (IntKind.u32.wrap (va.tdiv 128))) false
theorem keep3 (F : Tab) (xs : List Xl) (l2 l3 : List AV) (r p a b c : Int) (hl : xs.length < 1000) {fuel : Nat} (hf : xs.length < fuel) :
    lf_tlb_keep_api_Trans_3 F (xs.map tv) ((xs.length : Nat) : Int) l2 r p a b c l3 fuel [] 0 = RL ((xs.filter (pFill r p)).map tv) :=
  filtL (st := st_tlb_keep_api_Trans_3 F (xs.map tv) ((xs.length : Nat) : Int) l2 r p a b c l3) (fun o i => (o.map tv, i)) xs (pFill r p) (fun o => RL (o.map tv)) hl (fun o n K h ho => by
    simp only [st_tlb_keep_api_Trans_3, sp_tlb_keep_api_Trans_3, Tr.eval, List.length_map, Int.toNat_natCast, at_map tv h, lt_n h, inB_n h, cond_true, nx_n (show n < 1000000 by omega), me_n (show o.length < 1000000 by omega)]
    show cond (pFill r p xs[n]) (K (o.map tv ++ [tv xs[n]], _)) (K (o.map tv, _)) = _
    cases pFill r p xs[n] <;> simp) (fun o K => by
    simp only [st_tlb_keep_api_Trans_3, sp_tlb_keep_api_Trans_3, Tr.eval, nlt_n, cond_false]) hf
theorem keep3a (F : Tab) (xs : List Xl) (l2 l3 : List AV) (r p a b c : Int) (hl : xs.length < 1000) {fuel : Nat} (hf : xs.length < fuel) :
    lf_tlb_keep_api_Trans_3a F (xs.map tv) ((xs.length : Nat) : Int) l2 r p a b c l3 fuel [] 0 = RL ((xs.filter (pTwin r p)).map tv) :=
  filtL (st := st_tlb_keep_api_Trans_3a F (xs.map tv) ((xs.length : Nat) : Int) l2 r p a b c l3) (fun o i => (o.map tv, i)) xs (pTwin r p) (fun o => RL (o.map tv)) hl (fun o n K h ho => by
    simp only [st_tlb_keep_api_Trans_3a, sp_tlb_keep_api_Trans_3a, Tr.eval, List.length_map, Int.toNat_natCast, at_map tv h, lt_n h, inB_n h, cond_true, nx_n (show n < 1000000 by omega), me_n (show o.length < 1000000 by omega)]
    show cond (pTwin r p xs[n]) (K (o.map tv ++ [tv xs[n]], _)) (K (o.map tv, _)) = _
    cases pTwin r p xs[n] <;> simp) (fun o K => by
    simp only [st_tlb_keep_api_Trans_3a, sp_tlb_keep_api_Trans_3a, Tr.eval, nlt_n, cond_false]) hf
theorem keep3b (F : Tab) (xs : List Xl) (l2 : List AV) (va : Int) (hl : xs.length < 1000) {fuel : Nat} (hf : xs.length < fuel) :
    lf_tlb_keep_api_Trans_3b F (xs.map tv) ((xs.length : Nat) : Int) l2 va fuel [] 0 = RL ((xs.filter (pFlush va)).map tv) :=
  filtL (st := st_tlb_keep_api_Trans_3b F (xs.map tv) ((xs.length : Nat) : Int) l2 va) (fun o i => (o.map tv, i)) xs (pFlush va) (fun o => RL (o.map tv)) hl (fun o n K h ho => by
    simp only [st_tlb_keep_api_Trans_3b, sp_tlb_keep_api_Trans_3b, Tr.eval, List.length_map, Int.toNat_natCast, at_map tv h, lt_n h, inB_n h, cond_true, nx_n (show n < 1000000 by omega), me_n (show o.length < 1000000 by omega)]
    show cond (pFlush va xs[n]) (K (o.map tv ++ [tv xs[n]], _)) (K (o.map tv, _)) = _
    cases pFlush va xs[n] <;> simp) (fun o K => by
    simp only [st_tlb_keep_api_Trans_3b, sp_tlb_keep_api_Trans_3b, Tr.eval, nlt_n, cond_false]) hf
theorem rfill (F : Tab) (xs : List Xl) (l3 : List AV) (r p a b c : Int) (hl : xs.length < 1000) {fuel : Nat} (hf : xs.length < fuel) :
    lf_ref25_Fill_3 F (xs.map tv) r p a b c l3 fuel 0 [] = RL ((xs.filter (pFill r p)).map tv) :=
  filtL (st := st_ref25_Fill_3 F (xs.map tv) r p a b c l3) (fun o i => (i, o.map tv)) xs (pFill r p) (fun o => RL (o.map tv)) hl (fun o n K h ho => by
    simp only [st_ref25_Fill_3, sp_ref25_Fill_3, Tr.eval, List.length_map, Int.toNat_natCast, at_map tv h, lt_n h, inB_n h, cond_true, nx_n (show n < 1000000 by omega), me_n (show o.length < 1000000 by omega), condB_tt]
    show cond (pFill r p xs[n]) (K (_, o.map tv ++ [tv xs[n]])) (K (_, o.map tv)) = _
    cases pFill r p xs[n] <;> simp) (fun o K => by
    simp only [st_ref25_Fill_3, sp_ref25_Fill_3, Tr.eval, List.length_map, nlt_n, cond_false]) hf
theorem rflush (F : Tab) (xs : List Xl) (va : Int) (hl : xs.length < 1000) {fuel : Nat} (hf : xs.length < fuel) :
    lf_ref25_Flush_3 F va (xs.map tv) fuel 0 [] = RL ((xs.filter (pFlush va)).map tv) :=
  filtL (st := st_ref25_Flush_3 F va (xs.map tv)) (fun o i => (i, o.map tv)) xs (pFlush va) (fun o => RL (o.map tv)) hl (fun o n K h ho => by
    simp only [st_ref25_Flush_3, sp_ref25_Flush_3, Tr.eval, List.length_map, Int.toNat_natCast, at_map tv h, lt_n h, inB_n h, cond_true, nx_n (show n < 1000000 by omega), me_n (show o.length < 1000000 by omega), condB_tt]
    show cond (pFlush va xs[n]) (K (_, o.map tv ++ [tv xs[n]])) (K (_, o.map tv)) = _
    cases pFlush va xs[n] <;> simp) (fun o K => by
    simp only [st_ref25_Flush_3, sp_ref25_Flush_3, Tr.eval, List.length_map, nlt_n, cond_false]) hf
/-! ### loops over what a translation has read -/
def pWrong (r : Int) : Bool := cond (decide (r < 0)) true (cond (decide (8192 ≤ r)) true (r.tmod 4 != 0))
def pRead (a s : Int) (r : Int) : Bool := cond (decide (a < IntKind.i64.wrap (r + 4))) (decide (r < IntKind.i64.wrap (a + s))) false
theorem keepi (F : Tab) (rs : List Int) (l2 : List AV) (a b c d e : Int) (hl : rs.length < 1000) {fuel : Nat} (hf : rs.length < fuel) :
    lf_tlb_keep_int_3 F (rv rs) ((rs.length : Nat) : Int) a b c d e l2 fuel [] 0 = RL (rv (rs.filter pWrong)) :=
  filtL (st := st_tlb_keep_int_3 F (rv rs) ((rs.length : Nat) : Int) a b c d e l2) (fun o i => (rv o, i)) rs pWrong (fun o => RL (rv o)) hl (fun o n K h ho => by
    simp only [st_tlb_keep_int_3, sp_tlb_keep_int_3, Tr.eval, rv, List.length_map, Int.toNat_natCast, at_map _ h, lt_n h, inB_n h, cond_true, nx_n (show n < 1000000 by omega), me8_n (show o.length < 1000000 by omega)]
    show cond (pWrong rs[n]) (K (rv o ++ [.int .i64 rs[n]], _)) (K (rv o, _)) = _
    cases pWrong rs[n] <;> simp) (fun o K => by
    simp only [st_tlb_keep_int_3, sp_tlb_keep_int_3, Tr.eval, nlt_n, cond_false]) hf
theorem keepia (F : Tab) (rs : List Int) (l2 : List AV) (a b c d e x y : Int) (hl : rs.length < 1000) {fuel : Nat} (hf : rs.length < fuel) :
    lf_tlb_keep_int_3a F (rv rs) ((rs.length : Nat) : Int) a b c d e l2 x y fuel [] 0 = RL (rv (rs.filter (pRead x y))) :=
  filtL (st := st_tlb_keep_int_3a F (rv rs) ((rs.length : Nat) : Int) a b c d e l2 x y) (fun o i => (rv o, i)) rs (pRead x y) (fun o => RL (rv o)) hl (fun o n K h ho => by
    simp only [st_tlb_keep_int_3a, sp_tlb_keep_int_3a, Tr.eval, rv, List.length_map, Int.toNat_natCast, at_map _ h, lt_n h, inB_n h, cond_true, nx_n (show n < 1000000 by omega), me8_n (show o.length < 1000000 by omega)]
    show cond (pRead x y rs[n]) (K (rv o ++ [.int .i64 rs[n]], _)) (K (rv o, _)) = _
    cases pRead x y rs[n] <;> simp) (fun o K => by
    simp only [st_tlb_keep_int_3a, sp_tlb_keep_int_3a, Tr.eval, nlt_n, cond_false]) hf
theorem rreads (F : Tab) (rs : List Int) (a b c d e x y : Int) (hl : rs.length < 1000) {fuel : Nat} (hf : rs.length < fuel) :
    lf_ref25_reads_2 F x y a b c d e (rv rs) fuel 0 = (match fstP (fun n => pRead x y (rs.getD n 0)) rs.length 0 with | some _ => ⟨1, [], [], [], [], [], []⟩ | none => ⟨2, [], [], [], [], [], []⟩) :=
  findL (st := st_ref25_reads_2 F x y a b c d e (rv rs)) (fun i => i) rs.length (fun n => pRead x y (rs.getD n 0)) (fun _ => ⟨1, [], [], [], [], [], []⟩) ⟨2, [], [], [], [], [], []⟩ hl (fun n K h => by
    simp only [st_ref25_reads_2, sp_ref25_reads_2, Tr.eval, rv, List.length_map, Int.toNat_natCast, at_map _ h, lt_n h, inB_n h, cond_true, nx_n (show n < 1000000 by omega), condB_tt]
    rw [show rs.getD n 0 = rs[n] by simp [List.getD, h]]; rfl) (fun K => by
    simp only [st_ref25_reads_2, sp_ref25_reads_2, Tr.eval, rv, List.length_map, nlt_n, cond_false]) hf
theorem rright (F : Tab) (rs : List Int) (a b c d e : Int) (hl : rs.length < 1000) {fuel : Nat} (hf : rs.length < fuel) :
    lf_ref25_Right_4 F a b c d e (rv rs) fuel 0 = (match fstP (fun n => pWrong (rs.getD n 0)) rs.length 0 with | some _ => ⟨1, [], [], [], [], [], []⟩ | none => ⟨2, [], [], [], [], [], []⟩) :=
  findL (st := st_ref25_Right_4 F a b c d e (rv rs)) (fun i => i) rs.length (fun n => pWrong (rs.getD n 0)) (fun _ => ⟨1, [], [], [], [], [], []⟩) ⟨2, [], [], [], [], [], []⟩ hl (fun n K h => by
    simp only [st_ref25_Right_4, sp_ref25_Right_4, Tr.eval, rv, List.length_map, Int.toNat_natCast, at_map _ h, lt_n h, inB_n h, cond_true, nx_n (show n < 1000000 by omega), condB_tt]
    rw [show rs.getD n 0 = rs[n] by simp [List.getD, h]]; rfl) (fun K => by
    simp only [st_ref25_Right_4, sp_ref25_Right_4, Tr.eval, rv, List.length_map, nlt_n, cond_false]) hf
theorem rfind (F : Tab) (xs : List Xl) (d : Xl) (r p : Int) (hl : xs.length < 1000) {fuel : Nat} (hf : xs.length < fuel) :
    lf_ref25_find_2 F r p (xs.map tv) fuel 0 = (match fstP (fun n => pTwin r p (xs.getD n d)) xs.length 0 with | some n => ⟨1, [(n : Int)], [], [], [], [], []⟩ | none => ⟨2, [], [], [], [], [], []⟩) :=
  findL (st := st_ref25_find_2 F r p (xs.map tv)) (fun i => i) xs.length (fun n => pTwin r p (xs.getD n d)) (fun n => ⟨1, [(n : Int)], [], [], [], [], []⟩) ⟨2, [], [], [], [], [], []⟩ hl (fun n K h => by
    simp only [st_ref25_find_2, sp_ref25_find_2, Tr.eval, List.length_map, Int.toNat_natCast, at_map _ h, lt_n h, inB_n h, cond_true, nx_n (show n < 1000000 by omega), condB_tt]
    rw [show xs.getD n d = xs[n] by simp [List.getD, h]]; rfl) (fun K => by
    simp only [st_ref25_find_2, sp_ref25_find_2, Tr.eval, List.length_map, nlt_n, cond_false]) hf
def pLook (r va need : Int) (x : Xl) : Bool := cond (x.root == r) (cond (x.page == IntKind.i64.wrap (IntKind.u32.wrap (va.tdiv 128))) ((ibits .and .i64 x.bits need) == need) false) false
def hostX (va : Int) (x : Xl) : Int := IntKind.i64.wrap (IntKind.i64.wrap (128 * x.frame) + IntKind.i64.wrap (va.tmod 128))
def guestX (va : Int) (x : Xl) : Int := IntKind.i64.wrap (IntKind.i64.wrap (128 * x.guest) + IntKind.i64.wrap (va.tmod 128))
theorem rlook (F : Tab) (xs : List Xl) (d : Xl) (r va need : Int) (l1 : List AV) (hl : xs.length < 1000) {fuel : Nat} (hf : xs.length < fuel) :
    lf_tlb_Lookup_11 F r va need (xs.map tv) ((xs.length : Nat) : Int) l1 fuel 0 = (match fstP (fun n => pLook r va need (xs.getD n d)) xs.length 0 with | some n => ⟨1, [hostX va (xs.getD n d), guestX va (xs.getD n d)], [], [], [], [], []⟩ | none => ⟨2, [], [], [], [], [], []⟩) :=
  findL (st := st_tlb_Lookup_11 F r va need (xs.map tv) ((xs.length : Nat) : Int) l1) (fun i => i) xs.length (fun n => pLook r va need (xs.getD n d)) (fun n => ⟨1, [hostX va (xs.getD n d), guestX va (xs.getD n d)], [], [], [], [], []⟩) ⟨2, [], [], [], [], [], []⟩ hl (fun n K h => by
    simp only [st_tlb_Lookup_11, sp_tlb_Lookup_11, Tr.eval, List.length_map, Int.toNat_natCast, at_map _ h, lt_n h, inB_n h, cond_true, nx_n (show n < 1000000 by omega), condB_tt]
    rw [show xs.getD n d = xs[n] by simp [List.getD, h]]; rfl) (fun K => by
    simp only [st_tlb_Lookup_11, sp_tlb_Lookup_11, Tr.eval, List.length_map, nlt_n, cond_false]) hf
theorem rsame (F : Tab) (rs ss : List Int) (a b c d e a' b' c' d' e' : Int) (hl : rs.length < 1000) (he : ss.length = rs.length) {fuel : Nat} (hf : rs.length < fuel) :
    lf_ref25_same_4 F a b c d e (rv rs) a' b' c' d' e' (rv ss) fuel 0 = (match fstP (fun n => rs.getD n 0 != ss.getD n 0) rs.length 0 with | some _ => ⟨1, [], [], [], [], [], []⟩ | none => ⟨2, [], [], [], [], [], []⟩) :=
  findL (st := st_ref25_same_4 F a b c d e (rv rs) a' b' c' d' e' (rv ss)) (fun i => i) rs.length (fun n => rs.getD n 0 != ss.getD n 0) (fun _ => ⟨1, [], [], [], [], [], []⟩) ⟨2, [], [], [], [], [], []⟩ hl (fun n K h => by
    have h' : n < ss.length := by omega
    simp only [st_ref25_same_4, sp_ref25_same_4, Tr.eval, rv, List.length_map, Int.toNat_natCast, at_map _ h, at_map _ h', lt_n h, inB_n h, inB_n h', cond_true, nx_n (show n < 1000000 by omega), condB_tt]
    rw [show rs.getD n 0 = rs[n] by simp [List.getD, h], show ss.getD n 0 = ss[n] by simp [List.getD, h']]; rfl) (fun K => by
    simp only [st_ref25_same_4, sp_ref25_same_4, Tr.eval, rv, List.length_map, nlt_n, cond_false]) hf
end Go.Proofs.Ytcknhfnbdgleiaa
