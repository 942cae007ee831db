/- What walks have in common: rights are ordered. -/
import Derived.Test.YtcknhfnbdgleiaaTab15
set_option linter.unusedVariables false
set_option linter.unusedSimpArgs false
namespace Go.Proofs.Ytcknhfnbdgleiaa
open Go.AE

/-- A leaf is found. -/
structure Fd (m : Pgs) (root va e page a : Nat) (reads : List Nat) : Prop where
  r0 : root ≠ 0
  hv : va < 131072
  hr : pgd m root = true
  he : e = wo m a
  hp : pgd m page = true
  how : (reads = [a] ∧ a = at1 root va ∧ hb e 1 = true ∧ right m e = true ∧ hb e 64 = true ∧ page = pg1 e va) ∨
    (reads = [at1 root va, a] ∧ hb (wo m (at1 root va)) 1 = true ∧ right m (wo m (at1 root va)) = true ∧ hb (wo m (at1 root va)) 64 = false ∧ a = at2 (wo m (at1 root va)) va ∧ hb e 1 = true ∧ hb e 64 = false ∧ page = pa e)
def good (e page a va acc : Nat) (reads : List Nat) : Wk := ⟨((page + va % 128 : Nat) : Int), (a : Int), cond (upd e acc == e) [] [⟨a, 4, upd e acc⟩], reads, 0⟩
theorem walk_cases (m : Pgs) (root va : Nat) : (∃ r : List Nat, r.length ≤ 2 ∧ ∀ acc user, walk m root va acc user = bad acc r) ∨ (root = 0 ∧ va < 128 * m.length ∧ ∀ acc user, walk m root va acc user = ⟨(va : Int), -1, [], [], 0⟩) ∨
    (∃ e page a reads, Fd m root va e page a reads ∧ ∀ acc user, walk m root va acc user = cond (may e acc user) (good e page a va acc reads) (bad acc reads)) := by
  have key : ∀ e page a reads, reads.length ≤ 2 → root ≠ 0 → va < 131072 → pgd m root = true → e = wo m a → ((reads = [a] ∧ a = at1 root va ∧ hb e 1 = true ∧ right m e = true ∧ hb e 64 = true ∧ page = pg1 e va) ∨
      (reads = [at1 root va, a] ∧ hb (wo m (at1 root va)) 1 = true ∧ right m (wo m (at1 root va)) = true ∧ hb (wo m (at1 root va)) 64 = false ∧ a = at2 (wo m (at1 root va)) va ∧ hb e 1 = true ∧ hb e 64 = false ∧ page = pa e)) →
      (∀ acc user, walk m root va acc user = fin m acc user e page a va reads) → (∃ r : List Nat, r.length ≤ 2 ∧ ∀ acc user, walk m root va acc user = bad acc r) ∨ (root = 0 ∧ va < 128 * m.length ∧ ∀ acc user, walk m root va acc user = ⟨(va : Int), -1, [], [], 0⟩) ∨
    (∃ e page a reads, Fd m root va e page a reads ∧ ∀ acc user, walk m root va acc user = cond (may e acc user) (good e page a va acc reads) (bad acc reads)) := by
    intro e page a reads hl h0 h1 h2 h3 h4 h5
    cases hpg : pgd m page with
    | false => exact .inl ⟨reads, hl, fun acc user => by rw [h5, fin, hpg]; rfl⟩
    | true => exact .inr (.inr ⟨e, page, a, reads, ⟨h0, h1, h2, h3, hpg, h4⟩, fun acc user => by rw [h5, fin, hpg]; rfl⟩)
  cases h0 : root == 0 with
  | true =>
    cases h1 : decide (va < 128 * m.length) with
    | true => exact .inr (.inl ⟨by simpa using h0, by simpa using h1, fun acc user => by unfold walk; rw [h0, h1]; rfl⟩)
    | false => exact .inl ⟨[], by simp, fun acc user => by unfold walk; rw [h0, h1]; rfl⟩
  | false =>
  have h0' : root ≠ 0 := by simpa using h0
  cases h1 : decide (va < 131072) with
  | false => exact .inl ⟨[], by simp, fun acc user => by unfold walk; rw [h0, h1]; rfl⟩
  | true =>
  have h1' : va < 131072 := by simpa using h1
  cases h2 : pgd m root with
  | false => exact .inl ⟨[], by simp, fun acc user => by unfold walk; rw [h0, h1, h2]; rfl⟩
  | true =>
  cases h3 : hb (wo m (at1 root va)) 1 with
  | false => exact .inl ⟨[at1 root va], by simp, fun acc user => by unfold walk; rw [h0, h1, h2, h3]; rfl⟩
  | true =>
  cases h4 : right m (wo m (at1 root va)) with
  | false => exact .inl ⟨[at1 root va], by simp, fun acc user => by unfold walk; rw [h0, h1, h2, h3, h4]; rfl⟩
  | true =>
  cases h5 : hb (wo m (at1 root va)) 64 with
  | true => exact key _ _ _ [at1 root va] (by simp) h0' h1' h2 rfl (.inl ⟨rfl, rfl, h3, h4, h5, rfl⟩) (fun acc user => by unfold walk; rw [h0, h1, h2, h3, h4, h5]; rfl)
  | false =>
  cases h6 : hb (wo m (at2 (wo m (at1 root va)) va)) 1 with
  | false => exact .inl ⟨[at1 root va, at2 (wo m (at1 root va)) va], by simp, fun acc user => by unfold walk; rw [h0, h1, h2, h3, h4, h5, h6]; rfl⟩
  | true =>
  cases h7 : hb (wo m (at2 (wo m (at1 root va)) va)) 64 with
  | true => exact .inl ⟨[at1 root va, at2 (wo m (at1 root va)) va], by simp, fun acc user => by unfold walk; rw [h0, h1, h2, h3, h4, h5, h6, h7]; rfl⟩
  | false => exact key _ _ _ [at1 root va, at2 (wo m (at1 root va)) va] (by simp) h0' h1' h2 rfl (.inr ⟨rfl, h3, h4, h5, rfl, h6, h7, rfl⟩) (fun acc user => by unfold walk; rw [h0, h1, h2, h3, h4, h5, h6, h7]; rfl)
theorem may_user (e acc : Nat) (h : may e acc true = true) : may e acc false = true := by
  unfold may at *
  revert h
  cases stor acc <;> cases hb e 2 <;> cases hb e 4 <;> cases hb e 8 <;> cases acc == 4 <;> simp
theorem may_load (e : Nat) : may e 1 false = true := by
  unfold may stor
  rfl
theorem may_swap (e : Nat) (u : Bool) : may e 2 u = may e 3 u := by
  unfold may stor
  rfl
theorem cz_pos {acc : Nat} (ha : 1 ≤ acc ∧ acc ≤ 4) : (((cz acc : Nat) : Int) == 0) = false := by
  obtain rfl | rfl | rfl | rfl : acc = 1 ∨ acc = 2 ∨ acc = 3 ∨ acc = 4 := by omega
  all_goals rfl
/-- What the statement looks at for one access. -/
theorem ordered (m : Pgs) (root va acc : Nat) (ha : 1 ≤ acc ∧ acc ≤ 4) :
    (((walk m root va acc true).cause = 0 ∧ (walk m root va acc false).cause = 0 ∧ (walk m root va acc true).at' = (walk m root va acc false).at' ∧ (walk m root va acc true).leaf = (walk m root va acc false).leaf) ∨ (walk m root va acc true).cause = cz acc) ∧
    (((walk m root va acc false).cause = 0 ∧ (walk m root va 1 false).cause = 0 ∧ (walk m root va 1 false).at' = (walk m root va acc false).at') ∨ (walk m root va acc false).cause = cz acc) := by
  rcases walk_cases m root va with ⟨r, _, h⟩ | ⟨_, _, h⟩ | ⟨e, page, a, reads, _, h⟩
  · simp only [h]; exact ⟨.inr rfl, .inr rfl⟩
  · simp [h]
  · simp only [h, may_load, cond_true]
    cases h1 : may e acc true with
    | true => rw [may_user e acc h1]; exact ⟨.inl ⟨rfl, rfl, rfl, rfl⟩, .inl ⟨rfl, rfl, rfl⟩⟩
    | false =>
      cases may e acc false with
      | true => exact ⟨.inr rfl, .inl ⟨rfl, rfl, rfl⟩⟩
      | false => exact ⟨.inr rfl, .inr rfl⟩
theorem swaps (m : Pgs) (root va : Nat) : (walk m root va 2 true).cause = (walk m root va 3 true).cause := by
  rcases walk_cases m root va with ⟨r, _, h⟩ | ⟨_, _, h⟩ | ⟨e, page, a, reads, _, h⟩
  · simp only [h]; rfl
  · simp only [h]
  · simp only [h, may_swap]
    cases may e 3 true <;> rfl
theorem ro_step (k : Nat) {m : Pgs} (w : Wm m) {root va : Nat} (hr : root < 4294967296) (hv : va < 4294967296) {n : Nat} (h1 : 1 ≤ n) (h4 : n ≤ 4) (K : Int → LO) :
    (st_law10_TableRightsAreOrdered_4 (D (k + 3)) root va (m.map pg) (n : Int)).eval K = K ((n + 1 : Nat) : Int) := by
  have e1 := r_walk k w root va n true hr hv ⟨h1, h4⟩
  have e2 := r_walk k w root va n false hr hv ⟨h1, h4⟩
  have e3 := r_walk k w root va 1 false hr hv ⟨by omega, by omega⟩
  simp only [show ((1 : Nat) : Int) = 1 from rfl] at e3
  have ho := ordered m root va n ⟨h1, h4⟩
  obtain ⟨_, _, a3, a4⟩ := acc_facts ⟨h1, h4⟩
  have hz := cz_pos ⟨h1, h4⟩
  have hle : decide ((n : Int) ≤ 4) = true := decide_eq_true (by omega)
  unfold wkT wkA at e1 e2 e3
  generalize walk m root va n true = x at *
  generalize walk m root va n false = y at *
  generalize walk m root va 1 false = z at *
  simp only [st_law10_TableRightsAreOrdered_4, sp_law10_TableRightsAreOrdered_4, Tr.eval, e1.ok, e1.val, e2.ok, e2.val, e3.ok, e3.val, tO, pO, g0, g1, iO, a3, a4, hle, nx_n (show n < 1000000 by omega), cond_true]
  rcases ho with ⟨⟨c1, c2, c3, c4⟩ | c1, ⟨d1, d2, d3⟩ | d1⟩
  · rw [c1, d1, d2, d3, c3, c4]
    simp only [bne_self_eq_false, beq_self_eq_true, show ((0 : Nat) : Int) = 0 from rfl, cond_true, cond_false]
  · rw [c2] at d1; rw [← d1] at hz; exact absurd hz (by simp)
  · rw [c1, d1, d2, d3, hz]
    simp only [bne_self_eq_false, beq_self_eq_true, show ((0 : Nat) : Int) = 0 from rfl, cond_true, cond_false, bne, hz, Bool.not_false, Bool.not_true]
  · rw [c1, d1, hz]
    simp only [bne_self_eq_false, beq_self_eq_true, cond_true, cond_false, bne, hz, Bool.not_false, Bool.not_true]
theorem law5_true (k : Nat) (m : Pgs) (hm : pgsOK m) (root va : Nat) (hr : root < 4294967296) (hv : va < 4294967296) :
    D (k + 14) 5 [mv m, .int .u32 (root : Int), .int .u32 (va : Int)] = some (.bool true) := by
  have rs := rt_sanity (k + 1)
  have rv := r_valid (k + 12) (m.map pg)
  rw [Dk, nf_law10_TableRightsAreOrdered]
  simp only [rs.ok, rs.val, rv.ok, rv.val, bO, condB_tt, cond_true]
  cases h2 : (decide (1 ≤ (m.map pg).length) && decide ((m.map pg).length ≤ 64)) with
  | false => rfl
  | true =>
  have w := wm_of hm h2
  have one : ∀ (f n : Nat), 1 ≤ n → n ≤ 4 → Tr.run (st_law10_TableRightsAreOrdered_4 (D (k + 13)) root va (m.map pg)) (f + 1) (n : Int) = Tr.run (st_law10_TableRightsAreOrdered_4 (D (k + 13)) root va (m.map pg)) f ((n + 1 : Nat) : Int) := fun f n h1 h4 => by
    rw [run1, ro_step (k + 10) w hr hv h1 h4]
  have last : ∀ f : Nat, Tr.run (st_law10_TableRightsAreOrdered_4 (D (k + 13)) root va (m.map pg)) (f + 1) ((5 : Nat) : Int) = ⟨2, [], [], [], [], [], []⟩ := fun f => by
    rw [run1]
    simp only [st_law10_TableRightsAreOrdered_4, sp_law10_TableRightsAreOrdered_4, Tr.eval, show decide (((5 : Nat) : Int) ≤ 4) = false from rfl, cond_false]
  have hl : lf_law10_TableRightsAreOrdered_4 (D (k + 13)) root va (m.map pg) 100000 1 = ⟨2, [], [], [], [], [], []⟩ := by
    unfold lf_law10_TableRightsAreOrdered_4
    rw [show (100000 : Nat) = 99995 + 1 + 1 + 1 + 1 + 1 from rfl]
    exact (one (99995 + 1 + 1 + 1 + 1) 1 (by omega) (by omega)).trans ((one (99995 + 1 + 1 + 1) 2 (by omega) (by omega)).trans ((one (99995 + 1 + 1) 3 (by omega) (by omega)).trans ((one (99995 + 1) 4 (by omega) (by omega)).trans (last 99995))))
  have e1 : Rt Pg (D (k + 13)) _ _ _ := r_walk (k + 10) w root va 2 true hr hv ⟨by omega, by omega⟩
  have e2 : Rt Pg (D (k + 13)) _ _ _ := r_walk (k + 10) w root va 3 true hr hv ⟨by omega, by omega⟩
  simp only [show ((2 : Nat) : Int) = 2 from rfl] at e1
  simp only [show ((3 : Nat) : Int) = 3 from rfl] at e2
  unfold wkT at e1 e2
  rw [hl]
  simp only [e1.ok, e1.val, e2.ok, e2.val, tO, g1, iO, swaps m root va, beq_self_eq_true, Bool.not_true, cond_true, cond_false]
  rfl
end Go.Proofs.Ytcknhfnbdgleiaa
