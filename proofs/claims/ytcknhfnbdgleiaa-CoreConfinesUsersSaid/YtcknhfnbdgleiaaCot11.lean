/- What a walk is. -/
import Derived.Test.YtcknhfnbdgleiaaCot10
set_option linter.unusedVariables false
set_option linter.unusedSimpArgs false
namespace Go.Proofs.Ytcknhfnbdgleiaa
open Go.AE
structure Fd (m : av) (root va e page a : Nat) (reads : List Nat) : Prop where
 r0 : root ≠ 0
 hv : va < 131072
 hr : bE m root = true
 he : e = wo m a
 hp : bE m page = true
 how : (reads = [a] /\ a = aJ root va /\ hb e 1 = true /\ right m e = true /\ hb e 64 = true /\ page = jG e va) \/
  (reads = [aJ root va, a] /\ hb (wo m (aJ root va)) 1 = true /\ right m (wo m (aJ root va)) = true /\ hb (wo m (aJ root va)) 64 = false /\ a = at2 (wo m (aJ root va)) va /\ hb e 1 = true /\ hb e 64 = false /\ page = pa e)
def good (e page a va acc : Nat) (reads : List Nat) : Wk := ⟨((page + va % 128 : Nat) : Int), (a : Int), cond (upd e acc == e) [] [⟨a, 4, upd e acc⟩], reads, 0⟩
theorem yJ (m : av) (root va : Nat) : (∃ r : List Nat, r.length <= 2 /\ ∀ acc user, walk m root va acc user = bad acc r) \/ (root = 0 /\ va < 128 * m.length /\ ∀ acc user, walk m root va acc user = ⟨(va : Int), -1, [], [], 0⟩) \/
    (∃ e page a reads, Fd m root va e page a reads /\ ∀ acc user, walk m root va acc user = cond (may e acc user) (good e page a va acc reads) (bad acc reads)) := by
 have key : ∀ e page a reads, reads.length <= 2 -> root ≠ 0 -> va < 131072 -> bE m root = true -> e = wo m a -> ((reads = [a] /\ a = aJ root va /\ hb e 1 = true /\ right m e = true /\ hb e 64 = true /\ page = jG e va) \/
     (reads = [aJ root va, a] /\ hb (wo m (aJ root va)) 1 = true /\ right m (wo m (aJ root va)) = true /\ hb (wo m (aJ root va)) 64 = false /\ a = at2 (wo m (aJ root va)) va /\ hb e 1 = true /\ hb e 64 = false /\ page = pa e)) ->
     (∀ acc user, walk m root va acc user = fin m acc user e page a va reads) -> (∃ r : List Nat, r.length <= 2 /\ ∀ acc user, walk m root va acc user = bad acc r) \/ (root = 0 /\ va < 128 * m.length /\ ∀ acc user, walk m root va acc user = ⟨(va : Int), -1, [], [], 0⟩) \/
  (∃ e page a reads, Fd m root va e page a reads /\ ∀ acc user, walk m root va acc user = cond (may e acc user) (good e page a va acc reads) (bad acc reads)) := by
  intro e page a reads hl h0 h1 h2 h3 h4 h5
  cases hpg : bE m page with
  | false => exact .inl ⟨reads, hl, fun acc user => by rw [h5, fin, hpg]; rfl⟩
  | true => exact .inr (.inr ⟨e, page, a, reads, ⟨h0, h1, h2, h3, hpg, h4⟩, fun acc user => by rw [h5, fin, hpg]; rfl⟩)
 cases h0 : root == 0 with
 | true =>
  cases h1 : decide (va < 128 * m.length) with
  | true => exact .inr (.inl ⟨by simpa using h0, by simpa using h1, fun acc user => by unfold walk; rw [h0, h1]; rfl⟩)
  | false => exact .inl ⟨[], by simp, fun acc user => by unfold walk; rw [h0, h1]; rfl⟩
 | false =>
 have h0' : root ≠ 0 := by simpa using h0
 cases h1 : decide (va < 131072) with
 | false => exact .inl ⟨[], by simp, fun acc user => by unfold walk; rw [h0, h1]; rfl⟩
 | true =>
 have h1' : va < 131072 := by simpa using h1
 cases h2 : bE m root with
 | false => exact .inl ⟨[], by simp, fun acc user => by unfold walk; rw [h0, h1, h2]; rfl⟩
 | true =>
 cases h3 : hb (wo m (aJ root va)) 1 with
 | false => exact .inl ⟨[aJ root va], by simp, fun acc user => by unfold walk; rw [h0, h1, h2, h3]; rfl⟩
 | true =>
 cases h4 : right m (wo m (aJ root va)) with
 | false => exact .inl ⟨[aJ root va], by simp, fun acc user => by unfold walk; rw [h0, h1, h2, h3, h4]; rfl⟩
 | true =>
 cases h5 : hb (wo m (aJ root va)) 64 with
 | true => exact key _ _ _ [aJ root va] (by simp) h0' h1' h2 rfl (.inl ⟨rfl, rfl, h3, h4, h5, rfl⟩) (fun acc user => by unfold walk; rw [h0, h1, h2, h3, h4, h5]; rfl)
 | false =>
 cases h6 : hb (wo m (at2 (wo m (aJ root va)) va)) 1 with
 | false => exact .inl ⟨[aJ root va, at2 (wo m (aJ root va)) va], by simp, fun acc user => by unfold walk; rw [h0, h1, h2, h3, h4, h5, h6]; rfl⟩
 | true =>
 cases h7 : hb (wo m (at2 (wo m (aJ root va)) va)) 64 with
 | true => exact .inl ⟨[aJ root va, at2 (wo m (aJ root va)) va], by simp, fun acc user => by unfold walk; rw [h0, h1, h2, h3, h4, h5, h6, h7]; rfl⟩
 | false => exact key _ _ _ [aJ root va, at2 (wo m (aJ root va)) va] (by simp) h0' h1' h2 rfl (.inr ⟨rfl, h3, h4, h5, rfl, h6, h7, rfl⟩) (fun acc user => by unfold walk; rw [h0, h1, h2, h3, h4, h5, h6, h7]; rfl)
theorem DZ {m m' : av} (h : m'.length = m.length) (x : Nat) : bE m' x = bE m x := by unfold bE; rw [h]
theorem uS {m m' : av} (h : m'.length = m.length) (x s : Nat) : th m' x s = th m x s := by unfold th; rw [h]
theorem Ve {m m' : av} (h : m'.length = m.length) (x : Nat) : right m' x = right m x := by unfold right; rw [DZ h]
theorem Ba {m : av} {p o : Nat} (hp : bE m p = true) (ho : o < 32) : th m (p + 4 * o) 4 = true /\ (p + 4 * o) / 128 < m.length /\ (p + 4 * o) % 4 = 0 := by
 have g := ku hp
 have : (p + 4 * o) % 4 = 0 := by omega
 refine ⟨?_, by omega, this⟩
 unfold th; rw [this, decide_eq_true (by omega)]; rfl
theorem Fd.zm {m : av} (w : Wm m) {root va e page a : Nat} {reads : List Nat} (f : Fd m root va e page a reads) : th m a 4 = true /\ a / 128 < m.length /\ a % 4 = 0 := by
 rcases f.how with ⟨_, h, _⟩ | ⟨_, _, h1, h2, h, _⟩
 . rw [h, aJ]; exact Ba f.hr (by have := f.hv; omega)
 . rw [h, at2, Nat.mul_comm]
   have : bE m (pa (wo m (aJ root va))) = true := by
    unfold right at h1; rw [h2, cond_false, uq, Bool.and_eq_true] at h1; exact h1.2
   exact Ba this (by omega)
end Go.Proofs.Ytcknhfnbdgleiaa
