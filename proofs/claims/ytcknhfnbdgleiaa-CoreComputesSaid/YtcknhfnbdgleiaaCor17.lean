/- What a step leaves: its accesses. -/
import Derived.Test.YtcknhfnbdgleiaaCor16
set_option linter.unusedVariables false
set_option linter.unusedSimpArgs false
namespace Go.Proofs.Ytcknhfnbdgleiaa
open Go.AE

/-- What has been done is in the memory. -/
structure Pk (m : Pgs) (p : Pt') (nw na : Nat) : Prop where
 w : Wm p.m
 len : p.m.length = m.length
 sts : p.m = sts m p.ws
 ws : ∀ y ∈ p.ws, y.ok ∧ th m y.a y.s = true
 ac : ∀ a ∈ p.ac, th m a.a a.s = true ∧ (a.s = 1 ∨ a.s = 4)
 st : (p.ac.filter (·.st)).map (fun a => (a.a, a.s)) = p.ws.map (fun y => (y.a, y.s))
 nw : p.ws.length ≤ nw
 na : p.ac.length ≤ na
theorem Pk.mono {m : Pgs} {p : Pt'} {a b c d : Nat} (h : Pk m p a b) (h1 : a ≤ c) (h2 : b ≤ d) : Pk m p c d :=
 ⟨h.w, h.len, h.sts, h.ws, h.ac, h.st, Nat.le_trans h.nw h1, Nat.le_trans h.na h2⟩
theorem Q9 (m : Pgs) (l l' : List Wr) : sts m (l ++ l') = sts (sts m l) l' := List.foldl_append
theorem Pk.stp {m : Pgs} {p : Pt'} {nw na : Nat} (h : Pk m p nw na) {x : Wr} (hx : x.ok) (ht : th m x.a x.s = true) : Pk m (stP p x) (nw + 1) (na + 1) := by
 have := h.na
 have := h.nw
 have s := LU h.w hx
 refine ⟨s.1, s.2.trans h.len, ?_, ?_, ?_, ?_, ?_, ?_⟩
 · show stR p.m x = _root_.Go.Proofs.Ytcknhfnbdgleiaa.sts m (p.ws ++ [x])
   rw [Q9, ← h.sts]; rfl
 · intro y hy
   have hy : y ∈ p.ws ++ [x] := hy
   rcases List.mem_append.mp hy with hy | hy
   · exact h.ws y hy
   · rw [List.mem_singleton.mp hy]; exact ⟨hx, ht⟩
 · intro y hy
   have hy : y ∈ p.ac ++ [⟨x.a, x.s, true⟩] := hy
   rcases List.mem_append.mp hy with hy | hy
   · exact h.ac y hy
   · rw [List.mem_singleton.mp hy]; exact ⟨ht, hx.s⟩
 · show ((p.ac ++ [(⟨x.a, x.s, true⟩ : Ac)]).filter (·.st)).map _ = (p.ws ++ [x]).map _
   rw [List.filter_append, List.map_append, List.map_append, h.st]; simp
 · show (p.ws ++ [_]).length ≤ _
   simp; omega
 · show (p.ac ++ [_]).length ≤ _
   simp; omega
end Go.Proofs.Ytcknhfnbdgleiaa
