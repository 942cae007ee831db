/- What a step leaves: its accesses. -/
import Derived.Test.YtcknhfnbdgleiaaCor16
set_option linter.unusedVariables false
set_option linter.unusedSimpArgs false
namespace Go.Proofs.Ytcknhfnbdgleiaa
open Go.AE
theorem QG {m : av} {e : Nat} (h : right m e = true) (h5 : hb e 64 = false) : bE m (pa e) = true := by
 unfold right at h; rw [h5, cond_false, uq, Bool.and_eq_true] at h; exact h.2
theorem VF {m : av} {root va : Nat} (h : bE m root = true) (hv : va < 131072) : th m (aJ root va) 4 = true := (Ba h (o := va / 4096) (by omega)).1
theorem Rn {m : av} {e va : Nat} (h : bE m (pa e) = true) : th m (at2 e va) 4 = true := by
 unfold at2; rw [Nat.mul_comm]; exact (Ba h (o := va / 128 % 32) (by omega)).1
theorem Xn {m : av} (w : Wm m) (root va acc : Nat) (user : Bool) : ∀ a ∈ (walk m root va acc user).reads, th m a 4 = true := by
 unfold walk
 cases h0 : root == 0 with
 | true => cases decide (va < 128 * m.length) <;> (intro a ha; exact absurd ha (by simp [bad]))
 | false =>
 cases h1 : decide (va < 131072) with
 | false => intro a ha; exact absurd ha (by simp [bad])
 | true =>
 cases h2 : bE m root with
 | false => intro a ha; exact absurd ha (by simp [bad])
 | true =>
 have hv : va < 131072 := by simpa using h1
 have l1 := VF h2 hv
 simp only [cond_true, cond_false]
 generalize wo m (aJ root va) = e at *
 have one : ∀ x ∈ [aJ root va], th m x 4 = true := fun x hx => by rw [List.mem_singleton.mp hx]; exact l1
 cases h3 : hb e 1 with
 | false => exact one
 | true =>
 cases h4 : right m e with
 | false => exact one
 | true =>
 cases h5 : hb e 64 with
 | true => simp only [cond_true, BK]; exact one
 | false =>
  have l2 : th m (at2 e va) 4 = true := Rn (QG h4 h5)
  have two : ∀ x ∈ [aJ root va, at2 e va], th m x 4 = true := fun x hx => by
   rcases List.mem_cons.mp hx with rfl | hx
   . exact l1
   . rw [List.mem_singleton.mp hx]; exact l2
  simp only [cond_true, cond_false]
  cases hb (wo m (at2 e va)) 1 with
  | false => exact two
  | true =>
   cases hb (wo m (at2 e va)) 64 with
   | true => exact two
   | false => simp only [cond_true, cond_false, BK]; exact two
theorem LB {m : av} (w : Wm m) (root va acc : Nat) (user : Bool) : ∀ y ∈ (walk m root va acc user).set', th m y.a 4 = true /\ y.a ∈ (walk m root va acc user).reads := by
 rcases yJ m root va with ⟨r, h2, h⟩ | ⟨_, _, h⟩ | ⟨e, page, a, reads, f, h⟩
 . rw [h]; exact fun y hy => absurd hy (by simp [bad])
 . rw [h]; exact fun y hy => absurd hy (by simp)
 . rw [h]
   have ha : a ∈ reads := by rcases f.how with ⟨e, _⟩ | ⟨e, _⟩ <;> rw [e] <;> simp
   cases hm : may e acc user with
   | false => exact fun y hy => absurd hy (by simp [bad])
   | true =>
    intro y hy
    have hy : y ∈ cond (upd e acc == e) [] [⟨a, 4, upd e acc⟩] := hy
    cases hu : upd e acc == e with
    | true => rw [hu] at hy; exact absurd hy (by simp)
    | false =>
     rw [hu, cond_false, List.mem_singleton] at hy
     rw [hy]
     exact ⟨(f.zm w).1, ha⟩
structure Pk (m : av) (p : Pt') (nw na : Nat) : Prop where
 w : Wm p.m
 len : p.m.length = m.length
 bR : p.m = bR m p.ws
 ws : ∀ y ∈ p.ws, y.ok /\ th m y.a y.s = true
 ac : ∀ a ∈ p.ac, th m a.a a.s = true /\ (a.s = 1 \/ a.s = 4)
 st : (p.ac.filter (·.st)).map (fun a => (a.a, a.s)) = p.ws.map (fun y => (y.a, y.s))
 nw : p.ws.length <= nw
 na : p.ac.length <= na
theorem Eb {m : av} (w : Wm m) : Pk m ⟨m, [], []⟩ 0 0 := ⟨w, rfl, rfl, by simp, by simp, rfl, by simp, by simp⟩
theorem Pk.mono {m : av} {p : Pt'} {a b c d : Nat} (h : Pk m p a b) (h1 : a <= c) (h2 : b <= d) : Pk m p c d :=
 ⟨h.w, h.len, h.bR, h.ws, h.ac, h.st, Nat.le_trans h.nw h1, Nat.le_trans h.na h2⟩
theorem LA (m : av) (l l' : List Wr) : bR m (l ++ l') = bR (bR m l) l' := List.foldl_append
theorem Pk.tr {m : av} {p : Pt'} {nw na : Nat} (h : Pk m p nw na) (root va acc : Nat) (user : Bool) : Pk m (kI p (walk p.m root va acc user)) (nw + 1) (na + 3) := by
 have ok := jw h.w root va acc user
 have t1 := Xn h.w root va acc user
 have t2 := LB h.w root va acc user
 have s := oV _ h.w (fun y hy => (ok.set y hy).1)
 have few := ok.few
 have one := ok.one
 have hnw := h.nw
 have hna := h.na
 generalize walk p.m root va acc user = x at *
 refine ⟨s.1, s.2.trans h.len, ?_, ?_, ?_, ?_, ?_, ?_⟩
 . show _root_.Go.Proofs.Ytcknhfnbdgleiaa.bR p.m x.set' = _root_.Go.Proofs.Ytcknhfnbdgleiaa.bR m (p.ws ++ x.set')
   rw [LA, <- h.bR]
 . intro y hy
   rcases List.mem_append.mp hy with hy | hy
   . exact h.ws y hy
   . refine ⟨(ok.set y hy).1, ?_⟩
     rw [(ok.set y hy).2, <- uS h.len]; exact (t2 y hy).1
 . intro a ha
   have ha : a ∈ bB p.ac x.reads ++ dw x.set' := ha
   unfold bB dw at ha
   rcases List.mem_append.mp ha with ha | ha
   . rcases List.mem_append.mp ha with ha | ha
     . exact h.ac a ha
     . obtain ⟨n, hn, rfl⟩ := List.mem_map.mp ha
       exact ⟨by rw [<- uS h.len]; exact t1 n hn, .inr rfl⟩
   . obtain ⟨y, hy, rfl⟩ := List.mem_map.mp ha
     refine ⟨?_, (ok.set y hy).1.s⟩
     show th m y.a y.s = true
     rw [(ok.set y hy).2, <- uS h.len]; exact (t2 y hy).1
 . show ((bB p.ac x.reads ++ dw x.set').filter (·.st)).map _ = (p.ws ++ x.set').map _
   unfold bB dw
   rw [List.filter_append, List.filter_append, List.map_append, List.map_append, List.map_append, h.st]
   have e1 : (x.reads.map fun a => (⟨a, 4, false⟩ : Ac)).filter (·.st) = [] := by
    rw [List.filter_eq_nil_iff]; intro a ha
    obtain ⟨n, _, rfl⟩ := List.mem_map.mp ha; simp
   have e2 : (x.set'.map fun y => (⟨y.a, y.s, true⟩ : Ac)).filter (·.st) = x.set'.map fun y => (⟨y.a, y.s, true⟩ : Ac) := by
    rw [List.filter_eq_self]; intro a ha
    obtain ⟨n, _, rfl⟩ := List.mem_map.mp ha; rfl
   rw [e1, e2, List.map_map, List.map_nil, List.append_nil]
   rfl
 . show (p.ws ++ x.set').length <= _
   rw [List.length_append]; omega
 . show (bB p.ac x.reads ++ dw x.set').length <= _
   unfold bB dw
   simp only [List.length_append, List.length_map]; omega
theorem Pk.rd {m : av} {p : Pt'} {nw na : Nat} (h : Pk m p nw na) {a s : Nat} (ht : th m a s = true) (hs : s = 1 \/ s = 4) : Pk m (kG p a s) nw (na + 1) := by
 have := h.na
 refine ⟨h.w, h.len, h.bR, h.ws, ?_, ?_, h.nw, ?_⟩
 . intro x hx
   have hx : x ∈ p.ac ++ [⟨a, s, false⟩] := hx
   rcases List.mem_append.mp hx with hx | hx
   . exact h.ac x hx
   . rw [List.mem_singleton] at hx; rw [hx]; exact ⟨ht, hs⟩
 . show ((p.ac ++ [(⟨a, s, false⟩ : Ac)]).filter (·.st)).map _ = p.ws.map _
   rw [List.filter_append, List.map_append, h.st]; simp
 . show (p.ac ++ [_]).length <= _
   simp; omega
theorem Pk.fB {m : av} {p : Pt'} {nw na : Nat} (h : Pk m p nw na) {x : Wr} (hx : x.ok) (ht : th m x.a x.s = true) : Pk m (stP p x) (nw + 1) (na + 1) := by
 have := h.na
 have := h.nw
 have s := LQ h.w hx
 refine ⟨s.1, s.2.trans h.len, ?_, ?_, ?_, ?_, ?_, ?_⟩
 . show fE p.m x = _root_.Go.Proofs.Ytcknhfnbdgleiaa.bR m (p.ws ++ [x])
   rw [LA, <- h.bR]; rfl
 . intro y hy
   have hy : y ∈ p.ws ++ [x] := hy
   rcases List.mem_append.mp hy with hy | hy
   . exact h.ws y hy
   . rw [List.mem_singleton.mp hy]; exact ⟨hx, ht⟩
 . intro y hy
   have hy : y ∈ p.ac ++ [⟨x.a, x.s, true⟩] := hy
   rcases List.mem_append.mp hy with hy | hy
   . exact h.ac y hy
   . rw [List.mem_singleton.mp hy]; exact ⟨ht, hx.s⟩
 . show ((p.ac ++ [(⟨x.a, x.s, true⟩ : Ac)]).filter (·.st)).map _ = (p.ws ++ [x]).map _
   rw [List.filter_append, List.map_append, List.map_append, h.st]; simp
 . show (p.ws ++ [_]).length <= _
   simp; omega
 . show (p.ac ++ [_]).length <= _
   simp; omega
theorem NG {m : av} (w : Wm m) {root va acc : Nat} {user : Bool} (ha : 1 <= acc /\ acc <= 4) (h0 : (walk m root va acc user).cause = 0) {s : Nat} (hs : s = 1 \/ s = 4) (hv : va % s = 0) :
    th m (walk m root va acc user).at'.toNat s = true /\ (walk m root va acc user).at'.toNat < 4294967296 := by
 obtain ⟨n, hn, h1, h2⟩ := DT w root va acc user ha h0
 have := w.le
 rw [hn, Int.toNat_natCast]
 unfold th
 have e : n % s = 0 := by rcases hs with rfl | rfl <;> omega
 rw [e, decide_eq_true (by rcases hs with rfl | rfl <;> omega)]
 exact ⟨rfl, by omega⟩
theorem C9 {m : av} (w : Wm m) (c : List Nat) (pc : Nat) (user : Bool) : Pk m (mM m c pc user) 1 3 := (Eb w).tr (ru c 0) pc 4 user
theorem Lj {m : av} (w : Wm m) (c : List Nat) {pc : Nat} (user : Bool) (h0 : (bW m c pc user).cause = 0) (h4 : pc % 4 = 0) : Pk m (eD m c pc user) 1 4 :=
 (C9 w c pc user).rd (NG w (by omega) h0 (.inr rfl) h4).1 (.inr rfl)
theorem word_lt {m : av} (w : Wm m) (c : List Nat) (pc : Nat) (user : Bool) : word m c pc user < 4294967296 := vJ (C9 w c pc user).w _ _
end Go.Proofs.Ytcknhfnbdgleiaa
