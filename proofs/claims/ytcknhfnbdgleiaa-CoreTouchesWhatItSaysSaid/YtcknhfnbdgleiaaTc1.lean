/- A step depends on what it touches alone. -/
import Derived.Test.YtcknhfnbdgleiaaKv0
set_option linter.unusedVariables false
set_option linter.unusedSimpArgs false
namespace Go.Proofs.Ytcknhfnbdgleiaa
open Go.AE
structure Ag (A : Nat -> Prop) (m m' : aA) : Prop where
 len : m'.length = m.length
 bt : ∀ x, A x -> bt m' x = bt m x
def On (A : Nat -> Prop) (a s : Nat) : Prop := ∀ x, a <= x -> x < a + s -> A x
def bL (A : Nat -> Prop) (l : List Ac) : Prop := ∀ a ∈ l, On A a.a a.s
theorem bL.app {A : Nat -> Prop} {l l' : List Ac} (h : bL A (l ++ l')) : bL A l := fun a ha => h a (List.mem_append.mpr (.inl ha))
theorem bL.app' {A : Nat -> Prop} {l l' : List Ac} (h : bL A (l ++ l')) : bL A l' := fun a ha => h a (List.mem_append.mpr (.inr ha))
theorem JK {A : Nat -> Prop} {m m' : aA} (h : Ag A m m') {a : Nat} (ha : On A a 4) : wd m' a = wd m a := by
 unfold wd
 rw [h.bt a (ha a (by omega) (by omega)), h.bt (a + 1) (ha _ (by omega) (by omega)), h.bt (a + 2) (ha _ (by omega) (by omega)), h.bt (a + 3) (ha _ (by omega) (by omega))]
theorem NZ {A : Nat -> Prop} {m m' : aA} (h : Ag A m m') {a : Nat} (ha : On A a 4) : wo m' a = wo m a := by
 unfold wo
 rw [pU h.len]
 show cond _ (wd m' a) 0 = cond _ (wd m a) 0
 rw [JK h ha]
theorem IK {A : Nat -> Prop} {m m' : aA} (h : Ag A m m') {a s : Nat} (hs : s = 1 \/ s = 4) (ha : On A a s) : eO m' a s = eO m a s := by
 unfold eO
 rw [pU h.len]
 rcases hs with rfl | rfl
 . show cond _ (bt m' a) 0 = cond _ (bt m a) 0
   rw [h.bt a (ha a (by omega) (by omega))]
 . show cond _ (wd m' a) 0 = cond _ (wd m a) 0
   rw [JK h ha]
theorem QA {A : Nat -> Prop} {m m' : aA} (h : Ag A m m') (w : Wm m) (w' : Wm m') {x : Wr} (hx : x.ok) : Ag A (fG m x) (fG m' x) := by
 unfold fG
 rw [pU h.len]
 cases ht : th m x.a x.s with
 | false => exact h
 | true =>
  obtain ⟨h1, h2, _⟩ := ze hx ht
  refine ⟨by show (st m' _ _).length = (st m _ _).length; rw [lV, lV, h.len], fun y hy => ?_⟩
  show bt (st m' _ _) y = bt (st m _ _) y
  rw [D6 w h1 h2, D6 w' (by rw [h.len]; exact h1) h2, h.bt y hy]
theorem I9 {A : Nat -> Prop} : ∀ (l : List Wr) {m m' : aA}, Ag A m m' -> Wm m -> Wm m' -> (∀ y ∈ l, y.ok) -> Ag A (bS m l) (bS m' l)
 | [], m, m', h, _, _, _ => h
 | x :: l, m, m', h, w, w', hl => by
  have hx := hl x (List.mem_cons_self ..)
  exact I9 l (QA h w w' hx) (AJ w hx).1 (AJ w' hx).1 (fun y hy => hl y (List.mem_cons_of_mem _ hy))
theorem L6 {m m' : aA} (h : m'.length = m.length) (acc : Nat) (user : Bool) (e page a va : Nat) (reads : List Nat) : fin m' acc user e page a va reads = fin m acc user e page a va reads := by
 unfold fin; rw [Di h]
theorem Lc {A : Nat -> Prop} {m m' : aA} (h : Ag A m m') {root va acc : Nat} {user : Bool} (hr : ∀ r ∈ (walk m root va acc user).reads, On A r 4) : walk m' root va acc user = walk m root va acc user := by
 have hl := h.len
 unfold walk at hr ⊢
 rw [hl, Di hl]
 cases h0 : root == 0 with
 | true => rfl
 | false =>
 cases h1 : decide (va < 131072) with
 | false => rfl
 | true =>
 cases h2 : dx m root with
 | false => rfl
 | true =>
 rw [h0, h1, h2] at hr
 simp only [cond_true, cond_false] at hr ⊢
 have m1 : aI root va ∈ (cond (hb (wo m (aI root va)) 1) (cond (right m (wo m (aI root va)))
       (cond (hb (wo m (aI root va)) 64) (fin m acc user (wo m (aI root va)) (lu (wo m (aI root va)) va) (aI root va) va [aI root va])
        (cond (hb (wo m (at2 (wo m (aI root va)) va)) 1) (cond (hb (wo m (at2 (wo m (aI root va)) va)) 64) (bad acc [aI root va, at2 (wo m (aI root va)) va])
         (fin m acc user (wo m (at2 (wo m (aI root va)) va)) (pa (wo m (at2 (wo m (aI root va)) va))) (at2 (wo m (aI root va)) va) va [aI root va, at2 (wo m (aI root va)) va])) (bad acc [aI root va, at2 (wo m (aI root va)) va])))
       (bad acc [aI root va])) (bad acc [aI root va])).reads := by
  cases hb (wo m (aI root va)) 1
  . exact List.mem_cons_self ..
  cases right m (wo m (aI root va))
  . exact List.mem_cons_self ..
  cases hb (wo m (aI root va)) 64
  . simp only [cond_true, cond_false]
    cases hb (wo m (at2 (wo m (aI root va)) va)) 1
    . exact List.mem_cons_self ..
    cases hb (wo m (at2 (wo m (aI root va)) va)) 64
    . simp only [cond_true, cond_false, qy]; exact List.mem_cons_self ..
    . exact List.mem_cons_self ..
  . simp only [cond_true, qy]; exact List.mem_cons_self ..
 have e1 := NZ h (hr _ m1)
 rw [e1]
 generalize wo m (aI root va) = e at *
 cases h3 : hb e 1 with
 | false => rfl
 | true =>
 rw [OA hl]
 cases h4 : right m e with
 | false => rfl
 | true =>
 cases h5 : hb e 64 with
 | true => simp only [cond_true, L6 hl]
 | false =>
 rw [h3, h4, h5] at hr
 simp only [cond_true, cond_false] at hr ⊢
 have m2 : at2 e va ∈ (cond (hb (wo m (at2 e va)) 1) (cond (hb (wo m (at2 e va)) 64) (bad acc [aI root va, at2 e va])
           (fin m acc user (wo m (at2 e va)) (pa (wo m (at2 e va))) (at2 e va) va [aI root va, at2 e va])) (bad acc [aI root va, at2 e va])).reads := by
  have hm : at2 e va ∈ [aI root va, at2 e va] := List.mem_cons_of_mem _ (List.mem_cons_self ..)
  cases hb (wo m (at2 e va)) 1
  . exact hm
  cases hb (wo m (at2 e va)) 64
  . simp only [cond_true, cond_false, qy]; exact hm
  . exact hm
 rw [NZ h (hr _ m2)]
 simp only [L6 hl]
structure Ap (A : Nat -> Prop) (p p' : Pt') : Prop where
 ag : Ag A p.m p'.m
 ws : p'.ws = p.ws
 ac : p'.ac = p.ac
 w : Wm p.m
 w' : Wm p'.m
theorem Ap.tr {A : Nat -> Prop} {p p' : Pt'} (h : Ap A p p') {x : Wk} (ok : WkOK x) : Ap A (dH p x) (dH p' x) := by
 have hx := fun y hy => (ok.set y hy).1
 refine ⟨I9 _ h.ag h.w h.w' hx, ?_, ?_, (mR _ h.w hx).1, (mR _ h.w' hx).1⟩
 . show p'.ws ++ _ = p.ws ++ _; rw [h.ws]
 . show bB p'.ac _ ++ _ = bB p.ac _ ++ _; rw [h.ac]
theorem Ap.rd {A : Nat -> Prop} {p p' : Pt'} (h : Ap A p p') (a s : Nat) : Ap A (jf p a s) (jf p' a s) := ⟨h.ag, h.ws, by show p'.ac ++ _ = p.ac ++ _; rw [h.ac], h.w, h.w'⟩
theorem uj {c : Cp} {p p' : Pt'} (h1 : p'.ws = p.ws) (h2 : p'.ac = p.ac) (w cause value epc : Nat) : fell c p' w cause value epc = fell c p w cause value epc := by unfold fell; rw [h1, h2]
theorem zO {c : Cp} {p p' : Pt'} (h1 : p'.ws = p.ws) (h2 : p'.ac = p.ac) (w : Nat) (x : Cp) : fine c p' w x = fine c p w x := by unfold fine; rw [h1, h2]
theorem Vu {c : Cp} {p p' : Pt'} (h1 : p'.ws = p.ws) (h2 : p'.ac = p.ac) (w : Nat) (i : In) (q : Nat) : lN c p' w i q = lN c p w i q := by
 unfold lN
 simp only [uj h1 h2, zO h1 h2]
theorem VO (c : Cp) (p : Pt') (w : Nat) (i : In) (q : Nat) : (lN c p w i q).ac = p.ac := by
 unfold lN
 dsimp only
 repeat' split
 all_goals rfl
theorem LK {A : Nat -> Prop} {ac : List Ac} {l : List Nat} (h : bL A (bB ac l)) : ∀ r ∈ l, On A r 4 := fun r hr => h ⟨r, 4, false⟩ (List.mem_append.mpr (.inr (List.mem_map.mpr ⟨r, hr, rfl⟩)))
theorem WM {A : Nat -> Prop} {c : Cp} {q : Pt'} {w : Nat} {i : In} {kind size : Nat} (h : bL A (kE c q w i kind size).ac) : bL A q.ac := by
 unfold kE at h
 dsimp only at h
 have ht : ∀ W, bL A (dH q W).ac -> bL A q.ac := fun W h => bL.app (bL.app (show bL A ((q.ac ++ _) ++ cZ W.set') from h))
 split at h
 . exact h
 . split at h
   . exact ht _ h
   . split at h
     . exact ht _ (bL.app h)
     . split at h
       . exact ht _ (bL.app h)
       . exact ht _ (bL.app (bL.app h))
theorem WT {A : Nat -> Prop} {c : Cp} {q q' : Pt'} (hq : Ap A q q') {w : Nat} {i : In} {kind size : Nat} (hs : size = 1 \/ size = 4) (h : bL A (kE c q w i kind size).ac) : kE c q' w i kind size = kE c q w i kind size := by
 have hW : bE c.r i % size = 0 -> fQ q' c.c c.user (bE c.r i) kind = fQ q c.c c.user (bE c.r i) kind := fun g1 => by
  refine Lc hq.ag (LK (ac := q.ac) ?_)
  unfold kE at h
  dsimp only at h
  rw [if_neg (fun hh => hh g1)] at h
  have ht : ∀ W, bL A (dH q W).ac -> bL A (bB q.ac W.reads) := fun W h => bL.app (show bL A (bB q.ac W.reads ++ cZ W.set') from h)
  split at h
  . exact ht _ h
  . split at h
    . exact ht _ (bL.app h)
    . split at h
      . exact ht _ (bL.app h)
      . exact ht _ (bL.app (bL.app h))
 have ok := jh hq.w (ru c.c 0) (bE c.r i) kind c.user
 unfold kE at h ⊢
 dsimp only at h ⊢
 by_cases g1 : bE c.r i % size = 0
 . have n1 : ¬ (bE c.r i % size ≠ 0) := fun hh => hh g1
   rw [if_neg n1, if_neg n1]
   rw [if_neg n1] at h
   rw [hW g1]
   have p1 : Ap A (dH q (fQ q c.c c.user (bE c.r i) kind)) (dH q' (fQ q c.c c.user (bE c.r i) kind)) := hq.tr ok
   generalize fQ q c.c c.user (bE c.r i) kind = W at *
   by_cases g2 : W.cause = 0
   . have n2 : ¬ (W.cause ≠ 0) := fun hh => hh g2
     rw [if_neg n2, if_neg n2]
     rw [if_neg n2] at h
     by_cases g3 : kind = 2
     . rw [if_pos g3, if_pos g3]
       exact zO (by show (dH q' W).ws ++ _ = (dH q W).ws ++ _; rw [p1.ws]) (by show (dH q' W).ac ++ _ = (dH q W).ac ++ _; rw [p1.ac]) _ _
     . rw [if_neg g3, if_neg g3]
       rw [if_neg g3] at h
       have hld : On A W.at'.toNat size -> eO (dH q' W).m W.at'.toNat size = eO (dH q W).m W.at'.toNat size := fun ho => IK p1.ag hs ho
       by_cases g4 : kind = 1
       . rw [if_pos g4, if_pos g4]
         rw [if_pos g4] at h
         rw [hld (bL.app' (show bL A ((dH q W).ac ++ [⟨W.at'.toNat, size, false⟩]) from h) ⟨W.at'.toNat, size, false⟩ (List.mem_cons_self ..))]
         exact zO (p1.rd _ _).ws (p1.rd _ _).ac _ _
       . rw [if_neg g4, if_neg g4]
         rw [if_neg g4] at h
         have h' : bL A ((dH q W).ac ++ [⟨W.at'.toNat, size, false⟩]) := bL.app h
         rw [hld (bL.app' h' ⟨W.at'.toNat, size, false⟩ (List.mem_cons_self ..))]
         exact zO (by show (dH q' W).ws ++ _ = (dH q W).ws ++ _; rw [p1.ws]) (by show (jf (dH q' W) _ _).ac ++ _ = (jf (dH q W) _ _).ac ++ _; rw [(p1.rd _ _).ac]) _ _
   . rw [if_pos g2, if_pos g2]; exact uj p1.ws p1.ac _ _ _ _
 . rw [if_pos g1, if_pos g1]; exact uj hq.ws hq.ac _ _ _ _
theorem Y4 {A : Nat -> Prop} {c : Cp} {m m' : aA} (wm : Wm m) (wm' : Wm m') (h : Ag A m m') (p : Nat) (hA : bL A (dG c m p).ac) : dG c m' p = dG c m p := by
 unfold dG at hA ⊢
 by_cases hr : nQ c p = false
 . rw [if_pos hr, if_pos hr]
 rw [if_neg hr] at hA
 rw [if_neg hr, if_neg hr]
 cases hd : due c p with
 | some n => rfl
 | none =>
 rw [hd] at hA
 dsimp only at hA ⊢
 by_cases h4 : c.pc % 4 = 0
 . have n4 : ¬ (c.pc % 4 ≠ 0) := fun hh => hh h4
   rw [if_neg n4] at hA
   rw [if_neg n4, if_neg n4]
   have ok := jh wm (ru c.c 0) c.pc 4 c.user
   have a0 : Ap A ⟨m, [], []⟩ ⟨m', [], []⟩ := ⟨h, rfl, rfl, wm, wm'⟩
   have hW : bL A (jk m c.c c.pc c.user).ac -> bH m' c.c c.pc c.user = bH m c.c c.pc c.user /\ Ap A (jk m c.c c.pc c.user) (jk m' c.c c.pc c.user) := fun ho => by
    have e : bH m' c.c c.pc c.user = bH m c.c c.pc c.user := Lc h (LK (ac := []) (bL.app (show bL A (bB [] (bH m c.c c.pc c.user).reads ++ cZ (bH m c.c c.pc c.user).set') from ho)))
    refine ⟨e, ?_⟩
    have := a0.tr ok
    unfold jk
    rw [e]
    exact this
   by_cases h5 : (bH m c.c c.pc c.user).cause = 0
   . have n5 : ¬ ((bH m c.c c.pc c.user).cause ≠ 0) := fun hh => hh h5
     rw [if_neg n5] at hA
     have hq : bL A (dZ m c.c c.pc c.user).ac := by
      split at hA
      . exact hA
      . split at hA
        . exact WM hA
        . rw [VO] at hA; exact hA
     obtain ⟨e1, a1⟩ := hW (bL.app (show bL A ((jk m c.c c.pc c.user).ac ++ [⟨(bH m c.c c.pc c.user).at'.toNat, 4, false⟩]) from hq))
     have a2 : Ap A (dZ m c.c c.pc c.user) (dZ m' c.c c.pc c.user) := by
      have := a1.rd (bH m c.c c.pc c.user).at'.toNat 4
      unfold dZ
      rw [e1]
      exact this
     have ew : word m' c.c c.pc c.user = word m c.c c.pc c.user := by
      unfold word
      rw [e1]
      exact IK a1.ag (.inr rfl) (bL.app' (show bL A ((jk m c.c c.pc c.user).ac ++ [⟨(bH m c.c c.pc c.user).at'.toNat, 4, false⟩]) from hq) ⟨(bH m c.c c.pc c.user).at'.toNat, 4, false⟩ (List.mem_cons_self ..))
     have el : legal m' c.c c.pc c.user = legal m c.c c.pc c.user := by unfold legal; rw [ew]
     rw [e1, if_neg n5, if_neg n5, el, ew]
     by_cases h6 : legal m c.c c.pc c.user = false
     . rw [if_pos h6, if_pos h6]; exact uj a2.ws a2.ac _ _ _ _
     . rw [if_neg h6] at hA
       rw [if_neg h6, if_neg h6]
       have hk := Io (bW (word m c.c c.pc c.user)).op
       by_cases hk0 : (fB (bW (word m c.c c.pc c.user)).op).1 = 0
       . have nk : ¬ ((fB (bW (word m c.c c.pc c.user)).op).1 ≠ 0) := fun hh => hh hk0
         rw [if_neg nk, if_neg nk]; exact Vu a2.ws a2.ac _ _ _
       . rw [if_pos hk0] at hA
         rw [if_pos hk0, if_pos hk0]; exact WT a2 (hk.2 hk0) hA
   . rw [if_pos h5] at hA
     obtain ⟨e1, a1⟩ := hW hA
     rw [e1, if_pos h5, if_pos h5]; exact uj a1.ws a1.ac _ _ _ _
 . rw [if_pos h4, if_pos h4]; exact uj rfl rfl _ _ _ _
end Go.Proofs.Ytcknhfnbdgleiaa
