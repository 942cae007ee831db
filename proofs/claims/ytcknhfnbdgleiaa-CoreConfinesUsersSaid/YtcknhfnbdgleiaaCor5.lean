/- Parts of a step: what is translated. -/
import Derived.Test.YtcknhfnbdgleiaaCor4
import Derived.Test.YtcknhfnbdgleiaaCot11
set_option linter.unusedVariables false
set_option linter.unusedSimpArgs false
namespace Go.Proofs.Ytcknhfnbdgleiaa
open Go.AE
structure WkOK (x : Wk) : Prop where
 reads : ∀ a ∈ x.reads, a < 4294967296
 few : x.reads.length <= 2
 one : x.set'.length <= 1
 set : ∀ y ∈ x.set', y.ok /\ y.s = 4
 cause : x.cause < 7
theorem Kz (acc : Nat) : cz acc < 7 := by
 unfold cz
 rcases Nat.lt_or_ge acc 5 with h | h
 . obtain rfl | rfl | rfl | rfl | rfl : acc = 0 \/ acc = 1 \/ acc = 2 \/ acc = 3 \/ acc = 4 := by omega
   all_goals decide
 . rw [List.getD_eq_getElem?_getD, List.getElem?_eq_none (by simpa using h)]; decide
theorem BK (m : av) (acc : Nat) (user : Bool) (e page a va : Nat) (reads : List Nat) : (fin m acc user e page a va reads).reads = reads := by
 unfold fin
 cases bE m page
 . rfl
 . cases may e acc user <;> rfl
theorem Vg {m : av} (w : Wm m) (root va acc : Nat) (user : Bool) : ∀ a ∈ (walk m root va acc user).reads, a < 4294967296 := by
 have hl := w.le
 unfold walk
 cases h0 : root == 0 with
 | true => cases decide (va < 128 * m.length) <;> (intro a ha; exact absurd ha (by simp [bad]))
 | false =>
 cases h1 : decide (va < 131072) with
 | false => intro a ha; exact absurd ha (by simp [bad])
 | true =>
 cases h2 : bE m root with
 | false => intro a ha; exact absurd ha (by simp [bad])
 | true =>
 have g := ku h2
 have hv : va < 131072 := by simpa using h1
 have l1 : aJ root va < 4294967296 := by unfold aJ; omega
 have ha : ∀ e : Nat, right m e = true -> hb e 64 = false -> pa e < 8192 := fun e => JO w
 simp only [cond_true, cond_false]
 generalize wo m (aJ root va) = e at *
 have one : ∀ x ∈ [aJ root va], x < 4294967296 := fun x hx => by rw [List.mem_singleton.mp hx]; exact l1
 cases h3 : hb e 1 with
 | false => exact one
 | true =>
 cases h4 : right m e with
 | false => exact one
 | true =>
 cases h5 : hb e 64 with
 | true => simp only [cond_true, BK]; exact one
 | false =>
  have hp := ha e h4 h5
  have two : ∀ x ∈ [aJ root va, at2 e va], x < 4294967296 := fun x hx => by
   rcases List.mem_cons.mp hx with rfl | hx
   . exact l1
   . rw [List.mem_singleton.mp hx]; unfold at2; omega
  simp only [cond_true, cond_false]
  cases hb (wo m (at2 e va)) 1 with
  | false => exact two
  | true =>
   cases hb (wo m (at2 e va)) 64 with
   | true => exact two
   | false => simp only [cond_true, cond_false, BK]; exact two
theorem jw {m : av} (w : Wm m) (root va acc : Nat) (user : Bool) : WkOK (walk m root va acc user) := by
 have hr := Vg w root va acc user
 have hl := w.le
 rcases yJ m root va with ⟨r, h2, h⟩ | ⟨_, _, h⟩ | ⟨e, page, a, reads, f, h⟩
 . rw [h] at hr ⊢; exact ⟨hr, h2, Nat.zero_le _, fun y hy => absurd hy (by simp [bad]), Kz acc⟩
 . rw [h] at hr ⊢; exact ⟨hr, by simp, Nat.zero_le _, fun y hy => absurd hy (by simp), by show 0 < 7; omega⟩
 . have h2 : reads.length <= 2 := by rcases f.how with ⟨e, _⟩ | ⟨e, _⟩ <;> rw [e] <;> simp
   obtain ⟨i1, i2, i3⟩ := f.zm w
   have he : e < 4294967296 := by rw [f.he]; exact oD w a
   rw [h] at hr ⊢
   cases hm : may e acc user with
   | false => rw [hm] at hr; exact ⟨hr, h2, Nat.zero_le _, fun y hy => absurd hy (by simp [bad]), Kz acc⟩
   | true =>
    rw [hm] at hr
    refine ⟨hr, h2, ?_, ?_, by show 0 < 7; omega⟩
    . show (cond (upd e acc == e) [] [_]).length <= 1
      cases upd e acc == e <;> simp
    . intro y hy
      have hy : y ∈ cond (upd e acc == e) [] [⟨a, 4, upd e acc⟩] := hy
      cases hu : upd e acc == e with
      | true => rw [hu] at hy; exact absurd hy (by simp)
      | false =>
       rw [hu, cond_false, List.mem_singleton] at hy
       rw [hy]
       exact ⟨⟨by show a < 4294967296; omega, .inr rfl, JY e acc he⟩, rfl⟩
def bR (m : av) (l : List Wr) : av := l.foldl fE m
def dw (l : List Wr) : List Ac := l.map fun y => ⟨y.a, y.s, true⟩
theorem LQ {m : av} (w : Wm m) {x : Wr} (h : x.ok) : Wm (fE m x) /\ (fE m x).length = m.length := by
 unfold fE
 cases ht : th m x.a x.s with
 | false => exact ⟨w, rfl⟩
 | true => exact ⟨Gv w h ht, qd ..⟩
theorem Kt (k : Nat) {m : av} (w : Wm m) (l : List Wr) (hl : l.length <= 1) (hx : ∀ y ∈ l, y.ok) (ws0 : List Wr) (hws : ws0.length < 100) (acc0 : List Ac) (hacc : acc0.length < 200)
    (i0 i1 i4 : Int) (l1 l2 : List AV) (b0 b1 b2 : Bool) (i5 : Int) (l3 : List AV) (i6 : Int) (l4 l5 : List AV) (b3 b4 : Bool) (i7 i8 i9 : Int) (l7 l8 : List AV) (b5 b6 b7 : Bool) (i10 i11 i12 i13 i14 i15 i16 i17 i18 : Int) (l11 l12 : List AV) :
    vG (D (k + 2)) i0 i1 (l.map wv) ((l.length : Nat) : Int) i4 l1 l2 b0 b1 b2 i5 l3 i6 l4 l5 b3 b4 i7 i8 i9 l7 l8 b5 b6 b7 i10 i11 i12 i13 i14 i15 i16 i17 i18 l11 l12 100000 0 (m.map pg) (ws0.map wv) (acc0.map bI) = R3 (bR m l) (ws0 ++ l) (acc0 ++ dw l) := by
 unfold vG
 match l, hl with
 | [], _ =>
  rw [show (100000 : Nat) = 99999 + 1 from rfl, fM]
  simp only [ql, Aw, Tr.eval, List.length_nil, show decide ((0 : Int) < ((0 : Nat) : Int)) = false from rfl, cond_false, bR, dw, List.foldl_nil, List.map_nil, List.append_nil]
  rfl
 | [y], _ =>
  have hy := hx y (List.mem_singleton.mpr rfl)
  have hs := fun i3 l0 l1 b0 b1 b2 i4 l2 i5 l3 l4 b3 b4 i6 i7 i8 l6 l7 b5 b6 b7 i9 i10 i11 i12 i13 i14 i15 i16 i17 l10 l11 i18 i19 i20 =>
   YB k w y hy ws0 (by omega) acc0 (by omega) i3 l0 l1 b0 b1 b2 i4 l2 i5 l3 l4 b3 b4 i6 i7 i8 l6 l7 b5 b6 b7 i9 i10 i11 i12 i13 i14 i15 i16 i17 l10 l11 i18 i19 i20
  rw [show (100000 : Nat) = 99998 + 1 + 1 from rfl, fM]
  simp only [ql, Aw, Tr.eval, List.length_singleton, show decide ((0 : Int) < ((1 : Nat) : Int)) = true from rfl, cond_true, List.map_cons, List.map_nil, show (0 : Int).toNat = 0 from rfl, g0, g1, g2, pO, iO, hs, show aH 0 1 = true from rfl]
  unfold R3
  simp only [show ((1 : Nat) == 1) = true from rfl, cond_true]
  rw [fM]
  simp only [ql, Aw, Tr.eval, show decide (IntKind.i64.wrap ((0 : Int) + 1) < ((1 : Nat) : Int)) = false from rfl, cond_false, bR, dw, List.foldl_cons, List.foldl_nil, List.map_cons, List.map_nil]
  rfl
end Go.Proofs.Ytcknhfnbdgleiaa
