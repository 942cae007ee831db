/- Parts of a step: fetch. -/
import Derived.Test.YtcknhfnbdgleiaaCor6
set_option linter.unusedVariables false
set_option linter.unusedSimpArgs false
namespace Go.Proofs.Ytcknhfnbdgleiaa
open Go.AE
theorem BP {acc : Nat} (ha : 1 <= acc /\ acc <= 4) : cz acc ≠ 0 := by
 obtain rfl | rfl | rfl | rfl : acc = 1 \/ acc = 2 \/ acc = 3 \/ acc = 4 := by omega
 all_goals decide
theorem DT {m : av} (w : Wm m) (root va acc : Nat) (user : Bool) (ha : 1 <= acc /\ acc <= 4) (h0 : (walk m root va acc user).cause = 0) :
    ∃ n : Nat, (walk m root va acc user).at' = (n : Int) /\ n < 128 * m.length /\ n % 128 = va % 128 := by
 rcases yJ m root va with ⟨r, h2, h⟩ | ⟨_, hv, h⟩ | ⟨e, page, a, reads, f, h⟩
 . rw [h] at h0; exact absurd h0 (BP ha)
 . rw [h]; exact ⟨va, rfl, hv, rfl⟩
 . rw [h] at h0 ⊢
   cases hm : may e acc user with
   | false => rw [hm] at h0; exact absurd h0 (BP ha)
   | true =>
    have g := ku f.hp
    exact ⟨page + va % 128, rfl, by omega, by omega⟩
theorem oV : ∀ (l : List Wr) {m : av}, Wm m -> (∀ y ∈ l, y.ok) -> Wm (bR m l) /\ (bR m l).length = m.length
 | [], m, w, _ => ⟨w, rfl⟩
 | x :: l, m, w, h => by
  obtain ⟨w1, h1⟩ := LQ w (h x (List.mem_cons_self ..))
  have := oV l w1 (fun y hy => h y (List.mem_cons_of_mem _ hy))
  exact ⟨this.1, by rw [show bR m (x :: l) = bR (fE m x) l from rfl, this.2, h1]⟩
structure Pt' where
 m : av
 ws : List Wr
 ac : List Ac
def kI (p : Pt') (x : Wk) : Pt' := ⟨bR p.m x.set', p.ws ++ x.set', bB p.ac x.reads ++ dw x.set'⟩
def kG (p : Pt') (a s : Nat) : Pt' := ⟨p.m, p.ws, p.ac ++ [⟨a, s, false⟩]⟩
def stP (p : Pt') (x : Wr) : Pt' := ⟨fE p.m x, p.ws ++ [x], p.ac ++ [⟨x.a, x.s, true⟩]⟩
def jL (p : Pt') : List (List AV) := [p.m.map pg, p.ws.map wv, p.ac.map bI]
def bW (m : av) (c : List Nat) (pc : Nat) (user : Bool) : Wk := walk m (ru c 0) pc 4 user
def mM (m : av) (c : List Nat) (pc : Nat) (user : Bool) : Pt' := kI ⟨m, [], []⟩ (bW m c pc user)
def eD (m : av) (c : List Nat) (pc : Nat) (user : Bool) : Pt' := kG (mM m c pc user) (bW m c pc user).at'.toNat 4
def word (m : av) (c : List Nat) (pc : Nat) (user : Bool) : Nat := gG (mM m c pc user).m (bW m c pc user).at'.toNat 4
def legal (m : av) (c : List Nat) (pc : Nat) (user : Bool) : Bool := sO (word m c pc user) && !(user && sS (bN (word m c pc user)).op)
def tJ (i : In) : List Int := [(i.op : Int), (i.a : Int), (i.b : Int), (i.c : Int), i.aG]
def wR (m : av) (c : List Nat) (pc : Nat) (user : Bool) : LO :=
 cond (pc % 4 == 0) (cond ((bW m c pc user).cause == 0)
  (cond (legal m c pc user) ⟨3, (word m c pc user : Int) :: tJ (bN (word m c pc user)), [], jL (eD m c pc user), [], [], []⟩
   ⟨2, (word m c pc user : Int) :: (tJ (bN (word m c pc user)) ++ [(word m c pc user : Int)]), [], jL (eD m c pc user), [], [], []⟩)
  ⟨4, [(bW m c pc user).at', (bW m c pc user).leaf, ((bW m c pc user).cause : Int)], [], jL (mM m c pc user) ++ [(bW m c pc user).set'.map wv, (bW m c pc user).reads.map iv], [], [], []⟩)
  ⟨1, [], [], [], [], [], []⟩
theorem fetch (k : Nat) {m : av} (w : Wm m) (pc : Nat) (hv : pc < 4294967296) (c : List Nat) (hc : c.length = 9) (hc2 : ∀ n ∈ c, n < 4294967296) (user : Bool)
    (i0 : Int) (l0 l1 : List AV) (b0 b1 b2 : Bool) (i1 : Int) (l2 : List AV) (i2 : Int) (l3 l4 : List AV) (b4 : Bool) (i3 i4 : Int) (l6 : List AV) (b6 b7 : Bool) (i6 : Int) :
    Bb (D (k + 4)) i0 l0 l1 b0 b1 b2 i1 l2 i2 l3 l4 user b4 i3 (m.map pg) i4 pc l6 (c.map uv) user b6 b7 i6 = wR m c pc user := by
 have ht := Qg (k + 1) w pc hv c hc hc2 user i0 l0 l1 b0 b1 b2 i1 l2 i2 l3 l4 user b4 i3 i4 pc l6 b6 b7 i6
 have ok := jw w (ru c 0) pc 4 user
 have hat := DT w (ru c 0) pc 4 user ⟨by omega, by omega⟩
 have hl := w.le
 unfold Bb FD
 simp only [Tr.eval, ht, show (((pc : Int)).tmod 4 != 0) = !(pc % 4 == 0) by rw [show ((pc : Int)).tmod 4 = ((pc % 4 : Nat) : Int) from jo _ 4]; exact dX _ 0]
 unfold wR eD legal word mM bW
 cases pc % 4 == 0 with
 | false => rfl
 | true =>
 generalize walk m (ru c 0) pc 4 user = x at *
 unfold rX
 cases h0 : x.cause == 0 with
 | false => rfl
 | true =>
 obtain ⟨n, hn, hn2, _⟩ := hat (by simpa using h0)
 obtain ⟨w1, hl1⟩ := oV x.set' w (fun y hy => (ok.set y hy).1)
 have hr := Ku (k + 3) w1 n 4 (by omega) (.inr rfl) (bB [] x.reads ++ dw x.set') (by have := ok.few; have := ok.one; simp [bB, dw]; omega) i0 l0 l1 b0 b1 b2 i1 l2 i2 l3 l4 user b4 i3 i4 pc l6 (c.map uv) user b6 b7 i6 0 (([] ++ x.set' : List Wr).map wv) 0 0 0 0 0
 simp only [show ((4 : Nat) : Int) = 4 from rfl] at hr
 have hw := vJ w1 n 4
 have hd := J7 k (gG (bR m x.set') n 4) hw
 have hp := YK (k + 3) (bN (gG (bR m x.set') n 4)).op
 simp only [cond_true, Bool.not_true, cond_false, hn, show (⟨2, [(n : Int)], [], [(bR m x.set').map pg, ([] ++ x.set' : List Wr).map wv, (bB [] x.reads ++ dw x.set').map bI], [], [], []⟩ : LO).i.getD 0 0 = (n : Int) from rfl,
  show (⟨2, [(n : Int)], [], [(bR m x.set').map pg, ([] ++ x.set' : List Wr).map wv, (bB [] x.reads ++ dw x.set').map bI], [], [], []⟩ : LO).l.getD 0 [] = (bR m x.set').map pg from rfl,
  show (⟨2, [(n : Int)], [], [(bR m x.set').map pg, ([] ++ x.set' : List Wr).map wv, (bB [] x.reads ++ dw x.set').map bI], [], [], []⟩ : LO).l.getD 1 [] = ([] ++ x.set' : List Wr).map wv from rfl,
  show (⟨2, [(n : Int)], [], [(bR m x.set').map pg, ([] ++ x.set' : List Wr).map wv, (bB [] x.reads ++ dw x.set').map bI], [], [], []⟩ : LO).l.getD 2 [] = (bB [] x.reads ++ dw x.set').map bI from rfl, hr,
  show ((2 : Nat) == 1) = false from rfl, show ((2 : Nat) == 2) = true from rfl, show ((1 : Nat) == 1) = true from rfl]
 unfold kI kG jL tJ
 simp only [List.getD_cons_zero, hd.ok, hd.val, tO, pO, g0, g1, g2, g3, g4, iO, bO, hp.ok, hp.val, cond_true, o9, nE, Bool.or_true, Int.toNat_natCast]
 cases sO (gG (bR m x.set') n 4) <;> cases user <;> cases sS (bN (gG (bR m x.set') n 4)).op <;> rfl
end Go.Proofs.Ytcknhfnbdgleiaa
