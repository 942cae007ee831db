/- Parts of a step: fetch. -/
import Derived.Test.YtcknhfnbdgleiaaCor6
set_option linter.unusedVariables false
set_option linter.unusedSimpArgs false
namespace Go.Proofs.Ytcknhfnbdgleiaa
open Go.AE

theorem Pn {acc : Nat} (ha : 1 ≤ acc ∧ acc ≤ 4) : cz acc ≠ 0 := by
 obtain rfl | rfl | rfl | rfl : acc = 1 ∨ acc = 2 ∨ acc = 3 ∨ acc = 4 := by omega
 all_goals decide
/-- Where a walk leads. -/
theorem LY {m : Pgs} (w : Wm m) (root va acc : Nat) (user : Bool) (ha : 1 ≤ acc ∧ acc ≤ 4) (h0 : (walk m root va acc user).cause = 0) :
    ∃ n : Nat, (walk m root va acc user).at' = (n : Int) ∧ n < 128 * m.length ∧ n % 128 = va % 128 := by
 rcases Et m root va with ⟨r, h2, h⟩ | ⟨_, hv, h⟩ | ⟨e, page, a, reads, f, h⟩
 · rw [h] at h0; exact absurd h0 (Pn ha)
 · rw [h]; exact ⟨va, rfl, hv, rfl⟩
 · rw [h] at h0 ⊢
   cases hm : may e acc user with
   | false => rw [hm] at h0; exact absurd h0 (Pn ha)
   | true =>
    have g := Ci f.hp
    exact ⟨page + va % 128, rfl, by omega, by omega⟩
theorem Ej : ∀ (l : List Wr) {m : Pgs}, Wm m → (∀ y ∈ l, y.ok) → Wm (sts m l) ∧ (sts m l).length = m.length
 | [], m, w, _ => ⟨w, rfl⟩
 | x :: l, m, w, h => by
  obtain ⟨w1, h1⟩ := LU w (h x (List.mem_cons_self ..))
  have := Ej l w1 (fun y hy => h y (List.mem_cons_of_mem _ hy))
  exact ⟨this.1, by rw [show sts m (x :: l) = sts (stR m x) l from rfl, this.2, h1]⟩
/-- What has been done of a step. -/
structure Pt' where
 m : Pgs
 ws : List Wr
 ac : List Ac
def trP (p : Pt') (x : Wk) : Pt' := ⟨sts p.m x.set', p.ws ++ x.set', rds p.ac x.reads ++ acs x.set'⟩
def rdP (p : Pt') (a s : Nat) : Pt' := ⟨p.m, p.ws, p.ac ++ [⟨a, s, false⟩]⟩
def stP (p : Pt') (x : Wr) : Pt' := ⟨stR p.m x, p.ws ++ [x], p.ac ++ [⟨x.a, x.s, true⟩]⟩
def lsP (p : Pt') : List (List AV) := [p.m.map pg, p.ws.map wv, p.ac.map acv]
/-- What fetch finds. -/
def fetW (m : Pgs) (c : List Nat) (pc : Nat) (user : Bool) : Wk := walk m (ru c 0) pc 4 user
def fetP (m : Pgs) (c : List Nat) (pc : Nat) (user : Bool) : Pt' := trP ⟨m, [], []⟩ (fetW m c pc user)
def fetQ (m : Pgs) (c : List Nat) (pc : Nat) (user : Bool) : Pt' := rdP (fetP m c pc user) (fetW m c pc user).at'.toNat 4
def word (m : Pgs) (c : List Nat) (pc : Nat) (user : Bool) : Nat := ldd (fetP m c pc user).m (fetW m c pc user).at'.toNat 4
def legal (m : Pgs) (c : List Nat) (pc : Nat) (user : Bool) : Bool := decB (word m c pc user) && !(user && prvI (decI (word m c pc user)).op)
def inL (i : In) : List Int := [(i.op : Int), (i.a : Int), (i.b : Int), (i.c : Int), i.imm]
def fetR (m : Pgs) (c : List Nat) (pc : Nat) (user : Bool) : LO :=
 cond (pc % 4 == 0) (cond ((fetW m c pc user).cause == 0)
  (cond (legal m c pc user) ⟨3, (word m c pc user : Int) :: inL (decI (word m c pc user)), [], lsP (fetQ m c pc user), [], [], []⟩
   ⟨2, (word m c pc user : Int) :: (inL (decI (word m c pc user)) ++ [(word m c pc user : Int)]), [], lsP (fetQ m c pc user), [], [], []⟩)
  ⟨4, [(fetW m c pc user).at', (fetW m c pc user).leaf, ((fetW m c pc user).cause : Int)], [], lsP (fetP m c pc user) ++ [(fetW m c pc user).set'.map wv, (fetW m c pc user).reads.map iv], [], [], []⟩)
  ⟨1, [], [], [], [], [], []⟩
theorem fetch (k : Nat) {m : Pgs} (w : Wm m) (pc : Nat) (hv : pc < 4294967296) (c : List Nat) (hc : c.length = 9) (hc2 : ∀ n ∈ c, n < 4294967296) (user : Bool)
    (i0 : Int) (l0 l1 : List AV) (b0 b1 b2 : Bool) (i1 : Int) (l2 : List AV) (i2 : Int) (l3 l4 : List AV) (b4 : Bool) (i3 i4 : Int) (l6 : List AV) (b6 b7 : Bool) (i6 : Int) :
    dY (D (k + 4)) i0 l0 l1 b0 b1 b2 i1 l2 i2 l3 l4 user b4 i3 (m.map pg) i4 pc l6 (c.map uv) user b6 b7 i6 = fetR m c pc user := by
 have ht := trans0 (k + 1) w pc hv c hc hc2 user i0 l0 l1 b0 b1 b2 i1 l2 i2 l3 l4 user b4 i3 i4 pc l6 b6 b7 i6
 have ok := sI w (ru c 0) pc 4 user
 have hat := LY w (ru c 0) pc 4 user ⟨by omega, by omega⟩
 have hl := w.le
 unfold dY jc
 simp only [Tr.eval, ht, show (((pc : Int)).tmod 4 != 0) = !(pc % 4 == 0) by rw [show ((pc : Int)).tmod 4 = ((pc % 4 : Nat) : Int) from tmN _ 4]; exact bneN _ 0]
 unfold fetR fetQ legal word fetP fetW
 cases pc % 4 == 0 with
 | false => rfl
 | true =>
 generalize walk m (ru c 0) pc 4 user = x at *
 unfold trR
 cases h0 : x.cause == 0 with
 | false => rfl
 | true =>
 obtain ⟨n, hn, hn2, _⟩ := hat (by simpa using h0)
 obtain ⟨w1, hl1⟩ := Ej x.set' w (fun y hy => (ok.set y hy).1)
 have hr := read1 (k + 3) w1 n 4 (by omega) (.inr rfl) (rds [] x.reads ++ acs x.set') (by have := ok.few; have := ok.one; simp [rds, acs]; omega) i0 l0 l1 b0 b1 b2 i1 l2 i2 l3 l4 user b4 i3 i4 pc l6 (c.map uv) user b6 b7 i6 0 (([] ++ x.set' : List Wr).map wv) 0 0 0 0 0
 simp only [show ((4 : Nat) : Int) = 4 from rfl] at hr
 have hw := Ng w1 n 4
 have hd := Kh k (ldd (sts m x.set') n 4) hw
 have hp := r_priv (k + 3) (decI (ldd (sts m x.set') n 4)).op
 simp only [cond_true, Bool.not_true, cond_false, hn, show (⟨2, [(n : Int)], [], [(sts m x.set').map pg, ([] ++ x.set' : List Wr).map wv, (rds [] x.reads ++ acs x.set').map acv], [], [], []⟩ : LO).i.getD 0 0 = (n : Int) from rfl,
  show (⟨2, [(n : Int)], [], [(sts m x.set').map pg, ([] ++ x.set' : List Wr).map wv, (rds [] x.reads ++ acs x.set').map acv], [], [], []⟩ : LO).l.getD 0 [] = (sts m x.set').map pg from rfl,
  show (⟨2, [(n : Int)], [], [(sts m x.set').map pg, ([] ++ x.set' : List Wr).map wv, (rds [] x.reads ++ acs x.set').map acv], [], [], []⟩ : LO).l.getD 1 [] = ([] ++ x.set' : List Wr).map wv from rfl,
  show (⟨2, [(n : Int)], [], [(sts m x.set').map pg, ([] ++ x.set' : List Wr).map wv, (rds [] x.reads ++ acs x.set').map acv], [], [], []⟩ : LO).l.getD 2 [] = (rds [] x.reads ++ acs x.set').map acv from rfl, hr,
  show ((2 : Nat) == 1) = false from rfl, show ((2 : Nat) == 2) = true from rfl, show ((1 : Nat) == 1) = true from rfl]
 unfold trP rdP lsP inL
 simp only [List.getD_cons_zero, hd.ok, hd.val, tO, pO, g0, g1, g2, g3, g4, iO, bO, hp.ok, hp.val, cond_true, fG, tZ, Bool.or_true, Int.toNat_natCast]
 cases decB (ldd (sts m x.set') n 4) <;> cases user <;> cases prvI (decI (ldd (sts m x.set') n 4)).op <;> rfl
end Go.Proofs.Ytcknhfnbdgleiaa
