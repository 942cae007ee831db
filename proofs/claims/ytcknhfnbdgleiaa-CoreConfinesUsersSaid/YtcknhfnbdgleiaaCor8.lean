/- Parts of a step: loads, stores, swaps. -/
import Derived.Test.YtcknhfnbdgleiaaCor7
set_option linter.unusedVariables false
set_option linter.unusedSimpArgs false
namespace Go.Proofs.Ytcknhfnbdgleiaa
open Go.AE
def dI (r : List Nat) (a v : Nat) : List Nat := cond (a == 0) r (r.set a v)
def fI (p : Pt') (c : List Nat) (user : Bool) (va kind : Nat) : Wk := walk p.m (ru c 0) va kind user
def bD (r : List Nat) (i : In) : Nat := u32 ((ru r i.b : Int) + i.aG)
def Fp (p : Pt') (r c : List Nat) (user : Bool) (i : In) (kind size : Nat) : LO :=
 let va := bD r i
 let W := fI p c user va kind
 let p1 := kI p W
 let n := W.at'.toNat
 let r' := dI r i.a (gG p1.m n size)
 cond (va % size == 0) (cond (W.cause == 0)
  (cond (kind == 2) ⟨2, [], [], r.map uv :: jL (stP p1 ⟨n, size, ru r i.a⟩), [], [], []⟩
   (cond (kind == 1) ⟨3, [], [], r'.map uv :: jL (kG p1 n size), [], [], []⟩ ⟨2, [], [], r'.map uv :: jL (stP (kG p1 n size) ⟨n, size, ru r i.a⟩), [], [], []⟩))
  ⟨5, [W.at', W.leaf, (W.cause : Int), (va : Int)], [], jL p1 ++ [W.set'.map wv, W.reads.map iv], [], [], []⟩)
  ⟨1, [(va : Int)], [], [], [], [], []⟩
theorem Ta : ∀ x : Int, nU (.int .i64 x) (.int .i64 x) = true := fun x => by simp [nU]
theorem access (k : Nat) (p : Pt') (w : Wm p.m) (hws : p.ws.length < 10) (hac : p.ac.length < 10) (r c : List Nat) (hr : r.length = 16) (hr2 : ∀ n ∈ r, n < 4294967296) (hc : c.length = 9) (hc2 : ∀ n ∈ c, n < 4294967296) (user : Bool)
    (i : In) (ha : i.a < 16) (hb' : i.b < 16) (kind size : Nat) (hk : 1 <= kind /\ kind <= 3) (hs : size = 1 \/ size = 4)
    (i2 : Int) (l0 l1 : List AV) (b0 b1 b2 : Bool) (i3 : Int) (l2 : List AV) (i4 : Int) (l4 : List AV) (b3 b4 : Bool) (i5 i6 i7 : Int) (l6 : List AV) (b6 b7 : Bool) (i8 i9 i10 i13 : Int) :
    Cj (D (k + 3)) kind size i2 l0 l1 b0 b1 b2 i3 l2 i4 (r.map uv) l4 b3 b4 i5 (p.m.map pg) i6 i7 l6 (c.map uv) user b6 b7 i8 i9 (p.ws.map wv) (p.ac.map bI) i10 i.a i.b i13 i.aG = Fp p r c user i kind size := by
 have hl := w.le
 have hva : IntKind.u32.wrap (intOf ((r.map uv).getD ((i.b : Nat) : Int).toNat .dead) + IntKind.u32.wrap i.aG) = ((bD r i : Nat) : Int) := by
  rw [Int.toNat_natCast, eO (by omega), iO, wrap_u32, wrap_u32]; unfold bD u32; omega
 have hvl : bD r i < 4294967296 := iQ _
 have hsz : IntKind.u32.wrap ((size : Nat) : Int) = (size : Int) := w32 (by rcases hs with e | e <;> omega)
 have hs0 : (((size : Nat) : Int) == 0) = false := by rcases hs with rfl | rfl <;> rfl
 have ht := QJ k w (bD r i) kind hvl ⟨hk.1, by omega⟩ c hc hc2 user p.ws (by omega) p.ac (by omega) i2 l0 l1 b0 b1 b2 i3 l2 i4 (r.map uv) l4 b3 b4 i5 i6 i7 l6 b6 b7 i8 i9 i10 i.a i.b i13 i.aG
 have ok := jw w (ru c 0) (bD r i) kind user
 have hat := DT w (ru c 0) (bD r i) kind user ⟨hk.1, by omega⟩
 have hra : (r.map uv).getD ((i.a : Nat) : Int).toNat .dead = uv (ru r i.a) := by rw [Int.toNat_natCast, eO (by omega)]
 have hru := gu hr2 i.a
 unfold Cj DV
 simp only [Tr.eval, hva, hsz, hs0, ht, hra, iO, dh (show i.b < 16 from hb'), dh (show i.a < 16 from ha), cond_true, Bool.not_false, Ta,
  show (((bD r i : Nat) : Int).tmod ((size : Nat) : Int) != 0) = !(bD r i % size == 0) by rw [jo]; exact dX _ 0]
 unfold Fp fI
 cases hm : bD r i % size == 0 with
 | false => simp only [hm, Bool.not_false, cond_true, cond_false]
 | true =>
 simp only [hm, Bool.not_true, cond_true, cond_false]
 generalize walk p.m (ru c 0) (bD r i) kind user = x at *
 unfold rX
 cases h0 : x.cause == 0 with
 | false => rfl
 | true =>
 obtain ⟨n, hn, hn2, _⟩ := hat (by simpa using h0)
 obtain ⟨w1, hl1⟩ := oV x.set' w (fun y hy => (ok.set y hy).1)
 have few := ok.few
 have one := ok.one
 have hwl : (p.ws ++ x.set').length < 1000 := by simp; omega
 have hal : (bB p.ac x.reads ++ dw x.set').length < 900 := by simp [bB, dw]; omega
 have hr1 := fun j2 m0 m1 c0 c1 c2 j3 m2 j4 m3 m4 c3 c4 j5 j6 j7 m6 m7 c5 c6 c7 j8 j9 m8 j10 j11 j12 j13 j14 => Ku (k + 2) w1 n size (by omega) hs (bB p.ac x.reads ++ dw x.set') (by omega) j2 m0 m1 c0 c1 c2 j3 m2 j4 m3 m4 c3 c4 j5 j6 j7 m6 m7 c5 c6 c7 j8 j9 m8 j10 j11 j12 j13 j14
 have hxo : (⟨n, size, ru r i.a⟩ : Wr).ok := ⟨by show n < 4294967296; omega, hs, hru⟩
 have hs1 := fun j3 m0 m1 c0 c1 c2 j4 m2 j5 m3 m4 c3 c4 j6 j7 j8 m6 m7 c5 c6 c7 j9 j10 j11 j12 j13 j14 j15 => PL (k + 1) w1 ⟨n, size, ru r i.a⟩ hxo (p.ws ++ x.set') hwl (bB p.ac x.reads ++ dw x.set' ++ ([⟨n, size, false⟩] : List Ac)) (by rw [List.length_append]; simp only [List.length_singleton]; omega) j3 m0 m1 c0 c1 c2 j4 m2 j5 m3 m4 c3 c4 j6 j7 j8 m6 m7 c5 c6 c7 j9 j10 j11 j12 j13 j14 j15
 have hs2 := fun j3 m0 m1 c0 c1 c2 j4 m2 j5 m3 m4 c3 c4 j6 j7 j8 m6 m7 c5 c6 c7 j9 j10 j11 j12 j13 j14 j15 => RY (k + 1) w1 ⟨n, size, ru r i.a⟩ hxo (p.ws ++ x.set') hwl (bB p.ac x.reads ++ dw x.set') (by omega) j3 m0 m1 c0 c1 c2 j4 m2 j5 m3 m4 c3 c4 j6 j7 j8 m6 m7 c5 c6 c7 j9 j10 j11 j12 j13 j14 j15
 dsimp only at hs1 hs2
 have hset : (r.map uv).set i.a (.int .u32 (gG (bR p.m x.set') n size : Nat)) = (r.set i.a (gG (bR p.m x.set') n size)).map uv := by rw [List.map_set]
 have eq2 : nU (uv (ru r i.a)) (uv (ru r i.a)) = true := by simp [nU]
 have e2 : (((kind : Nat) : Int) != 2) = !(kind == 2) := dX _ 2
 have e1 : (((kind : Nat) : Int) != 1) = !(kind == 1) := dX _ 1
 have ea : (((i.a : Nat) : Int) != 0) = !(i.a == 0) := dX _ 0
 simp only [cond_true, hn, List.getD_cons_zero, List.getD_cons_succ, hr1, hset, hs1, hs2, e1, e2, ea, eq2, Bool.and_self, Int.toNat_natCast,
  show ((2 : Nat) == 1) = false from rfl, show ((2 : Nat) == 2) = true from rfl, show ((1 : Nat) == 1) = true from rfl, cond_false, R3]
 unfold dI kI kG stP jL
 obtain rfl | rfl | rfl : kind = 1 \/ kind = 2 \/ kind = 3 := by omega
 all_goals (cases i.a == 0 <;> rfl)
end Go.Proofs.Ytcknhfnbdgleiaa
