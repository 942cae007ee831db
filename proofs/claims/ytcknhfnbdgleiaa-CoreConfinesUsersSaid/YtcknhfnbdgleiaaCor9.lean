/- Parts of a step: what touches no memory. -/
import Derived.Test.YtcknhfnbdgleiaaCor8
set_option linter.unusedVariables false
set_option linter.unusedSimpArgs false
namespace Go.Proofs.Ytcknhfnbdgleiaa
open Go.AE
section
variable (k : Nat) (r c : List Nat) (hr : r.length = 16) (hr2 : ∀ n ∈ r, n < 4294967296) (i : In) (ha : i.a < 16) (hb' : i.b < 16) (hc' : i.c < 16) (pc opc : Nat)
 (i0 : Int) (l0 l1 : List AV) (b0 b1 b2 : Bool) (i1 : Int) (l2 l4 : List AV) (b3 b4 : Bool) (i3 : Int) (l5 : List AV) (i4 : Int) (l6 l7 : List AV) (b5 b6 b7 : Bool) (i6 i7 : Int) (l8 l9 : List AV)
def pR (r : List Nat) (i : In) (pc opc : Nat) : Nat := cond (tkn i.op (ru r i.a) (ru r i.b)) (tgt opc i).1 pc
include hr ha hb' in
theorem branch : Ab (D (k + 3)) i0 l0 l1 b0 b1 b2 i1 l2 pc (r.map uv) l4 b3 b4 i3 l5 i4 opc l6 l7 b5 b6 b7 i6 i7 l8 l9 i.op i.a i.b i.c i.aG = ⟨1, [(pR r i pc opc : Nat)], [], [], [], [], []⟩ := by
 have r1 := Uf (k + 1) i.op (ru r i.a) (ru r i.b)
 have r2 := IX (k + 1) opc i
 unfold Ab Hq
 simp only [Tr.eval, Int.toNat_natCast, eO (show i.a < r.length by omega), eO (show i.b < r.length by omega), iO, r1.ok, r1.val, r2.ok, r2.val, bO, tO, g0, dh (show i.a < 16 from ha), dh (show i.b < 16 from hb'), cond_true]
 unfold pR
 cases tkn i.op (ru r i.a) (ru r i.b) <;> rfl
def oU (r : List Nat) (i : In) (opc : Nat) : Nat := cond (tgt opc i).2 (tgt opc i).1 (bD r i)
include hr ha hb' in
theorem jump : AQ (D (k + 3)) i0 l0 l1 b0 b1 b2 i1 l2 pc (r.map uv) l4 b3 b4 i3 l5 i4 opc l6 l7 b5 b6 b7 i6 i7 l8 l9 i.op i.a i.b i.c i.aG = ⟨1, [(oU r i opc : Nat)], [], [(dI r i.a (u32 ((opc : Int) + 4))).map uv], [], [], []⟩ := by
 have r2 := IX (k + 1) opc i
 have hva : IntKind.u32.wrap (((ru r i.b : Nat) : Int) + IntKind.u32.wrap i.aG) = ((bD r i : Nat) : Int) := by
  rw [wrap_u32, wrap_u32]; unfold bD u32; omega
 unfold AQ Et
 simp only [Tr.eval, Int.toNat_natCast, eO (show i.b < r.length by omega), iO, r2.ok, r2.val, bO, tO, g0, g1, dh (show i.a < 16 from ha), dh (show i.b < 16 from hb'), cond_true, hva, nM ((opc : Int) + 4), show (((i.a : Nat) : Int) != 0) = !(i.a == 0) from dX _ 0]
 have hset : (r.map uv).set i.a (.int .u32 (u32 ((opc : Int) + 4) : Nat)) = (r.set i.a (u32 ((opc : Int) + 4))).map uv := by rw [List.map_set]
 rw [hset]
 unfold oU dI
 cases (tgt opc i).2 <;> cases i.a == 0 <;> rfl
include hr hb' in
theorem flush : AU (D k) i0 l0 l1 b0 b1 b2 i1 l2 pc (r.map uv) l4 b3 b4 i3 l5 i4 opc l6 l7 b5 b6 b7 i6 i7 l8 l9 i.op i.a i.b i.c i.aG = ⟨1, cond (i.b == 0) [2, 0] [1, (ru r i.b : Nat)], [], [], [], [], []⟩ := by
 unfold AU Du
 simp only [Tr.eval, Int.toNat_natCast, eO (show i.b < r.length by omega), iO, dh (show i.b < 16 from hb'), cond_true, show (((i.b : Nat) : Int) != 0) = !(i.b == 0) from dX _ 0]
 cases i.b == 0 <;> rfl
include hr ha in
theorem ask : Ag (D k) i0 l0 l1 b0 b1 b2 i1 l2 pc (r.map uv) l4 b3 b4 i3 l5 i4 opc l6 l7 b5 b6 b7 i6 i7 l8 l9 i.op i.a i.b i.c i.aG = ⟨1, [cond (i.op == 46) 0 (ru r i.a : Nat)], [i.op == 46], [], [], [], []⟩ := by
 unfold Ag Dx
 simp only [Tr.eval, Int.toNat_natCast, eO (show i.a < r.length by omega), iO, dh (show i.a < 16 from ha), cond_true, show (((i.op : Nat) : Int) == 46) = (i.op == 46) from bP _ 46]
 cases i.op == 46 <;> rfl
end
def kX (n : Nat) (x : Cp) : LO := ⟨n, [(x.pc : Int), (x.count : Int)], [x.user, x.waits, x.halts], [x.r.map uv, x.c.map uv], [], [], []⟩
def iF (x : Cp) (i : In) (p : Nat) : Cp × Nat := cond (i.op == 42) ({ x with r := dI x.r i.a (jW x i.aG p).1 }, (jW x i.aG p).2) (gJ x i.aG (ru x.r i.a))
theorem control (k : Nat) {x : Cp} (w : Wc x) (hwt : x.waits = false) (i : In) (ha : i.a < 16) (p : Nat) (hp : p < 4294967296)
    (i0 : Int) (l0 l1 : List AV) (b0 b1 b2 : Bool) (i1 : Int) (l2 : List AV) (l5 : List AV) (i5 : Int) (l6 l7 : List AV) (b5 b6 b7 : Bool) (i6 i7 : Int) (l8 l9 : List AV) :
    zf (D (k + 2)) i0 l0 l1 b0 b1 b2 i1 l2 x.pc (x.r.map uv) (x.c.map uv) x.user x.halts x.count l5 p i5 l6 l7 b5 b6 b7 i6 i7 l8 l9 i.op i.a i.b i.c i.aG = kX (cond ((iF x i p).2 == 0) 2 1) (iF x i p).1 := by
 have r1 := UW k w i.aG p hp
 have hru := gu w.r i.a
 have r2 := XT (k + 1) w i.aG (ru x.r i.a) hru
 unfold dH at r1 r2
 rw [hwt] at r1 r2
 unfold zf Cz
 simp only [Tr.eval, Int.toNat_natCast, eO (show i.a < x.r.length by rw [w.rl]; exact ha), iO, r1.ok, r1.val, r2.ok, r2.val, tO, pO, bO, g0, g1, g2, g3, g4, dh (show i.a < 16 from ha), cond_true, show (((i.op : Nat) : Int) == 42) = (i.op == 42) from bP _ 42,
  show (((i.a : Nat) : Int) != 0) = !(i.a == 0) from dX _ 0, show (((jW x i.aG p).2 : Int) != 0) = !((jW x i.aG p).2 == 0) from dX _ 0, show (((gJ x i.aG (ru x.r i.a)).2 : Int) != 0) = !((gJ x i.aG (ru x.r i.a)).2 == 0) from dX _ 0]
 have hset : (x.r.map uv).set i.a (.int .u32 ((jW x i.aG p).1 : Nat)) = (x.r.set i.a (jW x i.aG p).1).map uv := by rw [List.map_set]
 rw [hset]
 unfold iF kX dI
 cases i.op == 42 with
 | true => cases i.a == 0 <;> cases h : (jW x i.aG p).2 == 0 <;> simp only [h, cond_true, cond_false, Bool.not_true, Bool.not_false, hwt]
 | false =>
  have hw2 : (gJ x i.aG (ru x.r i.a)).1.waits = x.waits := by unfold gJ; split <;> rfl
  cases h : (gJ x i.aG (ru x.r i.a)).2 == 0 <;> simp only [h, cond_true, cond_false, Bool.not_true, Bool.not_false] <;> rfl
end Go.Proofs.Ytcknhfnbdgleiaa
