/- Parts of a step: the rest. -/
import Derived.Test.YtcknhfnbdgleiaaCor9
set_option linter.unusedVariables false
set_option linter.unusedSimpArgs false
namespace Go.Proofs.Ytcknhfnbdgleiaa
open Go.AE
def mK (x : Cp) (i : In) : Cp :=
 cond (i.op == 16) { x with r := dI x.r i.a (bD x.r i) } (cond (i.op == 17) { x with r := dI x.r i.a (u32 (i.aG * 16384)) }
  (cond (i.op == 41) (ni x) (cond (i.op == 45) { x with waits := true } (cond (i.op == 48) { x with halts := true } { x with r := dI x.r i.a (qF i.op (ru x.r i.b) (ru x.r i.c)) }))))
def Gj (x : Cp) (i : In) (opc : Nat) : LO := cond (i.op == 40) ⟨2, [(u32 ((opc : Int) + 4) : Nat)], [], [], [], [], []⟩ (kX 1 (mK x i))
theorem rest (k : Nat) {x : Cp} (w : Wc x) (hwt : x.waits = false) (i : In) (ha : i.a < 16) (hb' : i.b < 16) (hc' : i.c < 16) (opc : Nat)
    (i0 : Int) (l0 l1 : List AV) (b0 b1 b2 : Bool) (i1 : Int) (l2 : List AV) (l5 : List AV) (i4 : Int) (l6 l7 : List AV) (b5 b6 b7 : Bool) (i6 i7 : Int) (l8 l9 : List AV) :
    Ca (D (k + 3)) i0 l0 l1 b0 b1 b2 i1 l2 x.pc (x.r.map uv) (x.c.map uv) x.user x.halts x.count l5 i4 opc l6 l7 b5 b6 b7 i6 i7 l8 l9 i.op i.a i.b i.c i.aG = Gj x i opc := by
 have r1 := PK (k + 2) w
 have r2 := RV (k + 1) i.op (ru x.r i.b) (ru x.r i.c) (gu w.r _) (gu w.r _)
 unfold dH at r1
 rw [hwt] at r1
 have e : ∀ n : Nat, (((i.op : Nat) : Int) == (n : Int)) = (i.op == n) := fun n => bP _ n
 have hva : IntKind.u32.wrap (((ru x.r i.b : Nat) : Int) + IntKind.u32.wrap i.aG) = ((bD x.r i : Nat) : Int) := by
  rw [wrap_u32, wrap_u32]; unfold bD u32; omega
 have hhi : IntKind.u32.wrap (IntKind.u32.wrap i.aG * 16384) = ((u32 (i.aG * 16384) : Nat) : Int) := by
  rw [wrap_u32, wrap_u32]; unfold u32; omega
 have hset : ∀ v : Nat, (x.r.map uv).set i.a (.int .u32 (v : Int)) = (x.r.set i.a v).map uv := fun v => by rw [List.map_set]
 unfold Ca GH
 rw [show (((i.op : Nat) : Int) == 16) = (i.op == 16) from e 16, show (((i.op : Nat) : Int) == 17) = (i.op == 17) from e 17, show (((i.op : Nat) : Int) == 40) = (i.op == 40) from e 40, show (((i.op : Nat) : Int) == 41) = (i.op == 41) from e 41, show (((i.op : Nat) : Int) == 45) = (i.op == 45) from e 45, show (((i.op : Nat) : Int) == 48) = (i.op == 48) from e 48]
 simp only [Tr.eval, Int.toNat_natCast, eO (show i.b < x.r.length by rw [w.rl]; exact hb'), eO (show i.c < x.r.length by rw [w.rl]; exact hc'), iO, r1.ok, r1.val, r2.ok, r2.val, tO, pO, bO, g0, g1, g2, g3, g4, dh (show i.a < 16 from ha), dh (show i.b < 16 from hb'), dh (show i.c < 16 from hc'), cond_true, hva, hhi, nM ((opc : Int) + 4), hset,
  show (((i.a : Nat) : Int) != 0) = !(i.a == 0) from dX _ 0]
 unfold Gj mK
 cases h16 : i.op == 16 with
 | true =>
  have : (i.op == 40) = false := by rw [beq_iff_eq.mp h16]; rfl
  rw [this]
  unfold dI kX
  cases i.a == 0 <;> simp only [cond_true, cond_false, Bool.not_true, Bool.not_false, hwt]
 | false =>
 cases h17 : i.op == 17 with
 | true =>
  have : (i.op == 40) = false := by rw [beq_iff_eq.mp h17]; rfl
  rw [this]
  unfold dI kX
  cases i.a == 0 <;> simp only [cond_true, cond_false, Bool.not_true, Bool.not_false, hwt]
 | false =>
 cases h40 : i.op == 40 with
 | true => rfl
 | false =>
 cases h41 : i.op == 41 with
 | true =>
  unfold kX
  simp only [cond_true, cond_false]
  have : (ni x).waits = false := hwt
  rfl
 | false =>
 cases h45 : i.op == 45 with
 | true => rfl
 | false =>
 cases h48 : i.op == 48 with
 | true => unfold kX; simp only [cond_true, cond_false, hwt]
 | false =>
  unfold dI kX
  cases i.a == 0 <;> simp only [cond_true, cond_false, Bool.not_true, Bool.not_false, hwt]
end Go.Proofs.Ytcknhfnbdgleiaa
