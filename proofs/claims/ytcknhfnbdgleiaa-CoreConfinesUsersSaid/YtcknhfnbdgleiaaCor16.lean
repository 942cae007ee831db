/- Answers; what is valid. -/
import Derived.Test.YtcknhfnbdgleiaaCor15
set_option linter.unusedVariables false
set_option linter.unusedSimpArgs false
namespace Go.Proofs.Ytcknhfnbdgleiaa
open Go.AE
def told (e : Ef) (x : Cp) (t : Nat) : Ef := { e with cpu := x, trap := t, asks := false, ioIn := false, port := 0, val := 0 }
def ans (e : Ef) (v : Nat) (ok : Bool) : Ef :=
 cond (!e.asks) e (cond (!ok) (told e (cB e.old 2 e.word e.old.pc) 2)
  (cond (cond e.ioIn (!((bN e.word).a == 0)) false) (told e { e.cpu with r := e.cpu.r.set (bN e.word).a v } e.trap) (told e e.cpu e.trap)))
theorem WS (k : Nat) {e : Ef} (h : e.asks = true -> e.word < 4294967296 /\ Wc e.old /\ e.old.count < 1099511627776) (v : Nat) (ok : Bool) : Rt Pg (D (k + 5)) 59 [fZ e, uv v, .bool ok] (fZ (ans e v ok)) := .of (by
 rw [Dk, RQ]
 unfold ans
 cases ha : e.asks with
 | false => simp only [Bool.not_false, cond_true]; unfold fZ; rw [ha]
 | true =>
 obtain ⟨hw, ho, hc⟩ := h ha
 have r1 := J7 k e.word hw
 have r2 := lG (k + 2) ho (by omega) 2 e.word e.old.pc (by omega)
 simp only [show ((2 : Nat) : Int) = 2 from rfl] at r2
 have hregs := (EO e.word).1
 simp only [r1.ok, r1.val, r2.ok, r2.val, tO, pO, g0, g1, g2, g3, g4, iO, bO, cond_true, cond_false, Bool.not_true, dh hregs, Int.toNat_natCast,
  show ((((bN e.word).a : Nat) : Int) != 0) = !((bN e.word).a == 0) from dX _ 0, <- List.map_set]
 cases ok with
 | false => rfl
 | true =>
  cases e.ioIn with
  | false => rfl
  | true =>
   cases (bN e.word).a == 0 with
   | true => rfl
   | false =>
    have : (e.cpu.r.map uv).set (bN e.word).a (.int .u32 (v : Int)) = (e.cpu.r.set (bN e.word).a v).map uv := by rw [List.map_set]
    simp only [cond_true, Bool.not_false, Bool.not_true, cond_false, this]
    rfl) (by kernel_rfl)
structure Vc (x : Cp) : Prop where
 r0 : ru x.r 0 = 0
 c5 : ru x.c 5 <= 7
 c7 : ru x.c 7 = 0
 c8 : ru x.c 8 <= 3
 n : x.count <= 1099511627776
 wh : x.waits = true -> x.halts = false
def Bz (r c : List Nat) (wt ht : Bool) (n : Int) : Bool :=
 cond (ru r 0 == 0) (cond (decide (ru c 5 <= 7)) (cond (ru c 7 == 0) (cond (decide (ru c 8 <= 3)) (cond (decide (0 <= n)) (cond (decide (n <= 1099511627776)) (cond (!wt) true (!ht)) false) false) false) false) false) false
theorem ZJ (k : Nat) (pc : Nat) (r c : List Nat) (hr : r.length = 16) (hc : c.length = 9) (u wt ht : Bool) (n : Int) :
    Rt Pg (D (k + 1)) 108 [.agg 104 [uv pc, .agg 102 (r.map uv), .agg 103 (c.map uv), .bool u, .bool wt, .bool ht, .int .i64 n]] (.bool (Bz r c wt ht n)) := .of (by
 rw [Dk, TI, eO (show 0 < r.length by omega), eO (show 5 < c.length by omega), eO (show 7 < c.length by omega), eO (show 8 < c.length by omega), iO, iO, iO, iO,
  show (((ru r 0 : Nat) : Int) == 0) = (ru r 0 == 0) from bP _ 0, show (((ru c 7 : Nat) : Int) == 0) = (ru c 7 == 0) from bP _ 0,
  decide_eq_decide.mpr (show (((ru c 5 : Nat) : Int) <= 7) ↔ ru c 5 <= 7 by omega), decide_eq_decide.mpr (show (((ru c 8 : Nat) : Int) <= 3) ↔ ru c 8 <= 3 by omega)]
 rfl) (by kernel_rfl)
def qI (r c : List Nat) (wt ht : Bool) (n : Int) (m : av) : Bool := cond (Bz r c wt ht n) (cond (decide (n < 1099511627776)) (decide (1 <= m.length) && decide (m.length <= 64)) false) false
theorem Xp (k : Nat) (l : List AV) : Rt Pg (D (k + 1)) 16 [.agg 23 [.slice 118 l false]] (.bool (decide (1 <= l.length) && decide (l.length <= 64))) := .of (by
 rw [Dk, R6, decide_eq_decide.mpr (show ((1 : Int) <= ((l.length : Nat) : Int)) ↔ 1 <= l.length by omega), decide_eq_decide.mpr (show (((l.length : Nat) : Int) <= 64) ↔ l.length <= 64 by omega), uq]) (by kernel_rfl)
theorem JL (k : Nat) (pc : Nat) (r c : List Nat) (hr : r.length = 16) (hc : c.length = 9) (u wt ht : Bool) (n : Int) (m : av) :
    Rt Pg (D (k + 2)) 51 [.agg 104 [uv pc, .agg 102 (r.map uv), .agg 103 (c.map uv), .bool u, .bool wt, .bool ht, .int .i64 n], mv m] (.bool (qI r c wt ht n m)) := .of (by
 have r1 := ZJ k pc r c hr hc u wt ht n
 have r2 := Xp k (m.map pg)
 rw [Dk, WA]
 simp only [r1.ok, r1.val, r2.ok, r2.val, bO, cond_true, o9, nE, Bool.or_true]
 unfold qI
 rw [List.length_map]) (by kernel_rfl)
theorem aaM {pc : Nat} {r c : List Nat} {u wt ht : Bool} {n : Int} {m : av} (h : qI r c wt ht n m = true) : ∃ k : Nat, n = (k : Int) /\ k < 1099511627776 /\ Vc ⟨pc, r, c, u, wt, ht, k⟩ /\ 1 <= m.length /\ m.length <= 64 := by
 unfold qI Bz at h
 have hz : ∀ {a b : Bool}, cond a b false = true -> a = true /\ b = true := fun {a b} h => by cases a <;> cases b <;> simp_all
 obtain ⟨h1, h2⟩ := hz h
 obtain ⟨a1, h1⟩ := hz h1
 obtain ⟨a2, h1⟩ := hz h1
 obtain ⟨a3, h1⟩ := hz h1
 obtain ⟨a4, h1⟩ := hz h1
 obtain ⟨a5, h1⟩ := hz h1
 obtain ⟨a6, h1⟩ := hz h1
 obtain ⟨b1, h2⟩ := hz h2
 rw [Bool.and_eq_true] at h2
 have c1 : 0 <= n := by simpa using a5
 have c2 : n < 1099511627776 := by simpa using b1
 have d1 : 1 <= m.length := by simpa using h2.1
 have d2 : m.length <= 64 := by simpa using h2.2
 refine ⟨n.toNat, by omega, by omega, ⟨by simpa using a1, by simpa using a2, by simpa using a3, by simpa using a4, by show n.toNat <= _; omega, fun hw => ?_⟩, d1, d2⟩
 have hw : wt = true := hw
 rw [hw] at h1
 show ht = false
 simpa using h1
end Go.Proofs.Ytcknhfnbdgleiaa
