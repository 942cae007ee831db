/- Parts of a step: what is read, stored, translated. -/
import Derived.Test.YtcknhfnbdgleiaaCor3
set_option linter.unusedVariables false
set_option linter.unusedSimpArgs false
namespace Go.Proofs.Ytcknhfnbdgleiaa
open Go.AE
structure Ac where
 a : Nat
 s : Nat
 st : Bool
abbrev bI (x : Ac) : AV := .agg 115 [.int .i64 (x.a : Int), .int .i64 (x.s : Int), .bool x.st]
theorem rm {α : Type} {l : List α} {f : α -> AV} (h : l.length < 1000) : decide (((l.map f).length + 1) * 24 <= 140737488355328) = true := by rw [List.length_map]; exact decide_eq_true (by omega)
def gG (m : av) (a s : Nat) : Nat := cond (th m a s) (ld m a s) 0
theorem vJ {m : av} (w : Wm m) (a s : Nat) : gG m a s < 4294967296 := by
 unfold gG ld
 cases th m a s with
 | false => exact Nat.zero_lt_succ _
 | true =>
  simp only [cond_true]
  split
  . have := w.iR a; omega
  . exact N9 w a
theorem P7 (k : Nat) {m : av} (w : Wm m) (a s : Nat) (ha : a < 4294967296) (hs : s = 1 \/ s = 4) (acc : List Ac) (hacc : acc.length < 1000)
    (i2 : Int) (l0 l1 : List AV) (b0 b1 b2 : Bool) (i3 : Int) (l2 : List AV) (i4 : Int) (l3 l4 : List AV) (b3 b4 : Bool) (i5 i6 i7 : Int) (l6 l7 : List AV) (b5 b6 b7 : Bool) (i8 i9 : Int) (l8 : List AV) (i10 i11 i12 i13 i14 i15 i16 : Int) (l10 l11 : List AV) :
    zX (D (k + 1)) a s i2 l0 l1 b0 b1 b2 i3 l2 i4 l3 l4 b3 b4 i5 (m.map pg) i6 i7 l6 l7 b5 b6 b7 i8 i9 l8 (acc.map bI) i10 i11 i12 i13 i14 i15 i16 l10 l11 = ⟨1, [(gG m a s : Nat)], [], [(acc ++ ([⟨a, s, false⟩] : List Ac)).map bI], [], [], []⟩ := by
 have r := CP k w a s ha hs
 unfold zX Ia
 simp only [Tr.eval, rm hacc, r.ok, r.val, tO, g0, iO, cond_true, List.map_append]
 rfl
theorem Ku (k : Nat) {m : av} (w : Wm m) (a s : Nat) (ha : a < 4294967296) (hs : s = 1 \/ s = 4) (acc : List Ac) (hacc : acc.length < 1000)
    (i2 : Int) (l0 l1 : List AV) (b0 b1 b2 : Bool) (i3 : Int) (l2 : List AV) (i4 : Int) (l3 l4 : List AV) (b3 b4 : Bool) (i5 i6 i7 : Int) (l6 l7 : List AV) (b5 b6 b7 : Bool) (i8 i9 : Int) (l8 : List AV) (i10 i11 i12 i13 i14 : Int) :
    uR (D (k + 1)) a s i2 l0 l1 b0 b1 b2 i3 l2 i4 l3 l4 b3 b4 i5 (m.map pg) i6 i7 l6 l7 b5 b6 b7 i8 i9 l8 (acc.map bI) i10 i11 i12 i13 i14 = ⟨1, [(gG m a s : Nat)], [], [(acc ++ ([⟨a, s, false⟩] : List Ac)).map bI], [], [], []⟩ := by
 have r := CP k w a s ha hs
 unfold uR EW
 simp only [Tr.eval, rm hacc, r.ok, r.val, tO, g0, iO, cond_true, List.map_append]
 rfl
def R3 (m : av) (ws : List Wr) (acc : List Ac) : LO := ⟨1, [], [], [m.map pg, ws.map wv, acc.map bI], [], [], []⟩
theorem YB (k : Nat) {m : av} (w : Wm m) (x : Wr) (hx : x.ok) (ws : List Wr) (hws : ws.length < 1000) (acc : List Ac) (hacc : acc.length < 1000)
    (i3 : Int) (l0 l1 : List AV) (b0 b1 b2 : Bool) (i4 : Int) (l2 : List AV) (i5 : Int) (l3 l4 : List AV) (b3 b4 : Bool) (i6 i7 i8 : Int) (l6 l7 : List AV) (b5 b6 b7 : Bool) (i9 i10 i11 i12 i13 i14 i15 i16 i17 : Int) (l10 l11 : List AV) (i18 i19 i20 : Int) :
    Bq (D (k + 2)) x.a x.s x.v i3 l0 l1 b0 b1 b2 i4 l2 i5 l3 l4 b3 b4 i6 (m.map pg) i7 i8 l6 l7 b5 b6 b7 i9 i10 (ws.map wv) (acc.map bI) i11 i12 i13 i14 i15 i16 i17 l10 l11 i18 i19 i20 = R3 (fE m x) (ws ++ [x]) (acc ++ [⟨x.a, x.s, true⟩]) := by
 have r := Hl k w hx
 unfold Bq FW R3
 simp only [Tr.eval, rm hacc, rm hws, r.ok, r.val, tO, g0, pO, lO, cond_true, List.map_append]
 rfl
theorem PL (k : Nat) {m : av} (w : Wm m) (x : Wr) (hx : x.ok) (ws : List Wr) (hws : ws.length < 1000) (acc : List Ac) (hacc : acc.length < 1000)
    (i3 : Int) (l0 l1 : List AV) (b0 b1 b2 : Bool) (i4 : Int) (l2 : List AV) (i5 : Int) (l3 l4 : List AV) (b3 b4 : Bool) (i6 i7 i8 : Int) (l6 l7 : List AV) (b5 b6 b7 : Bool) (i9 i10 i11 i12 i13 i14 i15 : Int) :
    wF (D (k + 2)) x.a x.s x.v i3 l0 l1 b0 b1 b2 i4 l2 i5 l3 l4 b3 b4 i6 (m.map pg) i7 i8 l6 l7 b5 b6 b7 i9 i10 (ws.map wv) (acc.map bI) i11 i12 i13 i14 i15 = R3 (fE m x) (ws ++ [x]) (acc ++ [⟨x.a, x.s, true⟩]) := by
 have r := Hl k w hx
 unfold wF Er R3
 simp only [Tr.eval, rm hacc, rm hws, r.ok, r.val, tO, g0, pO, lO, cond_true, List.map_append]
 rfl
theorem RY (k : Nat) {m : av} (w : Wm m) (x : Wr) (hx : x.ok) (ws : List Wr) (hws : ws.length < 1000) (acc : List Ac) (hacc : acc.length < 1000)
    (i3 : Int) (l0 l1 : List AV) (b0 b1 b2 : Bool) (i4 : Int) (l2 : List AV) (i5 : Int) (l3 l4 : List AV) (b3 b4 : Bool) (i6 i7 i8 : Int) (l6 l7 : List AV) (b5 b6 b7 : Bool) (i9 i10 i11 i12 i13 i14 i15 : Int) :
    Aj (D (k + 2)) x.a x.s x.v i3 l0 l1 b0 b1 b2 i4 l2 i5 l3 l4 b3 b4 i6 (m.map pg) i7 i8 l6 l7 b5 b6 b7 i9 i10 (ws.map wv) (acc.map bI) i11 i12 i13 i14 i15 = R3 (fE m x) (ws ++ [x]) (acc ++ [⟨x.a, x.s, true⟩]) := by
 have r := Hl k w hx
 unfold Aj FI R3
 simp only [Tr.eval, rm hacc, rm hws, r.ok, r.val, tO, g0, pO, lO, cond_true, List.map_append]
 rfl
def bB (acc : List Ac) (l : List Nat) : List Ac := acc ++ l.map fun a => ⟨a, 4, false⟩
theorem CB (k : Nat) {m : av} (w : Wm m) (l : List Nat) (hl : l.length < 100) (hx : ∀ a ∈ l, a < 4294967296) (acc0 : List Ac) (hacc : acc0.length < 100)
    (i0 i1 i4 : Int) (l1 l2 : List AV) (b0 b1 b2 : Bool) (i5 : Int) (l3 : List AV) (i6 : Int) (l4 l5 : List AV) (b3 b4 : Bool) (i7 i8 i9 : Int) (l7 l8 : List AV) (b5 b6 b7 : Bool) (i10 i11 : Int) (l9 : List AV) (i12 i13 i14 i15 i16 i17 i18 : Int) (l11 l12 : List AV) :
    ∀ (j n fuel : Nat), n + j = l.length -> j < fuel ->
    Tr.run (qE (D (k + 1)) i0 i1 (l.map iv) ((l.length : Nat) : Int) i4 l1 l2 b0 b1 b2 i5 l3 i6 l4 l5 b3 b4 i7 (m.map pg) i8 i9 l7 l8 b5 b6 b7 i10 i11 l9 i12 i13 i14 i15 i16 i17 i18 l11 l12) fuel ((n : Int), (bB acc0 (l.take n)).map bI) = ⟨1, [], [], [(bB acc0 l).map bI], [], [], []⟩
 | 0, n, fuel, hn, hf => by
  obtain ⟨f, rfl⟩ : ∃ f, fuel = f + 1 := ⟨fuel - 1, by omega⟩
  obtain rfl : n = l.length := by omega
  rw [fM, List.take_length]
  simp only [qE, Gf, Tr.eval, rD, cond_false]
 | j + 1, n, fuel, hn, hf => by
  obtain ⟨f, rfl⟩ : ∃ f, fuel = f + 1 := ⟨fuel - 1, by omega⟩
  have h : n < l.length := by omega
  have hr := fun i2 l0 l1 b0 b1 b2 i3 l2 i4 l3 l4 b3 b4 i5 i6 i7 l6 l7 b5 b6 b7 i8 i9 l8 i10 i11 i12 i13 i14 i15 i16 l10 l11 =>
   P7 k w l[n] 4 (hx _ (List.getElem_mem h)) (.inr rfl) (bB acc0 (l.take n)) (by simp [bB]; omega) i2 l0 l1 b0 b1 b2 i3 l2 i4 l3 l4 b3 b4 i5 i6 i7 l6 l7 b5 b6 b7 i8 i9 l8 i10 i11 i12 i13 i14 i15 i16 l10 l11
  simp only [show ((4 : Nat) : Int) = 4 from rfl] at hr
  rw [fM]
  simp only [qE, Gf, Tr.eval, Int.toNat_natCast, wZ iv h, iO, hr, lt_n h, dh (show n < (l.map iv).length by rw [List.length_map]; exact h), cond_true, mH (show n < 1000000 by omega)]
  have : bB acc0 (l.take n) ++ ([⟨l[n], 4, false⟩] : List Ac) = bB acc0 (l.take (n + 1)) := by
   unfold bB; rw [<- List.take_append_getElem h, List.map_append, List.append_assoc]; rfl
  rw [this]
  exact CB k w l hl hx acc0 hacc i0 i1 i4 l1 l2 b0 b1 b2 i5 l3 i6 l4 l5 b3 b4 i7 i8 i9 l7 l8 b5 b6 b7 i10 i11 l9 i12 i13 i14 i15 i16 i17 i18 l11 l12 j (n + 1) f (by omega) (by omega)
end Go.Proofs.Ytcknhfnbdgleiaa
