/- The memory of a guest: stores and writes. -/
import Derived.Test.YtcknhfnbdgleiaaCot2
set_option linter.unusedVariables false
set_option linter.unusedSimpArgs false
namespace Go.Proofs.Ytcknhfnbdgleiaa
open Go.AE
theorem fM {σ : Type} (g : σ -> Tr σ) (f : Nat) (s : σ) : Tr.run g (f + 1) s = (g s).eval (Tr.run g f) := by rw [Tr.run]
theorem Q5 {σ : Type} {g : σ -> Tr σ} {s : σ} {x : LO} (h : ∀ K, (g s).eval K = x) (f : Nat) : Tr.run g (f + 1) s = x := by rw [fM, h]
theorem runN {σ : Type} {g : σ -> Tr σ} {s t : σ} (h : ∀ K, (g s).eval K = K t) (f : Nat) : Tr.run g (f + 1) s = Tr.run g f t := by rw [fM, h]
theorem wbv (v : Nat) (hv : v < 4294967296) : ([.int .u8 (IntKind.u8.wrap (v : Int)), .int .u8 (IntKind.u8.wrap ((v : Int).fdiv 256)), .int .u8 (IntKind.u8.wrap ((v : Int).fdiv 65536)), .int .u8 (IntKind.u8.wrap ((v : Int).fdiv 16777216))] : List AV) = (wb v).map bv := by
 simp only [wb, List.map_cons, List.map_nil, bv, wrap_u8, kM (show (0 : Int) < 256 by decide), kM (show (0 : Int) < 65536 by decide), kM (show (0 : Int) < 16777216 by decide)]
 congr 2
theorem O8 (p : List Nat) (o : Nat) (d : List Nat) (n : Nat) (hn : n = d.length) : AV.agg (iK (pg p)) ((partsOf (pg p)).take o ++ ((d.map bv).take n ++ (partsOf (pg p)).drop (o + n))) = pg (pt p o d) := by
 subst hn
 rw [show iK (pg p) = 117 from rfl, pg, pO, pg, pt, List.map_append, List.map_append, List.map_take, List.map_drop]
 congr 3
 rw [List.take_of_length_le (by simp)]
theorem Sz {m : av} (w : Wm m) {a : Nat} {d : List Nat} (hd : 0 < d.length) (h1 : a / 128 < m.length) (h2 : a % 128 + d.length <= 128) :
    ((decide ((0 : Int) < (((d.map bv).length : Nat) : Int))) = true) /\ aH (IntKind.i64.wrap ((a : Int).tdiv 128)) m.length = true /\
    ((decide ((0 : Int) <= ((a : Int).tmod 128))) && (decide (((a : Int).tmod 128) <= 128))) = true /\
    (min (d.map bv).length (128 - ((a : Int).tmod 128).toNat)) = d.length /\ IntKind.i64.wrap ((a : Int) + ((d.length : Nat) : Int)) = ((a + d.length : Nat) : Int) := by
 have := w.le
 rw [qK, kR, eH (by omega), dP (by omega) (by omega)]
 exact ⟨by simp; omega, dh h1, by simp; omega, by rw [List.length_map, Int.toNat_natCast]; omega, by omega⟩
theorem RG {F : Tab} {m : av} (w : Wm m) {a : Nat} {d : List Nat} (hd : 0 < d.length) (h1 : a / 128 < m.length) (h2 : a % 128 + d.length <= 128) (l1 : List AV) (n0 : Nat) (i1 i2 i3 : Int) (n1 : Nat) (i4 i5 i6 : Int) :
    z8 F l1 n0 i1 i2 i3 n1 i4 i5 i6 m.length 100000 a (d.map bv) (m.map pg) = ⟨1, [], [], [(st m a d).map pg], [], [], []⟩ := by
 obtain ⟨g1, g2, g3, g4, g5⟩ := Sz w hd h1 h2
 have h : ∀ K, (sH F l1 n0 i1 i2 i3 n1 i4 i5 i6 m.length ((a : Int), d.map bv, m.map pg)).eval K = K (((a + d.length : Nat) : Int), [], (st m a d).map pg) := fun K => by
  simp only [sH, LZ, Tr.eval, g1, g2, g3, g4, g5, cond_true]
  rw [show (decide ((0 : Int) <= ((d.length : Nat) : Int)) && decide (((d.length : Nat) : Int) <= (((d.map bv).length : Nat) : Int))) = true by simp, cond_true]
  rw [kR, qK, eH (by have := w.le; omega), Int.toNat_natCast, Int.toNat_natCast, Nat.zero_add, xu h1, O8 _ _ _ _ rfl, Int.toNat_natCast]
  rw [show sub (d.map bv) d.length (d.map bv).length = [] by simp [sub], st, List.map_set]
  rfl
 unfold z8
 rw [show (100000 : Nat) = 99998 + 1 + 1 from rfl, runN h]
 exact Q5 (fun K => rfl) 99998
structure Wr where
 a : Nat
 s : Nat
 v : Nat
abbrev wv (x : Wr) : AV := .agg 41 [.int .i64 (x.a : Int), .int .i64 (x.s : Int), .int .u32 (x.v : Int)]
structure Wr.ok (x : Wr) : Prop where
 a : x.a < 4294967296
 s : x.s = 1 \/ x.s = 4
 v : x.v < 4294967296
def Wr.d (x : Wr) : List Nat := (wb x.v).take x.s
def ap : av -> List Wr -> av × Bool
 | m, [] => (m, true)
 | m, x :: l => if th m x.a x.s then ap (st m x.a x.d) l else (m, false)
theorem Lc {x : Wr} (h : x.ok) : x.d.length = x.s := by rcases h.s with e | e <;> simp [Wr.d, e, wb]
theorem Dp {m : av} {x : Wr} (h : x.ok) (ht : th m x.a x.s = true) : x.a / 128 < m.length /\ x.a % 128 + x.d.length <= 128 /\ 0 < x.d.length := by
 obtain ⟨h1, h2⟩ := zu ht
 rw [Lc h]
 rcases h.s with e | e <;> rw [e] at h1 h2 ⊢ <;> omega
theorem Uw (x : Wr) : ∀ b ∈ x.d, b < 256 := fun b hb => OB x.v b (List.mem_of_mem_take hb)
theorem Gv {m : av} (w : Wm m) {x : Wr} (h : x.ok) (ht : th m x.a x.s = true) : Wm (st m x.a x.d) := by
 obtain ⟨h1, h2, _⟩ := Dp h ht
 exact Ry w h1 h2 (Uw x)
theorem Jc : ∀ (l : List Wr) {m : av}, Wm m -> (∀ x ∈ l, x.ok) -> Wm (ap m l).1 /\ (ap m l).1.length = m.length
 | [], m, w, _ => ⟨w, rfl⟩
 | x :: l, m, w, h => by
  unfold ap
  cases ht : th m x.a x.s with
  | false => exact ⟨w, rfl⟩
  | true =>
   rw [if_pos rfl]
   have := Jc l (Gv w (h x (List.mem_cons_self ..)) ht) (fun y hy => h y (List.mem_cons_of_mem _ hy))
   exact ⟨this.1, by rw [this.2, qd]⟩
theorem aar {F : Tab} {m : av} (w : Wm m) {l0 : List Wr} {i : Nat} (hi : i < l0.length) (hs : l0.length < 1000) (hok : (l0[i]).ok) (l1 : List AV) (n1 : Nat) (K : Int × List AV -> LO) :
    (nR F m.length (l0.map wv) ((l0.length : Nat) : Int) l1 n1 ((i : Int), m.map pg)).eval K =
     cond (th m l0[i].a l0[i].s) (K (((i + 1 : Nat) : Int), (st m l0[i].a l0[i].d).map pg)) ⟨1, [], [], [m.map pg], [], [], []⟩ := by
 have hl := w.le
 simp only [nR, Fg, Tr.eval, Int.toNat_natCast, wZ wv hi, pO, g0, g1, g2, iO]
 generalize hx : l0[i] = x at *
 rw [wbv x.v hok.v, lt_n hi, dh (show i < (l0.map wv).length by rw [List.length_map]; exact hi), mH (by omega)]
 simp only [cond_true, jo, show decide ((0 : Int) <= (x.a : Int)) = true by simp]
 rw [show ((x.s : Int) == 1) = (x.s == 1) from bP _ 1, show ((x.s : Int) == 4) = (x.s == 4) from bP _ 4, show ((x.s : Int) == 0) = (x.s == 0) from bP _ 0, show (((x.a % x.s : Nat) : Int) == 0) = (x.a % x.s == 0) from bP _ 0]
 have hle : decide ((x.a : Int) <= IntKind.i64.wrap (IntKind.i64.wrap ((m.length : Nat) * 128 : Int) - (x.s : Int))) = decide (x.a + x.s <= 128 * m.length) := by
  have := Jl w x.a x.s (by rcases hok.s with e | e <;> omega)
  rwa [List.length_map] at this
 rw [hle]
 have hd : sub ((wb x.v).map bv) 0 ((x.s : Nat) : Int).toNat = x.d.map bv := by
  rw [Int.toNat_natCast, Wr.d, List.map_take]; simp [sub]
 rw [Int.toNat_natCast] at hd
 cases ht : th m x.a x.s with
 | false =>
  have h := ht
  rw [th] at h
  cases h3 : x.a % x.s == 0 with
  | false => rcases hok.s with e | e <;> (rw [e] at h3 ⊢; rfl)
  | true =>
   rw [h3, Bool.true_and] at h
   rw [h]
   rcases hok.s with e | e <;> (rw [e]; rfl)
 | true =>
  obtain ⟨t1, t2, t3⟩ := Dp hok ht
  have h := ht
  rw [th, Bool.and_eq_true] at h
  rw [h.1, h.2, hd, RG w t3 t1 t2]
  rcases hok.s with e | e <;> (rw [e]; rfl)
theorem Nq {F : Tab} (l0 : List Wr) (hs : l0.length < 1000) (hok : ∀ x ∈ l0, x.ok) (l1 : List AV) (n1 : Nat) : ∀ (j i : Nat) (m : av) (fuel : Nat), Wm m -> i + j = l0.length -> j < fuel ->
    Tr.run (nR F m.length (l0.map wv) ((l0.length : Nat) : Int) l1 n1) fuel ((i : Int), m.map pg) = ⟨cond (ap m (l0.drop i)).2 2 1, [], [], [(ap m (l0.drop i)).1.map pg], [], [], []⟩
 | 0, i, m, fuel, w, hi, hf => by
  obtain ⟨f, rfl⟩ : ∃ f, fuel = f + 1 := ⟨fuel - 1, by omega⟩
  obtain rfl : i = l0.length := by omega
  rw [List.drop_length, fM]
  simp only [nR, Fg, Tr.eval, rD, cond_false, ap, cond_true]
 | j + 1, i, m, fuel, w, hi, hf => by
  obtain ⟨f, rfl⟩ : ∃ f, fuel = f + 1 := ⟨fuel - 1, by omega⟩
  have h : i < l0.length := by omega
  have hx := hok l0[i] (List.getElem_mem h)
  rw [fM, aar w h hs hx, List.drop_eq_getElem_cons h, ap]
  cases ht : th m l0[i].a l0[i].s with
  | false => rfl
  | true =>
   rw [cond_true, if_pos rfl]
   have := Nq (F := F) l0 hs hok l1 n1 j (i + 1) (st m l0[i].a l0[i].d) f (Gv w hx ht) (by omega) (by omega)
   rwa [qd] at this
def Ib (m : av) (l : List Wr) : av := cond (ap m l).2 (ap m l).1 m
theorem IV {α : Type} (l : List α) {n : Nat} (h : l.length = n) : sub l 0 n = l := by simp [sub, <- h]
theorem Xx (k : Nat) {m : av} (w : Wm m) (l : List Wr) (hs : l.length < 1000) (hok : ∀ x ∈ l, x.ok) : Rt Pg (D (k + 1)) 24 [mv m, .slice 42 (l.map wv) false] (.tuple [mv (Ib m l), .bool (ap m l).2]) := .of (by
 have hl := w.le
 have hp := w.pos
 have := Nq (F := D k) l hs hok (m.map pg) m.length l.length 0 m 100000 w (by omega) (by omega)
 rw [Dk, Y7]
 unfold yj
 simp only [List.length_map]
 rw [show ((0 : Nat) : Int) = 0 from rfl, List.drop_zero] at this
 rw [this, decide_eq_true hp, decide_eq_true (show (0 + m.length) * 128 <= 140737488355328 by omega), Ib]
 cases h : (ap m l).2 with
 | false => rfl
 | true =>
  simp only [cond_true]
  have := (Jc l w hok).2
  rw [show ((2 : Nat) == 1) = false from rfl, show ((2 : Nat) == 2) = true from rfl, cond_false, cond_true]
  simp only [getD_get, show ([(ap m l).1.map pg] : List (List AV)).getD 0 [] = (ap m l).1.map pg from rfl]
  rw [Nat.zero_add, IV _ (by rw [List.length_map, this])]) (by kernel_rfl)
end Go.Proofs.Ytcknhfnbdgleiaa
