/- Processors; traps. -/
import Derived.Test.YtcknhfnbdgleiaaCot10
set_option linter.unusedVariables false
set_option linter.unusedSimpArgs false
namespace Go.Proofs.Ytcknhfnbdgleiaa
open Go.AE
abbrev uv (n : Nat) : AV := .int .u32 (n : Int)
structure Cp where
 pc : Nat
 r : List Nat
 c : List Nat
 user : Bool
 waits : Bool
 halts : Bool
 count : Nat
abbrev dH (x : Cp) : AV := .agg 104 [uv x.pc, .agg 102 (x.r.map uv), .agg 103 (x.c.map uv), .bool x.user, .bool x.waits, .bool x.halts, .int .i64 (x.count : Int)]
structure Wc (x : Cp) : Prop where
 pc : x.pc < 4294967296
 rl : x.r.length = 16
 cl : x.c.length = 9
 r : ∀ n ∈ x.r, n < 4294967296
 c : ∀ n ∈ x.c, n < 4294967296
def ru (l : List Nat) (i : Nat) : Nat := l.getD i 0
theorem eO {l : List Nat} {i : Nat} (h : i < l.length) : (l.map uv).getD i .dead = uv (ru l i) := by rw [wZ uv h, ru, getD_get h]
theorem gu {l : List Nat} (h : ∀ n ∈ l, n < 4294967296) (i : Nat) : ru l i < 4294967296 := by
 unfold ru
 by_cases hi : i < l.length
 . rw [getD_get hi]; exact h _ (List.getElem_mem hi)
 . rw [List.getD_eq_getElem?_getD, List.getElem?_eq_none (by omega)]; exact Nat.zero_lt_succ _
theorem Wc.c5 {x : Cp} (w : Wc x) (i : Nat) (hi : i < 9) : (x.c.map uv).getD i .dead = uv (ru x.c i) := eO (by rw [w.cl]; exact hi)
theorem Wc.rr {x : Cp} (w : Wc x) (i : Nat) (hi : i < 16) : (x.r.map uv).getD i .dead = uv (ru x.r i) := eO (by rw [w.rl]; exact hi)
theorem MO (x c : Nat) (hx : x < 4294967296) (hc : c < 4294967296) : aD .and .u32 (x : Int) (c : Int) = ((x &&& c : Nat) : Int) := by
 rw [L8 (by omega) (by omega) (by omega) (by omega), Int.toNat_natCast, Int.toNat_natCast]
def rH (p : Nat) : Nat := p % 32
theorem I8 (k : Nat) (p : Nat) (hp : p < 4294967296) : Rt Pg (D (k + 1)) 120 [uv p] (uv (rH p)) := .of (by
 rw [Dk, V5, show (31 : Int) = 2 ^ 5 - 1 by decide, oJ 5 _ (by decide), show ((p : Int) % 2 ^ 5) = ((p % 32 : Nat) : Int) by omega]; rfl) (by kernel_rfl)
def nQ (x : Cp) (p : Nat) : Bool := cond (!x.halts) (cond (!x.waits) true (!(rH p == 0))) false
theorem YC (k : Nat) (x : Cp) (p : Nat) (hp : p < 4294967296) : Rt Pg (D (k + 2)) 60 [dH x, uv p] (.bool (nQ x p)) := .of (by
 have r := I8 k p hp
 rw [Dk, PZ]
 simp only [r.ok, r.val, iO, o9, nE, Bool.or_true, cond_true]
 rw [show (((rH p : Nat) : Int) != 0) = !(rH p == 0) from dX _ 0]
 rfl) (by kernel_rfl)
def due (x : Cp) (p : Nat) : Option Nat := cond (ru x.c 5 % 2 == 0) none ((List.range 5).find? fun i => p / 2 ^ i % 2 == 1)
theorem MR {x : Cp} {p i : Nat} (h : due x p = some i) : i < 5 := by
 unfold due at h
 cases hc : ru x.c 5 % 2 == 0 with
 | true => rw [hc] at h; exact absurd h (by simp)
 | false => rw [hc, cond_false] at h; exact List.mem_range.mp (List.mem_of_find?_eq_some h)
theorem Y6 (p i : Nat) (hp : p < 4294967296) (hi : i < 5) : (aD .and .u32 ((p : Int).fdiv (2 ^ min ((i : Int).toNat) 32)) 1 == 1) = (p / 2 ^ i % 2 == 1) := by
 rw [Int.toNat_natCast, Nat.min_eq_left (by omega)]
 have : ∀ n : Nat, (2 : Int) ^ n = ((2 ^ n : Nat) : Int) := fun n => by simp
 have hp2 : 0 < 2 ^ i := Nat.pow_pos (by decide)
 rw [this, kM (by omega), show (1 : Int) = 2 ^ 1 - 1 by decide, oJ 1 _ (by decide)]
 generalize 2 ^ i = q at *
 have e : ((p : Int) / (q : Int)) % 2 ^ 1 = ((p / q % 2 : Nat) : Int) := by
  rw [<- Int.natCast_ediv]; omega
 rw [e]
 exact bP _ 1
theorem KY {F : Tab} {p : Nat} (hp : p < 4294967296) (i2 : Int) (l0 l1 : List AV) (b0 b1 b2 : Bool) (i3 : Int) : ∀ (j i : Nat) (fuel : Nat), i + j = 5 -> j < fuel ->
    Tr.run (tq F p i2 l0 l1 b0 b1 b2 i3) fuel (i : Int) = match (List.range' i j).find? fun i => p / 2 ^ i % 2 == 1 with | some n => ⟨1, [(n : Int)], [], [], [], [], []⟩ | none => ⟨2, [], [], [], [], [], []⟩
 | 0, i, fuel, hi, hf => by
  obtain ⟨f, rfl⟩ : ∃ f, fuel = f + 1 := ⟨fuel - 1, by omega⟩
  obtain rfl : i = 5 := by omega
  rw [fM]; rfl
 | j + 1, i, fuel, hi, hf => by
  obtain ⟨f, rfl⟩ : ∃ f, fuel = f + 1 := ⟨fuel - 1, by omega⟩
  rw [fM]
  simp only [tq, M9, Tr.eval, Y6 p i hp (by omega), show decide ((i : Int) < 5) = true from decide_eq_true (by omega), show decide ((0 : Int) <= (i : Int)) = true from decide_eq_true (by omega), cond_true, mH (show i < 1000000 by omega)]
  rw [List.range'_succ, List.find?_cons]
  cases p / 2 ^ i % 2 == 1 with
  | true => rfl
  | false => exact KY hp i2 l0 l1 b0 b1 b2 i3 j (i + 1) f (by omega) (by omega)
theorem Ay (k : Nat) {x : Cp} (w : Wc x) (p : Nat) (hp : p < 4294967296) : Rt Pg (D (k + 1)) 129 [dH x, uv p] (.tuple [.int .i64 ((due x p).getD 0 : Nat), .bool (due x p).isSome]) := .of (by
 have h5 := gu w.c 5
 rw [Dk, aau, w.c5 5 (by omega), iO]
 have e : (aD .and .u32 ((ru x.c 5 : Nat) : Int) 1 == 0) = (ru x.c 5 % 2 == 0) := by
  rw [show (1 : Int) = 2 ^ 1 - 1 by decide, oJ 1 _ (by decide), show ((ru x.c 5 : Nat) : Int) % 2 ^ 1 = ((ru x.c 5 % 2 : Nat) : Int) by omega]; exact bP _ 0
 rw [e]
 unfold due
 cases ru x.c 5 % 2 == 0 with
 | true => rfl
 | false =>
  have := KY (F := D k) hp (x.pc : Int) (x.r.map uv) (x.c.map uv) x.user x.waits x.halts (x.count : Int) 5 0 100000 (by omega) (by omega)
  rw [show ((0 : Nat) : Int) = 0 from rfl] at this
  unfold yN
  simp only [cond_false]
  rw [this, List.range_eq_range']
  cases (List.range' 0 5).find? fun i => p / 2 ^ i % 2 == 1 <;> rfl) (by kernel_rfl)
def status (x : Cp) : Nat := (if ru x.c 5 % 2 = 0 then 0 else 2) + (if x.user then 4 else 0)
def ent (x : Cp) (cause value epc : Nat) : Cp :=
 ⟨ru x.c 1, x.r, (((x.c.set 5 (status x)).set 3 cause).set 4 value).set 2 epc, false, false, x.halts, x.count⟩
theorem VE (k : Nat) {x : Cp} (w : Wc x) (cause value epc : Nat) : Rt Pg (D (k + 1)) 153 [dH x, uv cause, uv value, uv epc] (dH (ent x cause value epc)) := .of (by
 have h5 := gu w.c 5
 rw [Dk, X6, w.c5 5 (by omega), iO]
 have e : (aD .and .u32 ((ru x.c 5 : Nat) : Int) 1 != 0) = !(ru x.c 5 % 2 == 0) := by
  rw [show (1 : Int) = 2 ^ 1 - 1 by decide, oJ 1 _ (by decide), show ((ru x.c 5 : Nat) : Int) % 2 ^ 1 = ((ru x.c 5 % 2 : Nat) : Int) by omega]; exact dX _ 0
 have hs : (.int .u32 (cond x.user (aD .or .u32 (cond (!(ru x.c 5 % 2 == 0)) (2 : Int) 0) 4) (cond (!(ru x.c 5 % 2 == 0)) (2 : Int) 0)) : AV) = uv (status x) := by
  unfold status
  by_cases h : ru x.c 5 % 2 = 0
  . rw [h]; cases x.user <;> rfl
  . have h1 : ru x.c 5 % 2 = 1 := by omega
    rw [h1]; cases x.user <;> rfl
 have hset : ((((x.c.map uv).set 5 (uv (status x))).set 3 (uv cause)).set 4 (uv value)).set 2 (uv epc) = ((((x.c.set 5 (status x)).set 3 cause).set 4 value).set 2 epc).map uv := by
  simp only [List.map_set]
 have h1 : ((((x.c.set 5 (status x)).set 3 cause).set 4 value).set 2 epc).length = 9 := by simp [w.cl]
 simp only [e, hs, hset]
 rw [eO (by rw [h1]; omega), iO]
 have : ru ((((x.c.set 5 (status x)).set 3 cause).set 4 value).set 2 epc) 1 = ru x.c 1 := by
  unfold ru
  simp [List.getD_eq_getElem?_getD, List.getElem?_set]
 rw [this]
 rfl) (by kernel_rfl)
theorem pU {l : List Nat} {i v : Nat} (h : ∀ n ∈ l, n < 4294967296) (hv : v < 4294967296) : ∀ n ∈ l.set i v, n < 4294967296 := fun n hn => by
 rcases List.mem_or_eq_of_mem_set hn with h1 | rfl
 . exact h n h1
 . exact hv
theorem Yd {x : Cp} (w : Wc x) {cause value epc : Nat} (h1 : cause < 4294967296) (h2 : value < 4294967296) (h3 : epc < 4294967296) : Wc (ent x cause value epc) := by
 have hs : status x < 4294967296 := by unfold status; split <;> split <;> omega
 exact ⟨gu w.c 1, w.rl, by simp [ent, w.cl], w.r, pU (pU (pU (pU w.c hs) h1) h2) h3⟩
def cB (x : Cp) (cause value epc : Nat) : Cp := ent { x with waits := false, count := x.count + 1 } cause value epc
theorem Qp {x : Cp} (w : Wc x) {cause value epc : Nat} (h1 : cause < 4294967296) (h2 : value < 4294967296) (h3 : epc < 4294967296) : Wc (cB x cause value epc) :=
 Yd (x := { x with waits := false, count := x.count + 1 }) ⟨w.pc, w.rl, w.cl, w.r, w.c⟩ h1 h2 h3
theorem Oa {n : Nat} (h : n < 4611686018427387904) : IntKind.i64.wrap ((n : Int) + 1) = ((n + 1 : Nat) : Int) := by rw [dP (by omega) (by omega)]; rfl
theorem lG (k : Nat) {x : Cp} (w : Wc x) (hc : x.count < 4611686018427387904) (cause value epc : Nat) (h1 : cause < 4294967296) : Rt Pg (D (k + 2)) 119 [dH x, .agg 192 [.int .i64 (cause : Int), uv value, uv epc]] (dH (cB x cause value epc)) := .of (by
 have r := VE k (x := { x with waits := false, count := x.count + 1 }) ⟨w.pc, w.rl, w.cl, w.r, w.c⟩ cause value epc
 rw [Dk, XA, Oa hc, w32 h1]
 simp only [r.ok, r.val, pO, g0, g1, g2, g3, g4, iO, bO]
 rfl) (by kernel_rfl)
def ni (x : Cp) : Cp := ⟨ru x.c 2, x.r, x.c.set 5 (if ru x.c 5 / 2 % 2 = 1 then 3 else 2), ru x.c 5 / 4 % 2 == 1, x.waits, x.halts, x.count⟩
theorem KZ (x b : Nat) (hx : x < 4294967296) (hb' : b = 2 \/ b = 4) : (aD .and .u32 (x : Int) (b : Int) != 0) = (x / b % 2 == 1) := by
 have h : ∀ r : Nat, r < 128 -> (!(r &&& 2 == 0)) = (r / 2 % 2 == 1) /\ (!(r &&& 4 == 0)) = (r / 4 % 2 == 1) := by decide +kernel
 rw [MO x b hx (by omega), show (((x &&& b : Nat) : Int) != 0) = !(x &&& b == 0) from dX _ 0, J8 x b (by omega)]
 have := h (x % 128) (by omega)
 rcases hb' with rfl | rfl
 . rw [this.1, show x % 128 / 2 % 2 = x / 2 % 2 by omega]
 . rw [this.2, show x % 128 / 4 % 2 = x / 4 % 2 by omega]
theorem PK (k : Nat) {x : Cp} (w : Wc x) : Rt Pg (D (k + 1)) 165 [dH x] (dH (ni x)) := .of (by
 have h5 := gu w.c 5
 rw [Dk, Zr, w.c5 5 (by omega), w.c5 2 (by omega), iO, iO]
 have b2 := KZ (ru x.c 5) 2 h5 (.inl rfl)
 have b4 := KZ (ru x.c 5) 4 h5 (.inr rfl)
 simp only [show ((2 : Nat) : Int) = 2 from rfl] at b2
 simp only [show ((4 : Nat) : Int) = 4 from rfl] at b4
 rw [b2, b4]
 have hset : (x.c.map uv).set 5 (.int .u32 2) = (x.c.set 5 2).map uv := by rw [List.map_set]; rfl
 have hat : ((x.c.set 5 2).map uv).getD 5 .dead = uv 2 := by
  rw [eO (by simp [w.cl])]; simp [ru, List.getD_eq_getElem?_getD, w.cl]
 have hset2 : ((x.c.set 5 2).map uv).set 5 (.int .u32 3) = (x.c.set 5 3).map uv := by
  rw [show (.int .u32 3 : AV) = uv 3 from rfl, <- List.map_set, List.set_set]
 rw [hset, hat, iO, show aD .or .u32 ((2 : Nat) : Int) 1 = 3 from rfl, hset2]
 unfold ni
 by_cases h : ru x.c 5 / 2 % 2 = 1
 . rw [h]; rfl
 . have h0 : ru x.c 5 / 2 % 2 = 0 := by omega
   rw [h0]; rfl) (by kernel_rfl)
theorem PS {x : Cp} (w : Wc x) : Wc (ni x) := ⟨gu w.c 2, w.rl, by simp [ni, w.cl], w.r, pU w.c (by split <;> omega)⟩
def jW (x : Cp) (n : Int) (p : Nat) : Nat × Nat := if n < 0 \/ 9 <= n then (0, 1) else if n = 7 then (rH p, 0) else (ru x.c n.toNat, 0)
theorem UW (k : Nat) {x : Cp} (w : Wc x) (n : Int) (p : Nat) (hp : p < 4294967296) : Rt Pg (D (k + 2)) 170 [dH x, .int .i64 n, uv p] (.tuple [uv (jW x n p).1, .int .i64 ((jW x n p).2 : Nat)]) := .of (by
 have r := I8 k p hp
 rw [Dk, Tj]
 simp only [r.ok, r.val, iO, Mc]
 unfold jW
 by_cases h : n < 0 \/ 9 <= n
 . rw [if_pos h, show (decide (n < 0) || decide ((9 : Int) <= n)) = true by simpa using h]; rfl
 . rw [if_neg h, show (decide (n < 0) || decide ((9 : Int) <= n)) = false by simpa using h]
   by_cases h7 : n = 7
   . rw [if_pos h7, beq_iff_eq.mpr h7]; rfl
   . rw [if_neg h7, beq_eq_false_iff_ne.mpr h7]
     obtain ⟨i, rfl⟩ : ∃ i : Nat, n = i := ⟨n.toNat, by omega⟩
     rw [dh (show i < 9 by omega), Int.toNat_natCast, w.c5 i (by omega), iO]; rfl) (by kernel_rfl)
theorem XD {x : Cp} (w : Wc x) (n : Int) (p : Nat) (hp : p < 4294967296) : (jW x n p).1 < 4294967296 := by
 unfold jW rH
 split
 . exact Nat.zero_lt_succ _
 . split
   . show p % 32 < _; omega
   . exact gu w.c _
def gJ (x : Cp) (n : Int) (v : Nat) : Cp × Nat := if n < 0 \/ 7 <= n then (x, 1) else ({ x with c := x.c.set n.toNat (if n = 5 then v % 8 else v) }, 0)
theorem XT (k : Nat) {x : Cp} (w : Wc x) (n : Int) (v : Nat) (hv : v < 4294967296) : Rt Pg (D (k + 1)) 171 [dH x, .int .i64 n, uv v] (.tuple [dH (gJ x n v).1, .int .i64 ((gJ x n v).2 : Nat)]) := .of (by
 rw [Dk, UA]
 simp only [Mc]
 unfold gJ
 by_cases h : n < 0 \/ 7 <= n
 . rw [if_pos h, show (decide (n < 0) || decide ((7 : Int) <= n)) = true by simpa using h]; rfl
 . rw [if_neg h, show (decide (n < 0) || decide ((7 : Int) <= n)) = false by simpa using h]
   obtain ⟨i, rfl⟩ : ∃ i : Nat, n = i := ⟨n.toNat, by omega⟩
   rw [dh (show i < 9 by omega), Int.toNat_natCast]
   have e : (.int .u32 (cond (((i : Nat) : Int) == 5) (aD .and .u32 (v : Int) 7) (v : Int)) : AV) = uv (if ((i : Nat) : Int) = 5 then v % 8 else v) := by
    by_cases h5 : ((i : Nat) : Int) = 5
    . rw [if_pos h5, beq_iff_eq.mpr h5, show (7 : Int) = 2 ^ 3 - 1 by decide, oJ 3 _ (by decide), show ((v : Int) % 2 ^ 3) = ((v % 8 : Nat) : Int) by omega]; rfl
    . rw [if_neg h5, beq_eq_false_iff_ne.mpr h5]; rfl
   rw [e, <- List.map_set]
   rfl) (by kernel_rfl)
theorem YZ {x : Cp} (w : Wc x) (n : Int) {v : Nat} (hv : v < 4294967296) : Wc (gJ x n v).1 := by
 unfold gJ
 split
 . exact w
 . exact ⟨w.pc, w.rl, by simp [w.cl], w.r, pU w.c (by split <;> omega)⟩
end Go.Proofs.Ytcknhfnbdgleiaa
