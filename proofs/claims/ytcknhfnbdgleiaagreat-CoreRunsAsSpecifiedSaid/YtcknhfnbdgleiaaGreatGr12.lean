/- The runs' law. -/
import Derived.Test.YtcknhfnbdgleiaaGreatGr11
set_option linter.unusedVariables false
set_option linter.unusedSimpArgs false
set_option maxRecDepth 10000
namespace Go.Proofs.YtcknhfnbdgleiaaGreat
open Go.AE
theorem Fx (k : Nat) {c : Cp} (h : Wv c) {m : aF} (wm : Wm m) (n : Int) (hn : n < 1000) (hc : c.count + n.toNat <= 1099511627776) :
    Rt Pg (D (k + 7)) 13 [bH c, mv m, .int .i64 n] (.tuple [bH (rn n.toNat c m).1, mv (rn n.toNat c m).2.1, .int .i64 (((rn n.toNat c m).2.2 : Nat) : Int)]) := .of (by
 have hN : (if 0 > n then 0 else n) = ((n.toNat : Nat) : Int) := by split <;> omega
 obtain ⟨_, _, hle, _⟩ := xO n.toNat h hc wm
 have e : Tr.run (qo (D (k + 6)) n ((n.toNat : Nat) : Int)) 100000 ((0 : Int), (c.pc : Int), c.r.map uv, c.c.map uv, c.user, c.waits, c.halts, (c.count : Int), m.map pg) = oc 0 n.toNat (rn n.toNat c m) := Lh k n n.toNat (by omega) n.toNat 0 c m 100000 h hc wm (by omega) (by omega)
 rw [Dk, acL, hN]
 unfold NQ
 rw [e]
 unfold oc
 generalize rn n.toNat c m = a at *
 by_cases hlt : a.2.2 < n.toNat
 . rw [decide_eq_true hlt]
   simp only [cond_true, Nat.zero_add]
   rfl
 . rw [decide_eq_false hlt]
   have : a.2.2 = n.toNat := by omega
   simp only [cond_false, this]
   rfl) (by kernel_rfl)
theorem acM (k : Nat) {c : Cp} (h : Wv c) {m : aF} (wm : Wm m) (n : Int) (hn : n < 1000) (hc : c.count + n.toNat <= 1099511627776) :
    Rt Pg (D (k + 11)) 14 [bH c, mv m, .int .i64 n] (.agg 45 [bH (rn n.toNat c m).1, mv (rn n.toNat c m).2.1, .int .i64 (((rn n.toNat c m).2.2 : Nat) : Int)]) := .of (by
 obtain ⟨_, _, hle, _⟩ := xO n.toNat h hc wm
 have e : ∀ (i1 : Int) (l0 l1 : List AV) (b0 b1 b2 : Bool) (i2 : Int) (l2 : List AV), Tr.run (oP (D (k + 10)) n i1 l0 l1 b0 b1 b2 i2 l2) 100000 ((c.pc : Int), c.r.map uv, c.c.map uv, c.user, c.waits, c.halts, (c.count : Int), m.map pg, (0 : Int)) = vZ 0 n.toNat (rn n.toNat c m) := fun i1 l0 l1 b0 b1 b2 i2 l2 => NV k n n.toNat rfl (by omega) i1 l0 l1 b0 b1 b2 i2 l2 n.toNat 0 c m 100000 h hc wm (by omega) (by omega)
 rw [Dk, Uw]
 unfold Po
 rw [e]
 unfold vZ
 generalize rn n.toNat c m = a at *
 by_cases hlt : a.2.2 < n.toNat
 . rw [decide_eq_true hlt]
   simp only [cond_true, Nat.zero_add]
   rfl
 . rw [decide_eq_false hlt]
   have : a.2.2 = n.toNat := by omega
   simp only [cond_false, Nat.zero_add, this]
   rfl) (by kernel_rfl)
theorem Np : ∀ (l : List Nat), iC (l.map bv) (l.map bv) = true
 | [] => rfl
 | n :: l => by
  have := Np l
  simp [iC, mU, this]
theorem NY {F : Tab} (l1 l2 : List AV) (m : aF) (hm : m.length <= 64) : ∀ (j i fuel : Nat), i + j = m.length -> j < fuel -> Tr.run (qM F l1 l2 (m.map pg) (m.map pg)) fuel ([], (i : Int)) = ⟨1, [], [], [[]], [], [], []⟩
 | 0, i, fuel, hi, hf => by
  obtain ⟨f, rfl⟩ : ∃ f, fuel = f + 1 := ⟨fuel - 1, by omega⟩
  obtain rfl : i = m.length := by omega
  rw [dM]
  simp only [qM, Iz, Tr.eval, List.length_map, ite_self, ow, cond_false]
 | j + 1, i, fuel, hi, hf => by
  obtain ⟨f, rfl⟩ : ∃ f, fuel = f + 1 := ⟨fuel - 1, by omega⟩
  have h : i < m.length := by omega
  have hp : (m.map pg).getD i .dead = pg (m[i]'h) := by simp [h]
  have hpp : au (pg (m[i]'h)) = (m[i]'h).map bv := rfl
  have hle : decide (((m.length : Nat) : Int) <= (i : Int)) = false := decide_eq_false (by omega)
  rw [dM]
  simp only [qM, Iz, Tr.eval, List.length_map, ite_self, lt_n h, bF h, kD (show i < 1000000 by omega), cond_true, cond_false, hle, vT, Bool.false_or, Int.toNat_natCast, hp, hpp, Np, Bool.not_true]
  exact NY l1 l2 m hm j (i + 1) f (by omega) (by omega)
theorem Mj (k : Nat) (m : aF) (hm : m.length <= 64) : Rt Pg (D (k + 1)) 15 [mv m, mv m] (.bool true) := .of (by
 have e : ∀ l1 l2, Tr.run (qM (D k) l1 l2 (m.map pg) (m.map pg)) 100000 ([], (0 : Int)) = ⟨1, [], [], [[]], [], [], []⟩ := fun l1 l2 => NY l1 l2 m hm m.length 0 100000 (by omega) (by omega)
 rw [Dk, ab1]
 unfold Ls
 rw [e]
 rfl) (by kernel_rfl)
theorem YA (k : Nat) {c : Cp} (h : Wv c) (hc : c.count <= 1099511627476) {m : aF} (wm : Wm m) (n : Int) (hn : n <= 45) (q : Nat) (hq : q < 256) :
    D (k + 13) 5 [bH c, mv m, .int .i64 n, bv q] = some (.bool true) := by
 have rs : Rt Pg (D (k + 12)) 7 [] (.bool true) := JX k
 have r0 : Rt Pg (D (k + 12)) 6 [bH c, mv m] (.bool true) := Vz (k + 10) h (by omega) wm
 have r1 : Rt Pg (D (k + 12)) 13 [bH c, mv m, .int .i64 n] _ := Fx (k + 5) h wm n (by omega) (by omega)
 have r2 : Rt Pg (D (k + 12)) 14 [bH c, mv m, .int .i64 n] _ := acM (k + 1) h wm n (by omega) (by omega)
 obtain ⟨a1, a2, a3, a4⟩ := xO n.toNat h (show c.count + n.toNat <= 1099511627776 by omega) wm
 have r5 : Rt Pg (D (k + 12)) 15 [mv (rn n.toNat c m).2.1, mv (rn n.toNat c m).2.1] (.bool true) := Mj (k + 11) _ a4.le
 have hcd : decide ((1099511627476 : Int) < (c.count : Int)) = false := decide_eq_false (by omega)
 have hnd : decide ((45 : Int) < n) = false := decide_eq_false (by omega)
 have hw1 : IntKind.i64.wrap (q : Int) = (q : Int) := bR (by omega) (by omega)
 by_cases hend : n < 0 \/ (((rn n.toNat c m).2.2 : Nat) : Int) < n
 . have hE : cond (decide (n < 0)) true (decide ((((rn n.toNat c m).2.2 : Nat) : Int) < n)) = true := by
     rcases hend with hend | hend
     . rw [decide_eq_true hend]; rfl
     . rw [decide_eq_true hend]; cases decide (n < 0) <;> rfl
   generalize rn n.toNat c m = a at *
   rw [Dk, BZ]
   simp only [r0.ok, r0.val, r1.ok, r1.val, r2.ok, r2.val, bO, Bool.not_true, cond_true, cond_false, hcd, hnd, rs.ok, rs.val, tO, pO, g0, g1, g2, g3, g4, g5, g6, iO, lO, zS, beq_self_eq_true, Bool.and_self, bne_self_eq_false, jI, IK, vT, Bool.false_or, r5.ok, r5.val, hE, Bool.not_false, Bool.or_false, Bool.and_true]
 . have hn0 : 0 <= n := by omega
   obtain ⟨N, rfl⟩ : ∃ N : Nat, n = (N : Int) := ⟨n.toNat, by omega⟩
   rw [Int.toNat_natCast] at *
   have hdn : (rn N c m).2.2 = N := by omega
   have hE : cond (decide ((N : Int) < 0)) true (decide ((((rn N c m).2.2 : Nat) : Int) < (N : Int))) = false := by
    rw [decide_eq_false (show ¬ (N : Int) < 0 by omega), hdn, decide_eq_false (show ¬ (N : Int) < (N : Int) by omega)]; rfl
   have hw2 : IntKind.i64.wrap ((N : Int) + (q : Int)) = ((N + q : Nat) : Int) := by rw [bR (by omega) (by omega)]; rfl
   have r3 : Rt Pg (D (k + 12)) 13 [bH (rn N c m).1, mv (rn N c m).2.1, .int .i64 (q : Int)] _ := Fx (k + 5) a1 a4 (q : Int) (by omega) (by rw [Int.toNat_natCast]; omega)
   have r4 : Rt Pg (D (k + 12)) 13 [bH c, mv m, .int .i64 ((N + q : Nat) : Int)] _ := Fx (k + 5) h wm ((N + q : Nat) : Int) (by omega) (by rw [Int.toNat_natCast]; omega)
   rw [Int.toNat_natCast] at r3 r4
   rw [JI N q c m hdn] at r4
   dsimp only at r4
   obtain ⟨b1, b2, b3, b4⟩ := xO q a1 (show (rn N c m).1.count + q <= 1099511627776 by omega) a4
   have r6 : Rt Pg (D (k + 12)) 15 [mv (rn q (rn N c m).1 (rn N c m).2.1).2.1, mv (rn q (rn N c m).1 (rn N c m).2.1).2.1] (.bool true) := Mj (k + 11) _ b4.le
   have hw3 : IntKind.i64.wrap ((((rn N c m).2.2 : Nat) : Int) + (((rn q (rn N c m).1 (rn N c m).2.1).2.2 : Nat) : Int)) = ((N + (rn q (rn N c m).1 (rn N c m).2.1).2.2 : Nat) : Int) := by rw [hdn, bR (by omega) (by omega)]; rfl
   generalize rn q (rn N c m).1 (rn N c m).2.1 = b at *
   generalize rn N c m = a at *
   rw [Dk, BZ]
   simp only [r0.ok, r0.val, r1.ok, r1.val, r2.ok, r2.val, bO, Bool.not_true, cond_true, cond_false, hcd, hnd, rs.ok, rs.val, tO, pO, g0, g1, g2, g3, g4, g5, g6, iO, lO, zS, beq_self_eq_true, Bool.and_self, bne_self_eq_false, jI, IK, vT, Bool.false_or, r5.ok, r5.val, hE, Bool.not_false, Bool.or_false, Bool.and_true, hw1, hw2]
   simp only [r3.ok, r3.val, r4.ok, r4.val, bO, Bool.not_true, cond_true, cond_false, tO, pO, g0, g1, g2, g3, g4, g5, g6, iO, lO, zS, beq_self_eq_true, Bool.and_self, bne_self_eq_false, jI, IK, vT, Bool.false_or, r6.ok, r6.val, Bool.not_false, Bool.or_false, Bool.and_true, hw3]
   rfl
theorem ab6 (k : Nat) (pc : Nat) (hpc : pc < 4294967296) (r c : List Nat) (hr : r.length = 16) (hr2 : ∀ n ∈ r, n < 4294967296) (hc : c.length = 9) (hc2 : ∀ n ∈ c, n < 4294967296) (u wt ht : Bool) (n : Int) (m : aF) (hm : RI m) (s : Int) (q : Nat) (hq : q < 256) :
    D (k + 13) 5 [xM (uv pc) (r.map uv) (c.map uv) u wt ht n, mv m, .int .i64 s, bv q] = some (.bool true) := by
 have rs : Rt Pg (D (k + 12)) 7 [] (.bool true) := JX k
 have r1 : Rt Pg (D (k + 12)) _ _ _ := QU (k + 10) pc r c hr hc u wt ht n m
 cases hR : qz r c wt ht n m with
 | false =>
  rw [Dk, BZ]
  simp only [r1.ok, r1.val, hR, bO, Bool.not_false, cond_true, rs.ok, rs.val]
 | true =>
  obtain ⟨cnt, rfl, hcnt, hv', h1, h2⟩ := Uo (pc := pc) (u := u) hR
  by_cases hb : (1099511627476 : Int) < (cnt : Int) \/ (45 : Int) < s
  . have hE : cond (decide ((1099511627476 : Int) < (cnt : Int))) true (decide ((45 : Int) < s)) = true := by
      rcases hb with hb | hb
      . rw [decide_eq_true hb]; rfl
      . rw [decide_eq_true hb]; cases decide ((1099511627476 : Int) < (cnt : Int)) <;> rfl
    rw [Dk, BZ]
    simp only [r1.ok, r1.val, hR, bO, Bool.not_true, cond_true, cond_false, hE, rs.ok, rs.val]
  . exact YA k (c := ⟨pc, r, c, u, wt, ht, cnt⟩) ⟨⟨hpc, hr, hc, hr2, hc2⟩, hv'⟩ (by show cnt <= _; omega) ⟨h1, h2, fun p hp => (hm p hp).1, fun p hp => (hm p hp).2⟩ s (by omega) q hq
end Go.Proofs.YtcknhfnbdgleiaaGreat
