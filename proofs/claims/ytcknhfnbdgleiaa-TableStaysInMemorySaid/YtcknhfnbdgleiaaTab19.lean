/- Walks stay in the memory. -/
import Derived.Test.YtcknhfnbdgleiaaTab18
import Derived.Test.YtcknhfnbdgleiaaTsD
import Derived.Test.YtcknhfnbdgleiaaTsN0
set_option linter.unusedVariables false
set_option linter.unusedSimpArgs false
namespace Go.Proofs.Ytcknhfnbdgleiaa
open Go.AE

theorem nf_msize (F : Tab) (l0 : List AV) : fnV (cx F) 6 22 [.agg 23 [.slice 118 l0 false]] = some (.int .i64 (IntKind.i64.wrap (((l0.length : Nat) : Int) * 128))) := by kernel_rfl
theorem r_msize (k : Nat) {m : Pgs} (w : Wm m) : Rt Pg (D (k + 1)) 22 [mv m] (.int .i64 (128 * m.length : Nat)) := .of (by
  rw [Dk, nf_msize, size_n w]) (by kernel_rfl)
theorem andN0 (x : Int) : ((0 : Int) != 0) = false := rfl
open S2 in
theorem lp_step (k : Nat) {m : Pgs} (w : Wm m) {a v e : Nat} (ha : a < 4294967296) (ht : th m a 4 = true) (he : ld m a 4 = e) (hx : ibits .andNot .u32 (ibits .xor .u32 (e : Int) (v : Int)) 48 = 0) (hn : ibits .andNot .u32 (e : Int) (v : Int) = 0) (hne : (e == v) = false)
    (i0 i1 i2 : Int) (b0 : Bool) (i5 : Int) (l2 l3 : List AV) (K : Int → LO) :
    (st_law10_TableStaysInMemory_13 (D (k + 1)) i0 i1 i2 b0 ([(⟨a, 4, v⟩ : Wr)].map wv) 1 (m.map pg) i5 a l2 l3 0).eval K = K 1 := by
  have r := r_load k w a 4 ha (.inr rfl)
  rw [ht, he] at r
  simp only [show ((4 : Nat) : Int) = 4 from rfl, cond_true] at r
  simp only [st_law10_TableStaysInMemory_13, sp_law10_TableStaysInMemory_13, Tr.eval, r.ok, r.val, tO, g0, g1, iO, bO, List.map_cons, List.map_nil, show (0 : Int).toNat = 0 from rfl, pO, g2, hx, hn, andN0, show (((4 : Nat) : Int) != 4) = false from rfl, bne_self_eq_false,
    show ((e : Int) == (v : Int)) = false from (beqN e v).trans hne]
  rfl
theorem leaf_len (reads : List Nat) (a b : Nat) (h : reads = [a] ∨ reads = [b, a]) : ((((reads.map iv).length : Nat) : Int) == 0) = false ∧ decide ((2 : Int) < (((reads.map iv).length : Nat) : Int)) = false ∧
    inB (IntKind.i64.wrap ((((reads.map iv).length : Nat) : Int) - 1)) (reads.map iv).length = true ∧ intOf ((reads.map iv).getD (IntKind.i64.wrap ((((reads.map iv).length : Nat) : Int) - 1)).toNat .dead) = (a : Int) ∧ inB 0 (reads.map iv).length = true ∧
    ((((reads.map iv).length : Nat) : Int) == 2) = (reads.length == 2) ∧ intOf ((reads.map iv).getD 0 .dead) = ((reads.getD 0 0 : Nat) : Int) := by
  rcases h with rfl | rfl <;> exact ⟨rfl, rfl, rfl, rfl, rfl, rfl, rfl⟩
theorem Fd.two {m : Pgs} {root va e page a : Nat} {reads : List Nat} (f : Fd m root va e page a reads) : reads = [a] ∨ reads = [at1 root va, a] := by
  rcases f.how with ⟨h, _⟩ | ⟨h, _⟩
  · exact .inl h
  · exact .inr h
open S2 in
set_option maxHeartbeats 1000000 in
theorem law4_true (k : Nat) (m : Pgs) (hm : pgsOK m) (root va : Nat) (acc : Int) (user : Bool) (hr : root < 4294967296) (hv : va < 4294967296) :
    E (k + 13) 4 [mv m, .int .u32 (root : Int), .int .u32 (va : Int), .int .i64 acc, .bool user] = some (.bool true) := by
  have rs := rt_sanity (k + 1)
  have rv := r_valid (k + 12) (m.map pg)
  have ra := r_access (k + 12) acc
  show fnV (S2.cx (D (k + 13))) 6 4 _ = _
  rw [S2.nf_law10_TableStaysInMemory]
  simp only [rs.ok, rs.val, rv.ok, rv.val, ra.ok, ra.val, bO, condB_tt, cond_true]
  cases h1 : (decide (1 ≤ (m.map pg).length) && decide ((m.map pg).length ≤ 64)) with
  | false => rfl
  | true =>
  cases h2 : (decide (1 ≤ acc) && decide (acc ≤ 4)) with
  | false => rfl
  | true =>
  have w := wm_of hm h1
  have hl := w.le
  obtain ⟨n, rfl, n1⟩ := acc_of h2
  have e1 : Rt Pg (D (k + 13)) _ _ _ := r_walk (k + 10) w root va n user hr hv n1
  have hz := cz_pos n1
  have rm := r_msize (k + 12) w
  unfold wkT wkA at e1
  have hbad : ∀ r : List Nat, r.length ≤ 2 → decide ((((r.map iv).length : Nat) : Int) ≤ 2) = true := fun r h => decide_eq_true (by rw [List.length_map]; omega)
  rcases walk_cases m root va with ⟨r, hr2, h⟩ | ⟨hz0, h3, h⟩ | ⟨e, page, a, reads, f, h⟩
  · rw [h] at e1
    unfold bad at e1
    simp only [Bool.not_true, cond_false, e1.ok, e1.val, tO, pO, g0, g1, g2, g3, iO, lO, bne, hz, Bool.not_false, hbad r hr2, beq_self_eq_true, cond_true, List.map_nil, List.length_nil, show ((0 : Nat) : Int) = 0 from rfl]
  · rw [h] at e1
    have p5 : ((root : Int) == 0) = true := by rw [hz0]; rfl
    dsimp only at e1
    have q1 : decide ((va : Int) < 0) = false := decide_eq_false (by omega)
    have q2 : decide (((128 * m.length : Nat) : Int) ≤ (va : Int)) = false := decide_eq_false (by omega)
    simp only [Bool.not_true, cond_false, e1.ok, e1.val, tO, pO, g0, g1, g2, g3, iO, lO, bne_self_eq_false, beq_self_eq_true, cond_true, List.map_nil, List.length_nil, show ((0 : Nat) : Int) = 0 from rfl, rm.ok, rm.val, q1, q2, w64 (show va < 9223372036854775808 by omega), condB_tt, p5]
    rfl
  · have hb : (walk m root va n user).cause = 0 ∨ walk m root va n user = bad n reads := by
      rw [h]; cases may e n user <;> simp [good]
    cases hmay : may e n user with
    | false =>
      rw [h, hmay, cond_false] at e1
      unfold bad at e1
      have hr2 : reads.length ≤ 2 := by rcases f.two with h | h <;> rw [h] <;> simp
      simp only [Bool.not_true, cond_false, e1.ok, e1.val, tO, pO, g0, g1, g2, g3, iO, lO, bne, hz, Bool.not_false, hbad reads hr2, beq_self_eq_true, cond_true, List.map_nil, List.length_nil, show ((0 : Nat) : Int) = 0 from rfl]
    | true =>
      rw [h, hmay, cond_true] at e1
      unfold good at e1
      dsimp only at e1
      obtain ⟨i1, i2, i3⟩ := f.a_in w
      have g := pgd_of f.hp
      have hva := f.hv
      have ha : a < 4294967296 := by omega
      have he : e < 4294967296 := by rw [f.he]; exact wo_lt w a
      have hu := upd_lt e n he
      obtain ⟨x1, x2⟩ := upd_x (acc := n) he
      have hld : ld m a 4 = e := by rw [f.he, wo, i1]; rfl
      obtain ⟨q1, q2, q3, q4, q5, q6, q7⟩ := leaf_len reads a (at1 root va) f.two
      have p1 : decide (((page + va % 128 : Nat) : Int) < 0) = false := decide_eq_false (by omega)
      have p2 : decide (((128 * m.length : Nat) : Int) ≤ ((page + va % 128 : Nat) : Int)) = false := decide_eq_false (by omega)
      have p3 : (((page + va % 128 : Nat) : Int).tmod 128 != ((va : Nat) : Int).tmod 128) = false := by
        rw [m128, m128, bneN]; simp; omega
      have p4 : decide ((a : Int) < 0) = false := decide_eq_false (by omega)
      have p5 : ((root : Int) == 0) = false := (beqN root 0).trans (beq_eq_false_iff_ne.mpr f.r0)
      cases hue : upd e n == e with
      | true =>
        rw [hue, cond_true] at e1
        have r2 : Rt Pg (D (k + 13)) _ _ _ := r_apply (k + 12) w [] (by simp) (by simp)
        simp only [List.map_nil, apR, ap, cond_true] at r2 e1
        simp only [Bool.not_true, Bool.not_false, cond_false, cond_true, e1.ok, e1.val, tO, pO, g0, g1, g2, g3, iO, lO, bO, bne_self_eq_false, beq_self_eq_true, List.length_nil, show ((0 : Nat) : Int) = 0 from rfl, rm.ok, rm.val, w64 (show va < 9223372036854775808 by omega), condB_tt, condB_t, condB_t', Bool.or_true,
          p1, p2, p3, p4, p5, q1, q2, q3, q4, q5, q6, q7, show decide ((1 : Int) < 0) = false from rfl, r2.ok, r2.val]
        cases c1 : reads.length == 2 <;> cases c2 : ((reads.getD 0 0 : Nat) : Int) == (a : Int) <;> rfl
      | false =>
        rw [hue, cond_false] at e1
        have hxok : (⟨a, 4, upd e n⟩ : Wr).ok := ⟨ha, .inr rfl, hu⟩
        have r2 : Rt Pg (D (k + 13)) _ _ _ := r_apply (k + 12) w [⟨a, 4, upd e n⟩] (by simp) (by simpa using hxok)
        simp only [apR, ap, i1, if_true, cond_true] at r2
        have hw' : Wm (st m a (wb (upd e n))) := st_wm w i2 (by show a % 128 + 4 ≤ 128; omega) (wb_lt _)
        rw [show (⟨a, 4, upd e n⟩ : Wr).d = wb (upd e n) from rfl] at r2
        have hlp : ∀ i0 i1 i2 b0 i5 l2 l3, lf_law10_TableStaysInMemory_13 (D (k + 13)) i0 i1 i2 b0 ([(⟨a, 4, upd e n⟩ : Wr)].map wv) 1 (m.map pg) i5 a l2 l3 100000 0 = ⟨2, [], [], [], [], [], []⟩ := fun j0 j1 j2 b0 i5 l2 l3 => by
          unfold lf_law10_TableStaysInMemory_13
          rw [show (100000 : Nat) = 99998 + 1 + 1 from rfl]
          refine (runN (fun K => lp_step (k + 12) w ha i1 hld x1 x2 (by rw [beq_eq_false_iff_ne] at hue ⊢; exact fun hh => hue hh.symm) j0 j1 j2 b0 i5 l2 l3 K) (99998 + 1)).trans (runE (fun K => rfl) 99998)
        simp only [List.map_cons, List.map_nil] at e1 r2 hlp
        simp only [Bool.not_true, Bool.not_false, cond_false, cond_true, e1.ok, e1.val, tO, pO, g0, g1, g2, g3, iO, lO, bO, bne_self_eq_false, beq_self_eq_true, List.length_cons, List.length_nil, show ((0 + 1 : Nat) : Int) = 1 from rfl, rm.ok, rm.val, w64 (show va < 9223372036854775808 by omega), condB_tt, condB_t, condB_t', Bool.or_true,
          p1, p2, p3, p4, p5, q1, q2, q3, q4, q5, q6, q7, show decide ((1 : Int) < 1) = false from rfl, r2.ok, r2.val, hlp]
        cases c1 : (cond (reads.length == 2) (((reads.getD 0 0 : Nat) : Int) == (a : Int)) false) with
        | true => rfl
        | false =>
          have ho : ¬ (reads.length = 2 ∧ reads.getD 0 0 = a) := by
            rintro ⟨o1, o2⟩
            rw [o1, o2] at c1
            simp at c1
          obtain ⟨y1, y2⟩ := rewalk w f hmay ho
          have e2 : Rt Pg (D (k + 13)) _ _ _ := r_walk (k + 10) hw' root va n user hr hv n1
          rw [y1] at e2
          unfold wkT wkA good at e2
          rw [y2] at e2
          simp only [beq_self_eq_true, cond_true, List.map_nil] at e2
          simp only [e2.ok, e2.val, tO, pO, g0, g1, g2, iO, lO, beq_self_eq_true, cond_true, cond_false, show ((2 : Nat) == 1) = false from rfl, show ((2 : Nat) == 2) = true from rfl, List.length_nil, show ((0 : Nat) : Int) = 0 from rfl]
          rfl
end Go.Proofs.Ytcknhfnbdgleiaa
