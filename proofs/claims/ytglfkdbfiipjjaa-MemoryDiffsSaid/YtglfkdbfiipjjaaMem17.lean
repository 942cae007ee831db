/- The memory's laws, in plain terms: what was written is read. -/
import Derived.Test.YtglfkdbfiipjjaaMem16
set_option linter.unusedVariables false
set_option linter.unusedSimpArgs false
namespace Go.Proofs.Ytglfkdbfiipjjaa
open Go.AE

/-- The byte at an address, as a text has it. -/
def bt (l : List AV) (y : Nat) : UInt8 := Go.AE.byteOf (.int .u8 (byN l y))
theorem rrN_map (l : List AV) (a : Nat) : ∀ n, (rrN l a n).map Go.AE.byteOf = (List.range n).map fun i => bt l (a + i)
  | 0 => rfl
  | n + 1 => by rw [rrN, List.map_append, rrN_map l a n, List.range_succ, List.map_append]; rfl
theorem rd_list {l : List AV} {a n : Nat} (h : okF l = true) (hn : a + n ≤ 128 * l.length) : inR l a n = true ∧ rdF l a n = (List.range n).map fun i => bt l (a + i) := by
  have hi : inR l a n = true := (inR_spec (okF_spec h).2.1).2 (by omega)
  refine ⟨hi, ?_⟩
  rw [rd_rrd _ _ _ h]
  unfold rrdF
  rw [hi, cond_true, Int.toNat_natCast, Int.toNat_natCast, rrN_map]
theorem bt_wr {l : List AV} {a : Nat} {s : List UInt8} (h : okF l = true) (hn : a + s.length ≤ 128 * l.length) (y : Nat) : bt (wrF l a s) y = if a ≤ y ∧ y < a + s.length then s.getD (y - a) 0 else bt l y := by
  have hwi : inW l a s.length = true := (inW_spec (okF_spec h).2.1).2 (by omega)
  rw [wr_rwr _ _ h]
  unfold rwrF
  rw [hwi, cond_true, Int.toNat_natCast, sz0_eq (rwN_ok _ h hn).2]
  unfold bt
  rw [byN_rw _ h hn]
  split
  · show UInt8.ofNat (Int.toNat (((s.getD (y - a) 0).toNat : Nat) : Int)) = _
    rw [Int.toNat_natCast, UInt8.ofNat_toNat]
  · rfl
theorem tm {x m : Int} (hx : 0 ≤ x) (hm : 0 < m) : ∃ k : Nat, x.tmod m = (k : Int) ∧ (k : Int) < m := by
  rw [Int.tmod_eq_emod_of_nonneg hx]
  have h1 := Int.emod_nonneg x (show m ≠ 0 by omega)
  have h2 := Int.emod_lt_of_pos x hm
  exact ⟨(x % m).toNat, by omega, by omega⟩
theorem split_text (t d s : List UInt8) (a : Nat) (ha : a + d.length ≤ t.length) (hs : s.length = t.length) (h : ∀ y, y < t.length → s.getD y 0 = if a ≤ y ∧ y < a + d.length then d.getD (y - a) 0 else t.getD y 0) :
    s = sub t 0 a ++ d ++ sub t (a + d.length) t.length := by
  have l1 : (sub t 0 a).length = a := by unfold sub; simp; omega
  have l2 : (sub t (a + d.length) t.length).length = t.length - (a + d.length) := by unfold sub; simp
  refine List.ext_getElem (by simp only [List.length_append, l1, l2]; omega) fun y hy hy2 => ?_
  have := h y (by omega)
  simp only [List.getD, List.getElem?_eq_getElem hy, Option.getD_some] at this
  rw [this]
  simp only [List.getElem_append, List.length_append, l1]
  by_cases c1 : y < a
  · rw [if_neg (by omega), dif_pos (by omega), dif_pos c1]
    simp only [sub, List.drop_zero, List.getElem_take, List.getElem?_eq_getElem (show y < t.length by omega), Option.getD_some]
  · by_cases c2 : y < a + d.length
    · rw [if_pos (by omega), dif_pos c2, dif_neg c1]
      simp only [List.getElem?_eq_getElem (show y - a < d.length by omega), Option.getD_some]
    · rw [if_neg (by omega), dif_neg c2]
      simp only [sub, List.getElem_drop, List.getElem_take, List.getElem?_eq_getElem (show y < t.length by omega), Option.getD_some]
      congr 1
      omega
theorem law8_true (l : List AV) (a : Int) (data : List UInt8) (fr n : Int) (hp : ∀ p ∈ l, pgOK p = true) (f0 : 0 ≤ fr) (f1 : fr < 65536) (n0 : 0 ≤ n) (n1 : n < 65536) : fnV (cxG F0 2) 6 8 [Mv l, .int .i64 a, .str data, .int .u16 fr, .int .u16 n] = some (.bool true) := by
  rw [law8]
  have ev : F0.vld l = vldF l := rfl
  rw [ev]
  cases hv : vldF l with
  | false => rfl
  | true =>
    cases h9 : decide (9000 < (data.length : Int)) with
    | true => rfl
    | false =>
      have hd9 := of_decide_eq_false h9
      have h := ok_of hp hv
      obtain ⟨l1, l2, _⟩ := okF_spec h
      have e1 : F0.ok l = true := h
      have e2 : F0.sz l = 128 * (l.length : Int) := sz_id l2
      have g1 : IntKind.i64.wrap (128 * (l.length : Int) + 1) = 128 * (l.length : Int) + 1 := wrap_i64_id (by omega) (by omega)
      have g2 : IntKind.i64.wrap fr = fr := wrap_i64_id (by omega) (by omega)
      have g3 : IntKind.i64.wrap n = n := wrap_i64_id (by omega) (by omega)
      obtain ⟨f, ef, hf⟩ := tm f0 (show 0 < 128 * (l.length : Int) + 1 by omega)
      have g4 : (128 * (l.length : Int) + 1 == 0) = false := by simp; omega
      simp only [Bool.not_true, cond_false, cond_true, e1, e2, g1, g2, g3, g4, ef, Bool.not_false]
      have g5 : IntKind.i64.wrap (128 * (l.length : Int) - f) = 128 * (l.length : Int) - f := wrap_i64_id (by omega) (by omega)
      have g6 : IntKind.i64.wrap (128 * (l.length : Int) - f + 1) = 128 * (l.length : Int) - f + 1 := wrap_i64_id (by omega) (by omega)
      have g7 : (128 * (l.length : Int) - f + 1 == 0) = false := by simp; omega
      obtain ⟨k, ek, hk⟩ := tm n0 (show 0 < 128 * (l.length : Int) - f + 1 by omega)
      have g8 : IntKind.i64.wrap ((f : Int) + k) = ((f + k : Nat) : Int) := by rw [wrap_i64_id (by omega) (by omega)]; rfl
      simp only [g5, g6, g7, ek, g8, Bool.not_false, cond_true]
      obtain ⟨a1, a2⟩ := rd_list (a := 0) (n := f) h (by omega)
      obtain ⟨b1, b2⟩ := rd_list (a := f) (n := k) h (by omega)
      obtain ⟨c1, c2⟩ := rd_list (a := 0) (n := f + k) h (by omega)
      have a1' : F0.rdB l 0 f = true := a1
      have b1' : F0.rdB l f k = true := b1
      have c1' : F0.rdB l 0 ((f + k : Nat) : Int) = true := c1
      have a2' : F0.rd l 0 f = (List.range f).map fun i => bt l (0 + i) := a2
      have b2' : F0.rd l f k = (List.range k).map fun i => bt l (f + i) := b2
      have c2' : F0.rd l 0 ((f + k : Nat) : Int) = (List.range (f + k)).map fun i => bt l (0 + i) := c2
      have hjoin : F0.rd l 0 f ++ F0.rd l f k = F0.rd l 0 ((f + k : Nat) : Int) := by
        rw [a2', b2', c2', List.range_add, List.map_append, List.map_map]
        congr 1
        apply List.map_congr_left
        intro i _
        show bt l (f + i) = bt l (0 + (f + i))
        rw [Nat.zero_add]
      have hlen : ((((F0.rd l 0 f).length + (F0.rd l f k).length : Nat)) : Int) ≤ intMax64 := by
        rw [a2', b2', List.length_map, List.length_map, List.length_range, List.length_range]
        have : intMax64 = 9223372036854775807 := rfl
        omega
      simp only [a1', b1', c1', decide_eq_true hlen, hjoin, Bool.not_true, cond_false, cond_true, condB_eq, beq_self_eq_true]
      have e3 : F0.wrB l a data = inW l a data.length := rfl
      have hout : (cond (decide (a < 0)) true (cond (decide (128 * (l.length : Int) < a)) true (decide (IntKind.i64.wrap (128 * (l.length : Int) - a) < (data.length : Int))))) = !(inW l a data.length) := by
        unfold inW
        rw [sz_id l2]
        cases decide (a < 0) <;> cases decide (128 * (l.length : Int) < a) <;> cases decide (IntKind.i64.wrap (128 * (l.length : Int) - a) < (data.length : Int)) <;> rfl
      rw [e3, hout]
      cases hw : inW l a data.length with
      | false =>
        have e4 : F0.wr l a data = l := by show wrF l a data = l; unfold wrF; rw [hw]; rfl
        have e5 : F0.okd l = true := okd_of h
        have e6 : F0.df l l = [] := df_self h
        simp [e4, e5, e6]
      | true =>
        obtain ⟨w1, w2, w3⟩ := (inW_spec l2).1 hw
        obtain ⟨x, rfl⟩ : ∃ x : Nat, a = (x : Int) := ⟨a.toNat, by omega⟩
        obtain ⟨x1, x2⟩ := wr_ok (x : Int) data h
        have e4 : F0.ok (F0.wr l x data) = true := x1
        have eL : (128 * (l.length : Int)) = ((128 * l.length : Nat) : Int) := by omega
        rw [eL]
        obtain ⟨p1, p2⟩ := rd_list (a := 0) (n := 128 * l.length) h (by omega)
        obtain ⟨q1, q2⟩ := rd_list (a := 0) (n := 128 * l.length) x1 (by omega)
        have p1' : F0.rdB l 0 ((128 * l.length : Nat) : Int) = true := p1
        have q1' : F0.rdB (F0.wr l x data) 0 ((128 * l.length : Nat) : Int) = true := q1
        have p2' : F0.rd l 0 ((128 * l.length : Nat) : Int) = (List.range (128 * l.length)).map fun i => bt l (0 + i) := p2
        have q2' : F0.rd (F0.wr l x data) 0 ((128 * l.length : Nat) : Int) = (List.range (128 * l.length)).map fun i => bt (wrF l x data) (0 + i) := q2
        have pl : (F0.rd l 0 ((128 * l.length : Nat) : Int)).length = 128 * l.length := by rw [p2']; simp
        have ql : (F0.rd (F0.wr l x data) 0 ((128 * l.length : Nat) : Int)).length = 128 * l.length := by rw [q2']; simp
        have g9 : IntKind.i64.wrap ((x : Int) + (data.length : Int)) = ((x + data.length : Nat) : Int) := by rw [wrap_i64_id (by omega) (by omega)]; rfl
        have hsp : F0.rd (F0.wr l x data) 0 ((128 * l.length : Nat) : Int) = sub (F0.rd l 0 ((128 * l.length : Nat) : Int)) 0 x ++ data ++ sub (F0.rd l 0 ((128 * l.length : Nat) : Int)) (x + data.length) (F0.rd l 0 ((128 * l.length : Nat) : Int)).length := by
          refine split_text _ _ _ _ (by rw [pl]; omega) (by rw [pl, ql]) fun y hy => ?_
          rw [pl] at hy
          rw [p2', q2']
          simp only [List.getD, List.getElem?_map, List.getElem?_range hy, Option.map_some, Option.getD_some, Nat.zero_add]
          rw [bt_wr h (by omega)]
          rfl
        simp only [e4, p1', q1', pl, ql, g9, Bool.not_true, Bool.not_false, cond_false, cond_true, beq_self_eq_true, Int.toNat_natCast]
        rw [pl] at hsp
        rw [← hsp]
        have i1 : intMax64 = 9223372036854775807 := rfl
        have s1 : (sub (F0.rd l 0 ((128 * l.length : Nat) : Int)) 0 x).length = x := by unfold sub; rw [List.length_drop, List.length_take, pl]; omega
        have s2 : (sub (F0.rd l 0 ((128 * l.length : Nat) : Int)) (x + data.length) (128 * l.length)).length = 128 * l.length - (x + data.length) := by unfold sub; rw [List.length_drop, List.length_take, pl]; omega
        simp only [List.length_append, s1, s2]
        simp only [beq_self_eq_true, Bool.and_self, cond_true, decide_eq_true (show (0 : Int) ≤ (x : Int) by omega), decide_eq_true (show (x : Int) ≤ ((128 * l.length : Nat) : Int) by omega), decide_eq_true (show ((x + data.length : Nat) : Int) ≤ intMax64 by omega), decide_eq_true (show (0 : Int) ≤ ((x + data.length : Nat) : Int) by omega), decide_eq_true (show ((x + data.length : Nat) : Int) ≤ ((128 * l.length : Nat) : Int) by omega), decide_eq_true (show ((x + data.length + (128 * l.length - (x + data.length)) : Nat) : Int) ≤ intMax64 by omega)]
end Go.Proofs.Ytglfkdbfiipjjaa
