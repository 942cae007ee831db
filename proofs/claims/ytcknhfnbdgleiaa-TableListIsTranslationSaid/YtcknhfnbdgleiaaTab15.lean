/- What Walk, Map, MapLarge, Unmap and List return is specified. -/
import Derived.Test.YtcknhfnbdgleiaaTab14
set_option linter.unusedVariables false
set_option linter.unusedSimpArgs false
namespace Go.Proofs.Ytcknhfnbdgleiaa
open Go.AE

theorem rt_sanity (k : Nat) : Rt Pg (D (k + 12)) 18 [] (.bool true) := .of (sanity_true k) (by kernel_rfl)
/-- Pages, as they come. -/
def pgsOK (m : Pgs) : Prop := ∀ p ∈ m, p.length = 128 ∧ ∀ b ∈ p, b < 256
theorem wm_of {m : Pgs} (h : pgsOK m) (hv : (decide (1 ≤ (m.map pg).length) && decide ((m.map pg).length ≤ 64)) = true) : Wm m := by
  simp only [List.length_map, Bool.and_eq_true, decide_eq_true_eq] at hv
  exact ⟨hv.1, hv.2, fun p hp => (h p hp).1, fun p hp => (h p hp).2⟩
theorem acc_of {a : Int} (h : (decide (1 ≤ a) && decide (a ≤ 4)) = true) : ∃ n : Nat, a = n ∧ 1 ≤ n ∧ n ≤ 4 := by
  simp only [Bool.and_eq_true, decide_eq_true_eq] at h
  exact ⟨a.toNat, by omega, by omega, by omega⟩
theorem fin_few (m : Pgs) (acc : Nat) (user : Bool) (e page a va : Nat) (reads : List Nat) : (fin m acc user e page a va reads).set'.length ≤ 1 ∧ (fin m acc user e page a va reads).reads = reads := by
  unfold fin
  cases pgd m page
  · exact ⟨Nat.zero_le _, rfl⟩
  · cases may e acc user
    · exact ⟨Nat.zero_le _, rfl⟩
    · simp only [cond_true]
      cases upd e acc == e <;> simp
theorem walk_few (m : Pgs) (root va acc : Nat) (user : Bool) : (walk m root va acc user).set'.length ≤ 1 ∧ (walk m root va acc user).reads.length ≤ 2 := by
  have hbd : ∀ l : List Nat, l.length ≤ 2 → (bad acc l).set'.length ≤ 1 ∧ (bad acc l).reads.length ≤ 2 := fun l h => ⟨Nat.zero_le _, h⟩
  have hf : ∀ (e page a : Nat) (l : List Nat), l.length ≤ 2 → (fin m acc user e page a va l).set'.length ≤ 1 ∧ (fin m acc user e page a va l).reads.length ≤ 2 := fun e page a l h => ⟨(fin_few ..).1, by rw [(fin_few ..).2]; exact h⟩
  unfold walk
  cases root == 0
  · cases decide (va < 131072)
    · exact hbd _ (by simp)
    · cases pgd m root
      · exact hbd _ (by simp)
      · simp only [cond_true, cond_false]
        cases hb (wo m (at1 root va)) 1
        · exact hbd _ (by simp)
        · cases right m (wo m (at1 root va))
          · exact hbd _ (by simp)
          · cases hb (wo m (at1 root va)) 64
            · simp only [cond_true, cond_false]
              cases hb (wo m (at2 (wo m (at1 root va)) va)) 1
              · exact hbd _ (by simp)
              · cases hb (wo m (at2 (wo m (at1 root va)) va)) 64
                · exact hf _ _ _ _ (by simp)
                · exact hbd _ (by simp)
            · exact hf _ _ _ _ (by simp)
  · cases decide (va < 128 * m.length)
    · exact hbd _ (by simp)
    · exact ⟨Nat.zero_le _, by simp⟩
theorem law3_true (k : Nat) (m : Pgs) (hm : pgsOK m) (root va : Nat) (acc : Int) (user : Bool) (hr : root < 4294967296) (hv : va < 4294967296) :
    D (k + 14) 3 [mv m, .int .u32 (root : Int), .int .u32 (va : Int), .int .i64 acc, .bool user] = some (.bool true) := by
  have rs := rt_sanity (k + 1)
  have rv := r_valid (k + 12) (m.map pg)
  have ra := r_access (k + 12) acc
  rw [Dk, nf_law10_TableWalksAsSpecified]
  simp only [rs.ok, rs.val, rv.ok, rv.val, ra.ok, ra.val, bO, condB_tt, cond_true]
  cases h1 : (decide (1 ≤ (m.map pg).length) && decide ((m.map pg).length ≤ 64)) with
  | false => rfl
  | true =>
  cases h2 : (decide (1 ≤ acc) && decide (acc ≤ 4)) with
  | false => rfl
  | true =>
  have w := wm_of hm h1
  obtain ⟨n, rfl, n1⟩ := acc_of h2
  have e1 : Rt Pg (D (k + 13)) _ _ _ := r_walk (k + 10) w root va n user hr hv n1
  have e2 : Rt Pg (D (k + 13)) _ _ _ := r_rwalk (k + 6) w root va n user hr hv n1
  have hf := walk_few m root va n user
  generalize walk m root va n user = x at e1 e2 hf
  have e3 : Rt Pg (D (k + 13)) _ _ _ := r_samew (k + 11) x.at' x.leaf x.set' x.reads (by omega) (by omega)
  unfold wkT wkA at e1
  unfold wkR wkA at e2
  simp only [Bool.not_true, cond_false, e1.ok, e1.val, e2.ok, e2.val, tO, pO, g0, g1, g2, g3, iO, lO, e3.ok, e3.val, bO, beq_self_eq_true, cond_true, condB_tt]
theorem law7_true (k : Nat) (m : Pgs) (hm : pgsOK m) (root va pa' t : Nat) (r : Int) (hr : root < 4294967296) (hv : va < 4294967296) (hp : pa' < 4294967296) (h0 : -9223372036854775808 ≤ r) (h1 : r < 9223372036854775808) (ht : t < 4294967296) :
    D (k + 14) 7 [mv m, .int .u32 (root : Int), .int .u32 (va : Int), .int .u32 (pa' : Int), .int .i64 r, .int .u32 (t : Int)] = some (.bool true) := by
  have rs := rt_sanity (k + 1)
  have rv := r_valid (k + 12) (m.map pg)
  rw [Dk, nf_law10_TableBuildsAsSpecified]
  simp only [rs.ok, rs.val, rv.ok, rv.val, bO, condB_tt, cond_true]
  cases h2 : (decide (1 ≤ (m.map pg).length) && decide ((m.map pg).length ≤ 64)) with
  | false => rfl
  | true =>
  have w := wm_of hm h2
  have e1 : Rt Pg (D (k + 13)) _ _ _ := r_mp (k + 9) w root va pa' t r hr hv hp ht h0 h1
  have e2 : Rt Pg (D (k + 13)) _ _ _ := r_ml (k + 9) w root va pa' r hr hv hp h0 h1
  have e3 : Rt Pg (D (k + 13)) _ _ _ := r_um (k + 9) w root va hr hv
  have f1 : Rt Pg (D (k + 13)) _ _ _ := r_rmp (k + 7) w root va pa' t r hr hv hp ht
  have f2 : Rt Pg (D (k + 13)) _ _ _ := r_rml (k + 7) w root va pa' r hr hv hp
  have f3 : Rt Pg (D (k + 13)) _ _ _ := r_rum (k + 7) w root va hr hv
  have s1 : Rt Pg (D (k + 13)) _ _ _ := r_same (k + 11) (mp_wm (root := root) (va := va) (t := t) (r := r) w hp)
  have s2 : Rt Pg (D (k + 13)) _ _ _ := r_same (k + 11) (ml_wm (root := root) (va := va) (r := r) w hp)
  have s3 : Rt Pg (D (k + 13)) _ _ _ := r_same (k + 11) (um_wm (root := root) (va := va) w)
  have l1 : Rt Pg (D (k + 13)) _ _ _ := r_list (k + 9) w root hr
  have l2 : Rt Pg (D (k + 13)) _ _ _ := r_rlist (k + 7) w root hr
  have hlen : (lst m root).length < 5000 := by
    unfold lst
    cases cond (root == 0) true (!pgd m root) with
    | true => simp
    | false =>
      have := flat_len (row1_len m root) (List.range 32)
      rw [List.length_range] at this
      simp only [cond_false]
      omega
  have l3 : Rt Pg (D (k + 13)) _ _ _ := r_samem (k + 12) (lst m root) hlen
  unfold errT at e1 e2 e3
  unfold errR at f1 f2 f3
  simp only [Bool.not_true, cond_false, e1.ok, e1.val, e2.ok, e2.val, e3.ok, e3.val, f1.ok, f1.val, f2.ok, f2.val, f3.ok, f3.val, s1.ok, s1.val, s2.ok, s2.val, s3.ok, s3.val, l1.ok, l1.val, l2.ok, l2.val, l3.ok, l3.val,
    tO, pO, g0, g1, iO, lO, bO, bne_self_eq_false, cond_true, condB_tt]
end Go.Proofs.Ytcknhfnbdgleiaa
