/- The memory's laws, in plain terms: what moves. -/
import Derived.Test.YtglfkdbfiipjjaaMem13
set_option linter.unusedVariables false
set_option linter.unusedSimpArgs false
namespace Go.Proofs.Ytglfkdbfiipjjaa
open Go.AE

theorem page_at {l : List AV} (h : okF l = true) {y : Nat} (hy : y < 128 * l.length) : (partsOf (l.getD (y / 128) .dead)).getD (y % 128) .dead = .int .u8 (byN l y) := by
  obtain ⟨ps, e1, l1, b1⟩ := ok_page h (i := y / 128) (by omega)
  obtain ⟨n, m1, _⟩ := byOK_spec.1 (b1 _ (getD_mem (l := ps) (i := y % 128) (by omega)))
  unfold byN
  rw [byAt_nat, e1]
  show ps.getD (y % 128) .dead = .int .u8 (intOf (ps.getD (y % 128) .dead))
  rw [m1]; rfl
theorem sub_snoc (l : List AV) (o k : Nat) (h : o + k < l.length) : sub l o (o + (k + 1)) = sub l o (o + k) ++ [l.getD (o + k) .dead] := by
  unfold sub
  have e : l.take (o + (k + 1)) = l.take (o + k) ++ [l.getD (o + k) .dead] := by
    rw [show o + (k + 1) = (o + k) + 1 from by omega, List.take_succ_eq_append_getElem h]
    simp [List.getD, h]
  rw [e, List.drop_append_of_le_length (by rw [List.length_take]; omega)]
theorem chunk {l : List AV} (h : okF l = true) (a j : Nat) : ∀ k, (a + j) % 128 + k ≤ 128 → a + j < 128 * l.length ∨ k = 0 → rrN l a j ++ sub (partsOf (l.getD ((a + j) / 128) .dead)) ((a + j) % 128) ((a + j) % 128 + k) = rrN l a (j + k)
  | 0, _, _ => by simp [sub]
  | k + 1, hk, hy => by
    have hlt : a + j < 128 * l.length := by omega
    have hpl := wf_len (ok_wfP h) (i := (a + j) / 128) (by omega)
    rw [sub_snoc _ _ _ (by rw [hpl]; omega), ← List.append_assoc, chunk h a j k (by omega) (.inl hlt)]
    have := page_at h (y := a + (j + k)) (by omega)
    rw [show (a + (j + k)) / 128 = (a + j) / 128 from by omega, show (a + (j + k)) % 128 = (a + j) % 128 + k from by omega] at this
    rw [this]; rfl
theorem rd_rr {l : List AV} (h : okF l = true) {a n : Nat} (han : a + n ≤ 128 * l.length) : ∀ (f j : Nat), j ≤ n → n - j ≤ f → rdN l a n f (rrN l a j) = rrN l a n
  | 0, j, hj, hf => by rw [rdN, show j = n from by omega]
  | f + 1, j, hj, hf => by
    unfold rdN
    rw [rrN_len]
    split
    · rename_i hlt
      show rdN l a n f (rrN l a j ++ sub (partsOf (l.getD ((a + j) / 128) .dead)) ((a + j) % 128) ((a + j) % 128 + min (128 - (a + j) % 128) (n - j))) = _
      rw [chunk h a j _ (by omega) (by omega)]
      exact rd_rr h han f _ (by omega) (by omega)
    · rw [show j = n from by omega]
theorem rd_rrd (l : List AV) (a n : Int) (h : okF l = true) : rdF l a n = rrdF l a n := by
  unfold rdF rrdF
  cases hr : inR l a n with
  | false => rfl
  | true =>
    obtain ⟨r1, r2, r3⟩ := (inR_spec (okF_spec h).2.1).1 hr
    have := rd_rr h (a := a.toNat) (n := n.toNat) (by omega) n.toNat 0 (by omega) (by omega)
    rw [cond_true, cond_true]
    exact congrArg _ this
theorem saN_self (d : List AV) : ∀ j k, saN d d j k = true
  | 0, _ => rfl
  | j + 1, k => by rw [saN, saN_self d j (k + 1)]; simp
theorem si_self (d : List AV) : siF d d = true := by
  unfold siF
  rw [saN_self]; simp
theorem df_len {a b : List AV} (ha : okdF a = true) (hb : okdF b = true) : (dfF a b).length ≤ 64 := by
  have := dfN_len a b (maxI a b).toNat
  obtain ⟨h1, _⟩ := okdF_spec ha
  obtain ⟨h2, _⟩ := okdF_spec hb
  have hm : (maxI a b).toNat ≤ 64 := by unfold maxI; split <;> omega
  unfold dfF; omega
theorem sm_nw (n : Int) (h : nwBad n = true) : smF (nwF n) (nwF n) = true := by
  unfold nwF; rw [h]; rfl
theorem nw_okd (n : Int) : okdF (nwF n) = true := by
  cases h : nwBad n with
  | false => exact okd_of (nw_ok h)
  | true => unfold nwF; rw [h]; rfl
theorem nw_sm (n : Int) : smF (nwF n) (nwF n) = true := by
  cases h : nwBad n with
  | false => exact sm_self (nw_ok h)
  | true => exact sm_nw n h
theorem law6_true (m o ws : List AV) (pg a n : Int) (data : List UInt8) (hm : ∀ p ∈ m, pgOK p = true) (ho : ∀ p ∈ o, pgOK p = true) : fnV (cxG F0 2) 6 6 [Mv m, .int .i64 pg, .int .i64 a, .int .i64 n, .str data, .slice 27 ws false, Mv o] = some (.bool true) := by
  rw [law6]
  have ev1 : F0.vld m = vldF m := rfl
  have ev2 : F0.vld o = vldF o := rfl
  rw [ev1, ev2]
  cases h1 : vldF m with
  | false => rfl
  | true =>
    cases h2 : vldF o with
    | false => rfl
    | true =>
      cases h3 : decide (9000 < (data.length : Int)) with
      | true => rfl
      | false =>
        cases h4 : decide (40 < (ws.length : Int)) with
        | true => rfl
        | false =>
          have km := ok_of hm h1
          have ko := ok_of ho h2
          have hw : ws.length < 1000 := by have := of_decide_eq_false h4; omega
          have e1 : F0.ok m = true := km
          have e2 : F0.wok ws = true := decide_eq_true hw
          have e3 : F0.okd (F0.nw pg) = true := nw_okd pg
          have e4 : F0.rnw pg = F0.nw pg := rfl
          have e5 : F0.rnwE pg = F0.nwE pg := rfl
          have e6 : F0.sm (F0.nw pg) (F0.nw pg) = true := nw_sm pg
          have e7 : F0.rd m a n = F0.rrd m a n := rd_rrd m a n km
          have e8 : F0.rdB m a n = F0.rrdB m a n := rfl
          have e9 : F0.wrB m a data = F0.rwrB m a data := rfl
          have e10 : F0.wr m a data = F0.rwr m a data := wr_rwr a data km
          have e11 : F0.okd (F0.rwr m a data) = true := okd_of (rwr_ok a data km).1
          have e12 : F0.sm (F0.rwr m a data) (F0.rwr m a data) = true := sm_self (rwr_ok a data km).1
          have e13 : F0.rap m ws = F0.ap m ws := (rapF_eq ws km).1
          have e14 : F0.rapB m ws = F0.apB m ws := (rapF_eq ws km).2
          have e15 : F0.okd (F0.ap m ws) = true := okd_of (ap_ok ws km).1
          have e16 : F0.sm (F0.ap m ws) (F0.ap m ws) = true := sm_self (ap_ok ws km).1
          have e17 : F0.okd m = true := okd_of km
          have e18 : F0.okd o = true := okd_of ko
          have e19 : F0.rdf m o = F0.df m o := rfl
          have e20 : F0.siOK (F0.df m o) (F0.df m o) = true := decide_eq_true (by have := df_len (okd_of km) (okd_of ko); show (dfF m o).length < 5000; omega)
          have e21 : F0.si (F0.df m o) (F0.df m o) = true := si_self _
          simp only [Bool.not_true, cond_false, cond_true, e1, e2, e3, e4, e5, e6, e7, e8, e9, e10, e11, e12, e13, e14, e15, e16, e17, e18, e19, e20, e21, beq_self_eq_true, Bool.and_self, condB_eq]
end Go.Proofs.Ytglfkdbfiipjjaa
