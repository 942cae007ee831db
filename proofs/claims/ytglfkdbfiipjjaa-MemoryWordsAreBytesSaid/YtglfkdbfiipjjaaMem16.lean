/- The memory's laws, in plain terms: what is kept, words and bytes. -/
import Derived.Test.YtglfkdbfiipjjaaMem15
set_option linter.unusedVariables false
set_option linter.unusedSimpArgs false
namespace Go.Proofs.Ytglfkdbfiipjjaa
open Go.AE

theorem ld1 {l : List AV} {x : Nat} (h : okF l = true) (ht : thF l x 1 = true) : ldV l x 1 = byN l x := by
  rw [ld_rld l x 1 h]
  unfold rldV
  rw [ht, cond_true, Int.toNat_natCast]
  obtain ⟨x', k', e1, e2, hk, hm, hle⟩ := th_spec h ht
  obtain ⟨b0, c0, e0⟩ := byN_val h (y := x) (by omega)
  show ibits .or .u32 (IntKind.u32.wrap (0 * 2 ^ 8)) (IntKind.u32.wrap (byN l x)) = _
  rw [e0, wrapn (n := b0) (by omega)]
  have := or_lo (k := 8) (b := 0) (lo := b0) (by omega) (by omega) (by omega)
  simp only [Nat.zero_mul, Nat.zero_add] at this
  exact this
theorem ld4 {l : List AV} {x : Nat} (h : okF l = true) (ht : thF l x 4 = true) : ldV l x 4 = byN l x + 256 * byN l (x + 1) + 65536 * byN l (x + 2) + 16777216 * byN l (x + 3) := by
  rw [ld_rld l x 4 h]
  unfold rldV
  rw [ht, cond_true, Int.toNat_natCast]
  obtain ⟨x', k', e1, e2, hk, hm, hle⟩ := th_spec h ht
  obtain ⟨b0, c0, e0⟩ := byN_val h (y := x) (by omega)
  obtain ⟨b1, c1, e1⟩ := byN_val h (y := x + 1) (by omega)
  obtain ⟨b2, c2, e2⟩ := byN_val h (y := x + 2) (by omega)
  obtain ⟨b3, c3, e3⟩ := byN_val h (y := x + 3) (by omega)
  show ibits .or .u32 (IntKind.u32.wrap (ibits .or .u32 (IntKind.u32.wrap (ibits .or .u32 (IntKind.u32.wrap (ibits .or .u32 (IntKind.u32.wrap (0 * 2 ^ 8)) (IntKind.u32.wrap (byN l (x + 3))) * 2 ^ 8)) (IntKind.u32.wrap (byN l (x + 2))) * 2 ^ 8)) (IntKind.u32.wrap (byN l (x + 1))) * 2 ^ 8)) (IntKind.u32.wrap (byN l x)) = _
  rw [e0, e1, e2, e3, wrapn (n := b0) (by omega), wrapn (n := b1) (by omega), wrapn (n := b2) (by omega), wrapn (n := b3) (by omega)]
  have s0 := or_lo (k := 8) (b := 0) (lo := b3) (by omega) (by omega) (by omega)
  simp only [Nat.zero_mul, Nat.zero_add] at s0
  have z : IntKind.u32.wrap (0 * 2 ^ 8) = ((0 : Nat) : Int) := rfl
  rw [z, s0, wrap_sh (b := b3) (k := 8) (by omega), or_lo (k := 8) (b := b3) (lo := b2) (by omega) (by omega) (by omega), wrap_sh (b := b3 * 2 ^ 8 + b2) (k := 8) (by omega), or_lo (k := 8) (b := b3 * 2 ^ 8 + b2) (lo := b1) (by omega) (by omega) (by omega),
    wrap_sh (b := (b3 * 2 ^ 8 + b2) * 2 ^ 8 + b1) (k := 8) (by omega), or_lo (k := 8) (b := (b3 * 2 ^ 8 + b2) * 2 ^ 8 + b1) (lo := b0) (by omega) (by omega) (by omega)]
  omega
theorem byv (v : Int) (i : Nat) : IntKind.u8.wrap (v.fdiv (2 ^ min (8 * i) 32)) = v / 2 ^ min (8 * i) 32 % 256 := by
  rw [wrap_u8, Int.fdiv_eq_ediv_of_nonneg]
  exact Int.pow_nonneg (by omega)
theorem th_len {l m : List AV} (h : l.length = m.length) (a s : Int) : thF l a s = thF m a s := by unfold thF; rw [h]
theorem and255 {v : Int} (h0 : 0 ≤ v) (h1 : v < 4294967296) : ibits .and .u32 v 255 = v % 256 :=
  ibits_and_mask (w := 32) .u32 8 v rfl (by omega) (by rw [wrap_u32]; omega)
/-- What was stored is loaded. -/
theorem ld_st {l : List AV} {x k : Nat} {v : Int} (h : okF l = true) (ht : thF l x k = true) (h0 : 0 ≤ v) (h1 : v < 4294967296) : ldV (stF l x k v) x k = cond ((k : Int) == 1) (ibits .and .u32 v 255) v := by
  obtain ⟨x', k', e1, e2, hk, hm, hle⟩ := th_spec h ht
  have : k' = k := by omega
  subst this
  obtain ⟨r1, r2⟩ := st_ok (x : Int) (k' : Int) v h
  have ht2 : thF (stF l x k' v) x k' = true := by rw [th_len r2]; exact ht
  rcases hk with rfl | rfl
  · have := ld1 r1 ht2
    rw [byN_st h ht, if_pos (by omega), byv] at this
    refine this.trans ?_
    rw [show (((1 : Nat) : Int) == 1) = true from rfl, cond_true, and255 h0 h1]
    simp
  · have := ld4 r1 ht2
    rw [byN_st h ht, byN_st h ht, byN_st h ht, byN_st h ht, if_pos (by omega), if_pos (by omega), if_pos (by omega), if_pos (by omega), byv, byv, byv, byv] at this
    refine this.trans ?_
    rw [show x - x = 0 from by omega, show x + 1 - x = 1 from by omega, show x + 2 - x = 2 from by omega, show x + 3 - x = 3 from by omega]
    show v / 1 % 256 + 256 * (v / 256 % 256) + 65536 * (v / 65536 % 256) + 16777216 * (v / 16777216 % 256) = v
    omega
/-- What is apart is kept. -/
theorem ld_apart {l : List AV} {x k : Nat} {v a s : Int} (h : okF l = true) (ht : thF l x k = true)
    (hap : cond (thF l a s) (cond (decide (IntKind.i64.wrap (a + s) ≤ x)) true (decide (IntKind.i64.wrap (x + k) ≤ a))) false = true) : ldV l a s = ldV (stF l x k v) a s := by
  obtain ⟨r1, r2⟩ := st_ok (x : Int) (k : Int) v h
  cases hi : thF l a s with
  | false => rw [hi] at hap; exact absurd hap (by simp)
  | true =>
    rw [hi, cond_true] at hap
    obtain ⟨x', k', e1, e2, hk, hm, hle⟩ := th_spec h ht
    obtain ⟨y, j, rfl, rfl, hj, hn, hme⟩ := th_spec h hi
    obtain ⟨l1, l2, _⟩ := okF_spec h
    rw [wrap_i64_id (by omega) (by omega), wrap_i64_id (by omega) (by omega)] at hap
    have hd : y + j ≤ x ∨ x + k ≤ y := by
      by_cases hc : ((y : Int) + j ≤ x)
      · omega
      · rw [decide_eq_false hc, cond_false, decide_eq_true_eq] at hap; omega
    have ht2 : thF (stF l x k v) y j = true := by rw [th_len r2]; exact hi
    rcases hj with rfl | rfl
    · have f1 := ld1 h hi
      have f2 := ld1 r1 ht2
      rw [byN_st h ht, if_neg (by omega)] at f2
      exact f1.trans f2.symm
    · have f1 := ld4 h hi
      have f2 := ld4 r1 ht2
      rw [byN_st h ht, byN_st h ht, byN_st h ht, byN_st h ht, if_neg (by omega), if_neg (by omega), if_neg (by omega), if_neg (by omega)] at f2
      exact f1.trans f2.symm
theorem law4_true (l : List AV) (wa ws wv a s : Int) (hp : ∀ p ∈ l, pgOK p = true) (h0 : 0 ≤ wv) (h1 : wv < 4294967296) : fnV (cxG F0 2) 6 4 [Mv l, Wv wa ws wv, .int .i64 a, .int .i64 s] = some (.bool true) := by
  rw [law4]
  have ev : F0.vld l = vldF l := rfl
  rw [ev]
  cases hv : vldF l with
  | false => rfl
  | true =>
    have h := ok_of hp hv
    obtain ⟨hx, hlen⟩ := st_ok wa ws wv h
    have e1 : F0.ok l = true := h
    have e2 : F0.ok (F0.st l wa ws wv) = true := hx
    have e3 : ∀ a s, F0.ldB (F0.st l wa ws wv) a s = F0.ldB l a s := fun a s => th_len hlen a s
    have e4 : F0.stB l wa ws wv = thF l wa ws := stB_eq h
    simp only [Bool.not_true, cond_false, cond_true, e1, e2, e3, e4, beq_self_eq_true, bne_self_eq_false]
    cases ht : thF l wa ws with
    | false =>
      have e5 : F0.st l wa ws wv = l := (st_not ht).1
      have e6 : F0.okd l = true := okd_of h
      have e7 : F0.df l l = [] := df_self h
      simp [e5, e6, e7]
    | true =>
      obtain ⟨x, k, rfl, rfl, hk, hm, hle⟩ := th_spec h ht
      have e5 : F0.ld (F0.st l x k wv) x k = cond ((k : Int) == 1) (ibits .and .u32 wv 255) wv := ld_st h ht h0 h1
      have e6 : F0.ldB l x k = true := ht
      simp only [Bool.not_true, cond_false, cond_true, e5, e6, beq_self_eq_true, Bool.true_and]
      have e7 : F0.ldB l a s = thF l a s := rfl
      rw [e7]
      cases hap : cond (thF l a s) (cond (decide (IntKind.i64.wrap (a + s) ≤ (x : Int))) true (decide (IntKind.i64.wrap ((x : Int) + (k : Int)) ≤ a))) false with
      | false => rfl
      | true =>
        have e8 : F0.ld l a s = F0.ld (F0.st l x k wv) a s := ld_apart h ht hap
        rw [e8]; simp
/-! words -/
theorem byN_rst1 {l : List AV} {x : Nat} {v : Int} (h : okF l = true) (hx : x < 128 * l.length) (y : Nat) : byN (rstF l x 1 v) y = if y = x then IntKind.u8.wrap v else byN l y := by
  have ht : thF l x (1 : Nat) = true := th_of h (.inl rfl) (by omega) (by omega)
  have := byN_st (v := v) h ht y
  have e : stF l x ((1 : Nat) : Int) v = rstF l x 1 v := st_rst _ _ _ h
  rw [e] at this
  rw [this]
  by_cases hy : y = x
  · rw [if_pos (by omega), if_pos hy, hy, Nat.sub_self]
    show IntKind.u8.wrap (v.fdiv 1) = _
    rw [Int.fdiv_one]
  · rw [if_neg (by omega), if_neg hy]
theorem rap_cons {cur : List AV} {x : Nat} {v : Int} {ws : List AV} (h : okF cur = true) (hx : x < 128 * cur.length) : rapN F1 (Wv (x : Int) 1 v :: ws) cur = rapN F1 ws (rstF cur x 1 v) := by
  have ht : thF cur x ((1 : Nat) : Int) = true := th_of h (.inl rfl) (by omega) (by omega)
  have ht' : thF cur x 1 = true := ht
  show cond (thF cur x 1) _ _ = _
  rw [ht']; rfl
theorem law7_true (l : List AV) (a v : Int) (hp : ∀ p ∈ l, pgOK p = true) (h0 : 0 ≤ v) (h1 : v < 4294967296) : fnV (cxG F0 2) 6 7 [Mv l, .int .i64 a, .int .u32 v] = some (.bool true) := by
  rw [law7]
  have ev : F0.vld l = vldF l := rfl
  rw [ev]
  cases hv : vldF l with
  | false => rfl
  | true =>
    have h := ok_of hp hv
    have e1 : F0.ok l = true := h
    have e4 : F0.stB l a 4 v = thF l a 4 := stB_eq h
    simp only [Bool.not_true, cond_false, cond_true, e1, e4]
    cases ht : thF l a 4 with
    | false => rfl
    | true =>
      obtain ⟨x, k, rfl, ek, hk, hm, hle⟩ := th_spec h ht
      have : k = 4 := by omega
      subst this
      obtain ⟨l1, l2, _⟩ := okF_spec h
      have ht' : thF l x ((4 : Nat) : Int) = true := ht
      obtain ⟨r1, r2⟩ := st_ok (x : Int) 4 v h
      have hb : ∀ y, byN (stF l x 4 v) y = if x ≤ y ∧ y < x + 4 then IntKind.u8.wrap (v.fdiv (2 ^ min (8 * (y - x)) 32)) else byN l y := byN_st h ht'
      have w1 : IntKind.i64.wrap ((x : Int) + 1) = ((x + 1 : Nat) : Int) := by rw [wrap_i64_id (by omega) (by omega)]; rfl
      have w2 : IntKind.i64.wrap ((x : Int) + 2) = ((x + 2 : Nat) : Int) := by rw [wrap_i64_id (by omega) (by omega)]; rfl
      have w3 : IntKind.i64.wrap ((x : Int) + 3) = ((x + 3 : Nat) : Int) := by rw [wrap_i64_id (by omega) (by omega)]; rfl
      have w0 : IntKind.i64.wrap ((x : Int) + 0) = (x : Int) := by rw [wrap_i64_id (by omega) (by omega)]; omega
      simp only [Bool.not_true, cond_false, cond_true, w0, w1, w2, w3]
      generalize hws : [Wv (((x + 3 : Nat) : Int)) 1 (v.fdiv (2 ^ min (8 * 3 : Int).toNat 32)), Wv (((x + 2 : Nat) : Int)) 1 (v.fdiv (2 ^ min (8 * 2 : Int).toNat 32)), Wv (((x + 1 : Nat) : Int)) 1 (v.fdiv (2 ^ min (8 * 1 : Int).toNat 32)), Wv (x : Int) 1 (v.fdiv (2 ^ min (8 * 0 : Int).toNat 32))] = ws
      generalize hs : [Go.AE.byteOf (.int .u8 (IntKind.u8.wrap v)), Go.AE.byteOf (.int .u8 (IntKind.u8.wrap (v.fdiv (2 ^ min (8 * 1) 32)))), Go.AE.byteOf (.int .u8 (IntKind.u8.wrap (v.fdiv (2 ^ min (8 * 2) 32)))), Go.AE.byteOf (.int .u8 (IntKind.u8.wrap (v.fdiv (2 ^ min (8 * 3) 32))))] = s
      have hsl : s.length = 4 := by rw [← hs]; rfl
      -- the four stores
      have hap : apF l ws = stF l x 4 v ∧ apBF l ws = true := by
        obtain ⟨q1, q2⟩ := rapF_eq ws h
        rw [← q1, ← q2]
        unfold rapF rapBF
        subst hws
        obtain ⟨a1, b1⟩ := rst_ok ((x + 3 : Nat) : Int) 1 (v.fdiv (2 ^ min (8 * 3 : Int).toNat 32)) h
        obtain ⟨a2, b2⟩ := rst_ok ((x + 2 : Nat) : Int) 1 (v.fdiv (2 ^ min (8 * 2 : Int).toNat 32)) a1
        obtain ⟨a3, b3⟩ := rst_ok ((x + 1 : Nat) : Int) 1 (v.fdiv (2 ^ min (8 * 1 : Int).toNat 32)) a2
        obtain ⟨a4, b4⟩ := rst_ok (x : Int) 1 (v.fdiv (2 ^ min (8 * 0 : Int).toNat 32)) a3
        rw [rap_cons h (by omega), rap_cons a1 (by omega), rap_cons a2 (by omega), rap_cons a3 (by omega)]
        refine ⟨?_, rfl⟩
        show rstF _ (x : Int) 1 _ = _
        refine mem_ext a4 r1 (by omega) fun y hy => ?_
        rw [byN_rst1 a3 (by omega), byN_rst1 a2 (by omega), byN_rst1 a1 (by omega), byN_rst1 h (by omega), hb]
        by_cases y0 : y = x
        · rw [if_pos y0, if_pos (by omega), y0, Nat.sub_self]; rfl
        · rw [if_neg y0]
          by_cases y1 : y = x + 1
          · rw [if_pos y1, if_pos (by omega), y1, show x + 1 - x = 1 from by omega]; rfl
          · rw [if_neg y1]
            by_cases y2 : y = x + 2
            · rw [if_pos y2, if_pos (by omega), y2, show x + 2 - x = 2 from by omega]; rfl
            · rw [if_neg y2]
              by_cases y3 : y = x + 3
              · rw [if_pos y3, if_pos (by omega), y3, show x + 3 - x = 3 from by omega]; rfl
              · rw [if_neg y3, if_neg (by omega)]
      -- the bytes
      have hbv : ∀ i : Nat, i < 4 → byN (stF l x 4 v) (x + i) = IntKind.u8.wrap (v.fdiv (2 ^ min (8 * i) 32)) := fun i hi => by
        rw [hb, if_pos (by omega), show x + i - x = i from by omega]
      have hs4 : s = [Go.AE.byteOf (.int .u8 (byN (stF l x 4 v) (x + 0))), Go.AE.byteOf (.int .u8 (byN (stF l x 4 v) (x + 1))), Go.AE.byteOf (.int .u8 (byN (stF l x 4 v) (x + 2))), Go.AE.byteOf (.int .u8 (byN (stF l x 4 v) (x + 3)))] := by
        rw [hbv 0 (by omega), hbv 1 (by omega), hbv 2 (by omega), hbv 3 (by omega), ← hs, show v.fdiv (2 ^ min (8 * 0) 32) = v from Int.fdiv_one ..]
      have hin : inR (stF l x 4 v) x 4 = true := (inR_spec (by omega)).2 (by omega)
      have hrd : rdF (stF l x 4 v) x 4 = s := by
        rw [rd_rrd _ _ _ r1]
        unfold rrdF
        rw [hin, hs4]; rfl
      have hwi : inW l x s.length = true := (inW_spec (by omega)).2 (by rw [hsl]; omega)
      have hwr : wrF l x s = stF l x 4 v := by
        rw [wr_rwr _ _ h]
        obtain ⟨a4, b4⟩ := rwr_ok (x : Int) s h
        refine mem_ext a4 r1 (by omega) fun y hy => ?_
        unfold rwrF
        rw [hwi, cond_true, Int.toNat_natCast, sz0_eq (rwN_ok _ h (by omega)).2, byN_rw _ h (by omega), hsl]
        by_cases hc : x ≤ y ∧ y < x + 4
        · obtain ⟨i, hi, rfl⟩ : ∃ i, i < 4 ∧ y = x + i := ⟨y - x, by omega, by omega⟩
          rw [if_pos hc, show x + i - x = i from by omega]
          have : s.getD i 0 = Go.AE.byteOf (.int .u8 (byN (stF l x 4 v) (x + i))) := by
            rw [hs4]
            have : i = 0 ∨ i = 1 ∨ i = 2 ∨ i = 3 := by omega
            rcases this with rfl | rfl | rfl | rfl <;> rfl
          rw [this]
          obtain ⟨b, hb1, hb2⟩ := byN_val r1 (y := x + i) (by omega)
          rw [hb2]
          show (((UInt8.ofNat (Int.toNat (b : Int))).toNat : Nat) : Int) = _
          rw [Int.toNat_natCast, UInt8.toNat_ofNat']
          omega
        · rw [if_neg hc, hb, if_neg hc]
      have f1 : F0.ap l ws = F0.st l x 4 v := hap.1
      have f2 : F0.apB l ws = true := hap.2
      have f3 : F0.wr l x s = F0.st l x 4 v := hwr
      have f4 : F0.wrB l x s = true := hwi
      have f5 : F0.rd (F0.st l x 4 v) x 4 = s := hrd
      have f6 : F0.rdB (F0.st l x 4 v) x 4 = true := hin
      have f7 : F0.ld (F0.st l x 4 v) x 4 = v := ld_st h ht' h0 h1
      have f8 : F0.ldB (F0.st l x 4 v) x 4 = true := by
        show thF (stF l x 4 v) x 4 = true
        rw [th_len r2]; exact ht
      have f9 : F0.ok (F0.st l x 4 v) = true := r1
      have f10 : F0.okd (F0.st l x 4 v) = true := okd_of r1
      have f11 : F0.df (F0.st l x 4 v) (F0.st l x 4 v) = [] := df_self r1
      have f12 : F0.wok ws = true := by rw [← hws]; rfl
      simp [f1, f2, f3, f4, f5, f6, f7, f8, f9, f10, f11, f12, e1, condB_eq]
end Go.Proofs.Ytglfkdbfiipjjaa
