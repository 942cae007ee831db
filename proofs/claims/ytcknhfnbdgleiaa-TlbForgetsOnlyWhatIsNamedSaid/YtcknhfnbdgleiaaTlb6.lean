/- The buffer of translations: the law of ops. -/
import Derived.Test.YtcknhfnbdgleiaaTlb5
set_option linter.unusedVariables false
set_option linter.unusedSimpArgs false
namespace Go.Proofs.Ytcknhfnbdgleiaa
open Go.AE

/-- An op. -/
structure Ox where
  kind : Int
  x : Xl
  pos : Int
  size : Int
def ov (o : Ox) : AV := .agg 78 [.int .u8 o.kind, tv o.x, .int .i64 o.pos, .int .i64 o.size]
theorem ovE (o : Ox) : AV.agg 78 [.int .u8 (intOf ((partsOf (ov o)).getD 0 .dead)), .agg 69 [.int .u32 (intOf ((partsOf ((partsOf (ov o)).getD 1 .dead)).getD 0 .dead)), .int .i64 (intOf ((partsOf ((partsOf (ov o)).getD 1 .dead)).getD 1 .dead)), .int .i64 (intOf ((partsOf ((partsOf (ov o)).getD 1 .dead)).getD 2 .dead)), .int .i64 (intOf ((partsOf ((partsOf (ov o)).getD 1 .dead)).getD 3 .dead)), .int .i64 (intOf ((partsOf ((partsOf (ov o)).getD 1 .dead)).getD 4 .dead)), .slice 3 (listOf ((partsOf ((partsOf (ov o)).getD 1 .dead)).getD 5 .dead)) false], .int .i64 (intOf ((partsOf (ov o)).getD 2 .dead)), .int .i64 (intOf ((partsOf (ov o)).getD 3 .dead))] = ov o := rfl
def doX (xs : List Xl) (o : Ox) : List Xl :=
  cond (o.kind.tmod 4 == 0) (cond (rightX o.x) (fillX xs o.x) xs)
    (cond (o.kind.tmod 4 == 1) (xs.filter (pFlush (IntKind.u32.wrap o.pos)))
      (cond (o.kind.tmod 4 == 2) (xs.filter (pTouch (IntKind.i64.wrap ((IntKind.u64.wrap o.pos).tmod 8192)) (IntKind.i64.wrap (1 + (IntKind.i64.wrap ((IntKind.u64.wrap o.size).tmod 600))))))
        (xs.filter (pEvict (IntKind.i64.wrap ((IntKind.i64.wrap ((IntKind.u64.wrap o.pos).tmod 8192)).tdiv 128))))))
theorem VX.op {xs : List Xl} (h : VX xs) (o : Ox) : VX (doX xs o) := by
  unfold doX
  cases o.kind.tmod 4 == 0
  · cases o.kind.tmod 4 == 1
    · cases o.kind.tmod 4 == 2
      · exact h.filter _
      · exact h.filter _
    · exact h.filter _
  · cases hr : rightX o.x
    · exact h
    · exact h.fill hr
theorem do_w {xs : List Xl} {o : Ox} (hw : ∀ x ∈ xs, WX x) (wo : WX o.x) : ∀ x ∈ doX xs o, WX x := by
  unfold doX
  have hf : ∀ p : Xl → Bool, ∀ x ∈ xs.filter p, WX x := fun p x hx => hw x (List.mem_filter.mp hx).1
  cases o.kind.tmod 4 == 0
  · cases o.kind.tmod 4 == 1
    · cases o.kind.tmod 4 == 2
      · exact hf _
      · exact hf _
    · exact hf _
  · cases hr : rightX o.x
    · exact hw
    · intro x hx
      rcases fill_old hx with rfl | h
      · exact wo
      · exact hw x h
theorem r_do (k : Nat) (xs : List Xl) (o : Ox) (v : VX xs) (wo : WX o.x) : Rt Pg (D (k + 4)) 41 [Bv xs, ov o] (.tuple [Bv (doX xs o), Bv (doX xs o)]) := .of (by
  have e2 : Rt Pg (D (k + 3)) 36 [tv o.x] (.bool (rightX o.x)) := r_rright (k + 1) o.x wo.b0 wo.b1
  have f1 : Rt Pg (D (k + 3)) 38 [Bv xs, tv o.x] (Bv (fillX xs o.x)) := r_fill (k + 2) xs o.x v.len
  have f2 : Rt Pg (D (k + 3)) 98 [Bv xs, tv o.x] (Bv (fillX xs o.x)) := r_rfill (k + 2) xs o.x v.len
  have g1 : ∀ va, Rt Pg (D (k + 3)) 44 [Bv xs, .int .u32 va] (Bv (xs.filter (pFlush va))) := fun va => r_flush (k + 2) xs va v.l
  have g2 : ∀ va, Rt Pg (D (k + 3)) 99 [Bv xs, .int .u32 va] (Bv (xs.filter (pFlush va))) := fun va => r_rflush (k + 2) xs va v.l
  have h1 : ∀ a s, Rt Pg (D (k + 3)) 45 [Bv xs, .int .i64 a, .int .i64 s] (Bv (xs.filter (pTouch a s))) := fun a s => r_touch (k + 1) xs a s v.l v.r
  have h2 : ∀ a s, Rt Pg (D (k + 3)) 100 [Bv xs, .int .i64 a, .int .i64 s] (Bv (xs.filter (pTouch a s))) := fun a s => r_rtouch (k + 1) xs a s v.l v.r
  have i1 : ∀ p, Rt Pg (D (k + 3)) 46 [Bv xs, .int .i64 p] (Bv (xs.filter (pEvict p))) := fun p => r_evict (k + 1) xs p v.l v.r
  have i2 : ∀ p, Rt Pg (D (k + 3)) 101 [Bv xs, .int .i64 p] (Bv (xs.filter (pEvict p))) := fun p => r_revict (k + 1) xs p v.l v.r
  have tvX : AV.agg 69 [.int .u32 o.x.root, .int .i64 o.x.page, .int .i64 o.x.guest, .int .i64 o.x.frame, .int .i64 o.x.bits, .slice 3 (rv o.x.reads) false] = tv o.x := rfl
  rw [Dk, show ov o = .agg 78 [.int .u8 o.kind, .agg 69 [.int .u32 o.x.root, .int .i64 o.x.page, .int .i64 o.x.guest, .int .i64 o.x.frame, .int .i64 o.x.bits, .slice 3 (rv o.x.reads) false], .int .i64 o.pos, .int .i64 o.size] from rfl, nf_law25_do]
  simp only [tvX, e2.ok, e2.val, f1.ok, f1.val, f2.ok, f2.val, (g1 _).ok, (g1 _).val, (g2 _).ok, (g2 _).val, (h1 _ _).ok, (h1 _ _).val, (h2 _ _).ok, (h2 _ _).val, (i1 _).ok, (i1 _).val, (i2 _).ok, (i2 _).val, lM, bO, cond_true]
  unfold doX
  cases o.kind.tmod 4 == 0
  · cases o.kind.tmod 4 == 1
    · cases o.kind.tmod 4 == 2 <;> rfl
    · rfl
  · cases rightX o.x <;> rfl) (by kernel_rfl)
theorem r_access (k : Nat) (a : Int) : Rt Pg (D (k + 1)) 17 [.int .i64 a] (.bool (cond (decide ((1 : Int) ≤ a)) (decide (a ≤ 4)) false)) := .of (by rw [Dk, nf_ref10_Access]) (by kernel_rfl)
theorem ops_run (k : Nat) (r va a : Int) (u : Bool) (ha0 : 1 ≤ a) (ha1 : a ≤ 4) (os : List Ox) (wo : ∀ o ∈ os, WX o.x) (hl : os.length < 1000) :
    ∀ (m n : Nat) (xs : List Xl) (fuel : Nat), n + m = os.length → m < fuel → VX xs → (∀ x ∈ xs, WX x) →
      (Tr.run (st_law25_TlbWorksAsSpecified_8 (D (k + 5)) r va a u (os.map ov) ((os.length : Nat) : Int)) fuel ((n : Int), xs.map tv)).k = 2 := by
  intro m
  induction m with
  | zero =>
    intro n xs fuel hn hf v w
    obtain ⟨f, rfl⟩ : ∃ f, fuel = f + 1 := ⟨fuel - 1, by omega⟩
    obtain rfl : n = os.length := by omega
    simp only [Tr.run, st_law25_TlbWorksAsSpecified_8, sp_law25_TlbWorksAsSpecified_8, Tr.eval, nlt_n, cond_false]
  | succ m ih =>
    intro n xs fuel hn hf v w
    obtain ⟨f, rfl⟩ : ∃ f, fuel = f + 1 := ⟨fuel - 1, by omega⟩
    have h : n < os.length := by omega
    have wn := wo os[n] (List.getElem_mem h)
    have v' := v.op os[n]
    have w' := do_w w wn
    have e1 : Rt Pg (D (k + 5)) 41 [Bv xs, ov os[n]] _ := r_do (k + 1) xs os[n] v wn
    have e2 : Rt Pg (D (k + 5)) 39 [Bv (doX xs os[n]), .int .u32 r, .int .u32 va, .int .i64 a, .bool u] _ := r_look (k + 4) (doX xs os[n]) r va a u v'.l
    have e3 : Rt Pg (D (k + 5)) 42 [Bv (doX xs os[n]), .int .u32 r, .int .u32 va, .int .i64 a, .bool u] _ := r_rlook (k + 3) (doX xs os[n]) r va a u v'.l
    have e4 : Rt Pg (D (k + 5)) 43 [Bv (doX xs os[n]), Bv (doX xs os[n])] _ := r_Same (k + 3) (doX xs os[n]) v'.l v'.r
    have e5 : Rt Pg (D (k + 5)) 40 [Bv (doX xs os[n])] _ := r_valid (k + 3) (doX xs os[n])
    rw [(vT_iff _).mpr v'] at e5
    rw [← look_ref v' w' r va ha0 ha1 u] at e3
    have hb : ∀ b : Bool, (b == b) = true := fun b => by cases b <;> rfl
    rw [Tr.run]
    simp only [st_law25_TlbWorksAsSpecified_8, sp_law25_TlbWorksAsSpecified_8, Tr.eval, List.length_map, Int.toNat_natCast, at_map ov h, ovE, lt_n h, inB_n h, cond_true, nx_n (show n < 1000000 by omega), e1.ok, e1.val, tO, g0, g1, lM]
    simp only [e2.ok, e2.val, e3.ok, e3.val, e4.ok, e4.val, e5.ok, e5.val, tO, pO, g0, g1, g2, iO, bO, Bool.not_true, cond_true, cond_false, condB_tt, bne_self_eq_false, hb]
    exact ih (n + 1) (doX xs os[n]) f (by omega) (by omega) v' w'
theorem law9_true (k : Nat) (xs : List Xl) (hw : ∀ x ∈ xs, WX x) (os : List Ox) (wo : ∀ o ∈ os, WX o.x) (r va a : Int) (u : Bool) : D (k + 12) 9 [Bv xs, .slice 79 (os.map ov) false, .int .u32 r, .int .u32 va, .int .i64 a, .bool u] = some (.bool true) := by
  have e0 : Rt Pg (D (k + 11)) 37 [] (.bool true) := r_san (k + 2)
  have e1 : Rt Pg (D (k + 11)) 35 [Bv xs] (.bool (vR xs)) := r_rvalid (k + 8) xs hw
  have e2 : Rt Pg (D (k + 11)) 40 [Bv xs] (.bool (vT xs)) := r_valid (k + 9) xs
  have e3 : Rt Pg (D (k + 11)) 17 [.int .i64 a] _ := r_access (k + 10) a
  rw [vT_vR] at e2
  have hb : ∀ b : Bool, (b == b) = true := fun b => by cases b <;> rfl
  rw [Dk, nf_law25_TlbWorksAsSpecified]
  simp only [e0.ok, e0.val, e1.ok, e1.val, e2.ok, e2.val, e3.ok, e3.val, bO, cond_true, condB_tt, hb, Bool.not_true, cond_false, List.length_map]
  by_cases h1 : (30 : Int) < ((os.length : Nat) : Int)
  · rw [decide_eq_true h1]; rfl
  rw [decide_eq_false h1, cond_false]
  by_cases h2 : (20 : Int) < ((xs.length : Nat) : Int)
  · rw [decide_eq_true h2]; rfl
  rw [decide_eq_false h2, cond_false]
  cases h3 : (cond (decide ((1 : Int) ≤ a)) (decide (a ≤ 4)) false) with
  | false => rfl
  | true =>
    have ha : 1 ≤ a ∧ a ≤ 4 := by
      rw [c_and] at h3
      simpa using h3
    cases hv : vR xs with
    | false => rfl
    | true =>
      have v := (vR_iff xs).mp hv
      have := ops_run (k + 6) r va a u ha.1 ha.2 os wo (by omega) os.length 0 xs 100000 (by omega) (by omega) v hw
      have hk : (lf_law25_TlbWorksAsSpecified_8 (D (k + 11)) r va a u (os.map ov) ((os.length : Nat) : Int) 100000 0 (xs.map tv)).k = 2 := this
      rw [hk]; rfl
end Go.Proofs.Ytcknhfnbdgleiaa
