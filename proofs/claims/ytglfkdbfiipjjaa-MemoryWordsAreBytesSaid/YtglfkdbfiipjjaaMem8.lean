/- The memory's functions: what they return; shown of the program (first half). -/
import Derived.Test.YtglfkdbfiipjjaaMem6
set_option linter.unusedVariables false
set_option linter.unusedSimpArgs false
namespace Go.Proofs.Ytglfkdbfiipjjaa
open Go.AE

def byOK : AV → Bool
  | .int .u8 n => decide (0 ≤ n) && decide (n < 256)
  | _ => false
def pgOK : AV → Bool
  | .agg 71 ps => decide (ps.length = 128) && ps.all byOK
  | _ => false
def okF (l : List AV) : Bool := decide (1 ≤ l.length) && (decide (l.length ≤ 64) && l.all pgOK)
/-- May it be compared with another one? -/
def okdF (l : List AV) : Bool := decide (l.length ≤ 64) && l.all pgOK
def vldF (l : List AV) : Bool := decide (1 ≤ (l.length : Int)) && decide ((l.length : Int) ≤ 64)
def ldF0 (l : List AV) (a s : Int) : Int :=
  let b := sub (partsOf (l.getD (IntKind.i64.wrap (a.tdiv 128)).toNat .dead)) (a.tmod 128).toNat 128
  let x (i : Nat) := IntKind.u32.wrap (intOf (b.getD i .dead))
  cond (s == 1) (x 0) (ibits .or .u32 (ibits .or .u32 (ibits .or .u32 (x 0) (IntKind.u32.wrap (x 1 * 2 ^ min (8 : Int).toNat 32))) (IntKind.u32.wrap (x 2 * 2 ^ min (16 : Int).toNat 32))) (IntKind.u32.wrap (x 3 * 2 ^ min (24 : Int).toNat 32)))
def thF (l : List AV) (a s : Int) : Bool := thereB l.length a s
def ldV (l : List AV) (a s : Int) : Int := cond (thF l a s) (ldF0 l a s) 0
def rldV (l : List AV) (a s : Int) : Int := cond (thF l a s) (rlN l a.toNat ((IntKind.i64.wrap (s - 1)).toNat + 1) 0) 0
def sz0 (p : List AV) (n : Nat) : List AV := sub p 0 (0 + n)
def apF (l ws : List AV) : List AV := cond (appL l.length ws l).2 (sz0 (appL l.length ws l).1 l.length) l
def apBF (l ws : List AV) : Bool := (appL l.length ws l).2
def stF (l : List AV) (a s v : Int) : List AV := apF l [Wv a s v]
def stBF (l : List AV) (a s v : Int) : Bool := apBF l [Wv a s v]
def rstF (l : List AV) (a s v : Int) : List AV := cond (thF l a s) (sz0 (rsN l a.toNat v s.toNat) l.length) l
def rstBF (l : List AV) (a s v : Int) : Bool := thF l a s
def dfF (a b : List AV) : List AV := dfN a b (maxI a b).toNat
def smF (a b : List AV) : Bool := ((dfF a b).length : Int) == 0
def siF (a b : List AV) : Bool := cond ((a.length : Int) != (b.length : Int)) false (saN a b a.length 0)
def siOKF (a b : List AV) : Bool := decide (a.length < 5000)
def inR (l : List AV) (a n : Int) : Bool := cond (decide (a < 0)) false (cond (decide (n < 0)) false (cond (decide (szI l.length < a)) false (cond (decide (IntKind.i64.wrap (szI l.length - a) < n)) false true)))
def rdF (l : List AV) (a n : Int) : List UInt8 := cond (inR l a n) ((rdN l a.toNat n.toNat n.toNat []).map Go.AE.byteOf) []
def rrdF (l : List AV) (a n : Int) : List UInt8 := cond (inR l a n) ((rrN l a.toNat n.toNat).map Go.AE.byteOf) []
def inW (l : List AV) (a n : Int) : Bool := cond (decide (a < 0)) false (cond (decide (szI l.length < a)) false (cond (decide (IntKind.i64.wrap (szI l.length - a) < n)) false true))
def wrF (l : List AV) (a : Int) (s : List UInt8) : List AV := cond (inW l a s.length) (sz0 (putP l a.toNat (s.map byteAV)) l.length) l
def wrBF (l : List AV) (a : Int) (s : List UInt8) : Bool := inW l a s.length
def rwrF (l : List AV) (a : Int) (s : List UInt8) : List AV := cond (inW l a s.length) (sz0 (rwN l a.toNat s s.length) l.length) l
def nwBad (n : Int) : Bool := cond (decide (n < 1)) true (decide (64 < n))
noncomputable def nwF (n : Int) : List AV := cond (nwBad n) [] (sz0 (List.replicate n.toNat (zero Try.checked.prog 72)) n.toNat)
def nwEF (n : Int) : Int := cond (nwBad n) 1 0
noncomputable def F1 : Fn6 := { ok := okF, okd := okdF, vld := vldF, ld := ldV, ldB := thF, rld := rldV, rldB := thF, st := stF, stB := stBF, rst := rstF, rstB := rstBF, ap := apF, apB := apBF, rap := fun l _ => l, rapB := fun _ _ => true, wok := fun ws => decide (ws.length < 1000), df := dfF, rdf := dfF, sm := smF, si := siF, siOK := siOKF, rd := rdF, rdB := inR, rrd := rrdF, rrdB := inR, wr := wrF, wrB := wrBF, rwr := rwrF, rwrB := wrBF, nw := nwF, nwE := nwEF, rnw := nwF, rnwE := nwEF, sz := fun l => szI l.length }
noncomputable def rapF (l ws : List AV) : List AV := cond (rapN F1 ws l).2 (rapN F1 ws l).1 l
noncomputable def rapBF (l ws : List AV) : Bool := (rapN F1 ws l).2
noncomputable def F0 : Fn6 := { F1 with rap := rapF, rapB := rapBF }
theorem rapN_F : ∀ (ws cur : List AV), rapN F0 ws cur = rapN F1 ws cur
  | [], _ => rfl
  | w :: ws, cur => by simp only [rapN, rapN_F ws]; rfl
theorem rapOK_F : ∀ (ws cur : List AV), rapOK F0 ws cur = rapOK F1 ws cur
  | [], _ => rfl
  | w :: ws, cur => by simp only [rapOK, rapOK_F ws]; rfl

/-! plain facts that the walk needs -/
theorem okF_spec {l : List AV} (h : okF l = true) : 1 ≤ l.length ∧ l.length ≤ 64 ∧ ∀ p ∈ l, pgOK p = true := by
  simp only [okF, Bool.and_eq_true, decide_eq_true_eq, List.all_eq_true] at h
  exact h
theorem ok_wfP {l : List AV} (h : okF l = true) : wfP l = true := by
  obtain ⟨_, _, h3⟩ := okF_spec h
  simp only [wfP, List.all_eq_true, decide_eq_true_eq]
  intro p hp
  have := h3 p hp
  unfold pgOK at this
  split at this
  · simp only [Bool.and_eq_true, decide_eq_true_eq] at this; exact this.1
  · exact absurd this (by simp)
theorem clone_ok {X : Type} {l : List AV} (h : okF l = true) (k : Option X) : clone l k = k := by
  obtain ⟨h1, h2, _⟩ := okF_spec h
  unfold clone
  rw [decide_eq_true (show 0 < l.length by omega), decide_eq_true (show (0 + l.length) * 128 ≤ 140737488355328 by omega)]; rfl
theorem clone2_ok {X : Type} {l : List AV} (h : okF l = true) (k : Option X) : clone2 l k = k := by
  obtain ⟨h1, h2, _⟩ := okF_spec h
  unfold clone2
  rw [decide_eq_true (show 0 < l.length by omega), decide_eq_true (show (0 + l.length) * 128 ≤ 140737488355328 by omega)]; rfl
theorem rthereK_eq {X : Type} (n : Nat) (a s : Int) (k : Bool → Option X) : rthereK n a s k = k (thereB n a s) := by
  unfold rthereK thereB szI
  by_cases h1 : s = 1
  · subst h1
    cases decide (0 ≤ a) <;> cases (a.tmod 1 == 0) <;> rfl
  · by_cases h4 : s = 4
    · subst h4
      cases decide (0 ≤ a) <;> cases (a.tmod 4 == 0) <;> rfl
    · have e1 : (s == 1) = false := by simp [h1]
      have e4 : (s == 4) = false := by simp [h4]
      have e2 : (s != 1) = true := by simp [h1]
      have e3 : (s != 4) = true := by simp [h4]
      rw [e1, e4, e2, e3]; rfl
theorem ldF_eq {l : List AV} {a s : Int} (hok : okF l = true) (h : thF l a s = true) : ldF l a s = some (.tuple [.int .u32 (ldF0 l a s), .bool true]) := by
  obtain ⟨k1, k2, _⟩ := okF_spec hok
  obtain ⟨h0, hs, hm, hle⟩ := thereB_spec k2 h
  obtain ⟨x, rfl⟩ : ∃ x : Nat, a = x := ⟨a.toNat, by omega⟩
  have hx : x < 128 * l.length := by rcases hs with rfl | rfl <;> omega
  have hpl := wf_len (ok_wfP hok) (i := x / 128) (by omega)
  have e2 : (decide (0 ≤ ((x % 128 : Nat) : Int)) && decide (((x % 128 : Nat) : Int) ≤ ((128 : Nat) : Int))) = true := by
    rw [decide_eq_true (Int.natCast_nonneg _), decide_eq_true (by omega)]; rfl
  have hin : ∀ i : Nat, i < 128 - x % 128 → inB (i : Int) (128 - x % 128) = true := fun i hi => by
    unfold inB
    rw [decide_eq_true (Int.natCast_nonneg _), decide_eq_true (by omega)]; rfl
  unfold ldF ldF0
  simp only [ad2 x (by omega), ad3, ad4 (x := x) (L := l.length) hx, cond_true, e2, Int.toNat_natCast]
  have hl : (sub (partsOf (l.getD (x / 128) .dead)) (x % 128) 128).length = 128 - x % 128 := by rw [sub_len _ _ _ (by rw [hpl]; omega)]
  rw [hl]
  rcases hs with rfl | rfl
  · have := hin 0 (by omega)
    rw [show (0 : Int) = ((0 : Nat) : Int) from rfl, this]; rfl
  · have hm4 : x % 4 = 0 := by
      have : ((x : Nat) : Int).tmod 4 = ((x % 4 : Nat) : Int) := rfl
      rw [this] at hm; omega
    have i0 := hin 0 (by omega)
    have i1 := hin 1 (by omega)
    have i2 := hin 2 (by omega)
    have i3 := hin 3 (by omega)
    rw [show (0 : Int) = ((0 : Nat) : Int) from rfl, show (1 : Int) = ((1 : Nat) : Int) from rfl, show (2 : Int) = ((2 : Nat) : Int) from rfl, show (3 : Int) = ((3 : Nat) : Int) from rfl, i0, i1, i2, i3]
    rfl
def Cs (f : FuncId) (args : List AV) (v : AV) : Prop := CallsS Try.checked.prog f args v
theorem c9 : Cs 9 [] (.bool true) := fnV_sound (cx := cx0) (fun f args v h => by simp [cx0] at h) (Ctx.noLoops fun _ _ _ _ _ => rfl) v9
theorem c10 (l : List AV) : Cs 10 [Mv l] (.bool (vldF l)) := fnV_sound goodE loopsE (v10 l)
theorem c11 (l : List AV) : Cs 11 [Mv l] (.bool (vldF l)) := fnV_sound goodE loopsE (v11 l)
theorem c16 (l : List AV) : Cs 16 [Mv l] (.int .i64 (szI l.length)) := fnV_sound goodE loopsE (v16 l)
theorem c17 (l : List AV) : Cs 17 [Mv l] (.int .i64 (szI l.length)) := fnV_sound goodE loopsE (v17 l)
theorem c12 (l : List AV) (a s : Int) (h : okF l = true) : Cs 12 [Mv l, .int .i64 a, .int .i64 s] (.tuple [.int .u32 (ldV l a s), .bool (thF l a s)]) := fnV_sound goodE loopsE (by
  rw [v12, thereK_eq]
  unfold ldV
  cases ht : thF l a s with
  | false =>
    have ht' : thereB l.length a s = false := ht
    rw [ht']; rfl
  | true =>
    have ht' : thereB l.length a s = true := ht
    rw [ht']
    exact ldF_eq h ht)
theorem c14 (l : List AV) (a s : Int) (h : okF l = true) : Cs 14 [Mv l, .int .i64 a, .int .i64 s] (.agg 34 [.int .u32 (rldV l a s), .bool (thF l a s)]) := fnV_sound goodE loopsE (by
  rw [v14, rthereK_eq]
  unfold rldV
  cases ht : thF l a s with
  | false =>
    have ht' : thereB l.length a s = false := ht
    rw [ht']; rfl
  | true =>
    have ht' : thereB l.length a s = true := ht
    obtain ⟨k1, k2, _⟩ := okF_spec h
    obtain ⟨h0, hs, hm, hle⟩ := thereB_spec k2 ht'
    have ei : IntKind.i64.wrap (s - 1) = s - 1 := wrap_i64_id (by omega) (by omega)
    rw [ht', ei]
    simp only [Bool.not_true, cond_false, cond_true, decide_eq_true h0, decide_eq_true (show 0 ≤ s - 1 by omega), decide_eq_true (show a + (s - 1) < 128 * (l.length : Int) by omega), decide_eq_true k2, Bool.and_self])
theorem c15 (l : List AV) (a s v : Int) (h : okF l = true) : Cs 15 [Mv l, Wv a s v] (.agg 37 [Mv (rstF l a s v), .bool (rstBF l a s v)]) := fnV_sound goodE loopsE (by
  rw [v15, rthereK_eq]
  unfold rstF rstBF
  cases ht : thF l a s with
  | false =>
    have ht' : thereB l.length a s = false := ht
    rw [ht']; rfl
  | true =>
    have ht' : thereB l.length a s = true := ht
    obtain ⟨k1, k2, _⟩ := okF_spec h
    obtain ⟨h0, hs, hm, hle⟩ := thereB_spec k2 ht'
    rw [ht', clone2_ok h]
    simp only [Bool.not_true, cond_false, cond_true, decide_eq_true h0, decide_eq_true (show 0 ≤ s by omega), decide_eq_true (show s ≤ 4 by omega), decide_eq_true hle, decide_eq_true k2, Bool.and_self]
    rfl)
theorem c24 (l ws : List AV) (h : okF l = true) (hw : ws.length < 1000) : Cs 24 [Mv l, .slice 27 ws false] (.tuple [Mv (apF l ws), .bool (apBF l ws)]) := fnV_sound goodE loopsE (by
  obtain ⟨k1, k2, _⟩ := okF_spec h
  rw [v24, clone_ok h]
  unfold apF apBF
  simp only [decide_true, Bool.true_and, decide_eq_true k2, decide_eq_true hw, cond_true, Bool.and_self]
  cases (appL l.length ws l).2 <;> rfl)
theorem okdF_spec {l : List AV} (h : okdF l = true) : l.length ≤ 64 ∧ ∀ p ∈ l, pgOK p = true := by
  simpa [okdF] using h
theorem okd_of {l : List AV} (h : okF l = true) : okdF l = true := by
  simp only [okF, Bool.and_eq_true] at h
  unfold okdF
  rw [h.2.1, h.2.2]; rfl
theorem maxI_le {a b : List AV} (ha : okdF a = true) (hb : okdF b = true) : 0 ≤ maxI a b ∧ maxI a b < 1000 := by
  obtain ⟨k2, _⟩ := okdF_spec ha
  obtain ⟨m2, _⟩ := okdF_spec hb
  unfold maxI; split <;> omega
theorem c19 (a b : List AV) (ha : okdF a = true) (hb : okdF b = true) : Cs 19 [Mv a, Mv b] (.slice 3 (dfF a b) false) := fnV_sound goodE loopsE (by
  obtain ⟨h1, h2⟩ := maxI_le ha hb
  rw [v19, decide_eq_true h1, decide_eq_true h2]; rfl)
theorem c29 (a b : List AV) (ha : okdF a = true) (hb : okdF b = true) : Cs 29 [Mv a, Mv b] (.slice 3 (dfF a b) false) := fnV_sound goodE loopsE (by
  obtain ⟨h1, h2⟩ := maxI_le ha hb
  rw [v29, decide_eq_true h2]; rfl)
theorem c20 (a b : List AV) (h : siOKF a b = true) : Cs 20 [.slice 3 a false, .slice 3 b false] (.bool (siF a b)) := fnV_sound goodE loopsE (by
  rw [v20]
  unfold siF
  have hl : decide (a.length < 5000) = true := h
  by_cases he : a.length = b.length
  · have e1 : ((a.length : Int) != (b.length : Int)) = false := by rw [he]; simp
    rw [e1, hl, decide_eq_true he]
    cases saN a b a.length 0 <;> rfl
  · have e1 : ((a.length : Int) != (b.length : Int)) = true := by
      simp only [bne_iff_ne, ne_eq]; omega
    rw [e1]; rfl)
theorem sz_id {n : Nat} (h : n ≤ 64) : szI n = 128 * (n : Int) := by unfold szI; rw [wrap_i64_id] <;> omega
theorem inR_spec {l : List AV} {a n : Int} (hl : l.length ≤ 64) : inR l a n = true ↔ 0 ≤ a ∧ 0 ≤ n ∧ a + n ≤ 128 * (l.length : Int) := by
  unfold inR
  rw [sz_id hl]
  by_cases h1 : a < 0
  · simp [h1]; omega
  · by_cases h2 : n < 0
    · simp [h1, h2]; omega
    · by_cases h3 : 128 * (l.length : Int) < a
      · simp [h1, h2, h3]; omega
      · rw [wrap_i64_id (n := 128 * (l.length : Int) - a) (by omega) (by omega)]
        by_cases h4 : 128 * (l.length : Int) - a < n
        · simp [h1, h2, h3, h4]; omega
        · simp [h1, h2, h3, h4]; omega
theorem c21 (l : List AV) (a n : Int) (h : okF l = true) : Cs 21 [Mv l, .int .i64 a, .int .i64 n] (.tuple [.str (rdF l a n), .bool (inR l a n)]) := fnV_sound goodE loopsE (by
  obtain ⟨k1, k2, _⟩ := okF_spec h
  rw [v21]
  unfold rdF
  cases hr : inR l a n with
  | true =>
    obtain ⟨r1, r2, r3⟩ := (inR_spec k2).1 hr
    have hr' := hr
    unfold inR at hr'
    simp only [decide_eq_true r1, decide_eq_true r2, decide_eq_true r3, decide_eq_true k2, ok_wfP h, decide_eq_true (show n * 1 ≤ 140737488355328 by omega), decide_eq_true (show n ≤ 140737488355328 by omega), Bool.and_self, cond_true]
    revert hr'
    cases decide (a < 0) <;> cases decide (n < 0) <;> cases decide (szI l.length < a) <;> cases decide (IntKind.i64.wrap (szI l.length - a) < n) <;> intro hr' <;> first | rfl | exact absurd hr' (by decide)
  | false =>
    unfold inR at hr
    revert hr
    cases decide (a < 0) <;> cases decide (n < 0) <;> cases decide (szI l.length < a) <;> cases decide (IntKind.i64.wrap (szI l.length - a) < n) <;> intro hr <;> first | rfl | exact absurd hr (by decide))
theorem c26 (l : List AV) (a n : Int) (h : okF l = true) : Cs 26 [Mv l, .int .i64 a, .int .i64 n] (.agg 59 [.str (rrdF l a n), .bool (inR l a n)]) := fnV_sound goodE loopsE (by
  obtain ⟨k1, k2, _⟩ := okF_spec h
  rw [v26]
  unfold rrdF
  cases hr : inR l a n with
  | true =>
    obtain ⟨r1, r2, r3⟩ := (inR_spec k2).1 hr
    have hr' := hr
    unfold inR at hr'
    simp only [decide_eq_true r1, decide_eq_true r2, decide_eq_true r3, decide_eq_true k2, Bool.and_self, cond_true]
    revert hr'
    cases decide (a < 0) <;> cases decide (n < 0) <;> cases decide (szI l.length < a) <;> cases decide (IntKind.i64.wrap (szI l.length - a) < n) <;> intro hr' <;> first | rfl | exact absurd hr' (by decide)
  | false =>
    unfold inR at hr
    revert hr
    cases decide (a < 0) <;> cases decide (n < 0) <;> cases decide (szI l.length < a) <;> cases decide (IntKind.i64.wrap (szI l.length - a) < n) <;> intro hr <;> first | rfl | exact absurd hr (by decide))
theorem inW_spec {l : List AV} {a n : Int} (hl : l.length ≤ 64) : inW l a n = true ↔ 0 ≤ a ∧ a ≤ 128 * (l.length : Int) ∧ a + n ≤ 128 * (l.length : Int) := by
  unfold inW
  rw [sz_id hl]
  by_cases h1 : a < 0
  · simp [h1]; omega
  · by_cases h3 : 128 * (l.length : Int) < a
    · simp [h1, h3]; omega
    · rw [wrap_i64_id (n := 128 * (l.length : Int) - a) (by omega) (by omega)]
      by_cases h4 : 128 * (l.length : Int) - a < n
      · simp [h1, h3, h4]; omega
      · simp [h1, h3, h4]; omega
theorem c23 (l : List AV) (a : Int) (s : List UInt8) (h : okF l = true) : Cs 23 [Mv l, .int .i64 a, .str s] (.tuple [Mv (wrF l a s), .bool (wrBF l a s)]) := fnV_sound goodE loopsE (by
  obtain ⟨k1, k2, _⟩ := okF_spec h
  rw [v23]
  unfold wrF wrBF
  cases hr : inW l a s.length with
  | true =>
    obtain ⟨r1, r2, r3⟩ := (inW_spec k2).1 hr
    have hr' := hr
    unfold inW at hr'
    have hp : putOK l.length a (s.map byteAV) = true := by
      unfold putOK
      rw [List.length_map, decide_eq_true r1, decide_eq_true r3, decide_eq_true k2]; rfl
    simp only [clone_ok h, hp, cond_true]
    revert hr'
    cases decide (a < 0) <;> cases decide (szI l.length < a) <;> cases decide (IntKind.i64.wrap (szI l.length - a) < (s.length : Int)) <;> intro hr' <;> first | rfl | exact absurd hr' (by decide)
  | false =>
    unfold inW at hr
    revert hr
    cases decide (a < 0) <;> cases decide (szI l.length < a) <;> cases decide (IntKind.i64.wrap (szI l.length - a) < (s.length : Int)) <;> intro hr <;> first | rfl | exact absurd hr (by decide))
theorem c27 (l : List AV) (a : Int) (s : List UInt8) (h : okF l = true) : Cs 27 [Mv l, .int .i64 a, .str s] (.agg 37 [Mv (rwrF l a s), .bool (wrBF l a s)]) := fnV_sound goodE loopsE (by
  obtain ⟨k1, k2, _⟩ := okF_spec h
  rw [v27]
  unfold rwrF wrBF
  cases hr : inW l a s.length with
  | true =>
    obtain ⟨r1, r2, r3⟩ := (inW_spec k2).1 hr
    have hr' := hr
    unfold inW at hr'
    simp only [clone2_ok h, decide_eq_true r1, decide_eq_true r3, decide_eq_true k2, Bool.and_self, cond_true]
    revert hr'
    cases decide (a < 0) <;> cases decide (szI l.length < a) <;> cases decide (IntKind.i64.wrap (szI l.length - a) < (s.length : Int)) <;> intro hr' <;> first | rfl | exact absurd hr' (by decide)
  | false =>
    unfold inW at hr
    revert hr
    cases decide (a < 0) <;> cases decide (szI l.length < a) <;> cases decide (IntKind.i64.wrap (szI l.length - a) < (s.length : Int)) <;> intro hr <;> first | rfl | exact absurd hr (by decide))
theorem nwOK {n : Int} (h : nwBad n = false) : (decide (0 ≤ n) && decide (n * 128 ≤ 140737488355328) && decide (n ≤ 140737488355328)) = true := by
  unfold nwBad at h
  by_cases h1 : n < 1
  · simp [h1] at h
  · have h2 : ¬ 64 < n := by simpa [h1] using h
    rw [decide_eq_true (show 0 ≤ n by omega), decide_eq_true (show n * 128 ≤ 140737488355328 by omega), decide_eq_true (show n ≤ 140737488355328 by omega)]; rfl
theorem c22 (n : Int) : Cs 22 [.int .i64 n] (.tuple [Mv (nwF n), .int .i64 (nwEF n)]) := fnV_sound goodE loopsE (by
  rw [v22]
  unfold nwF nwEF
  cases h : nwBad n with
  | true => have h' : (cond (decide (n < 1)) true (decide (64 < n))) = true := h
            rw [h']; rfl
  | false => have h' : (cond (decide (n < 1)) true (decide (64 < n))) = false := h
             rw [h', nwOK h]; rfl)
theorem c25 (n : Int) : Cs 25 [.int .i64 n] (.agg 56 [Mv (nwF n), .int .i64 (nwEF n)]) := fnV_sound goodE loopsE (by
  rw [v25]
  unfold nwF nwEF
  cases h : nwBad n with
  | true => have h' : (cond (decide (n < 1)) true (decide (64 < n))) = true := h
            rw [h']; rfl
  | false => have h' : (cond (decide (n < 1)) true (decide (64 < n))) = false := h
             rw [h', nwOK h]; rfl)
end Go.Proofs.Ytglfkdbfiipjjaa
