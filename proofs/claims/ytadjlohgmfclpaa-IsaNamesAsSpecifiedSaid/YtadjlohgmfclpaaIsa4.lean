/- Instructions: accesses, registers, targets. -/
import Derived.Test.YtadjlohgmfclpaaIsa3
set_option linter.unusedVariables false
set_option linter.unusedSimpArgs false
namespace Go.Proofs.Ytadjlohgmfclpaa
open Go.AE

def acA (o : Int) : Int := cond (o == 20) 1 (cond (o == 22) 1 (cond (o == 21) 2 (cond (o == 23) 2 (cond (o == 24) 3 0))))
def acS (o : Int) : Int := cond (o == 20) 4 (cond (o == 22) 1 (cond (o == 21) 4 (cond (o == 23) 1 (cond (o == 24) 4 0))))
def brB (o : Int) : Bool := cond (decide ((28 : Int) ≤ o)) (decide (o ≤ 31)) false
theorem r_access (k : Nat) (o : Int) : Rt Pg (D (k + 1)) 26 [.int .i64 o] (.tuple [.int .i64 (acA o), .int .i64 (acS o)]) := .of (by
  rw [Dk, nf_isa_Access]
  unfold acA acS
  cases (o == 20) <;> cases (o == 22) <;> cases (o == 21) <;> cases (o == 23) <;> cases (o == 24) <;> rfl) (by kernel_rfl)
theorem r_raccess (k : Nat) (o : Int) : Rt Pg (D (k + 1)) 27 [.int .i64 o] (.agg 56 [.int .i64 (acA o), .int .i64 (acS o)]) := .of (by
  rw [Dk, nf_ref04_Access]
  unfold acA acS
  cases (o == 20) <;> cases (o == 22) <;> cases (o == 21) <;> cases (o == 23) <;> cases (o == 24) <;> rfl) (by kernel_rfl)
theorem r_priv (k : Nat) (o : Int) : Rt Pg (D (k + 1)) 30 [.int .i64 o] (.bool (cond (decide ((41 : Int) ≤ o)) (decide (o ≤ 48)) false)) := .of (nf_isa_Privileged _ _) (by kernel_rfl)
theorem r_rpriv (k : Nat) (o : Int) : Rt Pg (D (k + 1)) 31 [.int .i64 o] (.bool (cond (decide ((41 : Int) ≤ o)) (decide (o ≤ 48)) false)) := .of (nf_ref04_Privileged _ _) (by kernel_rfl)
theorem r_branches (k : Nat) (o : Int) : Rt Pg (D (k + 1)) 36 [.int .i64 o] (.bool (brB o)) := .of (nf_isa_branches _ _) (by kernel_rfl)
theorem r_branch (k : Nat) (o : Int) : Rt Pg (D (k + 1)) 37 [.int .i64 o] (.bool (brB o)) := .of (nf_ref04_branch _ _) (by kernel_rfl)
def wrI (o a : Int) : Int := cond (cond (acA o == 2) true (cond (brB o) true (cond (o == 43) true (o == 47)))) 0 a
theorem r_writes (k : Nat) (o a b c m : Int) : Rt Pg (D (k + 2)) 19 [Ia o a b c m] (.int .i64 (wrI o a)) := .of (by
  rw [Dk, nf_isa_Writes]
  simp only [(r_access k o).ok, (r_access k o).val, (r_branches k o).ok, (r_branches k o).val, tO, g0, iO, bO, cond_true, condB_tt, pI]
  rfl) (by kernel_rfl)
theorem r_rwrites (k : Nat) {o a b c m : Int} (h : rgt o a b c m = true) : Rt Pg (D (k + 2)) 20 [Ia o a b c m] (.int .i64 (wrI o a)) := .of (by
  rw [Dk, nf_ref04_Writes]
  simp only [(r_branch k o).ok, (r_branch k o).val, bO, cond_true, condB_tt, pI]
  congr 2
  unfold wrI acA
  have h44 : (o == 44) = true → a = 0 := fun e => by
    have e := eq_of_beq e
    subst e
    have : formI 44 = 4 := by decide
    unfold rgt at h
    rw [decide_eq_true_iff, this] at h
    unfold RP at h
    omega
  by_cases h21 : o = 21
  · subst h21; rfl
  by_cases h23 : o = 23
  · subst h23; rfl
  have e21 : (o == 21) = false := by simp [h21]
  have e23 : (o == 23) = false := by simp [h23]
  simp only [e21, e23, cond_false]
  cases h1 : (o == 44)
  · cases (o == 20) <;> cases (o == 22) <;> cases (o == 24) <;> cases brB o <;> cases (o == 43) <;> cases (o == 47) <;> rfl
  · rw [h44 h1]
    simp only [cond_same]) (by kernel_rfl)
def goB (o : Int) : Bool := cond (!(brB o)) (o != 32) false
def toI (pc m : Int) : Int := (pc + 4 * m) % 4294967296
theorem r_target (k : Nat) (pc o a b c m : Int) : Rt Pg (D (k + 2)) 14 [.int .u32 pc, Ia o a b c m] (.tuple [.int .u32 (cond (goB o) 0 (toI pc m)), .bool (!(goB o))]) := .of (by
  rw [Dk, nf_isa_Target]
  simp only [(r_branches k o).ok, (r_branches k o).val, bO, cond_true]
  have e : IntKind.u32.wrap (pc + (IntKind.u32.wrap ((IntKind.u32.wrap m) * 4))) = toI pc m := by
    rw [wrap_u32, wrap_u32, wrap_u32]; unfold toI; omega
  rw [e]
  unfold goB
  cases (cond (!(brB o)) (o != 32) false) <;> rfl) (by kernel_rfl)
theorem r_rtarget (k : Nat) (pc o a b c m : Int) (hm : imm m) : Rt Pg (D (k + 2)) 15 [.int .u32 pc, Ia o a b c m] (.agg 35 [.int .u32 (cond (goB o) 0 (toI pc m)), .bool (!(goB o))]) := .of (by
  rw [Dk, nf_ref04_Target]
  simp only [(r_branch k o).ok, (r_branch k o).val, bO, cond_true]
  have e : IntKind.u32.wrap (pc + (IntKind.u32.wrap (IntKind.i32.wrap (IntKind.i64.wrap (4 * m))))) = toI pc m := by
    unfold imm at hm
    rw [wrap_i64_id (n := 4 * m) (by omega) (by omega), wrap_u32, wrap_u32, wrap_i32]; unfold toI; omega
  rw [e]
  unfold goB
  cases (cond (!(brB o)) (o != 32) false) <;> rfl) (by kernel_rfl)
/-! ### lists of numbers -/
/-- Those of m numbers from i on that are asked for. -/
def rdF (q : Nat → Bool) : Nat → Nat → List AV
  | 0, _ => []
  | m + 1, i => cond (q i) (.int .i64 i :: rdF q m (i + 1)) (rdF q m (i + 1))
theorem rdF_succ (q : Nat → Bool) (m i : Nat) : rdF q (m + 1) i = cond (q i) (.int .i64 i :: rdF q m (i + 1)) (rdF q m (i + 1)) := rfl
theorem rdF_congr {q p : Nat → Bool} : ∀ (m i : Nat), (∀ j, i ≤ j → j < i + m → q j = p j) → rdF q m i = rdF p m i
  | 0, _, _ => rfl
  | m + 1, i, h => by
    unfold rdF
    rw [h i (Nat.le_refl _) (by omega), rdF_congr m (i + 1) fun j h1 h2 => h j (by omega) (by omega)]
theorem rdF_len (q : Nat → Bool) : ∀ m i, (rdF q m i).length ≤ m
  | 0, _ => by simp [rdF]
  | m + 1, i => by
    have := rdF_len q m (i + 1)
    unfold rdF
    cases q i <;> simp <;> omega
theorem lf_reads (F : Tab) (l1 : List AV) (i1 i2 i3 i4 i5 : Int) (l2 : List AV) (q : Nat → Bool) (hq : ∀ i, i < 16 → cond (boolOf (l1.getD i .dead)) (decide (0 < i)) false = q i) : ∀ (m i fuel : Nat) (l : List AV), i + m = 16 → m < fuel → l.length + m < 1000 →
    lf_isa_Reads_10 F l1 i1 i2 i3 i4 i5 l2 fuel l (i : Int) = ⟨1, [], [], [l ++ rdF q m i], [], [], []⟩
  | 0, i, fuel, l, hi, hf, hl => by
    obtain ⟨fuel, rfl⟩ : ∃ f, fuel = f + 1 := ⟨fuel - 1, by omega⟩
    unfold lf_isa_Reads_10
    rw [decide_eq_false (by omega : ¬ (i : Int) < 16)]
    simp [rdF]
  | m + 1, i, fuel, l, hi, hf, hl => by
    obtain ⟨fuel, rfl⟩ : ∃ f, fuel = f + 1 := ⟨fuel - 1, by omega⟩
    unfold lf_isa_Reads_10
    have h0 : inB (i : Int) 16 = true := by simp [inB]; omega
    have h1 : (decide ((0 : Int) < (i : Int))) = decide (0 < i) := by rw [decide_eq_decide]; omega
    rw [decide_eq_true (by omega : (i : Int) < 16), h0, Int.toNat_natCast, h1, hq i (by omega), decide_eq_true (by omega : (l.length + 1) * 8 ≤ 140737488355328), wrap_i64_id (by omega) (by omega), show (i : Int) + 1 = ((i + 1 : Nat) : Int) from by omega]
    simp only [cond_true]
    rw [lf_reads F l1 i1 i2 i3 i4 i5 l2 q hq m (i + 1) fuel _ (by omega) (by omega) (by simp; omega), lf_reads F l1 i1 i2 i3 i4 i5 l2 q hq m (i + 1) fuel _ (by omega) (by omega) (by omega)]
    rw [rdF_succ]
    cases q i <;> simp
theorem lf_rreads (F : Tab) (b0 b1 : Bool) (i1 i2 i3 i4 i5 : Int) (q : Nat → Bool) (hq : ∀ i : Nat, i < 16 → (cond b0 (cond (i2 == (i : Int)) true (cond b1 (cond (i3 == (i : Int)) true (i4 == (i : Int))) (i4 == (i : Int)))) (cond b1 (cond (i3 == (i : Int)) true (i4 == (i : Int))) (i4 == (i : Int)))) = q i) : ∀ (m i fuel : Nat) (l : List AV), i + m = 16 → m < fuel → l.length + m < 1000 →
    lf_ref04_Reads_5 F b0 b1 i1 i2 i3 i4 i5 fuel l (i : Int) = ⟨1, [], [], [l ++ rdF q m i], [], [], []⟩
  | 0, i, fuel, l, hi, hf, hl => by
    obtain ⟨fuel, rfl⟩ : ∃ f, fuel = f + 1 := ⟨fuel - 1, by omega⟩
    unfold lf_ref04_Reads_5
    rw [decide_eq_false (by omega : ¬ (i : Int) < 16)]
    simp [rdF]
  | m + 1, i, fuel, l, hi, hf, hl => by
    obtain ⟨fuel, rfl⟩ : ∃ f, fuel = f + 1 := ⟨fuel - 1, by omega⟩
    unfold lf_ref04_Reads_5
    rw [decide_eq_true (by omega : (i : Int) < 16), hq i (by omega), decide_eq_true (by omega : (l.length + 1) * 8 ≤ 140737488355328), wrap_i64_id (by omega) (by omega), show (i : Int) + 1 = ((i + 1 : Nat) : Int) from by omega]
    simp only [cond_true]
    rw [lf_rreads F b0 b1 i1 i2 i3 i4 i5 q hq m (i + 1) fuel _ (by omega) (by omega) (by simp; omega), lf_rreads F b0 b1 i1 i2 i3 i4 i5 q hq m (i + 1) fuel _ (by omega) (by omega) (by omega)]
    rw [rdF_succ]
    cases q i <;> simp
def zs : List AV := [.bool false, .bool false, .bool false, .bool false, .bool false, .bool false, .bool false, .bool false, .bool false, .bool false, .bool false, .bool false, .bool false, .bool false, .bool false, .bool false]
theorem set2 : ∀ a : Nat, a < 16 → ∀ b : Nat, b < 16 → ∀ i : Nat, i < 16 → cond (boolOf (((zs.set a (.bool true)).set b (.bool true)).getD i .dead)) (decide (0 < i)) false = ((a == i || b == i) && decide (0 < i)) := by decide +kernel
theorem set1 : ∀ a : Nat, a < 16 → ∀ i : Nat, i < 16 → cond (boolOf ((zs.set a (.bool true)).getD i .dead)) (decide (0 < i)) false = ((a == i) && decide (0 < i)) := by decide +kernel
theorem set0 : ∀ i : Nat, i < 16 → cond (boolOf (zs.getD i .dead)) (decide (0 < i)) false = false := by decide +kernel
/-- Is register i read? -/
def qA (o : Int) : Bool := cond (o == 21) true (cond (o == 23) true (cond (o == 24) true (cond (brB o) true (cond (o == 43) true (o == 47)))))
def qB (o : Int) : Bool := cond (formI o == 1) true (cond (formI o == 2) true (o == 44))
def qR (o a b c : Int) (i : Nat) : Bool := cond (qA o) (cond (a == (i : Int)) true (cond (qB o) (cond (b == (i : Int)) true (c == (i : Int))) (c == (i : Int)))) (cond (qB o) (cond (b == (i : Int)) true (c == (i : Int))) (c == (i : Int)))
def rdL (o a b c : Int) : List AV := rdF (qR o a b c) 15 1
theorem r_rreads (k : Nat) (o a b c m : Int) : Rt Pg (D (k + 2)) 18 [Ia o a b c m] (.slice 3 (rdL o a b c) false) := .of (by
  rw [Dk, nf_ref04_Reads]
  simp only [(r_branch k o).ok, (r_branch k o).val, (r_rform k o).ok, (r_rform k o).val, iO, bO, cond_true, condB_tt]
  have := lf_rreads (D (k + 1)) (qA o) (qB o) o a b c m (qR o a b c) (fun i _ => rfl) 15 1 100000 [] rfl (by omega) (by simp)
  unfold qA qB at this
  have e : ((1 : Nat) : Int) = 1 := rfl
  rw [e] at this
  rw [this]
  rfl) (by kernel_rfl)
def w4 (n : Int) : Bool := cond (n == 21) true (cond (n == 23) true (cond (n == 24) true (brB n)))
def w2 (n : Int) : Bool := cond (n == 43) true (n == 47)
def wayB (n : Int) : Bool := (formI n == 0) || ((qA n && ((w4 n && ((formI n == 2) && qB n)) || (!(w4 n) && (w2 n && ((formI n == 3) && !(qB n)))))) || (!(qA n) && (!(w4 n) && (!(w2 n) && (((formI n != 3) && (qB n || (formI n == 5))) || (!(formI n != 3) && !(qB n)))))))
theorem way_tab : ∀ n : Nat, n < 49 → wayB n = true := by decide +kernel
theorem r_reads (k : Nat) {o a b c m : Int} (h : rgt o a b c m = true) : Rt Pg (D (k + 3)) 17 [Ia o a b c m] (.slice 3 (rdL o a b c) false) := .of (by
  obtain ⟨h1, h2, h3, h4, h5, h6, h7⟩ := rgt_spec h
  unfold rgt at h
  rw [decide_eq_true_iff] at h
  obtain ⟨a, rfl⟩ : ∃ n : Nat, a = n := ⟨a.toNat, by unfold inR at h2; omega⟩
  obtain ⟨b, rfl⟩ : ∃ n : Nat, b = n := ⟨b.toNat, by unfold inR at h3; omega⟩
  obtain ⟨c, rfl⟩ : ∃ n : Nat, c = n := ⟨c.toNat, by unfold inR at h4; omega⟩
  obtain ⟨o, rfl⟩ : ∃ n : Nat, o = n := ⟨o.toNat, by omega⟩
  have ha : a < 16 := by unfold inR at h2; omega
  have hb : b < 16 := by unfold inR at h3; omega
  have hc : c < 16 := by unfold inR at h4; omega
  have ho : o < 49 := by omega
  have iA : ∀ x : Nat, x < 16 → inB (x : Int) 16 = true := fun x hx => by simp [inB]; omega
  rw [Dk, nf_isa_Reads]
  simp only [(r_branches (k + 1) _).ok, (r_branches (k + 1) _).val, (r_form k _).ok, (r_form k _).val, iO, bO, cond_true, condB_tt, iA a ha, iA b hb, iA c hc, Int.toNat_natCast]
  have fin : ∀ (l1 l2 : List AV) (q : Nat → Bool), (∀ i, i < 16 → cond (boolOf (l1.getD i .dead)) (decide (0 < i)) false = q i) → (∀ i, 1 ≤ i → i < 16 → q i = qR o a b c i) → q 0 = false →
      cond ((lf_isa_Reads_10 (D (k + 2)) l1 o a b c m l2 100000 [] 0).k == 1) (some (AV.slice 3 ((lf_isa_Reads_10 (D (k + 2)) l1 o a b c m l2 100000 [] 0).l.getD 0 []) false)) none = some (.slice 3 (rdL o a b c) false) := by
    intro l1 l2 q hq hqr hq0
    have := lf_reads (D (k + 2)) l1 o a b c m l2 q hq 16 0 100000 [] rfl (by omega) (by simp)
    have e : ((0 : Nat) : Int) = 0 := rfl
    rw [e] at this
    rw [this]
    show some (AV.slice _ ([] ++ rdF q 16 0) false) = _
    congr 2
    unfold rdL
    rw [rdF_succ, hq0, cond_false, List.nil_append]
    exact rdF_congr 15 1 fun j h1 h2 => hqr j h1 (by omega)
  /- the four ways -/
  have tab := (by simpa only [wayB, Bool.or_eq_true, Bool.and_eq_true, Bool.not_eq_true', beq_iff_eq] using way_tab o ho : _)
  have hform : formI o ≠ 0 := by unfold RP at h; omega
  have nz : ∀ (x : Nat) (i : Nat), 1 ≤ i → (x : Int) = 0 → ((x : Int) == (i : Int)) = false := fun x i hi hx => by simp; omega
  have nb : ∀ (x i : Nat), ((x : Int) == (i : Int)) = (x == i) := fun x i => by rw [Bool.eq_iff_iff]; simp only [beq_iff_eq]; omega
  have hc0 : formI o ≠ 1 → (c : Int) = 0 := h7
  rcases (tab.resolve_left hform) with ⟨hA, ⟨u1, hf, hB⟩ | ⟨u1, u2, hf, hB⟩⟩ | ⟨hA, u1, u2, ⟨u3, hB⟩ | ⟨u3, hB⟩⟩
  · change cond (w4 o) _ _ = _
    rw [u1]
    refine fin _ _ (fun i => (a == i || b == i) && decide (0 < i)) (fun i hi => set2 a ha b hb i hi) (fun i hi _ => ?_) (by simp)
    have := hc0 (by rw [hf]; decide)
    unfold qR
    rw [hA, hB, nz c i hi this, nb, nb, decide_eq_true (by omega : 0 < i)]
    cases (a == i) <;> cases (b == i) <;> rfl
  · change cond (w4 o) _ (cond (w2 o) _ _) = _
    rw [u1, u2]
    refine fin _ _ (fun i => (a == i) && decide (0 < i)) (fun i hi => set1 a ha i hi) (fun i hi _ => ?_) (by simp)
    have := hc0 (by rw [hf]; decide)
    unfold qR
    rw [hA, hB, nz c i hi this, nb, decide_eq_true (by omega : 0 < i)]
    cases (a == i) <;> rfl
  · change cond (w4 o) _ (cond (w2 o) _ (cond (formI o != 3) _ _)) = _
    rw [u1, u2, u3]
    refine fin _ _ (fun i => (b == i || c == i) && decide (0 < i)) (fun i hi => set2 b hb c hc i hi) (fun i hi _ => ?_) (by simp)
    unfold qR
    rcases hB with hB | hB
    · simp only [hA, hB, nb, decide_eq_true (show 0 < i by omega)]
      cases (b == i) <;> cases (c == i) <;> rfl
    · have hb0 : (b : Int) = 0 := by unfold RP at h; omega
      have := hc0 (by rw [hB]; decide)
      rw [hA, nz c i hi this, nz b i hi hb0, ← nb, ← nb, nz c i hi this, nz b i hi hb0]
      cases qB o <;> rfl
  · change cond (w4 o) _ (cond (w2 o) _ (cond (formI o != 3) _ _)) = _
    rw [u1, u2, u3]
    refine fin _ _ (fun i => false) (fun i hi => set0 i hi) (fun i hi _ => ?_) rfl
    have := hc0 (by intro e; rw [e] at u3; exact absurd u3 (by decide))
    unfold qR
    rw [hA, hB, nz c i hi this]; rfl) (by kernel_rfl)
end Go.Proofs.Ytadjlohgmfclpaa
