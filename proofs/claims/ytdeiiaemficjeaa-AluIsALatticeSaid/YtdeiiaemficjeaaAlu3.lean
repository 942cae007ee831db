/- The arithmetic's loops, and that what is said of each function holds. -/
import Derived.Test.YtdeiiaemficjeaaAlu2
namespace Go.Proofs.Ytdeiiaemficjeaa
open Go.AE

set_option maxRecDepth 100000 in
theorem at16 : (Try.f16.body.bind fun c => loopAt c 3) = some code16 := by kernel_rfl
set_option maxRecDepth 100000 in
theorem at26 : (Try.f26.body.bind fun c => loopAt c 3) = some code26 := by kernel_rfl
theorem fn16 : Try.checked.prog.funcs[16]? = some Try.f16 := by kernel_rfl
theorem fn26 : Try.checked.prog.funcs[26]? = some Try.f26 := by kernel_rfl
theorem i64k {k : Nat} (h : k < 32) : IntKind.i64.wrap ((k : Int) + 1) = ((k + 1 : Nat) : Int) := by rw [wrap_i64_id (by omega) (by omega)]; omega
theorem condB_one {b : Bool} : condB b true true = true := by cases b <;> rfl
theorem loops16 {fr : Fr} {M : Mm} {t : LT} (ht : lp16 F0 fr M = some t) {R : Type} (call : CallH R) (K : AX → Fr → Mm → Option R) (r : R) (hgo : t.go K = some r) :
    iter 40 (fun fr M k => evC (cxF F0 2) 16 call code16 fr M (roundK (some [0, 1, 4, 5, 6]) K k)) fr M = some r := by
  unfold lp16 at ht
  split at ht
  · rename_i hok
    split at ht
    · rename_i x n z out k h0 h1 h4 h5 h6 htf
      split at ht
      · rename_i h
        obtain ⟨rfl, rfl⟩ := h
        have he := okFr_eq hok
        simp only [List.map_cons, List.map_nil, h0, h1, h4, h5, h6, htf] at he
        obtain rfl := Option.some.inj ht
        cases hc : decide (1 ≤ n) && decide (n ≤ 32) with
        | false => rw [LT.go, hc] at hgo; exact absurd hgo (by simp [LT.go])
        | true =>
          rw [LT.go, hc] at hgo
          simp only [cond_true, LT.go] at hgo
          simp only [Bool.and_eq_true, decide_eq_true_eq] at hc
          rw [he]
          refine (iter_rounds (st := fun k => fr16 (.int .u32 x) (.int .i64 n) (.int .u32 z) (.int .u32 (exN F0 x n k)) (.int .i64 k)) (N := 32) (out := some r) ?_ ?_ 40 (by omega))
          · intro k hk kk
            have e0 : decide ((k : Int) < 32) = true := by simp; omega
            have e1 : decide ((k : Int) ≤ 31) = true := by simp; omega
            have e2 : decide (fromK n k ≤ 31) = true := by
              have : IntKind.i64.wrap (n - 1) = n - 1 := wrap_i64_id (by omega) (by omega)
              unfold fromK
              rw [this]
              by_cases h : n - 1 < (k : Int)
              · simp [h]; omega
              · simp [h]; omega
            rw [round16]
            simp only [e0, e1, e2, cond_true, condB_one, i64k hk, exN]
          · intro kk
            rw [round16]
            have e0 : decide (((32 : Nat) : Int) < 32) = false := by decide
            simp only [e0, cond_false]
            exact hgo
      · exact absurd ht (by simp)
    · exact absurd ht (by simp)
  · exact absurd ht (by simp)
theorem loops26 {fr : Fr} {M : Mm} {t : LT} (ht : lp26 F0 fr M = some t) {R : Type} (call : CallH R) (K : AX → Fr → Mm → Option R) (r : R) (hgo : t.go K = some r) :
    iter 40 (fun fr M k => evC (cxF F0 2) 26 call code26 fr M (roundK (some [0, 1, 2, 6, 7, 8]) K k)) fr M = some r := by
  unfold lp26 at ht
  split at ht
  · rename_i hok
    split at ht
    · rename_i op b c z out k h0 h1 h2 h6 h7 h8 htf
      split at ht
      · rename_i h
        obtain ⟨rfl, rfl⟩ := h
        have he := okFr_eq hok
        simp only [List.map_cons, List.map_nil, h0, h1, h2, h6, h7, h8, htf] at he
        obtain rfl := Option.some.inj ht
        rw [he]
        refine (iter_rounds (st := fun k => fr26 (.int .i64 op) (.int .u32 b) (.int .u32 c) (.int .u32 z) (.int .u32 (lgN F0 op b c k)) (.int .i64 k)) (N := 32) (out := some r) ?_ ?_ 40 (by omega))
        · intro k hk kk
          have e0 : decide ((k : Int) < 32) = true := by simp; omega
          have e1 : decide ((k : Int) ≤ 31) = true := by simp; omega
          rw [round26]
          simp only [e0, e1, cond_true, condB_one, i64k hk, lgN]
        · intro kk
          rw [round26]
          have e0 : decide (((32 : Nat) : Int) < 32) = false := by decide
          simp only [e0, cond_false]
          exact hgo
      · exact absurd ht (by simp)
    · exact absurd ht (by simp)
  · exact absurd ht (by simp)
theorem loopsF (lv : Nat) : (cxF F0 lv).Loops := by
  intro f id fr M t ht fn body hfn hbody
  simp only [cxF] at ht
  split at ht
  · have hfn' : Try.checked.prog.funcs[16]? = some fn := hfn
    rw [fn16] at hfn'
    obtain rfl := Option.some.inj hfn'
    have ha := at16
    rw [hbody] at ha
    exact ⟨code16, ha, fun R call K r hgo => loops16 ht call K r hgo⟩
  · have hfn' : Try.checked.prog.funcs[26]? = some fn := hfn
    rw [fn26] at hfn'
    obtain rfl := Option.some.inj hfn'
    have ha := at26
    rw [hbody] at ha
    exact ⟨code26, ha, fun R call K r hgo => loops26 ht call K r hgo⟩
  · exact absurd ht (by simp)
/-! functions -/
def Cs (f : FuncId) (args : List AV) (v : AV) : Prop := CallsS Try.checked.prog f args v
theorem spec0_inv {F : Fns} {p : FuncId → List AV → AV → Prop}
    (h10 : ∀ n b c, p 10 [.int .i64 n, .int .u32 b, .int .u32 c] (.tuple [.int .u32 (F.doX n b c), .int .i64 (F.doE n)]))
    (h11 : ∀ n b c, p 11 [.int .i64 n, .int .u32 b, .int .u32 c] (.agg 26 [.int .u32 (F.rX n b c), .int .i64 (F.rE n)]))
    (h12 : p 12 [] (.bool true))
    (h13 : ∀ n b c, p 13 [.int .i64 n, .int .u32 b, .int .u32 c] (.bool (F.taken n b c)))
    (h14 : ∀ n b c, p 14 [.int .i64 n, .int .u32 b, .int .u32 c] (.bool (F.rtaken n b c)))
    (h15 : ∀ x n, F.extok n = true → p 15 [.int .u32 x, .int .i64 n] (.int .u32 (F.ext x n)))
    (h16 : ∀ x n, F.extok n = true → p 16 [.int .u32 x, .int .i64 n] (.int .u32 (F.rext x n)))
    (h17 : ∀ x, p 17 [.int .u32 x] (.int .i64 (F.sg x)))
    (h18 : ∀ x, p 18 [.int .u32 x] (.int .i64 (F.rsg x)))
    (h19 : ∀ x k, p 19 [.int .u32 x, .int .i64 k] (.int .u8 (F.byte x k)))
    (h20 : ∀ x k, p 20 [.int .u32 x, .int .i64 k] (.int .u8 (F.rbyte x k)))
    (h21 : ∀ x k b, p 21 [.int .u32 x, .int .i64 k, .int .u8 b] (.int .u32 (F.setb x k b)))
    (h22 : ∀ x k b, p 22 [.int .u32 x, .int .i64 k, .int .u8 b] (.int .u32 (F.rsetb x k b)))
    (h23 : ∀ n b c, p 23 [.int .i64 n, .int .u32 b, .int .u32 c] (.int .u32 (F.doX n b c)))
    (h26 : ∀ n b c, p 26 [.int .i64 n, .int .u32 b, .int .u32 c] (.int .u32 (F.logic n b c)))
    (h27 : ∀ k, k ≤ 31 → p 27 [.int .i64 k] (.int .u32 (F.pw k)))
    (h32 : ∀ x k, k ≤ 31 → p 32 [.int .u32 x, .int .i64 k] (.int .u32 (F.bit x k)))
    (h33 : ∀ k, p 33 [.int .i64 k] (.int .i64 (F.place k))) :
    ∀ f args v, spec0 F f args = some (true, v) → p f args v := by
  intro f args v h
  unfold spec0 at h
  split at h <;> (try split at h) <;> simp only [Option.some.injEq, Prod.mk.injEq, true_and, Bool.false_eq_true, reduceCtorEq, false_and] at h <;> first
    | (obtain ⟨h1, rfl⟩ := h; first | exact h15 _ _ h1 | exact h16 _ _ h1 | exact h27 _ (of_decide_eq_true h1) | exact h32 _ _ (of_decide_eq_true h1))
    | (subst h; first | exact h10 _ _ _ | exact h11 _ _ _ | exact h12 | exact h13 _ _ _ | exact h14 _ _ _ | exact h17 _ | exact h18 _ | exact h19 _ _ | exact h20 _ _ | exact h21 _ _ _ | exact h22 _ _ _ | exact h23 _ _ _ | exact h26 _ _ _ | exact h33 _)
    | exact absurd h (by simp)
theorem good_of {lv : Nat} (h : ∀ f args v, spec0 F0 f args = some (true, v) → rank f < lv → Cs f args v) : (cxF F0 lv).Good := by
  intro f args v hs
  simp only [cxF] at hs
  split at hs
  · rename_i hr
    exact h f args v hs (Nat.le_of_ble_eq_true hr)
  · exact absurd hs (by simp)
/-! level by level -/
theorem good_0 : (cxF F0 0).Good := good_of fun f args v _ hr => absurd hr (by omega)
theorem c27 (k : Int) (hk : k ≤ 31) : Cs 27 [.int .i64 k] (.int .u32 (pwF k)) := fnV_sound good_0 (loopsF 0) ((v27 F0 k).trans (power_eq hk))
theorem c33 (k : Int) : Cs 33 [.int .i64 k] (.int .i64 (placeF k)) := fnV_sound good_0 (loopsF 0) (v33 F0 k)
theorem c12 : Cs 12 [] (.bool true) := fnV_sound good0 loops0 v12
theorem c17 (b : Int) : Cs 17 [.int .u32 b] (.int .i64 (sgF b)) := fnV_sound good_0 (loopsF 0) (v17 F0 b)
theorem c18 (b : Int) : Cs 18 [.int .u32 b] (.int .i64 (rsgF b)) := fnV_sound good_0 (loopsF 0) (by
  rw [v18]; unfold rsgF
  cases decide (b < 2147483648) <;> rfl)
theorem ok_at (k : Int) : decide (0 ≤ atF k) = true := by rw [at_eq]; simp; omega
theorem c19 (x k : Int) : Cs 19 [.int .u32 x, .int .i64 k] (.int .u8 (byteF x k)) := fnV_sound good_0 (loopsF 0) (by
  rw [v19]
  show cond (decide (0 ≤ atF k)) _ _ = _
  rw [ok_at]; rfl)
theorem c21 (x k b : Int) : Cs 21 [.int .u32 x, .int .i64 k, .int .u8 b] (.int .u32 (setbF x k b)) := fnV_sound good_0 (loopsF 0) (by
  rw [v21]
  show cond (cond (decide (0 ≤ atF k)) (cond (decide (0 ≤ atF k)) true false) false) _ _ = _
  rw [ok_at]; rfl)
theorem c15 (x n : Int) (h : F0.extok n = true) : Cs 15 [.int .u32 x, .int .i64 n] (.int .u32 (extF x n)) := fnV_sound good_0 (loopsF 0) (by
  have h' : (decide (1 ≤ n) && decide (n ≤ 32)) = true := h
  simp only [Bool.and_eq_true, decide_eq_true_eq] at h'
  have e : decide (0 ≤ IntKind.i64.wrap (32 - n)) = true := by rw [wrap_i64_id (by omega) (by omega)]; simp; omega
  rw [v15]
  simp only [e, cond_true]; rfl)
theorem c13 (n b c : Int) : Cs 13 [.int .i64 n, .int .u32 b, .int .u32 c] (.bool (takenF n b c)) := fnV_sound good_0 (loopsF 0) (by
  rw [v13]; unfold takenF
  cases (n == 28) <;> cases (n == 29) <;> cases (n == 30) <;> cases (n == 31) <;> first | rfl | (cases decide (IntKind.i32.wrap b < IntKind.i32.wrap c) <;> rfl) | (cases decide (b < c) <;> rfl))
theorem ok31 (c : Int) : decide (0 ≤ ibits .and .u32 c 31) = true := by simp [(ibits_u32_range .and c 31).1]
theorem c10 (n b c : Int) : Cs 10 [.int .i64 n, .int .u32 b, .int .u32 c] (.tuple [.int .u32 (doXF n b c), .int .i64 (doEF n)]) := fnV_sound good_0 (loopsF 0) (by
  rw [v10]; unfold doXF doEF
  simp only [ok31, cond_true]
  cases (n == 1); rotate_left; · rfl
  cases (n == 2); rotate_left; · rfl
  cases (n == 3); rotate_left; · rfl
  cases (n == 4); rotate_left; · rfl
  cases (n == 5); rotate_left; · rfl
  cases (n == 6); rotate_left; · rfl
  cases (n == 7); rotate_left; · rfl
  cases (n == 8); rotate_left; · rfl
  cases (n == 9); rotate_left
  · simp only [cond_true, cond_false]; unfold divF; cases (c == 0) <;> rfl
  cases (n == 10); rotate_left
  · simp only [cond_true, cond_false]; unfold remF; cases (c == 0) <;> rfl
  cases (n == 11); rotate_left
  · simp only [cond_true, cond_false]; unfold oneF; cases decide (IntKind.i32.wrap b < IntKind.i32.wrap c) <;> rfl
  cases (n == 12); rotate_left
  · simp only [cond_true, cond_false]; unfold oneF; cases decide (b < c) <;> rfl
  rfl)
theorem good_1 : (cxF F0 1).Good := good_of fun f args v h => spec0_inv (p := fun f args v => rank f < 1 → Cs f args v)
  (fun n b c _ => c10 n b c) (fun _ _ _ hr => absurd hr (by decide)) (fun _ => c12) (fun n b c _ => c13 n b c) (fun _ _ _ hr => absurd hr (by decide)) (fun x n h _ => c15 x n h) (fun _ _ _ hr => absurd hr (by decide)) (fun x _ => c17 x) (fun x _ => c18 x) (fun x k _ => c19 x k)
  (fun _ _ hr => absurd hr (by decide)) (fun x k b _ => c21 x k b) (fun _ _ _ hr => absurd hr (by decide)) (fun _ _ _ hr => absurd hr (by decide)) (fun _ _ _ hr => absurd hr (by decide)) (fun k hk _ => c27 k hk) (fun _ _ _ hr => absurd hr (by decide)) (fun k _ => c33 k) f args v h
theorem pw_ne (k : Int) : (!(F0.pw k == 0)) = true := by
  have := pwF_pos k
  simp [F0]; omega
theorem m_eq (k : Int) : IntKind.i64.wrap (8 * F0.place k) = 8 * (k % 4) := by
  show IntKind.i64.wrap (8 * placeF k) = _
  rw [place_eq, wrap_i64_id] <;> omega
theorem ok_m (k : Int) : decide (IntKind.i64.wrap (8 * F0.place k) ≤ 31) = true := by rw [m_eq]; simp; omega
theorem c32 (x k : Int) (hk : k ≤ 31) : Cs 32 [.int .u32 x, .int .i64 k] (.int .u32 (bitF x k)) := fnV_sound good_1 (loopsF 1) (by
  rw [v32, pw_ne]
  simp only [hk, decide_true, cond_true]; rfl)
theorem c14 (n b c : Int) : Cs 14 [.int .i64 n, .int .u32 b, .int .u32 c] (.bool (rtakenF n b c)) := fnV_sound good_1 (loopsF 1) (by
  rw [v14]; unfold rtakenF
  cases (n == 28) <;> cases (n == 29) <;> cases (n == 30) <;> cases (n == 31) <;> rfl)
theorem c20 (x k : Int) : Cs 20 [.int .u32 x, .int .i64 k] (.int .u8 (rbyteF x k)) := fnV_sound good_1 (loopsF 1) (by
  rw [v20]
  simp only [ok_m, pw_ne, cond_true]; rfl)
theorem c23 (n b c : Int) : Cs 23 [.int .i64 n, .int .u32 b, .int .u32 c] (.int .u32 (doXF n b c)) := fnV_sound good_1 (loopsF 1) (by
  rw [v23]
  show cond (doEF n != 0) (some (AV.int .u32 0)) (some (AV.int .u32 (doXF n b c))) = _
  unfold doXF doEF
  cases (n == 1) <;> cases (n == 2) <;> cases (n == 3) <;> cases (n == 4) <;> cases (n == 5) <;> cases (n == 6) <;> cases (n == 7) <;> cases (n == 8) <;> cases (n == 9) <;> cases (n == 10) <;> cases (n == 11) <;> cases (n == 12) <;> rfl)
theorem good_2 : (cxF F0 2).Good := good_of fun f args v h => spec0_inv (p := fun f args v => rank f < 2 → Cs f args v)
  (fun n b c _ => c10 n b c) (fun _ _ _ hr => absurd hr (by decide)) (fun _ => c12) (fun n b c _ => c13 n b c) (fun n b c _ => c14 n b c) (fun x n h _ => c15 x n h) (fun _ _ _ hr => absurd hr (by decide)) (fun x _ => c17 x) (fun x _ => c18 x) (fun x k _ => c19 x k)
  (fun x k _ => c20 x k) (fun x k b _ => c21 x k b) (fun _ _ _ hr => absurd hr (by decide)) (fun n b c _ => c23 n b c) (fun _ _ _ hr => absurd hr (by decide)) (fun k hk _ => c27 k hk) (fun x k h _ => c32 x k h) (fun k _ => c33 k) f args v h
theorem c16 (x n : Int) (h : F0.extok n = true) : Cs 16 [.int .u32 x, .int .i64 n] (.int .u32 (rextF x n)) := fnV_sound good_2 (loopsF 2) (by
  have h' : (decide (1 ≤ n) && decide (n ≤ 32)) = true := h
  rw [v16, h', exN_F]; rfl)
theorem c26 (n b c : Int) : Cs 26 [.int .i64 n, .int .u32 b, .int .u32 c] (.int .u32 (logicF n b c)) := fnV_sound good_2 (loopsF 2) (by
  rw [v26, lgN_F]; rfl)
theorem c22 (x k b : Int) : Cs 22 [.int .u32 x, .int .i64 k, .int .u8 b] (.int .u32 (rsetbF x k b)) := fnV_sound good_2 (loopsF 2) (by
  rw [v22]
  simp only [ok_m, cond_true]; rfl)
theorem good_3 : (cxF F0 3).Good := good_of fun f args v h => spec0_inv (p := fun f args v => rank f < 3 → Cs f args v)
  (fun n b c _ => c10 n b c) (fun _ _ _ hr => absurd hr (by decide)) (fun _ => c12) (fun n b c _ => c13 n b c) (fun n b c _ => c14 n b c) (fun x n h _ => c15 x n h) (fun x n h _ => c16 x n h) (fun x _ => c17 x) (fun x _ => c18 x) (fun x k _ => c19 x k)
  (fun x k _ => c20 x k) (fun x k b _ => c21 x k b) (fun x k b _ => c22 x k b) (fun n b c _ => c23 n b c) (fun n b c _ => c26 n b c) (fun k hk _ => c27 k hk) (fun x k h _ => c32 x k h) (fun k _ => c33 k) f args v h
theorem ok32 (c : Int) : decide (IntKind.i64.wrap (c.tmod 32) ≤ 31) = true := by
  have h1 : c.tmod 32 < 32 := Int.tmod_lt_of_pos c (by omega)
  have h2 : -32 < c.tmod 32 := by have := Int.lt_tmod_of_pos c (b := 32) (by omega); omega
  rw [wrap_i64_id (by omega) (by omega)]; simp; omega
theorem c11 (n b c : Int) : Cs 11 [.int .i64 n, .int .u32 b, .int .u32 c] (.agg 26 [.int .u32 (rXF n b c), .int .i64 (doEF n)]) := fnV_sound good_3 (loopsF 3) (by
  rw [v11]; unfold rXF doEF
  simp only [ok32, pw_ne, cond_true]
  cases (n == 1); rotate_left; · rfl
  cases (n == 2); rotate_left; · rfl
  cases (n == 3); rotate_left; · rfl
  cases (n == 4); rotate_left; · rfl
  cases (n == 5); rotate_left; · rfl
  cases (n == 6); rotate_left; · rfl
  cases (n == 7); rotate_left; · rfl
  cases (n == 8); rotate_left; · rfl
  cases (n == 9); rotate_left
  · cases (c == 0) <;> rfl
  cases (n == 10); rotate_left
  · cases (c == 0) <;> rfl
  cases (n == 11); rotate_left
  · simp only [cond_true, cond_false]; unfold oneF
    show cond (decide (rsgF b < rsgF c)) _ _ = _
    cases decide (rsgF b < rsgF c) <;> rfl
  cases (n == 12); rotate_left
  · simp only [cond_true, cond_false]; unfold oneF; cases decide (b < c) <;> rfl
  rfl)
theorem good_4 : (cxF F0 4).Good := good_of fun f args v h => spec0_inv (p := fun f args v => rank f < 4 → Cs f args v)
  (fun n b c _ => c10 n b c) (fun n b c _ => c11 n b c) (fun _ => c12) (fun n b c _ => c13 n b c) (fun n b c _ => c14 n b c) (fun x n h _ => c15 x n h) (fun x n h _ => c16 x n h) (fun x _ => c17 x) (fun x _ => c18 x) (fun x k _ => c19 x k)
  (fun x k _ => c20 x k) (fun x k b _ => c21 x k b) (fun x k b _ => c22 x k b) (fun n b c _ => c23 n b c) (fun n b c _ => c26 n b c) (fun k hk _ => c27 k hk) (fun x k h _ => c32 x k h) (fun k _ => c33 k) f args v h
end Go.Proofs.Ytdeiiaemficjeaa
