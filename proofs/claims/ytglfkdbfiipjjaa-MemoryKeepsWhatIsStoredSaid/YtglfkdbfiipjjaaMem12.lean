/- The memory: all that is said of its functions holds. -/
import Derived.Test.YtglfkdbfiipjjaaMem11
set_option linter.unusedVariables false
set_option linter.unusedSimpArgs false
namespace Go.Proofs.Ytglfkdbfiipjjaa
open Go.AE
theorem weak2 {P : Program} {f : FuncId} {a v : AV} {e : TypeId} {l : List AV} (h : CallsS P f [a, .slice e l false] v) (x : Bool) : CallsS P f [a, .slice e l x] v := by
  cases x with
  | false => exact h
  | true =>
    intro w S args ha
    refine h w S args ?_
    obtain ⟨c, r, e1, k1, k2, k3⟩ := ha
    obtain ⟨c', r', e2, m1, m2, m3⟩ := k3
    have hw : relV P (X.mk [] S w false) (.slice e l false) (mkV (AV.slice e l true).isA c') := slice_weak ⟨c', rfl, m1, m2⟩
    obtain ⟨c2, n1, n2, n3⟩ := hw
    exact ⟨c, r, e1, k1, k2, ⟨c2, r', by rw [e2, ← n1], n2, n3, m3⟩⟩
theorem spec0_inv {F : Fn6} {p : FuncId → List AV → AV → Prop}
    (h9 : p 9 [] (.bool true))
    (h10 : ∀ (l : List AV), p 10 [Mv l] (.bool (F.vld l)))
    (h11 : ∀ (l : List AV), p 11 [Mv l] (.bool (F.vld l)))
    (h12 : ∀ (l : List AV) (a s : Int), F.ok l = true → p 12 [Mv l, .int .i64 a, .int .i64 s] (.tuple [.int .u32 (F.ld l a s), .bool (F.ldB l a s)]))
    (h13 : ∀ (l : List AV) (a s v : Int), F.ok l = true → p 13 [Mv l, Wv a s v] (.tuple [Mv (F.st l a s v), .bool (F.stB l a s v)]))
    (h14 : ∀ (l : List AV) (a s : Int), F.ok l = true → p 14 [Mv l, .int .i64 a, .int .i64 s] (.agg 34 [.int .u32 (F.rld l a s), .bool (F.rldB l a s)]))
    (h15 : ∀ (l : List AV) (a s v : Int), F.ok l = true → p 15 [Mv l, Wv a s v] (.agg 37 [Mv (F.rst l a s v), .bool (F.rstB l a s v)]))
    (h16 : ∀ (l : List AV), p 16 [Mv l] (.int .i64 (F.sz l)))
    (h17 : ∀ (l : List AV), p 17 [Mv l] (.int .i64 (F.sz l)))
    (h18 : ∀ (a b : List AV), (F.okd a && F.okd b) = true → p 18 [Mv a, Mv b] (.bool (F.sm a b)))
    (h19 : ∀ (a b : List AV), (F.okd a && F.okd b) = true → p 19 [Mv a, Mv b] (.slice 3 (F.df a b) false))
    (h20 : ∀ (a b : List AV), F.siOK a b = true → p 20 [.slice 3 a false, .slice 3 b false] (.bool (F.si a b)))
    (h21 : ∀ (l : List AV) (a n : Int), F.ok l = true → p 21 [Mv l, .int .i64 a, .int .i64 n] (.tuple [.str (F.rd l a n), .bool (F.rdB l a n)]))
    (h22 : ∀ (n : Int), p 22 [.int .i64 n] (.tuple [Mv (F.nw n), .int .i64 (F.nwE n)]))
    (h23 : ∀ (l : List AV) (a : Int) (s : List UInt8), F.ok l = true → p 23 [Mv l, .int .i64 a, .str s] (.tuple [Mv (F.wr l a s), .bool (F.wrB l a s)]))
    (h24 : ∀ (l ws : List AV) (x : Bool), (F.ok l && F.wok ws) = true → p 24 [Mv l, .slice 27 ws x] (.tuple [Mv (F.ap l ws), .bool (F.apB l ws)]))
    (h25 : ∀ (n : Int), p 25 [.int .i64 n] (.agg 56 [Mv (F.rnw n), .int .i64 (F.rnwE n)]))
    (h26 : ∀ (l : List AV) (a n : Int), F.ok l = true → p 26 [Mv l, .int .i64 a, .int .i64 n] (.agg 59 [.str (F.rrd l a n), .bool (F.rrdB l a n)]))
    (h27 : ∀ (l : List AV) (a : Int) (s : List UInt8), F.ok l = true → p 27 [Mv l, .int .i64 a, .str s] (.agg 37 [Mv (F.rwr l a s), .bool (F.rwrB l a s)]))
    (h28 : ∀ (l ws : List AV) (x : Bool), (F.ok l && F.wok ws) = true → p 28 [Mv l, .slice 27 ws x] (.agg 37 [Mv (F.rap l ws), .bool (F.rapB l ws)]))
    (h29 : ∀ (a b : List AV), (F.okd a && F.okd b) = true → p 29 [Mv a, Mv b] (.slice 3 (F.rdf a b) false))
    : ∀ f args v, spec0 F f args = some (true, v) → p f args v := by
  intro f args v h
  unfold spec0 at h
  split at h <;> (try split at h) <;> simp only [Option.some.injEq, Prod.mk.injEq, true_and, Bool.false_eq_true, reduceCtorEq, false_and] at h <;> first
    | (obtain ⟨h1, rfl⟩ := h; first | exact h12 _ _ _ h1 | exact h13 _ _ _ _ h1 | exact h14 _ _ _ h1 | exact h15 _ _ _ _ h1 | exact h18 _ _ h1 | exact h19 _ _ h1 | exact h20 _ _ h1 | exact h21 _ _ _ h1 | exact h23 _ _ _ h1 | exact h24 _ _ _ h1 | exact h26 _ _ _ h1 | exact h27 _ _ _ h1 | exact h28 _ _ _ h1 | exact h29 _ _ h1)
    | (subst h; first | exact h9  | exact h10 _ | exact h11 _ | exact h16 _ | exact h17 _ | exact h22 _ | exact h25 _)
    | exact absurd h (by simp)
theorem good_of {lv : Nat} (h : ∀ f args v, spec0 F0 f args = some (true, v) → rank f < lv → Cs f args v) : (cxG F0 lv).Good := by
  intro f args v hs
  simp only [cxG] at hs
  split at hs
  · rename_i hr
    exact h f args v hs (Nat.le_of_ble_eq_true hr)
  · exact absurd hs (by simp)
theorem both {a b : List AV} (h : (okdF a && okdF b) = true) : okdF a = true ∧ okdF b = true := by simpa using h
theorem bothw {a ws : List AV} (h : (okF a && decide (ws.length < 1000)) = true) : okF a = true ∧ ws.length < 1000 := by simpa using h
theorem good_1 : (cxG F0 1).Good := good_of fun f args v h => spec0_inv (F := F0) (p := fun f args v => rank f < 1 → Cs f args v)
  (fun hr => c9)
  (fun l hr => c10 l)
  (fun l hr => c11 l)
  (fun l a s hc hr => c12 l a s hc)
  (fun l a s v hc hr => absurd hr (by decide))
  (fun l a s hc hr => c14 l a s hc)
  (fun l a s v hc hr => c15 l a s v hc)
  (fun l hr => c16 l)
  (fun l hr => c17 l)
  (fun a b hc hr => absurd hr (by decide))
  (fun a b hc hr => c19 a b (both hc).1 (both hc).2)
  (fun a b hc hr => c20 a b hc)
  (fun l a n hc hr => c21 l a n hc)
  (fun n hr => c22 n)
  (fun l a s hc hr => c23 l a s hc)
  (fun l ws x hc hr => weak2 (c24 l ws (bothw hc).1 (bothw hc).2) x)
  (fun n hr => c25 n)
  (fun l a n hc hr => c26 l a n hc)
  (fun l a s hc hr => c27 l a s hc)
  (fun l ws x hc hr => absurd hr (by decide))
  (fun a b hc hr => c29 a b (both hc).1 (both hc).2)
  f args v h
theorem c13 (l : List AV) (a s v : Int) (h : okF l = true) : Cs 13 [Mv l, Wv a s v] (.tuple [Mv (stF l a s v), .bool (stBF l a s v)]) := fnV_sound good_1 (loopsG 1) (by
  rw [v13]
  have h1 : F0.ok l = true := h
  have h2 : F0.wok [Wv a s v] = true := rfl
  rw [h1, h2]; rfl)
theorem c18 (a b : List AV) (ha : okdF a = true) (hb : okdF b = true) : Cs 18 [Mv a, Mv b] (.bool (smF a b)) := fnV_sound good_1 (loopsG 1) (by
  rw [v18]
  have h1 : F0.okd a = true := ha
  have h2 : F0.okd b = true := hb
  rw [h1, h2]; rfl)
theorem c28 (l ws : List AV) (h : okF l = true) (hw : ws.length < 1000) : Cs 28 [Mv l, .slice 27 ws false] (.agg 37 [Mv (rapF l ws), .bool (rapBF l ws)]) := fnV_sound good_1 (loopsG 1) (by
  rw [v28, rapOK_F, rapN_F, (rap_ok ws h).1, decide_eq_true hw]
  unfold rapF rapBF
  cases (rapN F1 ws l).2 <;> rfl)
theorem good_2 : (cxG F0 2).Good := good_of fun f args v h => spec0_inv (F := F0) (p := fun f args v => rank f < 2 → Cs f args v)
  (fun hr => c9)
  (fun l hr => c10 l)
  (fun l hr => c11 l)
  (fun l a s hc hr => c12 l a s hc)
  (fun l a s v hc hr => c13 l a s v hc)
  (fun l a s hc hr => c14 l a s hc)
  (fun l a s v hc hr => c15 l a s v hc)
  (fun l hr => c16 l)
  (fun l hr => c17 l)
  (fun a b hc hr => c18 a b (both hc).1 (both hc).2)
  (fun a b hc hr => c19 a b (both hc).1 (both hc).2)
  (fun a b hc hr => c20 a b hc)
  (fun l a n hc hr => c21 l a n hc)
  (fun n hr => c22 n)
  (fun l a s hc hr => c23 l a s hc)
  (fun l ws x hc hr => weak2 (c24 l ws (bothw hc).1 (bothw hc).2) x)
  (fun n hr => c25 n)
  (fun l a n hc hr => c26 l a n hc)
  (fun l a s hc hr => c27 l a s hc)
  (fun l ws x hc hr => weak2 (c28 l ws (bothw hc).1 (bothw hc).2) x)
  (fun a b hc hr => c29 a b (both hc).1 (both hc).2)
  f args v h
end Go.Proofs.Ytglfkdbfiipjjaa
