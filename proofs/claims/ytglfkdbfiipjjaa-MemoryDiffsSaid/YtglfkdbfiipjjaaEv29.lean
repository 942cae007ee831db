/- A law: whatever its arguments, it returns true, and they read as they did. -/
import Derived.Test.YtglfkdbfiipjjaaEv28
import Derived.Handed
import Derived.Carry
import Derived.JoinedOf
set_option linter.unusedVariables false
set_option linter.unusedSimpArgs false
namespace Go.AE
open Go.RowKit Go.Lib
section
variable {P : Program} {H : Type} {enc : TypeId × Value → H} {W : World}

theorem readT_tyA {d : Nat} {t : TypeId} (h : readT P d t = true) (hA : tyA P t = false) : P.underlying t = some .bool ∨ (∃ k, P.underlying t = some (.int k)) ∨ P.underlying t = some .string ∨ ∃ e, P.underlying t = some (.slice e) := by
  cases d with
  | zero => simp [readT] at h
  | succ d =>
    simp only [readT] at h
    split at h
    · rename_i hu; exact .inl hu
    · rename_i k hu; exact .inr (.inl ⟨k, hu⟩)
    · rename_i hu; exact .inr (.inr (.inl hu))
    · rename_i fs hu; simp [tyA, hu] at hA
    · rename_i n e hu; simp [tyA, hu] at hA
    · rename_i e hu; exact .inr (.inr (.inr ⟨e, hu⟩))
    · exact absurd h (by simp)
theorem read_value {d base : Nat} {t : TypeId} {v : Value} (hr : readT P d t = true) (hok : Value.okWide P W .any base t v) (h : Read P W d t v.cells.toList) : ∃ a, Has P d t a ∧ relV P (readX W) a v := by
  obtain ⟨a, h1, h2, h3, h4⟩ := h
  have hA := fits_isA h4
  refine ⟨a, h1, v.cells.toList, ?_, h2, fun e => fits_one h4 h2 e⟩
  cases ht : tyA P t with
  | true =>
    rw [hA, ht]
    have : ∃ cs, v = .agg cs := by
      unfold Value.okWide at hok
      unfold tyA at ht
      split at ht
      · rename_i hu; rw [hu] at hok; obtain ⟨cs, k, _⟩ := hok; exact ⟨cs, k⟩
      · rename_i hu; rw [hu] at hok; obtain ⟨cs, k, _⟩ := hok; exact ⟨cs, k⟩
      · exact absurd ht (by simp)
    obtain ⟨cs, rfl⟩ := this
    simp [mkV, Value.cells]
  | false =>
    rw [hA, ht]
    cases v with
    | agg cs =>
      exfalso
      rcases readT_tyA hr ht with hu | ⟨k, hu⟩ | hu | ⟨e, hu⟩ <;> simp [Value.okWide, Cell.okWide, Cell.ok, hu] at hok
    | _ => rfl
def readAllT (P : Program) : List TypeId → Bool
  | [] => true
  | t :: ts => readT P 8 t && P.readableRec t && decide (t < P.types.size) && readAllT P ts
theorem read_all {base : Nat} : ∀ {ts : List TypeId} {vs : List Value} {ds : List (DataW H)} {ps : List MemPlace}, readAllT P ts = true → (∀ (j : Nat) t v, ts[j]? = some t → vs[j]? = some v → Value.okWide P W .any base t v) →
    DataW.TrodAll enc P W 0 (fun _ => true) true ts vs ds ps → ∃ as, HasL (fun v t => Has P 8 t v) ts as ∧ relVs P (readX W) as vs
  | [], [], [], ps, _, _, _ => ⟨[], trivial, rfl⟩
  | t :: ts, v :: vs, d :: ds, ps, hr, hok, ⟨p, q, ⟨fuel, h1⟩, h2, _⟩ => by
    simp only [readAllT, Bool.and_eq_true] at hr
    obtain ⟨a, k1, k2⟩ := read_value hr.1.1.1 (hok 0 t v rfl rfl) (read_trod fuel 8 t _ _ h1 hr.1.1.1)
    obtain ⟨as, m1, m2⟩ := read_all hr.2 (fun j t v h1 h2 => hok (j + 1) t v (by simpa using h1) (by simpa using h2)) h2
    exact ⟨a :: as, ⟨k1, m1⟩, relVs_cons k2 m2⟩
  | [], [], _ :: _, ps, _, _, h => h.elim
  | [], _ :: _, _, ps, _, _, h => h.elim
  | _ :: _, [], _, ps, _, _, h => h.elim
  | _ :: _, _ :: _, [], ps, _, _, h => h.elim
theorem trodAll_below (hl : laidOutB P = true) {W' : World} (hb : Below W.heap.size W W') : ∀ {ts : List TypeId} {vs : List Value} {ds : List (DataW H)} {ps : List MemPlace}, readAllT P ts = true →
    DataW.TrodAll enc P W 0 (fun _ => true) true ts vs ds ps → DataW.TrodAll enc P W' 0 (fun b => decide (b < W.heap.size)) true ts vs ds ps
  | [], [], [], ps, _, h => h
  | t :: ts, v :: vs, d :: ds, ps, hr, ⟨p, q, h1, h2, h3⟩ => by
    simp only [readAllT, Bool.and_eq_true, decide_eq_true_eq] at hr
    refine ⟨p, q, ?_, trodAll_below hl hb hr.2 h2, h3⟩
    have hlt : ∀ x ∈ p, x.block < W.heap.size := by obtain ⟨m, hm⟩ := h1; exact DataW.trod_lt m _ _ _ hm
    exact Below.trod hl hr.1.1.2 hr.1.2 h1 hb hlt
  | [], [], _ :: _, ps, _, h => h.elim
  | [], _ :: _, _, ps, _, h => h.elim
  | _ :: _, [], _, ps, _, h => h.elim
  | _ :: _, _ :: _, [], ps, _, h => h.elim
/-- THE ROW OF A LAW. -/
theorem law_lifted {C : Checked} {os : Os} {f : FuncId} {fn : Func} {s : ChangeSpec} {conds : List PathCond} {tb : TypeId} (own : ownKnob C.prog.godebug = none) (started : os.Started) (noInit : C.prog.inits.idxOf? f = none) (hfn : C.prog.funcs[f]? = some fn)
    (witness : ∃ (w : World) (tape : Tape) (i : Input), w.os = os ∧ (w.forCall tape i).Shaped C.prog ∧ i.vars = [] ∧ Input.okWide C.prog (w.forCall tape i) .any w.heap.size f i ∧
      s.pre6 enc C.prog fn conds false (w.forCall tape i).memory i.args ∧ ({} : Assume).holds C.prog (lone (Frame.enter C.prog f i.args .normal) [] (w.forCall tape i)))
    (hl : laidOutB C.prog = true) (hv : s.vars = []) (hr : readAllT C.prog fn.params.toList = true) (ht : fn.resultTypes = #[tb]) (hub : C.prog.underlying tb = some .bool)
    (hs : ∀ ds : List (DataW H), ds.length = fn.params.size → s.fn H ds = { results := [.lit (.bool true)], args := ds })
    (hcalls : ∀ as, HasL (fun v t => Has C.prog 8 t v) fn.params.toList as → CallsS C.prog f as (.bool true)) :
    ReturnsInHanded {} C os f .any (s.pre6 enc C.prog fn conds false) (s.post enc C.prog fn false true false false) := by
  refine returnsInHanded_of_change own started noInit hfn witness ?_
  intro W base args ds gs before hval hW hcnd _
  have hW' := hW
  obtain ⟨p, q, hA, hV, rfl, hfz, hnd⟩ := hW
  rw [hv] at hV
  obtain ⟨rfl, rfl⟩ := ChangeShapes.trodVars_none hV
  obtain ⟨as, k1, k2⟩ := read_all hr (fun j t v h1 h2 => hval j t v (by simpa using h1) (by simpa using h2)) hA
  refine (hcalls as k1 W (fun _ _ => True) args k2).mono fun e W' ⟨rv, he, bel, hrv⟩ => ?_
  subst he
  obtain rfl := relV_bool.1 hrv
  have hlen : ds.length = fn.params.size := by
    have : ∀ {ts : List TypeId} {vs : List Value} {ds : List (DataW H)} {ps : List MemPlace}, DataW.TrodAll enc C.prog W 0 (fun _ => true) true ts vs ds ps → ds.length = ts.length := by
      intro ts
      induction ts with
      | nil => intro vs ds ps h; cases vs <;> cases ds <;> simp_all [DataW.TrodAll]
      | cons t ts ih => intro vs ds ps h; cases vs <;> cases ds <;> simp_all [DataW.TrodAll]; obtain ⟨_, _, _, h, _⟩ := h; exact ih h
    simpa using this hA
  have hsv := hs ds hlen
  refine ⟨_, rfl, ds, [], _, [], p, [], hW', ?_, ?_, ?_, bel.frame _, fun h => by cases h⟩
  · rw [List.append_nil, hsv, ht]
    exact ChangeShapes.trodAll_mk1 (shut_bool hub true)
  · rw [List.append_nil, hsv]
    exact trodAll_below hl bel hr hA
  · rw [hv, List.append_nil, hsv]
    rfl
end
end Go.AE
