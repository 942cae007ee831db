/- A law's arguments, one by one; and the row of a law whose numbers are known. -/
import Derived.Test.YtglfkdbfiipjjaaEv31
set_option linter.unusedVariables false
set_option linter.unusedSimpArgs false
namespace Go.AE

theorem has_int {P : Program} {d : Nat} {t : TypeId} {k : IntKind} {v : AV} (hu : P.underlying t = some (.int k)) (h : Has P (d + 1) t v) : ∃ n, v = .int k n ∧ k.min ≤ n ∧ n ≤ k.max := by
  simp only [Has, hu] at h
  obtain ⟨n, rfl, hw⟩ := h
  refine ⟨n, rfl, ?_⟩
  simpa [Lit.wf] using hw
theorem has_bool {P : Program} {d : Nat} {t : TypeId} {v : AV} (hu : P.underlying t = some .bool) (h : Has P (d + 1) t v) : ∃ b, v = .bool b := by
  simpa only [Has, hu] using h
theorem has_str {P : Program} {d : Nat} {t : TypeId} {v : AV} (hu : P.underlying t = some .string) (h : Has P (d + 1) t v) : ∃ s, v = .str s ∧ s.length ≤ maxLen := by
  simpa only [Has, hu] using h
theorem has_struct {P : Program} {d : Nat} {t : TypeId} {fs : Array Field} {v : AV} (hu : P.underlying t = some (.struct fs)) (h : Has P (d + 1) t v) : ∃ ps, v = .agg (uid P t) ps ∧ HasL (fun v t => Has P d t v) (fs.toList.map (·.type)) ps := by
  simpa only [Has, hu] using h
theorem has_array {P : Program} {d : Nat} {t e : TypeId} {n : Nat} {v : AV} (hu : P.underlying t = some (.array n e)) (h : Has P (d + 1) t v) : ∃ ps, v = .agg (uid P t) ps ∧ ps.length = n ∧ ∀ x ∈ ps, Has P d e x := by
  simpa only [Has, hu] using h
theorem has_slice {P : Program} {d : Nat} {t e : TypeId} {v : AV} (hu : P.underlying t = some (.slice e)) (h : Has P (d + 1) t v) : ∃ l, v = .slice e l false ∧ l.length ≤ maxLen ∧ ∀ x ∈ l, Has P d e x := by
  simpa only [Has, hu] using h
theorem hasL_cons {p : AV → TypeId → Prop} {t : TypeId} {ts : List TypeId} {as : List AV} (h : HasL p (t :: ts) as) : ∃ a r, as = a :: r ∧ p a t ∧ HasL p ts r := by
  cases as with
  | nil => simp [HasL] at h
  | cons a r => exact ⟨a, r, rfl, h.1, h.2⟩
theorem hasL_nil {p : AV → TypeId → Prop} {as : List AV} (h : HasL p [] as) : as = [] := by
  cases as with
  | nil => rfl
  | cons a r => simp [HasL] at h
end Go.AE
