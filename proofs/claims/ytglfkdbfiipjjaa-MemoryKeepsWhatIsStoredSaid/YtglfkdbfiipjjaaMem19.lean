/- What the rows of the memory's laws need. -/
import Derived.Test.YtglfkdbfiipjjaaMem18
import Derived.Test.YtglfkdbfiipjjaaMem14
namespace Go.Proofs.Ytglfkdbfiipjjaa
open Go.AE
theorem has_u16 {d : Nat} {v : AV} (h : Has Try.checked.prog (d + 1) 68 v) : ∃ n : Int, v = .int .u16 n ∧ 0 ≤ n ∧ n < 65536 := by
  obtain ⟨n, rfl, h1, h2⟩ := has_int und68 h
  have h1' : (0 : Int) ≤ n := h1
  have h2' : n ≤ 65535 := h2
  exact ⟨n, rfl, h1', by omega⟩
end Go.Proofs.Ytglfkdbfiipjjaa
