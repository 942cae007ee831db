/- TableStaysInMemory: whatever its arguments (any memory, any numbers), the law returns true, changes nothing and does not panic. Conditions: none. -/
import Derived.Test.YtcknhfnbdgleiaaTab16
import Derived.Test.YtcknhfnbdgleiaaTab19
namespace Go.Proofs.Ytcknhfnbdgleiaa
open Go.AE
set_option maxRecDepth 100000

theorem calls4 (l : List AV) (h : HasL (fun v t => Has Try.checked.prog 8 t v) Try.f4.params.toList l) : CallsS Try.checked.prog 4 l (.bool true) := by
  have h0 : HasL (fun v t => Has Try.checked.prog 8 t v) [24, 25, 25, 3, 4] l := h
  obtain ⟨p0, r0, rfl, g0, h1⟩ := hasL_cons h0
  obtain ⟨p1, r1, rfl, g1, h2⟩ := hasL_cons h1
  obtain ⟨p2, r2, rfl, g2, h3⟩ := hasL_cons h2
  obtain ⟨p3, r3, rfl, g3, h4⟩ := hasL_cons h3
  obtain ⟨p4, r4, rfl, g4, h5⟩ := hasL_cons h4
  obtain rfl := hasL_nil h5
  obtain ⟨m, rfl, hm⟩ := has_mem g0
  obtain ⟨root, rfl, hr⟩ := has_u32 g1
  obtain ⟨va, rfl, hv⟩ := has_u32 g2
  obtain ⟨acc, rfl, _⟩ := has_i g3
  obtain ⟨u, rfl⟩ := has_bool undBool g4
  exact S2.E_ok 13 _ _ _ (law4_true 0 m hm root va acc u hr hv)
set_option maxRecDepth 100000 in
theorem lifted4 (os : Os) (started : os.Started) (H : Type) (enc : TypeId × Value → H) :
    ReturnsInHanded {} Try.checked os 4 .any (Rows.tableStaysInMemorySpec.pre6 enc Try.checked.prog Try.f4 Rows.tableStaysInMemoryRow.domain false) (Rows.tableStaysInMemorySpec.post enc Try.checked.prog Try.f4 false true false false) :=
  law_lifted (tb := 4) Try.own started (by kernel_rfl) Try.func4
    (ChangeSpec.witness6 (enc := enc) (C := Try.checked) false ⟨#[], #[.agg #[.slice none 0 0], .int .u32 0, .int .u32 0, .int .i64 0, .bool false], []⟩ 8 (by kernel_rfl) (by kernel_rfl) (by kernel_rfl) (by kernel_rfl))
    Try.laidOut rfl (by kernel_rfl) rfl undBool (fun ds hds => by
      match ds, hds with
      | [d0, d1, d2, d3, d4], _ => rfl) calls4
theorem closed4_1 : (Rows.tableStaysInMemoryRow.wf (OpenSpec.ofChange Rows.tableStaysInMemorySpec)) = true := by kernel_rfl
theorem closed4_4 : (Try.f4.params.all (Try.pinned.checked.prog.readableRec ·)) = true := by kernel_rfl
theorem closed4_5 : namedTie Try.pinned.checked.prog Rows.tableStaysInMemoryRow.named Rows.tableStaysInMemorySpec.vars = true := by kernel_rfl
theorem closed4_7 : (Rows.tableStaysInMemoryRow.inPlace == Try.pinned.checked.prog.inPlace 4) = true := by kernel_rfl
theorem closed4_8 : (Rows.tableStaysInMemoryRow.unfollowed == Try.pinned.checked.prog.unfollowed 4) = true := by kernel_rfl
theorem closed4_9 : (Rows.tableStaysInMemoryRow.recurses == Try.pinned.checked.prog.recurses 4) = true := by kernel_rfl
theorem closed4_10 : (Rows.tableStaysInMemoryRow.named == Try.pinned.checked.prog.varsNamed 4) = true := by kernel_rfl
theorem joined4 : joinedFacts Try.pinned.checked.prog 4 Try.f4 Rows.tableStaysInMemorySpec Rows.tableStaysInMemoryRow = true :=
  joined_of closed4_1 Try.laidOut Try.mapsRowed closed4_4 closed4_5 Try.noStops closed4_7 closed4_8 closed4_9 closed4_10 (by kernel_rfl) (by kernel_rfl) (by kernel_rfl) (by kernel_rfl) (by kernel_rfl) (by kernel_rfl) Try.joinedP (by kernel_rfl) (by kernel_rfl) (by kernel_rfl)
theorem tableStaysInMemory_holds : Rows.TableStaysInMemorySaid :=
  OpenClaim.holds_of_wide 4 Try.f4 rfl rfl rfl rfl rfl rfl rfl ⟨rfl, rfl, rfl, rfl, rfl⟩ rfl rfl rfl rfl rfl (by kernel_rfl) Try.func4 joined4
    (of_decide_eq_true (by kernel_rfl)) (by unfold Func.isWrapper; first | (rw [if_pos (by decide +kernel)]; kernel_rfl) | (rw [if_neg (by decide +kernel)]; exact ⟨rfl, rfl⟩))
    (fun os started H enc _ => lifted4 os started H enc)
end Go.Proofs.Ytcknhfnbdgleiaa
