/- TableRightsAreOrdered: whatever its arguments (any memory, any numbers), the law returns true, changes nothing and does not panic. Conditions: none. -/
import Derived.Test.YtcknhfnbdgleiaaTab16
import Derived.Test.YtcknhfnbdgleiaaTab17
namespace Go.Proofs.Ytcknhfnbdgleiaa
open Go.AE
set_option maxRecDepth 100000

theorem calls5 (l : List AV) (h : HasL (fun v t => Has Try.checked.prog 8 t v) Try.f5.params.toList l) : CallsS Try.checked.prog 5 l (.bool true) := by
  have h0 : HasL (fun v t => Has Try.checked.prog 8 t v) [24, 25, 25] l := h
  obtain ⟨p0, r0, rfl, g0, h1⟩ := hasL_cons h0
  obtain ⟨p1, r1, rfl, g1, h2⟩ := hasL_cons h1
  obtain ⟨p2, r2, rfl, g2, h3⟩ := hasL_cons h2
  obtain rfl := hasL_nil h3
  obtain ⟨m, rfl, hm⟩ := has_mem g0
  obtain ⟨root, rfl, hr⟩ := has_u32 g1
  obtain ⟨va, rfl, hv⟩ := has_u32 g2
  exact D_ok 14 _ _ _ (law5_true 0 m hm root va hr hv)
set_option maxRecDepth 100000 in
theorem lifted5 (os : Os) (started : os.Started) (H : Type) (enc : TypeId × Value → H) :
    ReturnsInHanded {} Try.checked os 5 .any (Rows.tableRightsAreOrderedSpec.pre6 enc Try.checked.prog Try.f5 Rows.tableRightsAreOrderedRow.domain false) (Rows.tableRightsAreOrderedSpec.post enc Try.checked.prog Try.f5 false true false false) :=
  law_lifted (tb := 4) Try.own started (by kernel_rfl) Try.func5
    (ChangeSpec.witness6 (enc := enc) (C := Try.checked) false ⟨#[], #[.agg #[.slice none 0 0], .int .u32 0, .int .u32 0], []⟩ 8 (by kernel_rfl) (by kernel_rfl) (by kernel_rfl) (by kernel_rfl))
    Try.laidOut rfl (by kernel_rfl) rfl undBool (fun ds hds => by
      match ds, hds with
      | [d0, d1, d2], _ => rfl) calls5
theorem closed5_1 : (Rows.tableRightsAreOrderedRow.wf (OpenSpec.ofChange Rows.tableRightsAreOrderedSpec)) = true := by kernel_rfl
theorem closed5_4 : (Try.f5.params.all (Try.pinned.checked.prog.readableRec ·)) = true := by kernel_rfl
theorem closed5_5 : namedTie Try.pinned.checked.prog Rows.tableRightsAreOrderedRow.named Rows.tableRightsAreOrderedSpec.vars = true := by kernel_rfl
theorem closed5_7 : (Rows.tableRightsAreOrderedRow.inPlace == Try.pinned.checked.prog.inPlace 5) = true := by kernel_rfl
theorem closed5_8 : (Rows.tableRightsAreOrderedRow.unfollowed == Try.pinned.checked.prog.unfollowed 5) = true := by kernel_rfl
theorem closed5_9 : (Rows.tableRightsAreOrderedRow.recurses == Try.pinned.checked.prog.recurses 5) = true := by kernel_rfl
theorem closed5_10 : (Rows.tableRightsAreOrderedRow.named == Try.pinned.checked.prog.varsNamed 5) = true := by kernel_rfl
theorem joined5 : joinedFacts Try.pinned.checked.prog 5 Try.f5 Rows.tableRightsAreOrderedSpec Rows.tableRightsAreOrderedRow = true :=
  joined_of closed5_1 Try.laidOut Try.mapsRowed closed5_4 closed5_5 Try.noStops closed5_7 closed5_8 closed5_9 closed5_10 (by kernel_rfl) (by kernel_rfl) (by kernel_rfl) (by kernel_rfl) (by kernel_rfl) (by kernel_rfl) Try.joinedP (by kernel_rfl) (by kernel_rfl) (by kernel_rfl)
theorem tableRightsAreOrdered_holds : Rows.TableRightsAreOrderedSaid :=
  OpenClaim.holds_of_wide 5 Try.f5 rfl rfl rfl rfl rfl rfl rfl ⟨rfl, rfl, rfl, rfl, rfl⟩ rfl rfl rfl rfl rfl (by kernel_rfl) Try.func5 joined5
    (of_decide_eq_true (by kernel_rfl)) (by unfold Func.isWrapper; first | (rw [if_pos (by decide +kernel)]; kernel_rfl) | (rw [if_neg (by decide +kernel)]; exact ⟨rfl, rfl⟩))
    (fun os started H enc _ => lifted5 os started H enc)
end Go.Proofs.Ytcknhfnbdgleiaa
