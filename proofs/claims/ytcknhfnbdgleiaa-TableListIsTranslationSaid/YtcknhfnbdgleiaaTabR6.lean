/- TableListIsTranslation: whatever its arguments (any memory, any numbers), the law returns true, changes nothing and does not panic. Conditions: none. -/
import Derived.Test.YtcknhfnbdgleiaaTab16
import Derived.Test.YtcknhfnbdgleiaaTab21
namespace Go.Proofs.Ytcknhfnbdgleiaa
open Go.AE
set_option maxRecDepth 100000

theorem calls6 (l : List AV) (h : HasL (fun v t => Has Try.checked.prog 8 t v) Try.f6.params.toList l) : CallsS Try.checked.prog 6 l (.bool true) := by
  have h0 : HasL (fun v t => Has Try.checked.prog 8 t v) [24, 25, 25] l := h
  obtain ⟨p0, r0, rfl, g0, h1⟩ := hasL_cons h0
  obtain ⟨p1, r1, rfl, g1, h2⟩ := hasL_cons h1
  obtain ⟨p2, r2, rfl, g2, h3⟩ := hasL_cons h2
  obtain rfl := hasL_nil h3
  obtain ⟨m, rfl, hm⟩ := has_mem g0
  obtain ⟨root, rfl, hr⟩ := has_u32 g1
  obtain ⟨va, rfl, hv⟩ := has_u32 g2
  exact D_ok 14 _ _ _ (law6_true 0 m hm root va hr hv)
set_option maxRecDepth 100000 in
theorem lifted6 (os : Os) (started : os.Started) (H : Type) (enc : TypeId × Value → H) :
    ReturnsInHanded {} Try.checked os 6 .any (Rows.tableListIsTranslationSpec.pre6 enc Try.checked.prog Try.f6 Rows.tableListIsTranslationRow.domain false) (Rows.tableListIsTranslationSpec.post enc Try.checked.prog Try.f6 false true false false) :=
  law_lifted (tb := 4) Try.own started (by kernel_rfl) Try.func6
    (ChangeSpec.witness6 (enc := enc) (C := Try.checked) false ⟨#[], #[.agg #[.slice none 0 0], .int .u32 0, .int .u32 0], []⟩ 8 (by kernel_rfl) (by kernel_rfl) (by kernel_rfl) (by kernel_rfl))
    Try.laidOut rfl (by kernel_rfl) rfl undBool (fun ds hds => by
      match ds, hds with
      | [d0, d1, d2], _ => rfl) calls6
theorem closed6_1 : (Rows.tableListIsTranslationRow.wf (OpenSpec.ofChange Rows.tableListIsTranslationSpec)) = true := by kernel_rfl
theorem closed6_4 : (Try.f6.params.all (Try.pinned.checked.prog.readableRec ·)) = true := by kernel_rfl
theorem closed6_5 : namedTie Try.pinned.checked.prog Rows.tableListIsTranslationRow.named Rows.tableListIsTranslationSpec.vars = true := by kernel_rfl
theorem closed6_7 : (Rows.tableListIsTranslationRow.inPlace == Try.pinned.checked.prog.inPlace 6) = true := by kernel_rfl
theorem closed6_8 : (Rows.tableListIsTranslationRow.unfollowed == Try.pinned.checked.prog.unfollowed 6) = true := by kernel_rfl
theorem closed6_9 : (Rows.tableListIsTranslationRow.recurses == Try.pinned.checked.prog.recurses 6) = true := by kernel_rfl
theorem closed6_10 : (Rows.tableListIsTranslationRow.named == Try.pinned.checked.prog.varsNamed 6) = true := by kernel_rfl
theorem joined6 : joinedFacts Try.pinned.checked.prog 6 Try.f6 Rows.tableListIsTranslationSpec Rows.tableListIsTranslationRow = true :=
  joined_of closed6_1 Try.laidOut Try.mapsRowed closed6_4 closed6_5 Try.noStops closed6_7 closed6_8 closed6_9 closed6_10 (by kernel_rfl) (by kernel_rfl) (by kernel_rfl) (by kernel_rfl) (by kernel_rfl) (by kernel_rfl) Try.joinedP (by kernel_rfl) (by kernel_rfl) (by kernel_rfl)
theorem tableListIsTranslation_holds : Rows.TableListIsTranslationSaid :=
  OpenClaim.holds_of_wide 6 Try.f6 rfl rfl rfl rfl rfl rfl rfl ⟨rfl, rfl, rfl, rfl, rfl⟩ rfl rfl rfl rfl rfl (by kernel_rfl) Try.func6 joined6
    (of_decide_eq_true (by kernel_rfl)) (by unfold Func.isWrapper; first | (rw [if_pos (by decide +kernel)]; kernel_rfl) | (rw [if_neg (by decide +kernel)]; exact ⟨rfl, rfl⟩))
    (fun os started H enc _ => lifted6 os started H enc)
end Go.Proofs.Ytcknhfnbdgleiaa
