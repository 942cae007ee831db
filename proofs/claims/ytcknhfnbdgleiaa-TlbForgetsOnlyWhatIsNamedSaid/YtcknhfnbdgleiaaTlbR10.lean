/- TlbForgetsOnlyWhatIsNamed: whatever its arguments (any buffer, any numbers), the law returns true, changes nothing and does not panic. Conditions: none. -/
import Derived.Test.YtcknhfnbdgleiaaTlb7
namespace Go.Proofs.Ytcknhfnbdgleiaa
open Go.AE
set_option maxRecDepth 100000

theorem calls10 (l : List AV) (h : HasL (fun v t => Has Try.checked.prog 8 t v) Try.f10.params.toList l) : CallsS Try.checked.prog 10 l (.bool true) := by
  have h0 : HasL (fun v t => Has Try.checked.prog 8 t v) [68, 25, 87, 5] l := h
  obtain ⟨p0, r0, rfl, g0, h1⟩ := hasL_cons h0
  obtain ⟨p1, r1, rfl, g1, h2⟩ := hasL_cons h1
  obtain ⟨p2, r2, rfl, g2, h3⟩ := hasL_cons h2
  obtain ⟨p3, r3, rfl, g3, h4⟩ := hasL_cons h3
  obtain rfl := hasL_nil h4
  obtain ⟨xs, rfl, hw⟩ := has_tlb g0
  obtain ⟨va, rfl⟩ := has_u32 g1
  obtain ⟨w, rfl⟩ := has_u16 g2
  obtain ⟨s, rfl, _⟩ := has_u8 g3
  exact D_ok 12 _ _ _ (law10_true 0 xs hw va w s)
set_option maxRecDepth 100000 in
theorem lifted10 (os : Os) (started : os.Started) (H : Type) (enc : TypeId × Value → H) :
    ReturnsInHanded {} Try.checked os 10 .any (Rows.tlbForgetsOnlyWhatIsNamedSpec.pre6 enc Try.checked.prog Try.f10 Rows.tlbForgetsOnlyWhatIsNamedRow.domain false) (Rows.tlbForgetsOnlyWhatIsNamedSpec.post enc Try.checked.prog Try.f10 false true false false) :=
  law_lifted (tb := 4) Try.own started (by kernel_rfl) Try.func10
    (ChangeSpec.witness6 (enc := enc) (C := Try.checked) false ⟨#[], #[.agg #[.slice none 0 0], .int .u32 0, .int .u16 0, .int .u8 0], []⟩ 8 (by kernel_rfl) (by kernel_rfl) (by kernel_rfl) (by kernel_rfl))
    Try.laidOut rfl (by kernel_rfl) rfl undBool (fun ds hds => by
      match ds, hds with
      | [d0, d1, d2, d3], _ => rfl) calls10
theorem closed10_1 : (Rows.tlbForgetsOnlyWhatIsNamedRow.wf (OpenSpec.ofChange Rows.tlbForgetsOnlyWhatIsNamedSpec)) = true := by kernel_rfl
theorem closed10_4 : (Try.f10.params.all (Try.pinned.checked.prog.readableRec ·)) = true := by kernel_rfl
theorem closed10_5 : namedTie Try.pinned.checked.prog Rows.tlbForgetsOnlyWhatIsNamedRow.named Rows.tlbForgetsOnlyWhatIsNamedSpec.vars = true := by kernel_rfl
theorem closed10_7 : (Rows.tlbForgetsOnlyWhatIsNamedRow.inPlace == Try.pinned.checked.prog.inPlace 10) = true := by kernel_rfl
theorem closed10_8 : (Rows.tlbForgetsOnlyWhatIsNamedRow.unfollowed == Try.pinned.checked.prog.unfollowed 10) = true := by kernel_rfl
theorem closed10_9 : (Rows.tlbForgetsOnlyWhatIsNamedRow.recurses == Try.pinned.checked.prog.recurses 10) = true := by kernel_rfl
theorem closed10_10 : (Rows.tlbForgetsOnlyWhatIsNamedRow.named == Try.pinned.checked.prog.varsNamed 10) = true := by kernel_rfl
theorem joined10 : joinedFacts Try.pinned.checked.prog 10 Try.f10 Rows.tlbForgetsOnlyWhatIsNamedSpec Rows.tlbForgetsOnlyWhatIsNamedRow = true :=
  joined_of closed10_1 Try.laidOut Try.mapsRowed closed10_4 closed10_5 Try.noStops closed10_7 closed10_8 closed10_9 closed10_10 (by kernel_rfl) (by kernel_rfl) (by kernel_rfl) (by kernel_rfl) (by kernel_rfl) (by kernel_rfl) Try.joinedP (by kernel_rfl) (by kernel_rfl) (by kernel_rfl)
theorem tlbForgetsOnlyWhatIsNamed_holds : Rows.TlbForgetsOnlyWhatIsNamedSaid :=
  OpenClaim.holds_of_wide 10 Try.f10 rfl rfl rfl rfl rfl rfl rfl ⟨rfl, rfl, rfl, rfl, rfl⟩ rfl rfl rfl rfl rfl (by kernel_rfl) Try.func10 joined10
    (of_decide_eq_true (by kernel_rfl)) (by unfold Func.isWrapper; first | (rw [if_pos (by decide +kernel)]; kernel_rfl) | (rw [if_neg (by decide +kernel)]; exact ⟨rfl, rfl⟩))
    (fun os started H enc _ => lifted10 os started H enc)
end Go.Proofs.Ytcknhfnbdgleiaa
