/- TlbFindsWhatIsFilled: whatever its arguments (any buffer, any translation, any numbers), the law returns true, changes nothing and does not panic. Conditions: none. -/
import Derived.Test.YtcknhfnbdgleiaaTlb7
namespace Go.Proofs.Ytcknhfnbdgleiaa
open Go.AE
set_option maxRecDepth 100000

theorem calls8 (l : List AV) (h : HasL (fun v t => Has Try.checked.prog 8 t v) Try.f8.params.toList l) : CallsS Try.checked.prog 8 l (.bool true) := by
  have h0 : HasL (fun v t => Has Try.checked.prog 8 t v) [68, 70, 5, 25, 25] l := h
  obtain ⟨p0, r0, rfl, g0, h1⟩ := hasL_cons h0
  obtain ⟨p1, r1, rfl, g1, h2⟩ := hasL_cons h1
  obtain ⟨p2, r2, rfl, g2, h3⟩ := hasL_cons h2
  obtain ⟨p3, r3, rfl, g3, h4⟩ := hasL_cons h3
  obtain ⟨p4, r4, rfl, g4, h5⟩ := hasL_cons h4
  obtain rfl := hasL_nil h5
  obtain ⟨xs, rfl, hw⟩ := has_tlb g0
  obtain ⟨x, rfl, wx⟩ := has_trans g1
  obtain ⟨o, rfl, o0, o1⟩ := has_u8 g2
  obtain ⟨va, rfl⟩ := has_u32 g3
  obtain ⟨r, rfl⟩ := has_u32 g4
  exact D_ok 12 _ _ _ (law8_true 0 xs hw x wx o va r o0 o1)
set_option maxRecDepth 100000 in
theorem lifted8 (os : Os) (started : os.Started) (H : Type) (enc : TypeId × Value → H) :
    ReturnsInHanded {} Try.checked os 8 .any (Rows.tlbFindsWhatIsFilledSpec.pre6 enc Try.checked.prog Try.f8 Rows.tlbFindsWhatIsFilledRow.domain false) (Rows.tlbFindsWhatIsFilledSpec.post enc Try.checked.prog Try.f8 false true false false) :=
  law_lifted (tb := 4) Try.own started (by kernel_rfl) Try.func8
    (ChangeSpec.witness6 (enc := enc) (C := Try.checked) false ⟨#[], #[.agg #[.slice none 0 0], .agg #[.int .u32 0, .int .i64 0, .int .i64 0, .int .i64 0, .int .i64 0, .slice none 0 0], .int .u8 0, .int .u32 0, .int .u32 0], []⟩ 8 (by kernel_rfl) (by kernel_rfl) (by kernel_rfl) (by kernel_rfl))
    Try.laidOut rfl (by kernel_rfl) rfl undBool (fun ds hds => by
      match ds, hds with
      | [d0, d1, d2, d3, d4], _ => rfl) calls8
theorem closed8_1 : (Rows.tlbFindsWhatIsFilledRow.wf (OpenSpec.ofChange Rows.tlbFindsWhatIsFilledSpec)) = true := by kernel_rfl
theorem closed8_4 : (Try.f8.params.all (Try.pinned.checked.prog.readableRec ·)) = true := by kernel_rfl
theorem closed8_5 : namedTie Try.pinned.checked.prog Rows.tlbFindsWhatIsFilledRow.named Rows.tlbFindsWhatIsFilledSpec.vars = true := by kernel_rfl
theorem closed8_7 : (Rows.tlbFindsWhatIsFilledRow.inPlace == Try.pinned.checked.prog.inPlace 8) = true := by kernel_rfl
theorem closed8_8 : (Rows.tlbFindsWhatIsFilledRow.unfollowed == Try.pinned.checked.prog.unfollowed 8) = true := by kernel_rfl
theorem closed8_9 : (Rows.tlbFindsWhatIsFilledRow.recurses == Try.pinned.checked.prog.recurses 8) = true := by kernel_rfl
theorem closed8_10 : (Rows.tlbFindsWhatIsFilledRow.named == Try.pinned.checked.prog.varsNamed 8) = true := by kernel_rfl
theorem joined8 : joinedFacts Try.pinned.checked.prog 8 Try.f8 Rows.tlbFindsWhatIsFilledSpec Rows.tlbFindsWhatIsFilledRow = true :=
  joined_of closed8_1 Try.laidOut Try.mapsRowed closed8_4 closed8_5 Try.noStops closed8_7 closed8_8 closed8_9 closed8_10 (by kernel_rfl) (by kernel_rfl) (by kernel_rfl) (by kernel_rfl) (by kernel_rfl) (by kernel_rfl) Try.joinedP (by kernel_rfl) (by kernel_rfl) (by kernel_rfl)
theorem tlbFindsWhatIsFilled_holds : Rows.TlbFindsWhatIsFilledSaid :=
  OpenClaim.holds_of_wide 8 Try.f8 rfl rfl rfl rfl rfl rfl rfl ⟨rfl, rfl, rfl, rfl, rfl⟩ rfl rfl rfl rfl rfl (by kernel_rfl) Try.func8 joined8
    (of_decide_eq_true (by kernel_rfl)) (by unfold Func.isWrapper; first | (rw [if_pos (by decide +kernel)]; kernel_rfl) | (rw [if_neg (by decide +kernel)]; exact ⟨rfl, rfl⟩))
    (fun os started H enc _ => lifted8 os started H enc)
end Go.Proofs.Ytcknhfnbdgleiaa
