/- TlbWorksAsSpecified: whatever its arguments (any buffer, any ops, any numbers), the law returns true, changes nothing and does not panic. Conditions: none. -/
import Derived.Test.YtcknhfnbdgleiaaTlb7
namespace Go.Proofs.Ytcknhfnbdgleiaa
open Go.AE
set_option maxRecDepth 100000

theorem calls9 (l : List AV) (h : HasL (fun v t => Has Try.checked.prog 8 t v) Try.f9.params.toList l) : CallsS Try.checked.prog 9 l (.bool true) := by
  have h0 : HasL (fun v t => Has Try.checked.prog 8 t v) [68, 77, 25, 25, 3, 4] l := h
  obtain ⟨p0, r0, rfl, g0, h1⟩ := hasL_cons h0
  obtain ⟨p1, r1, rfl, g1, h2⟩ := hasL_cons h1
  obtain ⟨p2, r2, rfl, g2, h3⟩ := hasL_cons h2
  obtain ⟨p3, r3, rfl, g3, h4⟩ := hasL_cons h3
  obtain ⟨p4, r4, rfl, g4, h5⟩ := hasL_cons h4
  obtain ⟨p5, r5, rfl, g5, h6⟩ := hasL_cons h5
  obtain rfl := hasL_nil h6
  obtain ⟨xs, rfl, hw⟩ := has_tlb g0
  obtain ⟨os, rfl, wo⟩ := has_ops g1
  obtain ⟨r, rfl⟩ := has_u32 g2
  obtain ⟨va, rfl⟩ := has_u32 g3
  obtain ⟨a, rfl, _⟩ := has_i g4
  obtain ⟨u, rfl⟩ := has_bool undBool g5
  exact D_ok 12 _ _ _ (law9_true 0 xs hw os wo r va a u)
set_option maxRecDepth 100000 in
theorem lifted9 (os : Os) (started : os.Started) (H : Type) (enc : TypeId × Value → H) :
    ReturnsInHanded {} Try.checked os 9 .any (Rows.tlbWorksAsSpecifiedSpec.pre6 enc Try.checked.prog Try.f9 Rows.tlbWorksAsSpecifiedRow.domain false) (Rows.tlbWorksAsSpecifiedSpec.post enc Try.checked.prog Try.f9 false true false false) :=
  law_lifted (tb := 4) Try.own started (by kernel_rfl) Try.func9
    (ChangeSpec.witness6 (enc := enc) (C := Try.checked) false ⟨#[], #[.agg #[.slice none 0 0], .slice none 0 0, .int .u32 0, .int .u32 0, .int .i64 0, .bool false], []⟩ 8 (by kernel_rfl) (by kernel_rfl) (by kernel_rfl) (by kernel_rfl))
    Try.laidOut rfl (by kernel_rfl) rfl undBool (fun ds hds => by
      match ds, hds with
      | [d0, d1, d2, d3, d4, d5], _ => rfl) calls9
theorem closed9_1 : (Rows.tlbWorksAsSpecifiedRow.wf (OpenSpec.ofChange Rows.tlbWorksAsSpecifiedSpec)) = true := by kernel_rfl
theorem closed9_4 : (Try.f9.params.all (Try.pinned.checked.prog.readableRec ·)) = true := by kernel_rfl
theorem closed9_5 : namedTie Try.pinned.checked.prog Rows.tlbWorksAsSpecifiedRow.named Rows.tlbWorksAsSpecifiedSpec.vars = true := by kernel_rfl
theorem closed9_7 : (Rows.tlbWorksAsSpecifiedRow.inPlace == Try.pinned.checked.prog.inPlace 9) = true := by kernel_rfl
theorem closed9_8 : (Rows.tlbWorksAsSpecifiedRow.unfollowed == Try.pinned.checked.prog.unfollowed 9) = true := by kernel_rfl
theorem closed9_9 : (Rows.tlbWorksAsSpecifiedRow.recurses == Try.pinned.checked.prog.recurses 9) = true := by kernel_rfl
theorem closed9_10 : (Rows.tlbWorksAsSpecifiedRow.named == Try.pinned.checked.prog.varsNamed 9) = true := by kernel_rfl
theorem joined9 : joinedFacts Try.pinned.checked.prog 9 Try.f9 Rows.tlbWorksAsSpecifiedSpec Rows.tlbWorksAsSpecifiedRow = true :=
  joined_of closed9_1 Try.laidOut Try.mapsRowed closed9_4 closed9_5 Try.noStops closed9_7 closed9_8 closed9_9 closed9_10 (by kernel_rfl) (by kernel_rfl) (by kernel_rfl) (by kernel_rfl) (by kernel_rfl) (by kernel_rfl) Try.joinedP (by kernel_rfl) (by kernel_rfl) (by kernel_rfl)
theorem tlbWorksAsSpecified_holds : Rows.TlbWorksAsSpecifiedSaid :=
  OpenClaim.holds_of_wide 9 Try.f9 rfl rfl rfl rfl rfl rfl rfl ⟨rfl, rfl, rfl, rfl, rfl⟩ rfl rfl rfl rfl rfl (by kernel_rfl) Try.func9 joined9
    (of_decide_eq_true (by kernel_rfl)) (by unfold Func.isWrapper; first | (rw [if_pos (by decide +kernel)]; kernel_rfl) | (rw [if_neg (by decide +kernel)]; exact ⟨rfl, rfl⟩))
    (fun os started H enc _ => lifted9 os started H enc)
end Go.Proofs.Ytcknhfnbdgleiaa
