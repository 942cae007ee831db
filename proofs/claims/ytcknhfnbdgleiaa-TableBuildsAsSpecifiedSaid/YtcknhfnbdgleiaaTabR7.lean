/- TableBuildsAsSpecified: whatever its arguments (any memory, any numbers), the law returns true, changes nothing and does not panic. Conditions: none. -/
import Derived.Test.YtcknhfnbdgleiaaTab16
namespace Go.Proofs.Ytcknhfnbdgleiaa
open Go.AE
set_option maxRecDepth 100000

theorem calls7 (l : List AV) (h : HasL (fun v t => Has Try.checked.prog 8 t v) Try.f7.params.toList l) : CallsS Try.checked.prog 7 l (.bool true) := by
  have h0 : HasL (fun v t => Has Try.checked.prog 8 t v) [24, 25, 25, 25, 3, 25] l := h
  obtain ⟨p0, r0, rfl, g0, h1⟩ := hasL_cons h0
  obtain ⟨p1, r1, rfl, g1, h2⟩ := hasL_cons h1
  obtain ⟨p2, r2, rfl, g2, h3⟩ := hasL_cons h2
  obtain ⟨p3, r3, rfl, g3, h4⟩ := hasL_cons h3
  obtain ⟨p4, r4, rfl, g4, h5⟩ := hasL_cons h4
  obtain ⟨p5, r5, rfl, g5, h6⟩ := hasL_cons h5
  obtain rfl := hasL_nil h6
  obtain ⟨m, rfl, hm⟩ := has_mem g0
  obtain ⟨root, rfl, hr⟩ := has_u32 g1
  obtain ⟨va, rfl, hv⟩ := has_u32 g2
  obtain ⟨p, rfl, hp⟩ := has_u32 g3
  obtain ⟨r, rfl, r0, r1⟩ := has_i g4
  obtain ⟨t, rfl, ht⟩ := has_u32 g5
  exact D_ok 14 _ _ _ (law7_true 0 m hm root va p t r hr hv hp r0 r1 ht)
set_option maxRecDepth 100000 in
theorem lifted7 (os : Os) (started : os.Started) (H : Type) (enc : TypeId × Value → H) :
    ReturnsInHanded {} Try.checked os 7 .any (Rows.tableBuildsAsSpecifiedSpec.pre6 enc Try.checked.prog Try.f7 Rows.tableBuildsAsSpecifiedRow.domain false) (Rows.tableBuildsAsSpecifiedSpec.post enc Try.checked.prog Try.f7 false true false false) :=
  law_lifted (tb := 4) Try.own started (by kernel_rfl) Try.func7
    (ChangeSpec.witness6 (enc := enc) (C := Try.checked) false ⟨#[], #[.agg #[.slice none 0 0], .int .u32 0, .int .u32 0, .int .u32 0, .int .i64 0, .int .u32 0], []⟩ 8 (by kernel_rfl) (by kernel_rfl) (by kernel_rfl) (by kernel_rfl))
    Try.laidOut rfl (by kernel_rfl) rfl undBool (fun ds hds => by
      match ds, hds with
      | [d0, d1, d2, d3, d4, d5], _ => rfl) calls7
theorem closed7_1 : (Rows.tableBuildsAsSpecifiedRow.wf (OpenSpec.ofChange Rows.tableBuildsAsSpecifiedSpec)) = true := by kernel_rfl
theorem closed7_4 : (Try.f7.params.all (Try.pinned.checked.prog.readableRec ·)) = true := by kernel_rfl
theorem closed7_5 : namedTie Try.pinned.checked.prog Rows.tableBuildsAsSpecifiedRow.named Rows.tableBuildsAsSpecifiedSpec.vars = true := by kernel_rfl
theorem closed7_7 : (Rows.tableBuildsAsSpecifiedRow.inPlace == Try.pinned.checked.prog.inPlace 7) = true := by kernel_rfl
theorem closed7_8 : (Rows.tableBuildsAsSpecifiedRow.unfollowed == Try.pinned.checked.prog.unfollowed 7) = true := by kernel_rfl
theorem closed7_9 : (Rows.tableBuildsAsSpecifiedRow.recurses == Try.pinned.checked.prog.recurses 7) = true := by kernel_rfl
theorem closed7_10 : (Rows.tableBuildsAsSpecifiedRow.named == Try.pinned.checked.prog.varsNamed 7) = true := by kernel_rfl
theorem joined7 : joinedFacts Try.pinned.checked.prog 7 Try.f7 Rows.tableBuildsAsSpecifiedSpec Rows.tableBuildsAsSpecifiedRow = true :=
  joined_of closed7_1 Try.laidOut Try.mapsRowed closed7_4 closed7_5 Try.noStops closed7_7 closed7_8 closed7_9 closed7_10 (by kernel_rfl) (by kernel_rfl) (by kernel_rfl) (by kernel_rfl) (by kernel_rfl) (by kernel_rfl) Try.joinedP (by kernel_rfl) (by kernel_rfl) (by kernel_rfl)
theorem tableBuildsAsSpecified_holds : Rows.TableBuildsAsSpecifiedSaid :=
  OpenClaim.holds_of_wide 7 Try.f7 rfl rfl rfl rfl rfl rfl rfl ⟨rfl, rfl, rfl, rfl, rfl⟩ rfl rfl rfl rfl rfl (by kernel_rfl) Try.func7 joined7
    (of_decide_eq_true (by kernel_rfl)) (by unfold Func.isWrapper; first | (rw [if_pos (by decide +kernel)]; kernel_rfl) | (rw [if_neg (by decide +kernel)]; exact ⟨rfl, rfl⟩))
    (fun os started H enc _ => lifted7 os started H enc)
end Go.Proofs.Ytcknhfnbdgleiaa
