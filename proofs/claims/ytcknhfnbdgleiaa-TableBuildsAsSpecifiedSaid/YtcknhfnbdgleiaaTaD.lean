/- All that is said of loops is so; the functions' table. (Printed by a program of mine, gen.py.) -/
import Derived.Test.YtcknhfnbdgleiaaTaL0
import Derived.Test.YtcknhfnbdgleiaaTaL1
set_option linter.unusedVariables false
set_option linter.unusedSimpArgs false
namespace Go.Proofs.Ytcknhfnbdgleiaa
open Go.AE

theorem fn_5 : Pg.funcs[5]? = some Try.f5 := by kernel_rfl
theorem fn_6 : Pg.funcs[6]? = some Try.f6 := by kernel_rfl
theorem fn_21 : Pg.funcs[21]? = some Try.f21 := by kernel_rfl
theorem fn_24 : Pg.funcs[24]? = some Try.f24 := by kernel_rfl
theorem fn_33 : Pg.funcs[33]? = some Try.f33 := by kernel_rfl
theorem fn_34 : Pg.funcs[34]? = some Try.f34 := by kernel_rfl
theorem fn_57 : Pg.funcs[57]? = some Try.f57 := by kernel_rfl
theorem fn_75 : Pg.funcs[75]? = some Try.f75 := by kernel_rfl
theorem fn_86 : Pg.funcs[86]? = some Try.f86 := by kernel_rfl
theorem fn_89 : Pg.funcs[89]? = some Try.f89 := by kernel_rfl
theorem fn_121 : Pg.funcs[121]? = some Try.f121 := by kernel_rfl
theorem fn_122 : Pg.funcs[122]? = some Try.f122 := by kernel_rfl
theorem fn_123 : Pg.funcs[123]? = some Try.f123 := by kernel_rfl
set_option maxRecDepth 100000 in
theorem loops0 (F : Tab) : (cx F).Loops0 := by
  intro dep f id fr M t ht fn body hfn hbody
  simp only [cx] at ht
  split at ht
  · have hfn' : Pg.funcs[5]? = some fn := hfn
    rw [fn_5] at hfn'
    obtain rfl := Option.some.inj hfn'
    have ha := at_law10_TableRightsAreOrdered_4
    rw [hbody] at ha
    exact ⟨code_law10_TableRightsAreOrdered_4, ha, fun R K r hgo => ok_law10_TableRightsAreOrdered_4 F ht K r hgo⟩
  · have hfn' : Pg.funcs[6]? = some fn := hfn
    rw [fn_6] at hfn'
    obtain rfl := Option.some.inj hfn'
    have ha := at_law10_TableListIsTranslation_7
    rw [hbody] at ha
    exact ⟨code_law10_TableListIsTranslation_7, ha, fun R K r hgo => ok_law10_TableListIsTranslation_7 F ht K r hgo⟩
  · have hfn' : Pg.funcs[21]? = some fn := hfn
    rw [fn_21] at hfn'
    obtain rfl := Option.some.inj hfn'
    have ha := at_ref10_Same_4
    rw [hbody] at ha
    exact ⟨code_ref10_Same_4, ha, fun R K r hgo => ok_ref10_Same_4 F ht K r hgo⟩
  · have hfn' : Pg.funcs[24]? = some fn := hfn
    rw [fn_24] at hfn'
    obtain rfl := Option.some.inj hfn'
    have ha := at_memory_Apply_4
    rw [hbody] at ha
    exact ⟨code_memory_Apply_4, ha, fun R K r hgo => ok_memory_Apply_4 F ht K r hgo⟩
  · have hfn' : Pg.funcs[33]? = some fn := hfn
    rw [fn_33] at hfn'
    obtain rfl := Option.some.inj hfn'
    have ha := at_ref10_SameMappings_4
    rw [hbody] at ha
    exact ⟨code_ref10_SameMappings_4, ha, fun R K r hgo => ok_ref10_SameMappings_4 F ht K r hgo⟩
  · have hfn' : Pg.funcs[34]? = some fn := hfn
    rw [fn_34] at hfn'
    obtain rfl := Option.some.inj hfn'
    have ha := at_ref10_List_5
    rw [hbody] at ha
    exact ⟨code_ref10_List_5, ha, fun R K r hgo => ok_ref10_List_5 F ht K r hgo⟩
  · have hfn' : Pg.funcs[34]? = some fn := hfn
    rw [fn_34] at hfn'
    obtain rfl := Option.some.inj hfn'
    have ha := at_ref10_List_13
    rw [hbody] at ha
    exact ⟨code_ref10_List_13, ha, fun R K r hgo => ok_ref10_List_13 F ht K r hgo⟩
  · have hfn' : Pg.funcs[57]? = some fn := hfn
    rw [fn_57] at hfn'
    obtain rfl := Option.some.inj hfn'
    have ha := at_ref06_Store_6
    rw [hbody] at ha
    exact ⟨code_ref06_Store_6, ha, fun R K r hgo => ok_ref06_Store_6 F ht K r hgo⟩
  · have hfn' : Pg.funcs[75]? = some fn := hfn
    rw [fn_75] at hfn'
    obtain rfl := Option.some.inj hfn'
    have ha := at_ref06_SameInts_4
    rw [hbody] at ha
    exact ⟨code_ref06_SameInts_4, ha, fun R K r hgo => ok_ref06_SameInts_4 F ht K r hgo⟩
  · have hfn' : Pg.funcs[86]? = some fn := hfn
    rw [fn_86] at hfn'
    obtain rfl := Option.some.inj hfn'
    have ha := at_ref06_Write_5
    rw [hbody] at ha
    exact ⟨code_ref06_Write_5, ha, fun R K r hgo => ok_ref06_Write_5 F ht K r hgo⟩
  · have hfn' : Pg.funcs[89]? = some fn := hfn
    rw [fn_89] at hfn'
    obtain rfl := Option.some.inj hfn'
    have ha := at_ref06_Diff_3
    rw [hbody] at ha
    exact ⟨code_ref06_Diff_3, ha, fun R K r hgo => ok_ref06_Diff_3 F ht K r hgo⟩
  · have hfn' : Pg.funcs[121]? = some fn := hfn
    rw [fn_121] at hfn'
    obtain rfl := Option.some.inj hfn'
    have ha := at_memory_draft_put_1
    rw [hbody] at ha
    split at ht
    · rename_i t2 h2
      obtain rfl := Option.some.inj ht
      exact ⟨code_memory_draft_put_1, ha, fun R K r hgo => ok_memory_draft_put_1 F h2 K r hgo⟩
    ·
      exact ⟨code_memory_draft_put_1a, ha, fun R K r hgo => ok_memory_draft_put_1a F ht K r hgo⟩
  · have hfn' : Pg.funcs[122]? = some fn := hfn
    rw [fn_122] at hfn'
    obtain rfl := Option.some.inj hfn'
    have ha := at_table_leaves_1_1
    rw [hbody] at ha
    exact ⟨code_table_leaves_1_1, ha, fun R K r hgo => ok_table_leaves_1_1 F ht K r hgo⟩
  · have hfn' : Pg.funcs[122]? = some fn := hfn
    rw [fn_122] at hfn'
    obtain rfl := Option.some.inj hfn'
    have ha := at_table_leaves_1_8
    rw [hbody] at ha
    exact ⟨code_table_leaves_1_8, ha, fun R K r hgo => ok_table_leaves_1_8 F ht K r hgo⟩
  · have hfn' : Pg.funcs[123]? = some fn := hfn
    rw [fn_123] at hfn'
    obtain rfl := Option.some.inj hfn'
    have ha := at_ref06_Load_6
    rw [hbody] at ha
    exact ⟨code_ref06_Load_6, ha, fun R K r hgo => ok_ref06_Load_6 F ht K r hgo⟩
  · exact absurd ht (by simp)
theorem acts0 (F : Tab) : (cx F).Acts := Ctx.noActs fun _ _ _ _ => rfl
theorem news0 (F : Tab) : (cx F).News := Ctx.noNews fun _ _ _ _ => rfl
theorem loops (F : Tab) : (cx F).Loops := ⟨loops0 F, acts0 F, news0 F⟩
/-- What the functions return, calls k deep. -/
noncomputable abbrev D : Nat → Tab := Dt cx 6
theorem D_ok (k : Nat) : TabOK Pg (D k) := Dt_ok (P := Pg) (C := cx) (kn := kn) (fun _ => rfl) (fun _ => rfl) loops k
end Go.Proofs.Ytcknhfnbdgleiaa
