/- All that is said of loops is so; the functions' table. (Printed by a program of mine, gen.py.) -/
import Derived.Test.YtcknhfnbdgleiaaTbL0
import Derived.Test.YtcknhfnbdgleiaaTbL1
import Derived.Test.YtcknhfnbdgleiaaTbL2
set_option linter.unusedVariables false
set_option linter.unusedSimpArgs false
namespace Go.Proofs.Ytcknhfnbdgleiaa
open Go.AE

theorem fn_9 : Pg.funcs[9]? = some Try.f9 := by kernel_rfl
theorem fn_21 : Pg.funcs[21]? = some Try.f21 := by kernel_rfl
theorem fn_24 : Pg.funcs[24]? = some Try.f24 := by kernel_rfl
theorem fn_35 : Pg.funcs[35]? = some Try.f35 := by kernel_rfl
theorem fn_36 : Pg.funcs[36]? = some Try.f36 := by kernel_rfl
theorem fn_39 : Pg.funcs[39]? = some Try.f39 := by kernel_rfl
theorem fn_40 : Pg.funcs[40]? = some Try.f40 := by kernel_rfl
theorem fn_43 : Pg.funcs[43]? = some Try.f43 := by kernel_rfl
theorem fn_47 : Pg.funcs[47]? = some Try.f47 := by kernel_rfl
theorem fn_57 : Pg.funcs[57]? = some Try.f57 := by kernel_rfl
theorem fn_75 : Pg.funcs[75]? = some Try.f75 := by kernel_rfl
theorem fn_86 : Pg.funcs[86]? = some Try.f86 := by kernel_rfl
theorem fn_89 : Pg.funcs[89]? = some Try.f89 := by kernel_rfl
theorem fn_91 : Pg.funcs[91]? = some Try.f91 := by kernel_rfl
theorem fn_92 : Pg.funcs[92]? = some Try.f92 := by kernel_rfl
theorem fn_94 : Pg.funcs[94]? = some Try.f94 := by kernel_rfl
theorem fn_98 : Pg.funcs[98]? = some Try.f98 := by kernel_rfl
theorem fn_99 : Pg.funcs[99]? = some Try.f99 := by kernel_rfl
theorem fn_100 : Pg.funcs[100]? = some Try.f100 := by kernel_rfl
theorem fn_101 : Pg.funcs[101]? = some Try.f101 := by kernel_rfl
theorem fn_103 : Pg.funcs[103]? = some Try.f103 := by kernel_rfl
theorem fn_121 : Pg.funcs[121]? = some Try.f121 := by kernel_rfl
theorem fn_123 : Pg.funcs[123]? = some Try.f123 := by kernel_rfl
theorem fn_124 : Pg.funcs[124]? = some Try.f124 := by kernel_rfl
theorem fn_126 : Pg.funcs[126]? = some Try.f126 := by kernel_rfl
set_option maxRecDepth 100000 in
theorem loops0 (F : Tab) : (cx F).Loops0 := by
  intro dep f id fr M t ht fn body hfn hbody
  simp only [cx] at ht
  split at ht
  · have hfn' : Pg.funcs[9]? = some fn := hfn
    rw [fn_9] at hfn'
    obtain rfl := Option.some.inj hfn'
    have ha := at_law25_TlbWorksAsSpecified_8
    rw [hbody] at ha
    exact ⟨code_law25_TlbWorksAsSpecified_8, ha, fun R K r hgo => ok_law25_TlbWorksAsSpecified_8 F ht K r hgo⟩
  · have hfn' : Pg.funcs[21]? = some fn := hfn
    rw [fn_21] at hfn'
    obtain rfl := Option.some.inj hfn'
    have ha := at_ref10_Same_4
    rw [hbody] at ha
    exact ⟨code_ref10_Same_4, ha, fun R K r hgo => ok_ref10_Same_4 F ht K r hgo⟩
  · have hfn' : Pg.funcs[24]? = some fn := hfn
    rw [fn_24] at hfn'
    obtain rfl := Option.some.inj hfn'
    have ha := at_memory_Apply_4
    rw [hbody] at ha
    exact ⟨code_memory_Apply_4, ha, fun R K r hgo => ok_memory_Apply_4 F ht K r hgo⟩
  · have hfn' : Pg.funcs[35]? = some fn := hfn
    rw [fn_35] at hfn'
    obtain rfl := Option.some.inj hfn'
    have ha := at_ref25_Valid_4
    rw [hbody] at ha
    exact ⟨code_ref25_Valid_4, ha, fun R K r hgo => ok_ref25_Valid_4 F ht K r hgo⟩
  · have hfn' : Pg.funcs[36]? = some fn := hfn
    rw [fn_36] at hfn'
    obtain rfl := Option.some.inj hfn'
    have ha := at_ref25_Right_4
    rw [hbody] at ha
    exact ⟨code_ref25_Right_4, ha, fun R K r hgo => ok_ref25_Right_4 F ht K r hgo⟩
  · have hfn' : Pg.funcs[39]? = some fn := hfn
    rw [fn_39] at hfn'
    obtain rfl := Option.some.inj hfn'
    have ha := at_tlb_Lookup_11
    rw [hbody] at ha
    exact ⟨code_tlb_Lookup_11, ha, fun R K r hgo => ok_tlb_Lookup_11 F ht K r hgo⟩
  · have hfn' : Pg.funcs[40]? = some fn := hfn
    rw [fn_40] at hfn'
    obtain rfl := Option.some.inj hfn'
    have ha := at_tlb_Valid_4
    rw [hbody] at ha
    exact ⟨code_tlb_Valid_4, ha, fun R K r hgo => ok_tlb_Valid_4 F ht K r hgo⟩
  · have hfn' : Pg.funcs[43]? = some fn := hfn
    rw [fn_43] at hfn'
    obtain rfl := Option.some.inj hfn'
    have ha := at_ref25_Same_4
    rw [hbody] at ha
    exact ⟨code_ref25_Same_4, ha, fun R K r hgo => ok_ref25_Same_4 F ht K r hgo⟩
  · have hfn' : Pg.funcs[47]? = some fn := hfn
    rw [fn_47] at hfn'
    obtain rfl := Option.some.inj hfn'
    have ha := at_ref25_Within_3
    rw [hbody] at ha
    exact ⟨code_ref25_Within_3, ha, fun R K r hgo => ok_ref25_Within_3 F ht K r hgo⟩
  · have hfn' : Pg.funcs[57]? = some fn := hfn
    rw [fn_57] at hfn'
    obtain rfl := Option.some.inj hfn'
    have ha := at_ref06_Store_6
    rw [hbody] at ha
    exact ⟨code_ref06_Store_6, ha, fun R K r hgo => ok_ref06_Store_6 F ht K r hgo⟩
  · have hfn' : Pg.funcs[75]? = some fn := hfn
    rw [fn_75] at hfn'
    obtain rfl := Option.some.inj hfn'
    have ha := at_ref06_SameInts_4
    rw [hbody] at ha
    exact ⟨code_ref06_SameInts_4, ha, fun R K r hgo => ok_ref06_SameInts_4 F ht K r hgo⟩
  · have hfn' : Pg.funcs[86]? = some fn := hfn
    rw [fn_86] at hfn'
    obtain rfl := Option.some.inj hfn'
    have ha := at_ref06_Write_5
    rw [hbody] at ha
    exact ⟨code_ref06_Write_5, ha, fun R K r hgo => ok_ref06_Write_5 F ht K r hgo⟩
  · have hfn' : Pg.funcs[89]? = some fn := hfn
    rw [fn_89] at hfn'
    obtain rfl := Option.some.inj hfn'
    have ha := at_ref06_Diff_3
    rw [hbody] at ha
    exact ⟨code_ref06_Diff_3, ha, fun R K r hgo => ok_ref06_Diff_3 F ht K r hgo⟩
  · have hfn' : Pg.funcs[91]? = some fn := hfn
    rw [fn_91] at hfn'
    obtain rfl := Option.some.inj hfn'
    have ha := at_ref25_find_2
    rw [hbody] at ha
    exact ⟨code_ref25_find_2, ha, fun R K r hgo => ok_ref25_find_2 F ht K r hgo⟩
  · have hfn' : Pg.funcs[92]? = some fn := hfn
    rw [fn_92] at hfn'
    obtain rfl := Option.some.inj hfn'
    have ha := at_ref25_bits_3
    rw [hbody] at ha
    exact ⟨code_ref25_bits_3, ha, fun R K r hgo => ok_ref25_bits_3 F ht K r hgo⟩
  · have hfn' : Pg.funcs[94]? = some fn := hfn
    rw [fn_94] at hfn'
    obtain rfl := Option.some.inj hfn'
    have ha := at_tlb_keep_api_Trans_3
    rw [hbody] at ha
    split at ht
    · rename_i t2 h2
      obtain rfl := Option.some.inj ht
      exact ⟨code_tlb_keep_api_Trans_3, ha, fun R K r hgo => ok_tlb_keep_api_Trans_3 F h2 K r hgo⟩
    ·
      split at ht
      · rename_i t2 h2
        obtain rfl := Option.some.inj ht
        exact ⟨code_tlb_keep_api_Trans_3a, ha, fun R K r hgo => ok_tlb_keep_api_Trans_3a F h2 K r hgo⟩
      ·
        split at ht
        · rename_i t2 h2
          obtain rfl := Option.some.inj ht
          exact ⟨code_tlb_keep_api_Trans_3b, ha, fun R K r hgo => ok_tlb_keep_api_Trans_3b F h2 K r hgo⟩
        ·
          split at ht
          · rename_i t2 h2
            obtain rfl := Option.some.inj ht
            exact ⟨code_tlb_keep_api_Trans_3c, ha, fun R K r hgo => ok_tlb_keep_api_Trans_3c F h2 K r hgo⟩
          ·
            exact ⟨code_tlb_keep_api_Trans_3d, ha, fun R K r hgo => ok_tlb_keep_api_Trans_3d F ht K r hgo⟩
  · have hfn' : Pg.funcs[98]? = some fn := hfn
    rw [fn_98] at hfn'
    obtain rfl := Option.some.inj hfn'
    have ha := at_ref25_Fill_3
    rw [hbody] at ha
    exact ⟨code_ref25_Fill_3, ha, fun R K r hgo => ok_ref25_Fill_3 F ht K r hgo⟩
  · have hfn' : Pg.funcs[99]? = some fn := hfn
    rw [fn_99] at hfn'
    obtain rfl := Option.some.inj hfn'
    have ha := at_ref25_Flush_3
    rw [hbody] at ha
    exact ⟨code_ref25_Flush_3, ha, fun R K r hgo => ok_ref25_Flush_3 F ht K r hgo⟩
  · have hfn' : Pg.funcs[100]? = some fn := hfn
    rw [fn_100] at hfn'
    obtain rfl := Option.some.inj hfn'
    have ha := at_ref25_Touch_3
    rw [hbody] at ha
    exact ⟨code_ref25_Touch_3, ha, fun R K r hgo => ok_ref25_Touch_3 F ht K r hgo⟩
  · have hfn' : Pg.funcs[101]? = some fn := hfn
    rw [fn_101] at hfn'
    obtain rfl := Option.some.inj hfn'
    have ha := at_ref25_Evict_3
    rw [hbody] at ha
    exact ⟨code_ref25_Evict_3, ha, fun R K r hgo => ok_ref25_Evict_3 F ht K r hgo⟩
  · have hfn' : Pg.funcs[103]? = some fn := hfn
    rw [fn_103] at hfn'
    obtain rfl := Option.some.inj hfn'
    have ha := at_ref25_same_4
    rw [hbody] at ha
    exact ⟨code_ref25_same_4, ha, fun R K r hgo => ok_ref25_same_4 F ht K r hgo⟩
  · have hfn' : Pg.funcs[121]? = some fn := hfn
    rw [fn_121] at hfn'
    obtain rfl := Option.some.inj hfn'
    have ha := at_memory_draft_put_1
    rw [hbody] at ha
    split at ht
    · rename_i t2 h2
      obtain rfl := Option.some.inj ht
      exact ⟨code_memory_draft_put_1, ha, fun R K r hgo => ok_memory_draft_put_1 F h2 K r hgo⟩
    ·
      exact ⟨code_memory_draft_put_1a, ha, fun R K r hgo => ok_memory_draft_put_1a F ht K r hgo⟩
  · have hfn' : Pg.funcs[123]? = some fn := hfn
    rw [fn_123] at hfn'
    obtain rfl := Option.some.inj hfn'
    have ha := at_ref06_Load_6
    rw [hbody] at ha
    exact ⟨code_ref06_Load_6, ha, fun R K r hgo => ok_ref06_Load_6 F ht K r hgo⟩
  · have hfn' : Pg.funcs[124]? = some fn := hfn
    rw [fn_124] at hfn'
    obtain rfl := Option.some.inj hfn'
    have ha := at_tlb_keep_int_3
    rw [hbody] at ha
    split at ht
    · rename_i t2 h2
      obtain rfl := Option.some.inj ht
      exact ⟨code_tlb_keep_int_3, ha, fun R K r hgo => ok_tlb_keep_int_3 F h2 K r hgo⟩
    ·
      exact ⟨code_tlb_keep_int_3a, ha, fun R K r hgo => ok_tlb_keep_int_3a F ht K r hgo⟩
  · have hfn' : Pg.funcs[126]? = some fn := hfn
    rw [fn_126] at hfn'
    obtain rfl := Option.some.inj hfn'
    have ha := at_ref25_reads_2
    rw [hbody] at ha
    exact ⟨code_ref25_reads_2, ha, fun R K r hgo => ok_ref25_reads_2 F ht K r hgo⟩
  · exact absurd ht (by simp)
theorem acts0 (F : Tab) : (cx F).Acts := Ctx.noActs fun _ _ _ _ => rfl
theorem news0 (F : Tab) : (cx F).News := Ctx.noNews fun _ _ _ _ => rfl
theorem loops (F : Tab) : (cx F).Loops := ⟨loops0 F, acts0 F, news0 F⟩
/-- What the functions return, calls k deep. -/
noncomputable abbrev D : Nat → Tab := Dt cx 6
theorem D_ok (k : Nat) : TabOK Pg (D k) := Dt_ok (P := Pg) (C := cx) (kn := kn) (fun _ => rfl) (fun _ => rfl) loops k
end Go.Proofs.Ytcknhfnbdgleiaa
