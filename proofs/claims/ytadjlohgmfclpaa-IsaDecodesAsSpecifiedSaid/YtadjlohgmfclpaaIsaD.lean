/- All that is said of loops is so; the functions' table. (Printed by a program of mine, gen.py.) -/
import Derived.Test.YtadjlohgmfclpaaIsaL0
set_option linter.unusedVariables false
set_option linter.unusedSimpArgs false
namespace Go.Proofs.Ytadjlohgmfclpaa
open Go.AE

theorem fn_6 : Pg.funcs[6]? = some Try.f6 := by kernel_rfl
theorem fn_7 : Pg.funcs[7]? = some Try.f7 := by kernel_rfl
theorem fn_16 : Pg.funcs[16]? = some Try.f16 := by kernel_rfl
theorem fn_17 : Pg.funcs[17]? = some Try.f17 := by kernel_rfl
theorem fn_18 : Pg.funcs[18]? = some Try.f18 := by kernel_rfl
theorem fn_25 : Pg.funcs[25]? = some Try.f25 := by kernel_rfl
theorem fn_32 : Pg.funcs[32]? = some Try.f32 := by kernel_rfl
set_option maxRecDepth 100000 in
theorem loops (F : Tab) : (cx F).Loops := by
  intro dep f id fr M t ht fn body hfn hbody
  simp only [cx] at ht
  split at ht
  · have hfn' : Pg.funcs[6]? = some fn := hfn
    rw [fn_6] at hfn'
    obtain rfl := Option.some.inj hfn'
    have ha := at_law04_IsaNamesAreOneToOne_5
    rw [hbody] at ha
    exact ⟨code_law04_IsaNamesAreOneToOne_5, ha, fun R K r hgo => ok_law04_IsaNamesAreOneToOne_5 F ht K r hgo⟩
  · have hfn' : Pg.funcs[7]? = some fn := hfn
    rw [fn_7] at hfn'
    obtain rfl := Option.some.inj hfn'
    have ha := at_law04_IsaTargetsTurnBack_5
    rw [hbody] at ha
    exact ⟨code_law04_IsaTargetsTurnBack_5, ha, fun R K r hgo => ok_law04_IsaTargetsTurnBack_5 F ht K r hgo⟩
  · have hfn' : Pg.funcs[16]? = some fn := hfn
    rw [fn_16] at hfn'
    obtain rfl := Option.some.inj hfn'
    have ha := at_ref04_Same_4
    rw [hbody] at ha
    exact ⟨code_ref04_Same_4, ha, fun R K r hgo => ok_ref04_Same_4 F ht K r hgo⟩
  · have hfn' : Pg.funcs[17]? = some fn := hfn
    rw [fn_17] at hfn'
    obtain rfl := Option.some.inj hfn'
    have ha := at_isa_Reads_10
    rw [hbody] at ha
    exact ⟨code_isa_Reads_10, ha, fun R K r hgo => ok_isa_Reads_10 F ht K r hgo⟩
  · have hfn' : Pg.funcs[18]? = some fn := hfn
    rw [fn_18] at hfn'
    obtain rfl := Option.some.inj hfn'
    have ha := at_ref04_Reads_5
    rw [hbody] at ha
    exact ⟨code_ref04_Reads_5, ha, fun R K r hgo => ok_ref04_Reads_5 F ht K r hgo⟩
  · have hfn' : Pg.funcs[25]? = some fn := hfn
    rw [fn_25] at hfn'
    obtain rfl := Option.some.inj hfn'
    have ha := at_isa_Find_2
    rw [hbody] at ha
    exact ⟨code_isa_Find_2, ha, fun R K r hgo => ok_isa_Find_2 F ht K r hgo⟩
  · have hfn' : Pg.funcs[32]? = some fn := hfn
    rw [fn_32] at hfn'
    obtain rfl := Option.some.inj hfn'
    have ha := at_ref04_Find_3
    rw [hbody] at ha
    exact ⟨code_ref04_Find_3, ha, fun R K r hgo => ok_ref04_Find_3 F ht K r hgo⟩
  · exact absurd ht (by simp)
/-- What the functions return, calls k deep. -/
noncomputable abbrev D : Nat → Tab := Dt cx 6
theorem D_ok (k : Nat) : TabOK Pg (D k) := Dt_ok (P := Pg) (C := cx) (kn := kn) (fun _ => rfl) (fun _ => rfl) loops k
end Go.Proofs.Ytadjlohgmfclpaa
