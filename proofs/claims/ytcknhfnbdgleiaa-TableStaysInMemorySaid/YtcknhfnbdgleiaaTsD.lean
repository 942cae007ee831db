/- All that is said of loops is so; the functions' table. (Printed by a program of mine, gen.py.) -/
import Derived.Test.YtcknhfnbdgleiaaTsL0
set_option linter.unusedVariables false
set_option linter.unusedSimpArgs false
namespace Go.Proofs.Ytcknhfnbdgleiaa.S2
open Go.AE

theorem fn_4 : Pg.funcs[4]? = some Try.f4 := by kernel_rfl
set_option maxRecDepth 100000 in
theorem loops0 (F : Tab) : (cx F).Loops0 := by
  intro dep f id fr M t ht fn body hfn hbody
  simp only [cx] at ht
  split at ht
  · have hfn' : Pg.funcs[4]? = some fn := hfn
    rw [fn_4] at hfn'
    obtain rfl := Option.some.inj hfn'
    have ha := at_law10_TableStaysInMemory_13
    rw [hbody] at ha
    exact ⟨code_law10_TableStaysInMemory_13, ha, fun R K r hgo => ok_law10_TableStaysInMemory_13 F ht K r hgo⟩
  · exact absurd ht (by simp)
theorem acts0 (F : Tab) : (cx F).Acts := Ctx.noActs fun _ _ _ _ => rfl
theorem news0 (F : Tab) : (cx F).News := Ctx.noNews fun _ _ _ _ => rfl
theorem loops (F : Tab) : (cx F).Loops := ⟨loops0 F, acts0 F, news0 F⟩
/-- What the functions return, over the other table. -/
noncomputable abbrev E (k : Nat) : Tab := fun f args => fnV (cx (D k)) 6 f args
theorem tab_gen {P : Program} {x : Ctx} {kn : List FuncId} {F : Tab} (hP : x.P = P) (hs : x.spec = specT P kn F) (hL : x.Loops) (hF : TabOK P F) : TabOK P (fun f args => fnV x 6 f args) := fun f args v e => by
  have hg : x.Good := specT_good (by rw [hs, hP]) (by rw [hP]; exact hF)
  have := fnV_sound hg hL e
  rwa [hP] at this
theorem P_of (F : Tab) : (cx F).P = Pg := rfl
theorem spec_of (F : Tab) : (cx F).spec = specT Pg kn F := rfl
theorem E_of (F : Tab) (h : TabOK Pg F) : TabOK Pg (fun f args => fnV (cx F) 6 f args) := tab_gen (P_of F) (spec_of F) (loops F) h
theorem E_ok (k : Nat) : TabOK Pg (E k) := E_of (D k) (D_ok k)
end Go.Proofs.Ytcknhfnbdgleiaa.S2
