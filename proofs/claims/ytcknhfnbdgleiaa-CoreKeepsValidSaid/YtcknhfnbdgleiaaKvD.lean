/- All that is said of loops is so; the functions' table. (Printed by a program of mine, gen.py.) -/
import Derived.Test.YtcknhfnbdgleiaaKvL0
set_option linter.unusedVariables false
set_option linter.unusedSimpArgs false
namespace Go.Proofs.Ytcknhfnbdgleiaa.Keeps
open Go.AE

theorem fn_15 : Pg.funcs[15]? = some Try.f15 := by kernel_rfl
set_option maxRecDepth 100000 in
theorem M8 (F : Tab) : (cx F).M7 := by
 intro dep f id fr M t ht fn body hfn hbody
 simp only [cx] at ht
 split at ht
 · have hfn' : Pg.funcs[15]? = some fn := hfn
   rw [fn_15] at hfn'
   obtain rfl := Option.some.inj hfn'
   have ha := pR
   rw [hbody] at ha
   exact ⟨aF, ha, fun R K r hgo => pF F ht K r hgo⟩
 · exact absurd ht (by simp)
theorem Q7 (F : Tab) : (cx F).Acts := Ctx.noActs fun _ _ _ _ => rfl
theorem Qv (F : Tab) : (cx F).News := Ctx.noNews fun _ _ _ _ => rfl
theorem loops (F : Tab) : (cx F).Loops := ⟨M8 F, Q7 F, Qv F⟩
/-- What the functions return, over the other table. -/
noncomputable abbrev E (k : Nat) : Tab := fun f args => fnV (cx (D k)) 6 f args
theorem Qw {P : Program} {x : Ctx} {kn : List FuncId} {F : Tab} (hP : x.P = P) (hs : x.spec = I4 P kn F) (hL : x.Loops) (hF : Iy P F) : Iy P (fun f args => fnV x 6 f args) := fun f args v e => by
 have hg : x.Good := DU (by rw [hs, hP]) (by rw [hP]; exact hF)
 have := Gz hg hL e
 rwa [hP] at this
theorem P_of (F : Tab) : (cx F).P = Pg := rfl
theorem QW (F : Tab) : (cx F).spec = I4 Pg kn F := rfl
theorem E_of (F : Tab) (h : Iy Pg F) : Iy Pg (fun f args => fnV (cx F) 6 f args) := Qw (P_of F) (QW F) (loops F) h
theorem E_ok (k : Nat) : Iy Pg (E k) := E_of (D k) (D_ok k)
end Go.Proofs.Ytcknhfnbdgleiaa.Keeps
