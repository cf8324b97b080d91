/-
  The chapter's rows stand: known() of layer 7 answers true. Own text, written by mk07.py.
-/
import Derived.Test.YtpmaoblgedacfaaGreatDoorTryzK0
import Derived.Test.YtpmaoblgedacfaaGreatDoorTryzK1
import Derived.Test.YtpmaoblgedacfaaGreatDoorTryzK2
import Derived.Test.YtpmaoblgedacfaaGreatDoorTryzK3
set_option linter.all false
namespace Go.Proofs.Tk
open Go.Exo
noncomputable def hookWorth : Hook := (hkAdd 9 text7 answer7 (hkAdd 9 text6 answer6 (hkAdd 9 text5 answer5 (hkAdd 9 text4 answer4 (hkAdd 9 text3 answer3 (hkAdd 9 text2 answer2 (hkAdd 9 text1 answer1 (hkAdd 9 text0 answer0 (fun _ _ _ _ => none)))))))))
theorem hookWorth_ok : Hooks Tryz.prog 9 Base hookWorth := ((((((((Hooks.nil.add base_gd worth0 (by kernel_rfl) (by kernel_rfl)).add base_gd worth1 (by kernel_rfl) (by kernel_rfl)).add base_gd worth2 (by kernel_rfl) (by kernel_rfl)).add base_gd worth3 (by kernel_rfl) (by kernel_rfl)).add base_gd worth4 (by kernel_rfl) (by kernel_rfl)).add base_gd worth5 (by kernel_rfl) (by kernel_rfl)).add base_gd worth6 (by kernel_rfl) (by kernel_rfl)).add base_gd worth7 (by kernel_rfl) (by kernel_rfl))
theorem runKnown : comesTo Tryz.prog hookWorth 6 [] 16 10000 (.bool true) = true := by kernel_rfl
theorem known : Answers Tryz.prog Base 6 [] (.bool true) :=
  answers runKnown hookWorth_ok base_gd (by rw [globals9]; decide) (by rw [globals9]; decide) (by kernel_rfl) (by kernel_rfl)
end Go.Proofs.Tk
