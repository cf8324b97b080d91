/-
  What some texts' expressions are worth, by the abstract machine. Own text, written by mk07.py.
-/
import Derived.Test.YtpmaoblgedacfaaGreatDoorTryzBase
set_option linter.all false
namespace Go.Proofs.Tk
open Go.Exo
def text2 : List V := [.str 14 1894854301036581291700333327228977]
def answer2 : V := .tup [.agg [.int .i64 0, .bool false, .int .i64 0, .str 0 0, .nils, .nils], .int .i64 0]
theorem run2 : comesTo Tryz.prog (hkIndex 223) 9 text2 16 100000 answer2 = true := by kernel_rfl
theorem worth2 : Answers Tryz.prog Base 9 text2 answer2 :=
  answers run2 hooksIndex base_gd (by rw [globals9]; decide) (by rw [globals9]; decide) (by kernel_rfl) (by kernel_rfl)
def text3 : List V := [.str 33 7909264604981744718411880684871332208161474250037757672217406728510957673464131]
def answer3 : V := .tup [.agg [.int .i64 2, .bool false, .int .i64 2, .str 0 0, .nils, .nils], .int .i64 0]
theorem run3 : comesTo Tryz.prog (hkIndex 223) 9 text3 16 100000 answer3 = true := by kernel_rfl
theorem worth3 : Answers Tryz.prog Base 9 text3 answer3 :=
  answers run3 hooksIndex base_gd (by rw [globals9]; decide) (by rw [globals9]; decide) (by kernel_rfl) (by kernel_rfl)
end Go.Proofs.Tk
