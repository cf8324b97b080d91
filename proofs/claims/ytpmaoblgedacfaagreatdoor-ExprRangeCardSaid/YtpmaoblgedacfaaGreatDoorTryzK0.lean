/-
  What some texts' expressions are worth, by the abstract machine. Own text, written by mk07.py.
-/
import Derived.Test.YtpmaoblgedacfaaGreatDoorTryzBase
set_option linter.all false
namespace Go.Proofs.Tk
open Go.Exo
def text0 : List V := [.str 9 943101648117082824753]
def answer0 : V := .tup [.agg [.int .i64 2, .bool false, .int .i64 7, .str 0 0, .nils, .nils], .int .i64 0]
theorem run0 : comesTo Tryz.prog (hkIndex 223) 9 text0 16 100000 answer0 = true := by kernel_rfl
theorem worth0 : Answers Tryz.prog Base 9 text0 answer0 :=
  answers run0 hooksIndex base_gd (by rw [globals9]; decide) (by rw [globals9]; decide) (by kernel_rfl) (by kernel_rfl)
def text1 : List V := [.str 10 440087241674913229844827]
def answer1 : V := .tup [.agg [.int .i64 2, .bool false, .int .i64 2, .str 0 0, .nils, .nils], .int .i64 0]
theorem run1 : comesTo Tryz.prog (hkIndex 223) 9 text1 16 100000 answer1 = true := by kernel_rfl
theorem worth1 : Answers Tryz.prog Base 9 text1 answer1 :=
  answers run1 hooksIndex base_gd (by rw [globals9]; decide) (by rw [globals9]; decide) (by kernel_rfl) (by kernel_rfl)
end Go.Proofs.Tk
