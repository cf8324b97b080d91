/-
  What some texts' expressions are worth, by the abstract machine. Own text, written by mk07.py.
-/
import Derived.Test.YtpmaoblgedacfaaGreatDoorTryzBase
set_option linter.all false
namespace Go.Proofs.Tk
open Go.Exo
def text6 : List V := [.str 1 120]
def answer6 : V := .tup [.agg [.int .i64 0, .bool false, .int .i64 0, .str 0 0, .nils, .nils], .int .i64 160]
theorem run6 : comesTo Tryz.prog (hkIndex 223) 9 text6 16 100000 answer6 = true := by kernel_rfl
theorem worth6 : Answers Tryz.prog Base 9 text6 answer6 :=
  answers run6 hooksIndex base_gd (by rw [globals9]; decide) (by rw [globals9]; decide) (by kernel_rfl) (by kernel_rfl)
def text7 : List V := [.str 17 14019534726059211283801702021986177347427]
def answer7 : V := .tup [.agg [.int .i64 2, .bool false, .int .i64 3, .str 0 0, .nils, .nils], .int .i64 0]
theorem run7 : comesTo Tryz.prog (hkIndex 223) 9 text7 16 100000 answer7 = true := by kernel_rfl
theorem worth7 : Answers Tryz.prog Base 9 text7 answer7 :=
  answers run7 hooksIndex base_gd (by rw [globals9]; decide) (by rw [globals9]; decide) (by kernel_rfl) (by kernel_rfl)
end Go.Proofs.Tk
