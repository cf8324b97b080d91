/-
  What some texts' expressions are worth, by the abstract machine. Own text, written by mk07.py.
-/
import Derived.Test.YtpmaoblgedacfaaGreatDoorTryzBase
set_option linter.all false
namespace Go.Proofs.Tk
open Go.Exo
def text4 : List V := [.str 8 7310875413187338289]
def answer4 : V := .tup [.agg [.int .i64 0, .bool false, .int .i64 0, .str 0 0, .nils, .nils], .int .i64 171]
theorem run4 : comesTo Tryz.prog (hkIndex 223) 9 text4 16 100000 answer4 = true := by kernel_rfl
theorem worth4 : Answers Tryz.prog Base 9 text4 answer4 :=
  answers run4 hooksIndex base_gd (by rw [globals9]; decide) (by rw [globals9]; decide) (by kernel_rfl) (by kernel_rfl)
def text5 : List V := [.str 5 206698389553]
def answer5 : V := .tup [.agg [.int .i64 0, .bool false, .int .i64 0, .str 0 0, .nils, .nils], .int .i64 121]
theorem run5 : comesTo Tryz.prog (hkIndex 223) 9 text5 16 100000 answer5 = true := by kernel_rfl
theorem worth5 : Answers Tryz.prog Base 9 text5 answer5 :=
  answers run5 hooksIndex base_gd (by rw [globals9]; decide) (by rw [globals9]; decide) (by kernel_rfl) (by kernel_rfl)
end Go.Proofs.Tk
