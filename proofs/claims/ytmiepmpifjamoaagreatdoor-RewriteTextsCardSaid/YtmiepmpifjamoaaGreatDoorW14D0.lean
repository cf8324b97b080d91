/-
  Cuts: calls' runs, by what they find and leave. Own text, written by a program of mine.
-/
import Derived.Test.YtmiepmpifjamoaaGreatDoorExo8
set_option linter.all false
namespace Go.Proofs.Tk
open Go.Exo
set_option maxRecDepth 100000
noncomputable def cutLex : Cut where
  f := 52
  args := [.str 50 979703536866920411910538894672300719793441543536555732880345022145552960480135017314508120802026738580027421949139632461]
  nx := 301
  ins := []
  ord := []
  v := .tup [.slice 462 0 28 .none 4, .int .i64 (0), .int .i64 (0)]
  outs := [(315, .cls 462 .none 112),
    (462, cellsO [.int .i64 (1), .int .i64 (0), .str 5 310367240525, .int .u64 (0), .int .i64 (5), .int .i64 (6), .str 1 40, .int .u64 (0), .int .i64 (1), .int .i64 (7), .str 1 97, .int .u64 (0), .int .i64 (5), .int .i64 (8), .str 1 58, .int .u64 (0), .int .i64 (1), .int .i64 (9), .str 1 65, .int .u64 (0), .int .i64 (5), .int .i64 (11), .str 1 123, .int .u64 (0), .int .i64 (1), .int .i64 (12), .str 1 107, .int .u64 (0), .int .i64 (5), .int .i64 (13), .str 1 58, .int .u64 (0), .int .i64 (4), .int .i64 (15), .str 0 0, .int .u64 (1), .int .i64 (5), .int .i64 (16), .str 1 125, .int .u64 (0), .int .i64 (5), .int .i64 (17), .str 1 41, .int .u64 (0), .int .i64 (5), .int .i64 (18), .str 1 45, .int .u64 (0), .int .i64 (5), .int .i64 (19), .str 1 91, .int .u64 (0), .int .i64 (1), .int .i64 (20), .str 1 114, .int .u64 (0), .int .i64 (5), .int .i64 (21), .str 1 93, .int .u64 (0), .int .i64 (5), .int .i64 (22), .str 1 45, .int .u64 (0), .int .i64 (5), .int .i64 (23), .str 1 62, .int .u64 (0), .int .i64 (5), .int .i64 (24), .str 1 40, .int .u64 (0), .int .i64 (1), .int .i64 (25), .str 1 98, .int .u64 (0), .int .i64 (5), .int .i64 (26), .str 1 41, .int .u64 (0), .int .i64 (1), .int .i64 (28), .str 5 297733015639, .int .u64 (0), .int .i64 (1), .int .i64 (34), .str 1 98, .int .u64 (0), .int .i64 (5), .int .i64 (35), .str 1 46, .int .u64 (0), .int .i64 (1), .int .i64 (36), .str 1 120, .int .u64 (0), .int .i64 (5), .int .i64 (38), .str 1 61, .int .u64 (0), .int .i64 (4), .int .i64 (40), .str 0 0, .int .u64 (2), .int .i64 (1), .int .i64 (42), .str 6 86115525870930, .int .u64 (0), .int .i64 (1), .int .i64 (49), .str 1 97, .int .u64 (0)] 133 315 0 2 false)]
  nx' := 463

end Go.Proofs.Tk
