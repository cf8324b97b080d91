/-
  Cuts: calls' runs, by what they find and leave. Own text, written by a program of mine.
-/
import Derived.Test.YtmiepmpifjamoaaGreatDoorW14D0
set_option linter.all false
namespace Go.Proofs.Tk
open Go.Exo
set_option maxRecDepth 100000
noncomputable def cutSample : Cut where
  f := 9
  args := []
  nx := 16
  ins := []
  ord := []
  v := .agg [.int .i64 (0), .bool false, .bool false, .bool false, .slice 762 0 1 .none 2, .nils, .nils, .bool true, .bool false, .bool false, .int .i64 (14), .str 1 61, .int .i64 (0), .bool false, .int .i64 (0), .str 0 0, .nils, .nils, .nils, .slice 972 0 2 (.some 2) 11, .bool false, .int .i64 (0), .str 0 0, .int .i64 (0), .bool false, .int .i64 (0), .str 0 0, .nils, .nils, .nils, .nils, .bool false, .int .i64 (0), .str 0 0, .int .i64 (0), .bool false, .int .i64 (0), .str 0 0, .nils, .nils, .nils, .nils, .bool false, .int .i64 (0), .str 0 0, .int .i64 (0), .bool false, .int .i64 (0), .str 0 0, .nils, .nils, .nils, .nils, .bool false, .str 0 0, .nils, .nils]
  outs := [(507, cellsO [.str 1 65] 9 0 0 0 false),
    (527, cellsO [.str 1 107] 9 0 0 0 false),
    (668, cellsO [.int .i64 (0), .str 0 0, .int .i64 (2), .bool false, .int .i64 (1), .str 0 0, .nils, .nils, .nils, .nils, .bool false] 46 0 0 0 false),
    (728, cellsO [.str 1 114, .nils, .int .i64 (1), .bool false, .int .i64 (0), .str 0 0, .int .i64 (0), .bool false, .int .i64 (0), .str 0 0, .nils, .nils, .nils, .nils, .bool false] 191 0 0 0 false),
    (757, cellsO [.str 1 97, .slice 507 0 1 .none 1, .bool true, .int .i64 (6), .str 0 0, .int .i64 (0), .bool false, .int .i64 (0), .str 0 0, .nils, .nils, .slice 527 0 1 .none 1, .slice 668 0 1 .none 11, .bool false, .str 1 98, .nils, .bool false, .int .i64 (0), .str 0 0, .int .i64 (0), .bool false, .int .i64 (0), .str 0 0, .nils, .nils, .nils, .nils, .bool false] 108 0 0 0 false),
    (762, cellsO [.slice 757 0 2 .none 14, .slice 728 0 1 .none 15] 106 0 0 0 false),
    (890, cellsO [.int .i64 (2), .str 1 98, .int .i64 (0), .bool false, .int .i64 (0), .str 0 0, .nils, .nils, .nils, .nils, .bool false] 46 0 0 0 false),
    (972, cellsO [.int .i64 (3), .str 1 120, .int .i64 (0), .bool false, .int .i64 (0), .str 0 0, .nils, .nils, .nils, .slice 890 0 1 (.some 1) 11, .bool false, .int .i64 (0), .str 0 0, .int .i64 (2), .bool false, .int .i64 (2), .str 0 0, .nils, .nils, .nils, .nils, .bool false] 46 0 0 0 false)]
  nx' := 1264

end Go.Proofs.Tk
