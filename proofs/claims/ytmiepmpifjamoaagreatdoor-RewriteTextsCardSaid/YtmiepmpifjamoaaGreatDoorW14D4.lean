/-
  Cuts: calls' runs, by what they find and leave. Own text, written by a program of mine.
-/
import Derived.Test.YtmiepmpifjamoaaGreatDoorW14D3
set_option linter.all false
namespace Go.Proofs.Tk
open Go.Exo
set_option maxRecDepth 100000
noncomputable def cutSharp : Cut where
  f := 12
  args := [.agg [.int .i64 (0), .bool false, .bool false, .bool false, .slice 762 0 1 .none 2, .nils, .nils, .bool true, .bool false, .bool false, .int .i64 (14), .str 1 61, .int .i64 (0), .bool false, .int .i64 (0), .str 0 0, .nils, .nils, .nils, .slice 972 0 2 (.some 2) 11, .bool false, .int .i64 (0), .str 0 0, .int .i64 (0), .bool false, .int .i64 (0), .str 0 0, .nils, .nils, .nils, .nils, .bool false, .int .i64 (0), .str 0 0, .int .i64 (0), .bool false, .int .i64 (0), .str 0 0, .nils, .nils, .nils, .nils, .bool false, .int .i64 (0), .str 0 0, .int .i64 (0), .bool false, .int .i64 (0), .str 0 0, .nils, .nils, .nils, .nils, .bool false, .str 0 0, .nils, .nils], .nils, .slice 1265 0 3 (.some 3) 7]
  nx := 3708
  ins := [(507, cellsO [.str 1 65] 9 0 0 0 true),
    (527, cellsO [.str 1 107] 9 0 0 0 true),
    (668, cellsO [.int .i64 (0), .str 0 0, .int .i64 (2), .bool false, .int .i64 (1), .str 0 0, .nils, .nils, .nils, .nils, .bool false] 46 0 0 0 true),
    (728, cellsO [.str 1 114, .nils, .int .i64 (1), .bool false, .int .i64 (0), .str 0 0, .int .i64 (0), .bool false, .int .i64 (0), .str 0 0, .nils, .nils, .nils, .nils, .bool false] 191 0 0 0 true),
    (757, cellsO [.str 1 97, .slice 507 0 1 .none 1, .bool true, .int .i64 (6), .str 0 0, .int .i64 (0), .bool false, .int .i64 (0), .str 0 0, .nils, .nils, .slice 527 0 1 .none 1, .slice 668 0 1 .none 11, .bool false, .str 1 98, .nils, .bool false, .int .i64 (0), .str 0 0, .int .i64 (0), .bool false, .int .i64 (0), .str 0 0, .nils, .nils, .nils, .nils, .bool false] 108 0 0 0 true),
    (762, cellsO [.slice 757 0 2 .none 14, .slice 728 0 1 .none 15] 106 0 0 0 true),
    (890, cellsO [.int .i64 (2), .str 1 98, .int .i64 (0), .bool false, .int .i64 (0), .str 0 0, .nils, .nils, .nils, .nils, .bool false] 46 0 0 0 true),
    (972, cellsO [.int .i64 (3), .str 1 120, .int .i64 (0), .bool false, .int .i64 (0), .str 0 0, .nils, .nils, .nils, .slice 890 0 1 (.some 1) 11, .bool false, .int .i64 (0), .str 0 0, .int .i64 (2), .bool false, .int .i64 (2), .str 0 0, .nils, .nils, .nils, .nils, .bool false] 46 0 0 0 true),
    (1265, cellsO [.int .i64 (0), .int .i64 (0), .int .i64 (0), .bool false, .str 0 0, .str 0 0, .int .i64 (0), .int .i64 (4), .int .i64 (0), .int .i64 (0), .bool false, .str 0 0, .str 0 0, .int .i64 (0), .int .i64 (5), .int .i64 (0), .int .i64 (0), .bool false, .str 0 0, .str 0 0, .int .i64 (0)] 25 0 0 0 true)]
  ord := [762, 972, 1265, 757, 728, 890, 507, 527, 668]
  v := .tup [.slice 4257 0 3 .none 7, .int .i64 (0)]
  outs := [(4255, .cls 4257 (.some 0) 21),
    (4257, cellsO [.int .i64 (2), .int .i64 (0), .int .i64 (0), .bool false, .str 1 65, .str 1 107, .int .i64 (0), .int .i64 (4), .int .i64 (0), .int .i64 (0), .bool false, .str 0 0, .str 0 0, .int .i64 (0), .int .i64 (5), .int .i64 (0), .int .i64 (0), .bool false, .str 0 0, .str 0 0, .int .i64 (0)] 25 4255 0 2 false)]
  nx' := 4740

end Go.Proofs.Tk
