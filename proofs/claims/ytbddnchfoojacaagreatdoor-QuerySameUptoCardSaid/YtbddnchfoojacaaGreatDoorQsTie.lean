/-
  The program's tie, each closed fact by itself. Own text.
-/
import Derived.Test.YtbddnchfoojacaaGreatDoorRows
import Derived.LaidByTextLater
import Derived.SevenTiedAt
import Derived.Test.YtbddnchfoojacaaGreatDoorQsTie1
import Derived.Test.YtbddnchfoojacaaGreatDoorQsTieD
import Derived.Test.YtbddnchfoojacaaGreatDoorQsTieE
import Derived.Test.YtbddnchfoojacaaGreatDoorQsTieF
set_option linter.all false
namespace Go.Proofs.YtbddnchfoojacaaGreatDoor
open Go
set_option maxRecDepth 100000
theorem tie:Tryz.prog.laidByTextLater [("unicode/utf8.acceptRanges",Rows.laid_unicode_utf8_acceptRanges),("strconv.ErrSyntax",Rows.laid_strconv_ErrSyntax),("strconv.ErrRange",Rows.laid_strconv_ErrRange),("internal/strconv.uint64pow10",Rows.laid_internal_strconv_uint64pow10),("math/bits.deBruijn32tab",Rows.laid_math_bits_deBruijn32tab),("math/bits.deBruijn64tab",Rows.laid_math_bits_deBruijn64tab)] [.data,.sentinel,.sentinel,.data,.data,.data] true:=
 Program.laidByTextLater_of_run 681 400 8 ti0 ti1 ti2 ti3 tiG ti6 ti7 ti8 ti9
theorem querySame_row_tie:Rows.querySameRow.laidByTextAt .later Tryz.pinned [.pinned,.data,.pinned,.sentinel,.sentinel,.data,.data,.data] true:=
 OpenClaim.laidByTextAt_pinned rfl rfl tie rfl rfl rfl rfl (fun y hy _e=>by
  simp only[Rows.querySameRow,List.zip_cons_cons,List.zip_nil_right,List.mem_cons,List.mem_nil_iff,or_false] at hy
  rcases hy with rfl|rfl|rfl|rfl|rfl|rfl|rfl|rfl
  ·exact⟨pin_laid_unicode_utf8_first,by kernel_rfl⟩
  ·cases _e
  ·exact⟨pin_laid_unicode_CaseRanges,by kernel_rfl⟩
  ·cases _e
  ·cases _e
  ·cases _e
  ·cases _e
  ·cases _e) fits1
theorem querySameUpto_row_tie:Rows.querySameUptoRow.laidByTextAt .later Tryz.pinned [.pinned,.data,.pinned,.sentinel,.sentinel,.data,.data,.data] true:=
 OpenClaim.laidByTextAt_pinned rfl rfl tie rfl rfl rfl rfl (fun y hy _e=>by
  simp only[Rows.querySameUptoRow,List.zip_cons_cons,List.zip_nil_right,List.mem_cons,List.mem_nil_iff,or_false] at hy
  rcases hy with rfl|rfl|rfl|rfl|rfl|rfl|rfl|rfl
  ·exact⟨pin_laid_unicode_utf8_first,by kernel_rfl⟩
  ·cases _e
  ·exact⟨pin_laid_unicode_CaseRanges,by kernel_rfl⟩
  ·cases _e
  ·cases _e
  ·cases _e
  ·cases _e
  ·cases _e) fits1
end Go.Proofs.YtbddnchfoojacaaGreatDoor
