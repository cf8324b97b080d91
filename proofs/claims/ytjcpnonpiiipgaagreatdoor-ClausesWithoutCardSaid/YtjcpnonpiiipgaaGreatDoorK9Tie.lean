/-
  The program's tie, each closed fact by itself. Own text.
-/
import Derived.Test.YtjcpnonpiiipgaaGreatDoorRows
import Derived.LaidByTextLater
import Derived.SevenTiedAt
import Derived.Test.YtjcpnonpiiipgaaGreatDoorK9TieB
import Derived.Test.YtjcpnonpiiipgaaGreatDoorK9TieC
import Derived.Test.YtjcpnonpiiipgaaGreatDoorK9TieD
import Derived.Test.YtjcpnonpiiipgaaGreatDoorK9TieE
import Derived.Test.YtjcpnonpiiipgaaGreatDoorK9TieF
set_option linter.all false
namespace Go.Proofs.YtjcpnonpiiipgaaGreatDoor
open Go
set_option maxRecDepth 100000
theorem tie:Tryz.prog.laidByTextLater [("unicode/utf8.acceptRanges",Rows.laid_unicode_utf8_acceptRanges),("strconv.ErrSyntax",Rows.laid_strconv_ErrSyntax),("strconv.ErrRange",Rows.laid_strconv_ErrRange),("internal/strconv.uint64pow10",Rows.laid_internal_strconv_uint64pow10),("math/bits.deBruijn32tab",Rows.laid_math_bits_deBruijn32tab),("math/bits.deBruijn64tab",Rows.laid_math_bits_deBruijn64tab)] [.data,.sentinel,.sentinel,.data,.data,.data] true:=
 Program.laidByTextLater_of_run 662 400 8 ti0 ti1 ti2 ti3 tiG ti6 ti7 ti8 ti9
theorem clausesWithout_row_tie:Rows.clausesWithoutRow.laidByTextAt .later Tryz.pinned [.pinned,.data,.pinned,.sentinel,.sentinel,.data,.data,.data] true:=
 OpenClaim.laidByTextAt_pinned rfl rfl tie rfl rfl rfl rfl (fun y hy _e=>by
  simp only[Rows.clausesWithoutRow,List.zip_cons_cons,List.zip_nil_right,List.mem_cons,List.mem_nil_iff,or_false] at hy
  rcases hy with rfl|rfl|rfl|rfl|rfl|rfl|rfl|rfl
  ·exact⟨pin_laid_unicode_utf8_first,by kernel_rfl⟩
  ·cases _e
  ·exact⟨pin_laid_unicode_CaseRanges,by kernel_rfl⟩
  ·cases _e
  ·cases _e
  ·cases _e
  ·cases _e
  ·cases _e) fits1
end Go.Proofs.YtjcpnonpiiipgaaGreatDoor
