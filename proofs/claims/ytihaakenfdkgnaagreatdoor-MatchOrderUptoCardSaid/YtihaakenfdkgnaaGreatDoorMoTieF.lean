/-
  The program's tie, each closed fact by itself. Own text.
-/
import Derived.Test.YtihaakenfdkgnaaGreatDoorRows
import Derived.LaidByTextLater
import Derived.SevenTiedAt
set_option linter.all false
noncomputable section
namespace Go.Proofs.YtihaakenfdkgnaaGreatDoor
open Go
set_option maxRecDepth 100000
theorem dC:Tryz.pinned.checked.prog.pinnedFits "unicode/utf8.first" = true:=by kernel_rfl
theorem dD:Tryz.pinned.checked.prog.pinnedFits "unicode.CaseRanges" = true:=by kernel_rfl
theorem wl:Tryz.pinned.checked.prog.headLifts.contains "ownunsafe" = false:=by kernel_rfl
theorem fits1:Tryz.pinned.checked.prog.listedFits [("unicode/utf8.first",Rows.laid_unicode_utf8_first),("unicode/utf8.acceptRanges",Rows.laid_unicode_utf8_acceptRanges),("unicode.CaseRanges",Rows.laid_unicode_CaseRanges),("strconv.ErrSyntax",Rows.laid_strconv_ErrSyntax),("strconv.ErrRange",Rows.laid_strconv_ErrRange),("internal/strconv.uint64pow10",Rows.laid_internal_strconv_uint64pow10),("math/bits.deBruijn32tab",Rows.laid_math_bits_deBruijn32tab),("math/bits.deBruijn64tab",Rows.laid_math_bits_deBruijn64tab)]=true:=by
 unfold Program.listedFits;rw[wl];kernel_rfl
end Go.Proofs.YtihaakenfdkgnaaGreatDoor
end
