/-
  The program's tie, each closed fact by itself. Own text.
-/
import Derived.Test.YtihaakenfdkgnaaGreatDoorRows
import Derived.LaidByTextLater
import Derived.SevenTiedAt
set_option linter.all false
noncomputable section
namespace Go.Proofs.YtihaakenfdkgnaaGreatDoor
open Go
set_option maxRecDepth 100000
def laidL:List (String×DataW Unit):=[("unicode/utf8.acceptRanges",Rows.laid_unicode_utf8_acceptRanges),("strconv.ErrSyntax",Rows.laid_strconv_ErrSyntax),("strconv.ErrRange",Rows.laid_strconv_ErrRange),("internal/strconv.uint64pow10",Rows.laid_internal_strconv_uint64pow10),("math/bits.deBruijn32tab",Rows.laid_math_bits_deBruijn32tab),("math/bits.deBruijn64tab",Rows.laid_math_bits_deBruijn64tab)]
theorem ti0:Tryz.prog.worded (varsWordLater true)=true:=by kernel_rfl
theorem ti1:Tryz.prog.worded (varsWordLater !true)=false:=by kernel_rfl
theorem ti2:Tryz.prog.worded rootWordLater=true:=by kernel_rfl
theorem ti3:([("unicode/utf8.acceptRanges",Rows.laid_unicode_utf8_acceptRanges),("strconv.ErrSyntax",Rows.laid_strconv_ErrSyntax),("strconv.ErrRange",Rows.laid_strconv_ErrRange),("internal/strconv.uint64pow10",Rows.laid_internal_strconv_uint64pow10),("math/bits.deBruijn32tab",Rows.laid_math_bits_deBruijn32tab),("math/bits.deBruijn64tab",Rows.laid_math_bits_deBruijn64tab)]:List (String×DataW Unit)).map (fun x=>Tryz.prog.kindOfLater x.1)=([.data,.sentinel,.sentinel,.data,.data,.data]:List LaidKind).map some:=by kernel_rfl
end Go.Proofs.YtihaakenfdkgnaaGreatDoor
end
