/- Closed facts of the program's ties, one by one. -/
import Derived.Test.YtkjdlganghbgaaaGreatDoorRows
import Derived.LaidByTextLater
import Derived.SevenTiedAt
namespace Go.Proofs.YtkjdlganghbgaaaGreatDoor
open Go
def tiedL : List (String × DataW Unit) := [("unicode/utf8.acceptRanges", Rows.laid_unicode_utf8_acceptRanges), ("strconv.ErrSyntax", Rows.laid_strconv_ErrSyntax), ("strconv.ErrRange", Rows.laid_strconv_ErrRange), ("internal/strconv.uint64pow10", Rows.laid_internal_strconv_uint64pow10), ("math/bits.deBruijn32tab", Rows.laid_math_bits_deBruijn32tab), ("math/bits.deBruijn64tab", Rows.laid_math_bits_deBruijn64tab)]
theorem tv : varsId Tryz.prog = 706 := by kernel_rfl
theorem thp : (tiedL.all fun x => x.2.handleName?.isNone) = true := by kernel_rfl
end Go.Proofs.YtkjdlganghbgaaaGreatDoor
