/-
  The listed variables of a row, but for the pinned one.
-/
import Derived.Test.YtcpihdljjckecaaGreatDoorRows
import Derived.LaidByTextLater
namespace Go.Proofs.YtcpihdljjckecaaGreatDoor
open Go
def laid_a : List (String × DataW Unit) := [("unicode/utf8.acceptRanges", Rows.laid_unicode_utf8_acceptRanges), ("strconv.ErrSyntax", Rows.laid_strconv_ErrSyntax), ("strconv.ErrRange", Rows.laid_strconv_ErrRange), ("internal/strconv.uint64pow10", Rows.laid_internal_strconv_uint64pow10), ("math/bits.deBruijn32tab", Rows.laid_math_bits_deBruijn32tab), ("math/bits.deBruijn64tab", Rows.laid_math_bits_deBruijn64tab)]
end Go.Proofs.YtcpihdljjckecaaGreatDoor
