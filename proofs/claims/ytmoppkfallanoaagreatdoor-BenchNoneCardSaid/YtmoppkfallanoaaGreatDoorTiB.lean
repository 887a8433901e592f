/-
  The tie of the package-level variables, in parts, since one text of all facts passes the limit of memory: the names.
-/
import Derived.Test.YtmoppkfallanoaaGreatDoorRows
import Derived.LaidByTextLater
import Derived.SevenTiedAt
namespace Go.Proofs.YtmoppkfallanoaaGreatDoor.ties
open Go
theorem f6 : varsNamedLaterB Tryz.prog (varsId Tryz.prog) ([("unicode/utf8.acceptRanges", Rows.laid_unicode_utf8_acceptRanges), ("strconv.ErrSyntax", Rows.laid_strconv_ErrSyntax), ("strconv.ErrRange", Rows.laid_strconv_ErrRange), ("internal/strconv.uint64pow10", Rows.laid_internal_strconv_uint64pow10), ("math/bits.deBruijn32tab", Rows.laid_math_bits_deBruijn32tab), ("math/bits.deBruijn64tab", Rows.laid_math_bits_deBruijn64tab)] : List (String × DataW Unit)) = true := by kernel_rfl
end Go.Proofs.YtmoppkfallanoaaGreatDoor.ties
