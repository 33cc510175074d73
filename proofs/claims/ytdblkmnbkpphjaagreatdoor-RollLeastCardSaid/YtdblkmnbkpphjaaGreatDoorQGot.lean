/- What the listed variables hold, out of the row's condition. -/
import Derived.Test.YtdblkmnbkpphjaaGreatDoorQOpen
import Derived.Test.YtdblkmnbkpphjaaGreatDoorRows
namespace Go.Proofs.YtdblkmnbkpphjaaGreatDoor
open Go Go.RowKit
def laid0 : List (String × DataW Unit) := [("math/bits.deBruijn32tab", Rows.laid_math_bits_deBruijn32tab), ("math/bits.deBruijn64tab", Rows.laid_math_bits_deBruijn64tab), ("internal/strconv.uint64pow10", Rows.laid_internal_strconv_uint64pow10), ("unicode/utf8.acceptRanges", Rows.laid_unicode_utf8_acceptRanges), ("strconv.ErrRange", Rows.laid_strconv_ErrRange), ("strconv.ErrSyntax", Rows.laid_strconv_ErrSyntax), ("unicode/utf8.first", Rows.laid_unicode_utf8_first)]
theorem laid0_plain : (laid0.all fun x => x.2.handleName?.isNone) = true := by kernel_rfl
set_option maxRecDepth 100000 in
theorem got0 {W : World} (hL : laidMet Tryz.prog laid0 W) (hS : W.ShapedOpen Tryz.prog) : GL W where
 ml := cell_of_shapedOpen_int (t := 3) (zero := #[.int .i64 0]) hS (of_decide_eq_true (by kernel_rfl)) (by kernel_rfl) rfl (by kernel_rfl) (by kernel_rfl) Tryz.underlying3
 p10 := Lib.tabIs_of_head (zs := Lib.pow10Tab) (g := 1) (t := 127) (e := 100) (n := 20) (by kernel_rfl) (by kernel_rfl) Tryz.underlying127 Tryz.underlying100 (by kernel_rfl) (by kernel_rfl) hL.tail.tail
 es := iface_of_laid (g := 6) (ti := 58) hL.tail.tail.tail.tail.tail (by kernel_rfl) (by kernel_rfl) Tryz.underlying58
 er := iface_of_laid (g := 7) (ti := 58) hL.tail.tail.tail.tail (by kernel_rfl) (by kernel_rfl) Tryz.underlying58
 last := trivial
end Go.Proofs.YtdblkmnbkpphjaaGreatDoor
