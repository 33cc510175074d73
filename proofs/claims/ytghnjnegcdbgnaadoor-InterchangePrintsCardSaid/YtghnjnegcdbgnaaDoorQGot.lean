/- What the listed variables hold, out of the row's condition. -/
import Derived.Test.YtghnjnegcdbgnaaDoorQOpen
import Derived.Test.YtghnjnegcdbgnaaDoorRows
namespace Go.Proofs.YtghnjnegcdbgnaaDoor
open Go Go.RowKit
def laid0 : List (String × DataW Unit) := [("math/bits.deBruijn32tab", Rows.laid_math_bits_deBruijn32tab), ("math/bits.deBruijn64tab", Rows.laid_math_bits_deBruijn64tab), ("internal/strconv.uint64pow10", Rows.laid_internal_strconv_uint64pow10), ("unicode/utf8.acceptRanges", Rows.laid_unicode_utf8_acceptRanges), ("strconv.ErrRange", Rows.laid_strconv_ErrRange), ("strconv.ErrSyntax", Rows.laid_strconv_ErrSyntax), ("unicode/utf8.first", Rows.laid_unicode_utf8_first)]
theorem laid0_plain : (laid0.all fun x => x.2.handleName?.isNone) = true := by kernel_rfl
set_option maxRecDepth 100000 in
theorem got0 {W : World} (hL : laidMet Tryd.prog laid0 W) (hS : W.ShapedOpen Tryd.prog) : GL W where
 ml := cell_of_shapedOpen_int (t := 3) (zero := #[.int .i64 0]) hS (of_decide_eq_true (by kernel_rfl)) (by kernel_rfl) rfl (by kernel_rfl) (by kernel_rfl) Tryd.underlying3
 p10 := Lib.tabIs_of_head (zs := Lib.pow10Tab) (g := 1) (t := 108) (e := 91) (n := 20) (by kernel_rfl) (by kernel_rfl) Tryd.underlying108 Tryd.underlying91 (by kernel_rfl) (by kernel_rfl) hL.tail.tail
 es := iface_of_laid (g := 4) (ti := 68) hL.tail.tail.tail.tail.tail (by kernel_rfl) (by kernel_rfl) Tryd.underlying68
 er := iface_of_laid (g := 5) (ti := 68) hL.tail.tail.tail.tail (by kernel_rfl) (by kernel_rfl) Tryd.underlying68
 last := trivial
end Go.Proofs.YtghnjnegcdbgnaaDoor
