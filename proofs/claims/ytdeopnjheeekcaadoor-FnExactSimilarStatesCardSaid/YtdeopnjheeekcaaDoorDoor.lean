/- What a row's proof over the variables' door takes besides: the table of math/bits, out of the row's condition. -/
import Derived.Test.YtdeopnjheeekcaaDoorRow
import Derived.Test.YtdeopnjheeekcaaDoorTz
import Derived.Lib.LaidTab
import Derived.LaidMore
import Derived.ProofKit
import Derived.Stop.Joined
import Derived.Stop.LaidErr
namespace Go.Proofs.YtdeopnjheeekcaaDoor
open Go Go.RowKit

theorem tab_head {W : World} {rest : List (String × DataW Unit)} (h : laidMet Tryd.prog (("math/bits.deBruijn64tab", Rows.laid_math_bits_deBruijn64tab) :: rest) W) : Tab W := by
  have h1 : Lib.TabIs Tryd.prog W "math/bits.deBruijn64tab" .u8 (Lib.deBruijn64tab.map fun n : Nat => (n : Int)) :=
    Lib.tabIs_of_head (g := 1) (t := 76) (e := 5) (by kernel_rfl) (by kernel_rfl) Tryd.underlying76 Tryd.underlying5 (by kernel_rfl) (by kernel_rfl) h
  intro j hj
  have := h1.cell (g := 1) (by kernel_rfl) j (by rw [List.length_map]; exact hj)
  rw [this, List.getD_eq_getElem?_getD, List.getElem?_map, List.getD_eq_getElem?_getD]
  have hl : Lib.deBruijn64tab.length = 64 := rfl
  rw [List.getElem?_eq_getElem (by omega)]
  rfl
/-- The two tables of math/bits, as a row lists them. -/
theorem tab_two {W : World} {rest : List (String × DataW Unit)} (h : laidMet Tryd.prog (("math/bits.deBruijn32tab", Rows.laid_math_bits_deBruijn32tab) :: ("math/bits.deBruijn64tab", Rows.laid_math_bits_deBruijn64tab) :: rest) W) : Tab W := tab_head (laidMet.tail h)
end Go.Proofs.YtdeopnjheeekcaaDoor
