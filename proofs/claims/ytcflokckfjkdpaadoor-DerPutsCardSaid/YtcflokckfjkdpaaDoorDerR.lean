/- Rows of elements: what the listed tables give. -/
import Derived.Test.YtcflokckfjkdpaaDoorRows
import Derived.Test.YtcflokckfjkdpaaDoorDt6
import Derived.Test.YtcflokckfjkdpaaDoorRow
import Derived.Lib.LaidTab
import Derived.Lay
namespace Go.Proofs.YtcflokckfjkdpaaDoor
open Go Go.ChangeShapes Go.WideShapes Go.ChangeAt Go.WideMaps Go.WideElems Go.RowKit Go.Proofs.YtcflokckfjkdpaaDoor.Eng Go.Proofs.YtcflokckfjkdpaaDoor.Spec
set_option maxRecDepth 100000
open Go.Proofs.YtcflokckfjkdpaaDoor.Der

theorem own : ownKnob Tryd.prog.godebug = none := by kernel_rfl
theorem laidOut : laidOutB Tryd.prog = true := by kernel_rfl
theorem cells_u8 : Tryd.prog.cellsOf 5 = 1 := by kernel_rfl
theorem cells_u32 : Tryd.prog.cellsOf 30 = 1 := by kernel_rfl
def laid2 : List (String × DataW Unit) := [("math/bits.deBruijn32tab", Rows.laid_math_bits_deBruijn32tab), ("math/bits.deBruijn64tab", Rows.laid_math_bits_deBruijn64tab), ("internal/strconv.uint64pow10", Rows.laid_internal_strconv_uint64pow10), ("unicode/utf8.acceptRanges", Rows.laid_unicode_utf8_acceptRanges), ("unicode/utf8.first", Rows.laid_unicode_utf8_first)]
theorem lay_shaped (os : Os) : (World.laidAll Tryd.prog os laid2).Shaped Tryd.prog := World.shaped_of_ZipB (by kernel_rfl) (by kernel_rfl)
theorem door_met (os : Os) (args : Array Value) : laidMetH Tryd.prog laid2 ((World.laidAll Tryd.prog os laid2).forCall (fun _ _ => 0) ⟨#[], args, []⟩).memory := by
  rw [MakeChecks.laidMetH_plain _ _ _ (by kernel_rfl)]
  exact laidMet_laidAll _ (by kernel_rfl) (by kernel_rfl)
theorem t0 : (Tryd.prog.globals[0]?).map (·.type) = some 168 := by kernel_rfl
theorem d0 : (Rows.laid_internal_strconv_uint64pow10 : DataW Unit) = Lib.tabData .u64 Lib.pow10Tab := by kernel_rfl
theorem of_laid {W : World} (h : laidMetH Tryd.prog laid2 W) : TbP W := by
  rw [MakeChecks.laidMetH_plain _ _ _ (by kernel_rfl)] at h
  obtain ⟨ps, ⟨y0, ty0, cs0, f0, p0, q0, hg0, ht0, hv0, hd0, ⟨y1, ty1, cs1, f1, p1, q1, hg1, ht1, hv1, hd1, ⟨y2, ty2, cs2, f2, p2, q2, hg2, ht2, hv2, hd2, _, _⟩, _⟩, _⟩, _, _⟩ := h
  obtain rfl := Option.some.inj (gP.symm.trans hg2)
  obtain rfl := Option.some.inj (t0.symm.trans ht2)
  rw [d0] at hd2
  have hc := Lib.cells_of_tab Tryd.underlying168 Tryd.underlying84 (by kernel_rfl) (by kernel_rfl) hd2
  refine ⟨?_, ?_⟩
  · unfold Lib.TabIs
    rw [hv2, ← hc]
  · simp only [World.var?, gP, Option.bind_some] at hv2
    cases hh : W.heap[0]? with
    | none => rw [hh] at hv2; simp at hv2
    | some o => exact (Array.getElem?_eq_some_iff.1 hh).1
theorem byte_of {l : List Int} (h : ∀ n ∈ l, (Lit.int .u8 n).wf = true) : Eng.ByteL l := Eng.ByteL.of fun n hn => Row.wf_u8 (h n hn)
end Go.Proofs.YtcflokckfjkdpaaDoor
