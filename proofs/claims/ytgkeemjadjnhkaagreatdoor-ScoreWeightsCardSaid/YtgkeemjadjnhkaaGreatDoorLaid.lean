/- The listed package variables: what the condition gives a walk (the table of math/bits); a world that meets the condition. -/
import Derived.Test.YtgkeemjadjnhkaaGreatDoorRows
import Derived.Test.YtgkeemjadjnhkaaGreatDoorHeld
import Derived.LaidLaws
import Derived.Deep.DeepLaidRun
import Derived.Lib.LaidTab
import Derived.Lib.LaidU8
namespace Go.Proofs.YtgkeemjadjnhkaaGreatDoor
open Go Go.RowKit
set_option linter.unusedVariables false
set_option linter.unusedSimpArgs false

def tabInts : List Int := [0, 1, 56, 2, 57, 49, 28, 3, 61, 58, 42, 50, 38, 29, 17, 4, 62, 47, 59, 36, 45, 43, 51, 22, 53, 39, 33, 30, 24, 18, 12, 5, 63, 55, 48, 27, 60, 41, 37, 16, 46, 35, 44, 21, 52, 32, 23, 11, 54, 26, 40, 15, 34, 20, 31, 10, 25, 14, 19, 9, 13, 8, 7, 6]
theorem tab_data : (Rows.laid_math_bits_deBruijn64tab : DataW Unit) = Lib.tabData .u8 tabInts := by rfl
theorem tab_vals : (tabInts.map fun z => Value.int .u8 z) = tab := by rfl
theorem tabG : Tryz.prog.globalNamed "math/bits.deBruijn64tab" = some 2 := by kernel_rfl
theorem tabT : (Tryz.prog.globals[2]?).map (·.type) = some 535 := by kernel_rfl
theorem tabU : Tryz.prog.underlying 535 = some (.array 64 5) := by kernel_rfl
theorem tabE : Tryz.prog.underlying 5 = some (.int .u8) := by kernel_rfl
theorem tabC5 : Tryz.prog.cellsOf 5 = 1 := by kernel_rfl
theorem tabC535 : Tryz.prog.cellsOf 535 = 64 := by kernel_rfl
abbrev laidVars : List (String × DataW Unit) := [("math/bits.deBruijn32tab", Rows.laid_math_bits_deBruijn32tab), ("math/bits.deBruijn64tab", Rows.laid_math_bits_deBruijn64tab), ("internal/strconv.uint64pow10", Rows.laid_internal_strconv_uint64pow10), ("unicode/utf8.acceptRanges", Rows.laid_unicode_utf8_acceptRanges), ("strconv.ErrRange", Rows.laid_strconv_ErrRange), ("strconv.ErrSyntax", Rows.laid_strconv_ErrSyntax), ("unicode/utf8.first", Rows.laid_unicode_utf8_first)]
theorem hasTab_of_laid {W : World} (h : laidMet Tryz.prog laidVars W) : PScore.HasTab W := by
  obtain ⟨g, t, cs, fuel, p, hg, ht, hv, hd⟩ := Lib.laidMet.reads h (n := "math/bits.deBruijn64tab") (d := Rows.laid_math_bits_deBruijn64tab) (.tail _ (.head _))
  obtain rfl := Option.some.inj (tabG.symm.trans hg)
  obtain rfl := Option.some.inj (tabT.symm.trans ht)
  rw [tab_data] at hd
  have hc := Lib.cells_of_tab tabU tabE tabC5 tabC535 hd
  unfold World.var? at hv
  rw [tabG] at hv
  simp only [Option.bind_some] at hv
  split at hv
  · rename_i arr ty fr ho
    refine ⟨arr, ty, fr, ho, ?_⟩
    rw [← tab_vals, ← hc]
    cases hv
    rfl
  · cases hv

/-! A world that meets the condition. -/
def lit1 : DataW Unit → List Value
  | .lit (.int k n) => [.int k n]
  | _ => []
def flat0 : DataW Unit → List Value
  | .agg l => l.flatMap lit1
  | d => lit1 d
def flat1 : DataW Unit → List Value
  | .agg l => l.flatMap flat0
  | d => lit1 d
def synS : ByteArray := ⟨#[105, 110, 118, 97, 108, 105, 100, 32, 115, 121, 110, 116, 97, 120]⟩
def rangeS : ByteArray := ⟨#[118, 97, 108, 117, 101, 32, 111, 117, 116, 32, 111, 102, 32, 114, 97, 110, 103, 101]⟩
noncomputable def low : Nat := (World.holding Tryz.prog default ⟨#[], #[], []⟩).heap.size
def lay (h : Array Obj) (g : Nat) (vs : List Value) : Array Obj := h.modify g fun
  | .cells _ t fr => .cells vs.toArray t fr
  | o => o
noncomputable def laidWorld (os : Os) : World :=
  let w0 := World.holding Tryz.prog os ⟨#[.cells #[.string synS] 589, .cells #[.string rangeS] 589], #[], []⟩
  { w0 with heap := lay (lay (lay (lay (lay (lay (lay w0.heap 9 (flat1 Rows.laid_math_bits_deBruijn32tab)) 2 (flat1 Rows.laid_math_bits_deBruijn64tab)) 8 (flat1 Rows.laid_internal_strconv_uint64pow10)) 7 (flat1 Rows.laid_unicode_utf8_acceptRanges))
      4 [.iface 587 (.pointer (some ⟨low, 0, none⟩))]) 5 [.iface 587 (.pointer (some ⟨low + 1, 0, none⟩))]) 6 (flat1 Rows.laid_unicode_utf8_first) }
set_option maxRecDepth 100000 in
theorem laidWorld_met (os : Os) (args : Array Value) : laidMet Tryz.prog laidVars ((laidWorld os).forCall (fun _ _ => 0) ⟨#[], args, []⟩).memory :=
  laidMet_of_run3 8 (by kernel_rfl) (by kernel_rfl) (by kernel_rfl)
#print axioms laidWorld_met
end Go.Proofs.YtgkeemjadjnhkaaGreatDoor
