/- What the rows' list of package-level variables gives: strconv's two sentinels and the table of powers of ten stand as their initialisers lay them; and a world for the witness. No condition. -/
import Derived.Test.YtdnjlmoggnbknaaDoorRows
import Derived.Test.YtdnjlmoggnbknaaDoorExt
import Derived.WalkKit
import Derived.ProofKit
import Derived.OpenShut
import Derived.ShutString
import Derived.Below
import Derived.SizedLaws
import Derived.Deep.DeepHandedRow
import Derived.Deep.DeepWitnessRowRef
import Derived.Lib.LaidTab
import Derived.Stop.LaidErr
namespace Go.Proofs.YtdnjlmoggnbknaaDoor.LaidAt
open Go.ChangeShapes Go.WideShapes Go.ChangeAt Go.RowKit Go.Proofs.YtdnjlmoggnbknaaDoor.Ext

theorem own : ownKnob Tryd.prog.godebug = none := by kernel_rfl
theorem star : "*" ++ "errors.errorString" = "*errors.errorString" := by decide
theorem rowE (u : TypeId) (h : Tryd.prog.typeName? 3 u = some "*errors.errorString") : u = 126 :=
  typeName_ptr_named (nm := "errors.errorString") (by rw [star]; kernel_rfl) (by kernel_rfl) (by decide) u (by rw [star]; exact h)
/-- The list, as every row of the seat has it. -/
abbrev LAID : List (String × DataW Unit) := [("math/bits.deBruijn32tab", Rows.laid_math_bits_deBruijn32tab), ("math/bits.deBruijn64tab", Rows.laid_math_bits_deBruijn64tab), ("internal/strconv.uint64pow10", Rows.laid_internal_strconv_uint64pow10), ("strconv.ErrRange", Rows.laid_strconv_ErrRange), ("strconv.ErrSyntax", Rows.laid_strconv_ErrSyntax)]
theorem g10 : Tryd.prog.globalNamed "internal/strconv.uint64pow10" = some 0 := by kernel_rfl
theorem t10 : (Tryd.prog.globals[0]?).map (·.type) = some 117 := by kernel_rfl
theorem c10 : Tryd.prog.cellsOf 117 = 20 := by kernel_rfl
theorem c64 : Tryd.prog.cellsOf 57 = 1 := by kernel_rfl
/-- What the walks ask of the world. -/
theorem gok {W : World} (h : laidMetH Tryd.prog LAID W) : GOK W := by
  have h0 : laidMet Tryd.prog LAID W := h
  obtain ⟨a0, t0, hv0, _⟩ := laid_sentinel (g := 2) h0.tail.tail.tail (by kernel_rfl) (by kernel_rfl) Tryd.underlying71 rowE Tryd.underlying126 Tryd.underlying128 rfl rfl Tryd.underlying9 (by kernel_rfl) (by kernel_rfl)
  obtain ⟨a1, t1, hv1, _⟩ := laid_sentinel (g := 1) h0.tail.tail.tail.tail (by kernel_rfl) (by kernel_rfl) Tryd.underlying71 rowE Tryd.underlying126 Tryd.underlying128 rfl rfl Tryd.underlying9 (by kernel_rfl) (by kernel_rfl)
  exact ⟨⟨_, _, hv1⟩, ⟨_, _, hv0⟩, Lib.tabIs_of_head (rest := _) (zs := pow10) g10 t10 Tryd.underlying117 Tryd.underlying57 c64 c10 h0.tail.tail⟩

def cellsOfData : DataW Unit → Array Value
  | .agg l => (l.map fun | .lit (.int k v) => Value.int k v | _ => Value.int .u8 0).toArray
  | _ => #[]
def rangeText : ByteArray := ⟨#[118, 97, 108, 117, 101, 32, 111, 117, 116, 32, 111, 102, 32, 114, 97, 110, 103, 101]⟩
def syntaxText : ByteArray := ⟨#[105, 110, 118, 97, 108, 105, 100, 32, 115, 121, 110, 116, 97, 120]⟩
/-- The witness: the settled world with the two errors' structs, the listed variables holding what their initialisers lay. -/
noncomputable def laidWorld (os : Os) : World :=
  let N := (World.settled Tryd.prog os).heap.size
  let w0 := World.holding Tryd.prog os ⟨#[.cells #[.string rangeText] 128, .cells #[.string syntaxText] 128], #[], []⟩
  let put (h : Array Obj) (g : Nat) (cs : Array Value) : Array Obj := h.modify g fun
    | .cells _ t frozen => .cells cs t frozen
    | o => o
  let h1 := put w0.heap 2 #[.iface 126 (.pointer (some ⟨N, 0, none⟩))]
  let h2 := put h1 1 #[.iface 126 (.pointer (some ⟨N + 1, 0, none⟩))]
  let h3 := put h2 0 (cellsOfData Rows.laid_internal_strconv_uint64pow10)
  let h4 := put h3 4 (cellsOfData Rows.laid_math_bits_deBruijn32tab)
  let h5 := put h4 5 (cellsOfData Rows.laid_math_bits_deBruijn64tab)
  { w0 with heap := h5 }
theorem laid_met (os : Os) (args : Array Value) : laidMet Tryd.prog LAID ((laidWorld os).forCall (fun _ _ => 0) ⟨#[], args, []⟩).memory :=
  laidMet_of_run' 8 (by kernel_rfl) (by kernel_rfl)
end Go.Proofs.YtdnjlmoggnbknaaDoor.LaidAt
