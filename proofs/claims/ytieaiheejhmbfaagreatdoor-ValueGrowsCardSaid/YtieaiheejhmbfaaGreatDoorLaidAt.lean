/- What the rows' list of package-level variables gives: strconv's two sentinels and the table of powers of ten stand as their initialisers lay them; and a world for the witness. No condition. -/
import Derived.Test.YtieaiheejhmbfaaGreatDoorRows
import Derived.Test.YtieaiheejhmbfaaGreatDoorPk19
import Derived.WalkKit
import Derived.ProofKit
import Derived.OpenShut
import Derived.ShutString
import Derived.Below
import Derived.SizedLaws
import Derived.Deep.DeepHandedRow
import Derived.Deep.DeepWitnessRowRef
import Derived.Lib.LaidTab
import Derived.Stop.LaidErr
namespace Go.Proofs.YtieaiheejhmbfaaGreatDoor.LaidAt
open Go.ChangeShapes Go.WideShapes Go.ChangeAt Go.RowKit Go.Proofs.YtieaiheejhmbfaaGreatDoor.ML

theorem own : ownKnob Tryz.prog.godebug = none := by kernel_rfl
theorem star : "*" ++ "errors.errorString" = "*errors.errorString" := by decide
theorem rowE (u : TypeId) (h : Tryz.prog.typeName? 3 u = some "*errors.errorString") : u = 193 :=
  typeName_ptr_named (nm := "errors.errorString") (by rw [star]; kernel_rfl) (by kernel_rfl) (by decide) u (by rw [star]; exact h)
/-- The list, as every row of the seat has it. -/
abbrev LAID : List (String × DataW Unit) := [("math/bits.deBruijn32tab", Rows.laid_math_bits_deBruijn32tab), ("math/bits.deBruijn64tab", Rows.laid_math_bits_deBruijn64tab), ("internal/strconv.uint64pow10", Rows.laid_internal_strconv_uint64pow10), ("strconv.ErrRange", Rows.laid_strconv_ErrRange), ("strconv.ErrSyntax", Rows.laid_strconv_ErrSyntax)]
theorem g10 : Tryz.prog.globalNamed "internal/strconv.uint64pow10" = some 0 := by kernel_rfl
theorem gE1 : Tryz.prog.globalNamed "strconv.ErrSyntax" = some 1 := by kernel_rfl
theorem gE2 : Tryz.prog.globalNamed "strconv.ErrRange" = some 2 := by kernel_rfl
theorem t10 : (Tryz.prog.globals[0]?).map (·.type) = some 173 := by kernel_rfl
theorem c10 : Tryz.prog.cellsOf 173 = 20 := by kernel_rfl
theorem c64 : Tryz.prog.cellsOf 163 = 1 := by kernel_rfl
def pow10 : List Int := [1, 10, 100, 1000, 10000, 100000, 1000000, 10000000, 100000000, 1000000000, 10000000000, 100000000000, 1000000000000, 10000000000000, 100000000000000, 1000000000000000, 10000000000000000, 100000000000000000, 1000000000000000000, 10000000000000000000]
theorem pow10_tab : pow10 = Lib.pow10Tab := by decide +kernel
/-- What the walks ask of the world. -/
theorem gm {W : World} (h : laidMetH Tryz.prog LAID W) : GM (memW W) := by
  have h0 : laidMet Tryz.prog LAID W := h
  obtain ⟨a0, t0, hv0, _⟩ := laid_sentinel (g := 2) h0.tail.tail.tail (by kernel_rfl) (by kernel_rfl) Tryz.underlying124 rowE Tryz.underlying193 Tryz.underlying195 rfl rfl Tryz.underlying9 (by kernel_rfl) (by kernel_rfl)
  obtain ⟨a1, t1, hv1, _⟩ := laid_sentinel (g := 1) h0.tail.tail.tail.tail (by kernel_rfl) (by kernel_rfl) Tryz.underlying124 rowE Tryz.underlying193 Tryz.underlying195 rfl rfl Tryz.underlying9 (by kernel_rfl) (by kernel_rfl)
  have h10 : Lib.TabIs Tryz.prog W "internal/strconv.uint64pow10" .u64 pow10 := Lib.tabIs_of_head (rest := _) (zs := pow10) g10 t10 Tryz.underlying173 Tryz.underlying163 c64 c10 h0.tail.tail
  rw [pow10_tab] at h10
  obtain ⟨T0, f0, m0⟩ := var_at g10 h10
  obtain ⟨T1, f1, m1⟩ := var_at gE1 hv1
  obtain ⟨T2, f2, m2⟩ := var_at gE2 hv0
  exact ⟨⟨T0, f0, m0⟩, ⟨_, _, T1, f1, m1⟩, ⟨_, _, T2, f2, m2⟩⟩

def cellsOfData : DataW Unit → Array Value
  | .agg l => (l.map fun | .lit (.int k v) => Value.int k v | _ => Value.int .u8 0).toArray
  | _ => #[]
def rangeText : ByteArray := ⟨#[118, 97, 108, 117, 101, 32, 111, 117, 116, 32, 111, 102, 32, 114, 97, 110, 103, 101]⟩
def syntaxText : ByteArray := ⟨#[105, 110, 118, 97, 108, 105, 100, 32, 115, 121, 110, 116, 97, 120]⟩
/-- The witness: the settled world with the two errors' structs, the listed variables holding what their initialisers lay. -/
noncomputable def laidWorld (os : Os) : World :=
  let N := (World.settled Tryz.prog os).heap.size
  let w0 := World.holding Tryz.prog os ⟨#[.cells #[.string rangeText] 195, .cells #[.string syntaxText] 195], #[], []⟩
  let put (h : Array Obj) (g : Nat) (cs : Array Value) : Array Obj := h.modify g fun
    | .cells _ t frozen => .cells cs t frozen
    | o => o
  let h1 := put w0.heap 2 #[.iface 193 (.pointer (some ⟨N, 0, none⟩))]
  let h2 := put h1 1 #[.iface 193 (.pointer (some ⟨N + 1, 0, none⟩))]
  let h3 := put h2 0 (cellsOfData Rows.laid_internal_strconv_uint64pow10)
  let h4 := put h3 3 (cellsOfData Rows.laid_math_bits_deBruijn32tab)
  let h5 := put h4 4 (cellsOfData Rows.laid_math_bits_deBruijn64tab)
  { w0 with heap := h5 }
theorem laid_met (os : Os) (args : Array Value) : laidMet Tryz.prog LAID ((laidWorld os).forCall (fun _ _ => 0) ⟨#[], args, []⟩).memory :=
  laidMet_of_run' 8 (by kernel_rfl) (by kernel_rfl)
end Go.Proofs.YtieaiheejhmbfaaGreatDoor.LaidAt
