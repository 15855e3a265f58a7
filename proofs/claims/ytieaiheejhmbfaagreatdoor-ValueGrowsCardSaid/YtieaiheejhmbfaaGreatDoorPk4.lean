/- Facts on the types and functions of the program, for the abstract layer. No conditions. -/
import Derived.Test.YtieaiheejhmbfaaGreatDoorProg
import Derived.Test.YtieaiheejhmbfaaGreatDoorPk3
import Derived.KernelRfl
import Derived.Laws.StructEq
namespace Go.Proofs.YtieaiheejhmbfaaGreatDoor.ML
open Go.RowKit
set_option maxRecDepth 100000
instance : Sc Tryz.prog 2 := ⟨by kernel_rfl⟩
instance : Zr Tryz.prog 2 (.int .i64 0) := ⟨by kernel_rfl⟩
instance : It Tryz.prog 2 .i64 := ⟨by kernel_rfl⟩
instance : Sc Tryz.prog 3 := ⟨by kernel_rfl⟩
instance : Zr Tryz.prog 3 (.int .i64 0) := ⟨by kernel_rfl⟩
instance : It Tryz.prog 3 .i64 := ⟨by kernel_rfl⟩
instance : Sc Tryz.prog 4 := ⟨by kernel_rfl⟩
instance : Zr Tryz.prog 4 (.bool false) := ⟨by kernel_rfl⟩
instance : Bl Tryz.prog 4 := ⟨by kernel_rfl⟩
instance : Sc Tryz.prog 5 := ⟨by kernel_rfl⟩
instance : Zr Tryz.prog 5 (.int .u8 0) := ⟨by kernel_rfl⟩
instance : It Tryz.prog 5 .u8 := ⟨by kernel_rfl⟩
instance : Sc Tryz.prog 9 := ⟨by kernel_rfl⟩
instance : Zr Tryz.prog 9 (.string ⟨#[]⟩) := ⟨by kernel_rfl⟩
instance : Str Tryz.prog 9 := ⟨by kernel_rfl⟩
instance : Sc Tryz.prog 22 := ⟨by kernel_rfl⟩
instance : Zr Tryz.prog 22 (.slice none 0 0) := ⟨by kernel_rfl⟩
instance : El Tryz.prog 22 62 2 := ⟨by kernel_rfl⟩
instance : Ap Tryz.prog 22 62 2 40 := ⟨by kernel_rfl⟩
instance : Sc Tryz.prog 23 := ⟨by kernel_rfl⟩
instance : Zr Tryz.prog 23 (.int .i64 0) := ⟨by kernel_rfl⟩
instance : It Tryz.prog 23 .i64 := ⟨by kernel_rfl⟩
instance : Sc Tryz.prog 24 := ⟨by kernel_rfl⟩
instance : Zr Tryz.prog 24 (.slice none 0 0) := ⟨by kernel_rfl⟩
instance : El Tryz.prog 24 26 3 := ⟨by kernel_rfl⟩
instance : Ap Tryz.prog 24 26 3 40 := ⟨by kernel_rfl⟩
instance : Ag Tryz.prog 26 3 := ⟨by kernel_rfl⟩
instance : Zr Tryz.prog 26 (.agg #[.int .i64 0, .int .i64 0, .slice none 0 0]) := ⟨by kernel_rfl⟩
instance : Sc Tryz.prog 29 := ⟨by kernel_rfl⟩
instance : Zr Tryz.prog 29 (.int .i64 0) := ⟨by kernel_rfl⟩
instance : It Tryz.prog 29 .i64 := ⟨by kernel_rfl⟩
instance : Sc Tryz.prog 36 := ⟨by kernel_rfl⟩
instance : Zr Tryz.prog 36 (.slice none 0 0) := ⟨by kernel_rfl⟩
instance : El Tryz.prog 36 3 1 := ⟨by kernel_rfl⟩
instance : Ap Tryz.prog 36 3 1 8 := ⟨by kernel_rfl⟩
instance : Sc Tryz.prog 54 := ⟨by kernel_rfl⟩
instance : Zr Tryz.prog 54 (.nilFunc) := ⟨by kernel_rfl⟩
instance : Sc Tryz.prog 57 := ⟨by kernel_rfl⟩
instance : Zr Tryz.prog 57 (.slice none 0 0) := ⟨by kernel_rfl⟩
instance : El Tryz.prog 57 23 1 := ⟨by kernel_rfl⟩
instance : Ap Tryz.prog 57 23 1 8 := ⟨by kernel_rfl⟩
instance : Ag Tryz.prog 59 2 := ⟨by kernel_rfl⟩
instance : Zr Tryz.prog 59 (.agg #[.string ⟨#[]⟩, .slice none 0 0]) := ⟨by kernel_rfl⟩
instance : Sc Tryz.prog 60 := ⟨by kernel_rfl⟩
instance : Zr Tryz.prog 60 (.slice none 0 0) := ⟨by kernel_rfl⟩
instance : El Tryz.prog 60 59 2 := ⟨by kernel_rfl⟩
instance : Ap Tryz.prog 60 59 2 40 := ⟨by kernel_rfl⟩
instance : Ag Tryz.prog 62 2 := ⟨by kernel_rfl⟩
instance : Zr Tryz.prog 62 (.agg #[.string ⟨#[]⟩, .slice none 0 0]) := ⟨by kernel_rfl⟩
instance : Ag Tryz.prog 65 2 := ⟨by kernel_rfl⟩
instance : Zr Tryz.prog 65 (.agg #[.int .i64 0, .int .i64 0]) := ⟨by kernel_rfl⟩
instance : Sc Tryz.prog 73 := ⟨by kernel_rfl⟩
instance : Zr Tryz.prog 73 (.nilFunc) := ⟨by kernel_rfl⟩
instance : Sc Tryz.prog 76 := ⟨by kernel_rfl⟩
instance : Zr Tryz.prog 76 (.slice none 0 0) := ⟨by kernel_rfl⟩
instance : El Tryz.prog 76 65 2 := ⟨by kernel_rfl⟩
instance : Ap Tryz.prog 76 65 2 16 := ⟨by kernel_rfl⟩
instance : Sc Tryz.prog 78 := ⟨by kernel_rfl⟩
instance : Zr Tryz.prog 78 (.map none) := ⟨by kernel_rfl⟩
instance : Sc Tryz.prog 82 := ⟨by kernel_rfl⟩
instance : Zr Tryz.prog 82 (.pointer none) := ⟨by kernel_rfl⟩
instance : Sc Tryz.prog 83 := ⟨by kernel_rfl⟩
instance : Zr Tryz.prog 83 (.slice none 0 0) := ⟨by kernel_rfl⟩
instance : El Tryz.prog 83 5 1 := ⟨by kernel_rfl⟩
instance : Ap Tryz.prog 83 5 1 1 := ⟨by kernel_rfl⟩
instance : Ag Tryz.prog 85 2 := ⟨by kernel_rfl⟩
instance : Zr Tryz.prog 85 (.agg #[.pointer none, .slice none 0 0]) := ⟨by kernel_rfl⟩
instance : Sc Tryz.prog 90 := ⟨by kernel_rfl⟩
instance : Zr Tryz.prog 90 (.pointer none) := ⟨by kernel_rfl⟩
instance : Sc Tryz.prog 93 := ⟨by kernel_rfl⟩
instance : Zr Tryz.prog 93 (.nilFunc) := ⟨by kernel_rfl⟩
instance : Ag Tryz.prog 95 3 := ⟨by kernel_rfl⟩
instance : Zr Tryz.prog 95 (.agg #[.string ⟨#[]⟩, .int .i64 0, .nilFunc]) := ⟨by kernel_rfl⟩
instance : Sc Tryz.prog 96 := ⟨by kernel_rfl⟩
instance : Zr Tryz.prog 96 (.slice none 0 0) := ⟨by kernel_rfl⟩
instance : El Tryz.prog 96 98 3 := ⟨by kernel_rfl⟩
instance : Ap Tryz.prog 96 98 3 48 := ⟨by kernel_rfl⟩
instance : Ag Tryz.prog 98 3 := ⟨by kernel_rfl⟩
instance : Zr Tryz.prog 98 (.agg #[.string ⟨#[]⟩, .int .i64 0, .slice none 0 0]) := ⟨by kernel_rfl⟩
instance : Sc Tryz.prog 104 := ⟨by kernel_rfl⟩
instance : Zr Tryz.prog 104 (.pointer none) := ⟨by kernel_rfl⟩
instance : Ag Tryz.prog 106 3 := ⟨by kernel_rfl⟩
instance : Zr Tryz.prog 106 (.agg #[.string ⟨#[]⟩, .int .i64 0, .bool false]) := ⟨by kernel_rfl⟩
instance : Sc Tryz.prog 107 := ⟨by kernel_rfl⟩
instance : Zr Tryz.prog 107 (.slice none 0 0) := ⟨by kernel_rfl⟩
instance : El Tryz.prog 107 109 3 := ⟨by kernel_rfl⟩
instance : Ap Tryz.prog 107 109 3 48 := ⟨by kernel_rfl⟩
instance : Ag Tryz.prog 109 3 := ⟨by kernel_rfl⟩
instance : Zr Tryz.prog 109 (.agg #[.string ⟨#[]⟩, .int .i64 0, .slice none 0 0]) := ⟨by kernel_rfl⟩
instance : Sc Tryz.prog 113 := ⟨by kernel_rfl⟩
instance : Zr Tryz.prog 113 (.nilFunc) := ⟨by kernel_rfl⟩
instance : Sc Tryz.prog 119 := ⟨by kernel_rfl⟩
instance : Zr Tryz.prog 119 (.nilFunc) := ⟨by kernel_rfl⟩
instance : Sc Tryz.prog 124 := ⟨by kernel_rfl⟩
instance : Zr Tryz.prog 124 (.nilIface) := ⟨by kernel_rfl⟩
instance : Sc Tryz.prog 128 := ⟨by kernel_rfl⟩
instance : Zr Tryz.prog 128 (.pointer none) := ⟨by kernel_rfl⟩
instance : Sc Tryz.prog 131 := ⟨by kernel_rfl⟩
instance : Zr Tryz.prog 131 (.nilFunc) := ⟨by kernel_rfl⟩
instance : Sc Tryz.prog 133 := ⟨by kernel_rfl⟩
instance : Zr Tryz.prog 133 (.slice none 0 0) := ⟨by kernel_rfl⟩
instance : El Tryz.prog 133 24 1 := ⟨by kernel_rfl⟩
instance : Ap Tryz.prog 133 24 1 24 := ⟨by kernel_rfl⟩
instance : Sc Tryz.prog 135 := ⟨by kernel_rfl⟩
instance : Zr Tryz.prog 135 (.nilFunc) := ⟨by kernel_rfl⟩
instance : Sc Tryz.prog 137 := ⟨by kernel_rfl⟩
instance : Zr Tryz.prog 137 (.nilFunc) := ⟨by kernel_rfl⟩
instance : Sc Tryz.prog 139 := ⟨by kernel_rfl⟩
instance : Zr Tryz.prog 139 (.slice none 0 0) := ⟨by kernel_rfl⟩
instance : El Tryz.prog 139 9 1 := ⟨by kernel_rfl⟩
instance : Ap Tryz.prog 139 9 1 16 := ⟨by kernel_rfl⟩
instance : Sc Tryz.prog 141 := ⟨by kernel_rfl⟩
instance : Zr Tryz.prog 141 (.slice none 0 0) := ⟨by kernel_rfl⟩
instance : El Tryz.prog 141 4 1 := ⟨by kernel_rfl⟩
instance : Ap Tryz.prog 141 4 1 1 := ⟨by kernel_rfl⟩
instance : Sc Tryz.prog 143 := ⟨by kernel_rfl⟩
instance : Zr Tryz.prog 143 (.nilFunc) := ⟨by kernel_rfl⟩
instance : Sc Tryz.prog 144 := ⟨by kernel_rfl⟩
instance : Zr Tryz.prog 144 (.map none) := ⟨by kernel_rfl⟩
instance : Mp Tryz.prog 144 23 4 (Go.MapKept.IsKey (.int .i64)) := ⟨by kernel_rfl, KL.key (by kernel_rfl)⟩
instance : Sc Tryz.prog 145 := ⟨by kernel_rfl⟩
instance : Zr Tryz.prog 145 (.nilFunc) := ⟨by kernel_rfl⟩
instance : Sc Tryz.prog 152 := ⟨by kernel_rfl⟩
instance : Zr Tryz.prog 152 (.map none) := ⟨by kernel_rfl⟩
instance : Mp Tryz.prog 152 23 3 (Go.MapKept.IsKey (.int .i64)) := ⟨by kernel_rfl, KL.key (by kernel_rfl)⟩
instance : Sc Tryz.prog 156 := ⟨by kernel_rfl⟩
instance : Zr Tryz.prog 156 (.map none) := ⟨by kernel_rfl⟩
instance : Mp Tryz.prog 156 9 4 (Go.MapKept.IsKey (.string)) := ⟨by kernel_rfl, KL.key (by kernel_rfl)⟩
instance : Sc Tryz.prog 159 := ⟨by kernel_rfl⟩
instance : Zr Tryz.prog 159 (.pointer none) := ⟨by kernel_rfl⟩
instance : Ag Tryz.prog 162 24 := ⟨by kernel_rfl⟩
instance : Zr Tryz.prog 162 (.agg #[.int .u8 0, .int .u8 0, .int .u8 0, .int .u8 0, .int .u8 0, .int .u8 0, .int .u8 0, .int .u8 0, .int .u8 0, .int .u8 0, .int .u8 0, .int .u8 0, .int .u8 0, .int .u8 0, .int .u8 0, .int .u8 0, .int .u8 0, .int .u8 0, .int .u8 0, .int .u8 0, .int .u8 0, .int .u8 0, .int .u8 0, .int .u8 0]) := ⟨by kernel_rfl⟩
instance : Sc Tryz.prog 163 := ⟨by kernel_rfl⟩
instance : Zr Tryz.prog 163 (.int .u64 0) := ⟨by kernel_rfl⟩
instance : It Tryz.prog 163 .u64 := ⟨by kernel_rfl⟩
instance : Ag Tryz.prog 173 20 := ⟨by kernel_rfl⟩
instance : Zr Tryz.prog 173 (.agg #[.int .u64 0, .int .u64 0, .int .u64 0, .int .u64 0, .int .u64 0, .int .u64 0, .int .u64 0, .int .u64 0, .int .u64 0, .int .u64 0, .int .u64 0, .int .u64 0, .int .u64 0, .int .u64 0, .int .u64 0, .int .u64 0, .int .u64 0, .int .u64 0, .int .u64 0, .int .u64 0]) := ⟨by kernel_rfl⟩
instance : Sc Tryz.prog 174 := ⟨by kernel_rfl⟩
instance : Zr Tryz.prog 174 (.int .u32 0) := ⟨by kernel_rfl⟩
instance : It Tryz.prog 174 .u32 := ⟨by kernel_rfl⟩
instance : Ag Tryz.prog 175 65 := ⟨by kernel_rfl⟩
instance : Zr Tryz.prog 175 (.agg #[.int .u8 0, .int .u8 0, .int .u8 0, .int .u8 0, .int .u8 0, .int .u8 0, .int .u8 0, .int .u8 0, .int .u8 0, .int .u8 0, .int .u8 0, .int .u8 0, .int .u8 0, .int .u8 0, .int .u8 0, .int .u8 0, .int .u8 0, .int .u8 0, .int .u8 0, .int .u8 0, .int .u8 0, .int .u8 0, .int .u8 0, .int .u8 0, .int .u8 0, .int .u8 0, .int .u8 0, .int .u8 0, .int .u8 0, .int .u8 0, .int .u8 0, .int .u8 0, .int .u8 0, .int .u8 0, .int .u8 0, .int .u8 0, .int .u8 0, .int .u8 0, .int .u8 0, .int .u8 0, .int .u8 0, .int .u8 0, .int .u8 0, .int .u8 0, .int .u8 0, .int .u8 0, .int .u8 0, .int .u8 0, .int .u8 0, .int .u8 0, .int .u8 0, .int .u8 0, .int .u8 0, .int .u8 0, .int .u8 0, .int .u8 0, .int .u8 0, .int .u8 0, .int .u8 0, .int .u8 0, .int .u8 0, .int .u8 0, .int .u8 0, .int .u8 0, .int .u8 0]) := ⟨by kernel_rfl⟩
instance : Sc Tryz.prog 177 := ⟨by kernel_rfl⟩
instance : Zr Tryz.prog 177 (.int .u64 0) := ⟨by kernel_rfl⟩
instance : It Tryz.prog 177 .u64 := ⟨by kernel_rfl⟩
instance : Sc Tryz.prog 182 := ⟨by kernel_rfl⟩
instance : Zr Tryz.prog 182 (.pointer none) := ⟨by kernel_rfl⟩
instance : Ag Tryz.prog 189 3 := ⟨by kernel_rfl⟩
instance : Zr Tryz.prog 189 (.agg #[.string ⟨#[]⟩, .string ⟨#[]⟩, .nilIface]) := ⟨by kernel_rfl⟩
instance : Ag Tryz.prog 191 32 := ⟨by kernel_rfl⟩
instance : Zr Tryz.prog 191 (.agg #[.int .u8 0, .int .u8 0, .int .u8 0, .int .u8 0, .int .u8 0, .int .u8 0, .int .u8 0, .int .u8 0, .int .u8 0, .int .u8 0, .int .u8 0, .int .u8 0, .int .u8 0, .int .u8 0, .int .u8 0, .int .u8 0, .int .u8 0, .int .u8 0, .int .u8 0, .int .u8 0, .int .u8 0, .int .u8 0, .int .u8 0, .int .u8 0, .int .u8 0, .int .u8 0, .int .u8 0, .int .u8 0, .int .u8 0, .int .u8 0, .int .u8 0, .int .u8 0]) := ⟨by kernel_rfl⟩
instance : Ag Tryz.prog 192 64 := ⟨by kernel_rfl⟩
instance : Zr Tryz.prog 192 (.agg #[.int .u8 0, .int .u8 0, .int .u8 0, .int .u8 0, .int .u8 0, .int .u8 0, .int .u8 0, .int .u8 0, .int .u8 0, .int .u8 0, .int .u8 0, .int .u8 0, .int .u8 0, .int .u8 0, .int .u8 0, .int .u8 0, .int .u8 0, .int .u8 0, .int .u8 0, .int .u8 0, .int .u8 0, .int .u8 0, .int .u8 0, .int .u8 0, .int .u8 0, .int .u8 0, .int .u8 0, .int .u8 0, .int .u8 0, .int .u8 0, .int .u8 0, .int .u8 0, .int .u8 0, .int .u8 0, .int .u8 0, .int .u8 0, .int .u8 0, .int .u8 0, .int .u8 0, .int .u8 0, .int .u8 0, .int .u8 0, .int .u8 0, .int .u8 0, .int .u8 0, .int .u8 0, .int .u8 0, .int .u8 0, .int .u8 0, .int .u8 0, .int .u8 0, .int .u8 0, .int .u8 0, .int .u8 0, .int .u8 0, .int .u8 0, .int .u8 0, .int .u8 0, .int .u8 0, .int .u8 0, .int .u8 0, .int .u8 0, .int .u8 0, .int .u8 0]) := ⟨by kernel_rfl⟩
instance : Ag Tryz.prog 195 1 := ⟨by kernel_rfl⟩
instance : Zr Tryz.prog 195 (.agg #[.string ⟨#[]⟩]) := ⟨by kernel_rfl⟩
instance : Pl Tryz.prog 26 [(0, 1), (1, 1), (2, 1)] #[.int .i64 0, .int .i64 0, .slice none 0 0] := ⟨⟨by kernel_rfl, by kernel_rfl⟩⟩
instance : Pl Tryz.prog 59 [(0, 1), (1, 1)] #[.string ⟨#[]⟩, .slice none 0 0] := ⟨⟨by kernel_rfl, by kernel_rfl⟩⟩
instance : Pl Tryz.prog 62 [(0, 1), (1, 1)] #[.string ⟨#[]⟩, .slice none 0 0] := ⟨⟨by kernel_rfl, by kernel_rfl⟩⟩
instance : Pl Tryz.prog 65 [(0, 1), (1, 1)] #[.int .i64 0, .int .i64 0] := ⟨⟨by kernel_rfl, by kernel_rfl⟩⟩
instance : Pl Tryz.prog 85 [(0, 1), (1, 1)] #[.pointer none, .slice none 0 0] := ⟨⟨by kernel_rfl, by kernel_rfl⟩⟩
instance : Pl Tryz.prog 95 [(0, 1), (1, 1), (2, 1)] #[.string ⟨#[]⟩, .int .i64 0, .nilFunc] := ⟨⟨by kernel_rfl, by kernel_rfl⟩⟩
instance : Pl Tryz.prog 98 [(0, 1), (1, 1), (2, 1)] #[.string ⟨#[]⟩, .int .i64 0, .slice none 0 0] := ⟨⟨by kernel_rfl, by kernel_rfl⟩⟩
instance : Pl Tryz.prog 106 [(0, 1), (1, 1), (2, 1)] #[.string ⟨#[]⟩, .int .i64 0, .bool false] := ⟨⟨by kernel_rfl, by kernel_rfl⟩⟩
instance : Pl Tryz.prog 109 [(0, 1), (1, 1), (2, 1)] #[.string ⟨#[]⟩, .int .i64 0, .slice none 0 0] := ⟨⟨by kernel_rfl, by kernel_rfl⟩⟩
instance : Pl Tryz.prog 189 [(0, 1), (1, 1), (2, 1)] #[.string ⟨#[]⟩, .string ⟨#[]⟩, .nilIface] := ⟨⟨by kernel_rfl, by kernel_rfl⟩⟩
instance : Pl Tryz.prog 195 [(0, 1)] #[.string ⟨#[]⟩] := ⟨⟨by kernel_rfl, by kernel_rfl⟩⟩
instance : Fo Tryz.prog 26 0 0 := ⟨by kernel_rfl⟩
instance : Fo Tryz.prog 26 1 1 := ⟨by kernel_rfl⟩
instance : Fo Tryz.prog 26 2 2 := ⟨by kernel_rfl⟩
instance : Fo Tryz.prog 59 0 0 := ⟨by kernel_rfl⟩
instance : Fo Tryz.prog 59 1 1 := ⟨by kernel_rfl⟩
instance : Fo Tryz.prog 62 0 0 := ⟨by kernel_rfl⟩
instance : Fo Tryz.prog 62 1 1 := ⟨by kernel_rfl⟩
instance : Fo Tryz.prog 65 0 0 := ⟨by kernel_rfl⟩
instance : Fo Tryz.prog 65 1 1 := ⟨by kernel_rfl⟩
instance : Fo Tryz.prog 85 0 0 := ⟨by kernel_rfl⟩
instance : Fo Tryz.prog 85 1 1 := ⟨by kernel_rfl⟩
instance : Fo Tryz.prog 95 0 0 := ⟨by kernel_rfl⟩
instance : Fo Tryz.prog 95 1 1 := ⟨by kernel_rfl⟩
instance : Fo Tryz.prog 95 2 2 := ⟨by kernel_rfl⟩
instance : Fo Tryz.prog 98 0 0 := ⟨by kernel_rfl⟩
instance : Fo Tryz.prog 98 1 1 := ⟨by kernel_rfl⟩
instance : Fo Tryz.prog 98 2 2 := ⟨by kernel_rfl⟩
instance : Fo Tryz.prog 106 0 0 := ⟨by kernel_rfl⟩
instance : Fo Tryz.prog 106 1 1 := ⟨by kernel_rfl⟩
instance : Fo Tryz.prog 106 2 2 := ⟨by kernel_rfl⟩
instance : Fo Tryz.prog 109 0 0 := ⟨by kernel_rfl⟩
instance : Fo Tryz.prog 109 1 1 := ⟨by kernel_rfl⟩
instance : Fo Tryz.prog 109 2 2 := ⟨by kernel_rfl⟩
instance : Fn Tryz.prog 11 := ⟨_, Tryz.func11, by kernel_rfl, by kernel_rfl⟩
instance : Fn Tryz.prog 12 := ⟨_, Tryz.func12, by kernel_rfl, by kernel_rfl⟩
instance : Fn Tryz.prog 13 := ⟨_, Tryz.func13, by kernel_rfl, by kernel_rfl⟩
instance : Fn Tryz.prog 14 := ⟨_, Tryz.func14, by kernel_rfl, by kernel_rfl⟩
instance : Fn Tryz.prog 15 := ⟨_, Tryz.func15, by kernel_rfl, by kernel_rfl⟩
instance : Fn Tryz.prog 16 := ⟨_, Tryz.func16, by kernel_rfl, by kernel_rfl⟩
instance : Fn Tryz.prog 17 := ⟨_, Tryz.func17, by kernel_rfl, by kernel_rfl⟩
instance : Fn Tryz.prog 18 := ⟨_, Tryz.func18, by kernel_rfl, by kernel_rfl⟩
instance : Fn Tryz.prog 19 := ⟨_, Tryz.func19, by kernel_rfl, by kernel_rfl⟩
instance : Fn Tryz.prog 20 := ⟨_, Tryz.func20, by kernel_rfl, by kernel_rfl⟩
instance : Fn Tryz.prog 21 := ⟨_, Tryz.func21, by kernel_rfl, by kernel_rfl⟩
instance : Fn Tryz.prog 22 := ⟨_, Tryz.func22, by kernel_rfl, by kernel_rfl⟩
instance : Fn Tryz.prog 23 := ⟨_, Tryz.func23, by kernel_rfl, by kernel_rfl⟩
instance : Fn Tryz.prog 24 := ⟨_, Tryz.func24, by kernel_rfl, by kernel_rfl⟩
instance : Fn Tryz.prog 25 := ⟨_, Tryz.func25, by kernel_rfl, by kernel_rfl⟩
instance : Fn Tryz.prog 26 := ⟨_, Tryz.func26, by kernel_rfl, by kernel_rfl⟩
instance : Fn Tryz.prog 27 := ⟨_, Tryz.func27, by kernel_rfl, by kernel_rfl⟩
instance : Fn Tryz.prog 28 := ⟨_, Tryz.func28, by kernel_rfl, by kernel_rfl⟩
instance : Fn Tryz.prog 29 := ⟨_, Tryz.func29, by kernel_rfl, by kernel_rfl⟩
instance : Fn Tryz.prog 30 := ⟨_, Tryz.func30, by kernel_rfl, by kernel_rfl⟩
instance : Fn Tryz.prog 31 := ⟨_, Tryz.func31, by kernel_rfl, by kernel_rfl⟩
instance : Fn Tryz.prog 32 := ⟨_, Tryz.func32, by kernel_rfl, by kernel_rfl⟩
instance : Fn Tryz.prog 33 := ⟨_, Tryz.func33, by kernel_rfl, by kernel_rfl⟩
instance : Fn Tryz.prog 34 := ⟨_, Tryz.func34, by kernel_rfl, by kernel_rfl⟩
instance : Fn Tryz.prog 35 := ⟨_, Tryz.func35, by kernel_rfl, by kernel_rfl⟩
instance : Fn Tryz.prog 36 := ⟨_, Tryz.func36, by kernel_rfl, by kernel_rfl⟩
instance : Fn Tryz.prog 37 := ⟨_, Tryz.func37, by kernel_rfl, by kernel_rfl⟩
instance : Fn Tryz.prog 38 := ⟨_, Tryz.func38, by kernel_rfl, by kernel_rfl⟩
instance : Fn Tryz.prog 39 := ⟨_, Tryz.func39, by kernel_rfl, by kernel_rfl⟩
instance : Fn Tryz.prog 40 := ⟨_, Tryz.func40, by kernel_rfl, by kernel_rfl⟩
instance : Fn Tryz.prog 41 := ⟨_, Tryz.func41, by kernel_rfl, by kernel_rfl⟩
instance : Fn Tryz.prog 42 := ⟨_, Tryz.func42, by kernel_rfl, by kernel_rfl⟩
instance : Fn Tryz.prog 43 := ⟨_, Tryz.func43, by kernel_rfl, by kernel_rfl⟩
instance : Fn Tryz.prog 44 := ⟨_, Tryz.func44, by kernel_rfl, by kernel_rfl⟩
instance : Fn Tryz.prog 45 := ⟨_, Tryz.func45, by kernel_rfl, by kernel_rfl⟩
instance : Fn Tryz.prog 46 := ⟨_, Tryz.func46, by kernel_rfl, by kernel_rfl⟩
instance : Fn Tryz.prog 47 := ⟨_, Tryz.func47, by kernel_rfl, by kernel_rfl⟩
instance : Fn Tryz.prog 48 := ⟨_, Tryz.func48, by kernel_rfl, by kernel_rfl⟩
instance : Fn Tryz.prog 49 := ⟨_, Tryz.func49, by kernel_rfl, by kernel_rfl⟩
instance : Fn Tryz.prog 50 := ⟨_, Tryz.func50, by kernel_rfl, by kernel_rfl⟩
instance : Fn Tryz.prog 51 := ⟨_, Tryz.func51, by kernel_rfl, by kernel_rfl⟩
instance : Fn Tryz.prog 52 := ⟨_, Tryz.func52, by kernel_rfl, by kernel_rfl⟩
instance : Fn Tryz.prog 53 := ⟨_, Tryz.func53, by kernel_rfl, by kernel_rfl⟩
instance : Fn Tryz.prog 54 := ⟨_, Tryz.func54, by kernel_rfl, by kernel_rfl⟩
instance : Fn Tryz.prog 55 := ⟨_, Tryz.func55, by kernel_rfl, by kernel_rfl⟩
instance : Fn Tryz.prog 56 := ⟨_, Tryz.func56, by kernel_rfl, by kernel_rfl⟩
instance : Fn Tryz.prog 57 := ⟨_, Tryz.func57, by kernel_rfl, by kernel_rfl⟩
instance : Fn Tryz.prog 58 := ⟨_, Tryz.func58, by kernel_rfl, by kernel_rfl⟩
instance : Fn Tryz.prog 59 := ⟨_, Tryz.func59, by kernel_rfl, by kernel_rfl⟩
instance : Fn Tryz.prog 60 := ⟨_, Tryz.func60, by kernel_rfl, by kernel_rfl⟩
instance : Fn Tryz.prog 61 := ⟨_, Tryz.func61, by kernel_rfl, by kernel_rfl⟩
instance : Fn Tryz.prog 62 := ⟨_, Tryz.func62, by kernel_rfl, by kernel_rfl⟩
instance : Fn Tryz.prog 63 := ⟨_, Tryz.func63, by kernel_rfl, by kernel_rfl⟩
instance : Fn Tryz.prog 64 := ⟨_, Tryz.func64, by kernel_rfl, by kernel_rfl⟩
instance : Fn Tryz.prog 65 := ⟨_, Tryz.func65, by kernel_rfl, by kernel_rfl⟩
instance : Fn Tryz.prog 66 := ⟨_, Tryz.func66, by kernel_rfl, by kernel_rfl⟩
instance : Fn Tryz.prog 67 := ⟨_, Tryz.func67, by kernel_rfl, by kernel_rfl⟩
instance : Fn Tryz.prog 68 := ⟨_, Tryz.func68, by kernel_rfl, by kernel_rfl⟩
instance : Fn Tryz.prog 69 := ⟨_, Tryz.func69, by kernel_rfl, by kernel_rfl⟩
instance : Fn Tryz.prog 70 := ⟨_, Tryz.func70, by kernel_rfl, by kernel_rfl⟩
instance : Fn Tryz.prog 71 := ⟨_, Tryz.func71, by kernel_rfl, by kernel_rfl⟩
instance : Fn Tryz.prog 72 := ⟨_, Tryz.func72, by kernel_rfl, by kernel_rfl⟩
instance : Fn Tryz.prog 73 := ⟨_, Tryz.func73, by kernel_rfl, by kernel_rfl⟩
instance : Fn Tryz.prog 74 := ⟨_, Tryz.func74, by kernel_rfl, by kernel_rfl⟩
instance : Fn Tryz.prog 75 := ⟨_, Tryz.func75, by kernel_rfl, by kernel_rfl⟩
instance : Fn Tryz.prog 76 := ⟨_, Tryz.func76, by kernel_rfl, by kernel_rfl⟩
instance : Fn Tryz.prog 77 := ⟨_, Tryz.func77, by kernel_rfl, by kernel_rfl⟩
instance : Fn Tryz.prog 78 := ⟨_, Tryz.func78, by kernel_rfl, by kernel_rfl⟩
instance : Fn Tryz.prog 79 := ⟨_, Tryz.func79, by kernel_rfl, by kernel_rfl⟩
instance : Fn Tryz.prog 80 := ⟨_, Tryz.func80, by kernel_rfl, by kernel_rfl⟩
instance : Fn Tryz.prog 81 := ⟨_, Tryz.func81, by kernel_rfl, by kernel_rfl⟩
instance : Fn Tryz.prog 82 := ⟨_, Tryz.func82, by kernel_rfl, by kernel_rfl⟩
instance : Fn Tryz.prog 83 := ⟨_, Tryz.func83, by kernel_rfl, by kernel_rfl⟩
instance : Fn Tryz.prog 84 := ⟨_, Tryz.func84, by kernel_rfl, by kernel_rfl⟩
instance : Fn Tryz.prog 85 := ⟨_, Tryz.func85, by kernel_rfl, by kernel_rfl⟩
instance : Fn Tryz.prog 86 := ⟨_, Tryz.func86, by kernel_rfl, by kernel_rfl⟩
instance : Fn Tryz.prog 87 := ⟨_, Tryz.func87, by kernel_rfl, by kernel_rfl⟩
instance : Fn Tryz.prog 88 := ⟨_, Tryz.func88, by kernel_rfl, by kernel_rfl⟩
instance : Fn Tryz.prog 89 := ⟨_, Tryz.func89, by kernel_rfl, by kernel_rfl⟩
instance : Fn Tryz.prog 90 := ⟨_, Tryz.func90, by kernel_rfl, by kernel_rfl⟩
instance : Fn Tryz.prog 91 := ⟨_, Tryz.func91, by kernel_rfl, by kernel_rfl⟩
instance : Fn Tryz.prog 92 := ⟨_, Tryz.func92, by kernel_rfl, by kernel_rfl⟩
instance : Fn Tryz.prog 93 := ⟨_, Tryz.func93, by kernel_rfl, by kernel_rfl⟩
instance : Fn Tryz.prog 94 := ⟨_, Tryz.func94, by kernel_rfl, by kernel_rfl⟩
instance : Fn Tryz.prog 95 := ⟨_, Tryz.func95, by kernel_rfl, by kernel_rfl⟩
instance : Fn Tryz.prog 96 := ⟨_, Tryz.func96, by kernel_rfl, by kernel_rfl⟩
instance : Fn Tryz.prog 97 := ⟨_, Tryz.func97, by kernel_rfl, by kernel_rfl⟩
instance : Fn Tryz.prog 98 := ⟨_, Tryz.func98, by kernel_rfl, by kernel_rfl⟩
instance : Fn Tryz.prog 99 := ⟨_, Tryz.func99, by kernel_rfl, by kernel_rfl⟩
instance : Fn Tryz.prog 100 := ⟨_, Tryz.func100, by kernel_rfl, by kernel_rfl⟩
instance : Fn Tryz.prog 101 := ⟨_, Tryz.func101, by kernel_rfl, by kernel_rfl⟩
instance : Fn Tryz.prog 102 := ⟨_, Tryz.func102, by kernel_rfl, by kernel_rfl⟩
instance : Fn Tryz.prog 103 := ⟨_, Tryz.func103, by kernel_rfl, by kernel_rfl⟩
instance : Fn Tryz.prog 104 := ⟨_, Tryz.func104, by kernel_rfl, by kernel_rfl⟩
instance : Fn Tryz.prog 105 := ⟨_, Tryz.func105, by kernel_rfl, by kernel_rfl⟩
instance : Fn Tryz.prog 106 := ⟨_, Tryz.func106, by kernel_rfl, by kernel_rfl⟩
instance : Fn Tryz.prog 107 := ⟨_, Tryz.func107, by kernel_rfl, by kernel_rfl⟩
instance : Fn Tryz.prog 108 := ⟨_, Tryz.func108, by kernel_rfl, by kernel_rfl⟩
instance : Fn Tryz.prog 109 := ⟨_, Tryz.func109, by kernel_rfl, by kernel_rfl⟩
instance : Fn Tryz.prog 110 := ⟨_, Tryz.func110, by kernel_rfl, by kernel_rfl⟩
instance : Fn Tryz.prog 111 := ⟨_, Tryz.func111, by kernel_rfl, by kernel_rfl⟩
instance : Fn Tryz.prog 112 := ⟨_, Tryz.func112, by kernel_rfl, by kernel_rfl⟩
instance : Fn Tryz.prog 113 := ⟨_, Tryz.func113, by kernel_rfl, by kernel_rfl⟩
instance : Fn Tryz.prog 114 := ⟨_, Tryz.func114, by kernel_rfl, by kernel_rfl⟩
instance : Fn Tryz.prog 115 := ⟨_, Tryz.func115, by kernel_rfl, by kernel_rfl⟩
instance : Fn Tryz.prog 116 := ⟨_, Tryz.func116, by kernel_rfl, by kernel_rfl⟩
instance : Fn Tryz.prog 117 := ⟨_, Tryz.func117, by kernel_rfl, by kernel_rfl⟩
instance : Fn Tryz.prog 118 := ⟨_, Tryz.func118, by kernel_rfl, by kernel_rfl⟩
instance : Fn Tryz.prog 119 := ⟨_, Tryz.func119, by kernel_rfl, by kernel_rfl⟩
instance : Fn Tryz.prog 120 := ⟨_, Tryz.func120, by kernel_rfl, by kernel_rfl⟩
instance : Fn Tryz.prog 121 := ⟨_, Tryz.func121, by kernel_rfl, by kernel_rfl⟩
instance : Fn Tryz.prog 122 := ⟨_, Tryz.func122, by kernel_rfl, by kernel_rfl⟩
instance : Fn Tryz.prog 124 := ⟨_, Tryz.func124, by kernel_rfl, by kernel_rfl⟩
instance : Fn Tryz.prog 125 := ⟨_, Tryz.func125, by kernel_rfl, by kernel_rfl⟩
instance : Fn Tryz.prog 126 := ⟨_, Tryz.func126, by kernel_rfl, by kernel_rfl⟩
instance : Fn Tryz.prog 127 := ⟨_, Tryz.func127, by kernel_rfl, by kernel_rfl⟩
instance : Fn Tryz.prog 128 := ⟨_, Tryz.func128, by kernel_rfl, by kernel_rfl⟩
instance : Fn Tryz.prog 129 := ⟨_, Tryz.func129, by kernel_rfl, by kernel_rfl⟩
instance : Fn Tryz.prog 130 := ⟨_, Tryz.func130, by kernel_rfl, by kernel_rfl⟩
instance : Fn Tryz.prog 131 := ⟨_, Tryz.func131, by kernel_rfl, by kernel_rfl⟩
instance : Fn Tryz.prog 132 := ⟨_, Tryz.func132, by kernel_rfl, by kernel_rfl⟩
instance : Fn Tryz.prog 133 := ⟨_, Tryz.func133, by kernel_rfl, by kernel_rfl⟩
instance : Fn Tryz.prog 134 := ⟨_, Tryz.func134, by kernel_rfl, by kernel_rfl⟩
instance : Fn Tryz.prog 135 := ⟨_, Tryz.func135, by kernel_rfl, by kernel_rfl⟩
instance : Fn Tryz.prog 136 := ⟨_, Tryz.func136, by kernel_rfl, by kernel_rfl⟩
instance : Fn Tryz.prog 137 := ⟨_, Tryz.func137, by kernel_rfl, by kernel_rfl⟩
instance : Fn Tryz.prog 138 := ⟨_, Tryz.func138, by kernel_rfl, by kernel_rfl⟩
instance : Fn Tryz.prog 139 := ⟨_, Tryz.func139, by kernel_rfl, by kernel_rfl⟩
instance : Fn Tryz.prog 140 := ⟨_, Tryz.func140, by kernel_rfl, by kernel_rfl⟩
instance : Fn Tryz.prog 141 := ⟨_, Tryz.func141, by kernel_rfl, by kernel_rfl⟩
instance : Fn Tryz.prog 142 := ⟨_, Tryz.func142, by kernel_rfl, by kernel_rfl⟩
instance : Fn Tryz.prog 143 := ⟨_, Tryz.func143, by kernel_rfl, by kernel_rfl⟩
instance : Fn Tryz.prog 144 := ⟨_, Tryz.func144, by kernel_rfl, by kernel_rfl⟩
instance : Fn Tryz.prog 145 := ⟨_, Tryz.func145, by kernel_rfl, by kernel_rfl⟩
instance : Fn Tryz.prog 146 := ⟨_, Tryz.func146, by kernel_rfl, by kernel_rfl⟩
instance : Fn Tryz.prog 147 := ⟨_, Tryz.func147, by kernel_rfl, by kernel_rfl⟩
instance : Fn Tryz.prog 148 := ⟨_, Tryz.func148, by kernel_rfl, by kernel_rfl⟩
instance : Fn Tryz.prog 149 := ⟨_, Tryz.func149, by kernel_rfl, by kernel_rfl⟩
theorem mx : Tryz.prog.follows .mixedOrders = true := by kernel_rfl
end Go.Proofs.YtieaiheejhmbfaaGreatDoor.ML
/- Slices that read as lists; the values and the tables of the chapter in memory. No conditions. -/
namespace Go.Proofs.YtieaiheejhmbfaaGreatDoor.ML
open Go.RowKit
set_option linter.unusedVariables false
/-- A slice value that reads as a list: R reads an element at its place. -/
def RdS {α : Type} (z : Nat) (R : Nat → Nat → α → Prop) (A : Option Addr) (c : Nat) (l : List α) : Prop :=
  l.length ≤ c ∧ l.length ≤ 140737488355328 ∧ ∃ b o, (l ≠ [] → A = some ⟨b, o, none⟩) ∧ ∀ i (h : i < l.length), R b (o + i * z) l[i]
theorem RdS.nil {α : Type} {z : Nat} {R : Nat → Nat → α → Prop} {A : Option Addr} {c : Nat} : RdS z R A c [] := ⟨Nat.zero_le _, Nat.zero_le _, 0, 0, fun h => absurd rfl h, fun i h => by simp at h⟩
theorem RdS.imp {α : Type} {z : Nat} {R R' : Nat → Nat → α → Prop} {A : Option Addr} {c : Nat} {l : List α} (h : RdS z R A c l) (hr : ∀ b o x, R b o x → R' b o x) : RdS z R' A c l := by
  obtain ⟨h1, hb, b, o, h2, h3⟩ := h
  exact ⟨h1, hb, b, o, h2, fun i hi => hr _ _ _ (h3 i hi)⟩
theorem RdS.bd {α : Type} {z : Nat} {R : Nat → Nat → α → Prop} {A : Option Addr} {c : Nat} {l : List α} (h : RdS z R A c l) : l.length ≤ 140737488355328 := h.2.1
theorem RdS.at {α : Type} {z : Nat} {R : Nat → Nat → α → Prop} {A : Option Addr} {c : Nat} {l : List α} (h : RdS z R A c l) (i : Nat) (hi : i < l.length) : ∃ b o, A = some ⟨b, o, none⟩ ∧ R b (o + i * z) l[i] := by
  obtain ⟨_, _, b, o, h2, h3⟩ := h
  exact ⟨b, o, h2 (by intro e; subst e; simp at hi), h3 _ hi⟩
theorem RdS.drop {α : Type} {z : Nat} {R : Nat → Nat → α → Prop} {A : Option Addr} {c : Nat} {l : List α} (h : RdS z R A c l) (i : Nat) (hi : i ≤ l.length) : RdS z R (dropA A z i c) (c - i) (l.drop i) := by
  obtain ⟨h1, hb, b, o, h2, h3⟩ := h
  refine ⟨by simp; omega, by simp; omega, b, o + i * z, fun hne => ?_, fun j hj => ?_⟩
  · have hlt : i < l.length := by
      rcases Nat.lt_or_ge i l.length with h | h
      · exact h
      · exact absurd (List.drop_eq_nil_of_le h) hne
    have hA := h2 (by intro e; subst e; simp at hlt)
    unfold dropA
    rw [if_neg (by omega), hA, Option.map_some, add_addr]
  · have hj' : i + j < l.length := by simp at hj; omega
    have := h3 (i + j) hj'
    rw [List.getElem_drop]
    rwa [show o + i * z + j * z = o + (i + j) * z by rw [Nat.add_mul]; omega]
/-! ### Values -/
inductive VT where
  | mk (num con : Int) (args : List VT)
def VT.num : VT → Int | .mk n _ _ => n
def VT.con : VT → Int | .mk _ c _ => c
def VT.args : VT → List VT | .mk _ _ l => l
inductive RdV (M : Mem) : Nat → Nat → VT → Prop
  | mk {b o : Nat} {num con : Int} {args : List VT} {A : Option Addr} {c b' o' : Nat} (h0 : Mk M b o (.int .i64 num)) (h1 : Mk M b (o + 1) (.int .i64 con)) (h2 : Mk M b (o + 2) (.slice A args.length c)) (hc : args.length ≤ c) (hb : args.length ≤ 140737488355328) (hA : args ≠ [] → A = some ⟨b', o', none⟩)
      (hel : ∀ i (h : i < args.length), RdV M b' (o' + i * 3) args[i]) : RdV M b o (.mk num con args)
theorem RdV.get {M : Mem} {b o : Nat} {x : VT} (h : RdV M b o x) : ∃ A c, Mk M b o (.int .i64 x.num) ∧ Mk M b (o + 1) (.int .i64 x.con) ∧ Mk M b (o + 2) (.slice A x.args.length c) ∧ RdS 3 (RdV M) A c x.args := by
  cases h with
  | mk h0 h1 h2 hc hb hA hel => exact ⟨_, _, h0, h1, h2, hc, hb, _, _, hA, hel⟩
theorem RdV.of {M : Mem} {b o : Nat} {x : VT} {A : Option Addr} {c : Nat} (h0 : Mk M b o (.int .i64 x.num)) (h1 : Mk M b (o + 1) (.int .i64 x.con)) (h2 : Mk M b (o + 2) (.slice A x.args.length c)) (h : RdS 3 (RdV M) A c x.args) : RdV M b o x := by
  obtain ⟨n, k, l⟩ := x
  obtain ⟨h1', hb, b', o', hA, hel⟩ := h
  exact .mk h0 h1 h2 h1' hb hA hel
theorem Mk.up {M M' : Mem} (hM : M.le M') {b off : Nat} {v : Value} (h : Mk M b off v) : Mk M' b off v := ⟨Mc.mono hM h.out⟩
theorem Mb.up {M M' : Mem} [h : LeT M M'] {b : Nat} {cs : List Value} (hb : Mb M b cs) : Mb M' b cs := ⟨by obtain ⟨T, fz, e⟩ := hb.out; exact ⟨T, fz, h.out _ _ e⟩⟩
theorem RdV.mono {M M' : Mem} (hM : M.le M') {b o : Nat} {x : VT} (h : RdV M b o x) : RdV M' b o x := by
  induction h with
  | mk h0 h1 h2 hc hb hA _ ih => exact .mk (h0.up hM) (h1.up hM) (h2.up hM) hc hb hA ih
/-- A struct api.Value as its three cells. -/
def VV (M : Mem) (A : Option Addr) (c : Nat) (x : VT) : Prop := RdS 3 (RdV M) A c x.args
theorem VV.up {M M' : Mem} {A : Option Addr} {c : Nat} {x : VT} [hm : LeT M M'] (h : VV M A c x) : VV M' A c x := h.imp fun _ _ _ h => h.mono hm.out
mutual
def same : VT → VT → Bool
  | .mk n c l, .mk n' c' l' => decide (n = n') && decide (c = c') && sameL l l'
def sameL : List VT → List VT → Bool
  | [], [] => true
  | a :: l, b :: l' => same a b && sameL l l'
  | _, _ => false
end
theorem sameL_iff : ∀ (l l' : List VT), sameL l l' = true ↔ l.length = l'.length ∧ ∀ i (h : i < l.length) (h' : i < l'.length), same l[i] l'[i] = true
  | [], [] => by simp [sameL]
  | a :: l, [] => by simp [sameL]
  | [], b :: l' => by simp [sameL]
  | a :: l, b :: l' => by
    rw [sameL, Bool.and_eq_true, sameL_iff l l']
    constructor
    · rintro ⟨h1, h2, h3⟩
      refine ⟨by simp [h2], fun i h h' => ?_⟩
      cases i with
      | zero => exact h1
      | succ i => simpa using h3 i (by simpa using h) (by simpa using h')
    · rintro ⟨h1, h2⟩
      refine ⟨h2 0 (by simp) (by simp), by simpa using h1, fun i h h' => ?_⟩
      exact h2 (i + 1) (by simpa using h) (by simpa using h')
theorem sameL_bne {l l' : List VT} (h : l.length ≠ l'.length) : sameL l l' = false := by
  cases hs : sameL l l' with
  | false => rfl
  | true => exact absurd ((sameL_iff l l').1 hs).1 h
theorem sameL_at {l l' : List VT} (i : Nat) (h : i < l.length) (h' : i < l'.length) (hn : same l[i] l'[i] = false) : sameL l l' = false := by
  cases hs : sameL l l' with
  | false => rfl
  | true => have := ((sameL_iff l l').1 hs).2 i h h'; rw [hn] at this; cases this
end Go.Proofs.YtieaiheejhmbfaaGreatDoor.ML
/- Tables of data types in memory; searches. No conditions. -/
namespace Go.Proofs.YtieaiheejhmbfaaGreatDoor.ML
open Go.RowKit
set_option linter.unusedVariables false
def RdI (M : Mem) (b o : Nat) (x : Int) : Prop := Mk M b o (.int .i64 x)
structure CT where
  name : ByteArray
  fields : List Int
structure DT where
  name : ByteArray
  cons : List CT
def RdC (M : Mem) (b o : Nat) (x : CT) : Prop := Mk M b o (.string x.name) ∧ x.name.size ≤ 140737488355328 ∧ ∃ A c, Mk M b (o + 1) (.slice A x.fields.length c) ∧ RdS 1 (RdI M) A c x.fields
def RdD (M : Mem) (b o : Nat) (x : DT) : Prop := Mk M b o (.string x.name) ∧ x.name.size ≤ 140737488355328 ∧ ∃ A c, Mk M b (o + 1) (.slice A x.cons.length c) ∧ RdS 2 (RdC M) A c x.cons
theorem RdI.up {M M' : Mem} [h : LeT M M'] {b o : Nat} {x : Int} (hx : RdI M b o x) : RdI M' b o x := Mk.up h.out hx
theorem RdS.upI {M M' : Mem} [h : LeT M M'] {A : Option Addr} {c : Nat} {l : List Int} (hx : RdS 1 (RdI M) A c l) : RdS 1 (RdI M') A c l := hx.imp fun _ _ _ h => h.up
theorem RdC.up {M M' : Mem} [h : LeT M M'] {b o : Nat} {x : CT} (hx : RdC M b o x) : RdC M' b o x := by
  obtain ⟨h1, h2, A, c, h3, h4⟩ := hx
  exact ⟨h1.up h.out, h2, A, c, h3.up h.out, h4.upI⟩
theorem RdS.upC {M M' : Mem} [h : LeT M M'] {A : Option Addr} {c : Nat} {l : List CT} (hx : RdS 2 (RdC M) A c l) : RdS 2 (RdC M') A c l := hx.imp fun _ _ _ h => h.up
theorem RdD.up {M M' : Mem} [h : LeT M M'] {b o : Nat} {x : DT} (hx : RdD M b o x) : RdD M' b o x := by
  obtain ⟨h1, h2, A, c, h3, h4⟩ := hx
  exact ⟨h1.up h.out, h2, A, c, h3.up h.out, h4.upC⟩
theorem RdS.upD {M M' : Mem} [h : LeT M M'] {A : Option Addr} {c : Nat} {l : List DT} (hx : RdS 2 (RdD M) A c l) : RdS 2 (RdD M') A c l := hx.imp fun _ _ _ h => h.up
/-- The first place of which p holds, or -1. -/
def idxP {α : Type} (p : α → Bool) : List α → Int
  | [] => -1
  | x :: l => if p x then 0 else if idxP p l < 0 then -1 else idxP p l + 1
theorem idxP_ge {α : Type} (p : α → Bool) : ∀ l : List α, -1 ≤ idxP p l ∧ idxP p l < l.length
  | [] => by simp [idxP]
  | x :: l => by
    have := idxP_ge p l
    simp only [idxP, List.length_cons]
    split
    · omega
    · split <;> omega
theorem idxP_at {α : Type} (p : α → Bool) : ∀ (l : List α) (i : Nat) (h : i < l.length), p l[i] = true → (∀ j (h' : j < l.length), j < i → p l[j] = false) → idxP p l = i
  | x :: l, 0, h, hp, _ => by simp only [List.getElem_cons_zero] at hp; simp [idxP, hp]
  | x :: l, i + 1, h, hp, hb => by
    have h0 := hb 0 (by simp) (by omega)
    simp only [List.getElem_cons_zero] at h0
    have := idxP_at p l i (by simpa using h) hp (fun j h' hj => hb (j + 1) (by simpa using h') (by omega))
    simp only [idxP, h0, this]
    simp
    omega
theorem idxP_none {α : Type} (p : α → Bool) : ∀ (l : List α), (∀ j (h' : j < l.length), p l[j] = false) → idxP p l = -1
  | [], _ => rfl
  | x :: l, hb => by
    have h0 := hb 0 (by simp)
    simp only [List.getElem_cons_zero] at h0
    have := idxP_none p l (fun j h' => hb (j + 1) (by simpa using h'))
    simp [idxP, h0, this]
theorem idxP_any' {α : Type} (p : α → Bool) : ∀ l : List α, 0 ≤ idxP p l ↔ l.any p = true
  | [] => by simp [idxP]
  | x :: l => by
    have h1 := idxP_any' p l
    have h2 := idxP_ge p l
    rw [List.any_cons, Bool.or_eq_true, ← h1]
    by_cases hx : p x = true
    · simp [idxP, hx]
    · simp only [idxP, hx, if_false, false_or, Bool.false_eq_true]
      split <;> omega
theorem idxP_any {α : Type} (p : α → Bool) (l : List α) : decide (0 ≤ idxP p l) = l.any p := by
  rw [Bool.eq_iff_iff, decide_eq_true_iff]; exact idxP_any' p l
def consF (d : List DT) (t : Int) : List CT := if t < 1 ∨ (d.length : Int) < t then [] else (d.getD (t - 1).toNat ⟨.empty, []⟩).cons
def many0 (x : DT) : Bool := decide (16 < (x.cons.length : Int)) || x.cons.any fun c => decide (6 < (c.fields.length : Int))
def manyF (d : List DT) : Bool := decide (64 < (d.length : Int)) || d.any many0
theorem any_at {α : Type} {p : α → Bool} {l : List α} (i : Nat) (h : i < l.length) (hp : p l[i] = true) : l.any p = true := List.any_eq_true.2 ⟨_, List.getElem_mem h, hp⟩
theorem any_none {α : Type} {p : α → Bool} {l : List α} (h : ∀ j (h : j < l.length), p l[j] = false) : l.any p = false := by
  rw [List.any_eq_false]
  intro x hx
  obtain ⟨j, hj, rfl⟩ := List.getElem_of_mem hx
  simp [h j hj]
def letB (c : Int) : Prop := (97 ≤ c ∧ c ≤ 122) ∨ (65 ≤ c ∧ c ≤ 90) ∨ (48 ≤ c ∧ c ≤ 57) ∨ c = 95
instance : DecidablePred letB := fun c => by unfold letB; infer_instance
def nameF (s : ByteArray) : Bool := decide (0 < s.size ∧ s.size ≤ 32 ∧ 65 ≤ byt s 0 ∧ byt s 0 ≤ 90 ∧ ∀ i : Fin s.size, letB (byt s i))
theorem nameF_e {s : ByteArray} (h : s = ⟨#[]⟩) : Value.bool false = Value.bool (nameF s) := by subst h; rfl
theorem nameF_f {s : ByteArray} (h : ¬ (0 < s.size ∧ s.size ≤ 32 ∧ 65 ≤ byt s 0 ∧ byt s 0 ≤ 90)) : Value.bool false = Value.bool (nameF s) := by
  rw [nameF]; congr 1; symm; simp only [decide_eq_false_iff_not]; exact fun ⟨a, b, c, d, _⟩ => h ⟨a, b, c, d⟩
theorem nameF_i {s : ByteArray} (i : Nat) (h : i < s.size) (hn : ¬ letB (byt s i)) : Value.bool false = Value.bool (nameF s) := by
  rw [nameF]; congr 1; symm; simp only [decide_eq_false_iff_not]; exact fun ⟨_, _, _, _, e⟩ => hn (e ⟨i, h⟩)
theorem nameF_t {s : ByteArray} (h0 : 0 < s.size) (h1 : s.size ≤ 32) (h2 : 65 ≤ byt s 0) (h3 : byt s 0 ≤ 90) (h : ∀ j, j < s.size → letB (byt s j)) : Value.bool true = Value.bool (nameF s) := by
  rw [nameF]; congr 1; symm; simp only [decide_eq_true_eq]; exact ⟨h0, h1, h2, h3, fun i => h i i.2⟩
theorem size_pos {s : ByteArray} (h : ¬ s = ⟨#[]⟩) : 0 < s.size := Nat.pos_of_ne_zero fun e => h (by
  cases s with | mk d => simp only [ByteArray.size] at e; rw [Array.eq_empty_of_size_eq_zero e])
/-- A row that stays reads as a list. -/
theorem Kept.rd {α : Type} {z : Nat} {R : Nat → Nat → α → Prop} {M : Mem} {A : Option Addr} {c : Nat} {vs : List Value} {l : List α} {n : Nat} (h : Kept M A n c z vs) (hn : l.length = n) (hb : n ≤ 140737488355328) (hel : ∀ i (hi : i < l.length) b, (∀ j v, j < z → vs[i * z + j]? = some v → Mk M b (i * z + j) v) → R b (0 + i * z) l[i]) : RdS z R A c l := by
  subst hn
  obtain ⟨h1, h2, h3⟩ := h
  by_cases hz : l = []
  · subst hz; exact RdS.nil
  · obtain ⟨b, hA, hc⟩ := h3 (List.length_pos_iff.2 hz)
    exact ⟨h2, hb, b, 0, fun _ => hA, fun i hi => hel i hi b fun j v hj hv => ⟨hc _ _ hv⟩⟩
theorem Kept.ints {M : Mem} {A : Option Addr} {c n : Nat} {l : List Int} (h : Kept M A n c 1 (l.map (.int .i64))) (hn : l.length = n) (hb : n ≤ 140737488355328) : RdS 1 (RdI M) A c l :=
  h.rd hn hb fun i hi b hc => by
    have := hc 0 (.int .i64 l[i]) (by omega) (by simp [hi])
    simpa [RdI] using this
/-- What a statement says, as a bool. -/
noncomputable def tt (p : Prop) : Bool := @decide p (Classical.propDecidable p)
theorem tt_true {p : Prop} (h : p) : tt p = true := by simp [tt, h]
theorem tt_false {p : Prop} (h : ¬ p) : tt p = false := by simp [tt, h]
theorem tt_t {p : Prop} (h : p) : Value.bool true = Value.bool (tt p) := by rw [tt_true h]
theorem tt_f {p : Prop} (h : ¬ p) : Value.bool false = Value.bool (tt p) := by rw [tt_false h]
theorem tt_iff {p q : Prop} (h : p ↔ q) : tt p = tt q := by rw [show p = q from propext h]
theorem tt_of {p : Prop} {b : Bool} (h : b = true ↔ p) : Value.bool b = Value.bool (tt p) := by
  cases b with
  | false => exact tt_f fun hp => by have := h.2 hp; cases this
  | true => exact tt_t (h.1 rfl)
theorem tt_eq {p : Prop} : tt p = true ↔ p := by simp [tt]
/-! ### The plain laws of datas -/
abbrev sBool : ByteArray := ⟨#[66, 111, 111, 108]⟩
abbrev sFalse : ByteArray := ⟨#[70, 97, 108, 115, 101]⟩
abbrev sTrue : ByteArray := ⟨#[84, 114, 117, 101]⟩
abbrev sInt : ByteArray := ⟨#[73, 110, 116]⟩
def OkD (x : DT) : Prop := nameF x.name = true ∧ x.cons.length ≠ 0 ∧ x.cons.any (fun c => !nameF c.name) = false
def FormedP (d : List DT) : Prop := ∃ h0 : 0 < d.length, d[0].name = sBool ∧ ∃ h2 : d[0].cons.length = 2, d[0].cons[0].name = sFalse ∧ d[0].cons[1].name = sTrue ∧ d[0].cons[0].fields.length + d[0].cons[1].fields.length = 0 ∧ ∀ i (h : i < d.length), OkD d[i]
end Go.Proofs.YtieaiheejhmbfaaGreatDoor.ML
/- The plain laws of datas: names twice, fields typed, types finite; the order of errors. No conditions. -/
namespace Go.Proofs.YtieaiheejhmbfaaGreatDoor.ML
open Go.RowKit
set_option linter.unusedVariables false
set_option linter.unusedSimpArgs false
/-! ### Names that occur twice -/
noncomputable def setM (l : List ByteArray) : Value → Option Value := fun v => @ite _ (∃ s ∈ l, v = .string s) (Classical.propDecidable _) (some (.bool true)) none
theorem setM_nil : (fun _ => none : Value → Option Value) = setM [] := by funext v; simp [setM]
theorem setM_push (l : List ByteArray) (s : ByteArray) : upd (setM l) (.string s) (.bool true) = setM (l ++ [s]) := by
  funext v
  by_cases h : v = .string s
  · subst h; rw [upd_self]; simp [setM]
  · rw [upd_ne h]
    have : (∃ s', s' ∈ l ∧ v = .string s') ↔ ∃ s', s' ∈ l ++ [s] ∧ v = .string s' := by
      constructor
      · rintro ⟨s', h1, h2⟩; exact ⟨s', List.mem_append_left _ h1, h2⟩
      · rintro ⟨s', h1, h2⟩
        rcases List.mem_append.1 h1 with h1 | h1
        · exact ⟨s', h1, h2⟩
        · simp at h1; subst h1; exact absurd h2 h
    unfold setM
    rw [show (∃ s', s' ∈ l ∧ v = .string s') = _ from propext this]
theorem setM_get (l : List ByteArray) (s : ByteArray) : (setM l (.string s)).getD (.bool false) = .bool (tt (s ∈ l)) := by
  unfold setM
  by_cases h : s ∈ l
  · rw [if_pos ⟨s, h, rfl⟩, tt_true h]; rfl
  · rw [if_neg (by rintro ⟨s', hs, e⟩; cases e; exact h hs), tt_false h]; rfl
def nmL (d : List DT) : List ByteArray := sInt :: d.map (·.name)
def cnL (d : List DT) : List ByteArray := d.flatMap fun x => x.cons.map (·.name)
def TwiceP (d : List DT) : Prop := ¬ ((nmL d).Nodup ∧ (cnL d).Nodup)
theorem take_succ {α : Type} (l : List α) (i : Nat) (h : i < l.length) : l.take (i + 1) = l.take i ++ [l[i]] := by rw [List.take_add_one]; simp [h]
theorem nmL_succ (d : List DT) (i : Nat) (h : i < d.length) : nmL (d.take (i + 1)) = nmL (d.take i) ++ [d[i].name] := by rw [take_succ d i h]; simp only [nmL, List.map_append, List.map_cons, List.map_nil, List.cons_append]
theorem cnL_succ (d : List DT) (i : Nat) (h : i < d.length) : cnL (d.take (i + 1)) = cnL (d.take i) ++ d[i].cons.map (·.name) := by rw [take_succ d i h]; simp only [cnL, List.flatMap_append, List.flatMap_cons, List.flatMap_nil, List.append_nil]
theorem nm_dup (d : List DT) (i : Nat) (h : i < d.length) (hm : d[i].name ∈ nmL (d.take i)) : TwiceP d := fun ⟨hn, _⟩ => by
  have e : nmL d = nmL (d.take i) ++ (d.drop i).map (·.name) := by simp only [nmL, List.cons_append]; rw [← List.map_append, List.take_append_drop]
  rw [e, List.nodup_append] at hn
  exact hn.2.2 _ hm _ (by rw [List.drop_eq_getElem_cons h, List.map_cons]; exact List.mem_cons_self ..) rfl
theorem cn_dup (d : List DT) (i : Nat) (h : i < d.length) (j : Nat) (h' : j < d[i].cons.length) (hm : d[i].cons[j].name ∈ cnL (d.take i) ++ (d[i].cons.take j).map (·.name)) : TwiceP d := fun ⟨_, hn⟩ => by
  have e : cnL d = (cnL (d.take i) ++ (d[i].cons.take j).map (·.name)) ++ ((d[i].cons.drop j).map (·.name) ++ cnL (d.drop (i + 1))) := by
    rw [List.append_assoc, ← List.append_assoc (List.map _ _), ← List.map_append, List.take_append_drop]
    have : cnL (d.take i ++ (d[i] :: d.drop (i + 1))) = cnL (d.take i) ++ (d[i].cons.map (·.name) ++ cnL (d.drop (i + 1))) := by
      unfold cnL; rw [List.flatMap_append, List.flatMap_cons]
    rw [← this, ← List.drop_eq_getElem_cons h, List.take_append_drop]
  rw [e, List.nodup_append] at hn
  exact hn.2.2 _ hm _ (List.mem_append_left _ (by rw [List.drop_eq_getElem_cons h', List.map_cons]; exact List.mem_cons_self ..)) rfl
theorem nodup_push {α : Type} {l : List α} {x : α} (h : l.Nodup) (hx : x ∉ l) : (l ++ [x]).Nodup := by
  rw [List.nodup_append]; exact ⟨h, by simp, fun a ha b hb => by simp at hb; subst hb; rintro rfl; exact hx ha⟩
/-! ### Types that are finite -/
def TypedP (d : List DT) : Prop := ∀ i (h : i < d.length) j (h' : j < d[i].cons.length), ∀ f ∈ d[i].cons[j].fields, 0 ≤ f ∧ f ≤ d.length
inductive FinT (d : List DT) : Int → Prop
  | int : FinT d 0
  | data (i : Nat) (h : i < d.length) (j : Nat) (h' : j < d[i].cons.length) (hf : ∀ f ∈ d[i].cons[j].fields, FinT d f) : FinT d ((i : Int) + 1)
def FinP (d : List DT) : Prop := ∀ i : Nat, i < d.length → FinT d ((i : Int) + 1)
def fOk (mk : List Bool) (c : CT) : Bool := !(c.fields.any fun t => !mk.getD t.toNat false)
def rdy (mk : List Bool) (x : DT) : Bool := x.cons.any (fOk mk)
def Sound (d : List DT) (mk : List Bool) : Prop := mk.length = d.length + 1 ∧ mk.getD 0 false = true ∧ ∀ k : Nat, mk.getD k false = true → FinT d k
def Closed (d : List DT) (mk : List Bool) : Prop := ∀ i (h : i < d.length), rdy mk d[i] = true → mk.getD (i + 1) false = true
def cf (mk : List Bool) : Nat := (mk.filter (fun b => !b)).length
theorem rdy_fin {d : List DT} {mk : List Bool} (hT : TypedP d) (hs : Sound d mk) {i : Nat} (h : i < d.length) (hr : rdy mk d[i] = true) : FinT d ((i : Int) + 1) := by
  unfold rdy at hr
  rw [List.any_eq_true] at hr
  obtain ⟨c, hc, hr⟩ := hr
  obtain ⟨j, hj, rfl⟩ := List.getElem_of_mem hc
  refine .data i h j hj fun f hf => ?_
  unfold fOk at hr
  simp only [Bool.not_eq_true', List.any_eq_false, Bool.not_eq_true] at hr
  have := hs.2.2 f.toNat (by have := hr f hf; simpa using this)
  rwa [Int.toNat_of_nonneg (hT i h j hj f hf).1] at this
theorem cf_set {mk : List Bool} {k : Nat} (h : k < mk.length) (hn : mk.getD k false = false) : cf (mk.set k true) < cf mk := by
  induction mk generalizing k with
  | nil => simp at h
  | cons b l ih => cases k with
    | zero => simp at hn; subst hn; simp [cf]
    | succ k =>
      have := ih (k := k) (by simpa using h) (by simpa using hn)
      unfold cf at this ⊢
      simp only [List.set_cons_succ, List.filter_cons]
      split <;> simp <;> omega
theorem getD_set {mk : List Bool} {k j : Nat} (h : k < mk.length) : (mk.set k true).getD j false = (if j = k then true else mk.getD j false) := by
  by_cases e : j = k
  · subst e; simp [h]
  · simp [e, List.getElem?_set, Ne.symm e]
theorem Sound.set {d : List DT} {mk : List Bool} (hT : TypedP d) (hs : Sound d mk) {i : Nat} (h : i < d.length) (hr : rdy mk d[i] = true) : Sound d (mk.set (i + 1) true) := by
  have hl : i + 1 < mk.length := by rw [hs.1]; omega
  refine ⟨by simp [hs.1], by rw [getD_set hl, if_neg (by omega)]; exact hs.2.1, fun k hk => ?_⟩
  rw [getD_set hl] at hk
  split at hk
  · rename_i e; subst e; have := rdy_fin hT hs h hr; simpa using this
  · exact hs.2.2 k hk
theorem Sound.init (d : List DT) : Sound d ((List.replicate (d.length + 1) false).set 0 true) := by
  have hl : 0 < (List.replicate (d.length + 1) false).length := by simp
  refine ⟨by simp, by rw [getD_set hl]; simp, fun k hk => ?_⟩
  rw [getD_set hl] at hk
  split at hk
  · rename_i e; subst e; exact .int
  · exfalso; by_cases e : k < d.length + 1 <;> simp [List.getElem?_replicate, e] at hk
theorem FinT.marked {d : List DT} {mk : List Bool} (hs : Sound d mk) (hc : Closed d mk) : ∀ t, FinT d t → mk.getD t.toNat false = true := by
  intro t ht
  induction ht with
  | int => exact hs.2.1
  | data i h j h' hf ih =>
    have := hc i h (by
      unfold rdy
      rw [List.any_eq_true]
      refine ⟨_, List.getElem_mem h', ?_⟩
      unfold fOk
      simp only [Bool.not_eq_true', List.any_eq_false, Bool.not_eq_true]
      intro f hff
      have := ih f hff
      simpa using this)
    rwa [show ((i : Int) + 1).toNat = i + 1 by omega]
theorem fin_marks {d : List DT} {mk : List Bool} (hs : Sound d mk) (hc : Closed d mk) : (!(mk.any fun x => false == x)) = true ↔ FinP d := by
  simp only [Bool.not_eq_true', List.any_eq_false, Bool.not_eq_true]
  constructor
  · intro h i hi
    have hl : i + 1 < mk.length := by rw [hs.1]; omega
    have := h mk[i + 1] (List.getElem_mem hl)
    have := hs.2.2 (i + 1) (by simp [List.getD, hl]; simpa using this)
    simpa using this
  · intro h x hx
    obtain ⟨k, hk, rfl⟩ := List.getElem_of_mem hx
    have : mk.getD k false = true := by
      cases k with
      | zero => exact hs.2.1
      | succ k =>
        have := FinT.marked hs hc _ (h k (by rw [hs.1] at hk; omega))
        rwa [show ((k : Int) + 1).toNat = k + 1 by omega] at this
    simp [List.getD, hk] at this
    simp [this]
theorem madeCells_bool (n : Nat) : (madeCells (Value.bool false).cells n).toList = (List.replicate n false).map .bool := by
  rw [show (Value.bool false).cells = #[Value.bool false] from rfl, toList_madeCells_one, List.map_replicate]
/-- The order of errors. -/
noncomputable def checkF (d : List DT) : Int := if manyF d then 6 else if tt (FormedP d) then (if tt (TwiceP d) then 8 else if tt (TypedP d) then (if tt (FinP d) then 0 else 7) else 10) else 3
def conF (s : ByteArray) : List DT → Int → Int × Int × Bool
  | [], _ => (0, 0, false)
  | x :: l, t => if 0 ≤ idxP (fun c : CT => decide (c.name = s)) x.cons then (t, idxP (fun c : CT => decide (c.name = s)) x.cons, true) else conF s l (t + 1)
theorem conF_at (s : ByteArray) (d : List DT) (i : Nat) (h : i < d.length) (t : Int) : conF s (d.drop i) t = if 0 ≤ idxP (fun c : CT => decide (c.name = s)) d[i].cons then (t, idxP (fun c : CT => decide (c.name = s)) d[i].cons, true) else conF s (d.drop (i + 1)) (t + 1) := by
  rw [List.drop_eq_getElem_cons h, conF]
def flatF (d : List DT) (t : Int) : Bool := decide (0 ≤ t ∧ t ≤ d.length) && !((consF d t).any fun c => decide (0 < (c.fields.length : Int)))
end Go.Proofs.YtieaiheejhmbfaaGreatDoor.ML
/- The plain laws of reaching: depth first. No conditions. -/
namespace Go.Proofs.YtieaiheejhmbfaaGreatDoor.ML
open Go.RowKit
set_option linter.unusedVariables false
set_option linter.unusedSimpArgs false
def fieldsF (d : List DT) (t : Int) : List Int := (consF d t).flatMap (·.fields)
def visF (d : List DT) : Nat → Int → List Int → List Int
  | 0, _, l => l
  | s + 1, t, l => if (0 ≤ t ∧ t ≤ d.length) ∧ t ∉ l then (fieldsF d t).foldl (fun l f => visF d s f l) (l ++ [t]) else l
def OkL (d : List DT) (l : List Int) : Prop := l.Nodup ∧ ∀ x ∈ l, 0 ≤ x ∧ x ≤ d.length
theorem nodup_len (n : Nat) : ∀ l : List Int, l.Nodup → (∀ x ∈ l, 0 ≤ x ∧ x < n) → l.length ≤ n := by
  induction n with
  | zero =>
    intro l _ h
    cases l with
    | nil => simp
    | cons x l => have := h x (List.mem_cons_self ..); omega
  | succ n ih =>
    intro l hn h
    have := ih (l.erase n) (hn.erase _) fun x hx => by
      rw [hn.mem_erase_iff] at hx
      have := h x hx.2
      omega
    rw [List.length_erase] at this
    split at this <;> omega
theorem OkL.len {d : List DT} {l : List Int} (h : OkL d l) : l.length ≤ d.length + 1 := nodup_len (d.length + 1) l h.1 fun x hx => by have := h.2 x hx; omega
theorem visF_ok (d : List DT) : ∀ (s : Nat) (t : Int) (l : List Int), OkL d l → OkL d (visF d s t l) ∧ l.length ≤ (visF d s t l).length
  | 0, t, l, h => ⟨h, Nat.le_refl _⟩
  | s + 1, t, l, h => by
    unfold visF
    split
    · rename_i hc
      have key : ∀ (fs : List Int) (l : List Int), OkL d l → OkL d (fs.foldl (fun l f => visF d s f l) l) ∧ l.length ≤ (fs.foldl (fun l f => visF d s f l) l).length := by
        intro fs
        induction fs with
        | nil => intro l h; exact ⟨h, Nat.le_refl _⟩
        | cons f fs ih =>
          intro l h
          have h1 := visF_ok d s f l h
          have h2 := ih _ h1.1
          exact ⟨h2.1, Nat.le_trans h1.2 h2.2⟩
      have h0 : OkL d (l ++ [t]) := ⟨nodup_push h.1 hc.2, fun x hx => by
        rcases List.mem_append.1 hx with hx | hx
        · exact h.2 x hx
        · simp at hx; subst hx; exact hc.1⟩
      have := key (fieldsF d t) (l ++ [t]) h0
      exact ⟨this.1, by have := this.2; simp at this; omega⟩
    · exact ⟨h, Nat.le_refl _⟩
theorem visF_in {d : List DT} {s : Nat} {t : Int} {l : List Int} (h : t ∈ l) : visF d s t l = l := by
  cases s with
  | zero => rfl
  | succ s => rw [visF, if_neg (fun hc => hc.2 h)]
theorem visF_out {d : List DT} {s : Nat} {t : Int} {l : List Int} (h : ¬ (0 ≤ t ∧ t ≤ d.length)) : visF d s t l = l := by
  cases s with
  | zero => rfl
  | succ s => rw [visF, if_neg (fun hc => h hc.1)]
theorem visF_new {d : List DT} {s : Nat} {t : Int} {l : List Int} (h : 0 ≤ t ∧ t ≤ d.length) (hn : t ∉ l) : visF d (s + 1) t l = (fieldsF d t).foldl (fun l f => visF d s f l) (l ++ [t]) := by rw [visF, if_pos ⟨h, hn⟩]
/-- A map whose keys are those of a list. -/
def MemM (m : Value → Option Value) (l : List Int) : Prop := ∀ t : Int, (m (.int .i64 t)).isSome = true ↔ t ∈ l
theorem MemM.nil : MemM (fun _ => none) [] := fun t => by simp
theorem MemM.push {m : Value → Option Value} {l : List Int} (h : MemM m l) (t : Int) (v : Value) : MemM (upd m (.int .i64 t) v) (l ++ [t]) := fun x => by
  by_cases e : x = t
  · subst e; rw [upd_self]; simp
  · rw [upd_ne (by intro h; cases h; exact e rfl), h x]; simp [e]
noncomputable def reachF (d : List DT) (t : Int) : List Int := visF d (d.length + 2) t []
noncomputable def recF (d : List DT) (t : Int) : Bool := (consF d t).any fun c => c.fields.any fun f => (reachF d f).any fun x => decide (t = x)
end Go.Proofs.YtieaiheejhmbfaaGreatDoor.ML
/- The plain laws of value: the table, the walk over a value. No conditions. -/
namespace Go.Proofs.YtieaiheejhmbfaaGreatDoor.ML
open Go.RowKit
set_option linter.unusedVariables false
set_option linter.unusedSimpArgs false
theorem LeT.tr {A B C : Mem} (h : LeT A B) (k : LeT B C) : LeT A C := ⟨h.out.trans k.out⟩
noncomputable def tableF (d : List DT) (t : Int) : Int := if checkF d ≠ 0 then 3 else if t < 0 ∨ (d.length : Int) < t then 2 else 0
theorem checkF_ok {d : List DT} (h : checkF d = 0) : manyF d = false ∧ FormedP d ∧ ¬ TwiceP d ∧ TypedP d ∧ FinP d := by
  unfold checkF at h
  split at h
  · cases h
  rename_i h1
  split at h
  · rename_i h2
    split at h
    · cases h
    rename_i h3
    split at h
    · rename_i h4
      split at h
      · rename_i h5
        exact ⟨by simpa using h1, tt_eq.1 h2, fun hp => h3 (tt_true hp), tt_eq.1 h4, tt_eq.1 h5⟩
      · cases h
    · cases h
  · cases h
theorem tableF_ok {d : List DT} {t : Int} (h : tableF d t = 0) : checkF d = 0 ∧ 0 ≤ t ∧ t ≤ d.length := by
  unfold tableF at h
  split at h
  · cases h
  rename_i h1
  split at h
  · cases h
  rename_i h2
  exact ⟨by simpa using h1, by omega, by omega⟩
theorem consF_at (d : List DT) (i : Nat) (h : i < d.length) : consF d ((i : Int) + 1) = d[i].cons := by
  rw [consF, if_neg (by omega)]
  simp [List.getD, List.getElem?_eq_getElem h]
theorem typed_at {d : List DT} (hT : TypedP d) (t : Int) (k : Nat) (hk : k < (consF d t).length) : ∀ f ∈ (consF d t)[k].fields, 0 ≤ f ∧ f ≤ d.length := by
  intro f hf
  by_cases ht : t < 1 ∨ (d.length : Int) < t
  · have : consF d t = [] := by rw [consF, if_pos ht]
    simp [this] at hk
  · obtain ⟨i, rfl⟩ : ∃ i : Nat, t = (i : Int) + 1 := ⟨(t - 1).toNat, by omega⟩
    have hi : i < d.length := by omega
    simp only [consF_at d i hi] at hk hf
    exact hT i hi k hk f hf
/-! ### The walk over a value -/
section
variable {σ : Type} (d : List DT) (f : σ → Int → Int → σ)
/-- What is wrong with a part. -/
def badV (t : Int) (v : VT) : Bool := if t = 0 then decide (v.con ≠ 0 ∨ 0 < v.args.length) else decide (v.num ≠ 0 ∨ v.con < 0 ∨ ((consF d t).length : Int) ≤ v.con ∨ v.args.length ≠ ((consF d t).getD v.con.toNat ⟨⟨#[]⟩, []⟩).fields.length)
def fldV (t : Int) (v : VT) : List Int := ((consF d t).getD v.con.toNat ⟨⟨#[]⟩, []⟩).fields
mutual
def wV : Int → VT → Nat → σ → Int × Nat × σ
  | t, .mk num con args, n, s =>
    if badV d t (.mk num con args) then (10, n, s)
    else if t = 0 then (0, n, f s t 0)
    else if 0 < args.length ∧ n = 65536 then (18, n, s)
    else wL (fldV d t (.mk num con args)) args (if 0 < args.length then n + 1 else n) (f s t con)
def wL : List Int → List VT → Nat → σ → Int × Nat × σ
  | _, [], n, s => (0, n, s)
  | ts, v :: vs, n, s => if (wV (ts.headD 0) v n s).1 ≠ 0 then wV (ts.headD 0) v n s else wL ts.tail vs (wV (ts.headD 0) v n s).2.1 (wV (ts.headD 0) v n s).2.2
end
theorem wV_eq (t : Int) (v : VT) (n : Nat) (s : σ) : wV d f t v n s = if badV d t v then (10, n, s) else if t = 0 then (0, n, f s t 0) else if 0 < v.args.length ∧ n = 65536 then (18, n, s)
    else wL d f (fldV d t v) v.args (if 0 < v.args.length then n + 1 else n) (f s t v.con) := by
  cases v; rw [wV]; rfl
theorem wL_at (ts : List Int) (vs : List VT) (n : Nat) (s : σ) (i : Nat) (h : i < vs.length) (h' : i < ts.length) : wL d f (ts.drop i) (vs.drop i) n s =
    if (wV d f ts[i] vs[i] n s).1 ≠ 0 then wV d f ts[i] vs[i] n s else wL d f (ts.drop (i + 1)) (vs.drop (i + 1)) (wV d f ts[i] vs[i] n s).2.1 (wV d f ts[i] vs[i] n s).2.2 := by
  rw [List.drop_eq_getElem_cons h, List.drop_eq_getElem_cons h', wL]
  rfl
theorem wL_nil (ts : List Int) (n : Nat) (s : σ) : wL d f ts [] n s = (0, n, s) := by rw [wL]
mutual
theorem wV_le (d : List DT) (f : σ → Int → Int → σ) : ∀ (t : Int) (v : VT) (n : Nat) (s : σ), n ≤ 65536 → (wV d f t v n s).2.1 ≤ 65536
  | t, .mk num con args, n, s, h => by
    rw [wV]
    split
    · exact h
    split
    · exact h
    split
    · exact h
    · exact wL_le d f _ args _ _ (by split <;> omega)
theorem wL_le (d : List DT) (f : σ → Int → Int → σ) : ∀ (ts : List Int) (vs : List VT) (n : Nat) (s : σ), n ≤ 65536 → (wL d f ts vs n s).2.1 ≤ 65536
  | ts, [], n, s, h => by rw [wL]; exact h
  | ts, v :: vs, n, s, h => by
    rw [wL]
    split
    · exact wV_le d f _ v n s h
    · exact wL_le d f _ vs _ _ (wV_le d f _ v n s h)
end
end
theorem badV_at (d : List DT) (p : Nat) (hp : p < d.length) (v : VT) : badV d ((p : Int) + 1) v = decide (v.num ≠ 0 ∨ v.con < 0 ∨ (d[p].cons.length : Int) ≤ v.con ∨ v.args.length ≠ (d[p].cons.getD v.con.toNat ⟨⟨#[]⟩, []⟩).fields.length) := by
  unfold badV
  rw [if_neg (by omega), consF_at d p hp]
theorem fldV_at (d : List DT) (p : Nat) (hp : p < d.length) (v : VT) (k : Nat) (hk : v.con = k) (hk' : k < d[p].cons.length) : fldV d ((p : Int) + 1) v = d[p].cons[k].fields := by
  unfold fldV
  rw [consF_at d p hp, hk]
  simp [List.getD, hk']
/-- Cells: the number of cells, and the error. -/
noncomputable def cellsF (d : List DT) (t : Int) (v : VT) : Int × Int :=
  if tableF d t ≠ 0 then (0, tableF d t) else if (wV d (fun (_ : Unit) _ _ => ()) t v 0 ()).1 ≠ 0 then (0, (wV d (fun (_ : Unit) _ _ => ()) t v 0 ()).1) else ((wV d (fun (_ : Unit) _ _ => ()) t v 0 ()).2.1, 0)
end Go.Proofs.YtieaiheejhmbfaaGreatDoor.ML
/- The plain laws of shapes and counts. No conditions. -/
namespace Go.Proofs.YtieaiheejhmbfaaGreatDoor.ML
open Go.RowKit
set_option linter.unusedVariables false
set_option linter.unusedSimpArgs false
noncomputable def setQ (l : List Value) : Value → Option Value := fun v => @ite _ (v ∈ l) (Classical.propDecidable _) (some (.bool true)) none
theorem setQ_nil : (fun _ => none : Value → Option Value) = setQ [] := by funext v; simp [setQ]
theorem setQ_push (l : List Value) (k : Value) : upd (setQ l) k (.bool true) = setQ (l ++ [k]) := by
  funext v
  by_cases h : v = k
  · subst h; rw [upd_self]; simp [setQ]
  · rw [upd_ne h]
    have : (v ∈ l) ↔ (v ∈ l ++ [k]) := by simp [h]
    unfold setQ
    rw [show (v ∈ l) = _ from propext this]
theorem setQ_get (l : List Int) (t : Int) : (setQ (l.map (.int .i64)) (.int .i64 t)).getD (.bool false) = .bool (decide (t ∈ l)) := by
  unfold setQ
  by_cases h : t ∈ l
  · rw [if_pos (List.mem_map_of_mem h)]; simp [h]
  · rw [if_neg (by rw [List.mem_map]; rintro ⟨x, hx, e⟩; cases e; exact h hx)]; simp [h]
def cvF (d : List DT) : Nat → Int → List Int → List Int
  | 0, _, l => l
  | s + 1, t, l => if t ∉ l ∧ flatF d t = false then (fieldsF d t).foldl (fun l f => cvF d s f l) (l ++ [t]) else l
theorem cvF_in {d : List DT} {s : Nat} {t : Int} {l : List Int} (h : t ∈ l) : cvF d s t l = l := by
  cases s with
  | zero => rfl
  | succ s => rw [cvF, if_neg (fun hc => hc.1 h)]
theorem cvF_flat {d : List DT} {s : Nat} {t : Int} {l : List Int} (h : flatF d t = true) : cvF d s t l = l := by
  cases s with
  | zero => rfl
  | succ s => rw [cvF, if_neg (fun hc => by rw [h] at hc; cases hc.2)]
theorem cvF_new {d : List DT} {s : Nat} {t : Int} {l : List Int} (h : flatF d t = false) (hn : t ∉ l) : cvF d (s + 1) t l = (fieldsF d t).foldl (fun l f => cvF d s f l) (l ++ [t]) := by rw [cvF, if_pos ⟨hn, h⟩]
theorem flatF_pos {d : List DT} {t : Int} (h : 0 ≤ t ∧ t ≤ d.length) (hf : flatF d t = false) : 1 ≤ t := by
  rcases Int.lt_or_le 0 t with h1 | h1
  · omega
  · obtain rfl : t = 0 := by omega
    have : consF d 0 = [] := by rw [consF, if_pos (by omega)]
    simp [flatF, this] at hf
/-- Types as they are met: none twice, all of the table. -/
def OkC (d : List DT) (l : List Int) : Prop := l.Nodup ∧ ∀ x ∈ l, 1 ≤ x ∧ x ≤ d.length
theorem OkC.okl {d : List DT} {l : List Int} (h : OkC d l) : OkL d l := ⟨h.1, fun x hx => by have := h.2 x hx; omega⟩
theorem fields_at (d : List DT) (p : Nat) (hp : p < d.length) : fieldsF d ((p : Int) + 1) = d[p].cons.flatMap (·.fields) := by rw [fieldsF, consF_at d p hp]
theorem fields_ok {d : List DT} (hT : TypedP d) (t : Int) : ∀ f ∈ fieldsF d t, 0 ≤ f ∧ f ≤ d.length := fun f hf => by
  unfold fieldsF at hf
  obtain ⟨c, hc, hf⟩ := List.mem_flatMap.1 hf
  obtain ⟨k, hk, rfl⟩ := List.getElem_of_mem hc
  exact typed_at hT t k hk f hf
theorem cvF_ok (d : List DT) (hT : TypedP d) : ∀ (s : Nat) (t : Int) (l : List Int), 0 ≤ t ∧ t ≤ d.length → OkC d l → OkC d (cvF d s t l) ∧ l.length ≤ (cvF d s t l).length
  | 0, t, l, _, h => ⟨h, Nat.le_refl _⟩
  | s + 1, t, l, ht, h => by
    unfold cvF
    split
    · rename_i hc
      have key : ∀ (fs : List Int), (∀ f ∈ fs, 0 ≤ f ∧ f ≤ d.length) → ∀ (l : List Int), OkC d l → OkC d (fs.foldl (fun l f => cvF d s f l) l) ∧ l.length ≤ (fs.foldl (fun l f => cvF d s f l) l).length := by
        intro fs
        induction fs with
        | nil => intro _ l h; exact ⟨h, Nat.le_refl _⟩
        | cons f fs ih =>
          intro hf l h
          have h1 := cvF_ok d hT s f l (hf f (List.mem_cons_self ..)) h
          have h2 := ih (fun g hg => hf g (List.mem_cons_of_mem _ hg)) _ h1.1
          exact ⟨h2.1, Nat.le_trans h1.2 h2.2⟩
      have h0 : OkC d (l ++ [t]) := ⟨nodup_push h.1 hc.1, fun x hx => by
        rcases List.mem_append.1 hx with hx | hx
        · exact h.2 x hx
        · simp at hx; subst hx; exact ⟨flatF_pos ht hc.2, ht.2⟩⟩
      have := key (fieldsF d t) (fields_ok hT t) (l ++ [t]) h0
      exact ⟨this.1, by have := this.2; simp at this; omega⟩
    · exact ⟨h, Nat.le_refl _⟩
def contF (d : List DT) (t : Int) : List Int := cvF d (d.length + 2) t []
/-- The places of types. -/
def placesF (d : List DT) (l : List Int) : List (Int × Int) := l.flatMap fun x => (List.range (consF d x).length).map fun k : Nat => (x, (k : Int))
noncomputable def ofF (d : List DT) (t : Int) : List (Int × Int) := if checkF d = 0 ∧ 0 ≤ t ∧ t ≤ d.length then placesF d (contF d t) else []
def plC (x : Int × Int) : List Value := [.int .i64 x.1, .int .i64 x.2]
def RdP (M : Mem) (b o : Nat) (x : Int × Int) : Prop := Mk M b o (.int .i64 x.1) ∧ Mk M b (o + 1) (.int .i64 x.2)
theorem RdP.up {M M' : Mem} [h : LeT M M'] {b o : Nat} {x : Int × Int} (hx : RdP M b o x) : RdP M' b o x := ⟨hx.1.up h.out, hx.2.up h.out⟩
theorem RdS.upP {M M' : Mem} [h : LeT M M'] {A : Option Addr} {c : Nat} {l : List (Int × Int)} (hx : RdS 2 (RdP M) A c l) : RdS 2 (RdP M') A c l := hx.imp fun _ _ _ h => h.up
theorem plC_at : ∀ (l : List (Int × Int)) (i : Nat) (h : i < l.length), (l.flatMap plC)[i * 2]? = some (.int .i64 l[i].1) ∧ (l.flatMap plC)[i * 2 + 1]? = some (.int .i64 l[i].2)
  | x :: l, 0, _ => by simp [plC]
  | x :: l, i + 1, h => by
    have := plC_at l i (by simpa using h)
    rw [List.flatMap_cons]
    constructor
    · rw [List.getElem?_append_right (by simp [plC]; omega)]
      simpa [plC, show (i + 1) * 2 - 2 = i * 2 by omega] using this.1
    · rw [List.getElem?_append_right (by simp [plC]; omega)]
      simpa [plC, show (i + 1) * 2 + 1 - 2 = i * 2 + 1 by omega] using this.2
theorem Kept.places {M : Mem} {A : Option Addr} {c n : Nat} {l : List (Int × Int)} (h : Kept M A n c 2 (l.flatMap plC)) (hn : l.length = n) (hb : n ≤ 140737488355328) : RdS 2 (RdP M) A c l :=
  h.rd hn hb fun i hi b hc => by
    have h1 := plC_at l i hi
    have e0 := hc 0 _ (by omega) h1.1
    have e1 := hc 1 _ (by omega) h1.2
    simp only [Nat.add_zero, Nat.zero_add] at *
    exact ⟨e0, by simpa using e1⟩
theorem many_bd {d : List DT} (h : manyF d = false) : d.length ≤ 64 ∧ ∀ p (hp : p < d.length), d[p].cons.length ≤ 16 := by
  unfold manyF at h
  simp only [Bool.or_eq_false_iff, decide_eq_false_iff_not, List.any_eq_false] at h
  refine ⟨by omega, fun p hp => ?_⟩
  have := h.2 _ (List.getElem_mem hp)
  simp only [many0, Bool.or_eq_true, decide_eq_true_eq, not_or] at this
  omega
theorem cons_bd {d : List DT} (h : ∀ p (hp : p < d.length), d[p].cons.length ≤ 16) (t : Int) : (consF d t).length ≤ 16 := by
  by_cases ht : t < 1 ∨ (d.length : Int) < t
  · rw [consF, if_pos ht]; simp
  · obtain ⟨i, rfl⟩ : ∃ i : Nat, t = (i : Int) + 1 := ⟨(t - 1).toNat, by omega⟩
    rw [consF_at d i (by omega)]; exact h i (by omega)
theorem places_bd (d : List DT) (h : ∀ p (hp : p < d.length), d[p].cons.length ≤ 16) : ∀ l : List Int, (placesF d l).length ≤ l.length * 16
  | [] => by simp [placesF]
  | x :: l => by
    have h1 := places_bd d h l
    have h2 := cons_bd h x
    simp only [placesF, List.flatMap_cons, List.length_append, List.length_map, List.length_range, List.length_cons] at *
    omega
end Go.Proofs.YtieaiheejhmbfaaGreatDoor.ML
/- Maps whose keys are pairs of numbers. No conditions. -/
namespace Go.Proofs.YtieaiheejhmbfaaGreatDoor.ML
open Go.RowKit
set_option linter.unusedVariables false
set_option linter.unusedSimpArgs false
def i64B (P : Program) (t : TypeId) : Bool := match P.underlying t with | some (.int .i64) => true | _ => false
def pairB (P : Program) (T : TypeId) : Bool := (match P.underlying T with | some (.struct _) => true | _ => false) && !P.stoodInHeld T && match (P.fieldsOf T).toList with
  | [f, g] => decide (f.name ≠ "_") && decide (g.name ≠ "_") && f.offset == 0 && g.offset == 1 && i64B P f.type && i64B P g.type
  | _ => false
theorem i64B_spec {P : Program} {t : TypeId} (h : i64B P t = true) : P.underlying t = some (.int .i64) := by
  unfold i64B at h
  split at h
  · assumption
  · cases h
def PairK (v : Value) : Prop := ∃ a b : Int, v = .agg #[.int .i64 a, .int .i64 b]
section
variable {P : Program} {T : TypeId}
theorem run_part_i64 {t : TypeId} (h : i64B P t = true) (cs : Array Value) (i : Nat) (v : Value) (hv : cs[i]? = some v) (w : World) : (part t cs i).run P w = .ok v w := by
  have := i64B_spec h
  simp [part, isAgg, run_underlying this, hv]
theorem run_eq_pair (h : pairB P T = true) (a b a' b' : Int) (w : World) : (Op.equal T (.agg #[.int .i64 a, .int .i64 b]) (.agg #[.int .i64 a', .int .i64 b'])).run P w = .ok (a == a' && b == b') w := by
  unfold pairB at h
  simp only [Bool.and_eq_true] at h
  obtain ⟨⟨h1, h2⟩, h3⟩ := h
  have ht : P.underlying T = some (.struct (P.fieldsOf T)) := by
    unfold Program.fieldsOf
    split at h1
    · rename_i fs e; rw [e]
    · cases h1
  show (Op.equalIn 10000 T _ _).run P w = _
  rw [run_equalIn_struct w 9999 T _ _ ht (by simpa using h2)]
  split at h3
  · rename_i f g e
    simp only [Bool.and_eq_true, decide_eq_true_eq, beq_iff_eq] at h3
    obtain ⟨⟨⟨⟨⟨n1, n2⟩, o1⟩, o2⟩, t1⟩, t2⟩ := h3
    rw [e]
    simp only [Op.eqFields, n1, n2, ne_eq, not_false_eq_true, if_true, o1, o2]
    have p0 : ∀ (a b : Int), (part f.type #[.int .i64 a, .int .i64 b] 0).run P w = .ok (.int .i64 a) w := fun a b => run_part_i64 t1 _ 0 _ rfl w
    have p1 : ∀ (a b : Int), (part g.type #[.int .i64 a, .int .i64 b] 1).run P w = .ok (.int .i64 b) w := fun a b => run_part_i64 t2 _ 1 _ rfl w
    simp only [Sem.run_bind, p0, p1, Result.andThen_ok, run_equalIn_int w 9998 _ .i64 .i64 _ _ (i64B_spec t1), run_equalIn_int w 9998 _ .i64 .i64 _ _ (i64B_spec t2)]
    cases ha : (a == a') <;> cases hb : (b == b') <;> simp [ha, hb, Op.eqFields, p1, run_equalIn_int w 9998 _ .i64 .i64 _ _ (i64B_spec t2)]
  · cases h3
theorem run_check_pair (h : pairB P T = true) (em : Bool) (a b : Int) (w : World) : (Instr.checkKey em 10000 T (.agg #[.int .i64 a, .int .i64 b])).run P w = .ok () w := by
  unfold pairB at h
  simp only [Bool.and_eq_true] at h
  obtain ⟨⟨h1, h2⟩, h3⟩ := h
  have ht : P.underlying T = some (.struct (P.fieldsOf T)) := by
    unfold Program.fieldsOf
    split at h1
    · rename_i fs e; rw [e]
    · cases h1
  split at h3
  · rename_i f g e
    simp only [Bool.and_eq_true, decide_eq_true_eq, beq_iff_eq] at h3
    obtain ⟨⟨⟨⟨⟨n1, n2⟩, o1⟩, o2⟩, t1⟩, t2⟩ := h3
    have ck : ∀ (t : TypeId) (n : Int), i64B P t = true → (Instr.checkKey em 9999 t (.int .i64 n)).run P w = .ok () w := fun t n ht => by
      have := i64B_spec ht
      unfold Instr.checkKey
      simp [run_underlying this]
    have p0 : (part f.type #[.int .i64 a, .int .i64 b] 0).run P w = .ok (.int .i64 a) w := run_part_i64 t1 _ 0 _ rfl w
    have p1 : (part g.type #[.int .i64 a, .int .i64 b] 1).run P w = .ok (.int .i64 b) w := run_part_i64 t2 _ 1 _ rfl w
    unfold Instr.checkKey
    simp only [Sem.run_bind, run_underlying ht, Result.andThen_ok]
    rw [← Array.forIn_toList, e]
    simp [n1, n2, o1, o2, p0, p1, ck _ _ t1, ck _ _ t2]
  · cases h3
theorem KL.pair (h : pairB P T = true) : KL P T PairK where
  check w em v hv := by obtain ⟨a, b, rfl⟩ := hv; exact run_check_pair h em a b w
  find w x hx es hes := by
    obtain ⟨a, b, rfl⟩ := hx
    have h1 : ∃ fs, P.underlying T = some (.struct fs) := by
      unfold pairB at h
      simp only [Bool.and_eq_true] at h
      have h1 := h.1.1
      split at h1
      · rename_i fs e; exact ⟨fs, e⟩
      · cases h1
    obtain ⟨fs, ht⟩ := h1
    have key : ∀ (es : List MapEntry) (i : Nat), (∀ e ∈ es, PairK e.key) → ((Instr.findAsking T (.agg #[.int .i64 a, .int .i64 b]) es i).run P w = .ok none w ∧ ∀ e ∈ es, e.key ≠ .agg #[.int .i64 a, .int .i64 b]) ∨
        ∃ j e, (Instr.findAsking T (.agg #[.int .i64 a, .int .i64 b]) es i).run P w = .ok (some (i + j, e.val)) w ∧ es[j]? = some e ∧ e.key = .agg #[.int .i64 a, .int .i64 b] := by
      intro es
      induction es with
      | nil => intro i _; exact .inl ⟨rfl, by simp⟩
      | cons e es ih =>
        intro i hk
        obtain ⟨a', b', hk'⟩ := hk e (List.mem_cons_self ..)
        have hrun := run_eq_pair h a b a' b' w
        by_cases heq : a = a' ∧ b = b'
        · obtain ⟨rfl, rfl⟩ := heq
          refine .inr ⟨0, e, ?_, rfl, hk'⟩
          simp [Instr.findAsking, hk', hrun]
        · have hf : (a == a' && b == b') = false := by
            cases hx : (a == a' && b == b') with
            | false => rfl
            | true => simp at hx; exact absurd hx heq
          rw [hf] at hrun
          rcases ih (i + 1) (fun e he => hk e (List.mem_cons_of_mem _ he)) with ⟨g1, g2⟩ | ⟨j, e1, g1, g2, g3⟩
          · refine .inl ⟨?_, fun y hy => ?_⟩
            · simp [Instr.findAsking, hk', hrun, g1]
            · rcases List.mem_cons.1 hy with rfl | hy
              · rw [hk']; intro e; simp at e; exact heq ⟨e.1.symm, e.2.symm⟩
              · exact g2 y hy
          · refine .inr ⟨j + 1, e1, ?_, by simpa using g2, g3⟩
            simp [Instr.findAsking, hk', hrun, g1]; omega
    cases es with
    | nil => exact .inl ⟨by simp [Instr.findKey, run_underlying ht, Instr.findNow], by simp⟩
    | cons e es =>
      obtain ⟨a', b', hk'⟩ := hes e (List.mem_cons_self ..)
      have hn : Instr.findNow (.struct fs) (.agg #[.int .i64 a, .int .i64 b]) (e :: es) 0 = none := by
        simp [Instr.findNow, Instr.sameNow, hk']
      have hfk : (Instr.findKey T (.agg #[.int .i64 a, .int .i64 b]) (e :: es)).run P w = (Instr.findAsking T (.agg #[.int .i64 a, .int .i64 b]) (e :: es) 0).run P w := by
        simp [Instr.findKey, run_underlying ht, hn]
      rw [hfk]
      rcases key (e :: es) 0 hes with g | ⟨j, e1, g1, g2, g3⟩
      · exact .inl g
      · exact .inr ⟨j, e1, by simpa using g1, g2, g3⟩
  stays w v hv := by
    obtain ⟨a, b, rfl⟩ := hv
    simp [Instr.keyThatStays, Instr.sameBits]
end
instance : Mp Tryz.prog 78 65 3 PairK := ⟨by kernel_rfl, KL.pair (by kernel_rfl)⟩
end Go.Proofs.YtieaiheejhmbfaaGreatDoor.ML
