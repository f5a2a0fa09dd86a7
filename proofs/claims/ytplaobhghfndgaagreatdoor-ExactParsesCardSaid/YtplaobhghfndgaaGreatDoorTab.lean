import Derived.Test.YtplaobhghfndgaaGreatDoorProg
import Derived.Test.YtplaobhghfndgaaGreatDoorVd
/-! The table of the types that the walked functions load, store and make. -/
namespace Go.Proofs.YtplaobhghfndgaaGreatDoor
open Go Go.Proofs.Vc
namespace Tb
def r3 : TRow := ⟨3, false, 1, [.int .i64 0], [], 0⟩
theorem ok3 : RowOk Tryz.prog r3 (.int .i64 0) := ⟨fun w => by kernel_rfl, fun w => by kernel_rfl, fun w => by kernel_rfl, rfl, rfl, rfl, trivial, trivial⟩
def r4 : TRow := ⟨4, false, 1, [.bool false], [], 0⟩
theorem ok4 : RowOk Tryz.prog r4 (.bool false) := ⟨fun w => by kernel_rfl, fun w => by kernel_rfl, fun w => by kernel_rfl, rfl, rfl, rfl, trivial, trivial⟩
def r5 : TRow := ⟨5, false, 1, [.int .u8 0], [], 0⟩
theorem ok5 : RowOk Tryz.prog r5 (.int .u8 0) := ⟨fun w => by kernel_rfl, fun w => by kernel_rfl, fun w => by kernel_rfl, rfl, rfl, rfl, trivial, trivial⟩
def r9 : TRow := ⟨9, false, 1, [.string ⟨#[]⟩], [], 2⟩
theorem ok9 : RowOk Tryz.prog r9 (.string ⟨#[]⟩) := ⟨fun w => by kernel_rfl, fun w => by kernel_rfl, fun w => by kernel_rfl, rfl, rfl, rfl, trivial, (show Tryz.prog.underlying 9 = some .string by kernel_rfl)⟩
def r24 : TRow := ⟨24, false, 1, [.slice none 0 0], [], 1⟩
theorem ok24 : RowOk Tryz.prog r24 (.slice none 0 0) := ⟨fun w => by kernel_rfl, fun w => by kernel_rfl, fun w => by kernel_rfl, rfl, rfl, rfl, trivial, (show ∃ x, Tryz.prog.underlying 24 = some (.slice x) from ⟨140, by kernel_rfl⟩)⟩
def r26 : TRow := ⟨26, true, 3, [.bool false, .slice none 0 0, .slice none 0 0], [0, 1, 2], 0⟩
theorem ok26 : RowOk Tryz.prog r26 (.agg #[.bool false, .slice none 0 0, .slice none 0 0]) := ⟨fun w => by kernel_rfl, fun w => by kernel_rfl, fun w => by kernel_rfl, rfl, rfl, rfl, ⟨fun g o w => by kernel_rfl, fun g o w => by kernel_rfl, fun g o w => by kernel_rfl, trivial⟩, trivial⟩
def r31 : TRow := ⟨31, false, 1, [.slice none 0 0], [], 1⟩
theorem ok31 : RowOk Tryz.prog r31 (.slice none 0 0) := ⟨fun w => by kernel_rfl, fun w => by kernel_rfl, fun w => by kernel_rfl, rfl, rfl, rfl, trivial, (show ∃ x, Tryz.prog.underlying 31 = some (.slice x) from ⟨3, by kernel_rfl⟩)⟩
def r33 : TRow := ⟨33, true, 3, [.bool false, .slice none 0 0, .slice none 0 0], [0, 1, 2], 0⟩
theorem ok33 : RowOk Tryz.prog r33 (.agg #[.bool false, .slice none 0 0, .slice none 0 0]) := ⟨fun w => by kernel_rfl, fun w => by kernel_rfl, fun w => by kernel_rfl, rfl, rfl, rfl, ⟨fun g o w => by kernel_rfl, fun g o w => by kernel_rfl, fun g o w => by kernel_rfl, trivial⟩, trivial⟩
def r39 : TRow := ⟨39, true, 4, [.string ⟨#[]⟩, .string ⟨#[]⟩, .int .u8 0, .int .u8 0], [0, 1, 2, 3], 0⟩
theorem ok39 : RowOk Tryz.prog r39 (.agg #[.string ⟨#[]⟩, .string ⟨#[]⟩, .int .u8 0, .int .u8 0]) := ⟨fun w => by kernel_rfl, fun w => by kernel_rfl, fun w => by kernel_rfl, rfl, rfl, rfl, ⟨fun g o w => by kernel_rfl, fun g o w => by kernel_rfl, fun g o w => by kernel_rfl, fun g o w => by kernel_rfl, trivial⟩, trivial⟩
def r63 : TRow := ⟨63, true, 6, [.bool false, .slice none 0 0, .slice none 0 0, .bool false, .slice none 0 0, .slice none 0 0], [0, 3], 0⟩
theorem ok63 : RowOk Tryz.prog r63 (.agg #[.bool false, .slice none 0 0, .slice none 0 0, .bool false, .slice none 0 0, .slice none 0 0]) := ⟨fun w => by kernel_rfl, fun w => by kernel_rfl, fun w => by kernel_rfl, rfl, rfl, rfl, ⟨fun g o w => by kernel_rfl, fun g o w => by kernel_rfl, trivial⟩, trivial⟩
def r68 : TRow := ⟨68, true, 6, [.bool false, .slice none 0 0, .slice none 0 0, .bool false, .slice none 0 0, .slice none 0 0], [0, 3], 0⟩
theorem ok68 : RowOk Tryz.prog r68 (.agg #[.bool false, .slice none 0 0, .slice none 0 0, .bool false, .slice none 0 0, .slice none 0 0]) := ⟨fun w => by kernel_rfl, fun w => by kernel_rfl, fun w => by kernel_rfl, rfl, rfl, rfl, ⟨fun g o w => by kernel_rfl, fun g o w => by kernel_rfl, trivial⟩, trivial⟩
def r72 : TRow := ⟨72, true, 2, [.string ⟨#[]⟩, .string ⟨#[]⟩], [0, 1], 0⟩
theorem ok72 : RowOk Tryz.prog r72 (.agg #[.string ⟨#[]⟩, .string ⟨#[]⟩]) := ⟨fun w => by kernel_rfl, fun w => by kernel_rfl, fun w => by kernel_rfl, rfl, rfl, rfl, ⟨fun g o w => by kernel_rfl, fun g o w => by kernel_rfl, trivial⟩, trivial⟩
def r90 : TRow := ⟨90, true, 9, [.string ⟨#[]⟩, .string ⟨#[]⟩, .string ⟨#[]⟩, .string ⟨#[]⟩, .string ⟨#[]⟩, .string ⟨#[]⟩, .int .u8 0, .int .u8 0, .int .u8 0], [0, 2, 4, 6, 7, 8], 0⟩
theorem ok90 : RowOk Tryz.prog r90 (.agg #[.string ⟨#[]⟩, .string ⟨#[]⟩, .string ⟨#[]⟩, .string ⟨#[]⟩, .string ⟨#[]⟩, .string ⟨#[]⟩, .int .u8 0, .int .u8 0, .int .u8 0]) := ⟨fun w => by kernel_rfl, fun w => by kernel_rfl, fun w => by kernel_rfl, rfl, rfl, rfl, ⟨fun g o w => by kernel_rfl, fun g o w => by kernel_rfl, fun g o w => by kernel_rfl, fun g o w => by kernel_rfl, fun g o w => by kernel_rfl, fun g o w => by kernel_rfl, trivial⟩, trivial⟩
def r95 : TRow := ⟨95, false, 1, [.slice none 0 0], [], 1⟩
theorem ok95 : RowOk Tryz.prog r95 (.slice none 0 0) := ⟨fun w => by kernel_rfl, fun w => by kernel_rfl, fun w => by kernel_rfl, rfl, rfl, rfl, trivial, (show ∃ x, Tryz.prog.underlying 95 = some (.slice x) from ⟨26, by kernel_rfl⟩)⟩
def r113 : TRow := ⟨113, false, 1, [.slice none 0 0], [], 1⟩
theorem ok113 : RowOk Tryz.prog r113 (.slice none 0 0) := ⟨fun w => by kernel_rfl, fun w => by kernel_rfl, fun w => by kernel_rfl, rfl, rfl, rfl, trivial, (show ∃ x, Tryz.prog.underlying 113 = some (.slice x) from ⟨9, by kernel_rfl⟩)⟩
def r114 : TRow := ⟨114, false, 1, [.slice none 0 0], [], 1⟩
theorem ok114 : RowOk Tryz.prog r114 (.slice none 0 0) := ⟨fun w => by kernel_rfl, fun w => by kernel_rfl, fun w => by kernel_rfl, rfl, rfl, rfl, trivial, (show ∃ x, Tryz.prog.underlying 114 = some (.slice x) from ⟨33, by kernel_rfl⟩)⟩
def r121 : TRow := ⟨121, false, 1, [.slice none 0 0], [], 1⟩
theorem ok121 : RowOk Tryz.prog r121 (.slice none 0 0) := ⟨fun w => by kernel_rfl, fun w => by kernel_rfl, fun w => by kernel_rfl, rfl, rfl, rfl, trivial, (show ∃ x, Tryz.prog.underlying 121 = some (.slice x) from ⟨63, by kernel_rfl⟩)⟩
def r125 : TRow := ⟨125, false, 1, [.slice none 0 0], [], 1⟩
theorem ok125 : RowOk Tryz.prog r125 (.slice none 0 0) := ⟨fun w => by kernel_rfl, fun w => by kernel_rfl, fun w => by kernel_rfl, rfl, rfl, rfl, trivial, (show ∃ x, Tryz.prog.underlying 125 = some (.slice x) from ⟨68, by kernel_rfl⟩)⟩
def r130 : TRow := ⟨130, true, 6, [.slice none 0 0, .string ⟨#[]⟩, .string ⟨#[]⟩, .int .u8 0, .int .u8 0, .int .u8 0], [0, 1, 3, 4, 5], 0⟩
theorem ok130 : RowOk Tryz.prog r130 (.agg #[.slice none 0 0, .string ⟨#[]⟩, .string ⟨#[]⟩, .int .u8 0, .int .u8 0, .int .u8 0]) := ⟨fun w => by kernel_rfl, fun w => by kernel_rfl, fun w => by kernel_rfl, rfl, rfl, rfl, ⟨fun g o w => by kernel_rfl, fun g o w => by kernel_rfl, fun g o w => by kernel_rfl, fun g o w => by kernel_rfl, fun g o w => by kernel_rfl, trivial⟩, trivial⟩
def r140 : TRow := ⟨140, false, 1, [.int .u64 0], [], 0⟩
theorem ok140 : RowOk Tryz.prog r140 (.int .u64 0) := ⟨fun w => by kernel_rfl, fun w => by kernel_rfl, fun w => by kernel_rfl, rfl, rfl, rfl, trivial, trivial⟩
def r166 : TRow := ⟨166, false, 1, [.slice none 0 0], [], 1⟩
theorem ok166 : RowOk Tryz.prog r166 (.slice none 0 0) := ⟨fun w => by kernel_rfl, fun w => by kernel_rfl, fun w => by kernel_rfl, rfl, rfl, rfl, trivial, (show ∃ x, Tryz.prog.underlying 166 = some (.slice x) from ⟨5, by kernel_rfl⟩)⟩
def r181 : TRow := ⟨181, true, 19, [.int .u8 0, .int .u8 0, .int .u8 0, .int .u8 0, .int .u8 0, .int .u8 0, .int .u8 0, .int .u8 0, .int .u8 0, .int .u8 0, .int .u8 0, .int .u8 0, .int .u8 0, .int .u8 0, .int .u8 0, .int .u8 0, .int .u8 0, .int .u8 0, .int .u8 0], [], 0⟩
theorem ok181 : RowOk Tryz.prog r181 (.agg #[.int .u8 0, .int .u8 0, .int .u8 0, .int .u8 0, .int .u8 0, .int .u8 0, .int .u8 0, .int .u8 0, .int .u8 0, .int .u8 0, .int .u8 0, .int .u8 0, .int .u8 0, .int .u8 0, .int .u8 0, .int .u8 0, .int .u8 0, .int .u8 0, .int .u8 0]) := ⟨fun w => by kernel_rfl, fun w => by kernel_rfl, fun w => by kernel_rfl, rfl, rfl, rfl, trivial, trivial⟩
def r189 : TRow := ⟨189, true, 2, [.pointer none, .slice none 0 0], [0, 1], 0⟩
theorem ok189 : RowOk Tryz.prog r189 (.agg #[.pointer none, .slice none 0 0]) := ⟨fun w => by kernel_rfl, fun w => by kernel_rfl, fun w => by kernel_rfl, rfl, rfl, rfl, ⟨fun g o w => by kernel_rfl, fun g o w => by kernel_rfl, trivial⟩, trivial⟩
def r192 : TRow := ⟨192, false, 1, [.nilIface], [], 0⟩
theorem ok192 : RowOk Tryz.prog r192 (.nilIface) := ⟨fun w => by kernel_rfl, fun w => by kernel_rfl, fun w => by kernel_rfl, rfl, rfl, rfl, trivial, trivial⟩
def r223 : TRow := ⟨223, true, 2, [.int .u8 0, .int .u8 0], [0, 1], 0⟩
theorem ok223 : RowOk Tryz.prog r223 (.agg #[.int .u8 0, .int .u8 0]) := ⟨fun w => by kernel_rfl, fun w => by kernel_rfl, fun w => by kernel_rfl, rfl, rfl, rfl, ⟨fun g o w => by kernel_rfl, fun g o w => by kernel_rfl, trivial⟩, trivial⟩
end Tb
def Tb : Tab := Tab.of [Tb.r3, Tb.r4, Tb.r5, Tb.r9, Tb.r24, Tb.r26, Tb.r31, Tb.r33, Tb.r39, Tb.r63, Tb.r68, Tb.r72, Tb.r90, Tb.r95, Tb.r113, Tb.r114, Tb.r121, Tb.r125, Tb.r130, Tb.r140, Tb.r166, Tb.r181, Tb.r189, Tb.r192, Tb.r223]
theorem tb : TabOk Tryz.prog Tb := Tab.of_ok (by kernel_rfl) (by
  intro e he
  simp only [List.mem_cons, List.not_mem_nil, or_false] at he
  rcases he with rfl | rfl | rfl | rfl | rfl | rfl | rfl | rfl | rfl | rfl | rfl | rfl | rfl | rfl | rfl | rfl | rfl | rfl | rfl | rfl | rfl | rfl | rfl | rfl | rfl
  · exact ⟨_, Tb.ok3⟩
  · exact ⟨_, Tb.ok4⟩
  · exact ⟨_, Tb.ok5⟩
  · exact ⟨_, Tb.ok9⟩
  · exact ⟨_, Tb.ok24⟩
  · exact ⟨_, Tb.ok26⟩
  · exact ⟨_, Tb.ok31⟩
  · exact ⟨_, Tb.ok33⟩
  · exact ⟨_, Tb.ok39⟩
  · exact ⟨_, Tb.ok63⟩
  · exact ⟨_, Tb.ok68⟩
  · exact ⟨_, Tb.ok72⟩
  · exact ⟨_, Tb.ok90⟩
  · exact ⟨_, Tb.ok95⟩
  · exact ⟨_, Tb.ok113⟩
  · exact ⟨_, Tb.ok114⟩
  · exact ⟨_, Tb.ok121⟩
  · exact ⟨_, Tb.ok125⟩
  · exact ⟨_, Tb.ok130⟩
  · exact ⟨_, Tb.ok140⟩
  · exact ⟨_, Tb.ok166⟩
  · exact ⟨_, Tb.ok181⟩
  · exact ⟨_, Tb.ok189⟩
  · exact ⟨_, Tb.ok192⟩
  · exact ⟨_, Tb.ok223⟩)
theorem tb_size_3 : Tb.size 3 = 1 := rfl
theorem tb_agg_3 : Tb.agg 3 = false := rfl
theorem tb_zero_3 : Tb.zero 3 = some [.int .i64 0] := rfl
theorem tb_size_4 : Tb.size 4 = 1 := rfl
theorem tb_agg_4 : Tb.agg 4 = false := rfl
theorem tb_zero_4 : Tb.zero 4 = some [.bool false] := rfl
theorem tb_size_5 : Tb.size 5 = 1 := rfl
theorem tb_agg_5 : Tb.agg 5 = false := rfl
theorem tb_zero_5 : Tb.zero 5 = some [.int .u8 0] := rfl
theorem tb_size_9 : Tb.size 9 = 1 := rfl
theorem tb_agg_9 : Tb.agg 9 = false := rfl
theorem tb_zero_9 : Tb.zero 9 = some [.string ⟨#[]⟩] := rfl
theorem tb_size_24 : Tb.size 24 = 1 := rfl
theorem tb_agg_24 : Tb.agg 24 = false := rfl
theorem tb_zero_24 : Tb.zero 24 = some [.slice none 0 0] := rfl
theorem tb_size_26 : Tb.size 26 = 3 := rfl
theorem tb_agg_26 : Tb.agg 26 = true := rfl
theorem tb_zero_26 : Tb.zero 26 = some [.bool false, .slice none 0 0, .slice none 0 0] := rfl
theorem tb_fld_26_0 : Tb.fld 26 0 = some 0 := rfl
theorem tb_fld_26_1 : Tb.fld 26 1 = some 1 := rfl
theorem tb_fld_26_2 : Tb.fld 26 2 = some 2 := rfl
theorem tb_size_31 : Tb.size 31 = 1 := rfl
theorem tb_agg_31 : Tb.agg 31 = false := rfl
theorem tb_zero_31 : Tb.zero 31 = some [.slice none 0 0] := rfl
theorem tb_size_33 : Tb.size 33 = 3 := rfl
theorem tb_agg_33 : Tb.agg 33 = true := rfl
theorem tb_zero_33 : Tb.zero 33 = some [.bool false, .slice none 0 0, .slice none 0 0] := rfl
theorem tb_fld_33_0 : Tb.fld 33 0 = some 0 := rfl
theorem tb_fld_33_1 : Tb.fld 33 1 = some 1 := rfl
theorem tb_fld_33_2 : Tb.fld 33 2 = some 2 := rfl
theorem tb_size_39 : Tb.size 39 = 4 := rfl
theorem tb_agg_39 : Tb.agg 39 = true := rfl
theorem tb_zero_39 : Tb.zero 39 = some [.string ⟨#[]⟩, .string ⟨#[]⟩, .int .u8 0, .int .u8 0] := rfl
theorem tb_fld_39_0 : Tb.fld 39 0 = some 0 := rfl
theorem tb_fld_39_1 : Tb.fld 39 1 = some 1 := rfl
theorem tb_fld_39_2 : Tb.fld 39 2 = some 2 := rfl
theorem tb_fld_39_3 : Tb.fld 39 3 = some 3 := rfl
theorem tb_size_63 : Tb.size 63 = 6 := rfl
theorem tb_agg_63 : Tb.agg 63 = true := rfl
theorem tb_zero_63 : Tb.zero 63 = some [.bool false, .slice none 0 0, .slice none 0 0, .bool false, .slice none 0 0, .slice none 0 0] := rfl
theorem tb_fld_63_0 : Tb.fld 63 0 = some 0 := rfl
theorem tb_fld_63_1 : Tb.fld 63 1 = some 3 := rfl
theorem tb_size_68 : Tb.size 68 = 6 := rfl
theorem tb_agg_68 : Tb.agg 68 = true := rfl
theorem tb_zero_68 : Tb.zero 68 = some [.bool false, .slice none 0 0, .slice none 0 0, .bool false, .slice none 0 0, .slice none 0 0] := rfl
theorem tb_fld_68_0 : Tb.fld 68 0 = some 0 := rfl
theorem tb_fld_68_1 : Tb.fld 68 1 = some 3 := rfl
theorem tb_size_72 : Tb.size 72 = 2 := rfl
theorem tb_agg_72 : Tb.agg 72 = true := rfl
theorem tb_zero_72 : Tb.zero 72 = some [.string ⟨#[]⟩, .string ⟨#[]⟩] := rfl
theorem tb_fld_72_0 : Tb.fld 72 0 = some 0 := rfl
theorem tb_fld_72_1 : Tb.fld 72 1 = some 1 := rfl
theorem tb_size_90 : Tb.size 90 = 9 := rfl
theorem tb_agg_90 : Tb.agg 90 = true := rfl
theorem tb_zero_90 : Tb.zero 90 = some [.string ⟨#[]⟩, .string ⟨#[]⟩, .string ⟨#[]⟩, .string ⟨#[]⟩, .string ⟨#[]⟩, .string ⟨#[]⟩, .int .u8 0, .int .u8 0, .int .u8 0] := rfl
theorem tb_fld_90_0 : Tb.fld 90 0 = some 0 := rfl
theorem tb_fld_90_1 : Tb.fld 90 1 = some 2 := rfl
theorem tb_fld_90_2 : Tb.fld 90 2 = some 4 := rfl
theorem tb_fld_90_3 : Tb.fld 90 3 = some 6 := rfl
theorem tb_fld_90_4 : Tb.fld 90 4 = some 7 := rfl
theorem tb_fld_90_5 : Tb.fld 90 5 = some 8 := rfl
theorem tb_size_95 : Tb.size 95 = 1 := rfl
theorem tb_agg_95 : Tb.agg 95 = false := rfl
theorem tb_zero_95 : Tb.zero 95 = some [.slice none 0 0] := rfl
theorem tb_size_113 : Tb.size 113 = 1 := rfl
theorem tb_agg_113 : Tb.agg 113 = false := rfl
theorem tb_zero_113 : Tb.zero 113 = some [.slice none 0 0] := rfl
theorem tb_size_114 : Tb.size 114 = 1 := rfl
theorem tb_agg_114 : Tb.agg 114 = false := rfl
theorem tb_zero_114 : Tb.zero 114 = some [.slice none 0 0] := rfl
theorem tb_size_121 : Tb.size 121 = 1 := rfl
theorem tb_agg_121 : Tb.agg 121 = false := rfl
theorem tb_zero_121 : Tb.zero 121 = some [.slice none 0 0] := rfl
theorem tb_size_125 : Tb.size 125 = 1 := rfl
theorem tb_agg_125 : Tb.agg 125 = false := rfl
theorem tb_zero_125 : Tb.zero 125 = some [.slice none 0 0] := rfl
theorem tb_size_130 : Tb.size 130 = 6 := rfl
theorem tb_agg_130 : Tb.agg 130 = true := rfl
theorem tb_zero_130 : Tb.zero 130 = some [.slice none 0 0, .string ⟨#[]⟩, .string ⟨#[]⟩, .int .u8 0, .int .u8 0, .int .u8 0] := rfl
theorem tb_fld_130_0 : Tb.fld 130 0 = some 0 := rfl
theorem tb_fld_130_1 : Tb.fld 130 1 = some 1 := rfl
theorem tb_fld_130_2 : Tb.fld 130 2 = some 3 := rfl
theorem tb_fld_130_3 : Tb.fld 130 3 = some 4 := rfl
theorem tb_fld_130_4 : Tb.fld 130 4 = some 5 := rfl
theorem tb_size_140 : Tb.size 140 = 1 := rfl
theorem tb_agg_140 : Tb.agg 140 = false := rfl
theorem tb_zero_140 : Tb.zero 140 = some [.int .u64 0] := rfl
theorem tb_size_166 : Tb.size 166 = 1 := rfl
theorem tb_agg_166 : Tb.agg 166 = false := rfl
theorem tb_zero_166 : Tb.zero 166 = some [.slice none 0 0] := rfl
theorem tb_size_181 : Tb.size 181 = 19 := rfl
theorem tb_agg_181 : Tb.agg 181 = true := rfl
theorem tb_zero_181 : Tb.zero 181 = some [.int .u8 0, .int .u8 0, .int .u8 0, .int .u8 0, .int .u8 0, .int .u8 0, .int .u8 0, .int .u8 0, .int .u8 0, .int .u8 0, .int .u8 0, .int .u8 0, .int .u8 0, .int .u8 0, .int .u8 0, .int .u8 0, .int .u8 0, .int .u8 0, .int .u8 0] := rfl
theorem tb_size_189 : Tb.size 189 = 2 := rfl
theorem tb_agg_189 : Tb.agg 189 = true := rfl
theorem tb_zero_189 : Tb.zero 189 = some [.pointer none, .slice none 0 0] := rfl
theorem tb_fld_189_0 : Tb.fld 189 0 = some 0 := rfl
theorem tb_fld_189_1 : Tb.fld 189 1 = some 1 := rfl
theorem tb_size_192 : Tb.size 192 = 1 := rfl
theorem tb_agg_192 : Tb.agg 192 = false := rfl
theorem tb_zero_192 : Tb.zero 192 = some [.nilIface] := rfl
theorem tb_size_223 : Tb.size 223 = 2 := rfl
theorem tb_agg_223 : Tb.agg 223 = true := rfl
theorem tb_zero_223 : Tb.zero 223 = some [.int .u8 0, .int .u8 0] := rfl
theorem tb_fld_223_0 : Tb.fld 223 0 = some 0 := rfl
theorem tb_fld_223_1 : Tb.fld 223 1 = some 1 := rfl
end Go.Proofs.YtplaobhghfndgaaGreatDoor
