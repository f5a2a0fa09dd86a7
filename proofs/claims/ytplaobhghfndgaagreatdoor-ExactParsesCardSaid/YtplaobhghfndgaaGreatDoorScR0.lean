import Derived.Test.YtplaobhghfndgaaGreatDoorTab
/-! The code of functions, as the walk wants it (printed by gen.py). -/
set_option maxRecDepth 100000
namespace Go.Proofs.YtplaobhghfndgaaGreatDoor
open Go Go.Proofs.Vc
/- venturi/venturiref01.Parse -/
def S21 : SC := .seq (.ops [⟨some 2, 0, none, .alloc 33, false, [], false⟩,
  ⟨some 3, 27, none, .assign (.const (.int .i64 0)), false, [], false⟩])
 (.seq (.seq (.ops [⟨some 11, 9, none, .move (.tmp 0), false, [], false⟩,
  ⟨some 12, 3, none, .call ⟨.builtin .len, #[.tmp 11], #[9]⟩, false, [], false⟩,
  ⟨some 13, 4, none, .binOp .gtr 3 (.tmp 12) (.const (.int .i64 2000)) 3, false, [], false⟩])
 (.cond (.tmp 13)
 (.seq (.ops [⟨some 14, 33, none, .call ⟨.value (.func 56), #[.const (.int .i64 0)], #[2]⟩, true, [], false⟩,
  ⟨none, 0, none, .store 33 (.tmp 2) (.tmp 14), true, [], false⟩,
  ⟨some 3, 27, none, .assign (.const (.int .i64 5)), false, [], false⟩])
 .ret)
 .skip))
 (.seq (.ops [⟨some 15, 9, none, .move (.tmp 0), false, [], false⟩,
  ⟨some 16, 3, none, .call ⟨.builtin .len, #[.tmp 15], #[9]⟩, false, [], false⟩,
  ⟨some 17, 4, none, .binOp .gtr 3 (.tmp 16) (.const (.int .i64 0)) 3, false, [], false⟩,
  ⟨some 18, 4, none, .move (.tmp 17), false, [], false⟩,
  ⟨some 19, 9, some (18, true), .move (.tmp 0), false, [], false⟩,
  ⟨some 20, 5, some (18, true), .index 9 (.tmp 19) (.const (.int .i64 0)), false, [], false⟩,
  ⟨some 21, 4, some (18, true), .binOp .eql 5 (.tmp 20) (.const (.int .u8 45)) 5, false, [], false⟩,
  ⟨some 22, 4, none, .pick (.tmp 18) (.tmp 21) (.const (.bool false)), false, [], false⟩,
  ⟨some 4, 4, none, .assign (.tmp 22), false, [], false⟩])
 (.seq (.seq (.ops [⟨some 23, 4, none, .move (.tmp 4), false, [], false⟩])
 (.cond (.tmp 23)
 (.ops [⟨some 24, 9, none, .move (.tmp 0), false, [], false⟩,
  ⟨some 25, 9, none, .slice 9 (.tmp 24) (some (.const (.int .i64 1))) none none, false, [], false⟩,
  ⟨some 0, 9, none, .assign (.tmp 25), false, [], false⟩])
 .skip))
 (.seq (.ops [⟨some 5, 3, none, .assign (.const (.int .i64 0)), false, [], false⟩])
 (.seq (.block 0 (.loop (.seq (.seq (.ops [⟨some 26, 3, none, .move (.tmp 5), false, [], false⟩,
  ⟨some 27, 9, none, .move (.tmp 0), false, [], false⟩,
  ⟨some 28, 3, none, .call ⟨.builtin .len, #[.tmp 27], #[9]⟩, false, [], false⟩,
  ⟨some 29, 4, none, .binOp .lss 3 (.tmp 26) (.tmp 28) 3, false, [], false⟩,
  ⟨some 30, 4, none, .move (.tmp 29), false, [], false⟩,
  ⟨some 31, 9, some (30, true), .move (.tmp 0), false, [], false⟩,
  ⟨some 32, 3, some (30, true), .move (.tmp 5), false, [], false⟩,
  ⟨some 33, 5, some (30, true), .index 9 (.tmp 31) (.tmp 32), false, [], false⟩,
  ⟨some 34, 4, some (30, true), .binOp .neq 5 (.tmp 33) (.const (.int .u8 46)) 5, false, [], false⟩,
  ⟨some 35, 4, none, .pick (.tmp 30) (.tmp 34) (.const (.bool false)), false, [], false⟩,
  ⟨some 36, 4, none, .move (.tmp 35), false, [], false⟩,
  ⟨some 37, 9, some (36, true), .move (.tmp 0), false, [], false⟩,
  ⟨some 38, 3, some (36, true), .move (.tmp 5), false, [], false⟩,
  ⟨some 39, 5, some (36, true), .index 9 (.tmp 37) (.tmp 38), false, [], false⟩,
  ⟨some 40, 4, some (36, true), .binOp .neq 5 (.tmp 39) (.const (.int .u8 47)) 5, false, [], false⟩,
  ⟨some 41, 4, none, .pick (.tmp 36) (.tmp 40) (.const (.bool false)), false, [], false⟩])
 (.cond (.tmp 41)
 .skip
 (.exit 0)))
 (.block 1 (.ops [⟨some 42, 3, none, .move (.tmp 5), false, [], false⟩,
  ⟨some 43, 3, none, .binOp .add 3 (.tmp 42) (.const (.int .i64 1)) 3, false, [], false⟩,
  ⟨some 5, 3, none, .assign (.tmp 43), false, [], false⟩])))))
 (.seq (.ops [⟨some 45, 9, none, .move (.tmp 0), false, [], false⟩,
  ⟨some 46, 3, none, .move (.tmp 5), false, [], false⟩,
  ⟨some 47, 9, none, .slice 9 (.tmp 45) none (some (.tmp 46)) none, false, [], false⟩,
  ⟨some 48, 141, none, .call ⟨.value (.func 115), #[.tmp 47], #[9]⟩, true, [], false⟩,
  ⟨some 44, 141, none, .move (.tmp 48), false, [], false⟩,
  ⟨some 49, 31, none, .extract (.tmp 44) 0, false, [], false⟩,
  ⟨some 50, 4, none, .extract (.tmp 44) 1, false, [], false⟩,
  ⟨some 6, 31, none, .assign (.tmp 49), false, [], false⟩,
  ⟨some 7, 4, none, .assign (.tmp 50), false, [], false⟩])
 (.seq (.seq (.ops [⟨some 51, 4, none, .move (.tmp 7), false, [], false⟩,
  ⟨some 52, 4, none, .unOp .not 4 (.tmp 51), false, [], false⟩,
  ⟨some 53, 4, none, .move (.tmp 52), false, [], false⟩,
  ⟨some 54, 3, some (53, false), .move (.tmp 5), false, [], false⟩,
  ⟨some 55, 4, some (53, false), .binOp .gtr 3 (.tmp 54) (.const (.int .i64 1)) 3, false, [], false⟩,
  ⟨some 56, 4, some (53, false), .move (.tmp 55), false, [], false⟩,
  ⟨some 57, 9, some (56, true), .move (.tmp 0), false, [], false⟩,
  ⟨some 58, 5, some (56, true), .index 9 (.tmp 57) (.const (.int .i64 0)), false, [], false⟩,
  ⟨some 59, 4, some (56, true), .binOp .eql 5 (.tmp 58) (.const (.int .u8 48)) 5, false, [], false⟩,
  ⟨some 60, 4, some (53, false), .pick (.tmp 56) (.tmp 59) (.const (.bool false)), false, [], false⟩,
  ⟨some 61, 4, none, .pick (.tmp 53) (.const (.bool true)) (.tmp 60), false, [], false⟩])
 (.cond (.tmp 61)
 (.seq (.ops [⟨some 62, 33, none, .call ⟨.value (.func 56), #[.const (.int .i64 0)], #[2]⟩, true, [], false⟩,
  ⟨none, 0, none, .store 33 (.tmp 2) (.tmp 62), true, [], false⟩,
  ⟨some 3, 27, none, .assign (.const (.int .i64 4)), false, [], false⟩])
 .ret)
 .skip))
 (.seq (.seq (.ops [⟨some 63, 3, none, .move (.tmp 5), false, [], false⟩,
  ⟨some 64, 9, none, .move (.tmp 0), false, [], false⟩,
  ⟨some 65, 3, none, .call ⟨.builtin .len, #[.tmp 64], #[9]⟩, false, [], false⟩,
  ⟨some 66, 4, none, .binOp .eql 3 (.tmp 63) (.tmp 65) 3, false, [], false⟩])
 (.cond (.tmp 66)
 (.seq (.ops [⟨some 67, 4, none, .move (.tmp 4), false, [], false⟩,
  ⟨some 68, 31, none, .move (.tmp 6), false, [], false⟩,
  ⟨some 69, 31, none, .buildSlice 31 1 #[(0, .const (.int .i64 1))], true, [], false⟩,
  ⟨some 70, 33, none, .call ⟨.value (.func 116), #[.tmp 67, .tmp 68, .tmp 69], #[4, 31, 31]⟩, true, [], false⟩,
  ⟨none, 0, none, .store 33 (.tmp 2) (.tmp 70), true, [], false⟩,
  ⟨some 3, 27, none, .assign (.const (.int .i64 0)), false, [], false⟩])
 .ret)
 .skip))
 (.seq (.ops [⟨some 72, 9, none, .move (.tmp 0), false, [], false⟩,
  ⟨some 73, 3, none, .move (.tmp 5), false, [], false⟩,
  ⟨some 74, 3, none, .binOp .add 3 (.tmp 73) (.const (.int .i64 1)) 3, false, [], false⟩,
  ⟨some 75, 9, none, .slice 9 (.tmp 72) (some (.tmp 74)) none none, false, [], false⟩,
  ⟨some 76, 141, none, .call ⟨.value (.func 115), #[.tmp 75], #[9]⟩, true, [], false⟩,
  ⟨some 71, 141, none, .move (.tmp 76), false, [], false⟩,
  ⟨some 77, 31, none, .extract (.tmp 71) 0, false, [], false⟩,
  ⟨some 78, 4, none, .extract (.tmp 71) 1, false, [], false⟩,
  ⟨some 8, 31, none, .assign (.tmp 77), false, [], false⟩,
  ⟨some 7, 4, none, .assign (.tmp 78), false, [], false⟩])
 (.seq (.seq (.ops [⟨some 79, 4, none, .move (.tmp 7), false, [], false⟩,
  ⟨some 80, 4, none, .unOp .not 4 (.tmp 79), false, [], false⟩,
  ⟨some 81, 4, none, .move (.tmp 80), false, [], false⟩,
  ⟨some 82, 9, some (81, false), .move (.tmp 0), false, [], false⟩,
  ⟨some 83, 3, some (81, false), .move (.tmp 5), false, [], false⟩,
  ⟨some 84, 5, some (81, false), .index 9 (.tmp 82) (.tmp 83), false, [], false⟩,
  ⟨some 85, 4, some (81, false), .binOp .eql 5 (.tmp 84) (.const (.int .u8 47)) 5, false, [], false⟩,
  ⟨some 86, 4, some (81, false), .move (.tmp 85), false, [], false⟩,
  ⟨some 87, 9, some (86, true), .move (.tmp 0), false, [], false⟩,
  ⟨some 88, 3, some (86, true), .move (.tmp 5), false, [], false⟩,
  ⟨some 89, 3, some (86, true), .binOp .add 3 (.tmp 88) (.const (.int .i64 1)) 3, false, [], false⟩,
  ⟨some 90, 5, some (86, true), .index 9 (.tmp 87) (.tmp 89), false, [], false⟩,
  ⟨some 91, 4, some (86, true), .binOp .eql 5 (.tmp 90) (.const (.int .u8 48)) 5, false, [], false⟩,
  ⟨some 92, 4, some (81, false), .pick (.tmp 86) (.tmp 91) (.const (.bool false)), false, [], false⟩,
  ⟨some 93, 4, none, .pick (.tmp 81) (.const (.bool true)) (.tmp 92), false, [], false⟩])
 (.cond (.tmp 93)
 (.seq (.ops [⟨some 94, 33, none, .call ⟨.value (.func 56), #[.const (.int .i64 0)], #[2]⟩, true, [], false⟩,
  ⟨none, 0, none, .store 33 (.tmp 2) (.tmp 94), true, [], false⟩,
  ⟨some 3, 27, none, .assign (.const (.int .i64 4)), false, [], false⟩])
 .ret)
 .skip))
 (.seq (.seq (.ops [⟨some 95, 9, none, .move (.tmp 0), false, [], false⟩,
  ⟨some 96, 3, none, .move (.tmp 5), false, [], false⟩,
  ⟨some 97, 5, none, .index 9 (.tmp 95) (.tmp 96), false, [], false⟩,
  ⟨some 98, 4, none, .binOp .eql 5 (.tmp 97) (.const (.int .u8 47)) 5, false, [], false⟩])
 (.cond (.tmp 98)
 (.seq (.ops [⟨some 99, 4, none, .move (.tmp 4), false, [], false⟩,
  ⟨some 100, 31, none, .move (.tmp 6), false, [], false⟩,
  ⟨some 101, 31, none, .move (.tmp 8), false, [], false⟩,
  ⟨some 102, 33, none, .call ⟨.value (.func 116), #[.tmp 99, .tmp 100, .tmp 101], #[4, 31, 31]⟩, true, [], false⟩,
  ⟨none, 0, none, .store 33 (.tmp 2) (.tmp 102), true, [], false⟩,
  ⟨some 3, 27, none, .assign (.const (.int .i64 0)), false, [], false⟩])
 .ret)
 .skip))
 (.seq (.ops [⟨some 103, 31, none, .buildSlice 31 1 #[(0, .const (.int .i64 1))], true, [], false⟩,
  ⟨some 9, 31, none, .assign (.tmp 103), false, [], false⟩])
 (.seq (.seq (.ops [⟨some 104, 3, none, .move (.tmp 5), false, [], false⟩,
  ⟨some 105, 3, none, .binOp .add 3 (.tmp 104) (.const (.int .i64 1)) 3, false, [], false⟩,
  ⟨some 10, 3, none, .assign (.tmp 105), false, [], false⟩])
 (.block 2 (.loop (.seq (.seq (.ops [⟨some 106, 3, none, .move (.tmp 10), false, [], false⟩,
  ⟨some 107, 9, none, .move (.tmp 0), false, [], false⟩,
  ⟨some 108, 3, none, .call ⟨.builtin .len, #[.tmp 107], #[9]⟩, false, [], false⟩,
  ⟨some 109, 4, none, .binOp .lss 3 (.tmp 106) (.tmp 108) 3, false, [], false⟩])
 (.cond (.tmp 109)
 .skip
 (.exit 2)))
 (.seq (.block 3 (.ops [⟨some 112, 31, none, .move (.tmp 9), false, [], false⟩,
  ⟨some 113, 31, none, .buildSlice 31 1 #[(0, .const (.int .i64 10))], true, [], false⟩,
  ⟨some 114, 31, none, .call ⟨.value (.func 117), #[.tmp 112, .tmp 113], #[31, 31]⟩, true, [], false⟩,
  ⟨some 9, 31, none, .assign (.tmp 114), false, [], false⟩]))
 (.ops [⟨some 110, 3, none, .move (.tmp 10), false, [], false⟩,
  ⟨some 111, 3, none, .binOp .add 3 (.tmp 110) (.const (.int .i64 1)) 3, false, [], false⟩,
  ⟨some 10, 3, none, .assign (.tmp 111), false, [], false⟩]))))))
 (.seq (.ops [⟨some 115, 4, none, .move (.tmp 4), false, [], false⟩,
  ⟨some 116, 31, none, .move (.tmp 6), false, [], false⟩,
  ⟨some 117, 31, none, .move (.tmp 9), false, [], false⟩,
  ⟨some 118, 31, none, .call ⟨.value (.func 117), #[.tmp 116, .tmp 117], #[31, 31]⟩, true, [], false⟩,
  ⟨some 119, 31, none, .move (.tmp 8), false, [], false⟩,
  ⟨some 120, 31, none, .call ⟨.value (.func 118), #[.tmp 118, .tmp 119], #[31, 31]⟩, true, [], false⟩,
  ⟨some 121, 31, none, .move (.tmp 9), false, [], false⟩,
  ⟨some 122, 33, none, .call ⟨.value (.func 116), #[.tmp 115, .tmp 120, .tmp 121], #[4, 31, 31]⟩, true, [], false⟩,
  ⟨none, 0, none, .store 33 (.tmp 2) (.tmp 122), true, [], false⟩,
  ⟨some 3, 27, none, .assign (.const (.int .i64 0)), false, [], false⟩])
 .ret))))))))))))))
theorem k21 : FnOk Tryz.prog 21 123 [.cell 2 33, .tmp 3] S21 := ⟨[166, 181, 201], _, Tryz.func21, by kernel_rfl, by kernel_rfl, rfl, rfl⟩
/- venturi/venturiref01.Add -/
def S30 : SC := .seq (.ops [⟨some 2, 0, none, .box 33 (.tmp 0), false, [], false⟩,
  ⟨some 3, 0, none, .box 33 (.tmp 1), false, [], false⟩,
  ⟨some 4, 0, none, .alloc 33, false, [], false⟩])
 (.seq (.ops [⟨some 8, 0, none, .fieldAddr 33 (.tmp 2) 1, false, [], false⟩,
  ⟨some 9, 31, none, .load 31 (.tmp 8), false, [], false⟩,
  ⟨some 10, 0, none, .fieldAddr 33 (.tmp 3) 2, false, [], false⟩,
  ⟨some 11, 31, none, .load 31 (.tmp 10), false, [], false⟩,
  ⟨some 13, 0, none, .fieldAddr 33 (.tmp 3) 1, false, [], false⟩,
  ⟨some 14, 31, none, .load 31 (.tmp 13), false, [], false⟩,
  ⟨some 15, 0, none, .fieldAddr 33 (.tmp 2) 2, false, [], false⟩,
  ⟨some 16, 31, none, .load 31 (.tmp 15), false, [], false⟩,
  ⟨some 18, 0, none, .fieldAddr 33 (.tmp 2) 2, false, [], false⟩,
  ⟨some 19, 31, none, .load 31 (.tmp 18), false, [], false⟩,
  ⟨some 20, 0, none, .fieldAddr 33 (.tmp 3) 2, false, [], false⟩,
  ⟨some 21, 31, none, .load 31 (.tmp 20), false, [], false⟩,
  ⟨some 12, 31, none, .call ⟨.value (.func 117), #[.tmp 9, .tmp 11], #[31, 31]⟩, true, [], true⟩,
  ⟨some 17, 31, none, .call ⟨.value (.func 117), #[.tmp 14, .tmp 16], #[31, 31]⟩, true, [], true⟩,
  ⟨some 22, 31, none, .call ⟨.value (.func 117), #[.tmp 19, .tmp 21], #[31, 31]⟩, true, [], false⟩,
  ⟨some 5, 31, none, .assign (.tmp 12), false, [], false⟩,
  ⟨some 6, 31, none, .assign (.tmp 17), false, [], false⟩,
  ⟨some 7, 31, none, .assign (.tmp 22), false, [], false⟩])
 (.seq (.seq (.ops [⟨some 23, 0, none, .fieldAddr 33 (.tmp 2) 0, false, [], false⟩,
  ⟨some 24, 4, none, .load 4 (.tmp 23), false, [], false⟩,
  ⟨some 25, 0, none, .fieldAddr 33 (.tmp 3) 0, false, [], false⟩,
  ⟨some 26, 4, none, .load 4 (.tmp 25), false, [], false⟩,
  ⟨some 27, 4, none, .binOp .eql 4 (.tmp 24) (.tmp 26) 4, false, [], false⟩])
 (.cond (.tmp 27)
 (.seq (.ops [⟨some 28, 0, none, .fieldAddr 33 (.tmp 2) 0, false, [], false⟩,
  ⟨some 29, 4, none, .load 4 (.tmp 28), false, [], false⟩,
  ⟨some 30, 31, none, .move (.tmp 5), false, [], false⟩,
  ⟨some 31, 31, none, .move (.tmp 6), false, [], false⟩,
  ⟨some 33, 31, none, .move (.tmp 7), false, [], false⟩,
  ⟨some 32, 31, none, .call ⟨.value (.func 118), #[.tmp 30, .tmp 31], #[31, 31]⟩, true, [], true⟩,
  ⟨some 34, 33, none, .call ⟨.value (.func 116), #[.tmp 29, .tmp 32, .tmp 33], #[4, 31, 31]⟩, true, [], false⟩,
  ⟨none, 0, none, .store 33 (.tmp 4) (.tmp 34), true, [], false⟩])
 .ret)
 .skip))
 (.seq (.seq (.ops [⟨some 35, 31, none, .move (.tmp 5), false, [], false⟩,
  ⟨some 36, 31, none, .move (.tmp 6), false, [], false⟩,
  ⟨some 37, 3, none, .call ⟨.value (.func 126), #[.tmp 35, .tmp 36], #[31, 31]⟩, true, [], false⟩,
  ⟨some 38, 4, none, .binOp .geq 3 (.tmp 37) (.const (.int .i64 0)) 3, false, [], false⟩])
 (.cond (.tmp 38)
 (.seq (.ops [⟨some 39, 0, none, .fieldAddr 33 (.tmp 2) 0, false, [], false⟩,
  ⟨some 40, 4, none, .load 4 (.tmp 39), false, [], false⟩,
  ⟨some 41, 31, none, .move (.tmp 5), false, [], false⟩,
  ⟨some 42, 31, none, .move (.tmp 6), false, [], false⟩,
  ⟨some 44, 31, none, .move (.tmp 7), false, [], false⟩,
  ⟨some 43, 31, none, .call ⟨.value (.func 127), #[.tmp 41, .tmp 42], #[31, 31]⟩, true, [], true⟩,
  ⟨some 45, 33, none, .call ⟨.value (.func 116), #[.tmp 40, .tmp 43, .tmp 44], #[4, 31, 31]⟩, true, [], false⟩,
  ⟨none, 0, none, .store 33 (.tmp 4) (.tmp 45), true, [], false⟩])
 .ret)
 .skip))
 (.seq (.ops [⟨some 46, 0, none, .fieldAddr 33 (.tmp 3) 0, false, [], false⟩,
  ⟨some 47, 4, none, .load 4 (.tmp 46), false, [], false⟩,
  ⟨some 48, 31, none, .move (.tmp 6), false, [], false⟩,
  ⟨some 49, 31, none, .move (.tmp 5), false, [], false⟩,
  ⟨some 51, 31, none, .move (.tmp 7), false, [], false⟩,
  ⟨some 50, 31, none, .call ⟨.value (.func 127), #[.tmp 48, .tmp 49], #[31, 31]⟩, true, [], true⟩,
  ⟨some 52, 33, none, .call ⟨.value (.func 116), #[.tmp 47, .tmp 50, .tmp 51], #[4, 31, 31]⟩, true, [], false⟩,
  ⟨none, 0, none, .store 33 (.tmp 4) (.tmp 52), true, [], false⟩])
 .ret))))
theorem k30 : FnOk Tryz.prog 30 53 [.cell 4 33] S30 := ⟨[166, 181, 201], _, Tryz.func30, by kernel_rfl, by kernel_rfl, rfl, rfl⟩
/- venturi/venturiref01.Sub -/
def S32 : SC := .seq (.ops [⟨some 2, 0, none, .box 33 (.tmp 0), false, [], false⟩,
  ⟨some 3, 0, none, .box 33 (.tmp 1), false, [], false⟩,
  ⟨some 4, 0, none, .alloc 33, false, [], false⟩])
 (.seq (.ops [⟨some 5, 33, none, .load 33 (.tmp 2), false, [], false⟩,
  ⟨some 6, 33, none, .load 33 (.tmp 3), false, [], false⟩,
  ⟨some 7, 33, none, .call ⟨.value (.func 42), #[.tmp 6], #[33]⟩, true, [], true⟩,
  ⟨some 8, 33, none, .call ⟨.value (.func 30), #[.tmp 5, .tmp 7], #[33, 33]⟩, true, [], false⟩,
  ⟨none, 0, none, .store 33 (.tmp 4) (.tmp 8), true, [], false⟩])
 .ret)
theorem k32 : FnOk Tryz.prog 32 9 [.cell 4 33] S32 := ⟨[166, 181, 201], _, Tryz.func32, by kernel_rfl, by kernel_rfl, rfl, rfl⟩
/- venturi/venturiref01.Mul -/
def S33 : SC := .seq (.ops [⟨some 2, 0, none, .box 33 (.tmp 0), false, [], false⟩,
  ⟨some 3, 0, none, .box 33 (.tmp 1), false, [], false⟩,
  ⟨some 4, 0, none, .alloc 33, false, [], false⟩])
 (.seq (.ops [⟨some 5, 0, none, .fieldAddr 33 (.tmp 2) 0, false, [], false⟩,
  ⟨some 6, 4, none, .load 4 (.tmp 5), false, [], false⟩,
  ⟨some 7, 0, none, .fieldAddr 33 (.tmp 3) 0, false, [], false⟩,
  ⟨some 8, 4, none, .load 4 (.tmp 7), false, [], false⟩,
  ⟨some 9, 4, none, .binOp .neq 4 (.tmp 6) (.tmp 8) 4, false, [], false⟩,
  ⟨some 10, 0, none, .fieldAddr 33 (.tmp 2) 1, false, [], false⟩,
  ⟨some 11, 31, none, .load 31 (.tmp 10), false, [], false⟩,
  ⟨some 12, 0, none, .fieldAddr 33 (.tmp 3) 1, false, [], false⟩,
  ⟨some 13, 31, none, .load 31 (.tmp 12), false, [], false⟩,
  ⟨some 15, 0, none, .fieldAddr 33 (.tmp 2) 2, false, [], false⟩,
  ⟨some 16, 31, none, .load 31 (.tmp 15), false, [], false⟩,
  ⟨some 17, 0, none, .fieldAddr 33 (.tmp 3) 2, false, [], false⟩,
  ⟨some 18, 31, none, .load 31 (.tmp 17), false, [], false⟩,
  ⟨some 14, 31, none, .call ⟨.value (.func 117), #[.tmp 11, .tmp 13], #[31, 31]⟩, true, [], true⟩,
  ⟨some 19, 31, none, .call ⟨.value (.func 117), #[.tmp 16, .tmp 18], #[31, 31]⟩, true, [], true⟩,
  ⟨some 20, 33, none, .call ⟨.value (.func 116), #[.tmp 9, .tmp 14, .tmp 19], #[4, 31, 31]⟩, true, [], false⟩,
  ⟨none, 0, none, .store 33 (.tmp 4) (.tmp 20), true, [], false⟩])
 .ret)
theorem k33 : FnOk Tryz.prog 33 21 [.cell 4 33] S33 := ⟨[166, 181, 201], _, Tryz.func33, by kernel_rfl, by kernel_rfl, rfl, rfl⟩
/- venturi/venturiref01.Cmp -/
def S35 : SC := .seq (.ops [⟨some 2, 0, none, .box 33 (.tmp 0), false, [], false⟩,
  ⟨some 3, 0, none, .box 33 (.tmp 1), false, [], false⟩,
  ⟨some 4, 3, none, .assign (.const (.int .i64 0)), false, [], false⟩])
 (.seq (.seq (.ops [⟨some 6, 0, none, .fieldAddr 33 (.tmp 2) 0, false, [], false⟩,
  ⟨some 7, 4, none, .load 4 (.tmp 6), false, [], false⟩,
  ⟨some 8, 0, none, .fieldAddr 33 (.tmp 3) 0, false, [], false⟩,
  ⟨some 9, 4, none, .load 4 (.tmp 8), false, [], false⟩,
  ⟨some 10, 4, none, .binOp .neq 4 (.tmp 7) (.tmp 9) 4, false, [], false⟩])
 (.cond (.tmp 10)
 (.seq (.seq (.ops [⟨some 11, 0, none, .fieldAddr 33 (.tmp 2) 0, false, [], false⟩,
  ⟨some 12, 4, none, .load 4 (.tmp 11), false, [], false⟩])
 (.cond (.tmp 12)
 (.seq (.ops [⟨some 4, 3, none, .assign (.const (.int .i64 (-1))), false, [], false⟩])
 .ret)
 .skip))
 (.seq (.ops [⟨some 4, 3, none, .assign (.const (.int .i64 1)), false, [], false⟩])
 .ret))
 .skip))
 (.seq (.ops [⟨some 13, 0, none, .fieldAddr 33 (.tmp 2) 1, false, [], false⟩,
  ⟨some 14, 31, none, .load 31 (.tmp 13), false, [], false⟩,
  ⟨some 15, 0, none, .fieldAddr 33 (.tmp 3) 2, false, [], false⟩,
  ⟨some 16, 31, none, .load 31 (.tmp 15), false, [], false⟩,
  ⟨some 18, 0, none, .fieldAddr 33 (.tmp 3) 1, false, [], false⟩,
  ⟨some 19, 31, none, .load 31 (.tmp 18), false, [], false⟩,
  ⟨some 20, 0, none, .fieldAddr 33 (.tmp 2) 2, false, [], false⟩,
  ⟨some 21, 31, none, .load 31 (.tmp 20), false, [], false⟩,
  ⟨some 17, 31, none, .call ⟨.value (.func 117), #[.tmp 14, .tmp 16], #[31, 31]⟩, true, [], true⟩,
  ⟨some 22, 31, none, .call ⟨.value (.func 117), #[.tmp 19, .tmp 21], #[31, 31]⟩, true, [], false⟩,
  ⟨some 23, 3, none, .call ⟨.value (.func 126), #[.tmp 17, .tmp 22], #[31, 31]⟩, true, [], false⟩,
  ⟨some 5, 3, none, .assign (.tmp 23), false, [], false⟩])
 (.seq (.seq (.ops [⟨some 24, 0, none, .fieldAddr 33 (.tmp 2) 0, false, [], false⟩,
  ⟨some 25, 4, none, .load 4 (.tmp 24), false, [], false⟩])
 (.cond (.tmp 25)
 (.seq (.ops [⟨some 26, 3, none, .move (.tmp 5), false, [], false⟩,
  ⟨some 27, 3, none, .unOp .neg 3 (.tmp 26), false, [], false⟩,
  ⟨some 4, 3, none, .assign (.tmp 27), false, [], false⟩])
 .ret)
 .skip))
 (.seq (.ops [⟨some 28, 3, none, .move (.tmp 5), false, [], false⟩,
  ⟨some 4, 3, none, .assign (.tmp 28), false, [], false⟩])
 .ret))))
theorem k35 : FnOk Tryz.prog 35 29 [.tmp 4] S35 := ⟨[166, 181, 201], _, Tryz.func35, by kernel_rfl, by kernel_rfl, rfl, rfl⟩
/- venturi/venturiref01.Sign -/
def S37 : SC := .seq (.ops [⟨some 1, 0, none, .box 33 (.tmp 0), false, [], false⟩,
  ⟨some 2, 3, none, .assign (.const (.int .i64 0)), false, [], false⟩])
 (.seq (.seq (.ops [⟨some 3, 0, none, .fieldAddr 33 (.tmp 1) 0, false, [], false⟩,
  ⟨some 4, 4, none, .load 4 (.tmp 3), false, [], false⟩])
 (.cond (.tmp 4)
 (.seq (.ops [⟨some 2, 3, none, .assign (.const (.int .i64 (-1))), false, [], false⟩])
 .ret)
 .skip))
 (.seq (.ops [⟨some 5, 0, none, .fieldAddr 33 (.tmp 1) 1, false, [], false⟩,
  ⟨some 6, 31, none, .load 31 (.tmp 5), false, [], false⟩,
  ⟨some 7, 3, none, .call ⟨.builtin .len, #[.tmp 6], #[31]⟩, false, [], false⟩,
  ⟨some 8, 3, none, .call ⟨.builtin .min, #[.tmp 7, .const (.int .i64 1)], #[3, 3]⟩, false, [], false⟩,
  ⟨some 2, 3, none, .assign (.tmp 8), false, [], false⟩])
 .ret))
theorem k37 : FnOk Tryz.prog 37 9 [.tmp 2] S37 := ⟨[166, 181, 201], _, Tryz.func37, by kernel_rfl, by kernel_rfl, rfl, rfl⟩
/- venturi/venturiref01.Zero -/
def S39 : SC := .seq (.ops [⟨some 1, 0, none, .box 33 (.tmp 0), false, [], false⟩,
  ⟨some 2, 4, none, .assign (.const (.bool false)), false, [], false⟩])
 (.seq (.ops [⟨some 3, 0, none, .fieldAddr 33 (.tmp 1) 1, false, [], false⟩,
  ⟨some 4, 31, none, .load 31 (.tmp 3), false, [], false⟩,
  ⟨some 5, 3, none, .call ⟨.builtin .len, #[.tmp 4], #[31]⟩, false, [], false⟩,
  ⟨some 6, 4, none, .binOp .eql 3 (.tmp 5) (.const (.int .i64 0)) 3, false, [], false⟩,
  ⟨some 2, 4, none, .assign (.tmp 6), false, [], false⟩])
 .ret)
theorem k39 : FnOk Tryz.prog 39 7 [.tmp 2] S39 := ⟨[166, 181, 201], _, Tryz.func39, by kernel_rfl, by kernel_rfl, rfl, rfl⟩
/- venturi/venturiref01.Div -/
def S40 : SC := .seq (.ops [⟨some 2, 0, none, .box 33 (.tmp 0), false, [], false⟩,
  ⟨some 3, 0, none, .box 33 (.tmp 1), false, [], false⟩,
  ⟨some 4, 0, none, .alloc 33, false, [], false⟩])
 (.seq (.ops [⟨some 5, 0, none, .fieldAddr 33 (.tmp 2) 0, false, [], false⟩,
  ⟨some 6, 4, none, .load 4 (.tmp 5), false, [], false⟩,
  ⟨some 7, 0, none, .fieldAddr 33 (.tmp 3) 0, false, [], false⟩,
  ⟨some 8, 4, none, .load 4 (.tmp 7), false, [], false⟩,
  ⟨some 9, 4, none, .binOp .neq 4 (.tmp 6) (.tmp 8) 4, false, [], false⟩,
  ⟨some 10, 0, none, .fieldAddr 33 (.tmp 2) 1, false, [], false⟩,
  ⟨some 11, 31, none, .load 31 (.tmp 10), false, [], false⟩,
  ⟨some 12, 0, none, .fieldAddr 33 (.tmp 3) 2, false, [], false⟩,
  ⟨some 13, 31, none, .load 31 (.tmp 12), false, [], false⟩,
  ⟨some 15, 0, none, .fieldAddr 33 (.tmp 2) 2, false, [], false⟩,
  ⟨some 16, 31, none, .load 31 (.tmp 15), false, [], false⟩,
  ⟨some 17, 0, none, .fieldAddr 33 (.tmp 3) 1, false, [], false⟩,
  ⟨some 18, 31, none, .load 31 (.tmp 17), false, [], false⟩,
  ⟨some 14, 31, none, .call ⟨.value (.func 117), #[.tmp 11, .tmp 13], #[31, 31]⟩, true, [], true⟩,
  ⟨some 19, 31, none, .call ⟨.value (.func 117), #[.tmp 16, .tmp 18], #[31, 31]⟩, true, [], true⟩,
  ⟨some 20, 33, none, .call ⟨.value (.func 116), #[.tmp 9, .tmp 14, .tmp 19], #[4, 31, 31]⟩, true, [], false⟩,
  ⟨none, 0, none, .store 33 (.tmp 4) (.tmp 20), true, [], false⟩])
 .ret)
theorem k40 : FnOk Tryz.prog 40 21 [.cell 4 33] S40 := ⟨[166, 181, 201], _, Tryz.func40, by kernel_rfl, by kernel_rfl, rfl, rfl⟩
/- venturi/venturiref01.Neg -/
def S42 : SC := .seq (.ops [⟨some 1, 0, none, .box 33 (.tmp 0), false, [], false⟩,
  ⟨some 2, 0, none, .alloc 33, false, [], false⟩])
 (.seq (.ops [⟨some 3, 0, none, .fieldAddr 33 (.tmp 1) 0, false, [], false⟩,
  ⟨some 4, 4, none, .load 4 (.tmp 3), false, [], false⟩,
  ⟨some 5, 4, none, .unOp .not 4 (.tmp 4), false, [], false⟩,
  ⟨some 6, 4, none, .move (.tmp 5), false, [], false⟩,
  ⟨some 7, 0, some (6, true), .fieldAddr 33 (.tmp 1) 1, false, [], false⟩,
  ⟨some 8, 31, some (6, true), .load 31 (.tmp 7), false, [], false⟩,
  ⟨some 9, 3, some (6, true), .call ⟨.builtin .len, #[.tmp 8], #[31]⟩, false, [], false⟩,
  ⟨some 10, 4, some (6, true), .binOp .gtr 3 (.tmp 9) (.const (.int .i64 0)) 3, false, [], false⟩,
  ⟨some 11, 4, none, .pick (.tmp 6) (.tmp 10) (.const (.bool false)), false, [], false⟩,
  ⟨some 12, 0, none, .fieldAddr 33 (.tmp 1) 1, false, [], false⟩,
  ⟨some 13, 31, none, .load 31 (.tmp 12), false, [], false⟩,
  ⟨some 14, 0, none, .fieldAddr 33 (.tmp 1) 2, false, [], false⟩,
  ⟨some 15, 31, none, .load 31 (.tmp 14), false, [], false⟩,
  ⟨some 16, 33, none, .build 33 #[(0, .tmp 11), (1, .tmp 13), (2, .tmp 15)], false, [], false⟩,
  ⟨none, 0, none, .store 33 (.tmp 2) (.tmp 16), true, [], false⟩])
 .ret)
theorem k42 : FnOk Tryz.prog 42 17 [.cell 2 33] S42 := ⟨[166, 181, 201], _, Tryz.func42, by kernel_rfl, by kernel_rfl, rfl, rfl⟩
/- venturi/venturiref01.Abs -/
def S44 : SC := .seq (.ops [⟨some 1, 0, none, .box 33 (.tmp 0), false, [], false⟩,
  ⟨some 2, 0, none, .alloc 33, false, [], false⟩])
 (.seq (.ops [⟨some 3, 0, none, .fieldAddr 33 (.tmp 1) 1, false, [], false⟩,
  ⟨some 4, 31, none, .load 31 (.tmp 3), false, [], false⟩,
  ⟨some 5, 0, none, .fieldAddr 33 (.tmp 1) 2, false, [], false⟩,
  ⟨some 6, 31, none, .load 31 (.tmp 5), false, [], false⟩,
  ⟨some 7, 33, none, .build 33 #[(0, .const (.bool false)), (1, .tmp 4), (2, .tmp 6)], false, [], false⟩,
  ⟨none, 0, none, .store 33 (.tmp 2) (.tmp 7), true, [], false⟩])
 .ret)
theorem k44 : FnOk Tryz.prog 44 8 [.cell 2 33] S44 := ⟨[166, 181, 201], _, Tryz.func44, by kernel_rfl, by kernel_rfl, rfl, rfl⟩
/- venturi/venturiref01.Floor -/
def S46 : SC := .seq (.ops [⟨some 1, 0, none, .box 33 (.tmp 0), false, [], false⟩,
  ⟨some 2, 0, none, .alloc 33, false, [], false⟩])
 (.seq (.ops [⟨some 6, 0, none, .fieldAddr 33 (.tmp 1) 1, false, [], false⟩,
  ⟨some 7, 31, none, .load 31 (.tmp 6), false, [], false⟩,
  ⟨some 8, 0, none, .fieldAddr 33 (.tmp 1) 2, false, [], false⟩,
  ⟨some 9, 31, none, .load 31 (.tmp 8), false, [], false⟩,
  ⟨some 10, 153, none, .call ⟨.value (.func 130), #[.tmp 7, .tmp 9], #[31, 31]⟩, true, [], false⟩,
  ⟨some 5, 153, none, .move (.tmp 10), false, [], false⟩,
  ⟨some 11, 31, none, .extract (.tmp 5) 0, false, [], false⟩,
  ⟨some 12, 31, none, .extract (.tmp 5) 1, false, [], false⟩,
  ⟨some 3, 31, none, .assign (.tmp 11), false, [], false⟩,
  ⟨some 4, 31, none, .assign (.tmp 12), false, [], false⟩])
 (.seq (.seq (.ops [⟨some 13, 0, none, .fieldAddr 33 (.tmp 1) 0, false, [], false⟩,
  ⟨some 14, 4, none, .load 4 (.tmp 13), false, [], false⟩,
  ⟨some 15, 4, none, .move (.tmp 14), false, [], false⟩,
  ⟨some 16, 31, some (15, true), .move (.tmp 4), false, [], false⟩,
  ⟨some 17, 3, some (15, true), .call ⟨.builtin .len, #[.tmp 16], #[31]⟩, false, [], false⟩,
  ⟨some 18, 4, some (15, true), .binOp .gtr 3 (.tmp 17) (.const (.int .i64 0)) 3, false, [], false⟩,
  ⟨some 19, 4, none, .pick (.tmp 15) (.tmp 18) (.const (.bool false)), false, [], false⟩])
 (.cond (.tmp 19)
 (.ops [⟨some 20, 31, none, .move (.tmp 3), false, [], false⟩,
  ⟨some 21, 31, none, .buildSlice 31 1 #[(0, .const (.int .i64 1))], true, [], false⟩,
  ⟨some 22, 31, none, .call ⟨.value (.func 118), #[.tmp 20, .tmp 21], #[31, 31]⟩, true, [], false⟩,
  ⟨some 3, 31, none, .assign (.tmp 22), false, [], false⟩])
 .skip))
 (.seq (.ops [⟨some 23, 0, none, .fieldAddr 33 (.tmp 1) 0, false, [], false⟩,
  ⟨some 24, 4, none, .load 4 (.tmp 23), false, [], false⟩,
  ⟨some 25, 4, none, .move (.tmp 24), false, [], false⟩,
  ⟨some 26, 31, some (25, true), .move (.tmp 3), false, [], false⟩,
  ⟨some 27, 3, some (25, true), .call ⟨.builtin .len, #[.tmp 26], #[31]⟩, false, [], false⟩,
  ⟨some 28, 4, some (25, true), .binOp .gtr 3 (.tmp 27) (.const (.int .i64 0)) 3, false, [], false⟩,
  ⟨some 29, 4, none, .pick (.tmp 25) (.tmp 28) (.const (.bool false)), false, [], false⟩,
  ⟨some 30, 31, none, .move (.tmp 3), false, [], false⟩,
  ⟨some 31, 31, none, .buildSlice 31 1 #[(0, .const (.int .i64 1))], true, [], false⟩,
  ⟨some 32, 33, none, .build 33 #[(0, .tmp 29), (1, .tmp 30), (2, .tmp 31)], false, [], false⟩,
  ⟨none, 0, none, .store 33 (.tmp 2) (.tmp 32), true, [], false⟩])
 .ret)))
theorem k46 : FnOk Tryz.prog 46 33 [.cell 2 33] S46 := ⟨[166, 181, 201], _, Tryz.func46, by kernel_rfl, by kernel_rfl, rfl, rfl⟩
/- venturi/venturiref01.Pow -/
def S49 : SC := .seq (.ops [⟨some 2, 0, none, .box 33 (.tmp 0), false, [], false⟩,
  ⟨some 4, 0, none, .alloc 33, false, [], false⟩])
 (.seq (.ops [⟨some 7, 33, none, .call ⟨.value (.func 56), #[.const (.int .i64 1)], #[2]⟩, true, [], false⟩,
  ⟨some 5, 0, none, .alloc 33, false, [], false⟩,
  ⟨none, 0, none, .store 33 (.tmp 5) (.tmp 7), true, [], false⟩])
 (.seq (.seq (.ops [⟨some 6, 3, none, .assign (.const (.int .i64 0)), false, [], false⟩])
 (.block 0 (.loop (.seq (.seq (.ops [⟨some 8, 3, none, .move (.tmp 6), false, [], false⟩,
  ⟨some 9, 3, none, .move (.tmp 1), false, [], false⟩,
  ⟨some 10, 4, none, .binOp .lss 3 (.tmp 8) (.tmp 9) 3, false, [], false⟩])
 (.cond (.tmp 10)
 .skip
 (.exit 0)))
 (.seq (.block 1 (.ops [⟨some 13, 33, none, .load 33 (.tmp 5), false, [], false⟩,
  ⟨some 14, 33, none, .load 33 (.tmp 2), false, [], false⟩,
  ⟨some 15, 33, none, .call ⟨.value (.func 33), #[.tmp 13, .tmp 14], #[33, 33]⟩, true, [], false⟩,
  ⟨none, 0, none, .store 33 (.tmp 5) (.tmp 15), true, [], false⟩]))
 (.ops [⟨some 11, 3, none, .move (.tmp 6), false, [], false⟩,
  ⟨some 12, 3, none, .binOp .add 3 (.tmp 11) (.const (.int .i64 1)) 3, false, [], false⟩,
  ⟨some 6, 3, none, .assign (.tmp 12), false, [], false⟩]))))))
 (.seq (.ops [⟨some 16, 33, none, .load 33 (.tmp 5), false, [], false⟩,
  ⟨none, 0, none, .store 33 (.tmp 4) (.tmp 16), true, [], false⟩])
 .ret)))
theorem k49 : FnOk Tryz.prog 49 17 [.cell 4 33] S49 := ⟨[166, 181, 201], _, Tryz.func49, by kernel_rfl, by kernel_rfl, rfl, rfl⟩
/- venturi/venturiref01.Round -/
def S50 : SC := .seq (.ops [⟨some 2, 0, none, .box 33 (.tmp 0), false, [], false⟩,
  ⟨some 3, 0, none, .box 33 (.tmp 1), false, [], false⟩,
  ⟨some 4, 0, none, .alloc 33, false, [], false⟩])
 (.seq (.ops [⟨some 5, 33, none, .load 33 (.tmp 2), false, [], false⟩,
  ⟨some 6, 33, none, .load 33 (.tmp 3), false, [], false⟩,
  ⟨some 11, 33, none, .load 33 (.tmp 3), false, [], false⟩,
  ⟨some 7, 33, none, .call ⟨.value (.func 40), #[.tmp 5, .tmp 6], #[33, 33]⟩, true, [], true⟩,
  ⟨some 8, 33, none, .call ⟨.value (.func 88), #[.const (.int .i64 1), .const (.int .i64 2)], #[2, 2]⟩, true, [], true⟩,
  ⟨some 9, 33, none, .call ⟨.value (.func 30), #[.tmp 7, .tmp 8], #[33, 33]⟩, true, [], true⟩,
  ⟨some 10, 33, none, .call ⟨.value (.func 46), #[.tmp 9], #[33]⟩, true, [], true⟩,
  ⟨some 12, 33, none, .call ⟨.value (.func 33), #[.tmp 10, .tmp 11], #[33, 33]⟩, true, [], false⟩,
  ⟨none, 0, none, .store 33 (.tmp 4) (.tmp 12), true, [], false⟩])
 .ret)
theorem k50 : FnOk Tryz.prog 50 13 [.cell 4 33] S50 := ⟨[166, 181, 201], _, Tryz.func50, by kernel_rfl, by kernel_rfl, rfl, rfl⟩
/- venturi/venturiref01.Int -/
def S56 : SC := .seq (.ops [⟨some 2, 0, none, .alloc 33, false, [], false⟩])
 (.seq (.seq (.ops [⟨some 3, 2, none, .move (.tmp 0), false, [], false⟩,
  ⟨some 4, 4, none, .binOp .lss 2 (.tmp 3) (.const (.int .i64 0)) 2, false, [], false⟩])
 (.cond (.tmp 4)
 (.seq (.ops [⟨some 5, 2, none, .move (.tmp 0), false, [], false⟩,
  ⟨some 6, 2, none, .binOp .add 2 (.tmp 5) (.const (.int .i64 1)) 2, false, [], false⟩,
  ⟨some 7, 2, none, .unOp .neg 2 (.tmp 6), false, [], false⟩,
  ⟨some 8, 140, none, .convert 2 140 (.tmp 7), false, [], false⟩,
  ⟨some 9, 140, none, .binOp .add 140 (.tmp 8) (.const (.int .u64 1)) 140, false, [], false⟩,
  ⟨some 10, 31, none, .call ⟨.value (.func 134), #[.tmp 9], #[140]⟩, true, [], false⟩,
  ⟨some 11, 31, none, .buildSlice 31 1 #[(0, .const (.int .i64 1))], true, [], false⟩,
  ⟨some 12, 33, none, .build 33 #[(0, .const (.bool true)), (1, .tmp 10), (2, .tmp 11)], false, [], false⟩,
  ⟨none, 0, none, .store 33 (.tmp 2) (.tmp 12), true, [], false⟩])
 .ret)
 .skip))
 (.seq (.ops [⟨some 13, 2, none, .move (.tmp 0), false, [], false⟩,
  ⟨some 14, 140, none, .convert 2 140 (.tmp 13), false, [], false⟩,
  ⟨some 15, 31, none, .call ⟨.value (.func 134), #[.tmp 14], #[140]⟩, true, [], false⟩,
  ⟨some 16, 31, none, .buildSlice 31 1 #[(0, .const (.int .i64 1))], true, [], false⟩,
  ⟨some 17, 33, none, .build 33 #[(0, .const (.bool false)), (1, .tmp 15), (2, .tmp 16)], false, [], false⟩,
  ⟨none, 0, none, .store 33 (.tmp 2) (.tmp 17), true, [], false⟩])
 .ret))
theorem k56 : FnOk Tryz.prog 56 18 [.cell 2 33] S56 := ⟨[166, 181, 201], _, Tryz.func56, by kernel_rfl, by kernel_rfl, rfl, rfl⟩
/- venturi/venturiref01.Point -/
def S59 : SC := .seq (.ops [⟨some 1, 0, none, .box 33 (.tmp 0), false, [], false⟩,
  ⟨some 2, 0, none, .alloc 68, false, [], false⟩])
 (.seq (.ops [⟨some 3, 33, none, .load 33 (.tmp 1), false, [], false⟩,
  ⟨some 4, 33, none, .load 33 (.tmp 1), false, [], false⟩,
  ⟨some 5, 68, none, .build 68 #[(0, .tmp 3), (1, .tmp 4)], false, [], false⟩,
  ⟨none, 0, none, .store 68 (.tmp 2) (.tmp 5), true, [], false⟩])
 .ret)
theorem k59 : FnOk Tryz.prog 59 6 [.cell 2 68] S59 := ⟨[166, 181, 201], _, Tryz.func59, by kernel_rfl, by kernel_rfl, rfl, rfl⟩
/- venturi/venturiref01.Has -/
def S61 : SC := .seq (.ops [⟨some 2, 0, none, .box 68 (.tmp 0), false, [], false⟩,
  ⟨some 3, 0, none, .box 33 (.tmp 1), false, [], false⟩,
  ⟨some 4, 4, none, .assign (.const (.bool false)), false, [], false⟩])
 (.seq (.ops [⟨some 5, 0, none, .fieldAddr 68 (.tmp 2) 0, false, [], false⟩,
  ⟨some 6, 33, none, .load 33 (.tmp 5), false, [], false⟩,
  ⟨some 7, 33, none, .load 33 (.tmp 3), false, [], false⟩,
  ⟨some 8, 3, none, .call ⟨.value (.func 35), #[.tmp 6, .tmp 7], #[33, 33]⟩, true, [], false⟩,
  ⟨some 9, 4, none, .binOp .leq 3 (.tmp 8) (.const (.int .i64 0)) 3, false, [], false⟩,
  ⟨some 10, 4, none, .move (.tmp 9), false, [], false⟩,
  ⟨some 11, 33, some (10, true), .load 33 (.tmp 3), false, [], false⟩,
  ⟨some 12, 0, some (10, true), .fieldAddr 68 (.tmp 2) 1, false, [], false⟩,
  ⟨some 13, 33, some (10, true), .load 33 (.tmp 12), false, [], false⟩,
  ⟨some 14, 3, some (10, true), .call ⟨.value (.func 35), #[.tmp 11, .tmp 13], #[33, 33]⟩, true, [], false⟩,
  ⟨some 15, 4, some (10, true), .binOp .leq 3 (.tmp 14) (.const (.int .i64 0)) 3, false, [], false⟩,
  ⟨some 16, 4, none, .pick (.tmp 10) (.tmp 15) (.const (.bool false)), false, [], false⟩,
  ⟨some 4, 4, none, .assign (.tmp 16), false, [], false⟩])
 .ret)
theorem k61 : FnOk Tryz.prog 61 17 [.tmp 4] S61 := ⟨[166, 181, 201], _, Tryz.func61, by kernel_rfl, by kernel_rfl, rfl, rfl⟩
/- venturi/venturiref01.Inside -/
def S63 : SC := .seq (.ops [⟨some 2, 0, none, .box 68 (.tmp 0), false, [], false⟩,
  ⟨some 3, 0, none, .box 68 (.tmp 1), false, [], false⟩,
  ⟨some 4, 4, none, .assign (.const (.bool false)), false, [], false⟩])
 (.seq (.ops [⟨some 5, 68, none, .load 68 (.tmp 3), false, [], false⟩,
  ⟨some 6, 0, none, .fieldAddr 68 (.tmp 2) 0, false, [], false⟩,
  ⟨some 7, 33, none, .load 33 (.tmp 6), false, [], false⟩,
  ⟨some 8, 4, none, .call ⟨.value (.func 61), #[.tmp 5, .tmp 7], #[68, 33]⟩, true, [], false⟩,
  ⟨some 9, 4, none, .move (.tmp 8), false, [], false⟩,
  ⟨some 10, 68, some (9, true), .load 68 (.tmp 3), false, [], false⟩,
  ⟨some 11, 0, some (9, true), .fieldAddr 68 (.tmp 2) 1, false, [], false⟩,
  ⟨some 12, 33, some (9, true), .load 33 (.tmp 11), false, [], false⟩,
  ⟨some 13, 4, some (9, true), .call ⟨.value (.func 61), #[.tmp 10, .tmp 12], #[68, 33]⟩, true, [], false⟩,
  ⟨some 14, 4, none, .pick (.tmp 9) (.tmp 13) (.const (.bool false)), false, [], false⟩,
  ⟨some 4, 4, none, .assign (.tmp 14), false, [], false⟩])
 .ret)
theorem k63 : FnOk Tryz.prog 63 15 [.tmp 4] S63 := ⟨[166, 181, 201], _, Tryz.func63, by kernel_rfl, by kernel_rfl, rfl, rfl⟩
/- venturi/venturiref01.OutBox -/
def S67 : SC := .seq (.ops [⟨some 2, 0, none, .box 68 (.tmp 0), false, [], false⟩,
  ⟨some 3, 0, none, .box 33 (.tmp 1), false, [], false⟩,
  ⟨some 4, 0, none, .alloc 68, false, [], false⟩])
 (.seq (.ops [⟨some 5, 0, none, .fieldAddr 68 (.tmp 2) 0, false, [], false⟩,
  ⟨some 6, 33, none, .load 33 (.tmp 5), false, [], false⟩,
  ⟨some 7, 33, none, .load 33 (.tmp 3), false, [], false⟩,
  ⟨some 10, 33, none, .load 33 (.tmp 3), false, [], false⟩,
  ⟨some 12, 0, none, .fieldAddr 68 (.tmp 2) 1, false, [], false⟩,
  ⟨some 13, 33, none, .load 33 (.tmp 12), false, [], false⟩,
  ⟨some 14, 33, none, .load 33 (.tmp 3), false, [], false⟩,
  ⟨some 17, 33, none, .load 33 (.tmp 3), false, [], false⟩,
  ⟨some 8, 33, none, .call ⟨.value (.func 40), #[.tmp 6, .tmp 7], #[33, 33]⟩, true, [], true⟩,
  ⟨some 9, 33, none, .call ⟨.value (.func 46), #[.tmp 8], #[33]⟩, true, [], true⟩,
  ⟨some 11, 33, none, .call ⟨.value (.func 33), #[.tmp 9, .tmp 10], #[33, 33]⟩, true, [], true⟩,
  ⟨some 15, 33, none, .call ⟨.value (.func 40), #[.tmp 13, .tmp 14], #[33, 33]⟩, true, [], true⟩,
  ⟨some 16, 33, none, .call ⟨.value (.func 137), #[.tmp 15], #[33]⟩, true, [], true⟩,
  ⟨some 18, 33, none, .call ⟨.value (.func 33), #[.tmp 16, .tmp 17], #[33, 33]⟩, true, [], false⟩,
  ⟨some 19, 68, none, .build 68 #[(0, .tmp 11), (1, .tmp 18)], false, [], false⟩,
  ⟨none, 0, none, .store 68 (.tmp 4) (.tmp 19), true, [], false⟩])
 .ret)
theorem k67 : FnOk Tryz.prog 67 20 [.cell 4 68] S67 := ⟨[166, 181, 201], _, Tryz.func67, by kernel_rfl, by kernel_rfl, rfl, rfl⟩
/- venturi/venturiref01.RootBox -/
def S68 : SC := .seq (.ops [⟨some 2, 0, none, .box 68 (.tmp 0), false, [], false⟩,
  ⟨some 3, 0, none, .box 33 (.tmp 1), false, [], false⟩,
  ⟨some 4, 0, none, .alloc 68, false, [], false⟩])
 (.seq (.ops [⟨some 6, 0, none, .fieldAddr 68 (.tmp 2) 1, false, [], false⟩,
  ⟨some 7, 33, none, .load 33 (.tmp 6), false, [], false⟩,
  ⟨some 8, 33, none, .load 33 (.tmp 3), false, [], false⟩,
  ⟨some 9, 33, none, .call ⟨.value (.func 138), #[.tmp 7, .tmp 8], #[33, 33]⟩, true, [], false⟩,
  ⟨some 5, 0, none, .alloc 33, false, [], false⟩,
  ⟨none, 0, none, .store 33 (.tmp 5) (.tmp 9), true, [], false⟩])
 (.seq (.seq (.ops [⟨some 10, 33, none, .load 33 (.tmp 5), false, [], false⟩,
  ⟨some 11, 33, none, .load 33 (.tmp 5), false, [], false⟩,
  ⟨some 13, 0, none, .fieldAddr 68 (.tmp 2) 1, false, [], false⟩,
  ⟨some 14, 33, none, .load 33 (.tmp 13), false, [], false⟩,
  ⟨some 12, 33, none, .call ⟨.value (.func 33), #[.tmp 10, .tmp 11], #[33, 33]⟩, true, [], true⟩,
  ⟨some 15, 3, none, .call ⟨.value (.func 35), #[.tmp 12, .tmp 14], #[33, 33]⟩, true, [], false⟩,
  ⟨some 16, 4, none, .binOp .lss 3 (.tmp 15) (.const (.int .i64 0)) 3, false, [], false⟩])
 (.cond (.tmp 16)
 (.ops [⟨some 17, 33, none, .load 33 (.tmp 5), false, [], false⟩,
  ⟨some 18, 33, none, .load 33 (.tmp 3), false, [], false⟩,
  ⟨some 19, 33, none, .call ⟨.value (.func 30), #[.tmp 17, .tmp 18], #[33, 33]⟩, true, [], false⟩,
  ⟨none, 0, none, .store 33 (.tmp 5) (.tmp 19), true, [], false⟩])
 .skip))
 (.seq (.ops [⟨some 20, 0, none, .fieldAddr 68 (.tmp 2) 0, false, [], false⟩,
  ⟨some 21, 33, none, .load 33 (.tmp 20), false, [], false⟩,
  ⟨some 22, 33, none, .load 33 (.tmp 3), false, [], false⟩,
  ⟨some 24, 33, none, .load 33 (.tmp 5), false, [], false⟩,
  ⟨some 23, 33, none, .call ⟨.value (.func 138), #[.tmp 21, .tmp 22], #[33, 33]⟩, true, [], true⟩,
  ⟨some 25, 68, none, .build 68 #[(0, .tmp 23), (1, .tmp 24)], false, [], false⟩,
  ⟨none, 0, none, .store 68 (.tmp 4) (.tmp 25), true, [], false⟩])
 .ret)))
theorem k68 : FnOk Tryz.prog 68 26 [.cell 4 68] S68 := ⟨[166, 181, 201], _, Tryz.func68, by kernel_rfl, by kernel_rfl, rfl, rfl⟩
/- venturi/venturiref01.Ratio -/
def S88 : SC := .seq (.ops [⟨some 4, 0, none, .alloc 33, false, [], false⟩])
 (.seq (.ops [⟨some 5, 2, none, .move (.tmp 0), false, [], false⟩,
  ⟨some 6, 33, none, .call ⟨.value (.func 56), #[.tmp 5], #[2]⟩, true, [], false⟩,
  ⟨some 7, 2, none, .move (.tmp 1), false, [], false⟩,
  ⟨some 8, 33, none, .call ⟨.value (.func 56), #[.tmp 7], #[2]⟩, true, [], false⟩,
  ⟨some 9, 33, none, .call ⟨.value (.func 40), #[.tmp 6, .tmp 8], #[33, 33]⟩, true, [], false⟩,
  ⟨none, 0, none, .store 33 (.tmp 4) (.tmp 9), true, [], false⟩])
 .ret)
theorem k88 : FnOk Tryz.prog 88 10 [.cell 4 33] S88 := ⟨[166, 181, 201], _, Tryz.func88, by kernel_rfl, by kernel_rfl, rfl, rfl⟩
/- venturi/venturiref01.Int64 -/
def S89 : SC := .seq (.ops [⟨some 1, 0, none, .box 33 (.tmp 0), false, [], false⟩,
  ⟨some 2, 2, none, .assign (.const (.int .i64 0)), false, [], false⟩,
  ⟨some 3, 4, none, .assign (.const (.bool false)), false, [], false⟩])
 (.seq (.seq (.ops [⟨some 6, 0, none, .fieldAddr 33 (.tmp 1) 2, false, [], false⟩,
  ⟨some 7, 31, none, .load 31 (.tmp 6), false, [], false⟩,
  ⟨some 8, 31, none, .buildSlice 31 1 #[(0, .const (.int .i64 1))], true, [], true⟩,
  ⟨some 9, 3, none, .call ⟨.value (.func 126), #[.tmp 7, .tmp 8], #[31, 31]⟩, true, [], false⟩,
  ⟨some 10, 4, none, .binOp .neq 3 (.tmp 9) (.const (.int .i64 0)) 3, false, [], false⟩,
  ⟨some 11, 4, none, .move (.tmp 10), false, [], false⟩,
  ⟨some 12, 33, some (11, false), .load 33 (.tmp 1), false, [], false⟩,
  ⟨some 13, 33, some (11, false), .call ⟨.value (.func 56), #[.const (.int .i64 (-9223372036854775808))], #[2]⟩, true, [], true⟩,
  ⟨some 14, 3, some (11, false), .call ⟨.value (.func 35), #[.tmp 12, .tmp 13], #[33, 33]⟩, true, [], false⟩,
  ⟨some 15, 4, some (11, false), .binOp .lss 3 (.tmp 14) (.const (.int .i64 0)) 3, false, [], false⟩,
  ⟨some 16, 4, none, .pick (.tmp 11) (.const (.bool true)) (.tmp 15), false, [], false⟩,
  ⟨some 17, 4, none, .move (.tmp 16), false, [], false⟩,
  ⟨some 18, 33, some (17, false), .load 33 (.tmp 1), false, [], false⟩,
  ⟨some 19, 33, some (17, false), .call ⟨.value (.func 56), #[.const (.int .i64 9223372036854775807)], #[2]⟩, true, [], true⟩,
  ⟨some 20, 3, some (17, false), .call ⟨.value (.func 35), #[.tmp 18, .tmp 19], #[33, 33]⟩, true, [], false⟩,
  ⟨some 21, 4, some (17, false), .binOp .gtr 3 (.tmp 20) (.const (.int .i64 0)) 3, false, [], false⟩,
  ⟨some 22, 4, none, .pick (.tmp 17) (.const (.bool true)) (.tmp 21), false, [], false⟩])
 (.cond (.tmp 22)
 (.seq (.ops [⟨some 2, 2, none, .assign (.const (.int .i64 0)), false, [], false⟩,
  ⟨some 3, 4, none, .assign (.const (.bool false)), false, [], false⟩])
 .ret)
 .skip))
 (.seq (.ops [⟨some 4, 2, none, .assign (.const (.int .i64 0)), false, [], false⟩])
 (.seq (.seq (.ops [⟨some 23, 0, none, .fieldAddr 33 (.tmp 1) 1, false, [], false⟩,
  ⟨some 24, 31, none, .load 31 (.tmp 23), false, [], false⟩,
  ⟨some 25, 3, none, .call ⟨.builtin .len, #[.tmp 24], #[31]⟩, false, [], false⟩,
  ⟨some 26, 3, none, .binOp .sub 3 (.tmp 25) (.const (.int .i64 1)) 3, false, [], false⟩,
  ⟨some 5, 3, none, .assign (.tmp 26), false, [], false⟩])
 (.block 0 (.loop (.seq (.seq (.ops [⟨some 27, 3, none, .move (.tmp 5), false, [], false⟩,
  ⟨some 28, 4, none, .binOp .geq 3 (.tmp 27) (.const (.int .i64 0)) 3, false, [], false⟩])
 (.cond (.tmp 28)
 .skip
 (.exit 0)))
 (.seq (.block 1 (.seq (.ops [⟨some 31, 0, none, .fieldAddr 33 (.tmp 1) 0, false, [], false⟩,
  ⟨some 32, 4, none, .load 4 (.tmp 31), false, [], false⟩])
 (.cond (.tmp 32)
 (.ops [⟨some 33, 2, none, .move (.tmp 4), false, [], false⟩,
  ⟨some 34, 2, none, .binOp .shl 2 (.tmp 33) (.const (.int .u64 16)) 146, false, [], false⟩,
  ⟨some 35, 0, none, .fieldAddr 33 (.tmp 1) 1, false, [], false⟩,
  ⟨some 36, 31, none, .load 31 (.tmp 35), false, [], false⟩,
  ⟨some 37, 3, none, .move (.tmp 5), false, [], false⟩,
  ⟨some 38, 0, none, .indexAddr 31 (.tmp 36) (.tmp 37), false, [], false⟩,
  ⟨some 39, 3, none, .load 3 (.tmp 38), false, [], false⟩,
  ⟨some 40, 2, none, .binOp .sub 2 (.tmp 34) (.tmp 39) 2, false, [], false⟩,
  ⟨some 4, 2, none, .assign (.tmp 40), false, [], false⟩])
 (.ops [⟨some 41, 2, none, .move (.tmp 4), false, [], false⟩,
  ⟨some 42, 2, none, .binOp .shl 2 (.tmp 41) (.const (.int .u64 16)) 146, false, [], false⟩,
  ⟨some 43, 0, none, .fieldAddr 33 (.tmp 1) 1, false, [], false⟩,
  ⟨some 44, 31, none, .load 31 (.tmp 43), false, [], false⟩,
  ⟨some 45, 3, none, .move (.tmp 5), false, [], false⟩,
  ⟨some 46, 0, none, .indexAddr 31 (.tmp 44) (.tmp 45), false, [], false⟩,
  ⟨some 47, 3, none, .load 3 (.tmp 46), false, [], false⟩,
  ⟨some 48, 2, none, .binOp .add 2 (.tmp 42) (.tmp 47) 2, false, [], false⟩,
  ⟨some 4, 2, none, .assign (.tmp 48), false, [], false⟩]))))
 (.ops [⟨some 29, 3, none, .move (.tmp 5), false, [], false⟩,
  ⟨some 30, 3, none, .binOp .sub 3 (.tmp 29) (.const (.int .i64 1)) 3, false, [], false⟩,
  ⟨some 5, 3, none, .assign (.tmp 30), false, [], false⟩]))))))
 (.seq (.ops [⟨some 49, 2, none, .move (.tmp 4), false, [], false⟩,
  ⟨some 2, 2, none, .assign (.tmp 49), false, [], false⟩,
  ⟨some 3, 4, none, .assign (.const (.bool true)), false, [], false⟩])
 .ret))))
theorem k89 : FnOk Tryz.prog 89 50 [.tmp 2, .tmp 3] S89 := ⟨[166, 181, 201], _, Tryz.func89, by kernel_rfl, by kernel_rfl, rfl, rfl⟩
/- venturi/venturiref01.AddBox -/
def S90 : SC := .seq (.ops [⟨some 2, 0, none, .box 68 (.tmp 0), false, [], false⟩,
  ⟨some 3, 0, none, .box 68 (.tmp 1), false, [], false⟩,
  ⟨some 4, 0, none, .alloc 68, false, [], false⟩])
 (.seq (.ops [⟨some 5, 0, none, .fieldAddr 68 (.tmp 2) 0, false, [], false⟩,
  ⟨some 6, 33, none, .load 33 (.tmp 5), false, [], false⟩,
  ⟨some 7, 0, none, .fieldAddr 68 (.tmp 3) 0, false, [], false⟩,
  ⟨some 8, 33, none, .load 33 (.tmp 7), false, [], false⟩,
  ⟨some 10, 0, none, .fieldAddr 68 (.tmp 2) 1, false, [], false⟩,
  ⟨some 11, 33, none, .load 33 (.tmp 10), false, [], false⟩,
  ⟨some 12, 0, none, .fieldAddr 68 (.tmp 3) 1, false, [], false⟩,
  ⟨some 13, 33, none, .load 33 (.tmp 12), false, [], false⟩,
  ⟨some 9, 33, none, .call ⟨.value (.func 30), #[.tmp 6, .tmp 8], #[33, 33]⟩, true, [], true⟩,
  ⟨some 14, 33, none, .call ⟨.value (.func 30), #[.tmp 11, .tmp 13], #[33, 33]⟩, true, [], false⟩,
  ⟨some 15, 68, none, .build 68 #[(0, .tmp 9), (1, .tmp 14)], false, [], false⟩,
  ⟨none, 0, none, .store 68 (.tmp 4) (.tmp 15), true, [], false⟩])
 .ret)
theorem k90 : FnOk Tryz.prog 90 16 [.cell 4 68] S90 := ⟨[166, 181, 201], _, Tryz.func90, by kernel_rfl, by kernel_rfl, rfl, rfl⟩
/- venturi/venturiref01.SubBox -/
def S91 : SC := .seq (.ops [⟨some 2, 0, none, .box 68 (.tmp 0), false, [], false⟩,
  ⟨some 3, 0, none, .box 68 (.tmp 1), false, [], false⟩,
  ⟨some 4, 0, none, .alloc 68, false, [], false⟩])
 (.seq (.ops [⟨some 5, 68, none, .load 68 (.tmp 2), false, [], false⟩,
  ⟨some 6, 68, none, .load 68 (.tmp 3), false, [], false⟩,
  ⟨some 7, 68, none, .call ⟨.value (.func 93), #[.tmp 6], #[68]⟩, true, [], true⟩,
  ⟨some 8, 68, none, .call ⟨.value (.func 90), #[.tmp 5, .tmp 7], #[68, 68]⟩, true, [], false⟩,
  ⟨none, 0, none, .store 68 (.tmp 4) (.tmp 8), true, [], false⟩])
 .ret)
theorem k91 : FnOk Tryz.prog 91 9 [.cell 4 68] S91 := ⟨[166, 181, 201], _, Tryz.func91, by kernel_rfl, by kernel_rfl, rfl, rfl⟩
/- venturi/venturiref01.MulBox -/
def S92 : SC := .seq (.ops [⟨some 2, 0, none, .box 68 (.tmp 0), false, [], false⟩,
  ⟨some 3, 0, none, .box 68 (.tmp 1), false, [], false⟩,
  ⟨some 4, 0, none, .alloc 68, false, [], false⟩])
 (.seq (.ops [⟨some 5, 0, none, .fieldAddr 68 (.tmp 2) 0, false, [], false⟩,
  ⟨some 6, 33, none, .load 33 (.tmp 5), false, [], false⟩,
  ⟨some 7, 0, none, .fieldAddr 68 (.tmp 3) 0, false, [], false⟩,
  ⟨some 8, 33, none, .load 33 (.tmp 7), false, [], false⟩,
  ⟨some 10, 0, none, .fieldAddr 68 (.tmp 2) 0, false, [], false⟩,
  ⟨some 11, 33, none, .load 33 (.tmp 10), false, [], false⟩,
  ⟨some 12, 0, none, .fieldAddr 68 (.tmp 3) 1, false, [], false⟩,
  ⟨some 13, 33, none, .load 33 (.tmp 12), false, [], false⟩,
  ⟨some 15, 0, none, .fieldAddr 68 (.tmp 2) 1, false, [], false⟩,
  ⟨some 16, 33, none, .load 33 (.tmp 15), false, [], false⟩,
  ⟨some 17, 0, none, .fieldAddr 68 (.tmp 3) 0, false, [], false⟩,
  ⟨some 18, 33, none, .load 33 (.tmp 17), false, [], false⟩,
  ⟨some 20, 0, none, .fieldAddr 68 (.tmp 2) 1, false, [], false⟩,
  ⟨some 21, 33, none, .load 33 (.tmp 20), false, [], false⟩,
  ⟨some 22, 0, none, .fieldAddr 68 (.tmp 3) 1, false, [], false⟩,
  ⟨some 23, 33, none, .load 33 (.tmp 22), false, [], false⟩,
  ⟨some 9, 33, none, .call ⟨.value (.func 33), #[.tmp 6, .tmp 8], #[33, 33]⟩, true, [], true⟩,
  ⟨some 14, 33, none, .call ⟨.value (.func 33), #[.tmp 11, .tmp 13], #[33, 33]⟩, true, [], true⟩,
  ⟨some 19, 33, none, .call ⟨.value (.func 33), #[.tmp 16, .tmp 18], #[33, 33]⟩, true, [], true⟩,
  ⟨some 24, 33, none, .call ⟨.value (.func 33), #[.tmp 21, .tmp 23], #[33, 33]⟩, true, [], false⟩,
  ⟨some 25, 114, none, .buildSlice 114 4 #[(0, .tmp 9), (1, .tmp 14), (2, .tmp 19), (3, .tmp 24)], true, [], false⟩,
  ⟨some 26, 68, none, .call ⟨.value (.func 145), #[.tmp 25], #[114]⟩, true, [], false⟩,
  ⟨none, 0, none, .store 68 (.tmp 4) (.tmp 26), true, [], false⟩])
 .ret)
theorem k92 : FnOk Tryz.prog 92 27 [.cell 4 68] S92 := ⟨[166, 181, 201], _, Tryz.func92, by kernel_rfl, by kernel_rfl, rfl, rfl⟩
/- venturi/venturiref01.NegBox -/
def S93 : SC := .seq (.ops [⟨some 1, 0, none, .box 68 (.tmp 0), false, [], false⟩,
  ⟨some 2, 0, none, .alloc 68, false, [], false⟩])
 (.seq (.ops [⟨some 3, 0, none, .fieldAddr 68 (.tmp 1) 1, false, [], false⟩,
  ⟨some 4, 33, none, .load 33 (.tmp 3), false, [], false⟩,
  ⟨some 6, 0, none, .fieldAddr 68 (.tmp 1) 0, false, [], false⟩,
  ⟨some 7, 33, none, .load 33 (.tmp 6), false, [], false⟩,
  ⟨some 5, 33, none, .call ⟨.value (.func 42), #[.tmp 4], #[33]⟩, true, [], true⟩,
  ⟨some 8, 33, none, .call ⟨.value (.func 42), #[.tmp 7], #[33]⟩, true, [], false⟩,
  ⟨some 9, 68, none, .build 68 #[(0, .tmp 5), (1, .tmp 8)], false, [], false⟩,
  ⟨none, 0, none, .store 68 (.tmp 2) (.tmp 9), true, [], false⟩])
 .ret)
theorem k93 : FnOk Tryz.prog 93 10 [.cell 2 68] S93 := ⟨[166, 181, 201], _, Tryz.func93, by kernel_rfl, by kernel_rfl, rfl, rfl⟩
/- venturi/venturiref01.AbsBox -/
def S94 : SC := .seq (.ops [⟨some 1, 0, none, .box 68 (.tmp 0), false, [], false⟩,
  ⟨some 2, 0, none, .alloc 68, false, [], false⟩])
 (.seq (.ops [⟨some 4, 0, none, .fieldAddr 68 (.tmp 1) 0, false, [], false⟩,
  ⟨some 5, 33, none, .load 33 (.tmp 4), false, [], false⟩,
  ⟨some 7, 0, none, .fieldAddr 68 (.tmp 1) 1, false, [], false⟩,
  ⟨some 8, 33, none, .load 33 (.tmp 7), false, [], false⟩,
  ⟨some 6, 33, none, .call ⟨.value (.func 44), #[.tmp 5], #[33]⟩, true, [], true⟩,
  ⟨some 9, 33, none, .call ⟨.value (.func 44), #[.tmp 8], #[33]⟩, true, [], false⟩,
  ⟨some 10, 114, none, .buildSlice 114 2 #[(0, .tmp 6), (1, .tmp 9)], true, [], false⟩,
  ⟨some 3, 114, none, .assign (.tmp 10), false, [], false⟩])
 (.seq (.seq (.ops [⟨some 11, 68, none, .load 68 (.tmp 1), false, [], false⟩,
  ⟨some 12, 33, none, .call ⟨.value (.func 56), #[.const (.int .i64 0)], #[2]⟩, true, [], true⟩,
  ⟨some 13, 4, none, .call ⟨.value (.func 61), #[.tmp 11, .tmp 12], #[68, 33]⟩, true, [], false⟩])
 (.cond (.tmp 13)
 (.ops [⟨some 14, 114, none, .move (.tmp 3), false, [], false⟩,
  ⟨some 15, 33, none, .call ⟨.value (.func 56), #[.const (.int .i64 0)], #[2]⟩, true, [], false⟩,
  ⟨some 16, 114, none, .buildSlice 114 1 #[(0, .tmp 15)], true, [], false⟩,
  ⟨some 17, 114, none, .call ⟨.builtin .append, #[.tmp 14, .tmp 16], #[114, 114]⟩, true, [], false⟩,
  ⟨some 3, 114, none, .assign (.tmp 17), false, [], false⟩])
 .skip))
 (.seq (.ops [⟨some 18, 114, none, .move (.tmp 3), false, [], false⟩,
  ⟨some 19, 68, none, .call ⟨.value (.func 145), #[.tmp 18], #[114]⟩, true, [], false⟩,
  ⟨none, 0, none, .store 68 (.tmp 2) (.tmp 19), true, [], false⟩])
 .ret)))
theorem k94 : FnOk Tryz.prog 94 20 [.cell 2 68] S94 := ⟨[166, 181, 201], _, Tryz.func94, by kernel_rfl, by kernel_rfl, rfl, rfl⟩
/- venturi/venturiref01.HullBox -/
def S95 : SC := .seq (.ops [⟨some 2, 0, none, .box 68 (.tmp 0), false, [], false⟩,
  ⟨some 3, 0, none, .box 68 (.tmp 1), false, [], false⟩,
  ⟨some 4, 0, none, .alloc 68, false, [], false⟩])
 (.seq (.ops [⟨some 5, 0, none, .fieldAddr 68 (.tmp 2) 0, false, [], false⟩,
  ⟨some 6, 33, none, .load 33 (.tmp 5), false, [], false⟩,
  ⟨some 7, 0, none, .fieldAddr 68 (.tmp 3) 0, false, [], false⟩,
  ⟨some 8, 33, none, .load 33 (.tmp 7), false, [], false⟩,
  ⟨some 10, 0, none, .fieldAddr 68 (.tmp 2) 1, false, [], false⟩,
  ⟨some 11, 33, none, .load 33 (.tmp 10), false, [], false⟩,
  ⟨some 12, 0, none, .fieldAddr 68 (.tmp 3) 1, false, [], false⟩,
  ⟨some 13, 33, none, .load 33 (.tmp 12), false, [], false⟩,
  ⟨some 9, 33, none, .call ⟨.value (.func 146), #[.tmp 6, .tmp 8], #[33, 33]⟩, true, [], true⟩,
  ⟨some 14, 33, none, .call ⟨.value (.func 147), #[.tmp 11, .tmp 13], #[33, 33]⟩, true, [], false⟩,
  ⟨some 15, 68, none, .build 68 #[(0, .tmp 9), (1, .tmp 14)], false, [], false⟩,
  ⟨none, 0, none, .store 68 (.tmp 4) (.tmp 15), true, [], false⟩])
 .ret)
theorem k95 : FnOk Tryz.prog 95 16 [.cell 4 68] S95 := ⟨[166, 181, 201], _, Tryz.func95, by kernel_rfl, by kernel_rfl, rfl, rfl⟩
/- venturi/venturiref01.MeetBox -/
def S97 : SC := .seq (.ops [⟨some 2, 0, none, .box 68 (.tmp 0), false, [], false⟩,
  ⟨some 3, 0, none, .box 68 (.tmp 1), false, [], false⟩,
  ⟨some 4, 0, none, .alloc 68, false, [], false⟩,
  ⟨some 5, 4, none, .assign (.const (.bool false)), false, [], false⟩])
 (.seq (.ops [⟨some 7, 0, none, .fieldAddr 68 (.tmp 2) 0, false, [], false⟩,
  ⟨some 8, 33, none, .load 33 (.tmp 7), false, [], false⟩,
  ⟨some 9, 0, none, .fieldAddr 68 (.tmp 3) 0, false, [], false⟩,
  ⟨some 10, 33, none, .load 33 (.tmp 9), false, [], false⟩,
  ⟨some 12, 0, none, .fieldAddr 68 (.tmp 2) 1, false, [], false⟩,
  ⟨some 13, 33, none, .load 33 (.tmp 12), false, [], false⟩,
  ⟨some 14, 0, none, .fieldAddr 68 (.tmp 3) 1, false, [], false⟩,
  ⟨some 15, 33, none, .load 33 (.tmp 14), false, [], false⟩,
  ⟨some 6, 0, none, .alloc 68, false, [], false⟩,
  ⟨some 11, 33, none, .call ⟨.value (.func 147), #[.tmp 8, .tmp 10], #[33, 33]⟩, true, [], true⟩,
  ⟨some 16, 33, none, .call ⟨.value (.func 146), #[.tmp 13, .tmp 15], #[33, 33]⟩, true, [], false⟩,
  ⟨some 17, 68, none, .build 68 #[(0, .tmp 11), (1, .tmp 16)], false, [], false⟩,
  ⟨none, 0, none, .store 68 (.tmp 6) (.tmp 17), true, [], false⟩])
 (.seq (.seq (.ops [⟨some 18, 0, none, .fieldAddr 68 (.tmp 6) 0, false, [], false⟩,
  ⟨some 19, 33, none, .load 33 (.tmp 18), false, [], false⟩,
  ⟨some 20, 0, none, .fieldAddr 68 (.tmp 6) 1, false, [], false⟩,
  ⟨some 21, 33, none, .load 33 (.tmp 20), false, [], false⟩,
  ⟨some 22, 3, none, .call ⟨.value (.func 35), #[.tmp 19, .tmp 21], #[33, 33]⟩, true, [], false⟩,
  ⟨some 23, 4, none, .binOp .gtr 3 (.tmp 22) (.const (.int .i64 0)) 3, false, [], false⟩])
 (.cond (.tmp 23)
 (.seq (.ops [⟨some 24, 33, none, .call ⟨.value (.func 56), #[.const (.int .i64 0)], #[2]⟩, true, [], false⟩,
  ⟨some 25, 68, none, .call ⟨.value (.func 59), #[.tmp 24], #[33]⟩, true, [], false⟩,
  ⟨none, 0, none, .store 68 (.tmp 4) (.tmp 25), true, [], false⟩,
  ⟨some 5, 4, none, .assign (.const (.bool false)), false, [], false⟩])
 .ret)
 .skip))
 (.seq (.ops [⟨some 26, 68, none, .load 68 (.tmp 6), false, [], false⟩,
  ⟨none, 0, none, .store 68 (.tmp 4) (.tmp 26), true, [], false⟩,
  ⟨some 5, 4, none, .assign (.const (.bool true)), false, [], false⟩])
 .ret)))
theorem k97 : FnOk Tryz.prog 97 27 [.cell 4 68, .tmp 5] S97 := ⟨[166, 181, 201], _, Tryz.func97, by kernel_rfl, by kernel_rfl, rfl, rfl⟩
/- venturi/venturiref01.PowBox -/
def S98 : SC := .seq (.ops [⟨some 2, 0, none, .box 68 (.tmp 0), false, [], false⟩,
  ⟨some 4, 0, none, .alloc 68, false, [], false⟩])
 (.seq (.ops [⟨some 6, 0, none, .fieldAddr 68 (.tmp 2) 0, false, [], false⟩,
  ⟨some 7, 33, none, .load 33 (.tmp 6), false, [], false⟩,
  ⟨some 8, 3, none, .move (.tmp 1), false, [], false⟩,
  ⟨some 10, 0, none, .fieldAddr 68 (.tmp 2) 1, false, [], false⟩,
  ⟨some 11, 33, none, .load 33 (.tmp 10), false, [], false⟩,
  ⟨some 12, 3, none, .move (.tmp 1), false, [], false⟩,
  ⟨some 9, 33, none, .call ⟨.value (.func 49), #[.tmp 7, .tmp 8], #[33, 3]⟩, true, [], true⟩,
  ⟨some 13, 33, none, .call ⟨.value (.func 49), #[.tmp 11, .tmp 12], #[33, 3]⟩, true, [], false⟩,
  ⟨some 14, 114, none, .buildSlice 114 2 #[(0, .tmp 9), (1, .tmp 13)], true, [], false⟩,
  ⟨some 5, 114, none, .assign (.tmp 14), false, [], false⟩])
 (.seq (.seq (.ops [⟨some 15, 68, none, .load 68 (.tmp 2), false, [], false⟩,
  ⟨some 16, 33, none, .call ⟨.value (.func 56), #[.const (.int .i64 0)], #[2]⟩, true, [], true⟩,
  ⟨some 17, 4, none, .call ⟨.value (.func 61), #[.tmp 15, .tmp 16], #[68, 33]⟩, true, [], false⟩])
 (.cond (.tmp 17)
 (.ops [⟨some 18, 114, none, .move (.tmp 5), false, [], false⟩,
  ⟨some 19, 33, none, .call ⟨.value (.func 56), #[.const (.int .i64 0)], #[2]⟩, true, [], false⟩,
  ⟨some 20, 3, none, .move (.tmp 1), false, [], false⟩,
  ⟨some 21, 33, none, .call ⟨.value (.func 49), #[.tmp 19, .tmp 20], #[33, 3]⟩, true, [], false⟩,
  ⟨some 22, 114, none, .buildSlice 114 1 #[(0, .tmp 21)], true, [], false⟩,
  ⟨some 23, 114, none, .call ⟨.builtin .append, #[.tmp 18, .tmp 22], #[114, 114]⟩, true, [], false⟩,
  ⟨some 5, 114, none, .assign (.tmp 23), false, [], false⟩])
 .skip))
 (.seq (.ops [⟨some 24, 114, none, .move (.tmp 5), false, [], false⟩,
  ⟨some 25, 68, none, .call ⟨.value (.func 145), #[.tmp 24], #[114]⟩, true, [], false⟩,
  ⟨none, 0, none, .store 68 (.tmp 4) (.tmp 25), true, [], false⟩])
 .ret)))
theorem k98 : FnOk Tryz.prog 98 26 [.cell 4 68] S98 := ⟨[166, 181, 201], _, Tryz.func98, by kernel_rfl, by kernel_rfl, rfl, rfl⟩
/- venturi/venturiref01.DivBox -/
def S99 : SC := .seq (.ops [⟨some 2, 0, none, .box 68 (.tmp 0), false, [], false⟩,
  ⟨some 3, 0, none, .box 68 (.tmp 1), false, [], false⟩,
  ⟨some 4, 0, none, .alloc 68, false, [], false⟩])
 (.seq (.ops [⟨some 5, 0, none, .fieldAddr 68 (.tmp 2) 0, false, [], false⟩,
  ⟨some 6, 33, none, .load 33 (.tmp 5), false, [], false⟩,
  ⟨some 7, 0, none, .fieldAddr 68 (.tmp 3) 0, false, [], false⟩,
  ⟨some 8, 33, none, .load 33 (.tmp 7), false, [], false⟩,
  ⟨some 10, 0, none, .fieldAddr 68 (.tmp 2) 0, false, [], false⟩,
  ⟨some 11, 33, none, .load 33 (.tmp 10), false, [], false⟩,
  ⟨some 12, 0, none, .fieldAddr 68 (.tmp 3) 1, false, [], false⟩,
  ⟨some 13, 33, none, .load 33 (.tmp 12), false, [], false⟩,
  ⟨some 15, 0, none, .fieldAddr 68 (.tmp 2) 1, false, [], false⟩,
  ⟨some 16, 33, none, .load 33 (.tmp 15), false, [], false⟩,
  ⟨some 17, 0, none, .fieldAddr 68 (.tmp 3) 0, false, [], false⟩,
  ⟨some 18, 33, none, .load 33 (.tmp 17), false, [], false⟩,
  ⟨some 20, 0, none, .fieldAddr 68 (.tmp 2) 1, false, [], false⟩,
  ⟨some 21, 33, none, .load 33 (.tmp 20), false, [], false⟩,
  ⟨some 22, 0, none, .fieldAddr 68 (.tmp 3) 1, false, [], false⟩,
  ⟨some 23, 33, none, .load 33 (.tmp 22), false, [], false⟩,
  ⟨some 9, 33, none, .call ⟨.value (.func 40), #[.tmp 6, .tmp 8], #[33, 33]⟩, true, [], true⟩,
  ⟨some 14, 33, none, .call ⟨.value (.func 40), #[.tmp 11, .tmp 13], #[33, 33]⟩, true, [], true⟩,
  ⟨some 19, 33, none, .call ⟨.value (.func 40), #[.tmp 16, .tmp 18], #[33, 33]⟩, true, [], true⟩,
  ⟨some 24, 33, none, .call ⟨.value (.func 40), #[.tmp 21, .tmp 23], #[33, 33]⟩, true, [], false⟩,
  ⟨some 25, 114, none, .buildSlice 114 4 #[(0, .tmp 9), (1, .tmp 14), (2, .tmp 19), (3, .tmp 24)], true, [], false⟩,
  ⟨some 26, 68, none, .call ⟨.value (.func 145), #[.tmp 25], #[114]⟩, true, [], false⟩,
  ⟨none, 0, none, .store 68 (.tmp 4) (.tmp 26), true, [], false⟩])
 .ret)
theorem k99 : FnOk Tryz.prog 99 27 [.cell 4 68] S99 := ⟨[166, 181, 201], _, Tryz.func99, by kernel_rfl, by kernel_rfl, rfl, rfl⟩
/- venturi/venturiref01.Dot -/
def S103 : SC := .seq (.ops [⟨some 4, 0, none, .alloc 33, false, [], false⟩])
 (.seq (.ops [⟨some 7, 33, none, .call ⟨.value (.func 56), #[.const (.int .i64 0)], #[2]⟩, true, [], false⟩,
  ⟨some 5, 0, none, .alloc 33, false, [], false⟩,
  ⟨none, 0, none, .store 33 (.tmp 5) (.tmp 7), true, [], false⟩])
 (.seq (.seq (.ops [⟨some 6, 3, none, .assign (.const (.int .i64 0)), false, [], false⟩])
 (.block 0 (.loop (.seq (.seq (.ops [⟨some 8, 3, none, .move (.tmp 6), false, [], false⟩,
  ⟨some 9, 114, none, .move (.tmp 0), false, [], false⟩,
  ⟨some 10, 3, none, .call ⟨.builtin .len, #[.tmp 9], #[114]⟩, false, [], false⟩,
  ⟨some 11, 4, none, .binOp .lss 3 (.tmp 8) (.tmp 10) 3, false, [], false⟩])
 (.cond (.tmp 11)
 .skip
 (.exit 0)))
 (.seq (.block 1 (.ops [⟨some 14, 33, none, .load 33 (.tmp 5), false, [], false⟩,
  ⟨some 15, 114, none, .move (.tmp 0), false, [], false⟩,
  ⟨some 16, 3, none, .move (.tmp 6), false, [], false⟩,
  ⟨some 17, 0, none, .indexAddr 114 (.tmp 15) (.tmp 16), false, [], false⟩,
  ⟨some 18, 33, none, .load 33 (.tmp 17), false, [], false⟩,
  ⟨some 19, 114, none, .move (.tmp 1), false, [], false⟩,
  ⟨some 20, 3, none, .move (.tmp 6), false, [], false⟩,
  ⟨some 21, 0, none, .indexAddr 114 (.tmp 19) (.tmp 20), false, [], false⟩,
  ⟨some 22, 33, none, .load 33 (.tmp 21), false, [], false⟩,
  ⟨some 23, 33, none, .call ⟨.value (.func 33), #[.tmp 18, .tmp 22], #[33, 33]⟩, true, [], true⟩,
  ⟨some 24, 33, none, .call ⟨.value (.func 30), #[.tmp 14, .tmp 23], #[33, 33]⟩, true, [], false⟩,
  ⟨none, 0, none, .store 33 (.tmp 5) (.tmp 24), true, [], false⟩]))
 (.ops [⟨some 12, 3, none, .move (.tmp 6), false, [], false⟩,
  ⟨some 13, 3, none, .binOp .add 3 (.tmp 12) (.const (.int .i64 1)) 3, false, [], false⟩,
  ⟨some 6, 3, none, .assign (.tmp 13), false, [], false⟩]))))))
 (.seq (.ops [⟨some 25, 33, none, .load 33 (.tmp 5), false, [], false⟩,
  ⟨none, 0, none, .store 33 (.tmp 4) (.tmp 25), true, [], false⟩])
 .ret)))
theorem k103 : FnOk Tryz.prog 103 26 [.cell 4 33] S103 := ⟨[166, 181, 201], _, Tryz.func103, by kernel_rfl, by kernel_rfl, rfl, rfl⟩
/- venturi/venturiref01.Parts -/
def S106 : SC := .seq (.ops [⟨some 2, 0, none, .box 68 (.tmp 0), false, [], false⟩,
  ⟨some 4, 125, none, .assign (.const (.slice none 0 0)), false, [], false⟩])
 (.seq (.ops [⟨some 8, 125, none, .buildSlice 125 0 #[], true, [], false⟩,
  ⟨some 5, 125, none, .assign (.tmp 8), false, [], false⟩])
 (.seq (.ops [⟨some 9, 0, none, .fieldAddr 68 (.tmp 2) 1, false, [], false⟩,
  ⟨some 10, 33, none, .load 33 (.tmp 9), false, [], false⟩,
  ⟨some 11, 0, none, .fieldAddr 68 (.tmp 2) 0, false, [], false⟩,
  ⟨some 12, 33, none, .load 33 (.tmp 11), false, [], false⟩,
  ⟨some 13, 33, none, .call ⟨.value (.func 32), #[.tmp 10, .tmp 12], #[33, 33]⟩, true, [], false⟩,
  ⟨some 14, 3, none, .move (.tmp 1), false, [], false⟩,
  ⟨some 15, 33, none, .call ⟨.value (.func 56), #[.tmp 14], #[2]⟩, true, [], false⟩,
  ⟨some 16, 33, none, .call ⟨.value (.func 40), #[.tmp 13, .tmp 15], #[33, 33]⟩, true, [], false⟩,
  ⟨some 6, 0, none, .alloc 33, false, [], false⟩,
  ⟨none, 0, none, .store 33 (.tmp 6) (.tmp 16), true, [], false⟩])
 (.seq (.seq (.ops [⟨some 7, 3, none, .assign (.const (.int .i64 0)), false, [], false⟩])
 (.block 0 (.loop (.seq (.seq (.ops [⟨some 17, 3, none, .move (.tmp 7), false, [], false⟩,
  ⟨some 18, 3, none, .move (.tmp 1), false, [], false⟩,
  ⟨some 19, 4, none, .binOp .lss 3 (.tmp 17) (.tmp 18) 3, false, [], false⟩])
 (.cond (.tmp 19)
 .skip
 (.exit 0)))
 (.seq (.block 1 (.ops [⟨some 22, 125, none, .move (.tmp 5), false, [], false⟩,
  ⟨some 23, 0, none, .fieldAddr 68 (.tmp 2) 0, false, [], false⟩,
  ⟨some 24, 33, none, .load 33 (.tmp 23), false, [], false⟩,
  ⟨some 25, 33, none, .load 33 (.tmp 6), false, [], false⟩,
  ⟨some 26, 3, none, .move (.tmp 7), false, [], false⟩,
  ⟨some 30, 0, none, .fieldAddr 68 (.tmp 2) 0, false, [], false⟩,
  ⟨some 31, 33, none, .load 33 (.tmp 30), false, [], false⟩,
  ⟨some 32, 33, none, .load 33 (.tmp 6), false, [], false⟩,
  ⟨some 33, 3, none, .move (.tmp 7), false, [], false⟩,
  ⟨some 34, 3, none, .binOp .add 3 (.tmp 33) (.const (.int .i64 1)) 3, false, [], false⟩,
  ⟨some 27, 33, none, .call ⟨.value (.func 56), #[.tmp 26], #[2]⟩, true, [], true⟩,
  ⟨some 28, 33, none, .call ⟨.value (.func 33), #[.tmp 25, .tmp 27], #[33, 33]⟩, true, [], true⟩,
  ⟨some 29, 33, none, .call ⟨.value (.func 30), #[.tmp 24, .tmp 28], #[33, 33]⟩, true, [], true⟩,
  ⟨some 35, 33, none, .call ⟨.value (.func 56), #[.tmp 34], #[2]⟩, true, [], true⟩,
  ⟨some 36, 33, none, .call ⟨.value (.func 33), #[.tmp 32, .tmp 35], #[33, 33]⟩, true, [], true⟩,
  ⟨some 37, 33, none, .call ⟨.value (.func 30), #[.tmp 31, .tmp 36], #[33, 33]⟩, true, [], false⟩,
  ⟨some 38, 68, none, .build 68 #[(0, .tmp 29), (1, .tmp 37)], false, [], false⟩,
  ⟨some 39, 125, none, .buildSlice 125 1 #[(0, .tmp 38)], true, [], false⟩,
  ⟨some 40, 125, none, .call ⟨.builtin .append, #[.tmp 22, .tmp 39], #[125, 125]⟩, true, [], false⟩,
  ⟨some 5, 125, none, .assign (.tmp 40), true, [], false⟩]))
 (.ops [⟨some 20, 3, none, .move (.tmp 7), false, [], false⟩,
  ⟨some 21, 3, none, .binOp .add 3 (.tmp 20) (.const (.int .i64 1)) 3, false, [], false⟩,
  ⟨some 7, 3, none, .assign (.tmp 21), false, [], false⟩]))))))
 (.seq (.ops [⟨some 41, 125, none, .move (.tmp 5), false, [], false⟩,
  ⟨some 4, 125, none, .assign (.tmp 41), false, [], false⟩])
 .ret))))
theorem k106 : FnOk Tryz.prog 106 42 [.tmp 4] S106 := ⟨[166, 181, 201], _, Tryz.func106, by kernel_rfl, by kernel_rfl, rfl, rfl⟩
/- venturi/venturiref01.Poly -/
def S107 : SC := .seq (.ops [⟨some 4, 0, none, .box 68 (.tmp 1), false, [], false⟩,
  ⟨some 6, 0, none, .alloc 68, false, [], false⟩])
 (.seq (.ops [⟨some 12, 68, none, .load 68 (.tmp 4), false, [], false⟩,
  ⟨some 13, 3, none, .move (.tmp 2), false, [], false⟩,
  ⟨some 14, 125, none, .call ⟨.value (.func 106), #[.tmp 12, .tmp 13], #[68, 3]⟩, true, [], false⟩,
  ⟨some 7, 125, none, .assign (.tmp 14), false, [], false⟩])
 (.seq (.ops [⟨some 15, 68, none, .build 68 #[], false, [], false⟩,
  ⟨some 8, 0, none, .alloc 68, false, [], false⟩,
  ⟨none, 0, none, .store 68 (.tmp 8) (.tmp 15), true, [], false⟩])
 (.seq (.seq (.ops [⟨some 9, 3, none, .assign (.const (.int .i64 0)), false, [], false⟩])
 (.block 0 (.loop (.seq (.seq (.ops [⟨some 16, 3, none, .move (.tmp 9), false, [], false⟩,
  ⟨some 17, 125, none, .move (.tmp 7), false, [], false⟩,
  ⟨some 18, 3, none, .call ⟨.builtin .len, #[.tmp 17], #[125]⟩, false, [], false⟩,
  ⟨some 19, 4, none, .binOp .lss 3 (.tmp 16) (.tmp 18) 3, false, [], false⟩])
 (.cond (.tmp 19)
 .skip
 (.exit 0)))
 (.seq (.block 1 (.seq (.ops [⟨some 22, 33, none, .call ⟨.value (.func 56), #[.const (.int .i64 0)], #[2]⟩, true, [], false⟩,
  ⟨some 23, 68, none, .call ⟨.value (.func 59), #[.tmp 22], #[33]⟩, true, [], false⟩,
  ⟨some 10, 0, none, .alloc 68, false, [], false⟩,
  ⟨none, 0, none, .store 68 (.tmp 10) (.tmp 23), true, [], false⟩])
 (.seq (.seq (.ops [⟨some 24, 114, none, .move (.tmp 0), false, [], false⟩,
  ⟨some 25, 3, none, .call ⟨.builtin .len, #[.tmp 24], #[114]⟩, false, [], false⟩,
  ⟨some 26, 3, none, .binOp .sub 3 (.tmp 25) (.const (.int .i64 1)) 3, false, [], false⟩,
  ⟨some 11, 3, none, .assign (.tmp 26), false, [], false⟩])
 (.block 2 (.loop (.seq (.seq (.ops [⟨some 27, 3, none, .move (.tmp 11), false, [], false⟩,
  ⟨some 28, 4, none, .binOp .geq 3 (.tmp 27) (.const (.int .i64 0)) 3, false, [], false⟩])
 (.cond (.tmp 28)
 .skip
 (.exit 2)))
 (.seq (.block 3 (.ops [⟨some 31, 68, none, .load 68 (.tmp 10), false, [], false⟩,
  ⟨some 32, 125, none, .move (.tmp 7), false, [], false⟩,
  ⟨some 33, 3, none, .move (.tmp 9), false, [], false⟩,
  ⟨some 34, 0, none, .indexAddr 125 (.tmp 32) (.tmp 33), false, [], false⟩,
  ⟨some 35, 68, none, .load 68 (.tmp 34), false, [], false⟩,
  ⟨some 37, 114, none, .move (.tmp 0), false, [], false⟩,
  ⟨some 38, 3, none, .move (.tmp 11), false, [], false⟩,
  ⟨some 39, 0, none, .indexAddr 114 (.tmp 37) (.tmp 38), false, [], false⟩,
  ⟨some 40, 33, none, .load 33 (.tmp 39), false, [], false⟩,
  ⟨some 36, 68, none, .call ⟨.value (.func 92), #[.tmp 31, .tmp 35], #[68, 68]⟩, true, [], true⟩,
  ⟨some 41, 68, none, .call ⟨.value (.func 59), #[.tmp 40], #[33]⟩, true, [], false⟩,
  ⟨some 42, 68, none, .call ⟨.value (.func 90), #[.tmp 36, .tmp 41], #[68, 68]⟩, true, [], false⟩,
  ⟨none, 0, none, .store 68 (.tmp 10) (.tmp 42), true, [], false⟩]))
 (.ops [⟨some 29, 3, none, .move (.tmp 11), false, [], false⟩,
  ⟨some 30, 3, none, .binOp .sub 3 (.tmp 29) (.const (.int .i64 1)) 3, false, [], false⟩,
  ⟨some 11, 3, none, .assign (.tmp 30), false, [], false⟩]))))))
 (.seq (.ops [⟨some 43, 3, none, .move (.tmp 9), false, [], false⟩,
  ⟨some 44, 4, none, .binOp .eql 3 (.tmp 43) (.const (.int .i64 0)) 3, false, [], false⟩])
 (.cond (.tmp 44)
 (.ops [⟨some 45, 68, none, .load 68 (.tmp 10), false, [], false⟩,
  ⟨none, 0, none, .store 68 (.tmp 8) (.tmp 45), true, [], false⟩])
 (.ops [⟨some 46, 68, none, .load 68 (.tmp 8), false, [], false⟩,
  ⟨some 47, 68, none, .load 68 (.tmp 10), false, [], false⟩,
  ⟨some 48, 68, none, .call ⟨.value (.func 95), #[.tmp 46, .tmp 47], #[68, 68]⟩, true, [], false⟩,
  ⟨none, 0, none, .store 68 (.tmp 8) (.tmp 48), true, [], false⟩]))))))
 (.ops [⟨some 20, 3, none, .move (.tmp 9), false, [], false⟩,
  ⟨some 21, 3, none, .binOp .add 3 (.tmp 20) (.const (.int .i64 1)) 3, false, [], false⟩,
  ⟨some 9, 3, none, .assign (.tmp 21), false, [], false⟩]))))))
 (.seq (.ops [⟨some 49, 68, none, .load 68 (.tmp 8), false, [], false⟩,
  ⟨none, 0, none, .store 68 (.tmp 6) (.tmp 49), true, [], false⟩])
 .ret))))
theorem k107 : FnOk Tryz.prog 107 50 [.cell 6 68] S107 := ⟨[166, 181, 201], _, Tryz.func107, by kernel_rfl, by kernel_rfl, rfl, rfl⟩
/- venturi/venturiref01.digits -/
def S115 : SC := .seq (.ops [⟨some 2, 31, none, .assign (.const (.slice none 0 0)), false, [], false⟩,
  ⟨some 3, 4, none, .assign (.const (.bool false)), false, [], false⟩])
 (.seq (.ops [⟨some 6, 31, none, .buildSlice 31 0 #[], true, [], false⟩,
  ⟨some 4, 31, none, .assign (.tmp 6), false, [], false⟩])
 (.seq (.seq (.ops [⟨some 5, 3, none, .assign (.const (.int .i64 0)), false, [], false⟩])
 (.block 0 (.loop (.seq (.seq (.ops [⟨some 7, 3, none, .move (.tmp 5), false, [], false⟩,
  ⟨some 8, 9, none, .move (.tmp 0), false, [], false⟩,
  ⟨some 9, 3, none, .call ⟨.builtin .len, #[.tmp 8], #[9]⟩, false, [], false⟩,
  ⟨some 10, 4, none, .binOp .lss 3 (.tmp 7) (.tmp 9) 3, false, [], false⟩])
 (.cond (.tmp 10)
 .skip
 (.exit 0)))
 (.seq (.block 1 (.seq (.seq (.ops [⟨some 13, 9, none, .move (.tmp 0), false, [], false⟩,
  ⟨some 14, 3, none, .move (.tmp 5), false, [], false⟩,
  ⟨some 15, 5, none, .index 9 (.tmp 13) (.tmp 14), false, [], false⟩,
  ⟨some 16, 4, none, .binOp .lss 5 (.tmp 15) (.const (.int .u8 48)) 5, false, [], false⟩,
  ⟨some 17, 4, none, .move (.tmp 16), false, [], false⟩,
  ⟨some 18, 9, some (17, false), .move (.tmp 0), false, [], false⟩,
  ⟨some 19, 3, some (17, false), .move (.tmp 5), false, [], false⟩,
  ⟨some 20, 5, some (17, false), .index 9 (.tmp 18) (.tmp 19), false, [], false⟩,
  ⟨some 21, 4, some (17, false), .binOp .gtr 5 (.tmp 20) (.const (.int .u8 57)) 5, false, [], false⟩,
  ⟨some 22, 4, none, .pick (.tmp 17) (.const (.bool true)) (.tmp 21), false, [], false⟩])
 (.cond (.tmp 22)
 (.seq (.ops [⟨some 2, 31, none, .assign (.const (.slice none 0 0)), false, [], false⟩,
  ⟨some 3, 4, none, .assign (.const (.bool false)), false, [], false⟩])
 .ret)
 .skip))
 (.ops [⟨some 23, 31, none, .move (.tmp 4), false, [], false⟩,
  ⟨some 26, 9, none, .move (.tmp 0), false, [], false⟩,
  ⟨some 27, 3, none, .move (.tmp 5), false, [], false⟩,
  ⟨some 28, 5, none, .index 9 (.tmp 26) (.tmp 27), false, [], false⟩,
  ⟨some 29, 5, none, .binOp .sub 5 (.tmp 28) (.const (.int .u8 48)) 5, false, [], false⟩,
  ⟨some 30, 140, none, .convert 5 140 (.tmp 29), false, [], false⟩,
  ⟨some 24, 31, none, .buildSlice 31 1 #[(0, .const (.int .i64 10))], true, [], false⟩,
  ⟨some 25, 31, none, .call ⟨.value (.func 117), #[.tmp 23, .tmp 24], #[31, 31]⟩, true, [], false⟩,
  ⟨some 31, 31, none, .call ⟨.value (.func 134), #[.tmp 30], #[140]⟩, true, [], false⟩,
  ⟨some 32, 31, none, .call ⟨.value (.func 118), #[.tmp 25, .tmp 31], #[31, 31]⟩, true, [], false⟩,
  ⟨some 4, 31, none, .assign (.tmp 32), true, [], false⟩])))
 (.ops [⟨some 11, 3, none, .move (.tmp 5), false, [], false⟩,
  ⟨some 12, 3, none, .binOp .add 3 (.tmp 11) (.const (.int .i64 1)) 3, false, [], false⟩,
  ⟨some 5, 3, none, .assign (.tmp 12), false, [], false⟩]))))))
 (.seq (.ops [⟨some 33, 31, none, .move (.tmp 4), false, [], false⟩,
  ⟨some 34, 9, none, .move (.tmp 0), false, [], false⟩,
  ⟨some 35, 3, none, .call ⟨.builtin .len, #[.tmp 34], #[9]⟩, false, [], false⟩,
  ⟨some 36, 4, none, .binOp .gtr 3 (.tmp 35) (.const (.int .i64 0)) 3, false, [], false⟩,
  ⟨some 2, 31, none, .assign (.tmp 33), false, [], false⟩,
  ⟨some 3, 4, none, .assign (.tmp 36), false, [], false⟩])
 .ret)))
theorem k115 : FnOk Tryz.prog 115 37 [.tmp 2, .tmp 3] S115 := ⟨[166, 181, 201], _, Tryz.func115, by kernel_rfl, by kernel_rfl, rfl, rfl⟩
/- venturi/venturiref01.Make -/
def S116 : SC := .seq (.ops [⟨some 6, 0, none, .alloc 33, false, [], false⟩])
 (.seq (.ops [⟨some 8, 31, none, .move (.tmp 1), false, [], false⟩,
  ⟨some 9, 31, none, .move (.tmp 2), false, [], false⟩,
  ⟨some 10, 31, none, .call ⟨.value (.func 154), #[.tmp 8, .tmp 9], #[31, 31]⟩, true, [], false⟩,
  ⟨some 7, 31, none, .assign (.tmp 10), false, [], false⟩])
 (.seq (.seq (.ops [⟨some 11, 31, none, .move (.tmp 7), false, [], false⟩,
  ⟨some 12, 31, none, .buildSlice 31 1 #[(0, .const (.int .i64 1))], true, [], false⟩,
  ⟨some 13, 3, none, .call ⟨.value (.func 126), #[.tmp 11, .tmp 12], #[31, 31]⟩, true, [], false⟩,
  ⟨some 14, 4, none, .binOp .neq 3 (.tmp 13) (.const (.int .i64 0)) 3, false, [], false⟩])
 (.cond (.tmp 14)
 (.seq (.ops [⟨some 16, 31, none, .move (.tmp 1), false, [], false⟩,
  ⟨some 17, 31, none, .move (.tmp 7), false, [], false⟩,
  ⟨some 18, 153, none, .call ⟨.value (.func 130), #[.tmp 16, .tmp 17], #[31, 31]⟩, true, [], false⟩,
  ⟨some 15, 153, none, .move (.tmp 18), false, [], false⟩,
  ⟨some 19, 31, none, .extract (.tmp 15) 0, false, [], false⟩,
  ⟨some 20, 31, none, .extract (.tmp 15) 1, false, [], false⟩,
  ⟨some 1, 31, none, .assign (.tmp 19), false, [], false⟩])
 (.ops [⟨some 22, 31, none, .move (.tmp 2), false, [], false⟩,
  ⟨some 23, 31, none, .move (.tmp 7), false, [], false⟩,
  ⟨some 24, 153, none, .call ⟨.value (.func 130), #[.tmp 22, .tmp 23], #[31, 31]⟩, true, [], false⟩,
  ⟨some 21, 153, none, .move (.tmp 24), false, [], false⟩,
  ⟨some 25, 31, none, .extract (.tmp 21) 0, false, [], false⟩,
  ⟨some 26, 31, none, .extract (.tmp 21) 1, false, [], false⟩,
  ⟨some 2, 31, none, .assign (.tmp 25), false, [], false⟩]))
 .skip))
 (.seq (.ops [⟨some 27, 4, none, .move (.tmp 0), false, [], false⟩,
  ⟨some 28, 4, none, .move (.tmp 27), false, [], false⟩,
  ⟨some 29, 31, some (28, true), .move (.tmp 1), false, [], false⟩,
  ⟨some 30, 3, some (28, true), .call ⟨.builtin .len, #[.tmp 29], #[31]⟩, false, [], false⟩,
  ⟨some 31, 4, some (28, true), .binOp .gtr 3 (.tmp 30) (.const (.int .i64 0)) 3, false, [], false⟩,
  ⟨some 32, 4, none, .pick (.tmp 28) (.tmp 31) (.const (.bool false)), false, [], false⟩,
  ⟨some 33, 31, none, .move (.tmp 1), false, [], false⟩,
  ⟨some 34, 31, none, .move (.tmp 2), false, [], false⟩,
  ⟨some 35, 33, none, .build 33 #[(0, .tmp 32), (1, .tmp 33), (2, .tmp 34)], false, [], false⟩,
  ⟨none, 0, none, .store 33 (.tmp 6) (.tmp 35), true, [], false⟩])
 .ret)))
theorem k116 : FnOk Tryz.prog 116 36 [.cell 6 33] S116 := ⟨[166, 181, 201], _, Tryz.func116, by kernel_rfl, by kernel_rfl, rfl, rfl⟩
/- venturi/venturiref01.Times -/
def S117 : SC := .seq (.ops [⟨some 4, 31, none, .assign (.const (.slice none 0 0)), false, [], false⟩])
 (.seq (.ops [⟨some 9, 31, none, .move (.tmp 0), false, [], false⟩,
  ⟨some 10, 3, none, .call ⟨.builtin .len, #[.tmp 9], #[31]⟩, false, [], false⟩,
  ⟨some 11, 31, none, .move (.tmp 1), false, [], false⟩,
  ⟨some 12, 3, none, .call ⟨.builtin .len, #[.tmp 11], #[31]⟩, false, [], false⟩,
  ⟨some 13, 3, none, .binOp .add 3 (.tmp 10) (.tmp 12) 3, false, [], false⟩,
  ⟨some 14, 3, none, .binOp .add 3 (.tmp 13) (.const (.int .i64 1)) 3, false, [], false⟩,
  ⟨some 15, 31, none, .makeSlice 31 (.tmp 14) (.tmp 14), true, [], false⟩,
  ⟨some 5, 31, none, .assign (.tmp 15), false, [], false⟩])
 (.seq (.seq (.ops [⟨some 6, 3, none, .assign (.const (.int .i64 0)), false, [], false⟩])
 (.block 0 (.loop (.seq (.seq (.ops [⟨some 16, 3, none, .move (.tmp 6), false, [], false⟩,
  ⟨some 17, 31, none, .move (.tmp 0), false, [], false⟩,
  ⟨some 18, 3, none, .call ⟨.builtin .len, #[.tmp 17], #[31]⟩, false, [], false⟩,
  ⟨some 19, 4, none, .binOp .lss 3 (.tmp 16) (.tmp 18) 3, false, [], false⟩])
 (.cond (.tmp 19)
 .skip
 (.exit 0)))
 (.seq (.block 1 (.seq (.ops [⟨some 7, 3, none, .assign (.const (.int .i64 0)), false, [], false⟩])
 (.seq (.ops [⟨some 8, 3, none, .assign (.const (.int .i64 0)), false, [], false⟩])
 (.block 2 (.loop (.seq (.seq (.ops [⟨some 22, 3, none, .move (.tmp 8), false, [], false⟩,
  ⟨some 23, 31, none, .move (.tmp 1), false, [], false⟩,
  ⟨some 24, 3, none, .call ⟨.builtin .len, #[.tmp 23], #[31]⟩, false, [], false⟩,
  ⟨some 25, 4, none, .binOp .leq 3 (.tmp 22) (.tmp 24) 3, false, [], false⟩])
 (.cond (.tmp 25)
 .skip
 (.exit 2)))
 (.seq (.block 3 (.seq (.ops [⟨some 28, 3, none, .move (.tmp 7), false, [], false⟩,
  ⟨some 29, 31, none, .move (.tmp 5), false, [], false⟩,
  ⟨some 30, 3, none, .move (.tmp 6), false, [], false⟩,
  ⟨some 31, 3, none, .move (.tmp 8), false, [], false⟩,
  ⟨some 32, 3, none, .binOp .add 3 (.tmp 30) (.tmp 31) 3, false, [], false⟩,
  ⟨some 33, 0, none, .indexAddr 31 (.tmp 29) (.tmp 32), false, [], false⟩,
  ⟨some 34, 3, none, .load 3 (.tmp 33), false, [], false⟩,
  ⟨some 35, 31, none, .move (.tmp 0), false, [], false⟩,
  ⟨some 36, 3, none, .move (.tmp 6), false, [], false⟩,
  ⟨some 37, 0, none, .indexAddr 31 (.tmp 35) (.tmp 36), false, [], false⟩,
  ⟨some 38, 3, none, .load 3 (.tmp 37), false, [], false⟩,
  ⟨some 39, 31, none, .move (.tmp 1), false, [], false⟩,
  ⟨some 40, 3, none, .move (.tmp 8), false, [], false⟩,
  ⟨some 41, 3, none, .call ⟨.value (.func 155), #[.tmp 39, .tmp 40], #[31, 3]⟩, true, [], true⟩,
  ⟨some 42, 3, none, .binOp .mul 3 (.tmp 38) (.tmp 41) 3, false, [], false⟩,
  ⟨some 43, 3, none, .binOp .add 3 (.tmp 34) (.tmp 42) 3, false, [], false⟩,
  ⟨some 44, 3, none, .binOp .add 3 (.tmp 28) (.tmp 43) 3, false, [], false⟩,
  ⟨some 7, 3, none, .assign (.tmp 44), true, [], false⟩])
 (.seq (.ops [⟨some 45, 31, none, .move (.tmp 5), false, [], false⟩,
  ⟨some 46, 3, none, .move (.tmp 6), false, [], false⟩,
  ⟨some 47, 3, none, .move (.tmp 8), false, [], false⟩,
  ⟨some 48, 3, none, .binOp .add 3 (.tmp 46) (.tmp 47) 3, false, [], false⟩,
  ⟨some 49, 3, none, .move (.tmp 7), false, [], false⟩,
  ⟨some 50, 3, none, .binOp .and 3 (.tmp 49) (.const (.int .i64 65535)) 3, false, [], false⟩,
  ⟨some 51, 0, none, .indexAddr 31 (.tmp 45) (.tmp 48), false, [], false⟩,
  ⟨none, 0, none, .store 3 (.tmp 51) (.tmp 50), true, [], false⟩])
 (.ops [⟨some 52, 3, none, .move (.tmp 7), false, [], false⟩,
  ⟨some 53, 3, none, .binOp .shr 3 (.tmp 52) (.const (.int .u64 16)) 146, false, [], false⟩,
  ⟨some 7, 3, none, .assign (.tmp 53), false, [], false⟩]))))
 (.ops [⟨some 26, 3, none, .move (.tmp 8), false, [], false⟩,
  ⟨some 27, 3, none, .binOp .add 3 (.tmp 26) (.const (.int .i64 1)) 3, false, [], false⟩,
  ⟨some 8, 3, none, .assign (.tmp 27), false, [], false⟩]))))))))
 (.ops [⟨some 20, 3, none, .move (.tmp 6), false, [], false⟩,
  ⟨some 21, 3, none, .binOp .add 3 (.tmp 20) (.const (.int .i64 1)) 3, false, [], false⟩,
  ⟨some 6, 3, none, .assign (.tmp 21), false, [], false⟩]))))))
 (.seq (.ops [⟨some 54, 31, none, .move (.tmp 5), false, [], false⟩,
  ⟨some 55, 31, none, .call ⟨.value (.func 156), #[.tmp 54], #[31]⟩, true, [], false⟩,
  ⟨some 4, 31, none, .assign (.tmp 55), false, [], false⟩])
 .ret)))
theorem k117 : FnOk Tryz.prog 117 56 [.tmp 4] S117 := ⟨[166, 181, 201], _, Tryz.func117, by kernel_rfl, by kernel_rfl, rfl, rfl⟩
/- venturi/venturiref01.Plus -/
def S118 : SC := .seq (.ops [⟨some 4, 31, none, .assign (.const (.slice none 0 0)), false, [], false⟩])
 (.seq (.ops [⟨some 8, 31, none, .buildSlice 31 0 #[], true, [], false⟩,
  ⟨some 5, 31, none, .assign (.tmp 8), false, [], false⟩])
 (.seq (.ops [⟨some 6, 3, none, .assign (.const (.int .i64 0)), false, [], false⟩])
 (.seq (.seq (.ops [⟨some 7, 3, none, .assign (.const (.int .i64 0)), false, [], false⟩])
 (.block 0 (.loop (.seq (.seq (.ops [⟨some 9, 3, none, .move (.tmp 7), false, [], false⟩,
  ⟨some 10, 31, none, .move (.tmp 0), false, [], false⟩,
  ⟨some 11, 3, none, .call ⟨.builtin .len, #[.tmp 10], #[31]⟩, false, [], false⟩,
  ⟨some 12, 31, none, .move (.tmp 1), false, [], false⟩,
  ⟨some 13, 3, none, .call ⟨.builtin .len, #[.tmp 12], #[31]⟩, false, [], false⟩,
  ⟨some 14, 3, none, .call ⟨.builtin .max, #[.tmp 11, .tmp 13], #[3, 3]⟩, false, [], false⟩,
  ⟨some 15, 4, none, .binOp .lss 3 (.tmp 9) (.tmp 14) 3, false, [], false⟩])
 (.cond (.tmp 15)
 .skip
 (.exit 0)))
 (.seq (.block 1 (.seq (.ops [⟨some 18, 3, none, .move (.tmp 6), false, [], false⟩,
  ⟨some 19, 31, none, .move (.tmp 0), false, [], false⟩,
  ⟨some 20, 3, none, .move (.tmp 7), false, [], false⟩,
  ⟨some 21, 3, none, .call ⟨.value (.func 155), #[.tmp 19, .tmp 20], #[31, 3]⟩, true, [], false⟩,
  ⟨some 22, 31, none, .move (.tmp 1), false, [], false⟩,
  ⟨some 23, 3, none, .move (.tmp 7), false, [], false⟩,
  ⟨some 24, 3, none, .call ⟨.value (.func 155), #[.tmp 22, .tmp 23], #[31, 3]⟩, true, [], false⟩,
  ⟨some 25, 3, none, .binOp .add 3 (.tmp 21) (.tmp 24) 3, false, [], false⟩,
  ⟨some 26, 3, none, .binOp .add 3 (.tmp 18) (.tmp 25) 3, false, [], false⟩,
  ⟨some 6, 3, none, .assign (.tmp 26), false, [], false⟩])
 (.seq (.ops [⟨some 27, 31, none, .move (.tmp 5), false, [], false⟩,
  ⟨some 28, 3, none, .move (.tmp 6), false, [], false⟩,
  ⟨some 29, 3, none, .binOp .and 3 (.tmp 28) (.const (.int .i64 65535)) 3, false, [], false⟩,
  ⟨some 30, 31, none, .buildSlice 31 1 #[(0, .tmp 29)], true, [], false⟩,
  ⟨some 31, 31, none, .call ⟨.builtin .append, #[.tmp 27, .tmp 30], #[31, 31]⟩, true, [], false⟩,
  ⟨some 5, 31, none, .assign (.tmp 31), false, [], false⟩])
 (.ops [⟨some 32, 3, none, .move (.tmp 6), false, [], false⟩,
  ⟨some 33, 3, none, .binOp .shr 3 (.tmp 32) (.const (.int .u64 16)) 146, false, [], false⟩,
  ⟨some 6, 3, none, .assign (.tmp 33), false, [], false⟩]))))
 (.ops [⟨some 16, 3, none, .move (.tmp 7), false, [], false⟩,
  ⟨some 17, 3, none, .binOp .add 3 (.tmp 16) (.const (.int .i64 1)) 3, false, [], false⟩,
  ⟨some 7, 3, none, .assign (.tmp 17), false, [], false⟩]))))))
 (.seq (.ops [⟨some 34, 31, none, .move (.tmp 5), false, [], false⟩,
  ⟨some 35, 3, none, .move (.tmp 6), false, [], false⟩,
  ⟨some 36, 31, none, .buildSlice 31 1 #[(0, .tmp 35)], true, [], false⟩,
  ⟨some 37, 31, none, .call ⟨.builtin .append, #[.tmp 34, .tmp 36], #[31, 31]⟩, true, [], false⟩,
  ⟨some 38, 31, none, .call ⟨.value (.func 156), #[.tmp 37], #[31]⟩, true, [], false⟩,
  ⟨some 4, 31, none, .assign (.tmp 38), false, [], false⟩])
 .ret))))
theorem k118 : FnOk Tryz.prog 118 39 [.tmp 4] S118 := ⟨[166, 181, 201], _, Tryz.func118, by kernel_rfl, by kernel_rfl, rfl, rfl⟩
/- venturi/venturiref01.Text -/
def S119 : SC := .seq (.ops [⟨some 1, 0, none, .box 33 (.tmp 0), false, [], false⟩,
  ⟨some 2, 9, none, .assign (.const (.string ⟨#[]⟩)), false, [], false⟩])
 (.seq (.ops [⟨some 3, 9, none, .assign (.const (.string ⟨#[]⟩)), false, [], false⟩])
 (.seq (.seq (.ops [⟨some 13, 0, none, .fieldAddr 33 (.tmp 1) 0, false, [], false⟩,
  ⟨some 14, 4, none, .load 4 (.tmp 13), false, [], false⟩])
 (.cond (.tmp 14)
 (.ops [⟨some 3, 9, none, .assign (.const (.string ⟨#[45]⟩)), false, [], false⟩])
 .skip))
 (.seq (.ops [⟨some 15, 0, none, .fieldAddr 33 (.tmp 1) 2, false, [], false⟩,
  ⟨some 16, 31, none, .load 31 (.tmp 15), false, [], false⟩,
  ⟨some 4, 3, none, .assign (.const (.int .i64 0)), false, [], false⟩,
  ⟨some 5, 3, none, .assign (.const (.int .i64 0)), false, [], false⟩,
  ⟨some 6, 31, none, .assign (.tmp 16), false, [], false⟩])
 (.seq (.block 0 (.loop (.seq (.seq (.ops [⟨some 17, 31, none, .move (.tmp 6), false, [], false⟩,
  ⟨some 18, 0, none, .indexAddr 31 (.tmp 17) (.const (.int .i64 0)), false, [], false⟩,
  ⟨some 19, 3, none, .load 3 (.tmp 18), false, [], false⟩,
  ⟨some 20, 3, none, .binOp .and 3 (.tmp 19) (.const (.int .i64 1)) 3, false, [], false⟩,
  ⟨some 21, 4, none, .binOp .eql 3 (.tmp 20) (.const (.int .i64 0)) 3, false, [], false⟩])
 (.cond (.tmp 21)
 .skip
 (.exit 0)))
 (.block 1 (.ops [⟨some 22, 31, none, .move (.tmp 6), false, [], false⟩,
  ⟨some 23, 31, none, .call ⟨.value (.func 157), #[.tmp 22], #[31]⟩, true, [], false⟩,
  ⟨some 24, 3, none, .move (.tmp 4), false, [], false⟩,
  ⟨some 25, 3, none, .binOp .add 3 (.tmp 24) (.const (.int .i64 1)) 3, false, [], false⟩,
  ⟨some 6, 31, none, .assign (.tmp 23), false, [], false⟩,
  ⟨some 4, 3, none, .assign (.tmp 25), false, [], false⟩])))))
 (.seq (.block 2 (.loop (.block 3 (.seq (.ops [⟨some 27, 31, none, .move (.tmp 6), false, [], false⟩,
  ⟨some 28, 31, none, .buildSlice 31 1 #[(0, .const (.int .i64 5))], true, [], false⟩,
  ⟨some 29, 153, none, .call ⟨.value (.func 130), #[.tmp 27, .tmp 28], #[31, 31]⟩, true, [], false⟩,
  ⟨some 26, 153, none, .move (.tmp 29), false, [], false⟩,
  ⟨some 30, 31, none, .extract (.tmp 26) 0, false, [], false⟩,
  ⟨some 31, 31, none, .extract (.tmp 26) 1, false, [], false⟩,
  ⟨some 7, 31, none, .assign (.tmp 30), false, [], false⟩,
  ⟨some 8, 31, none, .assign (.tmp 31), false, [], false⟩])
 (.seq (.seq (.ops [⟨some 32, 31, none, .move (.tmp 8), false, [], false⟩,
  ⟨some 33, 3, none, .call ⟨.builtin .len, #[.tmp 32], #[31]⟩, false, [], false⟩,
  ⟨some 34, 4, none, .binOp .gtr 3 (.tmp 33) (.const (.int .i64 0)) 3, false, [], false⟩])
 (.cond (.tmp 34)
 (.exit 2)
 .skip))
 (.ops [⟨some 35, 31, none, .move (.tmp 7), false, [], false⟩,
  ⟨some 36, 3, none, .move (.tmp 5), false, [], false⟩,
  ⟨some 37, 3, none, .binOp .add 3 (.tmp 36) (.const (.int .i64 1)) 3, false, [], false⟩,
  ⟨some 6, 31, none, .assign (.tmp 35), false, [], false⟩,
  ⟨some 5, 3, none, .assign (.tmp 37), false, [], false⟩]))))))
 (.seq (.seq (.ops [⟨some 38, 31, none, .move (.tmp 6), false, [], false⟩,
  ⟨some 39, 31, none, .buildSlice 31 1 #[(0, .const (.int .i64 1))], true, [], false⟩,
  ⟨some 40, 3, none, .call ⟨.value (.func 126), #[.tmp 38, .tmp 39], #[31, 31]⟩, true, [], false⟩,
  ⟨some 41, 4, none, .binOp .neq 3 (.tmp 40) (.const (.int .i64 0)) 3, false, [], false⟩])
 (.cond (.tmp 41)
 (.seq (.ops [⟨some 42, 9, none, .move (.tmp 3), false, [], false⟩,
  ⟨some 43, 0, none, .fieldAddr 33 (.tmp 1) 1, false, [], false⟩,
  ⟨some 44, 31, none, .load 31 (.tmp 43), false, [], false⟩,
  ⟨some 48, 0, none, .fieldAddr 33 (.tmp 1) 2, false, [], false⟩,
  ⟨some 49, 31, none, .load 31 (.tmp 48), false, [], false⟩,
  ⟨some 45, 9, none, .call ⟨.value (.func 158), #[.tmp 44], #[31]⟩, true, [], true⟩,
  ⟨some 46, 9, none, .binOp .add 9 (.tmp 42) (.tmp 45) 9, false, [], false⟩,
  ⟨some 47, 9, none, .binOp .add 9 (.tmp 46) (.const (.string ⟨#[47]⟩)) 9, false, [], false⟩,
  ⟨some 50, 9, none, .call ⟨.value (.func 158), #[.tmp 49], #[31]⟩, true, [], false⟩,
  ⟨some 51, 9, none, .binOp .add 9 (.tmp 47) (.tmp 50) 9, false, [], false⟩,
  ⟨some 2, 9, none, .assign (.tmp 51), false, [], false⟩])
 .ret)
 .skip))
 (.seq (.ops [⟨some 52, 3, none, .move (.tmp 4), false, [], false⟩,
  ⟨some 53, 3, none, .move (.tmp 5), false, [], false⟩,
  ⟨some 54, 3, none, .call ⟨.builtin .max, #[.tmp 52, .tmp 53], #[3, 3]⟩, false, [], false⟩,
  ⟨some 9, 3, none, .assign (.tmp 54), false, [], false⟩])
 (.seq (.ops [⟨some 55, 0, none, .fieldAddr 33 (.tmp 1) 1, false, [], false⟩,
  ⟨some 56, 31, none, .load 31 (.tmp 55), false, [], false⟩,
  ⟨some 10, 31, none, .assign (.tmp 56), false, [], false⟩])
 (.seq (.seq (.ops [⟨some 11, 3, none, .assign (.const (.int .i64 0)), false, [], false⟩])
 (.block 4 (.loop (.seq (.seq (.ops [⟨some 57, 3, none, .move (.tmp 11), false, [], false⟩,
  ⟨some 58, 3, none, .move (.tmp 9), false, [], false⟩,
  ⟨some 59, 4, none, .binOp .lss 3 (.tmp 57) (.tmp 58) 3, false, [], false⟩])
 (.cond (.tmp 59)
 .skip
 (.exit 4)))
 (.seq (.block 5 (.ops [⟨some 62, 31, none, .move (.tmp 10), false, [], false⟩,
  ⟨some 63, 31, none, .buildSlice 31 1 #[(0, .const (.int .i64 10))], true, [], false⟩,
  ⟨some 64, 31, none, .call ⟨.value (.func 117), #[.tmp 62, .tmp 63], #[31, 31]⟩, true, [], false⟩,
  ⟨some 10, 31, none, .assign (.tmp 64), false, [], false⟩]))
 (.ops [⟨some 60, 3, none, .move (.tmp 11), false, [], false⟩,
  ⟨some 61, 3, none, .binOp .add 3 (.tmp 60) (.const (.int .i64 1)) 3, false, [], false⟩,
  ⟨some 11, 3, none, .assign (.tmp 61), false, [], false⟩]))))))
 (.seq (.ops [⟨some 66, 31, none, .move (.tmp 10), false, [], false⟩,
  ⟨some 67, 0, none, .fieldAddr 33 (.tmp 1) 2, false, [], false⟩,
  ⟨some 68, 31, none, .load 31 (.tmp 67), false, [], false⟩,
  ⟨some 69, 153, none, .call ⟨.value (.func 130), #[.tmp 66, .tmp 68], #[31, 31]⟩, true, [], false⟩,
  ⟨some 65, 153, none, .move (.tmp 69), false, [], false⟩,
  ⟨some 70, 31, none, .extract (.tmp 65) 0, false, [], false⟩,
  ⟨some 71, 31, none, .extract (.tmp 65) 1, false, [], false⟩,
  ⟨some 10, 31, none, .assign (.tmp 70), false, [], false⟩])
 (.seq (.ops [⟨some 72, 31, none, .move (.tmp 10), false, [], false⟩,
  ⟨some 73, 9, none, .call ⟨.value (.func 158), #[.tmp 72], #[31]⟩, true, [], false⟩,
  ⟨some 12, 9, none, .assign (.tmp 73), false, [], false⟩])
 (.seq (.block 6 (.loop (.seq (.seq (.ops [⟨some 74, 9, none, .move (.tmp 12), false, [], false⟩,
  ⟨some 75, 3, none, .call ⟨.builtin .len, #[.tmp 74], #[9]⟩, false, [], false⟩,
  ⟨some 76, 3, none, .move (.tmp 9), false, [], false⟩,
  ⟨some 77, 4, none, .binOp .leq 3 (.tmp 75) (.tmp 76) 3, false, [], false⟩])
 (.cond (.tmp 77)
 .skip
 (.exit 6)))
 (.block 7 (.ops [⟨some 78, 9, none, .move (.tmp 12), false, [], false⟩,
  ⟨some 79, 9, none, .binOp .add 9 (.const (.string ⟨#[48]⟩)) (.tmp 78) 9, false, [], false⟩,
  ⟨some 12, 9, none, .assign (.tmp 79), false, [], false⟩])))))
 (.seq (.seq (.ops [⟨some 80, 3, none, .move (.tmp 9), false, [], false⟩,
  ⟨some 81, 4, none, .binOp .eql 3 (.tmp 80) (.const (.int .i64 0)) 3, false, [], false⟩])
 (.cond (.tmp 81)
 (.seq (.ops [⟨some 82, 9, none, .move (.tmp 3), false, [], false⟩,
  ⟨some 83, 9, none, .move (.tmp 12), false, [], false⟩,
  ⟨some 84, 9, none, .binOp .add 9 (.tmp 82) (.tmp 83) 9, false, [], false⟩,
  ⟨some 2, 9, none, .assign (.tmp 84), false, [], false⟩])
 .ret)
 .skip))
 (.seq (.ops [⟨some 85, 9, none, .move (.tmp 3), false, [], false⟩,
  ⟨some 86, 9, none, .move (.tmp 12), false, [], false⟩,
  ⟨some 87, 9, none, .move (.tmp 12), false, [], false⟩,
  ⟨some 88, 3, none, .call ⟨.builtin .len, #[.tmp 87], #[9]⟩, false, [], false⟩,
  ⟨some 89, 3, none, .move (.tmp 9), false, [], false⟩,
  ⟨some 90, 3, none, .binOp .sub 3 (.tmp 88) (.tmp 89) 3, false, [], false⟩,
  ⟨some 91, 9, none, .slice 9 (.tmp 86) none (some (.tmp 90)) none, false, [], false⟩,
  ⟨some 92, 9, none, .binOp .add 9 (.tmp 85) (.tmp 91) 9, false, [], false⟩,
  ⟨some 93, 9, none, .binOp .add 9 (.tmp 92) (.const (.string ⟨#[46]⟩)) 9, false, [], false⟩,
  ⟨some 94, 9, none, .move (.tmp 12), false, [], false⟩,
  ⟨some 95, 9, none, .move (.tmp 12), false, [], false⟩,
  ⟨some 96, 3, none, .call ⟨.builtin .len, #[.tmp 95], #[9]⟩, false, [], false⟩,
  ⟨some 97, 3, none, .move (.tmp 9), false, [], false⟩,
  ⟨some 98, 3, none, .binOp .sub 3 (.tmp 96) (.tmp 97) 3, false, [], false⟩,
  ⟨some 99, 9, none, .slice 9 (.tmp 94) (some (.tmp 98)) none none, false, [], false⟩,
  ⟨some 100, 9, none, .binOp .add 9 (.tmp 93) (.tmp 99) 9, false, [], false⟩,
  ⟨some 2, 9, none, .assign (.tmp 100), false, [], false⟩])
 .ret))))))))))))))
theorem k119 : FnOk Tryz.prog 119 101 [.tmp 2] S119 := ⟨[166, 181, 201], _, Tryz.func119, by kernel_rfl, by kernel_rfl, rfl, rfl⟩
/- venturi/venturiref01.Compare -/
def S126 : SC := .seq (.ops [⟨some 4, 3, none, .assign (.const (.int .i64 0)), false, [], false⟩])
 (.seq (.seq (.ops [⟨some 6, 31, none, .move (.tmp 0), false, [], false⟩,
  ⟨some 7, 3, none, .call ⟨.builtin .len, #[.tmp 6], #[31]⟩, false, [], false⟩,
  ⟨some 8, 31, none, .move (.tmp 1), false, [], false⟩,
  ⟨some 9, 3, none, .call ⟨.builtin .len, #[.tmp 8], #[31]⟩, false, [], false⟩,
  ⟨some 10, 3, none, .call ⟨.builtin .max, #[.tmp 7, .tmp 9], #[3, 3]⟩, false, [], false⟩,
  ⟨some 11, 3, none, .binOp .sub 3 (.tmp 10) (.const (.int .i64 1)) 3, false, [], false⟩,
  ⟨some 5, 3, none, .assign (.tmp 11), false, [], false⟩])
 (.block 0 (.loop (.seq (.seq (.ops [⟨some 12, 3, none, .move (.tmp 5), false, [], false⟩,
  ⟨some 13, 4, none, .binOp .geq 3 (.tmp 12) (.const (.int .i64 0)) 3, false, [], false⟩])
 (.cond (.tmp 13)
 .skip
 (.exit 0)))
 (.seq (.block 1 (.seq (.ops [⟨some 16, 31, none, .move (.tmp 0), false, [], false⟩,
  ⟨some 17, 3, none, .move (.tmp 5), false, [], false⟩,
  ⟨some 18, 3, none, .call ⟨.value (.func 155), #[.tmp 16, .tmp 17], #[31, 3]⟩, true, [], false⟩,
  ⟨some 19, 31, none, .move (.tmp 1), false, [], false⟩,
  ⟨some 20, 3, none, .move (.tmp 5), false, [], false⟩,
  ⟨some 21, 3, none, .call ⟨.value (.func 155), #[.tmp 19, .tmp 20], #[31, 3]⟩, true, [], false⟩,
  ⟨some 22, 4, none, .binOp .neq 3 (.tmp 18) (.tmp 21) 3, false, [], false⟩])
 (.cond (.tmp 22)
 (.seq (.seq (.ops [⟨some 23, 31, none, .move (.tmp 0), false, [], false⟩,
  ⟨some 24, 3, none, .move (.tmp 5), false, [], false⟩,
  ⟨some 25, 3, none, .call ⟨.value (.func 155), #[.tmp 23, .tmp 24], #[31, 3]⟩, true, [], false⟩,
  ⟨some 26, 31, none, .move (.tmp 1), false, [], false⟩,
  ⟨some 27, 3, none, .move (.tmp 5), false, [], false⟩,
  ⟨some 28, 3, none, .call ⟨.value (.func 155), #[.tmp 26, .tmp 27], #[31, 3]⟩, true, [], false⟩,
  ⟨some 29, 4, none, .binOp .lss 3 (.tmp 25) (.tmp 28) 3, false, [], false⟩])
 (.cond (.tmp 29)
 (.seq (.ops [⟨some 4, 3, none, .assign (.const (.int .i64 (-1))), false, [], false⟩])
 .ret)
 .skip))
 (.seq (.ops [⟨some 4, 3, none, .assign (.const (.int .i64 1)), false, [], false⟩])
 .ret))
 .skip)))
 (.ops [⟨some 14, 3, none, .move (.tmp 5), false, [], false⟩,
  ⟨some 15, 3, none, .binOp .sub 3 (.tmp 14) (.const (.int .i64 1)) 3, false, [], false⟩,
  ⟨some 5, 3, none, .assign (.tmp 15), false, [], false⟩]))))))
 (.seq (.ops [⟨some 4, 3, none, .assign (.const (.int .i64 0)), false, [], false⟩])
 .ret))
theorem k126 : FnOk Tryz.prog 126 30 [.tmp 4] S126 := ⟨[166, 181, 201], _, Tryz.func126, by kernel_rfl, by kernel_rfl, rfl, rfl⟩
end Go.Proofs.YtplaobhghfndgaaGreatDoor
