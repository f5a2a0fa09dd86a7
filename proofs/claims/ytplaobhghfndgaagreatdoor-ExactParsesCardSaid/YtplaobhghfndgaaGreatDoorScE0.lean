import Derived.Test.YtplaobhghfndgaaGreatDoorTab
/-! The code of functions, as the walk wants it (printed by gen.py). -/
set_option maxRecDepth 100000
namespace Go.Proofs.YtplaobhghfndgaaGreatDoor
open Go Go.Proofs.Vc
/- venturi/exact.Parse -/
def S20 : SC := .seq (.ops [⟨some 2, 0, none, .alloc 26, false, [], false⟩,
  ⟨some 3, 27, none, .assign (.const (.int .i64 0)), false, [], false⟩])
 (.seq (.seq (.ops [⟨some 10, 9, none, .move (.tmp 0), false, [], false⟩,
  ⟨some 11, 3, none, .call ⟨.builtin .len, #[.tmp 10], #[9]⟩, false, [], false⟩,
  ⟨some 12, 4, none, .binOp .gtr 3 (.tmp 11) (.const (.int .i64 2000)) 3, false, [], false⟩])
 (.cond (.tmp 12)
 (.seq (.ops [⟨some 13, 26, none, .build 26 #[], false, [], false⟩,
  ⟨none, 0, none, .store 26 (.tmp 2) (.tmp 13), true, [], false⟩,
  ⟨some 3, 27, none, .assign (.const (.int .i64 5)), false, [], false⟩])
 .ret)
 .skip))
 (.seq (.ops [⟨some 15, 9, none, .move (.tmp 0), false, [], false⟩,
  ⟨some 16, 133, none, .call ⟨.value (.func 109), #[.tmp 15, .const (.string ⟨#[45]⟩)], #[9, 9]⟩, true, [], false⟩,
  ⟨some 14, 133, none, .move (.tmp 16), false, [], false⟩,
  ⟨some 17, 9, none, .extract (.tmp 14) 0, false, [], false⟩,
  ⟨some 18, 4, none, .extract (.tmp 14) 1, false, [], false⟩,
  ⟨some 0, 9, none, .assign (.tmp 17), false, [], false⟩,
  ⟨some 4, 4, none, .assign (.tmp 18), false, [], false⟩])
 (.seq (.ops [⟨some 20, 9, none, .move (.tmp 0), false, [], false⟩,
  ⟨some 21, 135, none, .call ⟨.value (.func 110), #[.tmp 20, .const (.string ⟨#[47]⟩)], #[9, 9]⟩, true, [], false⟩,
  ⟨some 19, 135, none, .move (.tmp 21), false, [], false⟩,
  ⟨some 22, 9, none, .extract (.tmp 19) 0, false, [], false⟩,
  ⟨some 23, 9, none, .extract (.tmp 19) 1, false, [], false⟩,
  ⟨some 24, 4, none, .extract (.tmp 19) 2, false, [], false⟩,
  ⟨some 5, 9, none, .assign (.tmp 22), false, [], false⟩,
  ⟨some 6, 9, none, .assign (.tmp 23), false, [], false⟩,
  ⟨some 7, 4, none, .assign (.tmp 24), false, [], false⟩])
 (.seq (.ops [⟨some 8, 9, none, .assign (.const (.string ⟨#[]⟩)), false, [], false⟩,
  ⟨some 9, 4, none, .assign (.const (.bool false)), false, [], false⟩])
 (.seq (.seq (.ops [⟨some 25, 4, none, .move (.tmp 7), false, [], false⟩,
  ⟨some 26, 4, none, .unOp .not 4 (.tmp 25), false, [], false⟩])
 (.cond (.tmp 26)
 (.ops [⟨some 28, 9, none, .move (.tmp 0), false, [], false⟩,
  ⟨some 29, 135, none, .call ⟨.value (.func 110), #[.tmp 28, .const (.string ⟨#[46]⟩)], #[9, 9]⟩, true, [], false⟩,
  ⟨some 27, 135, none, .move (.tmp 29), false, [], false⟩,
  ⟨some 30, 9, none, .extract (.tmp 27) 0, false, [], false⟩,
  ⟨some 31, 9, none, .extract (.tmp 27) 1, false, [], false⟩,
  ⟨some 32, 4, none, .extract (.tmp 27) 2, false, [], false⟩,
  ⟨some 5, 9, none, .assign (.tmp 30), false, [], false⟩,
  ⟨some 8, 9, none, .assign (.tmp 31), false, [], false⟩,
  ⟨some 9, 4, none, .assign (.tmp 32), false, [], false⟩])
 .skip))
 (.seq (.block 0 (.seq (.ops [⟨some 34, 9, none, .move (.tmp 5), false, [], false⟩,
  ⟨some 35, 4, none, .call ⟨.value (.func 111), #[.tmp 34], #[9]⟩, true, [], false⟩,
  ⟨some 36, 4, none, .unOp .not 4 (.tmp 35), false, [], false⟩,
  ⟨some 37, 4, none, .move (.tmp 36), false, [], false⟩,
  ⟨some 38, 9, some (37, false), .move (.tmp 5), false, [], false⟩,
  ⟨some 39, 5, some (37, false), .index 9 (.tmp 38) (.const (.int .i64 0)), false, [], false⟩,
  ⟨some 40, 4, some (37, false), .binOp .eql 5 (.tmp 39) (.const (.int .u8 48)) 5, false, [], false⟩,
  ⟨some 41, 4, some (37, false), .move (.tmp 40), false, [], false⟩,
  ⟨some 42, 9, some (41, true), .move (.tmp 5), false, [], false⟩,
  ⟨some 43, 3, some (41, true), .call ⟨.builtin .len, #[.tmp 42], #[9]⟩, false, [], false⟩,
  ⟨some 44, 4, some (41, true), .binOp .gtr 3 (.tmp 43) (.const (.int .i64 1)) 3, false, [], false⟩,
  ⟨some 45, 4, some (37, false), .pick (.tmp 41) (.tmp 44) (.const (.bool false)), false, [], false⟩,
  ⟨some 46, 4, none, .pick (.tmp 37) (.const (.bool true)) (.tmp 45), false, [], false⟩,
  ⟨some 33, 4, none, .assign (.tmp 46), false, [], false⟩])
 (.cond (.tmp 33)
 (.seq (.ops [⟨some 47, 26, none, .build 26 #[], false, [], false⟩,
  ⟨none, 0, none, .store 26 (.tmp 2) (.tmp 47), true, [], false⟩,
  ⟨some 3, 27, none, .assign (.const (.int .i64 4)), false, [], false⟩])
 .ret)
 (.seq (.ops [⟨some 49, 4, none, .move (.tmp 7), false, [], false⟩,
  ⟨some 50, 4, none, .move (.tmp 49), false, [], false⟩,
  ⟨some 51, 9, some (50, true), .move (.tmp 6), false, [], false⟩,
  ⟨some 52, 4, some (50, true), .call ⟨.value (.func 111), #[.tmp 51], #[9]⟩, true, [], false⟩,
  ⟨some 53, 4, some (50, true), .unOp .not 4 (.tmp 52), false, [], false⟩,
  ⟨some 54, 4, some (50, true), .move (.tmp 53), false, [], false⟩,
  ⟨some 55, 9, some (54, false), .move (.tmp 6), false, [], false⟩,
  ⟨some 56, 5, some (54, false), .index 9 (.tmp 55) (.const (.int .i64 0)), false, [], false⟩,
  ⟨some 57, 4, some (54, false), .binOp .eql 5 (.tmp 56) (.const (.int .u8 48)) 5, false, [], false⟩,
  ⟨some 58, 4, some (50, true), .pick (.tmp 54) (.const (.bool true)) (.tmp 57), false, [], false⟩,
  ⟨some 59, 4, none, .pick (.tmp 50) (.tmp 58) (.const (.bool false)), false, [], false⟩,
  ⟨some 48, 4, none, .assign (.tmp 59), false, [], false⟩])
 (.cond (.tmp 48)
 (.seq (.ops [⟨some 60, 26, none, .build 26 #[], false, [], false⟩,
  ⟨none, 0, none, .store 26 (.tmp 2) (.tmp 60), true, [], false⟩,
  ⟨some 3, 27, none, .assign (.const (.int .i64 4)), false, [], false⟩])
 .ret)
 (.seq (.ops [⟨some 62, 4, none, .move (.tmp 9), false, [], false⟩,
  ⟨some 63, 4, none, .move (.tmp 62), false, [], false⟩,
  ⟨some 64, 9, some (63, true), .move (.tmp 8), false, [], false⟩,
  ⟨some 65, 4, some (63, true), .call ⟨.value (.func 111), #[.tmp 64], #[9]⟩, true, [], false⟩,
  ⟨some 66, 4, some (63, true), .unOp .not 4 (.tmp 65), false, [], false⟩,
  ⟨some 67, 4, none, .pick (.tmp 63) (.tmp 66) (.const (.bool false)), false, [], false⟩,
  ⟨some 61, 4, none, .assign (.tmp 67), false, [], false⟩])
 (.cond (.tmp 61)
 (.seq (.ops [⟨some 68, 26, none, .build 26 #[], false, [], false⟩,
  ⟨none, 0, none, .store 26 (.tmp 2) (.tmp 68), true, [], false⟩,
  ⟨some 3, 27, none, .assign (.const (.int .i64 4)), false, [], false⟩])
 .ret)
 (.seq (.ops [⟨some 70, 4, none, .move (.tmp 7), false, [], false⟩,
  ⟨some 69, 4, none, .assign (.tmp 70), false, [], false⟩])
 (.cond (.tmp 69)
 (.seq (.ops [⟨some 71, 4, none, .move (.tmp 4), false, [], false⟩,
  ⟨some 72, 9, none, .move (.tmp 5), false, [], false⟩,
  ⟨some 73, 24, none, .call ⟨.value (.func 113), #[.tmp 72], #[9]⟩, true, [], false⟩,
  ⟨some 74, 9, none, .move (.tmp 6), false, [], false⟩,
  ⟨some 75, 24, none, .call ⟨.value (.func 113), #[.tmp 74], #[9]⟩, true, [], false⟩,
  ⟨some 76, 26, none, .call ⟨.value (.func 112), #[.tmp 71, .tmp 73, .tmp 75], #[4, 24, 24]⟩, true, [], false⟩,
  ⟨none, 0, none, .store 26 (.tmp 2) (.tmp 76), true, [], false⟩,
  ⟨some 3, 27, none, .assign (.const (.int .i64 0)), false, [], false⟩])
 .ret)
 .skip)))))))))
 (.seq (.ops [⟨some 77, 4, none, .move (.tmp 4), false, [], false⟩,
  ⟨some 78, 9, none, .move (.tmp 5), false, [], false⟩,
  ⟨some 79, 9, none, .move (.tmp 8), false, [], false⟩,
  ⟨some 80, 9, none, .binOp .add 9 (.tmp 78) (.tmp 79) 9, false, [], false⟩,
  ⟨some 81, 24, none, .call ⟨.value (.func 113), #[.tmp 80], #[9]⟩, true, [], false⟩,
  ⟨some 82, 9, none, .move (.tmp 8), false, [], false⟩,
  ⟨some 83, 3, none, .call ⟨.builtin .len, #[.tmp 82], #[9]⟩, false, [], false⟩,
  ⟨some 84, 24, none, .call ⟨.value (.func 114), #[.const (.int .u64 10), .tmp 83], #[140, 3]⟩, true, [], false⟩,
  ⟨some 85, 26, none, .call ⟨.value (.func 112), #[.tmp 77, .tmp 81, .tmp 84], #[4, 24, 24]⟩, true, [], false⟩,
  ⟨none, 0, none, .store 26 (.tmp 2) (.tmp 85), true, [], false⟩,
  ⟨some 3, 27, none, .assign (.const (.int .i64 0)), false, [], false⟩])
 .ret)))))))
theorem k20 : FnOk Tryz.prog 20 86 [.cell 2 26, .tmp 3] S20 := ⟨[166, 181, 201], _, Tryz.func20, by kernel_rfl, by kernel_rfl, rfl, rfl⟩
/- (venturi/exact.Num).Pow -/
def S24 : SC := .seq (.ops [⟨some 2, 0, none, .box 26 (.tmp 0), false, [], false⟩,
  ⟨some 4, 0, none, .alloc 26, false, [], false⟩,
  ⟨some 5, 27, none, .assign (.const (.int .i64 0)), false, [], false⟩])
 (.seq (.seq (.ops [⟨some 7, 3, none, .move (.tmp 1), false, [], false⟩,
  ⟨some 8, 4, none, .binOp .lss 3 (.tmp 7) (.const (.int .i64 0)) 3, false, [], false⟩,
  ⟨some 9, 4, none, .move (.tmp 8), false, [], false⟩,
  ⟨some 10, 3, some (9, false), .move (.tmp 1), false, [], false⟩,
  ⟨some 11, 4, some (9, false), .binOp .gtr 3 (.tmp 10) (.const (.int .i64 64)) 3, false, [], false⟩,
  ⟨some 12, 4, none, .pick (.tmp 9) (.const (.bool true)) (.tmp 11), false, [], false⟩])
 (.cond (.tmp 12)
 (.seq (.ops [⟨some 13, 26, none, .build 26 #[], false, [], false⟩,
  ⟨none, 0, none, .store 26 (.tmp 4) (.tmp 13), true, [], false⟩,
  ⟨some 5, 27, none, .assign (.const (.int .i64 3)), false, [], false⟩])
 .ret)
 .skip))
 (.seq (.ops [⟨some 14, 26, none, .call ⟨.value (.func 47), #[.const (.int .i64 1)], #[2]⟩, true, [], false⟩,
  ⟨some 6, 0, none, .alloc 26, false, [], false⟩,
  ⟨none, 0, none, .store 26 (.tmp 6) (.tmp 14), true, [], false⟩])
 (.seq (.block 0 (.loop (.seq (.seq (.ops [⟨some 15, 3, none, .move (.tmp 1), false, [], false⟩,
  ⟨some 16, 4, none, .binOp .gtr 3 (.tmp 15) (.const (.int .i64 0)) 3, false, [], false⟩])
 (.cond (.tmp 16)
 .skip
 (.exit 0)))
 (.seq (.block 1 (.seq (.seq (.ops [⟨some 19, 3, none, .move (.tmp 1), false, [], false⟩,
  ⟨some 20, 3, none, .binOp .and 3 (.tmp 19) (.const (.int .i64 1)) 3, false, [], false⟩,
  ⟨some 21, 4, none, .binOp .eql 3 (.tmp 20) (.const (.int .i64 1)) 3, false, [], false⟩])
 (.cond (.tmp 21)
 (.ops [⟨some 22, 26, none, .load 26 (.tmp 6), false, [], false⟩,
  ⟨some 23, 26, none, .load 26 (.tmp 2), false, [], false⟩,
  ⟨some 24, 26, none, .call ⟨.value (.func 25), #[.tmp 22, .tmp 23], #[26, 26]⟩, true, [], false⟩,
  ⟨none, 0, none, .store 26 (.tmp 6) (.tmp 24), true, [], false⟩])
 .skip))
 (.ops [⟨some 25, 26, none, .load 26 (.tmp 2), false, [], false⟩,
  ⟨some 26, 26, none, .load 26 (.tmp 2), false, [], false⟩,
  ⟨some 27, 26, none, .call ⟨.value (.func 25), #[.tmp 25, .tmp 26], #[26, 26]⟩, true, [], false⟩,
  ⟨none, 0, none, .store 26 (.tmp 2) (.tmp 27), true, [], false⟩])))
 (.ops [⟨some 17, 3, none, .move (.tmp 1), false, [], false⟩,
  ⟨some 18, 3, none, .binOp .shr 3 (.tmp 17) (.const (.int .u64 1)) 146, false, [], false⟩,
  ⟨some 1, 3, none, .assign (.tmp 18), false, [], false⟩])))))
 (.seq (.ops [⟨some 28, 26, none, .load 26 (.tmp 6), false, [], false⟩,
  ⟨none, 0, none, .store 26 (.tmp 4) (.tmp 28), true, [], false⟩,
  ⟨some 5, 27, none, .assign (.const (.int .i64 0)), false, [], false⟩])
 .ret))))
theorem k24 : FnOk Tryz.prog 24 29 [.cell 4 26, .tmp 5] S24 := ⟨[166, 181, 201], _, Tryz.func24, by kernel_rfl, by kernel_rfl, rfl, rfl⟩
/- (venturi/exact.Num).Mul -/
def S25 : SC := .seq (.ops [⟨some 2, 0, none, .box 26 (.tmp 0), false, [], false⟩,
  ⟨some 3, 0, none, .box 26 (.tmp 1), false, [], false⟩,
  ⟨some 4, 0, none, .alloc 26, false, [], false⟩])
 (.seq (.ops [⟨some 6, 0, none, .fieldAddr 26 (.tmp 2) 1, false, [], false⟩,
  ⟨some 7, 24, none, .load 24 (.tmp 6), false, [], false⟩,
  ⟨some 8, 0, none, .fieldAddr 26 (.tmp 3) 1, false, [], false⟩,
  ⟨some 9, 24, none, .load 24 (.tmp 8), false, [], false⟩,
  ⟨some 10, 24, none, .call ⟨.value (.func 120), #[.tmp 7, .tmp 9], #[24, 24]⟩, true, [], false⟩,
  ⟨some 5, 24, none, .assign (.tmp 10), false, [], false⟩])
 (.seq (.seq (.ops [⟨some 11, 26, none, .load 26 (.tmp 2), false, [], false⟩,
  ⟨some 12, 4, none, .call ⟨.value (.func 121), #[.tmp 11], #[26]⟩, true, [], false⟩,
  ⟨some 13, 4, none, .move (.tmp 12), false, [], false⟩,
  ⟨some 14, 26, some (13, true), .load 26 (.tmp 3), false, [], false⟩,
  ⟨some 15, 4, some (13, true), .call ⟨.value (.func 121), #[.tmp 14], #[26]⟩, true, [], false⟩,
  ⟨some 16, 4, none, .pick (.tmp 13) (.tmp 15) (.const (.bool false)), false, [], false⟩])
 (.cond (.tmp 16)
 (.seq (.ops [⟨some 17, 0, none, .fieldAddr 26 (.tmp 2) 0, false, [], false⟩,
  ⟨some 18, 4, none, .load 4 (.tmp 17), false, [], false⟩,
  ⟨some 19, 0, none, .fieldAddr 26 (.tmp 3) 0, false, [], false⟩,
  ⟨some 20, 4, none, .load 4 (.tmp 19), false, [], false⟩,
  ⟨some 21, 4, none, .binOp .neq 4 (.tmp 18) (.tmp 20) 4, false, [], false⟩,
  ⟨some 22, 4, none, .move (.tmp 21), false, [], false⟩,
  ⟨some 23, 24, some (22, true), .move (.tmp 5), false, [], false⟩,
  ⟨some 24, 3, some (22, true), .call ⟨.builtin .len, #[.tmp 23], #[24]⟩, false, [], false⟩,
  ⟨some 25, 4, some (22, true), .binOp .gtr 3 (.tmp 24) (.const (.int .i64 0)) 3, false, [], false⟩,
  ⟨some 26, 4, none, .pick (.tmp 22) (.tmp 25) (.const (.bool false)), false, [], false⟩,
  ⟨some 27, 24, none, .move (.tmp 5), false, [], false⟩,
  ⟨some 28, 26, none, .build 26 #[(0, .tmp 26), (1, .tmp 27)], false, [], false⟩,
  ⟨none, 0, none, .store 26 (.tmp 4) (.tmp 28), true, [], false⟩])
 .ret)
 .skip))
 (.seq (.ops [⟨some 29, 0, none, .fieldAddr 26 (.tmp 2) 0, false, [], false⟩,
  ⟨some 30, 4, none, .load 4 (.tmp 29), false, [], false⟩,
  ⟨some 31, 0, none, .fieldAddr 26 (.tmp 3) 0, false, [], false⟩,
  ⟨some 32, 4, none, .load 4 (.tmp 31), false, [], false⟩,
  ⟨some 33, 4, none, .binOp .neq 4 (.tmp 30) (.tmp 32) 4, false, [], false⟩,
  ⟨some 34, 24, none, .move (.tmp 5), false, [], false⟩,
  ⟨some 35, 26, none, .load 26 (.tmp 2), false, [], false⟩,
  ⟨some 37, 26, none, .load 26 (.tmp 3), false, [], false⟩,
  ⟨some 36, 24, none, .call ⟨.value (.func 122), #[.tmp 35], #[26]⟩, true, [], true⟩,
  ⟨some 38, 24, none, .call ⟨.value (.func 122), #[.tmp 37], #[26]⟩, true, [], true⟩,
  ⟨some 39, 24, none, .call ⟨.value (.func 120), #[.tmp 36, .tmp 38], #[24, 24]⟩, true, [], true⟩,
  ⟨some 40, 26, none, .call ⟨.value (.func 112), #[.tmp 33, .tmp 34, .tmp 39], #[4, 24, 24]⟩, true, [], false⟩,
  ⟨none, 0, none, .store 26 (.tmp 4) (.tmp 40), true, [], false⟩])
 .ret)))
theorem k25 : FnOk Tryz.prog 25 41 [.cell 4 26] S25 := ⟨[166, 181, 201], _, Tryz.func25, by kernel_rfl, by kernel_rfl, rfl, rfl⟩
/- (venturi/exact.Num).Add -/
def S29 : SC := .seq (.ops [⟨some 2, 0, none, .box 26 (.tmp 0), false, [], false⟩,
  ⟨some 3, 0, none, .box 26 (.tmp 1), false, [], false⟩,
  ⟨some 4, 0, none, .alloc 26, false, [], false⟩])
 (.seq (.ops [⟨some 8, 0, none, .fieldAddr 26 (.tmp 2) 1, false, [], false⟩,
  ⟨some 9, 24, none, .load 24 (.tmp 8), false, [], false⟩,
  ⟨some 10, 0, none, .fieldAddr 26 (.tmp 3) 1, false, [], false⟩,
  ⟨some 11, 24, none, .load 24 (.tmp 10), false, [], false⟩,
  ⟨some 5, 24, none, .assign (.tmp 9), false, [], false⟩,
  ⟨some 6, 24, none, .assign (.tmp 11), false, [], false⟩])
 (.seq (.seq (.ops [⟨some 12, 26, none, .load 26 (.tmp 2), false, [], false⟩,
  ⟨some 13, 4, none, .call ⟨.value (.func 121), #[.tmp 12], #[26]⟩, true, [], false⟩,
  ⟨some 14, 4, none, .unOp .not 4 (.tmp 13), false, [], false⟩,
  ⟨some 15, 4, none, .move (.tmp 14), false, [], false⟩,
  ⟨some 16, 26, some (15, false), .load 26 (.tmp 3), false, [], false⟩,
  ⟨some 17, 4, some (15, false), .call ⟨.value (.func 121), #[.tmp 16], #[26]⟩, true, [], false⟩,
  ⟨some 18, 4, some (15, false), .unOp .not 4 (.tmp 17), false, [], false⟩,
  ⟨some 19, 4, none, .pick (.tmp 15) (.const (.bool true)) (.tmp 18), false, [], false⟩])
 (.cond (.tmp 19)
 (.ops [⟨some 20, 24, none, .move (.tmp 5), false, [], false⟩,
  ⟨some 21, 26, none, .load 26 (.tmp 3), false, [], false⟩,
  ⟨some 24, 24, none, .move (.tmp 6), false, [], false⟩,
  ⟨some 25, 26, none, .load 26 (.tmp 2), false, [], false⟩,
  ⟨some 22, 24, none, .call ⟨.value (.func 122), #[.tmp 21], #[26]⟩, true, [], true⟩,
  ⟨some 23, 24, none, .call ⟨.value (.func 120), #[.tmp 20, .tmp 22], #[24, 24]⟩, true, [], true⟩,
  ⟨some 26, 24, none, .call ⟨.value (.func 122), #[.tmp 25], #[26]⟩, true, [], false⟩,
  ⟨some 27, 24, none, .call ⟨.value (.func 120), #[.tmp 24, .tmp 26], #[24, 24]⟩, true, [], false⟩,
  ⟨some 5, 24, none, .assign (.tmp 23), true, [], false⟩,
  ⟨some 6, 24, none, .assign (.tmp 27), true, [], false⟩])
 .skip))
 (.seq (.ops [⟨some 28, 0, none, .fieldAddr 26 (.tmp 2) 0, false, [], false⟩,
  ⟨some 29, 4, none, .load 4 (.tmp 28), false, [], false⟩,
  ⟨some 7, 4, none, .assign (.tmp 29), false, [], false⟩])
 (.seq (.block 0 (.seq (.ops [⟨some 36, 0, none, .fieldAddr 26 (.tmp 2) 0, false, [], false⟩,
  ⟨some 37, 4, none, .load 4 (.tmp 36), false, [], false⟩,
  ⟨some 38, 0, none, .fieldAddr 26 (.tmp 3) 0, false, [], false⟩,
  ⟨some 39, 4, none, .load 4 (.tmp 38), false, [], false⟩,
  ⟨some 40, 4, none, .binOp .eql 4 (.tmp 37) (.tmp 39) 4, false, [], false⟩,
  ⟨some 35, 4, none, .assign (.tmp 40), false, [], false⟩])
 (.cond (.tmp 35)
 (.ops [⟨some 41, 24, none, .move (.tmp 5), false, [], false⟩,
  ⟨some 42, 24, none, .move (.tmp 6), false, [], false⟩,
  ⟨some 43, 24, none, .call ⟨.value (.func 123), #[.tmp 41, .tmp 42], #[24, 24]⟩, true, [], false⟩,
  ⟨some 5, 24, none, .assign (.tmp 43), false, [], false⟩])
 (.seq (.ops [⟨some 45, 24, none, .move (.tmp 5), false, [], false⟩,
  ⟨some 46, 24, none, .move (.tmp 6), false, [], false⟩,
  ⟨some 47, 3, none, .call ⟨.value (.func 124), #[.tmp 45, .tmp 46], #[24, 24]⟩, true, [], false⟩,
  ⟨some 48, 4, none, .binOp .geq 3 (.tmp 47) (.const (.int .i64 0)) 3, false, [], false⟩,
  ⟨some 44, 4, none, .assign (.tmp 48), false, [], false⟩])
 (.cond (.tmp 44)
 (.ops [⟨some 49, 24, none, .move (.tmp 5), false, [], false⟩,
  ⟨some 50, 24, none, .move (.tmp 6), false, [], false⟩,
  ⟨some 51, 24, none, .call ⟨.value (.func 125), #[.tmp 49, .tmp 50], #[24, 24]⟩, true, [], false⟩,
  ⟨some 5, 24, none, .assign (.tmp 51), false, [], false⟩])
 (.ops [⟨some 30, 24, none, .move (.tmp 6), false, [], false⟩,
  ⟨some 31, 24, none, .move (.tmp 5), false, [], false⟩,
  ⟨some 33, 0, none, .fieldAddr 26 (.tmp 3) 0, false, [], false⟩,
  ⟨some 34, 4, none, .load 4 (.tmp 33), false, [], false⟩,
  ⟨some 32, 24, none, .call ⟨.value (.func 125), #[.tmp 30, .tmp 31], #[24, 24]⟩, true, [], true⟩,
  ⟨some 5, 24, none, .assign (.tmp 32), true, [], true⟩,
  ⟨some 7, 4, none, .assign (.tmp 34), false, [], false⟩]))))))
 (.seq (.seq (.ops [⟨some 52, 26, none, .load 26 (.tmp 2), false, [], false⟩,
  ⟨some 53, 4, none, .call ⟨.value (.func 121), #[.tmp 52], #[26]⟩, true, [], false⟩,
  ⟨some 54, 4, none, .move (.tmp 53), false, [], false⟩,
  ⟨some 55, 26, some (54, true), .load 26 (.tmp 3), false, [], false⟩,
  ⟨some 56, 4, some (54, true), .call ⟨.value (.func 121), #[.tmp 55], #[26]⟩, true, [], false⟩,
  ⟨some 57, 4, none, .pick (.tmp 54) (.tmp 56) (.const (.bool false)), false, [], false⟩])
 (.cond (.tmp 57)
 (.seq (.ops [⟨some 58, 4, none, .move (.tmp 7), false, [], false⟩,
  ⟨some 59, 4, none, .move (.tmp 58), false, [], false⟩,
  ⟨some 60, 24, some (59, true), .move (.tmp 5), false, [], false⟩,
  ⟨some 61, 3, some (59, true), .call ⟨.builtin .len, #[.tmp 60], #[24]⟩, false, [], false⟩,
  ⟨some 62, 4, some (59, true), .binOp .gtr 3 (.tmp 61) (.const (.int .i64 0)) 3, false, [], false⟩,
  ⟨some 63, 4, none, .pick (.tmp 59) (.tmp 62) (.const (.bool false)), false, [], false⟩,
  ⟨some 64, 24, none, .move (.tmp 5), false, [], false⟩,
  ⟨some 65, 26, none, .build 26 #[(0, .tmp 63), (1, .tmp 64)], false, [], false⟩,
  ⟨none, 0, none, .store 26 (.tmp 4) (.tmp 65), true, [], false⟩])
 .ret)
 .skip))
 (.seq (.ops [⟨some 66, 4, none, .move (.tmp 7), false, [], false⟩,
  ⟨some 67, 24, none, .move (.tmp 5), false, [], false⟩,
  ⟨some 68, 26, none, .load 26 (.tmp 2), false, [], false⟩,
  ⟨some 70, 26, none, .load 26 (.tmp 3), false, [], false⟩,
  ⟨some 69, 24, none, .call ⟨.value (.func 122), #[.tmp 68], #[26]⟩, true, [], true⟩,
  ⟨some 71, 24, none, .call ⟨.value (.func 122), #[.tmp 70], #[26]⟩, true, [], false⟩,
  ⟨some 72, 24, none, .call ⟨.value (.func 120), #[.tmp 69, .tmp 71], #[24, 24]⟩, true, [], false⟩,
  ⟨some 73, 26, none, .call ⟨.value (.func 112), #[.tmp 66, .tmp 67, .tmp 72], #[4, 24, 24]⟩, true, [], false⟩,
  ⟨none, 0, none, .store 26 (.tmp 4) (.tmp 73), true, [], false⟩])
 .ret))))))
theorem k29 : FnOk Tryz.prog 29 74 [.cell 4 26] S29 := ⟨[166, 181, 201], _, Tryz.func29, by kernel_rfl, by kernel_rfl, rfl, rfl⟩
/- (venturi/exact.Num).Sub -/
def S31 : SC := .seq (.ops [⟨some 2, 0, none, .box 26 (.tmp 0), false, [], false⟩,
  ⟨some 3, 0, none, .box 26 (.tmp 1), false, [], false⟩,
  ⟨some 4, 0, none, .alloc 26, false, [], false⟩])
 (.seq (.ops [⟨some 5, 26, none, .load 26 (.tmp 2), false, [], false⟩,
  ⟨some 6, 26, none, .load 26 (.tmp 3), false, [], false⟩,
  ⟨some 7, 26, none, .call ⟨.value (.func 41), #[.tmp 6], #[26]⟩, true, [], true⟩,
  ⟨some 8, 26, none, .call ⟨.value (.func 29), #[.tmp 5, .tmp 7], #[26, 26]⟩, true, [], false⟩,
  ⟨none, 0, none, .store 26 (.tmp 4) (.tmp 8), true, [], false⟩])
 .ret)
theorem k31 : FnOk Tryz.prog 31 9 [.cell 4 26] S31 := ⟨[166, 181, 201], _, Tryz.func31, by kernel_rfl, by kernel_rfl, rfl, rfl⟩
/- (venturi/exact.Num).Cmp -/
def S34 : SC := .seq (.ops [⟨some 2, 0, none, .box 26 (.tmp 0), false, [], false⟩,
  ⟨some 3, 0, none, .box 26 (.tmp 1), false, [], false⟩,
  ⟨some 4, 3, none, .assign (.const (.int .i64 0)), false, [], false⟩])
 (.seq (.seq (.ops [⟨some 6, 0, none, .fieldAddr 26 (.tmp 2) 0, false, [], false⟩,
  ⟨some 7, 4, none, .load 4 (.tmp 6), false, [], false⟩,
  ⟨some 8, 0, none, .fieldAddr 26 (.tmp 3) 0, false, [], false⟩,
  ⟨some 9, 4, none, .load 4 (.tmp 8), false, [], false⟩,
  ⟨some 10, 4, none, .binOp .neq 4 (.tmp 7) (.tmp 9) 4, false, [], false⟩])
 (.cond (.tmp 10)
 (.seq (.seq (.ops [⟨some 11, 0, none, .fieldAddr 26 (.tmp 2) 0, false, [], false⟩,
  ⟨some 12, 4, none, .load 4 (.tmp 11), false, [], false⟩])
 (.cond (.tmp 12)
 (.seq (.ops [⟨some 4, 3, none, .assign (.const (.int .i64 (-1))), false, [], false⟩])
 .ret)
 .skip))
 (.seq (.ops [⟨some 4, 3, none, .assign (.const (.int .i64 1)), false, [], false⟩])
 .ret))
 .skip))
 (.seq (.ops [⟨some 13, 0, none, .fieldAddr 26 (.tmp 2) 1, false, [], false⟩,
  ⟨some 14, 24, none, .load 24 (.tmp 13), false, [], false⟩,
  ⟨some 15, 26, none, .load 26 (.tmp 3), false, [], false⟩,
  ⟨some 18, 0, none, .fieldAddr 26 (.tmp 3) 1, false, [], false⟩,
  ⟨some 19, 24, none, .load 24 (.tmp 18), false, [], false⟩,
  ⟨some 20, 26, none, .load 26 (.tmp 2), false, [], false⟩,
  ⟨some 16, 24, none, .call ⟨.value (.func 122), #[.tmp 15], #[26]⟩, true, [], true⟩,
  ⟨some 17, 24, none, .call ⟨.value (.func 120), #[.tmp 14, .tmp 16], #[24, 24]⟩, true, [], true⟩,
  ⟨some 21, 24, none, .call ⟨.value (.func 122), #[.tmp 20], #[26]⟩, true, [], true⟩,
  ⟨some 22, 24, none, .call ⟨.value (.func 120), #[.tmp 19, .tmp 21], #[24, 24]⟩, true, [], false⟩,
  ⟨some 23, 3, none, .call ⟨.value (.func 124), #[.tmp 17, .tmp 22], #[24, 24]⟩, true, [], false⟩,
  ⟨some 5, 3, none, .assign (.tmp 23), false, [], false⟩])
 (.seq (.seq (.ops [⟨some 24, 0, none, .fieldAddr 26 (.tmp 2) 0, false, [], false⟩,
  ⟨some 25, 4, none, .load 4 (.tmp 24), false, [], false⟩])
 (.cond (.tmp 25)
 (.ops [⟨some 26, 3, none, .move (.tmp 5), false, [], false⟩,
  ⟨some 27, 3, none, .unOp .neg 3 (.tmp 26), false, [], false⟩,
  ⟨some 5, 3, none, .assign (.tmp 27), false, [], false⟩])
 .skip))
 (.seq (.ops [⟨some 28, 3, none, .move (.tmp 5), false, [], false⟩,
  ⟨some 4, 3, none, .assign (.tmp 28), false, [], false⟩])
 .ret))))
theorem k34 : FnOk Tryz.prog 34 29 [.tmp 4] S34 := ⟨[166, 181, 201], _, Tryz.func34, by kernel_rfl, by kernel_rfl, rfl, rfl⟩
/- (venturi/exact.Num).Sign -/
def S36 : SC := .seq (.ops [⟨some 1, 0, none, .box 26 (.tmp 0), false, [], false⟩,
  ⟨some 2, 3, none, .assign (.const (.int .i64 0)), false, [], false⟩])
 (.seq (.seq (.ops [⟨some 3, 0, none, .fieldAddr 26 (.tmp 1) 0, false, [], false⟩,
  ⟨some 4, 4, none, .load 4 (.tmp 3), false, [], false⟩])
 (.cond (.tmp 4)
 (.seq (.ops [⟨some 2, 3, none, .assign (.const (.int .i64 (-1))), false, [], false⟩])
 .ret)
 .skip))
 (.seq (.ops [⟨some 5, 0, none, .fieldAddr 26 (.tmp 1) 1, false, [], false⟩,
  ⟨some 6, 24, none, .load 24 (.tmp 5), false, [], false⟩,
  ⟨some 7, 3, none, .call ⟨.builtin .len, #[.tmp 6], #[24]⟩, false, [], false⟩,
  ⟨some 8, 3, none, .call ⟨.builtin .min, #[.tmp 7, .const (.int .i64 1)], #[3, 3]⟩, false, [], false⟩,
  ⟨some 2, 3, none, .assign (.tmp 8), false, [], false⟩])
 .ret))
theorem k36 : FnOk Tryz.prog 36 9 [.tmp 2] S36 := ⟨[166, 181, 201], _, Tryz.func36, by kernel_rfl, by kernel_rfl, rfl, rfl⟩
/- (venturi/exact.Num).Div -/
def S38 : SC := .seq (.ops [⟨some 2, 0, none, .box 26 (.tmp 0), false, [], false⟩,
  ⟨some 3, 0, none, .box 26 (.tmp 1), false, [], false⟩,
  ⟨some 4, 0, none, .alloc 26, false, [], false⟩,
  ⟨some 5, 27, none, .assign (.const (.int .i64 0)), false, [], false⟩])
 (.seq (.seq (.ops [⟨some 6, 26, none, .load 26 (.tmp 3), false, [], false⟩,
  ⟨some 7, 3, none, .call ⟨.value (.func 36), #[.tmp 6], #[26]⟩, true, [], false⟩,
  ⟨some 8, 4, none, .binOp .eql 3 (.tmp 7) (.const (.int .i64 0)) 3, false, [], false⟩])
 (.cond (.tmp 8)
 (.seq (.ops [⟨some 9, 26, none, .build 26 #[], false, [], false⟩,
  ⟨none, 0, none, .store 26 (.tmp 4) (.tmp 9), true, [], false⟩,
  ⟨some 5, 27, none, .assign (.const (.int .i64 10)), false, [], false⟩])
 .ret)
 .skip))
 (.seq (.ops [⟨some 10, 0, none, .fieldAddr 26 (.tmp 2) 0, false, [], false⟩,
  ⟨some 11, 4, none, .load 4 (.tmp 10), false, [], false⟩,
  ⟨some 12, 0, none, .fieldAddr 26 (.tmp 3) 0, false, [], false⟩,
  ⟨some 13, 4, none, .load 4 (.tmp 12), false, [], false⟩,
  ⟨some 14, 4, none, .binOp .neq 4 (.tmp 11) (.tmp 13) 4, false, [], false⟩,
  ⟨some 15, 0, none, .fieldAddr 26 (.tmp 2) 1, false, [], false⟩,
  ⟨some 16, 24, none, .load 24 (.tmp 15), false, [], false⟩,
  ⟨some 17, 26, none, .load 26 (.tmp 3), false, [], false⟩,
  ⟨some 20, 26, none, .load 26 (.tmp 2), false, [], false⟩,
  ⟨some 22, 0, none, .fieldAddr 26 (.tmp 3) 1, false, [], false⟩,
  ⟨some 23, 24, none, .load 24 (.tmp 22), false, [], false⟩,
  ⟨some 18, 24, none, .call ⟨.value (.func 122), #[.tmp 17], #[26]⟩, true, [], true⟩,
  ⟨some 19, 24, none, .call ⟨.value (.func 120), #[.tmp 16, .tmp 18], #[24, 24]⟩, true, [], true⟩,
  ⟨some 21, 24, none, .call ⟨.value (.func 122), #[.tmp 20], #[26]⟩, true, [], true⟩,
  ⟨some 24, 24, none, .call ⟨.value (.func 120), #[.tmp 21, .tmp 23], #[24, 24]⟩, true, [], true⟩,
  ⟨some 25, 26, none, .call ⟨.value (.func 112), #[.tmp 14, .tmp 19, .tmp 24], #[4, 24, 24]⟩, true, [], false⟩,
  ⟨none, 0, none, .store 26 (.tmp 4) (.tmp 25), true, [], false⟩,
  ⟨some 5, 27, none, .assign (.const (.int .i64 0)), false, [], false⟩])
 .ret))
theorem k38 : FnOk Tryz.prog 38 26 [.cell 4 26, .tmp 5] S38 := ⟨[166, 181, 201], _, Tryz.func38, by kernel_rfl, by kernel_rfl, rfl, rfl⟩
/- (venturi/exact.Num).Neg -/
def S41 : SC := .seq (.ops [⟨some 1, 0, none, .box 26 (.tmp 0), false, [], false⟩,
  ⟨some 2, 0, none, .alloc 26, false, [], false⟩])
 (.seq (.ops [⟨some 3, 0, none, .fieldAddr 26 (.tmp 1) 0, false, [], false⟩,
  ⟨some 4, 4, none, .load 4 (.tmp 3), false, [], false⟩,
  ⟨some 5, 4, none, .unOp .not 4 (.tmp 4), false, [], false⟩,
  ⟨some 6, 4, none, .move (.tmp 5), false, [], false⟩,
  ⟨some 7, 0, some (6, true), .fieldAddr 26 (.tmp 1) 1, false, [], false⟩,
  ⟨some 8, 24, some (6, true), .load 24 (.tmp 7), false, [], false⟩,
  ⟨some 9, 3, some (6, true), .call ⟨.builtin .len, #[.tmp 8], #[24]⟩, false, [], false⟩,
  ⟨some 10, 4, some (6, true), .binOp .gtr 3 (.tmp 9) (.const (.int .i64 0)) 3, false, [], false⟩,
  ⟨some 11, 4, none, .pick (.tmp 6) (.tmp 10) (.const (.bool false)), false, [], false⟩,
  ⟨some 12, 0, none, .fieldAddr 26 (.tmp 1) 0, false, [], false⟩,
  ⟨none, 0, none, .store 4 (.tmp 12) (.tmp 11), true, [], false⟩])
 (.seq (.ops [⟨some 13, 26, none, .load 26 (.tmp 1), false, [], false⟩,
  ⟨none, 0, none, .store 26 (.tmp 2) (.tmp 13), true, [], false⟩])
 .ret))
theorem k41 : FnOk Tryz.prog 41 14 [.cell 2 26] S41 := ⟨[166, 181, 201], _, Tryz.func41, by kernel_rfl, by kernel_rfl, rfl, rfl⟩
/- (venturi/exact.Num).Abs -/
def S43 : SC := .seq (.ops [⟨some 1, 0, none, .box 26 (.tmp 0), false, [], false⟩,
  ⟨some 2, 0, none, .alloc 26, false, [], false⟩])
 (.seq (.ops [⟨some 3, 0, none, .fieldAddr 26 (.tmp 1) 0, false, [], false⟩,
  ⟨none, 0, none, .store 4 (.tmp 3) (.const (.bool false)), true, [], false⟩])
 (.seq (.ops [⟨some 4, 26, none, .load 26 (.tmp 1), false, [], false⟩,
  ⟨none, 0, none, .store 26 (.tmp 2) (.tmp 4), true, [], false⟩])
 .ret))
theorem k43 : FnOk Tryz.prog 43 5 [.cell 2 26] S43 := ⟨[166, 181, 201], _, Tryz.func43, by kernel_rfl, by kernel_rfl, rfl, rfl⟩
/- (venturi/exact.Num).Floor -/
def S45 : SC := .seq (.ops [⟨some 1, 0, none, .box 26 (.tmp 0), false, [], false⟩,
  ⟨some 2, 0, none, .alloc 26, false, [], false⟩])
 (.seq (.seq (.ops [⟨some 5, 26, none, .load 26 (.tmp 1), false, [], false⟩,
  ⟨some 6, 4, none, .call ⟨.value (.func 121), #[.tmp 5], #[26]⟩, true, [], false⟩])
 (.cond (.tmp 6)
 (.seq (.ops [⟨some 7, 26, none, .load 26 (.tmp 1), false, [], false⟩,
  ⟨none, 0, none, .store 26 (.tmp 2) (.tmp 7), true, [], false⟩])
 .ret)
 .skip))
 (.seq (.ops [⟨some 9, 0, none, .fieldAddr 26 (.tmp 1) 1, false, [], false⟩,
  ⟨some 10, 24, none, .load 24 (.tmp 9), false, [], false⟩,
  ⟨some 11, 0, none, .fieldAddr 26 (.tmp 1) 2, false, [], false⟩,
  ⟨some 12, 24, none, .load 24 (.tmp 11), false, [], false⟩,
  ⟨some 13, 151, none, .call ⟨.value (.func 128), #[.tmp 10, .tmp 12], #[24, 24]⟩, true, [], false⟩,
  ⟨some 8, 151, none, .move (.tmp 13), false, [], false⟩,
  ⟨some 14, 24, none, .extract (.tmp 8) 0, false, [], false⟩,
  ⟨some 15, 24, none, .extract (.tmp 8) 1, false, [], false⟩,
  ⟨some 3, 24, none, .assign (.tmp 14), false, [], false⟩,
  ⟨some 4, 24, none, .assign (.tmp 15), false, [], false⟩])
 (.seq (.seq (.ops [⟨some 16, 0, none, .fieldAddr 26 (.tmp 1) 0, false, [], false⟩,
  ⟨some 17, 4, none, .load 4 (.tmp 16), false, [], false⟩])
 (.cond (.tmp 17)
 (.ops [⟨some 18, 24, none, .move (.tmp 3), false, [], false⟩,
  ⟨some 19, 24, none, .call ⟨.value (.func 129), #[], #[]⟩, true, [], false⟩,
  ⟨some 20, 24, none, .call ⟨.value (.func 123), #[.tmp 18, .tmp 19], #[24, 24]⟩, true, [], false⟩,
  ⟨some 3, 24, none, .assign (.tmp 20), false, [], false⟩])
 .skip))
 (.seq (.ops [⟨some 21, 0, none, .fieldAddr 26 (.tmp 1) 0, false, [], false⟩,
  ⟨some 22, 4, none, .load 4 (.tmp 21), false, [], false⟩,
  ⟨some 23, 24, none, .move (.tmp 3), false, [], false⟩,
  ⟨some 24, 26, none, .build 26 #[(0, .tmp 22), (1, .tmp 23)], false, [], false⟩,
  ⟨none, 0, none, .store 26 (.tmp 2) (.tmp 24), true, [], false⟩])
 .ret))))
theorem k45 : FnOk Tryz.prog 45 25 [.cell 2 26] S45 := ⟨[166, 181, 201], _, Tryz.func45, by kernel_rfl, by kernel_rfl, rfl, rfl⟩
/- venturi/exact.Whole -/
def S47 : SC := .seq (.ops [⟨some 2, 0, none, .alloc 26, false, [], false⟩])
 (.seq (.ops [⟨some 3, 2, none, .move (.tmp 0), false, [], false⟩,
  ⟨some 4, 4, none, .binOp .lss 2 (.tmp 3) (.const (.int .i64 0)) 2, false, [], false⟩,
  ⟨some 5, 2, none, .move (.tmp 0), false, [], false⟩,
  ⟨some 6, 24, none, .call ⟨.value (.func 131), #[.tmp 5], #[2]⟩, true, [], false⟩,
  ⟨some 7, 26, none, .build 26 #[(0, .tmp 4), (1, .tmp 6)], false, [], false⟩,
  ⟨none, 0, none, .store 26 (.tmp 2) (.tmp 7), true, [], false⟩])
 .ret)
theorem k47 : FnOk Tryz.prog 47 8 [.cell 2 26] S47 := ⟨[166, 181, 201], _, Tryz.func47, by kernel_rfl, by kernel_rfl, rfl, rfl⟩
/- (venturi/exact.Num).Round -/
def S48 : SC := .seq (.ops [⟨some 2, 0, none, .box 26 (.tmp 0), false, [], false⟩,
  ⟨some 3, 0, none, .box 26 (.tmp 1), false, [], false⟩,
  ⟨some 4, 0, none, .alloc 26, false, [], false⟩,
  ⟨some 5, 27, none, .assign (.const (.int .i64 0)), false, [], false⟩])
 (.seq (.seq (.ops [⟨some 6, 26, none, .load 26 (.tmp 3), false, [], false⟩,
  ⟨some 7, 3, none, .call ⟨.value (.func 36), #[.tmp 6], #[26]⟩, true, [], false⟩,
  ⟨some 8, 4, none, .binOp .leq 3 (.tmp 7) (.const (.int .i64 0)) 3, false, [], false⟩])
 (.cond (.tmp 8)
 (.seq (.ops [⟨some 9, 26, none, .build 26 #[], false, [], false⟩,
  ⟨none, 0, none, .store 26 (.tmp 4) (.tmp 9), true, [], false⟩,
  ⟨some 5, 27, none, .assign (.const (.int .i64 3)), false, [], false⟩])
 .ret)
 .skip))
 (.seq (.ops [⟨some 10, 26, none, .load 26 (.tmp 2), false, [], false⟩,
  ⟨some 11, 26, none, .load 26 (.tmp 3), false, [], false⟩,
  ⟨some 16, 26, none, .load 26 (.tmp 3), false, [], false⟩,
  ⟨some 12, 26, none, .call ⟨.value (.func 132), #[.tmp 10, .tmp 11], #[26, 26]⟩, true, [], true⟩,
  ⟨some 13, 26, none, .call ⟨.value (.func 133), #[], #[]⟩, true, [], true⟩,
  ⟨some 14, 26, none, .call ⟨.value (.func 29), #[.tmp 12, .tmp 13], #[26, 26]⟩, true, [], true⟩,
  ⟨some 15, 26, none, .call ⟨.value (.func 45), #[.tmp 14], #[26]⟩, true, [], true⟩,
  ⟨some 17, 26, none, .call ⟨.value (.func 25), #[.tmp 15, .tmp 16], #[26, 26]⟩, true, [], false⟩,
  ⟨none, 0, none, .store 26 (.tmp 4) (.tmp 17), true, [], false⟩,
  ⟨some 5, 27, none, .assign (.const (.int .i64 0)), false, [], false⟩])
 .ret))
theorem k48 : FnOk Tryz.prog 48 18 [.cell 4 26, .tmp 5] S48 := ⟨[166, 181, 201], _, Tryz.func48, by kernel_rfl, by kernel_rfl, rfl, rfl⟩
/- venturi/exact.Span -/
def S51 : SC := .seq (.ops [⟨some 2, 0, none, .box 26 (.tmp 0), false, [], false⟩,
  ⟨some 3, 0, none, .box 26 (.tmp 1), false, [], false⟩,
  ⟨some 4, 0, none, .alloc 63, false, [], false⟩,
  ⟨some 5, 27, none, .assign (.const (.int .i64 0)), false, [], false⟩])
 (.seq (.seq (.ops [⟨some 6, 26, none, .load 26 (.tmp 2), false, [], false⟩,
  ⟨some 7, 26, none, .load 26 (.tmp 3), false, [], false⟩,
  ⟨some 8, 3, none, .call ⟨.value (.func 34), #[.tmp 6, .tmp 7], #[26, 26]⟩, true, [], false⟩,
  ⟨some 9, 4, none, .binOp .gtr 3 (.tmp 8) (.const (.int .i64 0)) 3, false, [], false⟩])
 (.cond (.tmp 9)
 (.seq (.ops [⟨some 10, 63, none, .build 63 #[], false, [], false⟩,
  ⟨none, 0, none, .store 63 (.tmp 4) (.tmp 10), true, [], false⟩,
  ⟨some 5, 27, none, .assign (.const (.int .i64 12)), false, [], false⟩])
 .ret)
 .skip))
 (.seq (.ops [⟨some 11, 26, none, .load 26 (.tmp 2), false, [], false⟩,
  ⟨some 12, 26, none, .load 26 (.tmp 3), false, [], false⟩,
  ⟨some 13, 63, none, .build 63 #[(0, .tmp 11), (1, .tmp 12)], false, [], false⟩,
  ⟨none, 0, none, .store 63 (.tmp 4) (.tmp 13), true, [], false⟩,
  ⟨some 5, 27, none, .assign (.const (.int .i64 0)), false, [], false⟩])
 .ret))
theorem k51 : FnOk Tryz.prog 51 14 [.cell 4 63, .tmp 5] S51 := ⟨[166, 181, 201], _, Tryz.func51, by kernel_rfl, by kernel_rfl, rfl, rfl⟩
/- (venturi/exact.Box).Mid -/
def S55 : SC := .seq (.ops [⟨some 1, 0, none, .box 63 (.tmp 0), false, [], false⟩,
  ⟨some 2, 0, none, .alloc 26, false, [], false⟩])
 (.seq (.ops [⟨some 3, 0, none, .fieldAddr 63 (.tmp 1) 0, false, [], false⟩,
  ⟨some 4, 26, none, .load 26 (.tmp 3), false, [], false⟩,
  ⟨some 5, 0, none, .fieldAddr 63 (.tmp 1) 1, false, [], false⟩,
  ⟨some 6, 26, none, .load 26 (.tmp 5), false, [], false⟩,
  ⟨some 7, 26, none, .call ⟨.value (.func 29), #[.tmp 4, .tmp 6], #[26, 26]⟩, true, [], false⟩,
  ⟨some 8, 26, none, .call ⟨.value (.func 133), #[], #[]⟩, true, [], false⟩,
  ⟨some 9, 26, none, .call ⟨.value (.func 25), #[.tmp 7, .tmp 8], #[26, 26]⟩, true, [], false⟩,
  ⟨none, 0, none, .store 26 (.tmp 2) (.tmp 9), true, [], false⟩])
 .ret)
theorem k55 : FnOk Tryz.prog 55 10 [.cell 2 26] S55 := ⟨[166, 181, 201], _, Tryz.func55, by kernel_rfl, by kernel_rfl, rfl, rfl⟩
/- (venturi/exact.Box).Width -/
def S57 : SC := .seq (.ops [⟨some 1, 0, none, .box 63 (.tmp 0), false, [], false⟩,
  ⟨some 2, 0, none, .alloc 26, false, [], false⟩])
 (.seq (.ops [⟨some 3, 0, none, .fieldAddr 63 (.tmp 1) 1, false, [], false⟩,
  ⟨some 4, 26, none, .load 26 (.tmp 3), false, [], false⟩,
  ⟨some 5, 0, none, .fieldAddr 63 (.tmp 1) 0, false, [], false⟩,
  ⟨some 6, 26, none, .load 26 (.tmp 5), false, [], false⟩,
  ⟨some 7, 26, none, .call ⟨.value (.func 31), #[.tmp 4, .tmp 6], #[26, 26]⟩, true, [], false⟩,
  ⟨none, 0, none, .store 26 (.tmp 2) (.tmp 7), true, [], false⟩])
 .ret)
theorem k57 : FnOk Tryz.prog 57 8 [.cell 2 26] S57 := ⟨[166, 181, 201], _, Tryz.func57, by kernel_rfl, by kernel_rfl, rfl, rfl⟩
/- venturi/exact.Point -/
def S58 : SC := .seq (.ops [⟨some 1, 0, none, .box 26 (.tmp 0), false, [], false⟩,
  ⟨some 2, 0, none, .alloc 63, false, [], false⟩])
 (.seq (.ops [⟨some 3, 26, none, .load 26 (.tmp 1), false, [], false⟩,
  ⟨some 4, 26, none, .load 26 (.tmp 1), false, [], false⟩,
  ⟨some 5, 63, none, .build 63 #[(0, .tmp 3), (1, .tmp 4)], false, [], false⟩,
  ⟨none, 0, none, .store 63 (.tmp 2) (.tmp 5), true, [], false⟩])
 .ret)
theorem k58 : FnOk Tryz.prog 58 6 [.cell 2 63] S58 := ⟨[166, 181, 201], _, Tryz.func58, by kernel_rfl, by kernel_rfl, rfl, rfl⟩
/- (venturi/exact.Box).Has -/
def S60 : SC := .seq (.ops [⟨some 2, 0, none, .box 63 (.tmp 0), false, [], false⟩,
  ⟨some 3, 0, none, .box 26 (.tmp 1), false, [], false⟩,
  ⟨some 4, 4, none, .assign (.const (.bool false)), false, [], false⟩])
 (.seq (.ops [⟨some 5, 0, none, .fieldAddr 63 (.tmp 2) 0, false, [], false⟩,
  ⟨some 6, 26, none, .load 26 (.tmp 5), false, [], false⟩,
  ⟨some 7, 26, none, .load 26 (.tmp 3), false, [], false⟩,
  ⟨some 8, 3, none, .call ⟨.value (.func 34), #[.tmp 6, .tmp 7], #[26, 26]⟩, true, [], false⟩,
  ⟨some 9, 4, none, .binOp .leq 3 (.tmp 8) (.const (.int .i64 0)) 3, false, [], false⟩,
  ⟨some 10, 4, none, .move (.tmp 9), false, [], false⟩,
  ⟨some 11, 26, some (10, true), .load 26 (.tmp 3), false, [], false⟩,
  ⟨some 12, 0, some (10, true), .fieldAddr 63 (.tmp 2) 1, false, [], false⟩,
  ⟨some 13, 26, some (10, true), .load 26 (.tmp 12), false, [], false⟩,
  ⟨some 14, 3, some (10, true), .call ⟨.value (.func 34), #[.tmp 11, .tmp 13], #[26, 26]⟩, true, [], false⟩,
  ⟨some 15, 4, some (10, true), .binOp .leq 3 (.tmp 14) (.const (.int .i64 0)) 3, false, [], false⟩,
  ⟨some 16, 4, none, .pick (.tmp 10) (.tmp 15) (.const (.bool false)), false, [], false⟩,
  ⟨some 4, 4, none, .assign (.tmp 16), false, [], false⟩])
 .ret)
theorem k60 : FnOk Tryz.prog 60 17 [.tmp 4] S60 := ⟨[166, 181, 201], _, Tryz.func60, by kernel_rfl, by kernel_rfl, rfl, rfl⟩
/- (venturi/exact.Box).Inside -/
def S62 : SC := .seq (.ops [⟨some 2, 0, none, .box 63 (.tmp 0), false, [], false⟩,
  ⟨some 3, 0, none, .box 63 (.tmp 1), false, [], false⟩,
  ⟨some 4, 4, none, .assign (.const (.bool false)), false, [], false⟩])
 (.seq (.ops [⟨some 5, 63, none, .load 63 (.tmp 3), false, [], false⟩,
  ⟨some 6, 0, none, .fieldAddr 63 (.tmp 2) 0, false, [], false⟩,
  ⟨some 7, 26, none, .load 26 (.tmp 6), false, [], false⟩,
  ⟨some 8, 4, none, .call ⟨.value (.func 60), #[.tmp 5, .tmp 7], #[63, 26]⟩, true, [], false⟩,
  ⟨some 9, 4, none, .move (.tmp 8), false, [], false⟩,
  ⟨some 10, 63, some (9, true), .load 63 (.tmp 3), false, [], false⟩,
  ⟨some 11, 0, some (9, true), .fieldAddr 63 (.tmp 2) 1, false, [], false⟩,
  ⟨some 12, 26, some (9, true), .load 26 (.tmp 11), false, [], false⟩,
  ⟨some 13, 4, some (9, true), .call ⟨.value (.func 60), #[.tmp 10, .tmp 12], #[63, 26]⟩, true, [], false⟩,
  ⟨some 14, 4, none, .pick (.tmp 9) (.tmp 13) (.const (.bool false)), false, [], false⟩,
  ⟨some 4, 4, none, .assign (.tmp 14), false, [], false⟩])
 .ret)
theorem k62 : FnOk Tryz.prog 62 15 [.tmp 4] S62 := ⟨[166, 181, 201], _, Tryz.func62, by kernel_rfl, by kernel_rfl, rfl, rfl⟩
/- (venturi/exact.Box).Equal -/
def S64 : SC := .seq (.ops [⟨some 2, 0, none, .box 63 (.tmp 0), false, [], false⟩,
  ⟨some 3, 0, none, .box 63 (.tmp 1), false, [], false⟩,
  ⟨some 4, 4, none, .assign (.const (.bool false)), false, [], false⟩])
 (.seq (.ops [⟨some 5, 63, none, .load 63 (.tmp 2), false, [], false⟩,
  ⟨some 6, 63, none, .load 63 (.tmp 3), false, [], false⟩,
  ⟨some 7, 4, none, .call ⟨.value (.func 62), #[.tmp 5, .tmp 6], #[63, 63]⟩, true, [], false⟩,
  ⟨some 8, 4, none, .move (.tmp 7), false, [], false⟩,
  ⟨some 9, 63, some (8, true), .load 63 (.tmp 3), false, [], false⟩,
  ⟨some 10, 63, some (8, true), .load 63 (.tmp 2), false, [], false⟩,
  ⟨some 11, 4, some (8, true), .call ⟨.value (.func 62), #[.tmp 9, .tmp 10], #[63, 63]⟩, true, [], false⟩,
  ⟨some 12, 4, none, .pick (.tmp 8) (.tmp 11) (.const (.bool false)), false, [], false⟩,
  ⟨some 4, 4, none, .assign (.tmp 12), false, [], false⟩])
 .ret)
theorem k64 : FnOk Tryz.prog 64 13 [.tmp 4] S64 := ⟨[166, 181, 201], _, Tryz.func64, by kernel_rfl, by kernel_rfl, rfl, rfl⟩
/- (venturi/exact.Box).Root -/
def S65 : SC := .seq (.ops [⟨some 2, 0, none, .box 63 (.tmp 0), false, [], false⟩,
  ⟨some 3, 0, none, .box 26 (.tmp 1), false, [], false⟩,
  ⟨some 4, 0, none, .alloc 63, false, [], false⟩,
  ⟨some 5, 27, none, .assign (.const (.int .i64 0)), false, [], false⟩])
 (.seq (.block 0 (.seq (.ops [⟨some 10, 26, none, .load 26 (.tmp 3), false, [], false⟩,
  ⟨some 11, 3, none, .call ⟨.value (.func 36), #[.tmp 10], #[26]⟩, true, [], false⟩,
  ⟨some 12, 4, none, .binOp .leq 3 (.tmp 11) (.const (.int .i64 0)) 3, false, [], false⟩,
  ⟨some 9, 4, none, .assign (.tmp 12), false, [], false⟩])
 (.cond (.tmp 9)
 (.seq (.ops [⟨some 13, 63, none, .build 63 #[], false, [], false⟩,
  ⟨none, 0, none, .store 63 (.tmp 4) (.tmp 13), true, [], false⟩,
  ⟨some 5, 27, none, .assign (.const (.int .i64 3)), false, [], false⟩])
 .ret)
 (.seq (.ops [⟨some 15, 0, none, .fieldAddr 63 (.tmp 2) 0, false, [], false⟩,
  ⟨some 16, 0, none, .fieldAddr 26 (.tmp 15) 0, false, [], false⟩,
  ⟨some 17, 4, none, .load 4 (.tmp 16), false, [], false⟩,
  ⟨some 14, 4, none, .assign (.tmp 17), false, [], false⟩])
 (.cond (.tmp 14)
 (.seq (.ops [⟨some 18, 63, none, .build 63 #[], false, [], false⟩,
  ⟨none, 0, none, .store 63 (.tmp 4) (.tmp 18), true, [], false⟩,
  ⟨some 5, 27, none, .assign (.const (.int .i64 11)), false, [], false⟩])
 .ret)
 .skip)))))
 (.seq (.ops [⟨some 19, 26, none, .load 26 (.tmp 3), false, [], false⟩,
  ⟨some 20, 26, none, .load 26 (.tmp 3), false, [], false⟩,
  ⟨some 21, 26, none, .call ⟨.value (.func 25), #[.tmp 19, .tmp 20], #[26, 26]⟩, true, [], false⟩,
  ⟨some 6, 0, none, .alloc 26, false, [], false⟩,
  ⟨none, 0, none, .store 26 (.tmp 6) (.tmp 21), true, [], false⟩])
 (.seq (.ops [⟨some 22, 0, none, .fieldAddr 63 (.tmp 2) 0, false, [], false⟩,
  ⟨some 23, 26, none, .load 26 (.tmp 22), false, [], false⟩,
  ⟨some 24, 26, none, .load 26 (.tmp 6), false, [], false⟩,
  ⟨some 27, 0, none, .fieldAddr 63 (.tmp 2) 1, false, [], false⟩,
  ⟨some 28, 26, none, .load 26 (.tmp 27), false, [], false⟩,
  ⟨some 29, 26, none, .load 26 (.tmp 6), false, [], false⟩,
  ⟨some 7, 0, none, .alloc 26, false, [], false⟩,
  ⟨some 8, 0, none, .alloc 26, false, [], false⟩,
  ⟨some 25, 26, none, .call ⟨.value (.func 132), #[.tmp 23, .tmp 24], #[26, 26]⟩, true, [], true⟩,
  ⟨some 26, 26, none, .call ⟨.value (.func 135), #[.tmp 25], #[26]⟩, true, [], true⟩,
  ⟨some 30, 26, none, .call ⟨.value (.func 132), #[.tmp 28, .tmp 29], #[26, 26]⟩, true, [], false⟩,
  ⟨some 31, 26, none, .call ⟨.value (.func 135), #[.tmp 30], #[26]⟩, true, [], false⟩,
  ⟨none, 0, none, .store 26 (.tmp 7) (.tmp 26), true, [], false⟩,
  ⟨none, 0, none, .store 26 (.tmp 8) (.tmp 31), true, [], false⟩])
 (.seq (.seq (.ops [⟨some 32, 26, none, .load 26 (.tmp 8), false, [], false⟩,
  ⟨some 33, 26, none, .load 26 (.tmp 8), false, [], false⟩,
  ⟨some 35, 26, none, .load 26 (.tmp 6), false, [], false⟩,
  ⟨some 37, 0, none, .fieldAddr 63 (.tmp 2) 1, false, [], false⟩,
  ⟨some 38, 26, none, .load 26 (.tmp 37), false, [], false⟩,
  ⟨some 34, 26, none, .call ⟨.value (.func 25), #[.tmp 32, .tmp 33], #[26, 26]⟩, true, [], true⟩,
  ⟨some 36, 26, none, .call ⟨.value (.func 25), #[.tmp 34, .tmp 35], #[26, 26]⟩, true, [], true⟩,
  ⟨some 39, 3, none, .call ⟨.value (.func 34), #[.tmp 36, .tmp 38], #[26, 26]⟩, true, [], false⟩,
  ⟨some 40, 4, none, .binOp .lss 3 (.tmp 39) (.const (.int .i64 0)) 3, false, [], false⟩])
 (.cond (.tmp 40)
 (.ops [⟨some 41, 26, none, .load 26 (.tmp 8), false, [], false⟩,
  ⟨some 42, 26, none, .call ⟨.value (.func 47), #[.const (.int .i64 1)], #[2]⟩, true, [], true⟩,
  ⟨some 43, 26, none, .call ⟨.value (.func 29), #[.tmp 41, .tmp 42], #[26, 26]⟩, true, [], false⟩,
  ⟨none, 0, none, .store 26 (.tmp 8) (.tmp 43), true, [], false⟩])
 .skip))
 (.seq (.ops [⟨some 44, 26, none, .load 26 (.tmp 7), false, [], false⟩,
  ⟨some 45, 26, none, .load 26 (.tmp 3), false, [], false⟩,
  ⟨some 47, 26, none, .load 26 (.tmp 8), false, [], false⟩,
  ⟨some 48, 26, none, .load 26 (.tmp 3), false, [], false⟩,
  ⟨some 46, 26, none, .call ⟨.value (.func 25), #[.tmp 44, .tmp 45], #[26, 26]⟩, true, [], true⟩,
  ⟨some 49, 26, none, .call ⟨.value (.func 25), #[.tmp 47, .tmp 48], #[26, 26]⟩, true, [], false⟩,
  ⟨some 50, 63, none, .build 63 #[(0, .tmp 46), (1, .tmp 49)], false, [], false⟩,
  ⟨none, 0, none, .store 63 (.tmp 4) (.tmp 50), true, [], false⟩,
  ⟨some 5, 27, none, .assign (.const (.int .i64 0)), false, [], false⟩])
 .ret)))))
theorem k65 : FnOk Tryz.prog 65 51 [.cell 4 63, .tmp 5] S65 := ⟨[166, 181, 201], _, Tryz.func65, by kernel_rfl, by kernel_rfl, rfl, rfl⟩
/- (venturi/exact.Box).Out -/
def S66 : SC := .seq (.ops [⟨some 2, 0, none, .box 63 (.tmp 0), false, [], false⟩,
  ⟨some 3, 0, none, .box 26 (.tmp 1), false, [], false⟩,
  ⟨some 4, 0, none, .alloc 63, false, [], false⟩,
  ⟨some 5, 27, none, .assign (.const (.int .i64 0)), false, [], false⟩])
 (.seq (.seq (.ops [⟨some 6, 26, none, .load 26 (.tmp 3), false, [], false⟩,
  ⟨some 7, 3, none, .call ⟨.value (.func 36), #[.tmp 6], #[26]⟩, true, [], false⟩,
  ⟨some 8, 4, none, .binOp .leq 3 (.tmp 7) (.const (.int .i64 0)) 3, false, [], false⟩])
 (.cond (.tmp 8)
 (.seq (.ops [⟨some 9, 63, none, .build 63 #[], false, [], false⟩,
  ⟨none, 0, none, .store 63 (.tmp 4) (.tmp 9), true, [], false⟩,
  ⟨some 5, 27, none, .assign (.const (.int .i64 3)), false, [], false⟩])
 .ret)
 .skip))
 (.seq (.ops [⟨some 10, 0, none, .fieldAddr 63 (.tmp 2) 0, false, [], false⟩,
  ⟨some 11, 26, none, .load 26 (.tmp 10), false, [], false⟩,
  ⟨some 12, 26, none, .load 26 (.tmp 3), false, [], false⟩,
  ⟨some 15, 26, none, .load 26 (.tmp 3), false, [], false⟩,
  ⟨some 17, 0, none, .fieldAddr 63 (.tmp 2) 1, false, [], false⟩,
  ⟨some 18, 26, none, .load 26 (.tmp 17), false, [], false⟩,
  ⟨some 19, 26, none, .load 26 (.tmp 3), false, [], false⟩,
  ⟨some 22, 26, none, .load 26 (.tmp 3), false, [], false⟩,
  ⟨some 13, 26, none, .call ⟨.value (.func 132), #[.tmp 11, .tmp 12], #[26, 26]⟩, true, [], true⟩,
  ⟨some 14, 26, none, .call ⟨.value (.func 45), #[.tmp 13], #[26]⟩, true, [], true⟩,
  ⟨some 16, 26, none, .call ⟨.value (.func 25), #[.tmp 14, .tmp 15], #[26, 26]⟩, true, [], true⟩,
  ⟨some 20, 26, none, .call ⟨.value (.func 132), #[.tmp 18, .tmp 19], #[26, 26]⟩, true, [], true⟩,
  ⟨some 21, 26, none, .call ⟨.value (.func 136), #[.tmp 20], #[26]⟩, true, [], true⟩,
  ⟨some 23, 26, none, .call ⟨.value (.func 25), #[.tmp 21, .tmp 22], #[26, 26]⟩, true, [], false⟩,
  ⟨some 24, 63, none, .build 63 #[(0, .tmp 16), (1, .tmp 23)], false, [], false⟩,
  ⟨none, 0, none, .store 63 (.tmp 4) (.tmp 24), true, [], false⟩,
  ⟨some 5, 27, none, .assign (.const (.int .i64 0)), false, [], false⟩])
 .ret))
theorem k66 : FnOk Tryz.prog 66 25 [.cell 4 63, .tmp 5] S66 := ⟨[166, 181, 201], _, Tryz.func66, by kernel_rfl, by kernel_rfl, rfl, rfl⟩
/- (venturi/exact.Num).Frac -/
def S69 : SC := .seq (.ops [⟨some 1, 0, none, .box 26 (.tmp 0), false, [], false⟩,
  ⟨some 2, 0, none, .alloc 26, false, [], false⟩,
  ⟨some 3, 0, none, .alloc 26, false, [], false⟩])
 (.seq (.ops [⟨some 4, 0, none, .fieldAddr 26 (.tmp 1) 0, false, [], false⟩,
  ⟨some 5, 4, none, .load 4 (.tmp 4), false, [], false⟩,
  ⟨some 6, 0, none, .fieldAddr 26 (.tmp 1) 1, false, [], false⟩,
  ⟨some 7, 24, none, .load 24 (.tmp 6), false, [], false⟩,
  ⟨some 8, 26, none, .build 26 #[(0, .tmp 5), (1, .tmp 7)], false, [], false⟩,
  ⟨some 9, 26, none, .load 26 (.tmp 1), false, [], false⟩,
  ⟨some 10, 24, none, .call ⟨.value (.func 122), #[.tmp 9], #[26]⟩, true, [], true⟩,
  ⟨some 11, 26, none, .build 26 #[(1, .tmp 10)], false, [], false⟩,
  ⟨none, 0, none, .store 26 (.tmp 2) (.tmp 8), true, [], false⟩,
  ⟨none, 0, none, .store 26 (.tmp 3) (.tmp 11), true, [], false⟩])
 .ret)
theorem k69 : FnOk Tryz.prog 69 12 [.cell 2 26, .cell 3 26] S69 := ⟨[166, 181, 201], _, Tryz.func69, by kernel_rfl, by kernel_rfl, rfl, rfl⟩
/- (venturi/exact.Num).String -/
def S70 : SC := .seq (.ops [⟨some 1, 0, none, .box 26 (.tmp 0), false, [], false⟩,
  ⟨some 2, 9, none, .assign (.const (.string ⟨#[]⟩)), false, [], false⟩])
 (.seq (.ops [⟨some 3, 9, none, .assign (.const (.string ⟨#[]⟩)), false, [], false⟩])
 (.seq (.seq (.ops [⟨some 9, 0, none, .fieldAddr 26 (.tmp 1) 0, false, [], false⟩,
  ⟨some 10, 4, none, .load 4 (.tmp 9), false, [], false⟩])
 (.cond (.tmp 10)
 (.ops [⟨some 3, 9, none, .assign (.const (.string ⟨#[45]⟩)), false, [], false⟩])
 .skip))
 (.seq (.seq (.ops [⟨some 11, 26, none, .load 26 (.tmp 1), false, [], false⟩,
  ⟨some 12, 4, none, .call ⟨.value (.func 121), #[.tmp 11], #[26]⟩, true, [], false⟩])
 (.cond (.tmp 12)
 (.seq (.ops [⟨some 13, 9, none, .move (.tmp 3), false, [], false⟩,
  ⟨some 14, 0, none, .fieldAddr 26 (.tmp 1) 1, false, [], false⟩,
  ⟨some 15, 24, none, .load 24 (.tmp 14), false, [], false⟩,
  ⟨some 16, 9, none, .call ⟨.value (.func 139), #[.tmp 15], #[24]⟩, true, [], false⟩,
  ⟨some 17, 9, none, .binOp .add 9 (.tmp 13) (.tmp 16) 9, false, [], false⟩,
  ⟨some 2, 9, none, .assign (.tmp 17), false, [], false⟩])
 .ret)
 .skip))
 (.seq (.ops [⟨some 19, 0, none, .fieldAddr 26 (.tmp 1) 2, false, [], false⟩,
  ⟨some 20, 24, none, .load 24 (.tmp 19), false, [], false⟩,
  ⟨some 21, 157, none, .call ⟨.value (.func 140), #[.tmp 20, .const (.int .u64 2)], #[24, 140]⟩, true, [], false⟩,
  ⟨some 18, 157, none, .move (.tmp 21), false, [], false⟩,
  ⟨some 22, 24, none, .extract (.tmp 18) 0, false, [], false⟩,
  ⟨some 23, 3, none, .extract (.tmp 18) 1, false, [], false⟩,
  ⟨some 4, 24, none, .assign (.tmp 22), false, [], false⟩,
  ⟨some 5, 3, none, .assign (.tmp 23), false, [], false⟩])
 (.seq (.ops [⟨some 25, 24, none, .move (.tmp 4), false, [], false⟩,
  ⟨some 26, 157, none, .call ⟨.value (.func 140), #[.tmp 25, .const (.int .u64 5)], #[24, 140]⟩, true, [], false⟩,
  ⟨some 24, 157, none, .move (.tmp 26), false, [], false⟩,
  ⟨some 27, 24, none, .extract (.tmp 24) 0, false, [], false⟩,
  ⟨some 28, 3, none, .extract (.tmp 24) 1, false, [], false⟩,
  ⟨some 4, 24, none, .assign (.tmp 27), false, [], false⟩,
  ⟨some 6, 3, none, .assign (.tmp 28), false, [], false⟩])
 (.seq (.seq (.ops [⟨some 29, 24, none, .move (.tmp 4), false, [], false⟩,
  ⟨some 30, 4, none, .call ⟨.value (.func 141), #[.tmp 29], #[24]⟩, true, [], false⟩,
  ⟨some 31, 4, none, .unOp .not 4 (.tmp 30), false, [], false⟩])
 (.cond (.tmp 31)
 (.seq (.ops [⟨some 32, 9, none, .move (.tmp 3), false, [], false⟩,
  ⟨some 33, 0, none, .fieldAddr 26 (.tmp 1) 1, false, [], false⟩,
  ⟨some 34, 24, none, .load 24 (.tmp 33), false, [], false⟩,
  ⟨some 38, 0, none, .fieldAddr 26 (.tmp 1) 2, false, [], false⟩,
  ⟨some 39, 24, none, .load 24 (.tmp 38), false, [], false⟩,
  ⟨some 35, 9, none, .call ⟨.value (.func 139), #[.tmp 34], #[24]⟩, true, [], true⟩,
  ⟨some 36, 9, none, .binOp .add 9 (.tmp 32) (.tmp 35) 9, false, [], false⟩,
  ⟨some 37, 9, none, .binOp .add 9 (.tmp 36) (.const (.string ⟨#[47]⟩)) 9, false, [], false⟩,
  ⟨some 40, 9, none, .call ⟨.value (.func 139), #[.tmp 39], #[24]⟩, true, [], false⟩,
  ⟨some 41, 9, none, .binOp .add 9 (.tmp 37) (.tmp 40) 9, false, [], false⟩,
  ⟨some 2, 9, none, .assign (.tmp 41), false, [], false⟩])
 .ret)
 .skip))
 (.seq (.ops [⟨some 42, 3, none, .move (.tmp 5), false, [], false⟩,
  ⟨some 43, 3, none, .move (.tmp 6), false, [], false⟩,
  ⟨some 44, 3, none, .call ⟨.builtin .max, #[.tmp 42, .tmp 43], #[3, 3]⟩, false, [], false⟩,
  ⟨some 7, 3, none, .assign (.tmp 44), false, [], false⟩])
 (.seq (.ops [⟨some 45, 0, none, .fieldAddr 26 (.tmp 1) 1, false, [], false⟩,
  ⟨some 46, 24, none, .load 24 (.tmp 45), false, [], false⟩,
  ⟨some 47, 3, none, .move (.tmp 7), false, [], false⟩,
  ⟨some 48, 3, none, .move (.tmp 5), false, [], false⟩,
  ⟨some 49, 3, none, .binOp .sub 3 (.tmp 47) (.tmp 48) 3, false, [], false⟩,
  ⟨some 52, 3, none, .move (.tmp 7), false, [], false⟩,
  ⟨some 53, 3, none, .move (.tmp 6), false, [], false⟩,
  ⟨some 54, 3, none, .binOp .sub 3 (.tmp 52) (.tmp 53) 3, false, [], false⟩,
  ⟨some 50, 24, none, .call ⟨.value (.func 114), #[.const (.int .u64 2), .tmp 49], #[140, 3]⟩, true, [], true⟩,
  ⟨some 51, 24, none, .call ⟨.value (.func 120), #[.tmp 46, .tmp 50], #[24, 24]⟩, true, [], false⟩,
  ⟨some 55, 24, none, .call ⟨.value (.func 114), #[.const (.int .u64 5), .tmp 54], #[140, 3]⟩, true, [], false⟩,
  ⟨some 56, 24, none, .call ⟨.value (.func 120), #[.tmp 51, .tmp 55], #[24, 24]⟩, true, [], false⟩,
  ⟨some 57, 9, none, .call ⟨.value (.func 139), #[.tmp 56], #[24]⟩, true, [], false⟩,
  ⟨some 8, 9, none, .assign (.tmp 57), false, [], false⟩])
 (.seq (.ops [⟨some 58, 3, none, .move (.tmp 7), false, [], false⟩,
  ⟨some 59, 3, none, .binOp .add 3 (.tmp 58) (.const (.int .i64 1)) 3, false, [], false⟩,
  ⟨some 60, 9, none, .move (.tmp 8), false, [], false⟩,
  ⟨some 61, 3, none, .call ⟨.builtin .len, #[.tmp 60], #[9]⟩, false, [], false⟩,
  ⟨some 62, 3, none, .binOp .sub 3 (.tmp 59) (.tmp 61) 3, false, [], false⟩,
  ⟨some 63, 3, none, .call ⟨.builtin .max, #[.const (.int .i64 0), .tmp 62], #[3, 3]⟩, false, [], false⟩,
  ⟨some 64, 9, none, .call ⟨.value (.func 142), #[.const (.string ⟨#[48]⟩), .tmp 63], #[9, 3]⟩, true, [], false⟩,
  ⟨some 65, 9, none, .move (.tmp 8), false, [], false⟩,
  ⟨some 66, 9, none, .binOp .add 9 (.tmp 64) (.tmp 65) 9, false, [], false⟩,
  ⟨some 8, 9, none, .assign (.tmp 66), false, [], false⟩])
 (.seq (.ops [⟨some 67, 9, none, .move (.tmp 3), false, [], false⟩,
  ⟨some 68, 9, none, .move (.tmp 8), false, [], false⟩,
  ⟨some 69, 9, none, .move (.tmp 8), false, [], false⟩,
  ⟨some 70, 3, none, .call ⟨.builtin .len, #[.tmp 69], #[9]⟩, false, [], false⟩,
  ⟨some 71, 3, none, .move (.tmp 7), false, [], false⟩,
  ⟨some 72, 3, none, .binOp .sub 3 (.tmp 70) (.tmp 71) 3, false, [], false⟩,
  ⟨some 73, 9, none, .slice 9 (.tmp 68) none (some (.tmp 72)) none, false, [], false⟩,
  ⟨some 74, 9, none, .binOp .add 9 (.tmp 67) (.tmp 73) 9, false, [], false⟩,
  ⟨some 75, 9, none, .binOp .add 9 (.tmp 74) (.const (.string ⟨#[46]⟩)) 9, false, [], false⟩,
  ⟨some 76, 9, none, .move (.tmp 8), false, [], false⟩,
  ⟨some 77, 9, none, .move (.tmp 8), false, [], false⟩,
  ⟨some 78, 3, none, .call ⟨.builtin .len, #[.tmp 77], #[9]⟩, false, [], false⟩,
  ⟨some 79, 3, none, .move (.tmp 7), false, [], false⟩,
  ⟨some 80, 3, none, .binOp .sub 3 (.tmp 78) (.tmp 79) 3, false, [], false⟩,
  ⟨some 81, 9, none, .slice 9 (.tmp 76) (some (.tmp 80)) none none, false, [], false⟩,
  ⟨some 82, 9, none, .binOp .add 9 (.tmp 75) (.tmp 81) 9, false, [], false⟩,
  ⟨some 2, 9, none, .assign (.tmp 82), false, [], false⟩])
 .ret))))))))))
theorem k70 : FnOk Tryz.prog 70 83 [.tmp 2] S70 := ⟨[166, 181, 201], _, Tryz.func70, by kernel_rfl, by kernel_rfl, rfl, rfl⟩
/- (venturi/exact.Box).Lo -/
def S72 : SC := .seq (.ops [⟨some 1, 0, none, .box 63 (.tmp 0), false, [], false⟩,
  ⟨some 2, 0, none, .alloc 26, false, [], false⟩])
 (.seq (.ops [⟨some 3, 0, none, .fieldAddr 63 (.tmp 1) 0, false, [], false⟩,
  ⟨some 4, 26, none, .load 26 (.tmp 3), false, [], false⟩,
  ⟨none, 0, none, .store 26 (.tmp 2) (.tmp 4), true, [], false⟩])
 .ret)
theorem k72 : FnOk Tryz.prog 72 5 [.cell 2 26] S72 := ⟨[166, 181, 201], _, Tryz.func72, by kernel_rfl, by kernel_rfl, rfl, rfl⟩
/- (venturi/exact.Box).Hi -/
def S73 : SC := .seq (.ops [⟨some 1, 0, none, .box 63 (.tmp 0), false, [], false⟩,
  ⟨some 2, 0, none, .alloc 26, false, [], false⟩])
 (.seq (.ops [⟨some 3, 0, none, .fieldAddr 63 (.tmp 1) 1, false, [], false⟩,
  ⟨some 4, 26, none, .load 26 (.tmp 3), false, [], false⟩,
  ⟨none, 0, none, .store 26 (.tmp 2) (.tmp 4), true, [], false⟩])
 .ret)
theorem k73 : FnOk Tryz.prog 73 5 [.cell 2 26] S73 := ⟨[166, 181, 201], _, Tryz.func73, by kernel_rfl, by kernel_rfl, rfl, rfl⟩
/- (venturi/exact.Box).Pow -/
def S76 : SC := .seq (.ops [⟨some 2, 0, none, .box 63 (.tmp 0), false, [], false⟩,
  ⟨some 4, 0, none, .alloc 63, false, [], false⟩,
  ⟨some 5, 27, none, .assign (.const (.int .i64 0)), false, [], false⟩])
 (.seq (.seq (.ops [⟨some 10, 3, none, .move (.tmp 1), false, [], false⟩,
  ⟨some 11, 4, none, .binOp .gtr 3 (.tmp 10) (.const (.int .i64 0)) 3, false, [], false⟩,
  ⟨some 12, 4, none, .move (.tmp 11), false, [], false⟩,
  ⟨some 13, 3, some (12, true), .move (.tmp 1), false, [], false⟩,
  ⟨some 14, 3, some (12, true), .binOp .rem 3 (.tmp 13) (.const (.int .i64 2)) 3, false, [], false⟩,
  ⟨some 15, 4, some (12, true), .binOp .eql 3 (.tmp 14) (.const (.int .i64 0)) 3, false, [], false⟩,
  ⟨some 16, 4, none, .pick (.tmp 12) (.tmp 15) (.const (.bool false)), false, [], false⟩])
 (.cond (.tmp 16)
 (.ops [⟨some 17, 63, none, .load 63 (.tmp 2), false, [], false⟩,
  ⟨some 18, 63, none, .call ⟨.value (.func 81), #[.tmp 17], #[63]⟩, true, [], false⟩,
  ⟨none, 0, none, .store 63 (.tmp 2) (.tmp 18), true, [], false⟩])
 .skip))
 (.seq (.ops [⟨some 20, 0, none, .fieldAddr 63 (.tmp 2) 0, false, [], false⟩,
  ⟨some 21, 26, none, .load 26 (.tmp 20), false, [], false⟩,
  ⟨some 22, 3, none, .move (.tmp 1), false, [], false⟩,
  ⟨some 23, 28, none, .call ⟨.value (.func 24), #[.tmp 21, .tmp 22], #[26, 3]⟩, true, [], false⟩,
  ⟨some 19, 28, none, .move (.tmp 23), false, [], false⟩,
  ⟨some 24, 26, none, .extract (.tmp 19) 0, false, [], false⟩,
  ⟨some 25, 27, none, .extract (.tmp 19) 1, false, [], false⟩,
  ⟨some 6, 0, none, .alloc 26, false, [], false⟩,
  ⟨none, 0, none, .store 26 (.tmp 6) (.tmp 24), true, [], false⟩,
  ⟨some 7, 27, none, .assign (.tmp 25), false, [], false⟩])
 (.seq (.ops [⟨some 27, 0, none, .fieldAddr 63 (.tmp 2) 1, false, [], false⟩,
  ⟨some 28, 26, none, .load 26 (.tmp 27), false, [], false⟩,
  ⟨some 29, 3, none, .move (.tmp 1), false, [], false⟩,
  ⟨some 30, 28, none, .call ⟨.value (.func 24), #[.tmp 28, .tmp 29], #[26, 3]⟩, true, [], false⟩,
  ⟨some 26, 28, none, .move (.tmp 30), false, [], false⟩,
  ⟨some 31, 26, none, .extract (.tmp 26) 0, false, [], false⟩,
  ⟨some 32, 27, none, .extract (.tmp 26) 1, false, [], false⟩,
  ⟨some 8, 0, none, .alloc 26, false, [], false⟩,
  ⟨none, 0, none, .store 26 (.tmp 8) (.tmp 31), true, [], false⟩,
  ⟨some 9, 27, none, .assign (.tmp 32), false, [], false⟩])
 (.seq (.ops [⟨some 33, 26, none, .load 26 (.tmp 6), false, [], false⟩,
  ⟨some 34, 26, none, .load 26 (.tmp 8), false, [], false⟩,
  ⟨some 35, 63, none, .build 63 #[(0, .tmp 33), (1, .tmp 34)], false, [], false⟩,
  ⟨some 36, 27, none, .move (.tmp 7), false, [], false⟩,
  ⟨none, 0, none, .store 63 (.tmp 4) (.tmp 35), true, [], false⟩,
  ⟨some 5, 27, none, .assign (.tmp 36), false, [], false⟩])
 .ret))))
theorem k76 : FnOk Tryz.prog 76 37 [.cell 4 63, .tmp 5] S76 := ⟨[166, 181, 201], _, Tryz.func76, by kernel_rfl, by kernel_rfl, rfl, rfl⟩
/- (venturi/exact.Box).Add -/
def S77 : SC := .seq (.ops [⟨some 2, 0, none, .box 63 (.tmp 0), false, [], false⟩,
  ⟨some 3, 0, none, .box 63 (.tmp 1), false, [], false⟩,
  ⟨some 4, 0, none, .alloc 63, false, [], false⟩])
 (.seq (.ops [⟨some 5, 0, none, .fieldAddr 63 (.tmp 2) 0, false, [], false⟩,
  ⟨some 6, 26, none, .load 26 (.tmp 5), false, [], false⟩,
  ⟨some 7, 0, none, .fieldAddr 63 (.tmp 3) 0, false, [], false⟩,
  ⟨some 8, 26, none, .load 26 (.tmp 7), false, [], false⟩,
  ⟨some 10, 0, none, .fieldAddr 63 (.tmp 2) 1, false, [], false⟩,
  ⟨some 11, 26, none, .load 26 (.tmp 10), false, [], false⟩,
  ⟨some 12, 0, none, .fieldAddr 63 (.tmp 3) 1, false, [], false⟩,
  ⟨some 13, 26, none, .load 26 (.tmp 12), false, [], false⟩,
  ⟨some 9, 26, none, .call ⟨.value (.func 29), #[.tmp 6, .tmp 8], #[26, 26]⟩, true, [], true⟩,
  ⟨some 14, 26, none, .call ⟨.value (.func 29), #[.tmp 11, .tmp 13], #[26, 26]⟩, true, [], false⟩,
  ⟨some 15, 63, none, .build 63 #[(0, .tmp 9), (1, .tmp 14)], false, [], false⟩,
  ⟨none, 0, none, .store 63 (.tmp 4) (.tmp 15), true, [], false⟩])
 .ret)
theorem k77 : FnOk Tryz.prog 77 16 [.cell 4 63] S77 := ⟨[166, 181, 201], _, Tryz.func77, by kernel_rfl, by kernel_rfl, rfl, rfl⟩
/- (venturi/exact.Box).Sub -/
def S78 : SC := .seq (.ops [⟨some 2, 0, none, .box 63 (.tmp 0), false, [], false⟩,
  ⟨some 3, 0, none, .box 63 (.tmp 1), false, [], false⟩,
  ⟨some 4, 0, none, .alloc 63, false, [], false⟩])
 (.seq (.ops [⟨some 5, 63, none, .load 63 (.tmp 2), false, [], false⟩,
  ⟨some 6, 63, none, .load 63 (.tmp 3), false, [], false⟩,
  ⟨some 7, 63, none, .call ⟨.value (.func 80), #[.tmp 6], #[63]⟩, true, [], true⟩,
  ⟨some 8, 63, none, .call ⟨.value (.func 77), #[.tmp 5, .tmp 7], #[63, 63]⟩, true, [], false⟩,
  ⟨none, 0, none, .store 63 (.tmp 4) (.tmp 8), true, [], false⟩])
 .ret)
theorem k78 : FnOk Tryz.prog 78 9 [.cell 4 63] S78 := ⟨[166, 181, 201], _, Tryz.func78, by kernel_rfl, by kernel_rfl, rfl, rfl⟩
/- (venturi/exact.Box).Mul -/
def S79 : SC := .seq (.ops [⟨some 2, 0, none, .box 63 (.tmp 0), false, [], false⟩,
  ⟨some 3, 0, none, .box 63 (.tmp 1), false, [], false⟩,
  ⟨some 4, 0, none, .alloc 63, false, [], false⟩])
 (.seq (.ops [⟨some 5, 63, none, .load 63 (.tmp 2), false, [], false⟩,
  ⟨some 6, 63, none, .load 63 (.tmp 3), false, [], false⟩,
  ⟨some 7, 63, none, .call ⟨.value (.func 143), #[.tmp 5, .tmp 6, .func 25], #[63, 63, 97]⟩, true, [], false⟩,
  ⟨none, 0, none, .store 63 (.tmp 4) (.tmp 7), true, [], false⟩])
 .ret)
theorem k79 : FnOk Tryz.prog 79 8 [.cell 4 63] S79 := ⟨[166, 181, 201], _, Tryz.func79, by kernel_rfl, by kernel_rfl, rfl, rfl⟩
/- (venturi/exact.Box).Neg -/
def S80 : SC := .seq (.ops [⟨some 1, 0, none, .box 63 (.tmp 0), false, [], false⟩,
  ⟨some 2, 0, none, .alloc 63, false, [], false⟩])
 (.seq (.ops [⟨some 3, 0, none, .fieldAddr 63 (.tmp 1) 1, false, [], false⟩,
  ⟨some 4, 26, none, .load 26 (.tmp 3), false, [], false⟩,
  ⟨some 6, 0, none, .fieldAddr 63 (.tmp 1) 0, false, [], false⟩,
  ⟨some 7, 26, none, .load 26 (.tmp 6), false, [], false⟩,
  ⟨some 5, 26, none, .call ⟨.value (.func 41), #[.tmp 4], #[26]⟩, true, [], true⟩,
  ⟨some 8, 26, none, .call ⟨.value (.func 41), #[.tmp 7], #[26]⟩, true, [], false⟩,
  ⟨some 9, 63, none, .build 63 #[(0, .tmp 5), (1, .tmp 8)], false, [], false⟩,
  ⟨none, 0, none, .store 63 (.tmp 2) (.tmp 9), true, [], false⟩])
 .ret)
theorem k80 : FnOk Tryz.prog 80 10 [.cell 2 63] S80 := ⟨[166, 181, 201], _, Tryz.func80, by kernel_rfl, by kernel_rfl, rfl, rfl⟩
/- (venturi/exact.Box).Abs -/
def S81 : SC := .seq (.ops [⟨some 1, 0, none, .box 63 (.tmp 0), false, [], false⟩,
  ⟨some 2, 0, none, .alloc 63, false, [], false⟩])
 (.seq (.ops [⟨some 4, 0, none, .fieldAddr 63 (.tmp 1) 0, false, [], false⟩,
  ⟨some 5, 26, none, .load 26 (.tmp 4), false, [], false⟩,
  ⟨some 7, 0, none, .fieldAddr 63 (.tmp 1) 1, false, [], false⟩,
  ⟨some 8, 26, none, .load 26 (.tmp 7), false, [], false⟩,
  ⟨some 3, 0, none, .alloc 63, false, [], false⟩,
  ⟨some 6, 26, none, .call ⟨.value (.func 43), #[.tmp 5], #[26]⟩, true, [], true⟩,
  ⟨some 9, 26, none, .call ⟨.value (.func 43), #[.tmp 8], #[26]⟩, true, [], false⟩,
  ⟨some 10, 95, none, .buildSlice 95 1 #[(0, .tmp 9)], true, [], false⟩,
  ⟨some 11, 63, none, .call ⟨.value (.func 144), #[.tmp 6, .tmp 10], #[26, 95]⟩, true, [], false⟩,
  ⟨none, 0, none, .store 63 (.tmp 3) (.tmp 11), true, [], false⟩])
 (.seq (.seq (.ops [⟨some 12, 63, none, .load 63 (.tmp 1), false, [], false⟩,
  ⟨some 13, 26, none, .build 26 #[], false, [], false⟩,
  ⟨some 14, 4, none, .call ⟨.value (.func 60), #[.tmp 12, .tmp 13], #[63, 26]⟩, true, [], false⟩])
 (.cond (.tmp 14)
 (.ops [⟨some 15, 26, none, .build 26 #[], false, [], false⟩,
  ⟨some 16, 0, none, .fieldAddr 63 (.tmp 3) 0, false, [], false⟩,
  ⟨none, 0, none, .store 26 (.tmp 16) (.tmp 15), true, [], false⟩])
 .skip))
 (.seq (.ops [⟨some 17, 63, none, .load 63 (.tmp 3), false, [], false⟩,
  ⟨none, 0, none, .store 63 (.tmp 2) (.tmp 17), true, [], false⟩])
 .ret)))
theorem k81 : FnOk Tryz.prog 81 18 [.cell 2 63] S81 := ⟨[166, 181, 201], _, Tryz.func81, by kernel_rfl, by kernel_rfl, rfl, rfl⟩
/- (venturi/exact.Box).Hull -/
def S82 : SC := .seq (.ops [⟨some 2, 0, none, .box 63 (.tmp 0), false, [], false⟩,
  ⟨some 3, 0, none, .box 63 (.tmp 1), false, [], false⟩,
  ⟨some 4, 0, none, .alloc 63, false, [], false⟩])
 (.seq (.ops [⟨some 5, 0, none, .fieldAddr 63 (.tmp 2) 0, false, [], false⟩,
  ⟨some 6, 26, none, .load 26 (.tmp 5), false, [], false⟩,
  ⟨some 7, 0, none, .fieldAddr 63 (.tmp 2) 1, false, [], false⟩,
  ⟨some 8, 26, none, .load 26 (.tmp 7), false, [], false⟩,
  ⟨some 9, 0, none, .fieldAddr 63 (.tmp 3) 0, false, [], false⟩,
  ⟨some 10, 26, none, .load 26 (.tmp 9), false, [], false⟩,
  ⟨some 11, 0, none, .fieldAddr 63 (.tmp 3) 1, false, [], false⟩,
  ⟨some 12, 26, none, .load 26 (.tmp 11), false, [], false⟩,
  ⟨some 13, 95, none, .buildSlice 95 3 #[(0, .tmp 8), (1, .tmp 10), (2, .tmp 12)], true, [], false⟩,
  ⟨some 14, 63, none, .call ⟨.value (.func 144), #[.tmp 6, .tmp 13], #[26, 95]⟩, true, [], false⟩,
  ⟨none, 0, none, .store 63 (.tmp 4) (.tmp 14), true, [], false⟩])
 .ret)
theorem k82 : FnOk Tryz.prog 82 15 [.cell 4 63] S82 := ⟨[166, 181, 201], _, Tryz.func82, by kernel_rfl, by kernel_rfl, rfl, rfl⟩
/- (venturi/exact.Box).Div -/
def S85 : SC := .seq (.ops [⟨some 2, 0, none, .box 63 (.tmp 0), false, [], false⟩,
  ⟨some 3, 0, none, .box 63 (.tmp 1), false, [], false⟩,
  ⟨some 4, 0, none, .alloc 63, false, [], false⟩,
  ⟨some 5, 27, none, .assign (.const (.int .i64 0)), false, [], false⟩])
 (.seq (.seq (.ops [⟨some 6, 63, none, .load 63 (.tmp 3), false, [], false⟩,
  ⟨some 7, 26, none, .build 26 #[], false, [], false⟩,
  ⟨some 8, 4, none, .call ⟨.value (.func 60), #[.tmp 6, .tmp 7], #[63, 26]⟩, true, [], false⟩])
 (.cond (.tmp 8)
 (.seq (.ops [⟨some 9, 63, none, .build 63 #[], false, [], false⟩,
  ⟨none, 0, none, .store 63 (.tmp 4) (.tmp 9), true, [], false⟩,
  ⟨some 5, 27, none, .assign (.const (.int .i64 10)), false, [], false⟩])
 .ret)
 .skip))
 (.seq (.ops [⟨some 10, 63, none, .load 63 (.tmp 2), false, [], false⟩,
  ⟨some 11, 63, none, .load 63 (.tmp 3), false, [], false⟩,
  ⟨some 12, 63, none, .call ⟨.value (.func 143), #[.tmp 10, .tmp 11, .func 132], #[63, 63, 97]⟩, true, [], false⟩,
  ⟨none, 0, none, .store 63 (.tmp 4) (.tmp 12), true, [], false⟩,
  ⟨some 5, 27, none, .assign (.const (.int .i64 0)), false, [], false⟩])
 .ret))
theorem k85 : FnOk Tryz.prog 85 13 [.cell 4 63, .tmp 5] S85 := ⟨[166, 181, 201], _, Tryz.func85, by kernel_rfl, by kernel_rfl, rfl, rfl⟩
/- (venturi/exact.Num).Int64 -/
def S86 : SC := .seq (.ops [⟨some 1, 0, none, .box 26 (.tmp 0), false, [], false⟩,
  ⟨some 2, 2, none, .assign (.const (.int .i64 0)), false, [], false⟩,
  ⟨some 3, 4, none, .assign (.const (.bool false)), false, [], false⟩])
 (.seq (.seq (.ops [⟨some 5, 26, none, .load 26 (.tmp 1), false, [], false⟩,
  ⟨some 6, 4, none, .call ⟨.value (.func 121), #[.tmp 5], #[26]⟩, true, [], false⟩,
  ⟨some 7, 4, none, .unOp .not 4 (.tmp 6), false, [], false⟩,
  ⟨some 8, 4, none, .move (.tmp 7), false, [], false⟩,
  ⟨some 9, 0, some (8, false), .fieldAddr 26 (.tmp 1) 1, false, [], false⟩,
  ⟨some 10, 24, some (8, false), .load 24 (.tmp 9), false, [], false⟩,
  ⟨some 11, 3, some (8, false), .call ⟨.builtin .len, #[.tmp 10], #[24]⟩, false, [], false⟩,
  ⟨some 12, 4, some (8, false), .binOp .gtr 3 (.tmp 11) (.const (.int .i64 1)) 3, false, [], false⟩,
  ⟨some 13, 4, none, .pick (.tmp 8) (.const (.bool true)) (.tmp 12), false, [], false⟩])
 (.cond (.tmp 13)
 (.seq (.ops [⟨some 2, 2, none, .assign (.const (.int .i64 0)), false, [], false⟩,
  ⟨some 3, 4, none, .assign (.const (.bool false)), false, [], false⟩])
 .ret)
 .skip))
 (.seq (.ops [⟨some 4, 140, none, .assign (.const (.int .u64 0)), false, [], false⟩])
 (.seq (.seq (.ops [⟨some 14, 0, none, .fieldAddr 26 (.tmp 1) 1, false, [], false⟩,
  ⟨some 15, 24, none, .load 24 (.tmp 14), false, [], false⟩,
  ⟨some 16, 3, none, .call ⟨.builtin .len, #[.tmp 15], #[24]⟩, false, [], false⟩,
  ⟨some 17, 4, none, .binOp .eql 3 (.tmp 16) (.const (.int .i64 1)) 3, false, [], false⟩])
 (.cond (.tmp 17)
 (.ops [⟨some 18, 0, none, .fieldAddr 26 (.tmp 1) 1, false, [], false⟩,
  ⟨some 19, 24, none, .load 24 (.tmp 18), false, [], false⟩,
  ⟨some 20, 0, none, .indexAddr 24 (.tmp 19) (.const (.int .i64 0)), false, [], false⟩,
  ⟨some 21, 140, none, .load 140 (.tmp 20), false, [], false⟩,
  ⟨some 4, 140, none, .assign (.tmp 21), false, [], false⟩])
 .skip))
 (.seq (.block 0 (.seq (.ops [⟨some 23, 0, none, .fieldAddr 26 (.tmp 1) 0, false, [], false⟩,
  ⟨some 24, 4, none, .load 4 (.tmp 23), false, [], false⟩,
  ⟨some 25, 4, none, .move (.tmp 24), false, [], false⟩,
  ⟨some 26, 140, some (25, true), .move (.tmp 4), false, [], false⟩,
  ⟨some 27, 4, some (25, true), .binOp .leq 140 (.tmp 26) (.const (.int .u64 9223372036854775808)) 140, false, [], false⟩,
  ⟨some 28, 4, none, .pick (.tmp 25) (.tmp 27) (.const (.bool false)), false, [], false⟩,
  ⟨some 22, 4, none, .assign (.tmp 28), false, [], false⟩])
 (.cond (.tmp 22)
 (.seq (.ops [⟨some 29, 140, none, .move (.tmp 4), false, [], false⟩,
  ⟨some 30, 140, none, .unOp .neg 140 (.tmp 29), false, [], false⟩,
  ⟨some 31, 2, none, .convert 140 2 (.tmp 30), false, [], false⟩,
  ⟨some 2, 2, none, .assign (.tmp 31), false, [], false⟩,
  ⟨some 3, 4, none, .assign (.const (.bool true)), false, [], false⟩])
 .ret)
 (.seq (.ops [⟨some 33, 0, none, .fieldAddr 26 (.tmp 1) 0, false, [], false⟩,
  ⟨some 34, 4, none, .load 4 (.tmp 33), false, [], false⟩,
  ⟨some 35, 4, none, .unOp .not 4 (.tmp 34), false, [], false⟩,
  ⟨some 36, 4, none, .move (.tmp 35), false, [], false⟩,
  ⟨some 37, 140, some (36, true), .move (.tmp 4), false, [], false⟩,
  ⟨some 38, 4, some (36, true), .binOp .lss 140 (.tmp 37) (.const (.int .u64 9223372036854775808)) 140, false, [], false⟩,
  ⟨some 39, 4, none, .pick (.tmp 36) (.tmp 38) (.const (.bool false)), false, [], false⟩,
  ⟨some 32, 4, none, .assign (.tmp 39), false, [], false⟩])
 (.cond (.tmp 32)
 (.seq (.ops [⟨some 40, 140, none, .move (.tmp 4), false, [], false⟩,
  ⟨some 41, 2, none, .convert 140 2 (.tmp 40), false, [], false⟩,
  ⟨some 2, 2, none, .assign (.tmp 41), false, [], false⟩,
  ⟨some 3, 4, none, .assign (.const (.bool true)), false, [], false⟩])
 .ret)
 .skip)))))
 (.seq (.ops [⟨some 2, 2, none, .assign (.const (.int .i64 0)), false, [], false⟩,
  ⟨some 3, 4, none, .assign (.const (.bool false)), false, [], false⟩])
 .ret)))))
theorem k86 : FnOk Tryz.prog 86 42 [.tmp 2, .tmp 3] S86 := ⟨[166, 181, 201], _, Tryz.func86, by kernel_rfl, by kernel_rfl, rfl, rfl⟩
/- venturi/exact.Ratio -/
def S87 : SC := .seq (.ops [⟨some 4, 0, none, .alloc 26, false, [], false⟩,
  ⟨some 5, 27, none, .assign (.const (.int .i64 0)), false, [], false⟩])
 (.seq (.seq (.ops [⟨some 6, 2, none, .move (.tmp 1), false, [], false⟩,
  ⟨some 7, 4, none, .binOp .eql 2 (.tmp 6) (.const (.int .i64 0)) 2, false, [], false⟩])
 (.cond (.tmp 7)
 (.seq (.ops [⟨some 8, 26, none, .build 26 #[], false, [], false⟩,
  ⟨none, 0, none, .store 26 (.tmp 4) (.tmp 8), true, [], false⟩,
  ⟨some 5, 27, none, .assign (.const (.int .i64 10)), false, [], false⟩])
 .ret)
 .skip))
 (.seq (.ops [⟨some 9, 2, none, .move (.tmp 0), false, [], false⟩,
  ⟨some 10, 4, none, .binOp .lss 2 (.tmp 9) (.const (.int .i64 0)) 2, false, [], false⟩,
  ⟨some 11, 2, none, .move (.tmp 1), false, [], false⟩,
  ⟨some 12, 4, none, .binOp .lss 2 (.tmp 11) (.const (.int .i64 0)) 2, false, [], false⟩,
  ⟨some 13, 4, none, .binOp .neq 4 (.tmp 10) (.tmp 12) 4, false, [], false⟩,
  ⟨some 14, 2, none, .move (.tmp 0), false, [], false⟩,
  ⟨some 15, 24, none, .call ⟨.value (.func 131), #[.tmp 14], #[2]⟩, true, [], false⟩,
  ⟨some 16, 2, none, .move (.tmp 1), false, [], false⟩,
  ⟨some 17, 24, none, .call ⟨.value (.func 131), #[.tmp 16], #[2]⟩, true, [], false⟩,
  ⟨some 18, 26, none, .call ⟨.value (.func 112), #[.tmp 13, .tmp 15, .tmp 17], #[4, 24, 24]⟩, true, [], false⟩,
  ⟨none, 0, none, .store 26 (.tmp 4) (.tmp 18), true, [], false⟩,
  ⟨some 5, 27, none, .assign (.const (.int .i64 0)), false, [], false⟩])
 .ret))
theorem k87 : FnOk Tryz.prog 87 19 [.cell 4 26, .tmp 5] S87 := ⟨[166, 181, 201], _, Tryz.func87, by kernel_rfl, by kernel_rfl, rfl, rfl⟩
/- venturi/exact.Sum -/
def S101 : SC := .seq (.ops [⟨some 2, 0, none, .alloc 26, false, [], false⟩,
  ⟨some 3, 27, none, .assign (.const (.int .i64 0)), false, [], false⟩])
 (.seq (.seq (.ops [⟨some 7, 95, none, .move (.tmp 0), false, [], false⟩,
  ⟨some 8, 3, none, .call ⟨.builtin .len, #[.tmp 7], #[95]⟩, false, [], false⟩,
  ⟨some 9, 4, none, .binOp .gtr 3 (.tmp 8) (.const (.int .i64 200)) 3, false, [], false⟩])
 (.cond (.tmp 9)
 (.seq (.ops [⟨some 10, 26, none, .build 26 #[], false, [], false⟩,
  ⟨none, 0, none, .store 26 (.tmp 2) (.tmp 10), true, [], false⟩,
  ⟨some 3, 27, none, .assign (.const (.int .i64 5)), false, [], false⟩])
 .ret)
 .skip))
 (.seq (.ops [⟨some 4, 0, none, .alloc 26, false, [], false⟩])
 (.seq (.seq (.ops [⟨some 11, 95, none, .move (.tmp 0), false, [], false⟩,
  ⟨some 12, 3, none, .call ⟨.builtin .len, #[.tmp 11], #[95]⟩, false, [], false⟩,
  ⟨some 13, 3, none, .move (.const (.int .i64 0)), false, [], false⟩])
 (.block 0 (.loop (.seq (.ops [⟨some 14, 0, none, .binOp .lss 3 (.tmp 13) (.tmp 12) 3, false, [], false⟩])
 (.seq (.cond (.tmp 14)
 .skip
 (.exit 0))
 (.seq (.block 1 (.seq (.ops [⟨some 15, 0, none, .indexAddr 95 (.tmp 11) (.tmp 13), false, [], false⟩,
  ⟨some 16, 26, none, .load 26 (.tmp 15), false, [], false⟩,
  ⟨some 6, 0, none, .alloc 26, false, [], false⟩,
  ⟨none, 0, none, .store 26 (.tmp 6) (.tmp 16), true, [], false⟩])
 (.ops [⟨some 17, 26, none, .load 26 (.tmp 4), false, [], false⟩,
  ⟨some 18, 26, none, .load 26 (.tmp 6), false, [], false⟩,
  ⟨some 19, 26, none, .call ⟨.value (.func 29), #[.tmp 17, .tmp 18], #[26, 26]⟩, true, [], false⟩,
  ⟨none, 0, none, .store 26 (.tmp 4) (.tmp 19), true, [], false⟩])))
 (.ops [⟨some 20, 3, none, .binOp .add 3 (.tmp 13) (.const (.int .i64 1)) 3, false, [], false⟩,
  ⟨some 13, 3, none, .move (.tmp 20), false, [], false⟩])))))))
 (.seq (.ops [⟨some 21, 26, none, .load 26 (.tmp 4), false, [], false⟩,
  ⟨none, 0, none, .store 26 (.tmp 2) (.tmp 21), true, [], false⟩,
  ⟨some 3, 27, none, .assign (.const (.int .i64 0)), false, [], false⟩])
 .ret))))
theorem k101 : FnOk Tryz.prog 101 22 [.cell 2 26, .tmp 3] S101 := ⟨[166, 181, 201], _, Tryz.func101, by kernel_rfl, by kernel_rfl, rfl, rfl⟩
/- venturi/exact.Dot -/
def S102 : SC := .seq (.ops [⟨some 4, 0, none, .alloc 26, false, [], false⟩,
  ⟨some 5, 27, none, .assign (.const (.int .i64 0)), false, [], false⟩])
 (.seq (.block 0 (.seq (.ops [⟨some 10, 95, none, .move (.tmp 0), false, [], false⟩,
  ⟨some 11, 3, none, .call ⟨.builtin .len, #[.tmp 10], #[95]⟩, false, [], false⟩,
  ⟨some 12, 4, none, .binOp .gtr 3 (.tmp 11) (.const (.int .i64 200)) 3, false, [], false⟩,
  ⟨some 13, 4, none, .move (.tmp 12), false, [], false⟩,
  ⟨some 14, 95, some (13, false), .move (.tmp 1), false, [], false⟩,
  ⟨some 15, 3, some (13, false), .call ⟨.builtin .len, #[.tmp 14], #[95]⟩, false, [], false⟩,
  ⟨some 16, 4, some (13, false), .binOp .gtr 3 (.tmp 15) (.const (.int .i64 200)) 3, false, [], false⟩,
  ⟨some 17, 4, none, .pick (.tmp 13) (.const (.bool true)) (.tmp 16), false, [], false⟩,
  ⟨some 9, 4, none, .assign (.tmp 17), false, [], false⟩])
 (.cond (.tmp 9)
 (.seq (.ops [⟨some 18, 26, none, .build 26 #[], false, [], false⟩,
  ⟨none, 0, none, .store 26 (.tmp 4) (.tmp 18), true, [], false⟩,
  ⟨some 5, 27, none, .assign (.const (.int .i64 5)), false, [], false⟩])
 .ret)
 (.seq (.ops [⟨some 20, 95, none, .move (.tmp 0), false, [], false⟩,
  ⟨some 21, 3, none, .call ⟨.builtin .len, #[.tmp 20], #[95]⟩, false, [], false⟩,
  ⟨some 22, 95, none, .move (.tmp 1), false, [], false⟩,
  ⟨some 23, 3, none, .call ⟨.builtin .len, #[.tmp 22], #[95]⟩, false, [], false⟩,
  ⟨some 24, 4, none, .binOp .neq 3 (.tmp 21) (.tmp 23) 3, false, [], false⟩,
  ⟨some 19, 4, none, .assign (.tmp 24), false, [], false⟩])
 (.cond (.tmp 19)
 (.seq (.ops [⟨some 25, 26, none, .build 26 #[], false, [], false⟩,
  ⟨none, 0, none, .store 26 (.tmp 4) (.tmp 25), true, [], false⟩,
  ⟨some 5, 27, none, .assign (.const (.int .i64 2)), false, [], false⟩])
 .ret)
 .skip)))))
 (.seq (.ops [⟨some 6, 0, none, .alloc 26, false, [], false⟩])
 (.seq (.seq (.ops [⟨some 26, 95, none, .move (.tmp 0), false, [], false⟩,
  ⟨some 27, 3, none, .call ⟨.builtin .len, #[.tmp 26], #[95]⟩, false, [], false⟩,
  ⟨some 28, 3, none, .move (.const (.int .i64 0)), false, [], false⟩])
 (.block 1 (.loop (.seq (.ops [⟨some 29, 0, none, .binOp .lss 3 (.tmp 28) (.tmp 27) 3, false, [], false⟩])
 (.seq (.cond (.tmp 29)
 .skip
 (.exit 1))
 (.seq (.block 2 (.seq (.ops [⟨some 30, 3, none, .move (.tmp 28), false, [], false⟩,
  ⟨some 31, 0, none, .indexAddr 95 (.tmp 26) (.tmp 28), false, [], false⟩,
  ⟨some 32, 26, none, .load 26 (.tmp 31), false, [], false⟩,
  ⟨some 8, 0, none, .alloc 26, false, [], false⟩,
  ⟨some 7, 3, none, .assign (.tmp 30), false, [], false⟩,
  ⟨none, 0, none, .store 26 (.tmp 8) (.tmp 32), true, [], false⟩])
 (.ops [⟨some 33, 26, none, .load 26 (.tmp 6), false, [], false⟩,
  ⟨some 34, 26, none, .load 26 (.tmp 8), false, [], false⟩,
  ⟨some 35, 95, none, .move (.tmp 1), false, [], false⟩,
  ⟨some 36, 3, none, .move (.tmp 7), false, [], false⟩,
  ⟨some 37, 0, none, .indexAddr 95 (.tmp 35) (.tmp 36), false, [], false⟩,
  ⟨some 38, 26, none, .load 26 (.tmp 37), false, [], false⟩,
  ⟨some 39, 26, none, .call ⟨.value (.func 25), #[.tmp 34, .tmp 38], #[26, 26]⟩, true, [], true⟩,
  ⟨some 40, 26, none, .call ⟨.value (.func 29), #[.tmp 33, .tmp 39], #[26, 26]⟩, true, [], false⟩,
  ⟨none, 0, none, .store 26 (.tmp 6) (.tmp 40), true, [], false⟩])))
 (.ops [⟨some 41, 3, none, .binOp .add 3 (.tmp 28) (.const (.int .i64 1)) 3, false, [], false⟩,
  ⟨some 28, 3, none, .move (.tmp 41), false, [], false⟩])))))))
 (.seq (.ops [⟨some 42, 26, none, .load 26 (.tmp 6), false, [], false⟩,
  ⟨none, 0, none, .store 26 (.tmp 4) (.tmp 42), true, [], false⟩,
  ⟨some 5, 27, none, .assign (.const (.int .i64 0)), false, [], false⟩])
 .ret))))
theorem k102 : FnOk Tryz.prog 102 43 [.cell 4 26, .tmp 5] S102 := ⟨[166, 181, 201], _, Tryz.func102, by kernel_rfl, by kernel_rfl, rfl, rfl⟩
/- (venturi/exact.Box).Parts -/
def S104 : SC := .seq (.ops [⟨some 2, 0, none, .box 63 (.tmp 0), false, [], false⟩,
  ⟨some 4, 121, none, .assign (.const (.slice none 0 0)), false, [], false⟩,
  ⟨some 5, 27, none, .assign (.const (.int .i64 0)), false, [], false⟩])
 (.seq (.seq (.ops [⟨some 11, 3, none, .move (.tmp 1), false, [], false⟩,
  ⟨some 12, 4, none, .binOp .lss 3 (.tmp 11) (.const (.int .i64 1)) 3, false, [], false⟩,
  ⟨some 13, 4, none, .move (.tmp 12), false, [], false⟩,
  ⟨some 14, 3, some (13, false), .move (.tmp 1), false, [], false⟩,
  ⟨some 15, 4, some (13, false), .binOp .gtr 3 (.tmp 14) (.const (.int .i64 256)) 3, false, [], false⟩,
  ⟨some 16, 4, none, .pick (.tmp 13) (.const (.bool true)) (.tmp 15), false, [], false⟩])
 (.cond (.tmp 16)
 (.seq (.ops [⟨some 4, 121, none, .assign (.const (.slice none 0 0)), false, [], false⟩,
  ⟨some 5, 27, none, .assign (.const (.int .i64 3)), false, [], false⟩])
 .ret)
 .skip))
 (.seq (.ops [⟨some 17, 63, none, .load 63 (.tmp 2), false, [], false⟩,
  ⟨some 18, 26, none, .call ⟨.value (.func 57), #[.tmp 17], #[63]⟩, true, [], false⟩,
  ⟨some 19, 3, none, .move (.tmp 1), false, [], false⟩,
  ⟨some 20, 26, none, .call ⟨.value (.func 47), #[.tmp 19], #[2]⟩, true, [], false⟩,
  ⟨some 21, 26, none, .call ⟨.value (.func 132), #[.tmp 18, .tmp 20], #[26, 26]⟩, true, [], false⟩,
  ⟨some 6, 0, none, .alloc 26, false, [], false⟩,
  ⟨none, 0, none, .store 26 (.tmp 6) (.tmp 21), true, [], false⟩])
 (.seq (.ops [⟨some 22, 3, none, .move (.tmp 1), false, [], false⟩,
  ⟨some 23, 121, none, .makeSlice 121 (.tmp 22) (.tmp 22), true, [], false⟩,
  ⟨some 7, 121, none, .assign (.tmp 23), false, [], false⟩])
 (.seq (.ops [⟨some 24, 0, none, .fieldAddr 63 (.tmp 2) 0, false, [], false⟩,
  ⟨some 25, 26, none, .load 26 (.tmp 24), false, [], false⟩,
  ⟨some 8, 0, none, .alloc 26, false, [], false⟩,
  ⟨none, 0, none, .store 26 (.tmp 8) (.tmp 25), true, [], false⟩])
 (.seq (.seq (.ops [⟨some 26, 121, none, .move (.tmp 7), false, [], false⟩,
  ⟨some 27, 3, none, .call ⟨.builtin .len, #[.tmp 26], #[121]⟩, false, [], false⟩,
  ⟨some 28, 3, none, .move (.const (.int .i64 0)), false, [], false⟩])
 (.block 0 (.loop (.seq (.ops [⟨some 29, 0, none, .binOp .lss 3 (.tmp 28) (.tmp 27) 3, false, [], false⟩])
 (.seq (.cond (.tmp 29)
 .skip
 (.exit 0))
 (.seq (.block 1 (.seq (.ops [⟨some 30, 3, none, .move (.tmp 28), false, [], false⟩,
  ⟨some 9, 3, none, .assign (.tmp 30), false, [], false⟩])
 (.seq (.ops [⟨some 31, 26, none, .load 26 (.tmp 8), false, [], false⟩,
  ⟨some 32, 26, none, .load 26 (.tmp 6), false, [], false⟩,
  ⟨some 33, 26, none, .call ⟨.value (.func 29), #[.tmp 31, .tmp 32], #[26, 26]⟩, true, [], false⟩,
  ⟨some 10, 0, none, .alloc 26, false, [], false⟩,
  ⟨none, 0, none, .store 26 (.tmp 10) (.tmp 33), true, [], false⟩])
 (.seq (.ops [⟨some 34, 121, none, .move (.tmp 7), false, [], false⟩,
  ⟨some 35, 3, none, .move (.tmp 9), false, [], false⟩,
  ⟨some 36, 26, none, .load 26 (.tmp 8), false, [], false⟩,
  ⟨some 37, 26, none, .load 26 (.tmp 10), false, [], false⟩,
  ⟨some 38, 63, none, .build 63 #[(0, .tmp 36), (1, .tmp 37)], false, [], false⟩,
  ⟨some 39, 0, none, .indexAddr 121 (.tmp 34) (.tmp 35), false, [], false⟩,
  ⟨none, 0, none, .store 63 (.tmp 39) (.tmp 38), true, [], false⟩])
 (.ops [⟨some 40, 26, none, .load 26 (.tmp 10), false, [], false⟩,
  ⟨none, 0, none, .store 26 (.tmp 8) (.tmp 40), true, [], false⟩])))))
 (.ops [⟨some 41, 3, none, .binOp .add 3 (.tmp 28) (.const (.int .i64 1)) 3, false, [], false⟩,
  ⟨some 28, 3, none, .move (.tmp 41), false, [], false⟩])))))))
 (.seq (.ops [⟨some 42, 121, none, .move (.tmp 7), false, [], false⟩,
  ⟨some 4, 121, none, .assign (.tmp 42), false, [], false⟩,
  ⟨some 5, 27, none, .assign (.const (.int .i64 0)), false, [], false⟩])
 .ret))))))
theorem k104 : FnOk Tryz.prog 104 43 [.tmp 4, .tmp 5] S104 := ⟨[166, 181, 201], _, Tryz.func104, by kernel_rfl, by kernel_rfl, rfl, rfl⟩
/- venturi/exact.Poly -/
def S105 : SC := .seq (.ops [⟨some 3, 0, none, .box 95 (.tmp 0), false, [], false⟩,
  ⟨some 4, 0, none, .box 63 (.tmp 1), false, [], false⟩,
  ⟨some 6, 0, none, .alloc 63, false, [], false⟩,
  ⟨some 7, 27, none, .assign (.const (.int .i64 0)), false, [], false⟩])
 (.seq (.seq (.ops [⟨some 14, 95, none, .load 95 (.tmp 3), false, [], false⟩,
  ⟨some 15, 3, none, .call ⟨.builtin .len, #[.tmp 14], #[95]⟩, false, [], false⟩,
  ⟨some 16, 4, none, .binOp .gtr 3 (.tmp 15) (.const (.int .i64 200)) 3, false, [], false⟩])
 (.cond (.tmp 16)
 (.seq (.ops [⟨some 17, 63, none, .build 63 #[], false, [], false⟩,
  ⟨none, 0, none, .store 63 (.tmp 6) (.tmp 17), true, [], false⟩,
  ⟨some 7, 27, none, .assign (.const (.int .i64 5)), false, [], false⟩])
 .ret)
 .skip))
 (.seq (.ops [⟨some 19, 63, none, .load 63 (.tmp 4), false, [], false⟩,
  ⟨some 20, 3, none, .move (.tmp 2), false, [], false⟩,
  ⟨some 21, 122, none, .call ⟨.value (.func 104), #[.tmp 19, .tmp 20], #[63, 3]⟩, true, [], false⟩,
  ⟨some 18, 122, none, .move (.tmp 21), false, [], false⟩,
  ⟨some 22, 121, none, .extract (.tmp 18) 0, false, [], false⟩,
  ⟨some 23, 27, none, .extract (.tmp 18) 1, false, [], false⟩,
  ⟨some 8, 121, none, .assign (.tmp 22), false, [], false⟩,
  ⟨some 9, 27, none, .assign (.tmp 23), false, [], false⟩])
 (.seq (.seq (.ops [⟨some 24, 27, none, .move (.tmp 9), false, [], false⟩,
  ⟨some 25, 4, none, .binOp .neq 27 (.tmp 24) (.const (.int .i64 0)) 27, false, [], false⟩])
 (.cond (.tmp 25)
 (.seq (.ops [⟨some 26, 63, none, .build 63 #[], false, [], false⟩,
  ⟨some 27, 27, none, .move (.tmp 9), false, [], false⟩,
  ⟨none, 0, none, .store 63 (.tmp 6) (.tmp 26), true, [], false⟩,
  ⟨some 7, 27, none, .assign (.tmp 27), false, [], false⟩])
 .ret)
 .skip))
 (.seq (.ops [⟨some 28, 93, none, .makeFunc (.func 148) #[] #[.tmp 3], true, [], false⟩,
  ⟨some 10, 93, none, .assign (.tmp 28), false, [], false⟩])
 (.seq (.ops [⟨some 29, 93, none, .move (.tmp 10), false, [], false⟩,
  ⟨some 30, 121, none, .move (.tmp 8), false, [], false⟩,
  ⟨some 31, 0, none, .indexAddr 121 (.tmp 30) (.const (.int .i64 0)), false, [], false⟩,
  ⟨some 32, 63, none, .load 63 (.tmp 31), false, [], false⟩,
  ⟨some 33, 63, none, .call ⟨.value (.tmp 29), #[.tmp 32], #[63]⟩, true, [], false⟩,
  ⟨some 11, 0, none, .alloc 63, false, [], false⟩,
  ⟨none, 0, none, .store 63 (.tmp 11) (.tmp 33), true, [], false⟩])
 (.seq (.seq (.ops [⟨some 34, 121, none, .move (.tmp 8), false, [], false⟩,
  ⟨some 35, 121, none, .slice 121 (.tmp 34) (some (.const (.int .i64 1))) none none, false, [], false⟩,
  ⟨some 36, 3, none, .call ⟨.builtin .len, #[.tmp 35], #[121]⟩, false, [], false⟩,
  ⟨some 37, 3, none, .move (.const (.int .i64 0)), false, [], false⟩])
 (.block 0 (.loop (.seq (.ops [⟨some 38, 0, none, .binOp .lss 3 (.tmp 37) (.tmp 36) 3, false, [], false⟩])
 (.seq (.cond (.tmp 38)
 .skip
 (.exit 0))
 (.seq (.block 1 (.seq (.ops [⟨some 39, 0, none, .indexAddr 121 (.tmp 35) (.tmp 37), false, [], false⟩,
  ⟨some 40, 63, none, .load 63 (.tmp 39), false, [], false⟩,
  ⟨some 13, 0, none, .alloc 63, false, [], false⟩,
  ⟨none, 0, none, .store 63 (.tmp 13) (.tmp 40), true, [], false⟩])
 (.ops [⟨some 41, 63, none, .load 63 (.tmp 11), false, [], false⟩,
  ⟨some 42, 93, none, .move (.tmp 10), false, [], false⟩,
  ⟨some 43, 63, none, .load 63 (.tmp 13), false, [], false⟩,
  ⟨some 44, 63, none, .call ⟨.value (.tmp 42), #[.tmp 43], #[63]⟩, true, [], true⟩,
  ⟨some 45, 63, none, .call ⟨.value (.func 82), #[.tmp 41, .tmp 44], #[63, 63]⟩, true, [], false⟩,
  ⟨none, 0, none, .store 63 (.tmp 11) (.tmp 45), true, [], false⟩])))
 (.ops [⟨some 46, 3, none, .binOp .add 3 (.tmp 37) (.const (.int .i64 1)) 3, false, [], false⟩,
  ⟨some 37, 3, none, .move (.tmp 46), false, [], false⟩])))))))
 (.seq (.ops [⟨some 47, 63, none, .load 63 (.tmp 11), false, [], false⟩,
  ⟨none, 0, none, .store 63 (.tmp 6) (.tmp 47), true, [], false⟩,
  ⟨some 7, 27, none, .assign (.const (.int .i64 0)), false, [], false⟩])
 .ret)))))))
theorem k105 : FnOk Tryz.prog 105 48 [.cell 6 63, .tmp 7] S105 := ⟨[166, 181, 201], _, Tryz.func105, by kernel_rfl, by kernel_rfl, rfl, rfl⟩
/- venturi/exact.isDigits -/
def S111 : SC := .seq (.ops [⟨some 2, 4, none, .assign (.const (.bool false)), false, [], false⟩])
 (.seq (.seq (.ops [⟨some 5, 9, none, .move (.tmp 0), false, [], false⟩,
  ⟨some 6, 166, none, .convert 9 166 (.tmp 5), true, [], false⟩,
  ⟨some 7, 3, none, .call ⟨.builtin .len, #[.tmp 6], #[166]⟩, false, [], false⟩,
  ⟨some 8, 3, none, .move (.const (.int .i64 0)), false, [], false⟩])
 (.block 0 (.loop (.seq (.ops [⟨some 9, 0, none, .binOp .lss 3 (.tmp 8) (.tmp 7) 3, false, [], false⟩])
 (.seq (.cond (.tmp 9)
 .skip
 (.exit 0))
 (.seq (.block 1 (.seq (.ops [⟨some 10, 0, none, .indexAddr 166 (.tmp 6) (.tmp 8), false, [], false⟩,
  ⟨some 11, 5, none, .load 5 (.tmp 10), false, [], false⟩,
  ⟨some 4, 5, none, .assign (.tmp 11), false, [], false⟩])
 (.seq (.ops [⟨some 12, 5, none, .move (.tmp 4), false, [], false⟩,
  ⟨some 13, 4, none, .binOp .lss 5 (.tmp 12) (.const (.int .u8 48)) 5, false, [], false⟩,
  ⟨some 14, 4, none, .move (.tmp 13), false, [], false⟩,
  ⟨some 15, 5, some (14, false), .move (.tmp 4), false, [], false⟩,
  ⟨some 16, 4, some (14, false), .binOp .gtr 5 (.tmp 15) (.const (.int .u8 57)) 5, false, [], false⟩,
  ⟨some 17, 4, none, .pick (.tmp 14) (.const (.bool true)) (.tmp 16), false, [], false⟩])
 (.cond (.tmp 17)
 (.seq (.ops [⟨some 2, 4, none, .assign (.const (.bool false)), false, [], false⟩])
 .ret)
 .skip))))
 (.ops [⟨some 18, 3, none, .binOp .add 3 (.tmp 8) (.const (.int .i64 1)) 3, false, [], false⟩,
  ⟨some 8, 3, none, .move (.tmp 18), false, [], false⟩])))))))
 (.seq (.ops [⟨some 19, 9, none, .move (.tmp 0), false, [], false⟩,
  ⟨some 20, 4, none, .binOp .neq 9 (.tmp 19) (.const (.string ⟨#[]⟩)) 9, false, [], false⟩,
  ⟨some 2, 4, none, .assign (.tmp 20), false, [], false⟩])
 .ret))
theorem k111 : FnOk Tryz.prog 111 21 [.tmp 2] S111 := ⟨[166, 181, 201], _, Tryz.func111, by kernel_rfl, by kernel_rfl, rfl, rfl⟩
/- venturi/exact.reduced -/
def S112 : SC := .seq (.ops [⟨some 6, 0, none, .alloc 26, false, [], false⟩])
 (.seq (.seq (.ops [⟨some 8, 24, none, .move (.tmp 1), false, [], false⟩,
  ⟨some 9, 24, none, .move (.tmp 2), false, [], false⟩,
  ⟨some 10, 24, none, .call ⟨.value (.func 152), #[.tmp 8, .tmp 9], #[24, 24]⟩, true, [], false⟩,
  ⟨some 7, 24, none, .assign (.tmp 10), false, [], false⟩])
 (.seq (.ops [⟨some 11, 24, none, .move (.tmp 7), false, [], false⟩,
  ⟨some 12, 4, none, .call ⟨.value (.func 141), #[.tmp 11], #[24]⟩, true, [], false⟩,
  ⟨some 13, 4, none, .unOp .not 4 (.tmp 12), false, [], false⟩])
 (.cond (.tmp 13)
 (.seq (.ops [⟨some 15, 24, none, .move (.tmp 1), false, [], false⟩,
  ⟨some 16, 24, none, .move (.tmp 7), false, [], false⟩,
  ⟨some 17, 151, none, .call ⟨.value (.func 128), #[.tmp 15, .tmp 16], #[24, 24]⟩, true, [], false⟩,
  ⟨some 14, 151, none, .move (.tmp 17), false, [], false⟩,
  ⟨some 18, 24, none, .extract (.tmp 14) 0, false, [], false⟩,
  ⟨some 19, 24, none, .extract (.tmp 14) 1, false, [], false⟩,
  ⟨some 1, 24, none, .assign (.tmp 18), false, [], false⟩])
 (.ops [⟨some 21, 24, none, .move (.tmp 2), false, [], false⟩,
  ⟨some 22, 24, none, .move (.tmp 7), false, [], false⟩,
  ⟨some 23, 151, none, .call ⟨.value (.func 128), #[.tmp 21, .tmp 22], #[24, 24]⟩, true, [], false⟩,
  ⟨some 20, 151, none, .move (.tmp 23), false, [], false⟩,
  ⟨some 24, 24, none, .extract (.tmp 20) 0, false, [], false⟩,
  ⟨some 25, 24, none, .extract (.tmp 20) 1, false, [], false⟩,
  ⟨some 2, 24, none, .assign (.tmp 24), false, [], false⟩]))
 .skip)))
 (.seq (.seq (.ops [⟨some 26, 24, none, .move (.tmp 2), false, [], false⟩,
  ⟨some 27, 4, none, .call ⟨.value (.func 141), #[.tmp 26], #[24]⟩, true, [], false⟩])
 (.cond (.tmp 27)
 (.ops [⟨some 2, 24, none, .assign (.const (.slice none 0 0)), false, [], false⟩])
 .skip))
 (.seq (.ops [⟨some 28, 4, none, .move (.tmp 0), false, [], false⟩,
  ⟨some 29, 4, none, .move (.tmp 28), false, [], false⟩,
  ⟨some 30, 24, some (29, true), .move (.tmp 1), false, [], false⟩,
  ⟨some 31, 3, some (29, true), .call ⟨.builtin .len, #[.tmp 30], #[24]⟩, false, [], false⟩,
  ⟨some 32, 4, some (29, true), .binOp .gtr 3 (.tmp 31) (.const (.int .i64 0)) 3, false, [], false⟩,
  ⟨some 33, 4, none, .pick (.tmp 29) (.tmp 32) (.const (.bool false)), false, [], false⟩,
  ⟨some 34, 24, none, .move (.tmp 1), false, [], false⟩,
  ⟨some 35, 24, none, .move (.tmp 2), false, [], false⟩,
  ⟨some 36, 26, none, .build 26 #[(0, .tmp 33), (1, .tmp 34), (2, .tmp 35)], false, [], false⟩,
  ⟨none, 0, none, .store 26 (.tmp 6) (.tmp 36), true, [], false⟩])
 .ret)))
theorem k112 : FnOk Tryz.prog 112 37 [.cell 6 26] S112 := ⟨[166, 181, 201], _, Tryz.func112, by kernel_rfl, by kernel_rfl, rfl, rfl⟩
/- venturi/exact.fromDigits -/
def S113 : SC := .seq (.ops [⟨some 2, 24, none, .assign (.const (.slice none 0 0)), false, [], false⟩])
 (.seq (.ops [⟨some 3, 24, none, .assign (.const (.slice none 0 0)), false, [], false⟩])
 (.seq (.block 0 (.loop (.seq (.seq (.ops [⟨some 9, 9, none, .move (.tmp 0), false, [], false⟩,
  ⟨some 10, 3, none, .call ⟨.builtin .len, #[.tmp 9], #[9]⟩, false, [], false⟩,
  ⟨some 11, 4, none, .binOp .gtr 3 (.tmp 10) (.const (.int .i64 0)) 3, false, [], false⟩])
 (.cond (.tmp 11)
 .skip
 (.exit 0)))
 (.block 1 (.seq (.ops [⟨some 12, 9, none, .move (.tmp 0), false, [], false⟩,
  ⟨some 13, 3, none, .call ⟨.builtin .len, #[.tmp 12], #[9]⟩, false, [], false⟩,
  ⟨some 14, 3, none, .call ⟨.builtin .min, #[.tmp 13, .const (.int .i64 19)], #[3, 3]⟩, false, [], false⟩,
  ⟨some 4, 3, none, .assign (.tmp 14), false, [], false⟩])
 (.seq (.ops [⟨some 5, 140, none, .assign (.const (.int .u64 0)), false, [], false⟩,
  ⟨some 6, 140, none, .assign (.const (.int .u64 1)), false, [], false⟩])
 (.seq (.seq (.ops [⟨some 15, 9, none, .move (.tmp 0), false, [], false⟩,
  ⟨some 16, 3, none, .move (.tmp 4), false, [], false⟩,
  ⟨some 17, 9, none, .slice 9 (.tmp 15) none (some (.tmp 16)) none, false, [], false⟩,
  ⟨some 18, 166, none, .convert 9 166 (.tmp 17), true, [], false⟩,
  ⟨some 19, 3, none, .call ⟨.builtin .len, #[.tmp 18], #[166]⟩, false, [], false⟩,
  ⟨some 20, 3, none, .move (.const (.int .i64 0)), false, [], false⟩])
 (.block 2 (.loop (.seq (.ops [⟨some 21, 0, none, .binOp .lss 3 (.tmp 20) (.tmp 19) 3, false, [], false⟩])
 (.seq (.cond (.tmp 21)
 .skip
 (.exit 2))
 (.seq (.block 3 (.seq (.ops [⟨some 22, 0, none, .indexAddr 166 (.tmp 18) (.tmp 20), false, [], false⟩,
  ⟨some 23, 5, none, .load 5 (.tmp 22), false, [], false⟩,
  ⟨some 8, 5, none, .assign (.tmp 23), false, [], false⟩])
 (.ops [⟨some 24, 140, none, .move (.tmp 5), false, [], false⟩,
  ⟨some 25, 140, none, .binOp .mul 140 (.const (.int .u64 10)) (.tmp 24) 140, false, [], false⟩,
  ⟨some 26, 5, none, .move (.tmp 8), false, [], false⟩,
  ⟨some 27, 5, none, .binOp .sub 5 (.tmp 26) (.const (.int .u8 48)) 5, false, [], false⟩,
  ⟨some 28, 140, none, .convert 5 140 (.tmp 27), false, [], false⟩,
  ⟨some 29, 140, none, .binOp .add 140 (.tmp 25) (.tmp 28) 140, false, [], false⟩,
  ⟨some 30, 140, none, .move (.tmp 6), false, [], false⟩,
  ⟨some 31, 140, none, .binOp .mul 140 (.tmp 30) (.const (.int .u64 10)) 140, false, [], false⟩,
  ⟨some 5, 140, none, .assign (.tmp 29), false, [], false⟩,
  ⟨some 6, 140, none, .assign (.tmp 31), false, [], false⟩])))
 (.ops [⟨some 32, 3, none, .binOp .add 3 (.tmp 20) (.const (.int .i64 1)) 3, false, [], false⟩,
  ⟨some 20, 3, none, .move (.tmp 32), false, [], false⟩])))))))
 (.seq (.ops [⟨some 33, 24, none, .move (.tmp 3), false, [], false⟩,
  ⟨some 34, 140, none, .move (.tmp 6), false, [], false⟩,
  ⟨some 35, 24, none, .buildSlice 24 1 #[(0, .tmp 34)], true, [], false⟩,
  ⟨some 36, 24, none, .call ⟨.value (.func 120), #[.tmp 33, .tmp 35], #[24, 24]⟩, true, [], false⟩,
  ⟨some 37, 140, none, .move (.tmp 5), false, [], false⟩,
  ⟨some 38, 24, none, .call ⟨.value (.func 153), #[.tmp 37], #[140]⟩, true, [], false⟩,
  ⟨some 39, 24, none, .call ⟨.value (.func 123), #[.tmp 36, .tmp 38], #[24, 24]⟩, true, [], false⟩,
  ⟨some 3, 24, none, .assign (.tmp 39), false, [], false⟩])
 (.ops [⟨some 40, 9, none, .move (.tmp 0), false, [], false⟩,
  ⟨some 41, 3, none, .move (.tmp 4), false, [], false⟩,
  ⟨some 42, 9, none, .slice 9 (.tmp 40) (some (.tmp 41)) none none, false, [], false⟩,
  ⟨some 0, 9, none, .assign (.tmp 42), false, [], false⟩])))))))))
 (.seq (.ops [⟨some 43, 24, none, .move (.tmp 3), false, [], false⟩,
  ⟨some 2, 24, none, .assign (.tmp 43), false, [], false⟩])
 .ret)))
theorem k113 : FnOk Tryz.prog 113 44 [.tmp 2] S113 := ⟨[166, 181, 201], _, Tryz.func113, by kernel_rfl, by kernel_rfl, rfl, rfl⟩
end Go.Proofs.YtplaobhghfndgaaGreatDoor
