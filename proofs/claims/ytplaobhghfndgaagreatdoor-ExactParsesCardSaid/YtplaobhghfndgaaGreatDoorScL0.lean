import Derived.Test.YtplaobhghfndgaaGreatDoorTab
/-! The code of functions, as the walk wants it (printed by gen.py). -/
set_option maxRecDepth 100000
namespace Go.Proofs.YtplaobhghfndgaaGreatDoor
open Go Go.Proofs.Vc
/- venturi/venturilaw01.known -/
def S19 : SC := .seq (.ops [⟨some 0, 4, none, .assign (.const (.bool false)), false, [], false⟩])
 (.seq (.ops [⟨some 14, 28, none, .call ⟨.value (.func 20), #[.const (.string ⟨#[45, 49, 50, 46, 53, 48]⟩)], #[9]⟩, true, [], false⟩,
  ⟨some 13, 28, none, .move (.tmp 14), false, [], false⟩,
  ⟨some 15, 26, none, .extract (.tmp 13) 0, false, [], false⟩,
  ⟨some 16, 27, none, .extract (.tmp 13) 1, false, [], false⟩,
  ⟨some 1, 0, none, .alloc 26, false, [], false⟩,
  ⟨none, 0, none, .store 26 (.tmp 1) (.tmp 15), true, [], false⟩,
  ⟨some 2, 27, none, .assign (.tmp 16), false, [], false⟩])
 (.seq (.ops [⟨some 18, 28, none, .call ⟨.value (.func 20), #[.const (.string ⟨#[45, 50, 47, 54]⟩)], #[9]⟩, true, [], false⟩,
  ⟨some 17, 28, none, .move (.tmp 18), false, [], false⟩,
  ⟨some 19, 26, none, .extract (.tmp 17) 0, false, [], false⟩,
  ⟨some 20, 27, none, .extract (.tmp 17) 1, false, [], false⟩,
  ⟨some 3, 0, none, .alloc 26, false, [], false⟩,
  ⟨none, 0, none, .store 26 (.tmp 3) (.tmp 19), true, [], false⟩,
  ⟨some 4, 27, none, .assign (.tmp 20), false, [], false⟩])
 (.seq (.ops [⟨some 22, 28, none, .call ⟨.value (.func 20), #[.const (.string ⟨#[48, 49]⟩)], #[9]⟩, true, [], false⟩,
  ⟨some 21, 28, none, .move (.tmp 22), false, [], false⟩,
  ⟨some 23, 26, none, .extract (.tmp 21) 0, false, [], false⟩,
  ⟨some 24, 27, none, .extract (.tmp 21) 1, false, [], false⟩,
  ⟨some 5, 0, none, .alloc 26, false, [], false⟩,
  ⟨none, 0, none, .store 26 (.tmp 5) (.tmp 23), true, [], false⟩,
  ⟨some 6, 27, none, .assign (.tmp 24), false, [], false⟩])
 (.seq (.seq (.ops [⟨some 25, 27, none, .move (.tmp 2), false, [], false⟩,
  ⟨some 26, 4, none, .binOp .neq 27 (.tmp 25) (.const (.int .i64 0)) 27, false, [], false⟩,
  ⟨some 27, 4, none, .move (.tmp 26), false, [], false⟩,
  ⟨some 28, 27, some (27, false), .move (.tmp 4), false, [], false⟩,
  ⟨some 29, 4, some (27, false), .binOp .neq 27 (.tmp 28) (.const (.int .i64 0)) 27, false, [], false⟩,
  ⟨some 30, 4, none, .pick (.tmp 27) (.const (.bool true)) (.tmp 29), false, [], false⟩,
  ⟨some 31, 4, none, .move (.tmp 30), false, [], false⟩,
  ⟨some 32, 27, some (31, false), .move (.tmp 6), false, [], false⟩,
  ⟨some 33, 4, some (31, false), .binOp .neq 27 (.tmp 32) (.const (.int .i64 4)) 27, false, [], false⟩,
  ⟨some 34, 4, none, .pick (.tmp 31) (.const (.bool true)) (.tmp 33), false, [], false⟩,
  ⟨some 35, 4, none, .move (.tmp 34), false, [], false⟩,
  ⟨some 36, 26, some (35, false), .load 26 (.tmp 1), false, [], false⟩,
  ⟨some 37, 9, some (35, false), .call ⟨.value (.func 70), #[.tmp 36], #[26]⟩, true, [], false⟩,
  ⟨some 38, 4, some (35, false), .binOp .neq 9 (.tmp 37) (.const (.string ⟨#[45, 49, 50, 46, 53]⟩)) 9, false, [], false⟩,
  ⟨some 39, 4, none, .pick (.tmp 35) (.const (.bool true)) (.tmp 38), false, [], false⟩,
  ⟨some 40, 4, none, .move (.tmp 39), false, [], false⟩,
  ⟨some 41, 26, some (40, false), .load 26 (.tmp 3), false, [], false⟩,
  ⟨some 42, 9, some (40, false), .call ⟨.value (.func 70), #[.tmp 41], #[26]⟩, true, [], false⟩,
  ⟨some 43, 4, some (40, false), .binOp .neq 9 (.tmp 42) (.const (.string ⟨#[45, 49, 47, 51]⟩)) 9, false, [], false⟩,
  ⟨some 44, 4, none, .pick (.tmp 40) (.const (.bool true)) (.tmp 43), false, [], false⟩])
 (.cond (.tmp 44)
 (.seq (.ops [⟨some 0, 4, none, .assign (.const (.bool false)), false, [], false⟩])
 .ret)
 .skip))
 (.seq (.ops [⟨some 46, 26, none, .call ⟨.value (.func 47), #[.const (.int .i64 (-1))], #[2]⟩, true, [], false⟩,
  ⟨some 47, 26, none, .call ⟨.value (.func 47), #[.const (.int .i64 2)], #[2]⟩, true, [], false⟩,
  ⟨some 48, 64, none, .call ⟨.value (.func 51), #[.tmp 46, .tmp 47], #[26, 26]⟩, true, [], false⟩,
  ⟨some 45, 64, none, .move (.tmp 48), false, [], false⟩,
  ⟨some 49, 63, none, .extract (.tmp 45) 0, false, [], false⟩,
  ⟨some 50, 27, none, .extract (.tmp 45) 1, false, [], false⟩,
  ⟨some 7, 0, none, .alloc 63, false, [], false⟩,
  ⟨none, 0, none, .store 63 (.tmp 7) (.tmp 49), true, [], false⟩,
  ⟨some 2, 27, none, .assign (.tmp 50), false, [], false⟩])
 (.seq (.ops [⟨some 52, 26, none, .call ⟨.value (.func 47), #[.const (.int .i64 3)], #[2]⟩, true, [], false⟩,
  ⟨some 53, 26, none, .call ⟨.value (.func 47), #[.const (.int .i64 4)], #[2]⟩, true, [], false⟩,
  ⟨some 54, 64, none, .call ⟨.value (.func 51), #[.tmp 52, .tmp 53], #[26, 26]⟩, true, [], false⟩,
  ⟨some 51, 64, none, .move (.tmp 54), false, [], false⟩,
  ⟨some 55, 63, none, .extract (.tmp 51) 0, false, [], false⟩,
  ⟨some 56, 27, none, .extract (.tmp 51) 1, false, [], false⟩,
  ⟨some 8, 0, none, .alloc 63, false, [], false⟩,
  ⟨none, 0, none, .store 63 (.tmp 8) (.tmp 55), true, [], false⟩,
  ⟨some 4, 27, none, .assign (.tmp 56), false, [], false⟩])
 (.seq (.ops [⟨some 58, 63, none, .load 63 (.tmp 7), false, [], false⟩,
  ⟨some 59, 64, none, .call ⟨.value (.func 76), #[.tmp 58, .const (.int .i64 3)], #[63, 3]⟩, true, [], false⟩,
  ⟨some 57, 64, none, .move (.tmp 59), false, [], false⟩,
  ⟨some 60, 63, none, .extract (.tmp 57) 0, false, [], false⟩,
  ⟨some 61, 27, none, .extract (.tmp 57) 1, false, [], false⟩,
  ⟨some 9, 0, none, .alloc 63, false, [], false⟩,
  ⟨none, 0, none, .store 63 (.tmp 9) (.tmp 60), true, [], false⟩,
  ⟨some 6, 27, none, .assign (.tmp 61), false, [], false⟩])
 (.seq (.ops [⟨some 63, 26, none, .call ⟨.value (.func 47), #[.const (.int .i64 2)], #[2]⟩, true, [], false⟩,
  ⟨some 64, 63, none, .call ⟨.value (.func 58), #[.tmp 63], #[26]⟩, true, [], false⟩,
  ⟨some 65, 26, none, .call ⟨.value (.func 108), #[.const (.int .i64 1), .const (.int .i64 10)], #[2, 2]⟩, true, [], false⟩,
  ⟨some 66, 64, none, .call ⟨.value (.func 65), #[.tmp 64, .tmp 65], #[63, 26]⟩, true, [], false⟩,
  ⟨some 62, 64, none, .move (.tmp 66), false, [], false⟩,
  ⟨some 67, 63, none, .extract (.tmp 62) 0, false, [], false⟩,
  ⟨some 68, 27, none, .extract (.tmp 62) 1, false, [], false⟩,
  ⟨some 10, 0, none, .alloc 63, false, [], false⟩,
  ⟨none, 0, none, .store 63 (.tmp 10) (.tmp 67), true, [], false⟩,
  ⟨some 11, 27, none, .assign (.tmp 68), false, [], false⟩])
 (.seq (.seq (.ops [⟨some 69, 27, none, .move (.tmp 2), false, [], false⟩,
  ⟨some 70, 4, none, .binOp .neq 27 (.tmp 69) (.const (.int .i64 0)) 27, false, [], false⟩,
  ⟨some 71, 4, none, .move (.tmp 70), false, [], false⟩,
  ⟨some 72, 27, some (71, false), .move (.tmp 4), false, [], false⟩,
  ⟨some 73, 4, some (71, false), .binOp .neq 27 (.tmp 72) (.const (.int .i64 0)) 27, false, [], false⟩,
  ⟨some 74, 4, none, .pick (.tmp 71) (.const (.bool true)) (.tmp 73), false, [], false⟩,
  ⟨some 75, 4, none, .move (.tmp 74), false, [], false⟩,
  ⟨some 76, 27, some (75, false), .move (.tmp 6), false, [], false⟩,
  ⟨some 77, 4, some (75, false), .binOp .neq 27 (.tmp 76) (.const (.int .i64 0)) 27, false, [], false⟩,
  ⟨some 78, 4, none, .pick (.tmp 75) (.const (.bool true)) (.tmp 77), false, [], false⟩,
  ⟨some 79, 4, none, .move (.tmp 78), false, [], false⟩,
  ⟨some 80, 27, some (79, false), .move (.tmp 11), false, [], false⟩,
  ⟨some 81, 4, some (79, false), .binOp .neq 27 (.tmp 80) (.const (.int .i64 0)) 27, false, [], false⟩,
  ⟨some 82, 4, none, .pick (.tmp 79) (.const (.bool true)) (.tmp 81), false, [], false⟩,
  ⟨some 83, 4, none, .move (.tmp 82), false, [], false⟩,
  ⟨some 84, 63, some (83, false), .load 63 (.tmp 9), false, [], false⟩,
  ⟨some 85, 26, some (83, false), .call ⟨.value (.func 72), #[.tmp 84], #[63]⟩, true, [], false⟩,
  ⟨some 86, 9, some (83, false), .call ⟨.value (.func 70), #[.tmp 85], #[26]⟩, true, [], false⟩,
  ⟨some 87, 4, some (83, false), .binOp .neq 9 (.tmp 86) (.const (.string ⟨#[45, 49]⟩)) 9, false, [], false⟩,
  ⟨some 88, 4, none, .pick (.tmp 83) (.const (.bool true)) (.tmp 87), false, [], false⟩,
  ⟨some 89, 4, none, .move (.tmp 88), false, [], false⟩,
  ⟨some 90, 63, some (89, false), .load 63 (.tmp 9), false, [], false⟩,
  ⟨some 91, 26, some (89, false), .call ⟨.value (.func 73), #[.tmp 90], #[63]⟩, true, [], false⟩,
  ⟨some 92, 9, some (89, false), .call ⟨.value (.func 70), #[.tmp 91], #[26]⟩, true, [], false⟩,
  ⟨some 93, 4, some (89, false), .binOp .neq 9 (.tmp 92) (.const (.string ⟨#[56]⟩)) 9, false, [], false⟩,
  ⟨some 94, 4, none, .pick (.tmp 89) (.const (.bool true)) (.tmp 93), false, [], false⟩,
  ⟨some 95, 4, none, .move (.tmp 94), false, [], false⟩,
  ⟨some 96, 63, some (95, false), .load 63 (.tmp 10), false, [], false⟩,
  ⟨some 97, 26, some (95, false), .call ⟨.value (.func 72), #[.tmp 96], #[63]⟩, true, [], false⟩,
  ⟨some 98, 9, some (95, false), .call ⟨.value (.func 70), #[.tmp 97], #[26]⟩, true, [], false⟩,
  ⟨some 99, 4, some (95, false), .binOp .neq 9 (.tmp 98) (.const (.string ⟨#[49, 46, 52]⟩)) 9, false, [], false⟩,
  ⟨some 100, 4, none, .pick (.tmp 95) (.const (.bool true)) (.tmp 99), false, [], false⟩,
  ⟨some 101, 4, none, .move (.tmp 100), false, [], false⟩,
  ⟨some 102, 63, some (101, false), .load 63 (.tmp 10), false, [], false⟩,
  ⟨some 103, 26, some (101, false), .call ⟨.value (.func 73), #[.tmp 102], #[63]⟩, true, [], false⟩,
  ⟨some 104, 9, some (101, false), .call ⟨.value (.func 70), #[.tmp 103], #[26]⟩, true, [], false⟩,
  ⟨some 105, 4, some (101, false), .binOp .neq 9 (.tmp 104) (.const (.string ⟨#[49, 46, 53]⟩)) 9, false, [], false⟩,
  ⟨some 106, 4, none, .pick (.tmp 101) (.const (.bool true)) (.tmp 105), false, [], false⟩])
 (.cond (.tmp 106)
 (.seq (.ops [⟨some 0, 4, none, .assign (.const (.bool false)), false, [], false⟩])
 .ret)
 .skip))
 (.seq (.ops [⟨some 107, 63, none, .load 63 (.tmp 7), false, [], false⟩,
  ⟨some 108, 63, none, .load 63 (.tmp 8), false, [], false⟩,
  ⟨some 109, 63, none, .call ⟨.value (.func 79), #[.tmp 107, .tmp 108], #[63, 63]⟩, true, [], false⟩,
  ⟨some 12, 0, none, .alloc 63, false, [], false⟩,
  ⟨none, 0, none, .store 63 (.tmp 12) (.tmp 109), true, [], false⟩])
 (.seq (.ops [⟨some 110, 63, none, .load 63 (.tmp 12), false, [], false⟩,
  ⟨some 111, 26, none, .call ⟨.value (.func 72), #[.tmp 110], #[63]⟩, true, [], false⟩,
  ⟨some 112, 9, none, .call ⟨.value (.func 70), #[.tmp 111], #[26]⟩, true, [], false⟩,
  ⟨some 113, 4, none, .binOp .eql 9 (.tmp 112) (.const (.string ⟨#[45, 52]⟩)) 9, false, [], false⟩,
  ⟨some 114, 4, none, .move (.tmp 113), false, [], false⟩,
  ⟨some 115, 63, some (114, true), .load 63 (.tmp 12), false, [], false⟩,
  ⟨some 116, 26, some (114, true), .call ⟨.value (.func 73), #[.tmp 115], #[63]⟩, true, [], false⟩,
  ⟨some 117, 9, some (114, true), .call ⟨.value (.func 70), #[.tmp 116], #[26]⟩, true, [], false⟩,
  ⟨some 118, 4, some (114, true), .binOp .eql 9 (.tmp 117) (.const (.string ⟨#[56]⟩)) 9, false, [], false⟩,
  ⟨some 119, 4, none, .pick (.tmp 114) (.tmp 118) (.const (.bool false)), false, [], false⟩,
  ⟨some 0, 4, none, .assign (.tmp 119), false, [], false⟩])
 .ret)))))))))))
theorem k19 : FnOk Tryz.prog 19 120 [.tmp 0] S19 := ⟨[166, 181, 201], _, Tryz.func19, by kernel_rfl, by kernel_rfl, rfl, rfl⟩
/- venturi/venturilaw01.same -/
def S22 : SC := .seq (.ops [⟨some 2, 0, none, .box 26 (.tmp 0), false, [], false⟩,
  ⟨some 3, 0, none, .box 33 (.tmp 1), false, [], false⟩,
  ⟨some 4, 4, none, .assign (.const (.bool false)), false, [], false⟩])
 (.seq (.ops [⟨some 5, 26, none, .load 26 (.tmp 2), false, [], false⟩,
  ⟨some 7, 33, none, .load 33 (.tmp 3), false, [], false⟩,
  ⟨some 6, 9, none, .call ⟨.value (.func 70), #[.tmp 5], #[26]⟩, true, [], true⟩,
  ⟨some 8, 9, none, .call ⟨.value (.func 119), #[.tmp 7], #[33]⟩, true, [], false⟩,
  ⟨some 9, 4, none, .binOp .eql 9 (.tmp 6) (.tmp 8) 9, false, [], false⟩,
  ⟨some 4, 4, none, .assign (.tmp 9), false, [], false⟩])
 .ret)
theorem k22 : FnOk Tryz.prog 22 10 [.tmp 4] S22 := ⟨[166, 181, 201], _, Tryz.func22, by kernel_rfl, by kernel_rfl, rfl, rfl⟩
/- venturi/venturilaw01.number -/
def S23 : SC := .seq (.ops [⟨some 2, 0, none, .alloc 26, false, [], false⟩])
 (.seq (.ops [⟨some 6, 9, none, .move (.tmp 0), false, [], false⟩,
  ⟨some 7, 28, none, .call ⟨.value (.func 20), #[.tmp 6], #[9]⟩, true, [], false⟩,
  ⟨some 5, 28, none, .move (.tmp 7), false, [], false⟩,
  ⟨some 8, 26, none, .extract (.tmp 5) 0, false, [], false⟩,
  ⟨some 9, 27, none, .extract (.tmp 5) 1, false, [], false⟩,
  ⟨some 3, 0, none, .alloc 26, false, [], false⟩,
  ⟨none, 0, none, .store 26 (.tmp 3) (.tmp 8), true, [], false⟩,
  ⟨some 4, 27, none, .assign (.tmp 9), false, [], false⟩])
 (.seq (.ops [⟨some 10, 26, none, .load 26 (.tmp 3), false, [], false⟩,
  ⟨none, 0, none, .store 26 (.tmp 2) (.tmp 10), true, [], false⟩])
 .ret))
theorem k23 : FnOk Tryz.prog 23 11 [.cell 2 26] S23 := ⟨[166, 181, 201], _, Tryz.func23, by kernel_rfl, by kernel_rfl, rfl, rfl⟩
/- venturi/venturilaw01.equal -/
def S26 : SC := .seq (.ops [⟨some 2, 0, none, .box 26 (.tmp 0), false, [], false⟩,
  ⟨some 3, 0, none, .box 26 (.tmp 1), false, [], false⟩,
  ⟨some 4, 4, none, .assign (.const (.bool false)), false, [], false⟩])
 (.seq (.ops [⟨some 5, 26, none, .load 26 (.tmp 2), false, [], false⟩,
  ⟨some 6, 26, none, .load 26 (.tmp 3), false, [], false⟩,
  ⟨some 7, 3, none, .call ⟨.value (.func 34), #[.tmp 5, .tmp 6], #[26, 26]⟩, true, [], false⟩,
  ⟨some 8, 4, none, .binOp .eql 3 (.tmp 7) (.const (.int .i64 0)) 3, false, [], false⟩,
  ⟨some 9, 4, none, .move (.tmp 8), false, [], false⟩,
  ⟨some 10, 26, some (9, true), .load 26 (.tmp 2), false, [], false⟩,
  ⟨some 12, 26, some (9, true), .load 26 (.tmp 3), false, [], false⟩,
  ⟨some 11, 9, some (9, true), .call ⟨.value (.func 70), #[.tmp 10], #[26]⟩, true, [], true⟩,
  ⟨some 13, 9, some (9, true), .call ⟨.value (.func 70), #[.tmp 12], #[26]⟩, true, [], false⟩,
  ⟨some 14, 4, some (9, true), .binOp .eql 9 (.tmp 11) (.tmp 13) 9, false, [], false⟩,
  ⟨some 15, 4, none, .pick (.tmp 9) (.tmp 14) (.const (.bool false)), false, [], false⟩,
  ⟨some 4, 4, none, .assign (.tmp 15), false, [], false⟩])
 .ret)
theorem k26 : FnOk Tryz.prog 26 16 [.tmp 4] S26 := ⟨[166, 181, 201], _, Tryz.func26, by kernel_rfl, by kernel_rfl, rfl, rfl⟩
/- venturi/venturilaw01.long -/
def S27 : SC := .seq (.ops [⟨some 2, 4, none, .assign (.const (.bool false)), false, [], false⟩])
 (.seq (.seq (.ops [⟨some 3, 3, none, .assign (.const (.int .i64 0)), false, [], false⟩])
 (.block 0 (.loop (.seq (.seq (.ops [⟨some 4, 3, none, .move (.tmp 3), false, [], false⟩,
  ⟨some 5, 113, none, .move (.tmp 0), false, [], false⟩,
  ⟨some 6, 3, none, .call ⟨.builtin .len, #[.tmp 5], #[113]⟩, false, [], false⟩,
  ⟨some 7, 4, none, .binOp .lss 3 (.tmp 4) (.tmp 6) 3, false, [], false⟩])
 (.cond (.tmp 7)
 .skip
 (.exit 0)))
 (.seq (.block 1 (.seq (.ops [⟨some 10, 113, none, .move (.tmp 0), false, [], false⟩,
  ⟨some 11, 3, none, .move (.tmp 3), false, [], false⟩,
  ⟨some 12, 0, none, .indexAddr 113 (.tmp 10) (.tmp 11), false, [], false⟩,
  ⟨some 13, 9, none, .load 9 (.tmp 12), false, [], false⟩,
  ⟨some 14, 3, none, .call ⟨.builtin .len, #[.tmp 13], #[9]⟩, false, [], false⟩,
  ⟨some 15, 4, none, .binOp .gtr 3 (.tmp 14) (.const (.int .i64 120)) 3, false, [], false⟩])
 (.cond (.tmp 15)
 (.seq (.ops [⟨some 2, 4, none, .assign (.const (.bool true)), false, [], false⟩])
 .ret)
 .skip)))
 (.ops [⟨some 8, 3, none, .move (.tmp 3), false, [], false⟩,
  ⟨some 9, 3, none, .binOp .add 3 (.tmp 8) (.const (.int .i64 1)) 3, false, [], false⟩,
  ⟨some 3, 3, none, .assign (.tmp 9), false, [], false⟩]))))))
 (.seq (.ops [⟨some 2, 4, none, .assign (.const (.bool false)), false, [], false⟩])
 .ret))
theorem k27 : FnOk Tryz.prog 27 16 [.tmp 2] S27 := ⟨[166, 181, 201], _, Tryz.func27, by kernel_rfl, by kernel_rfl, rfl, rfl⟩
/- venturi/venturilaw01.both -/
def S28 : SC := .seq (.ops [⟨some 2, 0, none, .alloc 26, false, [], false⟩,
  ⟨some 3, 0, none, .alloc 33, false, [], false⟩])
 (.seq (.ops [⟨some 9, 9, none, .move (.tmp 0), false, [], false⟩,
  ⟨some 10, 28, none, .call ⟨.value (.func 20), #[.tmp 9], #[9]⟩, true, [], false⟩,
  ⟨some 8, 28, none, .move (.tmp 10), false, [], false⟩,
  ⟨some 11, 26, none, .extract (.tmp 8) 0, false, [], false⟩,
  ⟨some 12, 27, none, .extract (.tmp 8) 1, false, [], false⟩,
  ⟨some 4, 0, none, .alloc 26, false, [], false⟩,
  ⟨none, 0, none, .store 26 (.tmp 4) (.tmp 11), true, [], false⟩,
  ⟨some 5, 27, none, .assign (.tmp 12), false, [], false⟩])
 (.seq (.ops [⟨some 14, 9, none, .move (.tmp 0), false, [], false⟩,
  ⟨some 15, 34, none, .call ⟨.value (.func 21), #[.tmp 14], #[9]⟩, true, [], false⟩,
  ⟨some 13, 34, none, .move (.tmp 15), false, [], false⟩,
  ⟨some 16, 33, none, .extract (.tmp 13) 0, false, [], false⟩,
  ⟨some 17, 27, none, .extract (.tmp 13) 1, false, [], false⟩,
  ⟨some 6, 0, none, .alloc 33, false, [], false⟩,
  ⟨none, 0, none, .store 33 (.tmp 6) (.tmp 16), true, [], false⟩,
  ⟨some 7, 27, none, .assign (.tmp 17), false, [], false⟩])
 (.seq (.ops [⟨some 18, 26, none, .load 26 (.tmp 4), false, [], false⟩,
  ⟨some 19, 33, none, .load 33 (.tmp 6), false, [], false⟩,
  ⟨none, 0, none, .store 26 (.tmp 2) (.tmp 18), true, [(.tmp 6)], true⟩,
  ⟨none, 0, none, .store 33 (.tmp 3) (.tmp 19), true, [], false⟩])
 .ret)))
theorem k28 : FnOk Tryz.prog 28 20 [.cell 2 26, .cell 3 33] S28 := ⟨[166, 181, 201], _, Tryz.func28, by kernel_rfl, by kernel_rfl, rfl, rfl⟩
/- venturi/venturilaw01.none -/
def S52 : SC := .seq (.ops [⟨some 1, 0, none, .box 63 (.tmp 0), false, [], false⟩,
  ⟨some 2, 4, none, .assign (.const (.bool false)), false, [], false⟩])
 (.seq (.ops [⟨some 3, 63, none, .load 63 (.tmp 1), false, [], false⟩,
  ⟨some 4, 26, none, .call ⟨.value (.func 72), #[.tmp 3], #[63]⟩, true, [], false⟩,
  ⟨some 5, 3, none, .call ⟨.value (.func 36), #[.tmp 4], #[26]⟩, true, [], false⟩,
  ⟨some 6, 4, none, .binOp .eql 3 (.tmp 5) (.const (.int .i64 0)) 3, false, [], false⟩,
  ⟨some 7, 4, none, .move (.tmp 6), false, [], false⟩,
  ⟨some 8, 63, some (7, true), .load 63 (.tmp 1), false, [], false⟩,
  ⟨some 9, 26, some (7, true), .call ⟨.value (.func 73), #[.tmp 8], #[63]⟩, true, [], false⟩,
  ⟨some 10, 3, some (7, true), .call ⟨.value (.func 36), #[.tmp 9], #[26]⟩, true, [], false⟩,
  ⟨some 11, 4, some (7, true), .binOp .eql 3 (.tmp 10) (.const (.int .i64 0)) 3, false, [], false⟩,
  ⟨some 12, 4, none, .pick (.tmp 7) (.tmp 11) (.const (.bool false)), false, [], false⟩,
  ⟨some 2, 4, none, .assign (.tmp 12), false, [], false⟩])
 .ret)
theorem k52 : FnOk Tryz.prog 52 13 [.tmp 2] S52 := ⟨[166, 181, 201], _, Tryz.func52, by kernel_rfl, by kernel_rfl, rfl, rfl⟩
/- venturi/venturilaw01.boxes -/
def S53 : SC := .seq (.ops [⟨some 1, 0, none, .box 72 (.tmp 0), false, [], false⟩,
  ⟨some 2, 0, none, .alloc 63, false, [], false⟩,
  ⟨some 3, 0, none, .alloc 68, false, [], false⟩])
 (.seq (.ops [⟨some 11, 0, none, .fieldAddr 72 (.tmp 1) 0, false, [], false⟩,
  ⟨some 12, 9, none, .load 9 (.tmp 11), false, [], false⟩,
  ⟨some 13, 46, none, .call ⟨.value (.func 28), #[.tmp 12], #[9]⟩, true, [], false⟩,
  ⟨some 10, 46, none, .move (.tmp 13), false, [], false⟩,
  ⟨some 14, 26, none, .extract (.tmp 10) 0, false, [], false⟩,
  ⟨some 15, 33, none, .extract (.tmp 10) 1, false, [], false⟩,
  ⟨some 4, 0, none, .alloc 26, false, [], false⟩,
  ⟨some 5, 0, none, .alloc 33, false, [], false⟩,
  ⟨none, 0, none, .store 26 (.tmp 4) (.tmp 14), true, [], false⟩,
  ⟨none, 0, none, .store 33 (.tmp 5) (.tmp 15), true, [], false⟩])
 (.seq (.ops [⟨some 17, 0, none, .fieldAddr 72 (.tmp 1) 1, false, [], false⟩,
  ⟨some 18, 9, none, .load 9 (.tmp 17), false, [], false⟩,
  ⟨some 19, 46, none, .call ⟨.value (.func 28), #[.tmp 18], #[9]⟩, true, [], false⟩,
  ⟨some 16, 46, none, .move (.tmp 19), false, [], false⟩,
  ⟨some 20, 26, none, .extract (.tmp 16) 0, false, [], false⟩,
  ⟨some 21, 33, none, .extract (.tmp 16) 1, false, [], false⟩,
  ⟨some 6, 0, none, .alloc 26, false, [], false⟩,
  ⟨some 7, 0, none, .alloc 33, false, [], false⟩,
  ⟨none, 0, none, .store 26 (.tmp 6) (.tmp 20), true, [], false⟩,
  ⟨none, 0, none, .store 33 (.tmp 7) (.tmp 21), true, [], false⟩])
 (.seq (.seq (.ops [⟨some 22, 33, none, .load 33 (.tmp 5), false, [], false⟩,
  ⟨some 23, 33, none, .load 33 (.tmp 7), false, [], false⟩,
  ⟨some 24, 3, none, .call ⟨.value (.func 35), #[.tmp 22, .tmp 23], #[33, 33]⟩, true, [], false⟩,
  ⟨some 25, 4, none, .binOp .gtr 3 (.tmp 24) (.const (.int .i64 0)) 3, false, [], false⟩])
 (.cond (.tmp 25)
 (.ops [⟨some 26, 26, none, .load 26 (.tmp 6), false, [], false⟩,
  ⟨some 27, 26, none, .load 26 (.tmp 4), false, [], false⟩,
  ⟨some 28, 33, none, .load 33 (.tmp 7), false, [], false⟩,
  ⟨some 29, 33, none, .load 33 (.tmp 5), false, [], false⟩,
  ⟨none, 0, none, .store 26 (.tmp 4) (.tmp 26), true, [(.tmp 7)], true⟩,
  ⟨none, 0, none, .store 26 (.tmp 6) (.tmp 27), true, [(.tmp 7)], true⟩,
  ⟨none, 0, none, .store 33 (.tmp 5) (.tmp 28), true, [], false⟩,
  ⟨none, 0, none, .store 33 (.tmp 7) (.tmp 29), true, [], false⟩])
 .skip))
 (.seq (.ops [⟨some 31, 26, none, .load 26 (.tmp 4), false, [], false⟩,
  ⟨some 32, 26, none, .load 26 (.tmp 6), false, [], false⟩,
  ⟨some 33, 64, none, .call ⟨.value (.func 51), #[.tmp 31, .tmp 32], #[26, 26]⟩, true, [], false⟩,
  ⟨some 30, 64, none, .move (.tmp 33), false, [], false⟩,
  ⟨some 34, 63, none, .extract (.tmp 30) 0, false, [], false⟩,
  ⟨some 35, 27, none, .extract (.tmp 30) 1, false, [], false⟩,
  ⟨some 8, 0, none, .alloc 63, false, [], false⟩,
  ⟨none, 0, none, .store 63 (.tmp 8) (.tmp 34), true, [], false⟩,
  ⟨some 9, 27, none, .assign (.tmp 35), false, [], false⟩])
 (.seq (.ops [⟨some 36, 63, none, .load 63 (.tmp 8), false, [], false⟩,
  ⟨some 37, 33, none, .load 33 (.tmp 5), false, [], false⟩,
  ⟨some 38, 33, none, .load 33 (.tmp 7), false, [], false⟩,
  ⟨some 39, 68, none, .build 68 #[(0, .tmp 37), (1, .tmp 38)], false, [], false⟩,
  ⟨none, 0, none, .store 63 (.tmp 2) (.tmp 36), true, [(.tmp 5), (.tmp 7)], true⟩,
  ⟨none, 0, none, .store 68 (.tmp 3) (.tmp 39), true, [], false⟩])
 .ret)))))
theorem k53 : FnOk Tryz.prog 53 40 [.cell 2 63, .cell 3 68] S53 := ⟨[166, 181, 201], _, Tryz.func53, by kernel_rfl, by kernel_rfl, rfl, rfl⟩
/- venturi/venturilaw01.sameBox -/
def S54 : SC := .seq (.ops [⟨some 2, 0, none, .box 63 (.tmp 0), false, [], false⟩,
  ⟨some 3, 0, none, .box 68 (.tmp 1), false, [], false⟩,
  ⟨some 4, 4, none, .assign (.const (.bool false)), false, [], false⟩])
 (.seq (.ops [⟨some 5, 63, none, .load 63 (.tmp 2), false, [], false⟩,
  ⟨some 7, 0, none, .fieldAddr 68 (.tmp 3) 0, false, [], false⟩,
  ⟨some 8, 33, none, .load 33 (.tmp 7), false, [], false⟩,
  ⟨some 6, 26, none, .call ⟨.value (.func 72), #[.tmp 5], #[63]⟩, true, [], true⟩,
  ⟨some 9, 4, none, .call ⟨.value (.func 22), #[.tmp 6, .tmp 8], #[26, 33]⟩, true, [], false⟩,
  ⟨some 10, 4, none, .move (.tmp 9), false, [], false⟩,
  ⟨some 11, 63, some (10, true), .load 63 (.tmp 2), false, [], false⟩,
  ⟨some 13, 0, some (10, true), .fieldAddr 68 (.tmp 3) 1, false, [], false⟩,
  ⟨some 14, 33, some (10, true), .load 33 (.tmp 13), false, [], false⟩,
  ⟨some 12, 26, some (10, true), .call ⟨.value (.func 73), #[.tmp 11], #[63]⟩, true, [], true⟩,
  ⟨some 15, 4, some (10, true), .call ⟨.value (.func 22), #[.tmp 12, .tmp 14], #[26, 33]⟩, true, [], false⟩,
  ⟨some 16, 4, none, .pick (.tmp 10) (.tmp 15) (.const (.bool false)), false, [], false⟩,
  ⟨some 4, 4, none, .assign (.tmp 16), false, [], false⟩])
 .ret)
theorem k54 : FnOk Tryz.prog 54 17 [.tmp 4] S54 := ⟨[166, 181, 201], _, Tryz.func54, by kernel_rfl, by kernel_rfl, rfl, rfl⟩
/- venturi/venturilaw01.box -/
def S71 : SC := .seq (.ops [⟨some 1, 0, none, .box 72 (.tmp 0), false, [], false⟩,
  ⟨some 2, 0, none, .alloc 63, false, [], false⟩])
 (.seq (.ops [⟨some 7, 0, none, .fieldAddr 72 (.tmp 1) 0, false, [], false⟩,
  ⟨some 8, 9, none, .load 9 (.tmp 7), false, [], false⟩,
  ⟨some 10, 0, none, .fieldAddr 72 (.tmp 1) 1, false, [], false⟩,
  ⟨some 11, 9, none, .load 9 (.tmp 10), false, [], false⟩,
  ⟨some 3, 0, none, .alloc 26, false, [], false⟩,
  ⟨some 4, 0, none, .alloc 26, false, [], false⟩,
  ⟨some 9, 26, none, .call ⟨.value (.func 23), #[.tmp 8], #[9]⟩, true, [], true⟩,
  ⟨some 12, 26, none, .call ⟨.value (.func 23), #[.tmp 11], #[9]⟩, true, [], false⟩,
  ⟨none, 0, none, .store 26 (.tmp 3) (.tmp 9), true, [], false⟩,
  ⟨none, 0, none, .store 26 (.tmp 4) (.tmp 12), true, [], false⟩])
 (.seq (.seq (.ops [⟨some 13, 26, none, .load 26 (.tmp 3), false, [], false⟩,
  ⟨some 14, 26, none, .load 26 (.tmp 4), false, [], false⟩,
  ⟨some 15, 3, none, .call ⟨.value (.func 34), #[.tmp 13, .tmp 14], #[26, 26]⟩, true, [], false⟩,
  ⟨some 16, 4, none, .binOp .gtr 3 (.tmp 15) (.const (.int .i64 0)) 3, false, [], false⟩])
 (.cond (.tmp 16)
 (.ops [⟨some 17, 26, none, .load 26 (.tmp 4), false, [], false⟩,
  ⟨some 18, 26, none, .load 26 (.tmp 3), false, [], false⟩,
  ⟨none, 0, none, .store 26 (.tmp 3) (.tmp 17), true, [], false⟩,
  ⟨none, 0, none, .store 26 (.tmp 4) (.tmp 18), true, [], false⟩])
 .skip))
 (.seq (.ops [⟨some 20, 26, none, .load 26 (.tmp 3), false, [], false⟩,
  ⟨some 21, 26, none, .load 26 (.tmp 4), false, [], false⟩,
  ⟨some 22, 64, none, .call ⟨.value (.func 51), #[.tmp 20, .tmp 21], #[26, 26]⟩, true, [], false⟩,
  ⟨some 19, 64, none, .move (.tmp 22), false, [], false⟩,
  ⟨some 23, 63, none, .extract (.tmp 19) 0, false, [], false⟩,
  ⟨some 24, 27, none, .extract (.tmp 19) 1, false, [], false⟩,
  ⟨some 5, 0, none, .alloc 63, false, [], false⟩,
  ⟨none, 0, none, .store 63 (.tmp 5) (.tmp 23), true, [], false⟩,
  ⟨some 6, 27, none, .assign (.tmp 24), false, [], false⟩])
 (.seq (.ops [⟨some 25, 63, none, .load 63 (.tmp 5), false, [], false⟩,
  ⟨none, 0, none, .store 63 (.tmp 2) (.tmp 25), true, [], false⟩])
 .ret))))
theorem k71 : FnOk Tryz.prog 71 26 [.cell 2 63] S71 := ⟨[166, 181, 201], _, Tryz.func71, by kernel_rfl, by kernel_rfl, rfl, rfl⟩
/- venturi/venturilaw01.at -/
def S74 : SC := .seq (.ops [⟨some 2, 0, none, .box 63 (.tmp 0), false, [], false⟩,
  ⟨some 4, 0, none, .alloc 26, false, [], false⟩])
 (.seq (.ops [⟨some 5, 63, none, .load 63 (.tmp 2), false, [], false⟩,
  ⟨some 7, 63, none, .load 63 (.tmp 2), false, [], false⟩,
  ⟨some 9, 5, none, .move (.tmp 1), false, [], false⟩,
  ⟨some 10, 2, none, .convert 5 2 (.tmp 9), false, [], false⟩,
  ⟨some 6, 26, none, .call ⟨.value (.func 72), #[.tmp 5], #[63]⟩, true, [], true⟩,
  ⟨some 8, 26, none, .call ⟨.value (.func 57), #[.tmp 7], #[63]⟩, true, [], false⟩,
  ⟨some 11, 26, none, .call ⟨.value (.func 108), #[.tmp 10, .const (.int .i64 255)], #[2, 2]⟩, true, [], false⟩,
  ⟨some 12, 26, none, .call ⟨.value (.func 25), #[.tmp 8, .tmp 11], #[26, 26]⟩, true, [], false⟩,
  ⟨some 13, 26, none, .call ⟨.value (.func 29), #[.tmp 6, .tmp 12], #[26, 26]⟩, true, [], false⟩,
  ⟨none, 0, none, .store 26 (.tmp 4) (.tmp 13), true, [], false⟩])
 .ret)
theorem k74 : FnOk Tryz.prog 74 14 [.cell 4 26] S74 := ⟨[166, 181, 201], _, Tryz.func74, by kernel_rfl, by kernel_rfl, rfl, rfl⟩
/- venturi/venturilaw01.wide -/
def S75 : SC := .seq (.ops [⟨some 1, 0, none, .box 90 (.tmp 0), false, [], false⟩,
  ⟨some 2, 4, none, .assign (.const (.bool false)), false, [], false⟩])
 (.seq (.ops [⟨some 5, 0, none, .fieldAddr 90 (.tmp 1) 0, false, [], false⟩,
  ⟨some 6, 0, none, .fieldAddr 72 (.tmp 5) 0, false, [], false⟩,
  ⟨some 7, 9, none, .load 9 (.tmp 6), false, [], false⟩,
  ⟨some 8, 0, none, .fieldAddr 90 (.tmp 1) 0, false, [], false⟩,
  ⟨some 9, 0, none, .fieldAddr 72 (.tmp 8) 1, false, [], false⟩,
  ⟨some 10, 9, none, .load 9 (.tmp 9), false, [], false⟩,
  ⟨some 11, 0, none, .fieldAddr 90 (.tmp 1) 1, false, [], false⟩,
  ⟨some 12, 0, none, .fieldAddr 72 (.tmp 11) 0, false, [], false⟩,
  ⟨some 13, 9, none, .load 9 (.tmp 12), false, [], false⟩,
  ⟨some 14, 0, none, .fieldAddr 90 (.tmp 1) 1, false, [], false⟩,
  ⟨some 15, 0, none, .fieldAddr 72 (.tmp 14) 1, false, [], false⟩,
  ⟨some 16, 9, none, .load 9 (.tmp 15), false, [], false⟩,
  ⟨some 17, 0, none, .fieldAddr 90 (.tmp 1) 2, false, [], false⟩,
  ⟨some 18, 0, none, .fieldAddr 72 (.tmp 17) 0, false, [], false⟩,
  ⟨some 19, 9, none, .load 9 (.tmp 18), false, [], false⟩,
  ⟨some 20, 0, none, .fieldAddr 90 (.tmp 1) 2, false, [], false⟩,
  ⟨some 21, 0, none, .fieldAddr 72 (.tmp 20) 1, false, [], false⟩,
  ⟨some 22, 9, none, .load 9 (.tmp 21), false, [], false⟩,
  ⟨some 23, 113, none, .buildSlice 113 6 #[(0, .tmp 7), (1, .tmp 10), (2, .tmp 13), (3, .tmp 16), (4, .tmp 19), (5, .tmp 22)], true, [], false⟩,
  ⟨some 3, 113, none, .assign (.tmp 23), false, [], false⟩])
 (.seq (.seq (.ops [⟨some 4, 3, none, .assign (.const (.int .i64 0)), false, [], false⟩])
 (.block 0 (.loop (.seq (.seq (.ops [⟨some 24, 3, none, .move (.tmp 4), false, [], false⟩,
  ⟨some 25, 113, none, .move (.tmp 3), false, [], false⟩,
  ⟨some 26, 3, none, .call ⟨.builtin .len, #[.tmp 25], #[113]⟩, false, [], false⟩,
  ⟨some 27, 4, none, .binOp .lss 3 (.tmp 24) (.tmp 26) 3, false, [], false⟩])
 (.cond (.tmp 27)
 .skip
 (.exit 0)))
 (.seq (.block 1 (.seq (.ops [⟨some 30, 113, none, .move (.tmp 3), false, [], false⟩,
  ⟨some 31, 3, none, .move (.tmp 4), false, [], false⟩,
  ⟨some 32, 0, none, .indexAddr 113 (.tmp 30) (.tmp 31), false, [], false⟩,
  ⟨some 33, 9, none, .load 9 (.tmp 32), false, [], false⟩,
  ⟨some 34, 3, none, .call ⟨.builtin .len, #[.tmp 33], #[9]⟩, false, [], false⟩,
  ⟨some 35, 4, none, .binOp .gtr 3 (.tmp 34) (.const (.int .i64 40)) 3, false, [], false⟩])
 (.cond (.tmp 35)
 (.seq (.ops [⟨some 2, 4, none, .assign (.const (.bool true)), false, [], false⟩])
 .ret)
 .skip)))
 (.ops [⟨some 28, 3, none, .move (.tmp 4), false, [], false⟩,
  ⟨some 29, 3, none, .binOp .add 3 (.tmp 28) (.const (.int .i64 1)) 3, false, [], false⟩,
  ⟨some 4, 3, none, .assign (.tmp 29), false, [], false⟩]))))))
 (.seq (.ops [⟨some 2, 4, none, .assign (.const (.bool false)), false, [], false⟩])
 .ret)))
theorem k75 : FnOk Tryz.prog 75 36 [.tmp 2] S75 := ⟨[166, 181, 201], _, Tryz.func75, by kernel_rfl, by kernel_rfl, rfl, rfl⟩
/- venturi/venturilaw01.ended -/
def S83 : SC := .seq (.ops [⟨some 4, 0, none, .box 63 (.tmp 0), false, [], false⟩,
  ⟨some 5, 0, none, .box 63 (.tmp 1), false, [], false⟩,
  ⟨some 6, 0, none, .box 63 (.tmp 2), false, [], false⟩,
  ⟨some 8, 4, none, .assign (.const (.bool false)), false, [], false⟩])
 (.seq (.ops [⟨some 9, 4, none, .assign (.const (.bool false)), false, [], false⟩,
  ⟨some 10, 4, none, .assign (.const (.bool false)), false, [], false⟩])
 (.seq (.seq (.ops [⟨some 11, 3, none, .assign (.const (.int .i64 0)), false, [], false⟩])
 (.block 0 (.loop (.seq (.seq (.ops [⟨some 15, 3, none, .move (.tmp 11), false, [], false⟩,
  ⟨some 16, 4, none, .binOp .lss 3 (.tmp 15) (.const (.int .i64 4)) 3, false, [], false⟩])
 (.cond (.tmp 16)
 .skip
 (.exit 0)))
 (.seq (.block 1 (.seq (.ops [⟨some 19, 63, none, .load 63 (.tmp 5), false, [], false⟩,
  ⟨some 21, 63, none, .load 63 (.tmp 6), false, [], false⟩,
  ⟨some 12, 0, none, .alloc 26, false, [], false⟩,
  ⟨some 13, 0, none, .alloc 26, false, [], false⟩,
  ⟨some 20, 26, none, .call ⟨.value (.func 72), #[.tmp 19], #[63]⟩, true, [], true⟩,
  ⟨some 22, 26, none, .call ⟨.value (.func 72), #[.tmp 21], #[63]⟩, true, [], false⟩,
  ⟨none, 0, none, .store 26 (.tmp 12) (.tmp 20), true, [], false⟩,
  ⟨none, 0, none, .store 26 (.tmp 13) (.tmp 22), true, [], false⟩])
 (.seq (.seq (.ops [⟨some 23, 3, none, .move (.tmp 11), false, [], false⟩,
  ⟨some 24, 3, none, .binOp .rem 3 (.tmp 23) (.const (.int .i64 2)) 3, false, [], false⟩,
  ⟨some 25, 4, none, .binOp .eql 3 (.tmp 24) (.const (.int .i64 1)) 3, false, [], false⟩])
 (.cond (.tmp 25)
 (.ops [⟨some 26, 63, none, .load 63 (.tmp 5), false, [], false⟩,
  ⟨some 27, 26, none, .call ⟨.value (.func 73), #[.tmp 26], #[63]⟩, true, [], false⟩,
  ⟨none, 0, none, .store 26 (.tmp 12) (.tmp 27), true, [], false⟩])
 .skip))
 (.seq (.seq (.ops [⟨some 28, 3, none, .move (.tmp 11), false, [], false⟩,
  ⟨some 29, 4, none, .binOp .geq 3 (.tmp 28) (.const (.int .i64 2)) 3, false, [], false⟩])
 (.cond (.tmp 29)
 (.ops [⟨some 30, 63, none, .load 63 (.tmp 6), false, [], false⟩,
  ⟨some 31, 26, none, .call ⟨.value (.func 73), #[.tmp 30], #[63]⟩, true, [], false⟩,
  ⟨none, 0, none, .store 26 (.tmp 13) (.tmp 31), true, [], false⟩])
 .skip))
 (.seq (.ops [⟨some 32, 97, none, .move (.tmp 3), false, [], false⟩,
  ⟨some 33, 26, none, .load 26 (.tmp 12), false, [], false⟩,
  ⟨some 34, 26, none, .load 26 (.tmp 13), false, [], false⟩,
  ⟨some 35, 26, none, .call ⟨.value (.tmp 32), #[.tmp 33, .tmp 34], #[26, 26]⟩, true, [], false⟩,
  ⟨some 14, 0, none, .alloc 26, false, [], false⟩,
  ⟨none, 0, none, .store 26 (.tmp 14) (.tmp 35), true, [], false⟩])
 (.ops [⟨some 36, 4, none, .move (.tmp 9), false, [], false⟩,
  ⟨some 37, 4, none, .move (.tmp 36), false, [], false⟩,
  ⟨some 38, 26, some (37, false), .load 26 (.tmp 14), false, [], false⟩,
  ⟨some 39, 63, some (37, false), .load 63 (.tmp 4), false, [], false⟩,
  ⟨some 43, 4, none, .move (.tmp 10), false, [], false⟩,
  ⟨some 40, 26, some (37, false), .call ⟨.value (.func 72), #[.tmp 39], #[63]⟩, true, [], true⟩,
  ⟨some 41, 4, some (37, false), .call ⟨.value (.func 26), #[.tmp 38, .tmp 40], #[26, 26]⟩, true, [], false⟩,
  ⟨some 42, 4, none, .pick (.tmp 37) (.const (.bool true)) (.tmp 41), false, [], false⟩,
  ⟨some 44, 4, none, .move (.tmp 43), false, [], false⟩,
  ⟨some 45, 26, some (44, false), .load 26 (.tmp 14), false, [], false⟩,
  ⟨some 46, 63, some (44, false), .load 63 (.tmp 4), false, [], false⟩,
  ⟨some 47, 26, some (44, false), .call ⟨.value (.func 73), #[.tmp 46], #[63]⟩, true, [], true⟩,
  ⟨some 48, 4, some (44, false), .call ⟨.value (.func 26), #[.tmp 45, .tmp 47], #[26, 26]⟩, true, [], false⟩,
  ⟨some 49, 4, none, .pick (.tmp 44) (.const (.bool true)) (.tmp 48), false, [], false⟩,
  ⟨some 9, 4, none, .assign (.tmp 42), true, [], false⟩,
  ⟨some 10, 4, none, .assign (.tmp 49), true, [], false⟩]))))))
 (.ops [⟨some 17, 3, none, .move (.tmp 11), false, [], false⟩,
  ⟨some 18, 3, none, .binOp .add 3 (.tmp 17) (.const (.int .i64 1)) 3, false, [], false⟩,
  ⟨some 11, 3, none, .assign (.tmp 18), false, [], false⟩]))))))
 (.seq (.ops [⟨some 50, 4, none, .move (.tmp 9), false, [], false⟩,
  ⟨some 51, 4, none, .move (.tmp 50), false, [], false⟩,
  ⟨some 52, 4, some (51, true), .move (.tmp 10), false, [], false⟩,
  ⟨some 53, 4, none, .pick (.tmp 51) (.tmp 52) (.const (.bool false)), false, [], false⟩,
  ⟨some 8, 4, none, .assign (.tmp 53), false, [], false⟩])
 .ret)))
theorem k83 : FnOk Tryz.prog 83 54 [.tmp 8] S83 := ⟨[166, 181, 201], _, Tryz.func83, by kernel_rfl, by kernel_rfl, rfl, rfl⟩
/- venturi/venturilaw01.ExactHolds$1 -/
def S84 : SC := .seq (.ops [⟨some 2, 0, none, .box 26 (.tmp 0), false, [], false⟩,
  ⟨some 3, 0, none, .box 26 (.tmp 1), false, [], false⟩,
  ⟨some 4, 0, none, .alloc 26, false, [], false⟩])
 (.seq (.ops [⟨some 8, 26, none, .load 26 (.tmp 2), false, [], false⟩,
  ⟨some 9, 26, none, .load 26 (.tmp 3), false, [], false⟩,
  ⟨some 10, 28, none, .call ⟨.value (.func 38), #[.tmp 8, .tmp 9], #[26, 26]⟩, true, [], false⟩,
  ⟨some 7, 28, none, .move (.tmp 10), false, [], false⟩,
  ⟨some 11, 26, none, .extract (.tmp 7) 0, false, [], false⟩,
  ⟨some 12, 27, none, .extract (.tmp 7) 1, false, [], false⟩,
  ⟨some 5, 0, none, .alloc 26, false, [], false⟩,
  ⟨none, 0, none, .store 26 (.tmp 5) (.tmp 11), true, [], false⟩,
  ⟨some 6, 27, none, .assign (.tmp 12), false, [], false⟩])
 (.seq (.ops [⟨some 13, 26, none, .load 26 (.tmp 5), false, [], false⟩,
  ⟨none, 0, none, .store 26 (.tmp 4) (.tmp 13), true, [], false⟩])
 .ret))
theorem k84 : FnOk Tryz.prog 84 14 [.cell 4 26] S84 := ⟨[166, 181, 201], _, Tryz.func84, by kernel_rfl, by kernel_rfl, rfl, rfl⟩
/- venturi/venturilaw01.ratio -/
def S108 : SC := .seq (.ops [⟨some 4, 0, none, .alloc 26, false, [], false⟩])
 (.seq (.ops [⟨some 8, 2, none, .move (.tmp 0), false, [], false⟩,
  ⟨some 9, 2, none, .move (.tmp 1), false, [], false⟩,
  ⟨some 10, 28, none, .call ⟨.value (.func 87), #[.tmp 8, .tmp 9], #[2, 2]⟩, true, [], false⟩,
  ⟨some 7, 28, none, .move (.tmp 10), false, [], false⟩,
  ⟨some 11, 26, none, .extract (.tmp 7) 0, false, [], false⟩,
  ⟨some 12, 27, none, .extract (.tmp 7) 1, false, [], false⟩,
  ⟨some 5, 0, none, .alloc 26, false, [], false⟩,
  ⟨none, 0, none, .store 26 (.tmp 5) (.tmp 11), true, [], false⟩,
  ⟨some 6, 27, none, .assign (.tmp 12), false, [], false⟩])
 (.seq (.ops [⟨some 13, 26, none, .load 26 (.tmp 5), false, [], false⟩,
  ⟨none, 0, none, .store 26 (.tmp 4) (.tmp 13), true, [], false⟩])
 .ret))
theorem k108 : FnOk Tryz.prog 108 14 [.cell 4 26] S108 := ⟨[166, 181, 201], _, Tryz.func108, by kernel_rfl, by kernel_rfl, rfl, rfl⟩
end Go.Proofs.YtplaobhghfndgaaGreatDoor
