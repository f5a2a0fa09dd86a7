import Derived.Test.YtplaobhghfndgaaGreatDoorTab
/-! The code of functions, as the walk wants it (printed by gen.py). -/
set_option maxRecDepth 100000
namespace Go.Proofs.YtplaobhghfndgaaGreatDoor
open Go Go.Proofs.Vc
/- venturi/venturiref01.Minus -/
def S127 : SC := .seq (.ops [⟨some 4, 31, none, .assign (.const (.slice none 0 0)), false, [], false⟩])
 (.seq (.ops [⟨some 8, 31, none, .buildSlice 31 0 #[], true, [], false⟩,
  ⟨some 5, 31, none, .assign (.tmp 8), false, [], false⟩])
 (.seq (.ops [⟨some 6, 3, none, .assign (.const (.int .i64 0)), false, [], false⟩])
 (.seq (.seq (.ops [⟨some 7, 3, none, .assign (.const (.int .i64 0)), false, [], false⟩])
 (.block 0 (.loop (.seq (.seq (.ops [⟨some 9, 3, none, .move (.tmp 7), false, [], false⟩,
  ⟨some 10, 31, none, .move (.tmp 0), false, [], false⟩,
  ⟨some 11, 3, none, .call ⟨.builtin .len, #[.tmp 10], #[31]⟩, false, [], false⟩,
  ⟨some 12, 4, none, .binOp .lss 3 (.tmp 9) (.tmp 11) 3, false, [], false⟩])
 (.cond (.tmp 12)
 .skip
 (.exit 0)))
 (.seq (.block 1 (.seq (.ops [⟨some 15, 3, none, .move (.tmp 6), false, [], false⟩,
  ⟨some 16, 31, none, .move (.tmp 0), false, [], false⟩,
  ⟨some 17, 3, none, .move (.tmp 7), false, [], false⟩,
  ⟨some 18, 0, none, .indexAddr 31 (.tmp 16) (.tmp 17), false, [], false⟩,
  ⟨some 19, 3, none, .load 3 (.tmp 18), false, [], false⟩,
  ⟨some 20, 31, none, .move (.tmp 1), false, [], false⟩,
  ⟨some 21, 3, none, .move (.tmp 7), false, [], false⟩,
  ⟨some 22, 3, none, .call ⟨.value (.func 155), #[.tmp 20, .tmp 21], #[31, 3]⟩, true, [], true⟩,
  ⟨some 23, 3, none, .binOp .sub 3 (.tmp 19) (.tmp 22) 3, false, [], false⟩,
  ⟨some 24, 3, none, .binOp .add 3 (.tmp 15) (.tmp 23) 3, false, [], false⟩,
  ⟨some 6, 3, none, .assign (.tmp 24), true, [], false⟩])
 (.seq (.ops [⟨some 25, 31, none, .move (.tmp 5), false, [], false⟩,
  ⟨some 26, 3, none, .move (.tmp 6), false, [], false⟩,
  ⟨some 27, 3, none, .binOp .and 3 (.tmp 26) (.const (.int .i64 65535)) 3, false, [], false⟩,
  ⟨some 28, 31, none, .buildSlice 31 1 #[(0, .tmp 27)], true, [], false⟩,
  ⟨some 29, 31, none, .call ⟨.builtin .append, #[.tmp 25, .tmp 28], #[31, 31]⟩, true, [], false⟩,
  ⟨some 5, 31, none, .assign (.tmp 29), false, [], false⟩])
 (.ops [⟨some 30, 3, none, .move (.tmp 6), false, [], false⟩,
  ⟨some 31, 3, none, .binOp .shr 3 (.tmp 30) (.const (.int .u64 16)) 146, false, [], false⟩,
  ⟨some 6, 3, none, .assign (.tmp 31), false, [], false⟩]))))
 (.ops [⟨some 13, 3, none, .move (.tmp 7), false, [], false⟩,
  ⟨some 14, 3, none, .binOp .add 3 (.tmp 13) (.const (.int .i64 1)) 3, false, [], false⟩,
  ⟨some 7, 3, none, .assign (.tmp 14), false, [], false⟩]))))))
 (.seq (.ops [⟨some 32, 31, none, .move (.tmp 5), false, [], false⟩,
  ⟨some 33, 31, none, .call ⟨.value (.func 156), #[.tmp 32], #[31]⟩, true, [], false⟩,
  ⟨some 4, 31, none, .assign (.tmp 33), false, [], false⟩])
 .ret))))
theorem k127 : FnOk Tryz.prog 127 34 [.tmp 4] S127 := ⟨[166, 181, 201], _, Tryz.func127, by kernel_rfl, by kernel_rfl, rfl, rfl⟩
/- venturi/venturiref01.Quotient -/
def S130 : SC := .seq (.ops [⟨some 4, 31, none, .assign (.const (.slice none 0 0)), false, [], false⟩,
  ⟨some 5, 31, none, .assign (.const (.slice none 0 0)), false, [], false⟩])
 (.seq (.ops [⟨some 9, 31, none, .buildSlice 31 0 #[], true, [], false⟩,
  ⟨some 10, 31, none, .buildSlice 31 0 #[], true, [], false⟩,
  ⟨some 6, 31, none, .assign (.tmp 9), false, [], false⟩,
  ⟨some 7, 31, none, .assign (.tmp 10), false, [], false⟩])
 (.seq (.seq (.ops [⟨some 11, 31, none, .move (.tmp 0), false, [], false⟩,
  ⟨some 12, 3, none, .call ⟨.builtin .len, #[.tmp 11], #[31]⟩, false, [], false⟩,
  ⟨some 13, 3, none, .binOp .mul 3 (.const (.int .i64 16)) (.tmp 12) 3, false, [], false⟩,
  ⟨some 14, 3, none, .binOp .sub 3 (.tmp 13) (.const (.int .i64 1)) 3, false, [], false⟩,
  ⟨some 8, 3, none, .assign (.tmp 14), false, [], false⟩])
 (.block 0 (.loop (.seq (.seq (.ops [⟨some 15, 3, none, .move (.tmp 8), false, [], false⟩,
  ⟨some 16, 4, none, .binOp .geq 3 (.tmp 15) (.const (.int .i64 0)) 3, false, [], false⟩])
 (.cond (.tmp 16)
 .skip
 (.exit 0)))
 (.seq (.block 1 (.seq (.ops [⟨some 19, 31, none, .move (.tmp 7), false, [], false⟩,
  ⟨some 20, 31, none, .move (.tmp 0), false, [], false⟩,
  ⟨some 21, 3, none, .move (.tmp 8), false, [], false⟩,
  ⟨some 22, 3, none, .call ⟨.value (.func 170), #[.tmp 20, .tmp 21], #[31, 3]⟩, true, [], false⟩,
  ⟨some 23, 31, none, .call ⟨.value (.func 169), #[.tmp 19, .tmp 22], #[31, 3]⟩, true, [], false⟩,
  ⟨some 7, 31, none, .assign (.tmp 23), false, [], false⟩])
 (.seq (.ops [⟨some 24, 31, none, .move (.tmp 7), false, [], false⟩,
  ⟨some 25, 31, none, .move (.tmp 1), false, [], false⟩,
  ⟨some 26, 3, none, .call ⟨.value (.func 126), #[.tmp 24, .tmp 25], #[31, 31]⟩, true, [], false⟩,
  ⟨some 27, 4, none, .binOp .geq 3 (.tmp 26) (.const (.int .i64 0)) 3, false, [], false⟩])
 (.cond (.tmp 27)
 (.seq (.ops [⟨some 28, 31, none, .move (.tmp 7), false, [], false⟩,
  ⟨some 29, 31, none, .move (.tmp 1), false, [], false⟩,
  ⟨some 30, 31, none, .call ⟨.value (.func 127), #[.tmp 28, .tmp 29], #[31, 31]⟩, true, [], false⟩,
  ⟨some 7, 31, none, .assign (.tmp 30), false, [], false⟩])
 (.ops [⟨some 31, 31, none, .move (.tmp 6), false, [], false⟩,
  ⟨some 32, 31, none, .call ⟨.value (.func 169), #[.tmp 31, .const (.int .i64 1)], #[31, 3]⟩, true, [], false⟩,
  ⟨some 6, 31, none, .assign (.tmp 32), false, [], false⟩]))
 (.ops [⟨some 33, 31, none, .move (.tmp 6), false, [], false⟩,
  ⟨some 34, 31, none, .call ⟨.value (.func 169), #[.tmp 33, .const (.int .i64 0)], #[31, 3]⟩, true, [], false⟩,
  ⟨some 6, 31, none, .assign (.tmp 34), false, [], false⟩])))))
 (.ops [⟨some 17, 3, none, .move (.tmp 8), false, [], false⟩,
  ⟨some 18, 3, none, .binOp .sub 3 (.tmp 17) (.const (.int .i64 1)) 3, false, [], false⟩,
  ⟨some 8, 3, none, .assign (.tmp 18), false, [], false⟩]))))))
 (.seq (.ops [⟨some 35, 31, none, .move (.tmp 6), false, [], false⟩,
  ⟨some 36, 31, none, .move (.tmp 7), false, [], false⟩,
  ⟨some 4, 31, none, .assign (.tmp 35), false, [], false⟩,
  ⟨some 5, 31, none, .assign (.tmp 36), false, [], false⟩])
 .ret)))
theorem k130 : FnOk Tryz.prog 130 37 [.tmp 4, .tmp 5] S130 := ⟨[166, 181, 201], _, Tryz.func130, by kernel_rfl, by kernel_rfl, rfl, rfl⟩
/- venturi/venturiref01.Of -/
def S134 : SC := .seq (.ops [⟨some 2, 31, none, .assign (.const (.slice none 0 0)), false, [], false⟩])
 (.seq (.ops [⟨some 4, 31, none, .buildSlice 31 0 #[], true, [], false⟩,
  ⟨some 3, 31, none, .assign (.tmp 4), false, [], false⟩])
 (.seq (.block 0 (.loop (.seq (.seq (.ops [⟨some 5, 140, none, .move (.tmp 0), false, [], false⟩,
  ⟨some 6, 4, none, .binOp .gtr 140 (.tmp 5) (.const (.int .u64 0)) 140, false, [], false⟩])
 (.cond (.tmp 6)
 .skip
 (.exit 0)))
 (.seq (.block 1 (.ops [⟨some 9, 31, none, .move (.tmp 3), false, [], false⟩,
  ⟨some 10, 140, none, .move (.tmp 0), false, [], false⟩,
  ⟨some 11, 140, none, .binOp .and 140 (.tmp 10) (.const (.int .u64 65535)) 140, false, [], false⟩,
  ⟨some 12, 3, none, .convert 140 3 (.tmp 11), false, [], false⟩,
  ⟨some 13, 31, none, .buildSlice 31 1 #[(0, .tmp 12)], true, [], false⟩,
  ⟨some 14, 31, none, .call ⟨.builtin .append, #[.tmp 9, .tmp 13], #[31, 31]⟩, true, [], false⟩,
  ⟨some 3, 31, none, .assign (.tmp 14), false, [], false⟩]))
 (.ops [⟨some 7, 140, none, .move (.tmp 0), false, [], false⟩,
  ⟨some 8, 140, none, .binOp .shr 140 (.tmp 7) (.const (.int .u64 16)) 146, false, [], false⟩,
  ⟨some 0, 140, none, .assign (.tmp 8), false, [], false⟩])))))
 (.seq (.ops [⟨some 15, 31, none, .move (.tmp 3), false, [], false⟩,
  ⟨some 2, 31, none, .assign (.tmp 15), false, [], false⟩])
 .ret)))
theorem k134 : FnOk Tryz.prog 134 16 [.tmp 2] S134 := ⟨[166, 181, 201], _, Tryz.func134, by kernel_rfl, by kernel_rfl, rfl, rfl⟩
/- venturi/venturiref01.Ceil -/
def S137 : SC := .seq (.ops [⟨some 1, 0, none, .box 33 (.tmp 0), false, [], false⟩,
  ⟨some 2, 0, none, .alloc 33, false, [], false⟩])
 (.seq (.ops [⟨some 3, 33, none, .load 33 (.tmp 1), false, [], false⟩,
  ⟨some 4, 33, none, .call ⟨.value (.func 42), #[.tmp 3], #[33]⟩, true, [], false⟩,
  ⟨some 5, 33, none, .call ⟨.value (.func 46), #[.tmp 4], #[33]⟩, true, [], false⟩,
  ⟨some 6, 33, none, .call ⟨.value (.func 42), #[.tmp 5], #[33]⟩, true, [], false⟩,
  ⟨none, 0, none, .store 33 (.tmp 2) (.tmp 6), true, [], false⟩])
 .ret)
theorem k137 : FnOk Tryz.prog 137 7 [.cell 2 33] S137 := ⟨[166, 181, 201], _, Tryz.func137, by kernel_rfl, by kernel_rfl, rfl, rfl⟩
/- venturi/venturiref01.below -/
def S138 : SC := .seq (.ops [⟨some 2, 0, none, .box 33 (.tmp 0), false, [], false⟩,
  ⟨some 3, 0, none, .box 33 (.tmp 1), false, [], false⟩,
  ⟨some 4, 0, none, .alloc 33, false, [], false⟩])
 (.seq (.ops [⟨some 8, 31, none, .buildSlice 31 0 #[], true, [], false⟩,
  ⟨some 5, 31, none, .assign (.tmp 8), false, [], false⟩])
 (.seq (.ops [⟨some 9, 31, none, .buildSlice 31 1 #[(0, .const (.int .i64 1))], true, [], false⟩,
  ⟨some 6, 31, none, .assign (.tmp 9), false, [], false⟩])
 (.seq (.block 0 (.loop (.seq (.seq (.ops [⟨some 10, 31, none, .move (.tmp 6), false, [], false⟩,
  ⟨some 11, 33, none, .load 33 (.tmp 2), false, [], false⟩,
  ⟨some 12, 33, none, .load 33 (.tmp 3), false, [], false⟩,
  ⟨some 13, 4, none, .call ⟨.value (.func 171), #[.tmp 10, .tmp 11, .tmp 12], #[31, 33, 33]⟩, true, [], false⟩])
 (.cond (.tmp 13)
 .skip
 (.exit 0)))
 (.block 1 (.ops [⟨some 14, 31, none, .move (.tmp 6), false, [], false⟩,
  ⟨some 15, 31, none, .call ⟨.value (.func 169), #[.tmp 14, .const (.int .i64 0)], #[31, 3]⟩, true, [], false⟩,
  ⟨some 6, 31, none, .assign (.tmp 15), false, [], false⟩])))))
 (.seq (.block 2 (.loop (.seq (.seq (.ops [⟨some 16, 31, none, .move (.tmp 6), false, [], false⟩,
  ⟨some 17, 3, none, .call ⟨.builtin .len, #[.tmp 16], #[31]⟩, false, [], false⟩,
  ⟨some 18, 4, none, .binOp .gtr 3 (.tmp 17) (.const (.int .i64 0)) 3, false, [], false⟩])
 (.cond (.tmp 18)
 .skip
 (.exit 2)))
 (.block 3 (.seq (.seq (.ops [⟨some 19, 31, none, .move (.tmp 5), false, [], false⟩,
  ⟨some 20, 31, none, .move (.tmp 6), false, [], false⟩,
  ⟨some 21, 31, none, .call ⟨.value (.func 118), #[.tmp 19, .tmp 20], #[31, 31]⟩, true, [], false⟩,
  ⟨some 7, 31, none, .assign (.tmp 21), false, [], false⟩])
 (.seq (.ops [⟨some 22, 31, none, .move (.tmp 7), false, [], false⟩,
  ⟨some 23, 33, none, .load 33 (.tmp 2), false, [], false⟩,
  ⟨some 24, 33, none, .load 33 (.tmp 3), false, [], false⟩,
  ⟨some 25, 4, none, .call ⟨.value (.func 171), #[.tmp 22, .tmp 23, .tmp 24], #[31, 33, 33]⟩, true, [], false⟩])
 (.cond (.tmp 25)
 (.ops [⟨some 26, 31, none, .move (.tmp 7), false, [], false⟩,
  ⟨some 5, 31, none, .assign (.tmp 26), false, [], false⟩])
 .skip)))
 (.ops [⟨some 27, 31, none, .move (.tmp 6), false, [], false⟩,
  ⟨some 28, 31, none, .call ⟨.value (.func 157), #[.tmp 27], #[31]⟩, true, [], false⟩,
  ⟨some 6, 31, none, .assign (.tmp 28), false, [], false⟩]))))))
 (.seq (.ops [⟨some 29, 31, none, .move (.tmp 5), false, [], false⟩,
  ⟨some 30, 31, none, .buildSlice 31 1 #[(0, .const (.int .i64 1))], true, [], false⟩,
  ⟨some 31, 33, none, .build 33 #[(0, .const (.bool false)), (1, .tmp 29), (2, .tmp 30)], false, [], false⟩,
  ⟨some 32, 33, none, .load 33 (.tmp 3), false, [], false⟩,
  ⟨some 33, 33, none, .call ⟨.value (.func 33), #[.tmp 31, .tmp 32], #[33, 33]⟩, true, [], false⟩,
  ⟨none, 0, none, .store 33 (.tmp 4) (.tmp 33), true, [], false⟩])
 .ret)))))
theorem k138 : FnOk Tryz.prog 138 34 [.cell 4 33] S138 := ⟨[166, 181, 201], _, Tryz.func138, by kernel_rfl, by kernel_rfl, rfl, rfl⟩
/- venturi/venturiref01.Ends -/
def S145 : SC := .seq (.ops [⟨some 2, 0, none, .alloc 68, false, [], false⟩])
 (.seq (.ops [⟨some 5, 114, none, .move (.tmp 0), false, [], false⟩,
  ⟨some 6, 0, none, .indexAddr 114 (.tmp 5) (.const (.int .i64 0)), false, [], false⟩,
  ⟨some 7, 33, none, .load 33 (.tmp 6), false, [], false⟩,
  ⟨some 8, 68, none, .call ⟨.value (.func 59), #[.tmp 7], #[33]⟩, true, [], false⟩,
  ⟨some 3, 0, none, .alloc 68, false, [], false⟩,
  ⟨none, 0, none, .store 68 (.tmp 3) (.tmp 8), true, [], false⟩])
 (.seq (.seq (.ops [⟨some 4, 3, none, .assign (.const (.int .i64 1)), false, [], false⟩])
 (.block 0 (.loop (.seq (.seq (.ops [⟨some 9, 3, none, .move (.tmp 4), false, [], false⟩,
  ⟨some 10, 114, none, .move (.tmp 0), false, [], false⟩,
  ⟨some 11, 3, none, .call ⟨.builtin .len, #[.tmp 10], #[114]⟩, false, [], false⟩,
  ⟨some 12, 4, none, .binOp .lss 3 (.tmp 9) (.tmp 11) 3, false, [], false⟩])
 (.cond (.tmp 12)
 .skip
 (.exit 0)))
 (.seq (.block 1 (.ops [⟨some 15, 0, none, .fieldAddr 68 (.tmp 3) 0, false, [], false⟩,
  ⟨some 16, 33, none, .load 33 (.tmp 15), false, [], false⟩,
  ⟨some 17, 114, none, .move (.tmp 0), false, [], false⟩,
  ⟨some 18, 3, none, .move (.tmp 4), false, [], false⟩,
  ⟨some 19, 0, none, .indexAddr 114 (.tmp 17) (.tmp 18), false, [], false⟩,
  ⟨some 20, 33, none, .load 33 (.tmp 19), false, [], false⟩,
  ⟨some 22, 0, none, .fieldAddr 68 (.tmp 3) 1, false, [], false⟩,
  ⟨some 23, 33, none, .load 33 (.tmp 22), false, [], false⟩,
  ⟨some 24, 114, none, .move (.tmp 0), false, [], false⟩,
  ⟨some 25, 3, none, .move (.tmp 4), false, [], false⟩,
  ⟨some 26, 0, none, .indexAddr 114 (.tmp 24) (.tmp 25), false, [], false⟩,
  ⟨some 27, 33, none, .load 33 (.tmp 26), false, [], false⟩,
  ⟨some 21, 33, none, .call ⟨.value (.func 146), #[.tmp 16, .tmp 20], #[33, 33]⟩, true, [], true⟩,
  ⟨some 28, 33, none, .call ⟨.value (.func 147), #[.tmp 23, .tmp 27], #[33, 33]⟩, true, [], false⟩,
  ⟨some 29, 68, none, .build 68 #[(0, .tmp 21), (1, .tmp 28)], false, [], false⟩,
  ⟨none, 0, none, .store 68 (.tmp 3) (.tmp 29), true, [], false⟩]))
 (.ops [⟨some 13, 3, none, .move (.tmp 4), false, [], false⟩,
  ⟨some 14, 3, none, .binOp .add 3 (.tmp 13) (.const (.int .i64 1)) 3, false, [], false⟩,
  ⟨some 4, 3, none, .assign (.tmp 14), false, [], false⟩]))))))
 (.seq (.ops [⟨some 30, 68, none, .load 68 (.tmp 3), false, [], false⟩,
  ⟨none, 0, none, .store 68 (.tmp 2) (.tmp 30), true, [], false⟩])
 .ret)))
theorem k145 : FnOk Tryz.prog 145 31 [.cell 2 68] S145 := ⟨[166, 181, 201], _, Tryz.func145, by kernel_rfl, by kernel_rfl, rfl, rfl⟩
/- venturi/venturiref01.Min -/
def S146 : SC := .seq (.ops [⟨some 2, 0, none, .box 33 (.tmp 0), false, [], false⟩,
  ⟨some 3, 0, none, .box 33 (.tmp 1), false, [], false⟩,
  ⟨some 4, 0, none, .alloc 33, false, [], false⟩])
 (.seq (.seq (.ops [⟨some 5, 33, none, .load 33 (.tmp 2), false, [], false⟩,
  ⟨some 6, 33, none, .load 33 (.tmp 3), false, [], false⟩,
  ⟨some 7, 3, none, .call ⟨.value (.func 35), #[.tmp 5, .tmp 6], #[33, 33]⟩, true, [], false⟩,
  ⟨some 8, 4, none, .binOp .leq 3 (.tmp 7) (.const (.int .i64 0)) 3, false, [], false⟩])
 (.cond (.tmp 8)
 (.seq (.ops [⟨some 9, 33, none, .load 33 (.tmp 2), false, [], false⟩,
  ⟨none, 0, none, .store 33 (.tmp 4) (.tmp 9), true, [], false⟩])
 .ret)
 .skip))
 (.seq (.ops [⟨some 10, 33, none, .load 33 (.tmp 3), false, [], false⟩,
  ⟨none, 0, none, .store 33 (.tmp 4) (.tmp 10), true, [], false⟩])
 .ret))
theorem k146 : FnOk Tryz.prog 146 11 [.cell 4 33] S146 := ⟨[166, 181, 201], _, Tryz.func146, by kernel_rfl, by kernel_rfl, rfl, rfl⟩
/- venturi/venturiref01.Max -/
def S147 : SC := .seq (.ops [⟨some 2, 0, none, .box 33 (.tmp 0), false, [], false⟩,
  ⟨some 3, 0, none, .box 33 (.tmp 1), false, [], false⟩,
  ⟨some 4, 0, none, .alloc 33, false, [], false⟩])
 (.seq (.seq (.ops [⟨some 5, 33, none, .load 33 (.tmp 2), false, [], false⟩,
  ⟨some 6, 33, none, .load 33 (.tmp 3), false, [], false⟩,
  ⟨some 7, 3, none, .call ⟨.value (.func 35), #[.tmp 5, .tmp 6], #[33, 33]⟩, true, [], false⟩,
  ⟨some 8, 4, none, .binOp .geq 3 (.tmp 7) (.const (.int .i64 0)) 3, false, [], false⟩])
 (.cond (.tmp 8)
 (.seq (.ops [⟨some 9, 33, none, .load 33 (.tmp 2), false, [], false⟩,
  ⟨none, 0, none, .store 33 (.tmp 4) (.tmp 9), true, [], false⟩])
 .ret)
 .skip))
 (.seq (.ops [⟨some 10, 33, none, .load 33 (.tmp 3), false, [], false⟩,
  ⟨none, 0, none, .store 33 (.tmp 4) (.tmp 10), true, [], false⟩])
 .ret))
theorem k147 : FnOk Tryz.prog 147 11 [.cell 4 33] S147 := ⟨[166, 181, 201], _, Tryz.func147, by kernel_rfl, by kernel_rfl, rfl, rfl⟩
/- venturi/venturiref01.Common -/
def S154 : SC := .seq (.ops [⟨some 4, 31, none, .assign (.const (.slice none 0 0)), false, [], false⟩])
 (.seq (.seq (.ops [⟨some 7, 31, none, .move (.tmp 0), false, [], false⟩,
  ⟨some 8, 3, none, .call ⟨.builtin .len, #[.tmp 7], #[31]⟩, false, [], false⟩,
  ⟨some 9, 4, none, .binOp .eql 3 (.tmp 8) (.const (.int .i64 0)) 3, false, [], false⟩])
 (.cond (.tmp 9)
 (.seq (.ops [⟨some 10, 31, none, .move (.tmp 1), false, [], false⟩,
  ⟨some 4, 31, none, .assign (.tmp 10), false, [], false⟩])
 .ret)
 .skip))
 (.seq (.seq (.ops [⟨some 11, 31, none, .move (.tmp 1), false, [], false⟩,
  ⟨some 12, 3, none, .call ⟨.builtin .len, #[.tmp 11], #[31]⟩, false, [], false⟩,
  ⟨some 13, 4, none, .binOp .eql 3 (.tmp 12) (.const (.int .i64 0)) 3, false, [], false⟩])
 (.cond (.tmp 13)
 (.seq (.ops [⟨some 14, 31, none, .move (.tmp 0), false, [], false⟩,
  ⟨some 4, 31, none, .assign (.tmp 14), false, [], false⟩])
 .ret)
 .skip))
 (.seq (.ops [⟨some 5, 3, none, .assign (.const (.int .i64 0)), false, [], false⟩])
 (.seq (.block 0 (.loop (.seq (.seq (.ops [⟨some 15, 31, none, .move (.tmp 0), false, [], false⟩,
  ⟨some 16, 0, none, .indexAddr 31 (.tmp 15) (.const (.int .i64 0)), false, [], false⟩,
  ⟨some 17, 3, none, .load 3 (.tmp 16), false, [], false⟩,
  ⟨some 18, 3, none, .binOp .and 3 (.tmp 17) (.const (.int .i64 1)) 3, false, [], false⟩,
  ⟨some 19, 4, none, .binOp .eql 3 (.tmp 18) (.const (.int .i64 0)) 3, false, [], false⟩,
  ⟨some 20, 4, none, .move (.tmp 19), false, [], false⟩,
  ⟨some 21, 31, some (20, true), .move (.tmp 1), false, [], false⟩,
  ⟨some 22, 0, some (20, true), .indexAddr 31 (.tmp 21) (.const (.int .i64 0)), false, [], false⟩,
  ⟨some 23, 3, some (20, true), .load 3 (.tmp 22), false, [], false⟩,
  ⟨some 24, 3, some (20, true), .binOp .and 3 (.tmp 23) (.const (.int .i64 1)) 3, false, [], false⟩,
  ⟨some 25, 4, some (20, true), .binOp .eql 3 (.tmp 24) (.const (.int .i64 0)) 3, false, [], false⟩,
  ⟨some 26, 4, none, .pick (.tmp 20) (.tmp 25) (.const (.bool false)), false, [], false⟩])
 (.cond (.tmp 26)
 .skip
 (.exit 0)))
 (.block 1 (.ops [⟨some 27, 31, none, .move (.tmp 0), false, [], false⟩,
  ⟨some 28, 31, none, .call ⟨.value (.func 157), #[.tmp 27], #[31]⟩, true, [], false⟩,
  ⟨some 29, 31, none, .move (.tmp 1), false, [], false⟩,
  ⟨some 30, 31, none, .call ⟨.value (.func 157), #[.tmp 29], #[31]⟩, true, [], false⟩,
  ⟨some 31, 3, none, .move (.tmp 5), false, [], false⟩,
  ⟨some 32, 3, none, .binOp .add 3 (.tmp 31) (.const (.int .i64 1)) 3, false, [], false⟩,
  ⟨some 0, 31, none, .assign (.tmp 28), false, [], false⟩,
  ⟨some 1, 31, none, .assign (.tmp 30), false, [], false⟩,
  ⟨some 5, 3, none, .assign (.tmp 32), false, [], false⟩])))))
 (.seq (.block 2 (.loop (.seq (.seq (.ops [⟨some 33, 31, none, .move (.tmp 1), false, [], false⟩,
  ⟨some 34, 3, none, .call ⟨.builtin .len, #[.tmp 33], #[31]⟩, false, [], false⟩,
  ⟨some 35, 4, none, .binOp .gtr 3 (.tmp 34) (.const (.int .i64 0)) 3, false, [], false⟩])
 (.cond (.tmp 35)
 .skip
 (.exit 2)))
 (.block 3 (.seq (.block 4 (.loop (.seq (.seq (.ops [⟨some 36, 31, none, .move (.tmp 0), false, [], false⟩,
  ⟨some 37, 0, none, .indexAddr 31 (.tmp 36) (.const (.int .i64 0)), false, [], false⟩,
  ⟨some 38, 3, none, .load 3 (.tmp 37), false, [], false⟩,
  ⟨some 39, 3, none, .binOp .and 3 (.tmp 38) (.const (.int .i64 1)) 3, false, [], false⟩,
  ⟨some 40, 4, none, .binOp .eql 3 (.tmp 39) (.const (.int .i64 0)) 3, false, [], false⟩])
 (.cond (.tmp 40)
 .skip
 (.exit 4)))
 (.block 5 (.ops [⟨some 41, 31, none, .move (.tmp 0), false, [], false⟩,
  ⟨some 42, 31, none, .call ⟨.value (.func 157), #[.tmp 41], #[31]⟩, true, [], false⟩,
  ⟨some 0, 31, none, .assign (.tmp 42), false, [], false⟩])))))
 (.seq (.block 6 (.loop (.seq (.seq (.ops [⟨some 43, 31, none, .move (.tmp 1), false, [], false⟩,
  ⟨some 44, 0, none, .indexAddr 31 (.tmp 43) (.const (.int .i64 0)), false, [], false⟩,
  ⟨some 45, 3, none, .load 3 (.tmp 44), false, [], false⟩,
  ⟨some 46, 3, none, .binOp .and 3 (.tmp 45) (.const (.int .i64 1)) 3, false, [], false⟩,
  ⟨some 47, 4, none, .binOp .eql 3 (.tmp 46) (.const (.int .i64 0)) 3, false, [], false⟩])
 (.cond (.tmp 47)
 .skip
 (.exit 6)))
 (.block 7 (.ops [⟨some 48, 31, none, .move (.tmp 1), false, [], false⟩,
  ⟨some 49, 31, none, .call ⟨.value (.func 157), #[.tmp 48], #[31]⟩, true, [], false⟩,
  ⟨some 1, 31, none, .assign (.tmp 49), false, [], false⟩])))))
 (.seq (.seq (.ops [⟨some 50, 31, none, .move (.tmp 0), false, [], false⟩,
  ⟨some 51, 31, none, .move (.tmp 1), false, [], false⟩,
  ⟨some 52, 3, none, .call ⟨.value (.func 126), #[.tmp 50, .tmp 51], #[31, 31]⟩, true, [], false⟩,
  ⟨some 53, 4, none, .binOp .gtr 3 (.tmp 52) (.const (.int .i64 0)) 3, false, [], false⟩])
 (.cond (.tmp 53)
 (.ops [⟨some 54, 31, none, .move (.tmp 1), false, [], false⟩,
  ⟨some 55, 31, none, .move (.tmp 0), false, [], false⟩,
  ⟨some 0, 31, none, .assign (.tmp 54), false, [], false⟩,
  ⟨some 1, 31, none, .assign (.tmp 55), false, [], false⟩])
 .skip))
 (.ops [⟨some 56, 31, none, .move (.tmp 1), false, [], false⟩,
  ⟨some 57, 31, none, .move (.tmp 0), false, [], false⟩,
  ⟨some 58, 31, none, .call ⟨.value (.func 127), #[.tmp 56, .tmp 57], #[31, 31]⟩, true, [], false⟩,
  ⟨some 1, 31, none, .assign (.tmp 58), false, [], false⟩]))))))))
 (.seq (.seq (.ops [⟨some 6, 3, none, .assign (.const (.int .i64 0)), false, [], false⟩])
 (.block 8 (.loop (.seq (.seq (.ops [⟨some 59, 3, none, .move (.tmp 6), false, [], false⟩,
  ⟨some 60, 3, none, .move (.tmp 5), false, [], false⟩,
  ⟨some 61, 4, none, .binOp .lss 3 (.tmp 59) (.tmp 60) 3, false, [], false⟩])
 (.cond (.tmp 61)
 .skip
 (.exit 8)))
 (.seq (.block 9 (.ops [⟨some 64, 31, none, .move (.tmp 0), false, [], false⟩,
  ⟨some 65, 31, none, .call ⟨.value (.func 169), #[.tmp 64, .const (.int .i64 0)], #[31, 3]⟩, true, [], false⟩,
  ⟨some 0, 31, none, .assign (.tmp 65), false, [], false⟩]))
 (.ops [⟨some 62, 3, none, .move (.tmp 6), false, [], false⟩,
  ⟨some 63, 3, none, .binOp .add 3 (.tmp 62) (.const (.int .i64 1)) 3, false, [], false⟩,
  ⟨some 6, 3, none, .assign (.tmp 63), false, [], false⟩]))))))
 (.seq (.ops [⟨some 66, 31, none, .move (.tmp 0), false, [], false⟩,
  ⟨some 4, 31, none, .assign (.tmp 66), false, [], false⟩])
 .ret)))))))
theorem k154 : FnOk Tryz.prog 154 67 [.tmp 4] S154 := ⟨[166, 181, 201], _, Tryz.func154, by kernel_rfl, by kernel_rfl, rfl, rfl⟩
/- venturi/venturiref01.word -/
def S155 : SC := .seq (.ops [⟨some 4, 3, none, .assign (.const (.int .i64 0)), false, [], false⟩])
 (.seq (.seq (.ops [⟨some 5, 3, none, .move (.tmp 1), false, [], false⟩,
  ⟨some 6, 4, none, .binOp .lss 3 (.tmp 5) (.const (.int .i64 0)) 3, false, [], false⟩,
  ⟨some 7, 4, none, .move (.tmp 6), false, [], false⟩,
  ⟨some 8, 3, some (7, false), .move (.tmp 1), false, [], false⟩,
  ⟨some 9, 31, some (7, false), .move (.tmp 0), false, [], false⟩,
  ⟨some 10, 3, some (7, false), .call ⟨.builtin .len, #[.tmp 9], #[31]⟩, false, [], false⟩,
  ⟨some 11, 4, some (7, false), .binOp .geq 3 (.tmp 8) (.tmp 10) 3, false, [], false⟩,
  ⟨some 12, 4, none, .pick (.tmp 7) (.const (.bool true)) (.tmp 11), false, [], false⟩])
 (.cond (.tmp 12)
 (.seq (.ops [⟨some 4, 3, none, .assign (.const (.int .i64 0)), false, [], false⟩])
 .ret)
 .skip))
 (.seq (.ops [⟨some 13, 31, none, .move (.tmp 0), false, [], false⟩,
  ⟨some 14, 3, none, .move (.tmp 1), false, [], false⟩,
  ⟨some 15, 0, none, .indexAddr 31 (.tmp 13) (.tmp 14), false, [], false⟩,
  ⟨some 16, 3, none, .load 3 (.tmp 15), false, [], false⟩,
  ⟨some 4, 3, none, .assign (.tmp 16), false, [], false⟩])
 .ret))
theorem k155 : FnOk Tryz.prog 155 17 [.tmp 4] S155 := ⟨[166, 181, 201], _, Tryz.func155, by kernel_rfl, by kernel_rfl, rfl, rfl⟩
/- venturi/venturiref01.cut -/
def S156 : SC := .seq (.ops [⟨some 2, 31, none, .assign (.const (.slice none 0 0)), false, [], false⟩])
 (.seq (.ops [⟨some 4, 31, none, .move (.tmp 0), false, [], false⟩,
  ⟨some 5, 3, none, .call ⟨.builtin .len, #[.tmp 4], #[31]⟩, false, [], false⟩,
  ⟨some 3, 3, none, .assign (.tmp 5), false, [], false⟩])
 (.seq (.block 0 (.loop (.seq (.seq (.ops [⟨some 6, 3, none, .move (.tmp 3), false, [], false⟩,
  ⟨some 7, 4, none, .binOp .gtr 3 (.tmp 6) (.const (.int .i64 0)) 3, false, [], false⟩,
  ⟨some 8, 4, none, .move (.tmp 7), false, [], false⟩,
  ⟨some 9, 31, some (8, true), .move (.tmp 0), false, [], false⟩,
  ⟨some 10, 3, some (8, true), .move (.tmp 3), false, [], false⟩,
  ⟨some 11, 3, some (8, true), .binOp .sub 3 (.tmp 10) (.const (.int .i64 1)) 3, false, [], false⟩,
  ⟨some 12, 0, some (8, true), .indexAddr 31 (.tmp 9) (.tmp 11), false, [], false⟩,
  ⟨some 13, 3, some (8, true), .load 3 (.tmp 12), false, [], false⟩,
  ⟨some 14, 4, some (8, true), .binOp .eql 3 (.tmp 13) (.const (.int .i64 0)) 3, false, [], false⟩,
  ⟨some 15, 4, none, .pick (.tmp 8) (.tmp 14) (.const (.bool false)), false, [], false⟩])
 (.cond (.tmp 15)
 .skip
 (.exit 0)))
 (.block 1 (.ops [⟨some 16, 3, none, .move (.tmp 3), false, [], false⟩,
  ⟨some 17, 3, none, .binOp .sub 3 (.tmp 16) (.const (.int .i64 1)) 3, false, [], false⟩,
  ⟨some 3, 3, none, .assign (.tmp 17), false, [], false⟩])))))
 (.seq (.ops [⟨some 18, 31, none, .move (.tmp 0), false, [], false⟩,
  ⟨some 19, 3, none, .move (.tmp 3), false, [], false⟩,
  ⟨some 20, 31, none, .slice 31 (.tmp 18) none (some (.tmp 19)) none, false, [], false⟩,
  ⟨some 2, 31, none, .assign (.tmp 20), false, [], false⟩])
 .ret)))
theorem k156 : FnOk Tryz.prog 156 21 [.tmp 2] S156 := ⟨[166, 181, 201], _, Tryz.func156, by kernel_rfl, by kernel_rfl, rfl, rfl⟩
/- venturi/venturiref01.Half -/
def S157 : SC := .seq (.ops [⟨some 2, 31, none, .assign (.const (.slice none 0 0)), false, [], false⟩])
 (.seq (.ops [⟨some 5, 31, none, .buildSlice 31 0 #[], true, [], false⟩,
  ⟨some 3, 31, none, .assign (.tmp 5), false, [], false⟩])
 (.seq (.seq (.ops [⟨some 4, 3, none, .assign (.const (.int .i64 0)), false, [], false⟩])
 (.block 0 (.loop (.seq (.seq (.ops [⟨some 6, 3, none, .move (.tmp 4), false, [], false⟩,
  ⟨some 7, 31, none, .move (.tmp 0), false, [], false⟩,
  ⟨some 8, 3, none, .call ⟨.builtin .len, #[.tmp 7], #[31]⟩, false, [], false⟩,
  ⟨some 9, 4, none, .binOp .lss 3 (.tmp 6) (.tmp 8) 3, false, [], false⟩])
 (.cond (.tmp 9)
 .skip
 (.exit 0)))
 (.seq (.block 1 (.ops [⟨some 12, 31, none, .move (.tmp 3), false, [], false⟩,
  ⟨some 13, 31, none, .move (.tmp 0), false, [], false⟩,
  ⟨some 14, 3, none, .move (.tmp 4), false, [], false⟩,
  ⟨some 15, 0, none, .indexAddr 31 (.tmp 13) (.tmp 14), false, [], false⟩,
  ⟨some 16, 3, none, .load 3 (.tmp 15), false, [], false⟩,
  ⟨some 17, 3, none, .binOp .shr 3 (.tmp 16) (.const (.int .u64 1)) 146, false, [], false⟩,
  ⟨some 18, 31, none, .move (.tmp 0), false, [], false⟩,
  ⟨some 19, 3, none, .move (.tmp 4), false, [], false⟩,
  ⟨some 20, 3, none, .binOp .add 3 (.tmp 19) (.const (.int .i64 1)) 3, false, [], false⟩,
  ⟨some 21, 3, none, .call ⟨.value (.func 155), #[.tmp 18, .tmp 20], #[31, 3]⟩, true, [], true⟩,
  ⟨some 22, 3, none, .binOp .and 3 (.tmp 21) (.const (.int .i64 1)) 3, false, [], false⟩,
  ⟨some 23, 3, none, .binOp .shl 3 (.tmp 22) (.const (.int .u64 15)) 146, false, [], false⟩,
  ⟨some 24, 3, none, .binOp .or 3 (.tmp 17) (.tmp 23) 3, false, [], false⟩,
  ⟨some 25, 31, none, .buildSlice 31 1 #[(0, .tmp 24)], true, [], false⟩,
  ⟨some 26, 31, none, .call ⟨.builtin .append, #[.tmp 12, .tmp 25], #[31, 31]⟩, true, [], false⟩,
  ⟨some 3, 31, none, .assign (.tmp 26), true, [], false⟩]))
 (.ops [⟨some 10, 3, none, .move (.tmp 4), false, [], false⟩,
  ⟨some 11, 3, none, .binOp .add 3 (.tmp 10) (.const (.int .i64 1)) 3, false, [], false⟩,
  ⟨some 4, 3, none, .assign (.tmp 11), false, [], false⟩]))))))
 (.seq (.ops [⟨some 27, 31, none, .move (.tmp 3), false, [], false⟩,
  ⟨some 28, 31, none, .call ⟨.value (.func 156), #[.tmp 27], #[31]⟩, true, [], false⟩,
  ⟨some 2, 31, none, .assign (.tmp 28), false, [], false⟩])
 .ret)))
theorem k157 : FnOk Tryz.prog 157 29 [.tmp 2] S157 := ⟨[166, 181, 201], _, Tryz.func157, by kernel_rfl, by kernel_rfl, rfl, rfl⟩
/- venturi/venturiref01.decimal -/
def S158 : SC := .seq (.ops [⟨some 2, 9, none, .assign (.const (.string ⟨#[]⟩)), false, [], false⟩])
 (.seq (.seq (.ops [⟨some 7, 31, none, .move (.tmp 0), false, [], false⟩,
  ⟨some 8, 3, none, .call ⟨.builtin .len, #[.tmp 7], #[31]⟩, false, [], false⟩,
  ⟨some 9, 4, none, .binOp .eql 3 (.tmp 8) (.const (.int .i64 0)) 3, false, [], false⟩])
 (.cond (.tmp 9)
 (.seq (.ops [⟨some 2, 9, none, .assign (.const (.string ⟨#[48]⟩)), false, [], false⟩])
 .ret)
 .skip))
 (.seq (.ops [⟨some 3, 9, none, .assign (.const (.string ⟨#[]⟩)), false, [], false⟩])
 (.seq (.block 0 (.loop (.seq (.seq (.ops [⟨some 10, 31, none, .move (.tmp 0), false, [], false⟩,
  ⟨some 11, 3, none, .call ⟨.builtin .len, #[.tmp 10], #[31]⟩, false, [], false⟩,
  ⟨some 12, 4, none, .binOp .gtr 3 (.tmp 11) (.const (.int .i64 0)) 3, false, [], false⟩])
 (.cond (.tmp 12)
 .skip
 (.exit 0)))
 (.block 1 (.seq (.ops [⟨some 13, 31, none, .move (.tmp 0), false, [], false⟩,
  ⟨some 14, 3, none, .call ⟨.builtin .len, #[.tmp 13], #[31]⟩, false, [], false⟩,
  ⟨some 15, 31, none, .makeSlice 31 (.tmp 14) (.tmp 14), true, [], false⟩,
  ⟨some 4, 31, none, .assign (.tmp 15), false, [], false⟩])
 (.seq (.ops [⟨some 5, 3, none, .assign (.const (.int .i64 0)), false, [], false⟩])
 (.seq (.seq (.ops [⟨some 16, 31, none, .move (.tmp 0), false, [], false⟩,
  ⟨some 17, 3, none, .call ⟨.builtin .len, #[.tmp 16], #[31]⟩, false, [], false⟩,
  ⟨some 18, 3, none, .binOp .sub 3 (.tmp 17) (.const (.int .i64 1)) 3, false, [], false⟩,
  ⟨some 6, 3, none, .assign (.tmp 18), false, [], false⟩])
 (.block 2 (.loop (.seq (.seq (.ops [⟨some 19, 3, none, .move (.tmp 6), false, [], false⟩,
  ⟨some 20, 4, none, .binOp .geq 3 (.tmp 19) (.const (.int .i64 0)) 3, false, [], false⟩])
 (.cond (.tmp 20)
 .skip
 (.exit 2)))
 (.seq (.block 3 (.seq (.ops [⟨some 23, 3, none, .move (.tmp 5), false, [], false⟩,
  ⟨some 24, 3, none, .binOp .shl 3 (.tmp 23) (.const (.int .u64 16)) 146, false, [], false⟩,
  ⟨some 25, 31, none, .move (.tmp 0), false, [], false⟩,
  ⟨some 26, 3, none, .move (.tmp 6), false, [], false⟩,
  ⟨some 27, 0, none, .indexAddr 31 (.tmp 25) (.tmp 26), false, [], false⟩,
  ⟨some 28, 3, none, .load 3 (.tmp 27), false, [], false⟩,
  ⟨some 29, 3, none, .binOp .add 3 (.tmp 24) (.tmp 28) 3, false, [], false⟩,
  ⟨some 5, 3, none, .assign (.tmp 29), false, [], false⟩])
 (.seq (.ops [⟨some 30, 31, none, .move (.tmp 4), false, [], false⟩,
  ⟨some 31, 3, none, .move (.tmp 6), false, [], false⟩,
  ⟨some 32, 3, none, .move (.tmp 5), false, [], false⟩,
  ⟨some 33, 3, none, .binOp .quo 3 (.tmp 32) (.const (.int .i64 10)) 3, false, [], false⟩,
  ⟨some 34, 0, none, .indexAddr 31 (.tmp 30) (.tmp 31), false, [], false⟩,
  ⟨none, 0, none, .store 3 (.tmp 34) (.tmp 33), true, [], false⟩])
 (.ops [⟨some 35, 3, none, .move (.tmp 5), false, [], false⟩,
  ⟨some 36, 3, none, .binOp .rem 3 (.tmp 35) (.const (.int .i64 10)) 3, false, [], false⟩,
  ⟨some 5, 3, none, .assign (.tmp 36), false, [], false⟩]))))
 (.ops [⟨some 21, 3, none, .move (.tmp 6), false, [], false⟩,
  ⟨some 22, 3, none, .binOp .sub 3 (.tmp 21) (.const (.int .i64 1)) 3, false, [], false⟩,
  ⟨some 6, 3, none, .assign (.tmp 22), false, [], false⟩]))))))
 (.seq (.ops [⟨some 37, 3, none, .move (.tmp 5), false, [], false⟩,
  ⟨some 38, 3, none, .binOp .add 3 (.const (.int .i64 48)) (.tmp 37) 3, false, [], false⟩,
  ⟨some 39, 5, none, .convert 3 5 (.tmp 38), false, [], false⟩,
  ⟨some 40, 166, none, .buildSlice 166 1 #[(0, .tmp 39)], true, [], false⟩,
  ⟨some 41, 9, none, .convert 166 9 (.tmp 40), true, [], false⟩,
  ⟨some 42, 9, none, .move (.tmp 3), false, [], false⟩,
  ⟨some 43, 9, none, .binOp .add 9 (.tmp 41) (.tmp 42) 9, false, [], false⟩,
  ⟨some 3, 9, none, .assign (.tmp 43), false, [], false⟩])
 (.ops [⟨some 44, 31, none, .move (.tmp 4), false, [], false⟩,
  ⟨some 45, 31, none, .call ⟨.value (.func 156), #[.tmp 44], #[31]⟩, true, [], false⟩,
  ⟨some 0, 31, none, .assign (.tmp 45), false, [], false⟩])))))))))
 (.seq (.ops [⟨some 46, 9, none, .move (.tmp 3), false, [], false⟩,
  ⟨some 2, 9, none, .assign (.tmp 46), false, [], false⟩])
 .ret))))
theorem k158 : FnOk Tryz.prog 158 47 [.tmp 2] S158 := ⟨[166, 181, 201], _, Tryz.func158, by kernel_rfl, by kernel_rfl, rfl, rfl⟩
/- venturi/venturiref01.Double -/
def S169 : SC := .seq (.ops [⟨some 4, 31, none, .assign (.const (.slice none 0 0)), false, [], false⟩])
 (.seq (.ops [⟨some 8, 31, none, .buildSlice 31 0 #[], true, [], false⟩,
  ⟨some 5, 31, none, .assign (.tmp 8), false, [], false⟩])
 (.seq (.ops [⟨some 9, 3, none, .move (.tmp 1), false, [], false⟩,
  ⟨some 6, 3, none, .assign (.tmp 9), false, [], false⟩])
 (.seq (.seq (.ops [⟨some 7, 3, none, .assign (.const (.int .i64 0)), false, [], false⟩])
 (.block 0 (.loop (.seq (.seq (.ops [⟨some 10, 3, none, .move (.tmp 7), false, [], false⟩,
  ⟨some 11, 31, none, .move (.tmp 0), false, [], false⟩,
  ⟨some 12, 3, none, .call ⟨.builtin .len, #[.tmp 11], #[31]⟩, false, [], false⟩,
  ⟨some 13, 4, none, .binOp .lss 3 (.tmp 10) (.tmp 12) 3, false, [], false⟩])
 (.cond (.tmp 13)
 .skip
 (.exit 0)))
 (.seq (.block 1 (.seq (.ops [⟨some 16, 3, none, .move (.tmp 6), false, [], false⟩,
  ⟨some 17, 31, none, .move (.tmp 0), false, [], false⟩,
  ⟨some 18, 3, none, .move (.tmp 7), false, [], false⟩,
  ⟨some 19, 0, none, .indexAddr 31 (.tmp 17) (.tmp 18), false, [], false⟩,
  ⟨some 20, 3, none, .load 3 (.tmp 19), false, [], false⟩,
  ⟨some 21, 3, none, .binOp .mul 3 (.const (.int .i64 2)) (.tmp 20) 3, false, [], false⟩,
  ⟨some 22, 3, none, .binOp .add 3 (.tmp 16) (.tmp 21) 3, false, [], false⟩,
  ⟨some 6, 3, none, .assign (.tmp 22), false, [], false⟩])
 (.seq (.ops [⟨some 23, 31, none, .move (.tmp 5), false, [], false⟩,
  ⟨some 24, 3, none, .move (.tmp 6), false, [], false⟩,
  ⟨some 25, 3, none, .binOp .and 3 (.tmp 24) (.const (.int .i64 65535)) 3, false, [], false⟩,
  ⟨some 26, 31, none, .buildSlice 31 1 #[(0, .tmp 25)], true, [], false⟩,
  ⟨some 27, 31, none, .call ⟨.builtin .append, #[.tmp 23, .tmp 26], #[31, 31]⟩, true, [], false⟩,
  ⟨some 5, 31, none, .assign (.tmp 27), false, [], false⟩])
 (.ops [⟨some 28, 3, none, .move (.tmp 6), false, [], false⟩,
  ⟨some 29, 3, none, .binOp .shr 3 (.tmp 28) (.const (.int .u64 16)) 146, false, [], false⟩,
  ⟨some 6, 3, none, .assign (.tmp 29), false, [], false⟩]))))
 (.ops [⟨some 14, 3, none, .move (.tmp 7), false, [], false⟩,
  ⟨some 15, 3, none, .binOp .add 3 (.tmp 14) (.const (.int .i64 1)) 3, false, [], false⟩,
  ⟨some 7, 3, none, .assign (.tmp 15), false, [], false⟩]))))))
 (.seq (.ops [⟨some 30, 31, none, .move (.tmp 5), false, [], false⟩,
  ⟨some 31, 3, none, .move (.tmp 6), false, [], false⟩,
  ⟨some 32, 31, none, .buildSlice 31 1 #[(0, .tmp 31)], true, [], false⟩,
  ⟨some 33, 31, none, .call ⟨.builtin .append, #[.tmp 30, .tmp 32], #[31, 31]⟩, true, [], false⟩,
  ⟨some 34, 31, none, .call ⟨.value (.func 156), #[.tmp 33], #[31]⟩, true, [], false⟩,
  ⟨some 4, 31, none, .assign (.tmp 34), false, [], false⟩])
 .ret))))
theorem k169 : FnOk Tryz.prog 169 35 [.tmp 4] S169 := ⟨[166, 181, 201], _, Tryz.func169, by kernel_rfl, by kernel_rfl, rfl, rfl⟩
/- venturi/venturiref01.bit -/
def S170 : SC := .seq (.ops [⟨some 4, 3, none, .assign (.const (.int .i64 0)), false, [], false⟩])
 (.seq (.ops [⟨some 5, 31, none, .move (.tmp 0), false, [], false⟩,
  ⟨some 6, 3, none, .move (.tmp 1), false, [], false⟩,
  ⟨some 7, 3, none, .binOp .quo 3 (.tmp 6) (.const (.int .i64 16)) 3, false, [], false⟩,
  ⟨some 8, 3, none, .call ⟨.value (.func 155), #[.tmp 5, .tmp 7], #[31, 3]⟩, true, [], false⟩,
  ⟨some 9, 3, none, .move (.tmp 1), false, [], false⟩,
  ⟨some 10, 3, none, .binOp .rem 3 (.tmp 9) (.const (.int .i64 16)) 3, false, [], false⟩,
  ⟨some 11, 146, none, .convert 3 146 (.tmp 10), false, [], false⟩,
  ⟨some 12, 3, none, .binOp .shr 3 (.tmp 8) (.tmp 11) 146, false, [], false⟩,
  ⟨some 13, 3, none, .binOp .and 3 (.tmp 12) (.const (.int .i64 1)) 3, false, [], false⟩,
  ⟨some 4, 3, none, .assign (.tmp 13), false, [], false⟩])
 .ret)
theorem k170 : FnOk Tryz.prog 170 14 [.tmp 4] S170 := ⟨[166, 181, 201], _, Tryz.func170, by kernel_rfl, by kernel_rfl, rfl, rfl⟩
/- venturi/venturiref01.fits -/
def S171 : SC := .seq (.ops [⟨some 4, 0, none, .box 33 (.tmp 1), false, [], false⟩,
  ⟨some 5, 0, none, .box 33 (.tmp 2), false, [], false⟩,
  ⟨some 6, 4, none, .assign (.const (.bool false)), false, [], false⟩])
 (.seq (.ops [⟨some 8, 31, none, .move (.tmp 0), false, [], false⟩,
  ⟨some 9, 31, none, .buildSlice 31 1 #[(0, .const (.int .i64 1))], true, [], false⟩,
  ⟨some 10, 33, none, .build 33 #[(0, .const (.bool false)), (1, .tmp 8), (2, .tmp 9)], false, [], false⟩,
  ⟨some 11, 33, none, .load 33 (.tmp 5), false, [], false⟩,
  ⟨some 12, 33, none, .call ⟨.value (.func 33), #[.tmp 10, .tmp 11], #[33, 33]⟩, true, [], false⟩,
  ⟨some 7, 0, none, .alloc 33, false, [], false⟩,
  ⟨none, 0, none, .store 33 (.tmp 7) (.tmp 12), true, [], false⟩])
 (.seq (.ops [⟨some 13, 33, none, .load 33 (.tmp 7), false, [], false⟩,
  ⟨some 14, 33, none, .load 33 (.tmp 7), false, [], false⟩,
  ⟨some 16, 33, none, .load 33 (.tmp 4), false, [], false⟩,
  ⟨some 15, 33, none, .call ⟨.value (.func 33), #[.tmp 13, .tmp 14], #[33, 33]⟩, true, [], true⟩,
  ⟨some 17, 3, none, .call ⟨.value (.func 35), #[.tmp 15, .tmp 16], #[33, 33]⟩, true, [], false⟩,
  ⟨some 18, 4, none, .binOp .leq 3 (.tmp 17) (.const (.int .i64 0)) 3, false, [], false⟩,
  ⟨some 6, 4, none, .assign (.tmp 18), false, [], false⟩])
 .ret))
theorem k171 : FnOk Tryz.prog 171 19 [.tmp 6] S171 := ⟨[166, 181, 201], _, Tryz.func171, by kernel_rfl, by kernel_rfl, rfl, rfl⟩
end Go.Proofs.YtplaobhghfndgaaGreatDoor
