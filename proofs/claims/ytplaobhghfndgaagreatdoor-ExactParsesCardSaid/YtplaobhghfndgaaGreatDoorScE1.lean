import Derived.Test.YtplaobhghfndgaaGreatDoorTab
/-! The code of functions, as the walk wants it (printed by gen.py). -/
set_option maxRecDepth 100000
namespace Go.Proofs.YtplaobhghfndgaaGreatDoor
open Go Go.Proofs.Vc
/- venturi/exact.power -/
def S114 : SC := .seq (.ops [⟨some 4, 24, none, .assign (.const (.slice none 0 0)), false, [], false⟩])
 (.seq (.ops [⟨some 7, 24, none, .call ⟨.value (.func 129), #[], #[]⟩, true, [], false⟩,
  ⟨some 8, 140, none, .move (.tmp 0), false, [], false⟩,
  ⟨some 9, 24, none, .buildSlice 24 1 #[(0, .tmp 8)], true, [], false⟩,
  ⟨some 5, 24, none, .assign (.tmp 7), false, [], false⟩,
  ⟨some 6, 24, none, .assign (.tmp 9), false, [], false⟩])
 (.seq (.block 0 (.loop (.seq (.seq (.ops [⟨some 10, 3, none, .move (.tmp 1), false, [], false⟩,
  ⟨some 11, 4, none, .binOp .gtr 3 (.tmp 10) (.const (.int .i64 0)) 3, false, [], false⟩])
 (.cond (.tmp 11)
 .skip
 (.exit 0)))
 (.seq (.block 1 (.seq (.seq (.ops [⟨some 14, 3, none, .move (.tmp 1), false, [], false⟩,
  ⟨some 15, 3, none, .binOp .and 3 (.tmp 14) (.const (.int .i64 1)) 3, false, [], false⟩,
  ⟨some 16, 4, none, .binOp .eql 3 (.tmp 15) (.const (.int .i64 1)) 3, false, [], false⟩])
 (.cond (.tmp 16)
 (.ops [⟨some 17, 24, none, .move (.tmp 5), false, [], false⟩,
  ⟨some 18, 24, none, .move (.tmp 6), false, [], false⟩,
  ⟨some 19, 24, none, .call ⟨.value (.func 120), #[.tmp 17, .tmp 18], #[24, 24]⟩, true, [], false⟩,
  ⟨some 5, 24, none, .assign (.tmp 19), false, [], false⟩])
 .skip))
 (.ops [⟨some 20, 24, none, .move (.tmp 6), false, [], false⟩,
  ⟨some 21, 24, none, .move (.tmp 6), false, [], false⟩,
  ⟨some 22, 24, none, .call ⟨.value (.func 120), #[.tmp 20, .tmp 21], #[24, 24]⟩, true, [], false⟩,
  ⟨some 6, 24, none, .assign (.tmp 22), false, [], false⟩])))
 (.ops [⟨some 12, 3, none, .move (.tmp 1), false, [], false⟩,
  ⟨some 13, 3, none, .binOp .shr 3 (.tmp 12) (.const (.int .u64 1)) 146, false, [], false⟩,
  ⟨some 1, 3, none, .assign (.tmp 13), false, [], false⟩])))))
 (.seq (.ops [⟨some 23, 24, none, .move (.tmp 5), false, [], false⟩,
  ⟨some 4, 24, none, .assign (.tmp 23), false, [], false⟩])
 .ret)))
theorem k114 : FnOk Tryz.prog 114 24 [.tmp 4] S114 := ⟨[166, 181, 201], _, Tryz.func114, by kernel_rfl, by kernel_rfl, rfl, rfl⟩
/- (venturi/exact.limbs).mul -/
def S120 : SC := .seq (.ops [⟨some 4, 24, none, .assign (.const (.slice none 0 0)), false, [], false⟩])
 (.seq (.ops [⟨some 8, 24, none, .move (.tmp 0), false, [], false⟩,
  ⟨some 9, 3, none, .call ⟨.builtin .len, #[.tmp 8], #[24]⟩, false, [], false⟩,
  ⟨some 10, 24, none, .move (.tmp 1), false, [], false⟩,
  ⟨some 11, 3, none, .call ⟨.builtin .len, #[.tmp 10], #[24]⟩, false, [], false⟩,
  ⟨some 12, 3, none, .binOp .add 3 (.tmp 9) (.tmp 11) 3, false, [], false⟩,
  ⟨some 13, 24, none, .makeSlice 24 (.tmp 12) (.tmp 12), true, [], false⟩,
  ⟨some 5, 24, none, .assign (.tmp 13), false, [], false⟩])
 (.seq (.seq (.ops [⟨some 14, 24, none, .move (.tmp 0), false, [], false⟩,
  ⟨some 15, 3, none, .call ⟨.builtin .len, #[.tmp 14], #[24]⟩, false, [], false⟩,
  ⟨some 16, 3, none, .move (.const (.int .i64 0)), false, [], false⟩])
 (.block 0 (.loop (.seq (.ops [⟨some 17, 0, none, .binOp .lss 3 (.tmp 16) (.tmp 15) 3, false, [], false⟩])
 (.seq (.cond (.tmp 17)
 .skip
 (.exit 0))
 (.seq (.block 1 (.seq (.ops [⟨some 18, 3, none, .move (.tmp 16), false, [], false⟩,
  ⟨some 19, 0, none, .indexAddr 24 (.tmp 14) (.tmp 16), false, [], false⟩,
  ⟨some 20, 140, none, .load 140 (.tmp 19), false, [], false⟩,
  ⟨some 6, 3, none, .assign (.tmp 18), false, [], false⟩,
  ⟨some 7, 140, none, .assign (.tmp 20), false, [], false⟩])
 (.ops [⟨some 21, 24, none, .move (.tmp 5), false, [], false⟩,
  ⟨some 22, 3, none, .move (.tmp 6), false, [], false⟩,
  ⟨some 23, 24, none, .move (.tmp 1), false, [], false⟩,
  ⟨some 24, 3, none, .call ⟨.builtin .len, #[.tmp 23], #[24]⟩, false, [], false⟩,
  ⟨some 25, 3, none, .binOp .add 3 (.tmp 22) (.tmp 24) 3, false, [], false⟩,
  ⟨some 26, 24, none, .move (.tmp 5), false, [], false⟩,
  ⟨some 27, 3, none, .move (.tmp 6), false, [], false⟩,
  ⟨some 28, 24, none, .slice 24 (.tmp 26) (some (.tmp 27)) none none, false, [], false⟩,
  ⟨some 29, 24, none, .move (.tmp 1), false, [], false⟩,
  ⟨some 30, 140, none, .move (.tmp 7), false, [], false⟩,
  ⟨some 31, 140, none, .call ⟨.value (.func 159), #[.tmp 28, .tmp 29, .tmp 30], #[24, 24, 140]⟩, true, [], false⟩,
  ⟨some 32, 0, none, .indexAddr 24 (.tmp 21) (.tmp 25), false, [], false⟩,
  ⟨none, 0, none, .store 140 (.tmp 32) (.tmp 31), true, [], false⟩])))
 (.ops [⟨some 33, 3, none, .binOp .add 3 (.tmp 16) (.const (.int .i64 1)) 3, false, [], false⟩,
  ⟨some 16, 3, none, .move (.tmp 33), false, [], false⟩])))))))
 (.seq (.ops [⟨some 34, 24, none, .move (.tmp 5), false, [], false⟩,
  ⟨some 35, 24, none, .call ⟨.value (.func 160), #[.tmp 34], #[24]⟩, true, [], false⟩,
  ⟨some 4, 24, none, .assign (.tmp 35), false, [], false⟩])
 .ret)))
theorem k120 : FnOk Tryz.prog 120 36 [.tmp 4] S120 := ⟨[166, 181, 201], _, Tryz.func120, by kernel_rfl, by kernel_rfl, rfl, rfl⟩
/- (venturi/exact.Num).whole -/
def S121 : SC := .seq (.ops [⟨some 1, 0, none, .box 26 (.tmp 0), false, [], false⟩,
  ⟨some 2, 4, none, .assign (.const (.bool false)), false, [], false⟩])
 (.seq (.ops [⟨some 3, 0, none, .fieldAddr 26 (.tmp 1) 2, false, [], false⟩,
  ⟨some 4, 24, none, .load 24 (.tmp 3), false, [], false⟩,
  ⟨some 5, 3, none, .call ⟨.builtin .len, #[.tmp 4], #[24]⟩, false, [], false⟩,
  ⟨some 6, 4, none, .binOp .eql 3 (.tmp 5) (.const (.int .i64 0)) 3, false, [], false⟩,
  ⟨some 2, 4, none, .assign (.tmp 6), false, [], false⟩])
 .ret)
theorem k121 : FnOk Tryz.prog 121 7 [.tmp 2] S121 := ⟨[166, 181, 201], _, Tryz.func121, by kernel_rfl, by kernel_rfl, rfl, rfl⟩
/- (venturi/exact.Num).under -/
def S122 : SC := .seq (.ops [⟨some 1, 0, none, .box 26 (.tmp 0), false, [], false⟩,
  ⟨some 2, 24, none, .assign (.const (.slice none 0 0)), false, [], false⟩])
 (.seq (.seq (.ops [⟨some 3, 26, none, .load 26 (.tmp 1), false, [], false⟩,
  ⟨some 4, 4, none, .call ⟨.value (.func 121), #[.tmp 3], #[26]⟩, true, [], false⟩])
 (.cond (.tmp 4)
 (.seq (.ops [⟨some 5, 24, none, .call ⟨.value (.func 129), #[], #[]⟩, true, [], false⟩,
  ⟨some 2, 24, none, .assign (.tmp 5), false, [], false⟩])
 .ret)
 .skip))
 (.seq (.ops [⟨some 6, 0, none, .fieldAddr 26 (.tmp 1) 2, false, [], false⟩,
  ⟨some 7, 24, none, .load 24 (.tmp 6), false, [], false⟩,
  ⟨some 2, 24, none, .assign (.tmp 7), false, [], false⟩])
 .ret))
theorem k122 : FnOk Tryz.prog 122 8 [.tmp 2] S122 := ⟨[166, 181, 201], _, Tryz.func122, by kernel_rfl, by kernel_rfl, rfl, rfl⟩
/- (venturi/exact.limbs).add -/
def S123 : SC := .seq (.ops [⟨some 4, 24, none, .assign (.const (.slice none 0 0)), false, [], false⟩])
 (.seq (.seq (.ops [⟨some 10, 24, none, .move (.tmp 0), false, [], false⟩,
  ⟨some 11, 3, none, .call ⟨.builtin .len, #[.tmp 10], #[24]⟩, false, [], false⟩,
  ⟨some 12, 24, none, .move (.tmp 1), false, [], false⟩,
  ⟨some 13, 3, none, .call ⟨.builtin .len, #[.tmp 12], #[24]⟩, false, [], false⟩,
  ⟨some 14, 4, none, .binOp .lss 3 (.tmp 11) (.tmp 13) 3, false, [], false⟩])
 (.cond (.tmp 14)
 (.ops [⟨some 15, 24, none, .move (.tmp 1), false, [], false⟩,
  ⟨some 16, 24, none, .move (.tmp 0), false, [], false⟩,
  ⟨some 0, 24, none, .assign (.tmp 15), false, [], false⟩,
  ⟨some 1, 24, none, .assign (.tmp 16), false, [], false⟩])
 .skip))
 (.seq (.ops [⟨some 17, 24, none, .move (.tmp 0), false, [], false⟩,
  ⟨some 18, 3, none, .call ⟨.builtin .len, #[.tmp 17], #[24]⟩, false, [], false⟩,
  ⟨some 19, 3, none, .binOp .add 3 (.tmp 18) (.const (.int .i64 1)) 3, false, [], false⟩,
  ⟨some 20, 24, none, .makeSlice 24 (.tmp 19) (.tmp 19), true, [], false⟩,
  ⟨some 5, 24, none, .assign (.tmp 20), false, [], false⟩])
 (.seq (.ops [⟨some 6, 140, none, .assign (.const (.int .u64 0)), false, [], false⟩])
 (.seq (.seq (.ops [⟨some 21, 24, none, .move (.tmp 0), false, [], false⟩,
  ⟨some 22, 3, none, .call ⟨.builtin .len, #[.tmp 21], #[24]⟩, false, [], false⟩,
  ⟨some 23, 3, none, .move (.const (.int .i64 0)), false, [], false⟩])
 (.block 0 (.loop (.seq (.ops [⟨some 24, 0, none, .binOp .lss 3 (.tmp 23) (.tmp 22) 3, false, [], false⟩])
 (.seq (.cond (.tmp 24)
 .skip
 (.exit 0))
 (.seq (.block 1 (.seq (.ops [⟨some 25, 3, none, .move (.tmp 23), false, [], false⟩,
  ⟨some 26, 0, none, .indexAddr 24 (.tmp 21) (.tmp 23), false, [], false⟩,
  ⟨some 27, 140, none, .load 140 (.tmp 26), false, [], false⟩,
  ⟨some 7, 3, none, .assign (.tmp 25), false, [], false⟩,
  ⟨some 8, 140, none, .assign (.tmp 27), false, [], false⟩])
 (.seq (.ops [⟨some 9, 140, none, .assign (.const (.int .u64 0)), false, [], false⟩])
 (.seq (.seq (.ops [⟨some 28, 3, none, .move (.tmp 7), false, [], false⟩,
  ⟨some 29, 24, none, .move (.tmp 1), false, [], false⟩,
  ⟨some 30, 3, none, .call ⟨.builtin .len, #[.tmp 29], #[24]⟩, false, [], false⟩,
  ⟨some 31, 4, none, .binOp .lss 3 (.tmp 28) (.tmp 30) 3, false, [], false⟩])
 (.cond (.tmp 31)
 (.ops [⟨some 32, 24, none, .move (.tmp 1), false, [], false⟩,
  ⟨some 33, 3, none, .move (.tmp 7), false, [], false⟩,
  ⟨some 34, 0, none, .indexAddr 24 (.tmp 32) (.tmp 33), false, [], false⟩,
  ⟨some 35, 140, none, .load 140 (.tmp 34), false, [], false⟩,
  ⟨some 9, 140, none, .assign (.tmp 35), false, [], false⟩])
 .skip))
 (.ops [⟨some 37, 24, none, .move (.tmp 5), false, [], false⟩,
  ⟨some 38, 3, none, .move (.tmp 7), false, [], false⟩,
  ⟨some 39, 140, none, .move (.tmp 8), false, [], false⟩,
  ⟨some 40, 140, none, .move (.tmp 9), false, [], false⟩,
  ⟨some 41, 140, none, .move (.tmp 6), false, [], false⟩,
  ⟨some 42, 172, none, .call ⟨.value (.func 161), #[.tmp 39, .tmp 40, .tmp 41], #[140, 140, 140]⟩, true, [], false⟩,
  ⟨some 36, 172, none, .move (.tmp 42), false, [], false⟩,
  ⟨some 43, 140, none, .extract (.tmp 36) 0, false, [], false⟩,
  ⟨some 44, 140, none, .extract (.tmp 36) 1, false, [], false⟩,
  ⟨some 45, 0, none, .indexAddr 24 (.tmp 37) (.tmp 38), false, [], false⟩,
  ⟨none, 0, none, .store 140 (.tmp 45) (.tmp 43), true, [], false⟩,
  ⟨some 6, 140, none, .assign (.tmp 44), false, [], false⟩])))))
 (.ops [⟨some 46, 3, none, .binOp .add 3 (.tmp 23) (.const (.int .i64 1)) 3, false, [], false⟩,
  ⟨some 23, 3, none, .move (.tmp 46), false, [], false⟩])))))))
 (.seq (.ops [⟨some 47, 24, none, .move (.tmp 5), false, [], false⟩,
  ⟨some 48, 24, none, .move (.tmp 0), false, [], false⟩,
  ⟨some 49, 3, none, .call ⟨.builtin .len, #[.tmp 48], #[24]⟩, false, [], false⟩,
  ⟨some 50, 140, none, .move (.tmp 6), false, [], false⟩,
  ⟨some 51, 0, none, .indexAddr 24 (.tmp 47) (.tmp 49), false, [], false⟩,
  ⟨none, 0, none, .store 140 (.tmp 51) (.tmp 50), true, [], false⟩])
 (.seq (.ops [⟨some 52, 24, none, .move (.tmp 5), false, [], false⟩,
  ⟨some 53, 24, none, .call ⟨.value (.func 160), #[.tmp 52], #[24]⟩, true, [], false⟩,
  ⟨some 4, 24, none, .assign (.tmp 53), false, [], false⟩])
 .ret))))))
theorem k123 : FnOk Tryz.prog 123 54 [.tmp 4] S123 := ⟨[166, 181, 201], _, Tryz.func123, by kernel_rfl, by kernel_rfl, rfl, rfl⟩
/- (venturi/exact.limbs).cmp -/
def S124 : SC := .seq (.ops [⟨some 4, 3, none, .assign (.const (.int .i64 0)), false, [], false⟩])
 (.seq (.seq (.ops [⟨some 7, 24, none, .move (.tmp 0), false, [], false⟩,
  ⟨some 8, 3, none, .call ⟨.builtin .len, #[.tmp 7], #[24]⟩, false, [], false⟩,
  ⟨some 9, 24, none, .move (.tmp 1), false, [], false⟩,
  ⟨some 10, 3, none, .call ⟨.builtin .len, #[.tmp 9], #[24]⟩, false, [], false⟩,
  ⟨some 11, 3, none, .binOp .sub 3 (.tmp 8) (.tmp 10) 3, false, [], false⟩,
  ⟨some 5, 3, none, .assign (.tmp 11), false, [], false⟩])
 (.seq (.ops [⟨some 12, 3, none, .move (.tmp 5), false, [], false⟩,
  ⟨some 13, 4, none, .binOp .neq 3 (.tmp 12) (.const (.int .i64 0)) 3, false, [], false⟩])
 (.cond (.tmp 13)
 (.seq (.ops [⟨some 14, 3, none, .move (.tmp 5), false, [], false⟩,
  ⟨some 15, 3, none, .call ⟨.builtin .min, #[.const (.int .i64 1), .tmp 14], #[3, 3]⟩, false, [], false⟩,
  ⟨some 16, 3, none, .call ⟨.builtin .max, #[.const (.int .i64 (-1)), .tmp 15], #[3, 3]⟩, false, [], false⟩,
  ⟨some 4, 3, none, .assign (.tmp 16), false, [], false⟩])
 .ret)
 .skip)))
 (.seq (.seq (.ops [⟨some 17, 24, none, .move (.tmp 0), false, [], false⟩,
  ⟨some 18, 3, none, .call ⟨.builtin .len, #[.tmp 17], #[24]⟩, false, [], false⟩,
  ⟨some 19, 3, none, .binOp .sub 3 (.tmp 18) (.const (.int .i64 1)) 3, false, [], false⟩,
  ⟨some 6, 3, none, .assign (.tmp 19), false, [], false⟩])
 (.block 0 (.loop (.seq (.seq (.ops [⟨some 20, 3, none, .move (.tmp 6), false, [], false⟩,
  ⟨some 21, 4, none, .binOp .geq 3 (.tmp 20) (.const (.int .i64 0)) 3, false, [], false⟩])
 (.cond (.tmp 21)
 .skip
 (.exit 0)))
 (.seq (.block 1 (.block 2 (.seq (.ops [⟨some 25, 24, none, .move (.tmp 0), false, [], false⟩,
  ⟨some 26, 3, none, .move (.tmp 6), false, [], false⟩,
  ⟨some 27, 0, none, .indexAddr 24 (.tmp 25) (.tmp 26), false, [], false⟩,
  ⟨some 28, 140, none, .load 140 (.tmp 27), false, [], false⟩,
  ⟨some 29, 24, none, .move (.tmp 1), false, [], false⟩,
  ⟨some 30, 3, none, .move (.tmp 6), false, [], false⟩,
  ⟨some 31, 0, none, .indexAddr 24 (.tmp 29) (.tmp 30), false, [], false⟩,
  ⟨some 32, 140, none, .load 140 (.tmp 31), false, [], false⟩,
  ⟨some 33, 4, none, .binOp .lss 140 (.tmp 28) (.tmp 32) 140, false, [], false⟩,
  ⟨some 24, 4, none, .assign (.tmp 33), false, [], false⟩])
 (.cond (.tmp 24)
 (.seq (.ops [⟨some 4, 3, none, .assign (.const (.int .i64 (-1))), false, [], false⟩])
 .ret)
 (.seq (.ops [⟨some 35, 24, none, .move (.tmp 0), false, [], false⟩,
  ⟨some 36, 3, none, .move (.tmp 6), false, [], false⟩,
  ⟨some 37, 0, none, .indexAddr 24 (.tmp 35) (.tmp 36), false, [], false⟩,
  ⟨some 38, 140, none, .load 140 (.tmp 37), false, [], false⟩,
  ⟨some 39, 24, none, .move (.tmp 1), false, [], false⟩,
  ⟨some 40, 3, none, .move (.tmp 6), false, [], false⟩,
  ⟨some 41, 0, none, .indexAddr 24 (.tmp 39) (.tmp 40), false, [], false⟩,
  ⟨some 42, 140, none, .load 140 (.tmp 41), false, [], false⟩,
  ⟨some 43, 4, none, .binOp .gtr 140 (.tmp 38) (.tmp 42) 140, false, [], false⟩,
  ⟨some 34, 4, none, .assign (.tmp 43), false, [], false⟩])
 (.cond (.tmp 34)
 (.seq (.ops [⟨some 4, 3, none, .assign (.const (.int .i64 1)), false, [], false⟩])
 .ret)
 .skip))))))
 (.ops [⟨some 22, 3, none, .move (.tmp 6), false, [], false⟩,
  ⟨some 23, 3, none, .binOp .sub 3 (.tmp 22) (.const (.int .i64 1)) 3, false, [], false⟩,
  ⟨some 6, 3, none, .assign (.tmp 23), false, [], false⟩]))))))
 (.seq (.ops [⟨some 4, 3, none, .assign (.const (.int .i64 0)), false, [], false⟩])
 .ret)))
theorem k124 : FnOk Tryz.prog 124 44 [.tmp 4] S124 := ⟨[166, 181, 201], _, Tryz.func124, by kernel_rfl, by kernel_rfl, rfl, rfl⟩
/- (venturi/exact.limbs).sub -/
def S125 : SC := .seq (.ops [⟨some 4, 24, none, .assign (.const (.slice none 0 0)), false, [], false⟩])
 (.seq (.ops [⟨some 10, 24, none, .move (.tmp 0), false, [], false⟩,
  ⟨some 11, 3, none, .call ⟨.builtin .len, #[.tmp 10], #[24]⟩, false, [], false⟩,
  ⟨some 12, 24, none, .makeSlice 24 (.tmp 11) (.tmp 11), true, [], false⟩,
  ⟨some 5, 24, none, .assign (.tmp 12), false, [], false⟩])
 (.seq (.ops [⟨some 6, 140, none, .assign (.const (.int .u64 0)), false, [], false⟩])
 (.seq (.seq (.ops [⟨some 13, 24, none, .move (.tmp 0), false, [], false⟩,
  ⟨some 14, 3, none, .call ⟨.builtin .len, #[.tmp 13], #[24]⟩, false, [], false⟩,
  ⟨some 15, 3, none, .move (.const (.int .i64 0)), false, [], false⟩])
 (.block 0 (.loop (.seq (.ops [⟨some 16, 0, none, .binOp .lss 3 (.tmp 15) (.tmp 14) 3, false, [], false⟩])
 (.seq (.cond (.tmp 16)
 .skip
 (.exit 0))
 (.seq (.block 1 (.seq (.ops [⟨some 17, 3, none, .move (.tmp 15), false, [], false⟩,
  ⟨some 18, 0, none, .indexAddr 24 (.tmp 13) (.tmp 15), false, [], false⟩,
  ⟨some 19, 140, none, .load 140 (.tmp 18), false, [], false⟩,
  ⟨some 7, 3, none, .assign (.tmp 17), false, [], false⟩,
  ⟨some 8, 140, none, .assign (.tmp 19), false, [], false⟩])
 (.seq (.ops [⟨some 9, 140, none, .assign (.const (.int .u64 0)), false, [], false⟩])
 (.seq (.seq (.ops [⟨some 20, 3, none, .move (.tmp 7), false, [], false⟩,
  ⟨some 21, 24, none, .move (.tmp 1), false, [], false⟩,
  ⟨some 22, 3, none, .call ⟨.builtin .len, #[.tmp 21], #[24]⟩, false, [], false⟩,
  ⟨some 23, 4, none, .binOp .lss 3 (.tmp 20) (.tmp 22) 3, false, [], false⟩])
 (.cond (.tmp 23)
 (.ops [⟨some 24, 24, none, .move (.tmp 1), false, [], false⟩,
  ⟨some 25, 3, none, .move (.tmp 7), false, [], false⟩,
  ⟨some 26, 0, none, .indexAddr 24 (.tmp 24) (.tmp 25), false, [], false⟩,
  ⟨some 27, 140, none, .load 140 (.tmp 26), false, [], false⟩,
  ⟨some 9, 140, none, .assign (.tmp 27), false, [], false⟩])
 .skip))
 (.ops [⟨some 29, 24, none, .move (.tmp 5), false, [], false⟩,
  ⟨some 30, 3, none, .move (.tmp 7), false, [], false⟩,
  ⟨some 31, 140, none, .move (.tmp 8), false, [], false⟩,
  ⟨some 32, 140, none, .move (.tmp 9), false, [], false⟩,
  ⟨some 33, 140, none, .move (.tmp 6), false, [], false⟩,
  ⟨some 34, 172, none, .call ⟨.value (.func 162), #[.tmp 31, .tmp 32, .tmp 33], #[140, 140, 140]⟩, true, [], false⟩,
  ⟨some 28, 172, none, .move (.tmp 34), false, [], false⟩,
  ⟨some 35, 140, none, .extract (.tmp 28) 0, false, [], false⟩,
  ⟨some 36, 140, none, .extract (.tmp 28) 1, false, [], false⟩,
  ⟨some 37, 0, none, .indexAddr 24 (.tmp 29) (.tmp 30), false, [], false⟩,
  ⟨none, 0, none, .store 140 (.tmp 37) (.tmp 35), true, [], false⟩,
  ⟨some 6, 140, none, .assign (.tmp 36), false, [], false⟩])))))
 (.ops [⟨some 38, 3, none, .binOp .add 3 (.tmp 15) (.const (.int .i64 1)) 3, false, [], false⟩,
  ⟨some 15, 3, none, .move (.tmp 38), false, [], false⟩])))))))
 (.seq (.ops [⟨some 39, 24, none, .move (.tmp 5), false, [], false⟩,
  ⟨some 40, 24, none, .call ⟨.value (.func 160), #[.tmp 39], #[24]⟩, true, [], false⟩,
  ⟨some 4, 24, none, .assign (.tmp 40), false, [], false⟩])
 .ret))))
theorem k125 : FnOk Tryz.prog 125 41 [.tmp 4] S125 := ⟨[166, 181, 201], _, Tryz.func125, by kernel_rfl, by kernel_rfl, rfl, rfl⟩
/- (venturi/exact.limbs).div -/
def S128 : SC := .seq (.ops [⟨some 4, 24, none, .assign (.const (.slice none 0 0)), false, [], false⟩,
  ⟨some 5, 24, none, .assign (.const (.slice none 0 0)), false, [], false⟩])
 (.seq (.ops [⟨some 25, 24, none, .move (.tmp 1), false, [], false⟩,
  ⟨some 26, 3, none, .call ⟨.builtin .len, #[.tmp 25], #[24]⟩, false, [], false⟩,
  ⟨some 6, 3, none, .assign (.tmp 26), false, [], false⟩])
 (.seq (.block 0 (.seq (.ops [⟨some 28, 24, none, .move (.tmp 0), false, [], false⟩,
  ⟨some 29, 24, none, .move (.tmp 1), false, [], false⟩,
  ⟨some 30, 3, none, .call ⟨.value (.func 124), #[.tmp 28, .tmp 29], #[24, 24]⟩, true, [], false⟩,
  ⟨some 31, 4, none, .binOp .lss 3 (.tmp 30) (.const (.int .i64 0)) 3, false, [], false⟩,
  ⟨some 27, 4, none, .assign (.tmp 31), false, [], false⟩])
 (.cond (.tmp 27)
 (.seq (.ops [⟨some 32, 24, none, .move (.tmp 0), false, [], false⟩,
  ⟨some 4, 24, none, .assign (.const (.slice none 0 0)), false, [], false⟩,
  ⟨some 5, 24, none, .assign (.tmp 32), false, [], false⟩])
 .ret)
 (.seq (.ops [⟨some 34, 3, none, .move (.tmp 6), false, [], false⟩,
  ⟨some 35, 4, none, .binOp .eql 3 (.tmp 34) (.const (.int .i64 1)) 3, false, [], false⟩,
  ⟨some 33, 4, none, .assign (.tmp 35), false, [], false⟩])
 (.cond (.tmp 33)
 (.seq (.ops [⟨some 37, 24, none, .move (.tmp 0), false, [], false⟩,
  ⟨some 38, 24, none, .move (.tmp 1), false, [], false⟩,
  ⟨some 39, 0, none, .indexAddr 24 (.tmp 38) (.const (.int .i64 0)), false, [], false⟩,
  ⟨some 40, 140, none, .load 140 (.tmp 39), false, [], false⟩,
  ⟨some 41, 174, none, .call ⟨.value (.func 163), #[.tmp 37, .tmp 40], #[24, 140]⟩, true, [], false⟩,
  ⟨some 36, 174, none, .move (.tmp 41), false, [], false⟩,
  ⟨some 42, 24, none, .extract (.tmp 36) 0, false, [], false⟩,
  ⟨some 43, 140, none, .extract (.tmp 36) 1, false, [], false⟩,
  ⟨some 7, 24, none, .assign (.tmp 42), false, [], false⟩,
  ⟨some 8, 140, none, .assign (.tmp 43), false, [], false⟩])
 (.seq (.ops [⟨some 44, 24, none, .move (.tmp 7), false, [], false⟩,
  ⟨some 45, 140, none, .move (.tmp 8), false, [], false⟩,
  ⟨some 46, 24, none, .call ⟨.value (.func 153), #[.tmp 45], #[140]⟩, true, [], false⟩,
  ⟨some 4, 24, none, .assign (.tmp 44), false, [], false⟩,
  ⟨some 5, 24, none, .assign (.tmp 46), false, [], false⟩])
 .ret))
 .skip)))))
 (.seq (.ops [⟨some 47, 24, none, .move (.tmp 1), false, [], false⟩,
  ⟨some 48, 3, none, .move (.tmp 6), false, [], false⟩,
  ⟨some 49, 3, none, .binOp .sub 3 (.tmp 48) (.const (.int .i64 1)) 3, false, [], false⟩,
  ⟨some 50, 0, none, .indexAddr 24 (.tmp 47) (.tmp 49), false, [], false⟩,
  ⟨some 51, 140, none, .load 140 (.tmp 50), false, [], false⟩,
  ⟨some 52, 3, none, .call ⟨.value (.func 164), #[.tmp 51], #[140]⟩, true, [], false⟩,
  ⟨some 53, 146, none, .convert 3 146 (.tmp 52), false, [], false⟩,
  ⟨some 9, 146, none, .assign (.tmp 53), false, [], false⟩])
 (.seq (.ops [⟨some 54, 24, none, .move (.tmp 1), false, [], false⟩,
  ⟨some 55, 146, none, .move (.tmp 9), false, [], false⟩,
  ⟨some 56, 24, none, .call ⟨.value (.func 165), #[.tmp 54, .tmp 55], #[24, 146]⟩, true, [], false⟩,
  ⟨some 57, 3, none, .move (.tmp 6), false, [], false⟩,
  ⟨some 58, 24, none, .slice 24 (.tmp 56) none (some (.tmp 57)) none, false, [], false⟩,
  ⟨some 10, 24, none, .assign (.tmp 58), false, [], false⟩])
 (.seq (.ops [⟨some 59, 24, none, .move (.tmp 0), false, [], false⟩,
  ⟨some 60, 146, none, .move (.tmp 9), false, [], false⟩,
  ⟨some 61, 24, none, .call ⟨.value (.func 165), #[.tmp 59, .tmp 60], #[24, 146]⟩, true, [], false⟩,
  ⟨some 11, 24, none, .assign (.tmp 61), false, [], false⟩])
 (.seq (.ops [⟨some 62, 24, none, .move (.tmp 11), false, [], false⟩,
  ⟨some 63, 3, none, .call ⟨.builtin .len, #[.tmp 62], #[24]⟩, false, [], false⟩,
  ⟨some 64, 3, none, .move (.tmp 6), false, [], false⟩,
  ⟨some 65, 3, none, .binOp .sub 3 (.tmp 63) (.tmp 64) 3, false, [], false⟩,
  ⟨some 66, 24, none, .makeSlice 24 (.tmp 65) (.tmp 65), true, [], false⟩,
  ⟨some 12, 24, none, .assign (.tmp 66), false, [], false⟩])
 (.seq (.seq (.ops [⟨some 67, 24, none, .move (.tmp 12), false, [], false⟩,
  ⟨some 68, 3, none, .call ⟨.builtin .len, #[.tmp 67], #[24]⟩, false, [], false⟩,
  ⟨some 69, 3, none, .binOp .sub 3 (.tmp 68) (.const (.int .i64 1)) 3, false, [], false⟩,
  ⟨some 13, 3, none, .assign (.tmp 69), false, [], false⟩])
 (.block 1 (.loop (.seq (.seq (.ops [⟨some 70, 3, none, .move (.tmp 13), false, [], false⟩,
  ⟨some 71, 4, none, .binOp .geq 3 (.tmp 70) (.const (.int .i64 0)) 3, false, [], false⟩])
 (.cond (.tmp 71)
 .skip
 (.exit 1)))
 (.seq (.block 2 (.seq (.ops [⟨some 14, 140, none, .assign (.const (.int .u64 18446744073709551615)), false, [], false⟩])
 (.seq (.seq (.ops [⟨some 74, 24, none, .move (.tmp 11), false, [], false⟩,
  ⟨some 75, 3, none, .move (.tmp 13), false, [], false⟩,
  ⟨some 76, 3, none, .move (.tmp 6), false, [], false⟩,
  ⟨some 77, 3, none, .binOp .add 3 (.tmp 75) (.tmp 76) 3, false, [], false⟩,
  ⟨some 78, 0, none, .indexAddr 24 (.tmp 74) (.tmp 77), false, [], false⟩,
  ⟨some 79, 140, none, .load 140 (.tmp 78), false, [], false⟩,
  ⟨some 80, 24, none, .move (.tmp 10), false, [], false⟩,
  ⟨some 81, 3, none, .move (.tmp 6), false, [], false⟩,
  ⟨some 82, 3, none, .binOp .sub 3 (.tmp 81) (.const (.int .i64 1)) 3, false, [], false⟩,
  ⟨some 83, 0, none, .indexAddr 24 (.tmp 80) (.tmp 82), false, [], false⟩,
  ⟨some 84, 140, none, .load 140 (.tmp 83), false, [], false⟩,
  ⟨some 85, 4, none, .binOp .lss 140 (.tmp 79) (.tmp 84) 140, false, [], false⟩])
 (.cond (.tmp 85)
 (.seq (.ops [⟨some 15, 140, none, .assign (.const (.int .u64 0)), false, [], false⟩])
 (.seq (.ops [⟨some 87, 24, none, .move (.tmp 11), false, [], false⟩,
  ⟨some 88, 3, none, .move (.tmp 13), false, [], false⟩,
  ⟨some 89, 3, none, .move (.tmp 6), false, [], false⟩,
  ⟨some 90, 3, none, .binOp .add 3 (.tmp 88) (.tmp 89) 3, false, [], false⟩,
  ⟨some 91, 0, none, .indexAddr 24 (.tmp 87) (.tmp 90), false, [], false⟩,
  ⟨some 92, 140, none, .load 140 (.tmp 91), false, [], false⟩,
  ⟨some 93, 24, none, .move (.tmp 11), false, [], false⟩,
  ⟨some 94, 3, none, .move (.tmp 13), false, [], false⟩,
  ⟨some 95, 3, none, .move (.tmp 6), false, [], false⟩,
  ⟨some 96, 3, none, .binOp .add 3 (.tmp 94) (.tmp 95) 3, false, [], false⟩,
  ⟨some 97, 3, none, .binOp .sub 3 (.tmp 96) (.const (.int .i64 1)) 3, false, [], false⟩,
  ⟨some 98, 0, none, .indexAddr 24 (.tmp 93) (.tmp 97), false, [], false⟩,
  ⟨some 99, 140, none, .load 140 (.tmp 98), false, [], false⟩,
  ⟨some 100, 24, none, .move (.tmp 10), false, [], false⟩,
  ⟨some 101, 3, none, .move (.tmp 6), false, [], false⟩,
  ⟨some 102, 3, none, .binOp .sub 3 (.tmp 101) (.const (.int .i64 1)) 3, false, [], false⟩,
  ⟨some 103, 0, none, .indexAddr 24 (.tmp 100) (.tmp 102), false, [], false⟩,
  ⟨some 104, 140, none, .load 140 (.tmp 103), false, [], false⟩,
  ⟨some 105, 172, none, .call ⟨.value (.func 166), #[.tmp 92, .tmp 99, .tmp 104], #[140, 140, 140]⟩, true, [], false⟩,
  ⟨some 86, 172, none, .move (.tmp 105), false, [], false⟩,
  ⟨some 106, 140, none, .extract (.tmp 86) 0, false, [], false⟩,
  ⟨some 107, 140, none, .extract (.tmp 86) 1, false, [], false⟩,
  ⟨some 14, 140, none, .assign (.tmp 106), false, [], false⟩,
  ⟨some 15, 140, none, .assign (.tmp 107), false, [], false⟩])
 (.block 3 (.loop (.block 4 (.seq (.ops [⟨some 109, 140, none, .move (.tmp 14), false, [], false⟩,
  ⟨some 110, 24, none, .move (.tmp 10), false, [], false⟩,
  ⟨some 111, 3, none, .move (.tmp 6), false, [], false⟩,
  ⟨some 112, 3, none, .binOp .sub 3 (.tmp 111) (.const (.int .i64 2)) 3, false, [], false⟩,
  ⟨some 113, 0, none, .indexAddr 24 (.tmp 110) (.tmp 112), false, [], false⟩,
  ⟨some 114, 140, none, .load 140 (.tmp 113), false, [], false⟩,
  ⟨some 115, 172, none, .call ⟨.value (.func 167), #[.tmp 109, .tmp 114], #[140, 140]⟩, true, [], false⟩,
  ⟨some 108, 172, none, .move (.tmp 115), false, [], false⟩,
  ⟨some 116, 140, none, .extract (.tmp 108) 0, false, [], false⟩,
  ⟨some 117, 140, none, .extract (.tmp 108) 1, false, [], false⟩,
  ⟨some 16, 140, none, .assign (.tmp 116), false, [], false⟩,
  ⟨some 17, 140, none, .assign (.tmp 117), false, [], false⟩])
 (.seq (.seq (.ops [⟨some 118, 140, none, .move (.tmp 16), false, [], false⟩,
  ⟨some 119, 140, none, .move (.tmp 15), false, [], false⟩,
  ⟨some 120, 4, none, .binOp .lss 140 (.tmp 118) (.tmp 119) 140, false, [], false⟩,
  ⟨some 121, 4, none, .move (.tmp 120), false, [], false⟩,
  ⟨some 122, 140, some (121, false), .move (.tmp 16), false, [], false⟩,
  ⟨some 123, 140, some (121, false), .move (.tmp 15), false, [], false⟩,
  ⟨some 124, 4, some (121, false), .binOp .eql 140 (.tmp 122) (.tmp 123) 140, false, [], false⟩,
  ⟨some 125, 4, some (121, false), .move (.tmp 124), false, [], false⟩,
  ⟨some 126, 140, some (125, true), .move (.tmp 17), false, [], false⟩,
  ⟨some 127, 24, some (125, true), .move (.tmp 11), false, [], false⟩,
  ⟨some 128, 3, some (125, true), .move (.tmp 13), false, [], false⟩,
  ⟨some 129, 3, some (125, true), .move (.tmp 6), false, [], false⟩,
  ⟨some 130, 3, some (125, true), .binOp .add 3 (.tmp 128) (.tmp 129) 3, false, [], false⟩,
  ⟨some 131, 3, some (125, true), .binOp .sub 3 (.tmp 130) (.const (.int .i64 2)) 3, false, [], false⟩,
  ⟨some 132, 0, some (125, true), .indexAddr 24 (.tmp 127) (.tmp 131), false, [], false⟩,
  ⟨some 133, 140, some (125, true), .load 140 (.tmp 132), false, [], false⟩,
  ⟨some 134, 4, some (125, true), .binOp .leq 140 (.tmp 126) (.tmp 133) 140, false, [], false⟩,
  ⟨some 135, 4, some (121, false), .pick (.tmp 125) (.tmp 134) (.const (.bool false)), false, [], false⟩,
  ⟨some 136, 4, none, .pick (.tmp 121) (.const (.bool true)) (.tmp 135), false, [], false⟩])
 (.cond (.tmp 136)
 (.exit 3)
 .skip))
 (.seq (.ops [⟨some 137, 140, none, .move (.tmp 14), false, [], false⟩,
  ⟨some 138, 140, none, .binOp .sub 140 (.tmp 137) (.const (.int .u64 1)) 140, false, [], false⟩,
  ⟨some 14, 140, none, .assign (.tmp 138), false, [], false⟩])
 (.seq (.ops [⟨some 139, 140, none, .move (.tmp 15), false, [], false⟩,
  ⟨some 18, 140, none, .assign (.tmp 139), false, [], false⟩])
 (.seq (.ops [⟨some 140, 140, none, .move (.tmp 15), false, [], false⟩,
  ⟨some 141, 24, none, .move (.tmp 10), false, [], false⟩,
  ⟨some 142, 3, none, .move (.tmp 6), false, [], false⟩,
  ⟨some 143, 3, none, .binOp .sub 3 (.tmp 142) (.const (.int .i64 1)) 3, false, [], false⟩,
  ⟨some 144, 0, none, .indexAddr 24 (.tmp 141) (.tmp 143), false, [], false⟩,
  ⟨some 145, 140, none, .load 140 (.tmp 144), false, [], false⟩,
  ⟨some 146, 140, none, .binOp .add 140 (.tmp 140) (.tmp 145) 140, false, [], false⟩,
  ⟨some 15, 140, none, .assign (.tmp 146), false, [], false⟩])
 (.seq (.ops [⟨some 147, 140, none, .move (.tmp 15), false, [], false⟩,
  ⟨some 148, 140, none, .move (.tmp 18), false, [], false⟩,
  ⟨some 149, 4, none, .binOp .lss 140 (.tmp 147) (.tmp 148) 140, false, [], false⟩])
 (.cond (.tmp 149)
 (.exit 3)
 .skip))))))))))))
 .skip))
 (.seq (.ops [⟨some 150, 24, none, .move (.tmp 11), false, [], false⟩,
  ⟨some 151, 3, none, .move (.tmp 13), false, [], false⟩,
  ⟨some 152, 24, none, .slice 24 (.tmp 150) (some (.tmp 151)) none none, false, [], false⟩,
  ⟨some 153, 24, none, .move (.tmp 10), false, [], false⟩,
  ⟨some 154, 140, none, .move (.tmp 14), false, [], false⟩,
  ⟨some 155, 140, none, .call ⟨.value (.func 168), #[.tmp 152, .tmp 153, .tmp 154], #[24, 24, 140]⟩, true, [], false⟩,
  ⟨some 19, 140, none, .assign (.tmp 155), false, [], false⟩])
 (.seq (.ops [⟨some 20, 140, none, .assign (.const (.int .u64 0)), false, [], false⟩])
 (.seq (.ops [⟨some 157, 24, none, .move (.tmp 11), false, [], false⟩,
  ⟨some 158, 3, none, .move (.tmp 13), false, [], false⟩,
  ⟨some 159, 3, none, .move (.tmp 6), false, [], false⟩,
  ⟨some 160, 3, none, .binOp .add 3 (.tmp 158) (.tmp 159) 3, false, [], false⟩,
  ⟨some 161, 24, none, .move (.tmp 11), false, [], false⟩,
  ⟨some 162, 3, none, .move (.tmp 13), false, [], false⟩,
  ⟨some 163, 3, none, .move (.tmp 6), false, [], false⟩,
  ⟨some 164, 3, none, .binOp .add 3 (.tmp 162) (.tmp 163) 3, false, [], false⟩,
  ⟨some 165, 0, none, .indexAddr 24 (.tmp 161) (.tmp 164), false, [], false⟩,
  ⟨some 166, 140, none, .load 140 (.tmp 165), false, [], false⟩,
  ⟨some 167, 140, none, .move (.tmp 19), false, [], false⟩,
  ⟨some 168, 172, none, .call ⟨.value (.func 162), #[.tmp 166, .tmp 167, .const (.int .u64 0)], #[140, 140, 140]⟩, true, [], false⟩,
  ⟨some 156, 172, none, .move (.tmp 168), false, [], false⟩,
  ⟨some 169, 140, none, .extract (.tmp 156) 0, false, [], false⟩,
  ⟨some 170, 140, none, .extract (.tmp 156) 1, false, [], false⟩,
  ⟨some 171, 0, none, .indexAddr 24 (.tmp 157) (.tmp 160), false, [], false⟩,
  ⟨none, 0, none, .store 140 (.tmp 171) (.tmp 169), true, [], false⟩,
  ⟨some 20, 140, none, .assign (.tmp 170), false, [], false⟩])
 (.seq (.block 5 (.loop (.seq (.seq (.ops [⟨some 172, 140, none, .move (.tmp 20), false, [], false⟩,
  ⟨some 173, 4, none, .binOp .gtr 140 (.tmp 172) (.const (.int .u64 0)) 140, false, [], false⟩])
 (.cond (.tmp 173)
 .skip
 (.exit 5)))
 (.block 6 (.seq (.ops [⟨some 174, 140, none, .move (.tmp 14), false, [], false⟩,
  ⟨some 175, 140, none, .binOp .sub 140 (.tmp 174) (.const (.int .u64 1)) 140, false, [], false⟩,
  ⟨some 14, 140, none, .assign (.tmp 175), false, [], false⟩])
 (.seq (.ops [⟨some 21, 140, none, .assign (.const (.int .u64 0)), false, [], false⟩])
 (.seq (.ops [⟨some 176, 24, none, .move (.tmp 11), false, [], false⟩,
  ⟨some 177, 3, none, .move (.tmp 13), false, [], false⟩,
  ⟨some 178, 24, none, .slice 24 (.tmp 176) (some (.tmp 177)) none none, false, [], false⟩,
  ⟨some 179, 24, none, .move (.tmp 10), false, [], false⟩,
  ⟨some 180, 140, none, .call ⟨.value (.func 159), #[.tmp 178, .tmp 179, .const (.int .u64 1)], #[24, 24, 140]⟩, true, [], false⟩,
  ⟨some 22, 140, none, .assign (.tmp 180), false, [], false⟩])
 (.seq (.ops [⟨some 182, 24, none, .move (.tmp 11), false, [], false⟩,
  ⟨some 183, 3, none, .move (.tmp 13), false, [], false⟩,
  ⟨some 184, 3, none, .move (.tmp 6), false, [], false⟩,
  ⟨some 185, 3, none, .binOp .add 3 (.tmp 183) (.tmp 184) 3, false, [], false⟩,
  ⟨some 186, 24, none, .move (.tmp 11), false, [], false⟩,
  ⟨some 187, 3, none, .move (.tmp 13), false, [], false⟩,
  ⟨some 188, 3, none, .move (.tmp 6), false, [], false⟩,
  ⟨some 189, 3, none, .binOp .add 3 (.tmp 187) (.tmp 188) 3, false, [], false⟩,
  ⟨some 190, 0, none, .indexAddr 24 (.tmp 186) (.tmp 189), false, [], false⟩,
  ⟨some 191, 140, none, .load 140 (.tmp 190), false, [], false⟩,
  ⟨some 192, 140, none, .move (.tmp 22), false, [], false⟩,
  ⟨some 193, 172, none, .call ⟨.value (.func 161), #[.tmp 191, .tmp 192, .const (.int .u64 0)], #[140, 140, 140]⟩, true, [], false⟩,
  ⟨some 181, 172, none, .move (.tmp 193), false, [], false⟩,
  ⟨some 194, 140, none, .extract (.tmp 181) 0, false, [], false⟩,
  ⟨some 195, 140, none, .extract (.tmp 181) 1, false, [], false⟩,
  ⟨some 196, 0, none, .indexAddr 24 (.tmp 182) (.tmp 185), false, [], false⟩,
  ⟨none, 0, none, .store 140 (.tmp 196) (.tmp 194), true, [], false⟩,
  ⟨some 21, 140, none, .assign (.tmp 195), false, [], false⟩])
 (.ops [⟨some 197, 140, none, .move (.tmp 20), false, [], false⟩,
  ⟨some 198, 140, none, .move (.tmp 21), false, [], false⟩,
  ⟨some 199, 140, none, .binOp .sub 140 (.tmp 197) (.tmp 198) 140, false, [], false⟩,
  ⟨some 20, 140, none, .assign (.tmp 199), false, [], false⟩])))))))))
 (.ops [⟨some 200, 24, none, .move (.tmp 12), false, [], false⟩,
  ⟨some 201, 3, none, .move (.tmp 13), false, [], false⟩,
  ⟨some 202, 140, none, .move (.tmp 14), false, [], false⟩,
  ⟨some 203, 0, none, .indexAddr 24 (.tmp 200) (.tmp 201), false, [], false⟩,
  ⟨none, 0, none, .store 140 (.tmp 203) (.tmp 202), true, [], false⟩]))))))))
 (.ops [⟨some 72, 3, none, .move (.tmp 13), false, [], false⟩,
  ⟨some 73, 3, none, .binOp .sub 3 (.tmp 72) (.const (.int .i64 1)) 3, false, [], false⟩,
  ⟨some 13, 3, none, .assign (.tmp 73), false, [], false⟩]))))))
 (.seq (.ops [⟨some 204, 3, none, .move (.tmp 6), false, [], false⟩,
  ⟨some 205, 24, none, .makeSlice 24 (.tmp 204) (.tmp 204), true, [], false⟩,
  ⟨some 23, 24, none, .assign (.tmp 205), false, [], false⟩])
 (.seq (.seq (.ops [⟨some 206, 24, none, .move (.tmp 23), false, [], false⟩,
  ⟨some 207, 3, none, .call ⟨.builtin .len, #[.tmp 206], #[24]⟩, false, [], false⟩,
  ⟨some 208, 3, none, .move (.const (.int .i64 0)), false, [], false⟩])
 (.block 7 (.loop (.seq (.ops [⟨some 209, 0, none, .binOp .lss 3 (.tmp 208) (.tmp 207) 3, false, [], false⟩])
 (.seq (.cond (.tmp 209)
 .skip
 (.exit 7))
 (.seq (.block 8 (.seq (.ops [⟨some 210, 3, none, .move (.tmp 208), false, [], false⟩,
  ⟨some 24, 3, none, .assign (.tmp 210), false, [], false⟩])
 (.ops [⟨some 211, 24, none, .move (.tmp 23), false, [], false⟩,
  ⟨some 212, 3, none, .move (.tmp 24), false, [], false⟩,
  ⟨some 213, 24, none, .move (.tmp 11), false, [], false⟩,
  ⟨some 214, 3, none, .move (.tmp 24), false, [], false⟩,
  ⟨some 215, 0, none, .indexAddr 24 (.tmp 213) (.tmp 214), false, [], false⟩,
  ⟨some 216, 140, none, .load 140 (.tmp 215), false, [], false⟩,
  ⟨some 217, 146, none, .move (.tmp 9), false, [], false⟩,
  ⟨some 218, 140, none, .binOp .shr 140 (.tmp 216) (.tmp 217) 146, false, [], false⟩,
  ⟨some 219, 24, none, .move (.tmp 11), false, [], false⟩,
  ⟨some 220, 3, none, .move (.tmp 24), false, [], false⟩,
  ⟨some 221, 3, none, .binOp .add 3 (.tmp 220) (.const (.int .i64 1)) 3, false, [], false⟩,
  ⟨some 222, 0, none, .indexAddr 24 (.tmp 219) (.tmp 221), false, [], false⟩,
  ⟨some 223, 140, none, .load 140 (.tmp 222), false, [], false⟩,
  ⟨some 224, 140, none, .binOp .shl 140 (.tmp 223) (.const (.int .u64 1)) 146, false, [], false⟩,
  ⟨some 225, 146, none, .move (.tmp 9), false, [], false⟩,
  ⟨some 226, 146, none, .binOp .sub 146 (.const (.int .u64 63)) (.tmp 225) 146, false, [], false⟩,
  ⟨some 227, 140, none, .binOp .shl 140 (.tmp 224) (.tmp 226) 146, false, [], false⟩,
  ⟨some 228, 140, none, .binOp .or 140 (.tmp 218) (.tmp 227) 140, false, [], false⟩,
  ⟨some 229, 0, none, .indexAddr 24 (.tmp 211) (.tmp 212), false, [], false⟩,
  ⟨none, 0, none, .store 140 (.tmp 229) (.tmp 228), true, [], false⟩])))
 (.ops [⟨some 230, 3, none, .binOp .add 3 (.tmp 208) (.const (.int .i64 1)) 3, false, [], false⟩,
  ⟨some 208, 3, none, .move (.tmp 230), false, [], false⟩])))))))
 (.seq (.ops [⟨some 231, 24, none, .move (.tmp 12), false, [], false⟩,
  ⟨some 232, 24, none, .call ⟨.value (.func 160), #[.tmp 231], #[24]⟩, true, [], false⟩,
  ⟨some 233, 24, none, .move (.tmp 23), false, [], false⟩,
  ⟨some 234, 24, none, .call ⟨.value (.func 160), #[.tmp 233], #[24]⟩, true, [], false⟩,
  ⟨some 4, 24, none, .assign (.tmp 232), false, [], false⟩,
  ⟨some 5, 24, none, .assign (.tmp 234), false, [], false⟩])
 .ret))))))))))
theorem k128 : FnOk Tryz.prog 128 235 [.tmp 4, .tmp 5] S128 := ⟨[166, 181, 201], _, Tryz.func128, by kernel_rfl, by kernel_rfl, rfl, rfl⟩
/- venturi/exact.ones -/
def S129 : SC := .seq (.ops [⟨some 0, 24, none, .assign (.const (.slice none 0 0)), false, [], false⟩])
 (.seq (.ops [⟨some 1, 24, none, .buildSlice 24 1 #[(0, .const (.int .u64 1))], true, [], false⟩,
  ⟨some 0, 24, none, .assign (.tmp 1), false, [], false⟩])
 .ret)
theorem k129 : FnOk Tryz.prog 129 2 [.tmp 0] S129 := ⟨[166, 181, 201], _, Tryz.func129, by kernel_rfl, by kernel_rfl, rfl, rfl⟩
/- venturi/exact.size -/
def S131 : SC := .seq (.ops [⟨some 2, 24, none, .assign (.const (.slice none 0 0)), false, [], false⟩])
 (.seq (.seq (.ops [⟨some 3, 2, none, .move (.tmp 0), false, [], false⟩,
  ⟨some 4, 4, none, .binOp .lss 2 (.tmp 3) (.const (.int .i64 0)) 2, false, [], false⟩])
 (.cond (.tmp 4)
 (.seq (.ops [⟨some 5, 2, none, .move (.tmp 0), false, [], false⟩,
  ⟨some 6, 140, none, .convert 2 140 (.tmp 5), false, [], false⟩,
  ⟨some 7, 140, none, .unOp .neg 140 (.tmp 6), false, [], false⟩,
  ⟨some 8, 24, none, .call ⟨.value (.func 153), #[.tmp 7], #[140]⟩, true, [], false⟩,
  ⟨some 2, 24, none, .assign (.tmp 8), false, [], false⟩])
 .ret)
 .skip))
 (.seq (.ops [⟨some 9, 2, none, .move (.tmp 0), false, [], false⟩,
  ⟨some 10, 140, none, .convert 2 140 (.tmp 9), false, [], false⟩,
  ⟨some 11, 24, none, .call ⟨.value (.func 153), #[.tmp 10], #[140]⟩, true, [], false⟩,
  ⟨some 2, 24, none, .assign (.tmp 11), false, [], false⟩])
 .ret))
theorem k131 : FnOk Tryz.prog 131 12 [.tmp 2] S131 := ⟨[166, 181, 201], _, Tryz.func131, by kernel_rfl, by kernel_rfl, rfl, rfl⟩
/- (venturi/exact.Num).over -/
def S132 : SC := .seq (.ops [⟨some 2, 0, none, .box 26 (.tmp 0), false, [], false⟩,
  ⟨some 3, 0, none, .box 26 (.tmp 1), false, [], false⟩,
  ⟨some 4, 0, none, .alloc 26, false, [], false⟩])
 (.seq (.ops [⟨some 8, 26, none, .load 26 (.tmp 2), false, [], false⟩,
  ⟨some 9, 26, none, .load 26 (.tmp 3), false, [], false⟩,
  ⟨some 10, 28, none, .call ⟨.value (.func 38), #[.tmp 8, .tmp 9], #[26, 26]⟩, true, [], false⟩,
  ⟨some 7, 28, none, .move (.tmp 10), false, [], false⟩,
  ⟨some 11, 26, none, .extract (.tmp 7) 0, false, [], false⟩,
  ⟨some 12, 27, none, .extract (.tmp 7) 1, false, [], false⟩,
  ⟨some 5, 0, none, .alloc 26, false, [], false⟩,
  ⟨none, 0, none, .store 26 (.tmp 5) (.tmp 11), true, [], false⟩,
  ⟨some 6, 27, none, .assign (.tmp 12), false, [], false⟩])
 (.seq (.ops [⟨some 13, 26, none, .load 26 (.tmp 5), false, [], false⟩,
  ⟨none, 0, none, .store 26 (.tmp 4) (.tmp 13), true, [], false⟩])
 .ret))
theorem k132 : FnOk Tryz.prog 132 14 [.cell 4 26] S132 := ⟨[166, 181, 201], _, Tryz.func132, by kernel_rfl, by kernel_rfl, rfl, rfl⟩
/- venturi/exact.half -/
def S133 : SC := .seq (.ops [⟨some 0, 0, none, .alloc 26, false, [], false⟩])
 (.seq (.ops [⟨some 1, 24, none, .call ⟨.value (.func 129), #[], #[]⟩, true, [], false⟩,
  ⟨some 2, 24, none, .buildSlice 24 1 #[(0, .const (.int .u64 2))], true, [], false⟩,
  ⟨some 3, 26, none, .build 26 #[(1, .tmp 1), (2, .tmp 2)], false, [], false⟩,
  ⟨none, 0, none, .store 26 (.tmp 0) (.tmp 3), true, [], false⟩])
 .ret)
theorem k133 : FnOk Tryz.prog 133 4 [.cell 0 26] S133 := ⟨[166, 181, 201], _, Tryz.func133, by kernel_rfl, by kernel_rfl, rfl, rfl⟩
/- (venturi/exact.Num).root -/
def S135 : SC := .seq (.ops [⟨some 1, 0, none, .box 26 (.tmp 0), false, [], false⟩,
  ⟨some 2, 0, none, .alloc 26, false, [], false⟩])
 (.seq (.ops [⟨some 5, 26, none, .load 26 (.tmp 1), false, [], false⟩,
  ⟨some 6, 26, none, .call ⟨.value (.func 45), #[.tmp 5], #[26]⟩, true, [], false⟩,
  ⟨none, 0, none, .store 26 (.tmp 1) (.tmp 6), true, [], false⟩])
 (.seq (.seq (.ops [⟨some 7, 26, none, .load 26 (.tmp 1), false, [], false⟩,
  ⟨some 8, 3, none, .call ⟨.value (.func 36), #[.tmp 7], #[26]⟩, true, [], false⟩,
  ⟨some 9, 4, none, .binOp .eql 3 (.tmp 8) (.const (.int .i64 0)) 3, false, [], false⟩])
 (.cond (.tmp 9)
 (.seq (.ops [⟨some 10, 26, none, .load 26 (.tmp 1), false, [], false⟩,
  ⟨none, 0, none, .store 26 (.tmp 2) (.tmp 10), true, [], false⟩])
 .ret)
 .skip))
 (.seq (.ops [⟨some 11, 0, none, .fieldAddr 26 (.tmp 1) 1, false, [], false⟩,
  ⟨some 12, 24, none, .load 24 (.tmp 11), false, [], false⟩,
  ⟨some 13, 3, none, .call ⟨.builtin .len, #[.tmp 12], #[24]⟩, false, [], false⟩,
  ⟨some 14, 3, none, .binOp .quo 3 (.tmp 13) (.const (.int .i64 2)) 3, false, [], false⟩,
  ⟨some 15, 3, none, .binOp .add 3 (.tmp 14) (.const (.int .i64 1)) 3, false, [], false⟩,
  ⟨some 16, 24, none, .makeSlice 24 (.tmp 15) (.tmp 15), true, [], false⟩,
  ⟨some 17, 26, none, .build 26 #[(1, .tmp 16)], false, [], false⟩,
  ⟨some 3, 0, none, .alloc 26, false, [], false⟩,
  ⟨none, 0, none, .store 26 (.tmp 3) (.tmp 17), true, [], false⟩])
 (.seq (.ops [⟨some 18, 0, none, .fieldAddr 26 (.tmp 3) 1, false, [], false⟩,
  ⟨some 19, 24, none, .load 24 (.tmp 18), false, [], false⟩,
  ⟨some 20, 0, none, .fieldAddr 26 (.tmp 1) 1, false, [], false⟩,
  ⟨some 21, 24, none, .load 24 (.tmp 20), false, [], false⟩,
  ⟨some 22, 3, none, .call ⟨.builtin .len, #[.tmp 21], #[24]⟩, false, [], false⟩,
  ⟨some 23, 3, none, .binOp .quo 3 (.tmp 22) (.const (.int .i64 2)) 3, false, [], false⟩,
  ⟨some 24, 0, none, .fieldAddr 26 (.tmp 1) 1, false, [], false⟩,
  ⟨some 25, 24, none, .load 24 (.tmp 24), false, [], false⟩,
  ⟨some 26, 3, none, .call ⟨.builtin .len, #[.tmp 25], #[24]⟩, false, [], false⟩,
  ⟨some 27, 3, none, .binOp .rem 3 (.tmp 26) (.const (.int .i64 2)) 3, false, [], false⟩,
  ⟨some 28, 3, none, .binOp .mul 3 (.const (.int .i64 32)) (.tmp 27) 3, false, [], false⟩,
  ⟨some 29, 140, none, .binOp .shl 140 (.const (.int .u64 1)) (.tmp 28) 3, false, [], false⟩,
  ⟨some 30, 0, none, .indexAddr 24 (.tmp 19) (.tmp 23), false, [], false⟩,
  ⟨none, 0, none, .store 140 (.tmp 30) (.tmp 29), true, [], false⟩])
 (.block 0 (.loop (.block 1 (.seq (.ops [⟨some 31, 26, none, .load 26 (.tmp 3), false, [], false⟩,
  ⟨some 32, 26, none, .load 26 (.tmp 1), false, [], false⟩,
  ⟨some 33, 26, none, .load 26 (.tmp 3), false, [], false⟩,
  ⟨some 4, 0, none, .alloc 26, false, [], false⟩,
  ⟨some 34, 26, none, .call ⟨.value (.func 132), #[.tmp 32, .tmp 33], #[26, 26]⟩, true, [], true⟩,
  ⟨some 35, 26, none, .call ⟨.value (.func 29), #[.tmp 31, .tmp 34], #[26, 26]⟩, true, [], false⟩,
  ⟨some 36, 26, none, .call ⟨.value (.func 133), #[], #[]⟩, true, [], false⟩,
  ⟨some 37, 26, none, .call ⟨.value (.func 25), #[.tmp 35, .tmp 36], #[26, 26]⟩, true, [], false⟩,
  ⟨some 38, 26, none, .call ⟨.value (.func 45), #[.tmp 37], #[26]⟩, true, [], false⟩,
  ⟨none, 0, none, .store 26 (.tmp 4) (.tmp 38), true, [], false⟩])
 (.seq (.seq (.ops [⟨some 39, 26, none, .load 26 (.tmp 4), false, [], false⟩,
  ⟨some 40, 26, none, .load 26 (.tmp 3), false, [], false⟩,
  ⟨some 41, 3, none, .call ⟨.value (.func 34), #[.tmp 39, .tmp 40], #[26, 26]⟩, true, [], false⟩,
  ⟨some 42, 4, none, .binOp .geq 3 (.tmp 41) (.const (.int .i64 0)) 3, false, [], false⟩])
 (.cond (.tmp 42)
 (.seq (.ops [⟨some 43, 26, none, .load 26 (.tmp 3), false, [], false⟩,
  ⟨none, 0, none, .store 26 (.tmp 2) (.tmp 43), true, [], false⟩])
 .ret)
 .skip))
 (.ops [⟨some 44, 26, none, .load 26 (.tmp 4), false, [], false⟩,
  ⟨none, 0, none, .store 26 (.tmp 3) (.tmp 44), true, [], false⟩]))))))))))
theorem k135 : FnOk Tryz.prog 135 45 [.cell 2 26] S135 := ⟨[166, 181, 201], _, Tryz.func135, by kernel_rfl, by kernel_rfl, rfl, rfl⟩
/- (venturi/exact.Num).ceil -/
def S136 : SC := .seq (.ops [⟨some 1, 0, none, .box 26 (.tmp 0), false, [], false⟩,
  ⟨some 2, 0, none, .alloc 26, false, [], false⟩])
 (.seq (.ops [⟨some 3, 26, none, .load 26 (.tmp 1), false, [], false⟩,
  ⟨some 4, 26, none, .call ⟨.value (.func 41), #[.tmp 3], #[26]⟩, true, [], false⟩,
  ⟨some 5, 26, none, .call ⟨.value (.func 45), #[.tmp 4], #[26]⟩, true, [], false⟩,
  ⟨some 6, 26, none, .call ⟨.value (.func 41), #[.tmp 5], #[26]⟩, true, [], false⟩,
  ⟨none, 0, none, .store 26 (.tmp 2) (.tmp 6), true, [], false⟩])
 .ret)
theorem k136 : FnOk Tryz.prog 136 7 [.cell 2 26] S136 := ⟨[166, 181, 201], _, Tryz.func136, by kernel_rfl, by kernel_rfl, rfl, rfl⟩
/- (venturi/exact.limbs).text -/
def S139 : SC := .seq (.ops [⟨some 2, 9, none, .assign (.const (.string ⟨#[]⟩)), false, [], false⟩])
 (.seq (.seq (.ops [⟨some 7, 24, none, .move (.tmp 0), false, [], false⟩,
  ⟨some 8, 3, none, .call ⟨.builtin .len, #[.tmp 7], #[24]⟩, false, [], false⟩,
  ⟨some 9, 4, none, .binOp .eql 3 (.tmp 8) (.const (.int .i64 0)) 3, false, [], false⟩])
 (.cond (.tmp 9)
 (.seq (.ops [⟨some 2, 9, none, .assign (.const (.string ⟨#[48]⟩)), false, [], false⟩])
 .ret)
 .skip))
 (.seq (.ops [⟨some 3, 113, none, .assign (.const (.slice none 0 0)), false, [], false⟩])
 (.seq (.block 0 (.loop (.seq (.seq (.ops [⟨some 10, 24, none, .move (.tmp 0), false, [], false⟩,
  ⟨some 11, 3, none, .call ⟨.builtin .len, #[.tmp 10], #[24]⟩, false, [], false⟩,
  ⟨some 12, 4, none, .binOp .gtr 3 (.tmp 11) (.const (.int .i64 0)) 3, false, [], false⟩])
 (.cond (.tmp 12)
 .skip
 (.exit 0)))
 (.block 1 (.seq (.ops [⟨some 4, 140, none, .assign (.const (.int .u64 0)), false, [], false⟩])
 (.seq (.ops [⟨some 14, 24, none, .move (.tmp 0), false, [], false⟩,
  ⟨some 15, 174, none, .call ⟨.value (.func 163), #[.tmp 14, .const (.int .u64 10000000000000000000)], #[24, 140]⟩, true, [], false⟩,
  ⟨some 13, 174, none, .move (.tmp 15), false, [], false⟩,
  ⟨some 16, 24, none, .extract (.tmp 13) 0, false, [], false⟩,
  ⟨some 17, 140, none, .extract (.tmp 13) 1, false, [], false⟩,
  ⟨some 0, 24, none, .assign (.tmp 16), false, [], false⟩,
  ⟨some 4, 140, none, .assign (.tmp 17), false, [], false⟩])
 (.seq (.ops [⟨some 5, 0, none, .alloc 181, true, [], false⟩])
 (.seq (.seq (.ops [⟨some 18, 3, none, .move (.const (.int .i64 0)), false, [], false⟩])
 (.block 2 (.loop (.seq (.ops [⟨some 19, 0, none, .binOp .lss 3 (.tmp 18) (.const (.int .i64 19)) 3, false, [], false⟩])
 (.seq (.cond (.tmp 19)
 .skip
 (.exit 2))
 (.seq (.block 3 (.seq (.ops [⟨some 20, 3, none, .move (.tmp 18), false, [], false⟩,
  ⟨some 6, 3, none, .assign (.tmp 20), false, [], false⟩])
 (.seq (.ops [⟨some 21, 3, none, .move (.tmp 6), false, [], false⟩,
  ⟨some 22, 3, none, .binOp .sub 3 (.const (.int .i64 18)) (.tmp 21) 3, false, [], false⟩,
  ⟨some 23, 140, none, .move (.tmp 4), false, [], false⟩,
  ⟨some 24, 140, none, .binOp .rem 140 (.tmp 23) (.const (.int .u64 10)) 140, false, [], false⟩,
  ⟨some 25, 140, none, .binOp .add 140 (.const (.int .u64 48)) (.tmp 24) 140, false, [], false⟩,
  ⟨some 26, 5, none, .convert 140 5 (.tmp 25), false, [], false⟩,
  ⟨some 27, 0, none, .indexAddr 181 (.tmp 5) (.tmp 22), false, [], false⟩,
  ⟨none, 0, none, .store 5 (.tmp 27) (.tmp 26), true, [], false⟩])
 (.ops [⟨some 28, 140, none, .move (.tmp 4), false, [], false⟩,
  ⟨some 29, 140, none, .binOp .quo 140 (.tmp 28) (.const (.int .u64 10)) 140, false, [], false⟩,
  ⟨some 4, 140, none, .assign (.tmp 29), false, [], false⟩]))))
 (.ops [⟨some 30, 3, none, .binOp .add 3 (.tmp 18) (.const (.int .i64 1)) 3, false, [], false⟩,
  ⟨some 18, 3, none, .move (.tmp 30), false, [], false⟩])))))))
 (.ops [⟨some 31, 113, none, .move (.tmp 3), false, [], false⟩,
  ⟨some 32, 166, none, .slice 181 (.tmp 5) none none none, false, [], false⟩,
  ⟨some 33, 9, none, .convert 166 9 (.tmp 32), true, [], false⟩,
  ⟨some 34, 113, none, .buildSlice 113 1 #[(0, .tmp 33)], true, [], false⟩,
  ⟨some 35, 113, none, .call ⟨.builtin .append, #[.tmp 31, .tmp 34], #[113, 113]⟩, true, [], false⟩,
  ⟨some 3, 113, none, .assign (.tmp 35), false, [], false⟩])))))))))
 (.seq (.ops [⟨some 36, 113, none, .move (.tmp 3), false, [], false⟩,
  ⟨some 37, 0, none, .call ⟨.value (.func 172), #[.tmp 36], #[113]⟩, true, [], false⟩])
 (.seq (.ops [⟨some 38, 113, none, .move (.tmp 3), false, [], false⟩,
  ⟨some 39, 9, none, .call ⟨.value (.func 174), #[.tmp 38, .const (.string ⟨#[]⟩)], #[113, 9]⟩, true, [], false⟩,
  ⟨some 40, 9, none, .call ⟨.value (.func 173), #[.tmp 39, .const (.string ⟨#[48]⟩)], #[9, 9]⟩, true, [], false⟩,
  ⟨some 2, 9, none, .assign (.tmp 40), false, [], false⟩])
 .ret)))))
theorem k139 : FnOk Tryz.prog 139 41 [.tmp 2] S139 := ⟨[166, 181, 201], _, Tryz.func139, by kernel_rfl, by kernel_rfl, rfl, rfl⟩
/- (venturi/exact.limbs).strip -/
def S140 : SC := .seq (.ops [⟨some 4, 24, none, .assign (.const (.slice none 0 0)), false, [], false⟩,
  ⟨some 5, 3, none, .assign (.const (.int .i64 0)), false, [], false⟩])
 (.seq (.ops [⟨some 6, 3, none, .assign (.const (.int .i64 0)), false, [], false⟩])
 (.block 0 (.loop (.seq (.block 1 (.seq (.ops [⟨some 12, 24, none, .move (.tmp 0), false, [], false⟩,
  ⟨some 13, 140, none, .move (.tmp 1), false, [], false⟩,
  ⟨some 14, 174, none, .call ⟨.value (.func 163), #[.tmp 12, .tmp 13], #[24, 140]⟩, true, [], false⟩,
  ⟨some 11, 174, none, .move (.tmp 14), false, [], false⟩,
  ⟨some 15, 24, none, .extract (.tmp 11) 0, false, [], false⟩,
  ⟨some 16, 140, none, .extract (.tmp 11) 1, false, [], false⟩,
  ⟨some 7, 24, none, .assign (.tmp 15), false, [], false⟩,
  ⟨some 8, 140, none, .assign (.tmp 16), false, [], false⟩])
 (.seq (.seq (.ops [⟨some 17, 140, none, .move (.tmp 8), false, [], false⟩,
  ⟨some 18, 4, none, .binOp .gtr 140 (.tmp 17) (.const (.int .u64 0)) 140, false, [], false⟩])
 (.cond (.tmp 18)
 (.seq (.ops [⟨some 19, 24, none, .move (.tmp 0), false, [], false⟩,
  ⟨some 20, 3, none, .move (.tmp 6), false, [], false⟩,
  ⟨some 4, 24, none, .assign (.tmp 19), false, [], false⟩,
  ⟨some 5, 3, none, .assign (.tmp 20), false, [], false⟩])
 .ret)
 .skip))
 (.ops [⟨some 21, 24, none, .move (.tmp 7), false, [], false⟩,
  ⟨some 0, 24, none, .assign (.tmp 21), false, [], false⟩]))))
 (.ops [⟨some 9, 3, none, .move (.tmp 6), false, [], false⟩,
  ⟨some 10, 3, none, .binOp .add 3 (.tmp 9) (.const (.int .i64 1)) 3, false, [], false⟩,
  ⟨some 6, 3, none, .assign (.tmp 10), false, [], false⟩])))))
theorem k140 : FnOk Tryz.prog 140 22 [.tmp 4, .tmp 5] S140 := ⟨[166, 181, 201], _, Tryz.func140, by kernel_rfl, by kernel_rfl, rfl, rfl⟩
/- (venturi/exact.limbs).isOne -/
def S141 : SC := .seq (.ops [⟨some 2, 4, none, .assign (.const (.bool false)), false, [], false⟩])
 (.seq (.ops [⟨some 3, 24, none, .move (.tmp 0), false, [], false⟩,
  ⟨some 4, 3, none, .call ⟨.builtin .len, #[.tmp 3], #[24]⟩, false, [], false⟩,
  ⟨some 5, 4, none, .binOp .eql 3 (.tmp 4) (.const (.int .i64 1)) 3, false, [], false⟩,
  ⟨some 6, 4, none, .move (.tmp 5), false, [], false⟩,
  ⟨some 7, 24, some (6, true), .move (.tmp 0), false, [], false⟩,
  ⟨some 8, 0, some (6, true), .indexAddr 24 (.tmp 7) (.const (.int .i64 0)), false, [], false⟩,
  ⟨some 9, 140, some (6, true), .load 140 (.tmp 8), false, [], false⟩,
  ⟨some 10, 4, some (6, true), .binOp .eql 140 (.tmp 9) (.const (.int .u64 1)) 140, false, [], false⟩,
  ⟨some 11, 4, none, .pick (.tmp 6) (.tmp 10) (.const (.bool false)), false, [], false⟩,
  ⟨some 2, 4, none, .assign (.tmp 11), false, [], false⟩])
 .ret)
theorem k141 : FnOk Tryz.prog 141 12 [.tmp 2] S141 := ⟨[166, 181, 201], _, Tryz.func141, by kernel_rfl, by kernel_rfl, rfl, rfl⟩
/- (venturi/exact.Box).corners -/
def S143 : SC := .seq (.ops [⟨some 3, 0, none, .box 63 (.tmp 0), false, [], false⟩,
  ⟨some 4, 0, none, .box 63 (.tmp 1), false, [], false⟩,
  ⟨some 6, 0, none, .alloc 63, false, [], false⟩])
 (.seq (.ops [⟨some 7, 97, none, .move (.tmp 2), false, [], false⟩,
  ⟨some 8, 0, none, .fieldAddr 63 (.tmp 3) 0, false, [], false⟩,
  ⟨some 9, 26, none, .load 26 (.tmp 8), false, [], false⟩,
  ⟨some 10, 0, none, .fieldAddr 63 (.tmp 4) 0, false, [], false⟩,
  ⟨some 11, 26, none, .load 26 (.tmp 10), false, [], false⟩,
  ⟨some 13, 97, none, .move (.tmp 2), false, [], false⟩,
  ⟨some 14, 0, none, .fieldAddr 63 (.tmp 3) 0, false, [], false⟩,
  ⟨some 15, 26, none, .load 26 (.tmp 14), false, [], false⟩,
  ⟨some 16, 0, none, .fieldAddr 63 (.tmp 4) 1, false, [], false⟩,
  ⟨some 17, 26, none, .load 26 (.tmp 16), false, [], false⟩,
  ⟨some 19, 97, none, .move (.tmp 2), false, [], false⟩,
  ⟨some 20, 0, none, .fieldAddr 63 (.tmp 3) 1, false, [], false⟩,
  ⟨some 21, 26, none, .load 26 (.tmp 20), false, [], false⟩,
  ⟨some 22, 0, none, .fieldAddr 63 (.tmp 4) 0, false, [], false⟩,
  ⟨some 23, 26, none, .load 26 (.tmp 22), false, [], false⟩,
  ⟨some 25, 97, none, .move (.tmp 2), false, [], false⟩,
  ⟨some 26, 0, none, .fieldAddr 63 (.tmp 3) 1, false, [], false⟩,
  ⟨some 27, 26, none, .load 26 (.tmp 26), false, [], false⟩,
  ⟨some 28, 0, none, .fieldAddr 63 (.tmp 4) 1, false, [], false⟩,
  ⟨some 29, 26, none, .load 26 (.tmp 28), false, [], false⟩,
  ⟨some 12, 26, none, .call ⟨.value (.tmp 7), #[.tmp 9, .tmp 11], #[26, 26]⟩, true, [], true⟩,
  ⟨some 18, 26, none, .call ⟨.value (.tmp 13), #[.tmp 15, .tmp 17], #[26, 26]⟩, true, [], true⟩,
  ⟨some 24, 26, none, .call ⟨.value (.tmp 19), #[.tmp 21, .tmp 23], #[26, 26]⟩, true, [], true⟩,
  ⟨some 30, 26, none, .call ⟨.value (.tmp 25), #[.tmp 27, .tmp 29], #[26, 26]⟩, true, [], false⟩,
  ⟨some 31, 95, none, .buildSlice 95 3 #[(0, .tmp 18), (1, .tmp 24), (2, .tmp 30)], true, [], false⟩,
  ⟨some 32, 63, none, .call ⟨.value (.func 144), #[.tmp 12, .tmp 31], #[26, 95]⟩, true, [], false⟩,
  ⟨none, 0, none, .store 63 (.tmp 6) (.tmp 32), true, [], false⟩])
 .ret)
theorem k143 : FnOk Tryz.prog 143 33 [.cell 6 63] S143 := ⟨[166, 181, 201], _, Tryz.func143, by kernel_rfl, by kernel_rfl, rfl, rfl⟩
/- venturi/exact.span -/
def S144 : SC := .seq (.ops [⟨some 2, 0, none, .box 26 (.tmp 0), false, [], false⟩,
  ⟨some 4, 0, none, .alloc 63, false, [], false⟩])
 (.seq (.ops [⟨some 6, 26, none, .load 26 (.tmp 2), false, [], false⟩,
  ⟨some 7, 95, none, .buildSlice 95 1 #[(0, .tmp 6)], true, [], false⟩,
  ⟨some 8, 95, none, .move (.tmp 1), false, [], false⟩,
  ⟨some 9, 95, none, .call ⟨.builtin .append, #[.tmp 7, .tmp 8], #[95, 95]⟩, true, [], false⟩,
  ⟨some 5, 95, none, .assign (.tmp 9), false, [], false⟩])
 (.seq (.ops [⟨some 10, 95, none, .move (.tmp 5), false, [], false⟩,
  ⟨some 11, 26, none, .call ⟨.value (.func 181), #[.tmp 10, .func 34], #[95, 196]⟩, true, [], false⟩,
  ⟨some 12, 95, none, .move (.tmp 5), false, [], false⟩,
  ⟨some 13, 26, none, .call ⟨.value (.func 182), #[.tmp 12, .func 34], #[95, 196]⟩, true, [], false⟩,
  ⟨some 14, 63, none, .build 63 #[(0, .tmp 11), (1, .tmp 13)], false, [], false⟩,
  ⟨none, 0, none, .store 63 (.tmp 4) (.tmp 14), true, [], false⟩])
 .ret))
theorem k144 : FnOk Tryz.prog 144 15 [.cell 4 63] S144 := ⟨[166, 181, 201], _, Tryz.func144, by kernel_rfl, by kernel_rfl, rfl, rfl⟩
/- slices.Backward[[]venturi/exact.Num,venturi/exact.Num] -/
def S149 : SC := .seq (.ops [⟨some 1, 0, none, .box 95 (.tmp 0), false, [], false⟩,
  ⟨some 2, 164, none, .assign (.const .nilFunc), false, [], false⟩])
 (.seq (.ops [⟨some 3, 163, none, .makeFunc (.func 183) #[] #[.tmp 1], true, [], false⟩,
  ⟨some 2, 164, none, .assign (.tmp 3), false, [], false⟩])
 .ret)
theorem k149 : FnOk Tryz.prog 149 4 [.tmp 2] S149 := ⟨[166, 181, 201], _, Tryz.func149, by kernel_rfl, by kernel_rfl, rfl, rfl⟩
/- (venturi/exact.limbs).gcd -/
def S152 : SC := .seq (.ops [⟨some 4, 24, none, .assign (.const (.slice none 0 0)), false, [], false⟩])
 (.seq (.block 0 (.loop (.seq (.seq (.ops [⟨some 9, 24, none, .move (.tmp 1), false, [], false⟩,
  ⟨some 10, 3, none, .call ⟨.builtin .len, #[.tmp 9], #[24]⟩, false, [], false⟩,
  ⟨some 11, 4, none, .binOp .gtr 3 (.tmp 10) (.const (.int .i64 0)) 3, false, [], false⟩])
 (.cond (.tmp 11)
 .skip
 (.exit 0)))
 (.block 1 (.seq (.seq (.ops [⟨some 12, 24, none, .move (.tmp 0), false, [], false⟩,
  ⟨some 13, 3, none, .call ⟨.builtin .len, #[.tmp 12], #[24]⟩, false, [], false⟩,
  ⟨some 14, 4, none, .binOp .eql 3 (.tmp 13) (.const (.int .i64 1)) 3, false, [], false⟩,
  ⟨some 15, 4, none, .move (.tmp 14), false, [], false⟩,
  ⟨some 16, 24, some (15, true), .move (.tmp 1), false, [], false⟩,
  ⟨some 17, 3, some (15, true), .call ⟨.builtin .len, #[.tmp 16], #[24]⟩, false, [], false⟩,
  ⟨some 18, 4, some (15, true), .binOp .eql 3 (.tmp 17) (.const (.int .i64 1)) 3, false, [], false⟩,
  ⟨some 19, 4, none, .pick (.tmp 15) (.tmp 18) (.const (.bool false)), false, [], false⟩])
 (.cond (.tmp 19)
 (.seq (.ops [⟨some 20, 24, none, .move (.tmp 0), false, [], false⟩,
  ⟨some 21, 0, none, .indexAddr 24 (.tmp 20) (.const (.int .i64 0)), false, [], false⟩,
  ⟨some 22, 140, none, .load 140 (.tmp 21), false, [], false⟩,
  ⟨some 23, 24, none, .move (.tmp 1), false, [], false⟩,
  ⟨some 24, 0, none, .indexAddr 24 (.tmp 23) (.const (.int .i64 0)), false, [], false⟩,
  ⟨some 25, 140, none, .load 140 (.tmp 24), false, [], false⟩,
  ⟨some 5, 140, none, .assign (.tmp 22), false, [], false⟩,
  ⟨some 6, 140, none, .assign (.tmp 25), false, [], false⟩])
 (.seq (.block 2 (.loop (.seq (.seq (.ops [⟨some 26, 140, none, .move (.tmp 6), false, [], false⟩,
  ⟨some 27, 4, none, .binOp .gtr 140 (.tmp 26) (.const (.int .u64 0)) 140, false, [], false⟩])
 (.cond (.tmp 27)
 .skip
 (.exit 2)))
 (.block 3 (.ops [⟨some 28, 140, none, .move (.tmp 6), false, [], false⟩,
  ⟨some 29, 140, none, .move (.tmp 5), false, [], false⟩,
  ⟨some 30, 140, none, .move (.tmp 6), false, [], false⟩,
  ⟨some 31, 140, none, .binOp .rem 140 (.tmp 29) (.tmp 30) 140, false, [], false⟩,
  ⟨some 5, 140, none, .assign (.tmp 28), true, [], false⟩,
  ⟨some 6, 140, none, .assign (.tmp 31), true, [], false⟩])))))
 (.seq (.ops [⟨some 32, 140, none, .move (.tmp 5), false, [], false⟩,
  ⟨some 33, 24, none, .buildSlice 24 1 #[(0, .tmp 32)], true, [], false⟩,
  ⟨some 4, 24, none, .assign (.tmp 33), false, [], false⟩])
 .ret)))
 .skip))
 (.seq (.ops [⟨some 35, 24, none, .move (.tmp 0), false, [], false⟩,
  ⟨some 36, 24, none, .move (.tmp 1), false, [], false⟩,
  ⟨some 37, 151, none, .call ⟨.value (.func 128), #[.tmp 35, .tmp 36], #[24, 24]⟩, true, [], false⟩,
  ⟨some 34, 151, none, .move (.tmp 37), false, [], false⟩,
  ⟨some 38, 24, none, .extract (.tmp 34) 0, false, [], false⟩,
  ⟨some 39, 24, none, .extract (.tmp 34) 1, false, [], false⟩,
  ⟨some 7, 24, none, .assign (.tmp 38), false, [], false⟩,
  ⟨some 8, 24, none, .assign (.tmp 39), false, [], false⟩])
 (.ops [⟨some 40, 24, none, .move (.tmp 1), false, [], false⟩,
  ⟨some 41, 24, none, .move (.tmp 8), false, [], false⟩,
  ⟨some 0, 24, none, .assign (.tmp 40), false, [], false⟩,
  ⟨some 1, 24, none, .assign (.tmp 41), false, [], false⟩])))))))
 (.seq (.ops [⟨some 42, 24, none, .move (.tmp 0), false, [], false⟩,
  ⟨some 4, 24, none, .assign (.tmp 42), false, [], false⟩])
 .ret))
theorem k152 : FnOk Tryz.prog 152 43 [.tmp 4] S152 := ⟨[166, 181, 201], _, Tryz.func152, by kernel_rfl, by kernel_rfl, rfl, rfl⟩
/- venturi/exact.limbsOf -/
def S153 : SC := .seq (.ops [⟨some 2, 24, none, .assign (.const (.slice none 0 0)), false, [], false⟩])
 (.seq (.seq (.ops [⟨some 3, 140, none, .move (.tmp 0), false, [], false⟩,
  ⟨some 4, 4, none, .binOp .eql 140 (.tmp 3) (.const (.int .u64 0)) 140, false, [], false⟩])
 (.cond (.tmp 4)
 (.seq (.ops [⟨some 2, 24, none, .assign (.const (.slice none 0 0)), false, [], false⟩])
 .ret)
 .skip))
 (.seq (.ops [⟨some 5, 140, none, .move (.tmp 0), false, [], false⟩,
  ⟨some 6, 24, none, .buildSlice 24 1 #[(0, .tmp 5)], true, [], false⟩,
  ⟨some 2, 24, none, .assign (.tmp 6), false, [], false⟩])
 .ret))
theorem k153 : FnOk Tryz.prog 153 7 [.tmp 2] S153 := ⟨[166, 181, 201], _, Tryz.func153, by kernel_rfl, by kernel_rfl, rfl, rfl⟩
/- (venturi/exact.limbs).gain -/
def S159 : SC := .seq (.ops [⟨some 6, 140, none, .assign (.const (.int .u64 0)), false, [], false⟩])
 (.seq (.ops [⟨some 7, 140, none, .assign (.const (.int .u64 0)), false, [], false⟩])
 (.seq (.seq (.ops [⟨some 13, 24, none, .move (.tmp 1), false, [], false⟩,
  ⟨some 14, 3, none, .call ⟨.builtin .len, #[.tmp 13], #[24]⟩, false, [], false⟩,
  ⟨some 15, 3, none, .move (.const (.int .i64 0)), false, [], false⟩])
 (.block 0 (.loop (.seq (.ops [⟨some 16, 0, none, .binOp .lss 3 (.tmp 15) (.tmp 14) 3, false, [], false⟩])
 (.seq (.cond (.tmp 16)
 .skip
 (.exit 0))
 (.seq (.block 1 (.seq (.ops [⟨some 17, 3, none, .move (.tmp 15), false, [], false⟩,
  ⟨some 18, 0, none, .indexAddr 24 (.tmp 13) (.tmp 15), false, [], false⟩,
  ⟨some 19, 140, none, .load 140 (.tmp 18), false, [], false⟩,
  ⟨some 8, 3, none, .assign (.tmp 17), false, [], false⟩,
  ⟨some 9, 140, none, .assign (.tmp 19), false, [], false⟩])
 (.seq (.ops [⟨some 21, 140, none, .move (.tmp 2), false, [], false⟩,
  ⟨some 22, 140, none, .move (.tmp 9), false, [], false⟩,
  ⟨some 23, 172, none, .call ⟨.value (.func 167), #[.tmp 21, .tmp 22], #[140, 140]⟩, true, [], false⟩,
  ⟨some 20, 172, none, .move (.tmp 23), false, [], false⟩,
  ⟨some 24, 140, none, .extract (.tmp 20) 0, false, [], false⟩,
  ⟨some 25, 140, none, .extract (.tmp 20) 1, false, [], false⟩,
  ⟨some 10, 140, none, .assign (.tmp 24), false, [], false⟩,
  ⟨some 11, 140, none, .assign (.tmp 25), false, [], false⟩])
 (.seq (.ops [⟨some 27, 140, none, .move (.tmp 11), false, [], false⟩,
  ⟨some 28, 24, none, .move (.tmp 0), false, [], false⟩,
  ⟨some 29, 3, none, .move (.tmp 8), false, [], false⟩,
  ⟨some 30, 0, none, .indexAddr 24 (.tmp 28) (.tmp 29), false, [], false⟩,
  ⟨some 31, 140, none, .load 140 (.tmp 30), false, [], false⟩,
  ⟨some 32, 172, none, .call ⟨.value (.func 161), #[.tmp 27, .tmp 31, .const (.int .u64 0)], #[140, 140, 140]⟩, true, [], false⟩,
  ⟨some 26, 172, none, .move (.tmp 32), false, [], false⟩,
  ⟨some 33, 140, none, .extract (.tmp 26) 0, false, [], false⟩,
  ⟨some 34, 140, none, .extract (.tmp 26) 1, false, [], false⟩,
  ⟨some 11, 140, none, .assign (.tmp 33), false, [], false⟩,
  ⟨some 12, 140, none, .assign (.tmp 34), false, [], false⟩])
 (.seq (.ops [⟨some 35, 140, none, .move (.tmp 10), false, [], false⟩,
  ⟨some 36, 140, none, .move (.tmp 12), false, [], false⟩,
  ⟨some 37, 140, none, .binOp .add 140 (.tmp 35) (.tmp 36) 140, false, [], false⟩,
  ⟨some 10, 140, none, .assign (.tmp 37), false, [], false⟩])
 (.seq (.ops [⟨some 39, 140, none, .move (.tmp 11), false, [], false⟩,
  ⟨some 40, 140, none, .move (.tmp 7), false, [], false⟩,
  ⟨some 41, 172, none, .call ⟨.value (.func 161), #[.tmp 39, .tmp 40, .const (.int .u64 0)], #[140, 140, 140]⟩, true, [], false⟩,
  ⟨some 38, 172, none, .move (.tmp 41), false, [], false⟩,
  ⟨some 42, 140, none, .extract (.tmp 38) 0, false, [], false⟩,
  ⟨some 43, 140, none, .extract (.tmp 38) 1, false, [], false⟩,
  ⟨some 11, 140, none, .assign (.tmp 42), false, [], false⟩,
  ⟨some 12, 140, none, .assign (.tmp 43), false, [], false⟩])
 (.ops [⟨some 44, 24, none, .move (.tmp 0), false, [], false⟩,
  ⟨some 45, 3, none, .move (.tmp 8), false, [], false⟩,
  ⟨some 46, 140, none, .move (.tmp 11), false, [], false⟩,
  ⟨some 47, 140, none, .move (.tmp 10), false, [], false⟩,
  ⟨some 48, 140, none, .move (.tmp 12), false, [], false⟩,
  ⟨some 49, 140, none, .binOp .add 140 (.tmp 47) (.tmp 48) 140, false, [], false⟩,
  ⟨some 50, 0, none, .indexAddr 24 (.tmp 44) (.tmp 45), false, [], false⟩,
  ⟨none, 0, none, .store 140 (.tmp 50) (.tmp 46), true, [], false⟩,
  ⟨some 7, 140, none, .assign (.tmp 49), false, [], false⟩])))))))
 (.ops [⟨some 51, 3, none, .binOp .add 3 (.tmp 15) (.const (.int .i64 1)) 3, false, [], false⟩,
  ⟨some 15, 3, none, .move (.tmp 51), false, [], false⟩])))))))
 (.seq (.ops [⟨some 52, 140, none, .move (.tmp 7), false, [], false⟩,
  ⟨some 6, 140, none, .assign (.tmp 52), false, [], false⟩])
 .ret)))
theorem k159 : FnOk Tryz.prog 159 53 [.tmp 6] S159 := ⟨[166, 181, 201], _, Tryz.func159, by kernel_rfl, by kernel_rfl, rfl, rfl⟩
/- (venturi/exact.limbs).trim -/
def S160 : SC := .seq (.ops [⟨some 2, 24, none, .assign (.const (.slice none 0 0)), false, [], false⟩])
 (.seq (.block 0 (.loop (.seq (.seq (.ops [⟨some 3, 24, none, .move (.tmp 0), false, [], false⟩,
  ⟨some 4, 3, none, .call ⟨.builtin .len, #[.tmp 3], #[24]⟩, false, [], false⟩,
  ⟨some 5, 4, none, .binOp .gtr 3 (.tmp 4) (.const (.int .i64 0)) 3, false, [], false⟩,
  ⟨some 6, 4, none, .move (.tmp 5), false, [], false⟩,
  ⟨some 7, 24, some (6, true), .move (.tmp 0), false, [], false⟩,
  ⟨some 8, 24, some (6, true), .move (.tmp 0), false, [], false⟩,
  ⟨some 9, 3, some (6, true), .call ⟨.builtin .len, #[.tmp 8], #[24]⟩, false, [], false⟩,
  ⟨some 10, 3, some (6, true), .binOp .sub 3 (.tmp 9) (.const (.int .i64 1)) 3, false, [], false⟩,
  ⟨some 11, 0, some (6, true), .indexAddr 24 (.tmp 7) (.tmp 10), false, [], false⟩,
  ⟨some 12, 140, some (6, true), .load 140 (.tmp 11), false, [], false⟩,
  ⟨some 13, 4, some (6, true), .binOp .eql 140 (.tmp 12) (.const (.int .u64 0)) 140, false, [], false⟩,
  ⟨some 14, 4, none, .pick (.tmp 6) (.tmp 13) (.const (.bool false)), false, [], false⟩])
 (.cond (.tmp 14)
 .skip
 (.exit 0)))
 (.block 1 (.ops [⟨some 15, 24, none, .move (.tmp 0), false, [], false⟩,
  ⟨some 16, 24, none, .move (.tmp 0), false, [], false⟩,
  ⟨some 17, 3, none, .call ⟨.builtin .len, #[.tmp 16], #[24]⟩, false, [], false⟩,
  ⟨some 18, 3, none, .binOp .sub 3 (.tmp 17) (.const (.int .i64 1)) 3, false, [], false⟩,
  ⟨some 19, 24, none, .slice 24 (.tmp 15) none (some (.tmp 18)) none, false, [], false⟩,
  ⟨some 0, 24, none, .assign (.tmp 19), false, [], false⟩])))))
 (.seq (.ops [⟨some 20, 24, none, .move (.tmp 0), false, [], false⟩,
  ⟨some 21, 24, none, .call ⟨.value (.func 186), #[.tmp 20], #[24]⟩, true, [], false⟩,
  ⟨some 2, 24, none, .assign (.tmp 21), false, [], false⟩])
 .ret))
theorem k160 : FnOk Tryz.prog 160 22 [.tmp 2] S160 := ⟨[166, 181, 201], _, Tryz.func160, by kernel_rfl, by kernel_rfl, rfl, rfl⟩
/- (venturi/exact.limbs).divWord -/
def S163 : SC := .seq (.ops [⟨some 4, 24, none, .assign (.const (.slice none 0 0)), false, [], false⟩,
  ⟨some 5, 140, none, .assign (.const (.int .u64 0)), false, [], false⟩])
 (.seq (.ops [⟨some 9, 24, none, .move (.tmp 0), false, [], false⟩,
  ⟨some 10, 3, none, .call ⟨.builtin .len, #[.tmp 9], #[24]⟩, false, [], false⟩,
  ⟨some 11, 24, none, .makeSlice 24 (.tmp 10) (.tmp 10), true, [], false⟩,
  ⟨some 6, 24, none, .assign (.tmp 11), false, [], false⟩])
 (.seq (.ops [⟨some 7, 140, none, .assign (.const (.int .u64 0)), false, [], false⟩])
 (.seq (.seq (.ops [⟨some 12, 24, none, .move (.tmp 0), false, [], false⟩,
  ⟨some 13, 3, none, .call ⟨.builtin .len, #[.tmp 12], #[24]⟩, false, [], false⟩,
  ⟨some 14, 3, none, .binOp .sub 3 (.tmp 13) (.const (.int .i64 1)) 3, false, [], false⟩,
  ⟨some 8, 3, none, .assign (.tmp 14), false, [], false⟩])
 (.block 0 (.loop (.seq (.seq (.ops [⟨some 15, 3, none, .move (.tmp 8), false, [], false⟩,
  ⟨some 16, 4, none, .binOp .geq 3 (.tmp 15) (.const (.int .i64 0)) 3, false, [], false⟩])
 (.cond (.tmp 16)
 .skip
 (.exit 0)))
 (.seq (.block 1 (.ops [⟨some 20, 24, none, .move (.tmp 6), false, [], false⟩,
  ⟨some 21, 3, none, .move (.tmp 8), false, [], false⟩,
  ⟨some 22, 140, none, .move (.tmp 7), false, [], false⟩,
  ⟨some 23, 24, none, .move (.tmp 0), false, [], false⟩,
  ⟨some 24, 3, none, .move (.tmp 8), false, [], false⟩,
  ⟨some 25, 0, none, .indexAddr 24 (.tmp 23) (.tmp 24), false, [], false⟩,
  ⟨some 26, 140, none, .load 140 (.tmp 25), false, [], false⟩,
  ⟨some 27, 140, none, .move (.tmp 1), false, [], false⟩,
  ⟨some 28, 172, none, .call ⟨.value (.func 166), #[.tmp 22, .tmp 26, .tmp 27], #[140, 140, 140]⟩, true, [], false⟩,
  ⟨some 19, 172, none, .move (.tmp 28), false, [], false⟩,
  ⟨some 29, 140, none, .extract (.tmp 19) 0, false, [], false⟩,
  ⟨some 30, 140, none, .extract (.tmp 19) 1, false, [], false⟩,
  ⟨some 31, 0, none, .indexAddr 24 (.tmp 20) (.tmp 21), false, [], false⟩,
  ⟨none, 0, none, .store 140 (.tmp 31) (.tmp 29), true, [], false⟩,
  ⟨some 7, 140, none, .assign (.tmp 30), false, [], false⟩]))
 (.ops [⟨some 17, 3, none, .move (.tmp 8), false, [], false⟩,
  ⟨some 18, 3, none, .binOp .sub 3 (.tmp 17) (.const (.int .i64 1)) 3, false, [], false⟩,
  ⟨some 8, 3, none, .assign (.tmp 18), false, [], false⟩]))))))
 (.seq (.ops [⟨some 32, 24, none, .move (.tmp 6), false, [], false⟩,
  ⟨some 33, 24, none, .call ⟨.value (.func 160), #[.tmp 32], #[24]⟩, true, [], false⟩,
  ⟨some 34, 140, none, .move (.tmp 7), false, [], false⟩,
  ⟨some 4, 24, none, .assign (.tmp 33), false, [], false⟩,
  ⟨some 5, 140, none, .assign (.tmp 34), false, [], false⟩])
 .ret))))
theorem k163 : FnOk Tryz.prog 163 35 [.tmp 4, .tmp 5] S163 := ⟨[166, 181, 201], _, Tryz.func163, by kernel_rfl, by kernel_rfl, rfl, rfl⟩
/- (venturi/exact.limbs).shift -/
def S165 : SC := .seq (.ops [⟨some 4, 24, none, .assign (.const (.slice none 0 0)), false, [], false⟩])
 (.seq (.ops [⟨some 8, 24, none, .move (.tmp 0), false, [], false⟩,
  ⟨some 9, 3, none, .call ⟨.builtin .len, #[.tmp 8], #[24]⟩, false, [], false⟩,
  ⟨some 10, 3, none, .binOp .add 3 (.tmp 9) (.const (.int .i64 1)) 3, false, [], false⟩,
  ⟨some 11, 24, none, .makeSlice 24 (.tmp 10) (.tmp 10), true, [], false⟩,
  ⟨some 5, 24, none, .assign (.tmp 11), false, [], false⟩])
 (.seq (.seq (.ops [⟨some 12, 24, none, .move (.tmp 0), false, [], false⟩,
  ⟨some 13, 3, none, .call ⟨.builtin .len, #[.tmp 12], #[24]⟩, false, [], false⟩,
  ⟨some 14, 3, none, .move (.const (.int .i64 0)), false, [], false⟩])
 (.block 0 (.loop (.seq (.ops [⟨some 15, 0, none, .binOp .lss 3 (.tmp 14) (.tmp 13) 3, false, [], false⟩])
 (.seq (.cond (.tmp 15)
 .skip
 (.exit 0))
 (.seq (.block 1 (.seq (.ops [⟨some 16, 3, none, .move (.tmp 14), false, [], false⟩,
  ⟨some 17, 0, none, .indexAddr 24 (.tmp 12) (.tmp 14), false, [], false⟩,
  ⟨some 18, 140, none, .load 140 (.tmp 17), false, [], false⟩,
  ⟨some 6, 3, none, .assign (.tmp 16), false, [], false⟩,
  ⟨some 7, 140, none, .assign (.tmp 18), false, [], false⟩])
 (.seq (.ops [⟨some 19, 24, none, .move (.tmp 5), false, [], false⟩,
  ⟨some 20, 3, none, .move (.tmp 6), false, [], false⟩,
  ⟨some 21, 0, none, .indexAddr 24 (.tmp 19) (.tmp 20), false, [], false⟩,
  ⟨some 22, 140, none, .load 140 (.tmp 21), false, [], false⟩,
  ⟨some 23, 140, none, .move (.tmp 7), false, [], false⟩,
  ⟨some 24, 146, none, .move (.tmp 1), false, [], false⟩,
  ⟨some 25, 140, none, .binOp .shl 140 (.tmp 23) (.tmp 24) 146, false, [], false⟩,
  ⟨some 26, 140, none, .binOp .or 140 (.tmp 22) (.tmp 25) 140, false, [], false⟩,
  ⟨some 27, 0, none, .indexAddr 24 (.tmp 19) (.tmp 20), false, [], false⟩,
  ⟨none, 0, none, .store 140 (.tmp 27) (.tmp 26), true, [], false⟩])
 (.ops [⟨some 28, 24, none, .move (.tmp 5), false, [], false⟩,
  ⟨some 29, 3, none, .move (.tmp 6), false, [], false⟩,
  ⟨some 30, 3, none, .binOp .add 3 (.tmp 29) (.const (.int .i64 1)) 3, false, [], false⟩,
  ⟨some 31, 140, none, .move (.tmp 7), false, [], false⟩,
  ⟨some 32, 140, none, .binOp .shr 140 (.tmp 31) (.const (.int .u64 1)) 146, false, [], false⟩,
  ⟨some 33, 146, none, .move (.tmp 1), false, [], false⟩,
  ⟨some 34, 146, none, .binOp .sub 146 (.const (.int .u64 63)) (.tmp 33) 146, false, [], false⟩,
  ⟨some 35, 140, none, .binOp .shr 140 (.tmp 32) (.tmp 34) 146, false, [], false⟩,
  ⟨some 36, 0, none, .indexAddr 24 (.tmp 28) (.tmp 30), false, [], false⟩,
  ⟨none, 0, none, .store 140 (.tmp 36) (.tmp 35), true, [], false⟩]))))
 (.ops [⟨some 37, 3, none, .binOp .add 3 (.tmp 14) (.const (.int .i64 1)) 3, false, [], false⟩,
  ⟨some 14, 3, none, .move (.tmp 37), false, [], false⟩])))))))
 (.seq (.ops [⟨some 38, 24, none, .move (.tmp 5), false, [], false⟩,
  ⟨some 4, 24, none, .assign (.tmp 38), false, [], false⟩])
 .ret)))
theorem k165 : FnOk Tryz.prog 165 39 [.tmp 4] S165 := ⟨[166, 181, 201], _, Tryz.func165, by kernel_rfl, by kernel_rfl, rfl, rfl⟩
/- (venturi/exact.limbs).lose -/
def S168 : SC := .seq (.ops [⟨some 6, 140, none, .assign (.const (.int .u64 0)), false, [], false⟩])
 (.seq (.ops [⟨some 7, 140, none, .assign (.const (.int .u64 0)), false, [], false⟩])
 (.seq (.seq (.ops [⟨some 13, 24, none, .move (.tmp 1), false, [], false⟩,
  ⟨some 14, 3, none, .call ⟨.builtin .len, #[.tmp 13], #[24]⟩, false, [], false⟩,
  ⟨some 15, 3, none, .move (.const (.int .i64 0)), false, [], false⟩])
 (.block 0 (.loop (.seq (.ops [⟨some 16, 0, none, .binOp .lss 3 (.tmp 15) (.tmp 14) 3, false, [], false⟩])
 (.seq (.cond (.tmp 16)
 .skip
 (.exit 0))
 (.seq (.block 1 (.seq (.ops [⟨some 17, 3, none, .move (.tmp 15), false, [], false⟩,
  ⟨some 18, 0, none, .indexAddr 24 (.tmp 13) (.tmp 15), false, [], false⟩,
  ⟨some 19, 140, none, .load 140 (.tmp 18), false, [], false⟩,
  ⟨some 8, 3, none, .assign (.tmp 17), false, [], false⟩,
  ⟨some 9, 140, none, .assign (.tmp 19), false, [], false⟩])
 (.seq (.ops [⟨some 21, 140, none, .move (.tmp 2), false, [], false⟩,
  ⟨some 22, 140, none, .move (.tmp 9), false, [], false⟩,
  ⟨some 23, 172, none, .call ⟨.value (.func 167), #[.tmp 21, .tmp 22], #[140, 140]⟩, true, [], false⟩,
  ⟨some 20, 172, none, .move (.tmp 23), false, [], false⟩,
  ⟨some 24, 140, none, .extract (.tmp 20) 0, false, [], false⟩,
  ⟨some 25, 140, none, .extract (.tmp 20) 1, false, [], false⟩,
  ⟨some 10, 140, none, .assign (.tmp 24), false, [], false⟩,
  ⟨some 11, 140, none, .assign (.tmp 25), false, [], false⟩])
 (.seq (.ops [⟨some 27, 140, none, .move (.tmp 11), false, [], false⟩,
  ⟨some 28, 140, none, .move (.tmp 7), false, [], false⟩,
  ⟨some 29, 172, none, .call ⟨.value (.func 161), #[.tmp 27, .tmp 28, .const (.int .u64 0)], #[140, 140, 140]⟩, true, [], false⟩,
  ⟨some 26, 172, none, .move (.tmp 29), false, [], false⟩,
  ⟨some 30, 140, none, .extract (.tmp 26) 0, false, [], false⟩,
  ⟨some 31, 140, none, .extract (.tmp 26) 1, false, [], false⟩,
  ⟨some 11, 140, none, .assign (.tmp 30), false, [], false⟩,
  ⟨some 12, 140, none, .assign (.tmp 31), false, [], false⟩])
 (.seq (.ops [⟨some 32, 140, none, .move (.tmp 10), false, [], false⟩,
  ⟨some 33, 140, none, .move (.tmp 12), false, [], false⟩,
  ⟨some 34, 140, none, .binOp .add 140 (.tmp 32) (.tmp 33) 140, false, [], false⟩,
  ⟨some 10, 140, none, .assign (.tmp 34), false, [], false⟩])
 (.seq (.ops [⟨some 36, 24, none, .move (.tmp 0), false, [], false⟩,
  ⟨some 37, 3, none, .move (.tmp 8), false, [], false⟩,
  ⟨some 38, 24, none, .move (.tmp 0), false, [], false⟩,
  ⟨some 39, 3, none, .move (.tmp 8), false, [], false⟩,
  ⟨some 40, 0, none, .indexAddr 24 (.tmp 38) (.tmp 39), false, [], false⟩,
  ⟨some 41, 140, none, .load 140 (.tmp 40), false, [], false⟩,
  ⟨some 42, 140, none, .move (.tmp 11), false, [], false⟩,
  ⟨some 43, 172, none, .call ⟨.value (.func 162), #[.tmp 41, .tmp 42, .const (.int .u64 0)], #[140, 140, 140]⟩, true, [], false⟩,
  ⟨some 35, 172, none, .move (.tmp 43), false, [], false⟩,
  ⟨some 44, 140, none, .extract (.tmp 35) 0, false, [], false⟩,
  ⟨some 45, 140, none, .extract (.tmp 35) 1, false, [], false⟩,
  ⟨some 46, 0, none, .indexAddr 24 (.tmp 36) (.tmp 37), false, [], false⟩,
  ⟨none, 0, none, .store 140 (.tmp 46) (.tmp 44), true, [], false⟩,
  ⟨some 12, 140, none, .assign (.tmp 45), false, [], false⟩])
 (.ops [⟨some 47, 140, none, .move (.tmp 10), false, [], false⟩,
  ⟨some 48, 140, none, .move (.tmp 12), false, [], false⟩,
  ⟨some 49, 140, none, .binOp .add 140 (.tmp 47) (.tmp 48) 140, false, [], false⟩,
  ⟨some 7, 140, none, .assign (.tmp 49), false, [], false⟩])))))))
 (.ops [⟨some 50, 3, none, .binOp .add 3 (.tmp 15) (.const (.int .i64 1)) 3, false, [], false⟩,
  ⟨some 15, 3, none, .move (.tmp 50), false, [], false⟩])))))))
 (.seq (.ops [⟨some 51, 140, none, .move (.tmp 7), false, [], false⟩,
  ⟨some 6, 140, none, .assign (.tmp 51), false, [], false⟩])
 .ret)))
theorem k168 : FnOk Tryz.prog 168 52 [.tmp 6] S168 := ⟨[166, 181, 201], _, Tryz.func168, by kernel_rfl, by kernel_rfl, rfl, rfl⟩
/- slices.MinFunc[[]venturi/exact.Num,venturi/exact.Num] -/
def S181 : SC := .seq (.ops [⟨some 4, 0, none, .alloc 26, false, [], false⟩])
 (.seq (.seq (.ops [⟨some 7, 95, none, .move (.tmp 0), false, [], false⟩,
  ⟨some 8, 3, none, .call ⟨.builtin .len, #[.tmp 7], #[95]⟩, false, [], false⟩,
  ⟨some 9, 4, none, .binOp .lss 3 (.tmp 8) (.const (.int .i64 1)) 3, false, [], false⟩])
 (.cond (.tmp 9)
 (.ops [⟨some 10, 20, none, .makeInterface 9 (.const (.string ⟨#[115, 108, 105, 99, 101, 115, 46, 77, 105, 110, 70, 117, 110, 99, 58, 32, 101, 109, 112, 116, 121, 32, 108, 105, 115, 116]⟩)), true, [], false⟩,
  ⟨none, 0, none, .panic (.tmp 10), true, [], false⟩])
 .skip))
 (.seq (.ops [⟨some 11, 95, none, .move (.tmp 0), false, [], false⟩,
  ⟨some 12, 0, none, .indexAddr 95 (.tmp 11) (.const (.int .i64 0)), false, [], false⟩,
  ⟨some 13, 26, none, .load 26 (.tmp 12), false, [], false⟩,
  ⟨some 5, 0, none, .alloc 26, false, [], false⟩,
  ⟨none, 0, none, .store 26 (.tmp 5) (.tmp 13), true, [], false⟩])
 (.seq (.seq (.ops [⟨some 6, 3, none, .assign (.const (.int .i64 1)), false, [], false⟩])
 (.block 0 (.loop (.seq (.seq (.ops [⟨some 14, 3, none, .move (.tmp 6), false, [], false⟩,
  ⟨some 15, 95, none, .move (.tmp 0), false, [], false⟩,
  ⟨some 16, 3, none, .call ⟨.builtin .len, #[.tmp 15], #[95]⟩, false, [], false⟩,
  ⟨some 17, 4, none, .binOp .lss 3 (.tmp 14) (.tmp 16) 3, false, [], false⟩])
 (.cond (.tmp 17)
 .skip
 (.exit 0)))
 (.seq (.block 1 (.seq (.ops [⟨some 20, 196, none, .move (.tmp 1), false, [], false⟩,
  ⟨some 21, 95, none, .move (.tmp 0), false, [], false⟩,
  ⟨some 22, 3, none, .move (.tmp 6), false, [], false⟩,
  ⟨some 23, 0, none, .indexAddr 95 (.tmp 21) (.tmp 22), false, [], false⟩,
  ⟨some 24, 26, none, .load 26 (.tmp 23), false, [], false⟩,
  ⟨some 25, 26, none, .load 26 (.tmp 5), false, [], false⟩,
  ⟨some 26, 3, none, .call ⟨.value (.tmp 20), #[.tmp 24, .tmp 25], #[26, 26]⟩, true, [], false⟩,
  ⟨some 27, 4, none, .binOp .lss 3 (.tmp 26) (.const (.int .i64 0)) 3, false, [], false⟩])
 (.cond (.tmp 27)
 (.ops [⟨some 28, 95, none, .move (.tmp 0), false, [], false⟩,
  ⟨some 29, 3, none, .move (.tmp 6), false, [], false⟩,
  ⟨some 30, 0, none, .indexAddr 95 (.tmp 28) (.tmp 29), false, [], false⟩,
  ⟨some 31, 26, none, .load 26 (.tmp 30), false, [], false⟩,
  ⟨none, 0, none, .store 26 (.tmp 5) (.tmp 31), true, [], false⟩])
 .skip)))
 (.ops [⟨some 18, 3, none, .move (.tmp 6), false, [], false⟩,
  ⟨some 19, 3, none, .binOp .add 3 (.tmp 18) (.const (.int .i64 1)) 3, false, [], false⟩,
  ⟨some 6, 3, none, .assign (.tmp 19), false, [], false⟩]))))))
 (.seq (.ops [⟨some 32, 26, none, .load 26 (.tmp 5), false, [], false⟩,
  ⟨none, 0, none, .store 26 (.tmp 4) (.tmp 32), true, [], false⟩])
 .ret))))
theorem k181 : FnOk Tryz.prog 181 33 [.cell 4 26] S181 := ⟨[166, 181, 201], _, Tryz.func181, by kernel_rfl, by kernel_rfl, rfl, rfl⟩
/- slices.MaxFunc[[]venturi/exact.Num,venturi/exact.Num] -/
def S182 : SC := .seq (.ops [⟨some 4, 0, none, .alloc 26, false, [], false⟩])
 (.seq (.seq (.ops [⟨some 7, 95, none, .move (.tmp 0), false, [], false⟩,
  ⟨some 8, 3, none, .call ⟨.builtin .len, #[.tmp 7], #[95]⟩, false, [], false⟩,
  ⟨some 9, 4, none, .binOp .lss 3 (.tmp 8) (.const (.int .i64 1)) 3, false, [], false⟩])
 (.cond (.tmp 9)
 (.ops [⟨some 10, 20, none, .makeInterface 9 (.const (.string ⟨#[115, 108, 105, 99, 101, 115, 46, 77, 97, 120, 70, 117, 110, 99, 58, 32, 101, 109, 112, 116, 121, 32, 108, 105, 115, 116]⟩)), true, [], false⟩,
  ⟨none, 0, none, .panic (.tmp 10), true, [], false⟩])
 .skip))
 (.seq (.ops [⟨some 11, 95, none, .move (.tmp 0), false, [], false⟩,
  ⟨some 12, 0, none, .indexAddr 95 (.tmp 11) (.const (.int .i64 0)), false, [], false⟩,
  ⟨some 13, 26, none, .load 26 (.tmp 12), false, [], false⟩,
  ⟨some 5, 0, none, .alloc 26, false, [], false⟩,
  ⟨none, 0, none, .store 26 (.tmp 5) (.tmp 13), true, [], false⟩])
 (.seq (.seq (.ops [⟨some 6, 3, none, .assign (.const (.int .i64 1)), false, [], false⟩])
 (.block 0 (.loop (.seq (.seq (.ops [⟨some 14, 3, none, .move (.tmp 6), false, [], false⟩,
  ⟨some 15, 95, none, .move (.tmp 0), false, [], false⟩,
  ⟨some 16, 3, none, .call ⟨.builtin .len, #[.tmp 15], #[95]⟩, false, [], false⟩,
  ⟨some 17, 4, none, .binOp .lss 3 (.tmp 14) (.tmp 16) 3, false, [], false⟩])
 (.cond (.tmp 17)
 .skip
 (.exit 0)))
 (.seq (.block 1 (.seq (.ops [⟨some 20, 196, none, .move (.tmp 1), false, [], false⟩,
  ⟨some 21, 95, none, .move (.tmp 0), false, [], false⟩,
  ⟨some 22, 3, none, .move (.tmp 6), false, [], false⟩,
  ⟨some 23, 0, none, .indexAddr 95 (.tmp 21) (.tmp 22), false, [], false⟩,
  ⟨some 24, 26, none, .load 26 (.tmp 23), false, [], false⟩,
  ⟨some 25, 26, none, .load 26 (.tmp 5), false, [], false⟩,
  ⟨some 26, 3, none, .call ⟨.value (.tmp 20), #[.tmp 24, .tmp 25], #[26, 26]⟩, true, [], false⟩,
  ⟨some 27, 4, none, .binOp .gtr 3 (.tmp 26) (.const (.int .i64 0)) 3, false, [], false⟩])
 (.cond (.tmp 27)
 (.ops [⟨some 28, 95, none, .move (.tmp 0), false, [], false⟩,
  ⟨some 29, 3, none, .move (.tmp 6), false, [], false⟩,
  ⟨some 30, 0, none, .indexAddr 95 (.tmp 28) (.tmp 29), false, [], false⟩,
  ⟨some 31, 26, none, .load 26 (.tmp 30), false, [], false⟩,
  ⟨none, 0, none, .store 26 (.tmp 5) (.tmp 31), true, [], false⟩])
 .skip)))
 (.ops [⟨some 18, 3, none, .move (.tmp 6), false, [], false⟩,
  ⟨some 19, 3, none, .binOp .add 3 (.tmp 18) (.const (.int .i64 1)) 3, false, [], false⟩,
  ⟨some 6, 3, none, .assign (.tmp 19), false, [], false⟩]))))))
 (.seq (.ops [⟨some 32, 26, none, .load 26 (.tmp 5), false, [], false⟩,
  ⟨none, 0, none, .store 26 (.tmp 4) (.tmp 32), true, [], false⟩])
 .ret))))
theorem k182 : FnOk Tryz.prog 182 33 [.cell 4 26] S182 := ⟨[166, 181, 201], _, Tryz.func182, by kernel_rfl, by kernel_rfl, rfl, rfl⟩
/- slices.Backward[[]venturi/exact.Num,venturi/exact.Num]$1 -/
def S183 : SC := .seq (.ops [⟨some 4, 95, none, .load 95 (.tmp 1), false, [], false⟩,
  ⟨some 5, 3, none, .call ⟨.builtin .len, #[.tmp 4], #[95]⟩, false, [], false⟩,
  ⟨some 6, 3, none, .binOp .sub 3 (.tmp 5) (.const (.int .i64 1)) 3, false, [], false⟩,
  ⟨some 3, 3, none, .assign (.tmp 6), false, [], false⟩])
 (.block 0 (.loop (.seq (.seq (.ops [⟨some 7, 3, none, .move (.tmp 3), false, [], false⟩,
  ⟨some 8, 4, none, .binOp .geq 3 (.tmp 7) (.const (.int .i64 0)) 3, false, [], false⟩])
 (.cond (.tmp 8)
 .skip
 (.exit 0)))
 (.seq (.block 1 (.seq (.ops [⟨some 11, 197, none, .move (.tmp 0), false, [], false⟩,
  ⟨some 12, 3, none, .move (.tmp 3), false, [], false⟩,
  ⟨some 13, 95, none, .load 95 (.tmp 1), false, [], false⟩,
  ⟨some 14, 3, none, .move (.tmp 3), false, [], false⟩,
  ⟨some 15, 0, none, .indexAddr 95 (.tmp 13) (.tmp 14), false, [], false⟩,
  ⟨some 16, 26, none, .load 26 (.tmp 15), false, [], false⟩,
  ⟨some 17, 4, none, .call ⟨.value (.tmp 11), #[.tmp 12, .tmp 16], #[3, 26]⟩, true, [], false⟩,
  ⟨some 18, 4, none, .unOp .not 4 (.tmp 17), false, [], false⟩])
 (.cond (.tmp 18)
 .ret
 .skip)))
 (.ops [⟨some 9, 3, none, .move (.tmp 3), false, [], false⟩,
  ⟨some 10, 3, none, .binOp .sub 3 (.tmp 9) (.const (.int .i64 1)) 3, false, [], false⟩,
  ⟨some 3, 3, none, .assign (.tmp 10), false, [], false⟩])))))
theorem k183 : FnOk Tryz.prog 183 19 [] S183 := ⟨[166, 181, 201], _, Tryz.func183, by kernel_rfl, by kernel_rfl, rfl, rfl⟩
/- slices.Clip[venturi/exact.limbs,uint64] -/
def S186 : SC := .seq (.ops [⟨some 2, 24, none, .assign (.const (.slice none 0 0)), false, [], false⟩])
 (.seq (.ops [⟨some 3, 24, none, .move (.tmp 0), false, [], false⟩,
  ⟨some 4, 24, none, .move (.tmp 0), false, [], false⟩,
  ⟨some 5, 3, none, .call ⟨.builtin .len, #[.tmp 4], #[24]⟩, false, [], false⟩,
  ⟨some 6, 24, none, .move (.tmp 0), false, [], false⟩,
  ⟨some 7, 3, none, .call ⟨.builtin .len, #[.tmp 6], #[24]⟩, false, [], false⟩,
  ⟨some 8, 24, none, .slice 24 (.tmp 3) none (some (.tmp 5)) (some (.tmp 7)), false, [], false⟩,
  ⟨some 2, 24, none, .assign (.tmp 8), false, [], false⟩])
 .ret)
theorem k186 : FnOk Tryz.prog 186 9 [.tmp 2] S186 := ⟨[166, 181, 201], _, Tryz.func186, by kernel_rfl, by kernel_rfl, rfl, rfl⟩
end Go.Proofs.YtplaobhghfndgaaGreatDoor
