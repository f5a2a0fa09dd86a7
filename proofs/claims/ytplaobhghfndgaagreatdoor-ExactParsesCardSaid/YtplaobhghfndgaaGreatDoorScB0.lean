import Derived.Test.YtplaobhghfndgaaGreatDoorTab
/-! The code of functions, as the walk wants it (printed by gen.py). -/
set_option maxRecDepth 100000
namespace Go.Proofs.YtplaobhghfndgaaGreatDoor
open Go Go.Proofs.Vc
/- strings.CutPrefix -/
def S109 : SC := .seq (.ops [⟨some 4, 9, none, .assign (.const (.string ⟨#[]⟩)), false, [], false⟩,
  ⟨some 5, 4, none, .assign (.const (.bool false)), false, [], false⟩])
 (.seq (.ops [⟨some 6, 9, none, .move (.tmp 0), false, [], false⟩,
  ⟨some 7, 9, none, .move (.tmp 1), false, [], false⟩,
  ⟨some 8, 133, none, .call ⟨.value (.func 150), #[.tmp 6, .tmp 7], #[9, 9]⟩, true, [], false⟩,
  ⟨some 9, 9, none, .extract (.tmp 8) 0, false, [], false⟩,
  ⟨some 10, 4, none, .extract (.tmp 8) 1, false, [], false⟩,
  ⟨some 4, 9, none, .assign (.tmp 9), false, [], false⟩,
  ⟨some 5, 4, none, .assign (.tmp 10), false, [], false⟩])
 .ret)
theorem k109 : FnOk Tryz.prog 109 11 [.tmp 4, .tmp 5] S109 := ⟨[166, 181, 201], _, Tryz.func109, by kernel_rfl, by kernel_rfl, rfl, rfl⟩
/- strings.Cut -/
def S110 : SC := .seq (.ops [⟨some 4, 9, none, .assign (.const (.string ⟨#[]⟩)), false, [], false⟩,
  ⟨some 5, 9, none, .assign (.const (.string ⟨#[]⟩)), false, [], false⟩,
  ⟨some 6, 4, none, .assign (.const (.bool false)), false, [], false⟩])
 (.seq (.ops [⟨some 7, 9, none, .move (.tmp 0), false, [], false⟩,
  ⟨some 8, 9, none, .move (.tmp 1), false, [], false⟩,
  ⟨some 9, 135, none, .call ⟨.value (.func 151), #[.tmp 7, .tmp 8], #[9, 9]⟩, true, [], false⟩,
  ⟨some 10, 9, none, .extract (.tmp 9) 0, false, [], false⟩,
  ⟨some 11, 9, none, .extract (.tmp 9) 1, false, [], false⟩,
  ⟨some 12, 4, none, .extract (.tmp 9) 2, false, [], false⟩,
  ⟨some 4, 9, none, .assign (.tmp 10), false, [], false⟩,
  ⟨some 5, 9, none, .assign (.tmp 11), false, [], false⟩,
  ⟨some 6, 4, none, .assign (.tmp 12), false, [], false⟩])
 .ret)
theorem k110 : FnOk Tryz.prog 110 13 [.tmp 4, .tmp 5, .tmp 6] S110 := ⟨[166, 181, 201], _, Tryz.func110, by kernel_rfl, by kernel_rfl, rfl, rfl⟩
/- strings.Repeat -/
def S142 : SC := .seq (.ops [⟨some 4, 9, none, .assign (.const (.string ⟨#[]⟩)), false, [], false⟩])
 (.seq (.seq (.ops [⟨some 11, 3, none, .move (.tmp 1), false, [], false⟩])
 (.block 0 (.seq (.ops [⟨some 13, 4, none, .binOp .eql 3 (.tmp 11) (.const (.int .i64 0)) 3, false, [], false⟩,
  ⟨some 12, 4, none, .assign (.tmp 13), false, [], false⟩])
 (.cond (.tmp 12)
 (.seq (.ops [⟨some 4, 9, none, .assign (.const (.string ⟨#[]⟩)), false, [], false⟩])
 .ret)
 (.seq (.ops [⟨some 15, 4, none, .binOp .eql 3 (.tmp 11) (.const (.int .i64 1)) 3, false, [], false⟩,
  ⟨some 14, 4, none, .assign (.tmp 15), false, [], false⟩])
 (.cond (.tmp 14)
 (.seq (.ops [⟨some 16, 9, none, .move (.tmp 0), false, [], false⟩,
  ⟨some 4, 9, none, .assign (.tmp 16), false, [], false⟩])
 .ret)
 .skip))))))
 (.seq (.seq (.ops [⟨some 17, 3, none, .move (.tmp 1), false, [], false⟩,
  ⟨some 18, 4, none, .binOp .lss 3 (.tmp 17) (.const (.int .i64 0)) 3, false, [], false⟩])
 (.cond (.tmp 18)
 (.ops [⟨some 19, 20, none, .makeInterface 9 (.const (.string ⟨#[115, 116, 114, 105, 110, 103, 115, 58, 32, 110, 101, 103, 97, 116, 105, 118, 101, 32, 82, 101, 112, 101, 97, 116, 32, 99, 111, 117, 110, 116]⟩)), true, [], false⟩,
  ⟨none, 0, none, .panic (.tmp 19), true, [], false⟩])
 .skip))
 (.seq (.ops [⟨some 21, 9, none, .move (.tmp 0), false, [], false⟩,
  ⟨some 22, 3, none, .call ⟨.builtin .len, #[.tmp 21], #[9]⟩, false, [], false⟩,
  ⟨some 23, 146, none, .convert 3 146 (.tmp 22), false, [], false⟩,
  ⟨some 24, 3, none, .move (.tmp 1), false, [], false⟩,
  ⟨some 25, 146, none, .convert 3 146 (.tmp 24), false, [], false⟩,
  ⟨some 26, 185, none, .call ⟨.value (.func 175), #[.tmp 23, .tmp 25], #[146, 146]⟩, true, [], false⟩,
  ⟨some 20, 185, none, .move (.tmp 26), false, [], false⟩,
  ⟨some 27, 146, none, .extract (.tmp 20) 0, false, [], false⟩,
  ⟨some 28, 146, none, .extract (.tmp 20) 1, false, [], false⟩,
  ⟨some 5, 146, none, .assign (.tmp 27), false, [], false⟩,
  ⟨some 6, 146, none, .assign (.tmp 28), false, [], false⟩])
 (.seq (.seq (.ops [⟨some 29, 146, none, .move (.tmp 5), false, [], false⟩,
  ⟨some 30, 4, none, .binOp .gtr 146 (.tmp 29) (.const (.int .u64 0)) 146, false, [], false⟩,
  ⟨some 31, 4, none, .move (.tmp 30), false, [], false⟩,
  ⟨some 32, 146, some (31, false), .move (.tmp 6), false, [], false⟩,
  ⟨some 33, 4, some (31, false), .binOp .gtr 146 (.tmp 32) (.const (.int .u64 9223372036854775807)) 146, false, [], false⟩,
  ⟨some 34, 4, none, .pick (.tmp 31) (.const (.bool true)) (.tmp 33), false, [], false⟩])
 (.cond (.tmp 34)
 (.ops [⟨some 35, 20, none, .makeInterface 9 (.const (.string ⟨#[115, 116, 114, 105, 110, 103, 115, 58, 32, 82, 101, 112, 101, 97, 116, 32, 111, 117, 116, 112, 117, 116, 32, 108, 101, 110, 103, 116, 104, 32, 111, 118, 101, 114, 102, 108, 111, 119]⟩)), true, [], false⟩,
  ⟨none, 0, none, .panic (.tmp 35), true, [], false⟩])
 .skip))
 (.seq (.ops [⟨some 36, 146, none, .move (.tmp 6), false, [], false⟩,
  ⟨some 37, 3, none, .convert 146 3 (.tmp 36), false, [], false⟩,
  ⟨some 7, 3, none, .assign (.tmp 37), false, [], false⟩])
 (.seq (.seq (.ops [⟨some 38, 9, none, .move (.tmp 0), false, [], false⟩,
  ⟨some 39, 3, none, .call ⟨.builtin .len, #[.tmp 38], #[9]⟩, false, [], false⟩,
  ⟨some 40, 4, none, .binOp .eql 3 (.tmp 39) (.const (.int .i64 0)) 3, false, [], false⟩])
 (.cond (.tmp 40)
 (.seq (.ops [⟨some 4, 9, none, .assign (.const (.string ⟨#[]⟩)), false, [], false⟩])
 .ret)
 .skip))
 (.seq (.seq (.ops [⟨some 41, 9, none, .move (.tmp 0), false, [], false⟩,
  ⟨some 42, 5, none, .index 9 (.tmp 41) (.const (.int .i64 0)), false, [], false⟩])
 (.block 1 (.seq (.seq (.ops [⟨some 44, 4, none, .binOp .eql 5 (.tmp 42) (.const (.int .u8 32)) 5, false, [], false⟩,
  ⟨some 43, 4, none, .assign (.tmp 44), false, [], false⟩])
 (.cond (.tmp 43)
 .skip
 (.seq (.ops [⟨some 45, 4, none, .binOp .eql 5 (.tmp 42) (.const (.int .u8 45)) 5, false, [], false⟩,
  ⟨some 43, 4, none, .assign (.tmp 45), false, [], false⟩])
 (.cond (.tmp 43)
 .skip
 (.seq (.ops [⟨some 46, 4, none, .binOp .eql 5 (.tmp 42) (.const (.int .u8 48)) 5, false, [], false⟩,
  ⟨some 43, 4, none, .assign (.tmp 46), false, [], false⟩])
 (.cond (.tmp 43)
 .skip
 (.seq (.ops [⟨some 47, 4, none, .binOp .eql 5 (.tmp 42) (.const (.int .u8 61)) 5, false, [], false⟩,
  ⟨some 43, 4, none, .assign (.tmp 47), false, [], false⟩])
 (.cond (.tmp 43)
 .skip
 (.ops [⟨some 48, 4, none, .binOp .eql 5 (.tmp 42) (.const (.int .u8 9)) 5, false, [], false⟩,
  ⟨some 43, 4, none, .assign (.tmp 48), false, [], false⟩])))))))))
 (.cond (.tmp 43)
 (.block 2 (.seq (.ops [⟨some 50, 3, none, .move (.tmp 7), false, [], false⟩,
  ⟨some 51, 4, none, .binOp .leq 3 (.tmp 50) (.const (.int .i64 128)) 3, false, [], false⟩,
  ⟨some 52, 4, none, .move (.tmp 51), false, [], false⟩,
  ⟨some 53, 9, some (52, true), .move (.tmp 0), false, [], false⟩,
  ⟨some 54, 4, some (52, true), .call ⟨.value (.func 176), #[.const (.string ⟨#[32, 32, 32, 32, 32, 32, 32, 32, 32, 32, 32, 32, 32, 32, 32, 32, 32, 32, 32, 32, 32, 32, 32, 32, 32, 32, 32, 32, 32, 32, 32, 32, 32, 32, 32, 32, 32, 32, 32, 32, 32, 32, 32, 32, 32, 32, 32, 32, 32, 32, 32, 32, 32, 32, 32, 32, 32, 32, 32, 32, 32, 32, 32, 32, 32, 32, 32, 32, 32, 32, 32, 32, 32, 32, 32, 32, 32, 32, 32, 32, 32, 32, 32, 32, 32, 32, 32, 32, 32, 32, 32, 32, 32, 32, 32, 32, 32, 32, 32, 32, 32, 32, 32, 32, 32, 32, 32, 32, 32, 32, 32, 32, 32, 32, 32, 32, 32, 32, 32, 32, 32, 32, 32, 32, 32, 32, 32, 32]⟩), .tmp 53], #[9, 9]⟩, true, [], false⟩,
  ⟨some 55, 4, none, .pick (.tmp 52) (.tmp 54) (.const (.bool false)), false, [], false⟩,
  ⟨some 49, 4, none, .assign (.tmp 55), false, [], false⟩])
 (.cond (.tmp 49)
 (.seq (.ops [⟨some 56, 3, none, .move (.tmp 7), false, [], false⟩,
  ⟨some 57, 9, none, .slice 9 (.const (.string ⟨#[32, 32, 32, 32, 32, 32, 32, 32, 32, 32, 32, 32, 32, 32, 32, 32, 32, 32, 32, 32, 32, 32, 32, 32, 32, 32, 32, 32, 32, 32, 32, 32, 32, 32, 32, 32, 32, 32, 32, 32, 32, 32, 32, 32, 32, 32, 32, 32, 32, 32, 32, 32, 32, 32, 32, 32, 32, 32, 32, 32, 32, 32, 32, 32, 32, 32, 32, 32, 32, 32, 32, 32, 32, 32, 32, 32, 32, 32, 32, 32, 32, 32, 32, 32, 32, 32, 32, 32, 32, 32, 32, 32, 32, 32, 32, 32, 32, 32, 32, 32, 32, 32, 32, 32, 32, 32, 32, 32, 32, 32, 32, 32, 32, 32, 32, 32, 32, 32, 32, 32, 32, 32, 32, 32, 32, 32, 32, 32]⟩)) none (some (.tmp 56)) none, false, [], false⟩,
  ⟨some 4, 9, none, .assign (.tmp 57), false, [], false⟩])
 .ret)
 (.seq (.ops [⟨some 59, 3, none, .move (.tmp 7), false, [], false⟩,
  ⟨some 60, 4, none, .binOp .leq 3 (.tmp 59) (.const (.int .i64 128)) 3, false, [], false⟩,
  ⟨some 61, 4, none, .move (.tmp 60), false, [], false⟩,
  ⟨some 62, 9, some (61, true), .move (.tmp 0), false, [], false⟩,
  ⟨some 63, 4, some (61, true), .call ⟨.value (.func 176), #[.const (.string ⟨#[45, 45, 45, 45, 45, 45, 45, 45, 45, 45, 45, 45, 45, 45, 45, 45, 45, 45, 45, 45, 45, 45, 45, 45, 45, 45, 45, 45, 45, 45, 45, 45, 45, 45, 45, 45, 45, 45, 45, 45, 45, 45, 45, 45, 45, 45, 45, 45, 45, 45, 45, 45, 45, 45, 45, 45, 45, 45, 45, 45, 45, 45, 45, 45, 45, 45, 45, 45, 45, 45, 45, 45, 45, 45, 45, 45, 45, 45, 45, 45, 45, 45, 45, 45, 45, 45, 45, 45, 45, 45, 45, 45, 45, 45, 45, 45, 45, 45, 45, 45, 45, 45, 45, 45, 45, 45, 45, 45, 45, 45, 45, 45, 45, 45, 45, 45, 45, 45, 45, 45, 45, 45, 45, 45, 45, 45, 45, 45]⟩), .tmp 62], #[9, 9]⟩, true, [], false⟩,
  ⟨some 64, 4, none, .pick (.tmp 61) (.tmp 63) (.const (.bool false)), false, [], false⟩,
  ⟨some 58, 4, none, .assign (.tmp 64), false, [], false⟩])
 (.cond (.tmp 58)
 (.seq (.ops [⟨some 65, 3, none, .move (.tmp 7), false, [], false⟩,
  ⟨some 66, 9, none, .slice 9 (.const (.string ⟨#[45, 45, 45, 45, 45, 45, 45, 45, 45, 45, 45, 45, 45, 45, 45, 45, 45, 45, 45, 45, 45, 45, 45, 45, 45, 45, 45, 45, 45, 45, 45, 45, 45, 45, 45, 45, 45, 45, 45, 45, 45, 45, 45, 45, 45, 45, 45, 45, 45, 45, 45, 45, 45, 45, 45, 45, 45, 45, 45, 45, 45, 45, 45, 45, 45, 45, 45, 45, 45, 45, 45, 45, 45, 45, 45, 45, 45, 45, 45, 45, 45, 45, 45, 45, 45, 45, 45, 45, 45, 45, 45, 45, 45, 45, 45, 45, 45, 45, 45, 45, 45, 45, 45, 45, 45, 45, 45, 45, 45, 45, 45, 45, 45, 45, 45, 45, 45, 45, 45, 45, 45, 45, 45, 45, 45, 45, 45, 45]⟩)) none (some (.tmp 65)) none, false, [], false⟩,
  ⟨some 4, 9, none, .assign (.tmp 66), false, [], false⟩])
 .ret)
 (.seq (.ops [⟨some 68, 3, none, .move (.tmp 7), false, [], false⟩,
  ⟨some 69, 4, none, .binOp .leq 3 (.tmp 68) (.const (.int .i64 64)) 3, false, [], false⟩,
  ⟨some 70, 4, none, .move (.tmp 69), false, [], false⟩,
  ⟨some 71, 9, some (70, true), .move (.tmp 0), false, [], false⟩,
  ⟨some 72, 4, some (70, true), .call ⟨.value (.func 176), #[.const (.string ⟨#[48, 48, 48, 48, 48, 48, 48, 48, 48, 48, 48, 48, 48, 48, 48, 48, 48, 48, 48, 48, 48, 48, 48, 48, 48, 48, 48, 48, 48, 48, 48, 48, 48, 48, 48, 48, 48, 48, 48, 48, 48, 48, 48, 48, 48, 48, 48, 48, 48, 48, 48, 48, 48, 48, 48, 48, 48, 48, 48, 48, 48, 48, 48, 48]⟩), .tmp 71], #[9, 9]⟩, true, [], false⟩,
  ⟨some 73, 4, none, .pick (.tmp 70) (.tmp 72) (.const (.bool false)), false, [], false⟩,
  ⟨some 67, 4, none, .assign (.tmp 73), false, [], false⟩])
 (.cond (.tmp 67)
 (.seq (.ops [⟨some 74, 3, none, .move (.tmp 7), false, [], false⟩,
  ⟨some 75, 9, none, .slice 9 (.const (.string ⟨#[48, 48, 48, 48, 48, 48, 48, 48, 48, 48, 48, 48, 48, 48, 48, 48, 48, 48, 48, 48, 48, 48, 48, 48, 48, 48, 48, 48, 48, 48, 48, 48, 48, 48, 48, 48, 48, 48, 48, 48, 48, 48, 48, 48, 48, 48, 48, 48, 48, 48, 48, 48, 48, 48, 48, 48, 48, 48, 48, 48, 48, 48, 48, 48]⟩)) none (some (.tmp 74)) none, false, [], false⟩,
  ⟨some 4, 9, none, .assign (.tmp 75), false, [], false⟩])
 .ret)
 (.seq (.ops [⟨some 77, 3, none, .move (.tmp 7), false, [], false⟩,
  ⟨some 78, 4, none, .binOp .leq 3 (.tmp 77) (.const (.int .i64 128)) 3, false, [], false⟩,
  ⟨some 79, 4, none, .move (.tmp 78), false, [], false⟩,
  ⟨some 80, 9, some (79, true), .move (.tmp 0), false, [], false⟩,
  ⟨some 81, 4, some (79, true), .call ⟨.value (.func 176), #[.const (.string ⟨#[61, 61, 61, 61, 61, 61, 61, 61, 61, 61, 61, 61, 61, 61, 61, 61, 61, 61, 61, 61, 61, 61, 61, 61, 61, 61, 61, 61, 61, 61, 61, 61, 61, 61, 61, 61, 61, 61, 61, 61, 61, 61, 61, 61, 61, 61, 61, 61, 61, 61, 61, 61, 61, 61, 61, 61, 61, 61, 61, 61, 61, 61, 61, 61, 61, 61, 61, 61, 61, 61, 61, 61, 61, 61, 61, 61, 61, 61, 61, 61, 61, 61, 61, 61, 61, 61, 61, 61, 61, 61, 61, 61, 61, 61, 61, 61, 61, 61, 61, 61, 61, 61, 61, 61, 61, 61, 61, 61, 61, 61, 61, 61, 61, 61, 61, 61, 61, 61, 61, 61, 61, 61, 61, 61, 61, 61, 61, 61]⟩), .tmp 80], #[9, 9]⟩, true, [], false⟩,
  ⟨some 82, 4, none, .pick (.tmp 79) (.tmp 81) (.const (.bool false)), false, [], false⟩,
  ⟨some 76, 4, none, .assign (.tmp 82), false, [], false⟩])
 (.cond (.tmp 76)
 (.seq (.ops [⟨some 83, 3, none, .move (.tmp 7), false, [], false⟩,
  ⟨some 84, 9, none, .slice 9 (.const (.string ⟨#[61, 61, 61, 61, 61, 61, 61, 61, 61, 61, 61, 61, 61, 61, 61, 61, 61, 61, 61, 61, 61, 61, 61, 61, 61, 61, 61, 61, 61, 61, 61, 61, 61, 61, 61, 61, 61, 61, 61, 61, 61, 61, 61, 61, 61, 61, 61, 61, 61, 61, 61, 61, 61, 61, 61, 61, 61, 61, 61, 61, 61, 61, 61, 61, 61, 61, 61, 61, 61, 61, 61, 61, 61, 61, 61, 61, 61, 61, 61, 61, 61, 61, 61, 61, 61, 61, 61, 61, 61, 61, 61, 61, 61, 61, 61, 61, 61, 61, 61, 61, 61, 61, 61, 61, 61, 61, 61, 61, 61, 61, 61, 61, 61, 61, 61, 61, 61, 61, 61, 61, 61, 61, 61, 61, 61, 61, 61, 61]⟩)) none (some (.tmp 83)) none, false, [], false⟩,
  ⟨some 4, 9, none, .assign (.tmp 84), false, [], false⟩])
 .ret)
 (.seq (.ops [⟨some 86, 3, none, .move (.tmp 7), false, [], false⟩,
  ⟨some 87, 4, none, .binOp .leq 3 (.tmp 86) (.const (.int .i64 64)) 3, false, [], false⟩,
  ⟨some 88, 4, none, .move (.tmp 87), false, [], false⟩,
  ⟨some 89, 9, some (88, true), .move (.tmp 0), false, [], false⟩,
  ⟨some 90, 4, some (88, true), .call ⟨.value (.func 176), #[.const (.string ⟨#[9, 9, 9, 9, 9, 9, 9, 9, 9, 9, 9, 9, 9, 9, 9, 9, 9, 9, 9, 9, 9, 9, 9, 9, 9, 9, 9, 9, 9, 9, 9, 9, 9, 9, 9, 9, 9, 9, 9, 9, 9, 9, 9, 9, 9, 9, 9, 9, 9, 9, 9, 9, 9, 9, 9, 9, 9, 9, 9, 9, 9, 9, 9, 9]⟩), .tmp 89], #[9, 9]⟩, true, [], false⟩,
  ⟨some 91, 4, none, .pick (.tmp 88) (.tmp 90) (.const (.bool false)), false, [], false⟩,
  ⟨some 85, 4, none, .assign (.tmp 91), false, [], false⟩])
 (.cond (.tmp 85)
 (.seq (.ops [⟨some 92, 3, none, .move (.tmp 7), false, [], false⟩,
  ⟨some 93, 9, none, .slice 9 (.const (.string ⟨#[9, 9, 9, 9, 9, 9, 9, 9, 9, 9, 9, 9, 9, 9, 9, 9, 9, 9, 9, 9, 9, 9, 9, 9, 9, 9, 9, 9, 9, 9, 9, 9, 9, 9, 9, 9, 9, 9, 9, 9, 9, 9, 9, 9, 9, 9, 9, 9, 9, 9, 9, 9, 9, 9, 9, 9, 9, 9, 9, 9, 9, 9, 9, 9]⟩)) none (some (.tmp 92)) none, false, [], false⟩,
  ⟨some 4, 9, none, .assign (.tmp 93), false, [], false⟩])
 .ret)
 .skip)))))))))))
 .skip))))
 (.seq (.ops [⟨some 94, 3, none, .move (.tmp 7), false, [], false⟩,
  ⟨some 8, 3, none, .assign (.tmp 94), false, [], false⟩])
 (.seq (.seq (.ops [⟨some 95, 3, none, .move (.tmp 7), false, [], false⟩,
  ⟨some 96, 4, none, .binOp .gtr 3 (.tmp 95) (.const (.int .i64 8192)) 3, false, [], false⟩])
 (.cond (.tmp 96)
 (.seq (.ops [⟨some 97, 9, none, .move (.tmp 0), false, [], false⟩,
  ⟨some 98, 3, none, .call ⟨.builtin .len, #[.tmp 97], #[9]⟩, false, [], false⟩,
  ⟨some 99, 3, none, .binOp .quo 3 (.const (.int .i64 8192)) (.tmp 98) 3, false, [], false⟩,
  ⟨some 100, 9, none, .move (.tmp 0), false, [], false⟩,
  ⟨some 101, 3, none, .call ⟨.builtin .len, #[.tmp 100], #[9]⟩, false, [], false⟩,
  ⟨some 102, 3, none, .binOp .mul 3 (.tmp 99) (.tmp 101) 3, false, [], false⟩,
  ⟨some 8, 3, none, .assign (.tmp 102), false, [], false⟩])
 (.seq (.ops [⟨some 103, 3, none, .move (.tmp 8), false, [], false⟩,
  ⟨some 104, 4, none, .binOp .eql 3 (.tmp 103) (.const (.int .i64 0)) 3, false, [], false⟩])
 (.cond (.tmp 104)
 (.ops [⟨some 105, 9, none, .move (.tmp 0), false, [], false⟩,
  ⟨some 106, 3, none, .call ⟨.builtin .len, #[.tmp 105], #[9]⟩, false, [], false⟩,
  ⟨some 8, 3, none, .assign (.tmp 106), false, [], false⟩])
 .skip)))
 .skip))
 (.seq (.ops [⟨some 9, 0, none, .alloc 189, false, [], false⟩])
 (.seq (.ops [⟨some 107, 3, none, .move (.tmp 7), false, [], false⟩,
  ⟨some 108, 0, none, .call ⟨.value (.func 177), #[.tmp 9, .tmp 107], #[189, 3]⟩, true, [], false⟩])
 (.seq (.ops [⟨some 109, 9, none, .move (.tmp 0), false, [], false⟩,
  ⟨some 110, 193, none, .call ⟨.value (.func 178), #[.tmp 9, .tmp 109], #[189, 9]⟩, true, [], false⟩])
 (.seq (.block 3 (.loop (.seq (.seq (.ops [⟨some 111, 3, none, .call ⟨.value (.func 179), #[.tmp 9], #[189]⟩, true, [], false⟩,
  ⟨some 112, 3, none, .move (.tmp 7), false, [], false⟩,
  ⟨some 113, 4, none, .binOp .lss 3 (.tmp 111) (.tmp 112) 3, false, [], false⟩])
 (.cond (.tmp 113)
 .skip
 (.exit 3)))
 (.block 4 (.seq (.ops [⟨some 114, 3, none, .move (.tmp 7), false, [], false⟩,
  ⟨some 115, 3, none, .call ⟨.value (.func 179), #[.tmp 9], #[189]⟩, true, [], false⟩,
  ⟨some 116, 3, none, .binOp .sub 3 (.tmp 114) (.tmp 115) 3, false, [], false⟩,
  ⟨some 117, 3, none, .call ⟨.value (.func 179), #[.tmp 9], #[189]⟩, true, [], false⟩,
  ⟨some 118, 3, none, .move (.tmp 8), false, [], false⟩,
  ⟨some 119, 3, none, .call ⟨.builtin .min, #[.tmp 116, .tmp 117, .tmp 118], #[3, 3, 3]⟩, false, [], false⟩,
  ⟨some 10, 3, none, .assign (.tmp 119), false, [], false⟩])
 (.ops [⟨some 120, 9, none, .call ⟨.value (.func 180), #[.tmp 9], #[189]⟩, true, [], false⟩,
  ⟨some 121, 3, none, .move (.tmp 10), false, [], false⟩,
  ⟨some 122, 9, none, .slice 9 (.tmp 120) none (some (.tmp 121)) none, false, [], false⟩,
  ⟨some 123, 193, none, .call ⟨.value (.func 178), #[.tmp 9, .tmp 122], #[189, 9]⟩, true, [], false⟩]))))))
 (.seq (.ops [⟨some 124, 9, none, .call ⟨.value (.func 180), #[.tmp 9], #[189]⟩, true, [], false⟩,
  ⟨some 4, 9, none, .assign (.tmp 124), false, [], false⟩])
 .ret))))))))))))))
theorem k142 : FnOk Tryz.prog 142 125 [.tmp 4] S142 := ⟨[166, 181, 201], _, Tryz.func142, by kernel_rfl, by kernel_rfl, rfl, rfl⟩
/- internal/stringslite.CutPrefix -/
def S150 : SC := .seq (.ops [⟨some 4, 9, none, .assign (.const (.string ⟨#[]⟩)), false, [], false⟩,
  ⟨some 5, 4, none, .assign (.const (.bool false)), false, [], false⟩])
 (.seq (.seq (.ops [⟨some 6, 9, none, .move (.tmp 0), false, [], false⟩,
  ⟨some 7, 9, none, .move (.tmp 1), false, [], false⟩,
  ⟨some 8, 4, none, .call ⟨.value (.func 184), #[.tmp 6, .tmp 7], #[9, 9]⟩, true, [], false⟩,
  ⟨some 9, 4, none, .unOp .not 4 (.tmp 8), false, [], false⟩])
 (.cond (.tmp 9)
 (.seq (.ops [⟨some 10, 9, none, .move (.tmp 0), false, [], false⟩,
  ⟨some 4, 9, none, .assign (.tmp 10), false, [], false⟩,
  ⟨some 5, 4, none, .assign (.const (.bool false)), false, [], false⟩])
 .ret)
 .skip))
 (.seq (.ops [⟨some 11, 9, none, .move (.tmp 0), false, [], false⟩,
  ⟨some 12, 9, none, .move (.tmp 1), false, [], false⟩,
  ⟨some 13, 3, none, .call ⟨.builtin .len, #[.tmp 12], #[9]⟩, false, [], false⟩,
  ⟨some 14, 9, none, .slice 9 (.tmp 11) (some (.tmp 13)) none none, false, [], false⟩,
  ⟨some 4, 9, none, .assign (.tmp 14), false, [], false⟩,
  ⟨some 5, 4, none, .assign (.const (.bool true)), false, [], false⟩])
 .ret))
theorem k150 : FnOk Tryz.prog 150 15 [.tmp 4, .tmp 5] S150 := ⟨[166, 181, 201], _, Tryz.func150, by kernel_rfl, by kernel_rfl, rfl, rfl⟩
/- internal/stringslite.Cut -/
def S151 : SC := .seq (.ops [⟨some 4, 9, none, .assign (.const (.string ⟨#[]⟩)), false, [], false⟩,
  ⟨some 5, 9, none, .assign (.const (.string ⟨#[]⟩)), false, [], false⟩,
  ⟨some 6, 4, none, .assign (.const (.bool false)), false, [], false⟩])
 (.seq (.seq (.ops [⟨some 8, 9, none, .move (.tmp 0), false, [], false⟩,
  ⟨some 9, 9, none, .move (.tmp 1), false, [], false⟩,
  ⟨some 10, 3, none, .call ⟨.value (.func 185), #[.tmp 8, .tmp 9], #[9, 9]⟩, true, [], false⟩,
  ⟨some 7, 3, none, .assign (.tmp 10), false, [], false⟩])
 (.seq (.ops [⟨some 11, 3, none, .move (.tmp 7), false, [], false⟩,
  ⟨some 12, 4, none, .binOp .geq 3 (.tmp 11) (.const (.int .i64 0)) 3, false, [], false⟩])
 (.cond (.tmp 12)
 (.seq (.ops [⟨some 13, 9, none, .move (.tmp 0), false, [], false⟩,
  ⟨some 14, 3, none, .move (.tmp 7), false, [], false⟩,
  ⟨some 15, 9, none, .slice 9 (.tmp 13) none (some (.tmp 14)) none, false, [], false⟩,
  ⟨some 16, 9, none, .move (.tmp 0), false, [], false⟩,
  ⟨some 17, 3, none, .move (.tmp 7), false, [], false⟩,
  ⟨some 18, 9, none, .move (.tmp 1), false, [], false⟩,
  ⟨some 19, 3, none, .call ⟨.builtin .len, #[.tmp 18], #[9]⟩, false, [], false⟩,
  ⟨some 20, 3, none, .binOp .add 3 (.tmp 17) (.tmp 19) 3, false, [], false⟩,
  ⟨some 21, 9, none, .slice 9 (.tmp 16) (some (.tmp 20)) none none, false, [], false⟩,
  ⟨some 4, 9, none, .assign (.tmp 15), false, [], false⟩,
  ⟨some 5, 9, none, .assign (.tmp 21), false, [], false⟩,
  ⟨some 6, 4, none, .assign (.const (.bool true)), false, [], false⟩])
 .ret)
 .skip)))
 (.seq (.ops [⟨some 22, 9, none, .move (.tmp 0), false, [], false⟩,
  ⟨some 4, 9, none, .assign (.tmp 22), false, [], false⟩,
  ⟨some 5, 9, none, .assign (.const (.string ⟨#[]⟩)), false, [], false⟩,
  ⟨some 6, 4, none, .assign (.const (.bool false)), false, [], false⟩])
 .ret))
theorem k151 : FnOk Tryz.prog 151 23 [.tmp 4, .tmp 5, .tmp 6] S151 := ⟨[166, 181, 201], _, Tryz.func151, by kernel_rfl, by kernel_rfl, rfl, rfl⟩
/- math/bits.LeadingZeros64 -/
def S164 : SC := .seq (.ops [⟨some 2, 3, none, .assign (.const (.int .i64 0)), false, [], false⟩])
 (.seq (.ops [⟨some 3, 140, none, .move (.tmp 0), false, [], false⟩,
  ⟨some 4, 3, none, .call ⟨.value (.func 187), #[.tmp 3], #[140]⟩, true, [], false⟩,
  ⟨some 5, 3, none, .binOp .sub 3 (.const (.int .i64 64)) (.tmp 4) 3, false, [], false⟩,
  ⟨some 2, 3, none, .assign (.tmp 5), false, [], false⟩])
 .ret)
theorem k164 : FnOk Tryz.prog 164 6 [.tmp 2] S164 := ⟨[166, 181, 201], _, Tryz.func164, by kernel_rfl, by kernel_rfl, rfl, rfl⟩
/- math/bits.Div64 -/
def S166 : SC := .seq (.ops [⟨some 6, 140, none, .assign (.const (.int .u64 0)), false, [], false⟩,
  ⟨some 7, 140, none, .assign (.const (.int .u64 0)), false, [], false⟩])
 (.seq (.seq (.ops [⟨some 19, 140, none, .move (.tmp 2), false, [], false⟩,
  ⟨some 20, 4, none, .binOp .eql 140 (.tmp 19) (.const (.int .u64 0)) 140, false, [], false⟩])
 (.cond (.tmp 20)
 (.ops [⟨some 21, 192, none, .load 192 (.global 0), false, [], false⟩,
  ⟨none, 0, none, .panic (.tmp 21), true, [], false⟩])
 .skip))
 (.seq (.seq (.ops [⟨some 22, 140, none, .move (.tmp 2), false, [], false⟩,
  ⟨some 23, 140, none, .move (.tmp 0), false, [], false⟩,
  ⟨some 24, 4, none, .binOp .leq 140 (.tmp 22) (.tmp 23) 140, false, [], false⟩])
 (.cond (.tmp 24)
 (.ops [⟨some 25, 192, none, .load 192 (.global 1), false, [], false⟩,
  ⟨none, 0, none, .panic (.tmp 25), true, [], false⟩])
 .skip))
 (.seq (.seq (.ops [⟨some 26, 140, none, .move (.tmp 0), false, [], false⟩,
  ⟨some 27, 4, none, .binOp .eql 140 (.tmp 26) (.const (.int .u64 0)) 140, false, [], false⟩])
 (.cond (.tmp 27)
 (.seq (.ops [⟨some 28, 140, none, .move (.tmp 1), false, [], false⟩,
  ⟨some 29, 140, none, .move (.tmp 2), false, [], false⟩,
  ⟨some 30, 140, none, .binOp .quo 140 (.tmp 28) (.tmp 29) 140, false, [], false⟩,
  ⟨some 31, 140, none, .move (.tmp 1), false, [], false⟩,
  ⟨some 32, 140, none, .move (.tmp 2), false, [], false⟩,
  ⟨some 33, 140, none, .binOp .rem 140 (.tmp 31) (.tmp 32) 140, false, [], false⟩,
  ⟨some 6, 140, none, .assign (.tmp 30), false, [], false⟩,
  ⟨some 7, 140, none, .assign (.tmp 33), false, [], false⟩])
 .ret)
 .skip))
 (.seq (.ops [⟨some 34, 140, none, .move (.tmp 2), false, [], false⟩,
  ⟨some 35, 3, none, .call ⟨.value (.func 164), #[.tmp 34], #[140]⟩, true, [], false⟩,
  ⟨some 36, 146, none, .convert 3 146 (.tmp 35), false, [], false⟩,
  ⟨some 8, 146, none, .assign (.tmp 36), false, [], false⟩])
 (.seq (.ops [⟨some 37, 140, none, .move (.tmp 2), false, [], false⟩,
  ⟨some 38, 146, none, .move (.tmp 8), false, [], false⟩,
  ⟨some 39, 140, none, .binOp .shl 140 (.tmp 37) (.tmp 38) 146, false, [], false⟩,
  ⟨some 2, 140, none, .assign (.tmp 39), false, [], false⟩])
 (.seq (.ops [⟨some 40, 140, none, .move (.tmp 2), false, [], false⟩,
  ⟨some 41, 140, none, .binOp .shr 140 (.tmp 40) (.const (.int .u64 32)) 146, false, [], false⟩,
  ⟨some 9, 140, none, .assign (.tmp 41), false, [], false⟩])
 (.seq (.ops [⟨some 42, 140, none, .move (.tmp 2), false, [], false⟩,
  ⟨some 43, 140, none, .binOp .and 140 (.tmp 42) (.const (.int .u64 4294967295)) 140, false, [], false⟩,
  ⟨some 10, 140, none, .assign (.tmp 43), false, [], false⟩])
 (.seq (.ops [⟨some 44, 140, none, .move (.tmp 0), false, [], false⟩,
  ⟨some 45, 146, none, .move (.tmp 8), false, [], false⟩,
  ⟨some 46, 140, none, .binOp .shl 140 (.tmp 44) (.tmp 45) 146, false, [], false⟩,
  ⟨some 47, 140, none, .move (.tmp 1), false, [], false⟩,
  ⟨some 48, 146, none, .move (.tmp 8), false, [], false⟩,
  ⟨some 49, 146, none, .binOp .sub 146 (.const (.int .u64 64)) (.tmp 48) 146, false, [], false⟩,
  ⟨some 50, 140, none, .binOp .shr 140 (.tmp 47) (.tmp 49) 146, false, [], false⟩,
  ⟨some 51, 140, none, .binOp .or 140 (.tmp 46) (.tmp 50) 140, false, [], false⟩,
  ⟨some 11, 140, none, .assign (.tmp 51), false, [], false⟩])
 (.seq (.ops [⟨some 52, 140, none, .move (.tmp 1), false, [], false⟩,
  ⟨some 53, 146, none, .move (.tmp 8), false, [], false⟩,
  ⟨some 54, 140, none, .binOp .shl 140 (.tmp 52) (.tmp 53) 146, false, [], false⟩,
  ⟨some 12, 140, none, .assign (.tmp 54), false, [], false⟩])
 (.seq (.ops [⟨some 55, 140, none, .move (.tmp 12), false, [], false⟩,
  ⟨some 56, 140, none, .binOp .shr 140 (.tmp 55) (.const (.int .u64 32)) 146, false, [], false⟩,
  ⟨some 13, 140, none, .assign (.tmp 56), false, [], false⟩])
 (.seq (.ops [⟨some 57, 140, none, .move (.tmp 12), false, [], false⟩,
  ⟨some 58, 140, none, .binOp .and 140 (.tmp 57) (.const (.int .u64 4294967295)) 140, false, [], false⟩,
  ⟨some 14, 140, none, .assign (.tmp 58), false, [], false⟩])
 (.seq (.ops [⟨some 59, 140, none, .move (.tmp 11), false, [], false⟩,
  ⟨some 60, 140, none, .move (.tmp 9), false, [], false⟩,
  ⟨some 61, 140, none, .binOp .quo 140 (.tmp 59) (.tmp 60) 140, false, [], false⟩,
  ⟨some 15, 140, none, .assign (.tmp 61), false, [], false⟩])
 (.seq (.ops [⟨some 62, 140, none, .move (.tmp 11), false, [], false⟩,
  ⟨some 63, 140, none, .move (.tmp 15), false, [], false⟩,
  ⟨some 64, 140, none, .move (.tmp 9), false, [], false⟩,
  ⟨some 65, 140, none, .binOp .mul 140 (.tmp 63) (.tmp 64) 140, false, [], false⟩,
  ⟨some 66, 140, none, .binOp .sub 140 (.tmp 62) (.tmp 65) 140, false, [], false⟩,
  ⟨some 16, 140, none, .assign (.tmp 66), false, [], false⟩])
 (.seq (.block 0 (.loop (.seq (.seq (.ops [⟨some 67, 140, none, .move (.tmp 15), false, [], false⟩,
  ⟨some 68, 4, none, .binOp .geq 140 (.tmp 67) (.const (.int .u64 4294967296)) 140, false, [], false⟩,
  ⟨some 69, 4, none, .move (.tmp 68), false, [], false⟩,
  ⟨some 70, 140, some (69, false), .move (.tmp 15), false, [], false⟩,
  ⟨some 71, 140, some (69, false), .move (.tmp 10), false, [], false⟩,
  ⟨some 72, 140, some (69, false), .binOp .mul 140 (.tmp 70) (.tmp 71) 140, false, [], false⟩,
  ⟨some 73, 140, some (69, false), .move (.tmp 16), false, [], false⟩,
  ⟨some 74, 140, some (69, false), .binOp .mul 140 (.const (.int .u64 4294967296)) (.tmp 73) 140, false, [], false⟩,
  ⟨some 75, 140, some (69, false), .move (.tmp 13), false, [], false⟩,
  ⟨some 76, 140, some (69, false), .binOp .add 140 (.tmp 74) (.tmp 75) 140, false, [], false⟩,
  ⟨some 77, 4, some (69, false), .binOp .gtr 140 (.tmp 72) (.tmp 76) 140, false, [], false⟩,
  ⟨some 78, 4, none, .pick (.tmp 69) (.const (.bool true)) (.tmp 77), false, [], false⟩])
 (.cond (.tmp 78)
 .skip
 (.exit 0)))
 (.block 1 (.seq (.ops [⟨some 79, 140, none, .move (.tmp 15), false, [], false⟩,
  ⟨some 80, 140, none, .binOp .sub 140 (.tmp 79) (.const (.int .u64 1)) 140, false, [], false⟩,
  ⟨some 15, 140, none, .assign (.tmp 80), false, [], false⟩])
 (.seq (.ops [⟨some 81, 140, none, .move (.tmp 16), false, [], false⟩,
  ⟨some 82, 140, none, .move (.tmp 9), false, [], false⟩,
  ⟨some 83, 140, none, .binOp .add 140 (.tmp 81) (.tmp 82) 140, false, [], false⟩,
  ⟨some 16, 140, none, .assign (.tmp 83), false, [], false⟩])
 (.seq (.ops [⟨some 84, 140, none, .move (.tmp 16), false, [], false⟩,
  ⟨some 85, 4, none, .binOp .geq 140 (.tmp 84) (.const (.int .u64 4294967296)) 140, false, [], false⟩])
 (.cond (.tmp 85)
 (.exit 0)
 .skip))))))))
 (.seq (.ops [⟨some 86, 140, none, .move (.tmp 11), false, [], false⟩,
  ⟨some 87, 140, none, .binOp .mul 140 (.tmp 86) (.const (.int .u64 4294967296)) 140, false, [], false⟩,
  ⟨some 88, 140, none, .move (.tmp 13), false, [], false⟩,
  ⟨some 89, 140, none, .binOp .add 140 (.tmp 87) (.tmp 88) 140, false, [], false⟩,
  ⟨some 90, 140, none, .move (.tmp 15), false, [], false⟩,
  ⟨some 91, 140, none, .move (.tmp 2), false, [], false⟩,
  ⟨some 92, 140, none, .binOp .mul 140 (.tmp 90) (.tmp 91) 140, false, [], false⟩,
  ⟨some 93, 140, none, .binOp .sub 140 (.tmp 89) (.tmp 92) 140, false, [], false⟩,
  ⟨some 17, 140, none, .assign (.tmp 93), false, [], false⟩])
 (.seq (.ops [⟨some 94, 140, none, .move (.tmp 17), false, [], false⟩,
  ⟨some 95, 140, none, .move (.tmp 9), false, [], false⟩,
  ⟨some 96, 140, none, .binOp .quo 140 (.tmp 94) (.tmp 95) 140, false, [], false⟩,
  ⟨some 18, 140, none, .assign (.tmp 96), false, [], false⟩])
 (.seq (.ops [⟨some 97, 140, none, .move (.tmp 17), false, [], false⟩,
  ⟨some 98, 140, none, .move (.tmp 18), false, [], false⟩,
  ⟨some 99, 140, none, .move (.tmp 9), false, [], false⟩,
  ⟨some 100, 140, none, .binOp .mul 140 (.tmp 98) (.tmp 99) 140, false, [], false⟩,
  ⟨some 101, 140, none, .binOp .sub 140 (.tmp 97) (.tmp 100) 140, false, [], false⟩,
  ⟨some 16, 140, none, .assign (.tmp 101), false, [], false⟩])
 (.seq (.block 2 (.loop (.seq (.seq (.ops [⟨some 102, 140, none, .move (.tmp 18), false, [], false⟩,
  ⟨some 103, 4, none, .binOp .geq 140 (.tmp 102) (.const (.int .u64 4294967296)) 140, false, [], false⟩,
  ⟨some 104, 4, none, .move (.tmp 103), false, [], false⟩,
  ⟨some 105, 140, some (104, false), .move (.tmp 18), false, [], false⟩,
  ⟨some 106, 140, some (104, false), .move (.tmp 10), false, [], false⟩,
  ⟨some 107, 140, some (104, false), .binOp .mul 140 (.tmp 105) (.tmp 106) 140, false, [], false⟩,
  ⟨some 108, 140, some (104, false), .move (.tmp 16), false, [], false⟩,
  ⟨some 109, 140, some (104, false), .binOp .mul 140 (.const (.int .u64 4294967296)) (.tmp 108) 140, false, [], false⟩,
  ⟨some 110, 140, some (104, false), .move (.tmp 14), false, [], false⟩,
  ⟨some 111, 140, some (104, false), .binOp .add 140 (.tmp 109) (.tmp 110) 140, false, [], false⟩,
  ⟨some 112, 4, some (104, false), .binOp .gtr 140 (.tmp 107) (.tmp 111) 140, false, [], false⟩,
  ⟨some 113, 4, none, .pick (.tmp 104) (.const (.bool true)) (.tmp 112), false, [], false⟩])
 (.cond (.tmp 113)
 .skip
 (.exit 2)))
 (.block 3 (.seq (.ops [⟨some 114, 140, none, .move (.tmp 18), false, [], false⟩,
  ⟨some 115, 140, none, .binOp .sub 140 (.tmp 114) (.const (.int .u64 1)) 140, false, [], false⟩,
  ⟨some 18, 140, none, .assign (.tmp 115), false, [], false⟩])
 (.seq (.ops [⟨some 116, 140, none, .move (.tmp 16), false, [], false⟩,
  ⟨some 117, 140, none, .move (.tmp 9), false, [], false⟩,
  ⟨some 118, 140, none, .binOp .add 140 (.tmp 116) (.tmp 117) 140, false, [], false⟩,
  ⟨some 16, 140, none, .assign (.tmp 118), false, [], false⟩])
 (.seq (.ops [⟨some 119, 140, none, .move (.tmp 16), false, [], false⟩,
  ⟨some 120, 4, none, .binOp .geq 140 (.tmp 119) (.const (.int .u64 4294967296)) 140, false, [], false⟩])
 (.cond (.tmp 120)
 (.exit 2)
 .skip))))))))
 (.seq (.ops [⟨some 121, 140, none, .move (.tmp 15), false, [], false⟩,
  ⟨some 122, 140, none, .binOp .mul 140 (.tmp 121) (.const (.int .u64 4294967296)) 140, false, [], false⟩,
  ⟨some 123, 140, none, .move (.tmp 18), false, [], false⟩,
  ⟨some 124, 140, none, .binOp .add 140 (.tmp 122) (.tmp 123) 140, false, [], false⟩,
  ⟨some 125, 140, none, .move (.tmp 17), false, [], false⟩,
  ⟨some 126, 140, none, .binOp .mul 140 (.tmp 125) (.const (.int .u64 4294967296)) 140, false, [], false⟩,
  ⟨some 127, 140, none, .move (.tmp 14), false, [], false⟩,
  ⟨some 128, 140, none, .binOp .add 140 (.tmp 126) (.tmp 127) 140, false, [], false⟩,
  ⟨some 129, 140, none, .move (.tmp 18), false, [], false⟩,
  ⟨some 130, 140, none, .move (.tmp 2), false, [], false⟩,
  ⟨some 131, 140, none, .binOp .mul 140 (.tmp 129) (.tmp 130) 140, false, [], false⟩,
  ⟨some 132, 140, none, .binOp .sub 140 (.tmp 128) (.tmp 131) 140, false, [], false⟩,
  ⟨some 133, 146, none, .move (.tmp 8), false, [], false⟩,
  ⟨some 134, 140, none, .binOp .shr 140 (.tmp 132) (.tmp 133) 146, false, [], false⟩,
  ⟨some 6, 140, none, .assign (.tmp 124), false, [], false⟩,
  ⟨some 7, 140, none, .assign (.tmp 134), false, [], false⟩])
 .ret)))))))))))))))))))
theorem k166 : FnOk Tryz.prog 166 135 [.tmp 6, .tmp 7] S166 := ⟨[166, 181, 201], _, Tryz.func166, by kernel_rfl, by kernel_rfl, rfl, rfl⟩
/- math/bits.Mul64 -/
def S167 : SC := .seq (.ops [⟨some 4, 140, none, .assign (.const (.int .u64 0)), false, [], false⟩,
  ⟨some 5, 140, none, .assign (.const (.int .u64 0)), false, [], false⟩])
 (.seq (.ops [⟨some 14, 140, none, .move (.tmp 0), false, [], false⟩,
  ⟨some 15, 140, none, .binOp .and 140 (.tmp 14) (.const (.int .u64 4294967295)) 140, false, [], false⟩,
  ⟨some 6, 140, none, .assign (.tmp 15), false, [], false⟩])
 (.seq (.ops [⟨some 16, 140, none, .move (.tmp 0), false, [], false⟩,
  ⟨some 17, 140, none, .binOp .shr 140 (.tmp 16) (.const (.int .u64 32)) 146, false, [], false⟩,
  ⟨some 7, 140, none, .assign (.tmp 17), false, [], false⟩])
 (.seq (.ops [⟨some 18, 140, none, .move (.tmp 1), false, [], false⟩,
  ⟨some 19, 140, none, .binOp .and 140 (.tmp 18) (.const (.int .u64 4294967295)) 140, false, [], false⟩,
  ⟨some 8, 140, none, .assign (.tmp 19), false, [], false⟩])
 (.seq (.ops [⟨some 20, 140, none, .move (.tmp 1), false, [], false⟩,
  ⟨some 21, 140, none, .binOp .shr 140 (.tmp 20) (.const (.int .u64 32)) 146, false, [], false⟩,
  ⟨some 9, 140, none, .assign (.tmp 21), false, [], false⟩])
 (.seq (.ops [⟨some 22, 140, none, .move (.tmp 6), false, [], false⟩,
  ⟨some 23, 140, none, .move (.tmp 8), false, [], false⟩,
  ⟨some 24, 140, none, .binOp .mul 140 (.tmp 22) (.tmp 23) 140, false, [], false⟩,
  ⟨some 10, 140, none, .assign (.tmp 24), false, [], false⟩])
 (.seq (.ops [⟨some 25, 140, none, .move (.tmp 7), false, [], false⟩,
  ⟨some 26, 140, none, .move (.tmp 8), false, [], false⟩,
  ⟨some 27, 140, none, .binOp .mul 140 (.tmp 25) (.tmp 26) 140, false, [], false⟩,
  ⟨some 28, 140, none, .move (.tmp 10), false, [], false⟩,
  ⟨some 29, 140, none, .binOp .shr 140 (.tmp 28) (.const (.int .u64 32)) 146, false, [], false⟩,
  ⟨some 30, 140, none, .binOp .add 140 (.tmp 27) (.tmp 29) 140, false, [], false⟩,
  ⟨some 11, 140, none, .assign (.tmp 30), false, [], false⟩])
 (.seq (.ops [⟨some 31, 140, none, .move (.tmp 11), false, [], false⟩,
  ⟨some 32, 140, none, .binOp .and 140 (.tmp 31) (.const (.int .u64 4294967295)) 140, false, [], false⟩,
  ⟨some 12, 140, none, .assign (.tmp 32), false, [], false⟩])
 (.seq (.ops [⟨some 33, 140, none, .move (.tmp 11), false, [], false⟩,
  ⟨some 34, 140, none, .binOp .shr 140 (.tmp 33) (.const (.int .u64 32)) 146, false, [], false⟩,
  ⟨some 13, 140, none, .assign (.tmp 34), false, [], false⟩])
 (.seq (.ops [⟨some 35, 140, none, .move (.tmp 12), false, [], false⟩,
  ⟨some 36, 140, none, .move (.tmp 6), false, [], false⟩,
  ⟨some 37, 140, none, .move (.tmp 9), false, [], false⟩,
  ⟨some 38, 140, none, .binOp .mul 140 (.tmp 36) (.tmp 37) 140, false, [], false⟩,
  ⟨some 39, 140, none, .binOp .add 140 (.tmp 35) (.tmp 38) 140, false, [], false⟩,
  ⟨some 12, 140, none, .assign (.tmp 39), false, [], false⟩])
 (.seq (.ops [⟨some 40, 140, none, .move (.tmp 7), false, [], false⟩,
  ⟨some 41, 140, none, .move (.tmp 9), false, [], false⟩,
  ⟨some 42, 140, none, .binOp .mul 140 (.tmp 40) (.tmp 41) 140, false, [], false⟩,
  ⟨some 43, 140, none, .move (.tmp 13), false, [], false⟩,
  ⟨some 44, 140, none, .binOp .add 140 (.tmp 42) (.tmp 43) 140, false, [], false⟩,
  ⟨some 45, 140, none, .move (.tmp 12), false, [], false⟩,
  ⟨some 46, 140, none, .binOp .shr 140 (.tmp 45) (.const (.int .u64 32)) 146, false, [], false⟩,
  ⟨some 47, 140, none, .binOp .add 140 (.tmp 44) (.tmp 46) 140, false, [], false⟩,
  ⟨some 4, 140, none, .assign (.tmp 47), false, [], false⟩])
 (.seq (.ops [⟨some 48, 140, none, .move (.tmp 0), false, [], false⟩,
  ⟨some 49, 140, none, .move (.tmp 1), false, [], false⟩,
  ⟨some 50, 140, none, .binOp .mul 140 (.tmp 48) (.tmp 49) 140, false, [], false⟩,
  ⟨some 5, 140, none, .assign (.tmp 50), false, [], false⟩])
 .ret)))))))))))
theorem k167 : FnOk Tryz.prog 167 51 [.tmp 4, .tmp 5] S167 := ⟨[166, 181, 201], _, Tryz.func167, by kernel_rfl, by kernel_rfl, rfl, rfl⟩
/- slices.Reverse[[]string,string] -/
def S172 : SC := .seq (.ops [⟨some 4, 113, none, .move (.tmp 0), false, [], false⟩,
  ⟨some 5, 3, none, .call ⟨.builtin .len, #[.tmp 4], #[113]⟩, false, [], false⟩,
  ⟨some 6, 3, none, .binOp .sub 3 (.tmp 5) (.const (.int .i64 1)) 3, false, [], false⟩,
  ⟨some 2, 3, none, .assign (.const (.int .i64 0)), false, [], false⟩,
  ⟨some 3, 3, none, .assign (.tmp 6), false, [], false⟩])
 (.block 0 (.loop (.seq (.seq (.ops [⟨some 7, 3, none, .move (.tmp 2), false, [], false⟩,
  ⟨some 8, 3, none, .move (.tmp 3), false, [], false⟩,
  ⟨some 9, 4, none, .binOp .lss 3 (.tmp 7) (.tmp 8) 3, false, [], false⟩])
 (.cond (.tmp 9)
 .skip
 (.exit 0)))
 (.seq (.block 1 (.ops [⟨some 14, 113, none, .move (.tmp 0), false, [], false⟩,
  ⟨some 15, 3, none, .move (.tmp 2), false, [], false⟩,
  ⟨some 16, 113, none, .move (.tmp 0), false, [], false⟩,
  ⟨some 17, 3, none, .move (.tmp 3), false, [], false⟩,
  ⟨some 18, 113, none, .move (.tmp 0), false, [], false⟩,
  ⟨some 19, 3, none, .move (.tmp 3), false, [], false⟩,
  ⟨some 20, 0, none, .indexAddr 113 (.tmp 18) (.tmp 19), false, [], false⟩,
  ⟨some 21, 9, none, .load 9 (.tmp 20), false, [], false⟩,
  ⟨some 22, 113, none, .move (.tmp 0), false, [], false⟩,
  ⟨some 23, 3, none, .move (.tmp 2), false, [], false⟩,
  ⟨some 24, 0, none, .indexAddr 113 (.tmp 22) (.tmp 23), false, [], false⟩,
  ⟨some 25, 9, none, .load 9 (.tmp 24), false, [], false⟩,
  ⟨some 26, 0, none, .indexAddr 113 (.tmp 14) (.tmp 15), false, [], false⟩,
  ⟨none, 0, none, .store 9 (.tmp 26) (.tmp 21), true, [], false⟩,
  ⟨some 27, 0, none, .indexAddr 113 (.tmp 16) (.tmp 17), false, [], false⟩,
  ⟨none, 0, none, .store 9 (.tmp 27) (.tmp 25), true, [], false⟩]))
 (.ops [⟨some 10, 3, none, .move (.tmp 2), false, [], false⟩,
  ⟨some 11, 3, none, .binOp .add 3 (.tmp 10) (.const (.int .i64 1)) 3, false, [], false⟩,
  ⟨some 12, 3, none, .move (.tmp 3), false, [], false⟩,
  ⟨some 13, 3, none, .binOp .sub 3 (.tmp 12) (.const (.int .i64 1)) 3, false, [], false⟩,
  ⟨some 2, 3, none, .assign (.tmp 11), false, [], false⟩,
  ⟨some 3, 3, none, .assign (.tmp 13), false, [], false⟩])))))
theorem k172 : FnOk Tryz.prog 172 28 [] S172 := ⟨[166, 181, 201], _, Tryz.func172, by kernel_rfl, by kernel_rfl, rfl, rfl⟩
/- strings.TrimLeft -/
def S173 : SC := .seq (.ops [⟨some 4, 9, none, .assign (.const (.string ⟨#[]⟩)), false, [], false⟩])
 (.seq (.seq (.ops [⟨some 7, 9, none, .move (.tmp 0), false, [], false⟩,
  ⟨some 8, 4, none, .binOp .eql 9 (.tmp 7) (.const (.string ⟨#[]⟩)) 9, false, [], false⟩,
  ⟨some 9, 4, none, .move (.tmp 8), false, [], false⟩,
  ⟨some 10, 9, some (9, false), .move (.tmp 1), false, [], false⟩,
  ⟨some 11, 4, some (9, false), .binOp .eql 9 (.tmp 10) (.const (.string ⟨#[]⟩)) 9, false, [], false⟩,
  ⟨some 12, 4, none, .pick (.tmp 9) (.const (.bool true)) (.tmp 11), false, [], false⟩])
 (.cond (.tmp 12)
 (.seq (.ops [⟨some 13, 9, none, .move (.tmp 0), false, [], false⟩,
  ⟨some 4, 9, none, .assign (.tmp 13), false, [], false⟩])
 .ret)
 .skip))
 (.seq (.seq (.ops [⟨some 14, 9, none, .move (.tmp 1), false, [], false⟩,
  ⟨some 15, 3, none, .call ⟨.builtin .len, #[.tmp 14], #[9]⟩, false, [], false⟩,
  ⟨some 16, 4, none, .binOp .eql 3 (.tmp 15) (.const (.int .i64 1)) 3, false, [], false⟩,
  ⟨some 17, 4, none, .move (.tmp 16), false, [], false⟩,
  ⟨some 18, 9, some (17, true), .move (.tmp 1), false, [], false⟩,
  ⟨some 19, 5, some (17, true), .index 9 (.tmp 18) (.const (.int .i64 0)), false, [], false⟩,
  ⟨some 20, 4, some (17, true), .binOp .lss 5 (.tmp 19) (.const (.int .u8 128)) 5, false, [], false⟩,
  ⟨some 21, 4, none, .pick (.tmp 17) (.tmp 20) (.const (.bool false)), false, [], false⟩])
 (.cond (.tmp 21)
 (.seq (.ops [⟨some 22, 9, none, .move (.tmp 0), false, [], false⟩,
  ⟨some 23, 9, none, .move (.tmp 1), false, [], false⟩,
  ⟨some 24, 5, none, .index 9 (.tmp 23) (.const (.int .i64 0)), false, [], false⟩,
  ⟨some 25, 9, none, .call ⟨.value (.func 188), #[.tmp 22, .tmp 24], #[9, 5]⟩, true, [], false⟩,
  ⟨some 4, 9, none, .assign (.tmp 25), false, [], false⟩])
 .ret)
 .skip))
 (.seq (.seq (.ops [⟨some 27, 9, none, .move (.tmp 1), false, [], false⟩,
  ⟨some 28, 202, none, .call ⟨.value (.func 189), #[.tmp 27], #[9]⟩, true, [], false⟩,
  ⟨some 26, 202, none, .move (.tmp 28), false, [], false⟩,
  ⟨some 29, 201, none, .extract (.tmp 26) 0, false, [], false⟩,
  ⟨some 30, 4, none, .extract (.tmp 26) 1, false, [], false⟩,
  ⟨some 5, 0, none, .alloc 201, true, [], false⟩,
  ⟨none, 0, none, .store 201 (.tmp 5) (.tmp 29), true, [], false⟩,
  ⟨some 6, 4, none, .assign (.tmp 30), false, [], false⟩])
 (.seq (.ops [⟨some 31, 4, none, .move (.tmp 6), false, [], false⟩])
 (.cond (.tmp 31)
 (.seq (.ops [⟨some 32, 9, none, .move (.tmp 0), false, [], false⟩,
  ⟨some 33, 9, none, .call ⟨.value (.func 190), #[.tmp 32, .tmp 5], #[9, 205]⟩, true, [], false⟩,
  ⟨some 4, 9, none, .assign (.tmp 33), false, [], false⟩])
 .ret)
 .skip)))
 (.seq (.ops [⟨some 34, 9, none, .move (.tmp 0), false, [], false⟩,
  ⟨some 35, 9, none, .move (.tmp 1), false, [], false⟩,
  ⟨some 36, 9, none, .call ⟨.value (.func 191), #[.tmp 34, .tmp 35], #[9, 9]⟩, true, [], false⟩,
  ⟨some 4, 9, none, .assign (.tmp 36), false, [], false⟩])
 .ret))))
theorem k173 : FnOk Tryz.prog 173 37 [.tmp 4] S173 := ⟨[166, 181, 201], _, Tryz.func173, by kernel_rfl, by kernel_rfl, rfl, rfl⟩
/- strings.Join -/
def S174 : SC := .seq (.ops [⟨some 4, 9, none, .assign (.const (.string ⟨#[]⟩)), false, [], false⟩])
 (.seq (.seq (.ops [⟨some 11, 113, none, .move (.tmp 0), false, [], false⟩,
  ⟨some 12, 3, none, .call ⟨.builtin .len, #[.tmp 11], #[113]⟩, false, [], false⟩])
 (.block 0 (.seq (.ops [⟨some 14, 4, none, .binOp .eql 3 (.tmp 12) (.const (.int .i64 0)) 3, false, [], false⟩,
  ⟨some 13, 4, none, .assign (.tmp 14), false, [], false⟩])
 (.cond (.tmp 13)
 (.seq (.ops [⟨some 4, 9, none, .assign (.const (.string ⟨#[]⟩)), false, [], false⟩])
 .ret)
 (.seq (.ops [⟨some 16, 4, none, .binOp .eql 3 (.tmp 12) (.const (.int .i64 1)) 3, false, [], false⟩,
  ⟨some 15, 4, none, .assign (.tmp 16), false, [], false⟩])
 (.cond (.tmp 15)
 (.seq (.ops [⟨some 17, 113, none, .move (.tmp 0), false, [], false⟩,
  ⟨some 18, 0, none, .indexAddr 113 (.tmp 17) (.const (.int .i64 0)), false, [], false⟩,
  ⟨some 19, 9, none, .load 9 (.tmp 18), false, [], false⟩,
  ⟨some 4, 9, none, .assign (.tmp 19), false, [], false⟩])
 .ret)
 .skip))))))
 (.seq (.ops [⟨some 5, 3, none, .assign (.const (.int .i64 0)), false, [], false⟩])
 (.seq (.seq (.ops [⟨some 20, 9, none, .move (.tmp 1), false, [], false⟩,
  ⟨some 21, 3, none, .call ⟨.builtin .len, #[.tmp 20], #[9]⟩, false, [], false⟩,
  ⟨some 22, 4, none, .binOp .gtr 3 (.tmp 21) (.const (.int .i64 0)) 3, false, [], false⟩])
 (.cond (.tmp 22)
 (.seq (.seq (.ops [⟨some 23, 9, none, .move (.tmp 1), false, [], false⟩,
  ⟨some 24, 3, none, .call ⟨.builtin .len, #[.tmp 23], #[9]⟩, false, [], false⟩,
  ⟨some 25, 113, none, .move (.tmp 0), false, [], false⟩,
  ⟨some 26, 3, none, .call ⟨.builtin .len, #[.tmp 25], #[113]⟩, false, [], false⟩,
  ⟨some 27, 3, none, .binOp .sub 3 (.tmp 26) (.const (.int .i64 1)) 3, false, [], false⟩,
  ⟨some 28, 3, none, .binOp .quo 3 (.const (.int .i64 9223372036854775807)) (.tmp 27) 3, false, [], false⟩,
  ⟨some 29, 4, none, .binOp .geq 3 (.tmp 24) (.tmp 28) 3, false, [], false⟩])
 (.cond (.tmp 29)
 (.ops [⟨some 30, 20, none, .makeInterface 9 (.const (.string ⟨#[115, 116, 114, 105, 110, 103, 115, 58, 32, 74, 111, 105, 110, 32, 111, 117, 116, 112, 117, 116, 32, 108, 101, 110, 103, 116, 104, 32, 111, 118, 101, 114, 102, 108, 111, 119]⟩)), true, [], false⟩,
  ⟨none, 0, none, .panic (.tmp 30), true, [], false⟩])
 .skip))
 (.ops [⟨some 31, 3, none, .move (.tmp 5), false, [], false⟩,
  ⟨some 32, 9, none, .move (.tmp 1), false, [], false⟩,
  ⟨some 33, 3, none, .call ⟨.builtin .len, #[.tmp 32], #[9]⟩, false, [], false⟩,
  ⟨some 34, 113, none, .move (.tmp 0), false, [], false⟩,
  ⟨some 35, 3, none, .call ⟨.builtin .len, #[.tmp 34], #[113]⟩, false, [], false⟩,
  ⟨some 36, 3, none, .binOp .sub 3 (.tmp 35) (.const (.int .i64 1)) 3, false, [], false⟩,
  ⟨some 37, 3, none, .binOp .mul 3 (.tmp 33) (.tmp 36) 3, false, [], false⟩,
  ⟨some 38, 3, none, .binOp .add 3 (.tmp 31) (.tmp 37) 3, false, [], false⟩,
  ⟨some 5, 3, none, .assign (.tmp 38), false, [], false⟩]))
 .skip))
 (.seq (.seq (.ops [⟨some 39, 113, none, .move (.tmp 0), false, [], false⟩,
  ⟨some 40, 3, none, .call ⟨.builtin .len, #[.tmp 39], #[113]⟩, false, [], false⟩,
  ⟨some 41, 3, none, .move (.const (.int .i64 0)), false, [], false⟩])
 (.block 1 (.loop (.seq (.ops [⟨some 42, 0, none, .binOp .lss 3 (.tmp 41) (.tmp 40) 3, false, [], false⟩])
 (.seq (.cond (.tmp 42)
 .skip
 (.exit 1))
 (.seq (.block 2 (.seq (.ops [⟨some 43, 0, none, .indexAddr 113 (.tmp 39) (.tmp 41), false, [], false⟩,
  ⟨some 44, 9, none, .load 9 (.tmp 43), false, [], false⟩,
  ⟨some 7, 9, none, .assign (.tmp 44), false, [], false⟩])
 (.seq (.seq (.ops [⟨some 45, 9, none, .move (.tmp 7), false, [], false⟩,
  ⟨some 46, 3, none, .call ⟨.builtin .len, #[.tmp 45], #[9]⟩, false, [], false⟩,
  ⟨some 47, 3, none, .move (.tmp 5), false, [], false⟩,
  ⟨some 48, 3, none, .binOp .sub 3 (.const (.int .i64 9223372036854775807)) (.tmp 47) 3, false, [], false⟩,
  ⟨some 49, 4, none, .binOp .gtr 3 (.tmp 46) (.tmp 48) 3, false, [], false⟩])
 (.cond (.tmp 49)
 (.ops [⟨some 50, 20, none, .makeInterface 9 (.const (.string ⟨#[115, 116, 114, 105, 110, 103, 115, 58, 32, 74, 111, 105, 110, 32, 111, 117, 116, 112, 117, 116, 32, 108, 101, 110, 103, 116, 104, 32, 111, 118, 101, 114, 102, 108, 111, 119]⟩)), true, [], false⟩,
  ⟨none, 0, none, .panic (.tmp 50), true, [], false⟩])
 .skip))
 (.ops [⟨some 51, 3, none, .move (.tmp 5), false, [], false⟩,
  ⟨some 52, 9, none, .move (.tmp 7), false, [], false⟩,
  ⟨some 53, 3, none, .call ⟨.builtin .len, #[.tmp 52], #[9]⟩, false, [], false⟩,
  ⟨some 54, 3, none, .binOp .add 3 (.tmp 51) (.tmp 53) 3, false, [], false⟩,
  ⟨some 5, 3, none, .assign (.tmp 54), false, [], false⟩]))))
 (.ops [⟨some 55, 3, none, .binOp .add 3 (.tmp 41) (.const (.int .i64 1)) 3, false, [], false⟩,
  ⟨some 41, 3, none, .move (.tmp 55), false, [], false⟩])))))))
 (.seq (.ops [⟨some 8, 0, none, .alloc 189, false, [], false⟩])
 (.seq (.ops [⟨some 56, 3, none, .move (.tmp 5), false, [], false⟩,
  ⟨some 57, 0, none, .call ⟨.value (.func 177), #[.tmp 8, .tmp 56], #[189, 3]⟩, true, [], false⟩])
 (.seq (.ops [⟨some 58, 113, none, .move (.tmp 0), false, [], false⟩,
  ⟨some 59, 0, none, .indexAddr 113 (.tmp 58) (.const (.int .i64 0)), false, [], false⟩,
  ⟨some 60, 9, none, .load 9 (.tmp 59), false, [], false⟩,
  ⟨some 61, 193, none, .call ⟨.value (.func 178), #[.tmp 8, .tmp 60], #[189, 9]⟩, true, [], false⟩])
 (.seq (.seq (.ops [⟨some 62, 113, none, .move (.tmp 0), false, [], false⟩,
  ⟨some 63, 113, none, .slice 113 (.tmp 62) (some (.const (.int .i64 1))) none none, false, [], false⟩,
  ⟨some 64, 3, none, .call ⟨.builtin .len, #[.tmp 63], #[113]⟩, false, [], false⟩,
  ⟨some 65, 3, none, .move (.const (.int .i64 0)), false, [], false⟩])
 (.block 3 (.loop (.seq (.ops [⟨some 66, 0, none, .binOp .lss 3 (.tmp 65) (.tmp 64) 3, false, [], false⟩])
 (.seq (.cond (.tmp 66)
 .skip
 (.exit 3))
 (.seq (.block 4 (.seq (.ops [⟨some 67, 0, none, .indexAddr 113 (.tmp 63) (.tmp 65), false, [], false⟩,
  ⟨some 68, 9, none, .load 9 (.tmp 67), false, [], false⟩,
  ⟨some 10, 9, none, .assign (.tmp 68), false, [], false⟩])
 (.seq (.ops [⟨some 69, 9, none, .move (.tmp 1), false, [], false⟩,
  ⟨some 70, 193, none, .call ⟨.value (.func 178), #[.tmp 8, .tmp 69], #[189, 9]⟩, true, [], false⟩])
 (.ops [⟨some 71, 9, none, .move (.tmp 10), false, [], false⟩,
  ⟨some 72, 193, none, .call ⟨.value (.func 178), #[.tmp 8, .tmp 71], #[189, 9]⟩, true, [], false⟩]))))
 (.ops [⟨some 73, 3, none, .binOp .add 3 (.tmp 65) (.const (.int .i64 1)) 3, false, [], false⟩,
  ⟨some 65, 3, none, .move (.tmp 73), false, [], false⟩])))))))
 (.seq (.ops [⟨some 74, 9, none, .call ⟨.value (.func 180), #[.tmp 8], #[189]⟩, true, [], false⟩,
  ⟨some 4, 9, none, .assign (.tmp 74), false, [], false⟩])
 .ret)))))))))
theorem k174 : FnOk Tryz.prog 174 75 [.tmp 4] S174 := ⟨[166, 181, 201], _, Tryz.func174, by kernel_rfl, by kernel_rfl, rfl, rfl⟩
/- math/bits.Mul -/
def S175 : SC := .seq (.ops [⟨some 4, 146, none, .assign (.const (.int .u64 0)), false, [], false⟩,
  ⟨some 5, 146, none, .assign (.const (.int .u64 0)), false, [], false⟩])
 (.seq (.cond (.const (.bool false))
 (.seq (.ops [⟨some 11, 146, none, .move (.tmp 0), false, [], false⟩,
  ⟨some 12, 206, none, .convert 146 206 (.tmp 11), false, [], false⟩,
  ⟨some 13, 146, none, .move (.tmp 1), false, [], false⟩,
  ⟨some 14, 206, none, .convert 146 206 (.tmp 13), false, [], false⟩,
  ⟨some 15, 207, none, .call ⟨.value (.func 192), #[.tmp 12, .tmp 14], #[206, 206]⟩, true, [], false⟩,
  ⟨some 10, 207, none, .move (.tmp 15), false, [], false⟩,
  ⟨some 16, 206, none, .extract (.tmp 10) 0, false, [], false⟩,
  ⟨some 17, 206, none, .extract (.tmp 10) 1, false, [], false⟩,
  ⟨some 6, 206, none, .assign (.tmp 16), false, [], false⟩,
  ⟨some 7, 206, none, .assign (.tmp 17), false, [], false⟩])
 (.seq (.ops [⟨some 18, 206, none, .move (.tmp 6), false, [], false⟩,
  ⟨some 19, 146, none, .convert 206 146 (.tmp 18), false, [], false⟩,
  ⟨some 20, 206, none, .move (.tmp 7), false, [], false⟩,
  ⟨some 21, 146, none, .convert 206 146 (.tmp 20), false, [], false⟩,
  ⟨some 4, 146, none, .assign (.tmp 19), false, [], false⟩,
  ⟨some 5, 146, none, .assign (.tmp 21), false, [], false⟩])
 .ret))
 .skip)
 (.seq (.ops [⟨some 23, 146, none, .move (.tmp 0), false, [], false⟩,
  ⟨some 24, 146, none, .move (.tmp 1), false, [], false⟩,
  ⟨some 25, 172, none, .call ⟨.value (.func 167), #[.tmp 23, .tmp 24], #[140, 140]⟩, true, [], false⟩,
  ⟨some 22, 172, none, .move (.tmp 25), false, [], false⟩,
  ⟨some 26, 140, none, .extract (.tmp 22) 0, false, [], false⟩,
  ⟨some 27, 140, none, .extract (.tmp 22) 1, false, [], false⟩,
  ⟨some 8, 140, none, .assign (.tmp 26), false, [], false⟩,
  ⟨some 9, 140, none, .assign (.tmp 27), false, [], false⟩])
 (.seq (.ops [⟨some 28, 140, none, .move (.tmp 8), false, [], false⟩,
  ⟨some 29, 140, none, .move (.tmp 9), false, [], false⟩,
  ⟨some 4, 146, none, .assign (.tmp 28), false, [], false⟩,
  ⟨some 5, 146, none, .assign (.tmp 29), false, [], false⟩])
 .ret)))
theorem k175 : FnOk Tryz.prog 175 30 [.tmp 4, .tmp 5] S175 := ⟨[166, 181, 201], _, Tryz.func175, by kernel_rfl, by kernel_rfl, rfl, rfl⟩
/- strings.HasPrefix -/
def S176 : SC := .seq (.ops [⟨some 4, 4, none, .assign (.const (.bool false)), false, [], false⟩])
 (.seq (.ops [⟨some 5, 9, none, .move (.tmp 0), false, [], false⟩,
  ⟨some 6, 9, none, .move (.tmp 1), false, [], false⟩,
  ⟨some 7, 4, none, .call ⟨.value (.func 184), #[.tmp 5, .tmp 6], #[9, 9]⟩, true, [], false⟩,
  ⟨some 4, 4, none, .assign (.tmp 7), false, [], false⟩])
 .ret)
theorem k176 : FnOk Tryz.prog 176 8 [.tmp 4] S176 := ⟨[166, 181, 201], _, Tryz.func176, by kernel_rfl, by kernel_rfl, rfl, rfl⟩
/- (*strings.Builder).WriteString -/
def S178 : SC := .seq (.ops [⟨some 4, 3, none, .assign (.const (.int .i64 0)), false, [], false⟩,
  ⟨some 5, 192, none, .assign (.const .nilIface), false, [], false⟩])
 (.seq (.ops [⟨some 6, 187, none, .move (.tmp 0), false, [], false⟩,
  ⟨some 7, 0, none, .call ⟨.value (.func 193), #[.tmp 6], #[187]⟩, true, [], false⟩])
 (.seq (.ops [⟨some 8, 187, none, .move (.tmp 0), false, [], false⟩,
  ⟨some 9, 187, none, .move (.tmp 0), false, [], false⟩,
  ⟨some 10, 0, none, .nilCheck (.tmp 9), true, [], false⟩,
  ⟨some 11, 0, none, .fieldAddr 189 (.tmp 10) 1, false, [], false⟩,
  ⟨some 12, 166, none, .load 166 (.tmp 11), false, [], false⟩,
  ⟨some 13, 9, none, .move (.tmp 1), false, [], false⟩,
  ⟨some 14, 166, none, .call ⟨.builtin .append, #[.tmp 12, .tmp 13], #[166, 9]⟩, true, [], false⟩,
  ⟨some 15, 0, none, .nilCheck (.tmp 8), true, [], false⟩,
  ⟨some 16, 0, none, .fieldAddr 189 (.tmp 15) 1, false, [], false⟩,
  ⟨none, 0, none, .store 166 (.tmp 16) (.tmp 14), true, [], false⟩])
 (.seq (.ops [⟨some 17, 9, none, .move (.tmp 1), false, [], false⟩,
  ⟨some 18, 3, none, .call ⟨.builtin .len, #[.tmp 17], #[9]⟩, false, [], false⟩,
  ⟨some 4, 3, none, .assign (.tmp 18), false, [], false⟩,
  ⟨some 5, 192, none, .assign (.const .nilIface), false, [], false⟩])
 .ret)))
theorem k178 : FnOk Tryz.prog 178 19 [.tmp 4, .tmp 5] S178 := ⟨[166, 181, 201], _, Tryz.func178, by kernel_rfl, by kernel_rfl, rfl, rfl⟩
/- (*strings.Builder).Len -/
def S179 : SC := .seq (.ops [⟨some 2, 3, none, .assign (.const (.int .i64 0)), false, [], false⟩])
 (.seq (.ops [⟨some 3, 187, none, .move (.tmp 0), false, [], false⟩,
  ⟨some 4, 0, none, .nilCheck (.tmp 3), true, [], false⟩,
  ⟨some 5, 0, none, .fieldAddr 189 (.tmp 4) 1, false, [], false⟩,
  ⟨some 6, 166, none, .load 166 (.tmp 5), false, [], false⟩,
  ⟨some 7, 3, none, .call ⟨.builtin .len, #[.tmp 6], #[166]⟩, false, [], false⟩,
  ⟨some 2, 3, none, .assign (.tmp 7), false, [], false⟩])
 .ret)
theorem k179 : FnOk Tryz.prog 179 8 [.tmp 2] S179 := ⟨[166, 181, 201], _, Tryz.func179, by kernel_rfl, by kernel_rfl, rfl, rfl⟩
/- internal/stringslite.HasPrefix -/
def S184 : SC := .seq (.ops [⟨some 4, 4, none, .assign (.const (.bool false)), false, [], false⟩])
 (.seq (.ops [⟨some 5, 9, none, .move (.tmp 0), false, [], false⟩,
  ⟨some 6, 3, none, .call ⟨.builtin .len, #[.tmp 5], #[9]⟩, false, [], false⟩,
  ⟨some 7, 9, none, .move (.tmp 1), false, [], false⟩,
  ⟨some 8, 3, none, .call ⟨.builtin .len, #[.tmp 7], #[9]⟩, false, [], false⟩,
  ⟨some 9, 4, none, .binOp .geq 3 (.tmp 6) (.tmp 8) 3, false, [], false⟩,
  ⟨some 10, 4, none, .move (.tmp 9), false, [], false⟩,
  ⟨some 11, 9, some (10, true), .move (.tmp 0), false, [], false⟩,
  ⟨some 12, 9, some (10, true), .move (.tmp 1), false, [], false⟩,
  ⟨some 13, 3, some (10, true), .call ⟨.builtin .len, #[.tmp 12], #[9]⟩, false, [], false⟩,
  ⟨some 14, 9, some (10, true), .slice 9 (.tmp 11) none (some (.tmp 13)) none, false, [], false⟩,
  ⟨some 15, 9, some (10, true), .move (.tmp 1), false, [], false⟩,
  ⟨some 16, 4, some (10, true), .binOp .eql 9 (.tmp 14) (.tmp 15) 9, false, [], false⟩,
  ⟨some 17, 4, none, .pick (.tmp 10) (.tmp 16) (.const (.bool false)), false, [], false⟩,
  ⟨some 4, 4, none, .assign (.tmp 17), false, [], false⟩])
 .ret)
theorem k184 : FnOk Tryz.prog 184 18 [.tmp 4] S184 := ⟨[166, 181, 201], _, Tryz.func184, by kernel_rfl, by kernel_rfl, rfl, rfl⟩
/- internal/stringslite.Index -/
def S185 : SC := .seq (.ops [⟨some 4, 3, none, .assign (.const (.int .i64 0)), false, [], false⟩])
 (.seq (.ops [⟨some 14, 9, none, .move (.tmp 1), false, [], false⟩,
  ⟨some 15, 3, none, .call ⟨.builtin .len, #[.tmp 14], #[9]⟩, false, [], false⟩,
  ⟨some 5, 3, none, .assign (.tmp 15), false, [], false⟩])
 (.seq (.block 0 (.seq (.ops [⟨some 17, 3, none, .move (.tmp 5), false, [], false⟩,
  ⟨some 18, 4, none, .binOp .eql 3 (.tmp 17) (.const (.int .i64 0)) 3, false, [], false⟩,
  ⟨some 19, 4, none, .move (.tmp 18), false, [], false⟩,
  ⟨some 20, 9, some (19, false), .move (.tmp 1), false, [], false⟩,
  ⟨some 21, 9, some (19, false), .move (.tmp 0), false, [], false⟩,
  ⟨some 22, 4, some (19, false), .binOp .eql 9 (.tmp 20) (.tmp 21) 9, false, [], false⟩,
  ⟨some 23, 4, none, .pick (.tmp 19) (.const (.bool true)) (.tmp 22), false, [], false⟩,
  ⟨some 16, 4, none, .assign (.tmp 23), false, [], false⟩])
 (.cond (.tmp 16)
 (.seq (.ops [⟨some 4, 3, none, .assign (.const (.int .i64 0)), false, [], false⟩])
 .ret)
 (.seq (.ops [⟨some 25, 3, none, .move (.tmp 5), false, [], false⟩,
  ⟨some 26, 4, none, .binOp .eql 3 (.tmp 25) (.const (.int .i64 1)) 3, false, [], false⟩,
  ⟨some 24, 4, none, .assign (.tmp 26), false, [], false⟩])
 (.cond (.tmp 24)
 (.seq (.ops [⟨some 27, 9, none, .move (.tmp 0), false, [], false⟩,
  ⟨some 28, 9, none, .move (.tmp 1), false, [], false⟩,
  ⟨some 29, 5, none, .index 9 (.tmp 28) (.const (.int .i64 0)), false, [], false⟩,
  ⟨some 30, 3, none, .call ⟨.value (.func 195), #[.tmp 27, .tmp 29], #[9, 5]⟩, true, [], false⟩,
  ⟨some 4, 3, none, .assign (.tmp 30), false, [], false⟩])
 .ret)
 (.seq (.ops [⟨some 32, 3, none, .move (.tmp 5), false, [], false⟩,
  ⟨some 33, 9, none, .move (.tmp 0), false, [], false⟩,
  ⟨some 34, 3, none, .call ⟨.builtin .len, #[.tmp 33], #[9]⟩, false, [], false⟩,
  ⟨some 35, 4, none, .binOp .geq 3 (.tmp 32) (.tmp 34) 3, false, [], false⟩,
  ⟨some 31, 4, none, .assign (.tmp 35), false, [], false⟩])
 (.cond (.tmp 31)
 (.seq (.ops [⟨some 4, 3, none, .assign (.const (.int .i64 (-1))), false, [], false⟩])
 .ret)
 (.seq (.ops [⟨some 37, 3, none, .move (.tmp 5), false, [], false⟩,
  ⟨some 38, 3, none, .load 3 (.global 2), false, [], false⟩,
  ⟨some 39, 4, none, .binOp .leq 3 (.tmp 37) (.tmp 38) 3, false, [], false⟩,
  ⟨some 40, 4, none, .move (.tmp 39), false, [], false⟩,
  ⟨some 41, 9, some (40, true), .move (.tmp 0), false, [], false⟩,
  ⟨some 42, 3, some (40, true), .call ⟨.builtin .len, #[.tmp 41], #[9]⟩, false, [], false⟩,
  ⟨some 43, 4, some (40, true), .binOp .leq 3 (.tmp 42) (.const (.int .i64 64)) 3, false, [], false⟩,
  ⟨some 44, 4, none, .pick (.tmp 40) (.tmp 43) (.const (.bool false)), false, [], false⟩,
  ⟨some 36, 4, none, .assign (.tmp 44), false, [], false⟩])
 (.cond (.tmp 36)
 (.seq (.ops [⟨some 45, 9, none, .move (.tmp 0), false, [], false⟩,
  ⟨some 46, 9, none, .move (.tmp 1), false, [], false⟩,
  ⟨some 47, 3, none, .call ⟨.value (.func 196), #[.tmp 45, .tmp 46], #[9, 9]⟩, true, [], false⟩,
  ⟨some 4, 3, none, .assign (.tmp 47), false, [], false⟩])
 .ret)
 .skip)))))))))
 (.seq (.ops [⟨some 48, 9, none, .move (.tmp 1), false, [], false⟩,
  ⟨some 49, 5, none, .index 9 (.tmp 48) (.const (.int .i64 0)), false, [], false⟩,
  ⟨some 6, 5, none, .assign (.tmp 49), false, [], false⟩])
 (.seq (.ops [⟨some 50, 9, none, .move (.tmp 1), false, [], false⟩,
  ⟨some 51, 5, none, .index 9 (.tmp 50) (.const (.int .i64 1)), false, [], false⟩,
  ⟨some 7, 5, none, .assign (.tmp 51), false, [], false⟩])
 (.seq (.ops [⟨some 8, 3, none, .assign (.const (.int .i64 0)), false, [], false⟩])
 (.seq (.ops [⟨some 52, 9, none, .move (.tmp 0), false, [], false⟩,
  ⟨some 53, 3, none, .call ⟨.builtin .len, #[.tmp 52], #[9]⟩, false, [], false⟩,
  ⟨some 54, 3, none, .move (.tmp 5), false, [], false⟩,
  ⟨some 55, 3, none, .binOp .sub 3 (.tmp 53) (.tmp 54) 3, false, [], false⟩,
  ⟨some 56, 3, none, .binOp .add 3 (.tmp 55) (.const (.int .i64 1)) 3, false, [], false⟩,
  ⟨some 9, 3, none, .assign (.tmp 56), false, [], false⟩])
 (.seq (.ops [⟨some 10, 3, none, .assign (.const (.int .i64 0)), false, [], false⟩])
 (.seq (.block 1 (.loop (.seq (.seq (.ops [⟨some 57, 3, none, .move (.tmp 8), false, [], false⟩,
  ⟨some 58, 3, none, .move (.tmp 9), false, [], false⟩,
  ⟨some 59, 4, none, .binOp .lss 3 (.tmp 57) (.tmp 58) 3, false, [], false⟩])
 (.cond (.tmp 59)
 .skip
 (.exit 1)))
 (.block 2 (.seq (.seq (.ops [⟨some 60, 9, none, .move (.tmp 0), false, [], false⟩,
  ⟨some 61, 3, none, .move (.tmp 8), false, [], false⟩,
  ⟨some 62, 5, none, .index 9 (.tmp 60) (.tmp 61), false, [], false⟩,
  ⟨some 63, 5, none, .move (.tmp 6), false, [], false⟩,
  ⟨some 64, 4, none, .binOp .neq 5 (.tmp 62) (.tmp 63) 5, false, [], false⟩])
 (.cond (.tmp 64)
 (.seq (.ops [⟨some 65, 9, none, .move (.tmp 0), false, [], false⟩,
  ⟨some 66, 3, none, .move (.tmp 8), false, [], false⟩,
  ⟨some 67, 3, none, .binOp .add 3 (.tmp 66) (.const (.int .i64 1)) 3, false, [], false⟩,
  ⟨some 68, 3, none, .move (.tmp 9), false, [], false⟩,
  ⟨some 69, 9, none, .slice 9 (.tmp 65) (some (.tmp 67)) (some (.tmp 68)) none, false, [], false⟩,
  ⟨some 70, 5, none, .move (.tmp 6), false, [], false⟩,
  ⟨some 71, 3, none, .call ⟨.value (.func 195), #[.tmp 69, .tmp 70], #[9, 5]⟩, true, [], false⟩,
  ⟨some 11, 3, none, .assign (.tmp 71), false, [], false⟩])
 (.seq (.seq (.ops [⟨some 72, 3, none, .move (.tmp 11), false, [], false⟩,
  ⟨some 73, 4, none, .binOp .lss 3 (.tmp 72) (.const (.int .i64 0)) 3, false, [], false⟩])
 (.cond (.tmp 73)
 (.seq (.ops [⟨some 4, 3, none, .assign (.const (.int .i64 (-1))), false, [], false⟩])
 .ret)
 .skip))
 (.ops [⟨some 74, 3, none, .move (.tmp 8), false, [], false⟩,
  ⟨some 75, 3, none, .move (.tmp 11), false, [], false⟩,
  ⟨some 76, 3, none, .binOp .add 3 (.tmp 75) (.const (.int .i64 1)) 3, false, [], false⟩,
  ⟨some 77, 3, none, .binOp .add 3 (.tmp 74) (.tmp 76) 3, false, [], false⟩,
  ⟨some 8, 3, none, .assign (.tmp 77), false, [], false⟩])))
 .skip))
 (.seq (.seq (.ops [⟨some 78, 9, none, .move (.tmp 0), false, [], false⟩,
  ⟨some 79, 3, none, .move (.tmp 8), false, [], false⟩,
  ⟨some 80, 3, none, .binOp .add 3 (.tmp 79) (.const (.int .i64 1)) 3, false, [], false⟩,
  ⟨some 81, 5, none, .index 9 (.tmp 78) (.tmp 80), false, [], false⟩,
  ⟨some 82, 5, none, .move (.tmp 7), false, [], false⟩,
  ⟨some 83, 4, none, .binOp .eql 5 (.tmp 81) (.tmp 82) 5, false, [], false⟩,
  ⟨some 84, 4, none, .move (.tmp 83), false, [], false⟩,
  ⟨some 85, 9, some (84, true), .move (.tmp 0), false, [], false⟩,
  ⟨some 86, 3, some (84, true), .move (.tmp 8), false, [], false⟩,
  ⟨some 87, 3, some (84, true), .move (.tmp 8), false, [], false⟩,
  ⟨some 88, 3, some (84, true), .move (.tmp 5), false, [], false⟩,
  ⟨some 89, 3, some (84, true), .binOp .add 3 (.tmp 87) (.tmp 88) 3, false, [], false⟩,
  ⟨some 90, 9, some (84, true), .slice 9 (.tmp 85) (some (.tmp 86)) (some (.tmp 89)) none, false, [], false⟩,
  ⟨some 91, 9, some (84, true), .move (.tmp 1), false, [], false⟩,
  ⟨some 92, 4, some (84, true), .binOp .eql 9 (.tmp 90) (.tmp 91) 9, false, [], false⟩,
  ⟨some 93, 4, none, .pick (.tmp 84) (.tmp 92) (.const (.bool false)), false, [], false⟩])
 (.cond (.tmp 93)
 (.seq (.ops [⟨some 94, 3, none, .move (.tmp 8), false, [], false⟩,
  ⟨some 4, 3, none, .assign (.tmp 94), false, [], false⟩])
 .ret)
 .skip))
 (.seq (.ops [⟨some 95, 3, none, .move (.tmp 8), false, [], false⟩,
  ⟨some 96, 3, none, .binOp .add 3 (.tmp 95) (.const (.int .i64 1)) 3, false, [], false⟩,
  ⟨some 8, 3, none, .assign (.tmp 96), false, [], false⟩])
 (.seq (.ops [⟨some 97, 3, none, .move (.tmp 10), false, [], false⟩,
  ⟨some 98, 3, none, .binOp .add 3 (.tmp 97) (.const (.int .i64 1)) 3, false, [], false⟩,
  ⟨some 10, 3, none, .assign (.tmp 98), false, [], false⟩])
 (.seq (.ops [⟨some 99, 3, none, .move (.tmp 5), false, [], false⟩,
  ⟨some 100, 3, none, .load 3 (.global 2), false, [], false⟩,
  ⟨some 101, 4, none, .binOp .leq 3 (.tmp 99) (.tmp 100) 3, false, [], false⟩,
  ⟨some 102, 4, none, .move (.tmp 101), false, [], false⟩,
  ⟨some 103, 3, some (102, true), .move (.tmp 10), false, [], false⟩,
  ⟨some 104, 3, some (102, true), .move (.tmp 8), false, [], false⟩,
  ⟨some 105, 3, some (102, true), .call ⟨.value (.func 197), #[.tmp 104], #[3]⟩, true, [], false⟩,
  ⟨some 106, 4, some (102, true), .binOp .gtr 3 (.tmp 103) (.tmp 105) 3, false, [], false⟩,
  ⟨some 107, 4, none, .pick (.tmp 102) (.tmp 106) (.const (.bool false)), false, [], false⟩])
 (.cond (.tmp 107)
 (.seq (.ops [⟨some 108, 9, none, .move (.tmp 0), false, [], false⟩,
  ⟨some 109, 3, none, .move (.tmp 8), false, [], false⟩,
  ⟨some 110, 9, none, .slice 9 (.tmp 108) (some (.tmp 109)) none none, false, [], false⟩,
  ⟨some 111, 9, none, .move (.tmp 1), false, [], false⟩,
  ⟨some 112, 3, none, .call ⟨.value (.func 196), #[.tmp 110, .tmp 111], #[9, 9]⟩, true, [], false⟩,
  ⟨some 12, 3, none, .assign (.tmp 112), false, [], false⟩])
 (.seq (.seq (.ops [⟨some 113, 3, none, .move (.tmp 12), false, [], false⟩,
  ⟨some 114, 4, none, .binOp .geq 3 (.tmp 113) (.const (.int .i64 0)) 3, false, [], false⟩])
 (.cond (.tmp 114)
 (.seq (.ops [⟨some 115, 3, none, .move (.tmp 12), false, [], false⟩,
  ⟨some 116, 3, none, .move (.tmp 8), false, [], false⟩,
  ⟨some 117, 3, none, .binOp .add 3 (.tmp 115) (.tmp 116) 3, false, [], false⟩,
  ⟨some 4, 3, none, .assign (.tmp 117), false, [], false⟩])
 .ret)
 .skip))
 (.seq (.ops [⟨some 4, 3, none, .assign (.const (.int .i64 (-1))), false, [], false⟩])
 .ret)))
 (.seq (.ops [⟨some 118, 3, none, .move (.tmp 5), false, [], false⟩,
  ⟨some 119, 3, none, .load 3 (.global 2), false, [], false⟩,
  ⟨some 120, 4, none, .binOp .gtr 3 (.tmp 118) (.tmp 119) 3, false, [], false⟩,
  ⟨some 121, 4, none, .move (.tmp 120), false, [], false⟩,
  ⟨some 122, 3, some (121, true), .move (.tmp 10), false, [], false⟩,
  ⟨some 123, 3, some (121, true), .move (.tmp 8), false, [], false⟩,
  ⟨some 124, 3, some (121, true), .binOp .shr 3 (.tmp 123) (.const (.int .u64 4)) 146, false, [], false⟩,
  ⟨some 125, 3, some (121, true), .binOp .add 3 (.const (.int .i64 4)) (.tmp 124) 3, false, [], false⟩,
  ⟨some 126, 4, some (121, true), .binOp .geq 3 (.tmp 122) (.tmp 125) 3, false, [], false⟩,
  ⟨some 127, 4, none, .pick (.tmp 121) (.tmp 126) (.const (.bool false)), false, [], false⟩,
  ⟨some 128, 4, none, .move (.tmp 127), false, [], false⟩,
  ⟨some 129, 3, some (128, true), .move (.tmp 8), false, [], false⟩,
  ⟨some 130, 3, some (128, true), .move (.tmp 9), false, [], false⟩,
  ⟨some 131, 4, some (128, true), .binOp .lss 3 (.tmp 129) (.tmp 130) 3, false, [], false⟩,
  ⟨some 132, 4, none, .pick (.tmp 128) (.tmp 131) (.const (.bool false)), false, [], false⟩])
 (.cond (.tmp 132)
 (.seq (.ops [⟨some 133, 9, none, .move (.tmp 0), false, [], false⟩,
  ⟨some 134, 3, none, .move (.tmp 8), false, [], false⟩,
  ⟨some 135, 9, none, .slice 9 (.tmp 133) (some (.tmp 134)) none none, false, [], false⟩,
  ⟨some 136, 9, none, .move (.tmp 1), false, [], false⟩,
  ⟨some 137, 3, none, .call ⟨.value (.func 198), #[.tmp 135, .tmp 136], #[9, 9]⟩, true, [], false⟩,
  ⟨some 13, 3, none, .assign (.tmp 137), false, [], false⟩])
 (.seq (.seq (.ops [⟨some 138, 3, none, .move (.tmp 13), false, [], false⟩,
  ⟨some 139, 4, none, .binOp .lss 3 (.tmp 138) (.const (.int .i64 0)) 3, false, [], false⟩])
 (.cond (.tmp 139)
 (.seq (.ops [⟨some 4, 3, none, .assign (.const (.int .i64 (-1))), false, [], false⟩])
 .ret)
 .skip))
 (.seq (.ops [⟨some 140, 3, none, .move (.tmp 8), false, [], false⟩,
  ⟨some 141, 3, none, .move (.tmp 13), false, [], false⟩,
  ⟨some 142, 3, none, .binOp .add 3 (.tmp 140) (.tmp 141) 3, false, [], false⟩,
  ⟨some 4, 3, none, .assign (.tmp 142), false, [], false⟩])
 .ret)))
 .skip))))))))))))
 (.seq (.ops [⟨some 4, 3, none, .assign (.const (.int .i64 (-1))), false, [], false⟩])
 .ret)))))))))
theorem k185 : FnOk Tryz.prog 185 143 [.tmp 4] S185 := ⟨[166, 181, 201], _, Tryz.func185, by kernel_rfl, by kernel_rfl, rfl, rfl⟩
/- math/bits.Len64 -/
def S187 : SC := .seq (.ops [⟨some 2, 3, none, .assign (.const (.int .i64 0)), false, [], false⟩])
 (.seq (.seq (.ops [⟨some 3, 140, none, .move (.tmp 0), false, [], false⟩,
  ⟨some 4, 4, none, .binOp .geq 140 (.tmp 3) (.const (.int .u64 4294967296)) 140, false, [], false⟩])
 (.cond (.tmp 4)
 (.seq (.ops [⟨some 5, 140, none, .move (.tmp 0), false, [], false⟩,
  ⟨some 6, 140, none, .binOp .shr 140 (.tmp 5) (.const (.int .u64 32)) 146, false, [], false⟩,
  ⟨some 0, 140, none, .assign (.tmp 6), false, [], false⟩])
 (.ops [⟨some 2, 3, none, .assign (.const (.int .i64 32)), false, [], false⟩]))
 .skip))
 (.seq (.seq (.ops [⟨some 7, 140, none, .move (.tmp 0), false, [], false⟩,
  ⟨some 8, 4, none, .binOp .geq 140 (.tmp 7) (.const (.int .u64 65536)) 140, false, [], false⟩])
 (.cond (.tmp 8)
 (.seq (.ops [⟨some 9, 140, none, .move (.tmp 0), false, [], false⟩,
  ⟨some 10, 140, none, .binOp .shr 140 (.tmp 9) (.const (.int .u64 16)) 146, false, [], false⟩,
  ⟨some 0, 140, none, .assign (.tmp 10), false, [], false⟩])
 (.ops [⟨some 11, 3, none, .move (.tmp 2), false, [], false⟩,
  ⟨some 12, 3, none, .binOp .add 3 (.tmp 11) (.const (.int .i64 16)) 3, false, [], false⟩,
  ⟨some 2, 3, none, .assign (.tmp 12), false, [], false⟩]))
 .skip))
 (.seq (.seq (.ops [⟨some 13, 140, none, .move (.tmp 0), false, [], false⟩,
  ⟨some 14, 4, none, .binOp .geq 140 (.tmp 13) (.const (.int .u64 256)) 140, false, [], false⟩])
 (.cond (.tmp 14)
 (.seq (.ops [⟨some 15, 140, none, .move (.tmp 0), false, [], false⟩,
  ⟨some 16, 140, none, .binOp .shr 140 (.tmp 15) (.const (.int .u64 8)) 146, false, [], false⟩,
  ⟨some 0, 140, none, .assign (.tmp 16), false, [], false⟩])
 (.ops [⟨some 17, 3, none, .move (.tmp 2), false, [], false⟩,
  ⟨some 18, 3, none, .binOp .add 3 (.tmp 17) (.const (.int .i64 8)) 3, false, [], false⟩,
  ⟨some 2, 3, none, .assign (.tmp 18), false, [], false⟩]))
 .skip))
 (.seq (.ops [⟨some 19, 3, none, .move (.tmp 2), false, [], false⟩,
  ⟨some 20, 140, none, .move (.tmp 0), false, [], false⟩,
  ⟨some 21, 5, none, .convert 140 5 (.tmp 20), false, [], false⟩,
  ⟨some 22, 5, none, .index 9 (.const (.string ⟨#[0, 1, 2, 2, 3, 3, 3, 3, 4, 4, 4, 4, 4, 4, 4, 4, 5, 5, 5, 5, 5, 5, 5, 5, 5, 5, 5, 5, 5, 5, 5, 5, 6, 6, 6, 6, 6, 6, 6, 6, 6, 6, 6, 6, 6, 6, 6, 6, 6, 6, 6, 6, 6, 6, 6, 6, 6, 6, 6, 6, 6, 6, 6, 6, 7, 7, 7, 7, 7, 7, 7, 7, 7, 7, 7, 7, 7, 7, 7, 7, 7, 7, 7, 7, 7, 7, 7, 7, 7, 7, 7, 7, 7, 7, 7, 7, 7, 7, 7, 7, 7, 7, 7, 7, 7, 7, 7, 7, 7, 7, 7, 7, 7, 7, 7, 7, 7, 7, 7, 7, 7, 7, 7, 7, 7, 7, 7, 7, 8, 8, 8, 8, 8, 8, 8, 8, 8, 8, 8, 8, 8, 8, 8, 8, 8, 8, 8, 8, 8, 8, 8, 8, 8, 8, 8, 8, 8, 8, 8, 8, 8, 8, 8, 8, 8, 8, 8, 8, 8, 8, 8, 8, 8, 8, 8, 8, 8, 8, 8, 8, 8, 8, 8, 8, 8, 8, 8, 8, 8, 8, 8, 8, 8, 8, 8, 8, 8, 8, 8, 8, 8, 8, 8, 8, 8, 8, 8, 8, 8, 8, 8, 8, 8, 8, 8, 8, 8, 8, 8, 8, 8, 8, 8, 8, 8, 8, 8, 8, 8, 8, 8, 8, 8, 8, 8, 8, 8, 8, 8, 8, 8, 8, 8, 8, 8, 8, 8, 8, 8, 8, 8, 8, 8, 8, 8, 8]⟩)) (.tmp 21), false, [], false⟩,
  ⟨some 23, 3, none, .convert 5 3 (.tmp 22), false, [], false⟩,
  ⟨some 24, 3, none, .binOp .add 3 (.tmp 19) (.tmp 23) 3, false, [], false⟩,
  ⟨some 2, 3, none, .assign (.tmp 24), false, [], false⟩])
 .ret))))
theorem k187 : FnOk Tryz.prog 187 25 [.tmp 2] S187 := ⟨[166, 181, 201], _, Tryz.func187, by kernel_rfl, by kernel_rfl, rfl, rfl⟩
/- strings.trimLeftByte -/
def S188 : SC := .seq (.ops [⟨some 4, 9, none, .assign (.const (.string ⟨#[]⟩)), false, [], false⟩])
 (.seq (.block 0 (.loop (.seq (.seq (.ops [⟨some 5, 9, none, .move (.tmp 0), false, [], false⟩,
  ⟨some 6, 3, none, .call ⟨.builtin .len, #[.tmp 5], #[9]⟩, false, [], false⟩,
  ⟨some 7, 4, none, .binOp .gtr 3 (.tmp 6) (.const (.int .i64 0)) 3, false, [], false⟩,
  ⟨some 8, 4, none, .move (.tmp 7), false, [], false⟩,
  ⟨some 9, 9, some (8, true), .move (.tmp 0), false, [], false⟩,
  ⟨some 10, 5, some (8, true), .index 9 (.tmp 9) (.const (.int .i64 0)), false, [], false⟩,
  ⟨some 11, 5, some (8, true), .move (.tmp 1), false, [], false⟩,
  ⟨some 12, 4, some (8, true), .binOp .eql 5 (.tmp 10) (.tmp 11) 5, false, [], false⟩,
  ⟨some 13, 4, none, .pick (.tmp 8) (.tmp 12) (.const (.bool false)), false, [], false⟩])
 (.cond (.tmp 13)
 .skip
 (.exit 0)))
 (.block 1 (.ops [⟨some 14, 9, none, .move (.tmp 0), false, [], false⟩,
  ⟨some 15, 9, none, .slice 9 (.tmp 14) (some (.const (.int .i64 1))) none none, false, [], false⟩,
  ⟨some 0, 9, none, .assign (.tmp 15), false, [], false⟩])))))
 (.seq (.ops [⟨some 16, 9, none, .move (.tmp 0), false, [], false⟩,
  ⟨some 4, 9, none, .assign (.tmp 16), false, [], false⟩])
 .ret))
theorem k188 : FnOk Tryz.prog 188 17 [.tmp 4] S188 := ⟨[166, 181, 201], _, Tryz.func188, by kernel_rfl, by kernel_rfl, rfl, rfl⟩
/- strings.makeASCIISet -/
def S189 : SC := .seq (.ops [⟨some 2, 0, none, .alloc 201, true, [], false⟩,
  ⟨some 3, 4, none, .assign (.const (.bool false)), false, [], false⟩])
 (.seq (.seq (.ops [⟨some 4, 3, none, .assign (.const (.int .i64 0)), false, [], false⟩])
 (.block 0 (.loop (.seq (.seq (.ops [⟨some 6, 3, none, .move (.tmp 4), false, [], false⟩,
  ⟨some 7, 9, none, .move (.tmp 0), false, [], false⟩,
  ⟨some 8, 3, none, .call ⟨.builtin .len, #[.tmp 7], #[9]⟩, false, [], false⟩,
  ⟨some 9, 4, none, .binOp .lss 3 (.tmp 6) (.tmp 8) 3, false, [], false⟩])
 (.cond (.tmp 9)
 .skip
 (.exit 0)))
 (.seq (.block 1 (.seq (.ops [⟨some 12, 9, none, .move (.tmp 0), false, [], false⟩,
  ⟨some 13, 3, none, .move (.tmp 4), false, [], false⟩,
  ⟨some 14, 5, none, .index 9 (.tmp 12) (.tmp 13), false, [], false⟩,
  ⟨some 5, 5, none, .assign (.tmp 14), false, [], false⟩])
 (.seq (.seq (.ops [⟨some 15, 5, none, .move (.tmp 5), false, [], false⟩,
  ⟨some 16, 4, none, .binOp .geq 5 (.tmp 15) (.const (.int .u8 128)) 5, false, [], false⟩])
 (.cond (.tmp 16)
 (.seq (.ops [⟨some 17, 201, none, .load 201 (.tmp 2), false, [], false⟩,
  ⟨none, 0, none, .store 201 (.tmp 2) (.tmp 17), true, [], false⟩,
  ⟨some 3, 4, none, .assign (.const (.bool false)), false, [], false⟩])
 .ret)
 .skip))
 (.ops [⟨some 18, 5, none, .move (.tmp 5), false, [], false⟩,
  ⟨some 19, 0, none, .indexAddr 201 (.tmp 2) (.tmp 18), false, [], false⟩,
  ⟨none, 0, none, .store 4 (.tmp 19) (.const (.bool true)), true, [], false⟩]))))
 (.ops [⟨some 10, 3, none, .move (.tmp 4), false, [], false⟩,
  ⟨some 11, 3, none, .binOp .add 3 (.tmp 10) (.const (.int .i64 1)) 3, false, [], false⟩,
  ⟨some 4, 3, none, .assign (.tmp 11), false, [], false⟩]))))))
 (.seq (.ops [⟨some 20, 201, none, .load 201 (.tmp 2), false, [], false⟩,
  ⟨none, 0, none, .store 201 (.tmp 2) (.tmp 20), true, [], false⟩,
  ⟨some 3, 4, none, .assign (.const (.bool true)), false, [], false⟩])
 .ret))
theorem k189 : FnOk Tryz.prog 189 21 [.cell 2 201, .tmp 3] S189 := ⟨[166, 181, 201], _, Tryz.func189, by kernel_rfl, by kernel_rfl, rfl, rfl⟩
/- strings.trimLeftASCII -/
def S190 : SC := .seq (.ops [⟨some 4, 9, none, .assign (.const (.string ⟨#[]⟩)), false, [], false⟩])
 (.seq (.block 0 (.loop (.seq (.seq (.ops [⟨some 5, 9, none, .move (.tmp 0), false, [], false⟩,
  ⟨some 6, 3, none, .call ⟨.builtin .len, #[.tmp 5], #[9]⟩, false, [], false⟩,
  ⟨some 7, 4, none, .binOp .gtr 3 (.tmp 6) (.const (.int .i64 0)) 3, false, [], false⟩])
 (.cond (.tmp 7)
 .skip
 (.exit 0)))
 (.block 1 (.seq (.seq (.ops [⟨some 8, 205, none, .move (.tmp 1), false, [], false⟩,
  ⟨some 9, 9, none, .move (.tmp 0), false, [], false⟩,
  ⟨some 10, 5, none, .index 9 (.tmp 9) (.const (.int .i64 0)), false, [], false⟩,
  ⟨some 11, 4, none, .call ⟨.value (.func 199), #[.tmp 8, .tmp 10], #[205, 5]⟩, true, [], false⟩,
  ⟨some 12, 4, none, .unOp .not 4 (.tmp 11), false, [], false⟩])
 (.cond (.tmp 12)
 (.exit 0)
 .skip))
 (.ops [⟨some 13, 9, none, .move (.tmp 0), false, [], false⟩,
  ⟨some 14, 9, none, .slice 9 (.tmp 13) (some (.const (.int .i64 1))) none none, false, [], false⟩,
  ⟨some 0, 9, none, .assign (.tmp 14), false, [], false⟩]))))))
 (.seq (.ops [⟨some 15, 9, none, .move (.tmp 0), false, [], false⟩,
  ⟨some 4, 9, none, .assign (.tmp 15), false, [], false⟩])
 .ret))
theorem k190 : FnOk Tryz.prog 190 16 [.tmp 4] S190 := ⟨[166, 181, 201], _, Tryz.func190, by kernel_rfl, by kernel_rfl, rfl, rfl⟩
/- strings.trimLeftUnicode -/
def S191 : SC := .seq (.ops [⟨some 4, 9, none, .assign (.const (.string ⟨#[]⟩)), false, [], false⟩])
 (.seq (.block 0 (.loop (.seq (.seq (.ops [⟨some 7, 9, none, .move (.tmp 0), false, [], false⟩,
  ⟨some 8, 3, none, .call ⟨.builtin .len, #[.tmp 7], #[9]⟩, false, [], false⟩,
  ⟨some 9, 4, none, .binOp .gtr 3 (.tmp 8) (.const (.int .i64 0)) 3, false, [], false⟩])
 (.cond (.tmp 9)
 .skip
 (.exit 0)))
 (.block 1 (.seq (.ops [⟨some 11, 9, none, .move (.tmp 0), false, [], false⟩,
  ⟨some 12, 213, none, .call ⟨.value (.func 200), #[.tmp 11], #[9]⟩, true, [], false⟩,
  ⟨some 10, 213, none, .move (.tmp 12), false, [], false⟩,
  ⟨some 13, 21, none, .extract (.tmp 10) 0, false, [], false⟩,
  ⟨some 14, 3, none, .extract (.tmp 10) 1, false, [], false⟩,
  ⟨some 5, 21, none, .assign (.tmp 13), false, [], false⟩,
  ⟨some 6, 3, none, .assign (.tmp 14), false, [], false⟩])
 (.seq (.seq (.ops [⟨some 15, 9, none, .move (.tmp 1), false, [], false⟩,
  ⟨some 16, 21, none, .move (.tmp 5), false, [], false⟩,
  ⟨some 17, 4, none, .call ⟨.value (.func 201), #[.tmp 15, .tmp 16], #[9, 21]⟩, true, [], false⟩,
  ⟨some 18, 4, none, .unOp .not 4 (.tmp 17), false, [], false⟩])
 (.cond (.tmp 18)
 (.exit 0)
 .skip))
 (.ops [⟨some 19, 9, none, .move (.tmp 0), false, [], false⟩,
  ⟨some 20, 3, none, .move (.tmp 6), false, [], false⟩,
  ⟨some 21, 9, none, .slice 9 (.tmp 19) (some (.tmp 20)) none none, false, [], false⟩,
  ⟨some 0, 9, none, .assign (.tmp 21), false, [], false⟩])))))))
 (.seq (.ops [⟨some 22, 9, none, .move (.tmp 0), false, [], false⟩,
  ⟨some 4, 9, none, .assign (.tmp 22), false, [], false⟩])
 .ret))
theorem k191 : FnOk Tryz.prog 191 23 [.tmp 4] S191 := ⟨[166, 181, 201], _, Tryz.func191, by kernel_rfl, by kernel_rfl, rfl, rfl⟩
/- math/bits.Mul32 -/
def S192 : SC := .seq (.ops [⟨some 4, 206, none, .assign (.const (.int .u32 0)), false, [], false⟩,
  ⟨some 5, 206, none, .assign (.const (.int .u32 0)), false, [], false⟩])
 (.seq (.ops [⟨some 7, 206, none, .move (.tmp 0), false, [], false⟩,
  ⟨some 8, 140, none, .convert 206 140 (.tmp 7), false, [], false⟩,
  ⟨some 9, 206, none, .move (.tmp 1), false, [], false⟩,
  ⟨some 10, 140, none, .convert 206 140 (.tmp 9), false, [], false⟩,
  ⟨some 11, 140, none, .binOp .mul 140 (.tmp 8) (.tmp 10) 140, false, [], false⟩,
  ⟨some 6, 140, none, .assign (.tmp 11), false, [], false⟩])
 (.seq (.ops [⟨some 12, 140, none, .move (.tmp 6), false, [], false⟩,
  ⟨some 13, 140, none, .binOp .shr 140 (.tmp 12) (.const (.int .u64 32)) 146, false, [], false⟩,
  ⟨some 14, 206, none, .convert 140 206 (.tmp 13), false, [], false⟩,
  ⟨some 15, 140, none, .move (.tmp 6), false, [], false⟩,
  ⟨some 16, 206, none, .convert 140 206 (.tmp 15), false, [], false⟩,
  ⟨some 4, 206, none, .assign (.tmp 14), false, [], false⟩,
  ⟨some 5, 206, none, .assign (.tmp 16), false, [], false⟩])
 .ret))
theorem k192 : FnOk Tryz.prog 192 17 [.tmp 4, .tmp 5] S192 := ⟨[166, 181, 201], _, Tryz.func192, by kernel_rfl, by kernel_rfl, rfl, rfl⟩
/- internal/stringslite.IndexByte -/
def S195 : SC := .seq (.ops [⟨some 4, 3, none, .assign (.const (.int .i64 0)), false, [], false⟩])
 (.seq (.ops [⟨some 5, 9, none, .move (.tmp 0), false, [], false⟩,
  ⟨some 6, 5, none, .move (.tmp 1), false, [], false⟩,
  ⟨some 7, 3, none, .call ⟨.value (.func 204), #[.tmp 5, .tmp 6], #[9, 5]⟩, true, [], false⟩,
  ⟨some 4, 3, none, .assign (.tmp 7), false, [], false⟩])
 .ret)
theorem k195 : FnOk Tryz.prog 195 8 [.tmp 4] S195 := ⟨[166, 181, 201], _, Tryz.func195, by kernel_rfl, by kernel_rfl, rfl, rfl⟩
/- internal/bytealg.Cutover -/
def S197 : SC := .seq (.ops [⟨some 2, 3, none, .assign (.const (.int .i64 0)), false, [], false⟩])
 (.seq (.ops [⟨some 3, 3, none, .move (.tmp 0), false, [], false⟩,
  ⟨some 4, 3, none, .binOp .add 3 (.tmp 3) (.const (.int .i64 16)) 3, false, [], false⟩,
  ⟨some 5, 3, none, .binOp .quo 3 (.tmp 4) (.const (.int .i64 8)) 3, false, [], false⟩,
  ⟨some 2, 3, none, .assign (.tmp 5), false, [], false⟩])
 .ret)
theorem k197 : FnOk Tryz.prog 197 6 [.tmp 2] S197 := ⟨[166, 181, 201], _, Tryz.func197, by kernel_rfl, by kernel_rfl, rfl, rfl⟩
/- internal/bytealg.IndexRabinKarp[string] -/
def S198 : SC := .seq (.ops [⟨some 4, 3, none, .assign (.const (.int .i64 0)), false, [], false⟩])
 (.seq (.ops [⟨some 12, 9, none, .move (.tmp 1), false, [], false⟩,
  ⟨some 13, 207, none, .call ⟨.value (.func 205), #[.tmp 12], #[9]⟩, true, [], false⟩,
  ⟨some 11, 207, none, .move (.tmp 13), false, [], false⟩,
  ⟨some 14, 206, none, .extract (.tmp 11) 0, false, [], false⟩,
  ⟨some 15, 206, none, .extract (.tmp 11) 1, false, [], false⟩,
  ⟨some 5, 206, none, .assign (.tmp 14), false, [], false⟩,
  ⟨some 6, 206, none, .assign (.tmp 15), false, [], false⟩])
 (.seq (.ops [⟨some 16, 9, none, .move (.tmp 1), false, [], false⟩,
  ⟨some 17, 3, none, .call ⟨.builtin .len, #[.tmp 16], #[9]⟩, false, [], false⟩,
  ⟨some 7, 3, none, .assign (.tmp 17), false, [], false⟩])
 (.seq (.ops [⟨some 8, 206, none, .assign (.const (.int .u32 0)), false, [], false⟩])
 (.seq (.seq (.ops [⟨some 9, 3, none, .assign (.const (.int .i64 0)), false, [], false⟩])
 (.block 0 (.loop (.seq (.seq (.ops [⟨some 18, 3, none, .move (.tmp 9), false, [], false⟩,
  ⟨some 19, 3, none, .move (.tmp 7), false, [], false⟩,
  ⟨some 20, 4, none, .binOp .lss 3 (.tmp 18) (.tmp 19) 3, false, [], false⟩])
 (.cond (.tmp 20)
 .skip
 (.exit 0)))
 (.seq (.block 1 (.ops [⟨some 23, 206, none, .move (.tmp 8), false, [], false⟩,
  ⟨some 24, 206, none, .binOp .mul 206 (.tmp 23) (.const (.int .u32 16777619)) 206, false, [], false⟩,
  ⟨some 25, 9, none, .move (.tmp 0), false, [], false⟩,
  ⟨some 26, 3, none, .move (.tmp 9), false, [], false⟩,
  ⟨some 27, 5, none, .index 9 (.tmp 25) (.tmp 26), false, [], false⟩,
  ⟨some 28, 206, none, .convert 5 206 (.tmp 27), false, [], false⟩,
  ⟨some 29, 206, none, .binOp .add 206 (.tmp 24) (.tmp 28) 206, false, [], false⟩,
  ⟨some 8, 206, none, .assign (.tmp 29), false, [], false⟩]))
 (.ops [⟨some 21, 3, none, .move (.tmp 9), false, [], false⟩,
  ⟨some 22, 3, none, .binOp .add 3 (.tmp 21) (.const (.int .i64 1)) 3, false, [], false⟩,
  ⟨some 9, 3, none, .assign (.tmp 22), false, [], false⟩]))))))
 (.seq (.seq (.ops [⟨some 30, 206, none, .move (.tmp 8), false, [], false⟩,
  ⟨some 31, 206, none, .move (.tmp 5), false, [], false⟩,
  ⟨some 32, 4, none, .binOp .eql 206 (.tmp 30) (.tmp 31) 206, false, [], false⟩,
  ⟨some 33, 4, none, .move (.tmp 32), false, [], false⟩,
  ⟨some 34, 9, some (33, true), .move (.tmp 0), false, [], false⟩,
  ⟨some 35, 3, some (33, true), .move (.tmp 7), false, [], false⟩,
  ⟨some 36, 9, some (33, true), .slice 9 (.tmp 34) none (some (.tmp 35)) none, false, [], false⟩,
  ⟨some 37, 9, some (33, true), .move (.tmp 1), false, [], false⟩,
  ⟨some 38, 4, some (33, true), .binOp .eql 9 (.tmp 36) (.tmp 37) 9, false, [], false⟩,
  ⟨some 39, 4, none, .pick (.tmp 33) (.tmp 38) (.const (.bool false)), false, [], false⟩])
 (.cond (.tmp 39)
 (.seq (.ops [⟨some 4, 3, none, .assign (.const (.int .i64 0)), false, [], false⟩])
 .ret)
 .skip))
 (.seq (.seq (.ops [⟨some 40, 3, none, .move (.tmp 7), false, [], false⟩,
  ⟨some 10, 3, none, .assign (.tmp 40), false, [], false⟩])
 (.block 2 (.loop (.seq (.seq (.ops [⟨some 41, 3, none, .move (.tmp 10), false, [], false⟩,
  ⟨some 42, 9, none, .move (.tmp 0), false, [], false⟩,
  ⟨some 43, 3, none, .call ⟨.builtin .len, #[.tmp 42], #[9]⟩, false, [], false⟩,
  ⟨some 44, 4, none, .binOp .lss 3 (.tmp 41) (.tmp 43) 3, false, [], false⟩])
 (.cond (.tmp 44)
 .skip
 (.exit 2)))
 (.block 3 (.seq (.ops [⟨some 45, 206, none, .move (.tmp 8), false, [], false⟩,
  ⟨some 46, 206, none, .binOp .mul 206 (.tmp 45) (.const (.int .u32 16777619)) 206, false, [], false⟩,
  ⟨some 8, 206, none, .assign (.tmp 46), false, [], false⟩])
 (.seq (.ops [⟨some 47, 206, none, .move (.tmp 8), false, [], false⟩,
  ⟨some 48, 9, none, .move (.tmp 0), false, [], false⟩,
  ⟨some 49, 3, none, .move (.tmp 10), false, [], false⟩,
  ⟨some 50, 5, none, .index 9 (.tmp 48) (.tmp 49), false, [], false⟩,
  ⟨some 51, 206, none, .convert 5 206 (.tmp 50), false, [], false⟩,
  ⟨some 52, 206, none, .binOp .add 206 (.tmp 47) (.tmp 51) 206, false, [], false⟩,
  ⟨some 8, 206, none, .assign (.tmp 52), false, [], false⟩])
 (.seq (.ops [⟨some 53, 206, none, .move (.tmp 8), false, [], false⟩,
  ⟨some 54, 206, none, .move (.tmp 6), false, [], false⟩,
  ⟨some 55, 9, none, .move (.tmp 0), false, [], false⟩,
  ⟨some 56, 3, none, .move (.tmp 10), false, [], false⟩,
  ⟨some 57, 3, none, .move (.tmp 7), false, [], false⟩,
  ⟨some 58, 3, none, .binOp .sub 3 (.tmp 56) (.tmp 57) 3, false, [], false⟩,
  ⟨some 59, 5, none, .index 9 (.tmp 55) (.tmp 58), false, [], false⟩,
  ⟨some 60, 206, none, .convert 5 206 (.tmp 59), false, [], false⟩,
  ⟨some 61, 206, none, .binOp .mul 206 (.tmp 54) (.tmp 60) 206, false, [], false⟩,
  ⟨some 62, 206, none, .binOp .sub 206 (.tmp 53) (.tmp 61) 206, false, [], false⟩,
  ⟨some 8, 206, none, .assign (.tmp 62), false, [], false⟩])
 (.seq (.ops [⟨some 63, 3, none, .move (.tmp 10), false, [], false⟩,
  ⟨some 64, 3, none, .binOp .add 3 (.tmp 63) (.const (.int .i64 1)) 3, false, [], false⟩,
  ⟨some 10, 3, none, .assign (.tmp 64), false, [], false⟩])
 (.seq (.ops [⟨some 65, 206, none, .move (.tmp 8), false, [], false⟩,
  ⟨some 66, 206, none, .move (.tmp 5), false, [], false⟩,
  ⟨some 67, 4, none, .binOp .eql 206 (.tmp 65) (.tmp 66) 206, false, [], false⟩,
  ⟨some 68, 4, none, .move (.tmp 67), false, [], false⟩,
  ⟨some 69, 9, some (68, true), .move (.tmp 0), false, [], false⟩,
  ⟨some 70, 3, some (68, true), .move (.tmp 10), false, [], false⟩,
  ⟨some 71, 3, some (68, true), .move (.tmp 7), false, [], false⟩,
  ⟨some 72, 3, some (68, true), .binOp .sub 3 (.tmp 70) (.tmp 71) 3, false, [], false⟩,
  ⟨some 73, 3, some (68, true), .move (.tmp 10), false, [], false⟩,
  ⟨some 74, 9, some (68, true), .slice 9 (.tmp 69) (some (.tmp 72)) (some (.tmp 73)) none, false, [], false⟩,
  ⟨some 75, 9, some (68, true), .move (.tmp 1), false, [], false⟩,
  ⟨some 76, 4, some (68, true), .binOp .eql 9 (.tmp 74) (.tmp 75) 9, false, [], false⟩,
  ⟨some 77, 4, none, .pick (.tmp 68) (.tmp 76) (.const (.bool false)), false, [], false⟩])
 (.cond (.tmp 77)
 (.seq (.ops [⟨some 78, 3, none, .move (.tmp 10), false, [], false⟩,
  ⟨some 79, 3, none, .move (.tmp 7), false, [], false⟩,
  ⟨some 80, 3, none, .binOp .sub 3 (.tmp 78) (.tmp 79) 3, false, [], false⟩,
  ⟨some 4, 3, none, .assign (.tmp 80), false, [], false⟩])
 .ret)
 .skip)))))))))))
 (.seq (.ops [⟨some 4, 3, none, .assign (.const (.int .i64 (-1))), false, [], false⟩])
 .ret)))))))
theorem k198 : FnOk Tryz.prog 198 81 [.tmp 4] S198 := ⟨[166, 181, 201], _, Tryz.func198, by kernel_rfl, by kernel_rfl, rfl, rfl⟩
/- (*strings.asciiSet).contains -/
def S199 : SC := .seq (.ops [⟨some 4, 4, none, .assign (.const (.bool false)), false, [], false⟩])
 (.seq (.ops [⟨some 5, 205, none, .move (.tmp 0), false, [], false⟩,
  ⟨some 6, 5, none, .move (.tmp 1), false, [], false⟩,
  ⟨some 7, 0, none, .nilCheck (.tmp 5), true, [], false⟩,
  ⟨some 8, 0, none, .indexAddr 201 (.tmp 7) (.tmp 6), false, [], false⟩,
  ⟨some 9, 4, none, .load 4 (.tmp 8), false, [], false⟩,
  ⟨some 4, 4, none, .assign (.tmp 9), false, [], false⟩])
 .ret)
theorem k199 : FnOk Tryz.prog 199 10 [.tmp 4] S199 := ⟨[166, 181, 201], _, Tryz.func199, by kernel_rfl, by kernel_rfl, rfl, rfl⟩
/- unicode/utf8.DecodeRuneInString -/
def S200 : SC := .seq (.ops [⟨some 2, 21, none, .assign (.const (.int .i32 0)), false, [], false⟩,
  ⟨some 3, 3, none, .assign (.const (.int .i64 0)), false, [], false⟩])
 (.seq (.seq (.ops [⟨some 4, 9, none, .move (.tmp 0), false, [], false⟩,
  ⟨some 5, 4, none, .binOp .neq 9 (.tmp 4) (.const (.string ⟨#[]⟩)) 9, false, [], false⟩,
  ⟨some 6, 4, none, .move (.tmp 5), false, [], false⟩,
  ⟨some 7, 9, some (6, true), .move (.tmp 0), false, [], false⟩,
  ⟨some 8, 5, some (6, true), .index 9 (.tmp 7) (.const (.int .i64 0)), false, [], false⟩,
  ⟨some 9, 4, some (6, true), .binOp .lss 5 (.tmp 8) (.const (.int .u8 128)) 5, false, [], false⟩,
  ⟨some 10, 4, none, .pick (.tmp 6) (.tmp 9) (.const (.bool false)), false, [], false⟩])
 (.cond (.tmp 10)
 (.seq (.ops [⟨some 11, 9, none, .move (.tmp 0), false, [], false⟩,
  ⟨some 12, 5, none, .index 9 (.tmp 11) (.const (.int .i64 0)), false, [], false⟩,
  ⟨some 13, 21, none, .convert 5 21 (.tmp 12), false, [], false⟩,
  ⟨some 2, 21, none, .assign (.tmp 13), false, [], false⟩,
  ⟨some 3, 3, none, .assign (.const (.int .i64 1)), false, [], false⟩])
 .ret)
 (.ops [⟨some 15, 9, none, .move (.tmp 0), false, [], false⟩,
  ⟨some 16, 213, none, .call ⟨.value (.func 206), #[.tmp 15], #[9]⟩, true, [], false⟩,
  ⟨some 14, 213, none, .move (.tmp 16), false, [], false⟩,
  ⟨some 17, 21, none, .extract (.tmp 14) 0, false, [], false⟩,
  ⟨some 18, 3, none, .extract (.tmp 14) 1, false, [], false⟩,
  ⟨some 2, 21, none, .assign (.tmp 17), false, [], false⟩,
  ⟨some 3, 3, none, .assign (.tmp 18), false, [], false⟩])))
 .ret)
theorem k200 : FnOk Tryz.prog 200 19 [.tmp 2, .tmp 3] S200 := ⟨[166, 181, 201], _, Tryz.func200, by kernel_rfl, by kernel_rfl, rfl, rfl⟩
/- strings.ContainsRune -/
def S201 : SC := .seq (.ops [⟨some 4, 4, none, .assign (.const (.bool false)), false, [], false⟩])
 (.seq (.ops [⟨some 5, 9, none, .move (.tmp 0), false, [], false⟩,
  ⟨some 6, 21, none, .move (.tmp 1), false, [], false⟩,
  ⟨some 7, 3, none, .call ⟨.value (.func 207), #[.tmp 5, .tmp 6], #[9, 21]⟩, true, [], false⟩,
  ⟨some 8, 4, none, .binOp .geq 3 (.tmp 7) (.const (.int .i64 0)) 3, false, [], false⟩,
  ⟨some 4, 4, none, .assign (.tmp 8), false, [], false⟩])
 .ret)
theorem k201 : FnOk Tryz.prog 201 9 [.tmp 4] S201 := ⟨[166, 181, 201], _, Tryz.func201, by kernel_rfl, by kernel_rfl, rfl, rfl⟩
/- internal/bytealg.hashStr[string] -/
def S205 : SC := .seq (.ops [⟨some 2, 206, none, .assign (.const (.int .u32 0)), false, [], false⟩,
  ⟨some 3, 206, none, .assign (.const (.int .u32 0)), false, [], false⟩])
 (.seq (.ops [⟨some 4, 206, none, .assign (.const (.int .u32 0)), false, [], false⟩])
 (.seq (.seq (.ops [⟨some 5, 3, none, .assign (.const (.int .i64 0)), false, [], false⟩])
 (.block 0 (.loop (.seq (.seq (.ops [⟨some 9, 3, none, .move (.tmp 5), false, [], false⟩,
  ⟨some 10, 9, none, .move (.tmp 0), false, [], false⟩,
  ⟨some 11, 3, none, .call ⟨.builtin .len, #[.tmp 10], #[9]⟩, false, [], false⟩,
  ⟨some 12, 4, none, .binOp .lss 3 (.tmp 9) (.tmp 11) 3, false, [], false⟩])
 (.cond (.tmp 12)
 .skip
 (.exit 0)))
 (.seq (.block 1 (.ops [⟨some 15, 206, none, .move (.tmp 4), false, [], false⟩,
  ⟨some 16, 206, none, .binOp .mul 206 (.tmp 15) (.const (.int .u32 16777619)) 206, false, [], false⟩,
  ⟨some 17, 9, none, .move (.tmp 0), false, [], false⟩,
  ⟨some 18, 3, none, .move (.tmp 5), false, [], false⟩,
  ⟨some 19, 5, none, .index 9 (.tmp 17) (.tmp 18), false, [], false⟩,
  ⟨some 20, 206, none, .convert 5 206 (.tmp 19), false, [], false⟩,
  ⟨some 21, 206, none, .binOp .add 206 (.tmp 16) (.tmp 20) 206, false, [], false⟩,
  ⟨some 4, 206, none, .assign (.tmp 21), false, [], false⟩]))
 (.ops [⟨some 13, 3, none, .move (.tmp 5), false, [], false⟩,
  ⟨some 14, 3, none, .binOp .add 3 (.tmp 13) (.const (.int .i64 1)) 3, false, [], false⟩,
  ⟨some 5, 3, none, .assign (.tmp 14), false, [], false⟩]))))))
 (.seq (.ops [⟨some 6, 206, none, .assign (.const (.int .u32 1)), false, [], false⟩,
  ⟨some 7, 206, none, .assign (.const (.int .u32 16777619)), false, [], false⟩])
 (.seq (.seq (.ops [⟨some 22, 9, none, .move (.tmp 0), false, [], false⟩,
  ⟨some 23, 3, none, .call ⟨.builtin .len, #[.tmp 22], #[9]⟩, false, [], false⟩,
  ⟨some 8, 3, none, .assign (.tmp 23), false, [], false⟩])
 (.block 2 (.loop (.seq (.seq (.ops [⟨some 24, 3, none, .move (.tmp 8), false, [], false⟩,
  ⟨some 25, 4, none, .binOp .gtr 3 (.tmp 24) (.const (.int .i64 0)) 3, false, [], false⟩])
 (.cond (.tmp 25)
 .skip
 (.exit 2)))
 (.seq (.block 3 (.seq (.seq (.ops [⟨some 28, 3, none, .move (.tmp 8), false, [], false⟩,
  ⟨some 29, 3, none, .binOp .and 3 (.tmp 28) (.const (.int .i64 1)) 3, false, [], false⟩,
  ⟨some 30, 4, none, .binOp .neq 3 (.tmp 29) (.const (.int .i64 0)) 3, false, [], false⟩])
 (.cond (.tmp 30)
 (.ops [⟨some 31, 206, none, .move (.tmp 6), false, [], false⟩,
  ⟨some 32, 206, none, .move (.tmp 7), false, [], false⟩,
  ⟨some 33, 206, none, .binOp .mul 206 (.tmp 31) (.tmp 32) 206, false, [], false⟩,
  ⟨some 6, 206, none, .assign (.tmp 33), false, [], false⟩])
 .skip))
 (.ops [⟨some 34, 206, none, .move (.tmp 7), false, [], false⟩,
  ⟨some 35, 206, none, .move (.tmp 7), false, [], false⟩,
  ⟨some 36, 206, none, .binOp .mul 206 (.tmp 34) (.tmp 35) 206, false, [], false⟩,
  ⟨some 7, 206, none, .assign (.tmp 36), false, [], false⟩])))
 (.ops [⟨some 26, 3, none, .move (.tmp 8), false, [], false⟩,
  ⟨some 27, 3, none, .binOp .shr 3 (.tmp 26) (.const (.int .u64 1)) 146, false, [], false⟩,
  ⟨some 8, 3, none, .assign (.tmp 27), false, [], false⟩]))))))
 (.seq (.ops [⟨some 37, 206, none, .move (.tmp 4), false, [], false⟩,
  ⟨some 38, 206, none, .move (.tmp 6), false, [], false⟩,
  ⟨some 2, 206, none, .assign (.tmp 37), false, [], false⟩,
  ⟨some 3, 206, none, .assign (.tmp 38), false, [], false⟩])
 .ret)))))
theorem k205 : FnOk Tryz.prog 205 39 [.tmp 2, .tmp 3] S205 := ⟨[166, 181, 201], _, Tryz.func205, by kernel_rfl, by kernel_rfl, rfl, rfl⟩
end Go.Proofs.YtplaobhghfndgaaGreatDoor
