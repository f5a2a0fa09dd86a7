import Derived.Test.YtplaobhghfndgaaGreatDoorTab
/-! The code of functions, as the walk wants it (printed by gen.py). -/
set_option maxRecDepth 100000
namespace Go.Proofs.YtplaobhghfndgaaGreatDoor
open Go Go.Proofs.Vc
/- venturi/venturilaw01.ExactParses -/
def S3 : SC := .seq (.ops [⟨some 2, 4, none, .assign (.const (.bool false)), false, [], false⟩])
 (.seq (.seq (.ops [⟨some 7, 9, none, .move (.tmp 0), false, [], false⟩,
  ⟨some 8, 3, none, .call ⟨.builtin .len, #[.tmp 7], #[9]⟩, false, [], false⟩,
  ⟨some 9, 4, none, .binOp .gtr 3 (.tmp 8) (.const (.int .i64 1200)) 3, false, [], false⟩,
  ⟨some 10, 4, none, .move (.tmp 9), false, [], false⟩,
  ⟨some 11, 9, some (10, true), .move (.tmp 0), false, [], false⟩,
  ⟨some 12, 3, some (10, true), .call ⟨.builtin .len, #[.tmp 11], #[9]⟩, false, [], false⟩,
  ⟨some 13, 4, some (10, true), .binOp .leq 3 (.tmp 12) (.const (.int .i64 2000)) 3, false, [], false⟩,
  ⟨some 14, 4, none, .pick (.tmp 10) (.tmp 13) (.const (.bool false)), false, [], false⟩,
  ⟨some 15, 4, none, .move (.tmp 14), false, [], false⟩,
  ⟨some 16, 9, some (15, false), .move (.tmp 0), false, [], false⟩,
  ⟨some 17, 3, some (15, false), .call ⟨.builtin .len, #[.tmp 16], #[9]⟩, false, [], false⟩,
  ⟨some 18, 4, some (15, false), .binOp .gtr 3 (.tmp 17) (.const (.int .i64 3000)) 3, false, [], false⟩,
  ⟨some 19, 4, none, .pick (.tmp 15) (.const (.bool true)) (.tmp 18), false, [], false⟩])
 (.cond (.tmp 19)
 (.seq (.ops [⟨some 20, 4, none, .call ⟨.value (.func 19), #[], #[]⟩, true, [], false⟩,
  ⟨some 2, 4, none, .assign (.tmp 20), false, [], false⟩])
 .ret)
 .skip))
 (.seq (.ops [⟨some 22, 9, none, .move (.tmp 0), false, [], false⟩,
  ⟨some 23, 28, none, .call ⟨.value (.func 20), #[.tmp 22], #[9]⟩, true, [], false⟩,
  ⟨some 21, 28, none, .move (.tmp 23), false, [], false⟩,
  ⟨some 24, 26, none, .extract (.tmp 21) 0, false, [], false⟩,
  ⟨some 25, 27, none, .extract (.tmp 21) 1, false, [], false⟩,
  ⟨some 3, 0, none, .alloc 26, false, [], false⟩,
  ⟨none, 0, none, .store 26 (.tmp 3) (.tmp 24), true, [], false⟩,
  ⟨some 4, 27, none, .assign (.tmp 25), false, [], false⟩])
 (.seq (.ops [⟨some 27, 9, none, .move (.tmp 0), false, [], false⟩,
  ⟨some 28, 34, none, .call ⟨.value (.func 21), #[.tmp 27], #[9]⟩, true, [], false⟩,
  ⟨some 26, 34, none, .move (.tmp 28), false, [], false⟩,
  ⟨some 29, 33, none, .extract (.tmp 26) 0, false, [], false⟩,
  ⟨some 30, 27, none, .extract (.tmp 26) 1, false, [], false⟩,
  ⟨some 5, 0, none, .alloc 33, false, [], false⟩,
  ⟨none, 0, none, .store 33 (.tmp 5) (.tmp 29), true, [], false⟩,
  ⟨some 6, 27, none, .assign (.tmp 30), false, [], false⟩])
 (.seq (.ops [⟨some 31, 27, none, .move (.tmp 4), false, [], false⟩,
  ⟨some 32, 27, none, .move (.tmp 6), false, [], false⟩,
  ⟨some 33, 4, none, .binOp .eql 27 (.tmp 31) (.tmp 32) 27, false, [], false⟩,
  ⟨some 34, 4, none, .move (.tmp 33), false, [], false⟩,
  ⟨some 35, 26, some (34, true), .load 26 (.tmp 3), false, [], false⟩,
  ⟨some 36, 33, some (34, true), .load 33 (.tmp 5), false, [], false⟩,
  ⟨some 37, 4, some (34, true), .call ⟨.value (.func 22), #[.tmp 35, .tmp 36], #[26, 33]⟩, true, [], false⟩,
  ⟨some 38, 4, none, .pick (.tmp 34) (.tmp 37) (.const (.bool false)), false, [], false⟩,
  ⟨some 39, 4, none, .move (.tmp 38), false, [], false⟩,
  ⟨some 40, 4, some (39, true), .call ⟨.value (.func 19), #[], #[]⟩, true, [], false⟩,
  ⟨some 41, 4, none, .pick (.tmp 39) (.tmp 40) (.const (.bool false)), false, [], false⟩,
  ⟨some 2, 4, none, .assign (.tmp 41), false, [], false⟩])
 .ret))))
theorem k3 : FnOk Tryz.prog 3 42 [.tmp 2] S3 := ⟨[166, 181, 201], _, Tryz.func3, by kernel_rfl, by kernel_rfl, rfl, rfl⟩
end Go.Proofs.YtplaobhghfndgaaGreatDoor
