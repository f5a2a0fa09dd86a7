import Derived.Test.YtplaobhghfndgaaGreatDoorTab
/-! The code of functions, as the walk wants it (printed by gen.py). -/
set_option maxRecDepth 100000
namespace Go.Proofs.YtplaobhghfndgaaGreatDoor
open Go Go.Proofs.Vc
/- venturi/venturilaw01.ExactSquares -/
def S11 : SC := .seq (.ops [⟨some 3, 0, none, .box 72 (.tmp 0), false, [], false⟩,
  ⟨some 6, 4, none, .assign (.const (.bool false)), false, [], false⟩])
 (.seq (.seq (.ops [⟨some 16, 0, none, .fieldAddr 72 (.tmp 3) 0, false, [], false⟩,
  ⟨some 17, 9, none, .load 9 (.tmp 16), false, [], false⟩,
  ⟨some 18, 3, none, .call ⟨.builtin .len, #[.tmp 17], #[9]⟩, false, [], false⟩,
  ⟨some 19, 4, none, .binOp .gtr 3 (.tmp 18) (.const (.int .i64 40)) 3, false, [], false⟩,
  ⟨some 20, 4, none, .move (.tmp 19), false, [], false⟩,
  ⟨some 21, 0, some (20, false), .fieldAddr 72 (.tmp 3) 1, false, [], false⟩,
  ⟨some 22, 9, some (20, false), .load 9 (.tmp 21), false, [], false⟩,
  ⟨some 23, 3, some (20, false), .call ⟨.builtin .len, #[.tmp 22], #[9]⟩, false, [], false⟩,
  ⟨some 24, 4, some (20, false), .binOp .gtr 3 (.tmp 23) (.const (.int .i64 40)) 3, false, [], false⟩,
  ⟨some 25, 4, none, .pick (.tmp 20) (.const (.bool true)) (.tmp 24), false, [], false⟩,
  ⟨some 26, 4, none, .move (.tmp 25), false, [], false⟩,
  ⟨some 27, 9, some (26, false), .move (.tmp 1), false, [], false⟩,
  ⟨some 28, 3, some (26, false), .call ⟨.builtin .len, #[.tmp 27], #[9]⟩, false, [], false⟩,
  ⟨some 29, 4, some (26, false), .binOp .gtr 3 (.tmp 28) (.const (.int .i64 40)) 3, false, [], false⟩,
  ⟨some 30, 4, none, .pick (.tmp 26) (.const (.bool true)) (.tmp 29), false, [], false⟩])
 (.cond (.tmp 30)
 (.seq (.ops [⟨some 31, 4, none, .call ⟨.value (.func 19), #[], #[]⟩, true, [], false⟩,
  ⟨some 6, 4, none, .assign (.tmp 31), false, [], false⟩])
 .ret)
 .skip))
 (.seq (.ops [⟨some 32, 72, none, .load 72 (.tmp 3), false, [], false⟩,
  ⟨some 33, 63, none, .call ⟨.value (.func 71), #[.tmp 32], #[72]⟩, true, [], false⟩,
  ⟨some 34, 9, none, .move (.tmp 1), false, [], false⟩,
  ⟨some 35, 26, none, .call ⟨.value (.func 23), #[.tmp 34], #[9]⟩, true, [], false⟩,
  ⟨some 7, 0, none, .alloc 63, false, [], false⟩,
  ⟨some 8, 0, none, .alloc 26, false, [], false⟩,
  ⟨none, 0, none, .store 63 (.tmp 7) (.tmp 33), true, [], false⟩,
  ⟨none, 0, none, .store 26 (.tmp 8) (.tmp 35), true, [], false⟩])
 (.seq (.seq (.ops [⟨some 36, 26, none, .load 26 (.tmp 8), false, [], false⟩,
  ⟨some 37, 3, none, .call ⟨.value (.func 36), #[.tmp 36], #[26]⟩, true, [], false⟩,
  ⟨some 38, 4, none, .binOp .leq 3 (.tmp 37) (.const (.int .i64 0)) 3, false, [], false⟩])
 (.cond (.tmp 38)
 (.seq (.ops [⟨some 39, 4, none, .call ⟨.value (.func 19), #[], #[]⟩, true, [], false⟩,
  ⟨some 6, 4, none, .assign (.tmp 39), false, [], false⟩])
 .ret)
 .skip))
 (.seq (.ops [⟨some 41, 63, none, .load 63 (.tmp 7), false, [], false⟩,
  ⟨some 42, 26, none, .load 26 (.tmp 8), false, [], false⟩,
  ⟨some 43, 64, none, .call ⟨.value (.func 66), #[.tmp 41, .tmp 42], #[63, 26]⟩, true, [], false⟩,
  ⟨some 40, 64, none, .move (.tmp 43), false, [], false⟩,
  ⟨some 44, 63, none, .extract (.tmp 40) 0, false, [], false⟩,
  ⟨some 45, 27, none, .extract (.tmp 40) 1, false, [], false⟩,
  ⟨some 9, 0, none, .alloc 63, false, [], false⟩,
  ⟨none, 0, none, .store 63 (.tmp 9) (.tmp 44), true, [], false⟩,
  ⟨some 10, 27, none, .assign (.tmp 45), false, [], false⟩])
 (.seq (.seq (.ops [⟨some 46, 27, none, .move (.tmp 10), false, [], false⟩,
  ⟨some 47, 4, none, .binOp .neq 27 (.tmp 46) (.const (.int .i64 0)) 27, false, [], false⟩,
  ⟨some 48, 4, none, .move (.tmp 47), false, [], false⟩,
  ⟨some 49, 63, some (48, false), .load 63 (.tmp 7), false, [], false⟩,
  ⟨some 50, 63, some (48, false), .load 63 (.tmp 9), false, [], false⟩,
  ⟨some 51, 4, some (48, false), .call ⟨.value (.func 62), #[.tmp 49, .tmp 50], #[63, 63]⟩, true, [], false⟩,
  ⟨some 52, 4, some (48, false), .unOp .not 4 (.tmp 51), false, [], false⟩,
  ⟨some 53, 4, none, .pick (.tmp 48) (.const (.bool true)) (.tmp 52), false, [], false⟩,
  ⟨some 54, 4, none, .move (.tmp 53), false, [], false⟩,
  ⟨some 55, 63, some (54, false), .load 63 (.tmp 7), false, [], false⟩,
  ⟨some 57, 63, some (54, false), .load 63 (.tmp 9), false, [], false⟩,
  ⟨some 59, 26, some (54, false), .load 26 (.tmp 8), false, [], false⟩,
  ⟨some 56, 26, some (54, false), .call ⟨.value (.func 72), #[.tmp 55], #[63]⟩, true, [], true⟩,
  ⟨some 58, 26, some (54, false), .call ⟨.value (.func 72), #[.tmp 57], #[63]⟩, true, [], true⟩,
  ⟨some 60, 26, some (54, false), .call ⟨.value (.func 29), #[.tmp 58, .tmp 59], #[26, 26]⟩, true, [], false⟩,
  ⟨some 61, 3, some (54, false), .call ⟨.value (.func 34), #[.tmp 56, .tmp 60], #[26, 26]⟩, true, [], false⟩,
  ⟨some 62, 4, some (54, false), .binOp .geq 3 (.tmp 61) (.const (.int .i64 0)) 3, false, [], false⟩,
  ⟨some 63, 4, none, .pick (.tmp 54) (.const (.bool true)) (.tmp 62), false, [], false⟩,
  ⟨some 64, 4, none, .move (.tmp 63), false, [], false⟩,
  ⟨some 65, 63, some (64, false), .load 63 (.tmp 7), false, [], false⟩,
  ⟨some 67, 63, some (64, false), .load 63 (.tmp 9), false, [], false⟩,
  ⟨some 69, 26, some (64, false), .load 26 (.tmp 8), false, [], false⟩,
  ⟨some 66, 26, some (64, false), .call ⟨.value (.func 73), #[.tmp 65], #[63]⟩, true, [], true⟩,
  ⟨some 68, 26, some (64, false), .call ⟨.value (.func 73), #[.tmp 67], #[63]⟩, true, [], true⟩,
  ⟨some 70, 26, some (64, false), .call ⟨.value (.func 31), #[.tmp 68, .tmp 69], #[26, 26]⟩, true, [], false⟩,
  ⟨some 71, 3, some (64, false), .call ⟨.value (.func 34), #[.tmp 66, .tmp 70], #[26, 26]⟩, true, [], false⟩,
  ⟨some 72, 4, some (64, false), .binOp .leq 3 (.tmp 71) (.const (.int .i64 0)) 3, false, [], false⟩,
  ⟨some 73, 4, none, .pick (.tmp 64) (.const (.bool true)) (.tmp 72), false, [], false⟩])
 (.cond (.tmp 73)
 (.seq (.ops [⟨some 6, 4, none, .assign (.const (.bool false)), false, [], false⟩])
 .ret)
 .skip))
 (.seq (.seq (.ops [⟨some 74, 63, none, .load 63 (.tmp 7), false, [], false⟩,
  ⟨some 75, 26, none, .call ⟨.value (.func 72), #[.tmp 74], #[63]⟩, true, [], false⟩,
  ⟨some 76, 3, none, .call ⟨.value (.func 36), #[.tmp 75], #[26]⟩, true, [], false⟩,
  ⟨some 77, 4, none, .binOp .lss 3 (.tmp 76) (.const (.int .i64 0)) 3, false, [], false⟩])
 (.cond (.tmp 77)
 (.seq (.ops [⟨some 78, 4, none, .call ⟨.value (.func 19), #[], #[]⟩, true, [], false⟩,
  ⟨some 6, 4, none, .assign (.tmp 78), false, [], false⟩])
 .ret)
 .skip))
 (.seq (.ops [⟨some 80, 63, none, .load 63 (.tmp 7), false, [], false⟩,
  ⟨some 81, 26, none, .load 26 (.tmp 8), false, [], false⟩,
  ⟨some 82, 64, none, .call ⟨.value (.func 65), #[.tmp 80, .tmp 81], #[63, 26]⟩, true, [], false⟩,
  ⟨some 79, 64, none, .move (.tmp 82), false, [], false⟩,
  ⟨some 83, 63, none, .extract (.tmp 79) 0, false, [], false⟩,
  ⟨some 84, 27, none, .extract (.tmp 79) 1, false, [], false⟩,
  ⟨some 11, 0, none, .alloc 63, false, [], false⟩,
  ⟨none, 0, none, .store 63 (.tmp 11) (.tmp 83), true, [], false⟩,
  ⟨some 10, 27, none, .assign (.tmp 84), false, [], false⟩])
 (.seq (.seq (.ops [⟨some 85, 27, none, .move (.tmp 10), false, [], false⟩,
  ⟨some 86, 4, none, .binOp .neq 27 (.tmp 85) (.const (.int .i64 0)) 27, false, [], false⟩,
  ⟨some 87, 4, none, .move (.tmp 86), false, [], false⟩,
  ⟨some 88, 63, some (87, false), .load 63 (.tmp 11), false, [], false⟩,
  ⟨some 89, 26, some (87, false), .call ⟨.value (.func 72), #[.tmp 88], #[63]⟩, true, [], false⟩,
  ⟨some 90, 3, some (87, false), .call ⟨.value (.func 36), #[.tmp 89], #[26]⟩, true, [], false⟩,
  ⟨some 91, 4, some (87, false), .binOp .lss 3 (.tmp 90) (.const (.int .i64 0)) 3, false, [], false⟩,
  ⟨some 92, 4, none, .pick (.tmp 87) (.const (.bool true)) (.tmp 91), false, [], false⟩])
 (.cond (.tmp 92)
 (.seq (.ops [⟨some 6, 4, none, .assign (.const (.bool false)), false, [], false⟩])
 .ret)
 .skip))
 (.seq (.ops [⟨some 93, 63, none, .load 63 (.tmp 7), false, [], false⟩,
  ⟨some 94, 5, none, .move (.tmp 2), false, [], false⟩,
  ⟨some 96, 63, none, .load 63 (.tmp 11), false, [], false⟩,
  ⟨some 98, 26, none, .load 26 (.tmp 8), false, [], false⟩,
  ⟨some 100, 63, none, .load 63 (.tmp 11), false, [], false⟩,
  ⟨some 102, 26, none, .load 26 (.tmp 8), false, [], false⟩,
  ⟨some 12, 0, none, .alloc 26, false, [], false⟩,
  ⟨some 13, 0, none, .alloc 26, false, [], false⟩,
  ⟨some 14, 0, none, .alloc 26, false, [], false⟩,
  ⟨some 95, 26, none, .call ⟨.value (.func 74), #[.tmp 93, .tmp 94], #[63, 5]⟩, true, [], true⟩,
  ⟨some 97, 26, none, .call ⟨.value (.func 72), #[.tmp 96], #[63]⟩, true, [], true⟩,
  ⟨some 99, 26, none, .call ⟨.value (.func 29), #[.tmp 97, .tmp 98], #[26, 26]⟩, true, [], true⟩,
  ⟨some 101, 26, none, .call ⟨.value (.func 73), #[.tmp 100], #[63]⟩, true, [], true⟩,
  ⟨some 103, 26, none, .call ⟨.value (.func 31), #[.tmp 101, .tmp 102], #[26, 26]⟩, true, [], false⟩,
  ⟨none, 0, none, .store 26 (.tmp 12) (.tmp 95), true, [], false⟩,
  ⟨none, 0, none, .store 26 (.tmp 13) (.tmp 99), true, [], false⟩,
  ⟨none, 0, none, .store 26 (.tmp 14) (.tmp 103), true, [], false⟩])
 (.seq (.seq (.ops [⟨some 104, 63, none, .load 63 (.tmp 11), false, [], false⟩,
  ⟨some 106, 63, none, .load 63 (.tmp 11), false, [], false⟩,
  ⟨some 109, 26, none, .load 26 (.tmp 12), false, [], false⟩,
  ⟨some 105, 26, none, .call ⟨.value (.func 72), #[.tmp 104], #[63]⟩, true, [], true⟩,
  ⟨some 107, 26, none, .call ⟨.value (.func 72), #[.tmp 106], #[63]⟩, true, [], true⟩,
  ⟨some 108, 26, none, .call ⟨.value (.func 25), #[.tmp 105, .tmp 107], #[26, 26]⟩, true, [], true⟩,
  ⟨some 110, 3, none, .call ⟨.value (.func 34), #[.tmp 108, .tmp 109], #[26, 26]⟩, true, [], false⟩,
  ⟨some 111, 4, none, .binOp .gtr 3 (.tmp 110) (.const (.int .i64 0)) 3, false, [], false⟩,
  ⟨some 112, 4, none, .move (.tmp 111), false, [], false⟩,
  ⟨some 113, 63, some (112, false), .load 63 (.tmp 11), false, [], false⟩,
  ⟨some 115, 63, some (112, false), .load 63 (.tmp 11), false, [], false⟩,
  ⟨some 118, 26, some (112, false), .load 26 (.tmp 12), false, [], false⟩,
  ⟨some 114, 26, some (112, false), .call ⟨.value (.func 73), #[.tmp 113], #[63]⟩, true, [], true⟩,
  ⟨some 116, 26, some (112, false), .call ⟨.value (.func 73), #[.tmp 115], #[63]⟩, true, [], true⟩,
  ⟨some 117, 26, some (112, false), .call ⟨.value (.func 25), #[.tmp 114, .tmp 116], #[26, 26]⟩, true, [], true⟩,
  ⟨some 119, 3, some (112, false), .call ⟨.value (.func 34), #[.tmp 117, .tmp 118], #[26, 26]⟩, true, [], false⟩,
  ⟨some 120, 4, some (112, false), .binOp .lss 3 (.tmp 119) (.const (.int .i64 0)) 3, false, [], false⟩,
  ⟨some 121, 4, none, .pick (.tmp 112) (.const (.bool true)) (.tmp 120), false, [], false⟩,
  ⟨some 122, 4, none, .move (.tmp 121), false, [], false⟩,
  ⟨some 123, 26, some (122, false), .load 26 (.tmp 13), false, [], false⟩,
  ⟨some 124, 26, some (122, false), .load 26 (.tmp 13), false, [], false⟩,
  ⟨some 126, 63, some (122, false), .load 63 (.tmp 7), false, [], false⟩,
  ⟨some 125, 26, some (122, false), .call ⟨.value (.func 25), #[.tmp 123, .tmp 124], #[26, 26]⟩, true, [], true⟩,
  ⟨some 127, 26, some (122, false), .call ⟨.value (.func 72), #[.tmp 126], #[63]⟩, true, [], false⟩,
  ⟨some 128, 3, some (122, false), .call ⟨.value (.func 34), #[.tmp 125, .tmp 127], #[26, 26]⟩, true, [], false⟩,
  ⟨some 129, 4, some (122, false), .binOp .leq 3 (.tmp 128) (.const (.int .i64 0)) 3, false, [], false⟩,
  ⟨some 130, 4, none, .pick (.tmp 122) (.const (.bool true)) (.tmp 129), false, [], false⟩,
  ⟨some 131, 4, none, .move (.tmp 130), false, [], false⟩,
  ⟨some 132, 26, some (131, false), .load 26 (.tmp 14), false, [], false⟩,
  ⟨some 133, 3, some (131, false), .call ⟨.value (.func 36), #[.tmp 132], #[26]⟩, true, [], false⟩,
  ⟨some 134, 4, some (131, false), .binOp .geq 3 (.tmp 133) (.const (.int .i64 0)) 3, false, [], false⟩,
  ⟨some 135, 4, some (131, false), .move (.tmp 134), false, [], false⟩,
  ⟨some 136, 26, some (135, true), .load 26 (.tmp 14), false, [], false⟩,
  ⟨some 137, 26, some (135, true), .load 26 (.tmp 14), false, [], false⟩,
  ⟨some 139, 63, some (135, true), .load 63 (.tmp 7), false, [], false⟩,
  ⟨some 138, 26, some (135, true), .call ⟨.value (.func 25), #[.tmp 136, .tmp 137], #[26, 26]⟩, true, [], true⟩,
  ⟨some 140, 26, some (135, true), .call ⟨.value (.func 73), #[.tmp 139], #[63]⟩, true, [], false⟩,
  ⟨some 141, 3, some (135, true), .call ⟨.value (.func 34), #[.tmp 138, .tmp 140], #[26, 26]⟩, true, [], false⟩,
  ⟨some 142, 4, some (135, true), .binOp .geq 3 (.tmp 141) (.const (.int .i64 0)) 3, false, [], false⟩,
  ⟨some 143, 4, some (131, false), .pick (.tmp 135) (.tmp 142) (.const (.bool false)), false, [], false⟩,
  ⟨some 144, 4, none, .pick (.tmp 131) (.const (.bool true)) (.tmp 143), false, [], false⟩])
 (.cond (.tmp 144)
 (.seq (.ops [⟨some 6, 4, none, .assign (.const (.bool false)), false, [], false⟩])
 .ret)
 .skip))
 (.seq (.ops [⟨some 146, 26, none, .load 26 (.tmp 12), false, [], false⟩,
  ⟨some 148, 26, none, .load 26 (.tmp 8), false, [], false⟩,
  ⟨some 15, 0, none, .alloc 63, false, [], false⟩,
  ⟨some 147, 63, none, .call ⟨.value (.func 58), #[.tmp 146], #[26]⟩, true, [], true⟩,
  ⟨some 149, 64, none, .call ⟨.value (.func 65), #[.tmp 147, .tmp 148], #[63, 26]⟩, true, [], false⟩,
  ⟨some 145, 64, none, .move (.tmp 149), false, [], false⟩,
  ⟨some 150, 63, none, .extract (.tmp 145) 0, false, [], false⟩,
  ⟨some 151, 27, none, .extract (.tmp 145) 1, false, [], false⟩,
  ⟨none, 0, none, .store 63 (.tmp 15) (.tmp 150), true, [], false⟩,
  ⟨some 10, 27, none, .assign (.tmp 151), false, [], false⟩])
 (.seq (.ops [⟨some 152, 27, none, .move (.tmp 10), false, [], false⟩,
  ⟨some 153, 4, none, .binOp .eql 27 (.tmp 152) (.const (.int .i64 0)) 27, false, [], false⟩,
  ⟨some 154, 4, none, .move (.tmp 153), false, [], false⟩,
  ⟨some 155, 63, some (154, true), .load 63 (.tmp 15), false, [], false⟩,
  ⟨some 157, 26, some (154, true), .load 26 (.tmp 8), false, [], false⟩,
  ⟨some 158, 26, some (154, true), .load 26 (.tmp 8), false, [], false⟩,
  ⟨some 156, 26, some (154, true), .call ⟨.value (.func 57), #[.tmp 155], #[63]⟩, true, [], true⟩,
  ⟨some 159, 26, some (154, true), .call ⟨.value (.func 29), #[.tmp 157, .tmp 158], #[26, 26]⟩, true, [], false⟩,
  ⟨some 160, 3, some (154, true), .call ⟨.value (.func 34), #[.tmp 156, .tmp 159], #[26, 26]⟩, true, [], false⟩,
  ⟨some 161, 4, some (154, true), .binOp .lss 3 (.tmp 160) (.const (.int .i64 0)) 3, false, [], false⟩,
  ⟨some 162, 4, none, .pick (.tmp 154) (.tmp 161) (.const (.bool false)), false, [], false⟩,
  ⟨some 163, 4, none, .move (.tmp 162), false, [], false⟩,
  ⟨some 164, 63, some (163, true), .load 63 (.tmp 15), false, [], false⟩,
  ⟨some 165, 63, some (163, true), .load 63 (.tmp 11), false, [], false⟩,
  ⟨some 166, 4, some (163, true), .call ⟨.value (.func 62), #[.tmp 164, .tmp 165], #[63, 63]⟩, true, [], false⟩,
  ⟨some 167, 4, none, .pick (.tmp 163) (.tmp 166) (.const (.bool false)), false, [], false⟩,
  ⟨some 168, 4, none, .move (.tmp 167), false, [], false⟩,
  ⟨some 169, 4, some (168, true), .call ⟨.value (.func 19), #[], #[]⟩, true, [], false⟩,
  ⟨some 170, 4, none, .pick (.tmp 168) (.tmp 169) (.const (.bool false)), false, [], false⟩,
  ⟨some 6, 4, none, .assign (.tmp 170), false, [], false⟩])
 .ret))))))))))))
theorem k11 : FnOk Tryz.prog 11 171 [.tmp 6] S11 := ⟨[166, 181, 201], _, Tryz.func11, by kernel_rfl, by kernel_rfl, rfl, rfl⟩
end Go.Proofs.YtplaobhghfndgaaGreatDoor
