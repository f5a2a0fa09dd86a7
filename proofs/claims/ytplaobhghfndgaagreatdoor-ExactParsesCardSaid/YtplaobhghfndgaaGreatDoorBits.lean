import Derived.Test.YtplaobhghfndgaaGreatDoorVd
import Derived.Test.YtplaobhghfndgaaGreatDoorDig
import Derived.Test.YtplaobhghfndgaaGreatDoorTab
import Derived.Shelf.Bits.Mul64
import Derived.Shelf.Small.Bits
import Derived.Shelf.Strings.Cut
import Derived.Laws.Externs
/-! The library's functions that the program calls: contracts of the shelf, laid at this program. -/
set_option linter.unusedVariables false
set_option linter.unusedSimpArgs false
set_option maxRecDepth 100000
namespace Go.Proofs.YtplaobhghfndgaaGreatDoor
open Go Go.Proofs.Vc
def Tryz.lMul64_ren : Go.Shelf.Ren := ⟨fun | 264 => 167 | n => n, fun | 53 => 140 | 46 => 146 | n => n, fun n => n⟩
theorem Tryz.lMul64 : Go.Proofs.Lays.n264 Tryz.prog Tryz.lMul64_ren := { mixed := by kernel_rfl, f264 := by kernel_rfl, t46 := by kernel_rfl, a46 := fun w => by kernel_rfl, z46 := fun w => by kernel_rfl, v46 := fun w => by kernel_rfl, t53 := by kernel_rfl, a53 := fun w => by kernel_rfl, z53 := fun w => by kernel_rfl, v53 := fun w => by kernel_rfl }
def Tryz.lLz64_ren : Go.Shelf.Ren := ⟨fun | 134 => 164 | 129 => 187 | n => n, fun | 53 => 140 | 3 => 3 | 4 => 4 | 46 => 146 | 5 => 5 | 9 => 9 | n => n, fun n => n⟩
theorem Tryz.lLz64 : Go.Proofs.Lays.n134 Tryz.prog Tryz.lLz64_ren := { mixed := by kernel_rfl, f129 := by kernel_rfl, f134 := by kernel_rfl, t3 := by kernel_rfl, a3 := fun w => by kernel_rfl, z3 := fun w => by kernel_rfl, v3 := fun w => by kernel_rfl, t4 := by kernel_rfl, a4 := fun w => by kernel_rfl, z4 := fun w => by kernel_rfl, v4 := fun w => by kernel_rfl, t5 := by kernel_rfl, a5 := fun w => by kernel_rfl, z5 := fun w => by kernel_rfl, v5 := fun w => by kernel_rfl, t9 := by kernel_rfl, a9 := fun w => by kernel_rfl, z9 := fun w => by kernel_rfl, v9 := fun w => by kernel_rfl, t46 := by kernel_rfl, a46 := fun w => by kernel_rfl, z46 := fun w => by kernel_rfl, v46 := fun w => by kernel_rfl, t53 := by kernel_rfl, a53 := fun w => by kernel_rfl, z53 := fun w => by kernel_rfl, v53 := fun w => by kernel_rfl }
def Tryz.lCut_ren : Go.Shelf.Ren := ⟨fun | 145 => 110 | 220 => 151 | 219 => 185 | 217 => 195 | 225 => 196 | 224 => 197 | 267 => 198 | 266 => 204 | 314 => 205 | n => n, fun | 9 => 9 | 4 => 4 | 59 => 135 | 3 => 3 | 5 => 5 | 46 => 146 | 146 => 207 | 51 => 206 | n => n, fun | 1 => 2 | n => n⟩
theorem Tryz.lCut : Go.Proofs.Lays.n145 Tryz.prog Tryz.lCut_ren := { mixed := by kernel_rfl, f145 := by kernel_rfl, f217 := by kernel_rfl, f219 := by kernel_rfl, f220 := by kernel_rfl, f224 := by kernel_rfl, f225 := by kernel_rfl, f266 := by kernel_rfl, f267 := by kernel_rfl, f314 := by kernel_rfl, t3 := by kernel_rfl, a3 := fun w => by kernel_rfl, z3 := fun w => by kernel_rfl, v3 := fun w => by kernel_rfl, t4 := by kernel_rfl, a4 := fun w => by kernel_rfl, z4 := fun w => by kernel_rfl, v4 := fun w => by kernel_rfl, t5 := by kernel_rfl, a5 := fun w => by kernel_rfl, z5 := fun w => by kernel_rfl, v5 := fun w => by kernel_rfl, t9 := by kernel_rfl, a9 := fun w => by kernel_rfl, z9 := fun w => by kernel_rfl, v9 := fun w => by kernel_rfl, t46 := by kernel_rfl, a46 := fun w => by kernel_rfl, z46 := fun w => by kernel_rfl, v46 := fun w => by kernel_rfl, t51 := by kernel_rfl, a51 := fun w => by kernel_rfl, z51 := fun w => by kernel_rfl, v51 := fun w => by kernel_rfl, t59 := by kernel_rfl, a59 := fun w => by kernel_rfl, z59 := fun w => by kernel_rfl, v59 := fun w => by kernel_rfl, t146 := by kernel_rfl, a146 := fun w => by kernel_rfl, z146 := fun w => by kernel_rfl, v146 := fun w => by kernel_rfl, g1 := by kernel_rfl }
theorem u24 : Tryz.prog.underlying 24 = some (.slice 140) := by kernel_rfl
theorem s140 : ∀ w, (sizeOf 140).run Tryz.prog w = .ok 1 w := fun w => by kernel_rfl
theorem e140 : Elem Tryz.prog 140 (.int .u64 0) 1 := Elem.of (bytes := 8) (by kernel_rfl) (by kernel_rfl) (by kernel_rfl) (by decide)
section
variable {h : Heap}
theorem mul64_c (x y : Nat) (hx : x < 18446744073709551616) (hy : y < 18446744073709551616) : CallGo Tryz.prog 167 #[.int .u64 x, .int .u64 y] h NoX fun v h' => h' = h ∧ v = .tuple #[.int .u64 ((x * y / 18446744073709551616 : Nat) : Int), .int .u64 ((x * y % 18446744073709551616 : Nat) : Int)] :=
  CallGo.same (enters_of Tryz.lMul64.f264 (by kernel_rfl) rfl _) fun w _ => Any.bits_Mul64 Tryz.lMul64 x y hx hy w
theorem lz64_c (x : Nat) (hx : x < 18446744073709551616) : CallGo Tryz.prog 164 #[.int .u64 x] h NoX fun v h' => h' = h ∧ v = .int .i64 (64 - (Lib.bitLen x : Int)) :=
  CallGo.same (enters_of Tryz.lLz64.f134 (by kernel_rfl) rfl _) fun w _ => Any.bits_LeadingZeros64 Tryz.lLz64 x w (by omega) (by omega)
theorem add64_c (x y c : Nat) (hc : c ≤ 1) : CallGo Tryz.prog 161 #[.int .u64 x, .int .u64 y, .int .u64 c] h NoX fun v h' => h' = h ∧ v = .tuple #[.int .u64 (((x + y + c) % 18446744073709551616 : Nat) : Int), .int .u64 (((x + y + c) / 18446744073709551616 : Nat) : Int)] := by
  refine .inr ⟨_, fun w => ?_, rfl, rfl⟩
  rw [run_callFunc_extern Tryz.func161 (by kernel_rfl) (by kernel_rfl) (by kernel_rfl) (e := add64Entry) (by kernel_rfl), run_add64 x y c (by omega) (by omega) (by omega) (by omega)]
  simp only [Result.andThen]
  congr 5 <;> omega
theorem sub64_c (x y b : Nat) (hb : b ≤ 1) : CallGo Tryz.prog 162 #[.int .u64 x, .int .u64 y, .int .u64 b] h NoX fun v h' => h' = h ∧ v = .tuple #[.int .u64 (((x + 18446744073709551616 - y - b) % 18446744073709551616 : Nat) : Int), .int .u64 ((if x < y + b then 1 else 0 : Nat) : Int)] := by
  refine .inr ⟨_, fun w => ?_, rfl, rfl⟩
  rw [run_callFunc_extern Tryz.func162 (by kernel_rfl) (by kernel_rfl) (by kernel_rfl) (e := (Extern.MathBitsCarry.rows[1]'(by decide)).2) (by kernel_rfl)]
  have : b = 0 ∨ b = 1 := by omega
  rcases this with rfl | rfl <;> rfl
/-- The same, in equations. -/
theorem mul64_e (x y : Nat) (hx : x < 18446744073709551616) (hy : y < 18446744073709551616) : CallGo Tryz.prog 167 #[.int .u64 x, .int .u64 y] h NoX fun v h' => h' = h ∧ ∃ hi lo : Nat, v = .tuple #[.int .u64 (hi : Int), .int .u64 (lo : Int)] ∧ lo + 18446744073709551616 * hi = x * y ∧ lo < 18446744073709551616 ∧ hi + 1 < 18446744073709551616 :=
  (mul64_c x y hx hy).mono fun v h' _ ⟨h1, h2⟩ => ⟨h1, _, _, h2, Nat.mod_add_div _ _, Nat.mod_lt _ (by decide), by
    have h1 : x * y ≤ 18446744073709551615 * 18446744073709551615 := Nat.mul_le_mul (by omega) (by omega)
    omega⟩
theorem add64_e (x y c : Nat) (hc : c ≤ 1) (hx : x < 18446744073709551616) (hy : y < 18446744073709551616) : CallGo Tryz.prog 161 #[.int .u64 x, .int .u64 y, .int .u64 c] h NoX fun v h' => h' = h ∧ ∃ s d : Nat, v = .tuple #[.int .u64 (s : Int), .int .u64 (d : Int)] ∧ s + 18446744073709551616 * d = x + y + c ∧ s < 18446744073709551616 ∧ d ≤ 1 :=
  (add64_c x y c hc).mono fun v h' _ ⟨h1, h2⟩ => ⟨h1, _, _, h2, Nat.mod_add_div _ _, Nat.mod_lt _ (by decide), by omega⟩
theorem sub64_e (x y b : Nat) (hb : b ≤ 1) (hx : x < 18446744073709551616) (hy : y < 18446744073709551616) : CallGo Tryz.prog 162 #[.int .u64 x, .int .u64 y, .int .u64 b] h NoX fun v h' => h' = h ∧ ∃ s d : Nat, v = .tuple #[.int .u64 (s : Int), .int .u64 (d : Int)] ∧ s + y + b = x + 18446744073709551616 * d ∧ s < 18446744073709551616 ∧ d ≤ 1 :=
  (sub64_c x y b hb).mono fun v h' _ ⟨h1, h2⟩ => ⟨h1, _, _, h2, by split <;> omega, Nat.mod_lt _ (by decide), by split <;> omega⟩
theorem add64_0 (x y : Nat) (hx : x < 18446744073709551616) (hy : y < 18446744073709551616) : CallGo Tryz.prog 161 #[.int .u64 x, .int .u64 y, .int .u64 0] h NoX fun v h' => h' = h ∧ ∃ s d : Nat, v = .tuple #[.int .u64 (s : Int), .int .u64 (d : Int)] ∧ s + 18446744073709551616 * d = x + y ∧ s < 18446744073709551616 ∧ d ≤ 1 :=
  add64_e x y 0 (by decide) hx hy
theorem sub64_0 (x y : Nat) (hx : x < 18446744073709551616) (hy : y < 18446744073709551616) : CallGo Tryz.prog 162 #[.int .u64 x, .int .u64 y, .int .u64 0] h NoX fun v h' => h' = h ∧ ∃ s d : Nat, v = .tuple #[.int .u64 (s : Int), .int .u64 (d : Int)] ∧ s + y = x + 18446744073709551616 * d ∧ s < 18446744073709551616 ∧ d ≤ 1 :=
  sub64_e x y 0 (by decide) hx hy
end
end Go.Proofs.YtplaobhghfndgaaGreatDoor
