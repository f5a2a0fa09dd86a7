import Derived.Test.YtplaobhghfndgaaGreatDoorBits
import Derived.Test.YtplaobhghfndgaaGreatDoorTxt
import Derived.Shelf.Strings.OnBuilder
import Derived.Shelf.Strings.Repeat
import Derived.Shelf.Strings.Trim
/-! The library's functions of strings that the program calls: contracts of the shelf, laid at this program. -/
set_option linter.unusedVariables false
set_option linter.unusedSimpArgs false
set_option maxRecDepth 100000
namespace Go.Proofs.YtplaobhghfndgaaGreatDoor
open Go Go.Proofs.Vc
attribute [local irreducible] CallsO EffO PureO LoadO StoreO EndO LoopV RoundO
def Tryz.lJoin_ren : Go.Shelf.Ren := ⟨fun | 156 => 174 | 165 => 177 | 166 => 178 | 169 => 180 | 240 => 193 | 241 => 194 | 276 => 202 | 277 => 203 | n => n, fun | 31 => 113 | 9 => 9 | 3 => 3 | 4 => 4 | 0 => 0 | 20 => 20 | 72 => 189 | 76 => 193 | 70 => 187 | 37 => 166 | 75 => 192 | 127 => 209 | 164 => 216 | 5 => 5 | 80 => 85 | n => n, fun n => n⟩
theorem Tryz.lJoin : Go.Proofs.Lays.n156 Tryz.prog Tryz.lJoin_ren := { mixed := by kernel_rfl, f156 := by kernel_rfl, f165 := by kernel_rfl, f166 := by kernel_rfl, f169 := by kernel_rfl, f240 := by kernel_rfl, f241 := by kernel_rfl, f276 := by kernel_rfl, f277 := by kernel_rfl, t0 := by kernel_rfl, a0 := fun w => by kernel_rfl, z0 := fun w => by kernel_rfl, v0 := fun w => by kernel_rfl, t3 := by kernel_rfl, a3 := fun w => by kernel_rfl, z3 := fun w => by kernel_rfl, v3 := fun w => by kernel_rfl, t4 := by kernel_rfl, a4 := fun w => by kernel_rfl, z4 := fun w => by kernel_rfl, v4 := fun w => by kernel_rfl, t9 := by kernel_rfl, a9 := fun w => by kernel_rfl, z9 := fun w => by kernel_rfl, v9 := fun w => by kernel_rfl, t20 := by kernel_rfl, a20 := fun w => by kernel_rfl, z20 := fun w => by kernel_rfl, v20 := fun w => by kernel_rfl, t31 := by kernel_rfl, a31 := fun w => by kernel_rfl, z31 := fun w => by kernel_rfl, v31 := fun w => by kernel_rfl, t37 := by kernel_rfl, a37 := fun w => by kernel_rfl, z37 := fun w => by kernel_rfl, v37 := fun w => by kernel_rfl, t70 := by kernel_rfl, a70 := fun w => by kernel_rfl, z70 := fun w => by kernel_rfl, v70 := fun w => by kernel_rfl, t72 := by kernel_rfl, a72 := fun w => by kernel_rfl, z72 := fun w => by kernel_rfl, v72 := fun w => by kernel_rfl, t75 := by kernel_rfl, a75 := fun w => by kernel_rfl, z75 := fun w => by kernel_rfl, v75 := fun w => by kernel_rfl, t76 := by kernel_rfl, a76 := fun w => by kernel_rfl, z76 := fun w => by kernel_rfl, v76 := fun w => by kernel_rfl, t127 := by kernel_rfl, a127 := fun w => by kernel_rfl, z127 := fun w => by kernel_rfl, v127 := fun w => by kernel_rfl, t164 := by kernel_rfl, a164 := fun w => by kernel_rfl, z164 := fun w => by kernel_rfl, v164 := fun w => by kernel_rfl }
def Tryz.lRepeat_ren : Go.Shelf.Ren := ⟨fun | 105 => 142 | 212 => 175 | 99 => 176 | 165 => 177 | 166 => 178 | 170 => 179 | 169 => 180 | 263 => 192 | 264 => 167 | 206 => 184 | 240 => 193 | 241 => 194 | 276 => 202 | 277 => 203 | n => n, fun | 9 => 9 | 3 => 3 | 4 => 4 | 20 => 20 | 0 => 0 | 46 => 146 | 109 => 185 | 5 => 5 | 72 => 189 | 76 => 193 | 51 => 206 | 146 => 207 | 53 => 140 | 148 => 172 | 70 => 187 | 37 => 166 | 75 => 192 | 127 => 209 | 164 => 216 | 80 => 85 | n => n, fun n => n⟩
theorem Tryz.lRepeat : Go.Proofs.Lays.n105 Tryz.prog Tryz.lRepeat_ren := { mixed := by kernel_rfl, f99 := by kernel_rfl, f105 := by kernel_rfl, f165 := by kernel_rfl, f166 := by kernel_rfl, f169 := by kernel_rfl, f170 := by kernel_rfl, f206 := by kernel_rfl, f212 := by kernel_rfl, f240 := by kernel_rfl, f241 := by kernel_rfl, f263 := by kernel_rfl, f264 := by kernel_rfl, f276 := by kernel_rfl, f277 := by kernel_rfl, t0 := by kernel_rfl, a0 := fun w => by kernel_rfl, z0 := fun w => by kernel_rfl, v0 := fun w => by kernel_rfl, t3 := by kernel_rfl, a3 := fun w => by kernel_rfl, z3 := fun w => by kernel_rfl, v3 := fun w => by kernel_rfl, t4 := by kernel_rfl, a4 := fun w => by kernel_rfl, z4 := fun w => by kernel_rfl, v4 := fun w => by kernel_rfl, t5 := by kernel_rfl, a5 := fun w => by kernel_rfl, z5 := fun w => by kernel_rfl, v5 := fun w => by kernel_rfl, t9 := by kernel_rfl, a9 := fun w => by kernel_rfl, z9 := fun w => by kernel_rfl, v9 := fun w => by kernel_rfl, t20 := by kernel_rfl, a20 := fun w => by kernel_rfl, z20 := fun w => by kernel_rfl, v20 := fun w => by kernel_rfl, t37 := by kernel_rfl, a37 := fun w => by kernel_rfl, z37 := fun w => by kernel_rfl, v37 := fun w => by kernel_rfl, t46 := by kernel_rfl, a46 := fun w => by kernel_rfl, z46 := fun w => by kernel_rfl, v46 := fun w => by kernel_rfl, t51 := by kernel_rfl, a51 := fun w => by kernel_rfl, z51 := fun w => by kernel_rfl, v51 := fun w => by kernel_rfl, t53 := by kernel_rfl, a53 := fun w => by kernel_rfl, z53 := fun w => by kernel_rfl, v53 := fun w => by kernel_rfl, t70 := by kernel_rfl, a70 := fun w => by kernel_rfl, z70 := fun w => by kernel_rfl, v70 := fun w => by kernel_rfl, t72 := by kernel_rfl, a72 := fun w => by kernel_rfl, z72 := fun w => by kernel_rfl, v72 := fun w => by kernel_rfl, t75 := by kernel_rfl, a75 := fun w => by kernel_rfl, z75 := fun w => by kernel_rfl, v75 := fun w => by kernel_rfl, t76 := by kernel_rfl, a76 := fun w => by kernel_rfl, z76 := fun w => by kernel_rfl, v76 := fun w => by kernel_rfl, t109 := by kernel_rfl, a109 := fun w => by kernel_rfl, z109 := fun w => by kernel_rfl, v109 := fun w => by kernel_rfl, t127 := by kernel_rfl, a127 := fun w => by kernel_rfl, z127 := fun w => by kernel_rfl, v127 := fun w => by kernel_rfl, t146 := by kernel_rfl, a146 := fun w => by kernel_rfl, z146 := fun w => by kernel_rfl, v146 := fun w => by kernel_rfl, t148 := by kernel_rfl, a148 := fun w => by kernel_rfl, z148 := fun w => by kernel_rfl, v148 := fun w => by kernel_rfl, t164 := by kernel_rfl, a164 := fun w => by kernel_rfl, z164 := fun w => by kernel_rfl, v164 := fun w => by kernel_rfl }
def Tryz.lTrimLeft_ren : Go.Shelf.Ren := ⟨fun | 161 => 173 | 231 => 188 | 227 => 189 | 233 => 190 | 235 => 191 | 228 => 199 | 197 => 200 | 151 => 201 | 260 => 206 | 152 => 207 | 137 => 208 | 119 => 209 | 224 => 197 | 225 => 196 | 217 => 195 | 266 => 204 | n => n, fun | 9 => 9 | 4 => 4 | 3 => 3 | 5 => 5 | 117 => 202 | 116 => 201 | 0 => 0 | 124 => 205 | 105 => 213 | 21 => 21 | 119 => 221 | 46 => 146 | 139 => 224 | 138 => 223 | n => n, fun | 3 => 3 | 4 => 4 | n => n⟩
theorem Tryz.lTrimLeft : Go.Proofs.Lays.n161 Tryz.prog Tryz.lTrimLeft_ren := { mixed := by kernel_rfl, f119 := by kernel_rfl, f137 := by kernel_rfl, f151 := by kernel_rfl, f152 := by kernel_rfl, f161 := by kernel_rfl, f197 := by kernel_rfl, f217 := by kernel_rfl, f224 := by kernel_rfl, f225 := by kernel_rfl, f227 := by kernel_rfl, f228 := by kernel_rfl, f231 := by kernel_rfl, f233 := by kernel_rfl, f235 := by kernel_rfl, f260 := by kernel_rfl, f266 := by kernel_rfl, t0 := by kernel_rfl, a0 := fun w => by kernel_rfl, z0 := fun w => by kernel_rfl, v0 := fun w => by kernel_rfl, t3 := by kernel_rfl, a3 := fun w => by kernel_rfl, z3 := fun w => by kernel_rfl, v3 := fun w => by kernel_rfl, t4 := by kernel_rfl, a4 := fun w => by kernel_rfl, z4 := fun w => by kernel_rfl, v4 := fun w => by kernel_rfl, t5 := by kernel_rfl, a5 := fun w => by kernel_rfl, z5 := fun w => by kernel_rfl, v5 := fun w => by kernel_rfl, t9 := by kernel_rfl, a9 := fun w => by kernel_rfl, z9 := fun w => by kernel_rfl, v9 := fun w => by kernel_rfl, t21 := by kernel_rfl, a21 := fun w => by kernel_rfl, z21 := fun w => by kernel_rfl, v21 := fun w => by kernel_rfl, t46 := by kernel_rfl, a46 := fun w => by kernel_rfl, z46 := fun w => by kernel_rfl, v46 := fun w => by kernel_rfl, t105 := by kernel_rfl, a105 := fun w => by kernel_rfl, z105 := fun w => by kernel_rfl, v105 := fun w => by kernel_rfl, t116 := by kernel_rfl, a116 := fun w => by kernel_rfl, z116 := fun w => by kernel_rfl, t117 := by kernel_rfl, a117 := fun w => by kernel_rfl, z117 := fun w => by kernel_rfl, v117 := fun w => by kernel_rfl, t119 := by kernel_rfl, a119 := fun w => by kernel_rfl, z119 := fun w => by kernel_rfl, t124 := by kernel_rfl, a124 := fun w => by kernel_rfl, z124 := fun w => by kernel_rfl, v124 := fun w => by kernel_rfl, t138 := by kernel_rfl, a138 := fun w => by kernel_rfl, z138 := fun w => by kernel_rfl, v138 := fun w => by kernel_rfl, t139 := by kernel_rfl, a139 := fun w => by kernel_rfl, z139 := fun w => by kernel_rfl, v139 := fun w => by kernel_rfl, g3 := by kernel_rfl, g4 := by kernel_rfl }
theorem Tryz.xJoin : Builder.Extra Tryz.prog Tryz.lJoin_ren where
  sizeBuilder := by kernel_rfl
  liesBuilder := by kernel_rfl
  t5 := by kernel_rfl
  a5 := fun w => by kernel_rfl
  z5 := fun w => by kernel_rfl
  v5 := fun w => by kernel_rfl
  infoByte := by kernel_rfl
  cellsByte := by kernel_rfl
  sizeByte := by kernel_rfl
  neB5 := by decide
theorem Tryz.xRepeat : Builder.Extra Tryz.prog Tryz.lRepeat_ren where
  sizeBuilder := by kernel_rfl
  liesBuilder := by kernel_rfl
  t5 := by kernel_rfl
  a5 := fun w => by kernel_rfl
  z5 := fun w => by kernel_rfl
  v5 := fun w => by kernel_rfl
  infoByte := by kernel_rfl
  cellsByte := by kernel_rfl
  sizeByte := by kernel_rfl
  neB5 := by decide
section
variable {h : Heap}
/-- The texts of a row. -/
def ss (l : List (List UInt8)) : List Value := l.map fun s => Value.string (bs s)
theorem join_c {A : Option Addr} {n c : Nat} {xs : List (List UInt8)} (hr : Row h A (ss xs)) (hn : xs.length = n) (hc : n ≤ c) (hne : xs ≠ []) (hl : n ≤ 140737488355328) (hs : xs.flatten.length ≤ 140737488355328) :
    CallGo Tryz.prog 174 #[.slice A n c, .string (bs [])] h NoX fun v h' => h' = h ∧ v = .string (bs xs.flatten) := by
  subst hn
  have hj : Lib.join ((xs.map bs).map (·.data.toList)) (bs []).data.toList = xs.flatten := by
    have e1 : (xs.map bs).map (·.data.toList) = xs := by rw [List.map_map]; exact List.map_id'' (fun l => rfl) xs
    rw [e1]
    show List.intercalate [] xs = xs.flatten
    clear hs hl hc hne hr e1
    unfold List.intercalate
    induction xs with
    | nil => rfl
    | cons x xs ih =>
      cases xs with
      | nil => simp
      | cons y ys => simp only [List.intersperse, List.flatten_cons] at ih ⊢; rw [ih]; rfl
  rcases hr with hr | ⟨g, o, cc, e, fr, rfl, hb, hcell⟩
  · exact absurd (by simpa [ss] using hr) hne
  · refine CallGo.below (enters_of Tryz.lJoin.f156 (by kernel_rfl) rfl _) fun w hw => ?_
    have H := Any.strings_Join Tryz.lJoin Tryz.xJoin g o c (xs.map bs) (bs []) w (fun j x hx => by
      refine cell_of_block (hw _ _ hb) ?_
      obtain ⟨hj1, hj2⟩ := List.getElem?_eq_some_iff.1 hx
      simp only [List.length_map] at hj1
      rw [hcell j (by simpa [ss] using hj1)]
      simp only [List.getElem_map] at hj2
      simp [ss, hj1, hj2]) (by
        have := hw _ _ hb
        exact (Array.getElem?_eq_some_iff.1 this).1) (by simpa using hl) (by simpa using hc) (by rw [hj]; exact hs)
    rw [hj, List.length_map] at H
    exact H
theorem trimLeft_c (l : List UInt8) : CallGo Tryz.prog 173 #[.string (bs l), .string (bs [48])] h NoX fun v h' => h' = h ∧ v = .string (bs (l.dropWhile (· == 48))) :=
  CallGo.same (enters_of Tryz.lTrimLeft.f161 (by kernel_rfl) rfl _) fun w _ => Any.strings_TrimLeft_one Tryz.lTrimLeft (bs l) 48 (by decide) w
theorem repeat_c (n : Nat) (hn : n ≤ 1099511627776) : CallGo Tryz.prog 142 #[.string (bs [48]), .int .i64 n] h NoX fun v h' => h' = h ∧ v = .string (bs (List.replicate n 48)) := by
  refine CallGo.below (enters_of Tryz.lRepeat.f105 (by kernel_rfl) rfl _) fun w _ => ?_
  have H := Any.strings_Repeat Tryz.lRepeat Tryz.xRepeat (bs [48]) n w (by omega) (by rw [bs_size]; simp only [List.length_cons, List.length_nil]; omega)
  have e : Lib.repeatL (bs [48]).data.toList n = List.replicate n 48 := by
    show Lib.repeatL [48] n = _
    clear H hn
    induction n with
    | zero => rfl
    | succ n ih => rw [Lib.repeatL, ih, List.replicate_succ]; rfl
  rw [e] at H
  exact H
/-- The library's variable that its search reads. -/
def Glob (h : Heap) : Prop := ∃ c e fr m, h 2 = some (.cells c e fr) ∧ c[0]? = some (.int .i64 m)
theorem Glob.mono {h h' : Heap} (hle : Le h h') (H : Glob h) : Glob h' := by
  obtain ⟨c, e, fr, m, h1, h2⟩ := H
  exact ⟨c, e, fr, m, hle _ _ h1, h2⟩
/-- What strings.Cut gives, as three values. -/
def cut3 (c : UInt8) (l : List UInt8) : List UInt8 × List UInt8 × Bool := match cutC c l with
  | (f, some b) => (f, b, true)
  | (f, none) => (f, [], false)
theorem lib_cut (c : UInt8) (l : List UInt8) : Lib.cut l [c] = cut3 c l := by
  have key : ∀ l : List UInt8, (∃ f b, cutC c l = (f, some b) ∧ Lib.index l [c] = (f.length : Int) ∧ l.take f.length = f ∧ l.drop (f.length + 1) = b) ∨ (cutC c l = (l, none) ∧ Lib.index l [c] = -1) := by
    intro l
    induction l with
    | nil => exact .inr ⟨rfl, rfl⟩
    | cons x l ih =>
      by_cases hx : x = c
      · subst hx
        exact .inl ⟨[], l, by simp [cutC], by simp [Lib.index, List.isPrefixOf], rfl, rfl⟩
      · have hp : List.isPrefixOf [c] (x :: l) = false := by simp [List.isPrefixOf]; exact fun e => hx e.symm
        rcases ih with ⟨f, b, h1, h2, h3, h4⟩ | ⟨h1, h2⟩
        · refine .inl ⟨x :: f, b, by rw [cutC, if_neg hx, h1], ?_, by simp [h3], by simpa using h4⟩
          have : ¬ ((f.length : Int) == -1) = true := by rw [beq_iff_eq]; omega
          simp only [Lib.index, hp, Bool.false_eq_true, if_false, h2, if_neg this, List.length_cons]; omega
        · exact .inr ⟨by rw [cutC, if_neg hx, h1], by simp [Lib.index, hp, h2]⟩
  unfold Lib.cut cut3
  rcases key l with ⟨f, b, h1, h2, h3, h4⟩ | ⟨h1, h2⟩
  · rw [if_pos (by rw [h2]; omega), h1, h2, Int.toNat_natCast, h3]
    simp only [List.length_cons, List.length_nil, Nat.zero_add, h4]
  · rw [if_neg (by rw [h2]; omega), h1]
theorem cut_c (c : UInt8) (l : List UInt8) (hG : Glob h) (hl : l.length < 4294967281) : CallGo Tryz.prog 110 #[.string (bs l), .string (bs [c])] h NoX fun v h' => h' = h ∧ v = .tuple #[.string (bs (cut3 c l).1), .string (bs (cut3 c l).2.1), .bool (cut3 c l).2.2] := by
  obtain ⟨cc, e, fr, m, h1, h2⟩ := hG
  refine CallGo.below (enters_of Tryz.lCut.f145 (by kernel_rfl) rfl _) fun w hw => ?_
  have H := Any.strings_Cut Tryz.lCut (bs l) (bs [c]) m w (by rw [bs_size]; exact hl) (cell_of_block (hw _ _ h1) h2)
  have e1 : (bs l).data.toList = l := rfl
  have e2 : (bs [c]).data.toList = [c] := rfl
  rw [e1, e2, lib_cut] at H
  refine H.mono ?_
  rintro e w' ⟨rfl, n, rfl⟩
  exact ⟨rfl, ⟨rfl, rfl, rfl, Nat.le_refl _, fun _ _ => rfl⟩⟩
end
end Go.Proofs.YtplaobhghfndgaaGreatDoor
