import Derived.Test.YtplaobhghfndgaaGreatDoorStrs
/-! Strings in the walk. -/
set_option linter.unusedVariables false
set_option linter.unusedSimpArgs false
namespace Go.Proofs.Vc
open Go Go.RowKit
section
variable {P : Program} {ρ : Operand → Value} {dst : Option Nat} {ty : Nat} {pos : String} {af : Array Edge} {gu : Option (Nat × Bool)} {K : Value → Prop}
theorem pO_sliceB {t : Nat} {x : Operand} {lo hi : Option Operand} {l : List UInt8} (i j : Nat) (m : List UInt8) (ht : P.underlying t = some .string)
    (hx : ρ x = .string (bs l)) (hlo : match lo with | none => i = 0 | some a => ∃ k, ρ a = .int k i) (hhi : match hi with | none => j = l.length | some a => ∃ k, ρ a = .int k j) (hij : i ≤ j) (hj : j ≤ l.length) (hm : (l.take j).drop i = m)
    (hK : K (.string (bs m))) : PureO P (execOp ρ ⟨dst, .slice t x lo hi none, ty, pos, af, gu⟩) K :=
  pO_sliceS i j ht hx hlo (by cases hi with | none => rw [bs_size]; exact hhi | some a => exact hhi) hij (by rw [bs_size]; exact hj) (by rw [bs_extract, hm]; exact hK)
theorem pO_catB {t t' : Nat} {x y : Operand} {a b : List UInt8} (c : List UInt8) (hx : ρ x = .string (bs a)) (hy : ρ y = .string (bs b)) (hs : a.length + b.length ≤ 9223372036854775807) (hc : a ++ b = c) (hK : K (.string (bs c))) :
    PureO P (execOp ρ ⟨dst, .binOp .add t x y t', ty, pos, af, gu⟩) K :=
  pO_cat hx hy (by rw [bs_size, bs_size]; exact hs) (by rw [bs_append, hc]; exact hK)
theorem pO_idxB {t : Nat} {x i : Operand} {l : List UInt8} {k : IntKind} {j : Nat} (b : UInt8) (ht : P.underlying t = some .string) (hx : ρ x = .string (bs l)) (hi : ρ i = .int k (j : Int)) (h1 : l[j]? = some b)
    (hK : K (.int .u8 b.toNat)) : PureO P (execOp ρ ⟨dst, .index t x i, ty, pos, af, gu⟩) K :=
  pO_idxS ht hx hi (by omega) (by
    obtain ⟨hj, hb⟩ := List.getElem?_eq_some_iff.1 h1
    rw [Int.toNat_natCast, bs_get _ _ hj, List.getD_eq_getElem?_getD, h1]; rfl) hK
theorem bs_toList (l : List UInt8) : (bs l).toList = l := by
  exact Lib.toList_data (bs l)
theorem pO_seqB {t t' : Nat} {x y : Operand} {a b : List UInt8} (c : Bool) (hx : ρ x = .string (bs a)) (hy : ρ y = .string (bs b)) (hc : decide (a = b) = c) (hK : K (.bool c)) :
    PureO P (execOp ρ ⟨dst, .binOp .eql t x y t', ty, pos, af, gu⟩) K :=
  pO_seql hx hy c (by rw [bs_toList, bs_toList, ← hc, Bool.eq_iff_iff, beq_iff_eq, decide_eq_true_iff]) hK
theorem pO_sneB {t t' : Nat} {x y : Operand} {a b : List UInt8} (c : Bool) (hx : ρ x = .string (bs a)) (hy : ρ y = .string (bs b)) (hc : (!decide (a = b)) = c) (hK : K (.bool c)) :
    PureO P (execOp ρ ⟨dst, .binOp .neq t x y t', ty, pos, af, gu⟩) K :=
  pO_sneq hx hy c (by rw [bs_toList, bs_toList, ← hc]; congr 1; rw [Bool.eq_iff_iff, beq_iff_eq, decide_eq_true_iff]) hK
end
/-- Bytes as values. -/
def us (l : List UInt8) : List Value := l.map fun b => Value.int .u8 (b.toNat : Int)
theorem us_length (l : List UInt8) : (us l).length = l.length := by simp [us]
theorem us_get (l : List UInt8) (i : Nat) (hi : i < l.length) : (us l)[i]? = some (.int .u8 ((l.getD i 0).toNat : Int)) := by
  simp [us, List.getD_eq_getElem?_getD, hi]
section
variable {P : Program} {h0 h : Heap} {pend : Bool} {ρ : Operand → Value} {dst : Option Nat} {ty : Nat} {pos : String} {af : Array Edge} {gu : Option (Nat × Bool)} {Φ : Value → Heap → Prop}
theorem eO_bytesB {t t' e : Nat} {x : Operand} {l : List UInt8} (hs : P.underlying t = some .string) (hd : P.underlying t' = some (.slice e)) (he : P.underlying e = some (.int .u8)) (hx : ρ x = .string (bs l))
    (hK : ∀ A c h', Le h h' → l.length ≤ c → Row h' A (us l) → Φ (.slice A l.length c) h') : EffO P h0 pend (execOp ρ ⟨dst, .convert t t' x, ty, pos, af, gu⟩) h Φ :=
  eO_bytes hs hd he hx fun A c h' h1 h2 h3 => by
    rw [bs_size] at h2 ⊢
    exact hK A c h' h1 h2 h3
theorem eO_byteB {t t' e : Nat} {x : Operand} {A : Option Addr} {n c : Nat} {l : List UInt8} (hs : P.underlying t = some (.slice e)) (he : P.underlying e = some (.int .u8)) (hd : P.underlying t' = some .string) (hx : ρ x = .slice A n c)
    (hn : l.length = n) (h1 : 0 < n) (hr : Row h A (us l)) (hK : Φ (.string (bs l)) h) : EffO P h0 pend (execOp ρ ⟨dst, .convert t t' x, ty, pos, af, gu⟩) h Φ :=
  eO_byte hs he hd hx hn h1 hr hK
end
section
variable {P : Program} {ρ : Operand → Value} {dst : Option Nat} {ty : Nat} {pos : String} {af : Array Edge} {gu : Option (Nat × Bool)} {K : Value → Prop}
/-- The address of an array's element of one cell. -/
theorem pO_idxA {t e n : Nat} {x i : Operand} {g o : Nat} {k : IntKind} {j : Nat} (ht : P.underlying t = some (.array n e)) (hs : ∀ w, (sizeOf e).run P w = .ok 1 w) (hx : ρ x = .pointer (some ⟨g, o, none⟩)) (hi : ρ i = .int k (j : Int))
    (h1 : j < n) (hK : K (.pointer (some ⟨g, o + j, none⟩))) : PureO P (execOp ρ ⟨dst, .indexAddr t x i, ty, pos, af, gu⟩) K := by
  refine ⟨_, fun w => ?_, hK⟩
  have h2 : (0 : Int) ≤ (j : Int) ∧ (j : Int) < (n : Int) := by omega
  have : (Instr.indexAt t (.pointer (some ⟨g, o, none⟩)) (.int k (j : Int))).run P w = .ok (.pointer (some ⟨g, o + j, none⟩)) w := by
    simp [Instr.indexAt, asIntOf, underlying, ht, h1, hs w, add_off, Instr.sureAddr]
  simp [execOp, hx, hi, this]
/-- A slice of a whole array. -/
theorem pO_allA {t e n : Nat} {x : Operand} {g o : Nat} (ht : P.underlying t = some (.array n e)) (hs : ∀ w, (sizeOf e).run P w = .ok 1 w) (hx : ρ x = .pointer (some ⟨g, o, none⟩))
    (hK : K (.slice (some ⟨g, o, none⟩) n n)) : PureO P (execOp ρ ⟨dst, .slice t x none none none, ty, pos, af, gu⟩) K := by
  refine ⟨_, fun w => ?_, hK⟩
  have : (Instr.sliceAt t (.pointer (some ⟨g, o, none⟩)) none none none).run P w = .ok (.slice (some ⟨g, o, none⟩) n n) w := by
    simp [Instr.sliceAt, underlying, ht, Instr.sureAddr, Instr.sliceBounds, hs w, add_off]
  simp [execOp, hx, this]
end
/-- A value of one cell is written into a row of one's own. -/
theorem stO_v {h0 h : Heap} {g off j : Nat} {cur : List Value} {v : Value} {e : Nat} {K : Heap → Prop} (hv : v.cells = #[v]) (hg : h g = some (.cells cur.toArray e (0, 0))) (h0g : h0 g = none) (ho : off = j) (hj : j < cur.length)
    (hK : K (h.upd g (.cells (cur.set j v).toArray e (0, 0)))) : StoreO h0 h 1 (.pointer (some ⟨g, off, none⟩)) v K := by
  subst ho
  refine ⟨g, off, _, e, rfl, hg, h0g, by simp; omega, ?_⟩
  have : splice cur off [v] = cur.set off v := by
    unfold splice
    rw [List.set_eq_take_append_cons_drop, if_pos hj]; simp
  simpa [hv, this] using hK
theorem lO_v {h : Heap} {g off j : Nat} {cur : List Value} {y : Value} {e : Nat} {fr : Nat × Nat} {K : Value → Prop} (hg : h g = some (.cells cur.toArray e fr)) (ho : off = j) (hy : cur[j]? = some y) (hK : K y) : LoadO h false 1 (.pointer (some ⟨g, off, none⟩)) K := by
  subst ho
  refine lO_at (y := y) ⟨g, off, _, e, fr, rfl, hg, fun q hq => ?_⟩ hK
  have : q = 0 := by simpa using hq
  subst this
  simpa using hy
theorem row_v {h : Heap} {g n : Nat} {cur xs : List Value} {e : Nat} {fr : Nat × Nat} (hg : h g = some (.cells cur.toArray e fr)) (hx : cur.take n = xs) (hn : n ≤ cur.length) : Row h (some ⟨g, 0, none⟩) xs := by
  subst hx
  refine .inr ⟨g, 0, _, e, fr, rfl, hg, fun j hj => ?_⟩
  rw [List.length_take] at hj
  rw [Nat.zero_add, List.getElem?_take, if_pos (by omega)]; simp
end Go.Proofs.Vc
