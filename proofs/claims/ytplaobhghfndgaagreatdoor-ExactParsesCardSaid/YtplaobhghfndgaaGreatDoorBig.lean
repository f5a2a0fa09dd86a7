import Derived.Test.YtplaobhghfndgaaGreatDoorKnown
import Derived.Test.YtplaobhghfndgaaGreatDoorRefm
import Derived.Test.YtplaobhghfndgaaGreatDoorScR0
import Derived.Test.YtplaobhghfndgaaGreatDoorScR1
/-! The document's numbers: words of 16 bits; order, sums, products, bits, quotients, divisors. -/
set_option linter.unusedVariables false
set_option linter.unusedSimpArgs false
set_option maxRecDepth 100000
namespace Go.Proofs.YtplaobhghfndgaaGreatDoor
open Go Go.Proofs.Vc
abbrev B : Nat := 65536
theorem b2 : 2 ≤ B := by decide
/-- Words of 16 bits as values. -/
def is (l : List Nat) : List Value := l.map fun d : Nat => Value.int .i64 (d : Int)
theorem is_length (l : List Nat) : (is l).length = l.length := by simp [is]
theorem is_get (l : List Nat) (i : Nat) (hi : i < l.length) : (is l)[i]? = some (.int .i64 ((l.getD i 0 : Nat) : Int)) := by
  simp [is, List.getD_eq_getElem?_getD, hi]
theorem is_set (l : List Nat) (i d : Nat) : (is l).set i (.int .i64 (d : Int)) = is (l.set i d) := by simp [is, List.map_set]
theorem is_snoc (l : List Nat) (d : Nat) : is (l ++ [d]) = is l ++ [.int .i64 (d : Int)] := by simp [is]
/-- How many words a number takes. -/
def bz (n : Nat) : Nat := (dig B n).length
/-- A slice of words and its number. -/
def Bg (h : Heap) (v : Value) (n : Nat) : Prop := Sl h v (is (dig B n))
theorem Bg.mono {h h' : Heap} (hle : Le h h') {v : Value} {n : Nat} (H : Bg h v n) : Bg h' v n := Sl.mono hle H
theorem Bg.open {h : Heap} {v : Value} {n : Nat} (H : Bg h v n) : ∃ A c, v = .slice A (bz n) c ∧ bz n ≤ c ∧ Row h A (is (dig B n)) := by
  obtain ⟨A, c, h1, h2, h3⟩ := H
  rw [is_length] at h1 h2
  exact ⟨A, c, h1, h2, h3⟩
theorem Bg.of {h : Heap} {v : Value} {l : List Nat} (hl : Low B l) (H : Sl h v (is (cutz l))) : Bg h v (val B l) := by
  unfold Bg; rw [← cutz_eq b2 hl]; exact H
theorem bz_eq_zero {n : Nat} : bz n = 0 ↔ n = 0 := by unfold bz; rw [List.length_eq_zero_iff]; exact dig_eq_nil b2
theorem bz_le {n k : Nat} (h : n < B ^ k) : bz n ≤ k := dig_length_le b2 h
theorem bz_mono {n m : Nat} (h : n ≤ m) : bz n ≤ bz m := dig_length_mono b2 h
theorem lt_bz (n : Nat) : n < B ^ bz n := lt_of_dig_length b2 n
theorem bz_two {n k : Nat} (h : n ≤ 2 ^ k) : bz n ≤ k + 1 := by
  apply bz_le
  have h1 : (2 : Nat) ^ k < 2 ^ (k + 1) := Nat.pow_lt_pow_right (by decide) (Nat.lt_succ_self k)
  have h2 : (2 : Nat) ^ (k + 1) ≤ B ^ (k + 1) := Nat.pow_le_pow_left (by decide) _
  omega
theorem u31 : Tryz.prog.underlying 31 = some (.slice 3) := by kernel_rfl
theorem s3 : ∀ w, (sizeOf 3).run Tryz.prog w = .ok 1 w := fun w => by kernel_rfl
theorem z3 : ∀ w, (zeroValue 3).run Tryz.prog w = .ok (.int .i64 0) w := fun w => by kernel_rfl
theorem e3 : Elem Tryz.prog 3 (.int .i64 0) 1 := Elem.of (bytes := 8) (by kernel_rfl) (by kernel_rfl) (by kernel_rfl) (by decide)
theorem lO_owni {h : Heap} {g off j : Nat} {cur : List Nat} {e : Nat} {fr : Nat × Nat} {K : Value → Prop} (hg : h g = some (.cells (is cur).toArray e fr)) (ho : off = j) (hj : j < cur.length)
    (hK : K (.int .i64 ((cur.getD j 0 : Nat) : Int))) : LoadO h false 1 (.pointer (some ⟨g, off, none⟩)) K := by
  subst ho
  refine lO_at (y := .int .i64 ((cur.getD off 0 : Nat) : Int)) ⟨g, off, _, e, fr, rfl, hg, fun q hq => ?_⟩ hK
  have : q = 0 := by simpa using hq
  subst this
  simpa using is_get cur off hj
theorem stO_i {h0 h : Heap} {g off j d : Nat} {cur : List Nat} {e : Nat} {K : Heap → Prop} (hg : h g = some (.cells (is cur).toArray e (0, 0))) (h0g : h0 g = none) (ho : off = j) (hj : j < cur.length)
    (hK : K (h.upd g (.cells (is (cur.set j d)).toArray e (0, 0)))) : StoreO h0 h 1 (.pointer (some ⟨g, off, none⟩)) (.int .i64 (d : Int)) K := by
  subst ho
  refine ⟨g, off, _, e, rfl, hg, h0g, by simp [is]; omega, ?_⟩
  have : splice (is cur) off [.int .i64 (d : Int)] = is (cur.set off d) := by
    unfold splice is
    rw [List.set_eq_take_append_cons_drop, if_pos hj]
    simp
  simpa [Value.cells, this] using hK
attribute [local irreducible] CallsO EffO PureO LoadO StoreO EndO LoopV RoundO
section
variable {h : Heap}
/-- A word, 0 behind the end. -/
theorem word_c {A : Option Addr} {ds : List Nat} {n c i : Nat} (hr : Row h A (is ds)) (hn : ds.length = n) : CallGo Tryz.prog 155 #[.slice A n c, .int .i64 i] h NoX fun v h' => h' = h ∧ v = .int .i64 ((ds.getD i 0 : Nat) : Int) := by
  subst hn
  refine v_fn tb k155 [.slice A ds.length c, .int .i64 i] rfl ?_
  conv => whnf
  refine pO_lss rfl rfl (false) (decide_eq_false (by omega)) ?_
  conv => whnf
  rcases Nat.lt_or_ge i ds.length with hi | hi
  · refine pO_geq rfl rfl (false) (decide_eq_false (by omega)) ?_
    conv => whnf
    refine pO_atN u31 s3 rfl rfl (hr) (is_length _) (is_get _ i hi) fun pAt hAt => ?_
    conv => whnf
    refine lO_at hAt ?_
    conv => whnf
    exact EndO.go ⟨rfl, rfl⟩
  · refine pO_geq rfl rfl (true) (decide_eq_true (by omega)) ?_
    conv => whnf
    refine EndO.go ⟨rfl, ?_⟩
    rw [List.getD_eq_getElem?_getD, List.getElem?_eq_none hi]; rfl
/-- Words without zeros at the end. -/
theorem bcut_c {A : Option Addr} {ds : List Nat} {n c : Nat} (hr : Row h A (is ds)) (hn : ds.length = n) (hc : n ≤ c) (hb : n < 2 ^ 62) : CallGo Tryz.prog 156 #[.slice A n c] h NoX fun v h' => Sl h' v (is (cutz ds)) := by
  subst hn
  refine v_fn tb k156 [.slice A ds.length c] rfl ?_
  conv => whnf
  refine LoopV.by (α := Nat) (fun k => [(0, .v (.slice A ds.length c)), (3, .v (.int .i64 (k : Nat)))]) (fun _ => []) (fun k h' => h' = h ∧ k ≤ ds.length ∧ cutz (ds.take k) = cutz ds) (fun k => k) ds.length
    ⟨rfl, rfl, rfl, rfl, trivial⟩ trivial ⟨rfl, Nat.le_refl _, by rw [List.take_of_length_le (Nat.le_refl _)]⟩ ?_
  rintro k h1 ⟨rfl, hk, hz⟩
  dsimp only
  conv => whnf
  rcases Nat.eq_zero_or_pos k with rfl | hk0
  · refine pO_gtr rfl rfl (false) (rfl) ?_
    conv => whnf
    refine pO_part 0 0 u31 s3 rfl hr (is_length _) hc rfl ⟨_, rfl⟩ (Nat.zero_le _) (Nat.zero_le _) fun A' hr2 => ?_
    conv => whnf
    refine EndO.go ⟨A', c - 0, ?_, ?_, ?_⟩
    · rw [← hz]; rfl
    · rw [← hz]; exact Nat.zero_le _
    · rw [← hz]; exact Row.nil _ _
  · obtain ⟨j, rfl⟩ : ∃ j, k = j + 1 := ⟨k - 1, by omega⟩
    refine pO_gtr rfl rfl (true) (decide_eq_true (by omega)) ?_
    conv => whnf
    refine pO_sub rfl rfl ((j : Int)) (wr64 (by omega) (by omega) (by omega)) ?_
    conv => whnf
    refine pO_atN u31 s3 rfl rfl (hr) (is_length _) (is_get _ j (by omega)) fun pAt hAt => ?_
    conv => whnf
    refine lO_at hAt ?_
    conv => whnf
    have hts : ds.take (j + 1) = ds.take j ++ [ds.getD j 0] := by
      rw [List.take_succ_eq_append_getElem (by omega)]; simp [List.getD_eq_getElem?_getD, show j < ds.length by omega]
    by_cases h0 : ds.getD j 0 = 0
    · refine pO_eql rfl rfl (true) (by rw [h0]; rfl) ?_
      conv => whnf
      refine pO_sub rfl rfl ((j : Int)) (wr64 (by omega) (by omega) (by omega)) ?_
      conv => whnf
      exact RoundO.go ⟨j, ⟨rfl, rfl, rfl, rfl, trivial⟩, trivial, ⟨rfl, by omega, by rw [← hz, hts, h0, cutz_append_zero]⟩, Nat.lt_succ_self j⟩
    · refine pO_eql rfl rfl (false) (beq_eq_false_iff_ne.2 (by omega)) ?_
      conv => whnf
      refine pO_part 0 (j + 1) u31 s3 rfl hr (is_length _) hc rfl ⟨_, rfl⟩ (Nat.zero_le _) hk fun A' hr2 => ?_
      conv => whnf
      have hcz : cutz ds = ds.take (j + 1) := by rw [← hz, hts, cutz_last _ _ h0]
      refine EndO.go ⟨A', c - 0, ?_, ?_, ?_⟩
      · rw [hcz, is_length, List.length_take, Nat.min_eq_left hk]; rfl
      · rw [hcz, is_length, List.length_take, Nat.min_eq_left hk]; omega
      · rw [hcz]
        have : is (ds.take (j + 1)) = ((is ds).take (j + 1)).drop 0 := by simp [is]
        rw [this]; exact hr2
theorem compare_c {x y : Value} {a b : Nat} (hx : Bg h x a) (hy : Bg h y b) (hb : bz a + bz b < 1099511627776) : CallGo Tryz.prog 126 #[x, y] h NoX fun v h' => h' = h ∧ v = .int .i64 (cmpN a b) := by
  obtain ⟨A, ca, rfl, hca, hra⟩ := hx.open
  obtain ⟨C, cb, rfl, hcb, hrb⟩ := hy.open
  have hla := low_dig b2 a
  have hlb := low_dig b2 b
  have hda : (dig B a).length = bz a := rfl
  have hdb : (dig B b).length = bz b := rfl
  have hva := val_dig b2 a
  have hvb := val_dig b2 b
  generalize hM : max (bz a) (bz b) = M
  -- both as rows of M words
  have pad : ∀ (l : List Nat), l.length ≤ M → val B (l ++ List.replicate (M - l.length) 0) = val B l ∧ (l ++ List.replicate (M - l.length) 0).length = M ∧ ∀ i, (l ++ List.replicate (M - l.length) 0).getD i 0 = l.getD i 0 := fun l hl => by
    refine ⟨by rw [val_append, val_zeros, Nat.mul_zero, Nat.add_zero], by simp; omega, fun i => ?_⟩
    rw [List.getD_eq_getElem?_getD, List.getD_eq_getElem?_getD, List.getElem?_append]
    split
    · rfl
    · rename_i hi
      rw [List.getElem?_eq_none (Nat.le_of_not_lt hi), List.getElem?_replicate]
      split <;> rfl
  obtain ⟨pa1, pa2, pa3⟩ := pad (dig B a) (by omega)
  obtain ⟨pb1, pb2, pb3⟩ := pad (dig B b) (by omega)
  have hlpa : Low B (dig B a ++ List.replicate (M - (dig B a).length) 0) := low_append.2 ⟨hla, low_zeros (by decide) _⟩
  have hlpb : Low B (dig B b ++ List.replicate (M - (dig B b).length) 0) := low_append.2 ⟨hlb, low_zeros (by decide) _⟩
  generalize dig B a ++ List.replicate (M - (dig B a).length) 0 = la at *
  generalize dig B b ++ List.replicate (M - (dig B b).length) 0 = lb at *
  refine v_fn tb k126 [.slice A (bz a) ca, .slice C (bz b) cb] rfl ?_
  conv => whnf
  refine pO_max rfl rfl ((M : Int)) (by split <;> omega) ?_
  conv => whnf
  refine pO_sub rfl rfl ((M : Int) - 1) (wr64 rfl (by omega) (by omega)) ?_
  conv => whnf
  refine LoopV.by (α := Nat) (fun k => [(0, .v (.slice A (bz a) ca)), (1, .v (.slice C (bz b) cb)), (5, .v (.int .i64 ((k : Int) - 1)))]) (fun _ => []) (fun k h' => h' = h ∧ k ≤ M ∧ la.drop k = lb.drop k) (fun k => k) M
    ⟨rfl, rfl, rfl, rfl, rfl, rfl, trivial⟩ trivial ⟨rfl, Nat.le_refl _, by rw [List.drop_of_length_le (by omega), List.drop_of_length_le (by omega)]⟩ ?_
  rintro k h1 ⟨rfl, hk, hdrop⟩
  dsimp only
  conv => whnf
  rcases Nat.eq_zero_or_pos k with rfl | hk0
  · refine pO_geq rfl rfl (false) (rfl) ?_
    conv => whnf
    have : a = b := by rw [← hva, ← hvb, ← pa1, ← pb1]; simpa using congrArg (val B) hdrop
    exact EndO.go ⟨rfl, congrArg _ (cmpN_eq this).symm⟩
  · obtain ⟨i, rfl⟩ : ∃ i, k = i + 1 := ⟨k - 1, by omega⟩
    have hii : ((i + 1 : Nat) : Int) - 1 = (i : Int) := by omega
    rw [hii]
    refine pO_geq rfl rfl (true) (decide_eq_true (by omega)) ?_
    conv => whnf
    refine CallsO.go (word_c (i := i) hra hda) ?_
    rintro v1 h2 hle2 ⟨rfl, rfl⟩
    conv => whnf
    refine CallsO.go (word_c (i := i) hrb hdb) ?_
    rintro v2 h3 hle3 ⟨rfl, rfl⟩
    conv => whnf
    rw [← pa3 i, ← pb3 i]
    rcases Nat.lt_trichotomy (la.getD i 0) (lb.getD i 0) with hc | hc | hc
    · refine pO_neq rfl rfl (true) (by rw [bne_iff_ne]; omega) ?_
      conv => whnf
      refine CallsO.go (word_c (i := i) hra hda) ?_
      rintro v1 h2 hle2 ⟨rfl, rfl⟩
      conv => whnf
      refine CallsO.go (word_c (i := i) hrb hdb) ?_
      rintro v2 h3 hle3 ⟨rfl, rfl⟩
      conv => whnf
      rw [← pa3 i, ← pb3 i]
      refine pO_lss rfl rfl (true) (decide_eq_true (by omega)) ?_
      conv => whnf
      have := val_lt_of_getD hlpa (by omega) i (by omega) hdrop hc
      rw [pa1, pb1, hva, hvb] at this
      exact EndO.go ⟨rfl, congrArg _ (cmpN_lt this).symm⟩
    · refine pO_neq rfl rfl (false) (by rw [hc]; simp) ?_
      conv => whnf
      refine pO_sub rfl rfl ((i : Int) - 1) (wr64 rfl (by omega) (by omega)) ?_
      conv => whnf
      exact RoundO.go ⟨i, ⟨rfl, rfl, rfl, rfl, rfl, rfl, trivial⟩, trivial, ⟨rfl, by omega, drop_eq_of_getD (by omega) i (by omega) hdrop hc⟩, Nat.lt_succ_self i⟩
    · refine pO_neq rfl rfl (true) (by rw [bne_iff_ne]; omega) ?_
      conv => whnf
      refine CallsO.go (word_c (i := i) hra hda) ?_
      rintro v1 h2 hle2 ⟨rfl, rfl⟩
      conv => whnf
      refine CallsO.go (word_c (i := i) hrb hdb) ?_
      rintro v2 h3 hle3 ⟨rfl, rfl⟩
      conv => whnf
      rw [← pa3 i, ← pb3 i]
      refine pO_lss rfl rfl (false) (decide_eq_false (by omega)) ?_
      conv => whnf
      have := val_lt_of_getD hlpb (by omega) i (by omega) hdrop.symm hc
      rw [pa1, pb1, hva, hvb] at this
      exact EndO.go ⟨rfl, congrArg _ (cmpN_gt this).symm⟩
end
theorem and16 {a : Int} {c : Nat} (h : a % 65536 = (c : Int)) : IntKind.i64.wrap ((BitVec.ofInt IntKind.i64.bits a &&& BitVec.ofInt IntKind.i64.bits 65535).toNat : Int) = (c : Int) := by
  have h1 : (BitVec.ofInt IntKind.i64.bits a &&& BitVec.ofInt IntKind.i64.bits 65535).toNat = c := by
    rw [BitVec.toNat_and, BitVec.toNat_ofInt, BitVec.toNat_ofInt]
    have : ((65535 : Int) % ((2 ^ IntKind.i64.bits : Nat) : Int)).toNat = 2 ^ 16 - 1 := by decide
    rw [this, Nat.and_two_pow_sub_one_eq_mod]
    have : (2 ^ IntKind.i64.bits : Nat) = 18446744073709551616 := by decide
    rw [this]; omega
  rw [h1]
  exact wr64 rfl (by omega) (by omega)
theorem and1 {a : Int} {c : Nat} (h : a % 2 = (c : Int)) : IntKind.i64.wrap ((BitVec.ofInt IntKind.i64.bits a &&& BitVec.ofInt IntKind.i64.bits 1).toNat : Int) = (c : Int) := by
  have h1 : (BitVec.ofInt IntKind.i64.bits a &&& BitVec.ofInt IntKind.i64.bits 1).toNat = c := by
    rw [BitVec.toNat_and, BitVec.toNat_ofInt, BitVec.toNat_ofInt]
    have : ((1 : Int) % ((2 ^ IntKind.i64.bits : Nat) : Int)).toNat = 2 ^ 1 - 1 := by decide
    rw [this, Nat.and_two_pow_sub_one_eq_mod]
    have : (2 ^ IntKind.i64.bits : Nat) = 18446744073709551616 := by decide
    rw [this]; omega
  rw [h1]
  exact wr64 rfl (by omega) (by omega)
theorem shr16 {a c : Int} (h : a / 65536 = c) : a.fdiv (2 ^ (min (Int.toNat 16) IntKind.i64.bits)) = c := by
  have : (2 : Int) ^ (min (Int.toNat 16) IntKind.i64.bits) = 65536 := by decide
  rw [this, Int.fdiv_eq_ediv_of_nonneg _ (by decide), h]
theorem row_owni {h : Heap} {g e : Nat} {cur : List Nat} (hg : h g = some (.cells (is cur).toArray e (0, 0))) : Row h (some ⟨g, 0, none⟩) (is cur) :=
  .inr ⟨g, 0, _, e, _, rfl, hg, fun j hj => by simp [is]⟩
/-- A number with zeros at the end. -/
theorem padded {n M : Nat} (hM : bz n ≤ M) : ∃ l, l.length = M ∧ Low B l ∧ val B l = n ∧ ∀ i, (dig B n).getD i 0 = l.getD i 0 := by
  have hd : (dig B n).length = bz n := rfl
  refine ⟨dig B n ++ List.replicate (M - (dig B n).length) 0, by simp; omega, low_append.2 ⟨low_dig b2 n, low_zeros (by decide) _⟩, by rw [val_append, val_zeros, Nat.mul_zero, Nat.add_zero, val_dig b2], fun i => ?_⟩
  rw [List.getD_eq_getElem?_getD, List.getD_eq_getElem?_getD, List.getElem?_append]
  split
  · rfl
  · rename_i hi
    rw [List.getElem?_eq_none (Nat.le_of_not_lt hi), List.getElem?_replicate]
    split <;> rfl
/-- Words of one's own, which grow. -/
def Ow (hA h : Heap) (v : Value) (ds : List Nat) : Prop := Own hA h 3 1 v ds.length (is ds)
theorem Ow.of_snoc {hA h : Heap} {v : Value} {ds : List Nat} {d : Nat} (H : Own hA h 3 1 v (ds.length + 1) (is ds ++ [.int .i64 (d : Int)])) : Ow hA h v (ds ++ [d]) := by
  unfold Ow; rw [is_snoc, List.length_append]; exact H
theorem Ow.lit0 {hA h : Heap} {g : Nat} (hA0 : hA g = none) : Ow hA (h.upd g (.cells #[] 3 (0, 0))) (.slice (some ⟨g, 0, none⟩) 0 0) [] := Own.lit (cs := #[]) hA0 (by decide) rfl
theorem Ow.mono {hA h h' : Heap} {v : Value} {ds : List Nat} (hle : Le h h') (H : Ow hA h v ds) : Ow hA h' v ds := Own.mono H hle fun _ _ e => e
theorem Ow.row {hA h : Heap} {v : Value} {ds : List Nat} (H : Ow hA h v ds) : ∃ A c, v = .slice A ds.length c ∧ ds.length ≤ c ∧ Row h A (is ds) := Own.row H
theorem vsnoc (l : List Nat) (d : Nat) : val B (l ++ [d]) = val B l + B ^ l.length * d := by rw [val_append]; simp [val]
theorem low_snoc {l : List Nat} {d : Nat} (h : Low B l) (hd : d < B) : Low B (l ++ [d]) := low_append.2 ⟨h, fun x hx => by rw [List.mem_singleton.1 hx]; exact hd⟩
theorem plus_step {P V X Y ov ov' d ai bi : Nat} (h1 : V + P * ov = X + Y) (h2 : d + B * ov' = ov + (ai + bi)) : V + P * d + P * B * ov' = (X + P * ai) + (Y + P * bi) := by
  have h3 : P * (d + B * ov') = P * (ov + (ai + bi)) := by rw [h2]
  rw [Nat.mul_add, Nat.mul_add, Nat.mul_add, ← Nat.mul_assoc] at h3
  omega
theorem minus_step {P V X Y c c' d ai bi : Nat} (h1 : V + Y = X + P * c) (h2 : d + bi + c = ai + B * c') : V + P * d + (Y + P * bi) = (X + P * ai) + P * B * c' := by
  have h3 : P * (d + bi + c) = P * (ai + B * c') := by rw [h2]
  rw [Nat.mul_add, Nat.mul_add, Nat.mul_add, ← Nat.mul_assoc] at h3
  omega
theorem half_step {P V X z xi xj d : Nat} (h1 : 2 * V + z = X + P * (xi % 2)) (h2 : 2 * d + xi % 2 = xi + B * (xj % 2)) : 2 * (V + P * d) + z = (X + P * xi) + P * B * (xj % 2) := by
  have h3 : P * (2 * d + xi % 2) = P * (xi + B * (xj % 2)) := by rw [h2]
  rw [Nat.mul_add, Nat.mul_add, ← Nat.mul_assoc, ← Nat.mul_assoc, Nat.mul_comm P 2, Nat.mul_assoc] at h3
  omega
theorem times_step {P Pi Pj V V' V0 T z d ov ov' xi yj : Nat} (hP : P = Pi * Pj) (h5 : V' + P * z = V + P * d) (h2 : d + B * ov' = ov + (z + xi * yj)) (hval : V + P * ov = V0 + Pi * (xi * T)) :
    V' + P * B * ov' = V0 + Pi * (xi * (T + Pj * yj)) := by
  have h3 : P * (d + B * ov') = P * (ov + (z + xi * yj)) := by rw [h2]
  rw [Nat.mul_add, Nat.mul_add, Nat.mul_add, ← Nat.mul_assoc] at h3
  have h4 : Pi * (xi * (T + Pj * yj)) = Pi * (xi * T) + P * (xi * yj) := by
    rw [Nat.mul_add, Nat.mul_add, hP, Nat.mul_assoc, Nat.mul_left_comm xi]
  omega
section
variable {h : Heap}
theorem plus_c {x y : Value} {a b : Nat} (hx : Bg h x a) (hy : Bg h y b) (hb : bz a + bz b < 1099511627) : CallGo Tryz.prog 118 #[x, y] h NoX fun v h' => Bg h' v (a + b) := by
  obtain ⟨A, ca, rfl, hca, hra⟩ := hx.open
  obtain ⟨C, cb, rfl, hcb, hrb⟩ := hy.open
  have hda : (dig B a).length = bz a := rfl
  have hdb : (dig B b).length = bz b := rfl
  obtain ⟨M, hM⟩ : ∃ M, max (bz a) (bz b) = M := ⟨_, rfl⟩
  obtain ⟨la, la1, la2, la3, la4⟩ := padded (show bz a ≤ M by omega)
  obtain ⟨lb, lb1, lb2, lb3, lb4⟩ := padded (show bz b ≤ M by omega)
  refine v_fn tb k118 [.slice A (bz a) ca, .slice C (bz b) cb] rfl ?_
  conv => whnf
  refine eO_lits [] u31 s3 z3 (by decide) rfl rfl (fun v hv => by cases hv) fun g hg => ?_
  conv => whnf
  refine LoopV.by (α := List Nat × Value × Nat × Nat) (fun x => [(0, .v (.slice A (bz a) ca)), (1, .v (.slice C (bz b) cb)), (4, .v (.slice none 0 0)), (5, .v x.2.1), (6, .v (.int .i64 (x.2.2.1 : Nat))), (7, .v (.int .i64 (x.2.2.2 : Nat)))]) (fun _ => [])
    (fun x h' => Ow h h' x.2.1 x.1 ∧ Le h h' ∧ Low B x.1 ∧ x.1.length = x.2.2.2 ∧ x.2.2.2 ≤ M ∧ x.2.2.1 ≤ 1 ∧ val B x.1 + B ^ x.2.2.2 * x.2.2.1 = val B (la.take x.2.2.2) + val B (lb.take x.2.2.2)) (fun x => M - x.2.2.2) ([], .slice (some ⟨g, 0, none⟩) 0 0, 0, 0)
    ⟨rfl, rfl, rfl, rfl, rfl, rfl, rfl, rfl, rfl, rfl, rfl, rfl, trivial⟩ trivial ⟨Ow.lit0 hg, Le.upd hg, low_nil _, rfl, Nat.zero_le _, Nat.zero_le _, by simp [val]⟩ ?_
  rintro ⟨ds, z, ov, i⟩ h1 ⟨hown, hle1, hlow, hlen, hi, hov, hval⟩
  dsimp only at hown hle1 hlow hlen hi hov hval
  dsimp only
  conv => whnf
  refine pO_max rfl rfl ((M : Int)) (by split <;> omega) ?_
  conv => whnf
  rcases Nat.lt_or_ge i M with hin | hin
  · refine pO_lss rfl rfl (true) (decide_eq_true (by omega)) ?_
    conv => whnf
    refine CallsO.go (word_c (i := i) (hra.mono hle1) hda) ?_
    rintro v1 h2 hle2 ⟨rfl, rfl⟩
    conv => whnf
    refine CallsO.go (word_c (i := i) (hrb.mono hle1) hdb) ?_
    rintro v2 h3 hle3 ⟨rfl, rfl⟩
    conv => whnf
    rw [la4 i, lb4 i]
    have hai := low_getD (b := B) (by decide) la2 i
    have hbi := low_getD (b := B) (by decide) lb2 i
    have hta := val_take_succ B la i
    have htb := val_take_succ B lb i
    generalize la.getD i 0 = ai at *
    generalize lb.getD i 0 = bi at *
    simp only [B] at hai hbi
    refine pO_add rfl rfl (((ai + bi : Nat) : Int)) (wr64 (by omega) (by omega) (by omega)) ?_
    conv => whnf
    refine pO_add rfl rfl (((ov + (ai + bi) : Nat) : Int)) (wr64 (by omega) (by omega) (by omega)) ?_
    conv => whnf
    refine pO_and rfl rfl ((((ov + (ai + bi)) % 65536 : Nat) : Int)) (and16 (by omega)) ?_
    conv => whnf
    refine eO_lits [.int .i64 (((ov + (ai + bi)) % 65536 : Nat) : Int)] u31 s3 z3 (by decide) rfl rfl (fun v hv => by rw [List.mem_singleton.1 hv]; rfl) fun g2 hg2 => ?_
    conv => whnf
    have hownC := Ow.mono (Le.upd (o := .cells (List.flatMap (fun v => v.cells.toList) [Value.int .i64 (((ov + (ai + bi)) % 65536 : Nat) : Int)]).toArray 3 (0, 0)) hg2) hown
    refine eO_append (hA := h) (news := [.int .i64 (((ov + (ai + bi)) % 65536 : Nat) : Int)]) rfl (Le.refl _) (hle1.trans (Le.upd hg2)) u31 e3 rfl (by decide) rfl hownC rfl (by decide) rfl (row_v (n := 1) (Heap.upd_same _ _ _) rfl (by simp [Value.cells])) (fun u hu => by rw [List.mem_singleton.1 hu]; rfl) (by omega) fun v' h5 hown5 hle5 => ?_
    replace hown5 := Ow.of_snoc hown5
    conv => whnf
    refine pO_shr rfl rfl (by decide) ((((ov + (ai + bi)) / 65536 : Nat) : Int)) (shr16 (by omega)) ?_
    conv => whnf
    refine pO_add rfl rfl (((i + 1 : Nat) : Int)) (wr64 (by omega) (by omega) (by omega)) ?_
    conv => whnf
    refine RoundO.go ⟨(ds ++ [(ov + (ai + bi)) % 65536], v', (ov + (ai + bi)) / 65536, i + 1), ⟨rfl, rfl, rfl, rfl, rfl, rfl, rfl, rfl, rfl, rfl, rfl, rfl, trivial⟩, trivial, ⟨hown5, hle5, low_snoc hlow (Nat.mod_lt _ (by decide)), by simp [hlen], hin, by dsimp only; omega, ?_⟩, by dsimp only; omega⟩
    dsimp only
    rw [hta, htb, vsnoc, hlen, Nat.pow_succ]
    exact plus_step hval (by have := Nat.mod_add_div (ov + (ai + bi)) 65536; simp only [B]; omega)
  · refine pO_lss rfl rfl (false) (decide_eq_false (by omega)) ?_
    conv => whnf
    obtain rfl : i = M := by omega
    rw [List.take_of_length_le (by omega), List.take_of_length_le (by omega), la3, lb3] at hval
    refine eO_lits [.int .i64 ((ov : Nat) : Int)] u31 s3 z3 (by decide) rfl rfl (fun v hv => by rw [List.mem_singleton.1 hv]; rfl) fun g2 hg2 => ?_
    conv => whnf
    have hownC := Ow.mono (Le.upd (o := .cells (List.flatMap (fun v => v.cells.toList) [Value.int .i64 ((ov : Nat) : Int)]).toArray 3 (0, 0)) hg2) hown
    refine eO_append (hA := h) (news := [.int .i64 ((ov : Nat) : Int)]) rfl (Le.refl _) (hle1.trans (Le.upd hg2)) u31 e3 rfl (by decide) rfl hownC rfl (by decide) rfl (row_v (n := 1) (Heap.upd_same _ _ _) rfl (by simp [Value.cells])) (fun u hu => by rw [List.mem_singleton.1 hu]; rfl) (by omega) fun v' h5 hown5 hle5 => ?_
    replace hown5 := Ow.of_snoc hown5
    conv => whnf
    obtain ⟨D, cd, rfl, hcd, hrow⟩ := hown5.row
    refine CallsO.go (bcut_c hrow rfl hcd (by simp; omega)) ?_
    rintro v6 h6 hle6 hv
    conv => whnf
    refine EndO.go ?_
    rw [← hval, ← hlen, ← vsnoc]
    exact Bg.of (low_snoc hlow (by simp only [B]; omega)) hv
theorem minus_c {x y : Value} {a b : Nat} (hx : Bg h x a) (hy : Bg h y b) (hab : b ≤ a) (hb : bz a + bz b < 1099511627) : CallGo Tryz.prog 127 #[x, y] h NoX fun v h' => Bg h' v (a - b) := by
  obtain ⟨A, ca, rfl, hca, hra⟩ := hx.open
  obtain ⟨C, cb, rfl, hcb, hrb⟩ := hy.open
  have hda : (dig B a).length = bz a := rfl
  have hdb : (dig B b).length = bz b := rfl
  have hmn := bz_mono hab
  obtain ⟨lb, lb1, lb2, lb3, lb4⟩ := padded hmn
  have hva := val_dig b2 a
  have hla := low_dig b2 a
  refine v_fn tb k127 [.slice A (bz a) ca, .slice C (bz b) cb] rfl ?_
  conv => whnf
  refine eO_lits [] u31 s3 z3 (by decide) rfl rfl (fun v hv => by cases hv) fun g hg => ?_
  conv => whnf
  refine LoopV.by (α := List Nat × Value × Nat × Nat) (fun x => [(0, .v (.slice A (bz a) ca)), (1, .v (.slice C (bz b) cb)), (4, .v (.slice none 0 0)), (5, .v x.2.1), (6, .v (.int .i64 (-((x.2.2.1 : Nat) : Int)))), (7, .v (.int .i64 (x.2.2.2 : Nat)))]) (fun _ => [])
    (fun x h' => Ow h h' x.2.1 x.1 ∧ Le h h' ∧ Low B x.1 ∧ x.1.length = x.2.2.2 ∧ x.2.2.2 ≤ bz a ∧ x.2.2.1 ≤ 1 ∧ val B x.1 + val B (lb.take x.2.2.2) = val B ((dig B a).take x.2.2.2) + B ^ x.2.2.2 * x.2.2.1) (fun x => bz a - x.2.2.2) ([], .slice (some ⟨g, 0, none⟩) 0 0, 0, 0)
    ⟨rfl, rfl, rfl, rfl, rfl, rfl, rfl, rfl, rfl, rfl, rfl, rfl, trivial⟩ trivial ⟨Ow.lit0 hg, Le.upd hg, low_nil _, rfl, Nat.zero_le _, Nat.zero_le _, by simp [val]⟩ ?_
  rintro ⟨ds, z, ov, i⟩ h1 ⟨hown, hle1, hlow, hlen, hi, hov, hval⟩
  dsimp only at hown hle1 hlow hlen hi hov hval
  dsimp only
  conv => whnf
  rcases Nat.lt_or_ge i (bz a) with hin | hin
  · refine pO_lss rfl rfl (true) (decide_eq_true (by omega)) ?_
    conv => whnf
    refine pO_atN u31 s3 rfl rfl (hra.mono hle1) (is_length _) (is_get _ i (by omega)) fun pAt hAt => ?_
    conv => whnf
    refine lO_at hAt ?_
    conv => whnf
    refine CallsO.go (word_c (i := i) (hrb.mono hle1) hdb) ?_
    rintro v2 h3 hle3 ⟨rfl, rfl⟩
    conv => whnf
    rw [lb4 i]
    have hai := low_getD (b := B) (by decide) hla i
    have hbi := low_getD (b := B) (by decide) lb2 i
    have hta := val_take_succ B (dig B a) i
    have htb := val_take_succ B lb i
    generalize (dig B a).getD i 0 = ai at *
    generalize lb.getD i 0 = bi at *
    simp only [B] at hai hbi
    obtain ⟨c', d, hd, hdl, hc⟩ : ∃ c' d : Nat, d + bi + ov = ai + 65536 * c' ∧ d < 65536 ∧ c' ≤ 1 := by
      rcases Nat.lt_or_ge ai (bi + ov) with h9 | h9
      · exact ⟨1, ai + 65536 - (bi + ov), by omega, by omega, by omega⟩
      · exact ⟨0, ai - (bi + ov), by omega, by omega, by omega⟩
    refine pO_sub rfl rfl (((ai : Int) - bi)) (wr64 (by omega) (by omega) (by omega)) ?_
    conv => whnf
    refine pO_add rfl rfl (((d : Int) - 65536 * c')) (wr64 (by omega) (by omega) (by omega)) ?_
    conv => whnf
    refine pO_and rfl rfl (((d : Nat) : Int)) (and16 (by omega)) ?_
    conv => whnf
    refine eO_lits [.int .i64 ((d : Nat) : Int)] u31 s3 z3 (by decide) rfl rfl (fun v hv => by rw [List.mem_singleton.1 hv]; rfl) fun g2 hg2 => ?_
    conv => whnf
    have hownC := Ow.mono (Le.upd (o := .cells (List.flatMap (fun v => v.cells.toList) [Value.int .i64 ((d : Nat) : Int)]).toArray 3 (0, 0)) hg2) hown
    refine eO_append (hA := h) (news := [.int .i64 ((d : Nat) : Int)]) rfl (Le.refl _) (hle1.trans (Le.upd hg2)) u31 e3 rfl (by decide) rfl hownC rfl (by decide) rfl (row_v (n := 1) (Heap.upd_same _ _ _) rfl (by simp [Value.cells])) (fun u hu => by rw [List.mem_singleton.1 hu]; rfl) (by omega) fun v' h5 hown5 hle5 => ?_
    replace hown5 := Ow.of_snoc hown5
    conv => whnf
    refine pO_shr rfl rfl (by decide) ((-((c' : Nat) : Int))) (shr16 (by omega)) ?_
    conv => whnf
    refine pO_add rfl rfl (((i + 1 : Nat) : Int)) (wr64 (by omega) (by omega) (by omega)) ?_
    conv => whnf
    refine RoundO.go ⟨(ds ++ [d], v', c', i + 1), ⟨rfl, rfl, rfl, rfl, rfl, rfl, rfl, rfl, rfl, rfl, rfl, rfl, trivial⟩, trivial, ⟨hown5, hle5, low_snoc hlow hdl, by simp [hlen], hin, hc, ?_⟩, by dsimp only; omega⟩
    dsimp only
    rw [hta, htb, vsnoc, hlen, Nat.pow_succ]
    exact minus_step hval hd
  · refine pO_lss rfl rfl (false) (decide_eq_false (by omega)) ?_
    conv => whnf
    obtain rfl : i = bz a := by omega
    rw [List.take_of_length_le (by omega), List.take_of_length_le (by omega), hva, lb3] at hval
    obtain ⟨D, cd, rfl, hcd, hrow⟩ := hown.row
    have hlt := val_lt hlow
    rw [hlen] at hlt
    have hz : val B ds = a - b := by
      rcases Nat.eq_zero_or_pos ov with h0 | h0
      · rw [h0, Nat.mul_zero] at hval; omega
      · obtain rfl : ov = 1 := by omega
        omega
    refine CallsO.go (bcut_c hrow rfl hcd (by simp; omega)) ?_
    rintro v6 h6 hle6 hv
    conv => whnf
    refine EndO.go ?_
    rw [← hz]
    exact Bg.of hlow hv
theorem u146 : Tryz.prog.underlying 146 = some (.int .u64) := by kernel_rfl
theorem shrN {a k : Nat} (hk : k < 64) : (a : Int).fdiv (2 ^ (min (Int.toNat (k : Int)) IntKind.i64.bits)) = ((a / 2 ^ k : Nat) : Int) := by
  have h1 : min (Int.toNat (k : Int)) IntKind.i64.bits = k := by
    have : IntKind.i64.bits = 64 := rfl
    rw [this]; omega
  rw [h1, Int.fdiv_eq_ediv_of_nonneg _ (Int.le_of_lt (Int.pow_pos (by decide)))]
  simp
theorem or15 {a t : Nat} (ha : a < 32768) (ht : t ≤ 1) : IntKind.i64.wrap ((BitVec.ofInt IntKind.i64.bits (a : Int) ||| BitVec.ofInt IntKind.i64.bits ((32768 * t : Nat) : Int)).toNat : Int) = ((a + 32768 * t : Nat) : Int) := by
  have h1 : (BitVec.ofInt IntKind.i64.bits (a : Int) ||| BitVec.ofInt IntKind.i64.bits ((32768 * t : Nat) : Int)).toNat = a + 32768 * t := by
    rw [BitVec.toNat_or, BitVec.toNat_ofInt, BitVec.toNat_ofInt]
    have h2 : (2 ^ IntKind.i64.bits : Nat) = 18446744073709551616 := by decide
    rw [h2]
    have h3 : ((a : Int) % ((18446744073709551616 : Nat) : Int)).toNat = a := by omega
    have h4 : (((32768 * t : Nat) : Int) % ((18446744073709551616 : Nat) : Int)).toNat = 32768 * t := by omega
    rw [h3, h4, Nat.or_comm, Nat.add_comm]
    exact (Nat.two_pow_add_eq_or_of_lt (i := 15) (by omega) t).symm
  rw [h1]
  exact wr64 rfl (by omega) (by omega)
/-- A bit. -/
theorem bit_c {x : Value} {a i : Nat} (hx : Bg h x a) (hb : bz a < 1099511627) (hi : i < 1152921504606846976) : CallGo Tryz.prog 170 #[x, .int .i64 i] h NoX fun v h' => h' = h ∧ v = .int .i64 ((a / 2 ^ i % 2 : Nat) : Int) := by
  obtain ⟨A, ca, rfl, hca, hra⟩ := hx.open
  refine v_fn tb k170 [.slice A (bz a) ca, .int .i64 i] rfl ?_
  conv => whnf
  refine pO_quo rfl rfl (by decide) (((i / 16 : Nat) : Int)) (wr64 (by rw [Int.tdiv_eq_ediv_of_nonneg (by omega)]; omega) (by omega) (by omega)) ?_
  conv => whnf
  refine CallsO.go (word_c (i := i / 16) hra rfl) ?_
  rintro v2 h3 hle3 ⟨rfl, rfl⟩
  conv => whnf
  refine pO_rem rfl rfl (by decide) (((i % 16 : Nat) : Int)) (by rw [Int.tmod_eq_emod_of_nonneg (by omega)]; omega) ?_
  conv => whnf
  refine pO_conv (by rfl) u146 rfl ((i % 16 : Nat) : Int) (wru64 rfl (by omega) (by omega)) ?_
  conv => whnf
  refine pO_shr rfl rfl ((by omega)) ((((dig B a).getD (i / 16) 0 / 2 ^ (i % 16) : Nat) : Int)) (shrN (by omega)) ?_
  conv => whnf
  refine pO_and rfl rfl (((a / 2 ^ i % 2 : Nat) : Int)) (and1 (by have := val_bit (low_dig b2 a) i; rw [val_dig b2 a] at this; rw [this]; omega)) ?_
  conv => whnf
  exact EndO.go ⟨rfl, rfl⟩
theorem double_c {x : Value} {a b : Nat} (hx : Bg h x a) (hbb : b ≤ 1) (hb : bz a < 1099511627) : CallGo Tryz.prog 169 #[x, .int .i64 b] h NoX fun v h' => Bg h' v (2 * a + b) := by
  obtain ⟨A, ca, rfl, hca, hra⟩ := hx.open
  have hda : (dig B a).length = bz a := rfl
  have hva := val_dig b2 a
  have hla := low_dig b2 a
  refine v_fn tb k169 [.slice A (bz a) ca, .int .i64 b] rfl ?_
  conv => whnf
  refine eO_lits [] u31 s3 z3 (by decide) rfl rfl (fun v hv => by cases hv) fun g hg => ?_
  conv => whnf
  refine LoopV.by (α := List Nat × Value × Nat × Nat) (fun x => [(0, .v (.slice A (bz a) ca)), (4, .v (.slice none 0 0)), (5, .v x.2.1), (6, .v (.int .i64 (x.2.2.1 : Nat))), (7, .v (.int .i64 (x.2.2.2 : Nat)))]) (fun _ => [])
    (fun x h' => Ow h h' x.2.1 x.1 ∧ Le h h' ∧ Low B x.1 ∧ x.1.length = x.2.2.2 ∧ x.2.2.2 ≤ bz a ∧ x.2.2.1 ≤ 1 ∧ val B x.1 + B ^ x.2.2.2 * x.2.2.1 = 2 * val B ((dig B a).take x.2.2.2) + b) (fun x => bz a - x.2.2.2) ([], .slice (some ⟨g, 0, none⟩) 0 0, b, 0)
    ⟨rfl, rfl, rfl, rfl, rfl, rfl, rfl, rfl, rfl, rfl, trivial⟩ trivial ⟨Ow.lit0 hg, Le.upd hg, low_nil _, rfl, Nat.zero_le _, hbb, by simp [val]⟩ ?_
  rintro ⟨ds, z, ov, i⟩ h1 ⟨hown, hle1, hlow, hlen, hi, hov, hval⟩
  dsimp only at hown hle1 hlow hlen hi hov hval
  dsimp only
  conv => whnf
  rcases Nat.lt_or_ge i (bz a) with hin | hin
  · refine pO_lss rfl rfl (true) (decide_eq_true (by omega)) ?_
    conv => whnf
    refine pO_atN u31 s3 rfl rfl (hra.mono hle1) (is_length _) (is_get _ i (by omega)) fun pAt hAt => ?_
    conv => whnf
    refine lO_at hAt ?_
    conv => whnf
    have hai := low_getD (b := B) (by decide) hla i
    have hta := val_take_succ B (dig B a) i
    generalize (dig B a).getD i 0 = ai at *
    simp only [B] at hai
    refine pO_mul rfl rfl (((2 * ai : Nat) : Int)) (wr64 (by omega) (by omega) (by omega)) ?_
    conv => whnf
    refine pO_add rfl rfl (((ov + 2 * ai : Nat) : Int)) (wr64 (by omega) (by omega) (by omega)) ?_
    conv => whnf
    refine pO_and rfl rfl ((((ov + 2 * ai) % 65536 : Nat) : Int)) (and16 (by omega)) ?_
    conv => whnf
    refine eO_lits [.int .i64 (((ov + 2 * ai) % 65536 : Nat) : Int)] u31 s3 z3 (by decide) rfl rfl (fun v hv => by rw [List.mem_singleton.1 hv]; rfl) fun g2 hg2 => ?_
    conv => whnf
    have hownC := Ow.mono (Le.upd (o := .cells (List.flatMap (fun v => v.cells.toList) [Value.int .i64 (((ov + 2 * ai) % 65536 : Nat) : Int)]).toArray 3 (0, 0)) hg2) hown
    refine eO_append (hA := h) (news := [.int .i64 (((ov + 2 * ai) % 65536 : Nat) : Int)]) rfl (Le.refl _) (hle1.trans (Le.upd hg2)) u31 e3 rfl (by decide) rfl hownC rfl (by decide) rfl (row_v (n := 1) (Heap.upd_same _ _ _) rfl (by simp [Value.cells])) (fun u hu => by rw [List.mem_singleton.1 hu]; rfl) (by omega) fun v' h5 hown5 hle5 => ?_
    replace hown5 := Ow.of_snoc hown5
    conv => whnf
    refine pO_shr rfl rfl (by decide) ((((ov + 2 * ai) / 65536 : Nat) : Int)) (shr16 (by omega)) ?_
    conv => whnf
    refine pO_add rfl rfl (((i + 1 : Nat) : Int)) (wr64 (by omega) (by omega) (by omega)) ?_
    conv => whnf
    refine RoundO.go ⟨(ds ++ [(ov + 2 * ai) % 65536], v', (ov + 2 * ai) / 65536, i + 1), ⟨rfl, rfl, rfl, rfl, rfl, rfl, rfl, rfl, rfl, rfl, trivial⟩, trivial, ⟨hown5, hle5, low_snoc hlow (Nat.mod_lt _ (by decide)), by simp [hlen], hin, by dsimp only; omega, ?_⟩, by dsimp only; omega⟩
    dsimp only
    rw [hta, vsnoc, hlen, Nat.pow_succ]
    have h9 := plus_step (X := 2 * val B ((dig B a).take i)) (Y := b) (ai := 2 * ai) (bi := 0) (d := (ov + 2 * ai) % 65536) (ov' := (ov + 2 * ai) / 65536) hval (by have := Nat.mod_add_div (ov + 2 * ai) 65536; simp only [B]; omega)
    have h10 : B ^ i * (2 * ai) = 2 * (B ^ i * ai) := Nat.mul_left_comm _ _ _
    omega
  · refine pO_lss rfl rfl (false) (decide_eq_false (by omega)) ?_
    conv => whnf
    obtain rfl : i = bz a := by omega
    rw [List.take_of_length_le (by omega), hva] at hval
    refine eO_lits [.int .i64 ((ov : Nat) : Int)] u31 s3 z3 (by decide) rfl rfl (fun v hv => by rw [List.mem_singleton.1 hv]; rfl) fun g2 hg2 => ?_
    conv => whnf
    have hownC := Ow.mono (Le.upd (o := .cells (List.flatMap (fun v => v.cells.toList) [Value.int .i64 ((ov : Nat) : Int)]).toArray 3 (0, 0)) hg2) hown
    refine eO_append (hA := h) (news := [.int .i64 ((ov : Nat) : Int)]) rfl (Le.refl _) (hle1.trans (Le.upd hg2)) u31 e3 rfl (by decide) rfl hownC rfl (by decide) rfl (row_v (n := 1) (Heap.upd_same _ _ _) rfl (by simp [Value.cells])) (fun u hu => by rw [List.mem_singleton.1 hu]; rfl) (by omega) fun v' h5 hown5 hle5 => ?_
    replace hown5 := Ow.of_snoc hown5
    conv => whnf
    obtain ⟨D, cd, rfl, hcd, hrow⟩ := hown5.row
    refine CallsO.go (bcut_c hrow rfl hcd (by simp; omega)) ?_
    rintro v6 h6 hle6 hv
    conv => whnf
    refine EndO.go ?_
    rw [← hval, ← hlen, ← vsnoc]
    exact Bg.of (low_snoc hlow (by simp only [B]; omega)) hv
theorem half_c {x : Value} {a : Nat} (hx : Bg h x a) (hb : bz a < 1099511627) : CallGo Tryz.prog 157 #[x] h NoX fun v h' => Bg h' v (a / 2) := by
  obtain ⟨A, ca, rfl, hca, hra⟩ := hx.open
  have hda : (dig B a).length = bz a := rfl
  have hva := val_dig b2 a
  have hla := low_dig b2 a
  refine v_fn tb k157 [.slice A (bz a) ca] rfl ?_
  conv => whnf
  refine eO_lits [] u31 s3 z3 (by decide) rfl rfl (fun v hv => by cases hv) fun g hg => ?_
  conv => whnf
  have hap : (dig B a).getD 0 0 % 2 = a % 2 := by
    have h1 := val_take_succ B (dig B a) 0
    have h2 := val_bit (low_dig b2 a) 0
    rw [val_dig b2 a] at h2
    simpa using h2.symm
  refine LoopV.by (α := List Nat × Value × Nat) (fun x => [(0, .v (.slice A (bz a) ca)), (2, .v (.slice none 0 0)), (3, .v x.2.1), (4, .v (.int .i64 (x.2.2 : Nat)))]) (fun _ => [])
    (fun x h' => Ow h h' x.2.1 x.1 ∧ Le h h' ∧ Low B x.1 ∧ x.1.length = x.2.2 ∧ x.2.2 ≤ bz a ∧ 2 * val B x.1 + a % 2 = val B ((dig B a).take x.2.2) + B ^ x.2.2 * ((dig B a).getD x.2.2 0 % 2)) (fun x => bz a - x.2.2) ([], .slice (some ⟨g, 0, none⟩) 0 0, 0)
    ⟨rfl, rfl, rfl, rfl, rfl, rfl, rfl, rfl, trivial⟩ trivial ⟨Ow.lit0 hg, Le.upd hg, low_nil _, rfl, Nat.zero_le _, by simp [val]; exact hap.symm⟩ ?_
  rintro ⟨ds, z, i⟩ h1 ⟨hown, hle1, hlow, hlen, hi, hval⟩
  dsimp only at hown hle1 hlow hlen hi hval
  dsimp only
  conv => whnf
  rcases Nat.lt_or_ge i (bz a) with hin | hin
  · refine pO_lss rfl rfl (true) (decide_eq_true (by omega)) ?_
    conv => whnf
    refine pO_atN u31 s3 rfl rfl (hra.mono hle1) (is_length _) (is_get _ i (by omega)) fun pAt hAt => ?_
    conv => whnf
    refine lO_at hAt ?_
    conv => whnf
    have hai := low_getD (b := B) (by decide) hla i
    have hta := val_take_succ B (dig B a) i
    generalize (dig B a).getD i 0 = ai at *
    refine pO_shr rfl rfl (by decide) (((ai / 2 : Nat) : Int)) (shrN (k := 1) (by decide)) ?_
    conv => whnf
    refine pO_add rfl rfl (((i + 1 : Nat) : Int)) (wr64 (by omega) (by omega) (by omega)) ?_
    conv => whnf
    refine CallsO.go (word_c (i := i + 1) (hra.mono hle1) hda) ?_
    rintro v2 h3 hle3 ⟨rfl, rfl⟩
    conv => whnf
    have hbi := low_getD (b := B) (by decide) hla (i + 1)
    generalize hbe : (dig B a).getD (i + 1) 0 = bi at *
    simp only [B] at hai hbi
    refine pO_and rfl rfl (((bi % 2 : Nat) : Int)) (and1 (by omega)) ?_
    conv => whnf
    refine pO_shl rfl rfl (by decide) (((32768 * (bi % 2) : Nat) : Int)) (wr64 (by rw [show (2 : Int) ^ (min (Int.toNat 15) IntKind.i64.bits) = 32768 by decide]; omega) (by omega) (by omega)) ?_
    conv => whnf
    refine pO_or rfl rfl (((ai / 2 + 32768 * (bi % 2) : Nat) : Int)) (or15 (by omega) (by omega)) ?_
    conv => whnf
    refine eO_lits [.int .i64 ((ai / 2 + 32768 * (bi % 2) : Nat) : Int)] u31 s3 z3 (by decide) rfl rfl (fun v hv => by rw [List.mem_singleton.1 hv]; rfl) fun g2 hg2 => ?_
    conv => whnf
    have hownC := Ow.mono (Le.upd (o := .cells (List.flatMap (fun v => v.cells.toList) [Value.int .i64 ((ai / 2 + 32768 * (bi % 2) : Nat) : Int)]).toArray 3 (0, 0)) hg2) hown
    refine eO_append (hA := h) (news := [.int .i64 ((ai / 2 + 32768 * (bi % 2) : Nat) : Int)]) rfl (Le.refl _) (hle1.trans (Le.upd hg2)) u31 e3 rfl (by decide) rfl hownC rfl (by decide) rfl (row_v (n := 1) (Heap.upd_same _ _ _) rfl (by simp [Value.cells])) (fun u hu => by rw [List.mem_singleton.1 hu]; rfl) (by omega) fun v' h5 hown5 hle5 => ?_
    replace hown5 := Ow.of_snoc hown5
    conv => whnf
    refine pO_add rfl rfl (((i + 1 : Nat) : Int)) (wr64 (by omega) (by omega) (by omega)) ?_
    conv => whnf
    refine RoundO.go ⟨(ds ++ [ai / 2 + 32768 * (bi % 2)], v', i + 1), ⟨rfl, rfl, rfl, rfl, rfl, rfl, rfl, rfl, trivial⟩, trivial, ⟨hown5, hle5, low_snoc hlow (by simp only [B]; omega), by simp [hlen], hin, ?_⟩, by dsimp only; omega⟩
    dsimp only
    rw [hta, hbe, vsnoc, hlen, Nat.pow_succ]
    exact half_step hval (by simp only [B]; omega)
  · refine pO_lss rfl rfl (false) (decide_eq_false (by omega)) ?_
    conv => whnf
    obtain rfl : i = bz a := by omega
    rw [List.take_of_length_le (by omega), hva, getD_len (by omega), Nat.zero_mod, Nat.mul_zero] at hval
    obtain ⟨D, cd, rfl, hcd, hrow⟩ := hown.row
    have hz : val B ds = a / 2 := by omega
    refine CallsO.go (bcut_c hrow rfl hcd (by omega)) ?_
    rintro v6 h6 hle6 hv
    conv => whnf
    refine EndO.go ?_
    rw [← hz]
    exact Bg.of hlow hv
theorem times_c {x y : Value} {a b : Nat} (hx : Bg h x a) (hy : Bg h y b) (hb : bz a + bz b < 1099511627) : CallGo Tryz.prog 117 #[x, y] h NoX fun v h' => Bg h' v (a * b) := by
  obtain ⟨A, ca, rfl, hca, hra⟩ := hx.open
  obtain ⟨C, cb, rfl, hcb, hrb⟩ := hy.open
  have hda : (dig B a).length = bz a := rfl
  have hdb : (dig B b).length = bz b := rfl
  have hva := val_dig b2 a
  have hvb := val_dig b2 b
  have hla := low_dig b2 a
  have hlb := low_dig b2 b
  refine v_fn tb k117 [.slice A (bz a) ca, .slice C (bz b) cb] rfl ?_
  conv => whnf
  refine pO_add rfl rfl (((bz a + bz b : Nat) : Int)) (wr64 (by omega) (by omega) (by omega)) ?_
  conv => whnf
  refine pO_add rfl rfl (((bz a + bz b + 1 : Nat) : Int)) (wr64 (by omega) (by omega) (by omega)) ?_
  conv => whnf
  refine eO_make (bz a + bz b + 1) u31 e3 rfl rfl rfl (by omega) fun g hg => ?_
  conv => whnf
  refine LoopV.by (α := List Nat × Nat) (fun x => [(0, .v (.slice A (bz a) ca)), (1, .v (.slice C (bz b) cb)), (4, .v (.slice none 0 0)), (5, .v (.slice (some ⟨g, 0, none⟩) (bz a + bz b + 1) (bz a + bz b + 1))), (6, .v (.int .i64 (x.2 : Nat)))]) (fun _ => [])
    (fun x h' => h' g = some (.cells (is x.1).toArray 3 (0, 0)) ∧ Le h h' ∧ x.1.length = bz a + bz b + 1 ∧ Low B x.1 ∧ x.2 ≤ bz a ∧ val B x.1 = val B ((dig B a).take x.2) * b ∧ (∀ j, x.2 + bz b ≤ j → x.1.getD j 0 = 0)) (fun x => bz a - x.2) (List.replicate (bz a + bz b + 1) 0, 0)
    ⟨rfl, rfl, rfl, rfl, rfl, rfl, rfl, rfl, rfl, rfl, trivial⟩ trivial ⟨by rw [show is (List.replicate (bz a + bz b + 1) 0) = List.replicate (bz a + bz b + 1) (.int .i64 0) by simp [is]]; exact Heap.upd_same _ _ _, Le.upd hg, by simp, low_zeros (by decide) _, Nat.zero_le _, by simp [val, val_zeros], fun j _ => by simp [List.getD_eq_getElem?_getD, List.getElem?_replicate]; split <;> rfl⟩ ?_
  rintro ⟨cur, i⟩ h1 ⟨hg1, hle1, hlen, hlow, hi, hval, hzero⟩
  dsimp only at hg1 hle1 hlen hlow hi hval hzero
  dsimp only
  conv => whnf
  rcases Nat.lt_or_ge i (bz a) with hin | hin
  · refine pO_lss rfl rfl (true) (decide_eq_true (by omega)) ?_
    conv => whnf
    have hai := low_getD (b := B) (by decide) hla i
    have hta := val_take_succ B (dig B a) i
    refine LoopV.by (α := List Nat × Nat × Nat) (fun x => [(0, .v (.slice A (bz a) ca)), (1, .v (.slice C (bz b) cb)), (4, .v (.slice none 0 0)), (5, .v (.slice (some ⟨g, 0, none⟩) (bz a + bz b + 1) (bz a + bz b + 1))), (6, .v (.int .i64 (i : Nat))), (7, .v (.int .i64 (x.2.1 : Nat))), (8, .v (.int .i64 (x.2.2 : Nat)))]) (fun _ => [])
      (fun x h' => h' g = some (.cells (is x.1).toArray 3 (0, 0)) ∧ Le h h' ∧ x.1.length = bz a + bz b + 1 ∧ Low B x.1 ∧ x.2.2 ≤ bz b + 1 ∧ x.2.1 < B ∧ val B x.1 + B ^ (i + x.2.2) * x.2.1 = val B cur + B ^ i * ((dig B a).getD i 0 * val B ((dig B b).take x.2.2)) ∧ (∀ q, i + bz b ≤ q → i + x.2.2 ≤ q → x.1.getD q 0 = 0) ∧ (x.2.2 = bz b + 1 → x.2.1 = 0)) (fun x => bz b + 1 - x.2.2) (cur, 0, 0)
      ⟨rfl, rfl, rfl, rfl, rfl, rfl, rfl, rfl, rfl, rfl, rfl, rfl, rfl, rfl, trivial⟩ trivial ⟨hg1, hle1, hlen, hlow, Nat.zero_le _, by dsimp only [B]; omega, by simp [val], fun q hq _ => hzero q hq, fun e => rfl⟩ ?_
    rintro ⟨cu, ov, j⟩ h2 ⟨hg2, hle2, hlen2, hlow2, hj, hov, hval2, hzero2, hend2⟩
    dsimp only at hg2 hle2 hlen2 hlow2 hj hov hval2 hzero2 hend2
    dsimp only
    conv => whnf
    rcases Nat.lt_or_ge j (bz b + 1) with hjn | hjn
    · refine pO_leq rfl rfl (true) (decide_eq_true (by omega)) ?_
      conv => whnf
      refine pO_add rfl rfl (((i + j : Nat) : Int)) (wr64 (by omega) (by omega) (by omega)) ?_
      conv => whnf
      refine pO_own u31 s3 rfl rfl (by omega) ?_
      conv => whnf
      refine lO_owni (hg2) rfl (by omega) ?_
      conv => whnf
      rw [show cu.getD (0 + (i + j)) 0 = cu.getD (i + j) 0 by rw [Nat.zero_add]]
      refine pO_atN u31 s3 rfl rfl (hra.mono hle2) (is_length _) (is_get _ i (by omega)) fun pAt hAt => ?_
      conv => whnf
      refine lO_at hAt ?_
      conv => whnf
      refine CallsO.go (word_c (i := j) (hrb.mono hle2) hdb) ?_
      rintro v2 h3 hle3 ⟨rfl, rfl⟩
      conv => whnf
      have hbj := low_getD (b := B) (by decide) hlb j
      have htb := val_take_succ B (dig B b) j
      have hzi := low_getD (b := B) (by decide) hlow2 (i + j)
      have hbz : j = bz b → (dig B b).getD j 0 = 0 := fun e => getD_len (by omega)
      have hcz : j = bz b → cu.getD (i + j) 0 = 0 := fun e => hzero2 _ (by omega) (by omega)
      generalize (dig B a).getD i 0 = ai at *
      generalize (dig B b).getD j 0 = bj at *
      have h50 := fun d => val_set B cu (i + j) d (by omega)
      generalize cu.getD (i + j) 0 = cij at *
      have hpr : ai * bj ≤ 65535 * 65535 := Nat.mul_le_mul (by simp only [B] at hai; omega) (by simp only [B] at hbj; omega)
      simp only [B] at hzi hov
      refine pO_mul rfl rfl (((ai * bj : Nat) : Int)) (wr64 (by rw [Int.natCast_mul]) (by omega) (by omega)) ?_
      conv => whnf
      refine pO_add rfl rfl (((cij + ai * bj : Nat) : Int)) (wr64 (by omega) (by omega) (by omega)) ?_
      conv => whnf
      refine pO_add rfl rfl (((ov + (cij + ai * bj) : Nat) : Int)) (wr64 (by omega) (by omega) (by omega)) ?_
      conv => whnf
      refine pO_add rfl rfl (((i + j : Nat) : Int)) (wr64 (by omega) (by omega) (by omega)) ?_
      conv => whnf
      refine pO_and rfl rfl ((((ov + (cij + ai * bj)) % 65536 : Nat) : Int)) (and16 (by omega)) ?_
      conv => whnf
      refine pO_own u31 s3 rfl rfl (by omega) ?_
      conv => whnf
      refine stO_i (hg2) (hg) rfl (by omega) ?_
      conv => whnf
      refine pO_shr rfl rfl (by decide) ((((ov + (cij + ai * bj)) / 65536 : Nat) : Int)) (shr16 (by omega)) ?_
      conv => whnf
      refine pO_add rfl rfl (((j + 1 : Nat) : Int)) (wr64 (by omega) (by omega) (by omega)) ?_
      conv => whnf
      refine RoundO.go ⟨(cu.set (0 + (i + j)) ((ov + (cij + ai * bj)) % 65536), (ov + (cij + ai * bj)) / 65536, j + 1), ⟨rfl, rfl, rfl, rfl, rfl, rfl, rfl, rfl, rfl, rfl, rfl, rfl, rfl, rfl, trivial⟩, trivial, ⟨Heap.upd_same _ _ _, hle2.upd_out hg, by simp [hlen2], low_set hlow2 _ (Nat.mod_lt _ (by decide)), hjn, by dsimp only [B]; omega, ?_, ?_, ?_⟩, by dsimp only; omega⟩
      all_goals dsimp only
      · rw [Nat.zero_add, htb, show i + (j + 1) = i + j + 1 from rfl, Nat.pow_succ]
        exact times_step (Nat.pow_add _ _ _) (h50 _) (by have := Nat.mod_add_div (ov + (cij + ai * bj)) 65536; simp only [B]; omega) hval2
      · intro q h8 h9
        rw [getD_set_ne (by omega)]
        exact hzero2 q h8 (by omega)
      · intro e
        have e1 : j = bz b := by omega
        rw [hcz e1, hbz e1, Nat.mul_zero]; omega
    · refine pO_leq rfl rfl (false) (decide_eq_false (by omega)) ?_
      conv => whnf
      obtain rfl : j = bz b + 1 := by omega
      rw [hend2 rfl, Nat.mul_zero, Nat.add_zero, List.take_of_length_le (by omega), hvb] at hval2
      refine pO_add rfl rfl (((i + 1 : Nat) : Int)) (wr64 (by omega) (by omega) (by omega)) ?_
      conv => whnf
      refine RoundO.go ⟨(cu, i + 1), ⟨rfl, rfl, rfl, rfl, rfl, rfl, rfl, rfl, rfl, rfl, trivial⟩, trivial, ⟨hg2, hle2, hlen2, hlow2, hin, ?_, fun q hq => hzero2 q (by dsimp only at hq; omega) (by dsimp only at hq; omega)⟩, by dsimp only; omega⟩
      dsimp only
      rw [hval2, hta, Nat.add_mul, hval, Nat.mul_assoc]
  · refine pO_lss rfl rfl (false) (decide_eq_false (by omega)) ?_
    conv => whnf
    obtain rfl : i = bz a := by omega
    rw [List.take_of_length_le (by omega), hva] at hval
    refine CallsO.go (bcut_c (row_owni hg1) hlen (Nat.le_refl _) (by omega)) ?_
    rintro v6 h6 hle6 hv
    conv => whnf
    refine EndO.go ?_
    rw [← hval]
    exact Bg.of hlow hv
end
theorem u3 : Tryz.prog.underlying 3 = some (.int .i64) := by kernel_rfl
theorem Bg.nil (h : Heap) (A : Option Addr) (c : Nat) : Bg h (.slice A 0 c) 0 := ⟨A, c, by rw [dig_zero]; rfl, by rw [dig_zero]; exact Nat.zero_le _, by rw [dig_zero]; exact Row.nil _ _⟩
theorem dig_one {n : Nat} (h0 : 0 < n) (hn : n < B) : dig B n = [n] := by
  rw [dig_pos b2 h0, Nat.mod_eq_of_lt hn, Nat.div_eq_of_lt hn, dig_zero]
theorem Bg.one {h : Heap} {g n : Nat} {cs : Array Value} {fr : Nat × Nat} (hg : h g = some (.cells cs 3 fr)) (h0 : 0 < n) (hn : n < B) (hcs : cs = #[.int .i64 (n : Int)]) : Bg h (.slice (some ⟨g, 0, none⟩) 1 1) n := by
  subst hcs
  refine ⟨_, 1, by rw [dig_one h0 hn]; rfl, by rw [dig_one h0 hn]; exact Nat.le_refl _, ?_⟩
  rw [dig_one h0 hn]
  exact .inr ⟨g, 0, _, _, _, rfl, hg, fun j hj => by simp [is] at hj ⊢⟩
theorem dig_par (a : Nat) : (dig B a).getD 0 0 % 2 = a % 2 := by
  have h2 := val_bit (low_dig b2 a) 0
  rw [val_dig b2 a] at h2
  simpa using h2.symm
theorem bz_pos {a : Nat} (h : 0 < a) : 0 < bz a := by
  rcases Nat.eq_zero_or_pos (bz a) with h1 | h1
  · rw [bz_eq_zero] at h1; omega
  · exact h1
theorem lt_two_bz (a : Nat) : a < 2 ^ (16 * bz a) := by
  have := lt_bz a
  rw [show B = 2 ^ 16 from rfl, ← Nat.pow_mul] at this
  exact this
theorem bz_dbl {r b t : Nat} (h : r < b) (ht : t ≤ 1) : bz (2 * r + t) ≤ bz b + 1 := by
  apply bz_le
  have h1 := lt_bz b
  rw [Nat.pow_succ]
  have : B ^ bz b * 2 ≤ B ^ bz b * B := Nat.mul_le_mul_left _ (by decide)
  omega
theorem and16u {a : Nat} (ha : a < 18446744073709551616) : IntKind.u64.wrap ((BitVec.ofInt IntKind.u64.bits (a : Int) &&& BitVec.ofInt IntKind.u64.bits 65535).toNat : Int) = ((a % 65536 : Nat) : Int) := by
  have h1 : (BitVec.ofInt IntKind.u64.bits (a : Int) &&& BitVec.ofInt IntKind.u64.bits 65535).toNat = a % 65536 := by
    rw [BitVec.toNat_and, BitVec.toNat_ofInt, BitVec.toNat_ofInt]
    have : ((65535 : Int) % ((2 ^ IntKind.u64.bits : Nat) : Int)).toNat = 2 ^ 16 - 1 := by decide
    rw [this, Nat.and_two_pow_sub_one_eq_mod]
    have : (2 ^ IntKind.u64.bits : Nat) = 18446744073709551616 := by decide
    rw [this]; omega
  rw [h1]
  exact wru64 rfl (by omega) (by omega)
theorem shr16u {a c : Int} (h : a / 65536 = c) : a.fdiv (2 ^ (min (Int.toNat 16) IntKind.u64.bits)) = c := by
  have : (2 : Int) ^ (min (Int.toNat 16) IntKind.u64.bits) = 65536 := by decide
  rw [this, Int.fdiv_eq_ediv_of_nonneg _ (by decide), h]
section
variable {h : Heap}
theorem of_c {n : Nat} (hn : n < 18446744073709551616) : CallGo Tryz.prog 134 #[.int .u64 n] h NoX fun v h' => Bg h' v n := by
  refine v_fn tb k134 [.int .u64 n] rfl ?_
  conv => whnf
  refine eO_lits [] u31 s3 z3 (by decide) rfl rfl (fun v hv => by cases hv) fun g hg => ?_
  conv => whnf
  refine LoopV.by (α := List Nat × Value × Nat) (fun x => [(0, .v (.int .u64 (x.2.2 : Nat))), (2, .v (.slice none 0 0)), (3, .v x.2.1)]) (fun _ => [])
    (fun x h' => Ow h h' x.2.1 x.1 ∧ Le h h' ∧ x.1 ++ dig B x.2.2 = dig B n ∧ x.2.2 ≤ n) (fun x => x.2.2) ([], .slice (some ⟨g, 0, none⟩) 0 0, n)
    ⟨rfl, rfl, rfl, rfl, rfl, rfl, trivial⟩ trivial ⟨Ow.lit0 hg, Le.upd hg, rfl, Nat.le_refl _⟩ ?_
  rintro ⟨ds, z, m⟩ h1 ⟨hown, hle1, hdig, hm⟩
  dsimp only at hown hle1 hdig hm
  dsimp only
  conv => whnf
  rcases Nat.eq_zero_or_pos m with rfl | h0
  · refine pO_gtr rfl rfl (false) (rfl) ?_
    conv => whnf
    rw [dig_zero, List.append_nil] at hdig
    obtain ⟨D, cd, rfl, hcd, hrow⟩ := hown.row
    exact EndO.go ⟨D, cd, by rw [← hdig, is_length]; rfl, by rw [← hdig, is_length]; exact hcd, by rw [← hdig]; exact hrow⟩
  · refine pO_gtr rfl rfl (true) (decide_eq_true (by omega)) ?_
    conv => whnf
    have hlen : ds.length ≤ 64 := by
      have h1 := congrArg List.length hdig
      rw [List.length_append] at h1
      have h2 : (dig B n).length ≤ 4 := dig_length_le b2 (k := 4) (by simp only [B]; omega)
      omega
    refine pO_and rfl rfl (((m % 65536 : Nat) : Int)) (and16u (by omega)) ?_
    conv => whnf
    refine pO_conv (by rfl) u3 rfl ((m % 65536 : Nat) : Int) (wr64 rfl (by omega) (by omega)) ?_
    conv => whnf
    refine eO_lits [.int .i64 ((m % 65536 : Nat) : Int)] u31 s3 z3 (by decide) rfl rfl (fun v hv => by rw [List.mem_singleton.1 hv]; rfl) fun g2 hg2 => ?_
    conv => whnf
    have hownC := Ow.mono (Le.upd (o := .cells (List.flatMap (fun v => v.cells.toList) [Value.int .i64 ((m % 65536 : Nat) : Int)]).toArray 3 (0, 0)) hg2) hown
    refine eO_append (hA := h) (news := [.int .i64 ((m % 65536 : Nat) : Int)]) rfl (Le.refl _) (hle1.trans (Le.upd hg2)) u31 e3 rfl (by decide) rfl hownC rfl (by decide) rfl (row_v (n := 1) (Heap.upd_same _ _ _) rfl (by simp [Value.cells])) (fun u hu => by rw [List.mem_singleton.1 hu]; rfl) (by omega) fun v' h5 hown5 hle5 => ?_
    replace hown5 := Ow.of_snoc hown5
    conv => whnf
    refine pO_shr rfl rfl (by decide) (((m / 65536 : Nat) : Int)) (shr16u (by omega)) ?_
    conv => whnf
    refine RoundO.go ⟨(ds ++ [m % 65536], v', m / 65536), ⟨rfl, rfl, rfl, rfl, rfl, rfl, trivial⟩, trivial, ⟨hown5, hle5, ?_, by dsimp only; omega⟩, by dsimp only; omega⟩
    dsimp only
    rw [← hdig, dig_pos b2 h0, List.append_assoc]; rfl
theorem quot_c {x y : Value} {a b : Nat} (hx : Bg h x a) (hy : Bg h y b) (hb0 : 0 < b) (hb : bz a + bz b < 109951162) : CallGo Tryz.prog 130 #[x, y] h NoX fun v h' => ∃ q r, v = .tuple #[q, r] ∧ Bg h' q (a / b) ∧ Bg h' r (a % b) := by
  have hx' := hx
  have hy' := hy
  obtain ⟨A, ca, rfl, hca, hra⟩ := hx.open
  obtain ⟨C, cb, rfl, hcb, hrb⟩ := hy.open
  refine v_fn tb k130 [.slice A (bz a) ca, .slice C (bz b) cb] rfl ?_
  conv => whnf
  refine eO_lits [] u31 s3 z3 (by decide) rfl rfl (fun v hv => by cases hv) fun g hg => ?_
  conv => whnf
  refine eO_lits [] u31 s3 z3 (by decide) rfl rfl (fun v hv => by cases hv) fun g2 hg2 => ?_
  conv => whnf
  refine pO_mul rfl rfl (((16 * bz a : Nat) : Int)) (wr64 (by omega) (by omega) (by omega)) ?_
  conv => whnf
  refine pO_sub rfl rfl (((16 * bz a : Nat) : Int) - 1) (wr64 rfl (by omega) (by omega)) ?_
  conv => whnf
  refine LoopV.by (α := Value × Value × Nat × Nat × Nat) (fun x => [(0, .v (.slice A (bz a) ca)), (1, .v (.slice C (bz b) cb)), (4, .v (.slice none 0 0)), (5, .v (.slice none 0 0)), (6, .v x.1), (7, .v x.2.1), (8, .v (.int .i64 ((x.2.2.2.2 : Nat) - 1)))]) (fun _ => [])
    (fun x h' => Le h h' ∧ Bg h' x.1 x.2.2.1 ∧ Bg h' x.2.1 x.2.2.2.1 ∧ a / 2 ^ x.2.2.2.2 = x.2.2.1 * b + x.2.2.2.1 ∧ x.2.2.2.1 < b ∧ x.2.2.2.2 ≤ 16 * bz a) (fun x => x.2.2.2.2) (.slice (some ⟨g, 0, none⟩) 0 0, .slice (some ⟨g2, 0, none⟩) 0 0, 0, 0, 16 * bz a)
    ⟨rfl, rfl, rfl, rfl, rfl, rfl, rfl, rfl, rfl, rfl, rfl, rfl, rfl, rfl, trivial⟩ trivial ⟨(Le.upd hg).trans (Le.upd hg2), Bg.nil _ _ _, Bg.nil _ _ _, by rw [Nat.div_eq_of_lt (lt_two_bz a)]; simp, hb0, Nat.le_refl _⟩ ?_
  rintro ⟨qv, rv, q, r, k⟩ h1 ⟨hle1, hq, hr, hinv, hrb, hk⟩
  dsimp only at hle1 hq hr hinv hrb hk
  dsimp only
  conv => whnf
  have hqa : q ≤ a := by
    have h1 := Nat.div_le_self a (2 ^ k)
    have h2 := Nat.le_mul_of_pos_right q hb0
    omega
  have hbq := bz_mono hqa
  have hbr := bz_mono (Nat.le_of_lt hrb)
  rcases Nat.eq_zero_or_pos k with rfl | hk0
  · refine pO_geq rfl rfl (false) (rfl) ?_
    conv => whnf
    rw [Nat.pow_zero, Nat.div_one] at hinv
    have e1 : a / b = q := by rw [hinv, Nat.mul_comm, Nat.mul_add_div hb0, Nat.div_eq_of_lt hrb, Nat.add_zero]
    have e2 : a % b = r := by rw [hinv, Nat.mul_comm, Nat.mul_add_mod, Nat.mod_eq_of_lt hrb]
    exact EndO.go ⟨_, _, rfl, by rw [e1]; exact hq, by rw [e2]; exact hr⟩
  · obtain ⟨i, rfl⟩ : ∃ i, k = i + 1 := ⟨k - 1, by omega⟩
    rw [show ((i + 1 : Nat) : Int) - 1 = (i : Int) by omega]
    refine pO_geq rfl rfl (true) (decide_eq_true (by omega)) ?_
    conv => whnf
    obtain ⟨hqb1, hqb2⟩ := quot_bit (i := i) hb0 hinv hrb
    have ht : a / 2 ^ i % 2 ≤ 1 := by omega
    refine CallsO.go (bit_c (i := i) (hx'.mono hle1) (by omega) (by omega)) ?_
    rintro v2 h2 hle2 ⟨rfl, rfl⟩
    conv => whnf
    generalize a / 2 ^ i % 2 = t at *
    have hbd := bz_dbl hrb ht
    refine CallsO.go (double_c hr ht (by omega)) ?_
    rintro v3 h3 hle3 hr3
    conv => whnf
    refine CallsO.go (compare_c hr3 (hy'.mono (hle1.trans hle3)) (by omega)) ?_
    rintro v4 h4 hle4 ⟨rfl, rfl⟩
    conv => whnf
    rcases Nat.lt_or_ge (2 * r + t) b with hlt | hge
    · rw [cmpN_lt hlt]
      refine pO_geq rfl rfl (false) (rfl) ?_
      conv => whnf
      refine CallsO.go (double_c (hq.mono hle3) (Nat.zero_le 1) (by omega)) ?_
      rintro v5 h5 hle5 hq5
      conv => whnf
      refine pO_sub rfl rfl (((i : Nat) : Int) - 1) (wr64 rfl (by omega) (by omega)) ?_
      conv => whnf
      exact RoundO.go ⟨(v5, v3, 2 * q + 0, 2 * r + t, i), ⟨rfl, rfl, rfl, rfl, rfl, rfl, rfl, rfl, rfl, rfl, rfl, rfl, rfl, rfl, trivial⟩, trivial, ⟨(hle1.trans hle3).trans hle5, hq5, hr3.mono hle5, hqb2 hlt, hlt, by dsimp only; omega⟩, by dsimp only; omega⟩
    · have hcg : (0 : Int) ≤ cmpN (2 * r + t) b := by unfold cmpN; rw [if_neg (by omega)]; split <;> decide
      refine pO_geq rfl rfl (true) (decide_eq_true hcg) ?_
      conv => whnf
      refine CallsO.go (minus_c hr3 (hy'.mono (hle1.trans hle3)) hge (by omega)) ?_
      rintro v5 h5 hle5 hr5
      conv => whnf
      refine CallsO.go (double_c (hq.mono (hle3.trans hle5)) (Nat.le_refl 1) (by omega)) ?_
      rintro v6 h6 hle6 hq6
      conv => whnf
      refine pO_sub rfl rfl (((i : Nat) : Int) - 1) (wr64 rfl (by omega) (by omega)) ?_
      conv => whnf
      exact RoundO.go ⟨(v6, v5, 2 * q + 1, 2 * r + t - b, i), ⟨rfl, rfl, rfl, rfl, rfl, rfl, rfl, rfl, rfl, rfl, rfl, rfl, rfl, rfl, trivial⟩, trivial, ⟨((hle1.trans hle3).trans hle5).trans hle6, hq6, hr5.mono hle6, (hqb1 hge).1, (hqb1 hge).2, by dsimp only; omega⟩, by dsimp only; omega⟩
theorem common_c {x y : Value} {a b : Nat} (hx : Bg h x a) (hy : Bg h y b) (hb : bz a + bz b < 109951162) : CallGo Tryz.prog 154 #[x, y] h NoX fun v h' => Bg h' v (Nat.gcd a b) := by
  have hx' := hx
  have hy' := hy
  obtain ⟨A, ca, rfl, hca, hra⟩ := hx.open
  obtain ⟨C, cb, rfl, hcb, hrb⟩ := hy.open
  refine v_fn tb k154 [.slice A (bz a) ca, .slice C (bz b) cb] rfl ?_
  conv => whnf
  rcases Nat.eq_zero_or_pos a with rfl | ha0
  · refine pO_eql rfl rfl (true) (by rw [bz_eq_zero.2 rfl]; rfl) ?_
    conv => whnf
    exact EndO.go (by rw [Nat.gcd_zero_left]; exact hy')
  have hba := bz_pos ha0
  refine pO_eql rfl rfl (false) (beq_eq_false_iff_ne.2 (by omega)) ?_
  conv => whnf
  rcases Nat.eq_zero_or_pos b with rfl | hb0
  · refine pO_eql rfl rfl (true) (by rw [bz_eq_zero.2 rfl]; rfl) ?_
    conv => whnf
    exact EndO.go (by rw [Nat.gcd_zero_right]; exact hx')
  have hbb := bz_pos hb0
  refine pO_eql rfl rfl (false) (beq_eq_false_iff_ne.2 (by omega)) ?_
  conv => whnf
  refine LoopV.by (α := (Option Addr × Nat × Nat) × (Option Addr × Nat × Nat) × Nat) (fun x => [(0, .v (.slice x.1.1 (bz x.1.2.2) x.1.2.1)), (1, .v (.slice x.2.1.1 (bz x.2.1.2.2) x.2.1.2.1)), (4, .v (.slice none 0 0)), (5, .v (.int .i64 (x.2.2 : Nat)))]) (fun _ => [])
    (fun x h' => Bg h' (.slice x.1.1 (bz x.1.2.2) x.1.2.1) x.1.2.2 ∧ Bg h' (.slice x.2.1.1 (bz x.2.1.2.2) x.2.1.2.1) x.2.1.2.2 ∧ 0 < x.1.2.2 ∧ 0 < x.2.1.2.2 ∧ x.1.2.2 ≤ a ∧ x.2.1.2.2 ≤ b ∧ 2 ^ x.2.2 * Nat.gcd x.1.2.2 x.2.1.2.2 = Nat.gcd a b) (fun x => x.1.2.2) ((A, ca, a), (C, cb, b), 0)
    ⟨rfl, rfl, rfl, rfl, rfl, rfl, rfl, rfl, trivial⟩ trivial ⟨hx', hy', ha0, hb0, Nat.le_refl _, Nat.le_refl _, by simp⟩ ?_
  rintro ⟨⟨D, cd, u⟩, ⟨E, ce, v⟩, t⟩ h1 ⟨hu, hv, hu0, hv0, hua, hvb, hgcd⟩
  dsimp only at hu hv hu0 hv0 hua hvb hgcd
  dsimp only
  have hbu := bz_mono hua
  have hbv := bz_mono hvb
  have hpu := bz_pos hu0
  have hpv := bz_pos hv0
  have hg0 : 0 < Nat.gcd u v := Nat.gcd_pos_of_pos_left _ hu0
  have hga : Nat.gcd a b ≤ a := Nat.gcd_le_left _ ha0
  have ht2 : t < 16 * bz a := by
    have h5 : 2 ^ t ≤ 2 ^ t * Nat.gcd u v := Nat.le_mul_of_pos_right _ hg0
    have h6 := lt_two_bz a
    exact (Nat.pow_lt_pow_iff_right (by decide : 1 < 2)).1 (by omega)
  obtain ⟨_, _, e1, hcu, hru⟩ := hu.open
  cases e1
  obtain ⟨_, _, e1, hcv, hrv⟩ := hv.open
  cases e1
  have hpu2 := dig_par u
  have hpv2 := dig_par v
  conv => whnf
  refine pO_atN u31 s3 rfl rfl (hru) (is_length _) (is_get _ 0 (by unfold bz at hpu; omega)) fun pAt hAt => ?_
  conv => whnf
  refine lO_at hAt ?_
  conv => whnf
  refine pO_and rfl rfl (((u % 2 : Nat) : Int)) (and1 (by omega)) ?_
  conv => whnf
  rcases Nat.mod_two_eq_zero_or_one u with hu2 | hu2
  · rw [hu2]
    refine pO_eql rfl rfl (true) (rfl) ?_
    conv => whnf
    refine pO_atN u31 s3 rfl rfl (hrv) (is_length _) (is_get _ 0 (by unfold bz at hpv; omega)) fun pAt hAt => ?_
    conv => whnf
    refine lO_at hAt ?_
    conv => whnf
    refine pO_and rfl rfl (((v % 2 : Nat) : Int)) (and1 (by omega)) ?_
    conv => whnf
    rcases Nat.mod_two_eq_zero_or_one v with hv2 | hv2
    · rw [hv2]
      refine pO_eql rfl rfl (true) (rfl) ?_
      conv => whnf
      refine CallsO.go (half_c hu (by omega)) ?_
      rintro n1 h2 hle2 hn1
      conv => whnf
      refine CallsO.go (half_c (hv.mono hle2) (by omega)) ?_
      rintro n2 h3 hle3 hn2
      conv => whnf
      refine pO_add rfl rfl (((t + 1 : Nat) : Int)) (wr64 (by omega) (by omega) (by omega)) ?_
      conv => whnf
      obtain ⟨D2, d2, rfl, _, _⟩ := hn1.open
      obtain ⟨E2, f2, rfl, _, _⟩ := hn2.open
      exact RoundO.go ⟨((D2, d2, u / 2), (E2, f2, v / 2), t + 1), ⟨rfl, rfl, rfl, rfl, rfl, rfl, rfl, rfl, trivial⟩, trivial, ⟨hn1.mono hle3, hn2, by dsimp only; omega, by dsimp only; omega, by dsimp only; omega, by dsimp only; omega, by dsimp only; rw [← hgcd, ← gcd_half_both hu2 hv2, Nat.pow_succ, Nat.mul_assoc]⟩, by dsimp only; omega⟩
    · rw [hv2]
      refine pO_eql rfl rfl (false) (rfl) ?_
      conv => whnf
      have hodd : u % 2 = 1 ∨ v % 2 = 1 := .inr hv2
      refine LoopV.by (α := (Option Addr × Nat × Nat) × (Option Addr × Nat × Nat)) (fun x => [(0, .v (.slice x.1.1 (bz x.1.2.2) x.1.2.1)), (1, .v (.slice x.2.1 (bz x.2.2.2) x.2.2.1)), (4, .v (.slice none 0 0)), (5, .v (.int .i64 (t : Nat)))]) (fun _ => [])
        (fun x h' => Bg h' (.slice x.1.1 (bz x.1.2.2) x.1.2.1) x.1.2.2 ∧ Bg h' (.slice x.2.1 (bz x.2.2.2) x.2.2.1) x.2.2.2 ∧ 0 < x.1.2.2 ∧ x.1.2.2 ≤ a + b ∧ x.2.2.2 ≤ a + b ∧ (x.1.2.2 % 2 = 1 ∨ x.2.2.2 % 2 = 1) ∧ Nat.gcd x.1.2.2 x.2.2.2 = Nat.gcd u v ∧ bz x.1.2.2 ≤ bz a + bz b ∧ bz x.2.2.2 ≤ bz a + bz b) (fun x => x.1.2.2 + x.2.2.2) ((D, cd, u), (E, ce, v))
        ⟨rfl, rfl, rfl, rfl, rfl, rfl, rfl, rfl, trivial⟩ trivial ⟨hu, hv, hu0, by dsimp only; omega, by dsimp only; omega, hodd, rfl, by dsimp only; omega, by dsimp only; omega⟩ ?_
      rintro ⟨⟨F, cf, x⟩, ⟨G, cg, y⟩⟩ h20 ⟨px, py, px0, pxa, pya, podd, pg, pzx, pzy⟩
      dsimp only at px py px0 pxa pya podd pg pzx pzy
      dsimp only
      conv => whnf
      rcases Nat.eq_zero_or_pos y with rfl | py0
      · refine pO_gtr rfl rfl (false) (by rw [bz_eq_zero.2 rfl]; rfl) ?_
        conv => whnf
        rw [Nat.gcd_zero_right] at pg
        refine LoopV.by (α := (Option Addr × Nat × Nat) × Nat) (fun x => [(0, .v (.slice x.1.1 (bz x.1.2.2) x.1.2.1)), (4, .v (.slice none 0 0)), (5, .v (.int .i64 (t : Nat))), (6, .v (.int .i64 (x.2 : Nat)))]) (fun _ => [])
          (fun x h' => Bg h' (.slice x.1.1 (bz x.1.2.2) x.1.2.1) x.1.2.2 ∧ x.2 ≤ t ∧ x.1.2.2 = 2 ^ x.2 * Nat.gcd u v) (fun x => t - x.2) ((F, cf, x), 0)
          ⟨rfl, rfl, rfl, rfl, rfl, rfl, rfl, rfl, trivial⟩ trivial ⟨px, Nat.zero_le _, by dsimp only; rw [pg]; simp⟩ ?_
        rintro ⟨⟨H, ch, z⟩, i⟩ h30 ⟨hz, hi, hzv⟩
        dsimp only at hz hi hzv
        dsimp only
        conv => whnf
        have hza : z ≤ a := by
          have h5 : 2 ^ i ≤ 2 ^ t := Nat.pow_le_pow_right (by decide) hi
          have h6 := Nat.mul_le_mul_right (Nat.gcd u v) h5
          omega
        have hbz := bz_mono hza
        rcases Nat.lt_or_ge i t with hin | hin
        · refine pO_lss rfl rfl (true) (decide_eq_true (by omega)) ?_
          conv => whnf
          refine CallsO.go (double_c hz (Nat.zero_le 1) (by omega)) ?_
          rintro n1 h31 hle31 hn1
          conv => whnf
          obtain ⟨D2, d2, rfl, _, _⟩ := hn1.open
          refine pO_add rfl rfl (((i + 1 : Nat) : Int)) (wr64 (by omega) (by omega) (by omega)) ?_
          conv => whnf
          exact RoundO.go ⟨((D2, d2, 2 * z + 0), i + 1), ⟨rfl, rfl, rfl, rfl, rfl, rfl, rfl, rfl, trivial⟩, trivial, ⟨hn1, hin, by dsimp only; rw [hzv, Nat.pow_succ, Nat.add_zero, Nat.mul_comm (2 ^ i) 2, Nat.mul_assoc]⟩, by dsimp only; omega⟩
        · refine pO_lss rfl rfl (false) (decide_eq_false (by omega)) ?_
          conv => whnf
          obtain rfl : i = t := by omega
          exact EndO.go (by rw [← hgcd, ← hzv]; exact hz)
      · have pzy0 := bz_pos py0
        refine pO_gtr rfl rfl (true) (decide_eq_true (by omega)) ?_
        conv => whnf
        refine LoopV.by (α := Option Addr × Nat × Nat) (fun z => [(0, .v (.slice z.1 (bz z.2.2) z.2.1)), (1, .v (.slice G (bz y) cg)), (4, .v (.slice none 0 0)), (5, .v (.int .i64 (t : Nat)))]) (fun _ => [])
          (fun z h' => Bg h' (.slice z.1 (bz z.2.2) z.2.1) z.2.2 ∧ Bg h' (.slice G (bz y) cg) y ∧ 0 < z.2.2 ∧ z.2.2 ≤ x ∧ (z.2.2 % 2 = 1 ∨ y % 2 = 1) ∧ Nat.gcd z.2.2 y = Nat.gcd u v) (fun z => z.2.2) (F, cf, x)
          ⟨rfl, rfl, rfl, rfl, rfl, rfl, rfl, rfl, trivial⟩ trivial ⟨px, py, px0, Nat.le_refl _, podd, pg⟩ ?_
        rintro ⟨H, ch, z⟩ h30 ⟨pz, py, pz0, pzx', podd, pg⟩
        dsimp only at pz py pz0 pzx' podd pg
        dsimp only
        have bzz := bz_mono pzx'
        have bzp := bz_pos pz0
        obtain ⟨_, _, e1, hcz, hrz⟩ := pz.open
        cases e1
        have hzz := dig_par z
        conv => whnf
        refine pO_atN u31 s3 rfl rfl (hrz) (is_length _) (is_get _ 0 (by unfold bz at bzp; omega)) fun pAt hAt => ?_
        conv => whnf
        refine lO_at hAt ?_
        conv => whnf
        refine pO_and rfl rfl (((z % 2 : Nat) : Int)) (and1 (by omega)) ?_
        conv => whnf
        rcases Nat.mod_two_eq_zero_or_one z with hz2 | hz2
        · rw [hz2]
          refine pO_eql rfl rfl (true) (rfl) ?_
          conv => whnf
          refine CallsO.go (half_c pz (by omega)) ?_
          rintro n1 h31 hle31 hn1
          conv => whnf
          obtain ⟨D2, d2, rfl, _, _⟩ := hn1.open
          have hy1 : y % 2 = 1 := by omega
          exact RoundO.go ⟨(D2, d2, z / 2), ⟨rfl, rfl, rfl, rfl, rfl, rfl, rfl, rfl, trivial⟩, trivial, ⟨hn1, py.mono hle31, by dsimp only; omega, by dsimp only; omega, .inr hy1, by dsimp only; rw [gcd_half_l hz2 hy1]; exact pg⟩, by dsimp only; omega⟩
        · rw [hz2]
          refine pO_eql rfl rfl (false) (rfl) ?_
          conv => whnf
          refine LoopV.by (α := Option Addr × Nat × Nat) (fun w => [(0, .v (.slice H (bz z) ch)), (1, .v (.slice w.1 (bz w.2.2) w.2.1)), (4, .v (.slice none 0 0)), (5, .v (.int .i64 (t : Nat)))]) (fun _ => [])
            (fun w h' => Bg h' (.slice H (bz z) ch) z ∧ Bg h' (.slice w.1 (bz w.2.2) w.2.1) w.2.2 ∧ 0 < w.2.2 ∧ w.2.2 ≤ y ∧ Nat.gcd z w.2.2 = Nat.gcd u v) (fun w => w.2.2) (G, cg, y)
            ⟨rfl, rfl, rfl, rfl, rfl, rfl, rfl, rfl, trivial⟩ trivial ⟨pz, py, py0, Nat.le_refl _, pg⟩ ?_
          rintro ⟨J, cj, w⟩ h40 ⟨pz, pw, pw0, pwy, pg⟩
          dsimp only at pz pw pw0 pwy pg
          dsimp only
          have bzw := bz_mono pwy
          have bwp := bz_pos pw0
          obtain ⟨_, _, e1, hcw, hrw⟩ := pw.open
          cases e1
          have hww := dig_par w
          conv => whnf
          refine pO_atN u31 s3 rfl rfl (hrw) (is_length _) (is_get _ 0 (by unfold bz at bwp; omega)) fun pAt hAt => ?_
          conv => whnf
          refine lO_at hAt ?_
          conv => whnf
          refine pO_and rfl rfl (((w % 2 : Nat) : Int)) (and1 (by omega)) ?_
          conv => whnf
          rcases Nat.mod_two_eq_zero_or_one w with hw2 | hw2
          · rw [hw2]
            refine pO_eql rfl rfl (true) (rfl) ?_
            conv => whnf
            refine CallsO.go (half_c pw (by omega)) ?_
            rintro n1 h41 hle41 hn1
            conv => whnf
            obtain ⟨D2, d2, rfl, _, _⟩ := hn1.open
            exact RoundO.go ⟨(D2, d2, w / 2), ⟨rfl, rfl, rfl, rfl, rfl, rfl, rfl, rfl, trivial⟩, trivial, ⟨pz.mono hle41, hn1, by dsimp only; omega, by dsimp only; omega, by dsimp only; rw [gcd_half_r hz2 hw2]; exact pg⟩, by dsimp only; omega⟩
          · rw [hw2]
            refine pO_eql rfl rfl (false) (rfl) ?_
            conv => whnf
            refine CallsO.go (compare_c pz pw (by omega)) ?_
            rintro v4 h41 hle41 ⟨rfl, rfl⟩
            conv => whnf
            rcases Nat.lt_or_ge w z with hlt | hge
            · rw [cmpN_gt hlt]
              refine pO_gtr rfl rfl (true) (rfl) ?_
              conv => whnf
              refine CallsO.go (minus_c pz pw (Nat.le_of_lt hlt) (by omega)) ?_
              rintro n1 h42 hle42 hn1
              conv => whnf
              obtain ⟨D2, d2, rfl, _, _⟩ := hn1.open
              have hbs := bz_mono (Nat.sub_le z w)
              exact RoundO.go ⟨((J, cj, w), (D2, d2, z - w)), ⟨rfl, rfl, rfl, rfl, rfl, rfl, rfl, rfl, trivial⟩, trivial, ⟨pw.mono hle42, hn1, pw0, by dsimp only; omega, by dsimp only; omega, .inl hw2, by dsimp only; rw [gcd_sub_r (Nat.le_of_lt hlt), Nat.gcd_comm]; exact pg, by dsimp only; omega, by dsimp only; omega⟩, by dsimp only; omega⟩
            · have hcg : ¬ (0 : Int) < cmpN z w := by unfold cmpN; split <;> first | decide | (rw [if_neg (by omega)]; decide)
              refine pO_gtr rfl rfl (false) (decide_eq_false hcg) ?_
              conv => whnf
              refine CallsO.go (minus_c pw pz hge (by omega)) ?_
              rintro n1 h42 hle42 hn1
              conv => whnf
              obtain ⟨D2, d2, rfl, _, _⟩ := hn1.open
              have hbs := bz_mono (Nat.sub_le w z)
              exact RoundO.go ⟨((H, ch, z), (D2, d2, w - z)), ⟨rfl, rfl, rfl, rfl, rfl, rfl, rfl, rfl, trivial⟩, trivial, ⟨pz.mono hle42, hn1, pz0, by dsimp only; omega, by dsimp only; omega, .inl hz2, by dsimp only; rw [gcd_sub_r hge]; exact pg, by dsimp only; omega, by dsimp only; omega⟩, by dsimp only; omega⟩
  · rw [hu2]
    refine pO_eql rfl rfl (false) (rfl) ?_
    conv => whnf
    have hodd : u % 2 = 1 ∨ v % 2 = 1 := .inl hu2
    refine LoopV.by (α := (Option Addr × Nat × Nat) × (Option Addr × Nat × Nat)) (fun x => [(0, .v (.slice x.1.1 (bz x.1.2.2) x.1.2.1)), (1, .v (.slice x.2.1 (bz x.2.2.2) x.2.2.1)), (4, .v (.slice none 0 0)), (5, .v (.int .i64 (t : Nat)))]) (fun _ => [])
      (fun x h' => Bg h' (.slice x.1.1 (bz x.1.2.2) x.1.2.1) x.1.2.2 ∧ Bg h' (.slice x.2.1 (bz x.2.2.2) x.2.2.1) x.2.2.2 ∧ 0 < x.1.2.2 ∧ x.1.2.2 ≤ a + b ∧ x.2.2.2 ≤ a + b ∧ (x.1.2.2 % 2 = 1 ∨ x.2.2.2 % 2 = 1) ∧ Nat.gcd x.1.2.2 x.2.2.2 = Nat.gcd u v ∧ bz x.1.2.2 ≤ bz a + bz b ∧ bz x.2.2.2 ≤ bz a + bz b) (fun x => x.1.2.2 + x.2.2.2) ((D, cd, u), (E, ce, v))
      ⟨rfl, rfl, rfl, rfl, rfl, rfl, rfl, rfl, trivial⟩ trivial ⟨hu, hv, hu0, by dsimp only; omega, by dsimp only; omega, hodd, rfl, by dsimp only; omega, by dsimp only; omega⟩ ?_
    rintro ⟨⟨F, cf, x⟩, ⟨G, cg, y⟩⟩ h20 ⟨px, py, px0, pxa, pya, podd, pg, pzx, pzy⟩
    dsimp only at px py px0 pxa pya podd pg pzx pzy
    dsimp only
    conv => whnf
    rcases Nat.eq_zero_or_pos y with rfl | py0
    · refine pO_gtr rfl rfl (false) (by rw [bz_eq_zero.2 rfl]; rfl) ?_
      conv => whnf
      rw [Nat.gcd_zero_right] at pg
      refine LoopV.by (α := (Option Addr × Nat × Nat) × Nat) (fun x => [(0, .v (.slice x.1.1 (bz x.1.2.2) x.1.2.1)), (4, .v (.slice none 0 0)), (5, .v (.int .i64 (t : Nat))), (6, .v (.int .i64 (x.2 : Nat)))]) (fun _ => [])
        (fun x h' => Bg h' (.slice x.1.1 (bz x.1.2.2) x.1.2.1) x.1.2.2 ∧ x.2 ≤ t ∧ x.1.2.2 = 2 ^ x.2 * Nat.gcd u v) (fun x => t - x.2) ((F, cf, x), 0)
        ⟨rfl, rfl, rfl, rfl, rfl, rfl, rfl, rfl, trivial⟩ trivial ⟨px, Nat.zero_le _, by dsimp only; rw [pg]; simp⟩ ?_
      rintro ⟨⟨H, ch, z⟩, i⟩ h30 ⟨hz, hi, hzv⟩
      dsimp only at hz hi hzv
      dsimp only
      conv => whnf
      have hza : z ≤ a := by
        have h5 : 2 ^ i ≤ 2 ^ t := Nat.pow_le_pow_right (by decide) hi
        have h6 := Nat.mul_le_mul_right (Nat.gcd u v) h5
        omega
      have hbz := bz_mono hza
      rcases Nat.lt_or_ge i t with hin | hin
      · refine pO_lss rfl rfl (true) (decide_eq_true (by omega)) ?_
        conv => whnf
        refine CallsO.go (double_c hz (Nat.zero_le 1) (by omega)) ?_
        rintro n1 h31 hle31 hn1
        conv => whnf
        obtain ⟨D2, d2, rfl, _, _⟩ := hn1.open
        refine pO_add rfl rfl (((i + 1 : Nat) : Int)) (wr64 (by omega) (by omega) (by omega)) ?_
        conv => whnf
        exact RoundO.go ⟨((D2, d2, 2 * z + 0), i + 1), ⟨rfl, rfl, rfl, rfl, rfl, rfl, rfl, rfl, trivial⟩, trivial, ⟨hn1, hin, by dsimp only; rw [hzv, Nat.pow_succ, Nat.add_zero, Nat.mul_comm (2 ^ i) 2, Nat.mul_assoc]⟩, by dsimp only; omega⟩
      · refine pO_lss rfl rfl (false) (decide_eq_false (by omega)) ?_
        conv => whnf
        obtain rfl : i = t := by omega
        exact EndO.go (by rw [← hgcd, ← hzv]; exact hz)
    · have pzy0 := bz_pos py0
      refine pO_gtr rfl rfl (true) (decide_eq_true (by omega)) ?_
      conv => whnf
      refine LoopV.by (α := Option Addr × Nat × Nat) (fun z => [(0, .v (.slice z.1 (bz z.2.2) z.2.1)), (1, .v (.slice G (bz y) cg)), (4, .v (.slice none 0 0)), (5, .v (.int .i64 (t : Nat)))]) (fun _ => [])
        (fun z h' => Bg h' (.slice z.1 (bz z.2.2) z.2.1) z.2.2 ∧ Bg h' (.slice G (bz y) cg) y ∧ 0 < z.2.2 ∧ z.2.2 ≤ x ∧ (z.2.2 % 2 = 1 ∨ y % 2 = 1) ∧ Nat.gcd z.2.2 y = Nat.gcd u v) (fun z => z.2.2) (F, cf, x)
        ⟨rfl, rfl, rfl, rfl, rfl, rfl, rfl, rfl, trivial⟩ trivial ⟨px, py, px0, Nat.le_refl _, podd, pg⟩ ?_
      rintro ⟨H, ch, z⟩ h30 ⟨pz, py, pz0, pzx', podd, pg⟩
      dsimp only at pz py pz0 pzx' podd pg
      dsimp only
      have bzz := bz_mono pzx'
      have bzp := bz_pos pz0
      obtain ⟨_, _, e1, hcz, hrz⟩ := pz.open
      cases e1
      have hzz := dig_par z
      conv => whnf
      refine pO_atN u31 s3 rfl rfl (hrz) (is_length _) (is_get _ 0 (by unfold bz at bzp; omega)) fun pAt hAt => ?_
      conv => whnf
      refine lO_at hAt ?_
      conv => whnf
      refine pO_and rfl rfl (((z % 2 : Nat) : Int)) (and1 (by omega)) ?_
      conv => whnf
      rcases Nat.mod_two_eq_zero_or_one z with hz2 | hz2
      · rw [hz2]
        refine pO_eql rfl rfl (true) (rfl) ?_
        conv => whnf
        refine CallsO.go (half_c pz (by omega)) ?_
        rintro n1 h31 hle31 hn1
        conv => whnf
        obtain ⟨D2, d2, rfl, _, _⟩ := hn1.open
        have hy1 : y % 2 = 1 := by omega
        exact RoundO.go ⟨(D2, d2, z / 2), ⟨rfl, rfl, rfl, rfl, rfl, rfl, rfl, rfl, trivial⟩, trivial, ⟨hn1, py.mono hle31, by dsimp only; omega, by dsimp only; omega, .inr hy1, by dsimp only; rw [gcd_half_l hz2 hy1]; exact pg⟩, by dsimp only; omega⟩
      · rw [hz2]
        refine pO_eql rfl rfl (false) (rfl) ?_
        conv => whnf
        refine LoopV.by (α := Option Addr × Nat × Nat) (fun w => [(0, .v (.slice H (bz z) ch)), (1, .v (.slice w.1 (bz w.2.2) w.2.1)), (4, .v (.slice none 0 0)), (5, .v (.int .i64 (t : Nat)))]) (fun _ => [])
          (fun w h' => Bg h' (.slice H (bz z) ch) z ∧ Bg h' (.slice w.1 (bz w.2.2) w.2.1) w.2.2 ∧ 0 < w.2.2 ∧ w.2.2 ≤ y ∧ Nat.gcd z w.2.2 = Nat.gcd u v) (fun w => w.2.2) (G, cg, y)
          ⟨rfl, rfl, rfl, rfl, rfl, rfl, rfl, rfl, trivial⟩ trivial ⟨pz, py, py0, Nat.le_refl _, pg⟩ ?_
        rintro ⟨J, cj, w⟩ h40 ⟨pz, pw, pw0, pwy, pg⟩
        dsimp only at pz pw pw0 pwy pg
        dsimp only
        have bzw := bz_mono pwy
        have bwp := bz_pos pw0
        obtain ⟨_, _, e1, hcw, hrw⟩ := pw.open
        cases e1
        have hww := dig_par w
        conv => whnf
        refine pO_atN u31 s3 rfl rfl (hrw) (is_length _) (is_get _ 0 (by unfold bz at bwp; omega)) fun pAt hAt => ?_
        conv => whnf
        refine lO_at hAt ?_
        conv => whnf
        refine pO_and rfl rfl (((w % 2 : Nat) : Int)) (and1 (by omega)) ?_
        conv => whnf
        rcases Nat.mod_two_eq_zero_or_one w with hw2 | hw2
        · rw [hw2]
          refine pO_eql rfl rfl (true) (rfl) ?_
          conv => whnf
          refine CallsO.go (half_c pw (by omega)) ?_
          rintro n1 h41 hle41 hn1
          conv => whnf
          obtain ⟨D2, d2, rfl, _, _⟩ := hn1.open
          exact RoundO.go ⟨(D2, d2, w / 2), ⟨rfl, rfl, rfl, rfl, rfl, rfl, rfl, rfl, trivial⟩, trivial, ⟨pz.mono hle41, hn1, by dsimp only; omega, by dsimp only; omega, by dsimp only; rw [gcd_half_r hz2 hw2]; exact pg⟩, by dsimp only; omega⟩
        · rw [hw2]
          refine pO_eql rfl rfl (false) (rfl) ?_
          conv => whnf
          refine CallsO.go (compare_c pz pw (by omega)) ?_
          rintro v4 h41 hle41 ⟨rfl, rfl⟩
          conv => whnf
          rcases Nat.lt_or_ge w z with hlt | hge
          · rw [cmpN_gt hlt]
            refine pO_gtr rfl rfl (true) (rfl) ?_
            conv => whnf
            refine CallsO.go (minus_c pz pw (Nat.le_of_lt hlt) (by omega)) ?_
            rintro n1 h42 hle42 hn1
            conv => whnf
            obtain ⟨D2, d2, rfl, _, _⟩ := hn1.open
            have hbs := bz_mono (Nat.sub_le z w)
            exact RoundO.go ⟨((J, cj, w), (D2, d2, z - w)), ⟨rfl, rfl, rfl, rfl, rfl, rfl, rfl, rfl, trivial⟩, trivial, ⟨pw.mono hle42, hn1, pw0, by dsimp only; omega, by dsimp only; omega, .inl hw2, by dsimp only; rw [gcd_sub_r (Nat.le_of_lt hlt), Nat.gcd_comm]; exact pg, by dsimp only; omega, by dsimp only; omega⟩, by dsimp only; omega⟩
          · have hcg : ¬ (0 : Int) < cmpN z w := by unfold cmpN; split <;> first | decide | (rw [if_neg (by omega)]; decide)
            refine pO_gtr rfl rfl (false) (decide_eq_false hcg) ?_
            conv => whnf
            refine CallsO.go (minus_c pw pz hge (by omega)) ?_
            rintro n1 h42 hle42 hn1
            conv => whnf
            obtain ⟨D2, d2, rfl, _, _⟩ := hn1.open
            have hbs := bz_mono (Nat.sub_le w z)
            exact RoundO.go ⟨((H, ch, z), (D2, d2, w - z)), ⟨rfl, rfl, rfl, rfl, rfl, rfl, rfl, rfl, trivial⟩, trivial, ⟨pz.mono hle42, hn1, pz0, by dsimp only; omega, by dsimp only; omega, .inl hz2, by dsimp only; rw [gcd_sub_r hge]; exact pg, by dsimp only; omega, by dsimp only; omega⟩, by dsimp only; omega⟩
end
end Go.Proofs.YtplaobhghfndgaaGreatDoor
