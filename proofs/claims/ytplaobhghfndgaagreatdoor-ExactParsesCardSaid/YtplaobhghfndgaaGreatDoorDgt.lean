import Derived.Test.YtplaobhghfndgaaGreatDoorNum2
import Derived.Test.YtplaobhghfndgaaGreatDoorVcc
import Derived.Test.YtplaobhghfndgaaGreatDoorRefq
/-! Digits: whether a text has digits alone, and their number. -/
set_option linter.unusedVariables false
set_option linter.unusedSimpArgs false
set_option maxRecDepth 100000
namespace Go.Proofs.YtplaobhghfndgaaGreatDoor
open Go Go.Proofs.Vc
attribute [local irreducible] CallsO EffO PureO LoadO StoreO EndO LoopV RoundO
theorem u9 : Tryz.prog.underlying 9 = some .string := by kernel_rfl
theorem u166 : Tryz.prog.underlying 166 = some (.slice 5) := by kernel_rfl
theorem u5 : Tryz.prog.underlying 5 = some (.int .u8) := by kernel_rfl
theorem s5 : ∀ w, (sizeOf 5).run Tryz.prog w = .ok 1 w := fun w => by kernel_rfl
section
variable {h : Heap}
theorem all_take_succ {l : List UInt8} {i : Nat} (hi : i < l.length) : (l.take (i + 1)).all isDig = ((l.take i).all isDig && isDig (l.getD i 0)) := by
  rw [List.take_succ_eq_append_getElem hi, List.all_append]
  simp [List.getD_eq_getElem?_getD, hi]
theorem isDigits_c (l : List UInt8) (hl : l.length < 1099511627776) : CallGo Tryz.prog 111 #[.string (bs l)] h NoX fun v h' => v = .bool (allDig l) := by
  refine v_fn tb k111 [.string (bs l)] rfl ?_
  conv => whnf
  refine eO_bytesB u9 u166 u5 rfl fun A c h1 hle1 hc hr => ?_
  conv => whnf
  refine LoopV.by (α := Nat) (fun i => [(0, .v (.string (bs l))), (6, .v (.slice A l.length c)), (7, .v (.int .i64 (l.length : Nat))), (8, .v (.int .i64 (i : Nat)))]) (fun _ => [])
    (fun i h' => Le h1 h' ∧ i ≤ l.length ∧ (l.take i).all isDig = true) (fun i => l.length - i) 0
    ⟨rfl, rfl, rfl, rfl, rfl, rfl, rfl, rfl, trivial⟩ trivial ⟨Le.refl _, Nat.zero_le _, rfl⟩ ?_
  rintro i h2 ⟨hle2, hi, hall⟩
  dsimp only
  conv => whnf
  rcases Nat.lt_or_ge i l.length with hin | hin
  · refine pO_lss rfl rfl (true) (decide_eq_true (by omega)) ?_
    conv => whnf
    refine pO_atN u166 s5 rfl rfl (hr.mono hle2) (us_length _) (us_get _ i (by omega)) fun pAt hAt => ?_
    conv => whnf
    refine lO_at hAt ?_
    conv => whnf
    have hts := all_take_succ hin
    rw [hall, Bool.true_and] at hts
    have hno : isDig (l.getD i 0) = false → allDig l = false := fun hd => by
      refine allDig_mem (c := l.getD i 0) ?_ hd
      rw [List.getD_eq_getElem?_getD, List.getElem?_eq_getElem hin]
      exact List.getElem_mem hin
    have hdd : isDig (l.getD i 0) = (decide (48 ≤ (l.getD i 0).toNat) && decide ((l.getD i 0).toNat ≤ 57)) := rfl
    rcases Nat.lt_or_ge (l.getD i 0).toNat 48 with h48 | h48
    · refine pO_lss rfl rfl (true) (decide_eq_true (by omega)) ?_
      conv => whnf
      exact EndO.go (by rw [hno (by rw [hdd, decide_eq_false (by omega)]; rfl)]; rfl)
    · refine pO_lss rfl rfl (false) (decide_eq_false (by omega)) ?_
      conv => whnf
      rcases Nat.lt_or_ge 57 (l.getD i 0).toNat with h57 | h57
      · refine pO_gtr rfl rfl (true) (decide_eq_true (by omega)) ?_
        conv => whnf
        exact EndO.go (by rw [hno (by rw [hdd, Bool.and_eq_false_iff]; exact .inr (decide_eq_false (by omega)))]; rfl)
      · refine pO_gtr rfl rfl (false) (decide_eq_false (by omega)) ?_
        conv => whnf
        refine pO_add rfl rfl (((i + 1 : Nat) : Int)) (wr64 (by omega) (by omega) (by omega)) ?_
        conv => whnf
        exact RoundO.go ⟨i + 1, ⟨rfl, rfl, rfl, rfl, rfl, rfl, rfl, rfl, trivial⟩, trivial, ⟨hle2, hin, by rw [hts, hdd, decide_eq_true h48, decide_eq_true h57]; rfl⟩, by omega⟩
  · refine pO_lss rfl rfl (false) (decide_eq_false (by omega)) ?_
    conv => whnf
    rw [List.take_of_length_le hin] at hall
    refine pO_sneB (b := []) (allDig l) rfl rfl ?_ ?_
    · unfold allDig; rw [hall]; cases l <;> rfl
    · conv => whnf
      exact EndO.go rfl
theorem wru8 {x y : Int} (e : x = y) (h0 : 0 ≤ y) (h1 : y < 256) : IntKind.u8.wrap x = y := by
  subst e; rw [IntKind.wrap_u8]; omega
theorem u140 : Tryz.prog.underlying 140 = some (.int .u64) := by kernel_rfl
theorem numT_take_succ {l : List UInt8} {i : Nat} (hi : i < l.length) : numT (l.take (i + 1)) = 10 * numT (l.take i) + ((l.getD i 0).toNat - 48) := by
  rw [List.take_succ_eq_append_getElem hi, numT_snoc]
  simp [List.getD_eq_getElem?_getD, hi]
theorem dig_of_all {l : List UInt8} (h : l.all isDig = true) {i : Nat} (hi : i < l.length) : 48 ≤ (l.getD i 0).toNat ∧ (l.getD i 0).toNat ≤ 57 := by
  have := List.all_eq_true.1 h (l.getD i 0) (by rw [List.getD_eq_getElem?_getD, List.getElem?_eq_getElem hi]; exact List.getElem_mem hi)
  simpa [isDig] using this
theorem all_take {l : List UInt8} (h : l.all isDig = true) (i : Nat) : (l.take i).all isDig = true :=
  List.all_eq_true.2 fun x hx => List.all_eq_true.1 h x (List.mem_of_mem_take hx)
theorem all_drop {l : List UInt8} (h : l.all isDig = true) (i : Nat) : (l.drop i).all isDig = true :=
  List.all_eq_true.2 fun x hx => List.all_eq_true.1 h x (List.mem_of_mem_drop hx)
theorem fromDigits_c (l : List UInt8) (hd : l.all isDig = true) (hl : l.length < 536870912) : CallGo Tryz.prog 113 #[.string (bs l)] h NoX fun v h' => Lim h' v (numT l) := by
  refine v_fn tb k113 [.string (bs l)] rfl ?_
  conv => whnf
  refine LoopV.by (α := List UInt8 × Nat × Value) (fun x => [(0, .v (.string (bs x.1))), (3, .v x.2.2)]) (fun _ => [])
    (fun x h' => Lim h' x.2.2 x.2.1 ∧ x.1.all isDig = true ∧ x.1.length ≤ l.length ∧ x.2.1 * 10 ^ x.1.length + numT x.1 = numT l) (fun x => x.1.length) (l, 0, .slice none 0 0)
    ⟨rfl, rfl, rfl, rfl, trivial⟩ trivial ⟨Lim.nil _ _ _, hd, Nat.le_refl _, by dsimp only; omega⟩ ?_
  rintro ⟨r, x, xv⟩ h1 ⟨hx, hda, hlr, hval⟩
  dsimp only at hx hda hlr hval
  dsimp only
  conv => whnf
  have hnl : numT l < W ^ l.length := Nat.lt_of_lt_of_le (numT_lt hd) (Nat.pow_le_pow_left (by decide) _)
  rcases Nat.eq_zero_or_pos r.length with h0 | h0
  · refine pO_gtr rfl rfl (false) (decide_eq_false (by rw [bs_size]; omega)) ?_
    conv => whnf
    have hr : r = [] := List.eq_nil_of_length_eq_zero h0
    subst hr
    have hz : x = numT l := by rw [← hval]; simp [numT, numF]
    exact EndO.go (by rw [← hz]; exact hx)
  · refine pO_gtr rfl rfl (true) (decide_eq_true (by rw [bs_size]; omega)) ?_
    conv => whnf
    obtain ⟨ck, hck⟩ : ∃ ck, r.take 19 = ck := ⟨_, rfl⟩
    have hckl : ck.length = min 19 r.length := by rw [← hck, List.length_take]
    have hckr : r.take ck.length = ck := by
      rw [hckl]
      rcases Nat.le_total 19 r.length with h2 | h2
      · rw [Nat.min_eq_left h2, hck]
      · rw [Nat.min_eq_right h2, List.take_of_length_le (Nat.le_refl _), ← hck, List.take_of_length_le h2]
    have hcd : ck.all isDig = true := by rw [← hck]; exact all_take hda 19
    refine pO_min rfl rfl ((ck.length : Int)) (by rw [bs_size]; split <;> omega) ?_
    conv => whnf
    refine pO_sliceB 0 ck.length ck u9 rfl rfl ⟨_, rfl⟩ (Nat.zero_le _) (by omega) (by rw [List.drop_zero]; exact hckr) ?_
    conv => whnf
    refine eO_bytesB u9 u166 u5 rfl fun A c h2 hle2 hc hr => ?_
    conv => whnf
    refine LoopV.by (α := Nat × Nat × Nat) (fun y => [(0, .v (.string (bs r))), (3, .v xv), (4, .v (.int .i64 (ck.length : Nat))), (5, .v (.int .u64 (y.1 : Nat))), (6, .v (.int .u64 (y.2.1 : Nat))), (18, .v (.slice A ck.length c)), (19, .v (.int .i64 (ck.length : Nat))), (20, .v (.int .i64 (y.2.2 : Nat)))]) (fun _ => [])
      (fun y h' => Le h2 h' ∧ y.2.2 ≤ ck.length ∧ y.1 = numT (ck.take y.2.2) ∧ y.2.1 = 10 ^ y.2.2) (fun y => ck.length - y.2.2) (0, 1, 0)
      ⟨rfl, rfl, rfl, rfl, rfl, rfl, rfl, rfl, rfl, rfl, rfl, rfl, rfl, rfl, rfl, rfl, trivial⟩ trivial ⟨Le.refl _, Nat.zero_le _, rfl, rfl⟩ ?_
    rintro ⟨pt, sc, i⟩ h3 ⟨hle3, hi, hpt, hsc⟩
    dsimp only at hle3 hi hpt hsc
    dsimp only
    conv => whnf
    have hplt : pt < 10 ^ i := by
      have := numT_lt (all_take hcd i)
      rw [List.length_take, Nat.min_eq_left hi] at this
      omega
    rcases Nat.lt_or_ge i ck.length with hin | hin
    · refine pO_lss rfl rfl (true) (decide_eq_true (by omega)) ?_
      conv => whnf
      refine pO_atN u166 s5 rfl rfl (hr.mono hle3) (us_length _) (us_get _ i (by omega)) fun pAt hAt => ?_
      conv => whnf
      refine lO_at hAt ?_
      conv => whnf
      obtain ⟨hd1, hd2⟩ := dig_of_all hcd hin
      have hsucc := numT_take_succ hin
      have hp18 : 10 ^ i ≤ 10 ^ 18 := Nat.pow_le_pow_right (by decide) (by omega)
      refine pO_mul rfl rfl (((10 * pt : Nat) : Int)) (wru64 (by omega) (by omega) (by omega)) ?_
      conv => whnf
      refine pO_sub rfl rfl ((((ck.getD i 0).toNat - 48 : Nat) : Int)) (wru8 (by omega) (by omega) (by omega)) ?_
      conv => whnf
      refine pO_conv (by rfl) u140 rfl (((ck.getD i 0).toNat - 48 : Nat) : Int) (wru64 rfl (by omega) (by omega)) ?_
      conv => whnf
      refine pO_add rfl rfl (((10 * pt + ((ck.getD i 0).toNat - 48) : Nat) : Int)) (wru64 (by omega) (by omega) (by omega)) ?_
      conv => whnf
      refine pO_mul rfl rfl (((sc * 10 : Nat) : Int)) (wru64 (by omega) (by omega) (by omega)) ?_
      conv => whnf
      refine pO_add rfl rfl (((i + 1 : Nat) : Int)) (wr64 (by omega) (by omega) (by omega)) ?_
      conv => whnf
      exact RoundO.go ⟨(10 * pt + ((ck.getD i 0).toNat - 48), sc * 10, i + 1), ⟨rfl, rfl, rfl, rfl, rfl, rfl, rfl, rfl, rfl, rfl, rfl, rfl, rfl, rfl, rfl, rfl, trivial⟩, trivial, ⟨hle3, hin, by dsimp only; rw [hsucc, hpt], by dsimp only; rw [hsc, Nat.pow_succ]⟩, by dsimp only; omega⟩
    · refine pO_lss rfl rfl (false) (decide_eq_false (by omega)) ?_
      conv => whnf
      have hi2 : i = ck.length := by omega
      subst hi2
      rw [List.take_of_length_le (Nat.le_refl _)] at hpt
      have hp19 : 10 ^ ck.length ≤ 10 ^ 19 := Nat.pow_le_pow_right (by decide) (by omega)
      have hsc0 : 0 < 10 ^ ck.length := Nat.pow_pos (by decide)
      refine eO_lits [.int .u64 (sc : Int)] u24 s140 z140 (by decide) rfl rfl (fun v hv => by rw [List.mem_singleton.1 hv]; rfl) fun g hg => ?_
      conv => whnf
      have hf := lim_one (h := h3.upd g (.cells #[.int .u64 (sc : Int)] 140 (0, 0))) (n := sc) (Heap.upd_same _ _ _) (by omega) (by simp only [W]; omega) rfl
      have hrd : r = ck ++ r.drop ck.length := by
        conv => lhs; rw [← List.take_append_drop ck.length r, hckr]
      have hdl : (r.drop ck.length).length = r.length - ck.length := List.length_drop
      have hval2 : (x * sc + pt) * 10 ^ (r.drop ck.length).length + numT (r.drop ck.length) = numT l := by
        rw [← hval]
        conv => rhs; rw [hrd, numT_append, List.length_append, Nat.pow_add]
        rw [hsc, hpt, Nat.add_mul, Nat.mul_assoc, Nat.add_assoc]
      have hle10 : 1 ≤ 10 ^ (r.drop ck.length).length := Nat.pow_pos (by decide)
      have hxs : x * sc + pt ≤ numT l := by
        have := Nat.le_mul_of_pos_right (x * sc + pt) (Nat.lt_of_lt_of_le Nat.one_pos hle10)
        omega
      have hsx : sz x ≤ l.length := sz_le (by
        have h9 := Nat.le_mul_of_pos_right x (show 0 < sc by omega)
        omega)
      have hss : sz sc ≤ 1 := sz_word (by simp only [W]; omega)
      have hsp : sz pt ≤ 1 := sz_word (by simp only [W]; omega)
      have hsxs := sz_mul x sc
      refine CallsO.go (mul_c ((hx.mono (hle2.trans hle3)).mono (Le.upd hg)) hf (by omega)) ?_
      rintro m1 h4 hle4 hm1
      conv => whnf
      refine CallsO.go (limbsOf_c (n := pt) (by simp only [W]; omega)) ?_
      rintro m2 h5 hle5 hm2
      conv => whnf
      refine CallsO.go (add_c (hm1.mono hle5) hm2 (by omega)) ?_
      rintro m3 h6 hle6 hm3
      conv => whnf
      refine pO_sliceB ck.length r.length (r.drop ck.length) u9 rfl ⟨_, rfl⟩ rfl (by omega) (Nat.le_refl _) (by rw [List.take_of_length_le (Nat.le_refl _)]) ?_
      conv => whnf
      refine RoundO.go ⟨(r.drop ck.length, x * sc + pt, m3), ⟨rfl, rfl, rfl, rfl, trivial⟩, trivial, ⟨hm3, all_drop hda _, by dsimp only; omega, hval2⟩, by dsimp only; omega⟩
end
end Go.Proofs.YtplaobhghfndgaaGreatDoor
