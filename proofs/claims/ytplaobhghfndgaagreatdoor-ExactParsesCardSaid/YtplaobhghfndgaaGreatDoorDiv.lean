import Derived.Test.YtplaobhghfndgaaGreatDoorDivw
/-! Limbs, part 3: quotients. -/
set_option linter.unusedVariables false
set_option linter.unusedSimpArgs false
set_option maxRecDepth 100000
namespace Go.Proofs.YtplaobhghfndgaaGreatDoor
open Go Go.Proofs.Vc
attribute [local irreducible] CallsO EffO PureO LoadO StoreO EndO LoopV RoundO
section
variable {h : Heap}
theorem divWord_c {x : Value} {a d : Nat} (hx : Lim h x a) (hd : 0 < d) (hdW : d < W) (hb : sz a < 1099511627776) : CallGo Tryz.prog 163 #[x, .int .u64 d] h NoX fun v h' => ∃ q, Lim h' q (a / d) ∧ v = .tuple #[q, .int .u64 ((a % d : Nat) : Int)] := by
  obtain ⟨A, ca, rfl, hca, hra⟩ := hx.open
  have hla := low_dig w2 a
  have hda : (dig W a).length = sz a := rfl
  have hva := val_dig w2 a
  generalize sz a = m at *
  refine v_fn tb k163 [.slice A m ca, .int .u64 d] rfl ?_
  conv => whnf
  refine eO_make m u24 e140 rfl rfl rfl (by omega) fun g hg => ?_
  conv => whnf
  refine pO_sub rfl rfl ((m : Int) - 1) (wr64 rfl (by omega) (by omega)) ?_
  conv => whnf
  refine LoopV.by (α := List Nat × Nat × Nat) (fun x => [(0, .v (.slice A m ca)), (1, .v (.int .u64 d)), (6, .v (.slice (some ⟨g, 0, none⟩) m m)), (7, .v (.int .u64 (x.2.2 : Nat))), (8, .v (.int .i64 ((x.2.1 : Int) - 1)))]) (fun _ => [])
    (fun x h' => h' g = some (.cells (ws x.1).toArray 140 (0, 0)) ∧ Le h h' ∧ x.1.length = m ∧ Low W x.1 ∧ x.2.1 ≤ m ∧ x.2.2 < d ∧ val W ((dig W a).drop x.2.1) = val W (x.1.drop x.2.1) * d + x.2.2) (fun x => x.2.1) (List.replicate m 0, m, 0)
    ⟨rfl, rfl, rfl, rfl, rfl, rfl, rfl, rfl, rfl, rfl, trivial⟩ trivial ⟨by rw [ws_replicate]; exact Heap.upd_same _ _ _, Le.upd hg, by simp, low_zeros (by decide) _, Nat.le_refl _, hd, by
      dsimp only
      rw [List.drop_of_length_le (by omega), List.drop_of_length_le (by simp)]
      simp [val]⟩ ?_
  rintro ⟨cur, k, r⟩ h1 ⟨hg1, hle1, hlen, hlow, hk, hr, hval⟩
  dsimp only at hg1 hle1 hlen hlow hk hr hval
  dsimp only
  conv => whnf
  rcases Nat.eq_zero_or_pos k with rfl | hk0
  · refine pO_geq rfl rfl (false) (decide_eq_false (by omega)) ?_
    conv => whnf
    refine CallsO.go (trim_c (row_own hg1) hlen (Nat.le_refl _) (by omega)) ?_
    rintro v h2 hle2 hv2
    conv => whnf
    simp only [List.drop_zero, hva] at hval
    have h3 : a / d = val W cur ∧ a % d = r := by
      rw [hval, Nat.mul_comm, Nat.mul_add_div hd, Nat.div_eq_of_lt hr, Nat.mul_add_mod, Nat.mod_eq_of_lt hr]
      exact ⟨rfl, rfl⟩
    exact EndO.go ⟨_, by rw [h3.1]; exact Lim.of hlow hv2, by rw [h3.2]; rfl⟩
  · obtain ⟨i, rfl⟩ : ∃ i, k = i + 1 := ⟨k - 1, by omega⟩
    have hii : ((i + 1 : Nat) : Int) - 1 = (i : Int) := by omega
    rw [hii]
    refine pO_geq rfl rfl (true) (decide_eq_true (by omega)) ?_
    conv => whnf
    refine pO_atN u24 s140 rfl rfl (hra.mono hle1) ((ws_length _).trans hda) (ws_get _ i (by omega)) fun pAt hAt => ?_
    conv => whnf
    refine lO_at hAt ?_
    conv => whnf
    have hai := low_getD (b := W) (by decide) hla i
    refine CallsO.go (div64_c r ((dig W a).getD i 0) d hr hdW hai) ?_
    rintro v h2 hle2 ⟨rfl, rfl⟩
    conv => whnf
    refine pO_own u24 s140 rfl rfl (by omega) ?_
    conv => whnf
    refine stO_w (hg1) (hg) rfl (by omega) ?_
    conv => whnf
    refine pO_sub rfl rfl ((i : Int) - 1) (wr64 rfl (by omega) (by omega)) ?_
    conv => whnf
    have hqW : (r * W + (dig W a).getD i 0) / d < W := half_ltB hr hai
    refine RoundO.go ⟨(cur.set (0 + i) ((r * W + (dig W a).getD i 0) / d), i, (r * W + (dig W a).getD i 0) % d), ⟨rfl, rfl, rfl, rfl, rfl, rfl, rfl, rfl, rfl, rfl, trivial⟩, trivial, ⟨Heap.upd_same _ _ _, hle1.upd_out hg, by simp [hlen], low_set hlow _ hqW, by dsimp only; omega, Nat.mod_lt _ hd, ?_⟩, by dsimp only; omega⟩
    dsimp only
    rw [Nat.zero_add, val_drop_succ W _ i (by omega), val_drop_succ W _ i (by simp; omega), List.drop_set_of_lt (by omega), hval]
    have h4 : (cur.set i ((r * W + (dig W a).getD i 0) / d)).getD i 0 = (r * W + (dig W a).getD i 0) / d := by
      rw [List.getD_eq_getElem?_getD, List.getElem?_set_self (by omega)]; rfl
    rw [h4]
    have h5 := Nat.div_add_mod (r * W + (dig W a).getD i 0) d
    generalize (r * W + (dig W a).getD i 0) / d = q' at *
    generalize (r * W + (dig W a).getD i 0) % d = r' at *
    generalize val W (cur.drop (i + 1)) = vq at *
    generalize (dig W a).getD i 0 = x at *
    generalize W = w at *
    grind
theorem getD_set_eq {l : List Nat} {i d : Nat} (h : i < l.length) : (l.set i d).getD i 0 = d := by
  rw [List.getD_eq_getElem?_getD, List.getElem?_set_self h]; rfl
theorem shift_step {v0 v1 v2 P w c b z p q x : Nat} (hp : c * b = w) (h10 : b * q + p = x) (h11 : v1 + P * z = v0 + P * (p * c + z)) (h12 : v2 + P * w * 0 = v1 + P * w * q) : v2 = v0 + P * x * c := by
  subst hp h10
  grind
theorem or_low (p q s : Nat) (hq : q < 2 ^ s) (hlt : p * 2 ^ s + q < W) : IntKind.u64.wrap ((BitVec.ofInt IntKind.u64.bits (q : Int) ||| BitVec.ofInt IntKind.u64.bits ((p * 2 ^ s : Nat) : Int)).toNat : Int) = ((p * 2 ^ s + q : Nat) : Int) := by
  rw [BitVec.or_comm]; exact or_high p q s hq hlt
theorem shift_c {x : Value} {a s : Nat} (hx : Lim h x a) (hs : s ≤ 63) (hb : sz a < 1099511627776) : CallGo Tryz.prog 165 #[x, .int .u64 s] h NoX fun v h' => ∃ g zs, h g = none ∧ v = .slice (some ⟨g, 0, none⟩) (sz a + 1) (sz a + 1) ∧ h' g = some (.cells (ws zs).toArray 140 (0, 0)) ∧
    zs.length = sz a + 1 ∧ Low W zs ∧ val W zs = a * 2 ^ s := by
  obtain ⟨A, ca, rfl, hca, hra⟩ := hx.open
  have hla := low_dig w2 a
  have hda : (dig W a).length = sz a := rfl
  have hva := val_dig w2 a
  generalize sz a = m at *
  refine v_fn tb k165 [.slice A m ca, .int .u64 s] rfl ?_
  conv => whnf
  refine pO_add rfl rfl (((m + 1 : Nat) : Int)) (wr64 (by omega) (by omega) (by omega)) ?_
  conv => whnf
  refine eO_make (m + 1) u24 e140 rfl rfl rfl (by omega) fun g hg => ?_
  conv => whnf
  have hp : 2 ^ s * 2 ^ (64 - s) = W := by rw [← Nat.pow_add, show s + (64 - s) = 64 from by omega]
  have hps : 0 < 2 ^ s := Nat.two_pow_pos s
  refine LoopV.by (α := List Nat × Nat) (fun x => [(1, .v (.int .u64 s)), (5, .v (.slice (some ⟨g, 0, none⟩) (m + 1) (m + 1))), (12, .v (.slice A m ca)), (13, .v (.int .i64 m)), (14, .v (.int .i64 (x.2 : Nat)))]) (fun _ => [])
    (fun x h' => h' g = some (.cells (ws x.1).toArray 140 (0, 0)) ∧ Le h h' ∧ x.1.length = m + 1 ∧ Low W x.1 ∧ x.2 ≤ m ∧ val W x.1 = val W ((dig W a).take x.2) * 2 ^ s ∧ x.1.getD x.2 0 < 2 ^ s ∧ (∀ j, x.2 < j → x.1.getD j 0 = 0)) (fun x => m - x.2) (List.replicate (m + 1) 0, 0)
    ⟨rfl, rfl, rfl, rfl, rfl, rfl, rfl, rfl, rfl, rfl, trivial⟩ trivial ⟨by rw [ws_replicate]; exact Heap.upd_same _ _ _, Le.upd hg, by simp, low_zeros (by decide) _, Nat.zero_le _, by simp [val, val_zeros], by simp [List.getD_eq_getElem?_getD, List.getElem?_replicate]; exact hps, fun j _ => by simp [List.getD_eq_getElem?_getD, List.getElem?_replicate]; split <;> rfl⟩ ?_
  rintro ⟨cur, i⟩ h1 ⟨hg1, hle1, hlen, hlow, hi, hval, hci, hzero⟩
  dsimp only at hg1 hle1 hlen hlow hi hval hci hzero
  dsimp only
  conv => whnf
  rcases Nat.lt_or_ge i m with hin | hin
  · refine pO_lss rfl rfl (true) (decide_eq_true (by omega)) ?_
    conv => whnf
    refine pO_atN u24 s140 rfl rfl (hra.mono hle1) ((ws_length _).trans hda) (ws_get _ i (by omega)) fun pAt hAt => ?_
    conv => whnf
    refine lO_at hAt ?_
    conv => whnf
    have hai := low_getD (b := W) (by decide) hla i
    refine pO_own u24 s140 rfl rfl (by omega) ?_
    conv => whnf
    refine lO_own (hg1) rfl (by omega) ?_
    conv => whnf
    have h4 : (dig W a).getD i 0 * 2 ^ s % W = (dig W a).getD i 0 % 2 ^ (64 - s) * 2 ^ s := by
      rw [← hp, Nat.mul_comm (2 ^ s) (2 ^ (64 - s)), Nat.mul_mod_mul_right]
    have h5 : (dig W a).getD i 0 % 2 ^ (64 - s) < 2 ^ (64 - s) := Nat.mod_lt _ (Nat.two_pow_pos _)
    have h6 : (dig W a).getD i 0 % 2 ^ (64 - s) * 2 ^ s + cur.getD (0 + i) 0 < W := by
      rw [Nat.zero_add]
      have h7 : ((dig W a).getD i 0 % 2 ^ (64 - s) + 1) * 2 ^ s ≤ 2 ^ (64 - s) * 2 ^ s := Nat.mul_le_mul_right _ h5
      rw [Nat.succ_mul, Nat.mul_comm (2 ^ (64 - s)), hp] at h7
      omega
    refine pO_shl rfl rfl (by omega) ((((dig W a).getD i 0 % 2 ^ (64 - s) * 2 ^ s : Nat) : Int)) (by rw [shl_nat _ _ (by omega), wrm, h4]) ?_
    conv => whnf
    refine pO_or rfl rfl ((((dig W a).getD i 0 % 2 ^ (64 - s) * 2 ^ s + cur.getD (0 + i) 0 : Nat) : Int)) (or_low _ _ s (by rw [Nat.zero_add]; exact hci) h6) ?_
    conv => whnf
    refine pO_own u24 s140 rfl rfl (by omega) ?_
    conv => whnf
    refine stO_w (hg1) (hg) rfl (by omega) ?_
    conv => whnf
    refine pO_add rfl rfl (((i + 1 : Nat) : Int)) (wr64 (by omega) (by omega) (by omega)) ?_
    conv => whnf
    refine pO_shr rfl rfl (by decide) ((((dig W a).getD i 0 / 2 ^ 1 : Nat) : Int)) (shr_nat _ 1 (by decide)) ?_
    conv => whnf
    refine pO_sub rfl rfl (((63 - s : Nat) : Int)) (wru64 (by omega) (by omega) (by omega)) ?_
    conv => whnf
    refine pO_shr rfl rfl (by omega) ((((dig W a).getD i 0 / 2 ^ (64 - s) : Nat) : Int)) ((shr_nat _ (63 - s) (by omega)).trans (congrArg _ (by rw [Nat.div_div_eq_div_mul, ← Nat.pow_add, show 1 + (63 - s) = 64 - s from by omega]))) ?_
    conv => whnf
    refine pO_own u24 s140 rfl rfl (by omega) ?_
    conv => whnf
    refine stO_w (Heap.upd_same _ _ _) (hg) rfl (by simp; omega) ?_
    conv => whnf
    refine pO_add rfl rfl (((i + 1 : Nat) : Int)) (wr64 (by omega) (by omega) (by omega)) ?_
    conv => whnf
    have h8 : (dig W a).getD i 0 / 2 ^ (64 - s) < 2 ^ s := Nat.div_lt_of_lt_mul (by rw [Nat.mul_comm, hp]; exact hai)
    have h9 : 2 ^ s ≤ W := by rw [← hp]; exact Nat.le_mul_of_pos_right _ (Nat.two_pow_pos _)
    have h10 := Nat.div_add_mod ((dig W a).getD i 0) (2 ^ (64 - s))
    have h11 := val_set W cur (0 + i) ((dig W a).getD i 0 % 2 ^ (64 - s) * 2 ^ s + cur.getD (0 + i) 0) (by omega)
    have h12 := val_set W (cur.set (0 + i) ((dig W a).getD i 0 % 2 ^ (64 - s) * 2 ^ s + cur.getD (0 + i) 0)) (0 + (i + 1)) ((dig W a).getD i 0 / 2 ^ (64 - s)) (by simp; omega)
    have h13 : (cur.set (0 + i) ((dig W a).getD i 0 % 2 ^ (64 - s) * 2 ^ s + cur.getD (0 + i) 0)).getD (0 + (i + 1)) 0 = 0 := by
      rw [getD_set_ne (by omega)]; exact hzero _ (by omega)
    refine RoundO.go ⟨((cur.set (0 + i) ((dig W a).getD i 0 % 2 ^ (64 - s) * 2 ^ s + cur.getD (0 + i) 0)).set (0 + (i + 1)) ((dig W a).getD i 0 / 2 ^ (64 - s)), i + 1), ⟨rfl, rfl, rfl, rfl, rfl, rfl, rfl, rfl, rfl, rfl, trivial⟩, trivial, ⟨Heap.upd_same _ _ _, (hle1.upd_out hg).upd_out hg, by simp [hlen], low_set (low_set hlow _ h6) _ (by omega), hin, ?_, ?_, ?_⟩, by dsimp only; omega⟩
    all_goals dsimp only
    · rw [h13] at h12
      rw [val_take_succ, Nat.add_mul, ← hval]
      simp only [Nat.zero_add] at h11 h12 ⊢
      rw [Nat.pow_succ] at h12
      exact shift_step hp h10 h11 h12
    · simp only [Nat.zero_add]
      rw [getD_set_eq (by rw [List.length_set]; omega)]
      exact h8
    · intro j hj
      rw [getD_set_ne (by omega), getD_set_ne (by omega)]
      exact hzero j (by omega)
  · refine pO_lss rfl rfl (false) (decide_eq_false (by omega)) ?_
    conv => whnf
    have hi2 : i = m := by omega
    subst hi2
    rw [List.take_of_length_le (by omega), hva] at hval
    exact EndO.go ⟨g, cur, hg, rfl, hg1, hlen, hlow, hval⟩
#print axioms divWord_c
end
end Go.Proofs.YtplaobhghfndgaaGreatDoor
