/- The law ExactPowerLaws holds: for every input of its parameters the call returns true and each argument reads behind the call as it read before; the two tables of the library's that the row lists hold what the program's text lays (the card's tie). -/
import Derived.Test.YtplaobhghfndgaaGreatDoorLiftA
import Derived.Test.YtplaobhghfndgaaGreatDoorLiftB
import Derived.Test.YtplaobhghfndgaaGreatDoorLiftC
import Derived.Test.YtplaobhghfndgaaGreatDoorLiftD
import Derived.Test.YtplaobhghfndgaaGreatDoorLiftE
import Derived.Test.YtplaobhghfndgaaGreatDoorLiftF
import Derived.Test.YtplaobhghfndgaaGreatDoorLaw4
import Derived.Test.YtplaobhghfndgaaGreatDoorCard4a
import Derived.SevenTiedAt
import Derived.Lib.SmallJoins
set_option linter.unusedVariables false
set_option linter.unusedSimpArgs false
set_option maxRecDepth 100000
namespace Go.Proofs.YtplaobhghfndgaaGreatDoor.exactPowerLaws
open Go Go.Proofs.Vc Go.ChangeShapes Go.WideShapes Go.ChangeAt Go.RowKit
open Go.ChangeMaps (open_string shut_string)
theorem closed : joinedFacts Tryz.pinned.checked.prog 4 Tryz.f4 (OpenSpec.ofChange Rows.exactPowerLawsSpec).bare Rows.exactPowerLawsRow = true := by
  have e1 : (Rows.exactPowerLawsRow.lifted == Tryz.pinned.checked.prog.liftsFinal) = true := c_lift
  have e2 : (Tryz.pinned.checked.prog.make == some Rows.exactPowerLawsRow.make) = true := c_make
  unfold joinedFacts
  rw [c_laid, c_maps, c_heard, c_place, c_unf, c_rec, c_named, c_keys, c_enter, e1, e2]
  show (_ : Bool) = true
  kernel_rfl
theorem reads (os : Os) {H : Type} (enc : TypeId × Value → H) : ∃ places, DataW.whole enc Tryz.prog ((laidWorld os).forCall (fun _ _ => 0) ⟨#[], #[.agg #[.string ⟨#[]⟩, .string ⟨#[]⟩, .int .u8 0, .int .u8 0]], []⟩).memory Tryz.f4.params.toList Rows.exactPowerLawsSpec.vars false (#[Value.agg #[.string ⟨#[]⟩, .string ⟨#[]⟩, .int .u8 0, .int .u8 0]]).toList 8 = some ([.agg [.lit (.string []), .lit (.string []), .lit (.int .u8 0), .lit (.int .u8 0)]], [], places) :=
  ⟨[], by kernel_rfl⟩
theorem contract (H : Type) (enc : TypeId × Value → H) (W : World) (base : Nat) (args : Array Value) (ds gs : List (DataW H)) (before : List MemPlace)
    (hval : ∀ (j : Nat) t v, Tryz.f4.params[j]? = some t → args[j]? = some v → Value.okWide Tryz.prog W .any base t v)
    (hW : DataW.Whole enc Tryz.prog Tryz.f4.params.toList Rows.exactPowerLawsSpec.vars false W args.toList ds gs before) (hsh : W.ShapedOpen Tryz.prog) :
    Calls Tryz.prog 4 args W fun e W' => ∃ v, e = .returned v ∧ Rows.exactPowerLawsSpec.post enc Tryz.prog Tryz.f4 false true false false W args v W' := by
  have hW' := hW
  obtain ⟨p, q, hA0, hV, rfl, hfz, hnd⟩ := hW
  have hA : DataW.TrodAll enc Tryz.prog W 0 (fun _ => true) true Tryz.f4.params.toList args.toList ds p := hA0
  rw [Tryz.params4] at hA hval
  obtain ⟨v0, vs0, d0, ds0, p0, q0, hargs, rfl, rfl, h0, r0⟩ := trodAll_cons hA
  obtain ⟨rfl, rfl, rfl⟩ := trodAll_nil r0
  obtain rfl : args = #[v0] := by cases args; simp_all
  obtain ⟨rfl, rfl⟩ := trodVars_none hV
  obtain ⟨w0, w1, w2, w3, y0, y1, y2, y3, fu, rfl, rfl, rfl, t0, t1, t2, t3⟩ := Joins.open_agg4 Tryz.underlying39 (by kernel_rfl) (by kernel_rfl) (hval 0 39 v0 rfl rfl) h0
  obtain ⟨s0, e0, rfl, m0⟩ := DataW.trod_string Tryz.underlying9 t0
  obtain rfl : w0 = .string s0 := by simpa using e0
  obtain ⟨s1, e1, rfl, m1⟩ := DataW.trod_string Tryz.underlying9 t1
  obtain rfl : w1 = .string s1 := by simpa using e1
  obtain ⟨a2, e2, rfl, m2⟩ := DataW.trod_int Tryz.underlying5 t2
  obtain rfl : w2 = .int .u8 a2 := by simpa using e2
  have b2 : 0 ≤ a2 ∧ a2 ≤ 255 := by simpa [Lit.wf, IntKind.min, IntKind.max, IntKind.signed, IntKind.bits] using m2
  obtain ⟨n2, rfl⟩ : ∃ n : Nat, a2 = n := ⟨a2.toNat, by omega⟩
  obtain ⟨a3, e3, rfl, m3⟩ := DataW.trod_int Tryz.underlying5 t3
  obtain rfl : w3 = .int .u8 a3 := by simpa using e3
  have b3 : 0 ≤ a3 ∧ a3 ≤ 255 := by simpa [Lit.wf, IntKind.min, IntKind.max, IntKind.signed, IntKind.bits] using m3
  obtain ⟨n3, rfl⟩ : ∃ n : Nat, a3 = n := ⟨a3.toNat, by omega⟩
  clear hA0
  simp only [List.append_nil] at hW'
  refine (law_calls (enters_of Tryz.func4 (by kernel_rfl) rfl _) (law4 s0.data.toList s1.data.toList n2 n3 (by omega) (by omega) (glob_of hsh))).mono ?_
  rintro e W' ⟨rfl, hB⟩
  refine ⟨_, rfl, _, _, _, [], [], [], hW', ?_, ?_, ?_, hB.frame _, fun h => by cases h⟩
  · exact trodAll_cons_mk (shut_bool Tryz.underlying4 true) trodAll_mk0
  · exact (trodAll_cons_mk (Joins.shut_agg4 Tryz.underlying39 (by kernel_rfl) (by kernel_rfl) (shut_string Tryz.underlying9 m0) (shut_string Tryz.underlying9 m1) (shut_int Tryz.underlying5 m2) (shut_int Tryz.underlying5 m3)) trodAll_mk0)
  · rfl
theorem lifted (os : Os) (started : os.Started) (H : Type) (enc : TypeId × Value → H) (F : Stop.Interp) :
    ReturnsInHanded {} Tryz.checked os 4 .any ((OpenSpec.ofChange Rows.exactPowerLawsSpec).preRow enc Tryz.prog Tryz.f4 Rows.exactPowerLawsRow.domain false Rows.exactPowerLawsRow.laid) (((OpenSpec.ofChange Rows.exactPowerLawsSpec).at F).post enc Tryz.prog Tryz.f4 false true false false) := by
  obtain ⟨places, hx⟩ := reads os enc
  refine returnsInHanded_of_row (C := Tryz.checked) (s := OpenSpec.ofChange Rows.exactPowerLawsSpec) own started (by kernel_rfl) Tryz.func4
    (witness_row_at (enc := enc) (C := Tryz.checked) false (laidWorld os) #[.agg #[.string ⟨#[]⟩, .string ⟨#[]⟩, .int .u8 0, .int .u8 0]] rfl (laid_vars os _) (laid_rest os _) (by kernel_rfl)
      (OpenSpec.preRow_of_cond 8 hx (by kernel_rfl) (fun k hk => by cases hk) (by kernel_rfl) (laid_met os _))) ?_
  intro W base args ds gs before hval hW _ _ _ hL hsh _
  exact contract H enc W base args ds gs before hval hW hsh
theorem said : Rows.ExactPowerLawsSaid :=
  OpenClaim.holds_of_cond 4 Tryz.f4 rfl rfl rfl rfl rfl rfl rfl ⟨rfl, rfl, rfl, rfl, rfl⟩ rfl rfl rfl rfl rfl (by kernel_rfl) Tryz.func4 closed
    (of_decide_eq_true (by kernel_rfl)) (by unfold Func.isWrapper; first | (rw [if_pos (by decide +kernel)]; kernel_rfl) | (rw [if_neg (by decide +kernel)]; exact ⟨rfl, rfl⟩))
    (fun os started H enc _ F => by rw [OpenClaim.pre_eq_preRow]; exact lifted os started H enc F)
theorem plain (f : FuncId) (fn : Func) (hf : Tryz.pinned.checked.prog.funcNamed "venturi/venturilaw01.ExactPowerLaws" = some f) (hfn : Tryz.pinned.checked.prog.funcs[f]? = some fn) :
    false = Tryz.pinned.checked.prog.looks [] ∧ ∀ (j : Nat) t, fn.params[j]? = some t → Tryz.pinned.checked.prog.wantsStandIn t = false := by
  obtain rfl : f = 4 := Option.some.inj ((show Tryz.prog.funcNamed "venturi/venturilaw01.ExactPowerLaws" = some 4 by kernel_rfl).symm.trans hf) |>.symm
  obtain rfl : fn = Tryz.f4 := (Option.some.inj (Tryz.func4.symm.trans hfn)).symm
  refine ⟨by kernel_rfl, fun j t ht => ?_⟩
  rw [Tryz.params4] at ht
  have hm : t = 39 := by have := Array.mem_of_getElem? ht; simpa using this
  subst hm
  exact (show Tryz.prog.wantsStandIn 39 = false by kernel_rfl)
/-- The law ExactPowerLaws, its card. -/
theorem card : Rows.ExactPowerLawsCardSaid :=
  Claim7.holds_tied_plain_at .later [] _ _ _ _ said (fun _ h => by cases h) (by kernel_rfl) (fun _ h => by cases h) exactPowerLaws_row_tie rfl ⟨rfl, rfl⟩ main_is rfl plain (by kernel_rfl)
#print axioms card
end Go.Proofs.YtplaobhghfndgaaGreatDoor.exactPowerLaws
