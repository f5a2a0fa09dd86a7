/- The law ExactSquares holds: for every input of its parameters the call returns true and each argument reads behind the call as it read before; the two tables of the library's that the row lists hold what the program's text lays (the card's tie). -/
import Derived.Test.YtplaobhghfndgaaGreatDoorLiftA
import Derived.Test.YtplaobhghfndgaaGreatDoorLiftB
import Derived.Test.YtplaobhghfndgaaGreatDoorLiftC
import Derived.Test.YtplaobhghfndgaaGreatDoorLiftD
import Derived.Test.YtplaobhghfndgaaGreatDoorLiftE
import Derived.Test.YtplaobhghfndgaaGreatDoorLiftF
import Derived.Test.YtplaobhghfndgaaGreatDoorLaw11
import Derived.Test.YtplaobhghfndgaaGreatDoorCard11a
import Derived.SevenTiedAt
import Derived.Lib.SmallJoins
set_option linter.unusedVariables false
set_option linter.unusedSimpArgs false
set_option maxRecDepth 100000
namespace Go.Proofs.YtplaobhghfndgaaGreatDoor.exactSquares
open Go Go.Proofs.Vc Go.ChangeShapes Go.WideShapes Go.ChangeAt Go.RowKit
open Go.ChangeMaps (open_string shut_string)
theorem closed : joinedFacts Tryz.pinned.checked.prog 11 Tryz.f11 (OpenSpec.ofChange Rows.exactSquaresSpec).bare Rows.exactSquaresRow = true := by
  have e1 : (Rows.exactSquaresRow.lifted == Tryz.pinned.checked.prog.liftsFinal) = true := c_lift
  have e2 : (Tryz.pinned.checked.prog.make == some Rows.exactSquaresRow.make) = true := c_make
  unfold joinedFacts
  rw [c_laid, c_maps, c_heard, c_place, c_unf, c_rec, c_named, c_keys, c_enter, e1, e2]
  show (_ : Bool) = true
  kernel_rfl
theorem reads (os : Os) {H : Type} (enc : TypeId × Value → H) : ∃ places, DataW.whole enc Tryz.prog ((laidWorld os).forCall (fun _ _ => 0) ⟨#[], #[.agg #[.string ⟨#[]⟩, .string ⟨#[]⟩], .string ⟨#[]⟩, .int .u8 0], []⟩).memory Tryz.f11.params.toList Rows.exactSquaresSpec.vars false (#[Value.agg #[.string ⟨#[]⟩, .string ⟨#[]⟩], .string ⟨#[]⟩, .int .u8 0]).toList 8 = some ([.agg [.lit (.string []), .lit (.string [])], .lit (.string []), .lit (.int .u8 0)], [], places) :=
  ⟨[], by kernel_rfl⟩
theorem contract (H : Type) (enc : TypeId × Value → H) (W : World) (base : Nat) (args : Array Value) (ds gs : List (DataW H)) (before : List MemPlace)
    (hval : ∀ (j : Nat) t v, Tryz.f11.params[j]? = some t → args[j]? = some v → Value.okWide Tryz.prog W .any base t v)
    (hW : DataW.Whole enc Tryz.prog Tryz.f11.params.toList Rows.exactSquaresSpec.vars false W args.toList ds gs before) (hsh : W.ShapedOpen Tryz.prog) :
    Calls Tryz.prog 11 args W fun e W' => ∃ v, e = .returned v ∧ Rows.exactSquaresSpec.post enc Tryz.prog Tryz.f11 false true false false W args v W' := by
  have hW' := hW
  obtain ⟨p, q, hA0, hV, rfl, hfz, hnd⟩ := hW
  have hA : DataW.TrodAll enc Tryz.prog W 0 (fun _ => true) true Tryz.f11.params.toList args.toList ds p := hA0
  rw [Tryz.params11] at hA hval
  obtain ⟨v0, vs0, d0, ds0, p0, q0, hargs, rfl, rfl, h0, r0⟩ := trodAll_cons hA
  obtain ⟨v1, vs1, d1, ds1, p1, q1, rfl, rfl, rfl, h1, r1⟩ := trodAll_cons r0
  obtain ⟨v2, vs2, d2, ds2, p2, q2, rfl, rfl, rfl, h2, r2⟩ := trodAll_cons r1
  obtain ⟨rfl, rfl, rfl⟩ := trodAll_nil r2
  obtain rfl : args = #[v0, v1, v2] := by cases args; simp_all
  obtain ⟨rfl, rfl⟩ := trodVars_none hV
  obtain ⟨w0_0, w0_1, y0_0, y0_1, fu0, rfl, rfl, rfl, t0_0, t0_1⟩ := Joins.open_agg2 Tryz.underlying72 (by kernel_rfl) (by kernel_rfl) (hval 0 72 v0 rfl rfl) h0
  obtain ⟨s0_0, e0_0, rfl, m0_0⟩ := DataW.trod_string Tryz.underlying9 t0_0
  obtain rfl : w0_0 = .string s0_0 := by simpa using e0_0
  obtain ⟨s0_1, e0_1, rfl, m0_1⟩ := DataW.trod_string Tryz.underlying9 t0_1
  obtain rfl : w0_1 = .string s0_1 := by simpa using e0_1
  obtain ⟨s1, rfl, rfl, rfl, m1⟩ := open_string Tryz.underlying9 (hval 1 9 v1 rfl rfl) h1
  obtain ⟨a2, rfl, rfl, rfl, m2⟩ := open_int Tryz.underlying5 (hval 2 5 v2 rfl rfl) h2
  have b2 : 0 ≤ a2 ∧ a2 ≤ 255 := by simpa [Lit.wf, IntKind.min, IntKind.max, IntKind.signed, IntKind.bits] using m2
  obtain ⟨n2, rfl⟩ : ∃ n : Nat, a2 = n := ⟨a2.toNat, by omega⟩
  clear hA0
  simp only [List.append_nil] at hW'
  refine (law_calls (enters_of Tryz.func11 (by kernel_rfl) rfl _) (law11 s0_0.data.toList s0_1.data.toList s1.data.toList n2 (by omega) (glob_of hsh))).mono ?_
  rintro e W' ⟨rfl, hB⟩
  refine ⟨_, rfl, _, _, _, [], [], [], hW', ?_, ?_, ?_, hB.frame _, fun h => by cases h⟩
  · exact trodAll_cons_mk (shut_bool Tryz.underlying4 true) trodAll_mk0
  · exact (trodAll_cons_mk (Joins.shut_agg2 Tryz.underlying72 (by kernel_rfl) (by kernel_rfl) (shut_string Tryz.underlying9 m0_0) (shut_string Tryz.underlying9 m0_1)) (trodAll_cons_mk (shut_string Tryz.underlying9 m1) (trodAll_cons_mk (shut_int Tryz.underlying5 m2) trodAll_mk0)))
  · rfl
theorem lifted (os : Os) (started : os.Started) (H : Type) (enc : TypeId × Value → H) (F : Stop.Interp) :
    ReturnsInHanded {} Tryz.checked os 11 .any ((OpenSpec.ofChange Rows.exactSquaresSpec).preRow enc Tryz.prog Tryz.f11 Rows.exactSquaresRow.domain false Rows.exactSquaresRow.laid) (((OpenSpec.ofChange Rows.exactSquaresSpec).at F).post enc Tryz.prog Tryz.f11 false true false false) := by
  obtain ⟨places, hx⟩ := reads os enc
  refine returnsInHanded_of_row (C := Tryz.checked) (s := OpenSpec.ofChange Rows.exactSquaresSpec) own started (by kernel_rfl) Tryz.func11
    (witness_row_at (enc := enc) (C := Tryz.checked) false (laidWorld os) #[.agg #[.string ⟨#[]⟩, .string ⟨#[]⟩], .string ⟨#[]⟩, .int .u8 0] rfl (laid_vars os _) (laid_rest os _) (by kernel_rfl)
      (OpenSpec.preRow_of_cond 8 hx (by kernel_rfl) (fun k hk => by cases hk) (by kernel_rfl) (laid_met os _))) ?_
  intro W base args ds gs before hval hW _ _ _ hL hsh _
  exact contract H enc W base args ds gs before hval hW hsh
theorem said : Rows.ExactSquaresSaid :=
  OpenClaim.holds_of_cond 11 Tryz.f11 rfl rfl rfl rfl rfl rfl rfl ⟨rfl, rfl, rfl, rfl, rfl⟩ rfl rfl rfl rfl rfl (by kernel_rfl) Tryz.func11 closed
    (of_decide_eq_true (by kernel_rfl)) (by unfold Func.isWrapper; first | (rw [if_pos (by decide +kernel)]; kernel_rfl) | (rw [if_neg (by decide +kernel)]; exact ⟨rfl, rfl⟩))
    (fun os started H enc _ F => by rw [OpenClaim.pre_eq_preRow]; exact lifted os started H enc F)
theorem plain (f : FuncId) (fn : Func) (hf : Tryz.pinned.checked.prog.funcNamed "venturi/venturilaw01.ExactSquares" = some f) (hfn : Tryz.pinned.checked.prog.funcs[f]? = some fn) :
    false = Tryz.pinned.checked.prog.looks [] ∧ ∀ (j : Nat) t, fn.params[j]? = some t → Tryz.pinned.checked.prog.wantsStandIn t = false := by
  obtain rfl : f = 11 := Option.some.inj ((show Tryz.prog.funcNamed "venturi/venturilaw01.ExactSquares" = some 11 by kernel_rfl).symm.trans hf) |>.symm
  obtain rfl : fn = Tryz.f11 := (Option.some.inj (Tryz.func11.symm.trans hfn)).symm
  refine ⟨by kernel_rfl, fun j t ht => ?_⟩
  rw [Tryz.params11] at ht
  have hm : t = 5 ∨ t = 9 ∨ t = 72 := by have := Array.mem_of_getElem? ht; simp at this; rcases this with rfl | rfl | rfl <;> simp
  rcases hm with rfl | rfl | rfl
  · exact (show Tryz.prog.wantsStandIn 5 = false by kernel_rfl)
  · exact (show Tryz.prog.wantsStandIn 9 = false by kernel_rfl)
  · exact (show Tryz.prog.wantsStandIn 72 = false by kernel_rfl)
/-- The law ExactSquares, its card. -/
theorem card : Rows.ExactSquaresCardSaid :=
  Claim7.holds_tied_plain_at .later [] _ _ _ _ said (fun _ h => by cases h) (by kernel_rfl) (fun _ h => by cases h) exactSquares_row_tie rfl ⟨rfl, rfl⟩ main_is rfl plain (by kernel_rfl)
#print axioms card
end Go.Proofs.YtplaobhghfndgaaGreatDoor.exactSquares
