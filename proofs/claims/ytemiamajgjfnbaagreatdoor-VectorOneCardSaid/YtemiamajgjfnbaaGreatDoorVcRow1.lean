/- PROVED HERE: 'casementlaw16.VectorOne' returns true for every text, and leaves its argument as it was (the row and its tied card). Conditions: the row's own: the listed variables of Go's library hold what their initialisers lay. -/
import Derived.Test.YtemiamajgjfnbaaGreatDoorVcLo
import Derived.Test.YtemiamajgjfnbaaGreatDoorVcLaid
import Derived.Test.YtemiamajgjfnbaaGreatDoorCards
import Derived.Test.YtemiamajgjfnbaaGreatDoorTie
namespace Go.Proofs.YtemiamajgjfnbaaGreatDoor
open Go.ChangeShapes Go.WideShapes Go.ChangeAt Go.RowKit
set_option linter.unusedVariables false
set_option linter.unusedSimpArgs false
set_option maxRecDepth 100000
theorem one_hand : Rows.vectorOneRow.laid.filter (fun x => x.2.handleName?.isSome) = handL := rfl
theorem one_plain : Rows.vectorOneRow.laid.filter (fun x => x.2.handleName?.isNone) = plainL := rfl
/-- What the law's walk gives, for every argument. -/
theorem one_contract (H : Type) (enc : TypeId × Value → H) (W : World) (base : Nat) (args : Array Value) (ds gs : List (DataW H)) (before : List MemPlace)
    (hval : ∀ (j : Nat) t v, Tryz.f4.params[j]? = some t → args[j]? = some v → Value.okWide Tryz.prog W .any base t v)
    (hW : DataW.Whole enc Tryz.prog Tryz.f4.params.toList Rows.vectorOneSpec.vars false W args.toList ds gs before) (hL : laidMetH Tryz.prog Rows.vectorOneRow.laid W) (hS : W.ShapedOpen Tryz.prog) :
    Calls Tryz.prog 4 args W fun e W' => ∃ v, e = .returned v ∧ Rows.vectorOneSpec.post enc Tryz.prog Tryz.f4 false true false false W args v W' := by
  have hW' := hW
  obtain ⟨p, q, hA0, hV0, rfl, hfz, hnd⟩ := hW
  have hA : DataW.TrodAll enc Tryz.prog W 0 (fun _ => true) true Tryz.f4.params.toList args.toList ds p := hA0
  have hV : DataW.TrodVars enc Tryz.prog W (fun _ => true) [] gs q := hV0
  rw [Tryz.params4] at hA hval
  obtain ⟨v0, d0, rfl, rfl, h0⟩ := trodAll_one hA
  obtain ⟨rfl, rfl⟩ := trodVars_none hV
  obtain ⟨s, rfl, hd1, hp1, hsl⟩ := Go.ChangeMaps.open_string Tryz.underlying9 (hval 0 9 v0 rfl rfl) h0
  have hg := glob_of_laid one_hand one_plain hL hS
  have hbl : ∀ x ∈ p, x.block < W.heap.size := fun x hx => by simpa using hW'.lt x (by simpa using hx)
  refine (law_one s W hg).mono fun e W' ⟨he, hb⟩ => ?_
  subst he
  exact ⟨_, rfl, _, _, _, [], p, [], hW', trodAll_mk1 (shut_bool Tryz.underlying4 true), trodAll_mk1 (Below.trod laidOut readable_str lt_str h0 hb hbl), rfl, hb.frame _, fun h => by cases h⟩
theorem one_shaped (os : Os) : ((witW os).forCall (fun _ _ => 0) ⟨#[], #[.string ⟨#[]⟩], []⟩).Shaped Tryz.prog :=
  World.shaped_of_ZipB (by kernel_rfl) (by kernel_rfl)
theorem one_reads (os : Os) {H : Type} (enc : TypeId × Value → H) : ∃ ds gs places, DataW.whole enc Tryz.prog ((witW os).forCall (fun _ _ => 0) ⟨#[], #[.string ⟨#[]⟩], []⟩).memory Tryz.f4.params.toList Rows.vectorOneSpec.vars false #[.string ⟨#[]⟩].toList 8 = some (ds, gs, places) :=
  ⟨[.lit (.string [])], [], [], by kernel_rfl⟩
theorem one_lifted (os : Os) (started : os.Started) (H : Type) (enc : TypeId × Value → H) (F : Stop.Interp) :
    ReturnsInHanded {} Tryz.checked os 4 .any ((OpenSpec.ofChange Rows.vectorOneSpec).preRow enc Tryz.prog Tryz.f4 Rows.vectorOneRow.domain false Rows.vectorOneRow.laid) (((OpenSpec.ofChange Rows.vectorOneSpec).at F).post enc Tryz.prog Tryz.f4 false true false false) := by
  refine returnsInHanded_of_row (C := Tryz.checked) (s := OpenSpec.ofChange Rows.vectorOneSpec) own started (by kernel_rfl) Tryz.func4
    ⟨witW os, fun _ _ => 0, ⟨#[], #[.string ⟨#[]⟩], []⟩, wit_os _, one_shaped os, rfl, (Input.okWide_of_okWideB (by kernel_rfl)).2, ?_, by simp only [Assume.holds]; exact ⟨by simp, by simp, fun h => (by cases h), by simp, by simp⟩⟩ ?_
  · obtain ⟨ds, gs, places, hx⟩ := one_reads os enc
    exact OpenSpec.preRow_of_cond 8 hx (by simp [Rows.vectorOneRow]) (fun k hk => by cases hk) (by kernel_rfl) (wit_met _ one_hand one_plain os _)
  · intro W base args ds gs before hval hW _ _ _ hL hS _
    exact one_contract H enc W base args ds gs before hval hW hL hS
theorem one_said : Rows.VectorOneSaid :=
  OpenClaim.holds_of_cond 4 Tryz.f4 rfl rfl rfl rfl rfl rfl rfl ⟨rfl, rfl, rfl, rfl, rfl⟩ rfl rfl rfl rfl rfl (by kernel_rfl) Tryz.func4 (by kernel_rfl)
    (of_decide_eq_true (by kernel_rfl)) (by unfold Func.isWrapper; first | (rw [if_pos (by decide +kernel)]; kernel_rfl) | (rw [if_neg (by decide +kernel)]; exact ⟨rfl, rfl⟩))
    (fun os started H enc _ F => by rw [OpenClaim.pre_eq_preRow]; exact one_lifted os started H enc F)
theorem one_looks (f : FuncId) (fn : Func) (hf : Tryz.pinned.checked.prog.funcNamed "casement/casementlaw16.VectorOne" = some f) (hfn : Tryz.pinned.checked.prog.funcs[f]? = some fn) :
    true = Tryz.pinned.checked.prog.looks [] ∧ ∀ (j : Nat) t, fn.params[j]? = some t → Tryz.pinned.checked.prog.wantsStandIn t = false := by
  obtain rfl : f = 4 := Option.some.inj ((show Tryz.prog.funcNamed "casement/casementlaw16.VectorOne" = some 4 by kernel_rfl).symm.trans hf) |>.symm
  obtain rfl : fn = Tryz.f4 := (Option.some.inj (Tryz.func4.symm.trans hfn)).symm
  refine ⟨by kernel_rfl, fun j t ht => ?_⟩
  rw [Tryz.params4] at ht
  have hm : t ∈ [9] := by simpa using Array.mem_of_getElem? ht
  have hall : ([9].all fun u => !Tryz.prog.wantsStandIn u) = true := by kernel_rfl
  exact (show Tryz.prog.wantsStandIn t = false by simpa using List.all_eq_true.1 hall t hm)
/-- The card. -/
theorem one_card : Rows.VectorOneCardSaid :=
  Claim7.holds_tied_plain_at .later [] _ _ _ _ one_said (fun _ h => by cases h) (by kernel_rfl) (fun _ h => by cases h) vectorOne_row_tie rfl ⟨rfl, rfl⟩ (by kernel_rfl) rfl one_looks (by kernel_rfl)
#print axioms one_card
end Go.Proofs.YtemiamajgjfnbaaGreatDoor
