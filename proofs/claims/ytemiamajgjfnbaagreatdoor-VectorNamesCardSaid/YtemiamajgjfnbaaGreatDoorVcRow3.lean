/- PROVED HERE: 'casementlaw16.VectorNames' returns true (the row and its tied card). Conditions: the row's own: the listed variables of Go's library hold what their initialisers lay. -/
import Derived.Test.YtemiamajgjfnbaaGreatDoorVcLn
import Derived.Test.YtemiamajgjfnbaaGreatDoorVcLaid
import Derived.Test.YtemiamajgjfnbaaGreatDoorCards
import Derived.Test.YtemiamajgjfnbaaGreatDoorTie
namespace Go.Proofs.YtemiamajgjfnbaaGreatDoor
open Go.ChangeShapes Go.WideShapes Go.ChangeAt Go.RowKit
set_option linter.unusedVariables false
set_option linter.unusedSimpArgs false
set_option maxRecDepth 100000
theorem nam_hand : Rows.vectorNamesRow.laid.filter (fun x => x.2.handleName?.isSome) = handL := rfl
theorem nam_plain : Rows.vectorNamesRow.laid.filter (fun x => x.2.handleName?.isNone) = plainL := rfl
theorem names_none {H : Type} {enc : TypeId × Value → H} {W : World} {b : Nat} {sp : Nat → Bool} {held : Bool} {args : Array Value} {ds : List (DataW H)} {p : List MemPlace} (h : DataW.TrodAll enc Tryz.prog W b sp held [] args.toList ds p) : args = #[] ∧ ds = [] ∧ p = [] := by
  obtain ⟨l⟩ := args
  cases l with
  | nil =>
    cases ds with
    | nil => exact ⟨rfl, rfl, h⟩
    | cons d r => exact absurd h (by intro h; cases h)
  | cons v r => exact absurd h (by intro h; cases h)
/-- What the law's walk gives. -/
theorem nam_contract (H : Type) (enc : TypeId × Value → H) (W : World) (base : Nat) (args : Array Value) (ds gs : List (DataW H)) (before : List MemPlace)
    (hval : ∀ (j : Nat) t v, Tryz.f3.params[j]? = some t → args[j]? = some v → Value.okWide Tryz.prog W .any base t v)
    (hW : DataW.Whole enc Tryz.prog Tryz.f3.params.toList Rows.vectorNamesSpec.vars false W args.toList ds gs before) (hL : laidMetH Tryz.prog Rows.vectorNamesRow.laid W) (hS : W.ShapedOpen Tryz.prog) :
    Calls Tryz.prog 3 args W fun e W' => ∃ v, e = .returned v ∧ Rows.vectorNamesSpec.post enc Tryz.prog Tryz.f3 false true false false W args v W' := by
  have hW' := hW
  obtain ⟨p, q, hA0, hV0, rfl, hfz, hnd⟩ := hW
  have hA : DataW.TrodAll enc Tryz.prog W 0 (fun _ => true) true Tryz.f3.params.toList args.toList ds p := hA0
  have hV : DataW.TrodVars enc Tryz.prog W (fun _ => true) [] gs q := hV0
  rw [Tryz.params3] at hA hval
  obtain ⟨rfl, rfl, rfl⟩ := names_none hA
  obtain ⟨rfl, rfl⟩ := trodVars_none hV
  have hg := glob_of_laid nam_hand nam_plain hL hS
  refine (law_names W hg).mono fun e W' ⟨he, hb⟩ => ?_
  subst he
  exact ⟨_, rfl, _, _, _, [], [], [], hW', trodAll_mk1 (shut_bool Tryz.underlying4 true), trodAll_mk0, rfl, hb.frame _, fun h => by cases h⟩
theorem nam_shaped (os : Os) : ((witW os).forCall (fun _ _ => 0) ⟨#[], #[], []⟩).Shaped Tryz.prog :=
  World.shaped_of_ZipB (by kernel_rfl) (by kernel_rfl)
theorem nam_reads (os : Os) {H : Type} (enc : TypeId × Value → H) : ∃ places, DataW.whole enc Tryz.prog ((witW os).forCall (fun _ _ => 0) ⟨#[], #[], []⟩).memory Tryz.f3.params.toList Rows.vectorNamesSpec.vars false (#[] : Array Value).toList 8 = some ([], [], places) :=
  ⟨[], by kernel_rfl⟩
theorem nam_lifted (os : Os) (started : os.Started) (H : Type) (enc : TypeId × Value → H) (F : Stop.Interp) :
    ReturnsInHanded {} Tryz.checked os 3 .any ((OpenSpec.ofChange Rows.vectorNamesSpec).preRow enc Tryz.prog Tryz.f3 Rows.vectorNamesRow.domain false Rows.vectorNamesRow.laid) (((OpenSpec.ofChange Rows.vectorNamesSpec).at F).post enc Tryz.prog Tryz.f3 false true false false) := by
  refine returnsInHanded_of_row (C := Tryz.checked) (s := OpenSpec.ofChange Rows.vectorNamesSpec) own started (by kernel_rfl) Tryz.func3
    ⟨witW os, fun _ _ => 0, ⟨#[], #[], []⟩, wit_os _, nam_shaped os, rfl, (Input.okWide_of_okWideB (by kernel_rfl)).2, ?_, by simp only [Assume.holds]; exact ⟨by simp, by simp, fun h => (by cases h), by simp, by simp⟩⟩ ?_
  · obtain ⟨places, hx⟩ := nam_reads os enc
    exact OpenSpec.preRow_of_cond 8 hx (by simp [Rows.vectorNamesRow]) (fun k hk => by cases hk) (by kernel_rfl) (wit_met _ nam_hand nam_plain os _)
  · intro W base args ds gs before hval hW _ hcond _ hL hS _
    exact nam_contract H enc W base args ds gs before hval hW hL hS
theorem nam_said : Rows.VectorNamesSaid :=
  OpenClaim.holds_of_cond 3 Tryz.f3 rfl rfl rfl rfl rfl rfl rfl ⟨rfl, rfl, rfl, rfl, rfl⟩ rfl rfl rfl rfl rfl (by kernel_rfl) Tryz.func3 (by kernel_rfl)
    (of_decide_eq_true (by kernel_rfl)) (by unfold Func.isWrapper; first | (rw [if_pos (by decide +kernel)]; kernel_rfl) | (rw [if_neg (by decide +kernel)]; exact ⟨rfl, rfl⟩))
    (fun os started H enc _ F => by rw [OpenClaim.pre_eq_preRow]; exact nam_lifted os started H enc F)
theorem nam_looks (f : FuncId) (fn : Func) (hf : Tryz.pinned.checked.prog.funcNamed "casement/casementlaw16.VectorNames" = some f) (hfn : Tryz.pinned.checked.prog.funcs[f]? = some fn) :
    true = Tryz.pinned.checked.prog.looks [] ∧ ∀ (j : Nat) t, fn.params[j]? = some t → Tryz.pinned.checked.prog.wantsStandIn t = false := by
  obtain rfl : f = 3 := Option.some.inj ((show Tryz.prog.funcNamed "casement/casementlaw16.VectorNames" = some 3 by kernel_rfl).symm.trans hf) |>.symm
  obtain rfl : fn = Tryz.f3 := (Option.some.inj (Tryz.func3.symm.trans hfn)).symm
  refine ⟨by kernel_rfl, fun j t ht => ?_⟩
  rw [Tryz.params3] at ht
  simp at ht
/-- The card. -/
theorem nam_card : Rows.VectorNamesCardSaid :=
  Claim7.holds_tied_plain_at .later [] _ _ _ _ nam_said (fun _ h => by cases h) (by kernel_rfl) (fun _ h => by cases h) vectorNames_row_tie rfl ⟨rfl, rfl⟩ (by kernel_rfl) rfl nam_looks (by kernel_rfl)
#print axioms nam_card
end Go.Proofs.YtemiamajgjfnbaaGreatDoor
