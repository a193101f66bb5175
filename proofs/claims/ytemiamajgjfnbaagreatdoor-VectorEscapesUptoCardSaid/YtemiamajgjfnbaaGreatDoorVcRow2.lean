/- PROVED HERE: 'casementlaw16.VectorEscapes' returns true for every two texts whose bulk together is at most the second form's bound, and leaves its arguments as they were (the second form's row and its tied card). Conditions: the row's own: the bound; the listed variables of Go's library hold what their initialisers lay. -/
import Derived.Test.YtemiamajgjfnbaaGreatDoorVcLe
import Derived.Test.YtemiamajgjfnbaaGreatDoorVcLaid
import Derived.Test.YtemiamajgjfnbaaGreatDoorCards
import Derived.Test.YtemiamajgjfnbaaGreatDoorTie
namespace Go.Proofs.YtemiamajgjfnbaaGreatDoor
open Go.ChangeShapes Go.WideShapes Go.ChangeAt Go.RowKit
set_option linter.unusedVariables false
set_option linter.unusedSimpArgs false
set_option maxRecDepth 100000
theorem esc_hand : Rows.vectorEscapesUptoRow.laid.filter (fun x => x.2.handleName?.isSome) = handL := rfl
theorem esc_plain : Rows.vectorEscapesUptoRow.laid.filter (fun x => x.2.handleName?.isNone) = plainL := rfl
/-- What the law's walk gives, for every argument. -/
theorem esc_contract (H : Type) (enc : TypeId × Value → H) (W : World) (base : Nat) (args : Array Value) (ds gs : List (DataW H)) (before : List MemPlace)
    (hval : ∀ (j : Nat) t v, Tryz.f5.params[j]? = some t → args[j]? = some v → Value.okWide Tryz.prog W .any base t v)
    (hW : DataW.Whole enc Tryz.prog Tryz.f5.params.toList Rows.vectorEscapesSpec.vars false W args.toList ds gs before) (hk : Rows.uptoSmall H (ds ++ gs) = true) (hL : laidMetH Tryz.prog Rows.vectorEscapesUptoRow.laid W) (hS : W.ShapedOpen Tryz.prog) :
    Calls Tryz.prog 5 args W fun e W' => ∃ v, e = .returned v ∧ Rows.vectorEscapesSpec.post enc Tryz.prog Tryz.f5 false true false false W args v W' := by
  have hW' := hW
  obtain ⟨p, q, hA0, hV0, rfl, hfz, hnd⟩ := hW
  have hA : DataW.TrodAll enc Tryz.prog W 0 (fun _ => true) true Tryz.f5.params.toList args.toList ds p := hA0
  have hV : DataW.TrodVars enc Tryz.prog W (fun _ => true) [] gs q := hV0
  rw [Tryz.params5] at hA hval
  obtain ⟨v0, v1, d0, d1, p0, p1, rfl, rfl, rfl, h0, h1⟩ := trodAll_two hA
  obtain ⟨rfl, rfl⟩ := trodVars_none hV
  obtain ⟨a, rfl, hd0, hp0, hsa⟩ := Go.ChangeMaps.open_string Tryz.underlying9 (hval 0 9 v0 rfl rfl) h0
  obtain ⟨b, rfl, hd1, hp1, hsb⟩ := Go.ChangeMaps.open_string Tryz.underlying9 (hval 1 9 v1 rfl rfl) h1
  have hbulk : Rows.uptoBulkAll ([d0, d1] ++ []) ≤ 1048576 := of_decide_eq_true hk
  have hd0' := hd0
  have hd1' := hd1
  subst hd0 hd1
  simp only [List.append_nil, Rows.uptoBulkAll, Rows.uptoBulk] at hbulk
  have ha : a.size ≤ 1048576 := by have e : a.data.toList.length = a.size := rfl; omega
  have hb : b.size ≤ 1048576 := by have e : b.data.toList.length = b.size := rfl; omega
  have hg := glob_of_laid esc_hand esc_plain hL hS
  have hbl : ∀ x ∈ p0 ++ p1, x.block < W.heap.size := fun x hx => by simpa using hW'.lt x (by simpa using hx)
  refine (law_esc a b W ha hb hg).mono fun e W' ⟨he, hb⟩ => ?_
  subst he
  exact ⟨_, rfl, _, _, _, [], p0 ++ p1, [], hW', trodAll_mk1 (shut_bool Tryz.underlying4 true), trodAll_mk2 (Below.trod laidOut readable_str lt_str h0 hb (fun x hx => hbl x (List.mem_append_left _ hx))) (Below.trod laidOut readable_str lt_str h1 hb (fun x hx => hbl x (List.mem_append_right _ hx))), rfl, hb.frame _, fun h => by cases h⟩
theorem esc_shaped (os : Os) : ((witW os).forCall (fun _ _ => 0) ⟨#[], #[.string ⟨#[]⟩, .string ⟨#[]⟩], []⟩).Shaped Tryz.prog :=
  World.shaped_of_ZipB (by kernel_rfl) (by kernel_rfl)
theorem esc_reads (os : Os) {H : Type} (enc : TypeId × Value → H) : ∃ places, DataW.whole enc Tryz.prog ((witW os).forCall (fun _ _ => 0) ⟨#[], #[.string ⟨#[]⟩, .string ⟨#[]⟩], []⟩).memory Tryz.f5.params.toList Rows.vectorEscapesSpec.vars false (#[.string ⟨#[]⟩, .string ⟨#[]⟩] : Array Value).toList 8 = some ([.lit (.string []), .lit (.string [])], [], places) :=
  ⟨[], by kernel_rfl⟩
theorem esc_lifted (os : Os) (started : os.Started) (H : Type) (enc : TypeId × Value → H) (F : Stop.Interp) :
    ReturnsInHanded {} Tryz.checked os 5 .any ((Rows.OpenSpec.upto Rows.vectorEscapesSpec).preRow enc Tryz.prog Tryz.f5 Rows.vectorEscapesUptoRow.domain false Rows.vectorEscapesUptoRow.laid) (((Rows.OpenSpec.upto Rows.vectorEscapesSpec).at F).post enc Tryz.prog Tryz.f5 false true false false) := by
  refine returnsInHanded_of_row (C := Tryz.checked) (s := Rows.OpenSpec.upto Rows.vectorEscapesSpec) own started (by kernel_rfl) Tryz.func5
    ⟨witW os, fun _ _ => 0, ⟨#[], #[.string ⟨#[]⟩, .string ⟨#[]⟩], []⟩, wit_os _, esc_shaped os, rfl, (Input.okWide_of_okWideB (by kernel_rfl)).2, ?_, by simp only [Assume.holds]; exact ⟨by simp, by simp, fun h => (by cases h), by simp, by simp⟩⟩ ?_
  · obtain ⟨places, hx⟩ := esc_reads os enc
    exact OpenSpec.preRow_of_cond 8 hx (by simp [Rows.vectorEscapesUptoRow]) (fun k hk => by cases hk; kernel_rfl) (by kernel_rfl) (wit_met _ esc_hand esc_plain os _)
  · intro W base args ds gs before hval hW _ hcond _ hL hS _
    exact esc_contract H enc W base args ds gs before hval hW (hcond _ rfl) hL hS
theorem esc_said : Rows.VectorEscapesUptoSaid :=
  OpenClaim.holds_of_cond 5 Tryz.f5 rfl rfl rfl rfl rfl rfl rfl ⟨rfl, rfl, rfl, rfl, rfl⟩ rfl rfl rfl rfl rfl (by kernel_rfl) Tryz.func5 (by kernel_rfl)
    (of_decide_eq_true (by kernel_rfl)) (by unfold Func.isWrapper; first | (rw [if_pos (by decide +kernel)]; kernel_rfl) | (rw [if_neg (by decide +kernel)]; exact ⟨rfl, rfl⟩))
    (fun os started H enc _ F => by rw [OpenClaim.pre_eq_preRow]; exact esc_lifted os started H enc F)
theorem esc_looks (f : FuncId) (fn : Func) (hf : Tryz.pinned.checked.prog.funcNamed "casement/casementlaw16.VectorEscapes" = some f) (hfn : Tryz.pinned.checked.prog.funcs[f]? = some fn) :
    true = Tryz.pinned.checked.prog.looks [] ∧ ∀ (j : Nat) t, fn.params[j]? = some t → Tryz.pinned.checked.prog.wantsStandIn t = false := by
  obtain rfl : f = 5 := Option.some.inj ((show Tryz.prog.funcNamed "casement/casementlaw16.VectorEscapes" = some 5 by kernel_rfl).symm.trans hf) |>.symm
  obtain rfl : fn = Tryz.f5 := (Option.some.inj (Tryz.func5.symm.trans hfn)).symm
  refine ⟨by kernel_rfl, fun j t ht => ?_⟩
  rw [Tryz.params5] at ht
  have hm : t ∈ [9, 9] := by simpa using Array.mem_of_getElem? ht
  have hall : ([9, 9].all fun u => !Tryz.prog.wantsStandIn u) = true := by kernel_rfl
  exact (show Tryz.prog.wantsStandIn t = false by simpa using List.all_eq_true.1 hall t hm)
/-- The card. -/
theorem esc_card : Rows.VectorEscapesUptoCardSaid :=
  Claim7.holds_tied_plain_at .later [] _ _ _ _ esc_said (fun _ h => by cases h) (by kernel_rfl) (fun _ h => by cases h) vectorEscapesUpto_row_tie rfl ⟨rfl, rfl⟩ (by kernel_rfl) rfl esc_looks (by kernel_rfl)
#print axioms esc_card
end Go.Proofs.YtemiamajgjfnbaaGreatDoor
