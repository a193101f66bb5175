/- PROVED HERE: 'casementlaw19.EventTexts' returns true for every event and every text, and leaves its arguments as they were (the row and its tied card). Conditions: the row's own: the listed variables of Go's library hold what their initialisers lay. -/
import Derived.Test.YtgkpbpcebgegbaaDoorEvQ6
import Derived.Test.YtgkpbpcebgegbaaDoorEvLaid
import Derived.Test.YtgkpbpcebgegbaaDoorCards
import Derived.Test.YtgkpbpcebgegbaaDoorTie
import Derived.Lib.LaidU8T
import Derived.PinnedBridge
import Derived.Shelf.Vars
namespace Go.Proofs.YtgkpbpcebgegbaaDoor
open Go.ChangeShapes Go.WideShapes Go.ChangeAt Go.RowKit Ev
set_option linter.unusedVariables false
set_option linter.unusedSimpArgs false
set_option maxRecDepth 100000

theorem n_pow10 : Tryd.prog.globalNamed "internal/strconv.uint64pow10" = some 2 := by kernel_rfl
theorem y_pow10 : (Tryd.prog.globals[2]?).map (·.type) = some 114 := by kernel_rfl
theorem n_errR : Tryd.prog.globalNamed "strconv.ErrRange" = some 5 := by kernel_rfl
theorem n_errS : Tryd.prog.globalNamed "strconv.ErrSyntax" = some 4 := by kernel_rfl
theorem y_errR : (Tryd.prog.globals[5]?).map (·.type) = some 67 := by kernel_rfl
theorem y_errS : (Tryd.prog.globals[4]?).map (·.type) = some 67 := by kernel_rfl
theorem c_u64 : Tryd.prog.cellsOf 94 = 1 := by kernel_rfl
theorem c_tab : Tryd.prog.cellsOf 114 = 20 := by kernel_rfl
theorem c_es : Tryd.prog.cellsOf 130 = 1 := by kernel_rfl
theorem c_str : Tryd.prog.cellsOf 9 = 1 := by kernel_rfl
theorem row_es (u : TypeId) (h : Tryd.prog.typeName? 3 u = some "*errors.errorString") : u = 128 :=
  typeName_ptr_named (nm := "errors.errorString") (by kernel_rfl) (by kernel_rfl) (by decide) u h
theorem u8x : U8Extra Tryd.prog Tryd.lays196_ren := ⟨by kernel_rfl, by kernel_rfl, by kernel_rfl, by kernel_rfl, by kernel_rfl, by kernel_rfl, by kernel_rfl⟩

noncomputable def zeroRow (g : Nat) : Array Value := ((((begin Tryd.prog (fun _ _ => 0) default).world.heap[g]?).bind Obj.row?).map (·.1)).getD #[]
noncomputable def zeroTy (g : Nat) : TypeId := ((((begin Tryd.prog (fun _ _ => 0) default).world.heap[g]?).bind Obj.row?).map (·.2)).getD 0
/-- What the row's list, and the variables' types, give the walks. -/
theorem glob_of_laid {W : World} (hL : laidMetH Tryd.prog Rows.eventTextsRow.laid W) (hS : W.ShapedOpen Tryd.prog) : Glob W := by
  have h : laidMet Tryd.prog Rows.eventTextsRow.laid W := by rwa [MakeChecks.laidMetH_plain _ _ _ (by kernel_rfl)] at hL
  have h2 := laidMet.tail (laidMet.tail h)
  have h4 := laidMet.tail (laidMet.tail h2)
  have h5 := laidMet.tail h4
  refine ⟨?_, ?_, ?_, ?_, ?_, ?_⟩
  · obtain ⟨cs, hc, _⟩ := hS.1 7 (zeroRow 7) (zeroTy 7) (of_decide_eq_true (by kernel_rfl)) (by kernel_rfl)
    exact (Array.getElem?_eq_some_iff.1 hc).1
  · refine Lib.tabIs_of_head (k := .u64) (zs := Lib.pow10Tab) n_pow10 y_pow10 Tryd.underlying114 Tryd.underlying94 c_u64 c_tab (rest := Rows.eventTextsRow.laid.drop 3) ?_
    exact h2
  · exact cell_of_shapedOpen_int hS (of_decide_eq_true (by kernel_rfl)) (zero := #[.int .i64 0]) (t := 3) (by kernel_rfl) rfl (by kernel_rfl) (by kernel_rfl) Tryd.underlying3
  · obtain ⟨a, s, hv, _⟩ := laid_sentinel h5 n_errS y_errS Tryd.underlying67 row_es Tryd.underlying128 Tryd.underlying130 rfl rfl Tryd.underlying9 c_es c_str
    exact ⟨_, _, by simpa using World.var?_cell n_errS hv 0⟩
  · obtain ⟨a, s, hv, _⟩ := laid_sentinel h4 n_errR y_errR Tryd.underlying67 row_es Tryd.underlying128 Tryd.underlying130 rfl rfl Tryd.underlying9 c_es c_str
    exact ⟨_, _, by simpa using World.var?_cell n_errR hv 0⟩
  · refine utf8Tabs_of_readsT (U8Types.of196 Tryd.lays196) u8x ?_ ?_
    · have := Lib.laidMet.reads h (n := "unicode/utf8.first") (d := Rows.laid_unicode_utf8_first) (by simp [Rows.eventTextsRow])
      rwa [show Rows.laid_unicode_utf8_first = Lib.firstData from Pinned.utf8First_eq] at this
    · have := Lib.laidMet.reads h (n := "unicode/utf8.acceptRanges") (d := Rows.laid_unicode_utf8_acceptRanges) (by simp [Rows.eventTextsRow])
      rwa [show Rows.laid_unicode_utf8_acceptRanges = Lib.acceptData by kernel_rfl] at this

theorem readable_ev : Tryd.prog.readableRec 29 = true := by kernel_rfl
theorem readable_str : Tryd.prog.readableRec 9 = true := by kernel_rfl
theorem lt_ev : 29 < Tryd.prog.types.size := of_decide_eq_true (by kernel_rfl)
theorem lt_str : 9 < Tryd.prog.types.size := of_decide_eq_true (by kernel_rfl)

/-- What the law's walk gives, for every argument. -/
theorem contract (H : Type) (enc : TypeId × Value → H) (W : World) (base : Nat) (args : Array Value) (ds gs : List (DataW H)) (before : List MemPlace)
    (hval : ∀ (j : Nat) t v, Tryd.f3.params[j]? = some t → args[j]? = some v → Value.okWide Tryd.prog W .any base t v)
    (hW : DataW.Whole enc Tryd.prog Tryd.f3.params.toList Rows.eventTextsSpec.vars false W args.toList ds gs before) (hL : laidMetH Tryd.prog Rows.eventTextsRow.laid W) (hS : W.ShapedOpen Tryd.prog) :
    Calls Tryd.prog 3 args W fun e W' => ∃ v, e = .returned v ∧ Rows.eventTextsSpec.post enc Tryd.prog Tryd.f3 false true false false W args v W' := by
  have hW' := hW
  obtain ⟨p, q, hA0, hV0, rfl, hfz, hnd⟩ := hW
  have hA : DataW.TrodAll enc Tryd.prog W 0 (fun _ => true) true Tryd.f3.params.toList args.toList ds p := hA0
  have hV : DataW.TrodVars enc Tryd.prog W (fun _ => true) [] gs q := hV0
  rw [Tryd.params3] at hA hval
  obtain ⟨v0, v1, d0, d1, p0, p1, rfl, rfl, rfl, h0, h1⟩ := trodAll_two hA
  obtain ⟨rfl, rfl⟩ := trodVars_none hV
  obtain ⟨k, ax, ay, sw, sh, m, n, nm, tx, rfl, hm, hnl, htl⟩ := open_event (hval 0 29 v0 rfl rfl) h0
  obtain ⟨s, rfl, hd1, hp1, hsl⟩ := Go.ChangeMaps.open_string Tryd.underlying9 (hval 1 9 v1 rfl rfl) h1
  have hg := glob_of_laid hL hS
  have hbl : ∀ x ∈ p0 ++ p1, x.block < W.heap.size := fun x hx => by simpa using hW'.lt x (by simpa using hx)
  have hlaw := law_any ⟨k, ax, ay, sw, sh, nm.data.toList, m, tx.data.toList, n⟩ s W hg (by unfold maxLen at hnl; show nm.size ≤ _; omega) hm
  have hev : EV ⟨k, ax, ay, sw, sh, nm.data.toList, m, tx.data.toList, n⟩ = .agg #[.int .u8 k, .int .i64 ax, .int .i64 ay, .int .i64 sw, .int .i64 sh, .string nm, .int .u8 m, .string tx, .int .i64 n] := by simp [EV]
  rw [hev] at hlaw
  refine hlaw.mono fun e W' ⟨he, hb⟩ => ?_
  subst he
  exact ⟨_, rfl, _, _, _, [], p0 ++ p1, [], hW', trodAll_mk1 (shut_bool Tryd.underlying4 true), trodAll_mk2 (Below.trod laidOut readable_ev lt_ev h0 hb (fun x hx => hbl x (List.mem_append_left _ hx))) (Below.trod laidOut readable_str lt_str h1 hb (fun x hx => hbl x (List.mem_append_right _ hx))), rfl, hb.frame _, fun h => by cases h⟩

theorem reads (os : Os) {H : Type} (enc : TypeId × Value → H) : ∃ ds gs places, DataW.whole enc Tryd.prog ((World.laidAll Tryd.prog os Rows.eventTextsRow.laid).forCall (fun _ _ => 0) ⟨#[], #[argE, .string ⟨#[]⟩], []⟩).memory Tryd.f3.params.toList Rows.eventTextsSpec.vars false #[argE, .string ⟨#[]⟩].toList 8 = some (ds, gs, places) :=
  ⟨[.agg [.lit (.int .u8 0), .agg [.lit (.int .i64 0), .lit (.int .i64 0)], .agg [.lit (.int .i64 0), .lit (.int .i64 0)], .agg [.lit (.string []), .lit (.int .u8 0)], .lit (.string []), .lit (.int .i64 0)], .lit (.string [])], [], [], by kernel_rfl⟩

theorem lifted (os : Os) (started : os.Started) (H : Type) (enc : TypeId × Value → H) (F : Stop.Interp) :
    ReturnsInHanded {} Tryd.checked os 3 .any ((OpenSpec.ofChange Rows.eventTextsSpec).preRow enc Tryd.prog Tryd.f3 Rows.eventTextsRow.domain false Rows.eventTextsRow.laid) (((OpenSpec.ofChange Rows.eventTextsSpec).at F).post enc Tryd.prog Tryd.f3 false true false false) := by
  refine returnsInHanded_of_row (C := Tryd.checked) (s := OpenSpec.ofChange Rows.eventTextsSpec) own started (by kernel_rfl) Tryd.func3
    ⟨World.laidAll Tryd.prog os Rows.eventTextsRow.laid, fun _ _ => 0, ⟨#[], #[argE, .string ⟨#[]⟩], []⟩, World.laidAll_os _ _ _, laid_shaped os, rfl, (Input.okWide_of_okWideB (by kernel_rfl)).2, ?_, by simp only [Assume.holds]; exact ⟨by simp, by simp, fun h => (by cases h), by simp, by simp⟩⟩ ?_
  · obtain ⟨ds, gs, places, hx⟩ := reads os enc
    exact OpenSpec.preRow_of_cond 8 hx (by simp [Rows.eventTextsRow]) (fun k hk => by cases hk) (by kernel_rfl) (by rw [MakeChecks.laidMetH_plain _ _ _ (by kernel_rfl)]; exact laid_met os)
  · intro W base args ds gs before hval hW _ _ _ hL hS _
    exact contract H enc W base args ds gs before hval hW hL hS

theorem said : Rows.EventTextsSaid :=
  OpenClaim.holds_of_cond 3 Tryd.f3 rfl rfl rfl rfl rfl rfl rfl ⟨rfl, rfl, rfl, rfl, rfl⟩ rfl rfl rfl rfl rfl (by kernel_rfl) Tryd.func3 (by kernel_rfl)
    (of_decide_eq_true (by kernel_rfl)) (by unfold Func.isWrapper; first | (rw [if_pos (by decide +kernel)]; kernel_rfl) | (rw [if_neg (by decide +kernel)]; exact ⟨rfl, rfl⟩))
    (fun os started H enc _ F => by rw [OpenClaim.pre_eq_preRow]; exact lifted os started H enc F)
theorem plain (f : FuncId) (fn : Func) (hf : Tryd.pinned.checked.prog.funcNamed "casement/casementlaw19.EventTexts" = some f) (hfn : Tryd.pinned.checked.prog.funcs[f]? = some fn) :
    true = Tryd.pinned.checked.prog.looks [] ∧ ∀ (j : Nat) t, fn.params[j]? = some t → Tryd.pinned.checked.prog.wantsStandIn t = false := by
  obtain rfl : f = 3 := Option.some.inj ((show Tryd.prog.funcNamed "casement/casementlaw19.EventTexts" = some 3 by kernel_rfl).symm.trans hf) |>.symm
  obtain rfl : fn = Tryd.f3 := (Option.some.inj (Tryd.func3.symm.trans hfn)).symm
  refine ⟨by kernel_rfl, fun j t ht => ?_⟩
  rw [Tryd.params3] at ht
  have hm : t ∈ [29, 9] := by simpa using Array.mem_of_getElem? ht
  have hall : ([29, 9].all fun u => !Tryd.prog.wantsStandIn u) = true := by kernel_rfl
  exact (show Tryd.prog.wantsStandIn t = false by simpa using List.all_eq_true.1 hall t hm)
/-- The card. -/
theorem card : Rows.EventTextsCardSaid :=
  Claim7.holds_tied_plain_at .later [] _ _ _ _ said (fun _ h => by cases h) (by kernel_rfl) (fun _ h => by cases h) eventTexts_row_tie rfl ⟨rfl, rfl⟩ (by kernel_rfl) rfl plain (by kernel_rfl)
#print axioms card
end Go.Proofs.YtgkpbpcebgegbaaDoor
