/- The world of the rows' witness, and what the rows' list gives. -/
import Derived.Test.YtemiamajgjfnbaaGreatDoorVcAl
import Derived.Test.YtemiamajgjfnbaaGreatDoorRows
import Derived.ProofKit
import Derived.Lib.SmallJoins
import Derived.Lay
import Derived.Lib.LaidTab
import Derived.Stop.LaidErr
import Derived.Deep.DeepHandedRow
import Derived.LaidHandle
import Derived.Shelf.Vars
import Derived.PinnedBridge
namespace Go.Proofs.YtemiamajgjfnbaaGreatDoor
open Go.ChangeShapes Go.WideShapes Go.ChangeAt Go.RowKit
set_option linter.unusedVariables false
set_option linter.unusedSimpArgs false
set_option maxRecDepth 100000
theorem own : ownKnob Tryz.prog.godebug = none := by kernel_rfl
theorem laidOut : laidOutB Tryz.prog = true := by kernel_rfl
/-- The listed variables but for the one that holds a type's handle. -/
noncomputable def plainL : List (String × DataW Unit) := [("math/bits.deBruijn32tab", Rows.laid_math_bits_deBruijn32tab), ("math/bits.deBruijn64tab", Rows.laid_math_bits_deBruijn64tab), ("internal/strconv.uint64pow10", Rows.laid_internal_strconv_uint64pow10), ("unicode/utf8.acceptRanges", Rows.laid_unicode_utf8_acceptRanges), ("strconv.ErrRange", Rows.laid_strconv_ErrRange), ("strconv.ErrSyntax", Rows.laid_strconv_ErrSyntax), ("unicode/utf8.first", Rows.laid_unicode_utf8_first)]
noncomputable def handL : List (String × DataW Unit) := [("errors.errorType", Rows.laid_errors_errorType)]
noncomputable def w0 (os : Os) : World :=
  let w0 := World.holding Tryz.prog os ⟨#[], #[], []⟩
  { w0 with heap := w0.heap.modify 0 fun
      | .cells _ t frozen => .cells #[.iface 106 (.agg #[.pointer (some ⟨9, 52, none⟩)])] t frozen
      | o => o }
noncomputable def witW (os : Os) : World := (w0 os).layVars Tryz.prog plainL
theorem wit_os (os : Os) : (witW os).os = os := World.layVars_os _ _ _
theorem wit_plain (os : Os) (args : Array Value) (hf : (w0 os).layFits Tryz.prog plainL [] = true) (hi : (w0 os).layIfaces Tryz.prog plainL (witW os) = true) :
    laidMet Tryz.prog plainL ((witW os).forCall (fun _ _ => 0) ⟨#[], args, []⟩).memory := by
  have e1 : (plainL.filter fun x => (plainL.map (·.1)).contains x.1) = plainL := List.filter_eq_self.2 fun x hx => List.contains_iff_mem.2 (List.mem_map.2 ⟨x, hx, rfl⟩)
  have e2 : (plainL.filter fun x => !(plainL.map (·.1)).contains x.1) = [] := List.filter_eq_nil_iff.2 fun x hx => by rw [List.contains_iff_mem.2 (List.mem_map.2 ⟨x, hx, rfl⟩)]; simp
  refine laidMet_layVars (w0 := w0 os) (plainL.map (·.1)) [] ?_ ?_ ?_ ?_
  · rw [e1]; rfl
  · rw [e1]; exact hf
  · rw [e1]; exact hi
  · rw [e2]; exact LaidIn.none
theorem wit_fits (os : Os) : (w0 os).layFits Tryz.prog plainL [] = true := by kernel_rfl
theorem wit_ifaces (os : Os) : (w0 os).layIfaces Tryz.prog plainL (witW os) = true := by kernel_rfl
theorem wit_hand (os : Os) (args : Array Value) : handL.all (handleAtB Tryz.prog ((witW os).forCall (fun _ _ => 0) ⟨#[], args, []⟩).memory) = true := by kernel_rfl
theorem laidH_eq (L : List (String × DataW Unit)) (W : World) (hL : L.filter (fun x => x.2.handleName?.isSome) = handL) (hP : L.filter (fun x => x.2.handleName?.isNone) = plainL) : laidMetH Tryz.prog L W = (laidMet Tryz.prog plainL W ∧ handlesMet Tryz.prog handL W) := by
  unfold laidMetH
  rw [hL, hP]
  rfl
theorem wit_met (L : List (String × DataW Unit)) (hL : L.filter (fun x => x.2.handleName?.isSome) = handL) (hP : L.filter (fun x => x.2.handleName?.isNone) = plainL) (os : Os) (args : Array Value) :
    laidMetH Tryz.prog L ((witW os).forCall (fun _ _ => 0) ⟨#[], args, []⟩).memory := by
  rw [laidH_eq L _ hL hP]
  exact ⟨wit_plain os args (wit_fits os) (wit_ifaces os), handlesMet_of_B (wit_hand os args)⟩
theorem n_pow10 : Tryz.prog.globalNamed "internal/strconv.uint64pow10" = some 2 := by kernel_rfl
theorem y_pow10 : (Tryz.prog.globals[2]?).map (·.type) = some 132 := by kernel_rfl
theorem n_errR : Tryz.prog.globalNamed "strconv.ErrRange" = some 4 := by kernel_rfl
theorem n_errS : Tryz.prog.globalNamed "strconv.ErrSyntax" = some 3 := by kernel_rfl
theorem y_errR : (Tryz.prog.globals[4]?).map (·.type) = some 52 := by kernel_rfl
theorem y_errS : (Tryz.prog.globals[3]?).map (·.type) = some 52 := by kernel_rfl
theorem c_u64 : Tryz.prog.cellsOf 121 = 1 := by kernel_rfl
theorem c_tab : Tryz.prog.cellsOf 132 = 20 := by kernel_rfl
theorem c_es : Tryz.prog.cellsOf 162 = 1 := by kernel_rfl
theorem c_str : Tryz.prog.cellsOf 9 = 1 := by kernel_rfl
theorem row_es (u : TypeId) (h : Tryz.prog.typeName? 3 u = some "*errors.errorString") : u = 160 :=
  typeName_ptr_named (nm := "errors.errorString") (by kernel_rfl) (by kernel_rfl) (by decide) u h
theorem h_et : Tryz.prog.globalNamed "errors.errorType" = some 0 := by kernel_rfl
theorem h_rt : (Tryz.prog.cutTypes.find? (·.1 == "internal/reflectlite.rtype")).map (·.2) = some 106 := by kernel_rfl
theorem h_one : ((List.range Tryz.prog.types.size).filter fun t => Tryz.prog.rowNamed t [101, 114, 114, 111, 114]) = [52] := by kernel_rfl
theorem hand_cell {W : World} (h : handlesMet Tryz.prog handL W) : W.cell? ⟨0, 0, none⟩ = some (.iface 106 (.agg #[.pointer (some ⟨9, 52, none⟩)])) := by
  obtain ⟨name, u, ty, e1, e2, e3, e4, e5⟩ := h _ (List.mem_singleton.2 rfl)
  have en : name = [101, 114, 114, 111, 114] := (Option.some.inj e1).symm
  subst en
  obtain rfl := Option.some.inj (h_rt.symm.trans e2)
  have hm : ty ∈ (List.range Tryz.prog.types.size).filter fun t => Tryz.prog.rowNamed t [101, 114, 114, 111, 114] := List.mem_filter.2 ⟨List.mem_range.2 e3, e4⟩
  rw [h_one] at hm
  obtain rfl := List.mem_singleton.1 hm
  have hh : typeHandle Tryz.prog 52 = .pointer (some ⟨9, 52, none⟩) := by kernel_rfl
  rw [hh] at e5
  simpa using World.var?_cell h_et e5 0
noncomputable def zeroRow (g : Nat) : Array Value := ((((begin Tryz.prog (fun _ _ => 0) default).world.heap[g]?).bind Obj.row?).map (·.1)).getD #[]
noncomputable def zeroTy (g : Nat) : TypeId := ((((begin Tryz.prog (fun _ _ => 0) default).world.heap[g]?).bind Obj.row?).map (·.2)).getD 0
/-- What the rows' list, and the variables' types, give the walks. -/
theorem glob_of_laid {L : List (String × DataW Unit)} {W : World} (hL0 : L.filter (fun x => x.2.handleName?.isSome) = handL) (hP0 : L.filter (fun x => x.2.handleName?.isNone) = plainL) (hL : laidMetH Tryz.prog L W) (hS : W.ShapedOpen Tryz.prog) : Glob W := by
  rw [laidH_eq L _ hL0 hP0] at hL
  obtain ⟨h, hh⟩ := hL
  have h2 := laidMet.tail (laidMet.tail h)
  have h4 := laidMet.tail (laidMet.tail h2)
  have h5 := laidMet.tail h4
  refine ⟨?_, ?_, ?_, ?_, ?_, hand_cell hh⟩
  · obtain ⟨cs, hc, _⟩ := hS.1 8 (zeroRow 8) (zeroTy 8) (of_decide_eq_true (by kernel_rfl)) (by kernel_rfl)
    exact (Array.getElem?_eq_some_iff.1 hc).1
  · refine Lib.tabIs_of_head (k := .u64) (zs := Lib.pow10Tab) n_pow10 y_pow10 Tryz.underlying132 Tryz.underlying121 c_u64 c_tab (rest := plainL.drop 3) ?_
    exact h2
  · exact cell_of_shapedOpen_int hS (of_decide_eq_true (by kernel_rfl)) (zero := #[.int .i64 0]) (t := 3) (by kernel_rfl) rfl (by kernel_rfl) (by kernel_rfl) Tryz.underlying3
  · obtain ⟨a, s, hv, _⟩ := laid_sentinel h5 n_errS y_errS Tryz.underlying52 row_es Tryz.underlying160 Tryz.underlying162 rfl rfl Tryz.underlying9 c_es c_str
    exact ⟨_, _, by simpa using World.var?_cell n_errS hv 0⟩
  · obtain ⟨a, s, hv, _⟩ := laid_sentinel h4 n_errR y_errR Tryz.underlying52 row_es Tryz.underlying160 Tryz.underlying162 rfl rfl Tryz.underlying9 c_es c_str
    exact ⟨_, _, by simpa using World.var?_cell n_errR hv 0⟩
theorem readable_str : Tryz.prog.readableRec 9 = true := by kernel_rfl
theorem lt_str : 9 < Tryz.prog.types.size := of_decide_eq_true (by kernel_rfl)
end Go.Proofs.YtemiamajgjfnbaaGreatDoor
