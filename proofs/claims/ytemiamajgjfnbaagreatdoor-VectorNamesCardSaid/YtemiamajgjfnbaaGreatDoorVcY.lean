/- vector.rect: a rectangle's fields as text. -/
import Derived.Test.YtemiamajgjfnbaaGreatDoorVcPa
import Derived.Deep.RegionHeldLaw
import Derived.Lib.ItoaLen
namespace Go.Proofs.YtemiamajgjfnbaaGreatDoor
open Go.RowKit Vc
set_option linter.unusedVariables false
set_option linter.unusedSimpArgs false
def Small (n : Int) : Prop := -9223372036854775808 ≤ n ∧ n ≤ 9223372036854775807
theorem itoa_small (n : Int) (h : Small n) : (Lib.itoa n).length ≤ 21 := Lib.itoa_length_le n h.1 h.2
/-- strconv.Itoa, its text under a name. -/
theorem itoa_named (n : Int) (h : Small n) : ∃ X : ByteArray, X = bt (Lib.itoa n) ∧ X.size ≤ 21 ∧ ∀ w, Glob w → Calls Tryz.prog 15 #[.int .i64 n] w fun e w' => e = .returned (.string X) ∧ Below w.heap.size w w' :=
  ⟨bt (Lib.itoa n), rfl, by have := itoa_small n h; simpa [bt, ByteArray.size] using this, fun w hg => itoa_any n h.1 h.2 w hg⟩
set_option maxHeartbeats 1000000 in
set_option maxRecDepth 20000 in
theorem vrectT_any (r : R) (w : World) (hx : Small r.x) (hy : Small r.y) (hw : Small r.w) (hh : Small r.h) (hg : Glob w) :
    Calls Tryz.prog 34 #[RV r] w fun e w' => e = .returned (.string (bt (rectB r))) ∧ Below w.heap.size w w' := by
  obtain ⟨X, eX, sX, hX⟩ := itoa_named _ hx
  obtain ⟨Y, eY, sY, hY⟩ := itoa_named _ hy
  obtain ⟨V, eV, sV, hV⟩ := itoa_named _ hw
  obtain ⟨Z, eZ, sZ, hZ⟩ := itoa_named _ hh
  have hres : (⟨#[32, 120, 61, 34]⟩ ++ X ++ ⟨#[34, 32, 121, 61, 34]⟩ ++ Y ++ ⟨#[34, 32, 119, 61, 34]⟩ ++ V ++ ⟨#[34, 32, 104, 61, 34]⟩ ++ Z ++ ⟨#[34]⟩ : ByteArray) = bt (rectB r) := by
    rw [eX, eY, eV, eZ]
    show bt qx1 ++ bt _ ++ bt qy ++ bt _ ++ bt qw ++ bt _ ++ bt qh ++ bt _ ++ bt qq = _
    simp only [bt_append]
    unfold rectB
    rfl
  have HRES := Lib.hid hres; clear hres eX eY eV eZ
  have HX := Lib.hid hX; have HY := Lib.hid hY; have HV := Lib.hid hV; have HZ := Lib.hid hZ; clear hX hY hV hZ hx hy hw hh
  have n1 : ¬ 9223372036854775807 < 4 + X.size := by omega
  have n2 : ¬ 9223372036854775807 < 4 + X.size + 5 := by omega
  have n3 : ¬ 9223372036854775807 < 4 + X.size + 5 + Y.size := by omega
  have n4 : ¬ 9223372036854775807 < 4 + X.size + 5 + Y.size + 5 := by omega
  have n5 : ¬ 9223372036854775807 < 4 + X.size + 5 + Y.size + 5 + V.size := by omega
  have n6 : ¬ 9223372036854775807 < 4 + X.size + 5 + Y.size + 5 + V.size + 5 := by omega
  have n7 : ¬ 9223372036854775807 < 4 + X.size + 5 + Y.size + 5 + V.size + 5 + Z.size := by omega
  have n8 : ¬ 9223372036854775807 < 4 + X.size + 5 + Y.size + 5 + V.size + 5 + Z.size + 1 := by omega
  clear sX sY sV sZ
  have HG := Lib.hid hg; clear hg
  obtain ⟨x, y, a, b⟩ := r
  simp only at HX HY HV HZ
  unfold RV
  go_enter Tryz.func34, Tryz.ntmps34
  go_upto_region 1 with fail
  have B0 := Lib.hid (blkV_new w 27 (rectC ⟨x, y, a, b⟩))
  have W0 := Lib.hid ((Below.refl w.heap.size w).alloc (Nat.le_refl _) (.cells (rectC ⟨x, y, a, b⟩) 27))
  unfold rectC at B0 W0
  simp only at B0 W0
  generalize w.alloc (.cells #[.int .i64 x, .int .i64 y, .int .i64 a, .int .i64 b] 27) = w0 at B0 W0 ⊢
  have B1 := Lib.hid (B0.out.same (w' := w0.drew) rfl)
  have W1 := Lib.hid W0.out.drew
  clear B0 W0
  have c0 : w0.drew.cell? ⟨w.heap.size, 0, none⟩ = some (.int .i64 x) := (B1.out.cell 0).trans rfl
  have c1 : w0.drew.cell? ⟨w.heap.size, 1, none⟩ = some (.int .i64 y) := (B1.out.cell 1).trans rfl
  have c2 : w0.drew.cell? ⟨w.heap.size, 2, none⟩ = some (.int .i64 a) := (B1.out.cell 2).trans rfl
  have c3 : w0.drew.cell? ⟨w.heap.size, 3, none⟩ = some (.int .i64 b) := (B1.out.cell 3).trans rfl
  go_region_held_law (fun w' => w'.cell? ⟨w.heap.size, 0, none⟩ = some (.int .i64 x) ∧ w'.cell? ⟨w.heap.size, 1, none⟩ = some (.int .i64 y) ∧ w'.cell? ⟨w.heap.size, 2, none⟩ = some (.int .i64 a) ∧ w'.cell? ⟨w.heap.size, 3, none⟩ = some (.int .i64 b)) (first | go_keep | exact ⟨c0, c1, c2, c3⟩) (first | (go_at_call 15; (first | refine (HX.out _ (HG.out.below HG.out.size W1.out)).mono ?_ | refine (HY.out _ (HG.out.below HG.out.size W1.out)).mono ?_ | refine (HV.out _ (HG.out.below HG.out.size W1.out)).mono ?_ | refine (HZ.out _ (HG.out.below HG.out.size W1.out)).mono ?_); rintro e wn ⟨rfl, hb⟩; have B1 := Lib.hid (B1.out.below hb B1.out.lt); have W1 := Lib.hid (W1.out.trans (hb.mono W1.out.size)); clear hb; have c0 : wn.cell? ⟨w.heap.size, 0, none⟩ = some (.int .i64 x) := (B1.out.cell 0).trans rfl; have c1 : wn.cell? ⟨w.heap.size, 1, none⟩ = some (.int .i64 y) := (B1.out.cell 1).trans rfl; have c2 : wn.cell? ⟨w.heap.size, 2, none⟩ = some (.int .i64 a) := (B1.out.cell 2).trans rfl; have c3 : wn.cell? ⟨w.heap.size, 3, none⟩ = some (.int .i64 b) := (B1.out.cell 3).trans rfl) | fail)
  all_goals (
    go_wp2_with fail
    go_ret
    exact ⟨by rw [← HRES.out]; rfl, W1.out⟩)
end Go.Proofs.YtemiamajgjfnbaaGreatDoor
