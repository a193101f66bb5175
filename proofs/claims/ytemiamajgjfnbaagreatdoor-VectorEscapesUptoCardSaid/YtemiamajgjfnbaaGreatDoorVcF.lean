/- vector's reader: number in whatever state, field, text. -/
import Derived.Test.YtemiamajgjfnbaaGreatDoorVcE
namespace Go.Proofs.YtemiamajgjfnbaaGreatDoor
open Go.RowKit Vc
set_option linter.unusedVariables false
set_option linter.unusedSimpArgs false
theorem IsV.kept {w w' : World} {g : Nat} {s : ByteArray} {σ : RS} (h : IsV w g s σ) (hb : Below w.heap.size w w') : IsV w' g s σ ∧ w.grownBy w' (some g) := ⟨h.below hb, grown_below hb _⟩
theorem run_nil (w : World) :
    Calls Tryz.prog 51 #[.string ByteArray.empty, .string ⟨#[48, 49, 50, 51, 52, 53, 54, 55, 56, 57]⟩] w fun e w' => e = .returned (.int .i64 0) ∧ Below w.heap.size w w' :=
  run_any ByteArray.empty tenB w (by decide) (by decide) ten_ascii
theorem atoi_nil (w : World) (hg : Glob w) :
    Calls Tryz.prog 52 #[.string ByteArray.empty] w fun e w' => ∃ (n : Int) (t : TypeId) (p : Value), e = .returned (.tuple #[.int .i64 n, .iface t p]) ∧ Below w.heap.size w w' := by
  refine (atoi_any ByteArray.empty (by decide) w hg).mono ?_
  rintro e w' ⟨v, rfl, hv, hb⟩
  have h0 : atoiOk ByteArray.empty.data.toList = false := by
    show atoiOk [] = false
    simp [atoiOk, Lib.atoiAll]
  rw [h0] at hv
  simp only [ErrVal, Bool.false_eq_true, if_false] at hv
  obtain ⟨t, p, rfl⟩ := hv
  exact ⟨_, t, p, rfl, hb⟩
set_option maxHeartbeats 2000000 in
theorem vnumber_bad (s : ByteArray) (g p : Nat) (w : World) (hg : Glob w) (hG : 9 ≤ g) (hI : IsV w g s (.bad p)) :
    Calls Tryz.prog 36 #[.pointer (some ⟨g, 0, none⟩)] w fun e w' => e = .returned (.int .i64 0) ∧ IsV w' g s (.bad p) ∧ w.grownBy w' (some g) := by
  have HI := Lib.hid hI; clear hI
  have HG := Lib.hid hg; clear hg
  have hp0 : Lib.hasPrefix [] [45] = false := rfl
  go_enter Tryz.func36, Tryz.ntmps36
  go_wp2_with fail
  refine (vrest_bad s g p _ HI.out).mono ?_
  rintro e w1 ⟨rfl, rfl⟩
  go_wp2_with (go_at_call 25; refine (hasPrefix_any ⟨#[]⟩ _ _).mono ?_; rintro e w' ⟨rfl, rfl⟩)
  refine (run_nil _).mono ?_
  rintro e w2 ⟨rfl, hb⟩
  have H2 := Lib.hid (HI.out.below hb); have G2 := Lib.hid (grown_below hb (some g)); clear hb
  go_wp2_with fail
  refine (atoi_nil _ (HG.out.grow G2.out hG)).mono ?_
  rintro e w3 ⟨n, et, ep, rfl, hb⟩
  have h3 := H2.out.below hb
  have H3 := Lib.hid h3; have G3 := Lib.hid (grown_trans G2.out (grown_below hb (some g)))
  obtain ⟨a, v, ha, hB, _⟩ := h3
  have hc1 := hB.cell1
  clear hb hB
  go_wp2_with fail
  go_quiet (fail)
  have H4 := Lib.hid (H3.out.drewN nq); have G4 := Lib.hid (grown_trans G3.out (grown_drewN w3 nq (some g)))
  have hc1' : (w3.drewN nq).cell? ⟨g, 1, none⟩ = some (.int .i64 a) := hc1
  clear hc1
  generalize w3.drewN nq = w4 at H4 G4 hc1' ⊢
  go_wp2_with fail
  refine (vwrong_bad s _ g p _ _ H4.out).mono ?_
  rintro e w5 ⟨rfl, rfl⟩
  go_wp2_with fail
  go_ret
  exact ⟨rfl, H4.out, G4.out⟩
theorem vnumber_any (s : ByteArray) (g : Nat) (σ : RS) (w : World) (hs : s.size ≤ 140737488351232) (hg : Glob w) (hG : 9 ≤ g) (hI : IsV w g s σ) :
    Calls Tryz.prog 36 #[.pointer (some ⟨g, 0, none⟩)] w fun e w' => e = .returned (.int .i64 (Ev.numR s.data.toList σ).1) ∧ IsV w' g s (Ev.numR s.data.toList σ).2 ∧ w.grownBy w' (some g) := by
  cases σ with
  | ok p => exact vnumber_ok s g p w hs hg hG hI
  | bad p => exact vnumber_bad s g p w hg hG hI
/-- A number behind a fixed text. -/
def fieldS (l p : Bytes) (σ : RS) : Int × RS := Ev.numR l (fixS l p σ)
set_option maxHeartbeats 2000000 in
theorem vfield_any (s p : ByteArray) (g : Nat) (σ : RS) (w : World) (hs : s.size ≤ 140737488351232) (hp : 0 < p.size) (hg : Glob w) (hG : 9 ≤ g) (hI : IsV w g s σ) :
    Calls Tryz.prog 23 #[.pointer (some ⟨g, 0, none⟩), .string p] w fun e w' => e = .returned (.int .i64 (fieldS s.data.toList p.data.toList σ).1) ∧ IsV w' g s (fieldS s.data.toList p.data.toList σ).2 ∧ w.grownBy w' (some g) := by
  have HI := Lib.hid hI; have HG := Lib.hid hg; clear hI hg
  unfold fieldS
  go_enter Tryz.func23, Tryz.ntmps23
  go_wp2_with fail
  refine (vfixed_any s p g σ _ hs hp HI.out).mono ?_
  rintro e w1 ⟨rfl, h1, g1⟩
  have H1 := Lib.hid h1; have G1 := Lib.hid g1; clear h1 g1
  go_wp2_with fail
  refine (vnumber_any s g _ _ hs (HG.out.grow G1.out hG) hG H1.out).mono ?_
  rintro e w2 ⟨rfl, h2, g2⟩
  have H2 := Lib.hid h2; have G2 := Lib.hid g2; clear h2 g2
  go_wp2_with fail
  go_ret
  exact ⟨rfl, H2.out, grown_trans G1.out G2.out⟩
end Go.Proofs.YtemiamajgjfnbaaGreatDoor
