/- vector's reader: text, rect. -/
import Derived.Test.YtemiamajgjfnbaaGreatDoorVcF
namespace Go.Proofs.YtemiamajgjfnbaaGreatDoor
open Go.RowKit Vc
set_option linter.unusedVariables false
set_option linter.unusedSimpArgs false
def wordV (l : Bytes) : Bytes := l.takeWhile (fun b => b != 60)
/-- An escaped text read, up to the next tag. -/
def textV (l : Bytes) : RS → Bytes × RS
  | .ok a => match dec (wordV (l.drop a)) 0 [] with
    | .inl i => ([], .bad (a + i))
    | .inr v => (v, .ok (a + (wordV (l.drop a)).length))
  | .bad q => ([], .bad q)
theorem indexByte_wordV : ∀ (l : List UInt8), (Lib.indexByte l 60 = -1 ∧ wordV l = l) ∨ (∃ i : Nat, Lib.indexByte l 60 = i ∧ wordV l = l.take i)
  | [] => .inl ⟨rfl, rfl⟩
  | b :: l => by
    unfold Lib.indexByte wordV
    by_cases hb : b = 60
    · subst hb
      exact .inr ⟨0, by simp, by simp⟩
    · have h1 : (b == 60) = false := by simpa using hb
      have h2 : (b != 60) = true := by simpa using hb
      rw [h1, List.takeWhile_cons, if_pos h2]
      simp only [Bool.false_eq_true, if_false]
      rcases indexByte_wordV l with ⟨h, hw⟩ | ⟨i, h, hw⟩
      · left; rw [h]; exact ⟨rfl, by unfold wordV at hw; rw [hw]⟩
      · right
        refine ⟨i + 1, ?_, ?_⟩
        · rw [h, if_neg (by simp)]; omega
        · unfold wordV at hw; rw [hw, List.take_succ_cons]
theorem cut_wordV (l : List UInt8) : (Lib.cut l [60]).1 = wordV l := by
  unfold Lib.cut
  rw [Lib.index_one]
  rcases indexByte_wordV l with ⟨h, hw⟩ | ⟨i, h, hw⟩
  · rw [h, if_neg (by decide), hw]
  · rw [h, if_pos (by omega), hw]; rfl
theorem vcut_any (t : ByteArray) (ht : t.size < 4294967281) : ∃ W y : ByteArray, ∃ z : Bool, W.data.toList = wordV t.data.toList ∧ ∀ w, Glob w →
    Calls Tryz.prog 54 #[.string t, .string ⟨#[60]⟩] w fun e w' => e = .returned (.tuple #[.string W, .string y, .bool z]) ∧ ∃ n, w' = w.drewN n :=
  ⟨⟨(Lib.cut t.data.toList [60]).1.toArray⟩, ⟨(Lib.cut t.data.toList [60]).2.1.toArray⟩, (Lib.cut t.data.toList [60]).2.2, by rw [← cut_wordV], fun w hg => cut_any t ⟨#[60]⟩ w ht hg⟩

set_option maxHeartbeats 2000000 in
theorem vtext_any (s : ByteArray) (g : Nat) (σ : RS) (w : World) (hs : s.size ≤ 4294967280) (hg : Glob w) (hG : 9 ≤ g) (hI : IsV w g s σ) :
    Calls Tryz.prog 41 #[.pointer (some ⟨g, 0, none⟩)] w fun e w' => e = .returned (.string (bt (textV s.data.toList σ).1)) ∧ IsV w' g s (textV s.data.toList σ).2 ∧ w.grownBy w' (some g) := by
  cases σ with
  | ok a =>
    have hps := hI.1
    have HI := Lib.hid hI; have HG := Lib.hid hg; clear hI hg
    obtain ⟨W, y, z, hW, hcall⟩ := vcut_any (s.extract a s.size) (by rw [ByteArray.size_extract]; omega)
    rw [Lib.extract_to_end] at hW
    have hWp : a + W.size ≤ s.size := by
      have h1 : W.data.toList.length ≤ (s.data.toList.drop a).length := by rw [hW]; exact (List.takeWhile_sublist _).length_le
      rw [List.length_drop] at h1
      have h2 : W.data.toList.length = W.size := rfl
      have h3 : s.data.toList.length = s.size := rfl
      omega
    have hT : textV s.data.toList (.ok a) = match dec W.data.toList 0 [] with | .inl i => ([], .bad (a + i)) | .inr v => (v, .ok (a + W.size)) := by
      unfold textV; simp only; rw [← hW]; rfl
    have HT := Lib.hid hT; have HC := Lib.hid hcall; clear hT hcall hW
    go_enter Tryz.func41, Tryz.ntmps41
    go_wp2_with fail
    refine (vrest_ok s g a _ HI.out).mono ?_
    rintro e w1 ⟨rfl, n, rfl⟩
    have h2 : IsV (w.drewN n) g s (.ok a) := HI.out.drewN n
    have g2 := grown_drewN w n (some g)
    generalize w.drewN n = w2 at h2 g2 ⊢
    have H2 := Lib.hid h2; have G2 := Lib.hid g2; clear h2 g2
    go_wp2_with fail
    refine (HC.out _ (HG.out.grow G2.out hG)).mono ?_
    rintro e w3 ⟨rfl, n3, rfl⟩
    have H3 := Lib.hid (H2.out.drewN n3); have G3 := Lib.hid (grown_trans G2.out (grown_drewN w2 n3 (some g)))
    generalize w2.drewN n3 = w3 at H3 G3 ⊢
    go_wp2_with fail
    refine (vplainS_any W _ (by omega)).mono ?_
    rintro e w4 ⟨rfl, hb⟩
    have h4 := H3.out.below hb
    have hc1 := h4.2.cell1
    have hf1 := h4.2.free 1
    have H4 := Lib.hid h4; have G4 := Lib.hid (grown_trans G3.out (grown_below hb (some g))); clear hb h4
    cases hd : dec W.data.toList 0 [] with
    | inl i =>
      have hpl : plainV W.data.toList = ([], (i : Int), 160) := by unfold plainV; rw [hd]
      have hres : textV s.data.toList (.ok a) = ([], .bad (a + i)) := by rw [HT.out, hd]
      have hi := (dec_place _ _ _ _ _ (Nat.le_refl _) hd).2
      have hl : W.data.toList.length = W.size := rfl
      rw [hpl]
      have HR := Lib.hid hres; clear hres hpl hd
      have hsz : (a : Int) + (i : Int) ≤ 4294967280 := by omega
      go_wp2_with (go_at_call 28; refine (vwrong_at s _ g a _ (a + i) (by omega) _ H4.out).mono ?_; rintro e w5 ⟨rfl, h5, g5⟩; have H5 := Lib.hid h5; have G5 := Lib.hid g5; clear h5 g5)
      go_ret
      refine ⟨?_, ?_, grown_trans G4.out G5.out⟩
      · rw [HR.out]; rfl
      · rw [HR.out]; exact H5.out
    | inr v =>
      have hpl : plainV W.data.toList = (v, 0, 0) := by unfold plainV; rw [hd]
      have hres : textV s.data.toList (.ok a) = (v, .ok (a + W.size)) := by rw [HT.out, hd]
      rw [hpl]
      have HR := Lib.hid hres; clear hres hpl hd
      go_wp2_with fail
      go_ret
      refine ⟨?_, ?_, grown_trans G4.out (grown_set _ _ _ _)⟩
      · rw [HR.out]; rfl
      · rw [HR.out]; exact ⟨hWp, H4.out.2.set1 _⟩
  | bad q =>
    have HI := Lib.hid hI; have HG := Lib.hid hg; clear hI hg
    obtain ⟨W, y, z, hW, hcall⟩ := vcut_any ⟨#[]⟩ (by decide)
    have hW0 : W = ⟨#[]⟩ := by
      cases W with | mk d => cases d with | mk l => simp at hW; rw [hW]; rfl
    subst hW0
    have HC := Lib.hid hcall; clear hcall hW
    go_enter Tryz.func41, Tryz.ntmps41
    go_wp2_with fail
    refine (vrest_bad s g q _ HI.out).mono ?_
    rintro e w1 ⟨rfl, rfl⟩
    go_wp2_with fail
    refine (HC.out _ HG.out).mono ?_
    rintro e w3 ⟨rfl, n3, rfl⟩
    have H3 := Lib.hid (HI.out.drewN n3); have G3 := Lib.hid (grown_drewN w n3 (some g))
    generalize w.drewN n3 = w3 at H3 G3 ⊢
    go_wp2_with fail
    refine (vplainS_any ⟨#[]⟩ _ (by decide)).mono ?_
    rintro e w4 ⟨rfl, hb⟩
    have h4 := H3.out.below hb
    have G4 := Lib.hid (grown_trans G3.out (grown_below hb (some g))); clear hb
    obtain ⟨a, v, ha, hB, hBad⟩ := h4
    have hc1 := hB.cell1
    have hf1 := hB.free 1
    have HB := Lib.hid hB; have HD := Lib.hid hBad; clear hB hBad
    rw [show plainV (⟨#[]⟩ : ByteArray).data.toList = ([], 0, 0) from rfl]
    go_wp2_with fail
    go_ret
    refine ⟨rfl, ⟨a, v, ha, ?_, ?_⟩, grown_trans G4.out (grown_set _ _ _ _)⟩
    · exact HB.out.set1 _
    · exact HD.out.kept (grown_set _ _ _ _) HB.out
end Go.Proofs.YtemiamajgjfnbaaGreatDoor
