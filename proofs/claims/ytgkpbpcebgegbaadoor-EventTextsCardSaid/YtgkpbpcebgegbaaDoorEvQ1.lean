/- The document's answer: the reader's kind. -/
import Derived.Test.YtgkpbpcebgegbaaDoorEvQ0
namespace Go.Proofs.YtgkpbpcebgegbaaDoor
open Go.RowKit Ev
set_option linter.unusedVariables false
set_option linter.unusedSimpArgs false

/-- Where the answer's reader stands behind the kind's word. -/
def kindS (l : Bytes) : RS := if kindOf (l.takeWhile lowB) = 0 then .bad 0 else .ok (l.takeWhile lowB).length

set_option maxHeartbeats 4000000 in
set_option maxRecDepth 100000 in
theorem kindq_any (s : ByteArray) (g : Nat) (w : World) (hs : s.size ≤ 140737488351232) (hI : IsQd w g s (.ok 0)) :
    Calls Tryd.prog 23 #[.pointer (some ⟨g, 0, none⟩)] w fun e w' => e = .returned (.int .u8 (kindOf (s.data.toList.takeWhile lowB) : Nat)) ∧ IsQd w' g s (kindS s.data.toList) ∧ w.grownBy w' (some g) := by
  have hc0 := hI.2.cell0
  have hc1 := hI.2.cell1
  have hf1 := hI.2.free 1
  have HI := Lib.hid hI; clear hI
  generalize hL : (s.data.toList.takeWhile lowB).length = L
  have hLs : L ≤ s.size := by rw [← hL]; exact tw_le _ _
  have hP : (s.extract 0 L).data.toList = s.data.toList.takeWhile lowB := by
    rw [Lib.extract_from_zero, ← hL]; exact take_takeWhile _ _
  have hat : ∀ k : Nat, k < L → ∃ h : k < s.size, lowB s[k] = true := by
    intro k hk
    obtain ⟨h1, h2⟩ := tw_lt lowB s.data.toList k (by rw [hL]; exact hk)
    exact ⟨h1, h2⟩
  have hend : ∀ h : L < s.size, lowB s[L] = false := by
    intro h
    have := tw_end lowB s.data.toList (by rw [hL]; exact h)
    simp only [hL] at this
    exact this
  have HAT := Lib.hid hat; have HEND := Lib.hid hend; have HP := Lib.hid hP; have HL := Lib.hid hL
  clear hat hend hP hL
  go_enter Tryd.func23, Tryd.ntmps23
  go_wp2_with fail
  go_loop [3] (fun i => ∃ k : Nat, k ≤ L ∧ i = .int .i64 k) (fun i => L - (intOf i).toNat)
  case atStart => exact ⟨0, Nat.zero_le _, rfl⟩
  case round =>
    obtain ⟨k, hk, rfl⟩ := hrel
    by_cases hlt : k < L
    · obtain ⟨hks, hlow⟩ := HAT.out k hlt
      simp only [lowB, Bool.and_eq_true, decide_eq_true_eq] at hlow
      have h1 : (97 : Int) ≤ (s[k].toNat : Int) := by omega
      have h2 : (s[k].toNat : Int) ≤ 122 := by omega
      clear hlow
      go_wp2_with fail
      go_round
      case rel => exact ⟨k + 1, by omega, by go_num⟩
      case measure => go_light; simp [intOf]; omega
    · obtain rfl : k = L := by omega
      have hx : k = s.size ∨ (∃ h : k < s.size, (s[k].toNat : Int) < 97) ∨ (∃ h : k < s.size, 97 ≤ (s[k].toNat : Int) ∧ 122 < (s[k].toNat : Int)) := by
        by_cases h : k < s.size
        · have h2 := HEND.out h
          simp only [lowB, Bool.and_eq_false_iff, decide_eq_false_iff_not] at h2
          by_cases h3 : 97 ≤ s[k].toNat
          · exact .inr (.inr ⟨h, by omega, by omega⟩)
          · exact .inr (.inl ⟨h, by omega⟩)
        · exact .inl (by omega)
      rcases hx with hx | ⟨hks, hx⟩ | ⟨hks, hx, hx2⟩
      all_goals (
        first
          | (have d1 : decide (k < s.size) = true := decide_eq_true (by omega); have d2 : decide (97 ≤ (s[k].toNat : Int)) = false := decide_eq_false (by omega); clear hx)
          | (have d1 : decide (k < s.size) = true := decide_eq_true (by omega); have d2 : decide (97 ≤ (s[k].toNat : Int)) = true := decide_eq_true (by omega); have d3 : decide ((s[k].toNat : Int) ≤ 122) = false := decide_eq_false (by omega); clear hx hx2)
          | (have d1 : decide (k < s.size) = false := decide_eq_false (by omega); clear hx)
        go_wp2_with fail
        have hI2 : IsQd (w.setCell ⟨g, 1, none⟩ (.int .i64 (k : Int))) g s (.ok k) := ⟨hLs, HI.out.2.set1 _⟩
        have g2 := grown_set w g 1 (.int .i64 (k : Int))
        generalize w.setCell ⟨g, 1, none⟩ (.int .i64 (k : Int)) = w1 at hI2 g2 ⊢
        have HI2 := Lib.hid hI2; have G2 := Lib.hid g2; clear hI2 g2 hc0 hc1 hf1
        go_loopw [4] (fun i wr => ∃ j : Nat, 1 ≤ j ∧ j ≤ 11 ∧ i = .int .u8 (j : Int) ∧ Hid (∀ m, 1 ≤ m → m < j → wordB m ≠ s.data.toList.takeWhile lowB) ∧ Hid (Below w1.heap.size w1 wr)) (fun i _ => 11 - (intOf i).toNat)
        case atStart => exact ⟨1, by omega, by omega, rfl, Lib.hid (by intro m h1 h2; omega), Lib.hid (Below.refl _ _)⟩
        case round =>
          obtain ⟨j, hj1, hj2, rfl, HNE, HB⟩ := hrel
          have hI3 := HI2.out.below HB.out HI2.out.lt
          by_cases hj : j ≤ 10
          · have hc0r : wr.cell? ⟨g, 0, none⟩ = some (.string s) := hI3.2.cell0
            have HI3 := Lib.hid hI3; clear hI3
            have hlt8 : g < wr.heap.size := HI3.out.lt
            have hcd : wr.drew.cell? ⟨g, 0, none⟩ = some (.string s) := hc0r
            have hs8 : w1.heap.size ≤ wr.drew.heap.size := HB.out.size
            have HS8 := Lib.hid hs8; have HL8 := Lib.hid hlt8; clear hs8 hlt8
            have i0 : (0 : Int) ≤ (k : Int) := by omega
            have i1 : (k : Int) ≤ (s.size : Int) := by omega
            go_upto_region 8 with fail
            go_region_held3 (fun w' => w'.cell? ⟨g, 0, none⟩ = some (.string s)) (assumption) (first | (go_at_call 15; refine (wordq_any j hj1 hj _).mono ?_; rintro e w3 ⟨rfl, hb⟩; have c3 : w3.cell? ⟨g, 0, none⟩ = some (.string s) := (hb.cell (p := ⟨g, 0, none⟩) HL8.out).trans hcd; have HB3 := Lib.hid ((HB.out.drew).trans (hb.mono HS8.out)); clear hb) | fail)
            go_wp2_with fail
            · have he : wordB j = s.data.toList.takeWhile lowB := by
                have h : ((s.extract 0 k).toList == (bt (wordB j)).toList) = true := by assumption
                rw [Lib.toList_data, Lib.toList_data, HP.out] at h
                exact (eq_of_beq h).symm
              have hkk := kindOf_at _ j hj1 hj HNE.out he
              have HKK := Lib.hid hkk; clear hkk he
              go_ret
              refine ⟨?_, ?_, ?_⟩
              · rw [HKK.out]; rfl
              · unfold kindS; rw [if_neg (by rw [HKK.out]; omega), HL.out]; exact HI2.out.below HB3.out HI2.out.lt
              · exact grown_trans G2.out (grown_below HB3.out _)
            · have he : wordB j ≠ s.data.toList.takeWhile lowB := by
                have h : ((s.extract 0 k).toList == (bt (wordB j)).toList) = false := by assumption
                rw [Lib.toList_data, Lib.toList_data, HP.out] at h
                intro h2
                exact absurd h2.symm (ne_of_beq_false h)
              have hne : ∀ m, 1 ≤ m → m < j + 1 → wordB m ≠ s.data.toList.takeWhile lowB := by
                intro m h1 h2
                by_cases hm : m < j
                · exact HNE.out m h1 hm
                · obtain rfl : m = j := by omega
                  exact he
              have HNE2 := Lib.hid hne; clear hne he
              exact ⟨⟨j + 1, by omega, by omega, by go_num, HNE2, HB3⟩, by simp [intOf]; omega⟩
          · obtain rfl : j = 11 := by omega
            have HI3 := Lib.hid hI3; clear hI3
            have hz := kindOf_none _ HNE.out
            have HZ := Lib.hid hz; clear hz
            go_wp2_with (go_at_call 26; refine (wrongq_at s g k 0 0 rfl _ HI3.out).mono ?_; rintro e w4 ⟨rfl, h4, g4⟩; have H4 := Lib.hid h4; have G4 := Lib.hid g4; clear h4 g4)
            go_ret
            refine ⟨?_, ?_, ?_⟩
            · rw [HZ.out]; rfl
            · unfold kindS; rw [if_pos HZ.out]; exact H4.out
            · exact grown_trans G2.out (grown_trans (grown_below HB.out _) G4.out))
end Go.Proofs.YtgkpbpcebgegbaaDoor
