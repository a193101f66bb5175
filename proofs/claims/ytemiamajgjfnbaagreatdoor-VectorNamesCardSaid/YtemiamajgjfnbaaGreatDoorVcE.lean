/- vector's reader: number, field, text. -/
import Derived.Test.YtemiamajgjfnbaaGreatDoorVcD
import Derived.Lib.Split
import Derived.Deep.RegionHeld3
namespace Go.Proofs.YtemiamajgjfnbaaGreatDoor
open Go.RowKit Vc
set_option linter.unusedVariables false
set_option linter.unusedSimpArgs false
section
open Ev
/-- The digits as a set. -/
def tenB : ByteArray := ⟨#[48, 49, 50, 51, 52, 53, 54, 55, 56, 57]⟩

theorem hasPrefix_minus (l : List UInt8) : Lib.hasPrefix l [45] = decide (l.head? = some 45) := by
  unfold Lib.hasPrefix
  cases l with
  | nil => rfl
  | cons b r =>
    by_cases e : b = 45
    · subst e; simp
    · have e' : ¬ (45 : UInt8) = b := fun h => e h.symm
      rw [decide_eq_false (by simpa using e)]
      show (45 == b && _) = false
      simp [e']

theorem ten_ascii : ∀ (j : Nat) b, tenB.data.toList[j]? = some b → b.toNat < 128 := ascii_of_all (by decide)
theorem ten_dig (b : UInt8) : tenB.data.toList.contains b = digB b := by
  have h : ∀ n : Fin 256, tenB.data.toList.contains (UInt8.ofNat n.val) = digB (UInt8.ofNat n.val) := by decide +kernel
  have := h ⟨b.toNat, b.toNat_lt⟩
  simpa using this
theorem runL_ten (l : List UInt8) : runL l tenB.data.toList = (l.takeWhile digB).length := by
  unfold runL
  rw [show (fun x => tenB.data.toList.contains x) = digB from funext ten_dig]
theorem run_digs0 (t : ByteArray) (w : World) (ht : t.size ≤ 140737488351232) (hk : sgn t.data.toList = 0) :
    Calls Tryz.prog 51 #[.string t, .string ⟨#[48, 49, 50, 51, 52, 53, 54, 55, 56, 57]⟩] w fun e w' => e = .returned (.int .i64 ((digs t.data.toList).length : Nat)) ∧ Below w.heap.size w w' := by
  have := run_any t tenB w ht (by decide) ten_ascii
  rw [runL_ten] at this
  unfold digs
  rw [hk, List.drop_zero]
  exact this
theorem run_digs1 (t : ByteArray) (w : World) (ht : t.size ≤ 140737488351232) (hk : sgn t.data.toList = 1) :
    Calls Tryz.prog 51 #[.string (t.extract 1 t.size), .string ⟨#[48, 49, 50, 51, 52, 53, 54, 55, 56, 57]⟩] w fun e w' => e = .returned (.int .i64 ((digs t.data.toList).length : Nat)) ∧ Below w.heap.size w w' := by
  have := run_any (t.extract 1 t.size) tenB w (by rw [ByteArray.size_extract]; omega) (by decide) ten_ascii
  rw [runL_ten, Lib.extract_to_end] at this
  unfold digs
  rw [hk]
  exact this
theorem numT_len (l : List UInt8) : sgn l + (digs l).length ≤ l.length := by
  unfold digs
  have h1 : ((l.drop (sgn l)).takeWhile digB).length ≤ (l.drop (sgn l)).length := (List.takeWhile_sublist _).length_le
  have h2 : sgn l ≤ l.length := by
    unfold sgn; split
    · cases l <;> simp_all
    · exact Nat.zero_le _
  rw [List.length_drop] at h1
  omega

end
theorem vwrong_drew (s x : ByteArray) (g a p : Nat) (w : World) (n : Nat) (hI : IsV w g s (.ok a)) :
    Calls Tryz.prog 28 #[.pointer (some ⟨g, 0, none⟩), .string x, .int .i64 (p : Int)] (w.drewN n) fun e w' => e = .returned (.tuple #[]) ∧ IsV w' g s (.bad p) ∧ w.grownBy w' (some g) :=
  (vwrong_any s x g a p (w.drewN n) (hI.drewN n)).mono fun e w' ⟨h1, h2, h3⟩ => ⟨h1, h2, grown_trans (grown_drewN _ _ _) h3⟩
section
open Ev hiding Bytes RS esc esc1 dec plainI plainB
set_option maxHeartbeats 4000000 in
set_option maxRecDepth 100000 in
theorem vnumber_ok (s : ByteArray) (g p : Nat) (w : World) (hs : s.size ≤ 140737488351232) (hg : Glob w) (hG : 9 ≤ g) (hI : IsV w g s (.ok p)) :
    Calls Tryz.prog 36 #[.pointer (some ⟨g, 0, none⟩)] w fun e w' => e = .returned (.int .i64 (Ev.numR s.data.toList (.ok p)).1) ∧ IsV w' g s (Ev.numR s.data.toList (.ok p)).2 ∧ w.grownBy w' (some g) := by
  have hps := hI.1
  have HI := Lib.hid hI; clear hI
  have HG := Lib.hid hg; clear hg
  go_enter Tryz.func36, Tryz.ntmps36
  go_wp2_with fail
  refine (vrest_ok s g p _ HI.out).mono ?_
  rintro e w1 ⟨rfl, n, rfl⟩
  have htl : (s.extract p s.size).data.toList = s.data.toList.drop p := Lib.extract_to_end s p
  have hts : p + (s.extract p s.size).size ≤ s.size := by rw [ByteArray.size_extract]; omega
  generalize s.extract p s.size = t at htl hts ⊢
  have HT := Lib.hid htl; clear htl
  have h2 : IsV (w.drewN n) g s (.ok p) := HI.out.drewN n
  have g2 : w.grownBy (w.drewN n) (some g) := grown_drewN _ _ _
  generalize w.drewN n = w2 at h2 g2 ⊢
  have H2 := Lib.hid h2; have G2 := Lib.hid g2; clear h2 g2
  have hpre := hasPrefix_minus t.data.toList
  have hlen : sgn t.data.toList + (digs t.data.toList).length ≤ t.size := numT_len t.data.toList
  rcases sgn_cases t.data.toList with ⟨hk, hk2, hk3⟩ | ⟨hk, hk2⟩
  · rw [decide_eq_false hk3] at hpre
    rw [hk] at hlen
    have HK := Lib.hid hk; have HK2 := Lib.hid hk2; clear hk hk2 hk3
    go_wp2_with (go_at_call 25; refine (hasPrefix_any t _ _).mono ?_; rintro e w' ⟨rfl, rfl⟩)
    refine (run_digs0 t _ (by omega) HK.out).mono ?_
    rintro e w3 ⟨rfl, hb⟩
    have H3 := Lib.hid (H2.out.below hb); have G3 := Lib.hid (grown_trans G2.out (grown_below hb (some g))); clear hb
    have hT : (t.extract 0 (sgn t.data.toList + (digs t.data.toList).length)).data.toList = numT t.data.toList := Lib.extract_from_zero _ _
    have hz : (t.extract 0 (sgn t.data.toList + (digs t.data.toList).length)).size ≤ t.size := by rw [ByteArray.size_extract]; omega
    rw [HK.out] at hT hz
    simp only [Nat.zero_add] at hT hz hlen
    have hn9 := numAt_long t.data.toList
    have hno := numAt_noatoi t.data.toList
    have hyes := numAt_atoi t.data.toList
    have hvb := numV_bounds t.data.toList
    generalize hd : (digs t.data.toList).length = d at hlen hT hz hn9 hno hyes hvb ⊢
    have HD := Lib.hid hd; clear hd
    go_wp2_with fail
    generalize hTe : t.extract 0 d = T at hT hz ⊢
    rw [← hT] at hno hyes
    have HTT := Lib.hid hT; clear hT
    have HN9 := Lib.hid hn9; have HNO := Lib.hid hno; have HYES := Lib.hid hyes; have HVB := Lib.hid hvb; clear hn9 hno hyes hvb
    refine (atoi_any T (by omega) _ (HG.out.grow G3.out hG)).mono ?_
    rintro e w4 ⟨ev, rfl, hev, hb⟩
    have h4 := H3.out.below hb
    have hc1 := h4.2.cell1
    have hf1 := h4.2.free 1
    have H4 := Lib.hid h4; have G4 := Lib.hid (grown_trans G3.out (grown_below hb (some g))); clear hb h4
    by_cases h9 : 9 < d
    · have hd9 : decide ((9 : Int) < (d : Int)) = true := decide_eq_true (by omega)
      have hnone := HN9.out h9
      have HNONE := Lib.hid hnone; clear hnone h9
      cases hok : atoiOk T.data.toList with
      | true =>
        rw [hok] at hev
        simp only [ErrVal, if_true] at hev
        subst hev
        have HOK := Lib.hid hok; clear hok
        go_wp2_with fail
        go_quiet (fail)
        go_wp2_with fail
        refine (vwrong_drew s _ g p p _ _ H4.out).mono ?_
        rintro e w5 ⟨rfl, h5, g5⟩
        have H5 := Lib.hid h5; have G5 := Lib.hid g5; clear h5 g5
        go_wp2_with fail
        go_ret
        refine ⟨ret_i64 ?_, ?_, ?_⟩
        · rw [numR, ← HT.out, HNONE.out]
        · rw [numR, ← HT.out, HNONE.out]; exact H5.out
        · exact grown_trans G4.out G5.out
      | false =>
        rw [hok] at hev
        simp only [ErrVal, Bool.false_eq_true, if_false] at hev
        obtain ⟨et, ep, rfl⟩ := hev
        have HOK := Lib.hid hok; clear hok
        go_wp2_with fail
        go_quiet (fail)
        go_wp2_with fail
        refine (vwrong_drew s _ g p p _ _ H4.out).mono ?_
        rintro e w5 ⟨rfl, h5, g5⟩
        have H5 := Lib.hid h5; have G5 := Lib.hid g5; clear h5 g5
        go_wp2_with fail
        go_ret
        refine ⟨ret_i64 ?_, ?_, ?_⟩
        · rw [numR, ← HT.out, HNONE.out]
        · rw [numR, ← HT.out, HNONE.out]; exact H5.out
        · exact grown_trans G4.out G5.out
    · have hd9 : decide ((9 : Int) < (d : Int)) = false := decide_eq_false (by omega)
      have H9 := Lib.hid h9; clear h9
      cases hok : atoiOk T.data.toList with
      | false =>
        rw [hok] at hev
        simp only [ErrVal, Bool.false_eq_true, if_false] at hev
        obtain ⟨et, ep, rfl⟩ := hev
        have hnone := HNO.out (by have := H9.out; omega) hok
        have HNONE := Lib.hid hnone; clear hnone hok
        go_wp2_with fail
        go_quiet (fail)
        go_wp2_with fail
        refine (vwrong_drew s _ g p p _ _ H4.out).mono ?_
        rintro e w5 ⟨rfl, h5, g5⟩
        have H5 := Lib.hid h5; have G5 := Lib.hid g5; clear h5 g5
        go_wp2_with fail
        go_ret
        refine ⟨ret_i64 ?_, ?_, ?_⟩
        · rw [numR, ← HT.out, HNONE.out]
        · rw [numR, ← HT.out, HNONE.out]; exact H5.out
        · exact grown_trans G4.out G5.out
      | true =>
        rw [hok] at hev
        simp only [ErrVal, if_true] at hev
        subst hev
        obtain ⟨hv, hnum⟩ := HYES.out (by have := H9.out; omega) hok
        obtain ⟨hb1, hb2⟩ := HVB.out (by have := H9.out; omega)
        rw [← hv] at hnum hb1 hb2
        clear hok hv
        generalize atoiV T.data.toList = V at hnum hb1 hb2 ⊢
        have HNUM := Lib.hid hnum; clear hnum
        have hw1 : IntKind.i64.wrap ((0 : Int) + (d : Int)) = (d : Int) := by rw [Int.zero_add]; exact IntWalk.i64_in _ (by omega)
        have hw0 : IntKind.i64.wrap (d : Int) = (d : Int) := IntWalk.i64_in _ (by omega)
        have hw2 : (0 : Int) ≤ (d : Int) := by omega
        have hw3 : (d : Int) ≤ (t.size : Int) := by omega
        go_wp2_with fail
        go_region_held3 (fun _ => True) (trivial) ((go_at_call 15; refine (itoa_any V (by omega) (by omega) _ ((HG.out.grow G4.out hG).drew)).mono ?_; rintro e w5 ⟨rfl, hb⟩; have h5 := (show IsV w4.drew g s (.ok p) from H4.out).below hb; have G5 := Lib.hid (grown_trans G4.out (grown_trans (grown_drew w4 (some g)) (grown_below (w := w4.drew) hb (some g)))); have H5 := Lib.hid h5; have hc5 := h5.2.cell1; have hf5 := h5.2.free 1; clear hb h5))
        go_wp2_with (go_at_call 28; refine (vwrong_any s _ g p p _ H5.out).mono ?_; rintro e w6 ⟨rfl, h6, g6⟩; have H6 := Lib.hid h6; have G6 := Lib.hid g6; clear h6 g6)
        · have hne : ¬ Lib.itoa V = T.data.toList := by
            have h : (!Lib.itoa V == T.toList) = true := by assumption
            rw [Lib.toList_data] at h
            simpa using h
          go_ret
          refine ⟨ret_i64 ?_, ?_, grown_trans G5.out G6.out⟩
          · rw [numR, ← HT.out, HNUM.out, if_neg hne]
          · rw [numR, ← HT.out, HNUM.out, if_neg hne]; exact H6.out
        · have heq : Lib.itoa V = T.data.toList := by
            have h : (!Lib.itoa V == T.toList) = false := by assumption
            rw [Lib.toList_data] at h
            simpa using h
          go_ret
          refine ⟨ret_i64 ?_, ?_, grown_trans G5.out (grown_set _ _ _ _)⟩
          · rw [numR, ← HT.out, HNUM.out, if_pos heq]
          · rw [numR, ← HT.out, HNUM.out, if_pos heq, HK.out]
            refine ⟨by omega, ?_⟩
            rw [show ((p + (0 + d) : Nat) : Int) = (p : Int) + (d : Int) by omega]
            exact H5.out.2.set1 _
  · have hk3 : t.data.toList.head? = some 45 := by
      have hk4 := hk; unfold sgn at hk4; split at hk4 <;> first | assumption | cases hk4
    rw [decide_eq_true hk3] at hpre
    rw [hk] at hlen
    have HK := Lib.hid hk; have HK2 := Lib.hid hk2; clear hk hk2 hk3
    go_wp2_with (go_at_call 25; refine (hasPrefix_any t _ _).mono ?_; rintro e w' ⟨rfl, rfl⟩)
    refine (run_digs1 t _ (by omega) HK.out).mono ?_
    rintro e w3 ⟨rfl, hb⟩
    have H3 := Lib.hid (H2.out.below hb); have G3 := Lib.hid (grown_trans G2.out (grown_below hb (some g))); clear hb
    have hT : (t.extract 0 (sgn t.data.toList + (digs t.data.toList).length)).data.toList = numT t.data.toList := Lib.extract_from_zero _ _
    have hz : (t.extract 0 (sgn t.data.toList + (digs t.data.toList).length)).size ≤ t.size := by rw [ByteArray.size_extract]; omega
    rw [HK.out] at hT hz
    have hn9 := numAt_long t.data.toList
    have hno := numAt_noatoi t.data.toList
    have hyes := numAt_atoi t.data.toList
    have hvb := numV_bounds t.data.toList
    generalize hd : (digs t.data.toList).length = d at hlen hT hz hn9 hno hyes hvb ⊢
    have HD := Lib.hid hd; clear hd
    go_wp2_with fail
    generalize hTe : t.extract 0 (1 + d) = T at hT hz ⊢
    rw [← hT] at hno hyes
    have HTT := Lib.hid hT; clear hT
    have HN9 := Lib.hid hn9; have HNO := Lib.hid hno; have HYES := Lib.hid hyes; have HVB := Lib.hid hvb; clear hn9 hno hyes hvb
    refine (atoi_any T (by omega) _ (HG.out.grow G3.out hG)).mono ?_
    rintro e w4 ⟨ev, rfl, hev, hb⟩
    have h4 := H3.out.below hb
    have hc1 := h4.2.cell1
    have hf1 := h4.2.free 1
    have H4 := Lib.hid h4; have G4 := Lib.hid (grown_trans G3.out (grown_below hb (some g))); clear hb h4
    by_cases h9 : 9 < d
    · have hd9 : decide ((9 : Int) < (d : Int)) = true := decide_eq_true (by omega)
      have hnone := HN9.out h9
      have HNONE := Lib.hid hnone; clear hnone h9
      cases hok : atoiOk T.data.toList with
      | true =>
        rw [hok] at hev
        simp only [ErrVal, if_true] at hev
        subst hev
        have HOK := Lib.hid hok; clear hok
        go_wp2_with fail
        go_quiet (fail)
        go_wp2_with fail
        refine (vwrong_drew s _ g p p _ _ H4.out).mono ?_
        rintro e w5 ⟨rfl, h5, g5⟩
        have H5 := Lib.hid h5; have G5 := Lib.hid g5; clear h5 g5
        go_wp2_with fail
        go_ret
        refine ⟨ret_i64 ?_, ?_, ?_⟩
        · rw [numR, ← HT.out, HNONE.out]
        · rw [numR, ← HT.out, HNONE.out]; exact H5.out
        · exact grown_trans G4.out G5.out
      | false =>
        rw [hok] at hev
        simp only [ErrVal, Bool.false_eq_true, if_false] at hev
        obtain ⟨et, ep, rfl⟩ := hev
        have HOK := Lib.hid hok; clear hok
        go_wp2_with fail
        go_quiet (fail)
        go_wp2_with fail
        refine (vwrong_drew s _ g p p _ _ H4.out).mono ?_
        rintro e w5 ⟨rfl, h5, g5⟩
        have H5 := Lib.hid h5; have G5 := Lib.hid g5; clear h5 g5
        go_wp2_with fail
        go_ret
        refine ⟨ret_i64 ?_, ?_, ?_⟩
        · rw [numR, ← HT.out, HNONE.out]
        · rw [numR, ← HT.out, HNONE.out]; exact H5.out
        · exact grown_trans G4.out G5.out
    · have hd9 : decide ((9 : Int) < (d : Int)) = false := decide_eq_false (by omega)
      have H9 := Lib.hid h9; clear h9
      cases hok : atoiOk T.data.toList with
      | false =>
        rw [hok] at hev
        simp only [ErrVal, Bool.false_eq_true, if_false] at hev
        obtain ⟨et, ep, rfl⟩ := hev
        have hnone := HNO.out (by have := H9.out; omega) hok
        have HNONE := Lib.hid hnone; clear hnone hok
        go_wp2_with fail
        go_quiet (fail)
        go_wp2_with fail
        refine (vwrong_drew s _ g p p _ _ H4.out).mono ?_
        rintro e w5 ⟨rfl, h5, g5⟩
        have H5 := Lib.hid h5; have G5 := Lib.hid g5; clear h5 g5
        go_wp2_with fail
        go_ret
        refine ⟨ret_i64 ?_, ?_, ?_⟩
        · rw [numR, ← HT.out, HNONE.out]
        · rw [numR, ← HT.out, HNONE.out]; exact H5.out
        · exact grown_trans G4.out G5.out
      | true =>
        rw [hok] at hev
        simp only [ErrVal, if_true] at hev
        subst hev
        obtain ⟨hv, hnum⟩ := HYES.out (by have := H9.out; omega) hok
        obtain ⟨hb1, hb2⟩ := HVB.out (by have := H9.out; omega)
        rw [← hv] at hnum hb1 hb2
        clear hok hv
        generalize atoiV T.data.toList = V at hnum hb1 hb2 ⊢
        have HNUM := Lib.hid hnum; clear hnum
        have hw1 : IntKind.i64.wrap ((1 : Int) + (d : Int)) = 1 + (d : Int) := IntWalk.i64_in _ (by omega)
        have hw0 : (1 + (d : Int)).toNat = 1 + d := by omega
        have hw2 : (0 : Int) ≤ 1 + (d : Int) := by omega
        have hw3 : 1 + (d : Int) ≤ (t.size : Int) := by omega
        go_wp2_with fail
        go_region_held3 (fun _ => True) (trivial) ((go_at_call 15; refine (itoa_any V (by omega) (by omega) _ ((HG.out.grow G4.out hG).drew)).mono ?_; rintro e w5 ⟨rfl, hb⟩; have h5 := (show IsV w4.drew g s (.ok p) from H4.out).below hb; have G5 := Lib.hid (grown_trans G4.out (grown_trans (grown_drew w4 (some g)) (grown_below (w := w4.drew) hb (some g)))); have H5 := Lib.hid h5; have hc5 := h5.2.cell1; have hf5 := h5.2.free 1; clear hb h5))
        go_wp2_with (go_at_call 28; refine (vwrong_any s _ g p p _ H5.out).mono ?_; rintro e w6 ⟨rfl, h6, g6⟩; have H6 := Lib.hid h6; have G6 := Lib.hid g6; clear h6 g6)
        · have hne : ¬ Lib.itoa V = T.data.toList := by
            have h : (!Lib.itoa V == T.toList) = true := by assumption
            rw [Lib.toList_data] at h
            simpa using h
          go_ret
          refine ⟨ret_i64 ?_, ?_, grown_trans G5.out G6.out⟩
          · rw [numR, ← HT.out, HNUM.out, if_neg hne]
          · rw [numR, ← HT.out, HNUM.out, if_neg hne]; exact H6.out
        · have heq : Lib.itoa V = T.data.toList := by
            have h : (!Lib.itoa V == T.toList) = false := by assumption
            rw [Lib.toList_data] at h
            simpa using h
          go_ret
          refine ⟨ret_i64 ?_, ?_, grown_trans G5.out (grown_set _ _ _ _)⟩
          · rw [numR, ← HT.out, HNUM.out, if_pos heq]
          · rw [numR, ← HT.out, HNUM.out, if_pos heq, HK.out]
            refine ⟨by omega, ?_⟩
            rw [show ((p + (1 + d) : Nat) : Int) = (p : Int) + (1 + (d : Int)) by omega]
            exact H5.out.2.set1 _
end
end Go.Proofs.YtemiamajgjfnbaaGreatDoor
