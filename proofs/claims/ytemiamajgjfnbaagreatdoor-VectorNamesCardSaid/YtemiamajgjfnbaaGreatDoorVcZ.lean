/- vector.line: a stroke as text. -/
import Derived.Test.YtemiamajgjfnbaaGreatDoorVcY
import Derived.Test.YtemiamajgjfnbaaGreatDoorVcRc
namespace Go.Proofs.YtemiamajgjfnbaaGreatDoor
open Go.RowKit Vc
set_option linter.unusedVariables false
set_option linter.unusedSimpArgs false
theorem small_of_may {x : S} (h : mayE x = 0) : Small x.n ∧ (Small x.r.x ∧ Small x.r.y ∧ Small x.r.w ∧ Small x.r.h) ∧ x.t.length ≤ 65536 ∧ kindOk x = true ∧ rectOk x.r = true := by
  unfold mayE at h
  by_cases hn : numOk x = true
  · by_cases hk : kindOk x = true
    · rw [hn, hk] at h
      simp only [Bool.and_self, if_true] at h
      unfold rectE at h
      by_cases hr : rectOk x.r = true
      · refine ⟨?_, ?_, ?_, hk, hr⟩
        · simp [numOk] at hn; unfold Small; omega
        · simp [rectOk, Ev.within] at hr; unfold Small; omega
        · simp [numOk] at hn; omega
      · rw [if_neg hr] at h; cases h
    · rw [hn] at h; simp [hk] at h
  · simp [hn] at h
theorem colB_len (c : C) : (colB c).length ≤ 9 := by
  unfold colB
  split
  · simp
  · unfold chans; split <;> simp [hex2]
theorem col_named (c : C) : ∃ X : ByteArray, X = bt (colB c) ∧ X.size ≤ 9 ∧ ∀ w, Calls Tryz.prog 33 #[CV c] w fun e w' => e = .returned (.string X) ∧ Below w.heap.size w w' :=
  ⟨bt (colB c), rfl, by rw [bt_size]; exact colB_len c, fun w => coltext_any c w⟩
theorem esc_named (t : Bytes) (h : t.length ≤ 65536) : ∃ X : ByteArray, X = bt (esc t) ∧ X.size ≤ 262144 ∧ ∀ w, Calls Tryz.prog 9 #[.string (bt t)] w fun e w' => e = .returned (.string X) ∧ Below w.heap.size w w' :=
  ⟨bt (esc t), rfl, by rw [bt_size]; have := esc_len t; omega, fun w => by have h2 := vesc_any (bt t) w (by rw [bt_size]; omega); simpa [bt] using h2⟩
theorem rect_named (r : R) (hx : Small r.x) (hy : Small r.y) (hw : Small r.w) (hh : Small r.h) : ∃ X : ByteArray, X = bt (rectB r) ∧ X.size ≤ 104 ∧ ∀ w, Glob w → Calls Tryz.prog 34 #[RV r] w fun e w' => e = .returned (.string X) ∧ Below w.heap.size w w' :=
  ⟨bt (rectB r), rfl, by
    have h1 := itoa_small _ hx
    have h2 := itoa_small _ hy
    have h3 := itoa_small _ hw
    have h4 := itoa_small _ hh
    rw [bt_size]; simp only [rectB, List.length_append, qx1, qy, qw, qh, qq, List.length_cons, List.length_nil]; omega, fun w hg => vrectT_any r w hx hy hw hh hg⟩

set_option maxHeartbeats 4000000 in
set_option maxRecDepth 20000 in
theorem vline_fill (r : R) (c d : C) (t : Bytes) (n : Int) (w : World) (hm : mayE ⟨1, r, c, d, t, n⟩ = 0) (hg : Glob w) :
    Calls Tryz.prog 16 #[SV ⟨1, r, c, d, t, n⟩] w fun e w' => e = .returned (.string (bt (lineB ⟨1, r, c, d, t, n⟩))) ∧ Below w.heap.size w w' := by
  obtain ⟨hn, ⟨hx, hy, hw, hh⟩, ht, _, _⟩ := small_of_may hm
  obtain ⟨N, eN, sN, hN⟩ := itoa_named _ hn
  obtain ⟨K, eK, sK, hK⟩ := col_named c
  obtain ⟨D, eD, sD, hD⟩ := col_named d
  obtain ⟨Q, eQ, sQ, hQ⟩ := rect_named r hx hy hw hh
  obtain ⟨T, eT, sT, hT⟩ := esc_named t ht
  clear hx hy hw hh ht hm hn
  have hres : (⟨#[60, 102, 105, 108, 108]⟩ ++ Q ++ (⟨#[32, 99, 61, 34]⟩ ++ K ++ ⟨#[34]⟩) ++ (⟨#[32, 110, 61, 34]⟩ ++ N ++ ⟨#[34]⟩) ++ ⟨#[47, 62, 10]⟩ : ByteArray) = bt (lineB ⟨1, r, c, d, t, n⟩) := by
    rw [eQ, eN, eK]
    show bt [60, 102, 105, 108, 108] ++ bt _ ++ (bt qc1 ++ bt _ ++ bt qq) ++ (bt qn1 ++ bt _ ++ bt qq) ++ bt [47, 62, 10] = _
    simp only [bt_append]
    unfold lineB nodeB inkB
    simp [List.append_assoc]
  have HRES := Lib.hid hres; clear hres eN eK eD eQ eT
  have HN := Lib.hid hN; have HK := Lib.hid hK; have HD := Lib.hid hD; have HQ := Lib.hid hQ; have HT := Lib.hid hT; clear hN hK hD hQ hT
  have n1 : ¬ 9223372036854775807 < 4 + N.size := by omega
  have n2 : ¬ 9223372036854775807 < 4 + N.size + 1 := by omega
  have n3 : ¬ 9223372036854775807 < 4 + K.size := by omega
  have n4 : ¬ 9223372036854775807 < 4 + K.size + 1 := by omega
  have n5 : ¬ 9223372036854775807 < 5 + Q.size := by omega
  have n6 : ¬ 9223372036854775807 < 5 + Q.size + (4 + K.size + 1) := by omega
  have n7 : ¬ 9223372036854775807 < 5 + Q.size + (4 + K.size + 1) + (4 + N.size + 1) := by omega
  have n8 : ¬ 9223372036854775807 < 5 + Q.size + (4 + K.size + 1) + (4 + N.size + 1) + 3 := by omega
  clear sN sK sD sQ sT
  have HG := Lib.hid hg; clear hg
  unfold SV
  go_enter Tryz.func16, Tryz.ntmps16
  go_upto_region 1 with fail
  have B1 := Lib.hid (blkV_new w 31 (SC ⟨1, r, c, d, t, n⟩))
  have W1 := Lib.hid ((Below.refl w.heap.size w).alloc (Nat.le_refl _) (.cells (SC ⟨1, r, c, d, t, n⟩) 31))
  generalize w.alloc (.cells (SC ⟨1, r, c, d, t, n⟩) 31) = w1 at B1 W1 ⊢
  obtain ⟨c0, c1, c2, c3, c4, c5, c6, c7, c8, c9, c10, c11, c12, c13, c14⟩ := cells15 B1.out
  simp only at c0 c1 c2 c3 c4 c5 c6 c7 c8 c9 c10 c11 c12 c13 c14
  simp only [RV, CV] at HQ HK HD
  go_wp2_with (first | (go_at_call 15; refine (HN.out _ (HG.out.below HG.out.size W1.out)).mono ?_; rintro e wn ⟨rfl, hb⟩; have B1 := Lib.hid (B1.out.below hb B1.out.lt); have W1 := Lib.hid (W1.out.trans (hb.mono W1.out.size)); clear hb c0 c1 c2 c3 c4 c5 c6 c7 c8 c9 c10 c11 c12 c13 c14; obtain ⟨c0, c1, c2, c3, c4, c5, c6, c7, c8, c9, c10, c11, c12, c13, c14⟩ := cells15 B1.out; simp only at c0 c1 c2 c3 c4 c5 c6 c7 c8 c9 c10 c11 c12 c13 c14) | (go_at_call 33; (first | (with_reducible refine (HK.out _).mono ?_) | (with_reducible refine (HD.out _).mono ?_)); rintro e wn ⟨rfl, hb⟩; have B1 := Lib.hid (B1.out.below hb B1.out.lt); have W1 := Lib.hid (W1.out.trans (hb.mono W1.out.size)); clear hb c0 c1 c2 c3 c4 c5 c6 c7 c8 c9 c10 c11 c12 c13 c14; obtain ⟨c0, c1, c2, c3, c4, c5, c6, c7, c8, c9, c10, c11, c12, c13, c14⟩ := cells15 B1.out; simp only at c0 c1 c2 c3 c4 c5 c6 c7 c8 c9 c10 c11 c12 c13 c14) | (go_at_call 34; refine (HQ.out _ (HG.out.below HG.out.size W1.out)).mono ?_; rintro e wn ⟨rfl, hb⟩; have B1 := Lib.hid (B1.out.below hb B1.out.lt); have W1 := Lib.hid (W1.out.trans (hb.mono W1.out.size)); clear hb c0 c1 c2 c3 c4 c5 c6 c7 c8 c9 c10 c11 c12 c13 c14; obtain ⟨c0, c1, c2, c3, c4, c5, c6, c7, c8, c9, c10, c11, c12, c13, c14⟩ := cells15 B1.out; simp only at c0 c1 c2 c3 c4 c5 c6 c7 c8 c9 c10 c11 c12 c13 c14) | (go_at_call 9; refine (HT.out _).mono ?_; rintro e wn ⟨rfl, hb⟩; have B1 := Lib.hid (B1.out.below hb B1.out.lt); have W1 := Lib.hid (W1.out.trans (hb.mono W1.out.size)); clear hb c0 c1 c2 c3 c4 c5 c6 c7 c8 c9 c10 c11 c12 c13 c14; obtain ⟨c0, c1, c2, c3, c4, c5, c6, c7, c8, c9, c10, c11, c12, c13, c14⟩ := cells15 B1.out; simp only at c0 c1 c2 c3 c4 c5 c6 c7 c8 c9 c10 c11 c12 c13 c14))
  go_ret
  exact ⟨by rw [← HRES.out]; rfl, W1.out⟩
set_option maxHeartbeats 4000000 in
set_option maxRecDepth 20000 in
theorem vline_frame (r : R) (c d : C) (t : Bytes) (n : Int) (w : World) (hm : mayE ⟨2, r, c, d, t, n⟩ = 0) (hg : Glob w) :
    Calls Tryz.prog 16 #[SV ⟨2, r, c, d, t, n⟩] w fun e w' => e = .returned (.string (bt (lineB ⟨2, r, c, d, t, n⟩))) ∧ Below w.heap.size w w' := by
  obtain ⟨hn, ⟨hx, hy, hw, hh⟩, ht, _, _⟩ := small_of_may hm
  obtain ⟨N, eN, sN, hN⟩ := itoa_named _ hn
  obtain ⟨K, eK, sK, hK⟩ := col_named c
  obtain ⟨D, eD, sD, hD⟩ := col_named d
  obtain ⟨Q, eQ, sQ, hQ⟩ := rect_named r hx hy hw hh
  obtain ⟨T, eT, sT, hT⟩ := esc_named t ht
  clear hx hy hw hh ht hm hn
  have hres : (⟨#[60, 102, 114, 97, 109, 101]⟩ ++ Q ++ (⟨#[32, 99, 61, 34]⟩ ++ K ++ ⟨#[34]⟩) ++ (⟨#[32, 110, 61, 34]⟩ ++ N ++ ⟨#[34]⟩) ++ ⟨#[47, 62, 10]⟩ : ByteArray) = bt (lineB ⟨2, r, c, d, t, n⟩) := by
    rw [eQ, eN, eK]
    show bt [60, 102, 114, 97, 109, 101] ++ bt _ ++ (bt qc1 ++ bt _ ++ bt qq) ++ (bt qn1 ++ bt _ ++ bt qq) ++ bt [47, 62, 10] = _
    simp only [bt_append]
    unfold lineB nodeB inkB
    simp [List.append_assoc]
  have HRES := Lib.hid hres; clear hres eN eK eD eQ eT
  have HN := Lib.hid hN; have HK := Lib.hid hK; have HD := Lib.hid hD; have HQ := Lib.hid hQ; have HT := Lib.hid hT; clear hN hK hD hQ hT
  have n1 : ¬ 9223372036854775807 < 4 + N.size := by omega
  have n2 : ¬ 9223372036854775807 < 4 + N.size + 1 := by omega
  have n3 : ¬ 9223372036854775807 < 4 + K.size := by omega
  have n4 : ¬ 9223372036854775807 < 4 + K.size + 1 := by omega
  have n5 : ¬ 9223372036854775807 < 6 + Q.size := by omega
  have n6 : ¬ 9223372036854775807 < 6 + Q.size + (4 + K.size + 1) := by omega
  have n7 : ¬ 9223372036854775807 < 6 + Q.size + (4 + K.size + 1) + (4 + N.size + 1) := by omega
  have n8 : ¬ 9223372036854775807 < 6 + Q.size + (4 + K.size + 1) + (4 + N.size + 1) + 3 := by omega
  clear sN sK sD sQ sT
  have HG := Lib.hid hg; clear hg
  unfold SV
  go_enter Tryz.func16, Tryz.ntmps16
  go_upto_region 1 with fail
  have B1 := Lib.hid (blkV_new w 31 (SC ⟨2, r, c, d, t, n⟩))
  have W1 := Lib.hid ((Below.refl w.heap.size w).alloc (Nat.le_refl _) (.cells (SC ⟨2, r, c, d, t, n⟩) 31))
  generalize w.alloc (.cells (SC ⟨2, r, c, d, t, n⟩) 31) = w1 at B1 W1 ⊢
  obtain ⟨c0, c1, c2, c3, c4, c5, c6, c7, c8, c9, c10, c11, c12, c13, c14⟩ := cells15 B1.out
  simp only at c0 c1 c2 c3 c4 c5 c6 c7 c8 c9 c10 c11 c12 c13 c14
  simp only [RV, CV] at HQ HK HD
  go_wp2_with (first | (go_at_call 15; refine (HN.out _ (HG.out.below HG.out.size W1.out)).mono ?_; rintro e wn ⟨rfl, hb⟩; have B1 := Lib.hid (B1.out.below hb B1.out.lt); have W1 := Lib.hid (W1.out.trans (hb.mono W1.out.size)); clear hb c0 c1 c2 c3 c4 c5 c6 c7 c8 c9 c10 c11 c12 c13 c14; obtain ⟨c0, c1, c2, c3, c4, c5, c6, c7, c8, c9, c10, c11, c12, c13, c14⟩ := cells15 B1.out; simp only at c0 c1 c2 c3 c4 c5 c6 c7 c8 c9 c10 c11 c12 c13 c14) | (go_at_call 33; (first | (with_reducible refine (HK.out _).mono ?_) | (with_reducible refine (HD.out _).mono ?_)); rintro e wn ⟨rfl, hb⟩; have B1 := Lib.hid (B1.out.below hb B1.out.lt); have W1 := Lib.hid (W1.out.trans (hb.mono W1.out.size)); clear hb c0 c1 c2 c3 c4 c5 c6 c7 c8 c9 c10 c11 c12 c13 c14; obtain ⟨c0, c1, c2, c3, c4, c5, c6, c7, c8, c9, c10, c11, c12, c13, c14⟩ := cells15 B1.out; simp only at c0 c1 c2 c3 c4 c5 c6 c7 c8 c9 c10 c11 c12 c13 c14) | (go_at_call 34; refine (HQ.out _ (HG.out.below HG.out.size W1.out)).mono ?_; rintro e wn ⟨rfl, hb⟩; have B1 := Lib.hid (B1.out.below hb B1.out.lt); have W1 := Lib.hid (W1.out.trans (hb.mono W1.out.size)); clear hb c0 c1 c2 c3 c4 c5 c6 c7 c8 c9 c10 c11 c12 c13 c14; obtain ⟨c0, c1, c2, c3, c4, c5, c6, c7, c8, c9, c10, c11, c12, c13, c14⟩ := cells15 B1.out; simp only at c0 c1 c2 c3 c4 c5 c6 c7 c8 c9 c10 c11 c12 c13 c14) | (go_at_call 9; refine (HT.out _).mono ?_; rintro e wn ⟨rfl, hb⟩; have B1 := Lib.hid (B1.out.below hb B1.out.lt); have W1 := Lib.hid (W1.out.trans (hb.mono W1.out.size)); clear hb c0 c1 c2 c3 c4 c5 c6 c7 c8 c9 c10 c11 c12 c13 c14; obtain ⟨c0, c1, c2, c3, c4, c5, c6, c7, c8, c9, c10, c11, c12, c13, c14⟩ := cells15 B1.out; simp only at c0 c1 c2 c3 c4 c5 c6 c7 c8 c9 c10 c11 c12 c13 c14))
  go_ret
  exact ⟨by rw [← HRES.out]; rfl, W1.out⟩
set_option maxHeartbeats 4000000 in
set_option maxRecDepth 20000 in
theorem vline_clip (r : R) (c d : C) (t : Bytes) (n : Int) (w : World) (hm : mayE ⟨4, r, c, d, t, n⟩ = 0) (hg : Glob w) :
    Calls Tryz.prog 16 #[SV ⟨4, r, c, d, t, n⟩] w fun e w' => e = .returned (.string (bt (lineB ⟨4, r, c, d, t, n⟩))) ∧ Below w.heap.size w w' := by
  obtain ⟨hn, ⟨hx, hy, hw, hh⟩, ht, _, _⟩ := small_of_may hm
  obtain ⟨N, eN, sN, hN⟩ := itoa_named _ hn
  obtain ⟨K, eK, sK, hK⟩ := col_named c
  obtain ⟨D, eD, sD, hD⟩ := col_named d
  obtain ⟨Q, eQ, sQ, hQ⟩ := rect_named r hx hy hw hh
  obtain ⟨T, eT, sT, hT⟩ := esc_named t ht
  clear hx hy hw hh ht hm hn
  have hres : (⟨#[60, 99, 108, 105, 112]⟩ ++ Q ++ (⟨#[32, 110, 61, 34]⟩ ++ N ++ ⟨#[34]⟩) ++ ⟨#[62, 10]⟩ : ByteArray) = bt (lineB ⟨4, r, c, d, t, n⟩) := by
    rw [eQ, eN]
    show bt [60, 99, 108, 105, 112] ++ bt _ ++ (bt qn1 ++ bt _ ++ bt qq) ++ bt [62, 10] = _
    simp only [bt_append]
    unfold lineB nodeB inkB
    simp [List.append_assoc]
  have HRES := Lib.hid hres; clear hres eN eK eD eQ eT
  have HN := Lib.hid hN; have HK := Lib.hid hK; have HD := Lib.hid hD; have HQ := Lib.hid hQ; have HT := Lib.hid hT; clear hN hK hD hQ hT
  have n1 : ¬ 9223372036854775807 < 4 + N.size := by omega
  have n2 : ¬ 9223372036854775807 < 4 + N.size + 1 := by omega
  have n3 : ¬ 9223372036854775807 < 4 + K.size := by omega
  have n4 : ¬ 9223372036854775807 < 4 + K.size + 1 := by omega
  have n5 : ¬ 9223372036854775807 < 5 + Q.size := by omega
  have n6 : ¬ 9223372036854775807 < 5 + Q.size + (4 + N.size + 1) := by omega
  have n7 : ¬ 9223372036854775807 < 5 + Q.size + (4 + N.size + 1) + 2 := by omega
  clear sN sK sD sQ sT
  have HG := Lib.hid hg; clear hg
  unfold SV
  go_enter Tryz.func16, Tryz.ntmps16
  go_upto_region 1 with fail
  have B1 := Lib.hid (blkV_new w 31 (SC ⟨4, r, c, d, t, n⟩))
  have W1 := Lib.hid ((Below.refl w.heap.size w).alloc (Nat.le_refl _) (.cells (SC ⟨4, r, c, d, t, n⟩) 31))
  generalize w.alloc (.cells (SC ⟨4, r, c, d, t, n⟩) 31) = w1 at B1 W1 ⊢
  obtain ⟨c0, c1, c2, c3, c4, c5, c6, c7, c8, c9, c10, c11, c12, c13, c14⟩ := cells15 B1.out
  simp only at c0 c1 c2 c3 c4 c5 c6 c7 c8 c9 c10 c11 c12 c13 c14
  simp only [RV, CV] at HQ HK HD
  go_wp2_with (first | (go_at_call 15; refine (HN.out _ (HG.out.below HG.out.size W1.out)).mono ?_; rintro e wn ⟨rfl, hb⟩; have B1 := Lib.hid (B1.out.below hb B1.out.lt); have W1 := Lib.hid (W1.out.trans (hb.mono W1.out.size)); clear hb c0 c1 c2 c3 c4 c5 c6 c7 c8 c9 c10 c11 c12 c13 c14; obtain ⟨c0, c1, c2, c3, c4, c5, c6, c7, c8, c9, c10, c11, c12, c13, c14⟩ := cells15 B1.out; simp only at c0 c1 c2 c3 c4 c5 c6 c7 c8 c9 c10 c11 c12 c13 c14) | (go_at_call 33; (first | (with_reducible refine (HK.out _).mono ?_) | (with_reducible refine (HD.out _).mono ?_)); rintro e wn ⟨rfl, hb⟩; have B1 := Lib.hid (B1.out.below hb B1.out.lt); have W1 := Lib.hid (W1.out.trans (hb.mono W1.out.size)); clear hb c0 c1 c2 c3 c4 c5 c6 c7 c8 c9 c10 c11 c12 c13 c14; obtain ⟨c0, c1, c2, c3, c4, c5, c6, c7, c8, c9, c10, c11, c12, c13, c14⟩ := cells15 B1.out; simp only at c0 c1 c2 c3 c4 c5 c6 c7 c8 c9 c10 c11 c12 c13 c14) | (go_at_call 34; refine (HQ.out _ (HG.out.below HG.out.size W1.out)).mono ?_; rintro e wn ⟨rfl, hb⟩; have B1 := Lib.hid (B1.out.below hb B1.out.lt); have W1 := Lib.hid (W1.out.trans (hb.mono W1.out.size)); clear hb c0 c1 c2 c3 c4 c5 c6 c7 c8 c9 c10 c11 c12 c13 c14; obtain ⟨c0, c1, c2, c3, c4, c5, c6, c7, c8, c9, c10, c11, c12, c13, c14⟩ := cells15 B1.out; simp only at c0 c1 c2 c3 c4 c5 c6 c7 c8 c9 c10 c11 c12 c13 c14) | (go_at_call 9; refine (HT.out _).mono ?_; rintro e wn ⟨rfl, hb⟩; have B1 := Lib.hid (B1.out.below hb B1.out.lt); have W1 := Lib.hid (W1.out.trans (hb.mono W1.out.size)); clear hb c0 c1 c2 c3 c4 c5 c6 c7 c8 c9 c10 c11 c12 c13 c14; obtain ⟨c0, c1, c2, c3, c4, c5, c6, c7, c8, c9, c10, c11, c12, c13, c14⟩ := cells15 B1.out; simp only at c0 c1 c2 c3 c4 c5 c6 c7 c8 c9 c10 c11 c12 c13 c14))
  go_ret
  exact ⟨by rw [← HRES.out]; rfl, W1.out⟩
set_option maxHeartbeats 4000000 in
set_option maxRecDepth 20000 in
theorem vline_open (r : R) (c d : C) (t : Bytes) (n : Int) (w : World) (hm : mayE ⟨5, r, c, d, t, n⟩ = 0) (hg : Glob w) :
    Calls Tryz.prog 16 #[SV ⟨5, r, c, d, t, n⟩] w fun e w' => e = .returned (.string (bt (lineB ⟨5, r, c, d, t, n⟩))) ∧ Below w.heap.size w w' := by
  obtain ⟨hn, ⟨hx, hy, hw, hh⟩, ht, _, _⟩ := small_of_may hm
  obtain ⟨N, eN, sN, hN⟩ := itoa_named _ hn
  obtain ⟨K, eK, sK, hK⟩ := col_named c
  obtain ⟨D, eD, sD, hD⟩ := col_named d
  obtain ⟨Q, eQ, sQ, hQ⟩ := rect_named r hx hy hw hh
  obtain ⟨T, eT, sT, hT⟩ := esc_named t ht
  clear hx hy hw hh ht hm hn
  have hres : (⟨#[60, 47, 99, 108, 105, 112]⟩ ++ (⟨#[32, 110, 61, 34]⟩ ++ N ++ ⟨#[34]⟩) ++ ⟨#[62, 10]⟩ : ByteArray) = bt (lineB ⟨5, r, c, d, t, n⟩) := by
    rw [eN]
    show bt [60, 47, 99, 108, 105, 112] ++ (bt qn1 ++ bt _ ++ bt qq) ++ bt [62, 10] = _
    simp only [bt_append]
    unfold lineB nodeB inkB
    simp [List.append_assoc]
  have HRES := Lib.hid hres; clear hres eN eK eD eQ eT
  have HN := Lib.hid hN; have HK := Lib.hid hK; have HD := Lib.hid hD; have HQ := Lib.hid hQ; have HT := Lib.hid hT; clear hN hK hD hQ hT
  have n1 : ¬ 9223372036854775807 < 4 + N.size := by omega
  have n2 : ¬ 9223372036854775807 < 4 + N.size + 1 := by omega
  have n3 : ¬ 9223372036854775807 < 4 + K.size := by omega
  have n4 : ¬ 9223372036854775807 < 4 + K.size + 1 := by omega
  have n5 : ¬ 9223372036854775807 < 6 + (4 + N.size + 1) := by omega
  have n6 : ¬ 9223372036854775807 < 6 + (4 + N.size + 1) + 2 := by omega
  clear sN sK sD sQ sT
  have HG := Lib.hid hg; clear hg
  unfold SV
  go_enter Tryz.func16, Tryz.ntmps16
  go_upto_region 1 with fail
  have B1 := Lib.hid (blkV_new w 31 (SC ⟨5, r, c, d, t, n⟩))
  have W1 := Lib.hid ((Below.refl w.heap.size w).alloc (Nat.le_refl _) (.cells (SC ⟨5, r, c, d, t, n⟩) 31))
  generalize w.alloc (.cells (SC ⟨5, r, c, d, t, n⟩) 31) = w1 at B1 W1 ⊢
  obtain ⟨c0, c1, c2, c3, c4, c5, c6, c7, c8, c9, c10, c11, c12, c13, c14⟩ := cells15 B1.out
  simp only at c0 c1 c2 c3 c4 c5 c6 c7 c8 c9 c10 c11 c12 c13 c14
  simp only [RV, CV] at HQ HK HD
  go_wp2_with (first | (go_at_call 15; refine (HN.out _ (HG.out.below HG.out.size W1.out)).mono ?_; rintro e wn ⟨rfl, hb⟩; have B1 := Lib.hid (B1.out.below hb B1.out.lt); have W1 := Lib.hid (W1.out.trans (hb.mono W1.out.size)); clear hb c0 c1 c2 c3 c4 c5 c6 c7 c8 c9 c10 c11 c12 c13 c14; obtain ⟨c0, c1, c2, c3, c4, c5, c6, c7, c8, c9, c10, c11, c12, c13, c14⟩ := cells15 B1.out; simp only at c0 c1 c2 c3 c4 c5 c6 c7 c8 c9 c10 c11 c12 c13 c14) | (go_at_call 33; (first | (with_reducible refine (HK.out _).mono ?_) | (with_reducible refine (HD.out _).mono ?_)); rintro e wn ⟨rfl, hb⟩; have B1 := Lib.hid (B1.out.below hb B1.out.lt); have W1 := Lib.hid (W1.out.trans (hb.mono W1.out.size)); clear hb c0 c1 c2 c3 c4 c5 c6 c7 c8 c9 c10 c11 c12 c13 c14; obtain ⟨c0, c1, c2, c3, c4, c5, c6, c7, c8, c9, c10, c11, c12, c13, c14⟩ := cells15 B1.out; simp only at c0 c1 c2 c3 c4 c5 c6 c7 c8 c9 c10 c11 c12 c13 c14) | (go_at_call 34; refine (HQ.out _ (HG.out.below HG.out.size W1.out)).mono ?_; rintro e wn ⟨rfl, hb⟩; have B1 := Lib.hid (B1.out.below hb B1.out.lt); have W1 := Lib.hid (W1.out.trans (hb.mono W1.out.size)); clear hb c0 c1 c2 c3 c4 c5 c6 c7 c8 c9 c10 c11 c12 c13 c14; obtain ⟨c0, c1, c2, c3, c4, c5, c6, c7, c8, c9, c10, c11, c12, c13, c14⟩ := cells15 B1.out; simp only at c0 c1 c2 c3 c4 c5 c6 c7 c8 c9 c10 c11 c12 c13 c14) | (go_at_call 9; refine (HT.out _).mono ?_; rintro e wn ⟨rfl, hb⟩; have B1 := Lib.hid (B1.out.below hb B1.out.lt); have W1 := Lib.hid (W1.out.trans (hb.mono W1.out.size)); clear hb c0 c1 c2 c3 c4 c5 c6 c7 c8 c9 c10 c11 c12 c13 c14; obtain ⟨c0, c1, c2, c3, c4, c5, c6, c7, c8, c9, c10, c11, c12, c13, c14⟩ := cells15 B1.out; simp only at c0 c1 c2 c3 c4 c5 c6 c7 c8 c9 c10 c11 c12 c13 c14))
  go_ret
  exact ⟨by rw [← HRES.out]; rfl, W1.out⟩
set_option maxHeartbeats 4000000 in
set_option maxRecDepth 20000 in
theorem vline_write (r : R) (c d : C) (t : Bytes) (n : Int) (w : World) (hm : mayE ⟨3, r, c, d, t, n⟩ = 0) (hg : Glob w) :
    Calls Tryz.prog 16 #[SV ⟨3, r, c, d, t, n⟩] w fun e w' => e = .returned (.string (bt (lineB ⟨3, r, c, d, t, n⟩))) ∧ Below w.heap.size w w' := by
  obtain ⟨hn, ⟨hx, hy, hw, hh⟩, ht, _, _⟩ := small_of_may hm
  obtain ⟨N, eN, sN, hN⟩ := itoa_named _ hn
  obtain ⟨K, eK, sK, hK⟩ := col_named c
  obtain ⟨D, eD, sD, hD⟩ := col_named d
  obtain ⟨Q, eQ, sQ, hQ⟩ := rect_named r hx hy hw hh
  obtain ⟨T, eT, sT, hT⟩ := esc_named t ht
  clear hx hy hw hh ht hm hn
  have hres : (⟨#[60, 119, 114, 105, 116, 101]⟩ ++ Q ++ (⟨#[32, 99, 61, 34]⟩ ++ K ++ ⟨#[34]⟩) ++ ⟨#[32, 98, 61, 34]⟩ ++ D ++ ⟨#[34]⟩ ++ (⟨#[32, 110, 61, 34]⟩ ++ N ++ ⟨#[34]⟩) ++ ⟨#[62]⟩ ++ T ++ ⟨#[60, 47, 119, 114, 105, 116, 101, 62, 10]⟩ : ByteArray) = bt (lineB ⟨3, r, c, d, t, n⟩) := by
    rw [eQ, eN, eK, eD, eT]
    show bt [60, 119, 114, 105, 116, 101] ++ bt _ ++ (bt qc1 ++ bt _ ++ bt qq) ++ bt qb1 ++ bt _ ++ bt qq ++ (bt qn1 ++ bt _ ++ bt qq) ++ bt [62] ++ bt _ ++ bt qWriteEnd = _
    simp only [bt_append]
    unfold lineB nodeB inkB
    simp [List.append_assoc]
  have HRES := Lib.hid hres; clear hres eN eK eD eQ eT
  have HN := Lib.hid hN; have HK := Lib.hid hK; have HD := Lib.hid hD; have HQ := Lib.hid hQ; have HT := Lib.hid hT; clear hN hK hD hQ hT
  have n1 : ¬ 9223372036854775807 < 4 + N.size := by omega
  have n2 : ¬ 9223372036854775807 < 4 + N.size + 1 := by omega
  have n3 : ¬ 9223372036854775807 < 4 + K.size := by omega
  have n4 : ¬ 9223372036854775807 < 4 + K.size + 1 := by omega
  have n5 : ¬ 9223372036854775807 < 6 + Q.size := by omega
  have n6 : ¬ 9223372036854775807 < 6 + Q.size + (4 + K.size + 1) := by omega
  have n7 : ¬ 9223372036854775807 < 6 + Q.size + (4 + K.size + 1) + 4 := by omega
  have n8 : ¬ 9223372036854775807 < 6 + Q.size + (4 + K.size + 1) + 4 + D.size := by omega
  have n9 : ¬ 9223372036854775807 < 6 + Q.size + (4 + K.size + 1) + 4 + D.size + 1 := by omega
  have n10 : ¬ 9223372036854775807 < 6 + Q.size + (4 + K.size + 1) + 4 + D.size + 1 + (4 + N.size + 1) := by omega
  have n11 : ¬ 9223372036854775807 < 6 + Q.size + (4 + K.size + 1) + 4 + D.size + 1 + (4 + N.size + 1) + 1 := by omega
  have n12 : ¬ 9223372036854775807 < 6 + Q.size + (4 + K.size + 1) + 4 + D.size + 1 + (4 + N.size + 1) + 1 + T.size := by omega
  have n13 : ¬ 9223372036854775807 < 6 + Q.size + (4 + K.size + 1) + 4 + D.size + 1 + (4 + N.size + 1) + 1 + T.size + 9 := by omega
  clear sN sK sD sQ sT
  have HG := Lib.hid hg; clear hg
  unfold SV
  go_enter Tryz.func16, Tryz.ntmps16
  go_upto_region 1 with fail
  have B1 := Lib.hid (blkV_new w 31 (SC ⟨3, r, c, d, t, n⟩))
  have W1 := Lib.hid ((Below.refl w.heap.size w).alloc (Nat.le_refl _) (.cells (SC ⟨3, r, c, d, t, n⟩) 31))
  generalize w.alloc (.cells (SC ⟨3, r, c, d, t, n⟩) 31) = w1 at B1 W1 ⊢
  obtain ⟨c0, c1, c2, c3, c4, c5, c6, c7, c8, c9, c10, c11, c12, c13, c14⟩ := cells15 B1.out
  simp only at c0 c1 c2 c3 c4 c5 c6 c7 c8 c9 c10 c11 c12 c13 c14
  simp only [RV, CV] at HQ HK HD
  go_upto_region 9 with (first | (go_at_call 15; refine (HN.out _ (HG.out.below HG.out.size W1.out)).mono ?_; rintro e wn ⟨rfl, hb⟩; have B1 := Lib.hid (B1.out.below hb B1.out.lt); have W1 := Lib.hid (W1.out.trans (hb.mono W1.out.size)); clear hb c0 c1 c2 c3 c4 c5 c6 c7 c8 c9 c10 c11 c12 c13 c14; obtain ⟨c0, c1, c2, c3, c4, c5, c6, c7, c8, c9, c10, c11, c12, c13, c14⟩ := cells15 B1.out; simp only at c0 c1 c2 c3 c4 c5 c6 c7 c8 c9 c10 c11 c12 c13 c14) | (go_at_call 33; (first | (with_reducible refine (HK.out _).mono ?_) | (with_reducible refine (HD.out _).mono ?_)); rintro e wn ⟨rfl, hb⟩; have B1 := Lib.hid (B1.out.below hb B1.out.lt); have W1 := Lib.hid (W1.out.trans (hb.mono W1.out.size)); clear hb c0 c1 c2 c3 c4 c5 c6 c7 c8 c9 c10 c11 c12 c13 c14; obtain ⟨c0, c1, c2, c3, c4, c5, c6, c7, c8, c9, c10, c11, c12, c13, c14⟩ := cells15 B1.out; simp only at c0 c1 c2 c3 c4 c5 c6 c7 c8 c9 c10 c11 c12 c13 c14) | (go_at_call 34; refine (HQ.out _ (HG.out.below HG.out.size W1.out)).mono ?_; rintro e wn ⟨rfl, hb⟩; have B1 := Lib.hid (B1.out.below hb B1.out.lt); have W1 := Lib.hid (W1.out.trans (hb.mono W1.out.size)); clear hb c0 c1 c2 c3 c4 c5 c6 c7 c8 c9 c10 c11 c12 c13 c14; obtain ⟨c0, c1, c2, c3, c4, c5, c6, c7, c8, c9, c10, c11, c12, c13, c14⟩ := cells15 B1.out; simp only at c0 c1 c2 c3 c4 c5 c6 c7 c8 c9 c10 c11 c12 c13 c14) | (go_at_call 9; refine (HT.out _).mono ?_; rintro e wn ⟨rfl, hb⟩; have B1 := Lib.hid (B1.out.below hb B1.out.lt); have W1 := Lib.hid (W1.out.trans (hb.mono W1.out.size)); clear hb c0 c1 c2 c3 c4 c5 c6 c7 c8 c9 c10 c11 c12 c13 c14; obtain ⟨c0, c1, c2, c3, c4, c5, c6, c7, c8, c9, c10, c11, c12, c13, c14⟩ := cells15 B1.out; simp only at c0 c1 c2 c3 c4 c5 c6 c7 c8 c9 c10 c11 c12 c13 c14))
  have B1 := Lib.hid (B1.out.same (w' := wn.drew) rfl)
  have W1 := Lib.hid W1.out.drew
  clear c0 c1 c2 c3 c4 c5 c6 c7 c8 c9 c10 c11 c12 c13 c14
  obtain ⟨c0, c1, c2, c3, c4, c5, c6, c7, c8, c9, c10, c11, c12, c13, c14⟩ := cells15 B1.out
  simp only at c0 c1 c2 c3 c4 c5 c6 c7 c8 c9 c10 c11 c12 c13 c14
  go_region_held_law (fun w' => w'.cell? ⟨w.heap.size, 1, none⟩ = some (.int .i64 r.x) ∧ w'.cell? ⟨w.heap.size, 2, none⟩ = some (.int .i64 r.y) ∧ w'.cell? ⟨w.heap.size, 3, none⟩ = some (.int .i64 r.w) ∧ w'.cell? ⟨w.heap.size, 4, none⟩ = some (.int .i64 r.h) ∧ w'.cell? ⟨w.heap.size, 9, none⟩ = some (.int .u8 (d.r.toNat : Int)) ∧ w'.cell? ⟨w.heap.size, 10, none⟩ = some (.int .u8 (d.g.toNat : Int)) ∧ w'.cell? ⟨w.heap.size, 11, none⟩ = some (.int .u8 (d.b.toNat : Int)) ∧ w'.cell? ⟨w.heap.size, 12, none⟩ = some (.int .u8 (d.a.toNat : Int)) ∧ w'.cell? ⟨w.heap.size, 13, none⟩ = some (.string (bt t))) (first | go_keep | exact ⟨c1, c2, c3, c4, c9, c10, c11, c12, c13⟩) (first | (go_at_call 15; refine (HN.out _ (HG.out.below HG.out.size W1.out)).mono ?_; rintro e wn ⟨rfl, hb⟩; have B1 := Lib.hid (B1.out.below hb B1.out.lt); have W1 := Lib.hid (W1.out.trans (hb.mono W1.out.size)); clear hb c0 c1 c2 c3 c4 c5 c6 c7 c8 c9 c10 c11 c12 c13 c14; obtain ⟨c0, c1, c2, c3, c4, c5, c6, c7, c8, c9, c10, c11, c12, c13, c14⟩ := cells15 B1.out; simp only at c0 c1 c2 c3 c4 c5 c6 c7 c8 c9 c10 c11 c12 c13 c14) | (go_at_call 33; (first | (with_reducible refine (HK.out _).mono ?_) | (with_reducible refine (HD.out _).mono ?_)); rintro e wn ⟨rfl, hb⟩; have B1 := Lib.hid (B1.out.below hb B1.out.lt); have W1 := Lib.hid (W1.out.trans (hb.mono W1.out.size)); clear hb c0 c1 c2 c3 c4 c5 c6 c7 c8 c9 c10 c11 c12 c13 c14; obtain ⟨c0, c1, c2, c3, c4, c5, c6, c7, c8, c9, c10, c11, c12, c13, c14⟩ := cells15 B1.out; simp only at c0 c1 c2 c3 c4 c5 c6 c7 c8 c9 c10 c11 c12 c13 c14) | (go_at_call 34; refine (HQ.out _ (HG.out.below HG.out.size W1.out)).mono ?_; rintro e wn ⟨rfl, hb⟩; have B1 := Lib.hid (B1.out.below hb B1.out.lt); have W1 := Lib.hid (W1.out.trans (hb.mono W1.out.size)); clear hb c0 c1 c2 c3 c4 c5 c6 c7 c8 c9 c10 c11 c12 c13 c14; obtain ⟨c0, c1, c2, c3, c4, c5, c6, c7, c8, c9, c10, c11, c12, c13, c14⟩ := cells15 B1.out; simp only at c0 c1 c2 c3 c4 c5 c6 c7 c8 c9 c10 c11 c12 c13 c14) | (go_at_call 9; refine (HT.out _).mono ?_; rintro e wn ⟨rfl, hb⟩; have B1 := Lib.hid (B1.out.below hb B1.out.lt); have W1 := Lib.hid (W1.out.trans (hb.mono W1.out.size)); clear hb c0 c1 c2 c3 c4 c5 c6 c7 c8 c9 c10 c11 c12 c13 c14; obtain ⟨c0, c1, c2, c3, c4, c5, c6, c7, c8, c9, c10, c11, c12, c13, c14⟩ := cells15 B1.out; simp only at c0 c1 c2 c3 c4 c5 c6 c7 c8 c9 c10 c11 c12 c13 c14) | fail)
  all_goals (
    go_wp2_with fail
    go_ret
    exact ⟨by rw [← HRES.out]; rfl, W1.out⟩)
end Go.Proofs.YtemiamajgjfnbaaGreatDoor
