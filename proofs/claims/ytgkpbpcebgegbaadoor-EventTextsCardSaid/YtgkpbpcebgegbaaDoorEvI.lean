/- The document's answer: Check. -/
import Derived.Test.YtgkpbpcebgegbaaDoorEvJ
import Derived.Test.YtgkpbpcebgegbaaDoorEvC1
namespace Go.Proofs.YtgkpbpcebgegbaaDoor
open Go.RowKit Ev
set_option linter.unusedVariables false
set_option linter.unusedSimpArgs false

theorem Blk9.nine {w' : World} {b : Nat} {e : E} (h : Blk9 w' b e) : w'.cell? ⟨b, 0, none⟩ = some (.int .u8 e.kind) ∧ w'.cell? ⟨b, 1, none⟩ = some (.int .i64 e.ax) ∧ w'.cell? ⟨b, 2, none⟩ = some (.int .i64 e.ay) ∧ w'.cell? ⟨b, 3, none⟩ = some (.int .i64 e.sw) ∧ w'.cell? ⟨b, 4, none⟩ = some (.int .i64 e.sh) ∧ w'.cell? ⟨b, 5, none⟩ = some (.string ⟨e.name.toArray⟩) ∧ w'.cell? ⟨b, 6, none⟩ = some (.int .u8 e.mods) ∧ w'.cell? ⟨b, 7, none⟩ = some (.string ⟨e.text.toArray⟩) ∧ w'.cell? ⟨b, 8, none⟩ = some (.int .i64 e.n) :=
  ⟨(h.cell 0).trans rfl, (h.cell 1).trans rfl, (h.cell 2).trans rfl, (h.cell 3).trans rfl, (h.cell 4).trans rfl, (h.cell 5).trans rfl, (h.cell 6).trans rfl, (h.cell 7).trans rfl, (h.cell 8).trans rfl⟩
set_option maxHeartbeats 4000000 in
set_option maxRecDepth 100000 in
theorem chkq_in (e : E) (w : World) (hg : Glob w) (hn : e.name.length ≤ 9223372036854775807) (K1 : 1 ≤ e.kind) (K2 : e.kind ≤ 10) :
    Calls Tryd.prog 9 #[EV e] w fun r w' => r = .returned (.int .i64 (chkE e)) ∧ Below w.heap.size w w' := by
  have HG := Lib.hid hg; have HN := Lib.hid hn; clear hg hn
  have HK := Lib.hid (fun w => kept_any e w K1 K2)
  have HP := Lib.hid (fun w => place_any e.ax e.ay w)
  have hkk : (keptE e).kind = e.kind := by unfold keptE; repeat' split
                                           all_goals rfl
  unfold EV at HK ⊢
  have g1 : decide (1 ≤ e.kind) = true := decide_eq_true K1
  have g2 : decide (e.kind ≤ 10) = true := decide_eq_true K2
  have KK := Lib.hid (And.intro K1 K2)
  clear K1 K2
  go_enter Tryd.func9, Tryd.ntmps9
  go_upto_region 1 with fail
  have b0 : Blk9 (w.alloc (.cells #[.int .u8 e.kind, .int .i64 e.ax, .int .i64 e.ay, .int .i64 e.sw, .int .i64 e.sh, .string ⟨e.name.toArray⟩, .int .u8 e.mods, .string ⟨e.text.toArray⟩, .int .i64 e.n] 29)) w.heap.size e := heap_alloc_new w _
  have B0 := Lib.hid ((Below.refl w.heap.size w).alloc (Nat.le_refl _) (.cells #[.int .u8 e.kind, .int .i64 e.ax, .int .i64 e.ay, .int .i64 e.sw, .int .i64 e.sh, .string ⟨e.name.toArray⟩, .int .u8 e.mods, .string ⟨e.text.toArray⟩, .int .i64 e.n] 29))
  generalize w.alloc (.cells #[.int .u8 e.kind, .int .i64 e.ax, .int .i64 e.ay, .int .i64 e.sw, .int .i64 e.sh, .string ⟨e.name.toArray⟩, .int .u8 e.mods, .string ⟨e.text.toArray⟩, .int .i64 e.n] 29) = w0 at b0 B0 ⊢
  go_cut [3] (fun v3 wx => v3 = .bool (decide (keptE e = e) && (within e.ax (-16384) 16384 && within e.ay (-16384) 16384)) ∧ Hid (Blk9 wx w.heap.size e) ∧ Hid (Below w.heap.size w wx))
  case first =>
    have b1 := b0.drew
    have B1 := Lib.hid B0.out.drew
    have s1 := Lib.hid (show w.heap.size ≤ w0.drew.heap.size from Nat.le_of_lt b1.lt)
    clear b0 B0
    by_cases hE : keptE e = e
    · have HD := Lib.hid (decide_eq_true hE)
      have HK2 := HK
      rw [hE] at HK2
      clear HK hkk hE
      go_region_held3 (fun w' => w'.cell? ⟨w.heap.size, 0, none⟩ = some (.int .u8 e.kind) ∧ w'.cell? ⟨w.heap.size, 1, none⟩ = some (.int .i64 e.ax) ∧ w'.cell? ⟨w.heap.size, 2, none⟩ = some (.int .i64 e.ay) ∧ w'.cell? ⟨w.heap.size, 3, none⟩ = some (.int .i64 e.sw) ∧ w'.cell? ⟨w.heap.size, 4, none⟩ = some (.int .i64 e.sh) ∧ w'.cell? ⟨w.heap.size, 5, none⟩ = some (.string ⟨e.name.toArray⟩) ∧ w'.cell? ⟨w.heap.size, 6, none⟩ = some (.int .u8 e.mods) ∧ w'.cell? ⟨w.heap.size, 7, none⟩ = some (.string ⟨e.text.toArray⟩) ∧ w'.cell? ⟨w.heap.size, 8, none⟩ = some (.int .i64 e.n)) (exact Blk9.nine (by assumption)) (first | (go_at_call 29; refine (HK2.out _).mono ?_; rintro r w3 ⟨rfl, hb⟩; have b3 : Blk9 w3 w.heap.size e := b1.same (hb.block _ b1.lt); have HB3 := Lib.hid (B1.out.trans (hb.mono s1.out)); clear hb) | (go_at_call 30; refine (HP.out _).mono ?_; rintro r w4 ⟨rfl, hb⟩; have b4 : Blk9 w4 w.heap.size e := b3.same (hb.block _ b3.lt); have HB4 := Lib.hid (HB3.out.trans (hb.mono (Nat.le_of_lt b3.lt))); clear hb) | fail)
      go_wp2_with fail
      go_meet
      exact ⟨by rw [HD.out]; simp, Lib.hid b4, HB4⟩
    · have HD := Lib.hid (decide_eq_false hE)
      have HE := Lib.hid hE; clear hE
      obtain ⟨ke, hke⟩ : ∃ ke, keptE e = ke := ⟨_, rfl⟩
      rw [hke] at HK hkk HE
      clear hke
      by_cases q1 : ke.ax = e.ax
      rotate_left
      · have n1 : ¬ e.ax = ke.ax := fun h => q1 h.symm
        have n2 : (e.ax == ke.ax) = false := beq_false_of_ne n1
        have n3 : decide (e.ax = ke.ax) = false := decide_eq_false n1
        clear q1
        obtain ⟨c0, c1, c2, c3, c4, c5, c6, c7, c8⟩ := b1.nine
        first | (go_region_law (first | (go_simp; go_at_call 29; refine (HK.out _).mono ?_; rintro r w3 ⟨rfl, hb⟩; have b3 : Blk9 w3 w.heap.size e := b1.same (hb.block _ b1.lt); have HB3 := Lib.hid (B1.out.trans (hb.mono s1.out)); clear hb; obtain ⟨d0, d1, d2, d3, d4, d5, d6, d7, d8⟩ := b3.nine) | fail)) | fail
        all_goals (
          go_wp2_with fail
          go_meet
          exact ⟨by rw [HD.out]; simp, Lib.hid b3, HB3⟩)
      by_cases q2 : ke.ay = e.ay
      rotate_left
      · have n1 : ¬ e.ay = ke.ay := fun h => q2 h.symm
        have n2 : (e.ay == ke.ay) = false := beq_false_of_ne n1
        have n3 : decide (e.ay = ke.ay) = false := decide_eq_false n1
        clear q2
        obtain ⟨c0, c1, c2, c3, c4, c5, c6, c7, c8⟩ := b1.nine
        first | (go_region_law (first | (go_simp; go_at_call 29; refine (HK.out _).mono ?_; rintro r w3 ⟨rfl, hb⟩; have b3 : Blk9 w3 w.heap.size e := b1.same (hb.block _ b1.lt); have HB3 := Lib.hid (B1.out.trans (hb.mono s1.out)); clear hb; obtain ⟨d0, d1, d2, d3, d4, d5, d6, d7, d8⟩ := b3.nine) | fail)) | fail
        all_goals (
          go_wp2_with fail
          go_meet
          exact ⟨by rw [HD.out]; simp, Lib.hid b3, HB3⟩)
      by_cases q3 : ke.sw = e.sw
      rotate_left
      · have n1 : ¬ e.sw = ke.sw := fun h => q3 h.symm
        have n2 : (e.sw == ke.sw) = false := beq_false_of_ne n1
        have n3 : decide (e.sw = ke.sw) = false := decide_eq_false n1
        clear q3
        obtain ⟨c0, c1, c2, c3, c4, c5, c6, c7, c8⟩ := b1.nine
        first | (go_region_law (first | (go_simp; go_at_call 29; refine (HK.out _).mono ?_; rintro r w3 ⟨rfl, hb⟩; have b3 : Blk9 w3 w.heap.size e := b1.same (hb.block _ b1.lt); have HB3 := Lib.hid (B1.out.trans (hb.mono s1.out)); clear hb; obtain ⟨d0, d1, d2, d3, d4, d5, d6, d7, d8⟩ := b3.nine) | fail)) | fail
        all_goals (
          go_wp2_with fail
          go_meet
          exact ⟨by rw [HD.out]; simp, Lib.hid b3, HB3⟩)
      by_cases q4 : ke.sh = e.sh
      rotate_left
      · have n1 : ¬ e.sh = ke.sh := fun h => q4 h.symm
        have n2 : (e.sh == ke.sh) = false := beq_false_of_ne n1
        have n3 : decide (e.sh = ke.sh) = false := decide_eq_false n1
        clear q4
        obtain ⟨c0, c1, c2, c3, c4, c5, c6, c7, c8⟩ := b1.nine
        first | (go_region_law (first | (go_simp; go_at_call 29; refine (HK.out _).mono ?_; rintro r w3 ⟨rfl, hb⟩; have b3 : Blk9 w3 w.heap.size e := b1.same (hb.block _ b1.lt); have HB3 := Lib.hid (B1.out.trans (hb.mono s1.out)); clear hb; obtain ⟨d0, d1, d2, d3, d4, d5, d6, d7, d8⟩ := b3.nine) | fail)) | fail
        all_goals (
          go_wp2_with fail
          go_meet
          exact ⟨by rw [HD.out]; simp, Lib.hid b3, HB3⟩)
      by_cases q5 : ke.name = e.name
      rotate_left
      · have n1 : ¬ e.name = ke.name := fun h => q5 h.symm
        have n2 : (e.name == ke.name) = false := beq_false_of_ne n1
        have n3 : decide (e.name = ke.name) = false := decide_eq_false n1
        clear q5
        obtain ⟨c0, c1, c2, c3, c4, c5, c6, c7, c8⟩ := b1.nine
        first | (go_region_law (first | (go_simp; go_at_call 29; refine (HK.out _).mono ?_; rintro r w3 ⟨rfl, hb⟩; have b3 : Blk9 w3 w.heap.size e := b1.same (hb.block _ b1.lt); have HB3 := Lib.hid (B1.out.trans (hb.mono s1.out)); clear hb; obtain ⟨d0, d1, d2, d3, d4, d5, d6, d7, d8⟩ := b3.nine) | fail)) | fail
        all_goals (
          go_wp2_with fail
          go_meet
          exact ⟨by rw [HD.out]; simp, Lib.hid b3, HB3⟩)
      by_cases q6 : ke.mods = e.mods
      rotate_left
      · have n1 : ¬ e.mods = ke.mods := fun h => q6 h.symm
        have n2 : (e.mods == ke.mods) = false := beq_false_of_ne n1
        have n3 : decide (e.mods = ke.mods) = false := decide_eq_false n1
        clear q6
        obtain ⟨c0, c1, c2, c3, c4, c5, c6, c7, c8⟩ := b1.nine
        first | (go_region_law (first | (go_simp; go_at_call 29; refine (HK.out _).mono ?_; rintro r w3 ⟨rfl, hb⟩; have b3 : Blk9 w3 w.heap.size e := b1.same (hb.block _ b1.lt); have HB3 := Lib.hid (B1.out.trans (hb.mono s1.out)); clear hb; obtain ⟨d0, d1, d2, d3, d4, d5, d6, d7, d8⟩ := b3.nine) | fail)) | fail
        all_goals (
          go_wp2_with fail
          go_meet
          exact ⟨by rw [HD.out]; simp, Lib.hid b3, HB3⟩)
      by_cases q7 : ke.text = e.text
      rotate_left
      · have n1 : ¬ e.text = ke.text := fun h => q7 h.symm
        have n2 : (e.text == ke.text) = false := beq_false_of_ne n1
        have n3 : decide (e.text = ke.text) = false := decide_eq_false n1
        clear q7
        obtain ⟨c0, c1, c2, c3, c4, c5, c6, c7, c8⟩ := b1.nine
        first | (go_region_law (first | (go_simp; go_at_call 29; refine (HK.out _).mono ?_; rintro r w3 ⟨rfl, hb⟩; have b3 : Blk9 w3 w.heap.size e := b1.same (hb.block _ b1.lt); have HB3 := Lib.hid (B1.out.trans (hb.mono s1.out)); clear hb; obtain ⟨d0, d1, d2, d3, d4, d5, d6, d7, d8⟩ := b3.nine) | fail)) | fail
        all_goals (
          go_wp2_with fail
          go_meet
          exact ⟨by rw [HD.out]; simp, Lib.hid b3, HB3⟩)
      by_cases q8 : ke.n = e.n
      rotate_left
      · have n1 : ¬ e.n = ke.n := fun h => q8 h.symm
        have n2 : (e.n == ke.n) = false := beq_false_of_ne n1
        have n3 : decide (e.n = ke.n) = false := decide_eq_false n1
        clear q8
        obtain ⟨c0, c1, c2, c3, c4, c5, c6, c7, c8⟩ := b1.nine
        first | (go_region_law (first | (go_simp; go_at_call 29; refine (HK.out _).mono ?_; rintro r w3 ⟨rfl, hb⟩; have b3 : Blk9 w3 w.heap.size e := b1.same (hb.block _ b1.lt); have HB3 := Lib.hid (B1.out.trans (hb.mono s1.out)); clear hb; obtain ⟨d0, d1, d2, d3, d4, d5, d6, d7, d8⟩ := b3.nine) | fail)) | fail
        all_goals (
          go_wp2_with fail
          go_meet
          exact ⟨by rw [HD.out]; simp, Lib.hid b3, HB3⟩)
      exfalso
      have he : ke = e := by
        obtain ⟨a0, a1, a2, a3, a4, a5, a6, a7, a8⟩ := ke
        obtain ⟨f0, f1, f2, f3, f4, f5, f6, f7, f8⟩ := e
        simp only at hkk q1 q2 q3 q4 q5 q6 q7 q8
        rw [hkk, q1, q2, q3, q4, q5, q6, q7, q8]
      exact HE.out he
  case rest =>
    obtain ⟨rfl, hb, HBx⟩ := hcut
    obtain ⟨c0, c1, c2, c3, c4, c5, c6, c7, c8⟩ := hb.out.nine
    have HGx := Lib.hid (HG.out.below HG.out.size HBx.out)
    clear HK HP hkk g1 g2 b0 B0
    have hlt := hb.out.lt
    obtain ⟨ok, hok⟩ : ∃ ok, (decide (keptE e = e) && (within e.ax (-16384) 16384 && within e.ay (-16384) 16384)) = ok := ⟨_, rfl⟩
    rw [hok]
    have HOK := Lib.hid hok; clear hok
    have hkc : e.kind = 1 ∨ e.kind = 2 ∨ e.kind = 3 ∨ e.kind = 4 ∨ e.kind = 5 ∨ e.kind = 6 ∨ e.kind = 7 ∨ e.kind = 8 ∨ e.kind = 9 ∨ e.kind = 10 := by have := KK.out; omega
    have hnl : (⟨e.name.toArray⟩ : ByteArray).size ≤ 9223372036854775807 := HN.out
    have HNL := Lib.hid hnl; clear hnl
    have hch : chkE e = if ok = true then (if condE e = true then 0 else 190) else 190 := by
      unfold chkE
      rw [chk_kept, HOK.out]
      cases ok <;> simp
    have HCH := Lib.hid hch; clear hch
    rcases hkc with hk | hk | hk | hk | hk | hk | hk | hk | hk | hk
    all_goals cases ok
    all_goals (
      go_wp2_with (go_at_call 28; refine (valid_any ⟨e.name.toArray⟩ _ HNL.out HGx.out).mono ?_; rintro r w1 ⟨rfl, hbv⟩; have d6 : w1.cell? ⟨w.heap.size, 6, none⟩ = some (.int .u8 e.mods) := (hbv.cell (p := ⟨w.heap.size, 6, none⟩) hlt).trans c6; have HB := Lib.hid (HBx.out.trans (hbv.mono (Nat.le_of_lt hlt))); clear hbv))
    all_goals (
      go_ret
      refine ⟨ret_i64 ?_, ?_⟩
      · rw [HCH.out]
        go_light
        first
          | rfl
          | (simp [condE, within, *]; done)
          | (simp_all [condE, within]; done)
          | (simp [condE, within, *]; omega)
          | (rename_i h; simp at h; simp [condE, within, *]; omega)
          | (have hp := List.length_pos_iff.2 (show e.name ≠ [] by assumption); rename_i h; simp at h; simp [condE, within, *]; omega)
      · first | exact HB.out | exact HBx.out)
set_option maxHeartbeats 4000000 in
set_option maxRecDepth 100000 in
theorem chkq_out (e : E) (w : World) (K : ¬ (1 ≤ e.kind ∧ e.kind ≤ 10)) :
    Calls Tryd.prog 9 #[EV e] w fun r w' => r = .returned (.int .i64 (chkE e)) ∧ Below w.heap.size w w' := by
  have hch : chkE e = 190 := by
    apply if_neg
    rw [chk_kept]
    have : condE e = false := by
      unfold condE
      rw [if_neg (by omega), if_neg (by omega), if_neg (by omega), if_neg (by omega), if_neg (by omega), if_neg (by omega), if_neg (by omega), if_neg (by omega), if_neg (by omega), if_neg (by omega)]
    rw [this]; simp
  rw [hch]
  have k1 : (e.kind == 1) = false := by simp; omega
  have k2 : (e.kind == 2) = false := by simp; omega
  have k3 : (e.kind == 3) = false := by simp; omega
  have k4 : (e.kind == 4) = false := by simp; omega
  have k5 : (e.kind == 5) = false := by simp; omega
  have k6 : (e.kind == 6) = false := by simp; omega
  have k7 : (e.kind == 7) = false := by simp; omega
  have k8 : (e.kind == 8) = false := by simp; omega
  have k9 : (e.kind == 9) = false := by simp; omega
  have k10 : (e.kind == 10) = false := by simp; omega
  clear hch
  unfold EV
  by_cases K1 : 1 ≤ e.kind
  · have g1 : decide (1 ≤ e.kind) = true := decide_eq_true K1
    have g2 : decide (e.kind ≤ 10) = false := decide_eq_false (by omega)
    clear K K1
    go_enter Tryd.func9, Tryd.ntmps9
    go_wp2_with fail
    go_quiet (fail)
    go_wp2_with fail
    go_ret
    exact ⟨rfl, below_drewN' ((Below.refl _ _).alloc (Nat.le_refl _) _) _⟩
  · have g1 : decide (1 ≤ e.kind) = false := decide_eq_false K1
    clear K K1
    go_enter Tryd.func9, Tryd.ntmps9
    go_wp2_with fail
    go_quiet (fail)
    go_wp2_with fail
    go_ret
    exact ⟨rfl, below_drewN' ((Below.refl _ _).alloc (Nat.le_refl _) _) _⟩
theorem checkq_any (e : E) (w : World) (hg : Glob w) (hn : e.name.length ≤ 9223372036854775807) :
    Calls Tryd.prog 9 #[EV e] w fun r w' => r = .returned (.int .i64 (chkE e)) ∧ Below w.heap.size w w' := by
  by_cases K : 1 ≤ e.kind ∧ e.kind ≤ 10
  · exact chkq_in e w hg hn K.1 K.2
  · exact chkq_out e w K
end Go.Proofs.YtgkpbpcebgegbaaDoor
