/- The document's answer: Text. -/
import Derived.Test.YtgkpbpcebgegbaaDoorEvQ2
import Derived.Test.YtgkpbpcebgegbaaDoorEvI
namespace Go.Proofs.YtgkpbpcebgegbaaDoor
open Go.RowKit Ev
set_option linter.unusedVariables false
set_option linter.unusedSimpArgs false

theorem at_ok (e : E) (h : chk e = true) : (-16384 ≤ e.ax ∧ e.ax ≤ 16384) ∧ (-16384 ≤ e.ay ∧ e.ay ≤ 16384) := by
  unfold chk at h
  simp only [Bool.and_eq_true, within_iff] at h
  exact h.1
theorem itoa_size (n : Int) (h0 : -9223372036854775808 ≤ n) (h1 : n ≤ 9223372036854775807) : (bt (Lib.itoa n)).size ≤ 21 := Lib.itoa_length_le n h0 h1
theorem esc_size (l : Bytes) : (bt (esc l)).size ≤ 3 * l.length := esc_len l
theorem size_cat (a b : ByteArray) : (a ++ b).size = a.size + b.size := ByteArray.size_append
set_option maxHeartbeats 4000000 in
set_option maxRecDepth 100000 in
theorem textqq_wrong (e : E) (w : World) (hg : Glob w) (hn : e.name.length ≤ 9223372036854775807) (hch : ¬ chk e = true) :
    Calls Tryd.prog 5 #[EV e] w fun r w' => r = .returned (.tuple #[.string (bt []), .int .i64 190]) ∧ Below w.heap.size w w' := by
  have hck := fun w hg => checkq_any e w hg hn
  rw [show chkE e = 190 from if_neg hch] at hck
  have HCK := Lib.hid hck; have HG := Lib.hid hg; clear hck hg
  unfold EV at HCK ⊢
  go_enter Tryd.func5, Tryd.ntmps5
  go_wp2_with fail
  refine (HCK.out _ (HG.out.alloc _)).mono ?_
  rintro r w1 ⟨rfl, hb⟩
  have HB1 := Lib.hid (((Below.refl _ _).alloc (Nat.le_refl _) _).trans (hb.mono (by simp))); clear hb
  go_wp2_with fail
  go_ret2
  exact ⟨rfl, HB1.out⟩
set_option maxHeartbeats 4000000 in
set_option maxRecDepth 100000 in
theorem textqq_1 (e : E) (w : World) (hg : Glob w) (hn : e.name.length ≤ 9223372036854775807) (hm : 0 ≤ e.mods) (hch : chk e = true) (hk : e.kind = 1) :
    Calls Tryd.prog 5 #[EV e] w fun r w' => r = .returned (.tuple #[.string (bt (textB e)), .int .i64 (textE e)]) ∧ Below w.heap.size w w' := by
  have hck := fun w hg => checkq_any e w hg hn
  rw [show chkE e = 0 from if_pos hch] at hck
  have hat := at_ok e hch
  have hnums := nums_ok e hch hm
  have htl := tail_ok e hch
  obtain ⟨X, hX⟩ : ∃ X, bt (Lib.itoa e.ax) = X := ⟨_, rfl⟩
  have nX := fun w => numberq_q e.ax (by have := hat; omega) (by have := hat; omega) w
  have zX := itoa_size e.ax (by have := hat; omega) (by have := hat; omega)
  rw [hX] at nX zX
  obtain ⟨Y, hY⟩ : ∃ Y, bt (Lib.itoa e.ay) = Y := ⟨_, rfl⟩
  have nY := fun w => numberq_q e.ay (by have := hat; omega) (by have := hat; omega) w
  have zY := itoa_size e.ay (by have := hat; omega) (by have := hat; omega)
  rw [hY] at nY zY
  obtain ⟨M, hM⟩ : ∃ M, bt (Lib.itoa e.mods) = M := ⟨_, rfl⟩
  have nM := fun w => numberq_q e.mods (hnums e.mods (by simp [nums, hk])).1 (hnums e.mods (by simp [nums, hk])).2 w
  have zM := itoa_size e.mods (hnums e.mods (by simp [nums, hk])).1 (hnums e.mods (by simp [nums, hk])).2
  rw [hM] at nM zM
  have hlim : e.name.length ≤ 65536 := htl.1 hk
  obtain ⟨T, hT⟩ : ∃ T, bt (esc e.name) = T := ⟨_, rfl⟩
  have nT := fun w => escq_any ⟨e.name.toArray⟩ w (by show e.name.toArray.size ≤ _; rw [List.size_toArray]; omega)
  have zT := esc_size e.name
  rw [show (⟨e.name.toArray⟩ : ByteArray).data.toList = e.name by simp, hT] at nT
  rw [hT] at zT
  have zT2 : T.size ≤ 196608 := by omega
  clear zT hlim
  have hbody : bt (body e) = (((bt [107, 101, 121] : ByteArray) ++ bt [32]) ++ M) ++ bt [32] ++ T := by
    rw [← hM, ← hT]
    simp only [bt_append]
    congr 1
    simp [body, hk, sp, itoa]
  have hlen : (bt (body e)).size = (body e).length := by simp [bt, ByteArray.size]
  have hfin : textB e = (if (body e).length ≤ 65536 then body e else []) ∧ textE e = (if (body e).length ≤ 65536 then 0 else 3) := by
    unfold textB textE
    rw [if_pos hch]
    refine ⟨?_, rfl⟩
    by_cases h : (body e).length ≤ 65536
    · rw [if_pos ⟨hch, h⟩, if_pos h]
    · rw [if_neg (fun h2 => h h2.2), if_neg h]
  have HBODY := Lib.hid hbody; have HLEN := Lib.hid hlen; have HFIN := Lib.hid hfin
  have HCK := Lib.hid hck; have HG := Lib.hid hg; have HM := Lib.hid hm; have HCH := Lib.hid hch
  have NX' := Lib.hid nX; clear nX hX
  have NY' := Lib.hid nY; clear nY hY
  have NM' := Lib.hid nM; clear nM hM
  have NT' := Lib.hid nT; clear nT hT
  have HW := Lib.hid (show ∀ w, Calls Tryd.prog 15 #[.int .u8 e.kind] w fun r w' => r = .returned (.string (bt [107, 101, 121])) ∧ Below w.heap.size w w' from fun w => by rw [hk]; exact wordq_1 w)
  have k1 : (e.kind == 1) = true := by rw [hk]; decide
  have k2 : (e.kind == 2) = false := by rw [hk]; decide
  have k3 : (e.kind == 3) = false := by rw [hk]; decide
  have k4 : (e.kind == 4) = false := by rw [hk]; decide
  have k5 : (e.kind == 5) = false := by rw [hk]; decide
  have k6 : (e.kind == 6) = false := by rw [hk]; decide
  have k7 : (e.kind == 7) = false := by rw [hk]; decide
  have k8 : (e.kind == 8) = false := by rw [hk]; decide
  have hwm : IntKind.i64.wrap e.mods = e.mods := IntWalk.i64_in _ ⟨(hnums e.mods (by simp [nums, hk])).1, (hnums e.mods (by simp [nums, hk])).2⟩
  clear hck hg hat hnums htl hbody hlen hfin hm hch hk
  unfold EV at HCK ⊢
  go_enter Tryd.func5, Tryd.ntmps5
  go_wp2_with fail
  refine (HCK.out _ (HG.out.alloc _)).mono ?_
  rintro r w1 ⟨rfl, hb⟩
  have b1 : Blk9 w1 w.heap.size e := Blk9.same (w := w.alloc (.cells (EC e) 29)) (heap_alloc_new w _) (hb.block _ (by simp))
  have HB1 := Lib.hid (((Below.refl _ _).alloc (Nat.le_refl _) _).trans (hb.mono (by simp))); clear hb
  obtain ⟨c0, c1, c2, c3, c4, c5, c6, c7, c8⟩ := b1.nine
  have B1 := Lib.hid b1; clear b1
  go_wp2_with fail
  refine (HW.out _).mono ?_
  rintro r w2 ⟨rfl, hb⟩
  have b2 := B1.out.same (hb.block _ B1.out.lt)
  have HB2 := Lib.hid (HB1.out.trans (hb.mono HB1.out.size))
  clear hb c0 c1 c2 c3 c4 c5 c6 c7 c8
  obtain ⟨c0, c1, c2, c3, c4, c5, c6, c7, c8⟩ := b2.nine
  have B2 := Lib.hid b2; clear b2
  go_wp2_with fail
  have m1 : ¬ 9223372036854775807 < 1 + X.size := by have h : (bt [107, 101, 121]).size = 3 := rfl; omega
  have m2 : ¬ 9223372036854775807 < 1 + X.size + 1 := by have h : (bt [107, 101, 121]).size = 3 := rfl; omega
  have m3 : ¬ 9223372036854775807 < 1 + X.size + 1 + Y.size := by have h : (bt [107, 101, 121]).size = 3 := rfl; omega
  have m4 : ¬ 9223372036854775807 < (bt [107, 101, 121]).size + 1 := by have h : (bt [107, 101, 121]).size = 3 := rfl; omega
  have m5 : ¬ 9223372036854775807 < (bt [107, 101, 121]).size + 1 + M.size := by have h : (bt [107, 101, 121]).size = 3 := rfl; omega
  have m6 : ¬ 9223372036854775807 < (bt [107, 101, 121]).size + 1 + M.size + 1 := by have h : (bt [107, 101, 121]).size = 3 := rfl; omega
  have m7 : ¬ 9223372036854775807 < (bt [107, 101, 121]).size + 1 + M.size + 1 + T.size := by have h : (bt [107, 101, 121]).size = 3 := rfl; omega
  have hsz : (body e).length = (bt [107, 101, 121]).size + 1 + M.size + 1 + T.size := by rw [← HLEN.out, HBODY.out]; simp only [size_cat]; rfl
  have HSZ := Lib.hid hsz; clear hsz
  go_quiet ((first | (go_at_call 16; with_reducible exact Calls.quiet_of_same (NX'.out _)) | (go_at_call 16; with_reducible exact Calls.quiet_of_same (NY'.out _))))
  have b3 : Blk9 (w2.drewN nq) w.heap.size e := B2.out
  have HB3 := Lib.hid (below_drewN' HB2.out nq)
  clear c0 c1 c2 c3 c4 c5 c6 c7 c8 B2
  obtain ⟨c0, c1, c2, c3, c4, c5, c6, c7, c8⟩ := b3.nine
  have B3 := Lib.hid b3; clear b3
  generalize w2.drewN nq = w3 at B3 HB3 c0 c1 c2 c3 c4 c5 c6 c7 c8 ⊢
  go_upto_region 8 with fail
  have hS : w3.drew.cell? ⟨w.heap.size, 5, none⟩ = some (.string ⟨e.name.toArray⟩) ∧ w3.drew.cell? ⟨w.heap.size, 6, none⟩ = some (.int .u8 e.mods) := ⟨c5, c6⟩
  have hlt : w.heap.size < w3.drew.heap.size := B3.out.lt
  have HLT := Lib.hid hlt; clear hlt
  go_region_held3 (fun w' => w'.cell? ⟨w.heap.size, 5, none⟩ = some (.string ⟨e.name.toArray⟩) ∧ w'.cell? ⟨w.heap.size, 6, none⟩ = some (.int .u8 e.mods)) (assumption) (first | (go_at_call 17; (with_reducible refine (NT'.out _).mono ?_); rintro r w5 ⟨rfl, hb⟩; have hS5 : w5.cell? ⟨w.heap.size, 5, none⟩ = some (.string ⟨e.name.toArray⟩) ∧ w5.cell? ⟨w.heap.size, 6, none⟩ = some (.int .u8 e.mods) := ⟨(hb.cell (p := ⟨w.heap.size, 5, none⟩) HLT.out).trans hS.1, (hb.cell (p := ⟨w.heap.size, 6, none⟩) HLT.out).trans hS.2⟩; have HB5 := Lib.hid (HB3.out.drew.trans (hb.mono HB3.out.size)); clear hb) | (go_at_call 16; (with_reducible refine (NM'.out _).mono ?_); rintro r w4 ⟨rfl, hw⟩; subst hw) | fail)
  all_goals go_wp2_with fail
  all_goals (
    go_ret2
    refine ⟨?_, HB5.out⟩
    have hsz := HSZ.out
    rw [HFIN.out.1, HFIN.out.2]
    first
      | (have hL : (body e).length ≤ 65536 := by omega
         rw [if_pos hL, if_pos hL, HBODY.out]; rfl)
      | (have hL : ¬ (body e).length ≤ 65536 := by omega
         rw [if_neg hL, if_neg hL]; rfl))
set_option maxHeartbeats 4000000 in
set_option maxRecDepth 100000 in
theorem textqq_2 (e : E) (w : World) (hg : Glob w) (hn : e.name.length ≤ 9223372036854775807) (hm : 0 ≤ e.mods) (hch : chk e = true) (hk : e.kind = 2) :
    Calls Tryd.prog 5 #[EV e] w fun r w' => r = .returned (.tuple #[.string (bt (textB e)), .int .i64 (textE e)]) ∧ Below w.heap.size w w' := by
  have hck := fun w hg => checkq_any e w hg hn
  rw [show chkE e = 0 from if_pos hch] at hck
  have hat := at_ok e hch
  have hnums := nums_ok e hch hm
  have htl := tail_ok e hch
  obtain ⟨X, hX⟩ : ∃ X, bt (Lib.itoa e.ax) = X := ⟨_, rfl⟩
  have nX := fun w => numberq_q e.ax (by have := hat; omega) (by have := hat; omega) w
  have zX := itoa_size e.ax (by have := hat; omega) (by have := hat; omega)
  rw [hX] at nX zX
  obtain ⟨Y, hY⟩ : ∃ Y, bt (Lib.itoa e.ay) = Y := ⟨_, rfl⟩
  have nY := fun w => numberq_q e.ay (by have := hat; omega) (by have := hat; omega) w
  have zY := itoa_size e.ay (by have := hat; omega) (by have := hat; omega)
  rw [hY] at nY zY
  have hlim : e.text.length ≤ 65536 := htl.2 (by simp [hk])
  obtain ⟨T, hT⟩ : ∃ T, bt (esc e.text) = T := ⟨_, rfl⟩
  have nT := fun w => escq_any ⟨e.text.toArray⟩ w (by show e.text.toArray.size ≤ _; rw [List.size_toArray]; omega)
  have zT := esc_size e.text
  rw [show (⟨e.text.toArray⟩ : ByteArray).data.toList = e.text by simp, hT] at nT
  rw [hT] at zT
  have zT2 : T.size ≤ 196608 := by omega
  clear zT hlim
  have hbody : bt (body e) = ((bt [116, 101, 120, 116] : ByteArray) ++ bt [32]) ++ T := by
    rw [← hT]
    simp only [bt_append]
    congr 1
    simp [body, hk, sp, itoa]
  have hlen : (bt (body e)).size = (body e).length := by simp [bt, ByteArray.size]
  have hfin : textB e = (if (body e).length ≤ 65536 then body e else []) ∧ textE e = (if (body e).length ≤ 65536 then 0 else 3) := by
    unfold textB textE
    rw [if_pos hch]
    refine ⟨?_, rfl⟩
    by_cases h : (body e).length ≤ 65536
    · rw [if_pos ⟨hch, h⟩, if_pos h]
    · rw [if_neg (fun h2 => h h2.2), if_neg h]
  have HBODY := Lib.hid hbody; have HLEN := Lib.hid hlen; have HFIN := Lib.hid hfin
  have HCK := Lib.hid hck; have HG := Lib.hid hg; have HM := Lib.hid hm; have HCH := Lib.hid hch
  have NX' := Lib.hid nX; clear nX hX
  have NY' := Lib.hid nY; clear nY hY
  have NT' := Lib.hid nT; clear nT hT
  have HW := Lib.hid (show ∀ w, Calls Tryd.prog 15 #[.int .u8 e.kind] w fun r w' => r = .returned (.string (bt [116, 101, 120, 116])) ∧ Below w.heap.size w w' from fun w => by rw [hk]; exact wordq_2 w)
  have k1 : (e.kind == 1) = false := by rw [hk]; decide
  have k2 : (e.kind == 2) = true := by rw [hk]; decide
  have k3 : (e.kind == 3) = false := by rw [hk]; decide
  have k4 : (e.kind == 4) = false := by rw [hk]; decide
  have k5 : (e.kind == 5) = false := by rw [hk]; decide
  have k6 : (e.kind == 6) = false := by rw [hk]; decide
  have k7 : (e.kind == 7) = false := by rw [hk]; decide
  have k8 : (e.kind == 8) = false := by rw [hk]; decide
  clear hck hg hat hnums htl hbody hlen hfin hm hch hk
  unfold EV at HCK ⊢
  go_enter Tryd.func5, Tryd.ntmps5
  go_wp2_with fail
  refine (HCK.out _ (HG.out.alloc _)).mono ?_
  rintro r w1 ⟨rfl, hb⟩
  have b1 : Blk9 w1 w.heap.size e := Blk9.same (w := w.alloc (.cells (EC e) 29)) (heap_alloc_new w _) (hb.block _ (by simp))
  have HB1 := Lib.hid (((Below.refl _ _).alloc (Nat.le_refl _) _).trans (hb.mono (by simp))); clear hb
  obtain ⟨c0, c1, c2, c3, c4, c5, c6, c7, c8⟩ := b1.nine
  have B1 := Lib.hid b1; clear b1
  go_wp2_with fail
  refine (HW.out _).mono ?_
  rintro r w2 ⟨rfl, hb⟩
  have b2 := B1.out.same (hb.block _ B1.out.lt)
  have HB2 := Lib.hid (HB1.out.trans (hb.mono HB1.out.size))
  clear hb c0 c1 c2 c3 c4 c5 c6 c7 c8
  obtain ⟨c0, c1, c2, c3, c4, c5, c6, c7, c8⟩ := b2.nine
  have B2 := Lib.hid b2; clear b2
  go_wp2_with fail
  have m1 : ¬ 9223372036854775807 < 1 + X.size := by have h : (bt [116, 101, 120, 116]).size = 4 := rfl; omega
  have m2 : ¬ 9223372036854775807 < 1 + X.size + 1 := by have h : (bt [116, 101, 120, 116]).size = 4 := rfl; omega
  have m3 : ¬ 9223372036854775807 < 1 + X.size + 1 + Y.size := by have h : (bt [116, 101, 120, 116]).size = 4 := rfl; omega
  have m4 : ¬ 9223372036854775807 < (bt [116, 101, 120, 116]).size + 1 := by have h : (bt [116, 101, 120, 116]).size = 4 := rfl; omega
  have m5 : ¬ 9223372036854775807 < (bt [116, 101, 120, 116]).size + 1 + T.size := by have h : (bt [116, 101, 120, 116]).size = 4 := rfl; omega
  have hsz : (body e).length = (bt [116, 101, 120, 116]).size + 1 + T.size := by rw [← HLEN.out, HBODY.out]; simp only [size_cat]; rfl
  have HSZ := Lib.hid hsz; clear hsz
  go_quiet ((first | (go_at_call 16; with_reducible exact Calls.quiet_of_same (NX'.out _)) | (go_at_call 16; with_reducible exact Calls.quiet_of_same (NY'.out _))))
  have b3 : Blk9 (w2.drewN nq) w.heap.size e := B2.out
  have HB3 := Lib.hid (below_drewN' HB2.out nq)
  clear c0 c1 c2 c3 c4 c5 c6 c7 c8 B2
  obtain ⟨c0, c1, c2, c3, c4, c5, c6, c7, c8⟩ := b3.nine
  have B3 := Lib.hid b3; clear b3
  generalize w2.drewN nq = w3 at B3 HB3 c0 c1 c2 c3 c4 c5 c6 c7 c8 ⊢
  go_wp2_with (go_at_call 17; (with_reducible refine (NT'.out _).mono ?_); rintro r w5 ⟨rfl, hb⟩; have HB5 := Lib.hid (HB3.out.trans (hb.mono HB3.out.size)); clear hb)
  all_goals (
    go_ret2
    refine ⟨?_, HB5.out⟩
    have hsz := HSZ.out
    rw [HFIN.out.1, HFIN.out.2]
    first
      | (have hL : (body e).length ≤ 65536 := by omega
         rw [if_pos hL, if_pos hL, HBODY.out]; rfl)
      | (have hL : ¬ (body e).length ≤ 65536 := by omega
         rw [if_neg hL, if_neg hL]; rfl))
set_option maxHeartbeats 4000000 in
set_option maxRecDepth 100000 in
theorem textqq_3 (e : E) (w : World) (hg : Glob w) (hn : e.name.length ≤ 9223372036854775807) (hm : 0 ≤ e.mods) (hch : chk e = true) (hk : e.kind = 3) :
    Calls Tryd.prog 5 #[EV e] w fun r w' => r = .returned (.tuple #[.string (bt (textB e)), .int .i64 (textE e)]) ∧ Below w.heap.size w w' := by
  have hck := fun w hg => checkq_any e w hg hn
  rw [show chkE e = 0 from if_pos hch] at hck
  have hat := at_ok e hch
  have hnums := nums_ok e hch hm
  have htl := tail_ok e hch
  obtain ⟨X, hX⟩ : ∃ X, bt (Lib.itoa e.ax) = X := ⟨_, rfl⟩
  have nX := fun w => numberq_q e.ax (by have := hat; omega) (by have := hat; omega) w
  have zX := itoa_size e.ax (by have := hat; omega) (by have := hat; omega)
  rw [hX] at nX zX
  obtain ⟨Y, hY⟩ : ∃ Y, bt (Lib.itoa e.ay) = Y := ⟨_, rfl⟩
  have nY := fun w => numberq_q e.ay (by have := hat; omega) (by have := hat; omega) w
  have zY := itoa_size e.ay (by have := hat; omega) (by have := hat; omega)
  rw [hY] at nY zY
  obtain ⟨N, hN⟩ : ∃ N, bt (Lib.itoa e.n) = N := ⟨_, rfl⟩
  have nN := fun w => numberq_q e.n (hnums e.n (by simp [nums, hk])).1 (hnums e.n (by simp [nums, hk])).2 w
  have zN := itoa_size e.n (hnums e.n (by simp [nums, hk])).1 (hnums e.n (by simp [nums, hk])).2
  rw [hN] at nN zN
  have hbody : bt (body e) = (((bt [100, 111, 119, 110] : ByteArray) ++ (((bt [32] ++ X) ++ bt [32]) ++ Y : ByteArray)) ++ bt [32]) ++ N := by
    rw [← hX, ← hY, ← hN]
    simp only [bt_append]
    congr 1
    simp [body, hk, sp, itoa]
  have hlen : (bt (body e)).size = (body e).length := by simp [bt, ByteArray.size]
  have hfin : textB e = (if (body e).length ≤ 65536 then body e else []) ∧ textE e = (if (body e).length ≤ 65536 then 0 else 3) := by
    unfold textB textE
    rw [if_pos hch]
    refine ⟨?_, rfl⟩
    by_cases h : (body e).length ≤ 65536
    · rw [if_pos ⟨hch, h⟩, if_pos h]
    · rw [if_neg (fun h2 => h h2.2), if_neg h]
  have HBODY := Lib.hid hbody; have HLEN := Lib.hid hlen; have HFIN := Lib.hid hfin
  have HCK := Lib.hid hck; have HG := Lib.hid hg; have HM := Lib.hid hm; have HCH := Lib.hid hch
  have NX' := Lib.hid nX; clear nX hX
  have NY' := Lib.hid nY; clear nY hY
  have NN' := Lib.hid nN; clear nN hN
  have HW := Lib.hid (show ∀ w, Calls Tryd.prog 15 #[.int .u8 e.kind] w fun r w' => r = .returned (.string (bt [100, 111, 119, 110])) ∧ Below w.heap.size w w' from fun w => by rw [hk]; exact wordq_3 w)
  have k1 : (e.kind == 1) = false := by rw [hk]; decide
  have k2 : (e.kind == 2) = false := by rw [hk]; decide
  have k3 : (e.kind == 3) = true := by rw [hk]; decide
  have k4 : (e.kind == 4) = false := by rw [hk]; decide
  have k5 : (e.kind == 5) = false := by rw [hk]; decide
  have k6 : (e.kind == 6) = false := by rw [hk]; decide
  have k7 : (e.kind == 7) = false := by rw [hk]; decide
  have k8 : (e.kind == 8) = false := by rw [hk]; decide
  clear hck hg hat hnums htl hbody hlen hfin hm hch hk
  unfold EV at HCK ⊢
  go_enter Tryd.func5, Tryd.ntmps5
  go_wp2_with fail
  refine (HCK.out _ (HG.out.alloc _)).mono ?_
  rintro r w1 ⟨rfl, hb⟩
  have b1 : Blk9 w1 w.heap.size e := Blk9.same (w := w.alloc (.cells (EC e) 29)) (heap_alloc_new w _) (hb.block _ (by simp))
  have HB1 := Lib.hid (((Below.refl _ _).alloc (Nat.le_refl _) _).trans (hb.mono (by simp))); clear hb
  obtain ⟨c0, c1, c2, c3, c4, c5, c6, c7, c8⟩ := b1.nine
  have B1 := Lib.hid b1; clear b1
  go_wp2_with fail
  refine (HW.out _).mono ?_
  rintro r w2 ⟨rfl, hb⟩
  have b2 := B1.out.same (hb.block _ B1.out.lt)
  have HB2 := Lib.hid (HB1.out.trans (hb.mono HB1.out.size))
  clear hb c0 c1 c2 c3 c4 c5 c6 c7 c8
  obtain ⟨c0, c1, c2, c3, c4, c5, c6, c7, c8⟩ := b2.nine
  have B2 := Lib.hid b2; clear b2
  go_wp2_with fail
  have m1 : ¬ 9223372036854775807 < 1 + X.size := by have h : (bt [100, 111, 119, 110]).size = 4 := rfl; omega
  have m2 : ¬ 9223372036854775807 < 1 + X.size + 1 := by have h : (bt [100, 111, 119, 110]).size = 4 := rfl; omega
  have m3 : ¬ 9223372036854775807 < 1 + X.size + 1 + Y.size := by have h : (bt [100, 111, 119, 110]).size = 4 := rfl; omega
  have m4 : ¬ 9223372036854775807 < (bt [100, 111, 119, 110]).size + (1 + X.size + 1 + Y.size) := by have h : (bt [100, 111, 119, 110]).size = 4 := rfl; omega
  have m5 : ¬ 9223372036854775807 < (bt [100, 111, 119, 110]).size + (1 + X.size + 1 + Y.size) + 1 := by have h : (bt [100, 111, 119, 110]).size = 4 := rfl; omega
  have m6 : ¬ 9223372036854775807 < (bt [100, 111, 119, 110]).size + (1 + X.size + 1 + Y.size) + 1 + N.size := by have h : (bt [100, 111, 119, 110]).size = 4 := rfl; omega
  have hsz : (body e).length = (bt [100, 111, 119, 110]).size + (1 + X.size + 1 + Y.size) + 1 + N.size := by rw [← HLEN.out, HBODY.out]; simp only [size_cat]; rfl
  have HSZ := Lib.hid hsz; clear hsz
  go_quiet ((first | (go_at_call 16; with_reducible exact Calls.quiet_of_same (NX'.out _)) | (go_at_call 16; with_reducible exact Calls.quiet_of_same (NY'.out _))))
  have b3 : Blk9 (w2.drewN nq) w.heap.size e := B2.out
  have HB3 := Lib.hid (below_drewN' HB2.out nq)
  clear c0 c1 c2 c3 c4 c5 c6 c7 c8 B2
  obtain ⟨c0, c1, c2, c3, c4, c5, c6, c7, c8⟩ := b3.nine
  have B3 := Lib.hid b3; clear b3
  generalize w2.drewN nq = w3 at B3 HB3 c0 c1 c2 c3 c4 c5 c6 c7 c8 ⊢
  go_wp2_with (go_at_call 16; (with_reducible refine (NN'.out _).mono ?_); rintro r w4 ⟨rfl, hw⟩; subst hw)
  all_goals (
    go_ret2
    refine ⟨?_, HB3.out⟩
    have hsz := HSZ.out
    rw [HFIN.out.1, HFIN.out.2]
    first
      | (have hL : (body e).length ≤ 65536 := by omega
         rw [if_pos hL, if_pos hL, HBODY.out]; rfl)
      | (have hL : ¬ (body e).length ≤ 65536 := by omega
         rw [if_neg hL, if_neg hL]; rfl))
set_option maxHeartbeats 4000000 in
set_option maxRecDepth 100000 in
theorem textqq_4 (e : E) (w : World) (hg : Glob w) (hn : e.name.length ≤ 9223372036854775807) (hm : 0 ≤ e.mods) (hch : chk e = true) (hk : e.kind = 4) :
    Calls Tryd.prog 5 #[EV e] w fun r w' => r = .returned (.tuple #[.string (bt (textB e)), .int .i64 (textE e)]) ∧ Below w.heap.size w w' := by
  have hck := fun w hg => checkq_any e w hg hn
  rw [show chkE e = 0 from if_pos hch] at hck
  have hat := at_ok e hch
  have hnums := nums_ok e hch hm
  have htl := tail_ok e hch
  obtain ⟨X, hX⟩ : ∃ X, bt (Lib.itoa e.ax) = X := ⟨_, rfl⟩
  have nX := fun w => numberq_q e.ax (by have := hat; omega) (by have := hat; omega) w
  have zX := itoa_size e.ax (by have := hat; omega) (by have := hat; omega)
  rw [hX] at nX zX
  obtain ⟨Y, hY⟩ : ∃ Y, bt (Lib.itoa e.ay) = Y := ⟨_, rfl⟩
  have nY := fun w => numberq_q e.ay (by have := hat; omega) (by have := hat; omega) w
  have zY := itoa_size e.ay (by have := hat; omega) (by have := hat; omega)
  rw [hY] at nY zY
  obtain ⟨N, hN⟩ : ∃ N, bt (Lib.itoa e.n) = N := ⟨_, rfl⟩
  have nN := fun w => numberq_q e.n (hnums e.n (by simp [nums, hk])).1 (hnums e.n (by simp [nums, hk])).2 w
  have zN := itoa_size e.n (hnums e.n (by simp [nums, hk])).1 (hnums e.n (by simp [nums, hk])).2
  rw [hN] at nN zN
  have hbody : bt (body e) = (((bt [117, 112] : ByteArray) ++ (((bt [32] ++ X) ++ bt [32]) ++ Y : ByteArray)) ++ bt [32]) ++ N := by
    rw [← hX, ← hY, ← hN]
    simp only [bt_append]
    congr 1
    simp [body, hk, sp, itoa]
  have hlen : (bt (body e)).size = (body e).length := by simp [bt, ByteArray.size]
  have hfin : textB e = (if (body e).length ≤ 65536 then body e else []) ∧ textE e = (if (body e).length ≤ 65536 then 0 else 3) := by
    unfold textB textE
    rw [if_pos hch]
    refine ⟨?_, rfl⟩
    by_cases h : (body e).length ≤ 65536
    · rw [if_pos ⟨hch, h⟩, if_pos h]
    · rw [if_neg (fun h2 => h h2.2), if_neg h]
  have HBODY := Lib.hid hbody; have HLEN := Lib.hid hlen; have HFIN := Lib.hid hfin
  have HCK := Lib.hid hck; have HG := Lib.hid hg; have HM := Lib.hid hm; have HCH := Lib.hid hch
  have NX' := Lib.hid nX; clear nX hX
  have NY' := Lib.hid nY; clear nY hY
  have NN' := Lib.hid nN; clear nN hN
  have HW := Lib.hid (show ∀ w, Calls Tryd.prog 15 #[.int .u8 e.kind] w fun r w' => r = .returned (.string (bt [117, 112])) ∧ Below w.heap.size w w' from fun w => by rw [hk]; exact wordq_4 w)
  have k1 : (e.kind == 1) = false := by rw [hk]; decide
  have k2 : (e.kind == 2) = false := by rw [hk]; decide
  have k3 : (e.kind == 3) = false := by rw [hk]; decide
  have k4 : (e.kind == 4) = true := by rw [hk]; decide
  have k5 : (e.kind == 5) = false := by rw [hk]; decide
  have k6 : (e.kind == 6) = false := by rw [hk]; decide
  have k7 : (e.kind == 7) = false := by rw [hk]; decide
  have k8 : (e.kind == 8) = false := by rw [hk]; decide
  clear hck hg hat hnums htl hbody hlen hfin hm hch hk
  unfold EV at HCK ⊢
  go_enter Tryd.func5, Tryd.ntmps5
  go_wp2_with fail
  refine (HCK.out _ (HG.out.alloc _)).mono ?_
  rintro r w1 ⟨rfl, hb⟩
  have b1 : Blk9 w1 w.heap.size e := Blk9.same (w := w.alloc (.cells (EC e) 29)) (heap_alloc_new w _) (hb.block _ (by simp))
  have HB1 := Lib.hid (((Below.refl _ _).alloc (Nat.le_refl _) _).trans (hb.mono (by simp))); clear hb
  obtain ⟨c0, c1, c2, c3, c4, c5, c6, c7, c8⟩ := b1.nine
  have B1 := Lib.hid b1; clear b1
  go_wp2_with fail
  refine (HW.out _).mono ?_
  rintro r w2 ⟨rfl, hb⟩
  have b2 := B1.out.same (hb.block _ B1.out.lt)
  have HB2 := Lib.hid (HB1.out.trans (hb.mono HB1.out.size))
  clear hb c0 c1 c2 c3 c4 c5 c6 c7 c8
  obtain ⟨c0, c1, c2, c3, c4, c5, c6, c7, c8⟩ := b2.nine
  have B2 := Lib.hid b2; clear b2
  go_wp2_with fail
  have m1 : ¬ 9223372036854775807 < 1 + X.size := by have h : (bt [117, 112]).size = 2 := rfl; omega
  have m2 : ¬ 9223372036854775807 < 1 + X.size + 1 := by have h : (bt [117, 112]).size = 2 := rfl; omega
  have m3 : ¬ 9223372036854775807 < 1 + X.size + 1 + Y.size := by have h : (bt [117, 112]).size = 2 := rfl; omega
  have m4 : ¬ 9223372036854775807 < (bt [117, 112]).size + (1 + X.size + 1 + Y.size) := by have h : (bt [117, 112]).size = 2 := rfl; omega
  have m5 : ¬ 9223372036854775807 < (bt [117, 112]).size + (1 + X.size + 1 + Y.size) + 1 := by have h : (bt [117, 112]).size = 2 := rfl; omega
  have m6 : ¬ 9223372036854775807 < (bt [117, 112]).size + (1 + X.size + 1 + Y.size) + 1 + N.size := by have h : (bt [117, 112]).size = 2 := rfl; omega
  have hsz : (body e).length = (bt [117, 112]).size + (1 + X.size + 1 + Y.size) + 1 + N.size := by rw [← HLEN.out, HBODY.out]; simp only [size_cat]; rfl
  have HSZ := Lib.hid hsz; clear hsz
  go_quiet ((first | (go_at_call 16; with_reducible exact Calls.quiet_of_same (NX'.out _)) | (go_at_call 16; with_reducible exact Calls.quiet_of_same (NY'.out _))))
  have b3 : Blk9 (w2.drewN nq) w.heap.size e := B2.out
  have HB3 := Lib.hid (below_drewN' HB2.out nq)
  clear c0 c1 c2 c3 c4 c5 c6 c7 c8 B2
  obtain ⟨c0, c1, c2, c3, c4, c5, c6, c7, c8⟩ := b3.nine
  have B3 := Lib.hid b3; clear b3
  generalize w2.drewN nq = w3 at B3 HB3 c0 c1 c2 c3 c4 c5 c6 c7 c8 ⊢
  go_wp2_with (go_at_call 16; (with_reducible refine (NN'.out _).mono ?_); rintro r w4 ⟨rfl, hw⟩; subst hw)
  all_goals (
    go_ret2
    refine ⟨?_, HB3.out⟩
    have hsz := HSZ.out
    rw [HFIN.out.1, HFIN.out.2]
    first
      | (have hL : (body e).length ≤ 65536 := by omega
         rw [if_pos hL, if_pos hL, HBODY.out]; rfl)
      | (have hL : ¬ (body e).length ≤ 65536 := by omega
         rw [if_neg hL, if_neg hL]; rfl))
set_option maxHeartbeats 4000000 in
set_option maxRecDepth 100000 in
theorem textqq_5 (e : E) (w : World) (hg : Glob w) (hn : e.name.length ≤ 9223372036854775807) (hm : 0 ≤ e.mods) (hch : chk e = true) (hk : e.kind = 5) :
    Calls Tryd.prog 5 #[EV e] w fun r w' => r = .returned (.tuple #[.string (bt (textB e)), .int .i64 (textE e)]) ∧ Below w.heap.size w w' := by
  have hck := fun w hg => checkq_any e w hg hn
  rw [show chkE e = 0 from if_pos hch] at hck
  have hat := at_ok e hch
  have hnums := nums_ok e hch hm
  have htl := tail_ok e hch
  obtain ⟨X, hX⟩ : ∃ X, bt (Lib.itoa e.ax) = X := ⟨_, rfl⟩
  have nX := fun w => numberq_q e.ax (by have := hat; omega) (by have := hat; omega) w
  have zX := itoa_size e.ax (by have := hat; omega) (by have := hat; omega)
  rw [hX] at nX zX
  obtain ⟨Y, hY⟩ : ∃ Y, bt (Lib.itoa e.ay) = Y := ⟨_, rfl⟩
  have nY := fun w => numberq_q e.ay (by have := hat; omega) (by have := hat; omega) w
  have zY := itoa_size e.ay (by have := hat; omega) (by have := hat; omega)
  rw [hY] at nY zY
  have hbody : bt (body e) = (bt [109, 111, 118, 101] : ByteArray) ++ (((bt [32] ++ X) ++ bt [32]) ++ Y : ByteArray) := by
    rw [← hX, ← hY]
    simp only [bt_append]
    congr 1
    simp [body, hk, sp, itoa]
  have hlen : (bt (body e)).size = (body e).length := by simp [bt, ByteArray.size]
  have hfin : textB e = (if (body e).length ≤ 65536 then body e else []) ∧ textE e = (if (body e).length ≤ 65536 then 0 else 3) := by
    unfold textB textE
    rw [if_pos hch]
    refine ⟨?_, rfl⟩
    by_cases h : (body e).length ≤ 65536
    · rw [if_pos ⟨hch, h⟩, if_pos h]
    · rw [if_neg (fun h2 => h h2.2), if_neg h]
  have HBODY := Lib.hid hbody; have HLEN := Lib.hid hlen; have HFIN := Lib.hid hfin
  have HCK := Lib.hid hck; have HG := Lib.hid hg; have HM := Lib.hid hm; have HCH := Lib.hid hch
  have NX' := Lib.hid nX; clear nX hX
  have NY' := Lib.hid nY; clear nY hY
  have HW := Lib.hid (show ∀ w, Calls Tryd.prog 15 #[.int .u8 e.kind] w fun r w' => r = .returned (.string (bt [109, 111, 118, 101])) ∧ Below w.heap.size w w' from fun w => by rw [hk]; exact wordq_5 w)
  have k1 : (e.kind == 1) = false := by rw [hk]; decide
  have k2 : (e.kind == 2) = false := by rw [hk]; decide
  have k3 : (e.kind == 3) = false := by rw [hk]; decide
  have k4 : (e.kind == 4) = false := by rw [hk]; decide
  have k5 : (e.kind == 5) = true := by rw [hk]; decide
  have k6 : (e.kind == 6) = false := by rw [hk]; decide
  have k7 : (e.kind == 7) = false := by rw [hk]; decide
  have k8 : (e.kind == 8) = false := by rw [hk]; decide
  clear hck hg hat hnums htl hbody hlen hfin hm hch hk
  unfold EV at HCK ⊢
  go_enter Tryd.func5, Tryd.ntmps5
  go_wp2_with fail
  refine (HCK.out _ (HG.out.alloc _)).mono ?_
  rintro r w1 ⟨rfl, hb⟩
  have b1 : Blk9 w1 w.heap.size e := Blk9.same (w := w.alloc (.cells (EC e) 29)) (heap_alloc_new w _) (hb.block _ (by simp))
  have HB1 := Lib.hid (((Below.refl _ _).alloc (Nat.le_refl _) _).trans (hb.mono (by simp))); clear hb
  obtain ⟨c0, c1, c2, c3, c4, c5, c6, c7, c8⟩ := b1.nine
  have B1 := Lib.hid b1; clear b1
  go_wp2_with fail
  refine (HW.out _).mono ?_
  rintro r w2 ⟨rfl, hb⟩
  have b2 := B1.out.same (hb.block _ B1.out.lt)
  have HB2 := Lib.hid (HB1.out.trans (hb.mono HB1.out.size))
  clear hb c0 c1 c2 c3 c4 c5 c6 c7 c8
  obtain ⟨c0, c1, c2, c3, c4, c5, c6, c7, c8⟩ := b2.nine
  have B2 := Lib.hid b2; clear b2
  go_wp2_with fail
  have m1 : ¬ 9223372036854775807 < 1 + X.size := by have h : (bt [109, 111, 118, 101]).size = 4 := rfl; omega
  have m2 : ¬ 9223372036854775807 < 1 + X.size + 1 := by have h : (bt [109, 111, 118, 101]).size = 4 := rfl; omega
  have m3 : ¬ 9223372036854775807 < 1 + X.size + 1 + Y.size := by have h : (bt [109, 111, 118, 101]).size = 4 := rfl; omega
  have m4 : ¬ 9223372036854775807 < (bt [109, 111, 118, 101]).size + (1 + X.size + 1 + Y.size) := by have h : (bt [109, 111, 118, 101]).size = 4 := rfl; omega
  have hsz : (body e).length = (bt [109, 111, 118, 101]).size + (1 + X.size + 1 + Y.size) := by rw [← HLEN.out, HBODY.out]; simp only [size_cat]; rfl
  have HSZ := Lib.hid hsz; clear hsz
  go_quiet ((first | (go_at_call 16; with_reducible exact Calls.quiet_of_same (NX'.out _)) | (go_at_call 16; with_reducible exact Calls.quiet_of_same (NY'.out _))))
  have b3 : Blk9 (w2.drewN nq) w.heap.size e := B2.out
  have HB3 := Lib.hid (below_drewN' HB2.out nq)
  clear c0 c1 c2 c3 c4 c5 c6 c7 c8 B2
  obtain ⟨c0, c1, c2, c3, c4, c5, c6, c7, c8⟩ := b3.nine
  have B3 := Lib.hid b3; clear b3
  generalize w2.drewN nq = w3 at B3 HB3 c0 c1 c2 c3 c4 c5 c6 c7 c8 ⊢
  go_wp2_with fail
  all_goals (
    go_ret2
    refine ⟨?_, HB3.out⟩
    have hsz := HSZ.out
    rw [HFIN.out.1, HFIN.out.2]
    first
      | (have hL : (body e).length ≤ 65536 := by omega
         rw [if_pos hL, if_pos hL, HBODY.out]; rfl)
      | (have hL : ¬ (body e).length ≤ 65536 := by omega
         rw [if_neg hL, if_neg hL]; rfl))
set_option maxHeartbeats 4000000 in
set_option maxRecDepth 100000 in
theorem textqq_6 (e : E) (w : World) (hg : Glob w) (hn : e.name.length ≤ 9223372036854775807) (hm : 0 ≤ e.mods) (hch : chk e = true) (hk : e.kind = 6) :
    Calls Tryd.prog 5 #[EV e] w fun r w' => r = .returned (.tuple #[.string (bt (textB e)), .int .i64 (textE e)]) ∧ Below w.heap.size w w' := by
  have hck := fun w hg => checkq_any e w hg hn
  rw [show chkE e = 0 from if_pos hch] at hck
  have hat := at_ok e hch
  have hnums := nums_ok e hch hm
  have htl := tail_ok e hch
  obtain ⟨X, hX⟩ : ∃ X, bt (Lib.itoa e.ax) = X := ⟨_, rfl⟩
  have nX := fun w => numberq_q e.ax (by have := hat; omega) (by have := hat; omega) w
  have zX := itoa_size e.ax (by have := hat; omega) (by have := hat; omega)
  rw [hX] at nX zX
  obtain ⟨Y, hY⟩ : ∃ Y, bt (Lib.itoa e.ay) = Y := ⟨_, rfl⟩
  have nY := fun w => numberq_q e.ay (by have := hat; omega) (by have := hat; omega) w
  have zY := itoa_size e.ay (by have := hat; omega) (by have := hat; omega)
  rw [hY] at nY zY
  obtain ⟨N, hN⟩ : ∃ N, bt (Lib.itoa e.n) = N := ⟨_, rfl⟩
  have nN := fun w => numberq_q e.n (hnums e.n (by simp [nums, hk])).1 (hnums e.n (by simp [nums, hk])).2 w
  have zN := itoa_size e.n (hnums e.n (by simp [nums, hk])).1 (hnums e.n (by simp [nums, hk])).2
  rw [hN] at nN zN
  have hbody : bt (body e) = (((bt [119, 104, 101, 101, 108] : ByteArray) ++ (((bt [32] ++ X) ++ bt [32]) ++ Y : ByteArray)) ++ bt [32]) ++ N := by
    rw [← hX, ← hY, ← hN]
    simp only [bt_append]
    congr 1
    simp [body, hk, sp, itoa]
  have hlen : (bt (body e)).size = (body e).length := by simp [bt, ByteArray.size]
  have hfin : textB e = (if (body e).length ≤ 65536 then body e else []) ∧ textE e = (if (body e).length ≤ 65536 then 0 else 3) := by
    unfold textB textE
    rw [if_pos hch]
    refine ⟨?_, rfl⟩
    by_cases h : (body e).length ≤ 65536
    · rw [if_pos ⟨hch, h⟩, if_pos h]
    · rw [if_neg (fun h2 => h h2.2), if_neg h]
  have HBODY := Lib.hid hbody; have HLEN := Lib.hid hlen; have HFIN := Lib.hid hfin
  have HCK := Lib.hid hck; have HG := Lib.hid hg; have HM := Lib.hid hm; have HCH := Lib.hid hch
  have NX' := Lib.hid nX; clear nX hX
  have NY' := Lib.hid nY; clear nY hY
  have NN' := Lib.hid nN; clear nN hN
  have HW := Lib.hid (show ∀ w, Calls Tryd.prog 15 #[.int .u8 e.kind] w fun r w' => r = .returned (.string (bt [119, 104, 101, 101, 108])) ∧ Below w.heap.size w w' from fun w => by rw [hk]; exact wordq_6 w)
  have k1 : (e.kind == 1) = false := by rw [hk]; decide
  have k2 : (e.kind == 2) = false := by rw [hk]; decide
  have k3 : (e.kind == 3) = false := by rw [hk]; decide
  have k4 : (e.kind == 4) = false := by rw [hk]; decide
  have k5 : (e.kind == 5) = false := by rw [hk]; decide
  have k6 : (e.kind == 6) = true := by rw [hk]; decide
  have k7 : (e.kind == 7) = false := by rw [hk]; decide
  have k8 : (e.kind == 8) = false := by rw [hk]; decide
  clear hck hg hat hnums htl hbody hlen hfin hm hch hk
  unfold EV at HCK ⊢
  go_enter Tryd.func5, Tryd.ntmps5
  go_wp2_with fail
  refine (HCK.out _ (HG.out.alloc _)).mono ?_
  rintro r w1 ⟨rfl, hb⟩
  have b1 : Blk9 w1 w.heap.size e := Blk9.same (w := w.alloc (.cells (EC e) 29)) (heap_alloc_new w _) (hb.block _ (by simp))
  have HB1 := Lib.hid (((Below.refl _ _).alloc (Nat.le_refl _) _).trans (hb.mono (by simp))); clear hb
  obtain ⟨c0, c1, c2, c3, c4, c5, c6, c7, c8⟩ := b1.nine
  have B1 := Lib.hid b1; clear b1
  go_wp2_with fail
  refine (HW.out _).mono ?_
  rintro r w2 ⟨rfl, hb⟩
  have b2 := B1.out.same (hb.block _ B1.out.lt)
  have HB2 := Lib.hid (HB1.out.trans (hb.mono HB1.out.size))
  clear hb c0 c1 c2 c3 c4 c5 c6 c7 c8
  obtain ⟨c0, c1, c2, c3, c4, c5, c6, c7, c8⟩ := b2.nine
  have B2 := Lib.hid b2; clear b2
  go_wp2_with fail
  have m1 : ¬ 9223372036854775807 < 1 + X.size := by have h : (bt [119, 104, 101, 101, 108]).size = 5 := rfl; omega
  have m2 : ¬ 9223372036854775807 < 1 + X.size + 1 := by have h : (bt [119, 104, 101, 101, 108]).size = 5 := rfl; omega
  have m3 : ¬ 9223372036854775807 < 1 + X.size + 1 + Y.size := by have h : (bt [119, 104, 101, 101, 108]).size = 5 := rfl; omega
  have m4 : ¬ 9223372036854775807 < (bt [119, 104, 101, 101, 108]).size + (1 + X.size + 1 + Y.size) := by have h : (bt [119, 104, 101, 101, 108]).size = 5 := rfl; omega
  have m5 : ¬ 9223372036854775807 < (bt [119, 104, 101, 101, 108]).size + (1 + X.size + 1 + Y.size) + 1 := by have h : (bt [119, 104, 101, 101, 108]).size = 5 := rfl; omega
  have m6 : ¬ 9223372036854775807 < (bt [119, 104, 101, 101, 108]).size + (1 + X.size + 1 + Y.size) + 1 + N.size := by have h : (bt [119, 104, 101, 101, 108]).size = 5 := rfl; omega
  have hsz : (body e).length = (bt [119, 104, 101, 101, 108]).size + (1 + X.size + 1 + Y.size) + 1 + N.size := by rw [← HLEN.out, HBODY.out]; simp only [size_cat]; rfl
  have HSZ := Lib.hid hsz; clear hsz
  go_quiet ((first | (go_at_call 16; with_reducible exact Calls.quiet_of_same (NX'.out _)) | (go_at_call 16; with_reducible exact Calls.quiet_of_same (NY'.out _))))
  have b3 : Blk9 (w2.drewN nq) w.heap.size e := B2.out
  have HB3 := Lib.hid (below_drewN' HB2.out nq)
  clear c0 c1 c2 c3 c4 c5 c6 c7 c8 B2
  obtain ⟨c0, c1, c2, c3, c4, c5, c6, c7, c8⟩ := b3.nine
  have B3 := Lib.hid b3; clear b3
  generalize w2.drewN nq = w3 at B3 HB3 c0 c1 c2 c3 c4 c5 c6 c7 c8 ⊢
  go_wp2_with (go_at_call 16; (with_reducible refine (NN'.out _).mono ?_); rintro r w4 ⟨rfl, hw⟩; subst hw)
  all_goals (
    go_ret2
    refine ⟨?_, HB3.out⟩
    have hsz := HSZ.out
    rw [HFIN.out.1, HFIN.out.2]
    first
      | (have hL : (body e).length ≤ 65536 := by omega
         rw [if_pos hL, if_pos hL, HBODY.out]; rfl)
      | (have hL : ¬ (body e).length ≤ 65536 := by omega
         rw [if_neg hL, if_neg hL]; rfl))
set_option maxHeartbeats 4000000 in
set_option maxRecDepth 100000 in
theorem textqq_7 (e : E) (w : World) (hg : Glob w) (hn : e.name.length ≤ 9223372036854775807) (hm : 0 ≤ e.mods) (hch : chk e = true) (hk : e.kind = 7) :
    Calls Tryd.prog 5 #[EV e] w fun r w' => r = .returned (.tuple #[.string (bt (textB e)), .int .i64 (textE e)]) ∧ Below w.heap.size w w' := by
  have hck := fun w hg => checkq_any e w hg hn
  rw [show chkE e = 0 from if_pos hch] at hck
  have hat := at_ok e hch
  have hnums := nums_ok e hch hm
  have htl := tail_ok e hch
  obtain ⟨X, hX⟩ : ∃ X, bt (Lib.itoa e.ax) = X := ⟨_, rfl⟩
  have nX := fun w => numberq_q e.ax (by have := hat; omega) (by have := hat; omega) w
  have zX := itoa_size e.ax (by have := hat; omega) (by have := hat; omega)
  rw [hX] at nX zX
  obtain ⟨Y, hY⟩ : ∃ Y, bt (Lib.itoa e.ay) = Y := ⟨_, rfl⟩
  have nY := fun w => numberq_q e.ay (by have := hat; omega) (by have := hat; omega) w
  have zY := itoa_size e.ay (by have := hat; omega) (by have := hat; omega)
  rw [hY] at nY zY
  obtain ⟨N, hN⟩ : ∃ N, bt (Lib.itoa e.n) = N := ⟨_, rfl⟩
  have nN := fun w => numberq_q e.n (hnums e.n (by simp [nums, hk])).1 (hnums e.n (by simp [nums, hk])).2 w
  have zN := itoa_size e.n (hnums e.n (by simp [nums, hk])).1 (hnums e.n (by simp [nums, hk])).2
  rw [hN] at nN zN
  have hbody : bt (body e) = ((bt [116, 105, 99, 107] : ByteArray) ++ bt [32]) ++ N := by
    rw [← hN]
    simp only [bt_append]
    congr 1
    simp [body, hk, sp, itoa]
  have hlen : (bt (body e)).size = (body e).length := by simp [bt, ByteArray.size]
  have hfin : textB e = (if (body e).length ≤ 65536 then body e else []) ∧ textE e = (if (body e).length ≤ 65536 then 0 else 3) := by
    unfold textB textE
    rw [if_pos hch]
    refine ⟨?_, rfl⟩
    by_cases h : (body e).length ≤ 65536
    · rw [if_pos ⟨hch, h⟩, if_pos h]
    · rw [if_neg (fun h2 => h h2.2), if_neg h]
  have HBODY := Lib.hid hbody; have HLEN := Lib.hid hlen; have HFIN := Lib.hid hfin
  have HCK := Lib.hid hck; have HG := Lib.hid hg; have HM := Lib.hid hm; have HCH := Lib.hid hch
  have NX' := Lib.hid nX; clear nX hX
  have NY' := Lib.hid nY; clear nY hY
  have NN' := Lib.hid nN; clear nN hN
  have HW := Lib.hid (show ∀ w, Calls Tryd.prog 15 #[.int .u8 e.kind] w fun r w' => r = .returned (.string (bt [116, 105, 99, 107])) ∧ Below w.heap.size w w' from fun w => by rw [hk]; exact wordq_7 w)
  have k1 : (e.kind == 1) = false := by rw [hk]; decide
  have k2 : (e.kind == 2) = false := by rw [hk]; decide
  have k3 : (e.kind == 3) = false := by rw [hk]; decide
  have k4 : (e.kind == 4) = false := by rw [hk]; decide
  have k5 : (e.kind == 5) = false := by rw [hk]; decide
  have k6 : (e.kind == 6) = false := by rw [hk]; decide
  have k7 : (e.kind == 7) = true := by rw [hk]; decide
  have k8 : (e.kind == 8) = false := by rw [hk]; decide
  clear hck hg hat hnums htl hbody hlen hfin hm hch hk
  unfold EV at HCK ⊢
  go_enter Tryd.func5, Tryd.ntmps5
  go_wp2_with fail
  refine (HCK.out _ (HG.out.alloc _)).mono ?_
  rintro r w1 ⟨rfl, hb⟩
  have b1 : Blk9 w1 w.heap.size e := Blk9.same (w := w.alloc (.cells (EC e) 29)) (heap_alloc_new w _) (hb.block _ (by simp))
  have HB1 := Lib.hid (((Below.refl _ _).alloc (Nat.le_refl _) _).trans (hb.mono (by simp))); clear hb
  obtain ⟨c0, c1, c2, c3, c4, c5, c6, c7, c8⟩ := b1.nine
  have B1 := Lib.hid b1; clear b1
  go_wp2_with fail
  refine (HW.out _).mono ?_
  rintro r w2 ⟨rfl, hb⟩
  have b2 := B1.out.same (hb.block _ B1.out.lt)
  have HB2 := Lib.hid (HB1.out.trans (hb.mono HB1.out.size))
  clear hb c0 c1 c2 c3 c4 c5 c6 c7 c8
  obtain ⟨c0, c1, c2, c3, c4, c5, c6, c7, c8⟩ := b2.nine
  have B2 := Lib.hid b2; clear b2
  go_wp2_with fail
  have m1 : ¬ 9223372036854775807 < 1 + X.size := by have h : (bt [116, 105, 99, 107]).size = 4 := rfl; omega
  have m2 : ¬ 9223372036854775807 < 1 + X.size + 1 := by have h : (bt [116, 105, 99, 107]).size = 4 := rfl; omega
  have m3 : ¬ 9223372036854775807 < 1 + X.size + 1 + Y.size := by have h : (bt [116, 105, 99, 107]).size = 4 := rfl; omega
  have m4 : ¬ 9223372036854775807 < (bt [116, 105, 99, 107]).size + 1 := by have h : (bt [116, 105, 99, 107]).size = 4 := rfl; omega
  have m5 : ¬ 9223372036854775807 < (bt [116, 105, 99, 107]).size + 1 + N.size := by have h : (bt [116, 105, 99, 107]).size = 4 := rfl; omega
  have hsz : (body e).length = (bt [116, 105, 99, 107]).size + 1 + N.size := by rw [← HLEN.out, HBODY.out]; simp only [size_cat]; rfl
  have HSZ := Lib.hid hsz; clear hsz
  go_quiet ((first | (go_at_call 16; with_reducible exact Calls.quiet_of_same (NX'.out _)) | (go_at_call 16; with_reducible exact Calls.quiet_of_same (NY'.out _))))
  have b3 : Blk9 (w2.drewN nq) w.heap.size e := B2.out
  have HB3 := Lib.hid (below_drewN' HB2.out nq)
  clear c0 c1 c2 c3 c4 c5 c6 c7 c8 B2
  obtain ⟨c0, c1, c2, c3, c4, c5, c6, c7, c8⟩ := b3.nine
  have B3 := Lib.hid b3; clear b3
  generalize w2.drewN nq = w3 at B3 HB3 c0 c1 c2 c3 c4 c5 c6 c7 c8 ⊢
  go_wp2_with (go_at_call 16; (with_reducible refine (NN'.out _).mono ?_); rintro r w4 ⟨rfl, hw⟩; subst hw)
  all_goals (
    go_ret2
    refine ⟨?_, HB3.out⟩
    have hsz := HSZ.out
    rw [HFIN.out.1, HFIN.out.2]
    first
      | (have hL : (body e).length ≤ 65536 := by omega
         rw [if_pos hL, if_pos hL, HBODY.out]; rfl)
      | (have hL : ¬ (body e).length ≤ 65536 := by omega
         rw [if_neg hL, if_neg hL]; rfl))
set_option maxHeartbeats 4000000 in
set_option maxRecDepth 100000 in
theorem textqq_8 (e : E) (w : World) (hg : Glob w) (hn : e.name.length ≤ 9223372036854775807) (hm : 0 ≤ e.mods) (hch : chk e = true) (hk : e.kind = 8) :
    Calls Tryd.prog 5 #[EV e] w fun r w' => r = .returned (.tuple #[.string (bt (textB e)), .int .i64 (textE e)]) ∧ Below w.heap.size w w' := by
  have hck := fun w hg => checkq_any e w hg hn
  rw [show chkE e = 0 from if_pos hch] at hck
  have hat := at_ok e hch
  have hnums := nums_ok e hch hm
  have htl := tail_ok e hch
  obtain ⟨X, hX⟩ : ∃ X, bt (Lib.itoa e.ax) = X := ⟨_, rfl⟩
  have nX := fun w => numberq_q e.ax (by have := hat; omega) (by have := hat; omega) w
  have zX := itoa_size e.ax (by have := hat; omega) (by have := hat; omega)
  rw [hX] at nX zX
  obtain ⟨Y, hY⟩ : ∃ Y, bt (Lib.itoa e.ay) = Y := ⟨_, rfl⟩
  have nY := fun w => numberq_q e.ay (by have := hat; omega) (by have := hat; omega) w
  have zY := itoa_size e.ay (by have := hat; omega) (by have := hat; omega)
  rw [hY] at nY zY
  obtain ⟨SW, hSW⟩ : ∃ SW, bt (Lib.itoa e.sw) = SW := ⟨_, rfl⟩
  have nSW := fun w => numberq_q e.sw (hnums e.sw (by simp [nums, hk])).1 (hnums e.sw (by simp [nums, hk])).2 w
  have zSW := itoa_size e.sw (hnums e.sw (by simp [nums, hk])).1 (hnums e.sw (by simp [nums, hk])).2
  rw [hSW] at nSW zSW
  obtain ⟨SH, hSH⟩ : ∃ SH, bt (Lib.itoa e.sh) = SH := ⟨_, rfl⟩
  have nSH := fun w => numberq_q e.sh (hnums e.sh (by simp [nums, hk])).1 (hnums e.sh (by simp [nums, hk])).2 w
  have zSH := itoa_size e.sh (hnums e.sh (by simp [nums, hk])).1 (hnums e.sh (by simp [nums, hk])).2
  rw [hSH] at nSH zSH
  have hbody : bt (body e) = ((((bt [114, 101, 115, 105, 122, 101] : ByteArray) ++ bt [32]) ++ SW) ++ bt [32]) ++ SH := by
    rw [← hSW, ← hSH]
    simp only [bt_append]
    congr 1
    simp [body, hk, sp, itoa]
  have hlen : (bt (body e)).size = (body e).length := by simp [bt, ByteArray.size]
  have hfin : textB e = (if (body e).length ≤ 65536 then body e else []) ∧ textE e = (if (body e).length ≤ 65536 then 0 else 3) := by
    unfold textB textE
    rw [if_pos hch]
    refine ⟨?_, rfl⟩
    by_cases h : (body e).length ≤ 65536
    · rw [if_pos ⟨hch, h⟩, if_pos h]
    · rw [if_neg (fun h2 => h h2.2), if_neg h]
  have HBODY := Lib.hid hbody; have HLEN := Lib.hid hlen; have HFIN := Lib.hid hfin
  have HCK := Lib.hid hck; have HG := Lib.hid hg; have HM := Lib.hid hm; have HCH := Lib.hid hch
  have NX' := Lib.hid nX; clear nX hX
  have NY' := Lib.hid nY; clear nY hY
  have NSW' := Lib.hid nSW; clear nSW hSW
  have NSH' := Lib.hid nSH; clear nSH hSH
  have HW := Lib.hid (show ∀ w, Calls Tryd.prog 15 #[.int .u8 e.kind] w fun r w' => r = .returned (.string (bt [114, 101, 115, 105, 122, 101])) ∧ Below w.heap.size w w' from fun w => by rw [hk]; exact wordq_8 w)
  have k1 : (e.kind == 1) = false := by rw [hk]; decide
  have k2 : (e.kind == 2) = false := by rw [hk]; decide
  have k3 : (e.kind == 3) = false := by rw [hk]; decide
  have k4 : (e.kind == 4) = false := by rw [hk]; decide
  have k5 : (e.kind == 5) = false := by rw [hk]; decide
  have k6 : (e.kind == 6) = false := by rw [hk]; decide
  have k7 : (e.kind == 7) = false := by rw [hk]; decide
  have k8 : (e.kind == 8) = true := by rw [hk]; decide
  clear hck hg hat hnums htl hbody hlen hfin hm hch hk
  unfold EV at HCK ⊢
  go_enter Tryd.func5, Tryd.ntmps5
  go_wp2_with fail
  refine (HCK.out _ (HG.out.alloc _)).mono ?_
  rintro r w1 ⟨rfl, hb⟩
  have b1 : Blk9 w1 w.heap.size e := Blk9.same (w := w.alloc (.cells (EC e) 29)) (heap_alloc_new w _) (hb.block _ (by simp))
  have HB1 := Lib.hid (((Below.refl _ _).alloc (Nat.le_refl _) _).trans (hb.mono (by simp))); clear hb
  obtain ⟨c0, c1, c2, c3, c4, c5, c6, c7, c8⟩ := b1.nine
  have B1 := Lib.hid b1; clear b1
  go_wp2_with fail
  refine (HW.out _).mono ?_
  rintro r w2 ⟨rfl, hb⟩
  have b2 := B1.out.same (hb.block _ B1.out.lt)
  have HB2 := Lib.hid (HB1.out.trans (hb.mono HB1.out.size))
  clear hb c0 c1 c2 c3 c4 c5 c6 c7 c8
  obtain ⟨c0, c1, c2, c3, c4, c5, c6, c7, c8⟩ := b2.nine
  have B2 := Lib.hid b2; clear b2
  go_wp2_with fail
  have m1 : ¬ 9223372036854775807 < 1 + X.size := by have h : (bt [114, 101, 115, 105, 122, 101]).size = 6 := rfl; omega
  have m2 : ¬ 9223372036854775807 < 1 + X.size + 1 := by have h : (bt [114, 101, 115, 105, 122, 101]).size = 6 := rfl; omega
  have m3 : ¬ 9223372036854775807 < 1 + X.size + 1 + Y.size := by have h : (bt [114, 101, 115, 105, 122, 101]).size = 6 := rfl; omega
  have m4 : ¬ 9223372036854775807 < (bt [114, 101, 115, 105, 122, 101]).size + 1 := by have h : (bt [114, 101, 115, 105, 122, 101]).size = 6 := rfl; omega
  have m5 : ¬ 9223372036854775807 < (bt [114, 101, 115, 105, 122, 101]).size + 1 + SW.size := by have h : (bt [114, 101, 115, 105, 122, 101]).size = 6 := rfl; omega
  have m6 : ¬ 9223372036854775807 < (bt [114, 101, 115, 105, 122, 101]).size + 1 + SW.size + 1 := by have h : (bt [114, 101, 115, 105, 122, 101]).size = 6 := rfl; omega
  have m7 : ¬ 9223372036854775807 < (bt [114, 101, 115, 105, 122, 101]).size + 1 + SW.size + 1 + SH.size := by have h : (bt [114, 101, 115, 105, 122, 101]).size = 6 := rfl; omega
  have hsz : (body e).length = (bt [114, 101, 115, 105, 122, 101]).size + 1 + SW.size + 1 + SH.size := by rw [← HLEN.out, HBODY.out]; simp only [size_cat]; rfl
  have HSZ := Lib.hid hsz; clear hsz
  go_quiet ((first | (go_at_call 16; with_reducible exact Calls.quiet_of_same (NX'.out _)) | (go_at_call 16; with_reducible exact Calls.quiet_of_same (NY'.out _))))
  have b3 : Blk9 (w2.drewN nq) w.heap.size e := B2.out
  have HB3 := Lib.hid (below_drewN' HB2.out nq)
  clear c0 c1 c2 c3 c4 c5 c6 c7 c8 B2
  obtain ⟨c0, c1, c2, c3, c4, c5, c6, c7, c8⟩ := b3.nine
  have B3 := Lib.hid b3; clear b3
  generalize w2.drewN nq = w3 at B3 HB3 c0 c1 c2 c3 c4 c5 c6 c7 c8 ⊢
  go_upto_region 20 with fail
  go_quiet ((first | (go_at_call 16; with_reducible exact Calls.quiet_of_same (NSW'.out _)) | (go_at_call 16; with_reducible exact Calls.quiet_of_same (NSH'.out _))))
  have HB5 := Lib.hid (below_drewN' HB3.out nq)
  go_wp2_with fail
  all_goals (
    go_ret2
    refine ⟨?_, HB5.out⟩
    have hsz := HSZ.out
    rw [HFIN.out.1, HFIN.out.2]
    first
      | (have hL : (body e).length ≤ 65536 := by omega
         rw [if_pos hL, if_pos hL, HBODY.out]; rfl)
      | (have hL : ¬ (body e).length ≤ 65536 := by omega
         rw [if_neg hL, if_neg hL]; rfl))
set_option maxHeartbeats 4000000 in
set_option maxRecDepth 100000 in
theorem textqq_9 (e : E) (w : World) (hg : Glob w) (hn : e.name.length ≤ 9223372036854775807) (hm : 0 ≤ e.mods) (hch : chk e = true) (hk : e.kind = 9) :
    Calls Tryd.prog 5 #[EV e] w fun r w' => r = .returned (.tuple #[.string (bt (textB e)), .int .i64 (textE e)]) ∧ Below w.heap.size w w' := by
  have hck := fun w hg => checkq_any e w hg hn
  rw [show chkE e = 0 from if_pos hch] at hck
  have hat := at_ok e hch
  have hnums := nums_ok e hch hm
  have htl := tail_ok e hch
  obtain ⟨X, hX⟩ : ∃ X, bt (Lib.itoa e.ax) = X := ⟨_, rfl⟩
  have nX := fun w => numberq_q e.ax (by have := hat; omega) (by have := hat; omega) w
  have zX := itoa_size e.ax (by have := hat; omega) (by have := hat; omega)
  rw [hX] at nX zX
  obtain ⟨Y, hY⟩ : ∃ Y, bt (Lib.itoa e.ay) = Y := ⟨_, rfl⟩
  have nY := fun w => numberq_q e.ay (by have := hat; omega) (by have := hat; omega) w
  have zY := itoa_size e.ay (by have := hat; omega) (by have := hat; omega)
  rw [hY] at nY zY
  have hlim : e.text.length ≤ 65536 := htl.2 (by simp [hk])
  obtain ⟨T, hT⟩ : ∃ T, bt (esc e.text) = T := ⟨_, rfl⟩
  have nT := fun w => escq_any ⟨e.text.toArray⟩ w (by show e.text.toArray.size ≤ _; rw [List.size_toArray]; omega)
  have zT := esc_size e.text
  rw [show (⟨e.text.toArray⟩ : ByteArray).data.toList = e.text by simp, hT] at nT
  rw [hT] at zT
  have zT2 : T.size ≤ 196608 := by omega
  clear zT hlim
  have hbody : bt (body e) = (((bt [100, 114, 97, 103] : ByteArray) ++ (((bt [32] ++ X) ++ bt [32]) ++ Y : ByteArray)) ++ bt [32]) ++ T := by
    rw [← hX, ← hY, ← hT]
    simp only [bt_append]
    congr 1
    simp [body, hk, sp, itoa]
  have hlen : (bt (body e)).size = (body e).length := by simp [bt, ByteArray.size]
  have hfin : textB e = (if (body e).length ≤ 65536 then body e else []) ∧ textE e = (if (body e).length ≤ 65536 then 0 else 3) := by
    unfold textB textE
    rw [if_pos hch]
    refine ⟨?_, rfl⟩
    by_cases h : (body e).length ≤ 65536
    · rw [if_pos ⟨hch, h⟩, if_pos h]
    · rw [if_neg (fun h2 => h h2.2), if_neg h]
  have HBODY := Lib.hid hbody; have HLEN := Lib.hid hlen; have HFIN := Lib.hid hfin
  have HCK := Lib.hid hck; have HG := Lib.hid hg; have HM := Lib.hid hm; have HCH := Lib.hid hch
  have NX' := Lib.hid nX; clear nX hX
  have NY' := Lib.hid nY; clear nY hY
  have NT' := Lib.hid nT; clear nT hT
  have HW := Lib.hid (show ∀ w, Calls Tryd.prog 15 #[.int .u8 e.kind] w fun r w' => r = .returned (.string (bt [100, 114, 97, 103])) ∧ Below w.heap.size w w' from fun w => by rw [hk]; exact wordq_9 w)
  have k1 : (e.kind == 1) = false := by rw [hk]; decide
  have k2 : (e.kind == 2) = false := by rw [hk]; decide
  have k3 : (e.kind == 3) = false := by rw [hk]; decide
  have k4 : (e.kind == 4) = false := by rw [hk]; decide
  have k5 : (e.kind == 5) = false := by rw [hk]; decide
  have k6 : (e.kind == 6) = false := by rw [hk]; decide
  have k7 : (e.kind == 7) = false := by rw [hk]; decide
  have k8 : (e.kind == 8) = false := by rw [hk]; decide
  clear hck hg hat hnums htl hbody hlen hfin hm hch hk
  unfold EV at HCK ⊢
  go_enter Tryd.func5, Tryd.ntmps5
  go_wp2_with fail
  refine (HCK.out _ (HG.out.alloc _)).mono ?_
  rintro r w1 ⟨rfl, hb⟩
  have b1 : Blk9 w1 w.heap.size e := Blk9.same (w := w.alloc (.cells (EC e) 29)) (heap_alloc_new w _) (hb.block _ (by simp))
  have HB1 := Lib.hid (((Below.refl _ _).alloc (Nat.le_refl _) _).trans (hb.mono (by simp))); clear hb
  obtain ⟨c0, c1, c2, c3, c4, c5, c6, c7, c8⟩ := b1.nine
  have B1 := Lib.hid b1; clear b1
  go_wp2_with fail
  refine (HW.out _).mono ?_
  rintro r w2 ⟨rfl, hb⟩
  have b2 := B1.out.same (hb.block _ B1.out.lt)
  have HB2 := Lib.hid (HB1.out.trans (hb.mono HB1.out.size))
  clear hb c0 c1 c2 c3 c4 c5 c6 c7 c8
  obtain ⟨c0, c1, c2, c3, c4, c5, c6, c7, c8⟩ := b2.nine
  have B2 := Lib.hid b2; clear b2
  go_wp2_with fail
  have m1 : ¬ 9223372036854775807 < 1 + X.size := by have h : (bt [100, 114, 97, 103]).size = 4 := rfl; omega
  have m2 : ¬ 9223372036854775807 < 1 + X.size + 1 := by have h : (bt [100, 114, 97, 103]).size = 4 := rfl; omega
  have m3 : ¬ 9223372036854775807 < 1 + X.size + 1 + Y.size := by have h : (bt [100, 114, 97, 103]).size = 4 := rfl; omega
  have m4 : ¬ 9223372036854775807 < (bt [100, 114, 97, 103]).size + (1 + X.size + 1 + Y.size) := by have h : (bt [100, 114, 97, 103]).size = 4 := rfl; omega
  have m5 : ¬ 9223372036854775807 < (bt [100, 114, 97, 103]).size + (1 + X.size + 1 + Y.size) + 1 := by have h : (bt [100, 114, 97, 103]).size = 4 := rfl; omega
  have m6 : ¬ 9223372036854775807 < (bt [100, 114, 97, 103]).size + (1 + X.size + 1 + Y.size) + 1 + T.size := by have h : (bt [100, 114, 97, 103]).size = 4 := rfl; omega
  have hsz : (body e).length = (bt [100, 114, 97, 103]).size + (1 + X.size + 1 + Y.size) + 1 + T.size := by rw [← HLEN.out, HBODY.out]; simp only [size_cat]; rfl
  have HSZ := Lib.hid hsz; clear hsz
  go_quiet ((first | (go_at_call 16; with_reducible exact Calls.quiet_of_same (NX'.out _)) | (go_at_call 16; with_reducible exact Calls.quiet_of_same (NY'.out _))))
  have b3 : Blk9 (w2.drewN nq) w.heap.size e := B2.out
  have HB3 := Lib.hid (below_drewN' HB2.out nq)
  clear c0 c1 c2 c3 c4 c5 c6 c7 c8 B2
  obtain ⟨c0, c1, c2, c3, c4, c5, c6, c7, c8⟩ := b3.nine
  have B3 := Lib.hid b3; clear b3
  generalize w2.drewN nq = w3 at B3 HB3 c0 c1 c2 c3 c4 c5 c6 c7 c8 ⊢
  go_wp2_with (go_at_call 17; (with_reducible refine (NT'.out _).mono ?_); rintro r w5 ⟨rfl, hb⟩; have HB5 := Lib.hid (HB3.out.trans (hb.mono HB3.out.size)); clear hb)
  all_goals (
    go_ret2
    refine ⟨?_, HB5.out⟩
    have hsz := HSZ.out
    rw [HFIN.out.1, HFIN.out.2]
    first
      | (have hL : (body e).length ≤ 65536 := by omega
         rw [if_pos hL, if_pos hL, HBODY.out]; rfl)
      | (have hL : ¬ (body e).length ≤ 65536 := by omega
         rw [if_neg hL, if_neg hL]; rfl))
set_option maxHeartbeats 4000000 in
set_option maxRecDepth 100000 in
theorem textqq_10 (e : E) (w : World) (hg : Glob w) (hn : e.name.length ≤ 9223372036854775807) (hm : 0 ≤ e.mods) (hch : chk e = true) (hk : e.kind = 10) :
    Calls Tryd.prog 5 #[EV e] w fun r w' => r = .returned (.tuple #[.string (bt (textB e)), .int .i64 (textE e)]) ∧ Below w.heap.size w w' := by
  have hck := fun w hg => checkq_any e w hg hn
  rw [show chkE e = 0 from if_pos hch] at hck
  have hat := at_ok e hch
  have hnums := nums_ok e hch hm
  have htl := tail_ok e hch
  obtain ⟨X, hX⟩ : ∃ X, bt (Lib.itoa e.ax) = X := ⟨_, rfl⟩
  have nX := fun w => numberq_q e.ax (by have := hat; omega) (by have := hat; omega) w
  have zX := itoa_size e.ax (by have := hat; omega) (by have := hat; omega)
  rw [hX] at nX zX
  obtain ⟨Y, hY⟩ : ∃ Y, bt (Lib.itoa e.ay) = Y := ⟨_, rfl⟩
  have nY := fun w => numberq_q e.ay (by have := hat; omega) (by have := hat; omega) w
  have zY := itoa_size e.ay (by have := hat; omega) (by have := hat; omega)
  rw [hY] at nY zY
  have hlim : e.text.length ≤ 65536 := htl.2 (by simp [hk])
  obtain ⟨T, hT⟩ : ∃ T, bt (esc e.text) = T := ⟨_, rfl⟩
  have nT := fun w => escq_any ⟨e.text.toArray⟩ w (by show e.text.toArray.size ≤ _; rw [List.size_toArray]; omega)
  have zT := esc_size e.text
  rw [show (⟨e.text.toArray⟩ : ByteArray).data.toList = e.text by simp, hT] at nT
  rw [hT] at zT
  have zT2 : T.size ≤ 196608 := by omega
  clear zT hlim
  have hbody : bt (body e) = (((bt [100, 114, 111, 112] : ByteArray) ++ (((bt [32] ++ X) ++ bt [32]) ++ Y : ByteArray)) ++ bt [32]) ++ T := by
    rw [← hX, ← hY, ← hT]
    simp only [bt_append]
    congr 1
    simp [body, hk, sp, itoa]
  have hlen : (bt (body e)).size = (body e).length := by simp [bt, ByteArray.size]
  have hfin : textB e = (if (body e).length ≤ 65536 then body e else []) ∧ textE e = (if (body e).length ≤ 65536 then 0 else 3) := by
    unfold textB textE
    rw [if_pos hch]
    refine ⟨?_, rfl⟩
    by_cases h : (body e).length ≤ 65536
    · rw [if_pos ⟨hch, h⟩, if_pos h]
    · rw [if_neg (fun h2 => h h2.2), if_neg h]
  have HBODY := Lib.hid hbody; have HLEN := Lib.hid hlen; have HFIN := Lib.hid hfin
  have HCK := Lib.hid hck; have HG := Lib.hid hg; have HM := Lib.hid hm; have HCH := Lib.hid hch
  have NX' := Lib.hid nX; clear nX hX
  have NY' := Lib.hid nY; clear nY hY
  have NT' := Lib.hid nT; clear nT hT
  have HW := Lib.hid (show ∀ w, Calls Tryd.prog 15 #[.int .u8 e.kind] w fun r w' => r = .returned (.string (bt [100, 114, 111, 112])) ∧ Below w.heap.size w w' from fun w => by rw [hk]; exact wordq_10 w)
  have k1 : (e.kind == 1) = false := by rw [hk]; decide
  have k2 : (e.kind == 2) = false := by rw [hk]; decide
  have k3 : (e.kind == 3) = false := by rw [hk]; decide
  have k4 : (e.kind == 4) = false := by rw [hk]; decide
  have k5 : (e.kind == 5) = false := by rw [hk]; decide
  have k6 : (e.kind == 6) = false := by rw [hk]; decide
  have k7 : (e.kind == 7) = false := by rw [hk]; decide
  have k8 : (e.kind == 8) = false := by rw [hk]; decide
  clear hck hg hat hnums htl hbody hlen hfin hm hch hk
  unfold EV at HCK ⊢
  go_enter Tryd.func5, Tryd.ntmps5
  go_wp2_with fail
  refine (HCK.out _ (HG.out.alloc _)).mono ?_
  rintro r w1 ⟨rfl, hb⟩
  have b1 : Blk9 w1 w.heap.size e := Blk9.same (w := w.alloc (.cells (EC e) 29)) (heap_alloc_new w _) (hb.block _ (by simp))
  have HB1 := Lib.hid (((Below.refl _ _).alloc (Nat.le_refl _) _).trans (hb.mono (by simp))); clear hb
  obtain ⟨c0, c1, c2, c3, c4, c5, c6, c7, c8⟩ := b1.nine
  have B1 := Lib.hid b1; clear b1
  go_wp2_with fail
  refine (HW.out _).mono ?_
  rintro r w2 ⟨rfl, hb⟩
  have b2 := B1.out.same (hb.block _ B1.out.lt)
  have HB2 := Lib.hid (HB1.out.trans (hb.mono HB1.out.size))
  clear hb c0 c1 c2 c3 c4 c5 c6 c7 c8
  obtain ⟨c0, c1, c2, c3, c4, c5, c6, c7, c8⟩ := b2.nine
  have B2 := Lib.hid b2; clear b2
  go_wp2_with fail
  have m1 : ¬ 9223372036854775807 < 1 + X.size := by have h : (bt [100, 114, 111, 112]).size = 4 := rfl; omega
  have m2 : ¬ 9223372036854775807 < 1 + X.size + 1 := by have h : (bt [100, 114, 111, 112]).size = 4 := rfl; omega
  have m3 : ¬ 9223372036854775807 < 1 + X.size + 1 + Y.size := by have h : (bt [100, 114, 111, 112]).size = 4 := rfl; omega
  have m4 : ¬ 9223372036854775807 < (bt [100, 114, 111, 112]).size + (1 + X.size + 1 + Y.size) := by have h : (bt [100, 114, 111, 112]).size = 4 := rfl; omega
  have m5 : ¬ 9223372036854775807 < (bt [100, 114, 111, 112]).size + (1 + X.size + 1 + Y.size) + 1 := by have h : (bt [100, 114, 111, 112]).size = 4 := rfl; omega
  have m6 : ¬ 9223372036854775807 < (bt [100, 114, 111, 112]).size + (1 + X.size + 1 + Y.size) + 1 + T.size := by have h : (bt [100, 114, 111, 112]).size = 4 := rfl; omega
  have hsz : (body e).length = (bt [100, 114, 111, 112]).size + (1 + X.size + 1 + Y.size) + 1 + T.size := by rw [← HLEN.out, HBODY.out]; simp only [size_cat]; rfl
  have HSZ := Lib.hid hsz; clear hsz
  go_quiet ((first | (go_at_call 16; with_reducible exact Calls.quiet_of_same (NX'.out _)) | (go_at_call 16; with_reducible exact Calls.quiet_of_same (NY'.out _))))
  have b3 : Blk9 (w2.drewN nq) w.heap.size e := B2.out
  have HB3 := Lib.hid (below_drewN' HB2.out nq)
  clear c0 c1 c2 c3 c4 c5 c6 c7 c8 B2
  obtain ⟨c0, c1, c2, c3, c4, c5, c6, c7, c8⟩ := b3.nine
  have B3 := Lib.hid b3; clear b3
  generalize w2.drewN nq = w3 at B3 HB3 c0 c1 c2 c3 c4 c5 c6 c7 c8 ⊢
  go_wp2_with (go_at_call 17; (with_reducible refine (NT'.out _).mono ?_); rintro r w5 ⟨rfl, hb⟩; have HB5 := Lib.hid (HB3.out.trans (hb.mono HB3.out.size)); clear hb)
  all_goals (
    go_ret2
    refine ⟨?_, HB5.out⟩
    have hsz := HSZ.out
    rw [HFIN.out.1, HFIN.out.2]
    first
      | (have hL : (body e).length ≤ 65536 := by omega
         rw [if_pos hL, if_pos hL, HBODY.out]; rfl)
      | (have hL : ¬ (body e).length ≤ 65536 := by omega
         rw [if_neg hL, if_neg hL]; rfl))
/-- The answer's Text, whole. -/
theorem textqq_any (e : E) (w : World) (hg : Glob w) (hn : e.name.length ≤ 9223372036854775807) (hm : 0 ≤ e.mods) :
    Calls Tryd.prog 5 #[EV e] w fun r w' => r = .returned (.tuple #[.string (bt (textB e)), .int .i64 (textE e)]) ∧ Below w.heap.size w w' := by
  by_cases hch : chk e = true
  · rcases kind_cases e hch with h | h | h | h | h | h | h | h | h | h
    · exact textqq_1 e w hg hn hm hch h
    · exact textqq_2 e w hg hn hm hch h
    · exact textqq_3 e w hg hn hm hch h
    · exact textqq_4 e w hg hn hm hch h
    · exact textqq_5 e w hg hn hm hch h
    · exact textqq_6 e w hg hn hm hch h
    · exact textqq_7 e w hg hn hm hch h
    · exact textqq_8 e w hg hn hm hch h
    · exact textqq_9 e w hg hn hm hch h
    · exact textqq_10 e w hg hn hm hch h
  · rw [textB, if_neg (fun h => hch h.1), textE, if_neg hch]
    exact textqq_wrong e w hg hn hch
end Go.Proofs.YtgkpbpcebgegbaaDoor
