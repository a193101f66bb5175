/- casementlaw16's wrong and VectorNames, walked. -/
import Derived.Test.YtemiamajgjfnbaaGreatDoorVcAl
namespace Go.Proofs.YtemiamajgjfnbaaGreatDoor
open Go.RowKit Vc
set_option linter.unusedVariables false
set_option linter.unusedSimpArgs false
/-- Is a text refused at a place? -/
def wrongB (l : Bytes) (k : Int) : Bool := decide (readP l = ([], (0, 0), k, 160))
set_option maxHeartbeats 1000000 in
set_option maxRecDepth 20000 in
theorem wrong_true (s : ByteArray) (k : Int) (w : World) (h : wrongB s.data.toList k = true) (hg : Glob w) :
    Calls Tryz.prog 7 #[.string s, .int .i64 k] w fun e w' => e = .returned (.bool true) ∧ Below w.heap.size w w' := by
  have hr : readP s.data.toList = ([], (0, 0), k, 160) := by unfold wrongB at h; simpa using h
  have HR : Hid (∀ w, Glob w → Calls Tryz.prog 11 #[.string s] w fun e w' => ∃ p c, e = .returned (.tuple #[.slice p 0 c, .agg #[.int .i64 0, .int .i64 0], .int .i64 k, .int .i64 160]) ∧ Below w.heap.size w w') :=
    Lib.hid fun w hg => (read_any s w hg).mono fun e w' h => by
      obtain ⟨v, h1, ⟨p, c, hv, _⟩, h3⟩ := h
      rw [hr] at h1 hv
      exact ⟨p, c, by rw [h1, hv]; rfl, h3⟩
  have HG := Lib.hid hg; clear hg hr h
  go_enter Tryz.func7, Tryz.ntmps7
  go_upto_region 2 with (go_at_call 11; refine (HR.out _ HG.out).mono ?_; rintro e w1 ⟨p, c, rfl, hb⟩; have W1 := Lib.hid hb; clear hb)
  have Z2 := Lib.hid (blkV_new w1 23 #[.int .i64 0, .int .i64 0])
  have W2 := Lib.hid (W1.out.alloc W1.out.size (.cells #[.int .i64 0, .int .i64 0] 23))
  generalize w1.alloc (.cells #[.int .i64 0, .int .i64 0] 23) = w2 at Z2 W2 ⊢
  generalize w1.heap.size = zz at Z2 ⊢
  have z0 : w2.cell? ⟨zz, 0, none⟩ = some (.int .i64 0) := (Z2.out.cell 0).trans rfl
  have z1 : w2.cell? ⟨zz, 1, none⟩ = some (.int .i64 0) := (Z2.out.cell 1).trans rfl
  go_wp2_with fail
  go_ret
  exact ⟨rfl, W2.out⟩
theorem plain_0 (w : World) : Calls Tryz.prog 8 #[.string ⟨#[97, 38, 51, 99, 59, 98]⟩] w fun e w' => e = .returned (.tuple #[.string ⟨#[97, 60, 98]⟩, .int .i64 0, .int .i64 0]) ∧ Below w.heap.size w w' := by
  have h := vplainS_any ⟨#[97, 38, 51, 99, 59, 98]⟩ w (by decide)
  rw [show plainV (⟨#[97, 38, 51, 99, 59, 98]⟩ : ByteArray).data.toList = ([97, 60, 98], 0, 0) by decide +kernel] at h
  exact h
theorem plain_1 (w : World) : Calls Tryz.prog 8 #[.string ⟨#[38, 54, 49, 59]⟩] w fun e w' => e = .returned (.tuple #[.string ⟨#[]⟩, .int .i64 0, .int .i64 160]) ∧ Below w.heap.size w w' := by
  have h := vplainS_any ⟨#[38, 54, 49, 59]⟩ w (by decide)
  rw [show plainV (⟨#[38, 54, 49, 59]⟩ : ByteArray).data.toList = ([], 0, 160) by decide +kernel] at h
  exact h
theorem plain_2 (w : World) : Calls Tryz.prog 8 #[.string ⟨#[97, 32, 98]⟩] w fun e w' => e = .returned (.tuple #[.string ⟨#[]⟩, .int .i64 1, .int .i64 160]) ∧ Below w.heap.size w w' := by
  have h := vplainS_any ⟨#[97, 32, 98]⟩ w (by decide)
  rw [show plainV (⟨#[97, 32, 98]⟩ : ByteArray).data.toList = ([], 1, 160) by decide +kernel] at h
  exact h
theorem plain_3 (w : World) : Calls Tryz.prog 8 #[.string ⟨#[38, 50]⟩] w fun e w' => e = .returned (.tuple #[.string ⟨#[]⟩, .int .i64 0, .int .i64 160]) ∧ Below w.heap.size w w' := by
  have h := vplainS_any ⟨#[38, 50]⟩ w (by decide)
  rw [show plainV (⟨#[38, 50]⟩ : ByteArray).data.toList = ([], 0, 160) by decide +kernel] at h
  exact h
theorem escape_0 (w : World) : Calls Tryz.prog 9 #[.string ⟨#[97, 60, 98]⟩] w fun e w' => e = .returned (.string ⟨#[97, 38, 51, 99, 59, 98]⟩) ∧ Below w.heap.size w w' := by
  have h := vesc_any ⟨#[97, 60, 98]⟩ w (by decide)
  rw [show esc (⟨#[97, 60, 98]⟩ : ByteArray).data.toList = [97, 38, 51, 99, 59, 98] by decide +kernel] at h
  exact h
theorem escape_1 (w : World) : Calls Tryz.prog 9 #[.string ⟨#[255]⟩] w fun e w' => e = .returned (.string ⟨#[38, 102, 102, 59]⟩) ∧ Below w.heap.size w w' := by
  have h := vesc_any ⟨#[255]⟩ w (by decide)
  rw [show esc (⟨#[255]⟩ : ByteArray).data.toList = [38, 102, 102, 59] by decide +kernel] at h
  exact h
def whiteW : S := ⟨3, ⟨0, 0, 9, 1⟩, ⟨255, 255, 255, 255⟩, C0, [97, 32, 98], 0⟩
set_option maxHeartbeats 8000000 in
set_option maxRecDepth 20000 in
theorem law_names (w : World) (hg : Glob w) :
    Calls Tryz.prog 3 #[] w fun e w' => e = .returned (.bool true) ∧ Below w.heap.size w w' := by
  have HG := Lib.hid hg; clear hg
  obtain ⟨X, hX⟩ : ∃ X, X = bt (textP [whiteW] 8 3).1 := ⟨_, rfl⟩
  obtain ⟨N, hN⟩ : ∃ N, N = bt (textP [] 8 3).1 := ⟨_, rfl⟩
  have HT1 : Hid (∀ v w, IsL w v [whiteW] → Glob w → Calls Tryz.prog 6 #[v, .agg #[.int .i64 8, .int .i64 3]] w fun e w' => e = .returned (.tuple #[.string X, .int .i64 0]) ∧ Below w.heap.size w w') :=
    Lib.hid fun v w h hg => by have := text_any v [whiteW] 8 3 w h hg; rw [← hX, show (textP [whiteW] 8 3).2 = 0 by decide +kernel] at this; exact this
  have HT2 : Hid (∀ w, Glob w → Calls Tryz.prog 6 #[.slice none 0 0, .agg #[.int .i64 8, .int .i64 3]] w fun e w' => e = .returned (.tuple #[.string N, .int .i64 0]) ∧ Below w.heap.size w w') :=
    Lib.hid fun w hg => by have := text_any (.slice none 0 0) [] 8 3 w (isL_nil w) hg; rw [← hN, show (textP [] 8 3).2 = 0 by decide +kernel] at this; exact this
  have HT3 : Hid (∀ w, Glob w → Calls Tryz.prog 6 #[.slice none 0 0, .agg #[.int .i64 (-1), .int .i64 0]] w fun e w' => e = .returned (.tuple #[.string ⟨#[]⟩, .int .i64 9]) ∧ Below w.heap.size w w') :=
    Lib.hid fun w hg => by have := text_any (.slice none 0 0) [] (-1) 0 w (isL_nil w) hg; rw [show textP [] (-1) 0 = ([], 9) by decide +kernel] at this; exact this
  have hXl : (X.toList == ([60, 115, 104, 97, 112, 101, 115, 32, 119, 61, 34, 56, 34, 32, 104, 61, 34, 51, 34, 62, 10, 60, 119, 114, 105, 116, 101, 32, 120, 61, 34, 48, 34, 32, 121, 61, 34, 48, 34, 32, 119, 61, 34, 57, 34, 32, 104, 61, 34, 49, 34, 32, 99, 61, 34, 35, 102, 102, 102, 34, 32, 98, 61, 34, 35, 48, 48, 48, 48, 48, 48, 48, 48, 34, 32, 110, 61, 34, 48, 34, 62, 97, 38, 50, 48, 59, 98, 60, 47, 119, 114, 105, 116, 101, 62, 10, 60, 47, 115, 104, 97, 112, 101, 115, 62, 10] : List UInt8)) = true := by rw [hX, bt_list]; decide +kernel
  have hNl : (N.toList == ([60, 115, 104, 97, 112, 101, 115, 32, 119, 61, 34, 56, 34, 32, 104, 61, 34, 51, 34, 62, 10, 60, 47, 115, 104, 97, 112, 101, 115, 62, 10] : List UInt8)) = true := by rw [hN, bt_list]; decide +kernel
  have hNs : ¬ 9223372036854775807 < N.size + 1 := by rw [hN, bt_size]; decide +kernel
  have HN := Lib.hid hN; have HX := Lib.hid hX; clear hX hN
  have HP0 := Lib.hid plain_0; have HP1 := Lib.hid plain_1; have HP2 := Lib.hid plain_2; have HP3 := Lib.hid plain_3
  have HE0 := Lib.hid escape_0; have HE1 := Lib.hid escape_1
  go_enter Tryz.func3, Tryz.ntmps3
  go_upto_region 2 with fail
  have F2 : Hid (BlkV (w.alloc (.cells #[.int .u8 3, .int .i64 0, .int .i64 0, .int .i64 9, .int .i64 1, .int .u8 255, .int .u8 255, .int .u8 255, .int .u8 255, .int .u8 0, .int .u8 0, .int .u8 0, .int .u8 0, .string ⟨#[97, 32, 98]⟩, .int .i64 0] 31)) w.heap.size 31 (SC whiteW)) := Lib.hid (blkV_new _ _ _)
  have W2 := Lib.hid ((Below.refl w.heap.size w).alloc (Nat.le_refl _) (.cells #[.int .u8 3, .int .i64 0, .int .i64 0, .int .i64 9, .int .i64 1, .int .u8 255, .int .u8 255, .int .u8 255, .int .u8 255, .int .u8 0, .int .u8 0, .int .u8 0, .int .u8 0, .string ⟨#[97, 32, 98]⟩, .int .i64 0] 31))
  generalize w.alloc (.cells #[.int .u8 3, .int .i64 0, .int .i64 0, .int .i64 9, .int .i64 1, .int .u8 255, .int .u8 255, .int .u8 255, .int .u8 255, .int .u8 0, .int .u8 0, .int .u8 0, .int .u8 0, .string ⟨#[97, 32, 98]⟩, .int .i64 0] 31) = w2 at F2 W2 ⊢
  have fc := F2.out.cell
  have e0 : w2.cell? ⟨w.heap.size, 0, none⟩ = some (.int .u8 3) := (fc 0).trans rfl
  have e1 : w2.cell? ⟨w.heap.size, 1, none⟩ = some (.int .i64 0) := (fc 1).trans rfl
  have e2 : w2.cell? ⟨w.heap.size, 2, none⟩ = some (.int .i64 0) := (fc 2).trans rfl
  have e3 : w2.cell? ⟨w.heap.size, 3, none⟩ = some (.int .i64 9) := (fc 3).trans rfl
  have e4 : w2.cell? ⟨w.heap.size, 4, none⟩ = some (.int .i64 1) := (fc 4).trans rfl
  have e5 : w2.cell? ⟨w.heap.size, 5, none⟩ = some (.int .u8 255) := (fc 5).trans rfl
  have e6 : w2.cell? ⟨w.heap.size, 6, none⟩ = some (.int .u8 255) := (fc 6).trans rfl
  have e7 : w2.cell? ⟨w.heap.size, 7, none⟩ = some (.int .u8 255) := (fc 7).trans rfl
  have e8 : w2.cell? ⟨w.heap.size, 8, none⟩ = some (.int .u8 255) := (fc 8).trans rfl
  have e9 : w2.cell? ⟨w.heap.size, 9, none⟩ = some (.int .u8 0) := (fc 9).trans rfl
  have e10 : w2.cell? ⟨w.heap.size, 10, none⟩ = some (.int .u8 0) := (fc 10).trans rfl
  have e11 : w2.cell? ⟨w.heap.size, 11, none⟩ = some (.int .u8 0) := (fc 11).trans rfl
  have e12 : w2.cell? ⟨w.heap.size, 12, none⟩ = some (.int .u8 0) := (fc 12).trans rfl
  have e13 : w2.cell? ⟨w.heap.size, 13, none⟩ = some (.string ⟨#[97, 32, 98]⟩) := (fc 13).trans rfl
  have e14 : w2.cell? ⟨w.heap.size, 14, none⟩ = some (.int .i64 0) := (fc 14).trans rfl
  clear fc
  have L3 : Hid (IsL (w2.alloc (.cells #[.int .u8 3, .int .i64 0, .int .i64 0, .int .i64 9, .int .i64 1, .int .u8 255, .int .u8 255, .int .u8 255, .int .u8 255, .int .u8 0, .int .u8 0, .int .u8 0, .int .u8 0, .string ⟨#[97, 32, 98]⟩, .int .i64 0] 31)) (.slice (some ⟨w2.heap.size, 0, none⟩) 1 1) [whiteW]) := Lib.hid (isL_one (blkV_new w2 31 (SC whiteW)))
  have W := Lib.hid (W2.out.alloc W2.out.size (.cells #[.int .u8 3, .int .i64 0, .int .i64 0, .int .i64 9, .int .i64 1, .int .u8 255, .int .u8 255, .int .u8 255, .int .u8 255, .int .u8 0, .int .u8 0, .int .u8 0, .int .u8 0, .string ⟨#[97, 32, 98]⟩, .int .i64 0] 31))
  go_upto_region 3 with (go_at_call 6; refine (HT1.out _ _ L3.out (HG.out.below HG.out.size W.out)).mono ?_; rintro e w4 ⟨rfl, hb⟩; have W := Lib.hid (W.out.trans (hb.mono W.out.size)); clear hb)
  clear e0 e1 e2 e3 e4 e5 e6 e7 e8 e9 e10 e11 e12 e13 e14
  go_upto_region 4 with (go_at_call 6; refine (HT2.out _ (HG.out.below HG.out.size W.out)).mono ?_; rintro e w5 ⟨rfl, hb⟩; have W := Lib.hid (W.out.trans (hb.mono W.out.size)); clear hb)
  go_upto_region 5 with (go_at_call 6; refine (HT3.out _ (HG.out.below HG.out.size W.out)).mono ?_; rintro e w6 ⟨rfl, hb⟩; have W := Lib.hid (W.out.trans (hb.mono W.out.size)); clear hb)
  go_upto_region 6 with fail
  go_upto_region 7 with (go_at_call 7; refine (wrong_true _ _ _ ?_ ?_).mono ?_; (first | decide +kernel | (rw [HN.out]; decide +kernel)); exact (HG.out.below HG.out.size W.out); rintro e wn ⟨rfl, hb⟩; have W := Lib.hid (W.out.trans (hb.mono W.out.size)); clear hb)
  go_upto_region 8 with (go_at_call 8; (with_reducible refine (HP0.out _).mono ?_); rintro e wn ⟨rfl, hb⟩; have W := Lib.hid (W.out.trans (hb.mono W.out.size)); clear hb)
  go_upto_region 9 with (go_at_call 8; (with_reducible refine (HP1.out _).mono ?_); rintro e wn ⟨rfl, hb⟩; have W := Lib.hid (W.out.trans (hb.mono W.out.size)); clear hb)
  go_upto_region 10 with (go_at_call 8; (with_reducible refine (HP2.out _).mono ?_); rintro e wn ⟨rfl, hb⟩; have W := Lib.hid (W.out.trans (hb.mono W.out.size)); clear hb)
  go_upto_region 11 with (go_at_call 8; (with_reducible refine (HP3.out _).mono ?_); rintro e wn ⟨rfl, hb⟩; have W := Lib.hid (W.out.trans (hb.mono W.out.size)); clear hb)
  go_upto_region 12 with (go_at_call 9; (first | (with_reducible refine (HE0.out _).mono ?_) | (with_reducible refine (HE1.out _).mono ?_)); rintro e wn ⟨rfl, hb⟩; have W := Lib.hid (W.out.trans (hb.mono W.out.size)); clear hb)
  go_wp2_with (go_at_call 10; refine (alive_any _ (HG.out.below HG.out.size W.out)).mono ?_; rintro e wn ⟨rfl, hb⟩; have W := Lib.hid (W.out.trans (hb.mono W.out.size)); clear hb)
  go_ret
  exact ⟨rfl, W.out⟩
end Go.Proofs.YtemiamajgjfnbaaGreatDoor
