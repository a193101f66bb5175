/- event.Check at a key, and of every event. -/
import Derived.Test.YtgkpbpcebgegbaaDoorEvC
namespace Go.Proofs.YtgkpbpcebgegbaaDoor
open Go.RowKit Ev
set_option linter.unusedVariables false
set_option linter.unusedSimpArgs false

set_option maxHeartbeats 4000000 in
set_option maxRecDepth 100000 in
theorem check1 (ax ay sw sh n m : Int) (nm tx : ByteArray) (w : World) (hg : Glob w) (hn : nm.size ≤ 9223372036854775807) :
    Calls Tryd.prog 8 #[.agg #[.int .u8 1, .int .i64 ax, .int .i64 ay, .int .i64 sw, .int .i64 sh, .string nm, .int .u8 m, .string tx, .int .i64 n]] w fun e w' => e = .returned (.int .i64 (chkE ⟨1, ax, ay, sw, sh, nm.data.toList, m, tx.data.toList, n⟩)) ∧ Below w.heap.size w w' := by
  have HG := Lib.hid hg; clear hg
  go_enter Tryd.func8, Tryd.ntmps8
  go_wp2_with (first | (go_at_call 27; refine (within_any _ _ _ _).mono ?_; rintro e w' ⟨rfl, rfl⟩) | (go_at_call 28; refine (valid_any nm _ hn (((HG.out.alloc _).alloc _).alloc _)).mono ?_; rintro e w1 ⟨rfl, hb⟩; obtain ⟨hc, hf⟩ := bcell hb; have HB := Lib.hid hb; clear hb))
  all_goals
    go_ret
    refine ⟨ret_i64 ?_, ?_⟩
    · go_light
      first
        | (simp [chkE, chk, ← Lib.toList_data, tlen, w00, *]; done)
        | (simp_all [chkE, chk, ← Lib.toList_data, tlen, w00]; done)
        | (simp [chkE, chk, ← Lib.toList_data, tlen, w00, *]; intros; omega)
    · first
        | exact ((((Below.refl _ _).alloc (Nat.le_refl _) _).alloc (by simp) _).alloc (by simp; omega) _).trans (HB.out.mono (by simp; omega))
        | exact (((((Below.refl _ _).alloc (Nat.le_refl _) _).alloc (by simp) _).alloc (by simp; omega) _).trans (HB.out.mono (by simp; omega))).setCell (by simp) _
        | exact ((((((Below.refl _ _).alloc (Nat.le_refl _) _).alloc (by simp) _).alloc (by simp; omega) _).trans (HB.out.mono (by simp; omega))).setCell (by simp) _).setCell (by simp) _
        | exact (((Below.refl _ _).alloc (Nat.le_refl _) _).alloc (by simp) _).alloc (by simp; omega) _

theorem check_any (k ax ay sw sh n m : Int) (nm tx : ByteArray) (w : World) (hg : Glob w) (hn : nm.size ≤ 9223372036854775807) :
    Calls Tryd.prog 8 #[.agg #[.int .u8 k, .int .i64 ax, .int .i64 ay, .int .i64 sw, .int .i64 sh, .string nm, .int .u8 m, .string tx, .int .i64 n]] w fun e w' => e = .returned (.int .i64 (chkE ⟨k, ax, ay, sw, sh, nm.data.toList, m, tx.data.toList, n⟩)) ∧ Below w.heap.size w w' := by
  by_cases h1 : k = 1
  · subst h1; exact check1 ax ay sw sh n m nm tx w hg hn
  by_cases h2 : k = 2
  · subst h2; exact check2 ax ay sw sh n m nm tx w
  by_cases h3 : k = 3
  · subst h3; exact check3 ax ay sw sh n m nm tx w
  by_cases h4 : k = 4
  · subst h4; exact check4 ax ay sw sh n m nm tx w
  by_cases h5 : k = 5
  · subst h5; exact check5 ax ay sw sh n m nm tx w
  by_cases h6 : k = 6
  · subst h6; exact check6 ax ay sw sh n m nm tx w
  by_cases h7 : k = 7
  · subst h7; exact check7 ax ay sw sh n m nm tx w
  by_cases h8 : k = 8
  · subst h8; exact check8 ax ay sw sh n m nm tx w
  by_cases h9 : k = 9
  · subst h9; exact check9 ax ay sw sh n m nm tx w
  by_cases h10 : k = 10
  · subst h10; exact check10 ax ay sw sh n m nm tx w
  exact checkX k ax ay sw sh n m nm tx w (by simpa using h1) (by simpa using h2) (by simpa using h3) (by simpa using h4) (by simpa using h5) (by simpa using h6) (by simpa using h7) (by simpa using h8) (by simpa using h9) (by simpa using h10)
end Go.Proofs.YtgkpbpcebgegbaaDoor
