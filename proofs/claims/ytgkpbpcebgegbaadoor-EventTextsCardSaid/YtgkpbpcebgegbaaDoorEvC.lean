/- event.Check: whether an event may be, kind by kind. -/
import Derived.Test.YtgkpbpcebgegbaaDoorEvA
import Derived.Deep.Light
namespace Go.Proofs.YtgkpbpcebgegbaaDoor
open Go.RowKit Ev
set_option linter.unusedVariables false
set_option linter.unusedSimpArgs false
theorem ret_i64 {a b : Int} (h : a = b) : Ending.returned (.int .i64 a) = .returned (.int .i64 b) := by rw [h]
theorem tlen (s : ByteArray) : s.toList.length = s.size := by rw [Lib.toList_data]; rfl
theorem w00 : within 0 (-16384) 16384 = true := by decide
theorem bcell {W w1 : World} (hb : Below W.heap.size W w1) : (∀ b o, b < W.heap.size → w1.cell? ⟨b, o, none⟩ = W.cell? ⟨b, o, none⟩) ∧ (∀ b o, b < W.heap.size → w1.frozen? ⟨b, o, none⟩ = W.frozen? ⟨b, o, none⟩) :=
  ⟨fun b o h => hb.cell (p := ⟨b, o, none⟩) h, fun b o h => hb.frozen (p := ⟨b, o, none⟩) h⟩

set_option maxHeartbeats 4000000 in
set_option maxRecDepth 100000 in
theorem check2 (ax ay sw sh n m : Int) (nm tx : ByteArray) (w : World) :
    Calls Tryd.prog 8 #[.agg #[.int .u8 2, .int .i64 ax, .int .i64 ay, .int .i64 sw, .int .i64 sh, .string nm, .int .u8 m, .string tx, .int .i64 n]] w fun e w' => e = .returned (.int .i64 (chkE ⟨2, ax, ay, sw, sh, nm.data.toList, m, tx.data.toList, n⟩)) ∧ Below w.heap.size w w' := by
  go_enter Tryd.func8, Tryd.ntmps8
  go_wp2_with (first | (go_at_call 27; refine (within_any _ _ _ _).mono ?_; rintro e w' ⟨rfl, rfl⟩))
  all_goals
    go_ret
    refine ⟨ret_i64 ?_, ?_⟩
    · go_light
      first
        | (simp [chkE, chk, ← Lib.toList_data, tlen, w00, *]; done)
        | (exfalso; simp_all; done)
    · exact ((Below.refl _ _).alloc (Nat.le_refl _) _).alloc (by simp) _

set_option maxHeartbeats 4000000 in
set_option maxRecDepth 100000 in
theorem check3 (ax ay sw sh n m : Int) (nm tx : ByteArray) (w : World) :
    Calls Tryd.prog 8 #[.agg #[.int .u8 3, .int .i64 ax, .int .i64 ay, .int .i64 sw, .int .i64 sh, .string nm, .int .u8 m, .string tx, .int .i64 n]] w fun e w' => e = .returned (.int .i64 (chkE ⟨3, ax, ay, sw, sh, nm.data.toList, m, tx.data.toList, n⟩)) ∧ Below w.heap.size w w' := by
  go_enter Tryd.func8, Tryd.ntmps8
  go_wp2_with (first | (go_at_call 27; refine (within_any _ _ _ _).mono ?_; rintro e w' ⟨rfl, rfl⟩))
  all_goals
    go_ret
    refine ⟨ret_i64 ?_, ?_⟩
    · go_light
      first
        | (simp [chkE, chk, ← Lib.toList_data, tlen, w00, *]; done)
        | (exfalso; simp_all; done)
    · exact ((Below.refl _ _).alloc (Nat.le_refl _) _).alloc (by simp) _

set_option maxHeartbeats 4000000 in
set_option maxRecDepth 100000 in
theorem check4 (ax ay sw sh n m : Int) (nm tx : ByteArray) (w : World) :
    Calls Tryd.prog 8 #[.agg #[.int .u8 4, .int .i64 ax, .int .i64 ay, .int .i64 sw, .int .i64 sh, .string nm, .int .u8 m, .string tx, .int .i64 n]] w fun e w' => e = .returned (.int .i64 (chkE ⟨4, ax, ay, sw, sh, nm.data.toList, m, tx.data.toList, n⟩)) ∧ Below w.heap.size w w' := by
  go_enter Tryd.func8, Tryd.ntmps8
  go_wp2_with (first | (go_at_call 27; refine (within_any _ _ _ _).mono ?_; rintro e w' ⟨rfl, rfl⟩))
  all_goals
    go_ret
    refine ⟨ret_i64 ?_, ?_⟩
    · go_light
      first
        | (simp [chkE, chk, ← Lib.toList_data, tlen, w00, *]; done)
        | (exfalso; simp_all; done)
    · exact ((Below.refl _ _).alloc (Nat.le_refl _) _).alloc (by simp) _

set_option maxHeartbeats 4000000 in
set_option maxRecDepth 100000 in
theorem check5 (ax ay sw sh n m : Int) (nm tx : ByteArray) (w : World) :
    Calls Tryd.prog 8 #[.agg #[.int .u8 5, .int .i64 ax, .int .i64 ay, .int .i64 sw, .int .i64 sh, .string nm, .int .u8 m, .string tx, .int .i64 n]] w fun e w' => e = .returned (.int .i64 (chkE ⟨5, ax, ay, sw, sh, nm.data.toList, m, tx.data.toList, n⟩)) ∧ Below w.heap.size w w' := by
  go_enter Tryd.func8, Tryd.ntmps8
  go_wp2_with (first | (go_at_call 27; refine (within_any _ _ _ _).mono ?_; rintro e w' ⟨rfl, rfl⟩))
  all_goals
    go_ret
    refine ⟨ret_i64 ?_, ?_⟩
    · go_light
      first
        | (simp [chkE, chk, ← Lib.toList_data, tlen, w00, *]; done)
        | (exfalso; simp_all; done)
    · exact ((Below.refl _ _).alloc (Nat.le_refl _) _).alloc (by simp) _

set_option maxHeartbeats 4000000 in
set_option maxRecDepth 100000 in
theorem check6 (ax ay sw sh n m : Int) (nm tx : ByteArray) (w : World) :
    Calls Tryd.prog 8 #[.agg #[.int .u8 6, .int .i64 ax, .int .i64 ay, .int .i64 sw, .int .i64 sh, .string nm, .int .u8 m, .string tx, .int .i64 n]] w fun e w' => e = .returned (.int .i64 (chkE ⟨6, ax, ay, sw, sh, nm.data.toList, m, tx.data.toList, n⟩)) ∧ Below w.heap.size w w' := by
  go_enter Tryd.func8, Tryd.ntmps8
  go_wp2_with (first | (go_at_call 27; refine (within_any _ _ _ _).mono ?_; rintro e w' ⟨rfl, rfl⟩))
  all_goals
    go_ret
    refine ⟨ret_i64 ?_, ?_⟩
    · go_light
      first
        | (simp [chkE, chk, ← Lib.toList_data, tlen, w00, *]; done)
        | (exfalso; simp_all; done)
    · exact ((Below.refl _ _).alloc (Nat.le_refl _) _).alloc (by simp) _

set_option maxHeartbeats 4000000 in
set_option maxRecDepth 100000 in
theorem check7 (ax ay sw sh n m : Int) (nm tx : ByteArray) (w : World) :
    Calls Tryd.prog 8 #[.agg #[.int .u8 7, .int .i64 ax, .int .i64 ay, .int .i64 sw, .int .i64 sh, .string nm, .int .u8 m, .string tx, .int .i64 n]] w fun e w' => e = .returned (.int .i64 (chkE ⟨7, ax, ay, sw, sh, nm.data.toList, m, tx.data.toList, n⟩)) ∧ Below w.heap.size w w' := by
  go_enter Tryd.func8, Tryd.ntmps8
  go_wp2_with (first | (go_at_call 27; refine (within_any _ _ _ _).mono ?_; rintro e w' ⟨rfl, rfl⟩))
  all_goals
    go_ret
    refine ⟨ret_i64 ?_, ?_⟩
    · go_light
      first
        | (simp [chkE, chk, ← Lib.toList_data, tlen, w00, *]; done)
        | (exfalso; simp_all; done)
    · exact ((Below.refl _ _).alloc (Nat.le_refl _) _).alloc (by simp) _

set_option maxHeartbeats 4000000 in
set_option maxRecDepth 100000 in
theorem check8 (ax ay sw sh n m : Int) (nm tx : ByteArray) (w : World) :
    Calls Tryd.prog 8 #[.agg #[.int .u8 8, .int .i64 ax, .int .i64 ay, .int .i64 sw, .int .i64 sh, .string nm, .int .u8 m, .string tx, .int .i64 n]] w fun e w' => e = .returned (.int .i64 (chkE ⟨8, ax, ay, sw, sh, nm.data.toList, m, tx.data.toList, n⟩)) ∧ Below w.heap.size w w' := by
  go_enter Tryd.func8, Tryd.ntmps8
  go_wp2_with (first | (go_at_call 27; refine (within_any _ _ _ _).mono ?_; rintro e w' ⟨rfl, rfl⟩))
  all_goals
    go_ret
    refine ⟨ret_i64 ?_, ?_⟩
    · go_light
      first
        | (simp [chkE, chk, ← Lib.toList_data, tlen, w00, *]; done)
        | (exfalso; simp_all; done)
    · exact ((Below.refl _ _).alloc (Nat.le_refl _) _).alloc (by simp) _

set_option maxHeartbeats 4000000 in
set_option maxRecDepth 100000 in
theorem check9 (ax ay sw sh n m : Int) (nm tx : ByteArray) (w : World) :
    Calls Tryd.prog 8 #[.agg #[.int .u8 9, .int .i64 ax, .int .i64 ay, .int .i64 sw, .int .i64 sh, .string nm, .int .u8 m, .string tx, .int .i64 n]] w fun e w' => e = .returned (.int .i64 (chkE ⟨9, ax, ay, sw, sh, nm.data.toList, m, tx.data.toList, n⟩)) ∧ Below w.heap.size w w' := by
  go_enter Tryd.func8, Tryd.ntmps8
  go_wp2_with (first | (go_at_call 27; refine (within_any _ _ _ _).mono ?_; rintro e w' ⟨rfl, rfl⟩))
  all_goals
    go_ret
    refine ⟨ret_i64 ?_, ?_⟩
    · go_light
      first
        | (simp [chkE, chk, ← Lib.toList_data, tlen, w00, *]; done)
        | (exfalso; simp_all; done)
    · exact ((Below.refl _ _).alloc (Nat.le_refl _) _).alloc (by simp) _

set_option maxHeartbeats 4000000 in
set_option maxRecDepth 100000 in
theorem check10 (ax ay sw sh n m : Int) (nm tx : ByteArray) (w : World) :
    Calls Tryd.prog 8 #[.agg #[.int .u8 10, .int .i64 ax, .int .i64 ay, .int .i64 sw, .int .i64 sh, .string nm, .int .u8 m, .string tx, .int .i64 n]] w fun e w' => e = .returned (.int .i64 (chkE ⟨10, ax, ay, sw, sh, nm.data.toList, m, tx.data.toList, n⟩)) ∧ Below w.heap.size w w' := by
  go_enter Tryd.func8, Tryd.ntmps8
  go_wp2_with (first | (go_at_call 27; refine (within_any _ _ _ _).mono ?_; rintro e w' ⟨rfl, rfl⟩))
  all_goals
    go_ret
    refine ⟨ret_i64 ?_, ?_⟩
    · go_light
      first
        | (simp [chkE, chk, ← Lib.toList_data, tlen, w00, *]; done)
        | (exfalso; simp_all; done)
    · exact ((Below.refl _ _).alloc (Nat.le_refl _) _).alloc (by simp) _

set_option maxHeartbeats 4000000 in
set_option maxRecDepth 100000 in
theorem checkX (k ax ay sw sh n m : Int) (nm tx : ByteArray) (w : World) (h1 : (k == 1) = false) (h2 : (k == 2) = false) (h3 : (k == 3) = false) (h4 : (k == 4) = false) (h5 : (k == 5) = false) (h6 : (k == 6) = false) (h7 : (k == 7) = false) (h8 : (k == 8) = false) (h9 : (k == 9) = false) (h10 : (k == 10) = false) :
    Calls Tryd.prog 8 #[.agg #[.int .u8 k, .int .i64 ax, .int .i64 ay, .int .i64 sw, .int .i64 sh, .string nm, .int .u8 m, .string tx, .int .i64 n]] w fun e w' => e = .returned (.int .i64 (chkE ⟨k, ax, ay, sw, sh, nm.data.toList, m, tx.data.toList, n⟩)) ∧ Below w.heap.size w w' := by
  have g1 : ¬ k = 1 := by simpa using h1
  have g2 : ¬ k = 2 := by simpa using h2
  have g3 : ¬ k = 3 := by simpa using h3
  have g4 : ¬ k = 4 := by simpa using h4
  have g5 : ¬ k = 5 := by simpa using h5
  have g6 : ¬ k = 6 := by simpa using h6
  have g7 : ¬ k = 7 := by simpa using h7
  have g8 : ¬ k = 8 := by simpa using h8
  have g9 : ¬ k = 9 := by simpa using h9
  have g10 : ¬ k = 10 := by simpa using h10
  go_enter Tryd.func8, Tryd.ntmps8
  go_wp2_with (first | (go_at_call 27; refine (within_any _ _ _ _).mono ?_; rintro e w' ⟨rfl, rfl⟩))
  all_goals
    go_ret
    refine ⟨ret_i64 ?_, ?_⟩
    · go_light
      first
        | (simp [chkE, chk, ← Lib.toList_data, tlen, w00, *]; done)
        | (exfalso; simp_all; done)
    · exact ((Below.refl _ _).alloc (Nat.le_refl _) _).alloc (by simp) _
end Go.Proofs.YtgkpbpcebgegbaaDoor
