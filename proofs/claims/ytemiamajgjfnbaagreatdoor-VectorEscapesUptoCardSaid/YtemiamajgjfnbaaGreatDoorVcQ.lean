/- Rectangles and sizes that may be. -/
import Derived.Test.YtemiamajgjfnbaaGreatDoorVcP
namespace Go.Proofs.YtemiamajgjfnbaaGreatDoor
open Go.RowKit Vc
set_option linter.unusedVariables false
set_option linter.unusedSimpArgs false
theorem gwithin_any (n : Int) (w : World) :
    Calls Tryz.prog 58 #[.int .i64 n] w fun e w' => e = .returned (.bool (Ev.within n (-16384) 16384)) ∧ w = w' := by
  by_cases h : (-16384 : Int) ≤ n
  · have hd : decide ((-16384 : Int) ≤ n) = true := decide_eq_true h
    go_enter Tryz.func58, Tryz.ntmps58
    go_wp2
    go_ret
    exact ⟨by simp [Ev.within, hd], rfl⟩
  · have hd : decide ((-16384 : Int) ≤ n) = false := decide_eq_false h
    go_enter Tryz.func58, Tryz.ntmps58
    go_wp2
    go_ret
    exact ⟨by simp [Ev.within, hd], rfl⟩
theorem gside_any (n : Int) (w : World) :
    Calls Tryz.prog 59 #[.int .i64 n] w fun e w' => e = .returned (.bool (Ev.within n 0 32768)) ∧ w = w' := by
  by_cases h : (0 : Int) ≤ n
  · have hd : decide ((0 : Int) ≤ n) = true := decide_eq_true h
    go_enter Tryz.func59, Tryz.ntmps59
    go_wp2
    go_ret
    exact ⟨by simp [Ev.within, hd], rfl⟩
  · have hd : decide ((0 : Int) ≤ n) = false := decide_eq_false h
    go_enter Tryz.func59, Tryz.ntmps59
    go_wp2
    go_ret
    exact ⟨by simp [Ev.within, hd], rfl⟩
/-- May the rectangle be? -/
def rectOk (r : R) : Bool := Ev.within r.x (-16384) 16384 && Ev.within r.y (-16384) 16384 && Ev.within r.w 0 32768 && Ev.within r.h 0 32768 && decide (r.x + r.w ≤ 16384) && decide (r.y + r.h ≤ 16384)
def rectE (r : R) : Int := if rectOk r = true then 0 else 5
set_option maxHeartbeats 1000000 in
theorem geom_any (r : R) (w : World) :
    Calls Tryz.prog 46 #[RV r] w fun e w' => e = .returned (.int .i64 (rectE r)) ∧ Below w.heap.size w w' := by
  obtain ⟨x, y, a, b⟩ := r
  unfold RV
  cases h1 : Ev.within x (-16384) 16384 with
  | false =>
    have hr : rectE ⟨x, y, a, b⟩ = 5 := by unfold rectE rectOk; simp [h1]
    have HR := Lib.hid hr; clear hr
    go_enter Tryz.func46, Tryz.ntmps46
    go_wp2_with (first | (go_at_call 58; refine (gwithin_any _ _).mono ?_; rintro e w' ⟨rfl, rfl⟩) | (go_at_call 59; refine (gside_any _ _).mono ?_; rintro e w' ⟨rfl, rfl⟩))
    go_ret
    exact ⟨by rw [HR.out]; rfl, (Below.refl _ _).alloc (Nat.le_refl _) _⟩
  | true =>
    cases h2 : Ev.within y (-16384) 16384 with
    | false =>
      have hr : rectE ⟨x, y, a, b⟩ = 5 := by unfold rectE rectOk; simp [h2]
      have HR := Lib.hid hr; clear hr
      go_enter Tryz.func46, Tryz.ntmps46
      go_wp2_with (first | (go_at_call 58; refine (gwithin_any _ _).mono ?_; rintro e w' ⟨rfl, rfl⟩) | (go_at_call 59; refine (gside_any _ _).mono ?_; rintro e w' ⟨rfl, rfl⟩))
      go_ret
      exact ⟨by rw [HR.out]; rfl, (Below.refl _ _).alloc (Nat.le_refl _) _⟩
    | true =>
      cases h3 : Ev.within a 0 32768 with
      | false =>
        have hr : rectE ⟨x, y, a, b⟩ = 5 := by unfold rectE rectOk; simp [h3]
        have HR := Lib.hid hr; clear hr
        go_enter Tryz.func46, Tryz.ntmps46
        go_wp2_with (first | (go_at_call 58; refine (gwithin_any _ _).mono ?_; rintro e w' ⟨rfl, rfl⟩) | (go_at_call 59; refine (gside_any _ _).mono ?_; rintro e w' ⟨rfl, rfl⟩))
        go_ret
        exact ⟨by rw [HR.out]; rfl, (Below.refl _ _).alloc (Nat.le_refl _) _⟩
      | true =>
        cases h4 : Ev.within b 0 32768 with
        | false =>
          have hr : rectE ⟨x, y, a, b⟩ = 5 := by unfold rectE rectOk; simp [h4]
          have HR := Lib.hid hr; clear hr
          go_enter Tryz.func46, Tryz.ntmps46
          go_wp2_with (first | (go_at_call 58; refine (gwithin_any _ _).mono ?_; rintro e w' ⟨rfl, rfl⟩) | (go_at_call 59; refine (gside_any _ _).mono ?_; rintro e w' ⟨rfl, rfl⟩))
          go_ret
          exact ⟨by rw [HR.out]; rfl, (Below.refl _ _).alloc (Nat.le_refl _) _⟩
        | true =>
          have b1 : -16384 ≤ x ∧ x ≤ 16384 := by simpa [Ev.within] using h1
          have b2 : -16384 ≤ y ∧ y ≤ 16384 := by simpa [Ev.within] using h2
          have b3 : 0 ≤ a ∧ a ≤ 32768 := by simpa [Ev.within] using h3
          have b4 : 0 ≤ b ∧ b ≤ 32768 := by simpa [Ev.within] using h4
          obtain ⟨b11, b12⟩ := b1
          obtain ⟨b21, b22⟩ := b2
          obtain ⟨b31, b32⟩ := b3
          obtain ⟨b41, b42⟩ := b4
          have hr : rectE ⟨x, y, a, b⟩ = if x + a ≤ 16384 ∧ y + b ≤ 16384 then 0 else 5 := by unfold rectE rectOk; simp [h1, h2, h3, h4]
          have HR := Lib.hid hr; clear hr
          go_enter Tryz.func46, Tryz.ntmps46
          go_wp2_with (first | (go_at_call 58; refine (gwithin_any _ _).mono ?_; rintro e w' ⟨rfl, rfl⟩) | (go_at_call 59; refine (gside_any _ _).mono ?_; rintro e w' ⟨rfl, rfl⟩))
          all_goals (
            go_ret
            refine ⟨?_, (Below.refl _ _).alloc (Nat.le_refl _) _⟩
            rw [HR.out]
            first
            | (rw [if_pos (by omega)]; rfl)
            | (rw [if_neg (by omega)]; rfl))
/-- May the size be? -/
def sizedB (a b : Int) : Bool := decide (0 ≤ a ∧ 0 ≤ b ∧ a ≤ 16384 ∧ b ≤ 16384)
theorem sized_any (a b : Int) (w : World) :
    Calls Tryz.prog 13 #[.agg #[.int .i64 a, .int .i64 b]] w fun e w' => e = .returned (.bool (sizedB a b)) ∧ Below w.heap.size w w' := by
  obtain ⟨B, hB⟩ : ∃ B, B = sizedB a b := ⟨_, rfl⟩
  rw [← hB]
  have HB := Lib.hid hB; clear hB
  go_enter Tryz.func13, Tryz.ntmps13
  go_wp2_with fail
  all_goals (
    go_ret
    refine ⟨?_, (Below.refl _ _).alloc (Nat.le_refl _) _⟩
    rw [HB.out]
    first
    | (have e : sizedB a b = decide (max a b ≤ 16384) := by
         unfold sizedB; rw [decide_eq_decide]; omega
       rw [e]; rfl)
    | (have e : sizedB a b = false := by
         unfold sizedB; rw [decide_eq_false_iff_not]; omega
       rw [e]; rfl))
end Go.Proofs.YtemiamajgjfnbaaGreatDoor
