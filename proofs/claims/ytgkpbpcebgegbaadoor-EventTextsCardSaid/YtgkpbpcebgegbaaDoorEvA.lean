/- Small functions of the events: what each call returns. -/
import Derived.Test.YtgkpbpcebgegbaaDoorEvG
namespace Go.Proofs.YtgkpbpcebgegbaaDoor
open Go.RowKit Ev
set_option linter.unusedVariables false
set_option linter.unusedSimpArgs false

set_option maxHeartbeats 400000 in
theorem within_any (n lo hi : Int) (w : World) :
    Calls Tryd.prog 27 #[.int .i64 n, .int .i64 lo, .int .i64 hi] w fun e w' => e = .returned (.bool (within n lo hi)) ∧ w = w' := by
  by_cases h : lo ≤ n
  · have hd : decide (lo ≤ n) = true := decide_eq_true h
    go_enter Tryd.func27, Tryd.ntmps27
    go_wp2
    go_ret
    exact ⟨by simp [within, hd], rfl⟩
  · have hd : decide (lo ≤ n) = false := decide_eq_false h
    go_enter Tryd.func27, Tryd.ntmps27
    go_wp2
    go_ret
    exact ⟨by simp [within, hd], rfl⟩

set_option maxHeartbeats 400000 in
theorem plain_any (b : Int) (w : World) :
    Calls Tryd.prog 32 #[.int .u8 b] w fun e w' => e = .returned (.bool (plainI b)) ∧ w = w' := by
  by_cases h : 32 < b
  · by_cases h2 : b < 127
    · go_enter Tryd.func32, Tryd.ntmps32
      go_wp2
      go_ret
      exact ⟨by simp [plainI, h, h2], rfl⟩
    · have hd : decide (b < 127) = false := decide_eq_false h2
      go_enter Tryd.func32, Tryd.ntmps32
      go_wp2
      go_ret
      exact ⟨by simp [plainI, hd], rfl⟩
  · have hd : decide (32 < b) = false := decide_eq_false h
    go_enter Tryd.func32, Tryd.ntmps32
    go_wp2
    go_ret
    exact ⟨by simp [plainI, hd], rfl⟩

theorem words_any (w : World) :
    Calls Tryd.prog 10 #[] w fun e w' => e = .returned (.slice (some ⟨w.heap.size, 0, none⟩) 10 10) ∧ w' = w.alloc (.cells (words.map fun l => Value.string ⟨l.toArray⟩).toArray 9) := by
  go_enter Tryd.func10, Tryd.ntmps10
  go_wp2
  go_ret
  exact ⟨rfl, rfl⟩

end Go.Proofs.YtgkpbpcebgegbaaDoor
