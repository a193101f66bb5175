/- The document's answer: the kinds' words; the reader's kind. -/
import Derived.Test.YtgkpbpcebgegbaaDoorEvW
import Derived.Test.YtgkpbpcebgegbaaDoorEvP
import Derived.Deep.RegionHeld3
namespace Go.Proofs.YtgkpbpcebgegbaaDoor
open Go.RowKit Ev
set_option linter.unusedVariables false
set_option linter.unusedSimpArgs false

theorem wordq_1 (w : World) : Calls Tryd.prog 15 #[.int .u8 1] w fun e w' => e = .returned (.string ⟨#[107, 101, 121]⟩) ∧ Below w.heap.size w w' := by
  go_enter Tryd.func15, Tryd.ntmps15
  go_wp2
  go_ret
  exact ⟨rfl, (Below.refl _ _).alloc (Nat.le_refl _) _⟩
theorem wordq_2 (w : World) : Calls Tryd.prog 15 #[.int .u8 2] w fun e w' => e = .returned (.string ⟨#[116, 101, 120, 116]⟩) ∧ Below w.heap.size w w' := by
  go_enter Tryd.func15, Tryd.ntmps15
  go_wp2
  go_ret
  exact ⟨rfl, (Below.refl _ _).alloc (Nat.le_refl _) _⟩
theorem wordq_3 (w : World) : Calls Tryd.prog 15 #[.int .u8 3] w fun e w' => e = .returned (.string ⟨#[100, 111, 119, 110]⟩) ∧ Below w.heap.size w w' := by
  go_enter Tryd.func15, Tryd.ntmps15
  go_wp2
  go_ret
  exact ⟨rfl, (Below.refl _ _).alloc (Nat.le_refl _) _⟩
theorem wordq_4 (w : World) : Calls Tryd.prog 15 #[.int .u8 4] w fun e w' => e = .returned (.string ⟨#[117, 112]⟩) ∧ Below w.heap.size w w' := by
  go_enter Tryd.func15, Tryd.ntmps15
  go_wp2
  go_ret
  exact ⟨rfl, (Below.refl _ _).alloc (Nat.le_refl _) _⟩
theorem wordq_5 (w : World) : Calls Tryd.prog 15 #[.int .u8 5] w fun e w' => e = .returned (.string ⟨#[109, 111, 118, 101]⟩) ∧ Below w.heap.size w w' := by
  go_enter Tryd.func15, Tryd.ntmps15
  go_wp2
  go_ret
  exact ⟨rfl, (Below.refl _ _).alloc (Nat.le_refl _) _⟩
theorem wordq_6 (w : World) : Calls Tryd.prog 15 #[.int .u8 6] w fun e w' => e = .returned (.string ⟨#[119, 104, 101, 101, 108]⟩) ∧ Below w.heap.size w w' := by
  go_enter Tryd.func15, Tryd.ntmps15
  go_wp2
  go_ret
  exact ⟨rfl, (Below.refl _ _).alloc (Nat.le_refl _) _⟩
theorem wordq_7 (w : World) : Calls Tryd.prog 15 #[.int .u8 7] w fun e w' => e = .returned (.string ⟨#[116, 105, 99, 107]⟩) ∧ Below w.heap.size w w' := by
  go_enter Tryd.func15, Tryd.ntmps15
  go_wp2
  go_ret
  exact ⟨rfl, (Below.refl _ _).alloc (Nat.le_refl _) _⟩
theorem wordq_8 (w : World) : Calls Tryd.prog 15 #[.int .u8 8] w fun e w' => e = .returned (.string ⟨#[114, 101, 115, 105, 122, 101]⟩) ∧ Below w.heap.size w w' := by
  go_enter Tryd.func15, Tryd.ntmps15
  go_wp2
  go_ret
  exact ⟨rfl, (Below.refl _ _).alloc (Nat.le_refl _) _⟩
theorem wordq_9 (w : World) : Calls Tryd.prog 15 #[.int .u8 9] w fun e w' => e = .returned (.string ⟨#[100, 114, 97, 103]⟩) ∧ Below w.heap.size w w' := by
  go_enter Tryd.func15, Tryd.ntmps15
  go_wp2
  go_ret
  exact ⟨rfl, (Below.refl _ _).alloc (Nat.le_refl _) _⟩
theorem wordq_10 (w : World) : Calls Tryd.prog 15 #[.int .u8 10] w fun e w' => e = .returned (.string ⟨#[100, 114, 111, 112]⟩) ∧ Below w.heap.size w w' := by
  go_enter Tryd.func15, Tryd.ntmps15
  go_wp2
  go_ret
  exact ⟨rfl, (Below.refl _ _).alloc (Nat.le_refl _) _⟩
/-- A kind's word. -/
def wordB (k : Nat) : Bytes := words.getD (k - 1) []
theorem wordq_any (k : Nat) (h1 : 1 ≤ k) (h10 : k ≤ 10) (w : World) :
    Calls Tryd.prog 15 #[.int .u8 (k : Int)] w fun e w' => e = .returned (.string (bt (wordB k))) ∧ Below w.heap.size w w' := by
  have : k = 1 ∨ k = 2 ∨ k = 3 ∨ k = 4 ∨ k = 5 ∨ k = 6 ∨ k = 7 ∨ k = 8 ∨ k = 9 ∨ k = 10 := by omega
  rcases this with rfl | rfl | rfl | rfl | rfl | rfl | rfl | rfl | rfl | rfl
  · exact wordq_1 w
  · exact wordq_2 w
  · exact wordq_3 w
  · exact wordq_4 w
  · exact wordq_5 w
  · exact wordq_6 w
  · exact wordq_7 w
  · exact wordq_8 w
  · exact wordq_9 w
  · exact wordq_10 w

theorem tw_lt (p : UInt8 → Bool) : ∀ (l : List UInt8) (k : Nat), k < (l.takeWhile p).length → ∃ h : k < l.length, p l[k] = true
  | [], k, h => by simp at h
  | b :: r, k, h => by
    rw [List.takeWhile_cons] at h
    by_cases hb : p b = true
    · rw [if_pos hb] at h
      cases k with
      | zero => exact ⟨by simp, hb⟩
      | succ k =>
        obtain ⟨h1, h2⟩ := tw_lt p r k (by simpa using h)
        exact ⟨by simpa using h1, by simpa using h2⟩
    · rw [if_neg hb] at h; simp at h
theorem tw_end (p : UInt8 → Bool) : ∀ (l : List UInt8) (h : (l.takeWhile p).length < l.length), p (l[(l.takeWhile p).length]'h) = false
  | [], h => by simp at h
  | b :: r, h => by
    by_cases hb : p b = true
    · have e : ((b :: r).takeWhile p).length = (r.takeWhile p).length + 1 := by rw [List.takeWhile_cons, if_pos hb]; rfl
      have h2 : (r.takeWhile p).length < r.length := by rw [e] at h; simpa using h
      have := tw_end p r h2
      simp only [e, List.getElem_cons_succ]
      exact this
    · have e : ((b :: r).takeWhile p).length = 0 := by rw [List.takeWhile_cons, if_neg hb]; rfl
      simp only [e, List.getElem_cons_zero]
      simpa using hb
theorem tw_le (p : UInt8 → Bool) (l : List UInt8) : (l.takeWhile p).length ≤ l.length := (List.takeWhile_sublist p).length_le
theorem kindOf_at (P : Bytes) (k : Nat) (h1 : 1 ≤ k) (h10 : k ≤ 10) (hne : ∀ m, 1 ≤ m → m < k → wordB m ≠ P) (he : wordB k = P) : kindOf P = k := by
  subst he
  have : k = 1 ∨ k = 2 ∨ k = 3 ∨ k = 4 ∨ k = 5 ∨ k = 6 ∨ k = 7 ∨ k = 8 ∨ k = 9 ∨ k = 10 := by omega
  rcases this with rfl | rfl | rfl | rfl | rfl | rfl | rfl | rfl | rfl | rfl <;> decide
theorem kindOf_none (P : Bytes) (hne : ∀ m, 1 ≤ m → m < 11 → wordB m ≠ P) : kindOf P = 0 := by
  unfold kindOf
  rw [if_neg]
  intro h
  have : P = wordB 1 ∨ P = wordB 2 ∨ P = wordB 3 ∨ P = wordB 4 ∨ P = wordB 5 ∨ P = wordB 6 ∨ P = wordB 7 ∨ P = wordB 8 ∨ P = wordB 9 ∨ P = wordB 10 := by
    simpa [words, wordB] using h
  rcases this with h | h | h | h | h | h | h | h | h | h
  · exact hne 1 (by omega) (by omega) h.symm
  · exact hne 2 (by omega) (by omega) h.symm
  · exact hne 3 (by omega) (by omega) h.symm
  · exact hne 4 (by omega) (by omega) h.symm
  · exact hne 5 (by omega) (by omega) h.symm
  · exact hne 6 (by omega) (by omega) h.symm
  · exact hne 7 (by omega) (by omega) h.symm
  · exact hne 8 (by omega) (by omega) h.symm
  · exact hne 9 (by omega) (by omega) h.symm
  · exact hne 10 (by omega) (by omega) h.symm
end Go.Proofs.YtgkpbpcebgegbaaDoor
