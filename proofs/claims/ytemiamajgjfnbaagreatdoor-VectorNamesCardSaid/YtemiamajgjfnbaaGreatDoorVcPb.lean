/- Plain law of vector texts: what Text and Read hand back, and that a text read is what is written. No program is walked here. -/
import Derived.Test.YtemiamajgjfnbaaGreatDoorVcPa
import Derived.Test.YtemiamajgjfnbaaGreatDoorVcR
namespace Go.Proofs.YtemiamajgjfnbaaGreatDoor
open Vc
set_option linter.unusedVariables false
set_option linter.unusedSimpArgs false
def stepO (x : S) (o : Int) : Int := if x.kind = 4 then o + 1 else if x.kind = 5 then o - 1 else o
/-- What is wrong with a list, clips open. -/
def checkL : List S → Int → Int
  | [], o => if 0 < o then 130 else 0
  | x :: r, o => if mayE x = 0 then (if stepO x o < 0 then 130 else checkL r (stepO x o)) else mayE x
def checkE (l : List S) : Int := if 16384 < l.length then 4 else checkL l 0
theorem checkL_all : ∀ (l : List S) (o : Int), checkL l o = 0 → ∀ x ∈ l, mayE x = 0
  | [], _, _, x, h => by cases h
  | y :: r, o, h, x, hx => by
    unfold checkL at h
    by_cases hy : mayE y = 0
    · rw [if_pos hy] at h
      by_cases ho : stepO y o < 0
      · rw [if_pos ho] at h; cases h
      · rw [if_neg ho] at h
        rcases List.mem_cons.1 hx with rfl | hx
        · exact hy
        · exact checkL_all r _ h x hx
    · rw [if_neg hy] at h; exact absurd h hy
theorem checkE_all (l : List S) (h : checkE l = 0) : ∀ x ∈ l, mayE x = 0 := by
  unfold checkE at h
  by_cases hl : 16384 < l.length
  · rw [if_pos hl] at h; cases h
  · rw [if_neg hl] at h; exact checkL_all l 0 h
/-- A list as a text of shapes: the text, the error. -/
def textP (l : List S) (a b : Int) : Bytes × Int :=
  if checkE l = 0 then (if sizedB a b = true then (if (allB l a b).length ≤ 65536 then (allB l a b, 0) else ([], 3)) else ([], 9)) else ([], checkE l)
/-- A text of shapes read: the list, the size, the place, the error. -/
def readP (l : Bytes) : List S × (Int × Int) × Int × Int :=
  if 65536 < l.length then ([], (0, 0), 0, 3)
  else match (scanS l).2.2 with
    | .bad p => ([], (0, 0), (p : Int), 160)
    | .ok _ => if sizedB (scanS l).2.1.1 (scanS l).2.1.2 = true then (if checkE (scanS l).1 = 0 then ((scanS l).1, (scanS l).2.1, 0, 0) else ([], (0, 0), 0, checkE (scanS l).1)) else ([], (0, 0), 0, 9)
/-- What is read is what is written; what is not has a place within. -/
theorem one_law (l : Bytes) : (¬ (readP l).2.2.2 = 0 ∧ 0 ≤ (readP l).2.2.1 ∧ (readP l).2.2.1 ≤ l.length ∧ (readP l).1 = [] ∧ (readP l).2.1 = (0, 0)) ∨ ((readP l).2.2.2 = 0 ∧ textP (readP l).1 (readP l).2.1.1 (readP l).2.1.2 = (l, 0) ∧ (readP l).2.2.1 = 0) := by
  unfold readP
  by_cases h0 : 65536 < l.length
  · rw [if_pos h0]; left; exact ⟨by decide, by decide, by simp, rfl, rfl⟩
  · rw [if_neg h0]
    cases hs : (scanS l).2.2 with
    | bad p =>
      left
      have hi : In l.length (scanS l).2.2 := scan_within
      rw [hs] at hi
      have hi' : p ≤ l.length := hi
      exact ⟨by simp, by simp, by simp only; omega, rfl, rfl⟩
    | ok b =>
      simp only
      by_cases h1 : sizedB (scanS l).2.1.1 (scanS l).2.1.2 = true
      · rw [if_pos h1]
        by_cases h2 : checkE (scanS l).1 = 0
        · rw [if_pos h2]
          right
          refine ⟨rfl, ?_, rfl⟩
          have ht := scan_tk hs
          simp only
          unfold textP
          rw [if_pos h2, if_pos h1, ht, if_pos (by omega)]
        · rw [if_neg h2]
          left; exact ⟨h2, by simp, by simp, rfl, rfl⟩
      · rw [if_neg h1]
        left; exact ⟨by simp, by simp, by simp, rfl, rfl⟩
/-! ### The closed examples -/
def redF : S := ⟨1, ⟨-1, 0, 4, 4⟩, ⟨255, 0, 0, 255⟩, C0, [], 2⟩
def aliveT : Bytes := allB [redF] 8 3
theorem alive_text : textP [redF] 8 3 = (aliveT, 0) := by
  unfold textP
  rw [if_pos (by decide +kernel), if_pos (by decide +kernel), if_pos (by decide +kernel)]
  rfl
theorem alive_read : readP aliveT = ([redF], (8, 3), 0, 0) := by decide +kernel
end Go.Proofs.YtemiamajgjfnbaaGreatDoor
