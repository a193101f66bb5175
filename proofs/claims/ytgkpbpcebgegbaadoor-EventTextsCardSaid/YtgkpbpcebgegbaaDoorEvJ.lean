/- The answer's Check: its plain law. -/
import Derived.Test.YtgkpbpcebgegbaaDoorEvH
namespace Go.Proofs.YtgkpbpcebgegbaaDoor
open Go.RowKit Ev
set_option linter.unusedVariables false
set_option linter.unusedSimpArgs false
/-- What is asked of a kind besides. -/
def condE (e : E) : Bool :=
  if e.kind = 1 then within e.name.length 1 64 && Lib.validD e.name && decide (e.mods ≤ 7)
  else if e.kind = 2 then within e.text.length 1 65536
  else if e.kind = 3 then within e.n 1 3
  else if e.kind = 4 then within e.n 1 3
  else if e.kind = 5 then true
  else if e.kind = 6 then decide (e.n ≠ 0) && within e.n (-16384) 16384
  else if e.kind = 7 then within e.n 1 1048576
  else if e.kind = 8 then within e.sw 0 32768 && within e.sh 0 32768
  else if e.kind = 9 then within e.text.length 1 64
  else if e.kind = 10 then within e.text.length 1 64
  else false
theorem chk_kept (e : E) : chk e = ((decide (keptE e = e) && (within e.ax (-16384) 16384 && within e.ay (-16384) 16384)) && condE e) := by
  have hs : ∀ a b : E, decide (a = b) = decide (b = a) := fun a b => by simp [eq_comm]
  by_cases h1 : e.kind = 1
  · simp only [chk, keptE, condE, h1, if_true]; rw [hs e]; simp only [Bool.and_comm, Bool.and_left_comm, Bool.and_assoc]
  by_cases h2 : e.kind = 2
  · simp only [chk, keptE, condE, h2, if_true, Int.reduceEq, if_false, true_or, or_true, false_or, or_false]; rw [hs e]; simp [Bool.and_comm, Bool.and_left_comm, Bool.and_assoc]
  by_cases h3 : e.kind = 3
  · simp only [chk, keptE, condE, h3, if_true, Int.reduceEq, if_false, true_or, or_true, false_or, or_false]; rw [hs e]; simp [Bool.and_comm, Bool.and_left_comm, Bool.and_assoc]
  by_cases h4 : e.kind = 4
  · simp only [chk, keptE, condE, h4, if_true, Int.reduceEq, if_false, true_or, or_true, false_or, or_false]; rw [hs e]; simp [Bool.and_comm, Bool.and_left_comm, Bool.and_assoc]
  by_cases h5 : e.kind = 5
  · simp only [chk, keptE, condE, h5, if_true, Int.reduceEq, if_false, true_or, or_true, false_or, or_false]; rw [hs e]; simp [Bool.and_comm, Bool.and_left_comm, Bool.and_assoc]
  by_cases h6 : e.kind = 6
  · simp only [chk, keptE, condE, h6, if_true, Int.reduceEq, if_false, true_or, or_true, false_or, or_false]; rw [hs e]; simp [Bool.and_comm, Bool.and_left_comm, Bool.and_assoc]
  by_cases h7 : e.kind = 7
  · simp only [chk, keptE, condE, h7, if_true, Int.reduceEq, if_false, true_or, or_true, false_or, or_false]; rw [hs e]; simp [Bool.and_comm, Bool.and_left_comm, Bool.and_assoc]
  by_cases h8 : e.kind = 8
  · simp only [chk, keptE, condE, h8, if_true, Int.reduceEq, if_false, true_or, or_true, false_or, or_false]; rw [hs e]; simp [Bool.and_comm, Bool.and_left_comm, Bool.and_assoc]
  by_cases h9 : e.kind = 9
  · simp only [chk, keptE, condE, h9, if_true, Int.reduceEq, if_false, true_or, or_true, false_or, or_false]; rw [hs e]; simp [Bool.and_comm, Bool.and_left_comm, Bool.and_assoc]
  by_cases h10 : e.kind = 10
  · simp only [chk, keptE, condE, h10, if_true, Int.reduceEq, if_false, true_or, or_true, false_or, or_false]; rw [hs e]; simp [Bool.and_comm, Bool.and_left_comm, Bool.and_assoc]
  simp [chk, condE, h1, h2, h3, h4, h5, h6, h7, h8, h9, h10]
end Go.Proofs.YtgkpbpcebgegbaaDoor
