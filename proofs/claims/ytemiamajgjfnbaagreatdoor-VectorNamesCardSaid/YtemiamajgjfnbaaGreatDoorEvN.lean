/- Plain law: how a whole number that strconv reads is the number of the digits. -/
import Derived.Test.YtemiamajgjfnbaaGreatDoorEvG
namespace Go.Proofs.YtemiamajgjfnbaaGreatDoor
open Ev
set_option linter.unusedVariables false
set_option linter.unusedSimpArgs false
def fold10 (acc : Nat) (l : List UInt8) : Nat := l.foldl (fun n b => 10 * n + (b.toNat - 48)) acc
theorem fold10_lt : ∀ (l : List UInt8) (acc : Nat), l.all digB = true → fold10 acc l < (acc + 1) * 10 ^ l.length
  | [], acc, _ => by simp [fold10]
  | b :: r, acc, h => by
    simp only [List.all_cons, Bool.and_eq_true] at h
    have ih := fold10_lt r (10 * acc + (b.toNat - 48)) h.2
    have hb : b.toNat ≤ 57 := by have := h.1; simp [digB] at this; omega
    show fold10 (10 * acc + (b.toNat - 48)) r < _
    refine Nat.lt_of_lt_of_le ih ?_
    rw [List.length_cons, Nat.pow_succ, Nat.mul_comm (10 ^ r.length) 10, ← Nat.mul_assoc]
    exact Nat.mul_le_mul_right _ (by omega)
theorem parse_digits : ∀ (l : List UInt8) (acc : Nat), l.all digB = true → (acc + 1) * 10 ^ l.length ≤ 10 ^ 18 → Lib.parseUint10 acc l = .ok (fold10 acc l)
  | [], acc, _, _ => rfl
  | b :: r, acc, h, hs => by
    simp only [List.all_cons, Bool.and_eq_true] at h
    have h1 : 48 ≤ b.toNat ∧ b.toNat ≤ 57 := by have := h.1; simp [digB] at this; omega
    have hp : 1 ≤ 10 ^ r.length := Nat.one_le_pow _ _ (by decide)
    rw [List.length_cons, Nat.pow_succ, Nat.mul_comm (10 ^ r.length) 10, ← Nat.mul_assoc] at hs
    have h2 : (acc + 1) * 10 ≤ 10 ^ 18 := Nat.le_trans (Nat.le_mul_of_pos_right _ hp) hs
    have h3 : (10 : Nat) ^ 18 = 1000000000000000000 := by decide
    rw [h3] at h2
    unfold Lib.parseUint10
    rw [if_pos h1, if_neg (by omega), if_neg (by omega), Nat.mul_comm acc 10]
    refine (parse_digits r (10 * acc + (b.toNat - 48)) h.2 (Nat.le_trans (Nat.mul_le_mul_right _ (by omega)) hs))
theorem digs_all (l : List UInt8) : (digs l).all digB = true := by
  unfold digs
  rw [List.all_eq_true]
  intro x hx
  have := List.all_takeWhile (p := digB) (l := l.drop (sgn l))
  rw [List.all_eq_true] at this
  exact this x hx
theorem digVal_fold (l : List UInt8) : digVal l = fold10 0 l := rfl
theorem take_num (l : List UInt8) : l.take (sgn l + (digs l).length) = l.take (sgn l) ++ digs l := by
  rw [List.take_add]
  congr 1
  unfold digs
  exact List.prefix_iff_eq_take.1 (List.takeWhile_prefix _) |>.symm
/-- What stands there as a number. -/
def numT (l : List UInt8) : List UInt8 := l.take (sgn l + (digs l).length)
theorem numT_eq (l : List UInt8) : numT l = l.take (sgn l) ++ digs l := take_num l
theorem sgn_cases (l : List UInt8) : (sgn l = 0 ∧ l.take (sgn l) = [] ∧ l.head? ≠ some 45) ∨ (sgn l = 1 ∧ l.take (sgn l) = [45]) := by
  unfold sgn
  by_cases h : l.head? = some 45
  · right
    rw [if_pos h]
    cases l with
    | nil => simp at h
    | cons b r => simp at h; subst h; exact ⟨rfl, rfl⟩
  · left; rw [if_neg h]; exact ⟨rfl, rfl, h⟩
theorem itoa_ne_nil (n : Int) : Lib.itoa n ≠ [] := by
  unfold Lib.itoa
  split
  · simp
  · have := Lib.decDigits_length n.toNat
    have h2 := Lib.nDigits_pos n.toNat
    intro h; rw [h] at this; simp at this; omega
theorem numV_nodigs (l : List UInt8) (h : digs l = []) : numV l = 0 := by
  unfold numV; rw [h]; simp [digVal]
theorem itoa_zero : Lib.itoa 0 = [48] := by
  unfold Lib.itoa
  rw [if_neg (by decide)]
  exact Lib.decDigits_one (by decide)
/-- strconv.Atoi at what stands there, of at most nine digits. -/
theorem atoi_numT (l : List UInt8) (h9 : (digs l).length ≤ 9) : if digs l = [] then atoiOk (numT l) = false else (atoiOk (numT l) = true ∧ atoiV (numT l) = numV l) := by
  have hall := digs_all l
  have hsz : (0 + 1) * 10 ^ (digs l).length ≤ 10 ^ 18 := by
    rw [Nat.zero_add, Nat.one_mul]; exact Nat.pow_le_pow_right (by decide) (by omega)
  have hp := parse_digits (digs l) 0 hall hsz
  have hlt := fold10_lt (digs l) 0 hall
  have hlt2 : fold10 0 (digs l) < 10 ^ 18 := Nat.lt_of_lt_of_le hlt hsz
  have h3 : (10 : Nat) ^ 18 = 1000000000000000000 := by decide
  rw [h3] at hlt2
  unfold atoiOk atoiV
  rw [numT_eq]
  rcases sgn_cases l with ⟨h0, ht, hh⟩ | ⟨h1, ht⟩
  · rw [ht, List.nil_append]
    cases hd : digs l with
    | nil => simp [Lib.atoiAll]
    | cons c r =>
      rw [hd] at hp hall
      simp only [List.all_cons, Bool.and_eq_true] at hall
      have hc : 48 ≤ c.toNat ∧ c.toNat ≤ 57 := by have := hall.1; simp [digB] at this; omega
      rw [if_neg (by simp)]
      have hat : Lib.atoiAll (c :: r) = .ok (fold10 0 (c :: r) : Int) := by
        unfold Lib.atoiAll
        simp only
        rw [if_neg (by omega)]
        unfold Lib.parseMag
        rw [if_neg (by simp), hp]
        simp only
        rw [hd] at hlt2
        rw [if_neg (by omega), if_neg (by omega), if_neg (by omega)]
      rw [hat]
      refine ⟨rfl, ?_⟩
      simp only [numV, hd, h0]
      rw [if_neg (by decide)]
      rfl
  · rw [ht]
    cases hd : digs l with
    | nil => simp [Lib.atoiAll, Lib.parseMag]
    | cons c r =>
      rw [hd] at hp
      rw [if_neg (by simp)]
      have hat : Lib.atoiAll ([45] ++ (c :: r)) = .ok (-(fold10 0 (c :: r) : Int)) := by
        show Lib.atoiAll (45 :: (c :: r)) = _
        unfold Lib.atoiAll
        simp only
        rw [if_pos (by decide)]
        unfold Lib.parseMag
        rw [if_neg (by simp), hp]
        simp only
        rw [hd] at hlt2
        rw [if_neg (by simp), if_neg (by omega), if_pos (by decide)]
      rw [hat]
      refine ⟨rfl, ?_⟩
      simp only [numV, hd, h1]
      rw [if_pos trivial]
      rfl
theorem numAt_nodigs (l : List UInt8) (h : digs l = []) : numAt l = none := by
  unfold numAt
  rw [if_neg]
  rintro ⟨_, h2⟩
  rw [numV_nodigs l h, itoa_zero, take_num, h, List.append_nil] at h2
  rcases sgn_cases l with ⟨_, ht, _⟩ | ⟨_, ht⟩ <;> rw [ht] at h2 <;> simp at h2
/-- The number read, as event's package tests it. -/
theorem numAt_long (l : List UInt8) (h : 9 < (digs l).length) : numAt l = none := by unfold numAt; rw [if_neg (by omega)]
theorem numAt_noatoi (l : List UInt8) (h9 : (digs l).length ≤ 9) (h : atoiOk (numT l) = false) : numAt l = none := by
  have := atoi_numT l h9
  by_cases hd : digs l = []
  · exact numAt_nodigs l hd
  · rw [if_neg hd] at this; rw [this.1] at h; cases h
theorem numAt_atoi (l : List UInt8) (h9 : (digs l).length ≤ 9) (h : atoiOk (numT l) = true) :
    atoiV (numT l) = numV l ∧ numAt l = if Lib.itoa (numV l) = numT l then some (numV l, sgn l + (digs l).length) else none := by
  have := atoi_numT l h9
  by_cases hd : digs l = []
  · rw [if_pos hd] at this; rw [this] at h; cases h
  · rw [if_neg hd] at this
    refine ⟨this.2, ?_⟩
    unfold numAt numT
    by_cases hi : Lib.itoa (numV l) = l.take (sgn l + (digs l).length)
    · rw [if_pos ⟨h9, hi⟩, if_pos hi]
    · rw [if_neg (fun h => hi h.2), if_neg hi]
theorem numV_bounds (l : List UInt8) (h9 : (digs l).length ≤ 9) : -1000000000 < numV l ∧ numV l < 1000000000 := by
  have hlt := fold10_lt (digs l) 0 (digs_all l)
  have : 10 ^ (digs l).length ≤ 10 ^ 9 := Nat.pow_le_pow_right (by decide) h9
  have h3 : (10 : Nat) ^ 9 = 1000000000 := by decide
  rw [h3] at this
  rw [Nat.zero_add, Nat.one_mul] at hlt
  have hv : digVal (digs l) < 1000000000 := Nat.lt_of_lt_of_le hlt this
  unfold numV
  split <;> omega

end Go.Proofs.YtemiamajgjfnbaaGreatDoor
