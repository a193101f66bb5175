/- list.may: may a stroke be? -/
import Derived.Test.YtemiamajgjfnbaaGreatDoorVcT
import Derived.DeepKeys
namespace Go.Proofs.YtemiamajgjfnbaaGreatDoor
open Go.RowKit Vc
set_option linter.unusedVariables false
set_option linter.unusedSimpArgs false
/-- May a stroke's number and text be? -/
def numOk (x : S) : Bool := decide (0 ≤ x.n) && decide (x.n ≤ 1048576) && decide (x.t.length ≤ 65536)
def kindOk (x : S) : Bool :=
  if x.kind = 3 then true
  else if x.kind = 1 ∨ x.kind = 2 then decide (x.t = []) && decide (x.d = C0)
  else if x.kind = 4 then decide (x.c = C0 ∧ x.d = C0 ∧ x.t = [])
  else if x.kind = 5 then decide (x.r = R0 ∧ x.c = C0 ∧ x.d = C0 ∧ x.t = [])
  else false
def mayE (x : S) : Int := if (numOk x && kindOk x) = true then rectE x.r else 2
theorem bt_size (t : Bytes) : (bt t).size = t.length := by simp [bt, ByteArray.size]
theorem bt_list (t : Bytes) : (bt t).toList = t := by rw [Lib.toList_data]; simp [bt]
theorem u8_zero (b : UInt8) : b = 0 ↔ b.toNat = 0 := ⟨fun h => by rw [h]; rfl, fun h => UInt8.toNat_inj.1 h⟩
theorem c0_iff (c : C) : c = C0 ↔ (c.r.toNat = 0 ∧ c.g.toNat = 0 ∧ c.b.toNat = 0 ∧ c.a.toNat = 0) := by
  obtain ⟨r, g, b, a⟩ := c
  unfold C0
  simp only [C.mk.injEq, u8_zero]
theorem r0_iff (r : R) : r = R0 ↔ (r.x = 0 ∧ r.y = 0 ∧ r.w = 0 ∧ r.h = 0) := by
  obtain ⟨x, y, a, b⟩ := r
  unfold R0
  simp only [R.mk.injEq]
theorem numOk_iff (k : Int) (r : R) (c d : C) (t : Bytes) (n : Int) : numOk ⟨k, r, c, d, t, n⟩ = true ↔ (0 ≤ n ∧ n ≤ 1048576 ∧ ((bt t).size : Int) ≤ 65536) := by
  rw [bt_size]; simp [numOk, and_assoc]; omega
set_option maxHeartbeats 1000000 in
set_option maxRecDepth 20000 in
theorem may_3 (r : R) (c d : C) (t : Bytes) (n : Int) (w : World) :
    Calls Tryz.prog 30 #[SV ⟨3, r, c, d, t, n⟩] w fun e w' => e = .returned (.int .i64 (mayE ⟨3, r, c, d, t, n⟩)) ∧ Below w.heap.size w w' := by
  obtain ⟨T, hT⟩ : ∃ T, T = bt t := ⟨_, rfl⟩
  have hm : mayE ⟨3, r, c, d, t, n⟩ = if (0 ≤ n ∧ n ≤ 1048576 ∧ (T.size : Int) ≤ 65536 ∧ True) then rectE r else 2 := by
    have hk : kindOk ⟨3, r, c, d, t, n⟩ = true ↔ (True) := by
      simp [kindOk]
    have hn := numOk_iff 3 r c d t n
    rw [← hT] at hn
    unfold mayE
    congr 1
    rw [Bool.and_eq_true, hn, hk]
    simp only [and_assoc]
  have HM := Lib.hid hm; clear hm
  unfold SV SC
  simp only
  rw [← hT]
  have HT := Lib.hid hT; clear hT
  by_cases k1 : 0 ≤ n
  · by_cases k2 : n ≤ 1048576
    · by_cases k3 : (T.size : Int) ≤ 65536
      · go_enter Tryz.func30, Tryz.ntmps30
        go_wp2_with (go_at_call 46; refine (geom_any r _).mono ?_; rintro e w' ⟨rfl, hb⟩; have HB := Lib.hid hb; clear hb)
        all_goals (
          go_ret
          first
          | (refine ⟨by rw [HM.out, if_pos (by (repeat' apply And.intro) <;> first | assumption | trivial)]; rfl, ?_⟩; exact ((Below.refl _ _).alloc (Nat.le_refl _) _).trans (HB.out.mono (by simp)))
          | (refine ⟨by rw [HM.out, if_neg (by rintro ⟨f1, f2, f3, hh⟩; omega)]; rfl, ?_⟩; exact (Below.refl _ _).alloc (Nat.le_refl _) _))
      · go_enter Tryz.func30, Tryz.ntmps30
        go_wp2_with fail
        all_goals (
          go_ret
          first
          | (refine ⟨by rw [HM.out, if_pos (by (repeat' apply And.intro) <;> first | assumption | trivial)]; rfl, ?_⟩; exact ((Below.refl _ _).alloc (Nat.le_refl _) _).trans (HB.out.mono (by simp)))
          | (refine ⟨by rw [HM.out, if_neg (by rintro ⟨f1, f2, f3, hh⟩; omega)]; rfl, ?_⟩; exact (Below.refl _ _).alloc (Nat.le_refl _) _))
    · go_enter Tryz.func30, Tryz.ntmps30
      go_wp2_with fail
      all_goals (
        go_ret
        first
        | (refine ⟨by rw [HM.out, if_pos (by (repeat' apply And.intro) <;> first | assumption | trivial)]; rfl, ?_⟩; exact ((Below.refl _ _).alloc (Nat.le_refl _) _).trans (HB.out.mono (by simp)))
        | (refine ⟨by rw [HM.out, if_neg (by rintro ⟨f1, f2, f3, hh⟩; omega)]; rfl, ?_⟩; exact (Below.refl _ _).alloc (Nat.le_refl _) _))
  · go_enter Tryz.func30, Tryz.ntmps30
    go_wp2_with fail
    all_goals (
      go_ret
      first
      | (refine ⟨by rw [HM.out, if_pos (by (repeat' apply And.intro) <;> first | assumption | trivial)]; rfl, ?_⟩; exact ((Below.refl _ _).alloc (Nat.le_refl _) _).trans (HB.out.mono (by simp)))
      | (refine ⟨by rw [HM.out, if_neg (by rintro ⟨f1, f2, f3, hh⟩; omega)]; rfl, ?_⟩; exact (Below.refl _ _).alloc (Nat.le_refl _) _))
set_option maxHeartbeats 1000000 in
set_option maxRecDepth 20000 in
theorem may_1 (r : R) (c d : C) (t : Bytes) (n : Int) (w : World) :
    Calls Tryz.prog 30 #[SV ⟨1, r, c, d, t, n⟩] w fun e w' => e = .returned (.int .i64 (mayE ⟨1, r, c, d, t, n⟩)) ∧ Below w.heap.size w w' := by
  obtain ⟨T, hT⟩ : ∃ T, T = bt t := ⟨_, rfl⟩
  have hm : mayE ⟨1, r, c, d, t, n⟩ = if (0 ≤ n ∧ n ≤ 1048576 ∧ (T.size : Int) ≤ 65536 ∧ T.toList = [] ∧ d.r.toNat = 0 ∧ d.g.toNat = 0 ∧ d.b.toNat = 0 ∧ d.a.toNat = 0) then rectE r else 2 := by
    have hk : kindOk ⟨1, r, c, d, t, n⟩ = true ↔ (T.toList = [] ∧ d.r.toNat = 0 ∧ d.g.toNat = 0 ∧ d.b.toNat = 0 ∧ d.a.toNat = 0) := by
      rw [hT, bt_list]; simp [kindOk, c0_iff, r0_iff, and_assoc]
    have hn := numOk_iff 1 r c d t n
    rw [← hT] at hn
    unfold mayE
    congr 1
    rw [Bool.and_eq_true, hn, hk]
    simp only [and_assoc]
  have HM := Lib.hid hm; clear hm
  unfold SV SC
  simp only
  rw [← hT]
  have HT := Lib.hid hT; clear hT
  by_cases k1 : 0 ≤ n
  · by_cases k2 : n ≤ 1048576
    · by_cases k3 : (T.size : Int) ≤ 65536
      · go_enter Tryz.func30, Tryz.ntmps30
        go_wp2_with (go_at_call 46; refine (geom_any r _).mono ?_; rintro e w' ⟨rfl, hb⟩; have HB := Lib.hid hb; clear hb)
        all_goals (
          go_ret
          first
          | (refine ⟨by rw [HM.out, if_pos (by (repeat' apply And.intro) <;> first | assumption | trivial)]; rfl, ?_⟩; exact ((Below.refl _ _).alloc (Nat.le_refl _) _).trans (HB.out.mono (by simp)))
          | (refine ⟨by rw [HM.out, if_neg (by rintro ⟨f1, f2, f3, hh⟩; rcases hh with ⟨e0, e1, e2, e3, e4⟩; first | contradiction | omega)]; rfl, ?_⟩; exact (Below.refl _ _).alloc (Nat.le_refl _) _))
      · go_enter Tryz.func30, Tryz.ntmps30
        go_wp2_with fail
        all_goals (
          go_ret
          first
          | (refine ⟨by rw [HM.out, if_pos (by (repeat' apply And.intro) <;> first | assumption | trivial)]; rfl, ?_⟩; exact ((Below.refl _ _).alloc (Nat.le_refl _) _).trans (HB.out.mono (by simp)))
          | (refine ⟨by rw [HM.out, if_neg (by rintro ⟨f1, f2, f3, hh⟩; omega)]; rfl, ?_⟩; exact (Below.refl _ _).alloc (Nat.le_refl _) _))
    · go_enter Tryz.func30, Tryz.ntmps30
      go_wp2_with fail
      all_goals (
        go_ret
        first
        | (refine ⟨by rw [HM.out, if_pos (by (repeat' apply And.intro) <;> first | assumption | trivial)]; rfl, ?_⟩; exact ((Below.refl _ _).alloc (Nat.le_refl _) _).trans (HB.out.mono (by simp)))
        | (refine ⟨by rw [HM.out, if_neg (by rintro ⟨f1, f2, f3, hh⟩; omega)]; rfl, ?_⟩; exact (Below.refl _ _).alloc (Nat.le_refl _) _))
  · go_enter Tryz.func30, Tryz.ntmps30
    go_wp2_with fail
    all_goals (
      go_ret
      first
      | (refine ⟨by rw [HM.out, if_pos (by (repeat' apply And.intro) <;> first | assumption | trivial)]; rfl, ?_⟩; exact ((Below.refl _ _).alloc (Nat.le_refl _) _).trans (HB.out.mono (by simp)))
      | (refine ⟨by rw [HM.out, if_neg (by rintro ⟨f1, f2, f3, hh⟩; omega)]; rfl, ?_⟩; exact (Below.refl _ _).alloc (Nat.le_refl _) _))
set_option maxHeartbeats 1000000 in
set_option maxRecDepth 20000 in
theorem may_2 (r : R) (c d : C) (t : Bytes) (n : Int) (w : World) :
    Calls Tryz.prog 30 #[SV ⟨2, r, c, d, t, n⟩] w fun e w' => e = .returned (.int .i64 (mayE ⟨2, r, c, d, t, n⟩)) ∧ Below w.heap.size w w' := by
  obtain ⟨T, hT⟩ : ∃ T, T = bt t := ⟨_, rfl⟩
  have hm : mayE ⟨2, r, c, d, t, n⟩ = if (0 ≤ n ∧ n ≤ 1048576 ∧ (T.size : Int) ≤ 65536 ∧ T.toList = [] ∧ d.r.toNat = 0 ∧ d.g.toNat = 0 ∧ d.b.toNat = 0 ∧ d.a.toNat = 0) then rectE r else 2 := by
    have hk : kindOk ⟨2, r, c, d, t, n⟩ = true ↔ (T.toList = [] ∧ d.r.toNat = 0 ∧ d.g.toNat = 0 ∧ d.b.toNat = 0 ∧ d.a.toNat = 0) := by
      rw [hT, bt_list]; simp [kindOk, c0_iff, r0_iff, and_assoc]
    have hn := numOk_iff 2 r c d t n
    rw [← hT] at hn
    unfold mayE
    congr 1
    rw [Bool.and_eq_true, hn, hk]
    simp only [and_assoc]
  have HM := Lib.hid hm; clear hm
  unfold SV SC
  simp only
  rw [← hT]
  have HT := Lib.hid hT; clear hT
  by_cases k1 : 0 ≤ n
  · by_cases k2 : n ≤ 1048576
    · by_cases k3 : (T.size : Int) ≤ 65536
      · go_enter Tryz.func30, Tryz.ntmps30
        go_wp2_with (go_at_call 46; refine (geom_any r _).mono ?_; rintro e w' ⟨rfl, hb⟩; have HB := Lib.hid hb; clear hb)
        all_goals (
          go_ret
          first
          | (refine ⟨by rw [HM.out, if_pos (by (repeat' apply And.intro) <;> first | assumption | trivial)]; rfl, ?_⟩; exact ((Below.refl _ _).alloc (Nat.le_refl _) _).trans (HB.out.mono (by simp)))
          | (refine ⟨by rw [HM.out, if_neg (by rintro ⟨f1, f2, f3, hh⟩; rcases hh with ⟨e0, e1, e2, e3, e4⟩; first | contradiction | omega)]; rfl, ?_⟩; exact (Below.refl _ _).alloc (Nat.le_refl _) _))
      · go_enter Tryz.func30, Tryz.ntmps30
        go_wp2_with fail
        all_goals (
          go_ret
          first
          | (refine ⟨by rw [HM.out, if_pos (by (repeat' apply And.intro) <;> first | assumption | trivial)]; rfl, ?_⟩; exact ((Below.refl _ _).alloc (Nat.le_refl _) _).trans (HB.out.mono (by simp)))
          | (refine ⟨by rw [HM.out, if_neg (by rintro ⟨f1, f2, f3, hh⟩; omega)]; rfl, ?_⟩; exact (Below.refl _ _).alloc (Nat.le_refl _) _))
    · go_enter Tryz.func30, Tryz.ntmps30
      go_wp2_with fail
      all_goals (
        go_ret
        first
        | (refine ⟨by rw [HM.out, if_pos (by (repeat' apply And.intro) <;> first | assumption | trivial)]; rfl, ?_⟩; exact ((Below.refl _ _).alloc (Nat.le_refl _) _).trans (HB.out.mono (by simp)))
        | (refine ⟨by rw [HM.out, if_neg (by rintro ⟨f1, f2, f3, hh⟩; omega)]; rfl, ?_⟩; exact (Below.refl _ _).alloc (Nat.le_refl _) _))
  · go_enter Tryz.func30, Tryz.ntmps30
    go_wp2_with fail
    all_goals (
      go_ret
      first
      | (refine ⟨by rw [HM.out, if_pos (by (repeat' apply And.intro) <;> first | assumption | trivial)]; rfl, ?_⟩; exact ((Below.refl _ _).alloc (Nat.le_refl _) _).trans (HB.out.mono (by simp)))
      | (refine ⟨by rw [HM.out, if_neg (by rintro ⟨f1, f2, f3, hh⟩; omega)]; rfl, ?_⟩; exact (Below.refl _ _).alloc (Nat.le_refl _) _))
set_option maxHeartbeats 1000000 in
set_option maxRecDepth 20000 in
theorem may_4 (r : R) (c d : C) (t : Bytes) (n : Int) (w : World) :
    Calls Tryz.prog 30 #[SV ⟨4, r, c, d, t, n⟩] w fun e w' => e = .returned (.int .i64 (mayE ⟨4, r, c, d, t, n⟩)) ∧ Below w.heap.size w w' := by
  obtain ⟨T, hT⟩ : ∃ T, T = bt t := ⟨_, rfl⟩
  have hm : mayE ⟨4, r, c, d, t, n⟩ = if (0 ≤ n ∧ n ≤ 1048576 ∧ (T.size : Int) ≤ 65536 ∧ c.r.toNat = 0 ∧ c.g.toNat = 0 ∧ c.b.toNat = 0 ∧ c.a.toNat = 0 ∧ d.r.toNat = 0 ∧ d.g.toNat = 0 ∧ d.b.toNat = 0 ∧ d.a.toNat = 0 ∧ T.toList = []) then rectE r else 2 := by
    have hk : kindOk ⟨4, r, c, d, t, n⟩ = true ↔ (c.r.toNat = 0 ∧ c.g.toNat = 0 ∧ c.b.toNat = 0 ∧ c.a.toNat = 0 ∧ d.r.toNat = 0 ∧ d.g.toNat = 0 ∧ d.b.toNat = 0 ∧ d.a.toNat = 0 ∧ T.toList = []) := by
      rw [hT, bt_list]; simp [kindOk, c0_iff, r0_iff, and_assoc]
    have hn := numOk_iff 4 r c d t n
    rw [← hT] at hn
    unfold mayE
    congr 1
    rw [Bool.and_eq_true, hn, hk]
    simp only [and_assoc]
  have HM := Lib.hid hm; clear hm
  unfold SV SC
  simp only
  rw [← hT]
  have HT := Lib.hid hT; clear hT
  by_cases k1 : 0 ≤ n
  · by_cases k2 : n ≤ 1048576
    · by_cases k3 : (T.size : Int) ≤ 65536
      · go_enter Tryz.func30, Tryz.ntmps30
        go_wp2_with (go_at_call 46; refine (geom_any r _).mono ?_; rintro e w' ⟨rfl, hb⟩; have HB := Lib.hid hb; clear hb)
        all_goals (
          go_ret
          first
          | (refine ⟨by rw [HM.out, if_pos (by (repeat' apply And.intro) <;> first | assumption | trivial)]; rfl, ?_⟩; exact ((Below.refl _ _).alloc (Nat.le_refl _) _).trans (HB.out.mono (by simp)))
          | (refine ⟨by rw [HM.out, if_neg (by rintro ⟨f1, f2, f3, hh⟩; rcases hh with ⟨e0, e1, e2, e3, e4, e5, e6, e7, e8⟩; first | contradiction | omega)]; rfl, ?_⟩; exact (Below.refl _ _).alloc (Nat.le_refl _) _))
      · go_enter Tryz.func30, Tryz.ntmps30
        go_wp2_with fail
        all_goals (
          go_ret
          first
          | (refine ⟨by rw [HM.out, if_pos (by (repeat' apply And.intro) <;> first | assumption | trivial)]; rfl, ?_⟩; exact ((Below.refl _ _).alloc (Nat.le_refl _) _).trans (HB.out.mono (by simp)))
          | (refine ⟨by rw [HM.out, if_neg (by rintro ⟨f1, f2, f3, hh⟩; omega)]; rfl, ?_⟩; exact (Below.refl _ _).alloc (Nat.le_refl _) _))
    · go_enter Tryz.func30, Tryz.ntmps30
      go_wp2_with fail
      all_goals (
        go_ret
        first
        | (refine ⟨by rw [HM.out, if_pos (by (repeat' apply And.intro) <;> first | assumption | trivial)]; rfl, ?_⟩; exact ((Below.refl _ _).alloc (Nat.le_refl _) _).trans (HB.out.mono (by simp)))
        | (refine ⟨by rw [HM.out, if_neg (by rintro ⟨f1, f2, f3, hh⟩; omega)]; rfl, ?_⟩; exact (Below.refl _ _).alloc (Nat.le_refl _) _))
  · go_enter Tryz.func30, Tryz.ntmps30
    go_wp2_with fail
    all_goals (
      go_ret
      first
      | (refine ⟨by rw [HM.out, if_pos (by (repeat' apply And.intro) <;> first | assumption | trivial)]; rfl, ?_⟩; exact ((Below.refl _ _).alloc (Nat.le_refl _) _).trans (HB.out.mono (by simp)))
      | (refine ⟨by rw [HM.out, if_neg (by rintro ⟨f1, f2, f3, hh⟩; omega)]; rfl, ?_⟩; exact (Below.refl _ _).alloc (Nat.le_refl _) _))
set_option maxHeartbeats 1000000 in
set_option maxRecDepth 20000 in
theorem may_5 (r : R) (c d : C) (t : Bytes) (n : Int) (w : World) :
    Calls Tryz.prog 30 #[SV ⟨5, r, c, d, t, n⟩] w fun e w' => e = .returned (.int .i64 (mayE ⟨5, r, c, d, t, n⟩)) ∧ Below w.heap.size w w' := by
  obtain ⟨T, hT⟩ : ∃ T, T = bt t := ⟨_, rfl⟩
  have hm : mayE ⟨5, r, c, d, t, n⟩ = if (0 ≤ n ∧ n ≤ 1048576 ∧ (T.size : Int) ≤ 65536 ∧ r.x = 0 ∧ r.y = 0 ∧ r.w = 0 ∧ r.h = 0 ∧ c.r.toNat = 0 ∧ c.g.toNat = 0 ∧ c.b.toNat = 0 ∧ c.a.toNat = 0 ∧ d.r.toNat = 0 ∧ d.g.toNat = 0 ∧ d.b.toNat = 0 ∧ d.a.toNat = 0 ∧ T.toList = []) then rectE r else 2 := by
    have hk : kindOk ⟨5, r, c, d, t, n⟩ = true ↔ (r.x = 0 ∧ r.y = 0 ∧ r.w = 0 ∧ r.h = 0 ∧ c.r.toNat = 0 ∧ c.g.toNat = 0 ∧ c.b.toNat = 0 ∧ c.a.toNat = 0 ∧ d.r.toNat = 0 ∧ d.g.toNat = 0 ∧ d.b.toNat = 0 ∧ d.a.toNat = 0 ∧ T.toList = []) := by
      rw [hT, bt_list]; simp [kindOk, c0_iff, r0_iff, and_assoc]
    have hn := numOk_iff 5 r c d t n
    rw [← hT] at hn
    unfold mayE
    congr 1
    rw [Bool.and_eq_true, hn, hk]
    simp only [and_assoc]
  have HM := Lib.hid hm; clear hm
  unfold SV SC
  simp only
  rw [← hT]
  have HT := Lib.hid hT; clear hT
  by_cases k1 : 0 ≤ n
  · by_cases k2 : n ≤ 1048576
    · by_cases k3 : (T.size : Int) ≤ 65536
      · go_enter Tryz.func30, Tryz.ntmps30
        go_wp2_with (go_at_call 46; refine (geom_any R0 _).mono ?_; rintro e w' ⟨rfl, hb⟩; have HB := Lib.hid hb; clear hb)
        all_goals (
          go_ret
          first
          | (refine ⟨by rw [HM.out, if_pos (by (repeat' apply And.intro) <;> first | assumption | trivial), (r0_iff r).2 (by (repeat' apply And.intro) <;> assumption)]; rfl, ?_⟩; exact ((Below.refl _ _).alloc (Nat.le_refl _) _).trans (HB.out.mono (by simp)))
          | (refine ⟨by rw [HM.out, if_neg (by rintro ⟨f1, f2, f3, hh⟩; rcases hh with ⟨e0, e1, e2, e3, e4, e5, e6, e7, e8, e9, e10, e11, e12⟩; first | contradiction | omega)]; rfl, ?_⟩; exact (Below.refl _ _).alloc (Nat.le_refl _) _))
      · go_enter Tryz.func30, Tryz.ntmps30
        go_wp2_with fail
        all_goals (
          go_ret
          first
          | (refine ⟨by rw [HM.out, if_pos (by (repeat' apply And.intro) <;> first | assumption | trivial), (r0_iff r).2 (by (repeat' apply And.intro) <;> assumption)]; rfl, ?_⟩; exact ((Below.refl _ _).alloc (Nat.le_refl _) _).trans (HB.out.mono (by simp)))
          | (refine ⟨by rw [HM.out, if_neg (by rintro ⟨f1, f2, f3, hh⟩; omega)]; rfl, ?_⟩; exact (Below.refl _ _).alloc (Nat.le_refl _) _))
    · go_enter Tryz.func30, Tryz.ntmps30
      go_wp2_with fail
      all_goals (
        go_ret
        first
        | (refine ⟨by rw [HM.out, if_pos (by (repeat' apply And.intro) <;> first | assumption | trivial), (r0_iff r).2 (by (repeat' apply And.intro) <;> assumption)]; rfl, ?_⟩; exact ((Below.refl _ _).alloc (Nat.le_refl _) _).trans (HB.out.mono (by simp)))
        | (refine ⟨by rw [HM.out, if_neg (by rintro ⟨f1, f2, f3, hh⟩; omega)]; rfl, ?_⟩; exact (Below.refl _ _).alloc (Nat.le_refl _) _))
  · go_enter Tryz.func30, Tryz.ntmps30
    go_wp2_with fail
    all_goals (
      go_ret
      first
      | (refine ⟨by rw [HM.out, if_pos (by (repeat' apply And.intro) <;> first | assumption | trivial), (r0_iff r).2 (by (repeat' apply And.intro) <;> assumption)]; rfl, ?_⟩; exact ((Below.refl _ _).alloc (Nat.le_refl _) _).trans (HB.out.mono (by simp)))
      | (refine ⟨by rw [HM.out, if_neg (by rintro ⟨f1, f2, f3, hh⟩; omega)]; rfl, ?_⟩; exact (Below.refl _ _).alloc (Nat.le_refl _) _))
theorem may_any (x : S) (w : World) :
    Calls Tryz.prog 30 #[SV x] w fun e w' => e = .returned (.int .i64 (mayE x)) ∧ Below w.heap.size w w' := by
  obtain ⟨k, r, c, d, t, n⟩ := x
  by_cases h1 : k = 1
  · subst h1; exact may_1 r c d t n w
  by_cases h2 : k = 2
  · subst h2; exact may_2 r c d t n w
  by_cases h3 : k = 3
  · subst h3; exact may_3 r c d t n w
  by_cases h4 : k = 4
  · subst h4; exact may_4 r c d t n w
  by_cases h5 : k = 5
  · subst h5; exact may_5 r c d t n w
  have hm : mayE ⟨k, r, c, d, t, n⟩ = 2 := by unfold mayE kindOk; simp [h1, h2, h3, h4, h5]
  rw [hm]
  have g1 : (k == 1) = false := beq_false_of_ne h1
  have g2 : (k == 2) = false := beq_false_of_ne h2
  have g3 : (k == 3) = false := beq_false_of_ne h3
  have g4 : (k == 4) = false := beq_false_of_ne h4
  have g5 : (k == 5) = false := beq_false_of_ne h5
  clear h1 h2 h3 h4 h5 hm
  unfold SV SC
  simp only
  by_cases k1 : 0 ≤ n
  · by_cases k2 : n ≤ 1048576
    · go_enter Tryz.func30, Tryz.ntmps30
      go_wp2_with fail
      go_ret
      exact ⟨rfl, (Below.refl _ _).alloc (Nat.le_refl _) _⟩
    · go_enter Tryz.func30, Tryz.ntmps30
      go_wp2_with fail
      go_ret
      exact ⟨rfl, (Below.refl _ _).alloc (Nat.le_refl _) _⟩
  · go_enter Tryz.func30, Tryz.ntmps30
    go_wp2_with fail
    go_ret
    exact ⟨rfl, (Below.refl _ _).alloc (Nat.le_refl _) _⟩
end Go.Proofs.YtemiamajgjfnbaaGreatDoor
