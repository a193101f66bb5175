/- The document's answer: number. -/
import Derived.Test.YtgkpbpcebgegbaaDoorEvU
import Derived.Test.YtgkpbpcebgegbaaDoorEvX
import Derived.Lib.ItoaLen
namespace Go.Proofs.YtgkpbpcebgegbaaDoor
open Go.RowKit Ev
set_option linter.unusedVariables false
set_option linter.unusedSimpArgs false

theorem enc_dig (d : Nat) (h : d < 10) : Utf8.encode (48 + (d : Int)) = bt [UInt8.ofNat (48 + d)] := by
  have h' : ∀ d : Fin 10, Utf8.encode (48 + (d.val : Int)) = bt [UInt8.ofNat (48 + d.val)] := by decide +kernel
  exact h' ⟨d, h⟩
theorem bt_append (a b : List UInt8) : bt a ++ bt b = bt (a ++ b) := by
  apply ByteArray.ext
  show (bt a ++ bt b).data = _
  rw [ByteArray.data_append]
  simp [bt]
theorem dec_size (n : Nat) (h : n ≤ 9223372036854775807) : (bt (Lib.decDigits n)).size ≤ 21 := by
  have := Lib.itoa_length_le (n : Int) (by omega) (by omega)
  rw [Lib.itoa, if_neg (by omega), Int.toNat_natCast] at this
  exact this
theorem dec_step (n : Nat) (h : ¬ n < 10) : Lib.decDigits n = Lib.decDigits (n / 10) ++ [UInt8.ofNat (48 + n % 10)] := by
  conv => lhs; rw [Lib.decDigits]
  rw [dif_neg h]
theorem numberq_nat (n : Nat) : n ≤ 9223372036854775807 → ∀ w : World,
    Calls Tryd.prog 16 #[.int .i64 (n : Int)] w fun e w' => e = .returned (.string (bt (Lib.decDigits n))) ∧ w = w' := by
  induction n using Nat.strongRecOn with
  | _ n ih =>
    intro hn w
    have d1 : decide ((n : Int) ≤ -10) = false := decide_eq_false (by omega)
    have d2 : decide ((n : Int) < 0) = false := decide_eq_false (by omega)
    have m1 : (n : Int).tmod 10 = (n : Int) % 10 := Int.tmod_eq_emod_of_nonneg (by omega)
    have m2 : (n : Int).tdiv 10 = (n : Int) / 10 := Int.tdiv_eq_ediv_of_nonneg (by omega)
    have he := enc_dig (n % 10) (Nat.mod_lt _ (by decide))
    have hc : ((n % 10 : Nat) : Int) = (n : Int) % 10 := by omega
    rw [hc] at he
    have HE := Lib.hid he; clear he hc
    by_cases hlt : n < 10
    · have d3 : decide (10 ≤ (n : Int)) = false := decide_eq_false (by omega)
      go_enter Tryd.func16, Tryd.ntmps16
      go_wp2_with fail
      go_ret
      refine ⟨?_, rfl⟩
      rw [Lib.decDigits_one hlt]
      show Ending.returned (.string (Utf8.encode (48 + (n : Int) % 10))) = _
      rw [HE.out, Nat.mod_eq_of_lt hlt]
    · have d3 : decide (10 ≤ (n : Int)) = true := decide_eq_true (by omega)
      have IH := Lib.hid (ih (n / 10) (by omega) (by omega))
      have hq : ((n / 10 : Nat) : Int) = (n : Int) / 10 := by omega
      rw [hq] at IH
      have hz := dec_size (n / 10) (by omega)
      have hfin := dec_step n hlt
      clear ih hq
      have hfin2 : bt (Lib.decDigits n) = bt (Lib.decDigits (n / 10)) ++ Utf8.encode (48 + (n : Int) % 10) := by rw [HE.out, bt_append, ← hfin]
      have he1 : (Utf8.encode (48 + (n : Int) % 10)).size = 1 := by rw [HE.out]; rfl
      generalize bt (Lib.decDigits (n / 10)) = X at IH hz hfin2
      have HF := Lib.hid hfin2
      clear hfin hfin2
      have hl : ¬ 9223372036854775807 < X.size + 1 := by omega
      have hl2 : ¬ 9223372036854775807 < X.size + (Utf8.encode (48 + (n : Int) % 10)).size := by omega
      clear hz
      go_enter Tryd.func16, Tryd.ntmps16
      go_wp2_with (go_at_call 16; refine (IH.out _).mono ?_; rintro e w' ⟨rfl, rfl⟩)
      go_ret
      refine ⟨?_, rfl⟩
      rw [HF.out]
      rfl
/-- number, whole. -/
theorem numberq_any (n : Int) (h0 : -9223372036854775808 ≤ n) (h1 : n ≤ 9223372036854775807) (w : World) :
    Calls Tryd.prog 16 #[.int .i64 n] w fun e w' => e = .returned (.string (bt (Lib.itoa n))) ∧ w = w' := by
  by_cases hneg : n < 0
  · have hit : Lib.itoa n = [45] ++ Lib.decDigits n.natAbs := by rw [Lib.itoa, if_pos hneg]; rfl
    by_cases h10 : n ≤ -10
    · obtain ⟨m, rfl⟩ : ∃ m : Nat, n = -(m : Int) := ⟨n.natAbs, by omega⟩
      have hm : 10 ≤ m := by omega
      have t1 : (-(m : Int)).tdiv 10 = -((m / 10 : Nat) : Int) := by rw [Int.neg_tdiv, Int.tdiv_eq_ediv_of_nonneg (by omega)]; omega
      have t2 : (-(m : Int)).tmod 10 = -((m % 10 : Nat) : Int) := by rw [Int.neg_tmod, Int.tmod_eq_emod_of_nonneg (by omega)]; omega
      have w1 : IntKind.i64.wrap (-(-((m / 10 : Nat) : Int))) = ((m / 10 : Nat) : Int) := by rw [Int.neg_neg]; exact IntWalk.i64_in _ (by omega)
      have w2 : IntKind.i64.wrap (-(-((m % 10 : Nat) : Int))) = ((m % 10 : Nat) : Int) := by rw [Int.neg_neg]; exact IntWalk.i64_in _ (by omega)
      have w3 : IntKind.i64.wrap (-((m / 10 : Nat) : Int)) = -((m / 10 : Nat) : Int) := IntWalk.i64_in _ (by omega)
      have w4 : IntKind.i64.wrap (-((m % 10 : Nat) : Int)) = -((m % 10 : Nat) : Int) := IntWalk.i64_in _ (by omega)
      have w5 : IntKind.i64.wrap ((m / 10 : Nat) : Int) = ((m / 10 : Nat) : Int) := IntWalk.i64_in _ (by omega)
      have w6 : IntKind.i64.wrap ((m % 10 : Nat) : Int) = ((m % 10 : Nat) : Int) := IntWalk.i64_in _ (by omega)
      have d1 : decide (-(m : Int) ≤ -10) = true := decide_eq_true h10
      have hs : m % 10 < 10 := Nat.mod_lt _ (by decide)
      have hit2 : Lib.itoa (-(m : Int)) = [45] ++ Lib.decDigits (m / 10) ++ Lib.decDigits (m % 10) := by
        rw [hit, Int.natAbs_neg, Int.natAbs_natCast]
        conv => lhs; rw [Lib.decDigits]
        rw [dif_neg (by omega), Lib.decDigits_one hs, List.append_assoc]
      have N1 := Lib.hid (numberq_nat (m / 10) (by omega)); have N2 := Lib.hid (numberq_nat (m % 10) (by omega))
      have z1 := dec_size (m / 10) (by omega)
      have z2 := dec_size (m % 10) (by omega)
      have hit3 : bt (Lib.itoa (-(m : Int))) = (⟨#[45]⟩ : ByteArray) ++ bt (Lib.decDigits (m / 10)) ++ bt (Lib.decDigits (m % 10)) := by
        rw [hit2, ← bt_append, ← bt_append]; rfl
      generalize bt (Lib.decDigits (m / 10)) = X at z1 N1 hit3
      generalize bt (Lib.decDigits (m % 10)) = Y at z2 N2 hit3
      have HIT := Lib.hid hit3; clear hit hit2 hit3
      generalize m / 10 = q at t1 w1 w3 w5 N1
      generalize m % 10 = r at t2 w2 w4 w6 N2
      have hl1 : ¬ 9223372036854775807 < 1 + X.size := by omega
      have hl2 : ¬ 9223372036854775807 < 1 + X.size + Y.size := by omega
      clear z1 z2
      go_enter Tryd.func16, Tryd.ntmps16
      go_wp2_with (first | (go_at_call 16; refine (N1.out _).mono ?_; rintro e w' ⟨rfl, rfl⟩; clear N1) | (go_at_call 16; refine (N2.out _).mono ?_; rintro e w' ⟨rfl, rfl⟩))
      go_ret
      refine ⟨?_, rfl⟩
      rw [HIT.out]
      rfl
    · obtain ⟨m, rfl⟩ : ∃ m : Nat, n = -(m : Int) := ⟨n.natAbs, by omega⟩
      have w1 : IntKind.i64.wrap (-(-(m : Int))) = (m : Int) := by rw [Int.neg_neg]; exact IntWalk.i64_in _ (by omega)
      have w5 : IntKind.i64.wrap (m : Int) = (m : Int) := IntWalk.i64_in _ (by omega)
      have d1 : decide (-(m : Int) ≤ -10) = false := decide_eq_false h10
      have d2 : decide (-(m : Int) < 0) = true := decide_eq_true hneg
      rw [Int.natAbs_neg, Int.natAbs_natCast] at hit
      have N1 := Lib.hid (numberq_nat m (by omega))
      have z1 := dec_size m (by omega)
      have hit3 : bt (Lib.itoa (-(m : Int))) = (⟨#[45]⟩ : ByteArray) ++ bt (Lib.decDigits m) := by rw [hit, ← bt_append]; rfl
      generalize bt (Lib.decDigits m) = X at z1 N1 hit3
      have HIT := Lib.hid hit3; clear hit hit3
      have hl1 : ¬ 9223372036854775807 < 1 + X.size := by omega
      clear z1
      go_enter Tryd.func16, Tryd.ntmps16
      go_wp2_with (go_at_call 16; refine (N1.out _).mono ?_; rintro e w' ⟨rfl, rfl⟩)
      go_ret
      refine ⟨?_, rfl⟩
      rw [HIT.out]
      rfl
  · obtain ⟨m, rfl⟩ : ∃ m : Nat, n = (m : Int) := ⟨n.toNat, by omega⟩
    have hit : Lib.itoa (m : Int) = Lib.decDigits m := by rw [Lib.itoa, if_neg hneg, Int.toNat_natCast]
    rw [hit]
    exact numberq_nat m (by omega) w
end Go.Proofs.YtgkpbpcebgegbaaDoor
