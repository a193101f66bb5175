/- event.escaped. -/
import Derived.Test.YtgkpbpcebgegbaaDoorEvT
namespace Go.Proofs.YtgkpbpcebgegbaaDoor
open Go.RowKit Ev
set_option linter.unusedVariables false
set_option linter.unusedSimpArgs false

theorem writeByte_at (B b : Nat) (l : List UInt8) (v : Int) (c : UInt8) (hv : v = (c.toNat : Int)) (w : World) (h : IsB B b l w) (hlen : l.length + 1 ≤ 140737488355328) (hBw : B ≤ w.heap.size) :
    Calls Tryd.prog 33 #[.pointer (some ⟨b, 0, none⟩), .int .u8 v] w fun e w' => e = .returned .nilIface ∧ IsB B b (l ++ [c]) w' ∧ Below B w w' := by
  subst hv; exact writeByte_any B b l c w h hlen hBw
theorem nib_at (n : Nat) (h : n < 16) : ((((⟨#[48, 49, 50, 51, 52, 53, 54, 55, 56, 57, 97, 98, 99, 100, 101, 102]⟩ : ByteArray)[n]'h).toNat : Nat) : Int) = ((nib n).toNat : Int) := by
  have h' : ∀ n : Fin 16, ((((⟨#[48, 49, 50, 51, 52, 53, 54, 55, 56, 57, 97, 98, 99, 100, 101, 102]⟩ : ByteArray)[n.val]'n.isLt).toNat : Nat) : Int) = ((nib n.val).toNat : Int) := by decide +kernel
  exact h' ⟨n, h⟩
theorem nib_hi (c : UInt8) : (c.toNat / 16) < 16 := by have := c.toNat_lt; omega
theorem esc1_len (b : UInt8) : (esc1 b).length ≤ 3 := by unfold esc1; split <;> simp
theorem esc_len (l : List UInt8) : (esc l).length ≤ 3 * l.length := by
  unfold esc
  induction l with
  | nil => simp
  | cons b l ih => have := esc1_len b; simp only [List.flatMap_cons, List.length_append, List.length_cons]; omega
theorem esc_snoc (l : List UInt8) (k : Nat) (h : k < l.length) : esc (l.take (k + 1)) = esc (l.take k) ++ esc1 l[k] := by
  unfold esc
  rw [List.take_add_one, List.getElem?_eq_getElem h, List.flatMap_append]; simp

set_option maxHeartbeats 2000000 in
set_option maxRecDepth 100000 in
theorem escaped_any (s : ByteArray) (w : World) (hs : s.size ≤ 65536) :
    Calls Tryd.prog 13 #[.string s] w fun e w' => e = .returned (.string ⟨(esc s.data.toList).toArray⟩) ∧ Below w.heap.size w w' := by
  go_enter Tryd.func13, Tryd.ntmps13
  go_wp2_with fail
  go_loopw [8] (fun i wr => ∃ k : Nat, i = .int .i64 k ∧ k ≤ s.size ∧ Hid (IsB w.heap.size w.heap.size (esc (s.data.toList.take k)) wr) ∧ Hid (Below w.heap.size w wr)) (fun i _ => s.size - (intOf i).toNat)
  case atStart => exact ⟨0, rfl, Nat.zero_le _, Lib.hid (isB_new w _ (Nat.le_refl _)), Lib.hid ((Below.refl _ _).alloc (Nat.le_refl _) _)⟩
  case round =>
    obtain ⟨k, rfl, hk, HB, HW⟩ := hrel
    have hL : (esc (s.data.toList.take k)).length ≤ 3 * s.size := by
      have h1 := esc_len (s.data.toList.take k)
      have h2 : (s.data.toList.take k).length ≤ k := by simp; omega
      omega
    by_cases hlt : k < s.size
    · have hsn := esc_snoc s.data.toList k hlt
      rw [data_get s k hlt] at hsn
      have HSN := Lib.hid hsn; clear hsn
      generalize esc (s.data.toList.take k) = L at HB HSN hL
      cases hpl : plainI (s[k].toNat : Int) with
      | true =>
        go_wp2_with (first | (go_at_call 32; refine (plain_any _ _).mono ?_; rintro e w' ⟨rfl, rfl⟩) | (go_at_call 33; refine (writeByte_any w.heap.size w.heap.size L s[k] wr HB.out (by omega) HW.out.size).mono ?_; rintro e w2 ⟨rfl, h1, h2⟩; have HB2 := Lib.hid h1; have HW2 := Lib.hid (HW.out.trans h2); clear h1 h2))
        go_roundw
        case rel =>
          go_light
          refine ⟨k + 1, by go_num, by omega, Lib.hid ?_, HW2⟩
          rw [HSN.out, esc1, if_pos (show plainB s[k] = true from hpl)]; exact HB2.out
        case measure => go_light; simp [intOf]; omega
      | false =>
        have hn1 := nib_hi s[k]
        go_wp2_with (first | (go_at_call 32; refine (plain_any _ _).mono ?_; rintro e w' ⟨rfl, rfl⟩) | (go_at_call 33; refine (writeByte_at w.heap.size w.heap.size L 37 37 rfl wr HB.out (by omega) HW.out.size).mono ?_; rintro e w2 ⟨rfl, h1, h2⟩; have HB2 := Lib.hid h1; have HW2 := Lib.hid (HW.out.trans h2); clear h1 h2 HB HW))
        refine (writeByte_at w.heap.size w.heap.size (L ++ [37]) _ (nib (s[k].toNat / 16)) (nib_at _ hn1) w2 HB2.out (by simp; omega) HW2.out.size).mono ?_
        rintro e w3 ⟨rfl, h1, h2⟩
        have HB3 := Lib.hid h1; have HW3 := Lib.hid (HW2.out.trans h2); clear h1 h2 HB2 HW2
        go_wp2_with fail
        refine (writeByte_at w.heap.size w.heap.size (L ++ [37] ++ [nib (s[k].toNat / 16)]) _ (nib (s[k].toNat % 16)) (nib_at _ (Nat.mod_lt _ (by decide))) w3 HB3.out (by simp; omega) HW3.out.size).mono ?_
        rintro e w4 ⟨rfl, h1, h2⟩
        have HB4 := Lib.hid h1; have HW4 := Lib.hid (HW3.out.trans h2); clear h1 h2 HB3 HW3
        go_wp2_with fail
        go_roundw
        case rel =>
          go_light
          refine ⟨k + 1, by go_num, by omega, Lib.hid ?_, HW4⟩
          rw [HSN.out, esc1, if_neg (show ¬ plainB s[k] = true by unfold plainB; rw [hpl]; decide)]
          have := HB4.out
          simpa only [List.append_assoc, List.cons_append, List.nil_append] using this
        case measure => go_light; simp [intOf]; omega
    · obtain rfl : k = s.size := by omega
      have hall : esc (s.data.toList.take s.size) = esc s.data.toList := by rw [List.take_of_length_le (by exact Nat.le_refl _)]
      rw [hall] at HB
      go_wp2_with (go_at_call 34; refine (bString_any w.heap.size w.heap.size (esc s.data.toList) wr HB.out HW.out.size).mono ?_; rintro e w2 ⟨rfl, h1, h2⟩; have HW2 := Lib.hid (HW.out.trans h2); clear h1 h2)
      go_ret
      exact ⟨rfl, HW2.out⟩
end Go.Proofs.YtgkpbpcebgegbaaDoor
