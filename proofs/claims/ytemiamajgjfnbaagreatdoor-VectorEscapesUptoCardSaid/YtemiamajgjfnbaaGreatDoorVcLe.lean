/- casementlaw16.VectorEscapes, walked, at texts of at most 1048576 bytes. -/
import Derived.Test.YtemiamajgjfnbaaGreatDoorVcAl
namespace Go.Proofs.YtemiamajgjfnbaaGreatDoor
open Go.RowKit Vc
set_option linter.unusedVariables false
set_option linter.unusedSimpArgs false
theorem esc_of (t : ByteArray) (h : t.size ≤ 4194304) : ∃ X : ByteArray, X = bt (esc t.data.toList) ∧ X.size ≤ 4 * t.size ∧ ∀ w, Calls Tryz.prog 9 #[.string t] w fun e w' => e = .returned (.string X) ∧ Below w.heap.size w w' :=
  ⟨bt (esc t.data.toList), rfl, by rw [bt_size]; exact esc_len _, fun w => vesc_any t w (by omega)⟩
theorem bt_data (l : Bytes) : (bt l).data.toList = l := by simp [bt]
set_option maxHeartbeats 4000000 in
set_option maxRecDepth 20000 in
theorem law_esc (a b : ByteArray) (w : World) (ha : a.size ≤ 1048576) (hb : b.size ≤ 1048576) (hg : Glob w) :
    Calls Tryz.prog 5 #[.string a, .string b] w fun e w' => e = .returned (.bool true) ∧ Below w.heap.size w w' := by
  have HG := Lib.hid hg; clear hg
  obtain ⟨X, eX, sX, hX⟩ := esc_of a (by omega)
  obtain ⟨Y, eY, sY, hY⟩ := esc_of b (by omega)
  have hXY : ∀ w, Calls Tryz.prog 9 #[.string (a ++ b)] w fun e w' => e = .returned (.string (X ++ Y)) ∧ Below w.heap.size w w' := fun w => by
    obtain ⟨Z, eZ, _, hZ⟩ := esc_of (a ++ b) (by rw [ByteArray.size_append]; omega)
    have e : Z = X ++ Y := by
      rw [eZ, eX, eY, bt_append, ← esc_append]
      congr 2
    rw [← e]; exact hZ w
  have hPX : ∀ w, Calls Tryz.prog 8 #[.string X] w fun e w' => e = .returned (.tuple #[.string a, .int .i64 0, .int .i64 0]) ∧ Below w.heap.size w w' := fun w => by
    have h := vplainS_any X w (by omega)
    have e : plainV X.data.toList = (a.data.toList, 0, 0) := by
      unfold plainV; rw [eX, bt_data, dec_esc]; rfl
    rw [e] at h
    have hb : bt a.data.toList = a := bstr a
    simp only [hb] at h
    exact h
  have hPB := fun w => vplainS_any b w (by omega)
  have hcase : (∃ v : Bytes, plainV b.data.toList = (v, 0, 0) ∧ esc v = b.data.toList) ∨ (∃ i : Nat, plainV b.data.toList = ([], (i : Int), 160) ∧ i < b.size) := by
    cases hd : dec b.data.toList 0 [] with
    | inl i =>
      right
      refine ⟨i, by unfold plainV; rw [hd], ?_⟩
      have := (dec_place _ _ _ _ _ (Nat.le_refl _) hd).2
      have h2 : b.data.toList.length = b.size := rfl
      omega
    | inr v =>
      left
      obtain ⟨u, hu, he⟩ := esc_dec _ _ _ _ _ (Nat.le_refl _) hd
      rw [List.nil_append] at hu
      subst hu
      exact ⟨v, by unfold plainV; rw [hd], he⟩
  have n1 : ¬ 9223372036854775807 < a.size + b.size := by omega
  have n2 : ¬ 9223372036854775807 < X.size + Y.size := by omega
  have i1 : (X.size : Int) ≤ 4 * (a.size : Int) := by omega
  have i2 : 4 * (a.size : Int) ≤ 9223372036854775807 := by omega
  have HX := Lib.hid hX; have HY := Lib.hid hY; have HXY := Lib.hid hXY; have HPX := Lib.hid hPX; have HPB := Lib.hid hPB; have HC := Lib.hid hcase
  have SB := Lib.hid hb
  clear hX hY hXY hPX hPB hcase eX eY sX sY ha hb
  go_enter Tryz.func5, Tryz.ntmps5
  go_upto_region 2 with (go_at_call 9; refine (HX.out _).mono ?_; rintro e w1 ⟨rfl, hb⟩; have W1 := Lib.hid hb; clear hb)
  go_upto_region 3 with (go_at_call 8; refine (HPX.out _).mono ?_; rintro e w2 ⟨rfl, hb⟩; have W2 := Lib.hid (W1.out.trans (hb.mono W1.out.size)); clear hb)
  go_upto_region 5 with (first | (go_at_call 10; refine (alive_any _ (HG.out.below HG.out.size W2.out)).mono ?_; rintro e w3 ⟨rfl, hb⟩; have W3 := Lib.hid (W2.out.trans (hb.mono W2.out.size)); clear hb) | (go_at_call 9; first | ((with_reducible refine (HXY.out _).mono ?_); rintro e w4 ⟨rfl, hb⟩; have W4 := Lib.hid (W3.out.trans (hb.mono W3.out.size)); clear hb) | ((with_reducible refine (HY.out _).mono ?_); rintro e w5 ⟨rfl, hb⟩; have W5 := Lib.hid (W4.out.trans (hb.mono W4.out.size)); clear hb)))
  rcases HC.out with ⟨v, hv, he⟩ | ⟨i, hi, hib⟩
  · have HB : Hid (∀ w, Calls Tryz.prog 8 #[.string b] w fun e w' => e = .returned (.tuple #[.string (bt v), .int .i64 0, .int .i64 0]) ∧ Below w.heap.size w w') := Lib.hid fun w => by have := HPB.out w; rw [hv] at this; exact this
    have HE : Hid (∀ w, Calls Tryz.prog 9 #[.string (bt v)] w fun e w' => e = .returned (.string b) ∧ Below w.heap.size w w') := Lib.hid fun w => by
      have hsz : (bt v).size ≤ 4194304 := by
        rw [bt_size]
        have h1 := congrArg List.length he
        have h2 : b.data.toList.length = b.size := rfl
        have h3 : ∀ l : Bytes, l.length ≤ (esc l).length := by
          intro l
          induction l with
          | nil => exact Nat.le_refl _
          | cons c r ih =>
            show _ ≤ (esc1 c ++ esc r).length
            rw [List.length_append, List.length_cons]
            have : 1 ≤ (esc1 c).length := by unfold esc1; split <;> simp
            omega
        have h4 := h3 v
        have h5 := SB.out
        omega
      obtain ⟨Z, eZ, _, hZ⟩ := esc_of (bt v) hsz
      have e : Z = b := by rw [eZ, bt_data, he]; exact bstr b
      rw [← e]; exact hZ w
    clear hv he
    generalize bt v = V at HB HE
    go_wp2_with (first | (go_at_call 8; refine (HB.out _).mono ?_; rintro e w6 ⟨rfl, hb⟩; have W6 := Lib.hid (W5.out.trans (hb.mono W5.out.size)); clear hb) | (go_at_call 9; refine (HE.out _).mono ?_; rintro e w7 ⟨rfl, hb⟩; have W7 := Lib.hid (W6.out.trans (hb.mono W6.out.size)); clear hb))
    go_ret
    exact ⟨rfl, W7.out⟩
  · have HB : Hid (∀ w, Calls Tryz.prog 8 #[.string b] w fun e w' => e = .returned (.tuple #[.string ⟨#[]⟩, .int .i64 (i : Int), .int .i64 160]) ∧ Below w.heap.size w w') := Lib.hid fun w => by have := HPB.out w; rw [hi] at this; exact this
    have j1 : (0 : Int) ≤ (i : Int) := by omega
    have j2 : (i : Int) < (b.size : Int) := by omega
    clear hi
    go_wp2_with (go_at_call 8; refine (HB.out _).mono ?_; rintro e w6 ⟨rfl, hb⟩; have W6 := Lib.hid (W5.out.trans (hb.mono W5.out.size)); clear hb)
    go_ret
    exact ⟨rfl, W6.out⟩
end Go.Proofs.YtemiamajgjfnbaaGreatDoor
