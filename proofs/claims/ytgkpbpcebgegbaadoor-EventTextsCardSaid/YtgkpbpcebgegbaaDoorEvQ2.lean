/- The document's answer: the reader's number. -/
import Derived.Test.YtgkpbpcebgegbaaDoorEvQ0
namespace Go.Proofs.YtgkpbpcebgegbaaDoor
open Go.RowKit Ev
set_option linter.unusedVariables false
set_option linter.unusedSimpArgs false

set_option maxHeartbeats 1000000 in
theorem numq_bad (s : ByteArray) (g p : Nat) (w : World) (hI : IsQd w g s (.bad p)) :
    Calls Tryd.prog 24 #[.pointer (some ⟨g, 0, none⟩)] w fun e w' => e = .returned (.int .i64 0) ∧ w = w' := by
  have hI2 := hI
  obtain ⟨a, hI2⟩ := hI2
  have hc2 := hI2.cell2
  have HI := Lib.hid hI; clear hI hI2
  have hp : decide ((0 : Int) ≤ (p : Int)) = true := by simp
  go_enter Tryd.func24, Tryd.ntmps24
  go_wp2_with (go_at_call 44; refine (blankq_bad s g p _ HI.out).mono ?_; rintro e w' ⟨rfl, rfl⟩)
  go_ret
  exact ⟨rfl, rfl⟩

set_option maxHeartbeats 2000000 in
theorem numq_noblank (s : ByteArray) (g a : Nat) (w : World) (hs : s.size ≤ 140737488351232) (hI : IsQd w g s (.ok a)) (hb : ¬ s.data.toList[a]? = some 32) :
    Calls Tryd.prog 24 #[.pointer (some ⟨g, 0, none⟩)] w fun e w' => e = .returned (.int .i64 0) ∧ IsQd w' g s (.bad a) ∧ w.grownBy w' (some g) := by
  have HI := Lib.hid hI; clear hI
  have HB := Lib.hid hb; clear hb
  have hbl := (blankq_ok s g a w hs HI.out)
  rw [blankS, if_neg HB.out] at hbl
  have HBL := Lib.hid hbl; clear hbl
  have hp : decide ((0 : Int) ≤ (a : Int)) = true := by simp
  go_enter Tryd.func24, Tryd.ntmps24
  go_wp2_with (go_at_call 44; refine HBL.out.mono ?_; rintro e w' ⟨rfl, h1, h2⟩; have hc2 : w'.cell? ⟨g, 2, none⟩ = some (.int .i64 (a : Int)) := (by obtain ⟨_, h⟩ := h1; exact h.cell2); have H1 := Lib.hid h1; have H2 := Lib.hid h2; clear h1 h2)
  go_ret
  exact ⟨rfl, H1.out, H2.out⟩

/-! ### The number of the first nine digits -/
theorem fold10_snoc (l : List UInt8) (b : UInt8) (acc : Nat) : fold10 acc (l ++ [b]) = 10 * fold10 acc l + (b.toNat - 48) := by
  unfold fold10; rw [List.foldl_append]; rfl
/-- The number of the first nine at most of j digits. -/
def val9 (D : List UInt8) (j : Nat) : Nat := digVal (D.take (min j 9))
theorem val9_zero (D : List UInt8) : val9 D 0 = 0 := by simp [val9, digVal]
theorem val9_step (D : List UInt8) (j : Nat) (h : j < D.length) (h9 : j < 9) : val9 D (j + 1) = 10 * val9 D j + (D[j].toNat - 48) := by
  unfold val9
  rw [Nat.min_eq_left (by omega), Nat.min_eq_left (by omega), List.take_succ_eq_append_getElem h]
  exact fold10_snoc _ _ _
theorem val9_stay (D : List UInt8) (j : Nat) (h9 : ¬ j < 9) : val9 D (j + 1) = val9 D j := by
  unfold val9; rw [Nat.min_eq_right (by omega), Nat.min_eq_right (by omega)]
theorem val9_lt (D : List UInt8) (j : Nat) (hall : D.all digB = true) : val9 D j < 1000000000 := by
  unfold val9
  have h1 : (D.take (min j 9)).all digB = true := by
    rw [List.all_eq_true] at hall ⊢
    intro x hx; exact hall x (List.mem_of_mem_take hx)
  have h2 := fold10_lt (D.take (min j 9)) 0 h1
  have h3 : (D.take (min j 9)).length ≤ 9 := by rw [List.length_take]; omega
  have h4 : 10 ^ (D.take (min j 9)).length ≤ 10 ^ 9 := Nat.pow_le_pow_right (by decide) h3
  rw [show (10 : Nat) ^ 9 = 1000000000 by decide] at h4
  show fold10 0 _ < _
  omega
theorem val9_all (D : List UInt8) (h9 : D.length ≤ 9) : val9 D D.length = digVal D := by
  unfold val9; rw [Nat.min_eq_left h9, List.take_length]

/-! ### What stands at a place -/
theorem num_at (s : ByteArray) (p q : Nat) (h0 : p + sgn (s.data.toList.drop p) ≤ q) (h1 : q < p + sgn (s.data.toList.drop p) + (digs (s.data.toList.drop p)).length) :
    ∃ h : q < s.size, 48 ≤ s[q].toNat ∧ s[q].toNat ≤ 57 ∧ ∃ h2 : q - (p + sgn (s.data.toList.drop p)) < (digs (s.data.toList.drop p)).length, (digs (s.data.toList.drop p))[q - (p + sgn (s.data.toList.drop p))] = s[q] := by
  have h2 : q - (p + sgn (s.data.toList.drop p)) < (digs (s.data.toList.drop p)).length := by omega
  obtain ⟨h3, h4⟩ := tw_lt digB ((s.data.toList.drop p).drop (sgn (s.data.toList.drop p))) _ h2
  have h5 : (digs (s.data.toList.drop p))[q - (p + sgn (s.data.toList.drop p))] = ((s.data.toList.drop p).drop (sgn (s.data.toList.drop p)))[q - (p + sgn (s.data.toList.drop p))] := (List.takeWhile_prefix digB).getElem h2
  have h6 : q < s.data.toList.length := by simp at h3; simp; omega
  have h7 : ((s.data.toList.drop p).drop (sgn (s.data.toList.drop p)))[q - (p + sgn (s.data.toList.drop p))] = s.data.toList[q] := by
    rw [List.getElem_drop, List.getElem_drop]
    congr 1; omega
  rw [h7] at h4 h5
  have h8 : s.data.toList[q] = s[q]'h6 := rfl
  rw [h8] at h4 h5
  simp only [digB, Bool.and_eq_true, decide_eq_true_eq] at h4
  exact ⟨h6, h4.1, h4.2, h2, h5⟩
theorem num_end0 (l : List UInt8) (p q : Nat) (h : q = p + (sgn (l.drop p) + (digs (l.drop p)).length)) (hq : q < l.length) : digB l[q] = false := by
  subst h
  have h1 : (((l.drop p).drop (sgn (l.drop p))).takeWhile digB).length < ((l.drop p).drop (sgn (l.drop p))).length := by
    unfold digs at hq; rw [List.length_drop, List.length_drop]; omega
  have h2 := tw_end digB _ h1
  rw [List.getElem_drop, List.getElem_drop] at h2
  exact h2
theorem num_at' (s : ByteArray) (p f : Nat) (D : List UInt8) (hf : f = p + sgn (s.data.toList.drop p)) (hD : D = digs (s.data.toList.drop p)) (q : Nat) (h0 : f ≤ q) (h1 : q < f + D.length) :
    ∃ h : q < s.size, 48 ≤ s[q].toNat ∧ s[q].toNat ≤ 57 ∧ ∃ h2 : q - f < D.length, D[q - f]'h2 = s[q]'h := by
  subst hf; subst hD; exact num_at s p q h0 h1
theorem num_end' (s : ByteArray) (p f : Nat) (D : List UInt8) (hf : f = p + sgn (s.data.toList.drop p)) (hD : D = digs (s.data.toList.drop p)) (q : Nat) (hq : q = f + D.length) (h : q < s.size) :
    s[q].toNat < 48 ∨ 57 < s[q].toNat := by
  have h2 : digB s[q] = false := num_end0 s.data.toList p q (by rw [hq, hf, hD, Nat.add_assoc]) h
  simp only [digB, Bool.and_eq_false_iff, decide_eq_false_iff_not] at h2
  omega
theorem num_val (s : ByteArray) (q : Nat) (D : List UInt8) (f : Nat) (h0 : f ≤ q) (hq : q < s.size) (h2 : q - f < D.length) (he : D[q - f]'h2 = s[q]'hq) (h9 : q - f < 9) : val9 D (q + 1 - f) = 10 * val9 D (q - f) + (s[q].toNat - 48) := by
  rw [show q + 1 - f = (q - f) + 1 by omega, val9_step D _ h2 h9, he]
theorem numAt_if (l : Bytes) : numAt l = if (digs l).length ≤ 9 ∧ Lib.itoa (numV l) = numT l then some (numV l, sgn l + (digs l).length) else none := rfl
theorem numR_no (l : Bytes) (p : Nat) (h : ¬ ((digs (l.drop p)).length ≤ 9 ∧ Lib.itoa (numV (l.drop p)) = numT (l.drop p))) : numR l (.ok p) = (0, .bad p) := by
  unfold numR
  simp only
  rw [numAt_if, if_neg h]
theorem numR_yes (l : Bytes) (p : Nat) (h9 : (digs (l.drop p)).length ≤ 9) (h : Lib.itoa (numV (l.drop p)) = numT (l.drop p)) : numR l (.ok p) = (numV (l.drop p), .ok (p + (sgn (l.drop p) + (digs (l.drop p)).length))) := by
  unfold numR
  simp only
  rw [numAt_if, if_pos ⟨h9, h⟩]
theorem num_text (s : ByteArray) (p : Nat) (hp : p ≤ s.size) : (s.extract p (p + (sgn (s.data.toList.drop p) + (digs (s.data.toList.drop p)).length))).data.toList = numT (s.data.toList.drop p) := by
  unfold numT
  rw [ByteArray.data_extract, Array.toList_extract]
  simp [List.extract_eq_take_drop]
theorem numR_yes' (l : Bytes) (p f : Nat) (D : List UInt8) (hf : f = p + sgn (l.drop p)) (hD : D = digs (l.drop p)) (h9 : D.length ≤ 9) (h : Lib.itoa (numV (l.drop p)) = numT (l.drop p)) : numR l (.ok p) = (numV (l.drop p), .ok (f + D.length)) := by
  subst hf; subst hD
  rw [numR_yes l p h9 h, Nat.add_assoc]
theorem num_text' (s : ByteArray) (p f : Nat) (D : List UInt8) (hf : f = p + sgn (s.data.toList.drop p)) (hD : D = digs (s.data.toList.drop p)) (hp : p ≤ s.size) (q : Nat) (hq : q = f + D.length) : (s.extract p q).data.toList = numT (s.data.toList.drop p) := by
  subst hq; subst hf; subst hD
  rw [Nat.add_assoc]
  exact num_text s p hp
theorem numberq_q (n : Int) (h0 : -9223372036854775808 ≤ n) (h1 : n ≤ 9223372036854775807) (w : World) :
    Calls Tryd.prog 16 #[.int .i64 n] w fun e w' => e = .returned (.string (bt (Lib.itoa n))) ∧ w' = w :=
  (numberq_any n h0 h1 w).mono fun e w' ⟨h, hw⟩ => ⟨h, hw.symm⟩

set_option maxHeartbeats 4000000 in
set_option maxRecDepth 100000 in
theorem numq_blank (s : ByteArray) (g a : Nat) (w : World) (hs : s.size ≤ 140737488351232) (hI : IsQd w g s (.ok a)) (hb : s.data.toList[a]? = some 32) :
    Calls Tryd.prog 24 #[.pointer (some ⟨g, 0, none⟩)] w fun e w' => e = .returned (.int .i64 (numR s.data.toList (.ok (a + 1))).1) ∧ IsQd w' g s (numR s.data.toList (.ok (a + 1))).2 ∧ w.grownBy w' (some g) := by
  have HI := Lib.hid hI; clear hI
  have HB := Lib.hid hb; clear hb
  have hbl := (blankq_ok s g a w hs HI.out)
  rw [blankS, if_pos HB.out] at hbl
  have HBL := Lib.hid hbl; clear hbl
  generalize hp : a + 1 = p
  rw [hp] at HBL
  clear hp
  have hdneg : decide ((0 : Int) ≤ (-1 : Int)) = false := by decide
  go_enter Tryd.func24, Tryd.ntmps24
  go_wp2_with fail
  refine HBL.out.mono ?_
  rintro e w1 ⟨rfl, h1, h2⟩
  have hps := h1.1
  have hc0 := h1.2.cell0
  have hc1 := h1.2.cell1
  have hc2 := h1.2.cell2
  have hf1 := h1.2.free 1
  have H1 := Lib.hid h1; have H2 := Lib.hid h2; clear h1 h2
  go_upto_region 5 with fail
  have hall := digs_all (s.data.toList.drop p)
  obtain ⟨D, hD⟩ : ∃ D, D = digs (s.data.toList.drop p) := ⟨_, rfl⟩
  rw [← hD] at hall
  rcases sgn_cases (s.data.toList.drop p) with ⟨hk, hk2, hk3⟩ | ⟨hk, hk2⟩
  · rw [List.head?_drop] at hk3
    clear hk2
    have hpc : decide (p < s.size) = false ∨ (∃ h : p < s.size, ((s[p].toNat : Int) == 45) = false) := by
      by_cases h : p < s.size
      · right
        refine ⟨h, ?_⟩
        have h3 : s.data.toList[p]? = some s[p] := by rw [List.getElem?_eq_getElem (show p < s.data.toList.length from h)]; rfl
        have h4 : s[p].toNat ≠ 45 := fun e => hk3 (by rw [h3]; exact congrArg some (UInt8.toNat_inj.1 (by rw [e]; rfl)))
        simp; omega
      · left; exact decide_eq_false h
    clear hk3
    rcases hpc with dp | ⟨hp1, dp⟩
    all_goals (
      have hf : p = p + sgn (s.data.toList.drop p) := by simp [hk]
      have hlen : p + D.length ≤ s.size := by
        have h1 := numT_len (s.data.toList.drop p)
        rw [hk, ← hD, List.length_drop] at h1
        have h2 : s.data.toList.length = s.size := rfl
        omega
      have HAT := Lib.hid (fun q h0 h1 => num_at' s p p D hf hD q h0 h1)
      have HEND := Lib.hid (fun q hq h => num_end' s p p D hf hD q hq h)
      have HYES := Lib.hid (fun h9 h => numR_yes' s.data.toList p p D hf hD h9 h)
      have HNO := Lib.hid (show ¬ (D.length ≤ 9 ∧ Lib.itoa (numV (s.data.toList.drop p)) = numT (s.data.toList.drop p)) → numR s.data.toList (.ok p) = (0, .bad p) from fun h => numR_no s.data.toList p (by rw [← hD]; exact h))
      have HTX := Lib.hid (fun q hq => num_text' s p p D hf hD hps q hq)
      have HVV0 := Lib.hid (show numV (s.data.toList.drop p) = (digVal D : Int) by unfold numV; rw [hk, ← hD]; rfl)
      have HALL := Lib.hid hall
      clear hf hk hD hall
      have hFC : ((p : Nat) : Int) = (p : Int) := by omega
      have HFC := Lib.hid hFC; clear hFC
      go_wp2_with fail
      go_loop [3, 5] (fun k n => ∃ q : Nat, p ≤ q ∧ q ≤ p + D.length ∧ k = .int .i64 (q : Int) ∧ n = .int .i64 ((val9 D (q - p) : Nat) : Int)) (fun k _ => s.size - (intOf k).toNat)
      case atStart => exact ⟨p, Nat.le_refl _, by omega, by first | rfl | go_num | (rw [HFC.out]), by rw [Nat.sub_self, val9_zero]; rfl⟩
      case round =>
        obtain ⟨q, hq0, hq1, rfl, rfl⟩ := hrel
        have hv := val9_lt D (q - p) HALL.out
        by_cases hlt : q < p + D.length
        · obtain ⟨h1, h2, h3, h4, h5⟩ := HAT.out q hq0 hlt
          have h2' : (48 : Int) ≤ (s[q].toNat : Int) := by omega
          have h3' : (s[q].toNat : Int) ≤ 57 := by omega
          by_cases h9 : q - p < 9
          · have hval := num_val s q D p hq0 h1 h4 h5 h9
            have HV := Lib.hid hval; have HD5 := Lib.hid h5; clear hval h5
            generalize val9 D (q - p) = V at hv HV ⊢
            have d9 : decide ((q : Int) - (p : Int) < 9) = true := decide_eq_true (by omega)
            have w1' : IntKind.u8.wrap ((s[q].toNat : Int) - 48) = (s[q].toNat : Int) - 48 := IntWalk.u8_in _ (by omega)
            go_wp2_with fail
            go_round
            case rel => exact ⟨q + 1, by omega, by omega, by go_num, by rw [HV.out]; go_num⟩
            case measure => go_light; simp [intOf]; omega
          · have hval := val9_stay D (q - p) h9
            rw [show q - p + 1 = q + 1 - p by omega] at hval
            have HV := Lib.hid hval; have HD5 := Lib.hid h5; clear hval h5
            generalize val9 D (q - p) = V at hv HV ⊢
            have d9 : decide ((q : Int) - (p : Int) < 9) = false := decide_eq_false (by omega)
            go_wp2_with fail
            go_round
            case rel => exact ⟨q + 1, by omega, by omega, by go_num, by rw [HV.out]⟩
            case measure => go_light; simp [intOf]; omega
        · have hq : q = p + D.length := by omega
          have hx : q = s.size ∨ (∃ h : q < s.size, (s[q].toNat : Int) < 48) ∨ (∃ h : q < s.size, 48 ≤ (s[q].toNat : Int) ∧ 57 < (s[q].toNat : Int)) := by
            by_cases h : q < s.size
            · have h2 := HEND.out q hq h
              by_cases h3 : 48 ≤ s[q].toNat
              · exact .inr (.inr ⟨h, by omega, by omega⟩)
              · exact .inr (.inl ⟨h, by omega⟩)
            · exact .inl (by omega)
          have HQ := Lib.hid hq
          have hqp : q - p = D.length := by omega
          rw [hqp]
          rw [hqp] at hv
          have hqs : q ≤ s.size := by omega
          have hqq : (q : Int) - (p : Int) = (D.length : Int) := by omega
          have HQQ := Lib.hid hqq
          clear hqp hq hqq
          have HV9 := Lib.hid (fun h => val9_all D h)
          generalize val9 D D.length = V at hv HV9 ⊢
          rcases hx with hx | ⟨hks, hx⟩ | ⟨hks, hx, hx2⟩
          all_goals (
            first
              | (have d1 : decide (q < s.size) = true := decide_eq_true (by omega); have d2 : decide (48 ≤ (s[q].toNat : Int)) = false := decide_eq_false (by omega); clear hx)
              | (have d1 : decide (q < s.size) = true := decide_eq_true (by omega); have d2 : decide (48 ≤ (s[q].toNat : Int)) = true := decide_eq_true (by omega); have d3 : decide ((s[q].toNat : Int) ≤ 57) = false := decide_eq_false (by omega); clear hx hx2)
              | (have d1 : decide (q < s.size) = false := decide_eq_false (by omega); clear hx)
            by_cases h9 : D.length ≤ 9
            · have hvv : numV (s.data.toList.drop p) = (V : Int) := by rw [HVV0.out, HV9.out h9]
              have HVV := Lib.hid hvv; clear hvv
              have d9 : decide ((9 : Int) < (q : Int) - (p : Int)) = false := decide_eq_false (by have := HQQ.out; omega)
              have i0 : (0 : Int) ≤ (p : Int) := by omega
              have i1 : (p : Int) ≤ (q : Int) := by omega
              have i2 : (q : Int) ≤ (s.size : Int) := by omega
              have w3 : IntKind.i64.wrap (-(V : Int)) = -(V : Int) := IntWalk.i64_in _ (by omega)
              have w4 : IntKind.i64.wrap ((q : Int) - (p : Int)) = (q : Int) - (p : Int) := IntWalk.i64_in _ (by omega)
              go_upto_region 15 with fail
              go_quiet ((go_at_call 16; exact Calls.quiet_of_same (numberq_q ((V : Int)) (by omega) (by omega) _)))
              have H5 := Lib.hid (show IsQd (w1.drewN nq) g s (.ok p) from H1.out)
              have G5 := Lib.hid (grown_trans H2.out (grown_drewN w1 nq (some g)))
              have hc1' : (w1.drewN nq).cell? ⟨g, 1, none⟩ = some (.int .i64 p) := hc1
              have hf1' : (w1.drewN nq).frozen? ⟨g, 1, none⟩ = false := hf1
              generalize w1.drewN nq = w5 at H5 G5 hc1' hf1' ⊢
              go_wp2_with (go_at_call 26; refine (wrongq_any s g p p _ H5.out).mono ?_; rintro e w6 ⟨rfl, h6, g6⟩; have H6 := Lib.hid h6; have G6 := Lib.hid g6; clear h6 g6)
              · have hne : ¬ Lib.itoa ((V : Int)) = numT (s.data.toList.drop p) := by
                  have h : (!(bt (Lib.itoa ((V : Int)))).toList == (s.extract p q).toList) = true := by assumption
                  rw [Lib.toList_data, Lib.toList_data, HTX.out q HQ.out] at h
                  intro e
                  rw [← e] at h
                  simp [bt] at h
                have hn := HNO.out (fun h => hne (by rw [← HVV.out]; exact h.2))
                have HN := Lib.hid hn; clear hn hne
                go_ret
                refine ⟨?_, ?_, grown_trans G5.out G6.out⟩
                · rw [HN.out]; rfl
                · rw [HN.out]; exact H6.out
              · have heq : Lib.itoa ((V : Int)) = numT (s.data.toList.drop p) := by
                  have h : (!(bt (Lib.itoa ((V : Int)))).toList == (s.extract p q).toList) = false := by assumption
                  rw [Lib.toList_data, Lib.toList_data, HTX.out q HQ.out] at h
                  have h2 : ((bt (Lib.itoa ((V : Int)))).data.toList == numT (s.data.toList.drop p)) = true := by simpa using h
                  exact (eq_of_beq h2)
                have hy := HYES.out h9 (by rw [HVV.out]; exact heq)
                have HY := Lib.hid hy; clear hy heq
                go_ret
                refine ⟨?_, ?_, grown_trans G5.out (grown_set _ _ _ _)⟩
                · rw [HY.out]; exact ret_i64 HVV.out.symm
                · rw [HY.out, ← HQ.out]; exact ⟨hqs, H5.out.2.set1 _⟩
            · have d9 : decide ((9 : Int) < (q : Int) - (p : Int)) = true := decide_eq_true (by have := HQQ.out; omega)
              have hn := HNO.out (fun h => h9 h.1)
              have HN := Lib.hid hn; clear hn
              have w4 : IntKind.i64.wrap ((q : Int) - (p : Int)) = (q : Int) - (p : Int) := IntWalk.i64_in _ (by omega)
              go_upto_region 15 with fail
              go_quiet (fail)
              have H5 := Lib.hid (show IsQd (w1.drewN nq) g s (.ok p) from H1.out)
              have G5 := Lib.hid (grown_trans H2.out (grown_drewN w1 nq (some g)))
              have hc1' : (w1.drewN nq).cell? ⟨g, 1, none⟩ = some (.int .i64 p) := hc1
              generalize w1.drewN nq = w5 at H5 G5 hc1' ⊢
              go_wp2_with (go_at_call 26; refine (wrongq_any s g p p _ H5.out).mono ?_; rintro e w6 ⟨rfl, h6, g6⟩; have H6 := Lib.hid h6; have G6 := Lib.hid g6; clear h6 g6)
              go_ret
              refine ⟨?_, ?_, grown_trans G5.out G6.out⟩
              · rw [HN.out]; rfl
              · rw [HN.out]; exact H6.out))
  · have hk3 : (s.data.toList.drop p).head? = some 45 := by
      have hk4 := hk; unfold sgn at hk4; split at hk4 <;> first | assumption | cases hk4
    rw [List.head?_drop] at hk3
    clear hk2
    have hp1 : p < s.size := (List.getElem?_eq_some_iff.1 hk3).1
    have dp : ((s[p].toNat : Int) == 45) = true := by
      have h3 : s.data.toList[p]? = some s[p] := by rw [List.getElem?_eq_getElem (show p < s.data.toList.length from hp1)]; rfl
      rw [h3] at hk3
      have h4 : s[p] = 45 := Option.some.inj hk3
      rw [h4]; rfl
    clear hk3
    have hf : (p + 1) = p + sgn (s.data.toList.drop p) := by simp [hk]
    have hlen : (p + 1) + D.length ≤ s.size := by
      have h1 := numT_len (s.data.toList.drop p)
      rw [hk, ← hD, List.length_drop] at h1
      have h2 : s.data.toList.length = s.size := rfl
      omega
    have HAT := Lib.hid (fun q h0 h1 => num_at' s p (p + 1) D hf hD q h0 h1)
    have HEND := Lib.hid (fun q hq h => num_end' s p (p + 1) D hf hD q hq h)
    have HYES := Lib.hid (fun h9 h => numR_yes' s.data.toList p (p + 1) D hf hD h9 h)
    have HNO := Lib.hid (show ¬ (D.length ≤ 9 ∧ Lib.itoa (numV (s.data.toList.drop p)) = numT (s.data.toList.drop p)) → numR s.data.toList (.ok p) = (0, .bad p) from fun h => numR_no s.data.toList p (by rw [← hD]; exact h))
    have HTX := Lib.hid (fun q hq => num_text' s p (p + 1) D hf hD hps q hq)
    have HVV0 := Lib.hid (show numV (s.data.toList.drop p) = -(digVal D : Int) by unfold numV; rw [hk, ← hD]; rfl)
    have HALL := Lib.hid hall
    clear hf hk hD hall
    have hFC : (((p + 1) : Nat) : Int) = ((p : Int) + 1) := by omega
    have HFC := Lib.hid hFC; clear hFC
    go_wp2_with fail
    go_loop [3, 5] (fun k n => ∃ q : Nat, (p + 1) ≤ q ∧ q ≤ (p + 1) + D.length ∧ k = .int .i64 (q : Int) ∧ n = .int .i64 ((val9 D (q - (p + 1)) : Nat) : Int)) (fun k _ => s.size - (intOf k).toNat)
    case atStart => exact ⟨(p + 1), Nat.le_refl _, by omega, by first | rfl | go_num | (rw [HFC.out]), by rw [Nat.sub_self, val9_zero]; rfl⟩
    case round =>
      obtain ⟨q, hq0, hq1, rfl, rfl⟩ := hrel
      have hv := val9_lt D (q - (p + 1)) HALL.out
      by_cases hlt : q < (p + 1) + D.length
      · obtain ⟨h1, h2, h3, h4, h5⟩ := HAT.out q hq0 hlt
        have h2' : (48 : Int) ≤ (s[q].toNat : Int) := by omega
        have h3' : (s[q].toNat : Int) ≤ 57 := by omega
        by_cases h9 : q - (p + 1) < 9
        · have hval := num_val s q D (p + 1) hq0 h1 h4 h5 h9
          have HV := Lib.hid hval; have HD5 := Lib.hid h5; clear hval h5
          generalize val9 D (q - (p + 1)) = V at hv HV ⊢
          have d9 : decide ((q : Int) - ((p : Int) + 1) < 9) = true := decide_eq_true (by omega)
          have w1' : IntKind.u8.wrap ((s[q].toNat : Int) - 48) = (s[q].toNat : Int) - 48 := IntWalk.u8_in _ (by omega)
          go_wp2_with fail
          go_round
          case rel => exact ⟨q + 1, by omega, by omega, by go_num, by rw [HV.out]; go_num⟩
          case measure => go_light; simp [intOf]; omega
        · have hval := val9_stay D (q - (p + 1)) h9
          rw [show q - (p + 1) + 1 = q + 1 - (p + 1) by omega] at hval
          have HV := Lib.hid hval; have HD5 := Lib.hid h5; clear hval h5
          generalize val9 D (q - (p + 1)) = V at hv HV ⊢
          have d9 : decide ((q : Int) - ((p : Int) + 1) < 9) = false := decide_eq_false (by omega)
          go_wp2_with fail
          go_round
          case rel => exact ⟨q + 1, by omega, by omega, by go_num, by rw [HV.out]⟩
          case measure => go_light; simp [intOf]; omega
      · have hq : q = (p + 1) + D.length := by omega
        have hx : q = s.size ∨ (∃ h : q < s.size, (s[q].toNat : Int) < 48) ∨ (∃ h : q < s.size, 48 ≤ (s[q].toNat : Int) ∧ 57 < (s[q].toNat : Int)) := by
          by_cases h : q < s.size
          · have h2 := HEND.out q hq h
            by_cases h3 : 48 ≤ s[q].toNat
            · exact .inr (.inr ⟨h, by omega, by omega⟩)
            · exact .inr (.inl ⟨h, by omega⟩)
          · exact .inl (by omega)
        have HQ := Lib.hid hq
        have hqp : q - (p + 1) = D.length := by omega
        rw [hqp]
        rw [hqp] at hv
        have hqs : q ≤ s.size := by omega
        have hqq : (q : Int) - ((p : Int) + 1) = (D.length : Int) := by omega
        have HQQ := Lib.hid hqq
        clear hqp hq hqq
        have HV9 := Lib.hid (fun h => val9_all D h)
        generalize val9 D D.length = V at hv HV9 ⊢
        rcases hx with hx | ⟨hks, hx⟩ | ⟨hks, hx, hx2⟩
        all_goals (
          first
            | (have d1 : decide (q < s.size) = true := decide_eq_true (by omega); have d2 : decide (48 ≤ (s[q].toNat : Int)) = false := decide_eq_false (by omega); clear hx)
            | (have d1 : decide (q < s.size) = true := decide_eq_true (by omega); have d2 : decide (48 ≤ (s[q].toNat : Int)) = true := decide_eq_true (by omega); have d3 : decide ((s[q].toNat : Int) ≤ 57) = false := decide_eq_false (by omega); clear hx hx2)
            | (have d1 : decide (q < s.size) = false := decide_eq_false (by omega); clear hx)
          by_cases h9 : D.length ≤ 9
          · have hvv : numV (s.data.toList.drop p) = -(V : Int) := by rw [HVV0.out, HV9.out h9]
            have HVV := Lib.hid hvv; clear hvv
            have d9 : decide ((9 : Int) < (q : Int) - ((p : Int) + 1)) = false := decide_eq_false (by have := HQQ.out; omega)
            have i0 : (0 : Int) ≤ (p : Int) := by omega
            have i1 : (p : Int) ≤ (q : Int) := by omega
            have i2 : (q : Int) ≤ (s.size : Int) := by omega
            have w3 : IntKind.i64.wrap (-(V : Int)) = -(V : Int) := IntWalk.i64_in _ (by omega)
            have w4 : IntKind.i64.wrap ((q : Int) - ((p : Int) + 1)) = (q : Int) - ((p : Int) + 1) := IntWalk.i64_in _ (by omega)
            go_upto_region 15 with fail
            go_quiet ((go_at_call 16; exact Calls.quiet_of_same (numberq_q (-(V : Int)) (by omega) (by omega) _)))
            have H5 := Lib.hid (show IsQd (w1.drewN nq) g s (.ok p) from H1.out)
            have G5 := Lib.hid (grown_trans H2.out (grown_drewN w1 nq (some g)))
            have hc1' : (w1.drewN nq).cell? ⟨g, 1, none⟩ = some (.int .i64 p) := hc1
            have hf1' : (w1.drewN nq).frozen? ⟨g, 1, none⟩ = false := hf1
            generalize w1.drewN nq = w5 at H5 G5 hc1' hf1' ⊢
            go_wp2_with (go_at_call 26; refine (wrongq_any s g p p _ H5.out).mono ?_; rintro e w6 ⟨rfl, h6, g6⟩; have H6 := Lib.hid h6; have G6 := Lib.hid g6; clear h6 g6)
            · have hne : ¬ Lib.itoa (-(V : Int)) = numT (s.data.toList.drop p) := by
                have h : (!(bt (Lib.itoa (-(V : Int)))).toList == (s.extract p q).toList) = true := by assumption
                rw [Lib.toList_data, Lib.toList_data, HTX.out q HQ.out] at h
                intro e
                rw [← e] at h
                simp [bt] at h
              have hn := HNO.out (fun h => hne (by rw [← HVV.out]; exact h.2))
              have HN := Lib.hid hn; clear hn hne
              go_ret
              refine ⟨?_, ?_, grown_trans G5.out G6.out⟩
              · rw [HN.out]; rfl
              · rw [HN.out]; exact H6.out
            · have heq : Lib.itoa (-(V : Int)) = numT (s.data.toList.drop p) := by
                have h : (!(bt (Lib.itoa (-(V : Int)))).toList == (s.extract p q).toList) = false := by assumption
                rw [Lib.toList_data, Lib.toList_data, HTX.out q HQ.out] at h
                have h2 : ((bt (Lib.itoa (-(V : Int)))).data.toList == numT (s.data.toList.drop p)) = true := by simpa using h
                exact (eq_of_beq h2)
              have hy := HYES.out h9 (by rw [HVV.out]; exact heq)
              have HY := Lib.hid hy; clear hy heq
              go_ret
              refine ⟨?_, ?_, grown_trans G5.out (grown_set _ _ _ _)⟩
              · rw [HY.out]; exact ret_i64 HVV.out.symm
              · rw [HY.out, ← HQ.out]; exact ⟨hqs, H5.out.2.set1 _⟩
          · have d9 : decide ((9 : Int) < (q : Int) - ((p : Int) + 1)) = true := decide_eq_true (by have := HQQ.out; omega)
            have hn := HNO.out (fun h => h9 h.1)
            have HN := Lib.hid hn; clear hn
            have w4 : IntKind.i64.wrap ((q : Int) - ((p : Int) + 1)) = (q : Int) - ((p : Int) + 1) := IntWalk.i64_in _ (by omega)
            go_upto_region 15 with fail
            go_quiet (fail)
            have H5 := Lib.hid (show IsQd (w1.drewN nq) g s (.ok p) from H1.out)
            have G5 := Lib.hid (grown_trans H2.out (grown_drewN w1 nq (some g)))
            have hc1' : (w1.drewN nq).cell? ⟨g, 1, none⟩ = some (.int .i64 p) := hc1
            generalize w1.drewN nq = w5 at H5 G5 hc1' ⊢
            go_wp2_with (go_at_call 26; refine (wrongq_any s g p p _ H5.out).mono ?_; rintro e w6 ⟨rfl, h6, g6⟩; have H6 := Lib.hid h6; have G6 := Lib.hid g6; clear h6 g6)
            go_ret
            refine ⟨?_, ?_, grown_trans G5.out G6.out⟩
            · rw [HN.out]; rfl
            · rw [HN.out]; exact H6.out)

/-- The answer's number, in whatever state. -/
theorem numq_any (s : ByteArray) (g : Nat) (σ : RS) (w : World) (hs : s.size ≤ 140737488351232) (hI : IsQd w g s σ) :
    Calls Tryd.prog 24 #[.pointer (some ⟨g, 0, none⟩)] w fun e w' => e = .returned (.int .i64 (numS s.data.toList σ).1) ∧ IsQd w' g s (numS s.data.toList σ).2 ∧ w.grownBy w' (some g) := by
  unfold numS
  cases σ with
  | bad p =>
    refine (numq_bad s g p w hI).mono ?_
    rintro e w' ⟨rfl, rfl⟩
    exact ⟨rfl, hI, grown_refl _ _⟩
  | ok a =>
    by_cases hb : s.data.toList[a]? = some 32
    · rw [blankS, if_pos hb]
      exact numq_blank s g a w hs hI hb
    · rw [blankS, if_neg hb]
      exact numq_noblank s g a w hs hI hb
end Go.Proofs.YtgkpbpcebgegbaaDoor
