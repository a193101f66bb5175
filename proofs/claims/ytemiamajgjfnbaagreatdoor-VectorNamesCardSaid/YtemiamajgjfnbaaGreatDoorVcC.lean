/- vector.plain, Escape, Plain. -/
import Derived.Test.YtemiamajgjfnbaaGreatDoorVcB
import Derived.StillTailTactics
namespace Go.Proofs.YtemiamajgjfnbaaGreatDoor
open Go.RowKit Vc
set_option linter.unusedVariables false
set_option linter.unusedSimpArgs false

theorem four_idx (c : UInt8) : Lib.indexByte [38, 60, 62, 34] c = (if c = 38 then 0 else if c = 60 then 1 else if c = 62 then 2 else if c = 34 then 3 else -1) := by
  have h : ∀ n : Fin 256, Lib.indexByte [38, 60, 62, 34] (UInt8.ofNat n.val) = (if UInt8.ofNat n.val = 38 then 0 else if UInt8.ofNat n.val = 60 then 1 else if UInt8.ofNat n.val = 62 then 2 else if UInt8.ofNat n.val = 34 then 3 else -1) := by decide +kernel
  have := h ⟨c.toNat, c.toNat_lt⟩
  simpa using this
/-- Which of the four a byte is; -1: none. -/
def fourI (c : UInt8) : Int := Lib.indexByte [38, 60, 62, 34] c
theorem fourI_neg (c : UInt8) : decide (fourI c < 0) = !((c.toNat : Int) == 38 || (c.toNat : Int) == 60 || (c.toNat : Int) == 62 || (c.toNat : Int) == 34) := by
  have h : ∀ n : Fin 256, decide (fourI (UInt8.ofNat n.val) < 0) = !(((UInt8.ofNat n.val).toNat : Int) == 38 || ((UInt8.ofNat n.val).toNat : Int) == 60 || ((UInt8.ofNat n.val).toNat : Int) == 62 || ((UInt8.ofNat n.val).toNat : Int) == 34) := by decide +kernel
  have := h ⟨c.toNat, c.toNat_lt⟩
  simpa using this
theorem four_any (c : UInt8) (w : World) :
    Calls Tryz.prog 20 #[.string ⟨#[38, 60, 62, 34]⟩, .int .u8 (c.toNat : Int)] w fun e w' => e = .returned (.int .i64 (fourI c)) ∧ w = w' := by
  have := Tryz.strings_IndexByte ⟨#[38, 60, 62, 34]⟩ c.toNat w
  rw [Lib.byte_back'] at this
  exact this.mono fun e w' ⟨h, hw⟩ => ⟨h, hw.symm⟩
set_option maxHeartbeats 400000 in
theorem vplain_any (b : UInt8) (w : World) :
    Calls Tryz.prog 19 #[.int .u8 (b.toNat : Int)] w fun e w' => e = .returned (.bool (plainI (b.toNat : Int))) ∧ w = w' := by
  by_cases h : 32 < (b.toNat : Int)
  · by_cases h2 : (b.toNat : Int) < 127
    · have hf := fourI_neg b
      have hp : plainI (b.toNat : Int) = decide (fourI b < 0) := by rw [hf]; simp [plainI, h, h2]
      rw [hp]
      clear hf hp
      go_enter Tryz.func19, Tryz.ntmps19
      go_wp2_with (go_at_call 20; refine (four_any b _).mono ?_; rintro e w' ⟨rfl, rfl⟩)
      go_ret
      exact ⟨rfl, rfl⟩
    · have hd : decide ((b.toNat : Int) < 127) = false := decide_eq_false h2
      go_enter Tryz.func19, Tryz.ntmps19
      go_wp2_with fail
      go_ret
      exact ⟨by simp [plainI, hd], rfl⟩
  · have hd : decide (32 < (b.toNat : Int)) = false := decide_eq_false h
    go_enter Tryz.func19, Tryz.ntmps19
    go_wp2_with fail
    go_ret
    exact ⟨by simp [plainI, hd], rfl⟩
theorem vplain_q (b : UInt8) (w : World) :
    Calls Tryz.prog 19 #[.int .u8 (b.toNat : Int)] w fun e w' => e = .returned (.bool (plainI (b.toNat : Int))) ∧ w' = w :=
  (vplain_any b w).mono fun e w' ⟨h, hw⟩ => ⟨h, hw.symm⟩
theorem vesc_snoc (l : List UInt8) (k : Nat) (h : k < l.length) : esc (l.take (k + 1)) = esc (l.take k) ++ esc1 l[k] := by
  rw [List.take_succ_eq_append_getElem h, esc_append]
  simp [esc]
theorem nib_hi (c : UInt8) : (c.toNat / 16) < 16 := by have := c.toNat_lt; omega
theorem and15 (c : UInt8) : bits .and .u8 (c.toNat : Int) 15 = (c.toNat : Int) % 16 := by
  have h : ∀ n : Fin 256, bits .and .u8 ((UInt8.ofNat n.val).toNat : Int) 15 = ((UInt8.ofNat n.val).toNat : Int) % 16 := by decide +kernel
  have := h ⟨c.toNat, c.toNat_lt⟩
  simpa using this
theorem hex_cut (n : Nat) (h : n < 16) : (⟨#[48, 49, 50, 51, 52, 53, 54, 55, 56, 57, 97, 98, 99, 100, 101, 102]⟩ : ByteArray).extract n (n + 1) = bt [Ev.nib n] := by
  have : ∀ n : Fin 16, (⟨#[48, 49, 50, 51, 52, 53, 54, 55, 56, 57, 97, 98, 99, 100, 101, 102]⟩ : ByteArray).extract n.val (n.val + 1) = bt [Ev.nib n.val] := by decide +kernel
  exact this ⟨n, h⟩
theorem hex_cutI (x : Int) (n : Nat) (hx : x = (n : Int)) (h : n < 16) : (⟨#[48, 49, 50, 51, 52, 53, 54, 55, 56, 57, 97, 98, 99, 100, 101, 102]⟩ : ByteArray).extract x.toNat (x + 1).toNat = bt [Ev.nib n] := by
  subst hx
  rw [show ((n : Int) + 1).toNat = n + 1 by omega, Int.toNat_natCast]
  exact hex_cut n h
/-- The escaped form of a byte, as Escape puts it together. -/
def tripB (b : UInt8) : ByteArray := bt [38, Ev.nib (b.toNat / 16), Ev.nib (b.toNat % 16), 59]

set_option maxHeartbeats 4000000 in
set_option maxRecDepth 100000 in
theorem vesc_any (s : ByteArray) (w : World) (hs : s.size ≤ 35184372088832) :
    Calls Tryz.prog 9 #[.string s] w fun e w' => e = .returned (.string (bt (esc s.data.toList))) ∧ Below w.heap.size w w' := by
  go_enter Tryz.func9, Tryz.ntmps9
  go_wp2_with fail
  go_loopw [7] (fun i wr => ∃ k : Nat, i = .int .i64 k ∧ k ≤ s.size ∧ Hid (IsB w.heap.size w.heap.size (esc (s.data.toList.take k)) wr) ∧ Hid (Below w.heap.size w wr)) (fun i _ => s.size - (intOf i).toNat)
  case atStart => exact ⟨0, rfl, Nat.zero_le _, Lib.hid (isB_new w _ (Nat.le_refl _)), Lib.hid ((Below.refl _ _).alloc (Nat.le_refl _) _)⟩
  case round =>
    obtain ⟨k, rfl, hk, HO, HW⟩ := hrel
    have hL : (esc (s.data.toList.take k)).length ≤ 4 * k := by
      have h1 := esc_len (s.data.toList.take k)
      have h2 : (s.data.toList.take k).length ≤ k := by simp; omega
      omega
    by_cases hlt : k < s.size
    · have hsn := vesc_snoc s.data.toList k hlt
      rw [data_get s k hlt] at hsn
      have HSN := Lib.hid hsn; clear hsn
      generalize esc (s.data.toList.take k) = L at HO HSN hL
      cases hpl : plainI (s[k].toNat : Int) with
      | true =>
        go_wp2_with (first | (go_at_call 19; refine (vplain_any _ _).mono ?_; rintro e w' ⟨rfl, rfl⟩) | (go_at_call 21; refine (writeByte_any w.heap.size w.heap.size L s[k] _ HO.out (by omega) HW.out.size).mono ?_; rintro e w' ⟨rfl, h1, h2⟩; have H1 := Lib.hid h1; have H2 := Lib.hid (HW.out.trans h2); clear h1 h2))
        go_roundw
        case rel =>
          go_light
          refine ⟨k + 1, by go_num, by omega, Lib.hid ?_, H2⟩
          rw [HSN.out, esc1, if_pos (show plainB s[k] = true from hpl)]; exact H1.out
        case measure => go_light; simp [intOf]; omega
      | false =>
        have hn1 := nib_hi s[k]
        have hn2 : s[k].toNat % 16 < 16 := Nat.mod_lt _ (by decide)
        have i0 : (0 : Int) ≤ (k : Int) := by omega
        have i1 : (k : Int) < (s.size : Int) := by omega
        have j0 : (0 : Int) ≤ (s[k].toNat : Int) / 16 := by omega
        have j1 : (s[k].toNat : Int) / 16 ≤ (s[k].toNat : Int) / 16 + 1 := by omega
        have j2 : (s[k].toNat : Int) / 16 + 1 ≤ 16 := by omega
        have j3 : IntKind.u8.wrap ((s[k].toNat : Int) / 16 + 1) = (s[k].toNat : Int) / 16 + 1 := IntWalk.u8_in _ (by omega)
        have l0 : (0 : Int) ≤ (s[k].toNat : Int) % 16 := by omega
        have l1 : (s[k].toNat : Int) % 16 ≤ (s[k].toNat : Int) % 16 + 1 := by omega
        have l2 : (s[k].toNat : Int) % 16 + 1 ≤ 16 := by omega
        have l3 : IntKind.u8.wrap ((s[k].toNat : Int) % 16 + 1) = (s[k].toNat : Int) % 16 + 1 := IntWalk.u8_in _ (by omega)
        have q1 := and15 s[k]
        obtain ⟨A, hA⟩ : ∃ A, bt [Ev.nib (s[k].toNat / 16)] = A := ⟨_, rfl⟩
        obtain ⟨B, hB⟩ : ∃ B, bt [Ev.nib (s[k].toNat % 16)] = B := ⟨_, rfl⟩
        have e1 := hex_cutI ((s[k].toNat : Int) / 16) (s[k].toNat / 16) (by omega) hn1
        have e2 := hex_cutI ((s[k].toNat : Int) % 16) (s[k].toNat % 16) (by omega) hn2
        have zA : A.size = 1 := by rw [← hA]; rfl
        have zB : B.size = 1 := by rw [← hB]; rfl
        have m1 : ¬ 9223372036854775807 < 1 + A.size := by omega
        have m2 : ¬ 9223372036854775807 < 1 + A.size + B.size := by omega
        have m3 : ¬ 9223372036854775807 < 1 + A.size + B.size + 1 := by omega
        rw [hA] at e1; rw [hB] at e2
        have HA := Lib.hid hA; have HB := Lib.hid hB; have ZA := Lib.hid zA; have ZB := Lib.hid zB; clear hA hB zA zB
        go_upto_region 7 with (go_at_call 19; refine (vplain_any _ _).mono ?_; rintro e w' ⟨rfl, rfl⟩)
        go_still_tail 23, (by kernel_rfl)
        clear q1 e1 e2 m1 m2 m3 j0 j1 j2 j3 l0 l1 l2 l3
        change wpList _ _ _ _ _ wr.drew
        have HWd := Lib.hid HW.out.drew
        have HOd : IsB w.heap.size w.heap.size L wr.drew := HO.out
        have HO2 := Lib.hid HOd; clear HOd
        generalize wr.drew = w2 at HWd HO2 ⊢
        go_wp2_with fail
        have hcat : (⟨#[38]⟩ ++ A ++ B ++ ⟨#[59]⟩ : ByteArray) = bt (esc1 s[k]) := by
          rw [← HA.out, ← HB.out]
          show bt [38] ++ bt _ ++ bt _ ++ bt [59] = _
          rw [bt_append, bt_append, bt_append, esc1, if_neg (show ¬ plainB s[k] = true by unfold plainB; rw [hpl]; decide)]; rfl
        generalize (⟨#[38]⟩ ++ A ++ B ++ ⟨#[59]⟩ : ByteArray) = T at hcat ⊢
        have hT : T.size ≤ 4 := by rw [hcat]; exact esc1_len s[k]
        have hTl : T.data.toList = esc1 s[k] := by rw [hcat]; simp [bt]
        have HT := Lib.hid hTl; clear hcat hTl
        refine (writeString_any w.heap.size w.heap.size L T w2 HO2.out (by omega) HWd.out.size).mono ?_
        rintro e w3 ⟨rfl, h1, h2⟩
        have H3 := Lib.hid h1; have H2 := Lib.hid (HWd.out.trans h2); clear h1 h2
        go_wp2_with fail
        go_roundw
        case rel =>
          go_light
          refine ⟨k + 1, by go_num, by omega, Lib.hid ?_, H2⟩
          rw [HSN.out, ← HT.out]; exact H3.out
        case measure => go_light; simp [intOf]; omega
    · obtain rfl : k = s.size := by omega
      have hall : esc (s.data.toList.take s.size) = esc s.data.toList := by rw [List.take_of_length_le (by exact Nat.le_refl _)]
      rw [hall] at HO
      go_wp2_with (go_at_call 18; refine (bString_any w.heap.size w.heap.size _ _ HO.out HW.out.size).mono ?_; rintro e w' ⟨rfl, h1, h2⟩; have H2 := Lib.hid (HW.out.trans h2); clear h1 h2)
      go_ret
      exact ⟨rfl, H2.out⟩

theorem vdec_plain (l : List UInt8) (k : Nat) (acc : List UInt8) (h : k < l.length) (hp : plainB l[k] = true) : dec (l.drop k) k acc = dec (l.drop (k + 1)) (k + 1) (acc ++ [l[k]]) := by
  rw [List.drop_eq_getElem_cons h, dec_cons, if_pos hp]
theorem vdec_bad (l : List UInt8) (k : Nat) (acc : List UInt8) (h : k < l.length) (hp : plainB l[k] = false) (hb : ¬ (l[k] = 38 ∧ l[k + 3]? = some 59)) : dec (l.drop k) k acc = .inl k := by
  rw [List.drop_eq_getElem_cons h, dec_cons, if_neg (by rw [hp]; decide)]
  split
  · rename_i x y z r' he
    have h3 : l[k + 3]? = some z := by
      have := congrArg (fun q : List UInt8 => q[2]?) he
      simpa using this
    rw [if_neg]
    rintro ⟨h1, rfl⟩
    exact hb ⟨h1, h3⟩
  · rfl
theorem vdec_hex (l : List UInt8) (k : Nat) (acc : List UInt8) (h : k + 3 < l.length) (hp : plainB (l[k]'(by omega)) = false) (h38 : (l[k]'(by omega)) = 38) (h59 : l[k + 3] = 59) : dec (l.drop k) k acc =
    match Ev.val? (l[k + 1]'(by omega)), Ev.val? (l[k + 2]'(by omega)) with
    | some a, some b => if plainB (UInt8.ofNat (16 * a + b)) = true then .inl k else dec (l.drop (k + 4)) (k + 4) (acc ++ [UInt8.ofNat (16 * a + b)])
    | _, _ => .inl k := by
  rw [List.drop_eq_getElem_cons (by omega), List.drop_eq_getElem_cons (show k + 1 < l.length by omega), List.drop_eq_getElem_cons (show k + 1 + 1 < l.length by omega), List.drop_eq_getElem_cons (show k + 1 + 1 + 1 < l.length by omega), dec_cons, if_neg (by rw [hp]; decide)]
  simp only
  rw [if_pos ⟨h38, h59⟩]
  rfl
/-- What Plain hands back: the text, the place, the error. -/
def plainV (l : Bytes) : Bytes × Int × Int := match dec l 0 [] with | .inl i => ([], (i : Int), 160) | .inr v => (v, 0, 0)

set_option maxHeartbeats 4000000 in
set_option maxRecDepth 100000 in
theorem vplainS_any (W : ByteArray) (w : World) (hs : W.size ≤ 140737488351232) :
    Calls Tryz.prog 8 #[.string W] w fun e w' => e = .returned (.tuple #[.string (bt (plainV W.data.toList).1), .int .i64 (plainV W.data.toList).2.1, .int .i64 (plainV W.data.toList).2.2]) ∧ Below w.heap.size w w' := by
  go_enter Tryz.func8, Tryz.ntmps8
  go_wp2_with fail
  go_loopw [5, 6] (fun v i wr => ∃ (k : Nat) (acc : List UInt8), i = .int .i64 k ∧ k ≤ W.size ∧ acc.length ≤ k ∧ Hid (dec (W.data.toList.drop k) k acc = dec W.data.toList 0 []) ∧ Hid (OwnB wr w.heap.size v acc) ∧ Hid (Below w.heap.size w wr)) (fun _ i _ => W.size - (intOf i).toNat)
  case atStart => exact ⟨0, [], rfl, Nat.zero_le _, Nat.le_refl _, Lib.hid rfl, Lib.hid (OwnB.nil _ _), Lib.hid (Below.refl _ _)⟩
  case round =>
    obtain ⟨k, acc, rfl, hk, hak, HD, HO, HBW⟩ := hrel
    by_cases hlt : k < W.size
    · have herr : ∀ q : Nat, dec W.data.toList 0 [] = .inl q → plainV W.data.toList = ([], (q : Int), 160) := by
        intro q hq
        unfold plainV; rw [hq]
      have HERR := Lib.hid herr; clear herr
      cases hpl : plainI (W[k].toNat : Int) with
      | true =>
        go_wp2_with (first | (go_at_call 19; refine (vplain_any _ _).mono ?_; rintro e w' ⟨rfl, rfl⟩) | (at_builtin; refine wp_append_byte rfl (.tmp 19) (.tmp 23) rfl w.heap.size u5 acc W[k] _ rfl rfl HO.out rfl (by omega) HBW.out.size ?_; intro v' w' hown hgr; have HO' := Lib.hid hown; have HGR := Lib.hid hgr; clear hown hgr))
        go_roundw
        case rel =>
          go_light
          refine ⟨k + 1, acc ++ [W[k]], by go_num, by omega, by simp; omega, Lib.hid ?_, HO', Lib.hid ?_⟩
          · rw [← HD.out, vdec_plain W.data.toList k acc hlt hpl]; rfl
          · exact (HBW.out.alloc HBW.out.size _).grown HGR.out (Nat.le_trans HBW.out.size (by simp)) fun i hi => (World.ownsRow.lt HO.out i hi).1
        case measure => go_light; simp [intOf]; omega
      | false =>
        cases h38 : ((W[k].toNat : Int) != 38) with
        | true =>
          have hd := vdec_bad W.data.toList k acc hlt hpl (by rintro ⟨h, _⟩; rw [data_get] at h; rw [h] at h38; simp at h38)
          rw [HD.out] at hd
          have HDD := Lib.hid (HERR.out k hd); clear hd
          go_wp2_with (go_at_call 19; refine (vplain_any _ _).mono ?_; rintro e w' ⟨rfl, rfl⟩)
          go_ret3
          exact ⟨by rw [HDD.out]; rfl, HBW.out⟩
        | false =>
          have hb38 : W[k] = 38 := by
            have : (W[k].toNat : Int) = 38 := by simpa using h38
            exact UInt8.toNat_inj.1 (by show W[k].toNat = 38; omega)
          have HB38 := Lib.hid hb38; clear hb38
          have hw3 : IntKind.i64.wrap ((k : Int) + 3) = (k : Int) + 3 := IntWalk.i64_in _ (by omega)
          by_cases h2 : W.size ≤ k + 3
          · have hge : decide ((W.size : Int) ≤ (k : Int) + 3) = true := decide_eq_true (by omega)
            have hd := vdec_bad W.data.toList k acc hlt hpl (by rintro ⟨_, h⟩; have := (List.getElem?_eq_some_iff.1 h).1; have h9 : W.data.toList.length = W.size := rfl; omega)
            rw [HD.out] at hd
            have HDD := Lib.hid (HERR.out k hd); clear hd
            go_wp2_with (go_at_call 19; refine (vplain_any _ _).mono ?_; rintro e w' ⟨rfl, rfl⟩)
            go_ret3
            exact ⟨by rw [HDD.out]; rfl, HBW.out⟩
          · have hge : decide ((W.size : Int) ≤ (k : Int) + 3) = false := decide_eq_false (by omega)
            have z1 : (0 : Int) ≤ (k : Int) + 3 := by omega
            have z2 : (k : Int) + 3 < (W.size : Int) := by omega
            have z3 : ((k : Int) + 3).toNat = k + 3 := by omega
            have z4 : k + 3 < W.size := by omega
            have hget : W.data.toList[k + 3]? = some W[k + 3] := by rw [List.getElem?_eq_getElem (show k + 3 < W.data.toList.length from z4)]; rfl
            have HGET := Lib.hid hget; clear hget
            cases h59 : ((W[k + 3].toNat : Int) != 59) with
            | true =>
              have hd := vdec_bad W.data.toList k acc hlt hpl (by rintro ⟨_, h⟩; rw [HGET.out] at h; have h8 := Option.some.inj h; rw [h8] at h59; simp at h59)
              rw [HD.out] at hd
              have HDD := Lib.hid (HERR.out k hd); clear hd
              go_wp2_with (go_at_call 19; refine (vplain_any _ _).mono ?_; rintro e w' ⟨rfl, rfl⟩)
              go_ret3
              exact ⟨by rw [HDD.out]; rfl, HBW.out⟩
            | false =>
              have hb59 : W[k + 3] = 59 := by
                have : (W[k + 3].toNat : Int) = 59 := by simpa using h59
                exact UInt8.toNat_inj.1 (by show W[k + 3].toNat = 59; omega)
              have HB59 := Lib.hid hb59; clear hb59
              have hw1 : IntKind.i64.wrap ((k : Int) + 1) = (k : Int) + 1 := IntWalk.i64_in _ (by omega)
              have hw2 : IntKind.i64.wrap ((k : Int) + 2) = (k : Int) + 2 := IntWalk.i64_in _ (by omega)
              have p1 : (0 : Int) ≤ (k : Int) + 1 := by omega
              have p2 : (k : Int) + 1 < (W.size : Int) := by omega
              have p3 : (0 : Int) ≤ (k : Int) + 2 := by omega
              have p4 : (k : Int) + 2 < (W.size : Int) := by omega
              have p5 : ((k : Int) + 1).toNat = k + 1 := by omega
              have p6 : ((k : Int) + 2).toNat = k + 2 := by omega
              have p7 : k + 1 < W.size := by omega
              have p8 : k + 2 < W.size := by omega
              have hdx := vdec_hex W.data.toList k acc z4 hpl HB38.out HB59.out
              rw [data_get W (k + 1) p7, data_get W (k + 2) p8] at hdx
              go_wp2_with (go_at_call 19; refine (vplain_any _ _).mono ?_; rintro e w' ⟨rfl, rfl⟩)
              go_quiet ((go_at_call 20; exact Calls.quiet_of_same (hexIdx_any _ _)))
              have HBW4 := Lib.hid (below_drewN' HBW.out nq)
              have HO4 := Lib.hid (HO.out.same (w' := wr.drewN nq) rfl)
              clear HBW HO
              generalize wr.drewN nq = w4 at HBW4 HO4 ⊢
              have HBW := HBW4
              cases hx : Ev.val? W[k + 1] with
              | none =>
                have hvx : hexV W[k + 1] = -1 := by unfold hexV; rw [hx]
                rw [hx] at hdx
                rw [HD.out] at hdx
                have HDD := Lib.hid (HERR.out k hdx); clear hdx
                clear hx
                go_wp2_with fail
                go_ret3
                exact ⟨by rw [HDD.out]; rfl, HBW.out⟩
              | some vx =>
                have hvx : hexV W[k + 1] = (vx : Int) := by unfold hexV; rw [hx]
                have hvx0 : decide ((vx : Int) < 0) = false := decide_eq_false (by omega)
                have hvx1 := val_lt _ _ hx
                cases hy : Ev.val? W[k + 2] with
                | none =>
                  have hvy : hexV W[k + 2] = -1 := by unfold hexV; rw [hy]
                  rw [hx, hy] at hdx
                  rw [HD.out] at hdx
                  have HDD := Lib.hid (HERR.out k hdx); clear hdx
                  clear hx hy
                  go_wp2_with fail
                  go_ret3
                  exact ⟨by rw [HDD.out]; rfl, HBW.out⟩
                | some vy =>
                  have hvy : hexV W[k + 2] = (vy : Int) := by unfold hexV; rw [hy]
                  have hvy0 : decide ((vy : Int) < 0) = false := decide_eq_false (by omega)
                  have hvy1 := val_lt _ _ hy
                  rw [hx, hy, HD.out] at hdx
                  clear hx hy
                  have hor := or16 vx vy hvx1 hvy1
                  simp only at hdx
                  generalize UInt8.ofNat (16 * vx + vy) = c at hor hdx
                  cases hpc : plainI (c.toNat : Int) with
                  | true =>
                    rw [if_pos (show plainB c = true from hpc)] at hdx
                    have HDD := Lib.hid (HERR.out k hdx); clear hdx
                    go_wp2_with (go_at_call 19; refine (vplain_any _ _).mono ?_; rintro e w' ⟨rfl, rfl⟩)
                    go_ret3
                    exact ⟨by rw [HDD.out]; rfl, HBW.out⟩
                  | false =>
                    rw [if_neg (show ¬ plainB c = true by unfold plainB; rw [hpc]; decide)] at hdx
                    have HDD := Lib.hid hdx; clear hdx
                    go_wp2_with (first | (go_at_call 19; refine (vplain_any _ _).mono ?_; rintro e w' ⟨rfl, rfl⟩) | (at_builtin; refine wp_append_byte rfl (.tmp 69) (.tmp 75) rfl w.heap.size u5 acc c _ rfl rfl HO4.out rfl (by omega) HBW.out.size ?_; intro v' w' hown hgr; have HO' := Lib.hid hown; have HGR := Lib.hid hgr; clear hown hgr))
                    go_roundw
                    case rel =>
                      go_light
                      refine ⟨k + 4, acc ++ [c], by go_num, by omega, by simp; omega, Lib.hid HDD.out.symm, HO', Lib.hid ?_⟩
                      exact (HBW.out.alloc HBW.out.size _).grown HGR.out (Nat.le_trans HBW.out.size (by simp)) fun i hi => (World.ownsRow.lt HO4.out i hi).1
                    case measure => go_light; simp [intOf]; omega
    · obtain rfl : k = W.size := by omega
      have hfin : plainV W.data.toList = (acc, 0, 0) := by
        have hd := HD.out
        rw [List.drop_eq_nil_iff.2 (by exact Nat.le_refl _)] at hd
        unfold plainV; rw [← hd]; rfl
      have HFIN := Lib.hid hfin; clear hfin
      have hconv := own_string (w := wr) Tryz.underlying48 Tryz.underlying9 HO.out
      go_wp2_with fail
      go_ret3
      refine ⟨?_, HBW.out⟩
      rw [HFIN.out]; rfl
end Go.Proofs.YtemiamajgjfnbaaGreatDoor
