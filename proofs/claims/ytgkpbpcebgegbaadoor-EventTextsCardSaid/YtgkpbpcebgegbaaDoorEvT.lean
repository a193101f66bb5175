/- (*reader).text of event's package. -/
import Derived.Test.YtgkpbpcebgegbaaDoorEvM
import Derived.Test.YtgkpbpcebgegbaaDoorEvB
namespace Go.Proofs.YtgkpbpcebgegbaaDoor
open Go.RowKit Ev
set_option linter.unusedVariables false
set_option linter.unusedSimpArgs false

theorem indexByte_word : ∀ (l : List UInt8), (Lib.indexByte l 32 = -1 ∧ word l = l) ∨ (∃ i : Nat, Lib.indexByte l 32 = i ∧ word l = l.take i)
  | [] => .inl ⟨rfl, rfl⟩
  | b :: l => by
    unfold Lib.indexByte word
    by_cases hb : b = 32
    · subst hb
      exact .inr ⟨0, by simp, by simp⟩
    · have h1 : (b == 32) = false := by simpa using hb
      have h2 : (b != 32) = true := by simpa using hb
      rw [h1, List.takeWhile_cons, if_pos h2]
      simp only [Bool.false_eq_true, if_false]
      rcases indexByte_word l with ⟨h, hw⟩ | ⟨i, h, hw⟩
      · left; rw [h]; exact ⟨rfl, by unfold word at hw; rw [hw]⟩
      · right
        refine ⟨i + 1, ?_, ?_⟩
        · rw [h, if_neg (by simp)]; omega
        · unfold word at hw; rw [hw, List.take_succ_cons]
theorem drop_at (l : List UInt8) (k : Nat) (h : k < l.length) : l.drop k = l[k] :: l.drop (k + 1) := List.drop_eq_getElem_cons h
theorem dec_plain (l : List UInt8) (k : Nat) (acc : List UInt8) (h : k < l.length) (hp : plainB l[k] = true) : dec (l.drop k) k acc = dec (l.drop (k + 1)) (k + 1) (acc ++ [l[k]]) := by
  rw [drop_at l k h]; conv => lhs; unfold dec
  rw [if_pos hp]
theorem dec_not37 (l : List UInt8) (k : Nat) (acc : List UInt8) (h : k < l.length) (hp : plainB l[k] = false) (h37 : l[k] ≠ 37) : dec (l.drop k) k acc = .inl k := by
  rw [drop_at l k h]; unfold dec
  rw [if_neg (by rw [hp]; decide)]
  split
  · rw [if_neg h37]
  · rfl
theorem dec_short (l : List UInt8) (k : Nat) (acc : List UInt8) (h : k < l.length) (hp : plainB l[k] = false) (h2 : l.length ≤ k + 2) : dec (l.drop k) k acc = .inl k := by
  rw [drop_at l k h]; unfold dec
  rw [if_neg (by rw [hp]; decide)]
  split
  · rename_i x y r' he
    have := congrArg List.length he
    simp at this; omega
  · rfl
theorem dec_hex (l : List UInt8) (k : Nat) (acc : List UInt8) (h : k + 2 < l.length) (hp : plainB (l[k]'(by omega)) = false) (h37 : (l[k]'(by omega)) = 37) : dec (l.drop k) k acc =
    match val? (l[k + 1]'(by omega)), val? l[k + 2] with
    | some a, some b => if plainB (UInt8.ofNat (16 * a + b)) = true then .inl k else dec (l.drop (k + 3)) (k + 3) (acc ++ [UInt8.ofNat (16 * a + b)])
    | _, _ => .inl k := by
  rw [drop_at l k (by omega), drop_at l (k + 1) (by omega), drop_at l (k + 2) h]
  conv => lhs; unfold dec
  rw [if_neg (by rw [hp]; decide)]
  simp only [h37, if_true]
  cases val? l[k + 1] <;> cases val? l[k + 2] <;> rfl
theorem data_get (W : ByteArray) (k : Nat) (h : k < W.size) : W.data.toList[k]'h = W[k] := rfl

theorem cut_word (l : List UInt8) : (Lib.cut l [32]).1 = word l := by
  unfold Lib.cut
  rw [Lib.index_one]
  rcases indexByte_word l with ⟨h, hw⟩ | ⟨i, h, hw⟩
  · rw [h, if_neg (by decide), hw]
  · rw [h, if_pos (by omega), hw]; rfl
theorem cut_any' (t : ByteArray) (ht : t.size < 4294967281) : ∃ W y : ByteArray, ∃ z : Bool, W.data.toList = word t.data.toList ∧ ∀ w, Glob w →
    Calls Tryd.prog 42 #[.string t, .string ⟨#[32]⟩] w fun e w' => e = .returned (.tuple #[.string W, .string y, .bool z]) ∧ ∃ n, w' = w.drewN n :=
  ⟨⟨(Lib.cut t.data.toList [32]).1.toArray⟩, ⟨(Lib.cut t.data.toList [32]).2.1.toArray⟩, (Lib.cut t.data.toList [32]).2.2, by rw [← cut_word], fun w hg => cut_any t ⟨#[32]⟩ w ht hg⟩
theorem hex_idx (c : UInt8) : Lib.indexByte [48, 49, 50, 51, 52, 53, 54, 55, 56, 57, 97, 98, 99, 100, 101, 102] c = match val? c with | some v => (v : Int) | none => -1 := by
  have h : ∀ n : Fin 256, Lib.indexByte [48, 49, 50, 51, 52, 53, 54, 55, 56, 57, 97, 98, 99, 100, 101, 102] (UInt8.ofNat n.val) = match val? (UInt8.ofNat n.val) with | some v => (v : Int) | none => -1 := by decide +kernel
  have := h ⟨c.toNat, c.toNat_lt⟩
  simpa using this
theorem or16 (a b : Nat) (ha : a < 16) (hb : b < 16) : bits .or .i64 ((a : Int) * 16) (b : Int) % 256 = ((UInt8.ofNat (16 * a + b)).toNat : Int) := by
  have h : ∀ a b : Fin 16, bits .or .i64 ((a.val : Int) * 16) (b.val : Int) % 256 = ((UInt8.ofNat (16 * a.val + b.val)).toNat : Int) := by decide +kernel
  exact h ⟨a, ha⟩ ⟨b, hb⟩
/-- A small sixteen's worth as strings.IndexByte tells it. -/
def hexV (c : UInt8) : Int := match val? c with | some v => (v : Int) | none => -1
theorem hexIdx_any (c : UInt8) (w : World) :
    Calls Tryd.prog 43 #[.string ⟨#[48, 49, 50, 51, 52, 53, 54, 55, 56, 57, 97, 98, 99, 100, 101, 102]⟩, .int .u8 (c.toNat : Int)] w fun e w' => e = .returned (.int .i64 (hexV c)) ∧ w' = w := by
  have := Tryd.strings_IndexByte ⟨#[48, 49, 50, 51, 52, 53, 54, 55, 56, 57, 97, 98, 99, 100, 101, 102]⟩ c.toNat w
  rw [Lib.byte_back'] at this
  unfold hexV
  rw [← hex_idx]
  exact this
theorem val_lt (c : UInt8) (v : Nat) (h : val? c = some v) : v < 16 := by
  unfold val? at h
  split at h
  · cases h; omega
  · split at h
    · cases h; omega
    · cases h

set_option maxHeartbeats 1000000 in
theorem text_bad (s : ByteArray) (g p : Nat) (w : World) (hI : IsRd w g s (.bad p)) :
    Calls Tryd.prog 22 #[.pointer (some ⟨g, 0, none⟩)] w fun e w' => e = .returned (.string ⟨#[]⟩) ∧ w = w' := by
  have HI := Lib.hid hI; clear hI
  go_enter Tryd.func22, Tryd.ntmps22
  go_wp2_with (go_at_call 39; refine (blank_bad s g p _ HI.out).mono ?_; rintro e w' ⟨rfl, rfl⟩)
  go_ret
  exact ⟨rfl, rfl⟩

set_option maxHeartbeats 2000000 in
theorem text_noblank (s : ByteArray) (g a : Nat) (w : World) (hs : s.size ≤ 140737488351232) (hI : IsRd w g s (.ok a)) (hb : ¬ s.data.toList[a]? = some 32) :
    Calls Tryd.prog 22 #[.pointer (some ⟨g, 0, none⟩)] w fun e w' => e = .returned (.string ⟨#[]⟩) ∧ IsRd w' g s (.bad a) ∧ w.grownBy w' (some g) := by
  have HI := Lib.hid hI; clear hI
  have HB := Lib.hid hb; clear hb
  have hbl := (blank_ok s g a w hs HI.out)
  rw [decide_eq_false HB.out, blankS, if_neg HB.out] at hbl
  have HBL := Lib.hid hbl; clear hbl
  go_enter Tryd.func22, Tryd.ntmps22
  go_wp2_with (go_at_call 39; refine HBL.out.mono ?_; rintro e w' ⟨rfl, h1, h2⟩; have H1 := Lib.hid h1; have H2 := Lib.hid h2; clear h1 h2)
  go_ret
  exact ⟨rfl, H1.out, H2.out⟩

set_option maxHeartbeats 4000000 in
set_option maxRecDepth 100000 in
theorem text_blank (s : ByteArray) (g a : Nat) (w : World) (hs : s.size ≤ 4294967280) (hg : Glob w) (hG : 8 ≤ g) (hI : IsRd w g s (.ok a)) (hb : s.data.toList[a]? = some 32) :
    Calls Tryd.prog 22 #[.pointer (some ⟨g, 0, none⟩)] w fun e w' => e = .returned (.string ⟨(textR s.data.toList (.ok (a + 1))).1.toArray⟩) ∧ IsRd w' g s (textR s.data.toList (.ok (a + 1))).2 ∧ w.grownBy w' (some g) := by
  have HI := Lib.hid hI; clear hI
  have HB := Lib.hid hb; clear hb
  have HG := Lib.hid hg; clear hg
  have hbl := (blank_ok s g a w (by omega) HI.out)
  rw [decide_eq_true HB.out, blankS, if_pos HB.out] at hbl
  have HBL := Lib.hid hbl; clear hbl
  generalize hp : a + 1 = p
  rw [hp] at HBL
  clear hp
  go_enter Tryd.func22, Tryd.ntmps22
  go_wp2_with (go_at_call 39; refine HBL.out.mono ?_; rintro e w1 ⟨rfl, h1, h2⟩; have hps := h1.1; have hc0 := h1.2.cell0; have hc1 := h1.2.cell1; have hf1 := h1.2.free 1; have H1 := Lib.hid h1; have H2 := Lib.hid h2; clear h1 h2)
  obtain ⟨W, y, z, hW, hcall⟩ := cut_any' (s.extract p s.size) (by rw [ByteArray.size_extract]; omega)
  rw [Lib.extract_to_end] at hW
  have hWs : W.size ≤ s.size := by
    have h1 : W.data.toList.length ≤ (s.data.toList.drop p).length := by rw [hW]; exact (List.takeWhile_sublist _).length_le
    rw [List.length_drop] at h1
    have h2 : W.data.toList.length = W.size := rfl
    have h3 : s.data.toList.length = s.size := rfl
    omega
  have hWp : p + W.size ≤ s.size := by
    have h1 : W.data.toList.length ≤ (s.data.toList.drop p).length := by rw [hW]; exact (List.takeWhile_sublist _).length_le
    rw [List.length_drop] at h1
    have h2 : W.data.toList.length = W.size := rfl
    have h3 : s.data.toList.length = s.size := rfl
    omega
  have HW := Lib.hid hW; have HC := Lib.hid hcall; clear hW hcall
  go_quiet ((go_at_call 42; exact Calls.quiet_of (HC.out _ ((HG.out.grow H2.out hG).drewN _))))
  have h2 : IsRd (w1.drewN nq) g s (.ok p) := H1.out
  have g2 : w.grownBy (w1.drewN nq) (some g) := grown_trans H2.out (grown_drewN _ _ _)
  clear hc0 hc1 hf1 H1 H2 HC
  generalize w1.drewN nq = w2 at h2 g2 ⊢
  have hc1 := h2.2.cell1
  have hf1 := h2.2.free 1
  have H2 := Lib.hid h2; have G2 := Lib.hid g2; clear h2 g2
  by_cases hne : W.toList = []
  · have hwd : word (s.data.toList.drop p) = [] := by rw [← HW.out, ← Lib.toList_data, hne]
    have HWD := Lib.hid hwd; clear hwd
    go_wp2_with (go_at_call 20; refine (wrong_any s g p p _ H2.out).mono ?_; rintro e w3 ⟨rfl, h3, g3⟩; have H3 := Lib.hid h3; have G3 := Lib.hid g3; clear h3 g3)
    go_ret
    refine ⟨?_, ?_, grown_trans G2.out G3.out⟩
    · rw [textR, if_pos HWD.out]; rfl
    · rw [textR, if_pos HWD.out]; exact H3.out
  · have hemp : W.toList.isEmpty = false := by cases h : W.toList <;> simp_all
    have HNE := Lib.hid hne; clear hne hc1 hf1
    go_wp2_with fail
    go_loopw [6, 7] (fun v i wr => ∃ (k : Nat) (acc : List UInt8), i = .int .i64 k ∧ k ≤ W.size ∧ acc.length ≤ k ∧ Hid (dec (W.data.toList.drop k) k acc = dec W.data.toList 0 []) ∧ Hid (OwnB wr w2.heap.size v acc) ∧ Hid (Below w2.heap.size w2 wr)) (fun _ i _ => W.size - (intOf i).toNat)
    case atStart => exact ⟨0, [], rfl, Nat.zero_le _, Nat.le_refl _, Lib.hid rfl, Lib.hid (OwnB.nil _ _), Lib.hid (Below.refl _ _)⟩
    case round =>
      obtain ⟨k, acc, rfl, hk, hak, HD, HO, HBW⟩ := hrel
      have h3 : IsRd wr g s (.ok p) := H2.out.below HBW.out H2.out.lt
      have hc1 := h3.2.cell1
      have hf1 := h3.2.free 1
      have H3 := Lib.hid h3; clear h3
      by_cases hlt : k < W.size
      · cases hpl : plainI (W[k].toNat : Int) with
        | true =>
          go_wp2_with (first | (go_at_call 32; refine (plain_any _ _).mono ?_; rintro e w' ⟨rfl, rfl⟩) | (at_builtin; refine wp_append_byte rfl (.tmp 45) (.tmp 49) rfl w2.heap.size u6 acc W[k] _ rfl rfl HO.out rfl (by omega) HBW.out.size ?_; intro v' w' hown hgr; have HO' := Lib.hid hown; have HGR := Lib.hid hgr; clear hown hgr))
          go_roundw
          case rel =>
            go_light
            refine ⟨k + 1, acc ++ [W[k]], by go_num, by omega, by simp; omega, Lib.hid ?_, HO', Lib.hid ?_⟩
            · rw [← HD.out, dec_plain W.data.toList k acc hlt hpl]; rfl
            · exact (HBW.out.alloc HBW.out.size _).grown HGR.out (Nat.le_trans HBW.out.size (by simp)) fun i hi => (World.ownsRow.lt HO.out i hi).1
          case measure => go_light; simp [intOf]; omega
        | false =>
          have herr : ∀ q : Nat, dec W.data.toList 0 [] = .inl q → textR s.data.toList (.ok p) = ([], .bad (p + q)) := by
            intro q hq
            rw [textR, if_neg (by rw [← HW.out, ← Lib.toList_data]; exact HNE.out), ← HW.out, hq]
          have HERR := Lib.hid herr; clear herr
          cases h37 : ((W[k].toNat : Int) != 37) with
          | true =>
            have hd := dec_not37 W.data.toList k acc hlt hpl (by intro h; rw [data_get] at h; rw [h] at h37; simp at h37)
            rw [HD.out] at hd
            have HDD := Lib.hid (HERR.out k hd); clear hd
            go_wp2_with (first | (go_at_call 32; refine (plain_any _ _).mono ?_; rintro e w' ⟨rfl, rfl⟩) | (go_at_call 20; refine (wrong_at s g p _ (p + k) (by omega) _ H3.out).mono ?_; rintro e w4 ⟨rfl, h4, g4⟩; have H4 := Lib.hid h4; have G4 := Lib.hid g4; clear h4 g4))
            go_ret
            refine ⟨?_, ?_, ?_⟩
            · rw [HDD.out]; rfl
            · rw [HDD.out]; exact H4.out
            · exact grown_trans G2.out (grown_trans (grown_below HBW.out _) G4.out)
          | false =>
            have hb37 : W[k] = 37 := by
              have : (W[k].toNat : Int) = 37 := by simpa using h37
              exact UInt8.toNat_inj.1 (by show W[k].toNat = 37; omega)
            have HB37 := Lib.hid hb37; clear hb37
            by_cases h2 : W.size ≤ k + 2
            · have hge : decide ((W.size : Int) ≤ (k : Int) + 2) = true := decide_eq_true (by omega)
              have hd := dec_short W.data.toList k acc hlt hpl h2
              rw [HD.out] at hd
              have HDD := Lib.hid (HERR.out k hd); clear hd
              go_wp2_with (first | (go_at_call 32; refine (plain_any _ _).mono ?_; rintro e w' ⟨rfl, rfl⟩) | (go_at_call 20; refine (wrong_at s g p _ (p + k) (by omega) _ H3.out).mono ?_; rintro e w4 ⟨rfl, h4, g4⟩; have H4 := Lib.hid h4; have G4 := Lib.hid g4; clear h4 g4))
              go_ret
              refine ⟨?_, ?_, ?_⟩
              · rw [HDD.out]; rfl
              · rw [HDD.out]; exact H4.out
              · exact grown_trans G2.out (grown_trans (grown_below HBW.out _) G4.out)
            · have hge : decide ((W.size : Int) ≤ (k : Int) + 2) = false := decide_eq_false (by omega)
              have hw1 : IntKind.i64.wrap ((k : Int) + 1) = (k : Int) + 1 := IntWalk.i64_in _ (by omega)
              have hw2 : IntKind.i64.wrap ((k : Int) + 2) = (k : Int) + 2 := IntWalk.i64_in _ (by omega)
              have p1 : (0 : Int) ≤ (k : Int) + 1 := by omega
              have p2 : (k : Int) + 1 < (W.size : Int) := by omega
              have p3 : (0 : Int) ≤ (k : Int) + 2 := by omega
              have p4 : (k : Int) + 2 < (W.size : Int) := by omega
              have p5 : ((k : Int) + 1).toNat = k + 1 := by omega
              have p6 : ((k : Int) + 2).toNat = k + 2 := by omega
              have p7 : k + 1 < W.size := by omega
              have p8 : k + 2 < W.size := by omega
              go_wp2_with (first | (go_at_call 32; refine (plain_any _ _).mono ?_; rintro e w' ⟨rfl, rfl⟩))
              go_quiet ((go_at_call 43; exact Calls.quiet_of_same (hexIdx_any _ _)))
              have hdx := dec_hex W.data.toList k acc p8 hpl HB37.out
              rw [HD.out, data_get W (k + 1) p7, data_get W (k + 2) p8] at hdx
              have H4 := Lib.hid (show IsRd (wr.drewN nq) g s (.ok p) from H3.out)
              have HBW4 := Lib.hid (below_drewN' HBW.out nq)
              have HO4 := Lib.hid (HO.out.same (w' := wr.drewN nq) rfl)
              have hc14 : (wr.drewN nq).cell? ⟨g, 1, none⟩ = some (.int .i64 p) := hc1
              clear hc1 hf1 H3 HBW HO
              generalize wr.drewN nq = w4 at H4 HBW4 HO4 hc14 ⊢
              cases hx : val? W[k + 1] with
              | none =>
                have hvx : hexV W[k + 1] = -1 := by unfold hexV; rw [hx]
                rw [hx] at hdx
                have HDD := Lib.hid (HERR.out k hdx); clear hdx hx
                go_wp2_with (go_at_call 20; refine (wrong_at s g p _ (p + k) (by omega) _ H4.out).mono ?_; rintro e w5 ⟨rfl, h5, g5⟩; have H5 := Lib.hid h5; have G5 := Lib.hid g5; clear h5 g5)
                go_ret
                refine ⟨?_, ?_, ?_⟩
                · rw [HDD.out]; rfl
                · rw [HDD.out]; exact H5.out
                · exact grown_trans G2.out (grown_trans (grown_below HBW4.out _) G5.out)
              | some vx =>
                have hvx : hexV W[k + 1] = (vx : Int) := by unfold hexV; rw [hx]
                have hvx0 : decide ((vx : Int) < 0) = false := decide_eq_false (by omega)
                have hvx1 := val_lt _ _ hx
                cases hy : val? W[k + 2] with
                | none =>
                  have hvy : hexV W[k + 2] = -1 := by unfold hexV; rw [hy]
                  rw [hx, hy] at hdx
                  have HDD := Lib.hid (HERR.out k hdx); clear hdx hx hy
                  go_wp2_with (go_at_call 20; refine (wrong_at s g p _ (p + k) (by omega) _ H4.out).mono ?_; rintro e w5 ⟨rfl, h5, g5⟩; have H5 := Lib.hid h5; have G5 := Lib.hid g5; clear h5 g5)
                  go_ret
                  refine ⟨?_, ?_, ?_⟩
                  · rw [HDD.out]; rfl
                  · rw [HDD.out]; exact H5.out
                  · exact grown_trans G2.out (grown_trans (grown_below HBW4.out _) G5.out)
                | some vy =>
                  have hvy : hexV W[k + 2] = (vy : Int) := by unfold hexV; rw [hy]
                  have hvy0 : decide ((vy : Int) < 0) = false := decide_eq_false (by omega)
                  have hvy1 := val_lt _ _ hy
                  rw [hx, hy] at hdx
                  clear hx hy
                  have hor := or16 vx vy hvx1 hvy1
                  simp only at hdx
                  generalize UInt8.ofNat (16 * vx + vy) = c at hor hdx
                  cases hpc : plainI (c.toNat : Int) with
                  | true =>
                    rw [if_pos (show plainB c = true from hpc)] at hdx
                    have HDD := Lib.hid (HERR.out k hdx); clear hdx
                    go_wp2_with (first | (go_at_call 32; refine (plain_any _ _).mono ?_; rintro e w' ⟨rfl, rfl⟩) | (go_at_call 20; refine (wrong_at s g p _ (p + k) (by omega) _ H4.out).mono ?_; rintro e w5 ⟨rfl, h5, g5⟩; have H5 := Lib.hid h5; have G5 := Lib.hid g5; clear h5 g5))
                    go_ret
                    refine ⟨?_, ?_, ?_⟩
                    · rw [HDD.out]; rfl
                    · rw [HDD.out]; exact H5.out
                    · exact grown_trans G2.out (grown_trans (grown_below HBW4.out _) G5.out)
                  | false =>
                    rw [if_neg (show ¬ plainB c = true by unfold plainB; rw [hpc]; decide)] at hdx
                    have HDD := Lib.hid hdx; clear hdx
                    go_wp2_with (first | (go_at_call 32; refine (plain_any _ _).mono ?_; rintro e w' ⟨rfl, rfl⟩) | (at_builtin; refine wp_append_byte rfl (.tmp 102) (.tmp 108) rfl w2.heap.size u6 acc c _ rfl rfl HO4.out rfl (by omega) HBW4.out.size ?_; intro v' w' hown hgr; have HO' := Lib.hid hown; have HGR := Lib.hid hgr; clear hown hgr))
                    go_roundw
                    case rel =>
                      go_light
                      refine ⟨k + 3, acc ++ [c], by go_num, by omega, by simp; omega, Lib.hid HDD.out.symm, HO', Lib.hid ?_⟩
                      exact (HBW4.out.alloc HBW4.out.size _).grown HGR.out (Nat.le_trans HBW4.out.size (by simp)) fun i hi => (World.ownsRow.lt HO4.out i hi).1
                    case measure => go_light; simp [intOf]; omega
      · obtain rfl : k = W.size := by omega
        have hfin : textR s.data.toList (.ok p) = (acc, .ok (p + W.size)) := by
          have hd := HD.out
          rw [List.drop_eq_nil_iff.2 (by exact Nat.le_refl _)] at hd
          rw [textR, if_neg (by rw [← HW.out, ← Lib.toList_data]; exact HNE.out), ← HW.out, ← hd]
          rfl
        have HFIN := Lib.hid hfin; clear hfin
        have hconv := own_string (w := wr.setCell ⟨g, 1, none⟩ (.int .i64 ((p : Int) + (W.size : Int)))) Tryd.underlying62 Tryd.underlying9 (show OwnB _ _ _ _ from ownsRow_setCell_below HO.out H2.out.lt _)
        go_wp2_with fail
        go_ret
        refine ⟨?_, ?_, ?_⟩
        · rw [HFIN.out]; rfl
        · rw [HFIN.out]
          exact ⟨by omega, H3.out.2.set1 _⟩
        · exact grown_trans G2.out (grown_trans (grown_below HBW.out _) (grown_set _ _ _ _))

/-- (*reader).text, in whatever state. -/
theorem text_any (s : ByteArray) (g : Nat) (σ : RS) (w : World) (hs : s.size ≤ 4294967280) (hg : Glob w) (hG : 8 ≤ g) (hI : IsRd w g s σ) :
    Calls Tryd.prog 22 #[.pointer (some ⟨g, 0, none⟩)] w fun e w' => e = .returned (.string ⟨(textS s.data.toList σ).1.toArray⟩) ∧ IsRd w' g s (textS s.data.toList σ).2 ∧ w.grownBy w' (some g) := by
  unfold textS
  cases σ with
  | bad p =>
    refine (text_bad s g p w hI).mono ?_
    rintro e w' ⟨rfl, rfl⟩
    exact ⟨rfl, hI, grown_refl _ _⟩
  | ok a =>
    by_cases hb : s.data.toList[a]? = some 32
    · rw [blankS, if_pos hb]
      exact text_blank s g a w hs hg hG hI hb
    · rw [blankS, if_neg hb]
      exact text_noblank s g a w (by omega) hI hb
end Go.Proofs.YtgkpbpcebgegbaaDoor
