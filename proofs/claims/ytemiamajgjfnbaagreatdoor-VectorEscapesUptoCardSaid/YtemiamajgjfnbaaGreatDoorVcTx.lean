/- vector.Text, walked. -/
import Derived.Test.YtemiamajgjfnbaaGreatDoorVcZ
namespace Go.Proofs.YtemiamajgjfnbaaGreatDoor
open Go.RowKit Vc
set_option linter.unusedVariables false
set_option linter.unusedSimpArgs false
theorem vline_any (x : S) (w : World) (hm : mayE x = 0) (hg : Glob w) :
    Calls Tryz.prog 16 #[SV x] w fun e w' => e = .returned (.string (bt (lineB x))) ∧ Below w.heap.size w w' := by
  obtain ⟨k, r, c, d, t, n⟩ := x
  have hk := (small_of_may hm).2.2.2.1
  by_cases h1 : k = 1
  · subst h1; exact vline_fill r c d t n w hm hg
  by_cases h2 : k = 2
  · subst h2; exact vline_frame r c d t n w hm hg
  by_cases h3 : k = 3
  · subst h3; exact vline_write r c d t n w hm hg
  by_cases h4 : k = 4
  · subst h4; exact vline_clip r c d t n w hm hg
  by_cases h5 : k = 5
  · subst h5; exact vline_open r c d t n w hm hg
  simp [kindOk, h1, h2, h3, h4, h5] at hk
theorem lineB_len (x : S) (hm : mayE x = 0) : (lineB x).length ≤ 300000 := by
  obtain ⟨hn, ⟨hx, hy, hw, hh⟩, ht, _, _⟩ := small_of_may hm
  have h1 := itoa_small _ hx
  have h2 := itoa_small _ hy
  have h3 := itoa_small _ hw
  have h4 := itoa_small _ hh
  have h5 := itoa_small _ hn
  have h6 := colB_len x.c
  have h7 := colB_len x.d
  have h8 := esc_len x.t
  have hr : (rectB x.r).length ≤ 104 := by simp only [rectB, List.length_append, qx1, qy, qw, qh, qq, List.length_cons, List.length_nil]; omega
  have hd : (nodeB x.n).length ≤ 30 := by simp only [nodeB, List.length_append, qn1, qq, List.length_cons, List.length_nil]; omega
  have hi : (inkB x.c).length ≤ 30 := by simp only [inkB, List.length_append, qc1, qq, List.length_cons, List.length_nil]; omega
  unfold lineB
  repeat' split
  all_goals (simp only [List.length_append, qb1, qq, qWriteEnd, List.length_cons, List.length_nil]; omega)
theorem IsB.below {B b : Nat} {l : List UInt8} {w w' : World} (h : IsB B b l w) (hb : Below w.heap.size w w') : IsB B b l w' := by
  have k : ∀ p, Lib.BuilderAtF 50 5 B b p (Lib.byteCells l) w → Lib.BuilderAtF 50 5 B b p (Lib.byteCells l) w' := by
    rintro p ⟨hB, v, h1, h2, h3⟩
    exact ⟨hB, v, (hb.block b (Array.getElem?_eq_some_iff.1 h1).1).trans h1, h2.kept (row := none) ⟨hb.os, hb.tape, hb.output, hb.size, fun k hk _ => hb.block k hk⟩ (by cases v.ownBlock <;> simp), h3⟩
  exact h.elim (fun x => .inl (k _ x)) (fun x => .inr (k _ x))
theorem bLen_any (B b : Nat) (l : List UInt8) (w : World) (h : IsB B b l w) :
    Calls Tryz.prog 17 #[.pointer (some ⟨b, 0, none⟩)] w fun e w' => e = .returned (.int .i64 (l.length : Nat)) ∧ w' = w := by
  have := Tryz.Builder_Len_f B b (Lib.byteCells l) w h
  simpa [Lib.byteCells] using this
theorem linesB_snoc (l : List S) (k : Nat) (h : k < l.length) : linesB (l.take (k + 1)) = linesB (l.take k) ++ lineB l[k] := by
  unfold linesB
  rw [List.take_succ_eq_append_getElem h, List.flatMap_append]
  simp
theorem linesB_split (l : List S) (k : Nat) : linesB l = linesB (l.take k) ++ linesB (l.drop k) := by
  unfold linesB
  rw [← List.flatMap_append, List.take_append_drop]
set_option maxHeartbeats 4000000 in
set_option maxRecDepth 20000 in
theorem text_any (v : Value) (l : List S) (a b : Int) (w : World) (hl : IsL w v l) (hg : Glob w) :
    Calls Tryz.prog 6 #[v, .agg #[.int .i64 a, .int .i64 b]] w fun e w' => e = .returned (.tuple #[.string (bt (textP l a b).1), .int .i64 (textP l a b).2]) ∧ Below w.heap.size w w' := by
  obtain ⟨p, c, hv⟩ : ∃ p c, v = .slice p l.length c := by obtain ⟨p, c, rfl, _⟩ := hl; exact ⟨p, c, rfl⟩
  subst hv
  have HL := Lib.hid hl; have HG := Lib.hid hg; clear hl hg
  have hA := (Below.refl w.heap.size w).alloc (Nat.le_refl _) (.cells #[.int .i64 a, .int .i64 b] 23)
  by_cases hc : checkE l = 0
  · have hr : textP l a b = if sizedB a b = true then (if (allB l a b).length ≤ 65536 then (allB l a b, 0) else ([], 3)) else ([], 9) := by unfold textP; rw [if_pos hc]
    have HCK : Hid (∀ v w, IsL w v l → Calls Tryz.prog 12 #[v] w fun e w' => e = .returned (.int .i64 0) ∧ Below w.heap.size w w') := Lib.hid fun v w h => by have := check_any v l w h; rw [hc] at this; exact this
    have HALL := Lib.hid (checkE_all l hc)
    have h16 : l.length ≤ 16384 := by unfold checkE at hc; by_cases hq : 16384 < l.length; (rw [if_pos hq] at hc; cases hc); omega
    have HR := Lib.hid hr; clear hr hc
    go_enter Tryz.func6, Tryz.ntmps6
    go_upto_region 1 with fail
    have W1 := Lib.hid hA; have S1 := Lib.hid (blkV_new w 23 #[.int .i64 a, .int .i64 b]); clear hA
    generalize w.alloc (.cells #[.int .i64 a, .int .i64 b] 23) = w1 at W1 S1 ⊢
    go_upto_region 4 with (go_at_call 12; refine (HCK.out _ _ (HL.out.below W1.out)).mono ?_; rintro e w2 ⟨rfl, hb⟩; have W2 := Lib.hid (W1.out.trans (hb.mono W1.out.size)); have S2 := Lib.hid (S1.out.below hb S1.out.lt); clear hb)
    have c0 : w2.cell? ⟨w.heap.size, 0, none⟩ = some (.int .i64 a) := (S2.out.cell 0).trans rfl
    have c1 : w2.cell? ⟨w.heap.size, 1, none⟩ = some (.int .i64 b) := (S2.out.cell 1).trans rfl
    obtain ⟨sz, hsz⟩ : ∃ sz, sz = sizedB a b := ⟨_, rfl⟩
    have HS : Hid (∀ w, Calls Tryz.prog 13 #[.agg #[.int .i64 a, .int .i64 b]] w fun e w' => e = .returned (.bool sz) ∧ Below w.heap.size w w') := Lib.hid fun w => by rw [hsz]; exact sized_any a b w
    cases sz with
    | false =>
      rw [← hsz, if_neg (by decide)] at HR
      clear hsz
      go_wp2_with (go_at_call 13; refine (HS.out _).mono ?_; rintro e w3 ⟨rfl, hb⟩; have W3 := Lib.hid (W2.out.trans (hb.mono W2.out.size)); clear hb)
      go_ret2
      exact ⟨by rw [HR.out]; rfl, W3.out⟩
    | true =>
      have hab : 0 ≤ a ∧ 0 ≤ b ∧ a ≤ 16384 ∧ b ≤ 16384 := by have := hsz.symm; unfold sizedB at this; simpa using this
      rw [← hsz, if_pos rfl] at HR
      clear hsz
      obtain ⟨X, eX, sX, hX⟩ := itoa_named a (by unfold Small; omega)
      obtain ⟨Y, eY, sY, hY⟩ := itoa_named b (by unfold Small; omega)
      have HX := Lib.hid hX; have HY := Lib.hid hY; clear hX hY hab
      have hhead : (⟨#[60, 115, 104, 97, 112, 101, 115, 32, 119, 61, 34]⟩ ++ X ++ ⟨#[34, 32, 104, 61, 34]⟩ ++ Y ++ ⟨#[34, 62, 10]⟩ : ByteArray).data.toList = headB a b := by
        rw [eX, eY]
        show (bt qHead ++ bt _ ++ bt qh ++ bt _ ++ bt qOpen).data.toList = _
        simp only [bt_append]
        unfold headB
        simp [bt]
      have HHEAD := Lib.hid hhead; clear hhead eX eY
      have n1 : ¬ 9223372036854775807 < 11 + X.size := by omega
      have n2 : ¬ 9223372036854775807 < 11 + X.size + 5 := by omega
      have n3 : ¬ 9223372036854775807 < 11 + X.size + 5 + Y.size := by omega
      have n4 : ¬ 9223372036854775807 < 11 + X.size + 5 + Y.size + 3 := by omega
      have hlenH : (⟨#[60, 115, 104, 97, 112, 101, 115, 32, 119, 61, 34]⟩ ++ X ++ ⟨#[34, 32, 104, 61, 34]⟩ ++ Y ++ ⟨#[34, 62, 10]⟩ : ByteArray).size ≤ 61 := by simp only [ByteArray.size_append]; show 11 + X.size + 5 + Y.size + 3 ≤ 61; omega
      have HLEN := Lib.hid hlenH; clear hlenH sX sY
      go_upto_region 6 with (go_at_call 13; refine (HS.out _).mono ?_; rintro e w3 ⟨rfl, hb⟩; have W3 := Lib.hid (W2.out.trans (hb.mono W2.out.size)); have S3 := Lib.hid (S2.out.below hb S2.out.lt); clear hb c0 c1)
      go_upto_region 7 with fail
      have IB := Lib.hid (isB_new w3 w3.heap.size (Nat.le_refl _))
      have W4 := Lib.hid (W3.out.alloc W3.out.size (.cells #[.pointer none, .slice none 0 0] 50))
      have S4 := Lib.hid (S3.out.below ((Below.refl w3.heap.size w3).alloc (Nat.le_refl _) (.cells #[.pointer none, .slice none 0 0] 50)) S3.out.lt)
      have hlt4 : w3.heap.size ≤ (w3.alloc (.cells #[.pointer none, .slice none 0 0] 50)).heap.size := by simp
      have hwB : w.heap.size < w3.heap.size := S3.out.lt
      generalize w3.alloc (.cells #[.pointer none, .slice none 0 0] 50) = w4 at IB W4 S4 hlt4 ⊢
      generalize w3.heap.size = B at IB hlt4 hwB ⊢
      have IB := Lib.hid (show IsB B B [] w4.drew from IB.out.below ((Below.refl w4.heap.size w4).drew))
      have W4 := Lib.hid W4.out.drew
      have S4 := Lib.hid (S4.out.same (w' := w4.drew) rfl)
      have hlt4 : B ≤ w4.drew.heap.size := hlt4
      have c0 : w4.drew.cell? ⟨w.heap.size, 0, none⟩ = some (.int .i64 a) := (S4.out.cell 0).trans rfl
      have c1 : w4.drew.cell? ⟨w.heap.size, 1, none⟩ = some (.int .i64 b) := (S4.out.cell 1).trans rfl
      go_region_held_law (fun w' => w'.cell? ⟨w.heap.size, 0, none⟩ = some (.int .i64 a) ∧ w'.cell? ⟨w.heap.size, 1, none⟩ = some (.int .i64 b)) (first | go_keep | exact ⟨c0, c1⟩) (first | (go_at_call 15; (first | (with_reducible refine (HX.out _ (HG.out.below HG.out.size W4.out)).mono ?_) | (with_reducible refine (HY.out _ (HG.out.below HG.out.size W4.out)).mono ?_)); rintro e wn ⟨rfl, hb⟩; have IB := Lib.hid (IB.out.below hb); have W4 := Lib.hid (W4.out.trans (hb.mono W4.out.size)); have S4 := Lib.hid (S4.out.below hb S4.out.lt); have hlt4 : B ≤ wn.heap.size := Nat.le_trans hlt4 hb.size; clear hb; have c0 : wn.cell? ⟨w.heap.size, 0, none⟩ = some (.int .i64 a) := (S4.out.cell 0).trans rfl; have c1 : wn.cell? ⟨w.heap.size, 1, none⟩ = some (.int .i64 b) := (S4.out.cell 1).trans rfl) | (go_at_call 14; refine (writeString_any B B [] _ _ IB.out (by have := HLEN.out; simp only [List.length_nil, Nat.zero_add]; omega) hlt4).mono ?_; rintro e wn ⟨rfl, h1, h2⟩; rw [HHEAD.out, List.nil_append] at h1; have IB := Lib.hid h1; have W4 := Lib.hid (W4.out.trans (h2.mono (Nat.le_of_lt hwB))); have S4 := Lib.hid (S4.out.below h2 hwB); have hlt4 : B ≤ wn.heap.size := Nat.le_trans hlt4 h2.size; clear h1 h2; have c0 : wn.cell? ⟨w.heap.size, 0, none⟩ = some (.int .i64 a) := (S4.out.cell 0).trans rfl; have c1 : wn.cell? ⟨w.heap.size, 1, none⟩ = some (.int .i64 b) := (S4.out.cell 1).trans rfl) | fail)
      have hh61 : (headB a b).length ≤ 61 := by rw [← HHEAD.out]; exact HLEN.out
      clear c0 c1 S4 n1 n2 n3 n4
      have HB := Lib.hid hwB
      go_wp2_with fail
      go_loopw [31] (fun i wr => ∃ k : Nat, i = .int .i64 k ∧ k ≤ l.length ∧ (headB a b ++ linesB (l.take k)).length ≤ 65536 ∧ Hid (IsB B B (headB a b ++ linesB (l.take k)) wr) ∧ Hid (Below w.heap.size w wr) ∧ B ≤ wr.heap.size) (fun i _ => l.length - (intOf i).toNat)
      case atStart => exact ⟨0, rfl, Nat.zero_le _, by simp [linesB]; omega, Lib.hid (by simpa [linesB] using IB.out), W4, hlt4⟩
      case round =>
        obtain ⟨k, rfl, hk, hlen, IBr, HW, hBr⟩ := hrel
        by_cases hlt : k < l.length
        · have hsn := linesB_snoc l k hlt
          have hsp := linesB_split l (k + 1)
          rw [hsn] at hsp
          have hmx := HALL.out l[k] (List.getElem_mem hlt)
          obtain ⟨b', q, x, rfl, hx, c0, c1, c2, c3, c4, c5, c6, c7, c8, c9, c10, c11, c12, c13, c14⟩ := (HL.out.below HW.out).at k hlt
          rw [← hx] at hsn hsp hmx
          have i0 : (0 : Int) ≤ (k : Int) := by omega
          have i1 : (k : Int) < (l.length : Int) := by omega
          have hll := lineB_len x hmx
          have hall : allB l a b = (headB a b ++ linesB (l.take k)) ++ lineB x ++ (linesB (l.drop (k + 1)) ++ qEnd) := by
            unfold allB; rw [hsp]; simp only [List.append_assoc]
          rw [hall] at HR
          have hsn2 : headB a b ++ linesB (l.take (k + 1)) = (headB a b ++ linesB (l.take k)) ++ lineB x := by rw [hsn, List.append_assoc]
          have HSN := Lib.hid hsn2; have HMX := Lib.hid hmx
          clear hsn hsn2 hsp hx hall hmx
          generalize headB a b ++ linesB (l.take k) = L at IBr hlen HR HSN
          generalize linesB (l.drop (k + 1)) ++ qEnd = R at HR
          go_upto_region 11 with fail
          have B1 := Lib.hid (blkV_new wr 31 (SC x))
          have W5 := Lib.hid (HW.out.alloc HW.out.size (.cells (SC x) 31))
          have I5 := Lib.hid (IBr.out.below ((Below.refl wr.heap.size wr).alloc (Nat.le_refl _) (.cells (SC x) 31)))
          have h5 : B ≤ (wr.alloc (.cells (SC x) 31)).heap.size := by simp; omega
          unfold SC at B1 W5 I5 h5
          generalize wr.alloc (.cells #[.int .u8 x.kind, .int .i64 x.r.x, .int .i64 x.r.y, .int .i64 x.r.w, .int .i64 x.r.h, .int .u8 (x.c.r.toNat : Int), .int .u8 (x.c.g.toNat : Int), .int .u8 (x.c.b.toNat : Int), .int .u8 (x.c.a.toNat : Int), .int .u8 (x.d.r.toNat : Int), .int .u8 (x.d.g.toNat : Int), .int .u8 (x.d.b.toNat : Int), .int .u8 (x.d.a.toNat : Int), .string (bt x.t), .int .i64 x.n] 31) = w5 at B1 W5 I5 h5 ⊢
          clear c0 c1 c2 c3 c4 c5 c6 c7 c8 c9 c10 c11 c12 c13 c14
          obtain ⟨c0, c1, c2, c3, c4, c5, c6, c7, c8, c9, c10, c11, c12, c13, c14⟩ := cells15 (x := x) B1.out
          obtain ⟨Z, hZ, sZ⟩ : ∃ Z : ByteArray, Z = bt (lineB x) ∧ Z.size ≤ 300000 := ⟨_, rfl, by rw [bt_size]; exact hll⟩
          have hZd : Z.data.toList = lineB x := by rw [hZ]; simp [bt]
          have HLINE : Hid (∀ w, Glob w → Calls Tryz.prog 16 #[SV x] w fun e w' => e = .returned (.string Z) ∧ Below w.heap.size w w') := Lib.hid fun w hg => by rw [hZ]; exact vline_any x w HMX.out hg
          have HZD := Lib.hid hZd; clear hZ hZd
          go_upto_region 12 with (first | (go_at_call 16; refine (HLINE.out _ (HG.out.below HG.out.size W5.out)).mono ?_; rintro e w6 ⟨rfl, hb⟩; have W6 := Lib.hid (W5.out.trans (hb.mono W5.out.size)); have I6 := Lib.hid (I5.out.below hb); have h6 : B ≤ w6.heap.size := Nat.le_trans h5 hb.size; clear hb) | (go_at_call 14; refine (writeString_any B B L Z _ I6.out (by omega) h6).mono ?_; rintro e w7 ⟨rfl, h1, h2⟩; rw [HZD.out] at h1; have I7 := Lib.hid h1; have W7 := Lib.hid (W6.out.trans (h2.mono (Nat.le_of_lt HB.out))); have h7 : B ≤ w7.heap.size := Nat.le_trans h6 h2.size; clear h1 h2))
          clear c0 c1 c2 c3 c4 c5 c6 c7 c8 c9 c10 c11 c12 c13 c14
          by_cases hbig : 65536 < (L ++ lineB x).length
          · have HR2 : Hid (textP l a b = ([], 3)) := by
              refine Lib.hid ?_
              rw [HR.out, if_neg (by rw [List.length_append]; omega)]
            generalize (L ++ lineB x) = L2 at I7 hbig HSN
            go_wp2_with (go_at_call 17; refine (bLen_any B B L2 _ I7.out).mono ?_; rintro e w8 ⟨rfl, rfl⟩)
            go_ret2
            exact ⟨by rw [HR2.out]; rfl, W7.out⟩
          · generalize (L ++ lineB x) = L2 at I7 hbig HSN
            go_wp2_with (go_at_call 17; refine (bLen_any B B L2 _ I7.out).mono ?_; rintro e w8 ⟨rfl, rfl⟩)
            go_roundw
            case rel => exact ⟨k + 1, by go_num, by omega, by rw [HSN.out]; omega, by rw [HSN.out]; exact I7, W7, h7⟩
            case measure => go_light; simp [intOf]; omega
        · obtain rfl : k = l.length := by omega
          rw [List.take_length] at IBr hlen
          have hall : allB l a b = (headB a b ++ linesB l) ++ qEnd := rfl
          have hq : (⟨#[60, 47, 115, 104, 97, 112, 101, 115, 62, 10]⟩ : ByteArray).data.toList = qEnd := rfl
          have hqs : (⟨#[60, 47, 115, 104, 97, 112, 101, 115, 62, 10]⟩ : ByteArray).size = 10 := rfl
          generalize headB a b ++ linesB l = L at IBr hlen hall
          have HA := Lib.hid hall; have HQ := Lib.hid hq; clear hall hq
          go_upto_region 16 with (go_at_call 14; refine (writeString_any B B L _ _ IBr.out (by rw [hqs]; omega) hBr).mono ?_; rintro e w7 ⟨rfl, h1, h2⟩; rw [HQ.out, ← HA.out] at h1; have I7 := Lib.hid h1; have W7 := Lib.hid (HW.out.trans (h2.mono (Nat.le_of_lt HB.out))); have h7 : B ≤ w7.heap.size := Nat.le_trans hBr h2.size; clear h1 h2)
          generalize allB l a b = A at HR I7
          by_cases hbig : 65536 < A.length
          · rw [if_neg (by omega)] at HR
            go_wp2_with (go_at_call 17; refine (bLen_any B B A _ I7.out).mono ?_; rintro e w8 ⟨rfl, rfl⟩)
            go_ret2
            exact ⟨by rw [HR.out]; rfl, W7.out⟩
          · rw [if_pos (by omega)] at HR
            go_wp2_with (first | (go_at_call 17; refine (bLen_any B B A _ I7.out).mono ?_; rintro e w8 ⟨rfl, rfl⟩) | (go_at_call 18; refine (bString_any B B A _ I7.out h7).mono ?_; rintro e w9 ⟨rfl, h1, h2⟩; have W9 := Lib.hid (W7.out.trans (h2.mono (Nat.le_of_lt HB.out))); clear h1 h2))
            go_ret2
            exact ⟨by rw [HR.out]; rfl, W9.out⟩
  · have hr : textP l a b = ([], checkE l) := by unfold textP; rw [if_neg hc]
    have HR := Lib.hid hr; clear hr
    have g0 : (checkE l == 0) = false := by simpa using hc
    clear hc
    go_enter Tryz.func6, Tryz.ntmps6
    go_wp2_with (go_at_call 12; refine (check_any _ l _ (HL.out.below hA)).mono ?_; rintro e w2 ⟨rfl, hb⟩; have W2 := Lib.hid (hA.trans (hb.mono hA.size)); clear hb)
    go_ret2
    exact ⟨by rw [HR.out]; rfl, W2.out⟩
end Go.Proofs.YtemiamajgjfnbaaGreatDoor
