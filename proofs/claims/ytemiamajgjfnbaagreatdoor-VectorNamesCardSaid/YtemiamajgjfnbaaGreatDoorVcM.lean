/- strconv.ParseUint at base 16, colour.Parse. -/
import Derived.Test.YtemiamajgjfnbaaGreatDoorVcL
import Derived.Laws.Bits64b
namespace Go.Proofs.YtemiamajgjfnbaaGreatDoor
open Go.RowKit Vc
set_option linter.unusedVariables false
set_option linter.unusedSimpArgs false
set_option maxHeartbeats 1000000 in
theorem pu_pub (s : ByteArray) (w : World) (h0 : 0 < s.size) (h8 : s.size ≤ 8) (hall : ∀ b ∈ s.data.toList, (hexq b).isSome = true) :
    Calls Tryz.prog 67 #[.string s, .int .i64 16, .int .i64 64] w fun e w' => e = .returned (.tuple #[.int .u64 (hexN s.data.toList : Nat), .nilIface]) ∧ Below w.heap.size w w' := by
  go_enter Tryz.func67, Tryz.ntmps67
  go_wp2_with fail
  refine (pu16_in s _ h0 h8 hall).mono ?_
  rintro e w' ⟨rfl, hb⟩
  have HB := Lib.hid hb; clear hb
  go_wp2_with fail
  go_ret2
  exact ⟨rfl, HB.out⟩
def isHexB (b : UInt8) : Bool := (hexq b).isSome
def C0 : C := ⟨0, 0, 0, 0⟩
/-- A colour read. -/
def colP : Bytes → Option C
  | [] => none
  | b :: r => if b = 35 ∧ r.all isHexB = true then
      (if r.length = 3 then some ⟨UInt8.ofNat (hexN r / 256 % 16 * 17), UInt8.ofNat (hexN r / 16 % 16 * 17), UInt8.ofNat (hexN r % 16 * 17), 255⟩
       else if r.length = 6 then some ⟨UInt8.ofNat (hexN r / 65536 % 256), UInt8.ofNat (hexN r / 256 % 256), UInt8.ofNat (hexN r % 256), 255⟩
       else if r.length = 8 then some ⟨UInt8.ofNat (hexN r / 16777216 % 256), UInt8.ofNat (hexN r / 65536 % 256), UInt8.ofNat (hexN r / 256 % 256), UInt8.ofNat (hexN r % 256)⟩
       else none) else none
def colE : Option C → Int
  | some _ => 0
  | none => 40
def h22 (c : UInt8) : Int := Lib.indexByte [48, 49, 50, 51, 52, 53, 54, 55, 56, 57, 97, 98, 99, 100, 101, 102, 65, 66, 67, 68, 69, 70] c
theorem h22_ge (c : UInt8) : decide (0 ≤ h22 c) = isHexB c := by
  have : ∀ c : Fin 256, decide (0 ≤ h22 (UInt8.ofNat c.val)) = isHexB (UInt8.ofNat c.val) := by decide +kernel
  have h := this ⟨c.toNat, c.toNat_lt⟩
  simpa using h
theorem h22_any (c : UInt8) (w : World) :
    Calls Tryz.prog 20 #[.string ⟨#[48, 49, 50, 51, 52, 53, 54, 55, 56, 57, 97, 98, 99, 100, 101, 102, 65, 66, 67, 68, 69, 70]⟩, .int .u8 (c.toNat : Int)] w fun e w' => e = .returned (.int .i64 (h22 c)) ∧ w = w' := by
  refine (indexByte_any _ _ w).mono ?_
  rintro e w' ⟨rfl, rfl⟩
  refine ⟨?_, rfl⟩
  simp [h22]
theorem and15u (n : Nat) (h : n < 18446744073709551616) : bits .and .u64 (n : Int) 15 = ((n % 16 : Nat) : Int) := by
  have h1 := bits_and_u64_nat n 15 h (by decide)
  have h2 : n &&& 15 = n % 16 := Nat.and_two_pow_sub_one_eq_mod n 4
  rw [h2] at h1; exact h1
theorem and15q (n k : Nat) (hk : 0 < k) (h : n < 18446744073709551616) : bits .and .u64 ((n : Int) / (k : Int)) 15 = ((n / k % 16 : Nat) : Int) := by
  rw [← Int.natCast_ediv]; exact and15u _ (Nat.lt_of_le_of_lt (Nat.div_le_self _ _) h)
theorem or255u (n : Nat) (h : n < 4294967296) : bits .or .u64 ((n : Int) * 256) 255 = ((n * 256 + 255 : Nat) : Int) := by
  have h1 := bits_or_u64_nat (n * 256) 255 (by omega) (by decide)
  have h2 : n * 256 ||| 255 = n * 256 + 255 := by
    have := Nat.shiftLeft_add_eq_or_of_lt (b := 255) (i := 8) (by decide) n
    rw [Nat.shiftLeft_eq] at this; exact this.symm
  rw [h2] at h1
  rw [← h1]; congr 1
theorem byte17 (x : Nat) (h : x < 16) : ((x : Int) % 256 * 17 % 256) = ((UInt8.ofNat (x * 17)).toNat : Int) := by
  rw [UInt8.toNat_ofNat']; omega
/-- A block of whatever cells. -/
def BlkV (w : World) (b : Nat) (T : TypeId) (vs : Array Value) : Prop := w.heap[b]? = some (.cells vs T (0, 0))
theorem BlkV.cell {w : World} {b : Nat} {T : TypeId} {vs : Array Value} (h : BlkV w b T vs) (o : Nat) : w.cell? ⟨b, o, none⟩ = vs[o]? := by unfold BlkV at h; simp [World.cell?, h]
theorem BlkV.free {w : World} {b : Nat} {T : TypeId} {vs : Array Value} (h : BlkV w b T vs) (o : Nat) : w.frozen? ⟨b, o, none⟩ = false := by unfold BlkV at h; simp [World.frozen?, h]
theorem BlkV.lt {w : World} {b : Nat} {T : TypeId} {vs : Array Value} (h : BlkV w b T vs) : b < w.heap.size := (Array.getElem?_eq_some_iff.1 h).1
theorem BlkV.set {w : World} {b : Nat} {T : TypeId} {vs : Array Value} (h : BlkV w b T vs) (o : Nat) (v : Value) : BlkV (w.setCell ⟨b, o, none⟩ v) b T (vs.setIfInBounds o v) := by
  unfold BlkV at *; simp [World.setCell, Array.getElem?_modify, h]
theorem BlkV.same {w w' : World} {b : Nat} {T : TypeId} {vs : Array Value} (h : BlkV w b T vs) (hh : w'.heap[b]? = w.heap[b]?) : BlkV w' b T vs := by unfold BlkV at *; rw [hh]; exact h
theorem BlkV.below {w w' : World} {B b : Nat} {T : TypeId} {vs : Array Value} (h : BlkV w b T vs) (hb : Below B w w') (hB : b < B) : BlkV w' b T vs := h.same (hb.block b hB)
theorem blkV_new (w : World) (T : TypeId) (vs : Array Value) : BlkV (w.alloc (.cells vs T)) w.heap.size T vs := heap_alloc_new _ _
def colC (c : C) : Array Value := #[.int .u8 (c.r.toNat : Int), .int .u8 (c.g.toNat : Int), .int .u8 (c.b.toNat : Int), .int .u8 (c.a.toNat : Int)]
def put4 (w : World) (b : Nat) (v0 v1 v2 v3 : Value) : World := (((w.setCell ⟨b, 0, none⟩ v0).setCell ⟨b, 1, none⟩ v1).setCell ⟨b, 2, none⟩ v2).setCell ⟨b, 3, none⟩ v3
theorem BlkV.put4 {w : World} {b : Nat} {T : TypeId} {x0 x1 x2 x3 : Value} (h : BlkV w b T #[x0, x1, x2, x3]) (v0 v1 v2 v3 : Value) : BlkV (put4 w b v0 v1 v2 v3) b T #[v0, v1, v2, v3] :=
  (((h.set 0 v0).set 1 v1).set 2 v2).set 3 v3
theorem below_put4 {B : Nat} {a w : World} (h : Below B a w) (b : Nat) (hb : B ≤ b) (v0 v1 v2 v3 : Value) : Below B a (put4 w b v0 v1 v2 v3) :=
  (((h.setCell (p := ⟨b, 0, none⟩) hb _).setCell (p := ⟨b, 1, none⟩) hb _).setCell (p := ⟨b, 2, none⟩) hb _).setCell (p := ⟨b, 3, none⟩) hb _
theorem load_col {w : World} {b : Nat} {c : C} (h : BlkV w b 29 (colC c)) : (loadVar 29 ⟨b, 0, none⟩).run Tryz.prog w = .ok (CV c) w := by
  have c0 : w.cell? ⟨b, 0, none⟩ = some (.int .u8 (c.r.toNat : Int)) := (h.cell 0).trans rfl
  have c1 : w.cell? ⟨b, 1, none⟩ = some (.int .u8 (c.g.toNat : Int)) := (h.cell 1).trans rfl
  have c2 : w.cell? ⟨b, 2, none⟩ = some (.int .u8 (c.b.toNat : Int)) := (h.cell 2).trans rfl
  have c3 : w.cell? ⟨b, 3, none⟩ = some (.int .u8 (c.a.toNat : Int)) := (h.cell 3).trans rfl
  unfold CV
  go_simp
theorem res_colp {w : World} {r : Nat} {c : C} (h : BlkV w r 29 (colC c)) (tm : Array Value) (x y : Int) (h2 : tm.getD 2 undef = .pointer (some ⟨r, 0, none⟩)) (h3 : tm.getD 3 undef = .int .i64 x) (h4 : tm.getD 4 undef = .int .i64 y) :
    (results Tryz.f53 tm).run Tryz.prog w = .ok (.tuple #[CV c, .int .i64 x, .int .i64 y]) w := by
  have hl := load_col h
  have hr : Tryz.f53.results = #[.cell 2 29, .tmp 3, .tmp 4] := rfl
  simp only [results, hr]
  simp at h2 h3 h4
  simp [Sem.run_bind, Result.andThen, asAddr, h2, h3, h4, hl]
/-- The digits behind the sign. -/
def runq (l : Bytes) : Nat := (((l.drop 1).take 8).takeWhile isHexB).length
theorem par_hex (s : ByteArray) (r : Bytes) (q k : Nat) (hr : s.data.toList = 35 :: r) (hq : q = ((r.take 8).takeWhile isHexB).length) (h1 : 1 ≤ k) (h : k < 1 + q) (hk : k < s.size) : isHexB s[k] = true := by
  obtain ⟨j, rfl⟩ : ∃ j, k = j + 1 := ⟨k - 1, by omega⟩
  obtain ⟨hj, hx⟩ := tw_lt isHexB (r.take 8) j (by omega)
  have e : s[j + 1] = s.data.toList[j + 1]'hk := (data_get s (j + 1) hk).symm
  rw [e]
  have : s.data.toList[j + 1]'hk = (r.take 8)[j] := by simp only [hr, List.getElem_cons_succ, List.getElem_take]
  rw [this]; exact hx
theorem par_end (s : ByteArray) (r : Bytes) (q : Nat) (hr : s.data.toList = 35 :: r) (hq : q = ((r.take 8).takeWhile isHexB).length) (h : q < 8) (hk : 1 + q < s.size) : isHexB s[1 + q] = false := by
  have hl : s.data.toList.length = s.size := rfl
  rw [hr] at hl; simp only [List.length_cons] at hl
  have hj : ((r.take 8).takeWhile isHexB).length < (r.take 8).length := by rw [List.length_take, ← hq]; omega
  have hx := tw_end isHexB (r.take 8) hj
  have e : s[1 + q] = s.data.toList[1 + q]'hk := (data_get s (1 + q) hk).symm
  rw [e]
  have : s.data.toList[1 + q]'hk = (r.take 8)[((r.take 8).takeWhile isHexB).length] := by
    subst hq
    simp only [hr, Nat.add_comm 1, List.getElem_cons_succ, List.getElem_take]
  rw [this]; exact hx
theorem par_all (r : Bytes) (q : Nat) (hq : q = ((r.take 8).takeWhile isHexB).length) (h : r.length ≤ q) : ∀ b ∈ r, (hexq b).isSome = true := by
  have h1 := tw_le isHexB (r.take 8)
  have ht : r.take 8 = r := List.take_of_length_le (by rw [List.length_take] at h1; omega)
  rw [ht] at hq
  intro b hb
  obtain ⟨i, hi, rfl⟩ := List.getElem_of_mem hb
  obtain ⟨_, hx⟩ := tw_lt isHexB r i (by omega)
  exact hx
theorem all_tw (l : Bytes) (h : l.all isHexB = true) : l.takeWhile isHexB = l := by
  induction l with
  | nil => rfl
  | cons b t ih => simp only [List.all_cons, Bool.and_eq_true] at h; rw [List.takeWhile_cons, if_pos h.1, ih h.2]
theorem par_none (s : ByteArray) (r : Bytes) (q : Nat) (hr : s.data.toList = 35 :: r) (hq : q = ((r.take 8).takeWhile isHexB).length) (h : q < r.length) : colP s.data.toList = none := by
  rw [hr]; simp only [colP]
  by_cases hall : r.all isHexB = true
  · rw [if_pos (by simpa using hall)]
    by_cases h8 : r.length ≤ 8
    · rw [List.take_of_length_le h8, all_tw r hall] at hq; omega
    · rw [if_neg (by omega), if_neg (by omega), if_neg (by omega)]
  · rw [if_neg (fun h => hall h.2)]
set_option maxHeartbeats 800000 in
set_option maxRecDepth 100000 in
theorem colparse_any (s : ByteArray) (w : World) (hs : s.size ≤ 140737488351232) :
    Calls Tryz.prog 53 #[.string s] w fun e w' => (∃ n : Int, e = .returned (.tuple #[CV ((colP s.data.toList).getD C0), .int .i64 n, .int .i64 (colE (colP s.data.toList))])) ∧ Below w.heap.size w w' := by
  cases hpre : Lib.hasPrefix s.data.toList [35] with
  | false =>
    have hnone : colP s.data.toList = none := by
      cases hd : s.data.toList with
      | nil => rfl
      | cons b r => rw [hd] at hpre; simp only [colP]; rw [if_neg]; rintro ⟨rfl, _⟩; simp [Lib.hasPrefix] at hpre
    rw [hnone]
    have HN := Lib.hid hnone; clear hnone
    have HPRE := Lib.hid hpre; clear hpre
    go_enter Tryz.func53, Tryz.ntmps53
    go_wp2_with fail
    refine (hasPrefix_any s ⟨#[35]⟩ _).mono ?_
    rintro e w' ⟨rfl, rfl⟩
    rw [show (⟨#[35]⟩ : ByteArray).data.toList = [35] from rfl, HPRE.out]
    go_wp2_with fail
    exact bodyPost_ret (v := .tuple #[CV C0, .int .i64 0, .int .i64 40]) (by simp [results, Tryz.results53, go_sem, CV, C0]) rfl ⟨⟨0, rfl⟩, (Below.refl _ _).alloc (Nat.le_refl _) _⟩
  | true =>
    obtain ⟨r, hr⟩ : ∃ r, s.data.toList = 35 :: r := by
      cases hd : s.data.toList with
      | nil => rw [hd] at hpre; exact absurd hpre (by decide)
      | cons b r => rw [hd] at hpre; simp [Lib.hasPrefix] at hpre; exact ⟨r, by rw [hpre]⟩
    have hsz : s.size = 1 + r.length := by
      have : s.data.toList.length = s.size := rfl
      rw [hr] at this; simp at this; omega
    have HPRE := Lib.hid hpre; clear hpre
    have HR := Lib.hid hr; clear hr
    obtain ⟨q, hq⟩ : ∃ q, q = ((r.take 8).takeWhile isHexB).length := ⟨_, rfl⟩
    have hq8 : q ≤ 8 := by rw [hq]; have := tw_le isHexB (r.take 8); simp at this; omega
    have hqr : q ≤ r.length := by rw [hq]; have := tw_le isHexB (r.take 8); simp at this; omega
    have HQ := Lib.hid hq; clear hq
    go_enter Tryz.func53, Tryz.ntmps53
    go_wp2_with fail
    refine (hasPrefix_any s ⟨#[35]⟩ _).mono ?_
    rintro e w' ⟨rfl, rfl⟩
    rw [show (⟨#[35]⟩ : ByteArray).data.toList = [35] from rfl, HPRE.out]
    go_upto_block 9 with fail
    go_loopw [5] (fun v wr => ∃ k : Nat, v = .int .i64 k ∧ 1 ≤ k ∧ k ≤ 1 + q ∧ wr = w.alloc (.cells #[.int .u8 0, .int .u8 0, .int .u8 0, .int .u8 0] 29)) (fun v _ => 10 - (intOf v).toNat)
    case atStart => exact ⟨1, rfl, Nat.le_refl _, by omega, rfl⟩
    case round =>
      obtain ⟨k, rfl, hk1, hkq, rfl⟩ := hrel
      by_cases hlt : k < 1 + q
      · have hks : k < s.size := by omega
        have hk9 : k < 9 := by omega
        have hx : isHexB s[k] = true := par_hex s r q k HR.out HQ.out hk1 hlt hks
        have hge : decide (0 ≤ h22 s[k]) = true := by rw [h22_ge]; exact hx
        have hx0 : 0 ≤ h22 s[k] := of_decide_eq_true hge
        go_wp2_with (go_at_call 20; refine (h22_any _ _).mono ?_; rintro e w' ⟨rfl, rfl⟩)
        go_roundw
        case rel => go_light; exact ⟨k + 1, by go_num, by omega, by omega, by first | rfl | trivial⟩
        case measure => go_light; simp [intOf]; omega
      · obtain rfl : k = 1 + q := by omega
        by_cases hend : 1 + q < s.size
        · have hnone : colP s.data.toList = none := par_none s r q HR.out HQ.out (by omega)
          have HN := Lib.hid hnone; clear hnone
          by_cases h9 : 1 + q < 9
          · have hx : isHexB s[1 + q] = false := par_end s r q HR.out HQ.out (by omega) hend
            have hge : decide (0 ≤ h22 s[1 + q]) = false := by rw [h22_ge]; exact hx
            have hx0 : ¬ 0 ≤ h22 s[1 + q] := of_decide_eq_false hge
            go_wp2_with (go_at_call 20; refine (h22_any _ _).mono ?_; rintro e w' ⟨rfl, rfl⟩)
            exact bodyPost_ret (v := .tuple #[CV C0, .int .i64 (1 + q : Nat), .int .i64 40]) (by simp [results, Tryz.results53, go_sem, CV, C0]) rfl ⟨⟨_, by rw [HN.out]; rfl⟩, (Below.refl _ _).alloc (Nat.le_refl _) _⟩
          · go_wp2_with fail
            exact bodyPost_ret (v := .tuple #[CV C0, .int .i64 (1 + q : Nat), .int .i64 40]) (by simp [results, Tryz.results53, go_sem, CV, C0]) rfl ⟨⟨_, by rw [HN.out]; rfl⟩, (Below.refl _ _).alloc (Nat.le_refl _) _⟩
        · have hall : ∀ b ∈ r, (hexq b).isSome = true := par_all r q HQ.out (by omega)
          have hrl : r.length = q := by omega
          have hsq : s.size = 1 + q := by omega
          have halls : r.all isHexB = true := List.all_eq_true.2 hall
          by_cases hq3 : q = 3
          · have hsub : (s.extract 1 s.size).data.toList = r := by rw [Lib.extract_to_end, HR.out]; rfl
            have HS := Lib.hid hsub; clear hsub
            have HA := Lib.hid hall; clear hall
            have HAS := Lib.hid halls; clear halls
            subst hq3
            rw [show s.size = 4 by omega] at HS
            go_wp2_with fail
            refine (pu_pub (s.extract 1 4) _ (by rw [ByteArray.size_extract]; omega) (by rw [ByteArray.size_extract]; omega) (by rw [HS.out]; exact HA.out)).mono ?_
            rintro e w1 ⟨rfl, hb⟩
            rw [HS.out]
            have hB := (blkV_new w 29 #[.int .u8 0, .int .u8 0, .int .u8 0, .int .u8 0]).below hb (by simp)
            have hW : Below w.heap.size w w1 := ((Below.refl _ _).alloc (Nat.le_refl _) _).trans (hb.mono (by simp))
            obtain ⟨v, hv⟩ : ∃ v, v = hexN r := ⟨_, rfl⟩
            have hvl : v < 4096 := by have := hexN_lt r HA.out; rw [hrl] at this; rw [hv]; exact this
            rw [← hv]
            have c0 : w1.cell? ⟨w.heap.size, 0, none⟩ = some (.int .u8 0) := (hB.cell 0).trans rfl
            have c1 : w1.cell? ⟨w.heap.size, 1, none⟩ = some (.int .u8 0) := (hB.cell 1).trans rfl
            have c2 : w1.cell? ⟨w.heap.size, 2, none⟩ = some (.int .u8 0) := (hB.cell 2).trans rfl
            have c3 : w1.cell? ⟨w.heap.size, 3, none⟩ = some (.int .u8 0) := (hB.cell 3).trans rfl
            have f0 := hB.free 0
            have f1 := hB.free 1
            have f2 := hB.free 2
            have f3 := hB.free 3
            have HB := Lib.hid hB; have HW := Lib.hid hW; have HV := Lib.hid hv; clear hB hW hv hb
            have a1 : bits .and .u64 ((v : Int) / 256) 15 = ((v / 256 % 16 : Nat) : Int) := and15q v 256 (by decide) (by omega)
            have a2 : bits .and .u64 ((v : Int) / 16) 15 = ((v / 16 % 16 : Nat) : Int) := and15q v 16 (by decide) (by omega)
            have a3 : bits .and .u64 (v : Int) 15 = ((v % 16 : Nat) : Int) := and15u v (by omega)
            have b1 := byte17 (v / 256 % 16) (by omega)
            have b2 := byte17 (v / 16 % 16) (by omega)
            have b3 := byte17 (v % 16) (by omega)
            rw [← a1] at b1; rw [← a2] at b2; rw [← a3] at b3
            clear a1 a2 a3
            obtain ⟨B1, hB1⟩ : ∃ x, x = UInt8.ofNat (v / 256 % 16 * 17) := ⟨_, rfl⟩
            obtain ⟨B2, hB2⟩ : ∃ x, x = UInt8.ofNat (v / 16 % 16 * 17) := ⟨_, rfl⟩
            obtain ⟨B3, hB3⟩ : ∃ x, x = UInt8.ofNat (v % 16 * 17) := ⟨_, rfl⟩
            rw [← hB1] at b1; rw [← hB2] at b2; rw [← hB3] at b3
            have hcol : colP s.data.toList = some ⟨B1, B2, B3, 255⟩ := by
              rw [HR.out]; simp only [colP]; rw [if_pos (by simpa using HAS.out), if_pos hrl, ← HV.out, ← hB1, ← hB2, ← hB3]
            have HC := Lib.hid hcol
            clear hcol hB1 hB2 hB3
            go_wp2_with fail
            refine bodyPost_ret (res_colp (c := ⟨B1, B2, B3, 255⟩) (HB.out.put4 _ _ _ _) _ 0 0 rfl rfl rfl) rfl ⟨⟨0, ?_⟩, below_put4 HW.out _ (Nat.le_refl _) _ _ _ _⟩
            rw [HC.out]; rfl
          · by_cases hq6 : q = 6
            · skip
              have hsub : (s.extract 1 s.size).data.toList = r := by rw [Lib.extract_to_end, HR.out]; rfl
              have HS := Lib.hid hsub; clear hsub
              have HA := Lib.hid hall; clear hall
              have HAS := Lib.hid halls; clear halls
              subst hq6
              rw [show s.size = 7 by omega] at HS
              go_wp2_with fail
              refine (pu_pub (s.extract 1 7) _ (by rw [ByteArray.size_extract]; omega) (by rw [ByteArray.size_extract]; omega) (by rw [HS.out]; exact HA.out)).mono ?_
              rintro e w1 ⟨rfl, hb⟩
              rw [HS.out]
              have hB := (blkV_new w 29 #[.int .u8 0, .int .u8 0, .int .u8 0, .int .u8 0]).below hb (by simp)
              have hW : Below w.heap.size w w1 := ((Below.refl _ _).alloc (Nat.le_refl _) _).trans (hb.mono (by simp))
              obtain ⟨v, hv⟩ : ∃ v, v = hexN r := ⟨_, rfl⟩
              have hvl : v < 16777216 := by have := hexN_lt r HA.out; rw [hrl] at this; rw [hv]; exact this
              rw [← hv]
              have c0 : w1.cell? ⟨w.heap.size, 0, none⟩ = some (.int .u8 0) := (hB.cell 0).trans rfl
              have c1 : w1.cell? ⟨w.heap.size, 1, none⟩ = some (.int .u8 0) := (hB.cell 1).trans rfl
              have c2 : w1.cell? ⟨w.heap.size, 2, none⟩ = some (.int .u8 0) := (hB.cell 2).trans rfl
              have c3 : w1.cell? ⟨w.heap.size, 3, none⟩ = some (.int .u8 0) := (hB.cell 3).trans rfl
              have f0 := hB.free 0
              have f1 := hB.free 1
              have f2 := hB.free 2
              have f3 := hB.free 3
              have HB := Lib.hid hB; have HW := Lib.hid hW; have HV := Lib.hid hv; clear hB hW hv hb
              have o1 : bits .or .u64 ((v : Int) * 256) 255 = ((v * 256 + 255 : Nat) : Int) := or255u v (by omega)
              obtain ⟨B1, hB1⟩ : ∃ x, x = UInt8.ofNat (v / 65536 % 256) := ⟨_, rfl⟩
              have b1 : ((v : Int) * 256 + 255) / 16777216 = (B1.toNat : Int) := by rw [hB1, UInt8.toNat_ofNat']; omega
              obtain ⟨B2, hB2⟩ : ∃ x, x = UInt8.ofNat (v / 256 % 256) := ⟨_, rfl⟩
              have b2 : ((v : Int) * 256 + 255) / 65536 % 256 = (B2.toNat : Int) := by rw [hB2, UInt8.toNat_ofNat']; omega
              obtain ⟨B3, hB3⟩ : ∃ x, x = UInt8.ofNat (v % 256) := ⟨_, rfl⟩
              have b3 : ((v : Int) * 256 + 255) / 256 % 256 = (B3.toNat : Int) := by rw [hB3, UInt8.toNat_ofNat']; omega
              have hcol : colP s.data.toList = some ⟨B1, B2, B3, 255⟩ := by
                rw [HR.out]; simp only [colP]; rw [if_pos (by simpa using HAS.out), if_neg (by omega), if_pos hrl, ← HV.out, ← hB1, ← hB2, ← hB3]
              have HC := Lib.hid hcol
              clear hcol hB1 hB2 hB3
              go_wp2_with fail
              refine bodyPost_ret (res_colp (c := ⟨B1, B2, B3, 255⟩) (HB.out.put4 _ _ _ _) _ 0 0 rfl rfl rfl) rfl ⟨⟨0, ?_⟩, below_put4 HW.out _ (Nat.le_refl _) _ _ _ _⟩
              rw [HC.out]; rfl
            · by_cases hq8e : q = 8
              · skip
                have hsub : (s.extract 1 s.size).data.toList = r := by rw [Lib.extract_to_end, HR.out]; rfl
                have HS := Lib.hid hsub; clear hsub
                have HA := Lib.hid hall; clear hall
                have HAS := Lib.hid halls; clear halls
                subst hq8e
                rw [show s.size = 9 by omega] at HS
                go_wp2_with fail
                refine (pu_pub (s.extract 1 9) _ (by rw [ByteArray.size_extract]; omega) (by rw [ByteArray.size_extract]; omega) (by rw [HS.out]; exact HA.out)).mono ?_
                rintro e w1 ⟨rfl, hb⟩
                rw [HS.out]
                have hB := (blkV_new w 29 #[.int .u8 0, .int .u8 0, .int .u8 0, .int .u8 0]).below hb (by simp)
                have hW : Below w.heap.size w w1 := ((Below.refl _ _).alloc (Nat.le_refl _) _).trans (hb.mono (by simp))
                obtain ⟨v, hv⟩ : ∃ v, v = hexN r := ⟨_, rfl⟩
                have hvl : v < 4294967296 := by have := hexN_lt r HA.out; rw [hrl] at this; rw [hv]; exact this
                rw [← hv]
                have c0 : w1.cell? ⟨w.heap.size, 0, none⟩ = some (.int .u8 0) := (hB.cell 0).trans rfl
                have c1 : w1.cell? ⟨w.heap.size, 1, none⟩ = some (.int .u8 0) := (hB.cell 1).trans rfl
                have c2 : w1.cell? ⟨w.heap.size, 2, none⟩ = some (.int .u8 0) := (hB.cell 2).trans rfl
                have c3 : w1.cell? ⟨w.heap.size, 3, none⟩ = some (.int .u8 0) := (hB.cell 3).trans rfl
                have f0 := hB.free 0
                have f1 := hB.free 1
                have f2 := hB.free 2
                have f3 := hB.free 3
                have HB := Lib.hid hB; have HW := Lib.hid hW; have HV := Lib.hid hv; clear hB hW hv hb
                obtain ⟨B1, hB1⟩ : ∃ x, x = UInt8.ofNat (v / 16777216 % 256) := ⟨_, rfl⟩
                have b1 : (v : Int) / 16777216 = (B1.toNat : Int) := by rw [hB1, UInt8.toNat_ofNat']; omega
                obtain ⟨B2, hB2⟩ : ∃ x, x = UInt8.ofNat (v / 65536 % 256) := ⟨_, rfl⟩
                have b2 : (v : Int) / 65536 % 256 = (B2.toNat : Int) := by rw [hB2, UInt8.toNat_ofNat']; omega
                obtain ⟨B3, hB3⟩ : ∃ x, x = UInt8.ofNat (v / 256 % 256) := ⟨_, rfl⟩
                have b3 : (v : Int) / 256 % 256 = (B3.toNat : Int) := by rw [hB3, UInt8.toNat_ofNat']; omega
                obtain ⟨B4, hB4⟩ : ∃ x, x = UInt8.ofNat (v % 256) := ⟨_, rfl⟩
                have b4 : (v : Int) % 256 = (B4.toNat : Int) := by rw [hB4, UInt8.toNat_ofNat']; omega
                have hcol : colP s.data.toList = some ⟨B1, B2, B3, B4⟩ := by
                  rw [HR.out]; simp only [colP]; rw [if_pos (by simpa using HAS.out), if_neg (by omega), if_neg (by omega), if_pos hrl, ← HV.out, ← hB1, ← hB2, ← hB3, ← hB4]
                have HC := Lib.hid hcol
                clear hcol hB1 hB2 hB3 hB4
                go_wp2_with fail
                refine bodyPost_ret (res_colp (c := ⟨B1, B2, B3, B4⟩) (HB.out.put4 _ _ _ _) _ 0 0 rfl rfl rfl) rfl ⟨⟨0, ?_⟩, below_put4 HW.out _ (Nat.le_refl _) _ _ _ _⟩
                rw [HC.out]; rfl
              · have hn3 : ((1 + (q : Int)) != 4) = true := by rw [bne_iff_ne]; omega
                have hn6 : ((1 + (q : Int)) != 7) = true := by rw [bne_iff_ne]; omega
                have hn8 : ((1 + (q : Int)) != 9) = true := by rw [bne_iff_ne]; omega
                have hnone : colP s.data.toList = none := by
                  rw [HR.out]; simp only [colP]; rw [if_pos (by simpa using halls), if_neg (by omega), if_neg (by omega), if_neg (by omega)]
                have HN := Lib.hid hnone
                have HALL := Lib.hid hall; clear hnone hall halls
                go_wp2_with fail
                exact bodyPost_ret (v := .tuple #[CV C0, .int .i64 (1 + q : Nat), .int .i64 40]) (by simp [results, Tryz.results53, go_sem, CV, C0]) rfl ⟨⟨_, by rw [HN.out]; rfl⟩, (Below.refl _ _).alloc (Nat.le_refl _) _⟩
end Go.Proofs.YtemiamajgjfnbaaGreatDoor
