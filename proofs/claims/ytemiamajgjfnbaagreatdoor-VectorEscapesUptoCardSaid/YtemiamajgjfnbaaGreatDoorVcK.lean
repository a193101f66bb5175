/- strconv.ParseUint at base 16; colours. -/
import Derived.Test.YtemiamajgjfnbaaGreatDoorVcH
import Derived.Lib.ConvBytes
namespace Go.Proofs.YtemiamajgjfnbaaGreatDoor
open Go.RowKit Vc
set_option linter.unusedVariables false
set_option linter.unusedSimpArgs false
/-- A hexadecimal digit's worth, in either case. -/
def hexq (b : UInt8) : Option Nat := if 48 ≤ b.toNat ∧ b.toNat ≤ 57 then some (b.toNat - 48) else if 97 ≤ b.toNat ∧ b.toNat ≤ 102 then some (b.toNat - 87) else if 65 ≤ b.toNat ∧ b.toNat ≤ 70 then some (b.toNat - 55) else none
def hexN (l : List UInt8) : Nat := l.foldl (fun n b => 16 * n + (hexq b).getD 0) 0
theorem hexN_snoc (l : List UInt8) (b : UInt8) : hexN (l ++ [b]) = 16 * hexN l + (hexq b).getD 0 := by unfold hexN; rw [List.foldl_append]; rfl
theorem hexq_lt (b : UInt8) (v : Nat) (h : hexq b = some v) : v < 16 := by
  unfold hexq at h
  split at h
  · cases h; omega
  · split at h
    · cases h; omega
    · split at h
      · cases h; omega
      · cases h
theorem or32 (c : UInt8) : bits .or .u8 (c.toNat : Int) 32 = ((c ||| 32).toNat : Int) := by
  have h : ∀ n : Fin 256, bits .or .u8 ((UInt8.ofNat n.val).toNat : Int) 32 = ((UInt8.ofNat n.val ||| 32).toNat : Int) := by decide +kernel
  have := h ⟨c.toNat, c.toNat_lt⟩
  simpa using this
theorem hexq_cases (c : UInt8) (v : Nat) (h : hexq c = some v) : (48 ≤ c.toNat ∧ c.toNat ≤ 57 ∧ v + 48 = c.toNat) ∨ (57 < c.toNat ∧ c.toNat ≠ 95 ∧ 97 ≤ (c ||| 32).toNat ∧ (c ||| 32).toNat ≤ 122 ∧ v + 87 = (c ||| 32).toNat) := by
  have : ∀ n : Fin 256, ∀ v, hexq (UInt8.ofNat n.val) = some v → (48 ≤ (UInt8.ofNat n.val).toNat ∧ (UInt8.ofNat n.val).toNat ≤ 57 ∧ v + 48 = (UInt8.ofNat n.val).toNat) ∨ (57 < (UInt8.ofNat n.val).toNat ∧ (UInt8.ofNat n.val).toNat ≠ 95 ∧ 97 ≤ (UInt8.ofNat n.val ||| 32).toNat ∧ (UInt8.ofNat n.val ||| 32).toNat ≤ 122 ∧ v + 87 = (UInt8.ofNat n.val ||| 32).toNat) := by decide +kernel
  have h2 := this ⟨c.toNat, c.toNat_lt⟩ v (by simpa using h)
  simpa using h2
theorem lower_any (c : UInt8) (w : World) :
    Calls Tryz.prog 92 #[.int .u8 (c.toNat : Int)] w fun e w' => e = .returned (.int .u8 ((c ||| 32).toNat : Int)) ∧ w = w' := by
  have h := or32 c
  go_enter Tryz.func92, Tryz.ntmps92
  go_wp2
  go_ret
  exact ⟨rfl, rfl⟩
theorem fold16_lt : ∀ (l : List UInt8) (acc : Nat), (∀ b ∈ l, (hexq b).isSome = true) → l.foldl (fun n b => 16 * n + (hexq b).getD 0) acc < (acc + 1) * 16 ^ l.length
  | [], acc, _ => by simp
  | b :: r, acc, h => by
    obtain ⟨v, hv⟩ := Option.isSome_iff_exists.1 (h b (by simp))
    have h2 := hexq_lt b v hv
    have ih := fold16_lt r (16 * acc + v) (fun x hx => h x (by simp [hx]))
    show List.foldl _ (16 * acc + (hexq b).getD 0) r < _
    rw [hv]
    refine Nat.lt_of_lt_of_le ih ?_
    rw [List.length_cons, Nat.pow_succ, Nat.mul_comm (16 ^ r.length) 16, ← Nat.mul_assoc]
    exact Nat.mul_le_mul_right _ (by omega)
theorem hexN_lt (l : List UInt8) (hall : ∀ b ∈ l, (hexq b).isSome = true) : hexN l < 16 ^ l.length := by
  have := fold16_lt l 0 hall
  unfold hexN; omega
theorem hexN_take (l : List UInt8) (k : Nat) (h8 : l.length ≤ 8) (hall : ∀ b ∈ l, (hexq b).isSome = true) : hexN (l.take k) < 4294967296 := by
  have h1 := hexN_lt (l.take k) (fun b hb => hall b (List.mem_of_mem_take hb))
  have h2 : 16 ^ (l.take k).length ≤ 16 ^ 8 := Nat.pow_le_pow_right (by decide) (by rw [List.length_take]; omega)
  have h3 : (16 : Nat) ^ 8 = 4294967296 := by decide
  omega

set_option maxHeartbeats 4000000 in
set_option maxRecDepth 100000 in
theorem pu16_in (s : ByteArray) (w : World) (h0 : 0 < s.size) (h8 : s.size ≤ 8) (hall : ∀ b ∈ s.data.toList, (hexq b).isSome = true) :
    Calls Tryz.prog 83 #[.string s, .int .i64 16, .int .i64 64] w fun e w' => e = .returned (.tuple #[.int .u64 (hexN s.data.toList : Nat), .nilIface]) ∧ Below w.heap.size w w' := by
  have hcv := Lib.run_convert_string_bytes (P := Tryz.prog) w 9 48 5 s (u := .string) Tryz.underlying9 Tryz.underlying48 Tryz.underlying5
  have hB : ∀ j, j < s.size → (Lib.bytesWorld w 5 s).cell? ⟨w.heap.size, j, none⟩ = some (.int .u8 (s.data.toList.getD j 0).toNat) := fun j hj => Lib.bytesWorld_cell w 5 s j hj
  have hbel := Lib.bytesWorld_below w 5 s
  obtain ⟨W1, hW1⟩ : ∃ W1, W1 = Lib.bytesWorld w 5 s := ⟨_, rfl⟩
  rw [← hW1] at hcv hB hbel
  have HW := Lib.hid hW1; have HB := Lib.hid hB; have HBEL := Lib.hid hbel; have HALL := Lib.hid hall
  have hne : s.toList.isEmpty = false := by
    cases h : s.toList with
    | nil => have h9 : s.data.toList.length = s.size := rfl; rw [Lib.toList_data] at h; rw [h] at h9; simp at h9; omega
    | cons => rfl
  have hne2 : (s.toList == []) = false := by
    cases h : s.toList with
    | nil => rw [h] at hne; simp at hne
    | cons => rfl
  have hl8 : s.data.toList.length ≤ 8 := h8
  have HT8 := Lib.hid (fun k => hexN_take s.data.toList k hl8 hall)
  obtain ⟨MX, hmx⟩ : ∃ MX : Int, IntKind.u64.wrap (IntKind.u64.wrap 18446744073709551616 - 1) = MX := ⟨_, rfl⟩
  have hmx2 : 4294967296 ≤ MX := by rw [← hmx]; decide
  clear hW1 hB hbel hall hl8
  go_enter Tryz.func83, Tryz.ntmps83
  go_wp2_with fail
  clear hcv
  have HMX := Lib.hid hmx; clear hmx
  go_loop [12, 13, 101] (fun u n i => ∃ k : Nat, k ≤ s.size ∧ u = .bool false ∧ i = .int .i64 k ∧ n = .int .u64 (hexN (s.data.toList.take k) : Nat)) (fun _ _ i => s.size - (intOf i).toNat)
  case atStart => exact ⟨0, Nat.zero_le _, rfl, rfl, rfl⟩
  case round =>
    obtain ⟨k, hk, rfl, rfl, rfl⟩ := hrel
    have hv := HT8.out k
    by_cases hlt : k < s.size
    · have hlt' : k < s.data.toList.length := hlt
      have hx : s.data.toList.getD k 0 = s.data.toList[k] := by rw [List.getD, List.getElem?_eq_getElem hlt']; rfl
      obtain ⟨d, hd⟩ := Option.isSome_iff_exists.1 (HALL.out s.data.toList[k] (List.getElem_mem hlt'))
      have hc1 := HB.out k hlt
      rw [hx] at hc1
      have hsn : hexN (s.data.toList.take (k + 1)) = 16 * hexN (s.data.toList.take k) + d := by
        rw [List.take_succ_eq_append_getElem hlt', hexN_snoc, hd]; rfl
      have hv2 := HT8.out (k + 1)
      rw [hsn] at hv2
      have HSN := Lib.hid hsn; clear hsn
      have hcs := hexq_cases _ d hd
      have hd16 := hexq_lt _ d hd
      generalize s.data.toList[k] = c at hc1 hd hcs
      generalize hexN (s.data.toList.take k) = V at hv hv2 HSN ⊢
      clear hx hd hlt'
      have hcl := c.toNat_lt
      rcases hcs with ⟨c1, c2, c3⟩ | ⟨c1, c2, c3, c4, c5⟩
      · have n95 : ((c.toNat : Int) == 95) = false := by simp; omega
        have a1 : (48 : Int) ≤ (c.toNat : Int) := by omega
        have a2 : (c.toNat : Int) ≤ 57 := by omega
        have u1 : IntKind.u8.wrap ((c.toNat : Int) - 48) = (d : Int) := by rw [IntWalk.u8_in _ (by omega)]; omega
        have hVV : (V : Int) < 4294967296 := by omega
        have hdd : (d : Int) < 16 := by omega
        have u2 : IntKind.u64.wrap ((V : Int) * 16) = (V : Int) * 16 := IntWalk.u64_in _ (by omega)
        have u3 : IntKind.u64.wrap ((V : Int) * 16 + (d : Int)) = (V : Int) * 16 + (d : Int) := IntWalk.u64_in _ (by omega)
        have u4 : IntKind.u64.wrap (d : Int) = (d : Int) := IntWalk.u64_in _ (by omega)
        have t1 : decide ((16 : Int) ≤ (d : Int)) = false := decide_eq_false (by omega)
        have t2 : decide ((1152921504606846976 : Int) ≤ (V : Int)) = false := decide_eq_false (by omega)
        have t3 : decide ((V : Int) * 16 + (d : Int) < (V : Int) * 16) = false := decide_eq_false (by omega)
        have t4 : decide (MX < (V : Int) * 16 + (d : Int)) = false := decide_eq_false (by omega)
        clear c1 c2 c3 hd16
        go_wp2_with fail
        go_round
        case rel => exact ⟨k + 1, by omega, rfl, by go_num, by rw [HSN.out]; first | go_num | (congr 1; omega)⟩
        case measure => go_light; simp [intOf]; omega
      · have n95 : ((c.toNat : Int) == 95) = false := by simp; omega
        have a1 : (48 : Int) ≤ (c.toNat : Int) := by omega
        have a2 : decide ((c.toNat : Int) ≤ 57) = false := decide_eq_false (by omega)
        have b1 : (97 : Int) ≤ ((c ||| 32).toNat : Int) := by omega
        have b2 : ((c ||| 32).toNat : Int) ≤ 122 := by omega
        have HLOW := Lib.hid (fun w => lower_any c w)
        have u0 : IntKind.u8.wrap (((c ||| 32).toNat : Int) - 97) = ((c ||| 32).toNat : Int) - 97 := IntWalk.u8_in _ (by omega)
        have u1 : IntKind.u8.wrap (((c ||| 32).toNat : Int) - 97 + 10) = (d : Int) := by rw [IntWalk.u8_in _ (by omega)]; omega
        have hVV : (V : Int) < 4294967296 := by omega
        have hdd : (d : Int) < 16 := by omega
        have u2 : IntKind.u64.wrap ((V : Int) * 16) = (V : Int) * 16 := IntWalk.u64_in _ (by omega)
        have u3 : IntKind.u64.wrap ((V : Int) * 16 + (d : Int)) = (V : Int) * 16 + (d : Int) := IntWalk.u64_in _ (by omega)
        have u4 : IntKind.u64.wrap (d : Int) = (d : Int) := IntWalk.u64_in _ (by omega)
        have t1 : decide ((16 : Int) ≤ (d : Int)) = false := decide_eq_false (by omega)
        have t2 : decide ((1152921504606846976 : Int) ≤ (V : Int)) = false := decide_eq_false (by omega)
        have t3 : decide ((V : Int) * 16 + (d : Int) < (V : Int) * 16) = false := decide_eq_false (by omega)
        have t4 : decide (MX < (V : Int) * 16 + (d : Int)) = false := decide_eq_false (by omega)
        clear c1 c2 c3 c4 c5 hd16
        generalize ((c ||| 32).toNat : Int) = q at b1 b2 u0 u1 HLOW
        go_wp2_with (go_at_call 92; refine (HLOW.out _).mono ?_; rintro e w' ⟨rfl, rfl⟩)
        go_round
        case rel => exact ⟨k + 1, by omega, rfl, by go_num, by rw [HSN.out]; first | go_num | (congr 1; omega)⟩
        case measure => go_light; simp [intOf]; omega
    · obtain rfl : k = s.size := by omega
      have hall2 : s.data.toList.take s.size = s.data.toList := List.take_of_length_le (by exact Nat.le_refl _)
      rw [hall2]
      go_wp2_with fail
      go_ret2
      exact ⟨rfl, HBEL.out⟩
end Go.Proofs.YtemiamajgjfnbaaGreatDoor
