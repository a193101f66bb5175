/- Plain law of vector texts: how strokes are written and read, over numbers and lists of bytes; no program. -/
import Derived.Test.YtemiamajgjfnbaaGreatDoorEvS
namespace Go.Proofs.YtemiamajgjfnbaaGreatDoor
namespace Vc
open Go
abbrev Bytes := List UInt8
/-- plain, over the number of a byte: beyond the blank, before 127, none of & < > and the quote -/
def plainI (b : Int) : Bool := decide (32 < b) && decide (b < 127) && !(b == 38 || b == 60 || b == 62 || b == 34)
def plainB (b : UInt8) : Bool := plainI b.toNat
def esc1 (b : UInt8) : Bytes := if plainB b = true then [b] else [38, Ev.nib (b.toNat / 16), Ev.nib (b.toNat % 16), 59]
def esc (l : Bytes) : Bytes := l.flatMap esc1
/-- An escaped text read: the place of what is wrong, or the text. -/
def dec : Bytes → Nat → Bytes → Sum Nat Bytes
  | [], _, acc => .inr acc
  | b :: r, i, acc =>
    if plainB b = true then dec r (i + 1) (acc ++ [b])
    else match r with
      | x :: y :: z :: r' =>
        if b = 38 ∧ z = 59 then
          match Ev.val? x, Ev.val? y with
          | some h, some l => if plainB (UInt8.ofNat (16 * h + l)) = true then .inl i else dec r' (i + 4) (acc ++ [UInt8.ofNat (16 * h + l)])
          | _, _ => .inl i
        else .inl i
      | _ => .inl i
theorem dec_cons (b : UInt8) (r : Bytes) (i : Nat) (acc : Bytes) : dec (b :: r) i acc =
    if plainB b = true then dec r (i + 1) (acc ++ [b])
    else match r with
      | x :: y :: z :: r' =>
        if b = 38 ∧ z = 59 then
          match Ev.val? x, Ev.val? y with
          | some h, some l => if plainB (UInt8.ofNat (16 * h + l)) = true then .inl i else dec r' (i + 4) (acc ++ [UInt8.ofNat (16 * h + l)])
          | _, _ => .inl i
        else .inl i
      | _ => .inl i := by rw [dec.eq_def]; rfl
theorem nib_val (n : Nat) (h : n < 16) : Ev.val? (Ev.nib n) = some n := by
  have : ∀ n : Fin 16, Ev.val? (Ev.nib n.val) = some n.val := by decide
  exact this ⟨n, h⟩
theorem val_nib (x : UInt8) (n : Nat) (h : Ev.val? x = some n) : n < 16 ∧ Ev.nib n = x := by
  have : ∀ k : Fin 256, ∀ n, Ev.val? (UInt8.ofNat k.val) = some n → n < 16 ∧ Ev.nib n = UInt8.ofNat k.val := by decide +kernel
  have h2 := this ⟨x.toNat, x.toNat_lt⟩ n (by simpa using h)
  simpa using h2
theorem byte_split (b : UInt8) : UInt8.ofNat (16 * (b.toNat / 16) + b.toNat % 16) = b := by
  rw [Nat.div_add_mod]; simp
theorem dec_esc1 (b : UInt8) (r : Bytes) (i : Nat) (acc : Bytes) : dec (esc1 b ++ r) i acc = dec r (i + (esc1 b).length) (acc ++ [b]) := by
  unfold esc1
  by_cases hp : plainB b = true
  · rw [if_pos hp]
    show dec (b :: r) i acc = _
    rw [dec_cons, if_pos hp]; rfl
  · rw [if_neg hp]
    have h38 : plainB 38 = false := by decide
    have hlt := b.toNat_lt
    show dec (38 :: Ev.nib (b.toNat / 16) :: Ev.nib (b.toNat % 16) :: 59 :: r) i acc = _
    rw [dec_cons, if_neg (by rw [h38]; simp)]
    simp only [and_self, if_true]
    rw [nib_val _ (by omega), nib_val _ (by omega)]
    simp only
    rw [byte_split, if_neg hp]; rfl
theorem dec_esc : ∀ (l : Bytes) (i : Nat) (acc : Bytes), dec (esc l) i acc = .inr (acc ++ l)
  | [], i, acc => by simp [esc, dec]
  | b :: l, i, acc => by
    show dec (esc1 b ++ esc l) i acc = _
    rw [dec_esc1, dec_esc l]; simp
/-- What is read is escaped as it was. -/
theorem esc_dec : ∀ (n : Nat) (l : Bytes) (i : Nat) (acc v : Bytes), l.length ≤ n → dec l i acc = .inr v → ∃ u, v = acc ++ u ∧ esc u = l
  | _, [], i, acc, v, _, h => by simp only [dec] at h; cases h; exact ⟨[], by simp, rfl⟩
  | 0, b :: r, i, acc, v, hn, _ => by simp at hn
  | n + 1, b :: r, i, acc, v, hn, h => by
    have hn' : r.length ≤ n := by simpa using hn
    rw [dec_cons] at h
    split at h
    · rename_i hp
      obtain ⟨u, hu, he⟩ := esc_dec n r (i + 1) (acc ++ [b]) v hn' h
      refine ⟨b :: u, by rw [hu]; simp, ?_⟩
      show esc1 b ++ esc u = _
      rw [esc1, if_pos hp, he]; rfl
    · split at h
      · rename_i x y z r'
        split at h
        · rename_i hbz
          obtain ⟨rfl, rfl⟩ := hbz
          split at h
          · rename_i hh ll hx hy
            split at h
            · cases h
            · rename_i hp
              obtain ⟨u, hu, he⟩ := esc_dec n r' _ _ v (by simp at hn; omega) h
              obtain ⟨h1, h2⟩ := val_nib x hh hx
              obtain ⟨h3, h4⟩ := val_nib y ll hy
              refine ⟨UInt8.ofNat (16 * hh + ll) :: u, by rw [hu]; simp, ?_⟩
              show esc1 _ ++ esc u = _
              have hc : (UInt8.ofNat (16 * hh + ll)).toNat = 16 * hh + ll := by rw [UInt8.toNat_ofNat']; omega
              rw [esc1, if_neg hp, he, hc, show (16 * hh + ll) / 16 = hh by omega, show (16 * hh + ll) % 16 = ll by omega, h2, h4]
              rfl
          · cases h
        · cases h
      · cases h
theorem dec_place : ∀ (n : Nat) (l : Bytes) (i : Nat) (acc : Bytes) (p : Nat), l.length ≤ n → dec l i acc = .inl p → i ≤ p ∧ p < i + l.length
  | _, [], i, acc, p, _, h => by simp only [dec] at h; cases h
  | 0, b :: r, i, acc, p, hn, _ => by simp at hn
  | n + 1, b :: r, i, acc, p, hn, h => by
    have hn' : r.length ≤ n := by simpa using hn
    rw [dec_cons] at h
    simp only [List.length_cons]
    split at h
    · have := dec_place n r (i + 1) (acc ++ [b]) p hn' h
      omega
    · split at h
      · rename_i x y z r'
        simp only [List.length_cons] at hn hn' ⊢
        split at h
        · split at h
          · split at h
            · cases h; omega
            · have := dec_place n r' _ _ p (by omega) h
              omega
          · cases h; omega
        · cases h; omega
      · cases h; omega
theorem esc_append (a b : Bytes) : esc (a ++ b) = esc a ++ esc b := List.flatMap_append
theorem esc1_len (b : UInt8) : (esc1 b).length ≤ 4 := by unfold esc1; split <;> simp
theorem esc_len : ∀ l : Bytes, (esc l).length ≤ 4 * l.length
  | [] => Nat.zero_le _
  | b :: l => by
    have h1 := esc1_len b
    have h2 := esc_len l
    show (esc1 b ++ esc l).length ≤ _
    rw [List.length_append, List.length_cons]; omega
end Vc
end Go.Proofs.YtemiamajgjfnbaaGreatDoor
