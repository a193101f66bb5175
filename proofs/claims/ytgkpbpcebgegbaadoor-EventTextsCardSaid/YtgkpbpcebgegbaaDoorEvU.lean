/- The document's answer: its small functions and its reader's wrong and blank. -/
import Derived.Test.YtgkpbpcebgegbaaDoorEvT
namespace Go.Proofs.YtgkpbpcebgegbaaDoor
open Go.RowKit Ev
set_option linter.unusedVariables false
set_option linter.unusedSimpArgs false

theorem stands_any (b : Int) (w : World) :
    Calls Tryd.prog 37 #[.int .u8 b] w fun e w' => e = .returned (.bool (plainI b)) ∧ w = w' := by
  by_cases h : 32 < b
  · by_cases h2 : b < 127
    · go_enter Tryd.func37, Tryd.ntmps37
      go_wp2
      go_ret
      exact ⟨by simp [plainI, h, h2], rfl⟩
    · have hd : decide (b < 127) = false := decide_eq_false h2
      go_enter Tryd.func37, Tryd.ntmps37
      go_wp2
      go_ret
      exact ⟨by simp [plainI, hd], rfl⟩
  · have hd : decide (32 < b) = false := decide_eq_false h
    go_enter Tryd.func37, Tryd.ntmps37
    go_wp2
    go_ret
    exact ⟨by simp [plainI, hd], rfl⟩

theorem hexV_dig (c : UInt8) (h1 : 48 ≤ c.toNat) (h2 : c.toNat ≤ 57) : hexV c = (c.toNat : Int) - 48 := by
  unfold hexV val?; rw [if_pos ⟨h1, h2⟩]; simp only; omega
theorem hexV_let (c : UInt8) (h1 : 97 ≤ c.toNat) (h2 : c.toNat ≤ 102) : hexV c = (c.toNat : Int) - 97 + 10 := by
  unfold hexV val?; rw [if_neg (by omega), if_pos ⟨h1, h2⟩]; simp only; omega
theorem hexV_no (c : UInt8) (h1 : ¬ (48 ≤ c.toNat ∧ c.toNat ≤ 57)) (h2 : ¬ (97 ≤ c.toNat ∧ c.toNat ≤ 102)) : hexV c = -1 := by
  unfold hexV val?; rw [if_neg h1, if_neg h2]
theorem small_any (c : UInt8) (w : World) :
    Calls Tryd.prog 45 #[.int .u8 (c.toNat : Int)] w fun e w' => e = .returned (.int .i64 (hexV c)) ∧ w = w' := by
  have hc := c.toNat_lt
  by_cases h1 : 48 ≤ c.toNat
  · by_cases h2 : c.toNat ≤ 57
    · have hv : hexV c = (c.toNat : Int) - 48 := hexV_dig c h1 h2
      have hw : IntKind.u8.wrap ((c.toNat : Int) - 48) = (c.toNat : Int) - 48 := IntWalk.u8_in _ (by omega)
      have hw2 : IntKind.i64.wrap ((c.toNat : Int) - 48) = (c.toNat : Int) - 48 := IntWalk.i64_in _ (by omega)
      rw [hv]
      go_enter Tryd.func45, Tryd.ntmps45
      go_wp2
      go_ret
      exact ⟨rfl, rfl⟩
    · have d2 : decide ((c.toNat : Int) ≤ 57) = false := decide_eq_false (by omega)
      by_cases h3 : 97 ≤ c.toNat
      · by_cases h4 : c.toNat ≤ 102
        · have hv := hexV_let c h3 h4
          have hw : IntKind.u8.wrap ((c.toNat : Int) - 97) = (c.toNat : Int) - 97 := IntWalk.u8_in _ (by omega)
          have hw2 : IntKind.i64.wrap ((c.toNat : Int) - 97) = (c.toNat : Int) - 97 := IntWalk.i64_in _ (by omega)
          have hw3 : IntKind.i64.wrap ((c.toNat : Int) - 97 + 10) = (c.toNat : Int) - 97 + 10 := IntWalk.i64_in _ (by omega)
          rw [hv]
          go_enter Tryd.func45, Tryd.ntmps45
          go_wp2
          go_ret
          exact ⟨rfl, rfl⟩
        · have d4 : decide ((c.toNat : Int) ≤ 102) = false := decide_eq_false (by omega)
          have hv := hexV_no c (by omega) (by omega)
          rw [hv]
          go_enter Tryd.func45, Tryd.ntmps45
          go_wp2
          go_ret
          exact ⟨rfl, rfl⟩
      · have d3 : decide (97 ≤ (c.toNat : Int)) = false := decide_eq_false (by omega)
        have hv := hexV_no c (by omega) (by omega)
        rw [hv]
        go_enter Tryd.func45, Tryd.ntmps45
        go_wp2
        go_ret
        exact ⟨rfl, rfl⟩
  · have d1 : decide (48 ≤ (c.toNat : Int)) = false := decide_eq_false (by omega)
    have d3 : decide (97 ≤ (c.toNat : Int)) = false := decide_eq_false (by omega)
    have hv := hexV_no c (by omega) (by omega)
    rw [hv]
    go_enter Tryd.func45, Tryd.ntmps45
    go_wp2
    go_ret
    exact ⟨rfl, rfl⟩

theorem place_any (x y : Int) (w : World) :
    Calls Tryd.prog 30 #[.agg #[.int .i64 x, .int .i64 y]] w fun e w' => e = .returned (.bool (within x (-16384) 16384 && within y (-16384) 16384)) ∧ Below w.heap.size w w' := by
  by_cases h1 : -16384 ≤ x
  · by_cases h2 : x ≤ 16384
    · by_cases h3 : -16384 ≤ y
      · by_cases h4 : y ≤ 16384
        · go_enter Tryd.func30, Tryd.ntmps30
          go_wp2
          go_ret
          exact ⟨by simp [within]; try omega, (Below.refl _ _).alloc (Nat.le_refl _) _⟩
        · have d : decide (y ≤ 16384) = false := decide_eq_false h4
          go_enter Tryd.func30, Tryd.ntmps30
          go_wp2
          go_ret
          exact ⟨by simp [within]; try omega, (Below.refl _ _).alloc (Nat.le_refl _) _⟩
      · have d : decide (-16384 ≤ y) = false := decide_eq_false h3
        go_enter Tryd.func30, Tryd.ntmps30
        go_wp2
        go_ret
        exact ⟨by simp [within]; try omega, (Below.refl _ _).alloc (Nat.le_refl _) _⟩
    · have d : decide (x ≤ 16384) = false := decide_eq_false h2
      go_enter Tryd.func30, Tryd.ntmps30
      go_wp2
      go_ret
      exact ⟨by simp [within]; try omega, (Below.refl _ _).alloc (Nat.le_refl _) _⟩
  · have d : decide (-16384 ≤ x) = false := decide_eq_false h1
    go_enter Tryd.func30, Tryd.ntmps30
    go_wp2
    go_ret
    exact ⟨by simp [within]; try omega, (Below.refl _ _).alloc (Nat.le_refl _) _⟩

/-- The answer's reader at block g over s. -/
def IsQd (w : World) (g : Nat) (s : ByteArray) : RS → Prop
  | .ok a => a ≤ s.size ∧ Blk3 w g 55 (.string s) (.int .i64 a) (.int .i64 (-1))
  | .bad p => ∃ a : Int, Blk3 w g 55 (.string s) (.int .i64 a) (.int .i64 p)
theorem IsQd.lt {w : World} {g : Nat} {s : ByteArray} {σ : RS} (h : IsQd w g s σ) : g < w.heap.size := by
  cases σ with
  | ok a => exact h.2.lt
  | bad p => obtain ⟨_, h⟩ := h; exact h.lt
theorem IsQd.below {w w' : World} {g : Nat} {s : ByteArray} {σ : RS} {B : Nat} (h : IsQd w g s σ) (hb : Below B w w') (hB : g < B) : IsQd w' g s σ := by
  cases σ with
  | ok a => exact ⟨h.1, h.2.below hb hB⟩
  | bad p => obtain ⟨a, h⟩ := h; exact ⟨a, h.below hb hB⟩

set_option maxHeartbeats 1000000 in
theorem wrongq_any (s : ByteArray) (g a : Nat) (p : Nat) (w : World) (hI : IsQd w g s (.ok a)) :
    Calls Tryd.prog 26 #[.pointer (some ⟨g, 0, none⟩), .int .i64 (p : Int)] w fun e w' => e = .returned (.tuple #[]) ∧ IsQd w' g s (.bad p) ∧ w.grownBy w' (some g) := by
  obtain ⟨ha, hI⟩ := hI
  have hc2 := hI.cell2
  have hf := hI.free 2
  have HI := Lib.hid hI; clear hI
  go_enter Tryd.func26, Tryd.ntmps26
  go_wp2
  go_end0
  exact ⟨rfl, ⟨_, HI.out.set2 _⟩, grown_set _ _ _ _⟩
theorem wrongq_at (s : ByteArray) (g a : Nat) (q : Int) (p : Nat) (hq : q = (p : Int)) (w : World) (hI : IsQd w g s (.ok a)) :
    Calls Tryd.prog 26 #[.pointer (some ⟨g, 0, none⟩), .int .i64 q] w fun e w' => e = .returned (.tuple #[]) ∧ IsQd w' g s (.bad p) ∧ w.grownBy w' (some g) := by
  subst hq; exact wrongq_any s g a p w hI

set_option maxHeartbeats 1000000 in
theorem blankq_bad (s : ByteArray) (g p : Nat) (w : World) (hI : IsQd w g s (.bad p)) :
    Calls Tryd.prog 44 #[.pointer (some ⟨g, 0, none⟩)] w fun e w' => e = .returned (.tuple #[]) ∧ w = w' := by
  obtain ⟨a, hI⟩ := hI
  have hc2 := hI.cell2
  clear hI
  have hp : decide ((0 : Int) ≤ (p : Int)) = true := by simp
  go_enter Tryd.func44, Tryd.ntmps44
  go_wp2
  exact bodyPost_ret (v := .tuple #[]) (results_none rfl _ _ _) rfl ⟨rfl, rfl⟩

set_option maxHeartbeats 2000000 in
theorem blankq_ok (s : ByteArray) (g a : Nat) (w : World) (hs : s.size ≤ 140737488351232) (hI : IsQd w g s (.ok a)) :
    Calls Tryd.prog 44 #[.pointer (some ⟨g, 0, none⟩)] w fun e w' => e = .returned (.tuple #[]) ∧ IsQd w' g s (blankS s.data.toList (.ok a)) ∧ w.grownBy w' (some g) := by
  have ha := hI.1
  have hc0 := hI.2.cell0
  have hc1 := hI.2.cell1
  have hc2 := hI.2.cell2
  have hf1 := hI.2.free 1
  have HI := Lib.hid hI; clear hI
  have hp : decide ((0 : Int) ≤ (-1 : Int)) = false := by decide
  by_cases hlt : a < s.size
  · have hge : decide ((s.size : Int) ≤ (a : Int)) = false := decide_eq_false (by omega)
    have i0 : (0 : Int) ≤ (a : Int) := by omega
    have i1 : (a : Int) < (s.size : Int) := by omega
    have hget : s.data.toList[a]? = some s[a] := by rw [List.getElem?_eq_getElem (show a < s.data.toList.length from hlt)]; rfl
    have HG := Lib.hid hget; clear hget
    by_cases hb : s[a] = 32
    · have hne : ((s[a].toNat : Int) != 32) = false := by rw [hb]; rfl
      have HB := Lib.hid hb; clear hb
      go_enter Tryd.func44, Tryd.ntmps44
      go_wp2
      go_quiet (fail)
      go_wp2_with fail
      go_end0
      refine ⟨rfl, ?_, grown_trans (grown_drewN _ _ _) (grown_set _ _ _ _)⟩
      rw [blankS, if_pos (by rw [HG.out, HB.out])]
      exact ⟨hlt, Blk3.set1 (w := w.drewN nq) HI.out.2 _⟩
    · have hne : ((s[a].toNat : Int) != 32) = true := by
        have : s[a].toNat ≠ 32 := fun h => hb (UInt8.toNat_inj.1 (by rw [h]; rfl))
        simp; omega
      have HB := Lib.hid hb; clear hb
      go_enter Tryd.func44, Tryd.ntmps44
      go_wp2
      go_quiet (fail)
      go_wp2_with (go_at_call 26; refine (wrongq_any s g a a (w.drewN nq) (show IsQd (w.drewN nq) g s (.ok a) from HI.out)).mono ?_; rintro e w' ⟨rfl, hI', hG'⟩; have HI' := Lib.hid hI'; have HG' := Lib.hid hG'; clear hI' hG')
      refine bodyPost_ret (v := .tuple #[]) (results_none rfl _ _ _) rfl ⟨rfl, ?_, grown_trans (grown_drewN _ _ _) HG'.out⟩
      rw [blankS, if_neg (by rw [HG.out]; intro h; exact HB.out (Option.some.inj h))]
      exact HI'.out
  · have hge : decide ((s.size : Int) ≤ (a : Int)) = true := decide_eq_true (by omega)
    have hget : s.data.toList[a]? = none := List.getElem?_eq_none_iff.2 (by show s.size ≤ a; omega)
    have HG := Lib.hid hget; clear hget
    go_enter Tryd.func44, Tryd.ntmps44
    go_wp2
    go_quiet (fail)
    go_wp2_with (go_at_call 26; refine (wrongq_any s g a a (w.drewN nq) (show IsQd (w.drewN nq) g s (.ok a) from HI.out)).mono ?_; rintro e w' ⟨rfl, hI', hG'⟩; have HI' := Lib.hid hI'; have HG' := Lib.hid hG'; clear hI' hG')
    refine bodyPost_ret (v := .tuple #[]) (results_none rfl _ _ _) rfl ⟨rfl, ?_, grown_trans (grown_drewN _ _ _) HG'.out⟩
    rw [blankS, if_neg (by rw [HG.out]; simp)]
    exact HI'.out
end Go.Proofs.YtgkpbpcebgegbaaDoor
