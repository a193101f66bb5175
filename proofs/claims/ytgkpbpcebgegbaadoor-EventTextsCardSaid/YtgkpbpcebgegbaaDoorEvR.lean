/- The readers of event's package: a reader's state, blank, number. -/
import Derived.Test.YtgkpbpcebgegbaaDoorEvC1
namespace Go.Proofs.YtgkpbpcebgegbaaDoor
open Go.RowKit Ev
set_option linter.unusedVariables false
set_option linter.unusedSimpArgs false

/-- A block of three cells. -/
def Blk3 (w : World) (g : Nat) (T : TypeId) (a b c : Value) : Prop := w.heap[g]? = some (.cells #[a, b, c] T (0, 0))
section
variable {w : World} {g : Nat} {T : TypeId} {a b c : Value}
theorem Blk3.cell0 (h : Blk3 w g T a b c) : w.cell? ⟨g, 0, none⟩ = some a := by unfold Blk3 at h; simp [World.cell?, h]
theorem Blk3.cell1 (h : Blk3 w g T a b c) : w.cell? ⟨g, 1, none⟩ = some b := by unfold Blk3 at h; simp [World.cell?, h]
theorem Blk3.cell2 (h : Blk3 w g T a b c) : w.cell? ⟨g, 2, none⟩ = some c := by unfold Blk3 at h; simp [World.cell?, h]
theorem Blk3.free (h : Blk3 w g T a b c) (o : Nat) : w.frozen? ⟨g, o, none⟩ = false := by unfold Blk3 at h; simp [World.frozen?, h]
theorem Blk3.lt (h : Blk3 w g T a b c) : g < w.heap.size := (Array.getElem?_eq_some_iff.1 h).1
theorem Blk3.set1 (h : Blk3 w g T a b c) (v : Value) : Blk3 (w.setCell ⟨g, 1, none⟩ v) g T a v c := by unfold Blk3 at *; simp [World.setCell, Array.getElem?_modify, h]
theorem Blk3.set2 (h : Blk3 w g T a b c) (v : Value) : Blk3 (w.setCell ⟨g, 2, none⟩ v) g T a b v := by unfold Blk3 at *; simp [World.setCell, Array.getElem?_modify, h]
theorem Blk3.below {w' : World} {B : Nat} (h : Blk3 w g T a b c) (hb : Below B w w') (hB : g < B) : Blk3 w' g T a b c := by unfold Blk3 at *; rw [hb.block g hB]; exact h
end
theorem grown_set (w : World) (g o : Nat) (v : Value) : w.grownBy (w.setCell ⟨g, o, none⟩ v) (some g) :=
  ⟨rfl, rfl, rfl, by simp [World.setCell], fun k _ hk => Below.heap_setCell _ _ _ _ (fun e => hk (by simp [e]))⟩
theorem grown_below {w w' : World} (h : Below w.heap.size w w') (r : Option Nat) : w.grownBy w' r := ⟨h.os, h.tape, h.output, h.size, fun k hk _ => h.block k hk⟩
theorem grown_refl (w : World) (r : Option Nat) : w.grownBy w r := ⟨rfl, rfl, rfl, Nat.le_refl _, fun _ _ _ => rfl⟩
theorem grown_drew (w : World) (r : Option Nat) : w.grownBy w.drew r := ⟨rfl, rfl, rfl, Nat.le_refl _, fun _ _ _ => rfl⟩
theorem grown_drewN (w : World) (n : Nat) (r : Option Nat) : w.grownBy (w.drewN n) r := ⟨rfl, rfl, rfl, Nat.le_refl _, fun _ _ _ => rfl⟩
theorem grown_trans {a b c : World} {r : Option Nat} (h : a.grownBy b r) (k : b.grownBy c r) : a.grownBy c r :=
  ⟨k.os.trans h.os, k.tape.trans h.tape, k.output.trans h.output, Nat.le_trans h.size k.size, fun i hi hr => (k.block i (Nat.lt_of_lt_of_le hi h.size) hr).trans (h.block i hi hr)⟩
theorem Glob.grow {w w' : World} {g : Nat} (h : Glob w) (hg : w.grownBy w' (some g)) (hG : 8 ≤ g) : Glob w' := h.grown hg fun k e => by cases e; exact hG

/-- A reader at block g over s. -/
def IsRd (w : World) (g : Nat) (s : ByteArray) : RS → Prop
  | .ok a => a ≤ s.size ∧ Blk3 w g 48 (.string s) (.int .i64 a) (.int .i64 (-1))
  | .bad p => ∃ a : Int, Blk3 w g 48 (.string s) (.int .i64 a) (.int .i64 p)
theorem IsRd.lt {w : World} {g : Nat} {s : ByteArray} {σ : RS} (h : IsRd w g s σ) : g < w.heap.size := by
  cases σ with
  | ok a => exact h.2.lt
  | bad p => obtain ⟨_, h⟩ := h; exact h.lt
theorem IsRd.below {w w' : World} {g : Nat} {s : ByteArray} {σ : RS} {B : Nat} (h : IsRd w g s σ) (hb : Below B w w') (hB : g < B) : IsRd w' g s σ := by
  cases σ with
  | ok a => exact ⟨h.1, h.2.below hb hB⟩
  | bad p => obtain ⟨a, h⟩ := h; exact ⟨a, h.below hb hB⟩

set_option maxHeartbeats 1000000 in
theorem wrong_any (s : ByteArray) (g a : Nat) (p : Nat) (w : World) (hI : IsRd w g s (.ok a)) :
    Calls Tryd.prog 20 #[.pointer (some ⟨g, 0, none⟩), .int .i64 (p : Int)] w fun e w' => e = .returned (.tuple #[]) ∧ IsRd w' g s (.bad p) ∧ w.grownBy w' (some g) := by
  obtain ⟨ha, hI⟩ := hI
  have hc2 := hI.cell2
  have hf := hI.free 2
  have HI := Lib.hid hI; clear hI
  go_enter Tryd.func20, Tryd.ntmps20
  go_wp2
  go_end0
  exact ⟨rfl, ⟨_, HI.out.set2 _⟩, grown_set _ _ _ _⟩

theorem wrong_at (s : ByteArray) (g a : Nat) (q : Int) (p : Nat) (hq : q = (p : Int)) (w : World) (hI : IsRd w g s (.ok a)) :
    Calls Tryd.prog 20 #[.pointer (some ⟨g, 0, none⟩), .int .i64 q] w fun e w' => e = .returned (.tuple #[]) ∧ IsRd w' g s (.bad p) ∧ w.grownBy w' (some g) := by
  subst hq; exact wrong_any s g a p w hI

set_option maxHeartbeats 1000000 in
theorem blank_bad (s : ByteArray) (g p : Nat) (w : World) (hI : IsRd w g s (.bad p)) :
    Calls Tryd.prog 39 #[.pointer (some ⟨g, 0, none⟩)] w fun e w' => e = .returned (.bool false) ∧ w = w' := by
  obtain ⟨a, hI⟩ := hI
  have hc2 := hI.cell2
  clear hI
  have hp : decide ((0 : Int) ≤ (p : Int)) = true := by simp
  go_enter Tryd.func39, Tryd.ntmps39
  go_wp2
  go_ret
  exact ⟨rfl, rfl⟩

theorem hasPrefix_sp (l : List UInt8) (n a : Nat) (h : l.length ≤ n + a) : Lib.hasPrefix (List.take n (List.drop a l)) [32] = decide (l[a]? = some 32) := by
  rw [List.take_of_length_le (by simp; omega)]
  unfold Lib.hasPrefix
  cases h2 : l[a]? with
  | none =>
    have : l.drop a = [] := List.drop_eq_nil_iff.2 (List.getElem?_eq_none_iff.1 h2)
    simp [this]
  | some b =>
    have hlt := (List.getElem?_eq_some_iff.1 h2).1
    rw [List.drop_eq_getElem_cons hlt]
    have hb := (List.getElem?_eq_some_iff.1 h2).2
    rw [hb]
    by_cases e : b = 32
    · subst e; simp
    · have e' : ¬ (32 : UInt8) = b := fun h => e h.symm
      rw [decide_eq_false (by simpa using e)]
      show (32 == b && _) = false
      simp [e']

set_option maxHeartbeats 1000000 in
theorem blank_ok (s : ByteArray) (g a : Nat) (w : World) (hs : s.size ≤ 140737488351232) (hI : IsRd w g s (.ok a)) :
    Calls Tryd.prog 39 #[.pointer (some ⟨g, 0, none⟩)] w fun e w' => e = .returned (.bool (decide (s.data.toList[a]? = some 32))) ∧ IsRd w' g s (blankS s.data.toList (.ok a)) ∧ w.grownBy w' (some g) := by
  have ha := hI.1
  have hc0 := hI.2.cell0
  have hc1 := hI.2.cell1
  have hc2 := hI.2.cell2
  have hf1 := hI.2.free 1
  have HI := Lib.hid hI; clear hI
  have hp : decide ((0 : Int) ≤ (-1 : Int)) = false := by decide
  have hpre := hasPrefix_sp s.data.toList (s.size - a) a (by show s.size ≤ _; omega)
  by_cases hb : s.data.toList[a]? = some 32
  · have hlt : a < s.size := (List.getElem?_eq_some_iff.1 hb).1
    rw [decide_eq_true hb] at hpre
    have HB := Lib.hid hb; clear hb
    go_enter Tryd.func39, Tryd.ntmps39
    go_wp2
    go_quiet ((go_at_call 40; exact Calls.quiet_of_same (Tryd.strings_HasPrefix _ _ _)))
    go_wp2_with fail
    go_ret
    refine ⟨by rw [decide_eq_true HB.out]; rfl, ?_, grown_trans (grown_drewN _ _ _) (grown_set _ _ _ _)⟩
    rw [blankS, if_pos HB.out]
    exact ⟨hlt, Blk3.set1 (w := w.drewN nq) HI.out.2 _⟩
  · rw [decide_eq_false hb] at hpre
    have HB := Lib.hid hb; clear hb
    go_enter Tryd.func39, Tryd.ntmps39
    go_wp2
    go_quiet ((go_at_call 40; exact Calls.quiet_of_same (Tryd.strings_HasPrefix _ _ _)))
    go_wp2_with (go_at_call 20; refine (wrong_any s g a a (w.drewN nq) (show IsRd (w.drewN nq) g s (.ok a) from HI.out)).mono ?_; rintro e w' ⟨rfl, hI', hG'⟩; have HI' := Lib.hid hI'; have HG' := Lib.hid hG'; clear hI' hG')
    go_ret
    refine ⟨by rw [decide_eq_false HB.out]; rfl, ?_, grown_trans (grown_drewN _ _ _) HG'.out⟩
    rw [blankS, if_neg HB.out]
    exact HI'.out

/-- 'run': how many bytes of a set stand at a text's beginning. -/
def runL (l c : List UInt8) : Nat := (l.takeWhile (c.contains ·)).length
theorem runL_eq (l c : List UInt8) : ((l.length : Int) - ((Lib.trimLeftS l c).length : Int)) = (runL l c : Int) := by
  unfold runL Lib.trimLeftS
  have := List.takeWhile_append_dropWhile (p := fun x => c.contains x) (l := l)
  have h2 := congrArg List.length this
  rw [List.length_append] at h2
  omega

set_option maxHeartbeats 1000000 in
theorem run_any (s c : ByteArray) (w : World) (hs : s.size ≤ 140737488351232) (hcs : c.size < 4294967281) (hascii : ∀ (j : Nat) b, c.data.toList[j]? = some b → b.toNat < 128) :
    Calls Tryd.prog 18 #[.string s, .string c] w fun e w' => e = .returned (.int .i64 (runL s.data.toList c.data.toList)) ∧ Below w.heap.size w w' := by
  have hr := runL_eq s.data.toList c.data.toList
  have hl : ((Lib.trimLeftS s.data.toList c.data.toList).length : Int) ≤ (s.size : Int) := by
    have : runL s.data.toList c.data.toList ≤ s.data.toList.length := List.Sublist.length_le (List.takeWhile_sublist _)
    have h0 : s.data.toList.length = s.size := rfl
    rw [h0] at hr; omega
  have HR := Lib.hid hr; clear hr
  go_enter Tryd.func18, Tryd.ntmps18
  go_wp2_with (go_at_call 38; refine (trim_any s c _ hcs hascii).mono ?_; rintro e w' ⟨rfl, hb⟩; have HB := Lib.hid hb; clear hb)
  go_ret
  exact ⟨ret_i64 HR.out, HB.out⟩
end Go.Proofs.YtgkpbpcebgegbaaDoor
