/- The reader of vector's package: its state, wrong, rest, fixed. -/
import Derived.Test.YtemiamajgjfnbaaGreatDoorVcC
namespace Go.Proofs.YtemiamajgjfnbaaGreatDoor
open Go.RowKit Vc
set_option linter.unusedVariables false
set_option linter.unusedSimpArgs false
abbrev RS := Ev.RS
theorem alloc_size (w : World) (o : Obj) : (w.alloc o).heap.size = w.heap.size + 1 := by simp
theorem alloc_at1 (w : World) (o o' : Obj) : ((w.alloc o).alloc o').heap[w.heap.size]? = some o := (Below.heap_alloc _ _ _ (by simp)).trans (heap_alloc_new _ _)
theorem alloc_at2 (w : World) (o o' : Obj) : ((w.alloc o).alloc o').heap[w.heap.size + 1]? = some o' := by rw [← alloc_size w o]; exact heap_alloc_new _ _
/-- What was wrong, at a place: an error of vector's own round a fault. -/
def Bad (w : World) (p : Nat) (v : Value) : Prop := ∃ (bb ff : Nat) (x : ByteArray), v = .iface 82 (.pointer (some ⟨bb, 0, none⟩)) ∧ w.heap[bb]? = some (.cells #[.string x, .pointer (some ⟨ff, 0, none⟩)] 84 (0, 0)) ∧ w.heap[ff]? = some (.cells #[.int .i64 160, .int .i64 (p : Int)] 75 (0, 0))
/-- A reader at block g over s. -/
def IsV (w : World) (g : Nat) (s : ByteArray) : RS → Prop
  | .ok a => a ≤ s.size ∧ Blk3 w g 66 (.string s) (.int .i64 a) .nilIface
  | .bad p => ∃ (a : Nat) (v : Value), a ≤ s.size ∧ Blk3 w g 66 (.string s) (.int .i64 a) v ∧ Bad w p v
theorem IsV.lt {w : World} {g : Nat} {s : ByteArray} {σ : RS} (h : IsV w g s σ) : g < w.heap.size := by
  cases σ with
  | ok a => exact h.2.lt
  | bad p => obtain ⟨_, _, _, h, _⟩ := h; exact h.lt
theorem Bad.kept {w w' : World} {g p : Nat} {v a b c : Value} (h : Bad w p v) (hg : w.grownBy w' (some g)) (hb : Blk3 w g 66 a b c) : Bad w' p v := by
  obtain ⟨bb, ff, x, rfl, h1, h2⟩ := h
  have n1 : bb ≠ g := fun e => by subst e; unfold Blk3 at hb; rw [hb] at h1; simp at h1
  have n2 : ff ≠ g := fun e => by subst e; unfold Blk3 at hb; rw [hb] at h2; simp at h2
  exact ⟨bb, ff, x, rfl, (hg.block bb (Array.getElem?_eq_some_iff.1 h1).1 (by simp [n1])).trans h1, (hg.block ff (Array.getElem?_eq_some_iff.1 h2).1 (by simp [n2])).trans h2⟩
theorem Bad.below {w w' : World} {p : Nat} {v : Value} (h : Bad w p v) (hb : Below w.heap.size w w') : Bad w' p v := by
  obtain ⟨bb, ff, x, rfl, h1, h2⟩ := h
  exact ⟨bb, ff, x, rfl, (hb.block bb (Array.getElem?_eq_some_iff.1 h1).1).trans h1, (hb.block ff (Array.getElem?_eq_some_iff.1 h2).1).trans h2⟩
theorem IsV.below {w w' : World} {g : Nat} {s : ByteArray} {σ : RS} (h : IsV w g s σ) (hb : Below w.heap.size w w') : IsV w' g s σ := by
  cases σ with
  | ok a => exact ⟨h.1, h.2.below hb h.2.lt⟩
  | bad p => obtain ⟨a, v, ha, h, hB⟩ := h; exact ⟨a, v, ha, h.below hb h.lt, hB.below hb⟩
theorem IsV.drewN {w : World} {g : Nat} {s : ByteArray} {σ : RS} (h : IsV w g s σ) (n : Nat) : IsV (w.drewN n) g s σ := h.below (below_drewN' (Below.refl _ _) n)

set_option maxHeartbeats 1000000 in
theorem vwrong_any (s x : ByteArray) (g a : Nat) (p : Nat) (w : World) (hI : IsV w g s (.ok a)) :
    Calls Tryz.prog 28 #[.pointer (some ⟨g, 0, none⟩), .string x, .int .i64 (p : Int)] w fun e w' => e = .returned (.tuple #[]) ∧ IsV w' g s (.bad p) ∧ w.grownBy w' (some g) := by
  obtain ⟨ha, hI⟩ := hI
  have hc2 := hI.cell2
  have hf := hI.free 2
  have hlt := hI.lt
  have HI := Lib.hid hI; clear hI
  go_enter Tryz.func28, Tryz.ntmps28
  go_wp2
  go_end0
  have hz : (w.setCell ⟨g, 2, none⟩ (.iface 82 (.pointer (some ⟨w.heap.size + 1, 0, none⟩)))).heap.size = w.heap.size := by simp [World.setCell]
  have h2 := HI.out.set2 (.iface 82 (.pointer (some ⟨w.heap.size + 1, 0, none⟩)))
  have g2 := grown_set w g 2 (.iface 82 (.pointer (some ⟨w.heap.size + 1, 0, none⟩)))
  generalize w.setCell ⟨g, 2, none⟩ (.iface 82 (.pointer (some ⟨w.heap.size + 1, 0, none⟩))) = w0 at hz h2 g2 ⊢
  have hB := ((Below.refl w0.heap.size w0).alloc (Nat.le_refl _) (.cells #[.int .i64 160, .int .i64 (p : Int)] 75)).alloc (by simp) (.cells #[.string x, .pointer (some ⟨w.heap.size, 0, none⟩)] 84)
  have a1 := alloc_at1 w0 (.cells #[.int .i64 160, .int .i64 (p : Int)] 75) (.cells #[.string x, .pointer (some ⟨w.heap.size, 0, none⟩)] 84)
  have a2 := alloc_at2 w0 (.cells #[.int .i64 160, .int .i64 (p : Int)] 75) (.cells #[.string x, .pointer (some ⟨w.heap.size, 0, none⟩)] 84)
  rw [hz] at a1 a2
  exact ⟨rfl, ⟨a, _, ha, h2.below hB h2.lt, w.heap.size + 1, w.heap.size, x, rfl, a2, a1⟩, grown_trans g2 (grown_below hB _)⟩
theorem vwrong_at (s x : ByteArray) (g a : Nat) (q : Int) (p : Nat) (hq : q = (p : Int)) (w : World) (hI : IsV w g s (.ok a)) :
    Calls Tryz.prog 28 #[.pointer (some ⟨g, 0, none⟩), .string x, .int .i64 q] w fun e w' => e = .returned (.tuple #[]) ∧ IsV w' g s (.bad p) ∧ w.grownBy w' (some g) := by
  subst hq; exact vwrong_any s x g a p w hI
set_option maxHeartbeats 1000000 in
theorem vwrong_bad (s x : ByteArray) (g p : Nat) (q : Int) (w : World) (hI : IsV w g s (.bad p)) :
    Calls Tryz.prog 28 #[.pointer (some ⟨g, 0, none⟩), .string x, .int .i64 q] w fun e w' => e = .returned (.tuple #[]) ∧ w = w' := by
  obtain ⟨a, v, ha, hI, bb, ff, y, rfl, h1, h2⟩ := hI
  have hc2 := hI.cell2
  clear hI h1 h2
  go_enter Tryz.func28, Tryz.ntmps28
  go_wp2
  go_end0
  exact ⟨rfl, rfl⟩
set_option maxHeartbeats 1000000 in
theorem vrest_ok (s : ByteArray) (g a : Nat) (w : World) (hI : IsV w g s (.ok a)) :
    Calls Tryz.prog 26 #[.pointer (some ⟨g, 0, none⟩)] w fun e w' => e = .returned (.string (s.extract a s.size)) ∧ ∃ n, w' = w.drewN n := by
  have ha := hI.1
  have hc0 := hI.2.cell0
  have hc1 := hI.2.cell1
  have hc2 := hI.2.cell2
  have i0 : (0 : Int) ≤ (a : Int) := by omega
  have i1 : (a : Int) ≤ (s.size : Int) := by omega
  clear hI
  go_enter Tryz.func26, Tryz.ntmps26
  go_wp2
  go_quiet (fail)
  go_wp2_with fail
  go_ret
  exact ⟨rfl, nq, rfl⟩
set_option maxHeartbeats 1000000 in
theorem vrest_bad (s : ByteArray) (g p : Nat) (w : World) (hI : IsV w g s (.bad p)) :
    Calls Tryz.prog 26 #[.pointer (some ⟨g, 0, none⟩)] w fun e w' => e = .returned (.string ⟨#[]⟩) ∧ w = w' := by
  obtain ⟨a, v, ha, hI, bb, ff, y, rfl, h1, h2⟩ := hI
  have hc2 := hI.cell2
  clear hI h1 h2
  go_enter Tryz.func26, Tryz.ntmps26
  go_wp2
  go_ret
  exact ⟨rfl, rfl⟩

/-- A fixed text read. -/
def fixS (l p : Bytes) : RS → RS
  | .ok a => if Lib.hasPrefix (l.drop a) p = true then .ok (a + p.length) else .bad a
  | .bad q => .bad q
theorem hasPrefix_len (l p : Bytes) (h : Lib.hasPrefix l p = true) : p.length ≤ l.length := by
  unfold Lib.hasPrefix at h
  exact (List.isPrefixOf_iff_prefix.1 h).length_le

set_option maxHeartbeats 1000000 in
theorem vfixed_any (s p : ByteArray) (g : Nat) (σ : RS) (w : World) (hs : s.size ≤ 140737488351232) (hp : 0 < p.size) (hI : IsV w g s σ) :
    Calls Tryz.prog 24 #[.pointer (some ⟨g, 0, none⟩), .string p] w fun e w' => e = .returned (.tuple #[]) ∧ IsV w' g s (fixS s.data.toList p.data.toList σ) ∧ w.grownBy w' (some g) := by
  cases σ with
  | ok a =>
    have HI := Lib.hid hI; clear hI
    cases hpre : Lib.hasPrefix (s.data.toList.drop a) p.data.toList with
    | true =>
      have hlen := hasPrefix_len _ _ hpre
      have hl1 : s.data.toList.length = s.size := rfl
      have hl2 : p.data.toList.length = p.size := rfl
      rw [List.length_drop] at hlen
      have hfix : fixS s.data.toList p.data.toList (.ok a) = .ok (a + p.size) := by unfold fixS; simp only; rw [if_pos hpre]; rfl
      have HFIX := Lib.hid hfix; have HPRE := Lib.hid hpre; clear hfix hpre
      go_enter Tryz.func24, Tryz.ntmps24
      go_wp2_with fail
      refine (vrest_ok s g a _ HI.out).mono ?_
      rintro e w1 ⟨rfl, n, rfl⟩
      have h2 : IsV (w.drewN n) g s (.ok a) := HI.out.drewN n
      have g2 := grown_drewN w n (some g)
      generalize w.drewN n = w2 at h2 g2 ⊢
      have hc1 := h2.2.cell1
      have hf1 := h2.2.free 1
      have H2 := Lib.hid h2; have G2 := Lib.hid g2; clear h2 g2
      go_wp2_with fail
      refine (hasPrefix_any (s.extract a s.size) p _).mono ?_
      rintro e w3 ⟨rfl, rfl⟩
      rw [Lib.extract_to_end, HPRE.out]
      go_wp2_with fail
      go_end0
      refine ⟨rfl, ?_, grown_trans G2.out (grown_set _ _ _ _)⟩
      rw [HFIX.out]
      exact ⟨by omega, H2.out.2.set1 _⟩
    | false =>
      have hfix : fixS s.data.toList p.data.toList (.ok a) = .bad a := by unfold fixS; simp only; rw [if_neg (by rw [hpre]; decide)]
      have HFIX := Lib.hid hfix; have HPRE := Lib.hid hpre; clear hfix hpre
      go_enter Tryz.func24, Tryz.ntmps24
      go_wp2_with fail
      refine (vrest_ok s g a _ HI.out).mono ?_
      rintro e w1 ⟨rfl, n, rfl⟩
      have h2 : IsV (w.drewN n) g s (.ok a) := HI.out.drewN n
      have g2 := grown_drewN w n (some g)
      generalize w.drewN n = w2 at h2 g2 ⊢
      have hc1 := h2.2.cell1
      have H2 := Lib.hid h2; have G2 := Lib.hid g2; clear h2 g2
      go_wp2_with fail
      refine (hasPrefix_any (s.extract a s.size) p _).mono ?_
      rintro e w3 ⟨rfl, rfl⟩
      rw [Lib.extract_to_end, HPRE.out]
      go_wp2_with fail
      refine (vwrong_any s p g a a _ H2.out).mono ?_
      rintro e w4 ⟨rfl, h4, g4⟩
      have H4 := Lib.hid h4; have G4 := Lib.hid g4; clear h4 g4
      go_wp2_with fail
      refine bodyPost_ret (v := .tuple #[]) (results_none rfl _ _ _) rfl ⟨rfl, ?_, grown_trans G2.out G4.out⟩
      rw [HFIX.out]; exact H4.out
  | bad q =>
    have hI2 := hI
    obtain ⟨a, v, ha, hB, _⟩ := hI2
    have hc1 := hB.cell1
    clear hB
    have HI := Lib.hid hI; clear hI
    have hpre : Lib.hasPrefix [] p.data.toList = false := by
      cases h : p.data.toList with
      | nil => have : p.data.toList.length = p.size := rfl; rw [h] at this; simp at this; omega
      | cons b r => rfl
    have HPRE := Lib.hid hpre; clear hpre
    go_enter Tryz.func24, Tryz.ntmps24
    go_wp2_with fail
    refine (vrest_bad s g q _ HI.out).mono ?_
    rintro e w1 ⟨rfl, rfl⟩
    go_wp2_with fail
    refine (hasPrefix_any ⟨#[]⟩ p _).mono ?_
    rintro e w3 ⟨rfl, rfl⟩
    rw [show (⟨#[]⟩ : ByteArray).data.toList = [] from rfl, HPRE.out]
    go_wp2_with fail
    refine (vwrong_bad s p g q _ _ HI.out).mono ?_
    rintro e w4 ⟨rfl, rfl⟩
    go_wp2_with fail
    exact bodyPost_ret (v := .tuple #[]) (results_none rfl _ _ _) rfl ⟨rfl, HI.out, grown_refl _ _⟩
end Go.Proofs.YtemiamajgjfnbaaGreatDoor
