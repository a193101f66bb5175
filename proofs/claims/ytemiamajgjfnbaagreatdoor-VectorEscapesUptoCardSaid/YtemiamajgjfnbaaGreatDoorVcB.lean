/- Base lemmas for the vector walks: a reader's block, worlds that grew, run. -/
import Derived.Test.YtemiamajgjfnbaaGreatDoorEvB
import Derived.Test.YtemiamajgjfnbaaGreatDoorEvN
import Derived.Test.YtemiamajgjfnbaaGreatDoorVcS
import Derived.Deep.Light
import Derived.IntWalk
namespace Go.Proofs.YtemiamajgjfnbaaGreatDoor
open Go.RowKit
set_option linter.unusedVariables false
set_option linter.unusedSimpArgs false
theorem ret_i64 {a b : Int} (h : a = b) : Ending.returned (.int .i64 a) = .returned (.int .i64 b) := by rw [h]
theorem bcell {W w1 : World} (hb : Below W.heap.size W w1) : (∀ b o, b < W.heap.size → w1.cell? ⟨b, o, none⟩ = W.cell? ⟨b, o, none⟩) ∧ (∀ b o, b < W.heap.size → w1.frozen? ⟨b, o, none⟩ = W.frozen? ⟨b, o, none⟩) :=
  ⟨fun b o h => hb.cell (p := ⟨b, o, none⟩) h, fun b o h => hb.frozen (p := ⟨b, o, none⟩) h⟩
def bt (l : List UInt8) : ByteArray := ⟨l.toArray⟩
theorem ascii_of_all {c : ByteArray} (h : c.data.toList.all (fun b => decide (b.toNat < 128)) = true) : ∀ (j : Nat) b, c.data.toList[j]? = some b → b.toNat < 128 := by
  intro j b hb
  rw [List.all_eq_true] at h
  simpa using h b (List.mem_of_getElem? hb)
theorem data_get (W : ByteArray) (k : Nat) (h : k < W.size) : W.data.toList[k]'h = W[k] := rfl
/-- A block of three cells. -/
def Blk3 (w : World) (g : Nat) (T : TypeId) (a b c : Value) : Prop := w.heap[g]? = some (.cells #[a, b, c] T (0, 0))
section
variable {w : World} {g : Nat} {T : TypeId} {a b c : Value}
theorem Blk3.cell0 (h : Blk3 w g T a b c) : w.cell? ⟨g, 0, none⟩ = some a := by unfold Blk3 at h; simp [World.cell?, h]
theorem Blk3.cell1 (h : Blk3 w g T a b c) : w.cell? ⟨g, 1, none⟩ = some b := by unfold Blk3 at h; simp [World.cell?, h]
theorem Blk3.cell2 (h : Blk3 w g T a b c) : w.cell? ⟨g, 2, none⟩ = some c := by unfold Blk3 at h; simp [World.cell?, h]
theorem Blk3.free (h : Blk3 w g T a b c) (o : Nat) : w.frozen? ⟨g, o, none⟩ = false := by unfold Blk3 at h; simp [World.frozen?, h]
theorem Blk3.lt (h : Blk3 w g T a b c) : g < w.heap.size := (Array.getElem?_eq_some_iff.1 h).1
theorem Blk3.set1 (h : Blk3 w g T a b c) (v : Value) : Blk3 (w.setCell ⟨g, 1, none⟩ v) g T a v c := by unfold Blk3 at *; simp [World.setCell, Array.getElem?_modify, h]
theorem Blk3.set2 (h : Blk3 w g T a b c) (v : Value) : Blk3 (w.setCell ⟨g, 2, none⟩ v) g T a b v := by unfold Blk3 at *; simp [World.setCell, Array.getElem?_modify, h]
theorem Blk3.below {w' : World} {B : Nat} (h : Blk3 w g T a b c) (hb : Below B w w') (hB : g < B) : Blk3 w' g T a b c := by unfold Blk3 at *; rw [hb.block g hB]; exact h
end
theorem grown_set (w : World) (g o : Nat) (v : Value) : w.grownBy (w.setCell ⟨g, o, none⟩ v) (some g) :=
  ⟨rfl, rfl, rfl, by simp [World.setCell], fun k _ hk => Below.heap_setCell _ _ _ _ (fun e => hk (by simp [e]))⟩
theorem grown_below {w w' : World} (h : Below w.heap.size w w') (r : Option Nat) : w.grownBy w' r := ⟨h.os, h.tape, h.output, h.size, fun k hk _ => h.block k hk⟩
theorem grown_refl (w : World) (r : Option Nat) : w.grownBy w r := ⟨rfl, rfl, rfl, Nat.le_refl _, fun _ _ _ => rfl⟩
theorem grown_drew (w : World) (r : Option Nat) : w.grownBy w.drew r := ⟨rfl, rfl, rfl, Nat.le_refl _, fun _ _ _ => rfl⟩
theorem grown_drewN (w : World) (n : Nat) (r : Option Nat) : w.grownBy (w.drewN n) r := ⟨rfl, rfl, rfl, Nat.le_refl _, fun _ _ _ => rfl⟩
theorem grown_trans {a b c : World} {r : Option Nat} (h : a.grownBy b r) (k : b.grownBy c r) : a.grownBy c r :=
  ⟨k.os.trans h.os, k.tape.trans h.tape, k.output.trans h.output, Nat.le_trans h.size k.size, fun i hi hr => (k.block i (Nat.lt_of_lt_of_le hi h.size) hr).trans (h.block i hi hr)⟩
theorem Glob.grow {w w' : World} {g : Nat} (h : Glob w) (hg : w.grownBy w' (some g)) (hG : 9 ≤ g) : Glob w' := h.grown hg fun k e => by cases e; exact hG

/-- 'run': how many bytes of a set stand at a text's beginning. -/
def runL (l c : List UInt8) : Nat := (l.takeWhile (c.contains ·)).length
theorem runL_eq (l c : List UInt8) : ((l.length : Int) - ((Lib.trimLeftS l c).length : Int)) = (runL l c : Int) := by
  unfold runL Lib.trimLeftS
  have := List.takeWhile_append_dropWhile (p := fun x => c.contains x) (l := l)
  have h2 := congrArg List.length this
  rw [List.length_append] at h2
  omega

set_option maxHeartbeats 1000000 in
theorem run_any (s c : ByteArray) (w : World) (hs : s.size ≤ 140737488351232) (hcs : c.size < 4294967281) (hascii : ∀ (j : Nat) b, c.data.toList[j]? = some b → b.toNat < 128) :
    Calls Tryz.prog 51 #[.string s, .string c] w fun e w' => e = .returned (.int .i64 (runL s.data.toList c.data.toList)) ∧ Below w.heap.size w w' := by
  have hr := runL_eq s.data.toList c.data.toList
  have hl : ((Lib.trimLeftS s.data.toList c.data.toList).length : Int) ≤ (s.size : Int) := by
    have : runL s.data.toList c.data.toList ≤ s.data.toList.length := List.Sublist.length_le (List.takeWhile_sublist _)
    have h0 : s.data.toList.length = s.size := rfl
    rw [h0] at hr; omega
  have HR := Lib.hid hr; clear hr
  go_enter Tryz.func51, Tryz.ntmps51
  go_wp2_with (go_at_call 64; refine (trim_any s c _ hcs hascii).mono ?_; rintro e w' ⟨rfl, hb⟩; have HB := Lib.hid hb; clear hb)
  go_ret
  exact ⟨ret_i64 HR.out, HB.out⟩
theorem tw_lt (p : UInt8 → Bool) : ∀ (l : List UInt8) (k : Nat), k < (l.takeWhile p).length → ∃ h : k < l.length, p l[k] = true
  | [], k, h => by simp at h
  | b :: r, k, h => by
    rw [List.takeWhile_cons] at h
    by_cases hb : p b = true
    · rw [if_pos hb] at h
      cases k with
      | zero => exact ⟨by simp, hb⟩
      | succ k =>
        obtain ⟨h1, h2⟩ := tw_lt p r k (by simpa using h)
        exact ⟨by simpa using h1, by simpa using h2⟩
    · rw [if_neg hb] at h; simp at h
theorem tw_end (p : UInt8 → Bool) : ∀ (l : List UInt8) (h : (l.takeWhile p).length < l.length), p (l[(l.takeWhile p).length]'h) = false
  | [], h => by simp at h
  | b :: r, h => by
    by_cases hb : p b = true
    · have e : ((b :: r).takeWhile p).length = (r.takeWhile p).length + 1 := by rw [List.takeWhile_cons, if_pos hb]; rfl
      have h2 : (r.takeWhile p).length < r.length := by rw [e] at h; simpa using h
      have := tw_end p r h2
      simp only [e, List.getElem_cons_succ]
      exact this
    · have e : ((b :: r).takeWhile p).length = 0 := by rw [List.takeWhile_cons, if_neg hb]; rfl
      simp only [e, List.getElem_cons_zero]
      simpa using hb
theorem tw_le (p : UInt8 → Bool) (l : List UInt8) : (l.takeWhile p).length ≤ l.length := (List.takeWhile_sublist p).length_le
theorem bt_append (a b : List UInt8) : bt a ++ bt b = bt (a ++ b) := by
  apply ByteArray.ext
  show (bt a ++ bt b).data = _
  rw [ByteArray.data_append]
  simp [bt]
theorem grown_append {a w w' : World} {g : Nat} {o : Obj} {v : Value} (h : a.grownBy w (some g)) (hgr : (w.alloc o).grownBy w' v.ownBlock) (hown : ∀ i, v.ownBlock = some i → a.heap.size ≤ i) : a.grownBy w' (some g) :=
  ⟨hgr.os.trans h.os, hgr.tape.trans h.tape, hgr.output.trans h.output, Nat.le_trans h.size (Nat.le_trans (by simp) hgr.size), fun k hk hr => by
    have h1 := h.size
    rw [hgr.block k (by simp; omega) (fun e => by have := hown k e.symm; omega), Below.heap_alloc _ _ _ (by omega)]
    exact h.block k hk hr⟩
theorem own_ne {w : World} {B g : Nat} {v : Value} {l : List UInt8} (h : OwnB w B v l) (hg : g < B) : v.ownBlock ≠ some g := fun e => by have := (World.ownsRow.lt h g e).1; omega
theorem append_at {w w' : World} {g : Nat} {o : Obj} {v : Value} (hg : g < w.heap.size) (hgr : (w.alloc o).grownBy w' v.ownBlock) (hown : ∀ i, v.ownBlock = some i → g ≠ i) : w'.heap[g]? = w.heap[g]? := by
  rw [hgr.block g (by simp; omega) (fun e => hown g e.symm rfl), Below.heap_alloc _ _ _ hg]
theorem hex_idx (c : UInt8) : Lib.indexByte [48, 49, 50, 51, 52, 53, 54, 55, 56, 57, 97, 98, 99, 100, 101, 102] c = match Ev.val? c with | some v => (v : Int) | none => -1 := by
  have h : ∀ n : Fin 256, Lib.indexByte [48, 49, 50, 51, 52, 53, 54, 55, 56, 57, 97, 98, 99, 100, 101, 102] (UInt8.ofNat n.val) = match Ev.val? (UInt8.ofNat n.val) with | some v => (v : Int) | none => -1 := by decide +kernel
  have := h ⟨c.toNat, c.toNat_lt⟩
  simpa using this
theorem or16 (a b : Nat) (ha : a < 16) (hb : b < 16) : bits .or .i64 ((a : Int) * 16) (b : Int) % 256 = ((UInt8.ofNat (16 * a + b)).toNat : Int) := by
  have h : ∀ a b : Fin 16, bits .or .i64 ((a.val : Int) * 16) (b.val : Int) % 256 = ((UInt8.ofNat (16 * a.val + b.val)).toNat : Int) := by decide +kernel
  exact h ⟨a, ha⟩ ⟨b, hb⟩
/-- A small sixteen's worth as strings.IndexByte tells it. -/
def hexV (c : UInt8) : Int := match Ev.val? c with | some v => (v : Int) | none => -1
theorem hexIdx_any (c : UInt8) (w : World) :
    Calls Tryz.prog 20 #[.string ⟨#[48, 49, 50, 51, 52, 53, 54, 55, 56, 57, 97, 98, 99, 100, 101, 102]⟩, .int .u8 (c.toNat : Int)] w fun e w' => e = .returned (.int .i64 (hexV c)) ∧ w' = w := by
  have := Tryz.strings_IndexByte ⟨#[48, 49, 50, 51, 52, 53, 54, 55, 56, 57, 97, 98, 99, 100, 101, 102]⟩ c.toNat w
  rw [Lib.byte_back'] at this
  unfold hexV
  rw [← hex_idx]
  exact this
theorem val_lt (c : UInt8) (v : Nat) (h : Ev.val? c = some v) : v < 16 := by
  unfold Ev.val? at h
  split at h
  · cases h; omega
  · split at h
    · cases h; omega
    · cases h

end Go.Proofs.YtemiamajgjfnbaaGreatDoor
