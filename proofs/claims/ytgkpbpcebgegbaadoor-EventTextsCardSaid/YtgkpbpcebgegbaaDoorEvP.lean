/- event.Parse. -/
import Derived.Test.YtgkpbpcebgegbaaDoorEvT
import Derived.Deep.DeepCutAuto
namespace Go.Proofs.YtgkpbpcebgegbaaDoor
open Go.RowKit Ev
set_option linter.unusedVariables false
set_option linter.unusedSimpArgs false
/-- An event as a value. -/
def EV (e : E) : Value := .agg #[.int .u8 e.kind, .int .i64 e.ax, .int .i64 e.ay, .int .i64 e.sw, .int .i64 e.sh, .string ⟨e.name.toArray⟩, .int .u8 e.mods, .string ⟨e.text.toArray⟩, .int .i64 e.n]
def lowSet : ByteArray := ⟨#[97, 98, 99, 100, 101, 102, 103, 104, 105, 106, 107, 108, 109, 110, 111, 112, 113, 114, 115, 116, 117, 118, 119, 120, 121, 122]⟩
theorem low_dig (b : UInt8) : lowSet.data.toList.contains b = lowB b := by
  have h : ∀ n : Fin 256, lowSet.data.toList.contains (UInt8.ofNat n.val) = lowB (UInt8.ofNat n.val) := by decide +kernel
  have := h ⟨b.toNat, b.toNat_lt⟩
  simpa using this
theorem run_low (t : ByteArray) (w : World) (ht : t.size ≤ 140737488351232) :
    Calls Tryd.prog 18 #[.string t, .string ⟨#[97, 98, 99, 100, 101, 102, 103, 104, 105, 106, 107, 108, 109, 110, 111, 112, 113, 114, 115, 116, 117, 118, 119, 120, 121, 122]⟩] w fun e w' => e = .returned (.int .i64 ((t.data.toList.takeWhile lowB).length : Nat)) ∧ Below w.heap.size w w' := by
  have := run_any t lowSet w ht (by decide) (ascii_of_all (by decide))
  unfold runL at this
  rw [show (fun x => lowSet.data.toList.contains x) = lowB from funext low_dig] at this
  exact this

def EC (e : E) : Array Value := #[.int .u8 e.kind, .int .i64 e.ax, .int .i64 e.ay, .int .i64 e.sw, .int .i64 e.sh, .string ⟨e.name.toArray⟩, .int .u8 e.mods, .string ⟨e.text.toArray⟩, .int .i64 e.n]
/-- A block that holds an event. -/
def Blk9 (w : World) (b : Nat) (e : E) : Prop := w.heap[b]? = some (.cells (EC e) 29 (0, 0))
section
variable {w : World} {b : Nat} {e : E}
theorem Blk9.cell (h : Blk9 w b e) (o : Nat) : w.cell? ⟨b, o, none⟩ = (EC e)[o]? := by unfold Blk9 at h; simp [World.cell?, h]
theorem Blk9.free (h : Blk9 w b e) (o : Nat) : w.frozen? ⟨b, o, none⟩ = false := by unfold Blk9 at h; simp [World.frozen?, h]
theorem Blk9.lt (h : Blk9 w b e) : b < w.heap.size := (Array.getElem?_eq_some_iff.1 h).1
theorem Blk9.set (h : Blk9 w b e) (o : Nat) (v : Value) (e' : E) (he : (EC e).setIfInBounds o v = EC e') : Blk9 (w.setCell ⟨b, o, none⟩ v) b e' := by
  unfold Blk9 at *; simp [World.setCell, Array.getElem?_modify, h, he]
theorem Blk9.same {w' : World} (h : Blk9 w b e) (hh : w'.heap[b]? = w.heap[b]?) : Blk9 w' b e := by unfold Blk9 at *; rw [hh]; exact h
end
theorem IsRd.same {w w' : World} {g : Nat} {s : ByteArray} {σ : RS} (h : IsRd w g s σ) (hh : w'.heap[g]? = w.heap[g]?) : IsRd w' g s σ := by
  cases σ with
  | ok a => exact ⟨h.1, by have := h.2; unfold Blk3 at *; rw [hh]; exact this⟩
  | bad p => obtain ⟨a, h⟩ := h; exact ⟨a, by unfold Blk3 at *; rw [hh]; exact h⟩
theorem alloc_size (w : World) (o : Obj) : (w.alloc o).heap.size = w.heap.size + 1 := by simp
theorem alloc_at1 (w : World) (o o' : Obj) : ((w.alloc o).alloc o').heap[w.heap.size]? = some o := (Below.heap_alloc _ _ _ (by simp)).trans (heap_alloc_new _ _)
theorem alloc_at2 (w : World) (o o' : Obj) : ((w.alloc o).alloc o').heap[w.heap.size + 1]? = some o' := by rw [← alloc_size w o]; exact heap_alloc_new _ _
theorem Blk9.drew {w : World} {b : Nat} {e : E} (h : Blk9 w b e) : Blk9 w.drew b e := by unfold Blk9 at *; exact h
/-- An event loaded whole. -/
theorem load_ev {w : World} {b : Nat} {e : E} (h : Blk9 w b e) : (loadVar 29 ⟨b, 0, none⟩).run Tryd.prog w = .ok (EV e) w := by
  have c0 : w.cell? ⟨b, 0, none⟩ = some (.int .u8 e.kind) := (h.cell 0).trans rfl
  have c1 : w.cell? ⟨b, 1, none⟩ = some (.int .i64 e.ax) := (h.cell 1).trans rfl
  have c2 : w.cell? ⟨b, 2, none⟩ = some (.int .i64 e.ay) := (h.cell 2).trans rfl
  have c3 : w.cell? ⟨b, 3, none⟩ = some (.int .i64 e.sw) := (h.cell 3).trans rfl
  have c4 : w.cell? ⟨b, 4, none⟩ = some (.int .i64 e.sh) := (h.cell 4).trans rfl
  have c5 : w.cell? ⟨b, 5, none⟩ = some (.string ⟨e.name.toArray⟩) := (h.cell 5).trans rfl
  have c6 : w.cell? ⟨b, 6, none⟩ = some (.int .u8 e.mods) := (h.cell 6).trans rfl
  have c7 : w.cell? ⟨b, 7, none⟩ = some (.string ⟨e.text.toArray⟩) := (h.cell 7).trans rfl
  have c8 : w.cell? ⟨b, 8, none⟩ = some (.int .i64 e.n) := (h.cell 8).trans rfl
  unfold EV
  go_simp
theorem res_parse {w : World} {r : Nat} {e : E} (h : Blk9 w r e) (tm : Array Value) (x y : Int) (h2 : tm.getD 2 undef = .pointer (some ⟨r, 0, none⟩)) (h3 : tm.getD 3 undef = .int .i64 x) (h4 : tm.getD 4 undef = .int .i64 y) :
    (results Tryd.f6 tm).run Tryd.prog w = .ok (.tuple #[EV e, .int .i64 x, .int .i64 y]) w := by
  have hl := load_ev h
  have hr : Tryd.f6.results = #[.cell 2 29, .tmp 3, .tmp 4] := rfl
  simp only [results, hr]
  simp at h2 h3 h4
  simp [Sem.run_bind, Result.andThen, asAddr, h2, h3, h4, hl]
/-- Nine stores: an event stored whole. -/
def put9 (w : World) (b : Nat) (e : E) : World := ((((((((w.setCell ⟨b, 0, none⟩ (.int .u8 e.kind)).setCell ⟨b, 1, none⟩ (.int .i64 e.ax)).setCell ⟨b, 2, none⟩ (.int .i64 e.ay)).setCell ⟨b, 3, none⟩ (.int .i64 e.sw)).setCell ⟨b, 4, none⟩ (.int .i64 e.sh)).setCell ⟨b, 5, none⟩ (.string ⟨e.name.toArray⟩)).setCell ⟨b, 6, none⟩ (.int .u8 e.mods)).setCell ⟨b, 7, none⟩ (.string ⟨e.text.toArray⟩)).setCell ⟨b, 8, none⟩ (.int .i64 e.n)
theorem Blk9.put {w : World} {b : Nat} {d : E} (h : Blk9 w b d) (e : E) : Blk9 (put9 w b e) b e :=
  ((((((((h.set 0 (.int .u8 e.kind) ⟨e.kind, d.ax, d.ay, d.sw, d.sh, d.name, d.mods, d.text, d.n⟩ rfl).set 1 (.int .i64 e.ax) ⟨e.kind, e.ax, d.ay, d.sw, d.sh, d.name, d.mods, d.text, d.n⟩ rfl).set 2 (.int .i64 e.ay) ⟨e.kind, e.ax, e.ay, d.sw, d.sh, d.name, d.mods, d.text, d.n⟩ rfl).set 3 (.int .i64 e.sw) ⟨e.kind, e.ax, e.ay, e.sw, d.sh, d.name, d.mods, d.text, d.n⟩ rfl).set 4 (.int .i64 e.sh) ⟨e.kind, e.ax, e.ay, e.sw, e.sh, d.name, d.mods, d.text, d.n⟩ rfl).set 5 (.string ⟨e.name.toArray⟩) ⟨e.kind, e.ax, e.ay, e.sw, e.sh, e.name, d.mods, d.text, d.n⟩ rfl).set 6 (.int .u8 e.mods) ⟨e.kind, e.ax, e.ay, e.sw, e.sh, e.name, e.mods, d.text, d.n⟩ rfl).set 7 (.string ⟨e.text.toArray⟩) ⟨e.kind, e.ax, e.ay, e.sw, e.sh, e.name, e.mods, e.text, d.n⟩ rfl).set 8 (.int .i64 e.n) e rfl
theorem below_put {B : Nat} {a w : World} (h : Below B a w) (b : Nat) (hb : B ≤ b) (e : E) : Below B a (put9 w b e) :=
  ((((((((h.setCell (p := ⟨b, 0, none⟩) hb _).setCell (p := ⟨b, 1, none⟩) hb _).setCell (p := ⟨b, 2, none⟩) hb _).setCell (p := ⟨b, 3, none⟩) hb _).setCell (p := ⟨b, 4, none⟩) hb _).setCell (p := ⟨b, 5, none⟩) hb _).setCell (p := ⟨b, 6, none⟩) hb _).setCell (p := ⟨b, 7, none⟩) hb _).setCell (p := ⟨b, 8, none⟩) hb _
/-- Amidst Parse: the reader at g, the event at b, the result's place r; of what was there at the begin nothing has turned. -/
structure Mid (w0 w : World) (s : ByteArray) (r g b : Nat) (σ : RS) (e : E) : Prop where
  rd : IsRd w g s σ
  ev : Blk9 w b e
  res : Blk9 w r E0
  old : Below w0.heap.size w0 w
  r0 : w0.heap.size ≤ r
  g0 : w0.heap.size ≤ g
  b0 : w0.heap.size ≤ b
  bg : b ≠ g
  rg : r ≠ g
  rb : r ≠ b
section
variable {w0 w : World} {s : ByteArray} {r g b : Nat} {σ : RS} {e : E}
theorem Mid.read {w' : World} {σ' : RS} (h : Mid w0 w s r g b σ e) (hr : IsRd w' g s σ') (hg : w.grownBy w' (some g)) : Mid w0 w' s r g b σ' e :=
  ⟨hr, h.ev.same (hg.block b h.ev.lt (by simp [h.bg])), h.res.same (hg.block r h.res.lt (by simp [h.rg])), h.old.grown hg h.old.size (fun k hk => by cases hk; exact h.g0), h.r0, h.g0, h.b0, h.bg, h.rg, h.rb⟩
theorem Mid.set (h : Mid w0 w s r g b σ e) (o : Nat) (v : Value) (e' : E) (he : (EC e).setIfInBounds o v = EC e') : Mid w0 (w.setCell ⟨b, o, none⟩ v) s r g b σ e' :=
  ⟨h.rd.same (Below.heap_setCell _ _ _ _ h.bg.symm), h.ev.set o v e' he, h.res.same (Below.heap_setCell _ _ _ _ h.rb), h.old.setCell h.b0 v, h.r0, h.g0, h.b0, h.bg, h.rg, h.rb⟩
theorem Mid.new1 {w2 : World} (ob : Obj) (hI : IsRd w2 g s σ) (hR : Blk9 w2 r E0) (hB : Below w0.heap.size w0 w2) (r0 : w0.heap.size ≤ r) (g0 : w0.heap.size ≤ g) (hrg : r ≠ g) : Mid w0 ((w2.alloc ob).alloc (.cells (EC e) 29)).drew s r g (w2.heap.size + 1) σ e := by
  have h1 := hI.lt
  have h2 := hR.lt
  have h3 := hB.size
  have hb : Below w2.heap.size w2 ((w2.alloc ob).alloc (.cells (EC e) 29)).drew := (((Below.refl _ _).alloc (Nat.le_refl _) _).alloc (by simp) _).drew
  exact ⟨hI.below hb h1, by unfold Blk9; rw [← alloc_size w2 ob]; exact heap_alloc_new _ _, hR.same (hb.block r h2), hB.trans (hb.mono h3), r0, g0, by omega, by omega, hrg, by omega⟩
theorem Mid.new2 {w2 : World} (ob : Obj) (hI : IsRd w2 g s σ) (hR : Blk9 w2 r E0) (hB : Below w0.heap.size w0 w2) (r0 : w0.heap.size ≤ r) (g0 : w0.heap.size ≤ g) (hrg : r ≠ g) : Mid w0 ((w2.alloc (.cells (EC e) 29)).alloc ob).drew s r g w2.heap.size σ e := by
  have h1 := hI.lt
  have h2 := hR.lt
  have h3 := hB.size
  have hb : Below w2.heap.size w2 ((w2.alloc (.cells (EC e) 29)).alloc ob).drew := (((Below.refl _ _).alloc (Nat.le_refl _) _).alloc (by simp) _).drew
  exact ⟨hI.below hb h1, (Below.heap_alloc _ _ _ (by simp)).trans (heap_alloc_new _ _), hR.same (hb.block r h2), hB.trans (hb.mono h3), r0, g0, h3, by omega, hrg, by omega⟩
theorem Mid.glob (h : Mid w0 w s r g b σ e) (hg : Glob w0) : Glob w := hg.below hg.size h.old
theorem Mid.pass {w' : World} (h : Mid w0 w s r g b σ e) (hb : Below w.heap.size w w') : Mid w0 w' s r g b σ e :=
  ⟨h.rd.below hb h.rd.lt, h.ev.same (hb.block b h.ev.lt), h.res.same (hb.block r h.res.lt), h.old.trans (hb.mono h.old.size), h.r0, h.g0, h.b0, h.bg, h.rg, h.rb⟩
end

theorem kindOf_le (l : List UInt8) : kindOf l ≤ 10 := by
  unfold kindOf
  split
  · rename_i h
    have h1 : words.idxOf l < words.length := List.idxOf_lt_length_of_mem h
    have h2 : words.length = 10 := rfl
    omega
  · omega
theorem take_takeWhile (p : UInt8 → Bool) (l : List UInt8) : l.take (l.takeWhile p).length = l.takeWhile p := (List.prefix_iff_eq_take.1 (List.takeWhile_prefix p)).symm
/-- The kinds' words as strings. -/
def wordsB : List ByteArray := words.map fun l => ⟨l.toArray⟩
theorem idxFrom_words (x : ByteArray) : ∀ (ls : List (List UInt8)) (i : Nat), Lib.idxFromS (ls.map fun l => ⟨l.toArray⟩) x i = if x.data.toList ∈ ls then ((i + ls.idxOf x.data.toList : Nat) : Int) else -1
  | [], i => by simp [Lib.idxFromS]
  | l :: ls, i => by
    have he : ((⟨l.toArray⟩ : ByteArray) = x) ↔ x.data.toList = l := by
      constructor
      · intro h; subst h; rfl
      · intro h; subst h; cases x; simp
    simp only [List.map_cons, Lib.idxFromS]
    by_cases h : x.data.toList = l
    · rw [if_pos (he.2 h), if_pos (by rw [h]; exact List.mem_cons_self)]
      rw [h, List.idxOf_cons_self]; simp
    · rw [if_neg (fun h' => h (he.1 h')), idxFrom_words x ls (i + 1)]
      by_cases hm : x.data.toList ∈ ls
      · rw [if_pos hm, if_pos (List.mem_cons_of_mem _ hm), List.idxOf_cons, beq_false_of_ne (fun h' => h h'.symm)]
        simp only [cond_false]
        congr 1; omega
      · rw [if_neg hm, if_neg (by simp [h, hm])]
theorem idx_words (x : ByteArray) : Lib.idxOfS (wordsB.take 10) x = (kindOf x.data.toList : Int) - 1 := by
  unfold Lib.idxOfS
  rw [show wordsB.take 10 = wordsB from rfl, wordsB, idxFrom_words]
  unfold kindOf
  split
  · omega
  · rfl
theorem index_any (b : Nat) (x : ByteArray) (w : World) (hb : w.heap[b]? = some (.cells (words.map fun l => Value.string ⟨l.toArray⟩).toArray 9 (0, 0))) :
    Calls Tryd.prog 19 #[.slice (some ⟨b, 0, none⟩) 10 10, .string x] w fun e w' => e = .returned (.int .i64 ((kindOf x.data.toList : Int) - 1)) ∧ w' = w := by
  have := Tryd.slices_Index_string b 0 10 10 wordsB x w (by decide) (by decide) (fun j hj => by
    have hj' : j < words.length := by simpa [wordsB] using hj
    rw [Nat.zero_add, World.cell?]
    simp only
    rw [hb]
    simp [wordsB, hj', List.getD_eq_getElem?_getD])
  rw [idx_words] at this
  exact this

theorem dec_len : ∀ (n : Nat) (l : List UInt8) (i : Nat) (acc v : List UInt8), l.length ≤ n → dec l i acc = .inr v → v.length ≤ acc.length + l.length
  | _, [], i, acc, v, _, h => by simp only [dec] at h; cases h; exact Nat.le_refl _
  | 0, b :: r, i, acc, v, hn, _ => by simp at hn
  | n + 1, b :: r, i, acc, v, hn, h => by
    have hn' : r.length ≤ n := by simpa using hn
    unfold dec at h
    split at h
    · have := dec_len n r (i + 1) (acc ++ [b]) v hn' h
      simp at this ⊢; omega
    · split at h
      · rename_i x y r'
        split at h
        · split at h
          · split at h
            · cases h
            · have := dec_len n r' _ _ v (by simp at hn'; omega) h
              simp at this ⊢; omega
          · cases h
        · cases h
      · cases h
theorem textS_len (l : List UInt8) (σ : RS) : (textS l σ).1.length ≤ l.length := by
  unfold textS
  generalize blankS l σ = τ
  cases τ with
  | bad p => exact Nat.zero_le _
  | ok a =>
    simp only [textR]
    split
    · exact Nat.zero_le _
    · split
      · exact Nat.zero_le _
      · rename_i v hv
        have h1 := dec_len _ _ _ _ _ (Nat.le_refl _) hv
        have h2 : (word (l.drop a)).length ≤ (l.drop a).length := (List.takeWhile_sublist _).length_le
        simp at h1 h2
        show v.length ≤ _
        omega

set_option maxHeartbeats 4000000 in
set_option maxRecDepth 100000 in
theorem parse_long (s : ByteArray) (w : World) (hs : 65536 < s.size) :
    Calls Tryd.prog 6 #[.string s] w fun e w' => e = .returned (.tuple #[EV E0, .int .i64 0, .int .i64 3]) ∧ Below w.heap.size w w' := by
  go_enter Tryd.func6, Tryd.ntmps6
  go_wp2_with fail
  exact bodyPost_ret (v := .tuple #[EV E0, .int .i64 0, .int .i64 3]) (by simp [results, Tryd.results6, go_sem, EV, E0]) rfl ⟨rfl, (Below.refl _ _).alloc (Nat.le_refl _) _⟩

set_option maxHeartbeats 4000000 in
set_option maxRecDepth 100000 in
theorem parse_short (s : ByteArray) (w : World) (hg : Glob w) (hs : s.size ≤ 65536) :
    Calls Tryd.prog 6 #[.string s] w fun e w' => e = .returned (.tuple #[EV (parse s.data.toList).1, .int .i64 (parse s.data.toList).2.1, .int .i64 (parse s.data.toList).2.2]) ∧ Below w.heap.size w w' := by
  have HG := Lib.hid hg; clear hg
  have hn : (s.data.toList.takeWhile lowB).length ≤ s.size := (List.takeWhile_sublist _).length_le
  go_enter Tryd.func6, Tryd.ntmps6
  go_wp2_with (go_at_call 18; refine (run_low s _ (by omega)).mono ?_; rintro e w1 ⟨rfl, hb⟩; have HB1 := Lib.hid (((Below.refl _ _).alloc (Nat.le_refl _) _).trans (hb.mono (by simp))); have h1 := hb.size; simp at h1; obtain ⟨hc, hf⟩ := bcell hb; have hcr := hc w.heap.size; have hfr := hf w.heap.size; have HBK := Lib.hid (hb.block w.heap.size (by simp)); clear hc hf hb)
  have hI1 : IsRd (w1.alloc (.cells #[.string s, .int .i64 ((s.data.toList.takeWhile lowB).length : Nat), .int .i64 (-1)] 48)) w1.heap.size s (.ok (s.data.toList.takeWhile lowB).length) := ⟨hn, heap_alloc_new w1 _⟩
  have hR1 : Blk9 (w1.alloc (.cells #[.string s, .int .i64 ((s.data.toList.takeWhile lowB).length : Nat), .int .i64 (-1)] 48)) w.heap.size E0 := (Below.heap_alloc _ _ _ (by omega)).trans (HBK.out.trans (heap_alloc_new w _))
  clear HBK
  have HI1 := Lib.hid hI1; have HR1 := Lib.hid hR1; have HB2 := Lib.hid (HB1.out.alloc HB1.out.size (.cells #[.string s, .int .i64 ((s.data.toList.takeWhile lowB).length : Nat), .int .i64 (-1)] 48)); clear hI1 hR1
  generalize hL : (s.data.toList.takeWhile lowB).length = L at hn HI1 HR1 HB2 ⊢
  have HL := Lib.hid hL; clear hL
  generalize w1.alloc (.cells #[.string s, .int .i64 (L : Nat), .int .i64 (-1)] 48) = w2 at HI1 HR1 HB2 ⊢
  have hl0 : (0 : Int) ≤ (L : Int) := by omega
  have hl1 : (L : Int) ≤ (s.size : Int) := by omega
  have hk10 : kindOf (s.data.toList.take L) ≤ 10 := kindOf_le _
  have hk1 : IntKind.i64.wrap (kindOf (s.data.toList.take L) : Int) = (kindOf (s.data.toList.take L) : Int) := IntWalk.i64_in _ (by omega)
  have hk2 : IntKind.u8.wrap (kindOf (s.data.toList.take L) : Int) = (kindOf (s.data.toList.take L) : Int) := IntWalk.u8_in _ (by omega)
  go_cut [7] (fun v7 wx => ∃ b : Nat, v7 = .pointer (some ⟨b, 0, none⟩) ∧ Hid (Mid w wx s w.heap.size w1.heap.size b (.ok L) ⟨kindOf (s.data.toList.take L), 0, 0, 0, 0, [], 0, [], 0⟩))
  case first =>
    go_region_held3 (fun _ => True) (trivial) ((first | (go_at_call 10; refine (words_any _).mono ?_; rintro e w3 ⟨rfl, rfl⟩) | (go_at_call 19; refine (index_any _ _ _ (by first | exact heap_alloc_new _ _ | exact alloc_at1 _ _ _ | exact alloc_at2 _ _ _)).mono ?_; rintro e w3 ⟨rfl, rfl⟩)))
    all_goals
      go_wp2_with fail
      go_meet
      first
        | exact ⟨_, rfl, Lib.hid (Mid.new1 (e := ⟨kindOf (s.data.toList.take L), 0, 0, 0, 0, [], 0, [], 0⟩) _ HI1.out HR1.out HB2.out (Nat.le_refl _) (by have := h1; omega) (by have := h1; omega))⟩
        | exact ⟨_, rfl, Lib.hid (Mid.new2 (e := ⟨kindOf (s.data.toList.take L), 0, 0, 0, 0, [], 0, [], 0⟩) _ HI1.out HR1.out HB2.out (Nat.le_refl _) (by have := h1; omega) (by have := h1; omega))⟩
  case rest =>
    obtain ⟨b, rfl, HM⟩ := hcut
    clear HI1 HR1 HB1 HB2
    have hGg : 8 ≤ w1.heap.size := by have := HG.out.size; omega
    have hkc : wc.cell? ⟨b, 0, none⟩ = some (.int .u8 (kindOf (s.data.toList.take L))) := (HM.out.ev.cell 0).trans rfl
    generalize hK : kindOf (s.data.toList.take L) = K at hk10 HM hkc
    have HK := Lib.hid hK; clear hK hk1 hk2
    go_upto_block 0 with fail
    go_cut [8] (fun v8 wx => ∃ m : Int, v8 = .int .i64 m ∧ Hid (m = (fields s.data.toList K (.ok L)).2.1) ∧ Hid ((fields s.data.toList K (.ok L)).1.name.length ≤ s.data.toList.length) ∧ Hid (Mid w wx s w.heap.size w1.heap.size b (fields s.data.toList K (.ok L)).2.2 (fields s.data.toList K (.ok L)).1))
    case first =>
      clear hkc
      by_cases k0 : K = 0
      · subst k0
        go_wp2_with fail
        refine (wrong_at s _ L _ 0 rfl _ HM.out.rd).mono ?_
        rintro e w4 ⟨rfl, hr, hgr⟩
        have HM1 := Lib.hid (HM.out.read hr hgr); clear hr hgr
        go_wp2_with fail
        go_meet
        exact ⟨0, rfl, Lib.hid rfl, Lib.hid (Nat.zero_le _), HM1⟩
      by_cases k1 : K = 1
      · subst k1
        go_wp2_with fail
        refine (number_any s _ (.ok L) _ (by omega) (HM.out.glob HG.out) hGg HM.out.rd).mono ?_
        rintro e w4 ⟨rfl, hr, hgr⟩
        have HR1 := Lib.hid (HM.out.read hr hgr); clear hr hgr
        go_wp2_with fail
        refine (text_any s _ (numS s.data.toList (.ok L)).2 _ (by omega) (HR1.out.glob HG.out) hGg HR1.out.rd).mono ?_
        rintro e w5 ⟨rfl, hr, hgr⟩
        have HR2 := Lib.hid (HR1.out.read hr hgr); clear hr hgr
        have hc5 : w5.cell? ⟨b, 5, none⟩ = some (.string ⟨#[]⟩) := (HR2.out.ev.cell 5).trans rfl
        have hc6 : w5.cell? ⟨b, 6, none⟩ = some (.int .u8 0) := (HR2.out.ev.cell 6).trans rfl
        have hf5 := HR2.out.ev.free 5
        have hf6 := HR2.out.ev.free 6
        have HM2 := Lib.hid ((HR2.out.set 5 (.string ⟨(textS s.data.toList (numS s.data.toList (.ok L)).2).1.toArray⟩) ⟨1, 0, 0, 0, 0, (textS s.data.toList (numS s.data.toList (.ok L)).2).1, 0, [], 0⟩ rfl).set 6 (.int .u8 ((numS s.data.toList (.ok L)).1 % 256)) ⟨1, 0, 0, 0, 0, (textS s.data.toList (numS s.data.toList (.ok L)).2).1, (numS s.data.toList (.ok L)).1 % 256, [], 0⟩ rfl)
        go_wp2_with fail
        go_meet
        exact ⟨_, rfl, Lib.hid rfl, Lib.hid (textS_len _ _), HM2⟩
      by_cases k2 : K = 2
      · subst k2
        go_wp2_with fail
        refine (text_any s _ (.ok L) _ (by omega) (HM.out.glob HG.out) hGg HM.out.rd).mono ?_
        rintro e w4 ⟨rfl, hr, hgr⟩
        have HR1 := Lib.hid (HM.out.read hr hgr); clear hr hgr
        have hc7 : w4.cell? ⟨b, 7, none⟩ = some (.string ⟨#[]⟩) := (HR1.out.ev.cell 7).trans rfl
        have hf7 := HR1.out.ev.free 7
        have HM1 := Lib.hid (HR1.out.set 7 (.string ⟨(textS s.data.toList (.ok L)).1.toArray⟩) ⟨2, 0, 0, 0, 0, [], 0, (textS s.data.toList (.ok L)).1, 0⟩ rfl)
        go_wp2_with fail
        go_meet
        exact ⟨_, rfl, Lib.hid rfl, Lib.hid (Nat.zero_le _), HM1⟩
      by_cases k3 : K = 3
      · subst k3
        go_wp2_with fail
        refine (number_any s _ (.ok L) _ (by omega) (HM.out.glob HG.out) hGg HM.out.rd).mono ?_
        rintro e w4 ⟨rfl, hr, hgr⟩
        have HR1 := Lib.hid (HM.out.read hr hgr); clear hr hgr
        have hc1 : w4.cell? ⟨b, 1, none⟩ = some (.int .i64 0) := (HR1.out.ev.cell 1).trans rfl
        have hf1 := HR1.out.ev.free 1
        have HM1 := Lib.hid (HR1.out.set 1 (.int .i64 (numS s.data.toList (.ok L)).1) ⟨3, (numS s.data.toList (.ok L)).1, 0, 0, 0, [], 0, [], 0⟩ rfl)
        go_wp2_with fail
        refine (number_any s _ (numS s.data.toList (.ok L)).2 _ (by omega) (HM1.out.glob HG.out) hGg HM1.out.rd).mono ?_
        rintro e w5 ⟨rfl, hr, hgr⟩
        have HR2 := Lib.hid (HM1.out.read hr hgr); clear hr hgr
        have hc0 : w5.cell? ⟨b, 0, none⟩ = some (.int .u8 3) := (HR2.out.ev.cell 0).trans rfl
        have hc2 : w5.cell? ⟨b, 2, none⟩ = some (.int .i64 0) := (HR2.out.ev.cell 2).trans rfl
        have hf2 := HR2.out.ev.free 2
        have HM2 := Lib.hid (HR2.out.set 2 (.int .i64 (numS s.data.toList (numS s.data.toList (.ok L)).2).1) ⟨3, (numS s.data.toList (.ok L)).1, (numS s.data.toList (numS s.data.toList (.ok L)).2).1, 0, 0, [], 0, [], 0⟩ rfl)
        go_wp2_with fail
        refine (number_any s _ (numS s.data.toList (numS s.data.toList (.ok L)).2).2 _ (by omega) (HM2.out.glob HG.out) hGg HM2.out.rd).mono ?_
        rintro e w6 ⟨rfl, hr, hgr⟩
        have HR3 := Lib.hid (HM2.out.read hr hgr); clear hr hgr
        have hc8 : w6.cell? ⟨b, 8, none⟩ = some (.int .i64 0) := (HR3.out.ev.cell 8).trans rfl
        have hf8 := HR3.out.ev.free 8
        have HM3 := Lib.hid (HR3.out.set 8 (.int .i64 (numS s.data.toList (numS s.data.toList (numS s.data.toList (.ok L)).2).2).1) ⟨3, (numS s.data.toList (.ok L)).1, (numS s.data.toList (numS s.data.toList (.ok L)).2).1, 0, 0, [], 0, [], (numS s.data.toList (numS s.data.toList (numS s.data.toList (.ok L)).2).2).1⟩ rfl)
        go_wp2_with fail
        go_meet
        exact ⟨_, rfl, Lib.hid rfl, Lib.hid (Nat.zero_le _), HM3⟩
      by_cases k4 : K = 4
      · subst k4
        go_wp2_with fail
        refine (number_any s _ (.ok L) _ (by omega) (HM.out.glob HG.out) hGg HM.out.rd).mono ?_
        rintro e w4 ⟨rfl, hr, hgr⟩
        have HR1 := Lib.hid (HM.out.read hr hgr); clear hr hgr
        have hc1 : w4.cell? ⟨b, 1, none⟩ = some (.int .i64 0) := (HR1.out.ev.cell 1).trans rfl
        have hf1 := HR1.out.ev.free 1
        have HM1 := Lib.hid (HR1.out.set 1 (.int .i64 (numS s.data.toList (.ok L)).1) ⟨4, (numS s.data.toList (.ok L)).1, 0, 0, 0, [], 0, [], 0⟩ rfl)
        go_wp2_with fail
        refine (number_any s _ (numS s.data.toList (.ok L)).2 _ (by omega) (HM1.out.glob HG.out) hGg HM1.out.rd).mono ?_
        rintro e w5 ⟨rfl, hr, hgr⟩
        have HR2 := Lib.hid (HM1.out.read hr hgr); clear hr hgr
        have hc0 : w5.cell? ⟨b, 0, none⟩ = some (.int .u8 4) := (HR2.out.ev.cell 0).trans rfl
        have hc2 : w5.cell? ⟨b, 2, none⟩ = some (.int .i64 0) := (HR2.out.ev.cell 2).trans rfl
        have hf2 := HR2.out.ev.free 2
        have HM2 := Lib.hid (HR2.out.set 2 (.int .i64 (numS s.data.toList (numS s.data.toList (.ok L)).2).1) ⟨4, (numS s.data.toList (.ok L)).1, (numS s.data.toList (numS s.data.toList (.ok L)).2).1, 0, 0, [], 0, [], 0⟩ rfl)
        go_wp2_with fail
        refine (number_any s _ (numS s.data.toList (numS s.data.toList (.ok L)).2).2 _ (by omega) (HM2.out.glob HG.out) hGg HM2.out.rd).mono ?_
        rintro e w6 ⟨rfl, hr, hgr⟩
        have HR3 := Lib.hid (HM2.out.read hr hgr); clear hr hgr
        have hc8 : w6.cell? ⟨b, 8, none⟩ = some (.int .i64 0) := (HR3.out.ev.cell 8).trans rfl
        have hf8 := HR3.out.ev.free 8
        have HM3 := Lib.hid (HR3.out.set 8 (.int .i64 (numS s.data.toList (numS s.data.toList (numS s.data.toList (.ok L)).2).2).1) ⟨4, (numS s.data.toList (.ok L)).1, (numS s.data.toList (numS s.data.toList (.ok L)).2).1, 0, 0, [], 0, [], (numS s.data.toList (numS s.data.toList (numS s.data.toList (.ok L)).2).2).1⟩ rfl)
        go_wp2_with fail
        go_meet
        exact ⟨_, rfl, Lib.hid rfl, Lib.hid (Nat.zero_le _), HM3⟩
      by_cases k5 : K = 5
      · subst k5
        go_wp2_with fail
        refine (number_any s _ (.ok L) _ (by omega) (HM.out.glob HG.out) hGg HM.out.rd).mono ?_
        rintro e w4 ⟨rfl, hr, hgr⟩
        have HR1 := Lib.hid (HM.out.read hr hgr); clear hr hgr
        have hc1 : w4.cell? ⟨b, 1, none⟩ = some (.int .i64 0) := (HR1.out.ev.cell 1).trans rfl
        have hf1 := HR1.out.ev.free 1
        have HM1 := Lib.hid (HR1.out.set 1 (.int .i64 (numS s.data.toList (.ok L)).1) ⟨5, (numS s.data.toList (.ok L)).1, 0, 0, 0, [], 0, [], 0⟩ rfl)
        go_wp2_with fail
        refine (number_any s _ (numS s.data.toList (.ok L)).2 _ (by omega) (HM1.out.glob HG.out) hGg HM1.out.rd).mono ?_
        rintro e w5 ⟨rfl, hr, hgr⟩
        have HR2 := Lib.hid (HM1.out.read hr hgr); clear hr hgr
        have hc0 : w5.cell? ⟨b, 0, none⟩ = some (.int .u8 5) := (HR2.out.ev.cell 0).trans rfl
        have hc2 : w5.cell? ⟨b, 2, none⟩ = some (.int .i64 0) := (HR2.out.ev.cell 2).trans rfl
        have hf2 := HR2.out.ev.free 2
        have HM2 := Lib.hid (HR2.out.set 2 (.int .i64 (numS s.data.toList (numS s.data.toList (.ok L)).2).1) ⟨5, (numS s.data.toList (.ok L)).1, (numS s.data.toList (numS s.data.toList (.ok L)).2).1, 0, 0, [], 0, [], 0⟩ rfl)
        go_wp2_with fail
        go_meet
        exact ⟨_, rfl, Lib.hid rfl, Lib.hid (Nat.zero_le _), HM2⟩
      by_cases k6 : K = 6
      · subst k6
        go_wp2_with fail
        refine (number_any s _ (.ok L) _ (by omega) (HM.out.glob HG.out) hGg HM.out.rd).mono ?_
        rintro e w4 ⟨rfl, hr, hgr⟩
        have HR1 := Lib.hid (HM.out.read hr hgr); clear hr hgr
        have hc1 : w4.cell? ⟨b, 1, none⟩ = some (.int .i64 0) := (HR1.out.ev.cell 1).trans rfl
        have hf1 := HR1.out.ev.free 1
        have HM1 := Lib.hid (HR1.out.set 1 (.int .i64 (numS s.data.toList (.ok L)).1) ⟨6, (numS s.data.toList (.ok L)).1, 0, 0, 0, [], 0, [], 0⟩ rfl)
        go_wp2_with fail
        refine (number_any s _ (numS s.data.toList (.ok L)).2 _ (by omega) (HM1.out.glob HG.out) hGg HM1.out.rd).mono ?_
        rintro e w5 ⟨rfl, hr, hgr⟩
        have HR2 := Lib.hid (HM1.out.read hr hgr); clear hr hgr
        have hc0 : w5.cell? ⟨b, 0, none⟩ = some (.int .u8 6) := (HR2.out.ev.cell 0).trans rfl
        have hc2 : w5.cell? ⟨b, 2, none⟩ = some (.int .i64 0) := (HR2.out.ev.cell 2).trans rfl
        have hf2 := HR2.out.ev.free 2
        have HM2 := Lib.hid (HR2.out.set 2 (.int .i64 (numS s.data.toList (numS s.data.toList (.ok L)).2).1) ⟨6, (numS s.data.toList (.ok L)).1, (numS s.data.toList (numS s.data.toList (.ok L)).2).1, 0, 0, [], 0, [], 0⟩ rfl)
        go_wp2_with fail
        refine (number_any s _ (numS s.data.toList (numS s.data.toList (.ok L)).2).2 _ (by omega) (HM2.out.glob HG.out) hGg HM2.out.rd).mono ?_
        rintro e w6 ⟨rfl, hr, hgr⟩
        have HR3 := Lib.hid (HM2.out.read hr hgr); clear hr hgr
        have hc8 : w6.cell? ⟨b, 8, none⟩ = some (.int .i64 0) := (HR3.out.ev.cell 8).trans rfl
        have hf8 := HR3.out.ev.free 8
        have HM3 := Lib.hid (HR3.out.set 8 (.int .i64 (numS s.data.toList (numS s.data.toList (numS s.data.toList (.ok L)).2).2).1) ⟨6, (numS s.data.toList (.ok L)).1, (numS s.data.toList (numS s.data.toList (.ok L)).2).1, 0, 0, [], 0, [], (numS s.data.toList (numS s.data.toList (numS s.data.toList (.ok L)).2).2).1⟩ rfl)
        go_wp2_with fail
        go_meet
        exact ⟨_, rfl, Lib.hid rfl, Lib.hid (Nat.zero_le _), HM3⟩
      by_cases k7 : K = 7
      · subst k7
        go_wp2_with fail
        refine (number_any s _ (.ok L) _ (by omega) (HM.out.glob HG.out) hGg HM.out.rd).mono ?_
        rintro e w4 ⟨rfl, hr, hgr⟩
        have HR1 := Lib.hid (HM.out.read hr hgr); clear hr hgr
        have hc8 : w4.cell? ⟨b, 8, none⟩ = some (.int .i64 0) := (HR1.out.ev.cell 8).trans rfl
        have hf8 := HR1.out.ev.free 8
        have HM1 := Lib.hid (HR1.out.set 8 (.int .i64 (numS s.data.toList (.ok L)).1) ⟨7, 0, 0, 0, 0, [], 0, [], (numS s.data.toList (.ok L)).1⟩ rfl)
        go_wp2_with fail
        go_meet
        exact ⟨_, rfl, Lib.hid rfl, Lib.hid (Nat.zero_le _), HM1⟩
      by_cases k8 : K = 8
      · subst k8
        go_wp2_with fail
        refine (number_any s _ (.ok L) _ (by omega) (HM.out.glob HG.out) hGg HM.out.rd).mono ?_
        rintro e w4 ⟨rfl, hr, hgr⟩
        have HR1 := Lib.hid (HM.out.read hr hgr); clear hr hgr
        have hc3 : w4.cell? ⟨b, 3, none⟩ = some (.int .i64 0) := (HR1.out.ev.cell 3).trans rfl
        have hf3 := HR1.out.ev.free 3
        have HM1 := Lib.hid (HR1.out.set 3 (.int .i64 (numS s.data.toList (.ok L)).1) ⟨8, 0, 0, (numS s.data.toList (.ok L)).1, 0, [], 0, [], 0⟩ rfl)
        go_wp2_with fail
        refine (number_any s _ (numS s.data.toList (.ok L)).2 _ (by omega) (HM1.out.glob HG.out) hGg HM1.out.rd).mono ?_
        rintro e w5 ⟨rfl, hr, hgr⟩
        have HR2 := Lib.hid (HM1.out.read hr hgr); clear hr hgr
        have hc4 : w5.cell? ⟨b, 4, none⟩ = some (.int .i64 0) := (HR2.out.ev.cell 4).trans rfl
        have hf4 := HR2.out.ev.free 4
        have HM2 := Lib.hid (HR2.out.set 4 (.int .i64 (numS s.data.toList (numS s.data.toList (.ok L)).2).1) ⟨8, 0, 0, (numS s.data.toList (.ok L)).1, (numS s.data.toList (numS s.data.toList (.ok L)).2).1, [], 0, [], 0⟩ rfl)
        go_wp2_with fail
        go_meet
        exact ⟨_, rfl, Lib.hid rfl, Lib.hid (Nat.zero_le _), HM2⟩
      by_cases k9 : K = 9
      · subst k9
        go_wp2_with fail
        refine (number_any s _ (.ok L) _ (by omega) (HM.out.glob HG.out) hGg HM.out.rd).mono ?_
        rintro e w4 ⟨rfl, hr, hgr⟩
        have HR1 := Lib.hid (HM.out.read hr hgr); clear hr hgr
        have hc1 : w4.cell? ⟨b, 1, none⟩ = some (.int .i64 0) := (HR1.out.ev.cell 1).trans rfl
        have hf1 := HR1.out.ev.free 1
        have HM1 := Lib.hid (HR1.out.set 1 (.int .i64 (numS s.data.toList (.ok L)).1) ⟨9, (numS s.data.toList (.ok L)).1, 0, 0, 0, [], 0, [], 0⟩ rfl)
        go_wp2_with fail
        refine (number_any s _ (numS s.data.toList (.ok L)).2 _ (by omega) (HM1.out.glob HG.out) hGg HM1.out.rd).mono ?_
        rintro e w5 ⟨rfl, hr, hgr⟩
        have HR2 := Lib.hid (HM1.out.read hr hgr); clear hr hgr
        have hc0 : w5.cell? ⟨b, 0, none⟩ = some (.int .u8 9) := (HR2.out.ev.cell 0).trans rfl
        have hc2 : w5.cell? ⟨b, 2, none⟩ = some (.int .i64 0) := (HR2.out.ev.cell 2).trans rfl
        have hf2 := HR2.out.ev.free 2
        have HM2 := Lib.hid (HR2.out.set 2 (.int .i64 (numS s.data.toList (numS s.data.toList (.ok L)).2).1) ⟨9, (numS s.data.toList (.ok L)).1, (numS s.data.toList (numS s.data.toList (.ok L)).2).1, 0, 0, [], 0, [], 0⟩ rfl)
        go_wp2_with fail
        refine (text_any s _ (numS s.data.toList (numS s.data.toList (.ok L)).2).2 _ (by omega) (HM2.out.glob HG.out) hGg HM2.out.rd).mono ?_
        rintro e w6 ⟨rfl, hr, hgr⟩
        have HR3 := Lib.hid (HM2.out.read hr hgr); clear hr hgr
        have hc7 : w6.cell? ⟨b, 7, none⟩ = some (.string ⟨#[]⟩) := (HR3.out.ev.cell 7).trans rfl
        have hf7 := HR3.out.ev.free 7
        have HM3 := Lib.hid (HR3.out.set 7 (.string ⟨(textS s.data.toList (numS s.data.toList (numS s.data.toList (.ok L)).2).2).1.toArray⟩) ⟨9, (numS s.data.toList (.ok L)).1, (numS s.data.toList (numS s.data.toList (.ok L)).2).1, 0, 0, [], 0, (textS s.data.toList (numS s.data.toList (numS s.data.toList (.ok L)).2).2).1, 0⟩ rfl)
        go_wp2_with fail
        go_meet
        exact ⟨_, rfl, Lib.hid rfl, Lib.hid (Nat.zero_le _), HM3⟩
      by_cases k10 : K = 10
      · subst k10
        go_wp2_with fail
        refine (number_any s _ (.ok L) _ (by omega) (HM.out.glob HG.out) hGg HM.out.rd).mono ?_
        rintro e w4 ⟨rfl, hr, hgr⟩
        have HR1 := Lib.hid (HM.out.read hr hgr); clear hr hgr
        have hc1 : w4.cell? ⟨b, 1, none⟩ = some (.int .i64 0) := (HR1.out.ev.cell 1).trans rfl
        have hf1 := HR1.out.ev.free 1
        have HM1 := Lib.hid (HR1.out.set 1 (.int .i64 (numS s.data.toList (.ok L)).1) ⟨10, (numS s.data.toList (.ok L)).1, 0, 0, 0, [], 0, [], 0⟩ rfl)
        go_wp2_with fail
        refine (number_any s _ (numS s.data.toList (.ok L)).2 _ (by omega) (HM1.out.glob HG.out) hGg HM1.out.rd).mono ?_
        rintro e w5 ⟨rfl, hr, hgr⟩
        have HR2 := Lib.hid (HM1.out.read hr hgr); clear hr hgr
        have hc0 : w5.cell? ⟨b, 0, none⟩ = some (.int .u8 10) := (HR2.out.ev.cell 0).trans rfl
        have hc2 : w5.cell? ⟨b, 2, none⟩ = some (.int .i64 0) := (HR2.out.ev.cell 2).trans rfl
        have hf2 := HR2.out.ev.free 2
        have HM2 := Lib.hid (HR2.out.set 2 (.int .i64 (numS s.data.toList (numS s.data.toList (.ok L)).2).1) ⟨10, (numS s.data.toList (.ok L)).1, (numS s.data.toList (numS s.data.toList (.ok L)).2).1, 0, 0, [], 0, [], 0⟩ rfl)
        go_wp2_with fail
        refine (text_any s _ (numS s.data.toList (numS s.data.toList (.ok L)).2).2 _ (by omega) (HM2.out.glob HG.out) hGg HM2.out.rd).mono ?_
        rintro e w6 ⟨rfl, hr, hgr⟩
        have HR3 := Lib.hid (HM2.out.read hr hgr); clear hr hgr
        have hc7 : w6.cell? ⟨b, 7, none⟩ = some (.string ⟨#[]⟩) := (HR3.out.ev.cell 7).trans rfl
        have hf7 := HR3.out.ev.free 7
        have HM3 := Lib.hid (HR3.out.set 7 (.string ⟨(textS s.data.toList (numS s.data.toList (numS s.data.toList (.ok L)).2).2).1.toArray⟩) ⟨10, (numS s.data.toList (.ok L)).1, (numS s.data.toList (numS s.data.toList (.ok L)).2).1, 0, 0, [], 0, (textS s.data.toList (numS s.data.toList (numS s.data.toList (.ok L)).2).2).1, 0⟩ rfl)
        go_wp2_with fail
        go_meet
        exact ⟨_, rfl, Lib.hid rfl, Lib.hid (Nat.zero_le _), HM3⟩
      omega
    case rest =>
      obtain ⟨m, rfl, HMM, HNL, HM2⟩ := hcut
      clear HM hkc
      have hp : parse s.data.toList = finish (fields s.data.toList K (.ok L)).1 (fields s.data.toList K (.ok L)).2.1 (done s.data.toList (fields s.data.toList K (.ok L)).2.2) := by
        unfold parse
        rw [if_neg (by show ¬ 65536 < s.size; omega)]
        simp only
        rw [HL.out, ← HK.out, ← HL.out, take_takeWhile]
      generalize fields s.data.toList K (.ok L) = f at hp HMM HNL HM2
      obtain ⟨e, m', σ⟩ := f
      obtain rfl : m = m' := HMM.out
      have HNL2 := Lib.hid (show e.name.length ≤ s.size from HNL.out)
      have HM3 := Lib.hid (show Mid w wc s w.heap.size w1.heap.size b σ e from HM2.out)
      simp only at hp
      have HP := Lib.hid hp
      clear HMM HNL HM2 hp hk10 HL HK hn hl0 hl1 h1
      cases σ with
      | bad q =>
        obtain ⟨ra, hblk⟩ := HM3.out.rd
        have hc0 := hblk.cell0
        have hc1 := hblk.cell1
        have hc2 := hblk.cell2
        clear hblk
        have hq : decide ((q : Int) < 0) = false := decide_eq_false (by omega)
        have hq2 : decide ((0 : Int) ≤ (q : Int)) = true := decide_eq_true (by omega)
        go_wp2_with fail
        have r0 : wc.cell? ⟨w.heap.size, 0, none⟩ = some (.int .u8 0) := (HM3.out.res.cell 0).trans rfl
        have f0 := HM3.out.res.free 0
        have r1 : wc.cell? ⟨w.heap.size, 1, none⟩ = some (.int .i64 0) := (HM3.out.res.cell 1).trans rfl
        have f1 := HM3.out.res.free 1
        have r2 : wc.cell? ⟨w.heap.size, 2, none⟩ = some (.int .i64 0) := (HM3.out.res.cell 2).trans rfl
        have f2 := HM3.out.res.free 2
        have r3 : wc.cell? ⟨w.heap.size, 3, none⟩ = some (.int .i64 0) := (HM3.out.res.cell 3).trans rfl
        have f3 := HM3.out.res.free 3
        have r4 : wc.cell? ⟨w.heap.size, 4, none⟩ = some (.int .i64 0) := (HM3.out.res.cell 4).trans rfl
        have f4 := HM3.out.res.free 4
        have r5 : wc.cell? ⟨w.heap.size, 5, none⟩ = some (.string ⟨#[]⟩) := (HM3.out.res.cell 5).trans rfl
        have f5 := HM3.out.res.free 5
        have r6 : wc.cell? ⟨w.heap.size, 6, none⟩ = some (.int .u8 0) := (HM3.out.res.cell 6).trans rfl
        have f6 := HM3.out.res.free 6
        have r7 : wc.cell? ⟨w.heap.size, 7, none⟩ = some (.string ⟨#[]⟩) := (HM3.out.res.cell 7).trans rfl
        have f7 := HM3.out.res.free 7
        have r8 : wc.cell? ⟨w.heap.size, 8, none⟩ = some (.int .i64 0) := (HM3.out.res.cell 8).trans rfl
        have f8 := HM3.out.res.free 8
        have hn1 : ¬ w.heap.size = w1.heap.size := HM3.out.rg
        have hn2 : ¬ w1.heap.size = w.heap.size := fun h => HM3.out.rg h.symm
        go_region
        go_wp2_with fail
        refine bodyPost_ret (res_parse (w := (put9 wc w.heap.size E0).drew) (HM3.out.res.put E0).drew _ q 190 rfl rfl rfl) rfl ⟨?_, (below_put HM3.out.old _ (Nat.le_refl _) E0).drew⟩
        rw [HP.out]; rfl
      | ok a =>
        have ha := HM3.out.rd.1
        have hblk := HM3.out.rd.2
        have hc0 := hblk.cell0
        have hc1 := hblk.cell1
        have hc2 := hblk.cell2
        clear hblk
        have hq : decide ((-1 : Int) < 0) = true := by decide
        have hq2 : decide ((0 : Int) ≤ (-1 : Int)) = false := by decide
        by_cases hlt : a < s.size
        · have hd : decide ((a : Int) < (s.size : Int)) = true := decide_eq_true (by omega)
          have hdone : done s.data.toList (.ok a) = .bad a := by rw [done, if_pos (show a < s.data.toList.length from hlt)]
          have HD := Lib.hid hdone; clear hdone
          go_wp2_with (go_at_call 20; refine (wrong_any s _ a a _ HM3.out.rd).mono ?_; rintro e' w5 ⟨rfl, hr, hgr⟩; have HM4 := Lib.hid (HM3.out.read hr hgr); clear hr hgr; obtain ⟨ra, hblk⟩ := HM4.out.rd; have hd0 := hblk.cell0; have hd1 := hblk.cell1; have hd2 := hblk.cell2; clear hblk hc0 hc1 hc2 hq hq2; have hq3 : decide ((0 : Int) ≤ (a : Int)) = true := decide_eq_true (by omega))
          have r0 : w5.cell? ⟨w.heap.size, 0, none⟩ = some (.int .u8 0) := (HM4.out.res.cell 0).trans rfl
          have f0 := HM4.out.res.free 0
          have r1 : w5.cell? ⟨w.heap.size, 1, none⟩ = some (.int .i64 0) := (HM4.out.res.cell 1).trans rfl
          have f1 := HM4.out.res.free 1
          have r2 : w5.cell? ⟨w.heap.size, 2, none⟩ = some (.int .i64 0) := (HM4.out.res.cell 2).trans rfl
          have f2 := HM4.out.res.free 2
          have r3 : w5.cell? ⟨w.heap.size, 3, none⟩ = some (.int .i64 0) := (HM4.out.res.cell 3).trans rfl
          have f3 := HM4.out.res.free 3
          have r4 : w5.cell? ⟨w.heap.size, 4, none⟩ = some (.int .i64 0) := (HM4.out.res.cell 4).trans rfl
          have f4 := HM4.out.res.free 4
          have r5 : w5.cell? ⟨w.heap.size, 5, none⟩ = some (.string ⟨#[]⟩) := (HM4.out.res.cell 5).trans rfl
          have f5 := HM4.out.res.free 5
          have r6 : w5.cell? ⟨w.heap.size, 6, none⟩ = some (.int .u8 0) := (HM4.out.res.cell 6).trans rfl
          have f6 := HM4.out.res.free 6
          have r7 : w5.cell? ⟨w.heap.size, 7, none⟩ = some (.string ⟨#[]⟩) := (HM4.out.res.cell 7).trans rfl
          have f7 := HM4.out.res.free 7
          have r8 : w5.cell? ⟨w.heap.size, 8, none⟩ = some (.int .i64 0) := (HM4.out.res.cell 8).trans rfl
          have f8 := HM4.out.res.free 8
          have hn1 : ¬ w.heap.size = w1.heap.size := HM3.out.rg
          have hn2 : ¬ w1.heap.size = w.heap.size := fun h => HM3.out.rg h.symm
          go_region
          go_wp2_with fail
          refine bodyPost_ret (res_parse (w := (put9 w5 w.heap.size E0).drew) (HM4.out.res.put E0).drew _ a 190 rfl rfl rfl) rfl ⟨?_, (below_put HM4.out.old _ (Nat.le_refl _) E0).drew⟩
          rw [HP.out, HD.out]; rfl
        · have hd : decide ((a : Int) < (s.size : Int)) = false := decide_eq_false (by omega)
          have hdone : done s.data.toList (.ok a) = .ok a := by rw [done, if_neg (show ¬ a < s.data.toList.length from hlt)]
          have HD := Lib.hid hdone; clear hdone
          have v0 : wc.cell? ⟨b, 0, none⟩ = some (.int .u8 e.kind) := (HM3.out.ev.cell 0).trans rfl
          have v1 : wc.cell? ⟨b, 1, none⟩ = some (.int .i64 e.ax) := (HM3.out.ev.cell 1).trans rfl
          have v2 : wc.cell? ⟨b, 2, none⟩ = some (.int .i64 e.ay) := (HM3.out.ev.cell 2).trans rfl
          have v3 : wc.cell? ⟨b, 3, none⟩ = some (.int .i64 e.sw) := (HM3.out.ev.cell 3).trans rfl
          have v4 : wc.cell? ⟨b, 4, none⟩ = some (.int .i64 e.sh) := (HM3.out.ev.cell 4).trans rfl
          have v5 : wc.cell? ⟨b, 5, none⟩ = some (.string ⟨e.name.toArray⟩) := (HM3.out.ev.cell 5).trans rfl
          have v6 : wc.cell? ⟨b, 6, none⟩ = some (.int .u8 e.mods) := (HM3.out.ev.cell 6).trans rfl
          have v7 : wc.cell? ⟨b, 7, none⟩ = some (.string ⟨e.text.toArray⟩) := (HM3.out.ev.cell 7).trans rfl
          have v8 : wc.cell? ⟨b, 8, none⟩ = some (.int .i64 e.n) := (HM3.out.ev.cell 8).trans rfl
          have r0 : wc.cell? ⟨w.heap.size, 0, none⟩ = some (.int .u8 0) := (HM3.out.res.cell 0).trans rfl
          have f0 := HM3.out.res.free 0
          have r1 : wc.cell? ⟨w.heap.size, 1, none⟩ = some (.int .i64 0) := (HM3.out.res.cell 1).trans rfl
          have f1 := HM3.out.res.free 1
          have r2 : wc.cell? ⟨w.heap.size, 2, none⟩ = some (.int .i64 0) := (HM3.out.res.cell 2).trans rfl
          have f2 := HM3.out.res.free 2
          have r3 : wc.cell? ⟨w.heap.size, 3, none⟩ = some (.int .i64 0) := (HM3.out.res.cell 3).trans rfl
          have f3 := HM3.out.res.free 3
          have r4 : wc.cell? ⟨w.heap.size, 4, none⟩ = some (.int .i64 0) := (HM3.out.res.cell 4).trans rfl
          have f4 := HM3.out.res.free 4
          have r5 : wc.cell? ⟨w.heap.size, 5, none⟩ = some (.string ⟨#[]⟩) := (HM3.out.res.cell 5).trans rfl
          have f5 := HM3.out.res.free 5
          have r6 : wc.cell? ⟨w.heap.size, 6, none⟩ = some (.int .u8 0) := (HM3.out.res.cell 6).trans rfl
          have f6 := HM3.out.res.free 6
          have r7 : wc.cell? ⟨w.heap.size, 7, none⟩ = some (.string ⟨#[]⟩) := (HM3.out.res.cell 7).trans rfl
          have f7 := HM3.out.res.free 7
          have r8 : wc.cell? ⟨w.heap.size, 8, none⟩ = some (.int .i64 0) := (HM3.out.res.cell 8).trans rfl
          have f8 := HM3.out.res.free 8
          by_cases hm0 : m < 0
          · have hm0d : decide (m < 0) = true := decide_eq_true hm0
            go_wp2_with fail
            refine bodyPost_ret (res_parse (w := put9 wc w.heap.size E0) (HM3.out.res.put E0) _ 0 190 rfl rfl rfl) rfl ⟨?_, below_put HM3.out.old _ (Nat.le_refl _) E0⟩
            rw [HP.out, HD.out, finish, if_pos (.inl (.inl hm0))]
          · have hm0d : decide (m < 0) = false := decide_eq_false hm0
            by_cases hm7 : 7 < m
            · have hm7d : decide (7 < m) = true := decide_eq_true hm7
              go_wp2_with fail
              refine bodyPost_ret (res_parse (w := put9 wc w.heap.size E0) (HM3.out.res.put E0) _ 0 190 rfl rfl rfl) rfl ⟨?_, below_put HM3.out.old _ (Nat.le_refl _) E0⟩
              rw [HP.out, HD.out, finish, if_pos (.inl (.inr hm7))]
            · have hm7d : decide (7 < m) = false := decide_eq_false hm7
              go_wp2_with fail
              refine (check_any e.kind e.ax e.ay e.sw e.sh e.n e.mods ⟨e.name.toArray⟩ ⟨e.text.toArray⟩ wc (HM3.out.glob HG.out) (by show e.name.toArray.size ≤ _; rw [List.size_toArray]; have := HNL2.out; omega)).mono ?_
              rintro e' wd ⟨rfl, hbd⟩
              have HM5 := Lib.hid (HM3.out.pass hbd)
              clear hbd v0 v1 v2 v3 v4 v5 v6 v7 v8 r0 r1 r2 r3 r4 r5 r6 r7 r8 f0 f1 f2 f3 f4 f5 f6 f7 f8 hc0 hc1 hc2
              rw [show chkE ⟨e.kind, e.ax, e.ay, e.sw, e.sh, (⟨e.name.toArray⟩ : ByteArray).data.toList, e.mods, (⟨e.text.toArray⟩ : ByteArray).data.toList, e.n⟩ = chkE e from by simp]
              have x0 : wd.cell? ⟨b, 0, none⟩ = some (.int .u8 e.kind) := (HM5.out.ev.cell 0).trans rfl
              have y0 : wd.cell? ⟨w.heap.size, 0, none⟩ = some (.int .u8 0) := (HM5.out.res.cell 0).trans rfl
              have z0 := HM5.out.res.free 0
              have x1 : wd.cell? ⟨b, 1, none⟩ = some (.int .i64 e.ax) := (HM5.out.ev.cell 1).trans rfl
              have y1 : wd.cell? ⟨w.heap.size, 1, none⟩ = some (.int .i64 0) := (HM5.out.res.cell 1).trans rfl
              have z1 := HM5.out.res.free 1
              have x2 : wd.cell? ⟨b, 2, none⟩ = some (.int .i64 e.ay) := (HM5.out.ev.cell 2).trans rfl
              have y2 : wd.cell? ⟨w.heap.size, 2, none⟩ = some (.int .i64 0) := (HM5.out.res.cell 2).trans rfl
              have z2 := HM5.out.res.free 2
              have x3 : wd.cell? ⟨b, 3, none⟩ = some (.int .i64 e.sw) := (HM5.out.ev.cell 3).trans rfl
              have y3 : wd.cell? ⟨w.heap.size, 3, none⟩ = some (.int .i64 0) := (HM5.out.res.cell 3).trans rfl
              have z3 := HM5.out.res.free 3
              have x4 : wd.cell? ⟨b, 4, none⟩ = some (.int .i64 e.sh) := (HM5.out.ev.cell 4).trans rfl
              have y4 : wd.cell? ⟨w.heap.size, 4, none⟩ = some (.int .i64 0) := (HM5.out.res.cell 4).trans rfl
              have z4 := HM5.out.res.free 4
              have x5 : wd.cell? ⟨b, 5, none⟩ = some (.string ⟨e.name.toArray⟩) := (HM5.out.ev.cell 5).trans rfl
              have y5 : wd.cell? ⟨w.heap.size, 5, none⟩ = some (.string ⟨#[]⟩) := (HM5.out.res.cell 5).trans rfl
              have z5 := HM5.out.res.free 5
              have x6 : wd.cell? ⟨b, 6, none⟩ = some (.int .u8 e.mods) := (HM5.out.ev.cell 6).trans rfl
              have y6 : wd.cell? ⟨w.heap.size, 6, none⟩ = some (.int .u8 0) := (HM5.out.res.cell 6).trans rfl
              have z6 := HM5.out.res.free 6
              have x7 : wd.cell? ⟨b, 7, none⟩ = some (.string ⟨e.text.toArray⟩) := (HM5.out.ev.cell 7).trans rfl
              have y7 : wd.cell? ⟨w.heap.size, 7, none⟩ = some (.string ⟨#[]⟩) := (HM5.out.res.cell 7).trans rfl
              have z7 := HM5.out.res.free 7
              have x8 : wd.cell? ⟨b, 8, none⟩ = some (.int .i64 e.n) := (HM5.out.ev.cell 8).trans rfl
              have y8 : wd.cell? ⟨w.heap.size, 8, none⟩ = some (.int .i64 0) := (HM5.out.res.cell 8).trans rfl
              have z8 := HM5.out.res.free 8
              by_cases hch : chk e = true
              · rw [show chkE e = 0 from if_pos hch]
                go_wp2_with fail
                refine bodyPost_ret (res_parse (w := put9 wd w.heap.size e) (HM5.out.res.put e) _ 0 0 rfl rfl rfl) rfl ⟨?_, below_put HM5.out.old _ (Nat.le_refl _) e⟩
                rw [HP.out, HD.out, finish, if_neg (by simp [hch]; omega)]
              · rw [show chkE e = 190 from if_neg hch]
                go_wp2_with fail
                refine bodyPost_ret (res_parse (w := put9 wd w.heap.size E0) (HM5.out.res.put E0) _ 0 190 rfl rfl rfl) rfl ⟨?_, below_put HM5.out.old _ (Nat.le_refl _) E0⟩
                rw [HP.out, HD.out, finish, if_pos (.inr (by simpa using hch))]

/-- event.Parse, whole. -/
theorem parse_any (s : ByteArray) (w : World) (hg : Glob w) :
    Calls Tryd.prog 6 #[.string s] w fun e w' => e = .returned (.tuple #[EV (parse s.data.toList).1, .int .i64 (parse s.data.toList).2.1, .int .i64 (parse s.data.toList).2.2]) ∧ Below w.heap.size w w' := by
  by_cases h : s.size ≤ 65536
  · exact parse_short s w hg h
  · have hp : parse s.data.toList = (E0, 0, 3) := by
      unfold parse
      exact if_pos (show 65536 < s.size by omega)
    rw [hp]
    exact parse_long s w (by omega)
end Go.Proofs.YtgkpbpcebgegbaaDoor
