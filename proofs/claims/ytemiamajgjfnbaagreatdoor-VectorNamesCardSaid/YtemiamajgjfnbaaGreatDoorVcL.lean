/- colour.short, colour.Text. -/
import Derived.Test.YtemiamajgjfnbaaGreatDoorVcK
import Derived.Deep.AppendLies
import Derived.Deep.RegionLaw
import Derived.Deep.RegionHeldLaw
namespace Go.Proofs.YtemiamajgjfnbaaGreatDoor
open Go.RowKit Vc
set_option linter.unusedVariables false
set_option linter.unusedSimpArgs false
/-- append of some bytes that lie in a block of their own. -/
theorem step_append_bytes {ops : Array Oper} {o : Oper} {a : Act} {K : Act → World → Prop} {Q : Exit → Act → World → Prop} {E : Prop} {w : World} (hgd : o.guard = none) (s x : Operand)
    (ho : o.op = .call { callee := .builtin .append, args := #[s, x], argTypes := #[48, 48] })
    (base : Nat) (v : Value) (l ys : List UInt8) (hs : a.eval s = v) (hown : OwnB w base v l) (n : Nat)
    (hx : a.eval x = .slice (some ⟨n, 0, none⟩) ys.length ys.length) (hy : w.heap[n]? = some (.cells (Lib.byteCells ys).toArray 5 (0, 0))) (hpos : 0 < ys.length) (hlen : l.length + ys.length ≤ 140737488355328) (hbase : base ≤ w.heap.size)
    (h : ∀ g cap w', OwnB w' base (.slice (some ⟨g, 0, none⟩) (l.length + ys.length) cap) (l ++ ys) → w.grownBy w' v.ownBlock → K (a.put o.dst (.slice (some ⟨g, 0, none⟩) (l.length + ys.length) cap)) w') :
    if Region.wanted o (yielded ops a.tmps) = true then Oper.wp Tryz.prog o a w K Q else E := by
  obtain ⟨i0, hi, hz0, hz1, hz2⟩ := info_parts byte_info
  refine step_append_lies _ hgd s x 48 ho base 5 i0 (.int .u8 0) 1 1 Tryz.underlying48 hi hz0 hz1 hz2 rfl (by decide) v l.length (Lib.byteCells l) hs hown
    ⟨n, 0, none⟩ ys.length ys.length (Lib.byteCells ys) hx (by simp [Lib.byteCells]) ?_ (by intro u hu; simp [Lib.byteCells] at hu; obtain ⟨b, _, rfl⟩ := hu; rfl) hpos (by unfold maxLen; omega) (by omega) hbase w.heap.size rfl ?_
  · exact fun j u hj => World.news_of_block hy j u (by simpa using hj)
  · intro g cap w' h1 h2 _ _
    refine h _ _ w' ?_ h2
    unfold OwnB
    rw [List.length_append]
    simpa [Lib.byteCells] using h1


theorem step_append_two {ops : Array Oper} {o : Oper} {a : Act} {K : Act → World → Prop} {Q : Exit → Act → World → Prop} {E : Prop} {w : World} (hgd : o.guard = none) (s x : Operand)
    (ho : o.op = .call { callee := .builtin .append, args := #[s, x], argTypes := #[48, 48] })
    (base : Nat) (m c : Nat) (cp : Nat) (l : List UInt8) (b1 b2 : UInt8) (hs : a.eval s = .slice (some ⟨m, 0, none⟩) c cp) (hown : OwnB w base (.slice (some ⟨m, 0, none⟩) c cp) l) (n : Nat)
    (hx : a.eval x = .slice (some ⟨n, 0, none⟩) 2 2) (hy : w.heap[n]? = some (.cells #[.int .u8 (b1.toNat : Int), .int .u8 (b2.toNat : Int)] 5 (0, 0))) (hlen : l.length + 2 ≤ 140737488355328) (hbase : base ≤ w.heap.size)
    (h : ∀ g cap w', OwnB w' base (.slice (some ⟨g, 0, none⟩) (l.length + 2) cap) (l ++ [b1, b2]) → w.grownBy w' (some m) → (g = m ∨ g = w.heap.size) → K (a.put o.dst (.slice (some ⟨g, 0, none⟩) (l.length + 2) cap)) w') :
    if Region.wanted o (yielded ops a.tmps) = true then Oper.wp Tryz.prog o a w K Q else E := by
  obtain ⟨i0, hi, hz0, hz1, hz2⟩ := info_parts byte_info
  refine step_append_lies _ hgd s x 48 ho base 5 i0 (.int .u8 0) 1 1 Tryz.underlying48 hi hz0 hz1 hz2 rfl (by decide) _ l.length (Lib.byteCells l) hs hown
    ⟨n, 0, none⟩ 2 2 (Lib.byteCells [b1, b2]) hx (by simp [Lib.byteCells]) ?_ (by intro u hu; simp [Lib.byteCells] at hu; rcases hu with rfl | rfl <;> rfl) (by decide) (by unfold maxLen; omega) (by omega) hbase w.heap.size rfl ?_
  · exact fun j u hj => World.news_of_block hy j u (by simpa [Lib.byteCells] using hj)
  · intro g cap w' h1 h2 h3 _
    refine h _ _ w' ?_ h2 ?_
    · unfold OwnB
      rw [List.length_append]
      simpa [Lib.byteCells] using h1
    · rcases h3 with h3 | h3
      · left; exact (Option.some.inj h3).symm
      · right; exact h3
theorem cell_lt {w : World} {i o : Nat} {v : Value} (h : w.cell? ⟨i, o, none⟩ = some v) : i < w.heap.size := by
  unfold World.cell? at h
  rcases Nat.lt_or_ge i w.heap.size with h1 | h1
  · exact h1
  · rw [Array.getElem?_eq_none h1] at h; simp at h
/-- A cell behind a draw, an alloc and an append elsewhere. -/
theorem cell_after {w w6 : World} {m i o : Nat} {v : Value} {ob : Obj} (h : w.cell? ⟨i, o, none⟩ = some v) (hgr : (w.drew.alloc ob).grownBy w6 (some m)) (hne : i ≠ m) : w6.cell? ⟨i, o, none⟩ = some v := by
  have hlt := cell_lt h
  have e1 : w6.heap[i]? = (w.drew.alloc ob).heap[i]? := hgr.block i (by show i < (w.alloc ob).heap.size; simp; omega) (by intro h; exact hne (Option.some.inj h))
  have e2 : (w.drew.alloc ob).heap[i]? = w.heap[i]? := Below.heap_alloc w.drew _ _ hlt
  unfold World.cell? at h ⊢
  simp only at h ⊢
  rw [e1, e2]; exact h

theorem below_three {w wr w6 : World} {ob : Obj} (h : Below w.heap.size w wr) (hgr : (wr.drew.alloc ob).grownBy w6 (some (w.heap.size + 1))) : Below w.heap.size w w6 :=
  (h.drew.alloc h.size ob).grown hgr (Nat.le_trans h.size (by show wr.heap.size ≤ (wr.alloc ob).heap.size; simp)) fun i hi => by cases hi; omega
structure C where
  r : UInt8
  g : UInt8
  b : UInt8
  a : UInt8
  deriving DecidableEq
def shortB (b : UInt8) : Bool := b.toNat % 17 == 0
def hex2 (b : UInt8) : Bytes := [Ev.nib (b.toNat / 16), Ev.nib (b.toNat % 16)]
def chans (c : C) : Bytes := if c.a = 255 then [c.r, c.g, c.b] else [c.r, c.g, c.b, c.a]
/-- A colour's text. -/
def colB (c : C) : Bytes :=
  if c.a = 255 ∧ (shortB c.r = true ∧ shortB c.g = true ∧ shortB c.b = true) then [35, Ev.nib (c.r.toNat / 17), Ev.nib (c.g.toNat / 17), Ev.nib (c.b.toNat / 17)]
  else 35 :: (chans c).flatMap hex2
def CV (c : C) : Value := .agg #[.int .u8 (c.r.toNat : Int), .int .u8 (c.g.toNat : Int), .int .u8 (c.b.toNat : Int), .int .u8 (c.a.toNat : Int)]
def digS : ByteArray := ⟨#[48, 49, 50, 51, 52, 53, 54, 55, 56, 57, 97, 98, 99, 100, 101, 102, 65, 66, 67, 68, 69, 70]⟩
theorem dig_at (n : Nat) (h : n < 16) : ((⟨#[48, 49, 50, 51, 52, 53, 54, 55, 56, 57, 97, 98, 99, 100, 101, 102, 65, 66, 67, 68, 69, 70]⟩ : ByteArray)[n]'(Nat.lt_trans h (by decide))) = Ev.nib n := by
  have : ∀ n : Fin 16, ((⟨#[48, 49, 50, 51, 52, 53, 54, 55, 56, 57, 97, 98, 99, 100, 101, 102, 65, 66, 67, 68, 69, 70]⟩ : ByteArray)[n.val]'(Nat.lt_trans n.isLt (by decide))) = Ev.nib n.val := by decide
  exact this ⟨n, h⟩
theorem short_any (b : UInt8) (w : World) :
    Calls Tryz.prog 49 #[.int .u8 (b.toNat : Int)] w fun e w' => e = .returned (.bool (shortB b)) ∧ w = w' := by
  have m1 : (b.toNat : Int).tmod 17 = (b.toNat : Int) % 17 := Int.tmod_eq_emod_of_nonneg (by omega)
  have h : ((b.toNat : Int) % 17 == 0) = shortB b := by
    unfold shortB
    rw [Bool.eq_iff_iff]; simp; omega
  go_enter Tryz.func49, Tryz.ntmps49
  go_wp2
  go_ret
  exact ⟨by first | rfl | (rw [← h]; rfl) | simp [← h], rfl⟩
theorem own_one (w : World) (B : Nat) (hB : B ≤ w.heap.size) (c : UInt8) : OwnB (w.alloc (.cells #[.int .u8 (c.toNat : Int)] 5)) B (.slice (some ⟨w.heap.size, 0, none⟩) 1 1) [c] :=
  ⟨rfl, .inr ⟨w.heap.size, 1, #[.int .u8 (c.toNat : Int)], rfl, hB, heap_alloc_new _ _, Nat.le_refl _, by unfold maxLen; omega, rfl, rfl⟩⟩

theorem wrap17 (x : UInt8) : IntKind.u8.wrap ((x.toNat : Int) / 17) = ((x.toNat / 17 : Nat) : Int) := by
  have := x.toNat_lt
  rw [IntWalk.u8_in _ (by omega)]
  omega
/-- Three bytes appended to one, and the string of them. -/
theorem step_three {ops : Array Oper} {o : Oper} {a : Act} {K : Act → World → Prop} {Q : Exit → Act → World → Prop} {E : Prop} {w : World} (hgd : o.guard = none) (s x : Operand)
    (ho : o.op = .call { callee := .builtin .append, args := #[s, x], argTypes := #[48, 48] })
    (base m : Nat) (b0 b1 b2 b3 : UInt8) (hs : a.eval s = .slice (some ⟨m, 0, none⟩) 1 1) (hown : OwnB w base (.slice (some ⟨m, 0, none⟩) 1 1) [b0]) (n : Nat)
    (hx : a.eval x = .slice (some ⟨n, 0, none⟩) 3 3) (hy : w.heap[n]? = some (.cells #[.int .u8 (b1.toNat : Int), .int .u8 (b2.toNat : Int), .int .u8 (b3.toNat : Int)] 5 (0, 0))) (hbase : base ≤ w.heap.size)
    (h : ∀ g cap w' S, S = bt [b0, b1, b2, b3] → (convert 48 9 (.slice (some ⟨g, 0, none⟩) 4 cap)).run Tryz.prog w' = .ok (.string S) w' → w.grownBy w' (some m) → K (a.put o.dst (.slice (some ⟨g, 0, none⟩) 4 cap)) w') :
    if Region.wanted o (yielded ops a.tmps) = true then Oper.wp Tryz.prog o a w K Q else E :=
  step_append_bytes hgd s x ho base _ [b0] [b1, b2, b3] hs hown n hx hy (by simp) (by simp) hbase fun g cap w' h1 h2 =>
    h g cap w' _ rfl (own_string Tryz.underlying48 Tryz.underlying9 h1) h2
set_option maxHeartbeats 400000 in
set_option maxRecDepth 100000 in
theorem coltext_short (c : C) (w : World) (h : c.a = 255 ∧ (shortB c.r = true ∧ shortB c.g = true ∧ shortB c.b = true)) :
    Calls Tryz.prog 33 #[CV c] w fun e w' => e = .returned (.string (bt (colB c))) ∧ Below w.heap.size w w' := by
  have hcol : colB c = [35, Ev.nib (c.r.toNat / 17), Ev.nib (c.g.toNat / 17), Ev.nib (c.b.toNat / 17)] := by unfold colB; rw [if_pos h]
  obtain ⟨ha, hr, hgr, hbl⟩ := h
  have HCOL := Lib.hid hcol; clear hcol
  have ka : ((c.a.toNat : Int) == 255) = true := by rw [ha]; rfl
  have HA := Lib.hid ha; clear ha
  have r1 := c.r.toNat_lt
  have r2 := c.g.toNat_lt
  have r3 := c.b.toNat_lt
  unfold CV
  go_enter Tryz.func33, Tryz.ntmps33
  go_upto_region 3 with (go_at_call 49; refine (short_any _ _).mono ?_; rintro e w' ⟨rfl, rfl⟩)
  have hz := alloc_size w (.cells #[.int .u8 (c.r.toNat : Int), .int .u8 (c.g.toNat : Int), .int .u8 (c.b.toNat : Int), .int .u8 (c.a.toNat : Int)] 29)
  have hO := own_one (w.alloc (.cells #[.int .u8 (c.r.toNat : Int), .int .u8 (c.g.toNat : Int), .int .u8 (c.b.toNat : Int), .int .u8 (c.a.toNat : Int)] 29)) w.heap.size (by simp) 35
  have hb := alloc_at1 w (.cells #[.int .u8 (c.r.toNat : Int), .int .u8 (c.g.toNat : Int), .int .u8 (c.b.toNat : Int), .int .u8 (c.a.toNat : Int)] 29) (.cells #[.int .u8 35] 5)
  have hW : Below w.heap.size w ((w.alloc (.cells #[.int .u8 (c.r.toNat : Int), .int .u8 (c.g.toNat : Int), .int .u8 (c.b.toNat : Int), .int .u8 (c.a.toNat : Int)] 29)).alloc (.cells #[.int .u8 35] 5)) := ((Below.refl _ _).alloc (Nat.le_refl _) _).alloc (by simp) _
  rw [hz] at hO
  have e35 : (Value.int .u8 ((35 : UInt8).toNat : Int)) = .int .u8 35 := rfl
  rw [e35] at hO
  clear hz e35
  generalize (w.alloc (.cells #[.int .u8 (c.r.toNat : Int), .int .u8 (c.g.toNat : Int), .int .u8 (c.b.toNat : Int), .int .u8 (c.a.toNat : Int)] 29)).alloc (.cells #[.int .u8 35] 5) = wr at hO hb hW ⊢
  have c0 : wr.cell? ⟨w.heap.size, 0, none⟩ = some (.int .u8 (c.r.toNat : Int)) := by simp [World.cell?, hb]
  have c1 : wr.cell? ⟨w.heap.size, 1, none⟩ = some (.int .u8 (c.g.toNat : Int)) := by simp [World.cell?, hb]
  have c2 : wr.cell? ⟨w.heap.size, 2, none⟩ = some (.int .u8 (c.b.toNat : Int)) := by simp [World.cell?, hb]
  have HO := Lib.hid (hO.same (w' := wr.drew) rfl); have HW := Lib.hid hW
  clear hO hW hb
  obtain ⟨d1, hd1⟩ : ∃ d : Nat, d = c.r.toNat / 17 := ⟨_, rfl⟩
  obtain ⟨d2, hd2⟩ : ∃ d : Nat, d = c.g.toNat / 17 := ⟨_, rfl⟩
  obtain ⟨d3, hd3⟩ : ∃ d : Nat, d = c.b.toNat / 17 := ⟨_, rfl⟩
  have u1 : IntKind.u8.wrap ((c.r.toNat : Int) / 17) = (d1 : Int) := by rw [hd1]; exact wrap17 _
  have u2 : IntKind.u8.wrap ((c.g.toNat : Int) / 17) = (d2 : Int) := by rw [hd2]; exact wrap17 _
  have u3 : IntKind.u8.wrap ((c.b.toNat : Int) / 17) = (d3 : Int) := by rw [hd3]; exact wrap17 _
  have n1 : d1 < 16 := by omega
  have n2 : d2 < 16 := by omega
  have n3 : d3 < 16 := by omega
  have l1 : (d1 : Int) < 22 := by omega
  have l2 : (d2 : Int) < 22 := by omega
  have l3 : (d3 : Int) < 22 := by omega
  have l1' : d1 < 22 := by omega
  have l2' : d2 < 22 := by omega
  have l3' : d3 < 22 := by omega
  rw [← hd1, ← hd2, ← hd3] at HCOL
  have HD := Lib.hid (And.intro hd1 (And.intro hd2 hd3)); clear hd1 hd2 hd3
  go_region_held_law (fun w' => w'.cell? ⟨w.heap.size, 0, none⟩ = some (.int .u8 (c.r.toNat : Int)) ∧ w'.cell? ⟨w.heap.size, 1, none⟩ = some (.int .u8 (c.g.toNat : Int)) ∧ w'.cell? ⟨w.heap.size, 2, none⟩ = some (.int .u8 (c.b.toNat : Int))) (first | go_keep | exact ⟨k0, k1, k2⟩) (first | (refine step_three rfl (.tmp 26) (.tmp 39) (by rfl) w.heap.size (w.heap.size + 1) 35 _ _ _ (by rfl) (World.ownsRow.alloc HO.out _) wr.heap.size (by rfl) (heap_alloc_new _ _) (by simp; have := HW.out.size; omega) ?_; intro g6 cap6 w6 S hS hconv hgr; have HS := Lib.hid hS; have HB6 := Lib.hid (below_three HW.out hgr); have k0 := cell_after c0 hgr (by omega); have k1 := cell_after c1 hgr (by omega); have k2 := cell_after c2 hgr (by omega); clear hS hgr) | fail)
  all_goals (
    go_wp2_with fail
    have hSS : S = bt (colB c) := by rw [HS.out, HCOL.out, dig_at d1 n1, dig_at d2 n2, dig_at d3 n3]
    rw [← hSS]
    go_ret
    exact ⟨rfl, HB6.out⟩)

theorem chans_len (c : C) : (chans c).length = if c.a = 255 then 3 else 4 := by unfold chans; split <;> rfl
/-- The block of the channels. -/
def ChanAt (w : World) (g : Nat) (c : C) : Prop := w.heap[g]? = some (.cells #[.int .u8 (c.r.toNat : Int), .int .u8 (c.g.toNat : Int), .int .u8 (c.b.toNat : Int), .int .u8 (c.a.toNat : Int)] 5 (0, 0))
theorem chan_cell {w : World} {g : Nat} {c : C} (h : ChanAt w g c) (k : Nat) (hk : k < (chans c).length) : w.cell? ⟨g, k, none⟩ = some (.int .u8 ((chans c)[k].toNat : Int)) := by
  unfold ChanAt at h
  have hk4 : k < 4 := by rw [chans_len] at hk; split at hk <;> omega
  have hv : (#[Value.int .u8 (c.r.toNat : Int), .int .u8 (c.g.toNat : Int), .int .u8 (c.b.toNat : Int), .int .u8 (c.a.toNat : Int)] : Array Value)[k]? = some (.int .u8 ((chans c)[k].toNat : Int)) := by
    unfold chans at hk ⊢
    split at hk
    · rename_i ha
      match k, hk with
      | 0, _ => simp [ha]
      | 1, _ => simp [ha]
      | 2, _ => simp [ha]
    · rename_i ha
      match k, hk with
      | 0, _ => simp [ha]
      | 1, _ => simp [ha]
      | 2, _ => simp [ha]
      | 3, _ => simp [ha]
  simp [World.cell?, h, hv]
theorem chan_lt {w : World} {g : Nat} {c : C} (h : ChanAt w g c) : g < w.heap.size := (Array.getElem?_eq_some_iff.1 h).1
theorem chan_after {wr w6 : World} {g gc : Nat} {c : C} {ob : Obj} (h : ChanAt wr gc c) (hgr : (wr.drew.alloc ob).grownBy w6 (some g)) (hne : g ≠ gc) : ChanAt w6 gc c := by
  have hlt := chan_lt h
  have e1 : w6.heap[gc]? = (wr.drew.alloc ob).heap[gc]? := hgr.block gc (by show gc < (wr.alloc ob).heap.size; simp; omega) (by intro h; exact hne (Option.some.inj h).symm)
  have e2 : (wr.drew.alloc ob).heap[gc]? = wr.heap[gc]? := Below.heap_alloc wr.drew _ _ hlt
  unfold ChanAt; rw [e1, e2]; exact h
theorem chan_ne {wr : World} {g g6 gc : Nat} {c : C} {ob : Obj} (h : ChanAt wr gc c) (hat : g6 = g ∨ g6 = (wr.drew.alloc ob).heap.size) (hne : g ≠ gc) : g6 ≠ gc := by
  have hlt := chan_lt h
  rcases hat with rfl | rfl
  · exact hne
  · have : (wr.drew.alloc ob).heap.size = wr.heap.size + 1 := by show (wr.alloc ob).heap.size = _; simp
    omega
theorem below_loop {B : Nat} {w wr w6 : World} {ob : Obj} {g m cap : Nat} {L : List UInt8} (h : Below B w wr) (hB : B ≤ wr.heap.size) (hown : OwnB wr B (.slice (some ⟨g, 0, none⟩) m cap) L) (hgr : (wr.drew.alloc ob).grownBy w6 (some g)) : Below B w w6 :=
  (h.drew.alloc hB ob).grown hgr (Nat.le_trans hB (by show wr.heap.size ≤ (wr.alloc ob).heap.size; simp)) fun i hi => (World.ownsRow.lt hown i hi).1
theorem hex2_snoc (l : Bytes) (k : Nat) (h : k < l.length) : (35 :: (l.take (k + 1)).flatMap hex2) = (35 :: (l.take k).flatMap hex2) ++ [Ev.nib (l[k].toNat / 16), Ev.nib (l[k].toNat % 16)] := by
  rw [List.take_succ_eq_append_getElem h, List.flatMap_append]; simp [hex2]
theorem hex2_len : ∀ l : Bytes, (l.flatMap hex2).length = 2 * l.length
  | [] => rfl
  | b :: l => by rw [List.flatMap_cons, List.length_append, hex2_len l]; simp [hex2]; omega
set_option maxHeartbeats 4000000 in
set_option maxRecDepth 100000 in
theorem coltext_long (c : C) (w : World) (h : ¬ (c.a = 255 ∧ (shortB c.r = true ∧ shortB c.g = true ∧ shortB c.b = true))) :
    Calls Tryz.prog 33 #[CV c] w fun e w' => e = .returned (.string (bt (colB c))) ∧ Below w.heap.size w w' := by
  have hcol : colB c = 35 :: (chans c).flatMap hex2 := by unfold colB; rw [if_neg h]
  have HCOL := Lib.hid hcol; clear hcol
  have hcut : ((c.a.toNat : Int) == 255 && shortB c.r && shortB c.g && shortB c.b) = false := by
    rw [Bool.eq_false_iff]; intro hh
    simp only [Bool.and_eq_true, beq_iff_eq] at hh
    exact h ⟨UInt8.toNat_inj.1 (by have := hh.1.1.1; show c.a.toNat = 255; omega), hh.1.1.2, hh.1.2, hh.2⟩
  clear h
  unfold CV
  cases ka : ((c.a.toNat : Int) == 255) with
  | true =>
    have hn : (chans c).length = 3 := by
      rw [chans_len, if_pos]; exact UInt8.toNat_inj.1 (by have := eq_of_beq ka; show c.a.toNat = 255; omega)
    rw [ka, Bool.true_and] at hcut
    have tri : shortB c.r = false ∨ (shortB c.r = true ∧ shortB c.g = false) ∨ (shortB c.r = true ∧ shortB c.g = true ∧ shortB c.b = false) := by
      revert hcut
      cases shortB c.r <;> cases shortB c.g <;> cases shortB c.b <;> simp
    rcases tri with e1 | ⟨e1, e2⟩ | ⟨e1, e2, e3⟩
    all_goals (
      go_enter Tryz.func33, Tryz.ntmps33
      go_upto_region 10 with (go_at_call 49; refine (short_any _ _).mono ?_; rintro e w' ⟨rfl, rfl⟩)
      obtain ⟨w0, hw0⟩ : ∃ w0, w0 = ((w.alloc (.cells #[.int .u8 (c.r.toNat : Int), .int .u8 (c.g.toNat : Int), .int .u8 (c.b.toNat : Int), .int .u8 (c.a.toNat : Int)] 29)).alloc (.cells #[.int .u8 35] 5)).alloc (.cells #[.int .u8 (c.r.toNat : Int), .int .u8 (c.g.toNat : Int), .int .u8 (c.b.toNat : Int), .int .u8 (c.a.toNat : Int)] 5) := ⟨_, rfl⟩
      have hO : OwnB w0 w.heap.size (.slice (some ⟨w.heap.size + 1, 0, none⟩) 1 1) [35] := by
        have h1 := own_one (w.alloc (.cells #[.int .u8 (c.r.toNat : Int), .int .u8 (c.g.toNat : Int), .int .u8 (c.b.toNat : Int), .int .u8 (c.a.toNat : Int)] 29)) w.heap.size (by simp) 35
        rw [alloc_size] at h1
        rw [hw0]; exact World.ownsRow.alloc h1 _
      have hC : ChanAt w0 (w.heap.size + 1 + 1) c := by
        rw [hw0]; unfold ChanAt; rw [← alloc_size w (.cells #[.int .u8 (c.r.toNat : Int), .int .u8 (c.g.toNat : Int), .int .u8 (c.b.toNat : Int), .int .u8 (c.a.toNat : Int)] 29), ← alloc_size _ (.cells #[.int .u8 35] 5)]
        exact heap_alloc_new _ _
      have hW : Below w.heap.size w w0 := by rw [hw0]; exact (((Below.refl _ _).alloc (Nat.le_refl _) _).alloc (by simp) _).alloc (by simp; omega) _
      rw [← hw0]
      have HO := Lib.hid hO; have HC := Lib.hid hC; have HW := Lib.hid hW; have HW0 := Lib.hid hw0; have HN := Lib.hid hn
      clear hO hC hW hw0 hn ka hcut
      go_loopw [3, 58] (fun v i wr => ∃ (k g m cap : Nat), i = .int .i64 k ∧ v = .slice (some ⟨g, 0, none⟩) m cap ∧ k ≤ 3 ∧ g ≠ w.heap.size + 1 + 1 ∧ Hid (OwnB wr w.heap.size (.slice (some ⟨g, 0, none⟩) m cap) (35 :: ((chans c).take k).flatMap hex2)) ∧ Hid (Below w.heap.size w wr) ∧ Hid (ChanAt wr (w.heap.size + 1 + 1) c)) (fun _ i _ => 3 - (intOf i).toNat)
      case atStart => exact ⟨0, w.heap.size + 1, 1, 1, rfl, rfl, by omega, by omega, HO, HW, HC⟩
      case round =>
        clear HO HW HC
        obtain ⟨k, g, m, cap, rfl, rfl, hk, hgne, HO, HW, HC⟩ := hrel
        have HGN := Lib.hid hgne; clear hgne
        by_cases hlt : k < 3
        · have hkl : k < (chans c).length := by rw [HN.out]; exact hlt
          have hc := chan_cell HC.out k hkl
          have hsn := hex2_snoc (chans c) k hkl
          generalize (chans c)[k] = x at hc hsn
          have HSN := Lib.hid hsn; clear hsn
          have hLl : (35 :: ((chans c).take k).flatMap hex2 : Bytes).length ≤ 20 := by
            have h1 := hex2_len ((chans c).take k)
            have h2 : ((chans c).take k).length ≤ 4 := by simp; omega
            simp only [List.length_cons]; omega
          generalize (35 :: ((chans c).take k).flatMap hex2 : Bytes) = L at HO HSN hLl
          have hx := x.toNat_lt
          have hn1 := nib_hi x
          have hn2 : x.toNat % 16 < 16 := Nat.mod_lt _ (by decide)
          have hm1 : x.toNat / 16 < 22 := by omega
          have hm2 : x.toNat % 16 < 22 := by omega
          have p0 : (0 : Int) ≤ (x.toNat : Int) / 16 := by omega
          have p1 : (x.toNat : Int) / 16 < 22 := by omega
          have p2 : (0 : Int) ≤ (x.toNat : Int) % 16 := by omega
          have p3 : (x.toNat : Int) % 16 < 22 := by omega
          have q1 : IntKind.u8.wrap ((x.toNat : Int) / 16) = (x.toNat : Int) / 16 := IntWalk.u8_in _ (by omega)
          have q2 : bits .and .u8 (x.toNat : Int) 15 = (x.toNat : Int) % 16 := and15 x
          have q3 : IntKind.u8.wrap ((x.toNat : Int) % 16) = (x.toNat : Int) % 16 := IntWalk.u8_in _ (by omega)
          have r1 : ((x.toNat : Int) / 16).toNat = x.toNat / 16 := by omega
          have r2 : ((x.toNat : Int) % 16).toNat = x.toNat % 16 := by omega
          have i0 : (0 : Int) ≤ (k : Int) := by omega
          have i1 : (k : Int) < 3 := by omega
          go_upto_region 10 with fail
          have HOd := Lib.hid (HO.out.same (w' := wr.drew) rfl)
          go_region_law (first | (refine step_append_two rfl (.tmp 62) (.tmp 69) (by rfl) w.heap.size g m cap L _ _ (by rfl) (World.ownsRow.alloc HOd.out _) wr.heap.size (by rfl) (heap_alloc_new _ _) (by omega) (by simp; have := HW.out.size; omega) ?_; intro g6 cap6 w6 hown hgr hat; have HO6 := Lib.hid hown; have HG6 := Lib.hid hgr; have HA6 := Lib.hid hat; clear hown hgr hat) | fail)
          all_goals (
            go_wp2_with fail
            go_roundw
            case rel =>
              go_light
              refine ⟨k + 1, g6, L.length + 2, cap6, by go_num, rfl, by omega, chan_ne HC.out HA6.out HGN.out, Lib.hid ?_, Lib.hid (below_loop HW.out HW.out.size HO.out HG6.out), Lib.hid (chan_after HC.out HG6.out HGN.out)⟩
              rw [HSN.out, ← dig_at _ hn1, ← dig_at _ hn2]; exact HO6.out
            case measure => go_light; simp [intOf]; omega)
        · obtain rfl : k = 3 := by omega
          have hall : (35 :: ((chans c).take 3).flatMap hex2 : Bytes) = colB c := by rw [HCOL.out, List.take_of_length_le (by rw [HN.out]; exact Nat.le_refl _)]
          rw [hall] at HO
          have hconv := own_string (w := wr) Tryz.underlying48 Tryz.underlying9 HO.out
          go_wp2_with fail
          go_ret
          exact ⟨rfl, HW.out⟩)
  | false =>
    have hn : (chans c).length = 4 := by
      rw [chans_len, if_neg]; intro e; rw [e] at ka; exact absurd ka (by decide)
    go_enter Tryz.func33, Tryz.ntmps33
    go_upto_region 10 with (go_at_call 49; refine (short_any _ _).mono ?_; rintro e w' ⟨rfl, rfl⟩)
    obtain ⟨w0, hw0⟩ : ∃ w0, w0 = ((w.alloc (.cells #[.int .u8 (c.r.toNat : Int), .int .u8 (c.g.toNat : Int), .int .u8 (c.b.toNat : Int), .int .u8 (c.a.toNat : Int)] 29)).alloc (.cells #[.int .u8 35] 5)).alloc (.cells #[.int .u8 (c.r.toNat : Int), .int .u8 (c.g.toNat : Int), .int .u8 (c.b.toNat : Int), .int .u8 (c.a.toNat : Int)] 5) := ⟨_, rfl⟩
    have hO : OwnB w0 w.heap.size (.slice (some ⟨w.heap.size + 1, 0, none⟩) 1 1) [35] := by
      have h1 := own_one (w.alloc (.cells #[.int .u8 (c.r.toNat : Int), .int .u8 (c.g.toNat : Int), .int .u8 (c.b.toNat : Int), .int .u8 (c.a.toNat : Int)] 29)) w.heap.size (by simp) 35
      rw [alloc_size] at h1
      rw [hw0]; exact World.ownsRow.alloc h1 _
    have hC : ChanAt w0 (w.heap.size + 1 + 1) c := by
      rw [hw0]; unfold ChanAt; rw [← alloc_size w (.cells #[.int .u8 (c.r.toNat : Int), .int .u8 (c.g.toNat : Int), .int .u8 (c.b.toNat : Int), .int .u8 (c.a.toNat : Int)] 29), ← alloc_size _ (.cells #[.int .u8 35] 5)]
      exact heap_alloc_new _ _
    have hW : Below w.heap.size w w0 := by rw [hw0]; exact (((Below.refl _ _).alloc (Nat.le_refl _) _).alloc (by simp) _).alloc (by simp; omega) _
    rw [← hw0]
    have HO := Lib.hid hO; have HC := Lib.hid hC; have HW := Lib.hid hW; have HW0 := Lib.hid hw0; have HN := Lib.hid hn
    clear hO hC hW hw0 hn ka hcut
    go_loopw [3, 58] (fun v i wr => ∃ (k g m cap : Nat), i = .int .i64 k ∧ v = .slice (some ⟨g, 0, none⟩) m cap ∧ k ≤ 4 ∧ g ≠ w.heap.size + 1 + 1 ∧ Hid (OwnB wr w.heap.size (.slice (some ⟨g, 0, none⟩) m cap) (35 :: ((chans c).take k).flatMap hex2)) ∧ Hid (Below w.heap.size w wr) ∧ Hid (ChanAt wr (w.heap.size + 1 + 1) c)) (fun _ i _ => 4 - (intOf i).toNat)
    case atStart => exact ⟨0, w.heap.size + 1, 1, 1, rfl, rfl, by omega, by omega, HO, HW, HC⟩
    case round =>
      clear HO HW HC
      obtain ⟨k, g, m, cap, rfl, rfl, hk, hgne, HO, HW, HC⟩ := hrel
      have HGN := Lib.hid hgne; clear hgne
      by_cases hlt : k < 4
      · have hkl : k < (chans c).length := by rw [HN.out]; exact hlt
        have hc := chan_cell HC.out k hkl
        have hsn := hex2_snoc (chans c) k hkl
        generalize (chans c)[k] = x at hc hsn
        have HSN := Lib.hid hsn; clear hsn
        have hLl : (35 :: ((chans c).take k).flatMap hex2 : Bytes).length ≤ 20 := by
          have h1 := hex2_len ((chans c).take k)
          have h2 : ((chans c).take k).length ≤ 4 := by simp; omega
          simp only [List.length_cons]; omega
        generalize (35 :: ((chans c).take k).flatMap hex2 : Bytes) = L at HO HSN hLl
        have hx := x.toNat_lt
        have hn1 := nib_hi x
        have hn2 : x.toNat % 16 < 16 := Nat.mod_lt _ (by decide)
        have hm1 : x.toNat / 16 < 22 := by omega
        have hm2 : x.toNat % 16 < 22 := by omega
        have p0 : (0 : Int) ≤ (x.toNat : Int) / 16 := by omega
        have p1 : (x.toNat : Int) / 16 < 22 := by omega
        have p2 : (0 : Int) ≤ (x.toNat : Int) % 16 := by omega
        have p3 : (x.toNat : Int) % 16 < 22 := by omega
        have q1 : IntKind.u8.wrap ((x.toNat : Int) / 16) = (x.toNat : Int) / 16 := IntWalk.u8_in _ (by omega)
        have q2 : bits .and .u8 (x.toNat : Int) 15 = (x.toNat : Int) % 16 := and15 x
        have q3 : IntKind.u8.wrap ((x.toNat : Int) % 16) = (x.toNat : Int) % 16 := IntWalk.u8_in _ (by omega)
        have r1 : ((x.toNat : Int) / 16).toNat = x.toNat / 16 := by omega
        have r2 : ((x.toNat : Int) % 16).toNat = x.toNat % 16 := by omega
        have i0 : (0 : Int) ≤ (k : Int) := by omega
        have i1 : (k : Int) < 4 := by omega
        go_upto_region 10 with fail
        have HOd := Lib.hid (HO.out.same (w' := wr.drew) rfl)
        go_region_law (first | (refine step_append_two rfl (.tmp 62) (.tmp 69) (by rfl) w.heap.size g m cap L _ _ (by rfl) (World.ownsRow.alloc HOd.out _) wr.heap.size (by rfl) (heap_alloc_new _ _) (by omega) (by simp; have := HW.out.size; omega) ?_; intro g6 cap6 w6 hown hgr hat; have HO6 := Lib.hid hown; have HG6 := Lib.hid hgr; have HA6 := Lib.hid hat; clear hown hgr hat) | fail)
        all_goals (
          go_wp2_with fail
          go_roundw
          case rel =>
            go_light
            refine ⟨k + 1, g6, L.length + 2, cap6, by go_num, rfl, by omega, chan_ne HC.out HA6.out HGN.out, Lib.hid ?_, Lib.hid (below_loop HW.out HW.out.size HO.out HG6.out), Lib.hid (chan_after HC.out HG6.out HGN.out)⟩
            rw [HSN.out, ← dig_at _ hn1, ← dig_at _ hn2]; exact HO6.out
          case measure => go_light; simp [intOf]; omega)
      · obtain rfl : k = 4 := by omega
        have hall : (35 :: ((chans c).take 4).flatMap hex2 : Bytes) = colB c := by rw [HCOL.out, List.take_of_length_le (by rw [HN.out]; exact Nat.le_refl _)]
        rw [hall] at HO
        have hconv := own_string (w := wr) Tryz.underlying48 Tryz.underlying9 HO.out
        go_wp2_with fail
        go_ret
        exact ⟨rfl, HW.out⟩
theorem coltext_any (c : C) (w : World) :
    Calls Tryz.prog 33 #[CV c] w fun e w' => e = .returned (.string (bt (colB c))) ∧ Below w.heap.size w w' := by
  by_cases h : c.a = 255 ∧ (shortB c.r = true ∧ shortB c.g = true ∧ shortB c.b = true)
  · exact coltext_short c w h
  · exact coltext_long c w h
end Go.Proofs.YtemiamajgjfnbaaGreatDoor
