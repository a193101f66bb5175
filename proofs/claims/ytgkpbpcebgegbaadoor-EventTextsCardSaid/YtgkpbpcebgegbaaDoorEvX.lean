/- A list of texts that a closure gathers in a variable; event.Text$1. -/
import Derived.Test.YtgkpbpcebgegbaaDoorEvE
import Derived.Deep.RegionHeld3
import Derived.Deep.RegionLaw
import Derived.Deep.AppendLies
namespace Go.Proofs.YtgkpbpcebgegbaaDoor
open Go.RowKit Ev
set_option linter.unusedVariables false
set_option linter.unusedSimpArgs false

/-- A row of texts of the call's own. -/
def OwnS (w : World) (base : Nat) (v : Value) (l : List ByteArray) : Prop := w.ownsRow base 9 1 v l.length (l.map Value.string)
theorem OwnS.same {w w' : World} {base : Nat} {v : Value} {l : List ByteArray} (h : OwnS w base v l) (hh : w'.heap = w.heap) : OwnS w' base v l := by
  unfold OwnS World.ownsRow at *; rw [hh]; exact h
theorem OwnS.kept {w w' : World} {base : Nat} {v : Value} {l : List ByteArray} (h : OwnS w base v l) (hb : Below w.heap.size w w') : OwnS w' base v l :=
  World.ownsRow.kept h (w' := w') (row := none) ⟨hb.os, hb.tape, hb.output, hb.size, fun k hk _ => hb.block k hk⟩ (by cases v.ownBlock <;> simp)
/-- The row's block is none that holds something else. -/
theorem OwnS.ne {w : World} {base : Nat} {v : Value} {l : List ByteArray} (h : OwnS w base v l) {c : Nat} {cs : Array Value} {T : TypeId} {fz : Nat × Nat} (hT : T ≠ 9) (hc : w.heap[c]? = some (.cells cs T fz)) : some c ≠ v.ownBlock := by
  rcases h.2 with ⟨rfl, _⟩ | ⟨g, cap, cur, rfl, _, hg, _⟩
  · simp [Value.ownBlock]
  · intro he
    simp [Value.ownBlock] at he
    subst he
    rw [hc] at hg
    cases hg
    exact hT rfl
theorem str_info : (Tryd.prog.info? 9).map (fun i => (i.zero, i.size, i.bytes)) = some (some (.string ⟨#[]⟩), 1, 16) := by kernel_rfl
theorem step_append_str {ops : Array Oper} {o : Oper} {a : Act} {K : Act → World → Prop} {Q : Exit → Act → World → Prop} {E : Prop} {w : World} (hgd : o.guard = none) (s x : Operand)
    (ho : o.op = .call { callee := .builtin .append, args := #[s, x], argTypes := #[37, 37] })
    (base : Nat) (v : Value) (l : List ByteArray) (y : ByteArray) (hs : a.eval s = v) (hown : OwnS w base v l) (n : Nat)
    (hx : a.eval x = .slice (some ⟨n, 0, none⟩) 1 1) (hy : w.cell? ⟨n, 0, none⟩ = some (.string y)) (hlen : l.length + 1 ≤ 1000) (hbase : base ≤ w.heap.size)
    (h : ∀ g cap w', OwnS w' base (.slice (some ⟨g, 0, none⟩) (l.length + 1) cap) (l ++ [y]) → w.grownBy w' v.ownBlock → K (a.put o.dst (.slice (some ⟨g, 0, none⟩) (l.length + 1) cap)) w') :
    if Region.wanted o (yielded ops a.tmps) = true then Oper.wp Tryd.prog o a w K Q else E := by
  obtain ⟨i0, hi, hz0, hz1, hz2⟩ := info_parts str_info
  refine step_append_lies _ hgd s x 37 ho base 9 i0 (.string ⟨#[]⟩) 1 16 Tryd.underlying37 hi hz0 hz1 hz2 rfl (by decide) v l.length (l.map Value.string) hs hown
    ⟨n, 0, none⟩ 1 1 [.string y] hx rfl ?_ (by intro u hu; simp at hu; subst hu; rfl) (by decide) (by unfold maxLen; omega) (by omega) hbase w.heap.size rfl ?_
  · intro j u hj
    match j, hj with
    | 0, hj => simp at hj; subst hj; exact hy
  · intro g cap w' h1 h2 _ _
    refine h _ _ w' ?_ h2
    unfold OwnS
    rw [List.length_append, List.map_append]
    exact h1

/-- A variable of the call's own that holds such a row. -/
def LC (w : World) (B c : Nat) (v : Value) (l : List ByteArray) : Prop := w.heap[c]? = some (.cells #[v] 37 (0, 0)) ∧ OwnS w B v l
section
variable {w w' : World} {B c : Nat} {v v' : Value} {l l' : List ByteArray}
theorem LC.lt (h : LC w B c v l) : c < w.heap.size := (Array.getElem?_eq_some_iff.1 h.1).1
theorem LC.cell (h : LC w B c v l) : w.cell? ⟨c, 0, none⟩ = some v := by simp [World.cell?, h.1]
theorem LC.free (h : LC w B c v l) : w.frozen? ⟨c, 0, none⟩ = false := by simp [World.frozen?, h.1]
theorem LC.below (h : LC w B c v l) (hb : Below w.heap.size w w') : LC w' B c v l := ⟨(hb.block c h.lt).trans h.1, h.2.kept hb⟩
theorem LC.same (h : LC w B c v l) (hh : w'.heap = w.heap) : LC w' B c v l := ⟨by rw [hh]; exact h.1, h.2.same hh⟩
theorem LC.drew (h : LC w B c v l) : LC w.drew B c v l := h.same rfl
theorem LC.ne (h : LC w B c v l) : some c ≠ v.ownBlock := h.2.ne (by decide) h.1
theorem OwnS.setCell (h : OwnS w B v l) (hc : some c ≠ v.ownBlock) (u : Value) : OwnS (w.setCell ⟨c, 0, none⟩ u) B v l := by
  refine ⟨h.1, ?_⟩
  rcases h.2 with hn | ⟨g, cap, cur, rfl, hb, hg, rest⟩
  · exact .inl hn
  · refine .inr ⟨g, cap, cur, rfl, hb, ?_, rest⟩
    rw [← hg]
    exact Below.heap_setCell _ _ _ _ (fun he => hc (by rw [he]; rfl))
/-- The row grown, and laid into the variable. -/
theorem LC.put (h : LC w B c v l) (hg : w.grownBy w' v.ownBlock) (h' : OwnS w' B v' l') : LC (w'.setCell ⟨c, 0, none⟩ v') B c v' l' := by
  have h1 : w'.heap[c]? = some (.cells #[v] 37 (0, 0)) := (hg.block c h.lt h.ne).trans h.1
  refine ⟨?_, h'.setCell (h'.ne (by decide) h1) v'⟩
  simp [World.setCell, Array.getElem?_modify, h1]
end

theorem LC.grownCell {w w' : World} {B c : Nat} {v : Value} {l : List ByteArray} (h : LC w B c v l) (hg : w.grownBy w' v.ownBlock) : w'.cell? ⟨c, 0, none⟩ = some v := by
  have h1 : w'.heap[c]? = some (.cells #[v] 37 (0, 0)) := (hg.block c h.lt h.ne).trans h.1
  simp [World.cell?, h1]
theorem LC.grownFree {w w' : World} {B c : Nat} {v : Value} {l : List ByteArray} (h : LC w B c v l) (hg : w.grownBy w' v.ownBlock) : w'.frozen? ⟨c, 0, none⟩ = false := by
  have h1 : w'.heap[c]? = some (.cells #[v] 37 (0, 0)) := (hg.block c h.lt h.ne).trans h.1
  simp [World.frozen?, h1]
theorem LC.alloc {w : World} {B c : Nat} {v : Value} {l : List ByteArray} (h : LC w B c v l) (o : Obj) : LC (w.alloc o) B c v l := h.below ((Below.refl _ _).alloc (Nat.le_refl _) _)
theorem new_cell0 (w : World) (u : Value) (T : TypeId) : (w.alloc (.cells #[u] T)).cell? ⟨w.heap.size, 0, none⟩ = some u := by
  have := heap_alloc_new w (.cells #[u] T)
  unfold World.cell?
  simp only
  rw [this]
  rfl
/-- A text as the program holds it. -/
def bt (l : List UInt8) : ByteArray := ⟨l.toArray⟩

set_option maxHeartbeats 4000000 in
set_option maxRecDepth 100000 in
theorem text1_any (B c bn : Nat) (v : Value) (ls : List ByteArray) (ns : List Int) (w : World) (hg : Glob w) (hGB : 8 ≤ B) (hBc : B ≤ c) (hL : LC w B c v ls) (hbn : w.heap[bn]? = some (.cells (ns.map fun n => Value.int .i64 n).toArray 3 (0, 0)))
    (hB : B ≤ w.heap.size) (hns : ∀ n ∈ ns, -9223372036854775808 ≤ n ∧ n ≤ 9223372036854775807) (hlen : ls.length + ns.length ≤ 100) :
    Calls Tryd.prog 11 #[.slice (some ⟨bn, 0, none⟩) ns.length ns.length, .pointer (some ⟨c, 0, none⟩)] w fun e w' => e = .returned (.tuple #[]) ∧ ∃ v', LC w' B c v' (ls ++ ns.map fun n => bt (itoa n)) ∧ Below B w w' := by
  have HG := Lib.hid hg; have HL := Lib.hid hL; have HBN := Lib.hid hbn; have HNS := Lib.hid hns
  clear hg hL hbn hns
  go_enter Tryd.func11, Tryd.ntmps11
  go_wp2_with fail
  go_loopw [7] (fun i wr => ∃ (k : Nat) (vr : Value), i = .int .i64 k ∧ k ≤ ns.length ∧ Hid (LC wr B c vr (ls ++ (ns.take k).map fun n => bt (itoa n))) ∧ Hid (Below B w wr) ∧ Hid (wr.heap[bn]? = some (.cells (ns.map fun n => Value.int .i64 n).toArray 3 (0, 0)))) (fun i _ => ns.length - (intOf i).toNat)
  case atStart => exact ⟨0, v, rfl, Nat.zero_le _, Lib.hid (by simpa using HL.out), Lib.hid (Below.refl _ _), HBN⟩
  case round =>
    obtain ⟨k, vr, rfl, hk, HLr, HW, HBr⟩ := hrel
    by_cases hlt : k < ns.length
    · have hcell : wr.cell? ⟨bn, k, none⟩ = some (.int .i64 ns[k]) := by simp [World.cell?, HBr.out, hlt]
      have hsn : (ns.take (k + 1)).map (fun n => bt (itoa n)) = (ns.take k).map (fun n => bt (itoa n)) ++ [bt (itoa ns[k])] := by
        rw [List.take_add_one, List.getElem?_eq_getElem hlt, List.map_append]; simp
      have HSN := Lib.hid hsn; clear hsn
      have hN := HNS.out ns[k] (List.getElem_mem hlt)
      have hl0 := HLr.out.cell
      have hlf := HLr.out.free
      have hLl : (ls ++ (ns.take k).map fun n => bt (itoa n)).length + 1 ≤ 1000 := by simp; omega
      have hL2 : ls ++ (ns.take (k + 1)).map (fun n => bt (itoa n)) = (ls ++ (ns.take k).map fun n => bt (itoa n)) ++ [bt (itoa ns[k])] := by rw [HSN.out, List.append_assoc]
      have HL2 := Lib.hid hL2; clear hL2 HSN
      generalize ls ++ (ns.take k).map (fun n => bt (itoa n)) = L at HLr HL2 hLl
      generalize hx : ns[k] = x at hcell HL2 hN
      go_upto_region 3 with fail
      have hBw := HW.out.size
      have HLd := Lib.hid HLr.out.drew
      have HGd := Lib.hid (HG.out.below hGB HW.out).drew
      go_region_law (first | (go_simp; go_at_call 12; refine (itoa_any x hN.1 hN.2 _ HGd.out).mono ?_; rintro e w5 ⟨rfl, hb⟩; have h5 := HLd.out.below hb; have HW5 := Lib.hid ((HW.out.drew).trans (hb.mono (Nat.le_trans hB hBw))); have hc5 := h5.cell; have hl5 := h5.lt; have HBr5 := Lib.hid ((hb.block bn (Array.getElem?_eq_some_iff.1 HBr.out).1).trans HBr.out); have H5 := Lib.hid h5; have hs5 := hb.size; clear hb h5) | (refine step_append_str rfl (.tmp 11) (.tmp 14) (by rfl) B vr L (bt (itoa x)) (by rfl) (H5.out.alloc _).2 w5.heap.size (by rfl) (new_cell0 _ _ _) hLl (by simp; omega) ?_; intro g6 cap6 w6 hown hgr; have hc6 := (H5.out.alloc _).grownCell hgr; have hf6 := (H5.out.alloc _).grownFree hgr; have HO6 := Lib.hid hown; have HG6 := Lib.hid hgr; clear hown hgr) | fail)
      all_goals (
        go_wp2_with fail
        go_roundw
        case rel =>
          go_light
          have hs := HW5.out.size
          have hne : bn ≠ c := by intro he; subst he; have h1 := H5.out.1; rw [HBr5.out] at h1; injection h1 with h1; injection h1 with h1 h2; exact absurd h2 (by decide)
          have hlb : bn < w5.heap.size := (Array.getElem?_eq_some_iff.1 HBr5.out).1
          refine ⟨k + 1, .slice (some ⟨g6, 0, none⟩) (L.length + 1) cap6, by go_num, by omega, Lib.hid ?_, Lib.hid ?_, Lib.hid ?_⟩
          · rw [HL2.out]; exact (H5.out.alloc _).put HG6.out HO6.out
          · exact ((HW5.out.alloc (by omega) _).grown HG6.out (by simp; omega) (fun i hi => (World.ownsRow.lt H5.out.2 i hi).1)).setCell hBc _
          · exact (Below.heap_setCell _ _ _ _ hne).trans ((HG6.out.block bn (by simp; omega) (H5.out.2.ne (by decide) HBr5.out)).trans ((Below.heap_alloc _ _ _ hlb).trans HBr5.out))
        case measure => go_light; simp [intOf]; omega)
    · obtain rfl : k = ns.length := by omega
      go_wp2_with fail
      go_end0
      exact ⟨rfl, vr, by simpa using HLr.out, HW.out⟩
end Go.Proofs.YtgkpbpcebgegbaaDoor
