/- Strokes that a call gathers: one appended; the reader beside them. -/
import Derived.Test.YtemiamajgjfnbaaGreatDoorVcX4
import Derived.Test.YtemiamajgjfnbaaGreatDoorVcRc
namespace Go.Proofs.YtemiamajgjfnbaaGreatDoor
open Go.RowKit Vc
set_option linter.unusedVariables false
set_option linter.unusedSimpArgs false
def flatS (l : List S) : List Value := l.flatMap fun x => (SC x).toList
theorem SC_len (x : S) : (SC x).toList.length = 15 := rfl
theorem flatS_len : ∀ l : List S, (flatS l).length = l.length * 15
  | [] => rfl
  | x :: r => by
    show ((SC x).toList ++ flatS r).length = _
    rw [List.length_append, flatS_len r, SC_len, List.length_cons]; omega
theorem flatS_get : ∀ (l : List S) (i j : Nat) (h : i < l.length), j < 15 → (flatS l)[i * 15 + j]? = (SC l[i])[j]?
  | [], i, j, h, _ => by simp at h
  | x :: r, 0, j, h, hj => by
    show ((SC x).toList ++ flatS r)[0 * 15 + j]? = _
    rw [Nat.zero_mul, Nat.zero_add, List.getElem?_append_left (by rw [SC_len]; exact hj), Array.getElem?_toList]
    rfl
  | x :: r, i + 1, j, h, hj => by
    show ((SC x).toList ++ flatS r)[(i + 1) * 15 + j]? = _
    rw [List.getElem?_append_right (by rw [SC_len]; omega), SC_len]
    have := flatS_get r i j (by simpa using h) hj
    rw [show (i + 1) * 15 + j - 15 = i * 15 + j by omega, this]
    rfl
theorem flatS_snoc (l : List S) (y : S) : flatS (l ++ [y]) = flatS l ++ (SC y).toList := by
  unfold flatS; rw [List.flatMap_append]; simp
def OwnS (w : World) (base : Nat) (v : Value) (l : List S) : Prop := w.ownsRow base 31 15 v l.length (flatS l)
theorem OwnS.nil (w : World) (base : Nat) : OwnS w base (.slice none 0 0) [] := World.ownsRow_nil _ _ _ _
theorem OwnS.ne {w : World} {base g : Nat} {v : Value} {l : List S} (h : OwnS w base v l) (hg : g < base) : v.ownBlock ≠ some g := fun e => by have := (World.ownsRow.lt h g e).1; omega
theorem OwnS.grown {w w' : World} {base g : Nat} {v : Value} {l : List S} (h : OwnS w base v l) (hg : g < base) (hb : w.grownBy w' (some g)) : OwnS w' base v l :=
  World.ownsRow.kept h hb (.inr (h.ne hg))
theorem OwnS.isL {w : World} {base : Nat} {v : Value} {l : List S} (h : OwnS w base v l) : IsL w v l := by
  have h' := h
  rcases h.2 with ⟨rfl, h0⟩ | ⟨g, cap, cur, rfl, _⟩
  · obtain rfl : l = [] := List.eq_nil_of_length_eq_zero h0
    exact ⟨none, 0, rfl, fun i hi => by simp at hi⟩
  · refine ⟨some ⟨g, 0, none⟩, cap, rfl, fun i hi => ⟨g, 0, rfl, fun j hj => ?_⟩⟩
    have hget := flatS_get l i j hi hj
    have hs : (SC l[i])[j]? = some ((SC l[i])[j]'(by show j < 15; exact hj)) := Array.getElem?_eq_getElem _
    have hc := World.ownsRow.cells h' (g := g) rfl (i * 15 + j) ((SC l[i])[j]'(by show j < 15; exact hj)) (by rw [hget, hs])
    have ha : (⟨g, 0, none⟩ : Addr).add (i * 15 + j) = ⟨g, 0 + i * 15 + j, none⟩ := by unfold Addr.add; split <;> simp_all <;> omega
    rw [ha] at hc
    rw [hc, hs]
theorem stroke_info : (Tryz.prog.info? 31).map (fun i => (i.zero, i.size, i.bytes)) = some (some (SV S0), 15, 72) := by kernel_rfl
theorem SC_one (y : S) : ∀ u ∈ (SC y).toList, u.oneCell' = true := by
  intro u hu
  simp [SC] at hu
  rcases hu with rfl | rfl | rfl | rfl | rfl | rfl | rfl | rfl | rfl | rfl | rfl | rfl | rfl | rfl | rfl <;> rfl
theorem wp_append_stroke {ops : Array Oper} {rest : List Oper} {o : Oper} {a : Act} {Q : Exit → Act → World → Prop} {w : World} (hgd : o.guard = none) (s x : Operand)
    (ho : o.op = .call { callee := .builtin .append, args := #[s, x], argTypes := #[35, 35] })
    (base : Nat) (v : Value) (l : List S) (y : S) (hs : a.eval s = v) (hown : OwnS w base v l)
    (hx : a.eval x = .slice (some ⟨w.heap.size, 0, none⟩) 1 1) (hlen : l.length ≤ 100000) (hbase : base ≤ w.heap.size)
    (h : ∀ v' w', OwnS w' base v' (l ++ [y]) → (w.alloc (.cells (SC y) 31)).grownBy w' v.ownBlock → wpList Tryz.prog ops Q rest (a.put o.dst v') w') :
    wpList Tryz.prog ops Q (o :: rest) a (w.alloc (.cells (SC y) 31)) := by
  obtain ⟨i0, hi, hz0, hz1, hz2⟩ := info_parts stroke_info
  refine wpList_append_own _ hgd s x 35 ho base 31 i0 (SV S0) 15 72 Tryz.underlying35 hi hz0 hz1 hz2 rfl (by decide) v l.length (flatS l) hs (World.ownsRow.alloc hown _)
    ⟨w.heap.size, 0, none⟩ 1 1 (SC y).toList hx (by rw [SC_len]) ?_ (SC_one y) (by unfold maxLen; omega) (by omega) (by simp; omega) ?_
  · intro j u hj
    have hh := heap_alloc_new w (.cells (SC y) 31)
    have ha : (⟨w.heap.size, 0, none⟩ : Addr).add j = ⟨w.heap.size, j, none⟩ := by unfold Addr.add; split <;> simp_all
    rw [ha]
    unfold World.cell?
    simp only
    rw [hh]
    rw [Array.getElem?_toList] at hj
    simpa using hj
  · intro v' w' hown' hgrow _
    refine h v' w' ?_ hgrow
    unfold OwnS
    rw [List.length_append, flatS_snoc]
    simpa using hown'
theorem OwnS.at {w : World} {base : Nat} {v : Value} {l : List S} (h : OwnS w base v l) {i : Nat} (hi : v.ownBlock = some i) : ∃ cur, w.heap[i]? = some (.cells cur 31 (0, 0)) := by
  rcases h.2 with ⟨rfl, _⟩ | ⟨g, cap, cur, rfl, _, hg, _⟩
  · simp [Value.ownBlock] at hi
  · simp [Value.ownBlock] at hi
    subst hi
    exact ⟨cur, hg⟩
/-- What lies in a block of another type, behind an append. -/
theorem OwnS.beside {w w' : World} {base c : Nat} {v : Value} {l : List S} {o : Obj} {us : Array Value} {U : TypeId} (h : OwnS w base v l) (hgr : (w.alloc o).grownBy w' v.ownBlock) (hc : w.heap[c]? = some (.cells us U (0, 0))) (hU : U ≠ 31) : w'.heap[c]? = some (.cells us U (0, 0)) := by
  rw [append_at (Array.getElem?_eq_some_iff.1 hc).1 hgr ?_]
  · exact hc
  · intro i hi he
    subst he
    obtain ⟨cur, h1⟩ := h.at hi
    rw [hc] at h1
    simp at h1
    exact hU h1.2
theorem IsV.app {w w' : World} {g base : Nat} {s : ByteArray} {σ : RS} {v : Value} {l : List S} {o : Obj} (h : IsV w g s σ) (hown : OwnS w base v l) (hgr : (w.alloc o).grownBy w' v.ownBlock) : IsV w' g s σ := by
  cases σ with
  | ok a => exact ⟨h.1, hown.beside hgr h.2 (by decide)⟩
  | bad p =>
    obtain ⟨a, x, ha, hB, bb, ff, y, rfl, e1, e2⟩ := h
    exact ⟨a, _, ha, hown.beside hgr hB (by decide), bb, ff, y, rfl, hown.beside hgr e1 (by decide), hown.beside hgr e2 (by decide)⟩
theorem below_append {w w' : World} {B : Nat} {v : Value} {l : List S} {o : Obj} (hB : B ≤ w.heap.size) (hown : OwnS w B v l) (hgr : (w.alloc o).grownBy w' v.ownBlock) : Below B w w' :=
  ((Below.refl B w).alloc hB o).grown hgr (by simp; omega) fun i hi => (World.ownsRow.lt hown i hi).1
theorem below_of_grown {a w w' : World} {B g : Nat} (h : Below B a w) (hg : w.grownBy w' (some g)) (hB : B ≤ g) (hs : B ≤ w.heap.size) : Below B a w' :=
  h.grown hg hs fun i hi => by cases hi; exact hB
end Go.Proofs.YtemiamajgjfnbaaGreatDoor
