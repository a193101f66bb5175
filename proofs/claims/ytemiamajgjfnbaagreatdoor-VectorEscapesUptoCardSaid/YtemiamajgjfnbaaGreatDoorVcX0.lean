/- vector's reader: the state amidst a stroke's later ways. -/
import Derived.Test.YtemiamajgjfnbaaGreatDoorVcW
namespace Go.Proofs.YtemiamajgjfnbaaGreatDoor
open Go.RowKit Vc
set_option linter.unusedVariables false
set_option linter.unusedSimpArgs false

structure MidL (w0 w : World) (s : ByteArray) (g b : Nat) (σ : RS) (x : S) : Prop where
  m : MidS w0 w s g σ
  l : BlkV w b 31 (SC x)
  far : w0.heap.size + 1 < b
theorem MidL.call {w0 w w' : World} {s : ByteArray} {g b : Nat} {σ σ' : RS} {x : S} (h : MidL w0 w s g b σ x) (hg : g < w0.heap.size) (h1 : IsV w' g s σ') (h2 : w.grownBy w' (some g)) : MidL w0 w' s g b σ' x :=
  ⟨h.m.call hg h1 h2, h.l.same (h2.block _ h.l.lt (by intro e; have := Option.some.inj e; have := h.far; omega)), h.far⟩
theorem MidL.store {w0 w : World} {s : ByteArray} {g b : Nat} {σ : RS} {x : S} (h : MidL w0 w s g b σ x) (o : Nat) (v : Value) (x' : S) (hr : (SC x).setIfInBounds o v = SC x') : MidL w0 (w.setCell ⟨b, o, none⟩ v) s g b σ x' :=
  ⟨h.m.store h.l h.far o v, hr ▸ h.l.set o v, h.far⟩
theorem bodyS_two {l : Bytes} {k : Int} {σ : RS} (hk : ¬ k = 3) {a : R} {ta : RS} (ha : (a, ta) = rectS l σ) {c : C} {tc : RS} (hc : (c, tc) = colS l (fixS l qc ta)) {z : Int × RS} (hz : z = fieldS l qn tc) : bodyS l k σ = (⟨k, a, c, C0, [], z.1⟩, fixS l qShut z.2) := by
  unfold bodyS
  simp only [← ha, ← hc, ← hz, if_neg hk]
theorem bodyS_three {l : Bytes} {σ : RS} {a : R} {ta : RS} (ha : (a, ta) = rectS l σ) {c : C} {tc : RS} (hc : (c, tc) = colS l (fixS l qc ta)) {d : C} {td : RS} (hd : (d, td) = colS l (fixS l qb tc)) {z : Int × RS} (hz : z = fieldS l qn td) {t : Bytes} {tt : RS} (ht : (t, tt) = textV l (fixS l qText z.2)) : bodyS l 3 σ = (⟨3, a, c, d, t, z.1⟩, fixS l qWriteEnd tt) := by
  unfold bodyS
  simp only [← ha, ← hc, ← hd, ← hz, ← ht, if_true]
end Go.Proofs.YtemiamajgjfnbaaGreatDoor
