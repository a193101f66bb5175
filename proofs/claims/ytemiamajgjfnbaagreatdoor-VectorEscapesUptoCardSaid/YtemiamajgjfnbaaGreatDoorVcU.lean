/- vector's reader: stroke, walked. -/
import Derived.Test.YtemiamajgjfnbaaGreatDoorVcT
namespace Go.Proofs.YtemiamajgjfnbaaGreatDoor
open Go.RowKit Vc
set_option linter.unusedVariables false
set_option linter.unusedSimpArgs false
/-- A stroke stored whole. -/
def sput (w : World) (b : Nat) (x : S) : World := (((((((((((((((w.setCell ⟨b, 0, none⟩ (.int .u8 x.kind)).setCell ⟨b, 1, none⟩ (.int .i64 x.r.x)).setCell ⟨b, 2, none⟩ (.int .i64 x.r.y)).setCell ⟨b, 3, none⟩ (.int .i64 x.r.w)).setCell ⟨b, 4, none⟩ (.int .i64 x.r.h)).setCell ⟨b, 5, none⟩ (.int .u8 (x.c.r.toNat : Int))).setCell ⟨b, 6, none⟩ (.int .u8 (x.c.g.toNat : Int))).setCell ⟨b, 7, none⟩ (.int .u8 (x.c.b.toNat : Int))).setCell ⟨b, 8, none⟩ (.int .u8 (x.c.a.toNat : Int))).setCell ⟨b, 9, none⟩ (.int .u8 (x.d.r.toNat : Int))).setCell ⟨b, 10, none⟩ (.int .u8 (x.d.g.toNat : Int))).setCell ⟨b, 11, none⟩ (.int .u8 (x.d.b.toNat : Int))).setCell ⟨b, 12, none⟩ (.int .u8 (x.d.a.toNat : Int))).setCell ⟨b, 13, none⟩ (.string (bt x.t))).setCell ⟨b, 14, none⟩ (.int .i64 x.n))
theorem blkV_sput {w : World} {b : Nat} {y : S} (h : BlkV w b 31 (SC y)) (x : S) : BlkV (sput w b x) b 31 (SC x) := by
  have h2 := (((((((((((((((h.set 0 (.int .u8 x.kind)).set 1 (.int .i64 x.r.x)).set 2 (.int .i64 x.r.y)).set 3 (.int .i64 x.r.w)).set 4 (.int .i64 x.r.h)).set 5 (.int .u8 (x.c.r.toNat : Int))).set 6 (.int .u8 (x.c.g.toNat : Int))).set 7 (.int .u8 (x.c.b.toNat : Int))).set 8 (.int .u8 (x.c.a.toNat : Int))).set 9 (.int .u8 (x.d.r.toNat : Int))).set 10 (.int .u8 (x.d.g.toNat : Int))).set 11 (.int .u8 (x.d.b.toNat : Int))).set 12 (.int .u8 (x.d.a.toNat : Int))).set 13 (.string (bt x.t))).set 14 (.int .i64 x.n))
  have e : ((((((((((((((((SC y).setIfInBounds 0 (.int .u8 x.kind)).setIfInBounds 1 (.int .i64 x.r.x)).setIfInBounds 2 (.int .i64 x.r.y)).setIfInBounds 3 (.int .i64 x.r.w)).setIfInBounds 4 (.int .i64 x.r.h)).setIfInBounds 5 (.int .u8 (x.c.r.toNat : Int))).setIfInBounds 6 (.int .u8 (x.c.g.toNat : Int))).setIfInBounds 7 (.int .u8 (x.c.b.toNat : Int))).setIfInBounds 8 (.int .u8 (x.c.a.toNat : Int))).setIfInBounds 9 (.int .u8 (x.d.r.toNat : Int))).setIfInBounds 10 (.int .u8 (x.d.g.toNat : Int))).setIfInBounds 11 (.int .u8 (x.d.b.toNat : Int))).setIfInBounds 12 (.int .u8 (x.d.a.toNat : Int))).setIfInBounds 13 (.string (bt x.t))).setIfInBounds 14 (.int .i64 x.n)) = SC x := by kernel_rfl
  rw [e] at h2
  unfold sput
  exact h2
theorem grown_sput {w w' : World} {r : Option Nat} (h : w.grownBy w' r) (b : Nat) (hb : w.heap.size ≤ b) (x : S) : w.grownBy (sput w' b x) r :=
  (grown_new (grown_new (grown_new (grown_new (grown_new (grown_new (grown_new (grown_new (grown_new (grown_new (grown_new (grown_new (grown_new (grown_new (grown_new h b 0 (.int .u8 x.kind) hb) b 1 (.int .i64 x.r.x) hb) b 2 (.int .i64 x.r.y) hb) b 3 (.int .i64 x.r.w) hb) b 4 (.int .i64 x.r.h) hb) b 5 (.int .u8 (x.c.r.toNat : Int)) hb) b 6 (.int .u8 (x.c.g.toNat : Int)) hb) b 7 (.int .u8 (x.c.b.toNat : Int)) hb) b 8 (.int .u8 (x.c.a.toNat : Int)) hb) b 9 (.int .u8 (x.d.r.toNat : Int)) hb) b 10 (.int .u8 (x.d.g.toNat : Int)) hb) b 11 (.int .u8 (x.d.b.toNat : Int)) hb) b 12 (.int .u8 (x.d.a.toNat : Int)) hb) b 13 (.string (bt x.t)) hb) b 14 (.int .i64 x.n) hb)
theorem isV_sput {w : World} {g b : Nat} {s : ByteArray} {σ : RS} {y : S} (h : IsV w g s σ) (hb : BlkV w b 31 (SC y)) (x : S) : IsV (sput w b x) g s σ := by
  have k : ∀ (w : World) (vs : Array Value) (o : Nat) (v : Value), IsV w g s σ ∧ BlkV w b 31 vs → IsV (w.setCell ⟨b, o, none⟩ v) g s σ ∧ BlkV (w.setCell ⟨b, o, none⟩ v) b 31 (vs.setIfInBounds o v) :=
    fun w vs o v h => ⟨h.1.other h.2 (by decide) (by decide) (by decide), h.2.set o v⟩
  unfold sput
  exact ((k _ _ 14 (.int .i64 x.n) (k _ _ 13 (.string (bt x.t)) (k _ _ 12 (.int .u8 (x.d.a.toNat : Int)) (k _ _ 11 (.int .u8 (x.d.b.toNat : Int)) (k _ _ 10 (.int .u8 (x.d.g.toNat : Int)) (k _ _ 9 (.int .u8 (x.d.r.toNat : Int)) (k _ _ 8 (.int .u8 (x.c.a.toNat : Int)) (k _ _ 7 (.int .u8 (x.c.b.toNat : Int)) (k _ _ 6 (.int .u8 (x.c.g.toNat : Int)) (k _ _ 5 (.int .u8 (x.c.r.toNat : Int)) (k _ _ 4 (.int .i64 x.r.h) (k _ _ 3 (.int .i64 x.r.w) (k _ _ 2 (.int .i64 x.r.y) (k _ _ 1 (.int .i64 x.r.x) (k _ _ 0 (.int .u8 x.kind) ⟨h, hb⟩)))))))))))))))).1
def S0 : S := ⟨0, R0, C0, C0, [], 0⟩
/-- Amidst stroke: the reader at g, its pointer's box, the result's place. -/
structure MidS (w0 w : World) (s : ByteArray) (g : Nat) (σ : RS) : Prop where
  rd : IsV w g s σ
  box : BlkV w w0.heap.size 64 #[.pointer (some ⟨g, 0, none⟩)]
  res : BlkV w (w0.heap.size + 1) 31 (SC S0)
  old : w0.grownBy w (some g)
theorem MidS.call {w0 w w' : World} {s : ByteArray} {g : Nat} {σ σ' : RS} (h : MidS w0 w s g σ) (hg : g < w0.heap.size) (h1 : IsV w' g s σ') (h2 : w.grownBy w' (some g)) : MidS w0 w' s g σ' :=
  ⟨h1, h.box.same (h2.block _ h.box.lt (by intro e; exact absurd (Option.some.inj e) (by omega))), h.res.same (h2.block _ h.res.lt (by intro e; exact absurd (Option.some.inj e) (by omega))), grown_trans h.old h2⟩
theorem MidS.below {w0 w w' : World} {s : ByteArray} {g : Nat} {σ : RS} (h : MidS w0 w s g σ) (hb : Below w.heap.size w w') : MidS w0 w' s g σ :=
  ⟨h.rd.below hb, h.box.below hb h.box.lt, h.res.below hb h.res.lt, grown_trans h.old (grown_below hb _)⟩
theorem MidS.ptr {w0 w : World} {s : ByteArray} {g : Nat} {σ : RS} (h : MidS w0 w s g σ) : w.cell? ⟨w0.heap.size, 0, none⟩ = some (.pointer (some ⟨g, 0, none⟩)) := (h.box.cell 0).trans rfl
end Go.Proofs.YtemiamajgjfnbaaGreatDoor
