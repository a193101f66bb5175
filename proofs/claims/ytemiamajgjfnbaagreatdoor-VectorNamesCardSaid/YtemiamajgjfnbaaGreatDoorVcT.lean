/- vector's reader: a stroke: what is read, and the state amidst it. -/
import Derived.Test.YtemiamajgjfnbaaGreatDoorVcQ
namespace Go.Proofs.YtemiamajgjfnbaaGreatDoor
open Go.RowKit Vc
set_option linter.unusedVariables false
set_option linter.unusedSimpArgs false
/-- A stroke. -/
structure S where
  kind : Int
  r : R
  c : C
  d : C
  t : Bytes
  n : Int
  deriving DecidableEq
def R0 : R := ⟨0, 0, 0, 0⟩
def SC (x : S) : Array Value := #[.int .u8 x.kind, .int .i64 x.r.x, .int .i64 x.r.y, .int .i64 x.r.w, .int .i64 x.r.h,
  .int .u8 (x.c.r.toNat : Int), .int .u8 (x.c.g.toNat : Int), .int .u8 (x.c.b.toNat : Int), .int .u8 (x.c.a.toNat : Int),
  .int .u8 (x.d.r.toNat : Int), .int .u8 (x.d.g.toNat : Int), .int .u8 (x.d.b.toNat : Int), .int .u8 (x.d.a.toNat : Int),
  .string (bt x.t), .int .i64 x.n]
def SV (x : S) : Value := .agg (SC x)
def qClipEnd : Bytes := [60, 47, 99, 108, 105, 112, 32, 110, 61, 34]
def qClip : Bytes := [60, 99, 108, 105, 112, 32, 120, 61, 34]
def qFill : Bytes := [60, 102, 105, 108, 108, 32, 120, 61, 34]
def qFrame : Bytes := [60, 102, 114, 97, 109, 101, 32, 120, 61, 34]
def qWrite : Bytes := [60, 119, 114, 105, 116, 101, 32, 120, 61, 34]
def qn : Bytes := [34, 32, 110, 61, 34]
def qc : Bytes := [34, 32, 99, 61, 34]
def qb : Bytes := [34, 32, 98, 61, 34]
def qOpen : Bytes := [34, 62, 10]
def qText : Bytes := [34, 62]
def qShut : Bytes := [34, 47, 62, 10]
def qWriteEnd : Bytes := [60, 47, 119, 114, 105, 116, 101, 62, 10]
/-- What stands behind the rectangle's first text. -/
def bodyS (l : Bytes) (k : Int) (σ : RS) : S × RS :=
  let a := rectS l σ
  let b := colS l (fixS l qc a.2)
  if k = 3 then
    let d := colS l (fixS l qb b.2)
    let n := fieldS l qn d.2
    let t := textV l (fixS l qText n.2)
    (⟨3, a.1, b.1, d.1, t.1, n.1⟩, fixS l qWriteEnd t.2)
  else
    let n := fieldS l qn b.2
    (⟨k, a.1, b.1, C0, [], n.1⟩, fixS l qShut n.2)
/-- A stroke read. -/
def strokeS (l : Bytes) (σ : RS) : S × RS :=
  if (beginS l qClipEnd σ).1 = true then
    let n := Ev.numR l (beginS l qClipEnd σ).2
    (⟨5, R0, C0, C0, [], n.1⟩, fixS l qOpen n.2)
  else if (beginS l qClip σ).1 = true then
    let a := rectS l (beginS l qClip σ).2
    let n := fieldS l qn a.2
    (⟨4, a.1, C0, C0, [], n.1⟩, fixS l qOpen n.2)
  else if (beginS l qFill σ).1 = true then bodyS l 1 (beginS l qFill σ).2
  else if (beginS l qFrame σ).1 = true then bodyS l 2 (beginS l qFrame σ).2
  else bodyS l 3 (fixS l qWrite σ)
theorem load_stroke {w : World} {b : Nat} {x : S} (h : BlkV w b 31 (SC x)) : (loadVar 31 ⟨b, 0, none⟩).run Tryz.prog w = .ok (SV x) w := by
  have c0 : w.cell? ⟨b, 0, none⟩ = some (.int .u8 x.kind) := (h.cell 0).trans rfl
  have c1 : w.cell? ⟨b, 1, none⟩ = some (.int .i64 x.r.x) := (h.cell 1).trans rfl
  have c2 : w.cell? ⟨b, 2, none⟩ = some (.int .i64 x.r.y) := (h.cell 2).trans rfl
  have c3 : w.cell? ⟨b, 3, none⟩ = some (.int .i64 x.r.w) := (h.cell 3).trans rfl
  have c4 : w.cell? ⟨b, 4, none⟩ = some (.int .i64 x.r.h) := (h.cell 4).trans rfl
  have c5 : w.cell? ⟨b, 5, none⟩ = some (.int .u8 (x.c.r.toNat : Int)) := (h.cell 5).trans rfl
  have c6 : w.cell? ⟨b, 6, none⟩ = some (.int .u8 (x.c.g.toNat : Int)) := (h.cell 6).trans rfl
  have c7 : w.cell? ⟨b, 7, none⟩ = some (.int .u8 (x.c.b.toNat : Int)) := (h.cell 7).trans rfl
  have c8 : w.cell? ⟨b, 8, none⟩ = some (.int .u8 (x.c.a.toNat : Int)) := (h.cell 8).trans rfl
  have c9 : w.cell? ⟨b, 9, none⟩ = some (.int .u8 (x.d.r.toNat : Int)) := (h.cell 9).trans rfl
  have c10 : w.cell? ⟨b, 10, none⟩ = some (.int .u8 (x.d.g.toNat : Int)) := (h.cell 10).trans rfl
  have c11 : w.cell? ⟨b, 11, none⟩ = some (.int .u8 (x.d.b.toNat : Int)) := (h.cell 11).trans rfl
  have c12 : w.cell? ⟨b, 12, none⟩ = some (.int .u8 (x.d.a.toNat : Int)) := (h.cell 12).trans rfl
  have c13 : w.cell? ⟨b, 13, none⟩ = some (.string (bt x.t)) := (h.cell 13).trans rfl
  have c14 : w.cell? ⟨b, 14, none⟩ = some (.int .i64 x.n) := (h.cell 14).trans rfl
  unfold SV SC
  go_simp
theorem res_stroke {w : World} {b : Nat} {x : S} (h : BlkV w b 31 (SC x)) (tm : Array Value) (h2 : tm.getD 2 undef = .pointer (some ⟨b, 0, none⟩)) :
    (results Tryz.f27 tm).run Tryz.prog w = .ok (SV x) w := by
  have hl := load_stroke h
  have hr : Tryz.f27.results = #[.cell 2 31] := rfl
  simp only [results, hr]
  simp at h2
  simp [Sem.run_bind, Result.andThen, asAddr, h2, hl]
end Go.Proofs.YtemiamajgjfnbaaGreatDoor
