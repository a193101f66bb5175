/- vector's reader: rect. -/
import Derived.Test.YtemiamajgjfnbaaGreatDoorVcN
namespace Go.Proofs.YtemiamajgjfnbaaGreatDoor
open Go.RowKit Vc
set_option linter.unusedVariables false
set_option linter.unusedSimpArgs false
structure R where
  x : Int
  y : Int
  w : Int
  h : Int
  deriving DecidableEq
def RV (r : R) : Value := .agg #[.int .i64 r.x, .int .i64 r.y, .int .i64 r.w, .int .i64 r.h]
def rectC (r : R) : Array Value := #[.int .i64 r.x, .int .i64 r.y, .int .i64 r.w, .int .i64 r.h]
def qy : Bytes := [34, 32, 121, 61, 34]
def qw : Bytes := [34, 32, 119, 61, 34]
def qh : Bytes := [34, 32, 104, 61, 34]
/-- A rectangle read, but for the first fixed text. -/
def rectS (l : Bytes) (σ : RS) : R × RS :=
  (⟨(Ev.numR l σ).1, (fieldS l qy (Ev.numR l σ).2).1, (fieldS l qw (fieldS l qy (Ev.numR l σ).2).2).1, (fieldS l qh (fieldS l qw (fieldS l qy (Ev.numR l σ).2).2).2).1⟩,
   (fieldS l qh (fieldS l qw (fieldS l qy (Ev.numR l σ).2).2).2).2)
theorem load_rect {w : World} {b : Nat} {r : R} (h : BlkV w b 27 (rectC r)) : (loadVar 27 ⟨b, 0, none⟩).run Tryz.prog w = .ok (RV r) w := by
  have c0 : w.cell? ⟨b, 0, none⟩ = some (.int .i64 r.x) := (h.cell 0).trans rfl
  have c1 : w.cell? ⟨b, 1, none⟩ = some (.int .i64 r.y) := (h.cell 1).trans rfl
  have c2 : w.cell? ⟨b, 2, none⟩ = some (.int .i64 r.w) := (h.cell 2).trans rfl
  have c3 : w.cell? ⟨b, 3, none⟩ = some (.int .i64 r.h) := (h.cell 3).trans rfl
  unfold RV
  go_simp
theorem res_rect {w : World} {b : Nat} {r : R} (h : BlkV w b 27 (rectC r)) (tm : Array Value) (h2 : tm.getD 2 undef = .pointer (some ⟨b, 0, none⟩)) :
    (results Tryz.f39 tm).run Tryz.prog w = .ok (RV r) w := by
  have hl := load_rect h
  have hr : Tryz.f39.results = #[.cell 2 27] := rfl
  simp only [results, hr]
  simp at h2
  simp [Sem.run_bind, Result.andThen, asAddr, h2, hl]
/-- Amidst rect: the reader at g, the result's place at a, the local at b. -/
structure MidR (w0 w : World) (s : ByteArray) (g : Nat) (σ : RS) (r : R) : Prop where
  rd : IsV w g s σ
  res : BlkV w w0.heap.size 27 (rectC ⟨0, 0, 0, 0⟩)
  loc : BlkV w (w0.heap.size + 1) 27 (rectC r)
  old : w0.grownBy w (some g)
theorem MidR.call {w0 w w' : World} {s : ByteArray} {g : Nat} {σ σ' : RS} {r : R} (h : MidR w0 w s g σ r) (hg : g < w0.heap.size) (h1 : IsV w' g s σ') (h2 : w.grownBy w' (some g)) : MidR w0 w' s g σ' r :=
  ⟨h1, h.res.same (h2.block _ h.res.lt (by intro e; exact absurd (Option.some.inj e) (by omega))), h.loc.same (h2.block _ h.loc.lt (by intro e; exact absurd (Option.some.inj e) (by omega))), grown_trans h.old h2⟩
theorem MidR.store {w0 w : World} {s : ByteArray} {g : Nat} {σ : RS} {r : R} (h : MidR w0 w s g σ r) (o : Nat) (n : Int) (r' : R) (hr : (rectC r).setIfInBounds o (.int .i64 n) = rectC r') : MidR w0 (w.setCell ⟨w0.heap.size + 1, o, none⟩ (.int .i64 n)) s g σ r' :=
  ⟨h.rd.other h.loc (by decide) (by decide) (by decide), h.res.same (heap_other (by omega)), hr ▸ h.loc.set o _, grown_new h.old _ _ _ (by omega)⟩
set_option maxHeartbeats 800000 in
theorem vrect_any (s : ByteArray) (g : Nat) (σ : RS) (w : World) (hs : s.size ≤ 140737488351232) (hg : Glob w) (hG : 9 ≤ g) (hI : IsV w g s σ) :
    Calls Tryz.prog 39 #[.pointer (some ⟨g, 0, none⟩)] w fun e w' => e = .returned (RV (rectS s.data.toList σ).1) ∧ IsV w' g s (rectS s.data.toList σ).2 ∧ w.grownBy w' (some g) := by
  have hlt := hI.lt
  have HG := Lib.hid hg; clear hg
  have HI := Lib.hid hI; clear hI
  go_enter Tryz.func39, Tryz.ntmps39
  go_wp2_with fail
  have hA : Below w.heap.size w ((w.alloc (.cells #[.int .i64 0, .int .i64 0, .int .i64 0, .int .i64 0] 27)).alloc (.cells #[.int .i64 0, .int .i64 0, .int .i64 0, .int .i64 0] 27)) :=
    ((Below.refl w.heap.size w).alloc (Nat.le_refl _) _).alloc (by simp) _
  have M0 : Hid (MidR w ((w.alloc (.cells #[.int .i64 0, .int .i64 0, .int .i64 0, .int .i64 0] 27)).alloc (.cells #[.int .i64 0, .int .i64 0, .int .i64 0, .int .i64 0] 27)) s g σ ⟨0, 0, 0, 0⟩) :=
    Lib.hid ⟨HI.out.below hA, alloc_at1 w _ _, alloc_at2 w _ _, grown_below hA _⟩
  clear hA
  generalize (w.alloc (.cells #[.int .i64 0, .int .i64 0, .int .i64 0, .int .i64 0] 27)).alloc (.cells #[.int .i64 0, .int .i64 0, .int .i64 0, .int .i64 0] 27) = w1 at M0 ⊢
  refine (vnumber_any s g σ _ hs (HG.out.grow M0.out.old hG) hG M0.out.rd).mono ?_
  rintro e w2 ⟨rfl, h2, g2⟩
  have M1 := Lib.hid (M0.out.call hlt h2 g2); clear h2 g2
  have c0 : w2.cell? ⟨w.heap.size + 1, 0, none⟩ = some (.int .i64 0) := (M1.out.loc.cell 0).trans rfl
  have f0 := M1.out.loc.free 0
  go_wp2_with fail
  have M2 := Lib.hid (M1.out.store 0 (Ev.numR s.data.toList σ).1 ⟨(Ev.numR s.data.toList σ).1, 0, 0, 0⟩ rfl)
  clear c0 f0
  generalize w2.setCell ⟨w.heap.size + 1, 0, none⟩ (.int .i64 (Ev.numR s.data.toList σ).1) = w3 at M2 ⊢
  refine (vfield_any s ⟨#[34, 32, 121, 61, 34]⟩ g _ _ hs (by decide) (HG.out.grow M2.out.old hG) hG M2.out.rd).mono ?_
  rintro e w4 ⟨rfl, h4, g4⟩
  have M4 := Lib.hid (M2.out.call hlt h4 g4); clear h4 g4
  obtain ⟨y, hy⟩ : ∃ y, y = fieldS s.data.toList qy (Ev.numR s.data.toList σ).2 := ⟨_, rfl⟩
  rw [show (⟨#[34, 32, 121, 61, 34]⟩ : ByteArray).data.toList = qy from rfl, ← hy]
  have M4' : Hid (MidR w w4 s g y.2 ⟨(Ev.numR s.data.toList σ).1, 0, 0, 0⟩) := by rw [hy]; exact M4
  clear M4
  have c1 : w4.cell? ⟨w.heap.size + 1, 1, none⟩ = some (.int .i64 0) := (M4'.out.loc.cell 1).trans rfl
  have f1 := M4'.out.loc.free 1
  have HY := Lib.hid hy; clear hy
  go_wp2_with fail
  have M5 := Lib.hid (M4'.out.store 1 y.1 ⟨(Ev.numR s.data.toList σ).1, y.1, 0, 0⟩ rfl)
  clear c1 f1
  generalize w4.setCell ⟨w.heap.size + 1, 1, none⟩ (.int .i64 y.1) = w5 at M5 ⊢
  refine (vfield_any s ⟨#[34, 32, 119, 61, 34]⟩ g _ _ hs (by decide) (HG.out.grow M5.out.old hG) hG M5.out.rd).mono ?_
  rintro e w6 ⟨rfl, h6, g6⟩
  have M6 := Lib.hid (M5.out.call hlt h6 g6); clear h6 g6
  obtain ⟨z, hz⟩ : ∃ z, z = fieldS s.data.toList qw y.2 := ⟨_, rfl⟩
  rw [show (⟨#[34, 32, 119, 61, 34]⟩ : ByteArray).data.toList = qw from rfl, ← hz]
  have M6' : Hid (MidR w w6 s g z.2 ⟨(Ev.numR s.data.toList σ).1, y.1, 0, 0⟩) := by rw [hz]; exact M6
  clear M6
  have c2 : w6.cell? ⟨w.heap.size + 1, 2, none⟩ = some (.int .i64 0) := (M6'.out.loc.cell 2).trans rfl
  have f2 := M6'.out.loc.free 2
  have HZ := Lib.hid hz; clear hz
  go_wp2_with fail
  have M7 := Lib.hid (M6'.out.store 2 z.1 ⟨(Ev.numR s.data.toList σ).1, y.1, z.1, 0⟩ rfl)
  clear c2 f2
  generalize w6.setCell ⟨w.heap.size + 1, 2, none⟩ (.int .i64 z.1) = w7 at M7 ⊢
  refine (vfield_any s ⟨#[34, 32, 104, 61, 34]⟩ g _ _ hs (by decide) (HG.out.grow M7.out.old hG) hG M7.out.rd).mono ?_
  rintro e w8 ⟨rfl, h8, g8⟩
  have M8 := Lib.hid (M7.out.call hlt h8 g8); clear h8 g8
  obtain ⟨u, hu⟩ : ∃ u, u = fieldS s.data.toList qh z.2 := ⟨_, rfl⟩
  rw [show (⟨#[34, 32, 104, 61, 34]⟩ : ByteArray).data.toList = qh from rfl, ← hu]
  have M8' : Hid (MidR w w8 s g u.2 ⟨(Ev.numR s.data.toList σ).1, y.1, z.1, 0⟩) := by rw [hu]; exact M8
  clear M8
  have hres : rectS s.data.toList σ = (⟨(Ev.numR s.data.toList σ).1, y.1, z.1, u.1⟩, u.2) := by
    unfold rectS; rw [← HY.out, ← HZ.out, ← hu]
  have HRES := Lib.hid hres; clear hres
  have c3 : w8.cell? ⟨w.heap.size + 1, 3, none⟩ = some (.int .i64 0) := (M8'.out.loc.cell 3).trans rfl
  have f3 := M8'.out.loc.free 3
  have d0 : w8.cell? ⟨w.heap.size + 1, 0, none⟩ = some (.int .i64 (Ev.numR s.data.toList σ).1) := (M8'.out.loc.cell 0).trans rfl
  have d1 : w8.cell? ⟨w.heap.size + 1, 1, none⟩ = some (.int .i64 y.1) := (M8'.out.loc.cell 1).trans rfl
  have d2 : w8.cell? ⟨w.heap.size + 1, 2, none⟩ = some (.int .i64 z.1) := (M8'.out.loc.cell 2).trans rfl
  have e0 : w8.cell? ⟨w.heap.size, 0, none⟩ = some (.int .i64 0) := (M8'.out.res.cell 0).trans rfl
  have e1 : w8.cell? ⟨w.heap.size, 1, none⟩ = some (.int .i64 0) := (M8'.out.res.cell 1).trans rfl
  have e2 : w8.cell? ⟨w.heap.size, 2, none⟩ = some (.int .i64 0) := (M8'.out.res.cell 2).trans rfl
  have e3 : w8.cell? ⟨w.heap.size, 3, none⟩ = some (.int .i64 0) := (M8'.out.res.cell 3).trans rfl
  have x0 := M8'.out.res.free 0
  have x1 := M8'.out.res.free 1
  have x2 := M8'.out.res.free 2
  have x3 := M8'.out.res.free 3
  have nn : ¬ w.heap.size = w.heap.size + 1 := by omega
  have HU := Lib.hid hu; clear hu
  go_wp2_with fail
  have M9 := Lib.hid (M8'.out.store 3 u.1 ⟨(Ev.numR s.data.toList σ).1, y.1, z.1, u.1⟩ rfl)
  refine bodyPost_ret (res_rect (r := ⟨(Ev.numR s.data.toList σ).1, y.1, z.1, u.1⟩) (M9.out.res.put4 _ _ _ _) _ rfl) rfl ⟨?_, ?_, grown_put4 M9.out.old _ (Nat.le_refl _) _ _ _ _⟩
  · rw [HRES.out]
  · rw [HRES.out]; exact M9.out.rd.put4 M9.out.res (by decide) (by decide) (by decide) _ _ _ _
end Go.Proofs.YtemiamajgjfnbaaGreatDoor
