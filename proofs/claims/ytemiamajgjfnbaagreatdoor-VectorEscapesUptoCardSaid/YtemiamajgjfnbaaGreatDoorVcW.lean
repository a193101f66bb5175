/- vector's reader: stroke's second way. -/
import Derived.Test.YtemiamajgjfnbaaGreatDoorVcV
namespace Go.Proofs.YtemiamajgjfnbaaGreatDoor
open Go.RowKit Vc
set_option linter.unusedVariables false
set_option linter.unusedSimpArgs false
theorem MidS.store {w0 w : World} {s : ByteArray} {g b : Nat} {σ : RS} {vs : Array Value} (h : MidS w0 w s g σ) (hb : BlkV w b 31 vs) (h1 : w0.heap.size + 1 < b) (o : Nat) (v : Value) : MidS w0 (w.setCell ⟨b, o, none⟩ v) s g σ :=
  ⟨h.rd.other hb (by decide) (by decide) (by decide), h.box.same (heap_other (by omega)), h.res.same (heap_other (by omega)), grown_new h.old _ _ _ (by omega)⟩
theorem begin_false (l p : Bytes) (σ : RS) (h : (beginS l p σ).1 = false) : (beginS l p σ).2 = σ := by
  cases σ with
  | ok a =>
    unfold beginS at h ⊢
    simp only at h ⊢
    split at h
    · exact absurd h (by simp)
    · rename_i hh; rw [if_neg hh]
  | bad q => rfl
set_option maxHeartbeats 1000000 in
theorem vstroke_clip (s : ByteArray) (g : Nat) (σ : RS) (w : World) (hs : s.size ≤ 4294967280) (hg : Glob w) (hG : 9 ≤ g) (hI : IsV w g s σ) (h1 : (beginS s.data.toList qClipEnd σ).1 = false) (h2 : (beginS s.data.toList qClip σ).1 = true) :
    Calls Tryz.prog 27 #[.pointer (some ⟨g, 0, none⟩)] w fun e w' => e = .returned (SV (strokeS s.data.toList σ).1) ∧ IsV w' g s (strokeS s.data.toList σ).2 ∧ w.grownBy w' (some g) := by
  have hlt := hI.lt
  have HG := Lib.hid hg; clear hg
  have HI := Lib.hid hI; clear hI
  have hb1 := begin_false _ _ _ h1
  have HB1 := Lib.hid hb1; clear hb1
  have H1 := Lib.hid h1; have H2 := Lib.hid h2; clear h1 h2
  have hmf : ∀ (fn : Fn) (first cap : Array Value) (w : World), (Instr.makeFunc fn first cap).run Tryz.prog w = .ok (.func fn first cap) w := fun _ _ _ _ => rfl
  go_enter Tryz.func27, Tryz.ntmps27
  go_wp2_with fail
  have hA : Below w.heap.size w ((w.alloc (.cells #[.pointer (some ⟨g, 0, none⟩)] 64)).alloc (.cells (SC S0) 31)) :=
    ((Below.refl w.heap.size w).alloc (Nat.le_refl _) _).alloc (by simp) _
  have M0 : Hid (MidS w ((w.alloc (.cells #[.pointer (some ⟨g, 0, none⟩)] 64)).alloc (.cells (SC S0) 31)) s g σ) :=
    Lib.hid ⟨HI.out.below hA, alloc_at1 w _ _, alloc_at2 w _ _, grown_below hA _⟩
  clear hA
  have eS : SC S0 = #[.int .u8 0, .int .i64 0, .int .i64 0, .int .i64 0, .int .i64 0, .int .u8 0, .int .u8 0, .int .u8 0, .int .u8 0, .int .u8 0, .int .u8 0, .int .u8 0, .int .u8 0, .string ⟨#[]⟩, .int .i64 0] := rfl
  rw [eS] at M0
  clear eS
  generalize (w.alloc (.cells #[.pointer (some ⟨g, 0, none⟩)] 64)).alloc (.cells #[.int .u8 0, .int .i64 0, .int .i64 0, .int .i64 0, .int .i64 0, .int .u8 0, .int .u8 0, .int .u8 0, .int .u8 0, .int .u8 0, .int .u8 0, .int .u8 0, .int .u8 0, .string ⟨#[]⟩, .int .i64 0] 31) = w1 at M0 ⊢
  refine (begins_any s ⟨#[60, 47, 99, 108, 105, 112, 32, 110, 61, 34]⟩ g w.heap.size σ _ (by omega) (by decide) M0.out.rd M0.out.box).mono ?_
  rintro e w2 ⟨rfl, h2, g2⟩
  have M1 := Lib.hid (M0.out.call hlt h2 g2); clear h2 g2
  rw [show (⟨#[60, 47, 99, 108, 105, 112, 32, 110, 61, 34]⟩ : ByteArray).data.toList = qClipEnd from rfl] at M1 ⊢
  rw [H1.out]
  rw [HB1.out] at M1
  have p1 := M1.out.ptr
  go_wp2_with fail
  refine (begins_any s ⟨#[60, 99, 108, 105, 112, 32, 120, 61, 34]⟩ g w.heap.size σ _ (by omega) (by decide) M1.out.rd M1.out.box).mono ?_
  rintro e w3 ⟨rfl, h3, g3⟩
  have M3 := Lib.hid (M1.out.call hlt h3 g3); clear h3 g3 p1
  rw [show (⟨#[60, 99, 108, 105, 112, 32, 120, 61, 34]⟩ : ByteArray).data.toList = qClip from rfl] at M3 ⊢
  rw [H2.out]
  have p3 := M3.out.ptr
  go_wp2_with fail
  refine (vrect_any s g _ _ (by omega) (HG.out.grow M3.out.old hG) hG M3.out.rd).mono ?_
  rintro e w4 ⟨rfl, h4, g4⟩
  have M4 := Lib.hid (M3.out.call hlt h4 g4); clear h4 g4 p3
  obtain ⟨q, hq⟩ : ∃ q, q = rectS s.data.toList (beginS s.data.toList qClip σ).2 := ⟨_, rfl⟩
  rw [← hq] at M4 ⊢
  have HQ := Lib.hid hq; clear hq
  obtain ⟨⟨qx, qy', qw', qh'⟩, τ⟩ := q
  have hA : Below w4.heap.size w4 (w4.alloc (.cells (SC ⟨4, ⟨qx, qy', qw', qh'⟩, C0, C0, [], 0⟩) 31)) := (Below.refl w4.heap.size w4).alloc (Nat.le_refl _) _
  have M5 : Hid (MidS w (w4.alloc (.cells (SC ⟨4, ⟨qx, qy', qw', qh'⟩, C0, C0, [], 0⟩) 31)) s g τ) := Lib.hid (M4.out.below hA)
  have L5 : Hid (BlkV (w4.alloc (.cells (SC ⟨4, ⟨qx, qy', qw', qh'⟩, C0, C0, [], 0⟩) 31)) w4.heap.size 31 (SC ⟨4, ⟨qx, qy', qw', qh'⟩, C0, C0, [], 0⟩)) := Lib.hid (blkV_new _ _ _)
  have hL0 : w.heap.size + 1 < w4.heap.size := M4.out.res.lt
  clear hA
  have eS : SC ⟨4, ⟨qx, qy', qw', qh'⟩, C0, C0, [], 0⟩ = #[.int .u8 4, .int .i64 qx, .int .i64 qy', .int .i64 qw', .int .i64 qh', .int .u8 0, .int .u8 0, .int .u8 0, .int .u8 0, .int .u8 0, .int .u8 0, .int .u8 0, .int .u8 0, .string ⟨#[]⟩, .int .i64 0] := rfl
  have p5 := M5.out.ptr
  rw [eS] at p5
  have ES := Lib.hid eS; clear eS
  simp only [RV]
  go_wp2_with fail
  rw [← ES.out]
  rw [← ES.out] at p5
  generalize w4.alloc (.cells (SC ⟨4, ⟨qx, qy', qw', qh'⟩, C0, C0, [], 0⟩) 31) = w5 at M5 L5 p5 ⊢
  refine (vfield_any s ⟨#[34, 32, 110, 61, 34]⟩ g τ _ (by omega) (by decide) (HG.out.grow M5.out.old hG) hG M5.out.rd).mono ?_
  rintro e w6 ⟨rfl, h6, g6⟩
  have L6 := Lib.hid (L5.out.same (g6.block _ L5.out.lt (by intro e; exact absurd (Option.some.inj e) (by omega))))
  have M6 := Lib.hid (M5.out.call hlt h6 g6); clear h6 g6 p5
  rw [show (⟨#[34, 32, 110, 61, 34]⟩ : ByteArray).data.toList = qn from rfl] at M6 ⊢
  obtain ⟨z, hz⟩ : ∃ z, z = fieldS s.data.toList qn τ := ⟨_, rfl⟩
  rw [← hz] at M6 ⊢
  have HZ := Lib.hid hz; clear hz
  have p6 := M6.out.ptr
  have e14 : w6.cell? ⟨w4.heap.size, 14, none⟩ = some (.int .i64 0) := (L6.out.cell 14).trans rfl
  have x14 := L6.out.free 14
  have nn : ¬ w.heap.size = w4.heap.size := by omega
  go_wp2_with fail
  have M7 := Lib.hid (M6.out.store L6.out hL0 14 (.int .i64 z.1))
  have L7 : Hid (BlkV (w6.setCell ⟨w4.heap.size, 14, none⟩ (.int .i64 z.1)) w4.heap.size 31 (SC ⟨4, ⟨qx, qy', qw', qh'⟩, C0, C0, [], z.1⟩)) := Lib.hid (L6.out.set 14 _)
  have p7 := M7.out.ptr
  clear e14 x14 p6
  generalize w6.setCell ⟨w4.heap.size, 14, none⟩ (.int .i64 z.1) = w7 at M7 L7 p7 ⊢
  refine (vfixed_any s ⟨#[34, 62, 10]⟩ g z.2 _ (by omega) (by decide) M7.out.rd).mono ?_
  rintro e w8 ⟨rfl, h8, g8⟩
  have L8 := Lib.hid (L7.out.same (g8.block _ L7.out.lt (by intro e; exact absurd (Option.some.inj e) (by omega))))
  have M8 := Lib.hid (M7.out.call hlt h8 g8); clear h8 g8 p7
  rw [show (⟨#[34, 62, 10]⟩ : ByteArray).data.toList = qOpen from rfl] at M8
  have hres : strokeS s.data.toList σ = (⟨4, ⟨qx, qy', qw', qh'⟩, C0, C0, [], z.1⟩, fixS s.data.toList qOpen z.2) := by
    unfold strokeS; rw [if_neg (by rw [H1.out]; decide), if_pos H2.out]; simp only; rw [← HQ.out, HZ.out]
  have HRES := Lib.hid hres; clear hres
  have cells := L8.out.cell
  have rc := M8.out.res.cell
  have rf := M8.out.res.free
  have c0 : w8.cell? ⟨w4.heap.size, 0, none⟩ = some (.int .u8 4) := (cells 0).trans rfl
  have c1 : w8.cell? ⟨w4.heap.size, 1, none⟩ = some (.int .i64 qx) := (cells 1).trans rfl
  have c2 : w8.cell? ⟨w4.heap.size, 2, none⟩ = some (.int .i64 qy') := (cells 2).trans rfl
  have c3 : w8.cell? ⟨w4.heap.size, 3, none⟩ = some (.int .i64 qw') := (cells 3).trans rfl
  have c4 : w8.cell? ⟨w4.heap.size, 4, none⟩ = some (.int .i64 qh') := (cells 4).trans rfl
  have c5 : w8.cell? ⟨w4.heap.size, 5, none⟩ = some (.int .u8 0) := (cells 5).trans rfl
  have c6 : w8.cell? ⟨w4.heap.size, 6, none⟩ = some (.int .u8 0) := (cells 6).trans rfl
  have c7 : w8.cell? ⟨w4.heap.size, 7, none⟩ = some (.int .u8 0) := (cells 7).trans rfl
  have c8 : w8.cell? ⟨w4.heap.size, 8, none⟩ = some (.int .u8 0) := (cells 8).trans rfl
  have c9 : w8.cell? ⟨w4.heap.size, 9, none⟩ = some (.int .u8 0) := (cells 9).trans rfl
  have c10 : w8.cell? ⟨w4.heap.size, 10, none⟩ = some (.int .u8 0) := (cells 10).trans rfl
  have c11 : w8.cell? ⟨w4.heap.size, 11, none⟩ = some (.int .u8 0) := (cells 11).trans rfl
  have c12 : w8.cell? ⟨w4.heap.size, 12, none⟩ = some (.int .u8 0) := (cells 12).trans rfl
  have c13 : w8.cell? ⟨w4.heap.size, 13, none⟩ = some (.string ⟨#[]⟩) := (cells 13).trans rfl
  have c14 : w8.cell? ⟨w4.heap.size, 14, none⟩ = some (.int .i64 z.1) := (cells 14).trans rfl
  have d0 : w8.cell? ⟨w.heap.size + 1, 0, none⟩ = some (.int .u8 0) := (rc 0).trans rfl
  have f0 := rf 0
  have d1 : w8.cell? ⟨w.heap.size + 1, 1, none⟩ = some (.int .i64 0) := (rc 1).trans rfl
  have f1 := rf 1
  have d2 : w8.cell? ⟨w.heap.size + 1, 2, none⟩ = some (.int .i64 0) := (rc 2).trans rfl
  have f2 := rf 2
  have d3 : w8.cell? ⟨w.heap.size + 1, 3, none⟩ = some (.int .i64 0) := (rc 3).trans rfl
  have f3 := rf 3
  have d4 : w8.cell? ⟨w.heap.size + 1, 4, none⟩ = some (.int .i64 0) := (rc 4).trans rfl
  have f4 := rf 4
  have d5 : w8.cell? ⟨w.heap.size + 1, 5, none⟩ = some (.int .u8 0) := (rc 5).trans rfl
  have f5 := rf 5
  have d6 : w8.cell? ⟨w.heap.size + 1, 6, none⟩ = some (.int .u8 0) := (rc 6).trans rfl
  have f6 := rf 6
  have d7 : w8.cell? ⟨w.heap.size + 1, 7, none⟩ = some (.int .u8 0) := (rc 7).trans rfl
  have f7 := rf 7
  have d8 : w8.cell? ⟨w.heap.size + 1, 8, none⟩ = some (.int .u8 0) := (rc 8).trans rfl
  have f8 := rf 8
  have d9 : w8.cell? ⟨w.heap.size + 1, 9, none⟩ = some (.int .u8 0) := (rc 9).trans rfl
  have f9 := rf 9
  have d10 : w8.cell? ⟨w.heap.size + 1, 10, none⟩ = some (.int .u8 0) := (rc 10).trans rfl
  have f10 := rf 10
  have d11 : w8.cell? ⟨w.heap.size + 1, 11, none⟩ = some (.int .u8 0) := (rc 11).trans rfl
  have f11 := rf 11
  have d12 : w8.cell? ⟨w.heap.size + 1, 12, none⟩ = some (.int .u8 0) := (rc 12).trans rfl
  have f12 := rf 12
  have d13 : w8.cell? ⟨w.heap.size + 1, 13, none⟩ = some (.string ⟨#[]⟩) := (rc 13).trans rfl
  have f13 := rf 13
  have d14 : w8.cell? ⟨w.heap.size + 1, 14, none⟩ = some (.int .i64 0) := (rc 14).trans rfl
  have f14 := rf 14
  clear cells rc rf
  go_wp2_with fail
  have hS : BlkV (sput w8 (w.heap.size + 1) ⟨4, ⟨qx, qy', qw', qh'⟩, C0, C0, [], z.1⟩) (w.heap.size + 1) 31 (SC ⟨4, ⟨qx, qy', qw', qh'⟩, C0, C0, [], z.1⟩) := blkV_sput M8.out.res _
  have hI5 := isV_sput M8.out.rd M8.out.res ⟨4, ⟨qx, qy', qw', qh'⟩, C0, C0, [], z.1⟩
  have hG5 := grown_sput M8.out.old (w.heap.size + 1) (by omega) ⟨4, ⟨qx, qy', qw', qh'⟩, C0, C0, [], z.1⟩
  exact bodyPost_ret (res_stroke hS _ rfl) rfl ⟨by rw [HRES.out], by rw [HRES.out]; exact hI5, hG5⟩
end Go.Proofs.YtemiamajgjfnbaaGreatDoor
