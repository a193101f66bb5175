/- vector's reader: stroke's way 'fill'. -/
import Derived.Test.YtemiamajgjfnbaaGreatDoorVcX0
namespace Go.Proofs.YtemiamajgjfnbaaGreatDoor
open Go.RowKit Vc
set_option linter.unusedVariables false
set_option linter.unusedSimpArgs false
set_option maxHeartbeats 1000000 in
theorem vstroke_fill (s : ByteArray) (g : Nat) (σ : RS) (w : World) (hs : s.size ≤ 4294967280) (hg : Glob w) (hG : 9 ≤ g) (hI : IsV w g s σ) (h1 : (beginS s.data.toList qClipEnd σ).1 = false) (h2 : (beginS s.data.toList qClip σ).1 = false) (h3 : (beginS s.data.toList qFill σ).1 = true) :
    Calls Tryz.prog 27 #[.pointer (some ⟨g, 0, none⟩)] w fun e w' => e = .returned (SV (strokeS s.data.toList σ).1) ∧ IsV w' g s (strokeS s.data.toList σ).2 ∧ w.grownBy w' (some g) := by
  have hlt := hI.lt
  have HG := Lib.hid hg; clear hg
  have HI := Lib.hid hI; clear hI
  have HB1 := Lib.hid (begin_false _ _ _ h1)
  have H1 := Lib.hid h1; clear h1
  have HB2 := Lib.hid (begin_false _ _ _ h2)
  have H2 := Lib.hid h2; clear h2
  have H3 := Lib.hid h3; clear h3
  have hmf : ∀ (fn : Fn) (first cap : Array Value) (w : World), (Instr.makeFunc fn first cap).run Tryz.prog w = .ok (.func fn first cap) w := fun _ _ _ _ => rfl
  go_enter Tryz.func27, Tryz.ntmps27
  go_wp2_with fail
  have hA : Below w.heap.size w ((w.alloc (.cells #[.pointer (some ⟨g, 0, none⟩)] 64)).alloc (.cells (SC S0) 31)) :=
    ((Below.refl w.heap.size w).alloc (Nat.le_refl _) _).alloc (by simp) _
  have M0 : Hid (MidS w ((w.alloc (.cells #[.pointer (some ⟨g, 0, none⟩)] 64)).alloc (.cells (SC S0) 31)) s g σ) :=
    Lib.hid ⟨HI.out.below hA, alloc_at1 w _ _, alloc_at2 w _ _, grown_below hA _⟩
  clear hA
  have eS : SC S0 = #[.int .u8 0, .int .i64 0, .int .i64 0, .int .i64 0, .int .i64 0, .int .u8 0, .int .u8 0, .int .u8 0, .int .u8 0, .int .u8 0, .int .u8 0, .int .u8 0, .int .u8 0, .string ⟨#[]⟩, .int .i64 0] := rfl
  rw [eS] at M0
  clear eS
  generalize (w.alloc (.cells #[.pointer (some ⟨g, 0, none⟩)] 64)).alloc (.cells #[.int .u8 0, .int .i64 0, .int .i64 0, .int .i64 0, .int .i64 0, .int .u8 0, .int .u8 0, .int .u8 0, .int .u8 0, .int .u8 0, .int .u8 0, .int .u8 0, .int .u8 0, .string ⟨#[]⟩, .int .i64 0] 31) = w1 at M0 ⊢
  refine (begins_any s ⟨#[60, 47, 99, 108, 105, 112, 32, 110, 61, 34]⟩ g w.heap.size σ _ (by omega) (by decide) M0.out.rd M0.out.box).mono ?_
  rintro e w2 ⟨rfl, hh, gg⟩
  have M1 := Lib.hid (M0.out.call hlt hh gg); clear hh gg
  rw [show (⟨#[60, 47, 99, 108, 105, 112, 32, 110, 61, 34]⟩ : ByteArray).data.toList = qClipEnd from rfl] at M1 ⊢
  rw [H1.out]
  rw [HB1.out] at M1
  have p1 := M1.out.ptr
  go_wp2_with fail
  refine (begins_any s ⟨#[60, 99, 108, 105, 112, 32, 120, 61, 34]⟩ g w.heap.size σ _ (by omega) (by decide) M1.out.rd M1.out.box).mono ?_
  rintro e w3 ⟨rfl, hh, gg⟩
  have M2 := Lib.hid (M1.out.call hlt hh gg); clear hh gg p1
  rw [show (⟨#[60, 99, 108, 105, 112, 32, 120, 61, 34]⟩ : ByteArray).data.toList = qClip from rfl] at M2 ⊢
  rw [H2.out]
  rw [HB2.out] at M2
  have p2 := M2.out.ptr
  have hA : Below w3.heap.size w3 (w3.alloc (.cells (SC ⟨3, R0, C0, C0, [], 0⟩) 31)) := (Below.refl w3.heap.size w3).alloc (Nat.le_refl _) _
  have L3 : Hid (MidL w (w3.alloc (.cells (SC ⟨3, R0, C0, C0, [], 0⟩) 31)) s g w3.heap.size σ ⟨3, R0, C0, C0, [], 0⟩) := Lib.hid ⟨M2.out.below hA, blkV_new _ _ _, M2.out.res.lt⟩
  have hL0 : w.heap.size + 1 < w3.heap.size := M2.out.res.lt
  have nn : ¬ w.heap.size = w3.heap.size := by omega
  have box3 : Hid (BlkV (w3.alloc (.cells (SC ⟨3, R0, C0, C0, [], 0⟩) 31)) w.heap.size 64 #[.pointer (some ⟨g, 0, none⟩)]) := Lib.hid L3.out.m.box
  clear hA box3 M0 M1
  have eS : SC ⟨3, R0, C0, C0, [], 0⟩ = #[.int .u8 3, .int .i64 0, .int .i64 0, .int .i64 0, .int .i64 0, .int .u8 0, .int .u8 0, .int .u8 0, .int .u8 0, .int .u8 0, .int .u8 0, .int .u8 0, .int .u8 0, .string ⟨#[]⟩, .int .i64 0] := rfl
  have ES := Lib.hid eS; clear eS
  go_wp2_with fail
  rw [← ES.out]
  clear p2
  generalize w3.alloc (.cells (SC ⟨3, R0, C0, C0, [], 0⟩) 31) = w4 at L3 ⊢
  refine (begins_any s ⟨#[60, 102, 105, 108, 108, 32, 120, 61, 34]⟩ g w.heap.size σ _ (by omega) (by decide) L3.out.m.rd L3.out.m.box).mono ?_
  rintro e w5 ⟨rfl, hh, gg⟩
  have L4 := Lib.hid (L3.out.call hlt hh gg); clear hh gg L3
  rw [show (⟨#[60, 102, 105, 108, 108, 32, 120, 61, 34]⟩ : ByteArray).data.toList = qFill from rfl] at L4 ⊢
  rw [H3.out]
  have e0 : w5.cell? ⟨w3.heap.size, 0, none⟩ = some (.int .u8 3) := (L4.out.l.cell 0).trans rfl
  have x0 := L4.out.l.free 0
  have p4 := L4.out.m.ptr
  go_wp2_with fail
  have L5 : Hid (MidL w (w5.setCell ⟨w3.heap.size, 0, none⟩ (.int .u8 1)) s g w3.heap.size _ ⟨1, R0, C0, C0, [], 0⟩) := Lib.hid (L4.out.store 0 (.int .u8 1) ⟨1, R0, C0, C0, [], 0⟩ rfl)
  clear e0 x0 p4 L4
  generalize (w5.setCell ⟨w3.heap.size, 0, none⟩ (.int .u8 1)) = w6 at L5 ⊢
  refine (vrect_any s g _ _ (by omega) (HG.out.grow L5.out.m.old hG) hG L5.out.m.rd).mono ?_
  rintro e w7 ⟨rfl, hh, gg⟩
  have L6 := Lib.hid (L5.out.call hlt hh gg); clear hh gg L5
  obtain ⟨q, hq⟩ : ∃ q, q = rectS s.data.toList (beginS s.data.toList qFill σ).2 := ⟨_, rfl⟩
  rw [← hq] at L6 ⊢
  have Hq := Lib.hid hq; clear hq
  obtain ⟨⟨qx', qy', qw', qh'⟩, τ1⟩ := q
  simp only [RV]
  have e1 : w7.cell? ⟨w3.heap.size, 1, none⟩ = some (.int .i64 0) := (L6.out.l.cell 1).trans rfl
  have x1 := L6.out.l.free 1
  have e2 : w7.cell? ⟨w3.heap.size, 2, none⟩ = some (.int .i64 0) := (L6.out.l.cell 2).trans rfl
  have x2 := L6.out.l.free 2
  have e3 : w7.cell? ⟨w3.heap.size, 3, none⟩ = some (.int .i64 0) := (L6.out.l.cell 3).trans rfl
  have x3 := L6.out.l.free 3
  have e4 : w7.cell? ⟨w3.heap.size, 4, none⟩ = some (.int .i64 0) := (L6.out.l.cell 4).trans rfl
  have x4 := L6.out.l.free 4
  have p6 := L6.out.m.ptr
  go_wp2_with fail
  have L7 : Hid (MidL w ((((w7.setCell ⟨w3.heap.size, 1, none⟩ (.int .i64 qx')).setCell ⟨w3.heap.size, 2, none⟩ (.int .i64 qy')).setCell ⟨w3.heap.size, 3, none⟩ (.int .i64 qw')).setCell ⟨w3.heap.size, 4, none⟩ (.int .i64 qh')) s g w3.heap.size _ ⟨1, ⟨qx', qy', qw', qh'⟩, C0, C0, [], 0⟩) := Lib.hid ((((L6.out.store 1 (.int .i64 qx') ⟨1, ⟨qx', 0, 0, 0⟩, C0, C0, [], 0⟩ rfl).store 2 (.int .i64 qy') ⟨1, ⟨qx', qy', 0, 0⟩, C0, C0, [], 0⟩ rfl).store 3 (.int .i64 qw') ⟨1, ⟨qx', qy', qw', 0⟩, C0, C0, [], 0⟩ rfl).store 4 (.int .i64 qh') ⟨1, ⟨qx', qy', qw', qh'⟩, C0, C0, [], 0⟩ rfl)
  clear e1 x1 e2 x2 e3 x3 e4 x4 p6 L6
  generalize ((((w7.setCell ⟨w3.heap.size, 1, none⟩ (.int .i64 qx')).setCell ⟨w3.heap.size, 2, none⟩ (.int .i64 qy')).setCell ⟨w3.heap.size, 3, none⟩ (.int .i64 qw')).setCell ⟨w3.heap.size, 4, none⟩ (.int .i64 qh')) = w8 at L7 ⊢
  refine (vfixed_any s ⟨#[34, 32, 99, 61, 34]⟩ g _ _ (by omega) (by decide) L7.out.m.rd).mono ?_
  rintro e w9 ⟨rfl, hh, gg⟩
  have L8 := Lib.hid (L7.out.call hlt hh gg); clear hh gg L7
  rw [show (⟨#[34, 32, 99, 61, 34]⟩ : ByteArray).data.toList = qc from rfl] at L8
  have p8 := L8.out.m.ptr
  go_wp2_with fail
  refine (vcolour_any s g _ _ (by omega) L8.out.m.rd).mono ?_
  rintro e w10 ⟨rfl, hh, gg⟩
  have L9 := Lib.hid (L8.out.call hlt hh gg); clear hh gg L8 p8
  obtain ⟨c, hc⟩ : ∃ c, c = colS s.data.toList (fixS s.data.toList qc τ1) := ⟨_, rfl⟩
  rw [← hc] at L9 ⊢
  have Hc := Lib.hid hc; clear hc
  obtain ⟨⟨c1, c2, c3, c4⟩, τ2⟩ := c
  simp only [CV]
  have e5 : w10.cell? ⟨w3.heap.size, 5, none⟩ = some (.int .u8 0) := (L9.out.l.cell 5).trans rfl
  have x5 := L9.out.l.free 5
  have e6 : w10.cell? ⟨w3.heap.size, 6, none⟩ = some (.int .u8 0) := (L9.out.l.cell 6).trans rfl
  have x6 := L9.out.l.free 6
  have e7 : w10.cell? ⟨w3.heap.size, 7, none⟩ = some (.int .u8 0) := (L9.out.l.cell 7).trans rfl
  have x7 := L9.out.l.free 7
  have e8 : w10.cell? ⟨w3.heap.size, 8, none⟩ = some (.int .u8 0) := (L9.out.l.cell 8).trans rfl
  have x8 := L9.out.l.free 8
  have e0 : w10.cell? ⟨w3.heap.size, 0, none⟩ = some (.int .u8 1) := (L9.out.l.cell 0).trans rfl
  have p9 := L9.out.m.ptr
  go_wp2_with fail
  have L10 : Hid (MidL w ((((w10.setCell ⟨w3.heap.size, 5, none⟩ (.int .u8 (c1.toNat : Int))).setCell ⟨w3.heap.size, 6, none⟩ (.int .u8 (c2.toNat : Int))).setCell ⟨w3.heap.size, 7, none⟩ (.int .u8 (c3.toNat : Int))).setCell ⟨w3.heap.size, 8, none⟩ (.int .u8 (c4.toNat : Int))) s g w3.heap.size _ ⟨1, ⟨qx', qy', qw', qh'⟩, ⟨c1, c2, c3, c4⟩, C0, [], 0⟩) := Lib.hid ((((L9.out.store 5 (.int .u8 (c1.toNat : Int)) ⟨1, ⟨qx', qy', qw', qh'⟩, ⟨c1, 0, 0, 0⟩, C0, [], 0⟩ rfl).store 6 (.int .u8 (c2.toNat : Int)) ⟨1, ⟨qx', qy', qw', qh'⟩, ⟨c1, c2, 0, 0⟩, C0, [], 0⟩ rfl).store 7 (.int .u8 (c3.toNat : Int)) ⟨1, ⟨qx', qy', qw', qh'⟩, ⟨c1, c2, c3, 0⟩, C0, [], 0⟩ rfl).store 8 (.int .u8 (c4.toNat : Int)) ⟨1, ⟨qx', qy', qw', qh'⟩, ⟨c1, c2, c3, c4⟩, C0, [], 0⟩ rfl)
  clear e5 x5 e6 x6 e7 x7 e8 x8 e0 p9 L9
  generalize ((((w10.setCell ⟨w3.heap.size, 5, none⟩ (.int .u8 (c1.toNat : Int))).setCell ⟨w3.heap.size, 6, none⟩ (.int .u8 (c2.toNat : Int))).setCell ⟨w3.heap.size, 7, none⟩ (.int .u8 (c3.toNat : Int))).setCell ⟨w3.heap.size, 8, none⟩ (.int .u8 (c4.toNat : Int))) = w11 at L10 ⊢
  refine (vfield_any s ⟨#[34, 32, 110, 61, 34]⟩ g _ _ (by omega) (by decide) (HG.out.grow L10.out.m.old hG) hG L10.out.m.rd).mono ?_
  rintro e w12 ⟨rfl, hh, gg⟩
  have L11 := Lib.hid (L10.out.call hlt hh gg); clear hh gg L10
  rw [show (⟨#[34, 32, 110, 61, 34]⟩ : ByteArray).data.toList = qn from rfl] at L11 ⊢
  obtain ⟨z, hz⟩ : ∃ z, z = fieldS s.data.toList qn τ2 := ⟨_, rfl⟩
  rw [← hz] at L11 ⊢
  have Hz := Lib.hid hz; clear hz
  have e14 : w12.cell? ⟨w3.heap.size, 14, none⟩ = some (.int .i64 0) := (L11.out.l.cell 14).trans rfl
  have x14 := L11.out.l.free 14
  have p11 := L11.out.m.ptr
  go_wp2_with fail
  have L12 : Hid (MidL w (w12.setCell ⟨w3.heap.size, 14, none⟩ (.int .i64 z.1)) s g w3.heap.size _ ⟨1, ⟨qx', qy', qw', qh'⟩, ⟨c1, c2, c3, c4⟩, C0, [], z.1⟩) := Lib.hid (L11.out.store 14 (.int .i64 z.1) ⟨1, ⟨qx', qy', qw', qh'⟩, ⟨c1, c2, c3, c4⟩, C0, [], z.1⟩ rfl)
  clear e14 x14 p11 L11
  generalize (w12.setCell ⟨w3.heap.size, 14, none⟩ (.int .i64 z.1)) = w13 at L12 ⊢
  refine (vfixed_any s ⟨#[34, 47, 62, 10]⟩ g _ _ (by omega) (by decide) L12.out.m.rd).mono ?_
  rintro e w14 ⟨rfl, hh, gg⟩
  have L13 := Lib.hid (L12.out.call hlt hh gg); clear hh gg L12
  rw [show (⟨#[34, 47, 62, 10]⟩ : ByteArray).data.toList = qShut from rfl] at L13
  have hres : strokeS s.data.toList σ = (⟨1, ⟨qx', qy', qw', qh'⟩, ⟨c1, c2, c3, c4⟩, C0, [], z.1⟩, fixS s.data.toList qShut z.2) := by
    unfold strokeS; rw [if_neg (by rw [H1.out]; decide), if_neg (by rw [H2.out]; decide), if_pos H3.out]; exact bodyS_two (by decide) Hq.out Hc.out Hz.out
  have HRES := Lib.hid hres; clear hres
  have cells := L13.out.l.cell
  have rc := L13.out.m.res.cell
  have rf := L13.out.m.res.free
  have c0' : w14.cell? ⟨w3.heap.size, 0, none⟩ = some (.int .u8 1) := (cells 0).trans rfl
  have c1' : w14.cell? ⟨w3.heap.size, 1, none⟩ = some (.int .i64 qx') := (cells 1).trans rfl
  have c2' : w14.cell? ⟨w3.heap.size, 2, none⟩ = some (.int .i64 qy') := (cells 2).trans rfl
  have c3' : w14.cell? ⟨w3.heap.size, 3, none⟩ = some (.int .i64 qw') := (cells 3).trans rfl
  have c4' : w14.cell? ⟨w3.heap.size, 4, none⟩ = some (.int .i64 qh') := (cells 4).trans rfl
  have c5' : w14.cell? ⟨w3.heap.size, 5, none⟩ = some (.int .u8 (c1.toNat : Int)) := (cells 5).trans rfl
  have c6' : w14.cell? ⟨w3.heap.size, 6, none⟩ = some (.int .u8 (c2.toNat : Int)) := (cells 6).trans rfl
  have c7' : w14.cell? ⟨w3.heap.size, 7, none⟩ = some (.int .u8 (c3.toNat : Int)) := (cells 7).trans rfl
  have c8' : w14.cell? ⟨w3.heap.size, 8, none⟩ = some (.int .u8 (c4.toNat : Int)) := (cells 8).trans rfl
  have c9' : w14.cell? ⟨w3.heap.size, 9, none⟩ = some (.int .u8 0) := (cells 9).trans rfl
  have c10' : w14.cell? ⟨w3.heap.size, 10, none⟩ = some (.int .u8 0) := (cells 10).trans rfl
  have c11' : w14.cell? ⟨w3.heap.size, 11, none⟩ = some (.int .u8 0) := (cells 11).trans rfl
  have c12' : w14.cell? ⟨w3.heap.size, 12, none⟩ = some (.int .u8 0) := (cells 12).trans rfl
  have c13' : w14.cell? ⟨w3.heap.size, 13, none⟩ = some (.string ⟨#[]⟩) := (cells 13).trans rfl
  have c14' : w14.cell? ⟨w3.heap.size, 14, none⟩ = some (.int .i64 z.1) := (cells 14).trans rfl
  have d0' : w14.cell? ⟨w.heap.size + 1, 0, none⟩ = some (.int .u8 0) := (rc 0).trans rfl
  have f0 := rf 0
  have d1' : w14.cell? ⟨w.heap.size + 1, 1, none⟩ = some (.int .i64 0) := (rc 1).trans rfl
  have f1 := rf 1
  have d2' : w14.cell? ⟨w.heap.size + 1, 2, none⟩ = some (.int .i64 0) := (rc 2).trans rfl
  have f2 := rf 2
  have d3' : w14.cell? ⟨w.heap.size + 1, 3, none⟩ = some (.int .i64 0) := (rc 3).trans rfl
  have f3 := rf 3
  have d4' : w14.cell? ⟨w.heap.size + 1, 4, none⟩ = some (.int .i64 0) := (rc 4).trans rfl
  have f4 := rf 4
  have d5' : w14.cell? ⟨w.heap.size + 1, 5, none⟩ = some (.int .u8 0) := (rc 5).trans rfl
  have f5 := rf 5
  have d6' : w14.cell? ⟨w.heap.size + 1, 6, none⟩ = some (.int .u8 0) := (rc 6).trans rfl
  have f6 := rf 6
  have d7' : w14.cell? ⟨w.heap.size + 1, 7, none⟩ = some (.int .u8 0) := (rc 7).trans rfl
  have f7 := rf 7
  have d8' : w14.cell? ⟨w.heap.size + 1, 8, none⟩ = some (.int .u8 0) := (rc 8).trans rfl
  have f8 := rf 8
  have d9' : w14.cell? ⟨w.heap.size + 1, 9, none⟩ = some (.int .u8 0) := (rc 9).trans rfl
  have f9 := rf 9
  have d10' : w14.cell? ⟨w.heap.size + 1, 10, none⟩ = some (.int .u8 0) := (rc 10).trans rfl
  have f10 := rf 10
  have d11' : w14.cell? ⟨w.heap.size + 1, 11, none⟩ = some (.int .u8 0) := (rc 11).trans rfl
  have f11 := rf 11
  have d12' : w14.cell? ⟨w.heap.size + 1, 12, none⟩ = some (.int .u8 0) := (rc 12).trans rfl
  have f12 := rf 12
  have d13' : w14.cell? ⟨w.heap.size + 1, 13, none⟩ = some (.string ⟨#[]⟩) := (rc 13).trans rfl
  have f13 := rf 13
  have d14' : w14.cell? ⟨w.heap.size + 1, 14, none⟩ = some (.int .i64 0) := (rc 14).trans rfl
  have f14 := rf 14
  clear cells rc rf
  go_wp2_with fail
  have hS : BlkV (sput w14 (w.heap.size + 1) ⟨1, ⟨qx', qy', qw', qh'⟩, ⟨c1, c2, c3, c4⟩, C0, [], z.1⟩) (w.heap.size + 1) 31 (SC ⟨1, ⟨qx', qy', qw', qh'⟩, ⟨c1, c2, c3, c4⟩, C0, [], z.1⟩) := blkV_sput L13.out.m.res _
  have hI5 := isV_sput L13.out.m.rd L13.out.m.res ⟨1, ⟨qx', qy', qw', qh'⟩, ⟨c1, c2, c3, c4⟩, C0, [], z.1⟩
  have hG5 := grown_sput L13.out.m.old (w.heap.size + 1) (by omega) ⟨1, ⟨qx', qy', qw', qh'⟩, ⟨c1, c2, c3, c4⟩, C0, [], z.1⟩
  exact bodyPost_ret (res_stroke hS _ rfl) rfl ⟨by rw [HRES.out], by rw [HRES.out]; exact hI5, hG5⟩
end Go.Proofs.YtemiamajgjfnbaaGreatDoor
