/- vector's reader: stroke's way 'frame'. -/
import Derived.Test.YtemiamajgjfnbaaGreatDoorVcX0
namespace Go.Proofs.YtemiamajgjfnbaaGreatDoor
open Go.RowKit Vc
set_option linter.unusedVariables false
set_option linter.unusedSimpArgs false
set_option maxHeartbeats 1000000 in
theorem vstroke_frame (s : ByteArray) (g : Nat) (σ : RS) (w : World) (hs : s.size ≤ 4294967280) (hg : Glob w) (hG : 9 ≤ g) (hI : IsV w g s σ) (h1 : (beginS s.data.toList qClipEnd σ).1 = false) (h2 : (beginS s.data.toList qClip σ).1 = false) (h3 : (beginS s.data.toList qFill σ).1 = false) (h4 : (beginS s.data.toList qFrame σ).1 = true) :
    Calls Tryz.prog 27 #[.pointer (some ⟨g, 0, none⟩)] w fun e w' => e = .returned (SV (strokeS s.data.toList σ).1) ∧ IsV w' g s (strokeS s.data.toList σ).2 ∧ w.grownBy w' (some g) := by
  have hlt := hI.lt
  have HG := Lib.hid hg; clear hg
  have HI := Lib.hid hI; clear hI
  have HB1 := Lib.hid (begin_false _ _ _ h1)
  have H1 := Lib.hid h1; clear h1
  have HB2 := Lib.hid (begin_false _ _ _ h2)
  have H2 := Lib.hid h2; clear h2
  have HB3 := Lib.hid (begin_false _ _ _ h3)
  have H3 := Lib.hid h3; clear h3
  have H4 := Lib.hid h4; clear h4
  have hmf : ∀ (fn : Fn) (first cap : Array Value) (w : World), (Instr.makeFunc fn first cap).run Tryz.prog w = .ok (.func fn first cap) w := fun _ _ _ _ => rfl
  go_enter Tryz.func27, Tryz.ntmps27
  go_wp2_with fail
  have hA : Below w.heap.size w ((w.alloc (.cells #[.pointer (some ⟨g, 0, none⟩)] 64)).alloc (.cells (SC S0) 31)) :=
    ((Below.refl w.heap.size w).alloc (Nat.le_refl _) _).alloc (by simp) _
  have M0 : Hid (MidS w ((w.alloc (.cells #[.pointer (some ⟨g, 0, none⟩)] 64)).alloc (.cells (SC S0) 31)) s g σ) :=
    Lib.hid ⟨HI.out.below hA, alloc_at1 w _ _, alloc_at2 w _ _, grown_below hA _⟩
  clear hA
  have eS : SC S0 = #[.int .u8 0, .int .i64 0, .int .i64 0, .int .i64 0, .int .i64 0, .int .u8 0, .int .u8 0, .int .u8 0, .int .u8 0, .int .u8 0, .int .u8 0, .int .u8 0, .int .u8 0, .string ⟨#[]⟩, .int .i64 0] := rfl
  rw [eS] at M0
  clear eS
  generalize (w.alloc (.cells #[.pointer (some ⟨g, 0, none⟩)] 64)).alloc (.cells #[.int .u8 0, .int .i64 0, .int .i64 0, .int .i64 0, .int .i64 0, .int .u8 0, .int .u8 0, .int .u8 0, .int .u8 0, .int .u8 0, .int .u8 0, .int .u8 0, .int .u8 0, .string ⟨#[]⟩, .int .i64 0] 31) = w1 at M0 ⊢
  refine (begins_any s ⟨#[60, 47, 99, 108, 105, 112, 32, 110, 61, 34]⟩ g w.heap.size σ _ (by omega) (by decide) M0.out.rd M0.out.box).mono ?_
  rintro e w2 ⟨rfl, hh, gg⟩
  have M1 := Lib.hid (M0.out.call hlt hh gg); clear hh gg
  rw [show (⟨#[60, 47, 99, 108, 105, 112, 32, 110, 61, 34]⟩ : ByteArray).data.toList = qClipEnd from rfl] at M1 ⊢
  rw [H1.out]
  rw [HB1.out] at M1
  have p1 := M1.out.ptr
  go_wp2_with fail
  refine (begins_any s ⟨#[60, 99, 108, 105, 112, 32, 120, 61, 34]⟩ g w.heap.size σ _ (by omega) (by decide) M1.out.rd M1.out.box).mono ?_
  rintro e w3 ⟨rfl, hh, gg⟩
  have M2 := Lib.hid (M1.out.call hlt hh gg); clear hh gg p1
  rw [show (⟨#[60, 99, 108, 105, 112, 32, 120, 61, 34]⟩ : ByteArray).data.toList = qClip from rfl] at M2 ⊢
  rw [H2.out]
  rw [HB2.out] at M2
  have p2 := M2.out.ptr
  have hA : Below w3.heap.size w3 (w3.alloc (.cells (SC ⟨3, R0, C0, C0, [], 0⟩) 31)) := (Below.refl w3.heap.size w3).alloc (Nat.le_refl _) _
  have L3 : Hid (MidL w (w3.alloc (.cells (SC ⟨3, R0, C0, C0, [], 0⟩) 31)) s g w3.heap.size σ ⟨3, R0, C0, C0, [], 0⟩) := Lib.hid ⟨M2.out.below hA, blkV_new _ _ _, M2.out.res.lt⟩
  have hL0 : w.heap.size + 1 < w3.heap.size := M2.out.res.lt
  have nn : ¬ w.heap.size = w3.heap.size := by omega
  have box3 : Hid (BlkV (w3.alloc (.cells (SC ⟨3, R0, C0, C0, [], 0⟩) 31)) w.heap.size 64 #[.pointer (some ⟨g, 0, none⟩)]) := Lib.hid L3.out.m.box
  clear hA box3 M0 M1
  have eS : SC ⟨3, R0, C0, C0, [], 0⟩ = #[.int .u8 3, .int .i64 0, .int .i64 0, .int .i64 0, .int .i64 0, .int .u8 0, .int .u8 0, .int .u8 0, .int .u8 0, .int .u8 0, .int .u8 0, .int .u8 0, .int .u8 0, .string ⟨#[]⟩, .int .i64 0] := rfl
  have ES := Lib.hid eS; clear eS
  go_wp2_with fail
  rw [← ES.out]
  clear p2
  generalize w3.alloc (.cells (SC ⟨3, R0, C0, C0, [], 0⟩) 31) = w4 at L3 ⊢
  refine (begins_any s ⟨#[60, 102, 105, 108, 108, 32, 120, 61, 34]⟩ g w.heap.size σ _ (by omega) (by decide) L3.out.m.rd L3.out.m.box).mono ?_
  rintro e w5 ⟨rfl, hh, gg⟩
  have L4 := Lib.hid (L3.out.call hlt hh gg); clear hh gg L3
  rw [show (⟨#[60, 102, 105, 108, 108, 32, 120, 61, 34]⟩ : ByteArray).data.toList = qFill from rfl] at L4 ⊢
  rw [H3.out]
  rw [HB3.out] at L4
  have p4 := L4.out.m.ptr
  go_wp2_with fail
  refine (begins_any s ⟨#[60, 102, 114, 97, 109, 101, 32, 120, 61, 34]⟩ g w.heap.size σ _ (by omega) (by decide) L4.out.m.rd L4.out.m.box).mono ?_
  rintro e w6 ⟨rfl, hh, gg⟩
  have L5 := Lib.hid (L4.out.call hlt hh gg); clear hh gg L4 p4
  rw [show (⟨#[60, 102, 114, 97, 109, 101, 32, 120, 61, 34]⟩ : ByteArray).data.toList = qFrame from rfl] at L5 ⊢
  rw [H4.out]
  have e0 : w6.cell? ⟨w3.heap.size, 0, none⟩ = some (.int .u8 3) := (L5.out.l.cell 0).trans rfl
  have x0 := L5.out.l.free 0
  have p5 := L5.out.m.ptr
  go_wp2_with fail
  have L6 : Hid (MidL w (w6.setCell ⟨w3.heap.size, 0, none⟩ (.int .u8 2)) s g w3.heap.size _ ⟨2, R0, C0, C0, [], 0⟩) := Lib.hid (L5.out.store 0 (.int .u8 2) ⟨2, R0, C0, C0, [], 0⟩ rfl)
  clear e0 x0 p5 L5
  generalize (w6.setCell ⟨w3.heap.size, 0, none⟩ (.int .u8 2)) = w7 at L6 ⊢
  refine (vrect_any s g _ _ (by omega) (HG.out.grow L6.out.m.old hG) hG L6.out.m.rd).mono ?_
  rintro e w8 ⟨rfl, hh, gg⟩
  have L7 := Lib.hid (L6.out.call hlt hh gg); clear hh gg L6
  obtain ⟨q, hq⟩ : ∃ q, q = rectS s.data.toList (beginS s.data.toList qFrame σ).2 := ⟨_, rfl⟩
  rw [← hq] at L7 ⊢
  have Hq := Lib.hid hq; clear hq
  obtain ⟨⟨qx', qy', qw', qh'⟩, τ1⟩ := q
  simp only [RV]
  have e1 : w8.cell? ⟨w3.heap.size, 1, none⟩ = some (.int .i64 0) := (L7.out.l.cell 1).trans rfl
  have x1 := L7.out.l.free 1
  have e2 : w8.cell? ⟨w3.heap.size, 2, none⟩ = some (.int .i64 0) := (L7.out.l.cell 2).trans rfl
  have x2 := L7.out.l.free 2
  have e3 : w8.cell? ⟨w3.heap.size, 3, none⟩ = some (.int .i64 0) := (L7.out.l.cell 3).trans rfl
  have x3 := L7.out.l.free 3
  have e4 : w8.cell? ⟨w3.heap.size, 4, none⟩ = some (.int .i64 0) := (L7.out.l.cell 4).trans rfl
  have x4 := L7.out.l.free 4
  have p7 := L7.out.m.ptr
  go_wp2_with fail
  have L8 : Hid (MidL w ((((w8.setCell ⟨w3.heap.size, 1, none⟩ (.int .i64 qx')).setCell ⟨w3.heap.size, 2, none⟩ (.int .i64 qy')).setCell ⟨w3.heap.size, 3, none⟩ (.int .i64 qw')).setCell ⟨w3.heap.size, 4, none⟩ (.int .i64 qh')) s g w3.heap.size _ ⟨2, ⟨qx', qy', qw', qh'⟩, C0, C0, [], 0⟩) := Lib.hid ((((L7.out.store 1 (.int .i64 qx') ⟨2, ⟨qx', 0, 0, 0⟩, C0, C0, [], 0⟩ rfl).store 2 (.int .i64 qy') ⟨2, ⟨qx', qy', 0, 0⟩, C0, C0, [], 0⟩ rfl).store 3 (.int .i64 qw') ⟨2, ⟨qx', qy', qw', 0⟩, C0, C0, [], 0⟩ rfl).store 4 (.int .i64 qh') ⟨2, ⟨qx', qy', qw', qh'⟩, C0, C0, [], 0⟩ rfl)
  clear e1 x1 e2 x2 e3 x3 e4 x4 p7 L7
  generalize ((((w8.setCell ⟨w3.heap.size, 1, none⟩ (.int .i64 qx')).setCell ⟨w3.heap.size, 2, none⟩ (.int .i64 qy')).setCell ⟨w3.heap.size, 3, none⟩ (.int .i64 qw')).setCell ⟨w3.heap.size, 4, none⟩ (.int .i64 qh')) = w9 at L8 ⊢
  refine (vfixed_any s ⟨#[34, 32, 99, 61, 34]⟩ g _ _ (by omega) (by decide) L8.out.m.rd).mono ?_
  rintro e w10 ⟨rfl, hh, gg⟩
  have L9 := Lib.hid (L8.out.call hlt hh gg); clear hh gg L8
  rw [show (⟨#[34, 32, 99, 61, 34]⟩ : ByteArray).data.toList = qc from rfl] at L9
  have p9 := L9.out.m.ptr
  go_wp2_with fail
  refine (vcolour_any s g _ _ (by omega) L9.out.m.rd).mono ?_
  rintro e w11 ⟨rfl, hh, gg⟩
  have L10 := Lib.hid (L9.out.call hlt hh gg); clear hh gg L9 p9
  obtain ⟨c, hc⟩ : ∃ c, c = colS s.data.toList (fixS s.data.toList qc τ1) := ⟨_, rfl⟩
  rw [← hc] at L10 ⊢
  have Hc := Lib.hid hc; clear hc
  obtain ⟨⟨c1, c2, c3, c4⟩, τ2⟩ := c
  simp only [CV]
  have e5 : w11.cell? ⟨w3.heap.size, 5, none⟩ = some (.int .u8 0) := (L10.out.l.cell 5).trans rfl
  have x5 := L10.out.l.free 5
  have e6 : w11.cell? ⟨w3.heap.size, 6, none⟩ = some (.int .u8 0) := (L10.out.l.cell 6).trans rfl
  have x6 := L10.out.l.free 6
  have e7 : w11.cell? ⟨w3.heap.size, 7, none⟩ = some (.int .u8 0) := (L10.out.l.cell 7).trans rfl
  have x7 := L10.out.l.free 7
  have e8 : w11.cell? ⟨w3.heap.size, 8, none⟩ = some (.int .u8 0) := (L10.out.l.cell 8).trans rfl
  have x8 := L10.out.l.free 8
  have e0 : w11.cell? ⟨w3.heap.size, 0, none⟩ = some (.int .u8 2) := (L10.out.l.cell 0).trans rfl
  have p10 := L10.out.m.ptr
  go_wp2_with fail
  have L11 : Hid (MidL w ((((w11.setCell ⟨w3.heap.size, 5, none⟩ (.int .u8 (c1.toNat : Int))).setCell ⟨w3.heap.size, 6, none⟩ (.int .u8 (c2.toNat : Int))).setCell ⟨w3.heap.size, 7, none⟩ (.int .u8 (c3.toNat : Int))).setCell ⟨w3.heap.size, 8, none⟩ (.int .u8 (c4.toNat : Int))) s g w3.heap.size _ ⟨2, ⟨qx', qy', qw', qh'⟩, ⟨c1, c2, c3, c4⟩, C0, [], 0⟩) := Lib.hid ((((L10.out.store 5 (.int .u8 (c1.toNat : Int)) ⟨2, ⟨qx', qy', qw', qh'⟩, ⟨c1, 0, 0, 0⟩, C0, [], 0⟩ rfl).store 6 (.int .u8 (c2.toNat : Int)) ⟨2, ⟨qx', qy', qw', qh'⟩, ⟨c1, c2, 0, 0⟩, C0, [], 0⟩ rfl).store 7 (.int .u8 (c3.toNat : Int)) ⟨2, ⟨qx', qy', qw', qh'⟩, ⟨c1, c2, c3, 0⟩, C0, [], 0⟩ rfl).store 8 (.int .u8 (c4.toNat : Int)) ⟨2, ⟨qx', qy', qw', qh'⟩, ⟨c1, c2, c3, c4⟩, C0, [], 0⟩ rfl)
  clear e5 x5 e6 x6 e7 x7 e8 x8 e0 p10 L10
  generalize ((((w11.setCell ⟨w3.heap.size, 5, none⟩ (.int .u8 (c1.toNat : Int))).setCell ⟨w3.heap.size, 6, none⟩ (.int .u8 (c2.toNat : Int))).setCell ⟨w3.heap.size, 7, none⟩ (.int .u8 (c3.toNat : Int))).setCell ⟨w3.heap.size, 8, none⟩ (.int .u8 (c4.toNat : Int))) = w12 at L11 ⊢
  refine (vfield_any s ⟨#[34, 32, 110, 61, 34]⟩ g _ _ (by omega) (by decide) (HG.out.grow L11.out.m.old hG) hG L11.out.m.rd).mono ?_
  rintro e w13 ⟨rfl, hh, gg⟩
  have L12 := Lib.hid (L11.out.call hlt hh gg); clear hh gg L11
  rw [show (⟨#[34, 32, 110, 61, 34]⟩ : ByteArray).data.toList = qn from rfl] at L12 ⊢
  obtain ⟨z, hz⟩ : ∃ z, z = fieldS s.data.toList qn τ2 := ⟨_, rfl⟩
  rw [← hz] at L12 ⊢
  have Hz := Lib.hid hz; clear hz
  have e14 : w13.cell? ⟨w3.heap.size, 14, none⟩ = some (.int .i64 0) := (L12.out.l.cell 14).trans rfl
  have x14 := L12.out.l.free 14
  have p12 := L12.out.m.ptr
  go_wp2_with fail
  have L13 : Hid (MidL w (w13.setCell ⟨w3.heap.size, 14, none⟩ (.int .i64 z.1)) s g w3.heap.size _ ⟨2, ⟨qx', qy', qw', qh'⟩, ⟨c1, c2, c3, c4⟩, C0, [], z.1⟩) := Lib.hid (L12.out.store 14 (.int .i64 z.1) ⟨2, ⟨qx', qy', qw', qh'⟩, ⟨c1, c2, c3, c4⟩, C0, [], z.1⟩ rfl)
  clear e14 x14 p12 L12
  generalize (w13.setCell ⟨w3.heap.size, 14, none⟩ (.int .i64 z.1)) = w14 at L13 ⊢
  refine (vfixed_any s ⟨#[34, 47, 62, 10]⟩ g _ _ (by omega) (by decide) L13.out.m.rd).mono ?_
  rintro e w15 ⟨rfl, hh, gg⟩
  have L14 := Lib.hid (L13.out.call hlt hh gg); clear hh gg L13
  rw [show (⟨#[34, 47, 62, 10]⟩ : ByteArray).data.toList = qShut from rfl] at L14
  have hres : strokeS s.data.toList σ = (⟨2, ⟨qx', qy', qw', qh'⟩, ⟨c1, c2, c3, c4⟩, C0, [], z.1⟩, fixS s.data.toList qShut z.2) := by
    unfold strokeS; rw [if_neg (by rw [H1.out]; decide), if_neg (by rw [H2.out]; decide), if_neg (by rw [H3.out]; decide), if_pos H4.out]; exact bodyS_two (by decide) Hq.out Hc.out Hz.out
  have HRES := Lib.hid hres; clear hres
  have cells := L14.out.l.cell
  have rc := L14.out.m.res.cell
  have rf := L14.out.m.res.free
  have c0' : w15.cell? ⟨w3.heap.size, 0, none⟩ = some (.int .u8 2) := (cells 0).trans rfl
  have c1' : w15.cell? ⟨w3.heap.size, 1, none⟩ = some (.int .i64 qx') := (cells 1).trans rfl
  have c2' : w15.cell? ⟨w3.heap.size, 2, none⟩ = some (.int .i64 qy') := (cells 2).trans rfl
  have c3' : w15.cell? ⟨w3.heap.size, 3, none⟩ = some (.int .i64 qw') := (cells 3).trans rfl
  have c4' : w15.cell? ⟨w3.heap.size, 4, none⟩ = some (.int .i64 qh') := (cells 4).trans rfl
  have c5' : w15.cell? ⟨w3.heap.size, 5, none⟩ = some (.int .u8 (c1.toNat : Int)) := (cells 5).trans rfl
  have c6' : w15.cell? ⟨w3.heap.size, 6, none⟩ = some (.int .u8 (c2.toNat : Int)) := (cells 6).trans rfl
  have c7' : w15.cell? ⟨w3.heap.size, 7, none⟩ = some (.int .u8 (c3.toNat : Int)) := (cells 7).trans rfl
  have c8' : w15.cell? ⟨w3.heap.size, 8, none⟩ = some (.int .u8 (c4.toNat : Int)) := (cells 8).trans rfl
  have c9' : w15.cell? ⟨w3.heap.size, 9, none⟩ = some (.int .u8 0) := (cells 9).trans rfl
  have c10' : w15.cell? ⟨w3.heap.size, 10, none⟩ = some (.int .u8 0) := (cells 10).trans rfl
  have c11' : w15.cell? ⟨w3.heap.size, 11, none⟩ = some (.int .u8 0) := (cells 11).trans rfl
  have c12' : w15.cell? ⟨w3.heap.size, 12, none⟩ = some (.int .u8 0) := (cells 12).trans rfl
  have c13' : w15.cell? ⟨w3.heap.size, 13, none⟩ = some (.string ⟨#[]⟩) := (cells 13).trans rfl
  have c14' : w15.cell? ⟨w3.heap.size, 14, none⟩ = some (.int .i64 z.1) := (cells 14).trans rfl
  have d0' : w15.cell? ⟨w.heap.size + 1, 0, none⟩ = some (.int .u8 0) := (rc 0).trans rfl
  have f0 := rf 0
  have d1' : w15.cell? ⟨w.heap.size + 1, 1, none⟩ = some (.int .i64 0) := (rc 1).trans rfl
  have f1 := rf 1
  have d2' : w15.cell? ⟨w.heap.size + 1, 2, none⟩ = some (.int .i64 0) := (rc 2).trans rfl
  have f2 := rf 2
  have d3' : w15.cell? ⟨w.heap.size + 1, 3, none⟩ = some (.int .i64 0) := (rc 3).trans rfl
  have f3 := rf 3
  have d4' : w15.cell? ⟨w.heap.size + 1, 4, none⟩ = some (.int .i64 0) := (rc 4).trans rfl
  have f4 := rf 4
  have d5' : w15.cell? ⟨w.heap.size + 1, 5, none⟩ = some (.int .u8 0) := (rc 5).trans rfl
  have f5 := rf 5
  have d6' : w15.cell? ⟨w.heap.size + 1, 6, none⟩ = some (.int .u8 0) := (rc 6).trans rfl
  have f6 := rf 6
  have d7' : w15.cell? ⟨w.heap.size + 1, 7, none⟩ = some (.int .u8 0) := (rc 7).trans rfl
  have f7 := rf 7
  have d8' : w15.cell? ⟨w.heap.size + 1, 8, none⟩ = some (.int .u8 0) := (rc 8).trans rfl
  have f8 := rf 8
  have d9' : w15.cell? ⟨w.heap.size + 1, 9, none⟩ = some (.int .u8 0) := (rc 9).trans rfl
  have f9 := rf 9
  have d10' : w15.cell? ⟨w.heap.size + 1, 10, none⟩ = some (.int .u8 0) := (rc 10).trans rfl
  have f10 := rf 10
  have d11' : w15.cell? ⟨w.heap.size + 1, 11, none⟩ = some (.int .u8 0) := (rc 11).trans rfl
  have f11 := rf 11
  have d12' : w15.cell? ⟨w.heap.size + 1, 12, none⟩ = some (.int .u8 0) := (rc 12).trans rfl
  have f12 := rf 12
  have d13' : w15.cell? ⟨w.heap.size + 1, 13, none⟩ = some (.string ⟨#[]⟩) := (rc 13).trans rfl
  have f13 := rf 13
  have d14' : w15.cell? ⟨w.heap.size + 1, 14, none⟩ = some (.int .i64 0) := (rc 14).trans rfl
  have f14 := rf 14
  clear cells rc rf
  go_wp2_with fail
  have hS : BlkV (sput w15 (w.heap.size + 1) ⟨2, ⟨qx', qy', qw', qh'⟩, ⟨c1, c2, c3, c4⟩, C0, [], z.1⟩) (w.heap.size + 1) 31 (SC ⟨2, ⟨qx', qy', qw', qh'⟩, ⟨c1, c2, c3, c4⟩, C0, [], z.1⟩) := blkV_sput L14.out.m.res _
  have hI5 := isV_sput L14.out.m.rd L14.out.m.res ⟨2, ⟨qx', qy', qw', qh'⟩, ⟨c1, c2, c3, c4⟩, C0, [], z.1⟩
  have hG5 := grown_sput L14.out.m.old (w.heap.size + 1) (by omega) ⟨2, ⟨qx', qy', qw', qh'⟩, ⟨c1, c2, c3, c4⟩, C0, [], z.1⟩
  exact bodyPost_ret (res_stroke hS _ rfl) rfl ⟨by rw [HRES.out], by rw [HRES.out]; exact hI5, hG5⟩
end Go.Proofs.YtemiamajgjfnbaaGreatDoor
