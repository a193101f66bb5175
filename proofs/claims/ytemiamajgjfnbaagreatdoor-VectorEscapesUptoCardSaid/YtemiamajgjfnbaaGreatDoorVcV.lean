/- vector's reader: stroke's first way. -/
import Derived.Test.YtemiamajgjfnbaaGreatDoorVcU
namespace Go.Proofs.YtemiamajgjfnbaaGreatDoor
open Go.RowKit Vc
set_option linter.unusedVariables false
set_option linter.unusedSimpArgs false
set_option maxHeartbeats 1000000 in
theorem vstroke_open (s : ByteArray) (g : Nat) (σ : RS) (w : World) (hs : s.size ≤ 4294967280) (hg : Glob w) (hG : 9 ≤ g) (hI : IsV w g s σ) (h1 : (beginS s.data.toList qClipEnd σ).1 = true) :
    Calls Tryz.prog 27 #[.pointer (some ⟨g, 0, none⟩)] w fun e w' => e = .returned (SV (strokeS s.data.toList σ).1) ∧ IsV w' g s (strokeS s.data.toList σ).2 ∧ w.grownBy w' (some g) := by
  have hlt := hI.lt
  have HG := Lib.hid hg; clear hg
  have HI := Lib.hid hI; clear hI
  have H1 := Lib.hid h1; clear h1
  have hmf : ∀ (fn : Fn) (first cap : Array Value) (w : World), (Instr.makeFunc fn first cap).run Tryz.prog w = .ok (.func fn first cap) w := fun _ _ _ _ => rfl
  go_enter Tryz.func27, Tryz.ntmps27
  go_wp2_with fail
  have hA : Below w.heap.size w ((w.alloc (.cells #[.pointer (some ⟨g, 0, none⟩)] 64)).alloc (.cells (SC S0) 31)) :=
    ((Below.refl w.heap.size w).alloc (Nat.le_refl _) _).alloc (by simp) _
  have M0 : Hid (MidS w ((w.alloc (.cells #[.pointer (some ⟨g, 0, none⟩)] 64)).alloc (.cells (SC S0) 31)) s g σ) :=
    Lib.hid ⟨HI.out.below hA, alloc_at1 w _ _, alloc_at2 w _ _, grown_below hA _⟩
  clear hA
  have eS : SC S0 = #[.int .u8 0, .int .i64 0, .int .i64 0, .int .i64 0, .int .i64 0, .int .u8 0, .int .u8 0, .int .u8 0, .int .u8 0, .int .u8 0, .int .u8 0, .int .u8 0, .int .u8 0, .string ⟨#[]⟩, .int .i64 0] := rfl
  rw [eS] at M0
  clear eS
  generalize (w.alloc (.cells #[.pointer (some ⟨g, 0, none⟩)] 64)).alloc (.cells #[.int .u8 0, .int .i64 0, .int .i64 0, .int .i64 0, .int .i64 0, .int .u8 0, .int .u8 0, .int .u8 0, .int .u8 0, .int .u8 0, .int .u8 0, .int .u8 0, .int .u8 0, .string ⟨#[]⟩, .int .i64 0] 31) = w1 at M0 ⊢
  refine (begins_any s ⟨#[60, 47, 99, 108, 105, 112, 32, 110, 61, 34]⟩ g w.heap.size σ _ (by omega) (by decide) M0.out.rd M0.out.box).mono ?_
  rintro e w2 ⟨rfl, h2, g2⟩
  have M1 := Lib.hid (M0.out.call hlt h2 g2); clear h2 g2
  rw [show (⟨#[60, 47, 99, 108, 105, 112, 32, 110, 61, 34]⟩ : ByteArray).data.toList = qClipEnd from rfl] at M1 ⊢
  rw [H1.out]
  have p1 := M1.out.ptr
  go_wp2_with fail
  refine (vnumber_any s g _ _ (by omega) (HG.out.grow M1.out.old hG) hG M1.out.rd).mono ?_
  rintro e w3 ⟨rfl, h3, g3⟩
  have M3 := Lib.hid (M1.out.call hlt h3 g3); clear h3 g3 p1
  obtain ⟨q, hq⟩ : ∃ q, q = Ev.numR s.data.toList (beginS s.data.toList qClipEnd σ).2 := ⟨_, rfl⟩
  rw [← hq] at M3 ⊢
  have HQ := Lib.hid hq; clear hq
  have hA : Below w3.heap.size w3 (w3.alloc (.cells (SC ⟨5, R0, C0, C0, [], q.1⟩) 31)) := (Below.refl w3.heap.size w3).alloc (Nat.le_refl _) _
  have M4 : Hid (MidS w (w3.alloc (.cells (SC ⟨5, R0, C0, C0, [], q.1⟩) 31)) s g q.2) := Lib.hid (M3.out.below hA)
  have L4 : Hid (BlkV (w3.alloc (.cells (SC ⟨5, R0, C0, C0, [], q.1⟩) 31)) w3.heap.size 31 (SC ⟨5, R0, C0, C0, [], q.1⟩)) := Lib.hid (blkV_new _ _ _)
  have hL0 : w.heap.size + 1 < w3.heap.size := M3.out.res.lt
  clear hA
  have eS : SC ⟨5, R0, C0, C0, [], q.1⟩ = #[.int .u8 5, .int .i64 0, .int .i64 0, .int .i64 0, .int .i64 0, .int .u8 0, .int .u8 0, .int .u8 0, .int .u8 0, .int .u8 0, .int .u8 0, .int .u8 0, .int .u8 0, .string ⟨#[]⟩, .int .i64 q.1] := rfl
  have p4 := M4.out.ptr
  rw [eS] at p4
  have ES := Lib.hid eS; clear eS
  go_wp2_with fail
  rw [← ES.out]
  rw [← ES.out] at p4
  generalize w3.alloc (.cells (SC ⟨5, R0, C0, C0, [], q.1⟩) 31) = w4 at M4 L4 p4 ⊢
  refine (vfixed_any s ⟨#[34, 62, 10]⟩ g q.2 _ (by omega) (by decide) M4.out.rd).mono ?_
  rintro e w5 ⟨rfl, h5, g5⟩
  have L5 := Lib.hid (L4.out.same (g5.block _ L4.out.lt (by intro e; exact absurd (Option.some.inj e) (by omega))))
  have M5 := Lib.hid (M4.out.call hlt h5 g5); clear h5 g5 p4
  rw [show (⟨#[34, 62, 10]⟩ : ByteArray).data.toList = qOpen from rfl] at M5
  have hres : strokeS s.data.toList σ = (⟨5, R0, C0, C0, [], q.1⟩, fixS s.data.toList qOpen q.2) := by
    unfold strokeS; rw [if_pos H1.out, ← HQ.out]
  have HRES := Lib.hid hres; clear hres
  have cells := L5.out.cell
  have rc := M5.out.res.cell
  have rf := M5.out.res.free
  have c0 : w5.cell? ⟨w3.heap.size, 0, none⟩ = some (.int .u8 5) := (cells 0).trans rfl
  have c1 : w5.cell? ⟨w3.heap.size, 1, none⟩ = some (.int .i64 0) := (cells 1).trans rfl
  have c2 : w5.cell? ⟨w3.heap.size, 2, none⟩ = some (.int .i64 0) := (cells 2).trans rfl
  have c3 : w5.cell? ⟨w3.heap.size, 3, none⟩ = some (.int .i64 0) := (cells 3).trans rfl
  have c4 : w5.cell? ⟨w3.heap.size, 4, none⟩ = some (.int .i64 0) := (cells 4).trans rfl
  have c5 : w5.cell? ⟨w3.heap.size, 5, none⟩ = some (.int .u8 0) := (cells 5).trans rfl
  have c6 : w5.cell? ⟨w3.heap.size, 6, none⟩ = some (.int .u8 0) := (cells 6).trans rfl
  have c7 : w5.cell? ⟨w3.heap.size, 7, none⟩ = some (.int .u8 0) := (cells 7).trans rfl
  have c8 : w5.cell? ⟨w3.heap.size, 8, none⟩ = some (.int .u8 0) := (cells 8).trans rfl
  have c9 : w5.cell? ⟨w3.heap.size, 9, none⟩ = some (.int .u8 0) := (cells 9).trans rfl
  have c10 : w5.cell? ⟨w3.heap.size, 10, none⟩ = some (.int .u8 0) := (cells 10).trans rfl
  have c11 : w5.cell? ⟨w3.heap.size, 11, none⟩ = some (.int .u8 0) := (cells 11).trans rfl
  have c12 : w5.cell? ⟨w3.heap.size, 12, none⟩ = some (.int .u8 0) := (cells 12).trans rfl
  have c13 : w5.cell? ⟨w3.heap.size, 13, none⟩ = some (.string ⟨#[]⟩) := (cells 13).trans rfl
  have c14 : w5.cell? ⟨w3.heap.size, 14, none⟩ = some (.int .i64 q.1) := (cells 14).trans rfl
  have d0 : w5.cell? ⟨w.heap.size + 1, 0, none⟩ = some (.int .u8 0) := (rc 0).trans rfl
  have f0 := rf 0
  have d1 : w5.cell? ⟨w.heap.size + 1, 1, none⟩ = some (.int .i64 0) := (rc 1).trans rfl
  have f1 := rf 1
  have d2 : w5.cell? ⟨w.heap.size + 1, 2, none⟩ = some (.int .i64 0) := (rc 2).trans rfl
  have f2 := rf 2
  have d3 : w5.cell? ⟨w.heap.size + 1, 3, none⟩ = some (.int .i64 0) := (rc 3).trans rfl
  have f3 := rf 3
  have d4 : w5.cell? ⟨w.heap.size + 1, 4, none⟩ = some (.int .i64 0) := (rc 4).trans rfl
  have f4 := rf 4
  have d5 : w5.cell? ⟨w.heap.size + 1, 5, none⟩ = some (.int .u8 0) := (rc 5).trans rfl
  have f5 := rf 5
  have d6 : w5.cell? ⟨w.heap.size + 1, 6, none⟩ = some (.int .u8 0) := (rc 6).trans rfl
  have f6 := rf 6
  have d7 : w5.cell? ⟨w.heap.size + 1, 7, none⟩ = some (.int .u8 0) := (rc 7).trans rfl
  have f7 := rf 7
  have d8 : w5.cell? ⟨w.heap.size + 1, 8, none⟩ = some (.int .u8 0) := (rc 8).trans rfl
  have f8 := rf 8
  have d9 : w5.cell? ⟨w.heap.size + 1, 9, none⟩ = some (.int .u8 0) := (rc 9).trans rfl
  have f9 := rf 9
  have d10 : w5.cell? ⟨w.heap.size + 1, 10, none⟩ = some (.int .u8 0) := (rc 10).trans rfl
  have f10 := rf 10
  have d11 : w5.cell? ⟨w.heap.size + 1, 11, none⟩ = some (.int .u8 0) := (rc 11).trans rfl
  have f11 := rf 11
  have d12 : w5.cell? ⟨w.heap.size + 1, 12, none⟩ = some (.int .u8 0) := (rc 12).trans rfl
  have f12 := rf 12
  have d13 : w5.cell? ⟨w.heap.size + 1, 13, none⟩ = some (.string ⟨#[]⟩) := (rc 13).trans rfl
  have f13 := rf 13
  have d14 : w5.cell? ⟨w.heap.size + 1, 14, none⟩ = some (.int .i64 0) := (rc 14).trans rfl
  have f14 := rf 14
  clear cells rc rf
  go_wp2_with fail
  have hS : BlkV (sput w5 (w.heap.size + 1) ⟨5, R0, C0, C0, [], q.1⟩) (w.heap.size + 1) 31 (SC ⟨5, R0, C0, C0, [], q.1⟩) := blkV_sput M5.out.res _
  have hI5 := isV_sput M5.out.rd M5.out.res ⟨5, R0, C0, C0, [], q.1⟩
  have hG5 := grown_sput M5.out.old (w.heap.size + 1) (by omega) ⟨5, R0, C0, C0, [], q.1⟩
  exact bodyPost_ret (res_stroke hS _ rfl) rfl ⟨by rw [HRES.out], by rw [HRES.out]; exact hI5, hG5⟩
end Go.Proofs.YtemiamajgjfnbaaGreatDoor
