/- casementlaw16's fill, alive, wrong. -/
import Derived.Test.YtemiamajgjfnbaaGreatDoorVcRd
import Derived.Test.YtemiamajgjfnbaaGreatDoorVcTx
namespace Go.Proofs.YtemiamajgjfnbaaGreatDoor
open Go.RowKit Vc
set_option linter.unusedVariables false
set_option linter.unusedSimpArgs false
theorem res_fill {w : World} {b : Nat} {x : S} (h : BlkV w b 31 (SC x)) (tm : Array Value) (h2 : tm.getD 8 undef = .pointer (some ⟨b, 0, none⟩)) :
    (results Tryz.f22 tm).run Tryz.prog w = .ok (SV x) w := by
  have hl := load_stroke h
  have hr : Tryz.f22.results = #[.cell 8 31] := rfl
  simp only [results, hr]
  simp at h2
  simp [Sem.run_bind, Result.andThen, asAddr, h2, hl]
def fillX (x y a b : Int) : S := ⟨1, ⟨x, y, a, b⟩, ⟨255, 0, 0, 255⟩, C0, [], 0⟩
set_option maxHeartbeats 1000000 in
set_option maxRecDepth 20000 in
theorem fill_any (x y a b : Int) (w : World) :
    Calls Tryz.prog 22 #[.int .i64 x, .int .i64 y, .int .i64 a, .int .i64 b] w fun e w' => e = .returned (.agg #[.int .u8 1, .int .i64 x, .int .i64 y, .int .i64 a, .int .i64 b, .int .u8 255, .int .u8 0, .int .u8 0, .int .u8 255, .int .u8 0, .int .u8 0, .int .u8 0, .int .u8 0, .string ⟨#[]⟩, .int .i64 0]) ∧ Below w.heap.size w w' := by
  go_enter Tryz.func22, Tryz.ntmps22
  go_wp2_with fail
  exact bodyPost_ret (res_fill (x := fillX x y a b) (blkV_new w _ _) _ rfl) rfl ⟨rfl, (Below.refl _ _).alloc (Nat.le_refl _) _⟩
theorem isL_one {w : World} {b : Nat} {x : S} (h : BlkV w b 31 (SC x)) : IsL w (.slice (some ⟨b, 0, none⟩) 1 1) [x] :=
  ⟨some ⟨b, 0, none⟩, 1, rfl, fun i hi => ⟨b, 0, rfl, fun j hj => by
    have h0 : i = 0 := by simpa using hi
    subst h0
    rw [Nat.zero_mul, Nat.zero_add, h.cell]; rfl⟩⟩
set_option maxHeartbeats 4000000 in
set_option maxRecDepth 20000 in
theorem alive_any (w : World) (hg : Glob w) :
    Calls Tryz.prog 10 #[] w fun e w' => e = .returned (.bool true) ∧ Below w.heap.size w w' := by
  have HG := Lib.hid hg; clear hg
  have HT : Hid (∀ v w, IsL w v [redF] → Glob w → Calls Tryz.prog 6 #[v, .agg #[.int .i64 8, .int .i64 3]] w fun e w' => e = .returned (.tuple #[.string (bt aliveT), .int .i64 0]) ∧ Below w.heap.size w w') :=
    Lib.hid fun v w h hg => by have := text_any v [redF] 8 3 w h hg; rw [alive_text] at this; exact this
  have HR : Hid (∀ w, Glob w → Calls Tryz.prog 11 #[.string (bt aliveT)] w fun e w' => ∃ v, e = .returned (.tuple #[v, .agg #[.int .i64 8, .int .i64 3], .int .i64 0, .int .i64 0]) ∧ IsL w' v [redF] ∧ Below w.heap.size w w') :=
    Lib.hid fun w hg => (read_any (bt aliveT) w hg).mono fun e w' h => by
      have he : (bt aliveT).data.toList = aliveT := by simp [bt]
      obtain ⟨v, h1, h2, h3⟩ := h
      rw [he, alive_read] at h1 h2
      exact ⟨v, h1, h2, h3⟩
  obtain ⟨X, hX⟩ : ∃ X, X = bt aliveT := ⟨_, rfl⟩
  rw [← hX] at HT HR
  have HX := Lib.hid hX; clear hX
  go_enter Tryz.func10, Tryz.ntmps10
  have HF := Lib.hid (fill_any (-1) 0 4 4)
  go_upto_region 2 with (go_at_call 22; refine (HF.out _).mono ?_; rintro e w1 ⟨rfl, hb⟩; have W1 := Lib.hid hb; clear hb)
  go_upto_region 3 with fail
  have F2 : Hid (BlkV (w1.alloc (.cells #[.int .u8 1, .int .i64 (-1), .int .i64 0, .int .i64 4, .int .i64 4, .int .u8 255, .int .u8 0, .int .u8 0, .int .u8 255, .int .u8 0, .int .u8 0, .int .u8 0, .int .u8 0, .string ⟨#[]⟩, .int .i64 2] 31)) w1.heap.size 31 (SC redF)) := Lib.hid (blkV_new _ _ _)
  have W2 := Lib.hid (W1.out.alloc W1.out.size (.cells #[.int .u8 1, .int .i64 (-1), .int .i64 0, .int .i64 4, .int .i64 4, .int .u8 255, .int .u8 0, .int .u8 0, .int .u8 255, .int .u8 0, .int .u8 0, .int .u8 0, .int .u8 0, .string ⟨#[]⟩, .int .i64 2] 31))
  have hlt1 := W1.out.size
  generalize w1.alloc (.cells #[.int .u8 1, .int .i64 (-1), .int .i64 0, .int .i64 4, .int .i64 4, .int .u8 255, .int .u8 0, .int .u8 0, .int .u8 255, .int .u8 0, .int .u8 0, .int .u8 0, .int .u8 0, .string ⟨#[]⟩, .int .i64 2] 31) = w2 at F2 W2 ⊢
  generalize w1.heap.size = fb at F2 hlt1 ⊢
  have fc := F2.out.cell
  have e0 : w2.cell? ⟨fb, 0, none⟩ = some (.int .u8 1) := (fc 0).trans rfl
  have e1 : w2.cell? ⟨fb, 1, none⟩ = some (.int .i64 (-1)) := (fc 1).trans rfl
  have e2 : w2.cell? ⟨fb, 2, none⟩ = some (.int .i64 0) := (fc 2).trans rfl
  have e3 : w2.cell? ⟨fb, 3, none⟩ = some (.int .i64 4) := (fc 3).trans rfl
  have e4 : w2.cell? ⟨fb, 4, none⟩ = some (.int .i64 4) := (fc 4).trans rfl
  have e5 : w2.cell? ⟨fb, 5, none⟩ = some (.int .u8 255) := (fc 5).trans rfl
  have e6 : w2.cell? ⟨fb, 6, none⟩ = some (.int .u8 0) := (fc 6).trans rfl
  have e7 : w2.cell? ⟨fb, 7, none⟩ = some (.int .u8 0) := (fc 7).trans rfl
  have e8 : w2.cell? ⟨fb, 8, none⟩ = some (.int .u8 255) := (fc 8).trans rfl
  have e9 : w2.cell? ⟨fb, 9, none⟩ = some (.int .u8 0) := (fc 9).trans rfl
  have e10 : w2.cell? ⟨fb, 10, none⟩ = some (.int .u8 0) := (fc 10).trans rfl
  have e11 : w2.cell? ⟨fb, 11, none⟩ = some (.int .u8 0) := (fc 11).trans rfl
  have e12 : w2.cell? ⟨fb, 12, none⟩ = some (.int .u8 0) := (fc 12).trans rfl
  have e13 : w2.cell? ⟨fb, 13, none⟩ = some (.string ⟨#[]⟩) := (fc 13).trans rfl
  have e14 : w2.cell? ⟨fb, 14, none⟩ = some (.int .i64 2) := (fc 14).trans rfl
  clear fc
  have L3 : Hid (IsL (w2.alloc (.cells #[.int .u8 1, .int .i64 (-1), .int .i64 0, .int .i64 4, .int .i64 4, .int .u8 255, .int .u8 0, .int .u8 0, .int .u8 255, .int .u8 0, .int .u8 0, .int .u8 0, .int .u8 0, .string ⟨#[]⟩, .int .i64 2] 31)) (.slice (some ⟨w2.heap.size, 0, none⟩) 1 1) [redF]) := Lib.hid (isL_one (blkV_new w2 31 (SC redF)))
  have W3 := Lib.hid (W2.out.alloc W2.out.size (.cells #[.int .u8 1, .int .i64 (-1), .int .i64 0, .int .i64 4, .int .i64 4, .int .u8 255, .int .u8 0, .int .u8 0, .int .u8 255, .int .u8 0, .int .u8 0, .int .u8 0, .int .u8 0, .string ⟨#[]⟩, .int .i64 2] 31))
  have F3 := Lib.hid (F2.out.below ((Below.refl w2.heap.size w2).alloc (Nat.le_refl _) (.cells #[.int .u8 1, .int .i64 (-1), .int .i64 0, .int .i64 4, .int .i64 4, .int .u8 255, .int .u8 0, .int .u8 0, .int .u8 255, .int .u8 0, .int .u8 0, .int .u8 0, .int .u8 0, .string ⟨#[]⟩, .int .i64 2] 31)) F2.out.lt)
  go_upto_region 4 with (go_at_call 6; refine (HT.out _ _ L3.out (HG.out.below HG.out.size W3.out)).mono ?_; rintro e w4 ⟨rfl, hb⟩; have W4 := Lib.hid (W3.out.trans (hb.mono W3.out.size)); have F4 := Lib.hid (F3.out.below hb F3.out.lt); clear hb)
  clear e0 e1 e2 e3 e4 e5 e6 e7 e8 e9 e10 e11 e12 e13 e14
  go_upto_region 5 with (go_at_call 11; refine (HR.out _ (HG.out.below HG.out.size W4.out)).mono ?_; rintro e w5 ⟨v, rfl, hl, hb⟩; have W5 := Lib.hid (W4.out.trans (hb.mono W4.out.size)); have F5 := Lib.hid (F4.out.below hb F4.out.lt); have L5 := Lib.hid hl; clear hb; obtain ⟨p, c, rfl, hl⟩ := hl; clear hl)
  have hb6 := (Below.refl w5.heap.size w5).alloc (Nat.le_refl _) (.cells #[.int .i64 8, .int .i64 3] 23)
  have F6 := Lib.hid (F5.out.below hb6 F5.out.lt)
  have L6 := Lib.hid (L5.out.below hb6)
  have Z6 := Lib.hid (blkV_new w5 23 #[.int .i64 8, .int .i64 3])
  have W6 := Lib.hid (W5.out.trans (hb6.mono W5.out.size))
  clear hb6
  generalize w5.alloc (.cells #[.int .i64 8, .int .i64 3] 23) = w6 at F6 L6 Z6 W6 ⊢
  generalize w5.heap.size = zb at Z6 ⊢
  obtain ⟨p', c', hpc, hat⟩ := L6.out
  obtain ⟨b', o', hp, hj⟩ := hat 0 (by decide)
  cases hpc
  subst hp
  have fc := F6.out.cell
  have e0 : w6.cell? ⟨fb, 0, none⟩ = some (.int .u8 1) := (fc 0).trans rfl
  have e1 : w6.cell? ⟨fb, 1, none⟩ = some (.int .i64 (-1)) := (fc 1).trans rfl
  have e2 : w6.cell? ⟨fb, 2, none⟩ = some (.int .i64 0) := (fc 2).trans rfl
  have e3 : w6.cell? ⟨fb, 3, none⟩ = some (.int .i64 4) := (fc 3).trans rfl
  have e4 : w6.cell? ⟨fb, 4, none⟩ = some (.int .i64 4) := (fc 4).trans rfl
  have e5 : w6.cell? ⟨fb, 5, none⟩ = some (.int .u8 255) := (fc 5).trans rfl
  have e6 : w6.cell? ⟨fb, 6, none⟩ = some (.int .u8 0) := (fc 6).trans rfl
  have e7 : w6.cell? ⟨fb, 7, none⟩ = some (.int .u8 0) := (fc 7).trans rfl
  have e8 : w6.cell? ⟨fb, 8, none⟩ = some (.int .u8 255) := (fc 8).trans rfl
  have e9 : w6.cell? ⟨fb, 9, none⟩ = some (.int .u8 0) := (fc 9).trans rfl
  have e10 : w6.cell? ⟨fb, 10, none⟩ = some (.int .u8 0) := (fc 10).trans rfl
  have e11 : w6.cell? ⟨fb, 11, none⟩ = some (.int .u8 0) := (fc 11).trans rfl
  have e12 : w6.cell? ⟨fb, 12, none⟩ = some (.int .u8 0) := (fc 12).trans rfl
  have e13 : w6.cell? ⟨fb, 13, none⟩ = some (.string ⟨#[]⟩) := (fc 13).trans rfl
  have e14 : w6.cell? ⟨fb, 14, none⟩ = some (.int .i64 2) := (fc 14).trans rfl
  have g0 : w6.cell? ⟨b', o', none⟩ = some (.int .u8 1) := (hj 0 (by decide)).trans rfl
  have g1 : w6.cell? ⟨b', o' + 1, none⟩ = some (.int .i64 (-1)) := (hj 1 (by decide)).trans rfl
  have g2 : w6.cell? ⟨b', o' + 2, none⟩ = some (.int .i64 0) := (hj 2 (by decide)).trans rfl
  have g3 : w6.cell? ⟨b', o' + 3, none⟩ = some (.int .i64 4) := (hj 3 (by decide)).trans rfl
  have g4 : w6.cell? ⟨b', o' + 4, none⟩ = some (.int .i64 4) := (hj 4 (by decide)).trans rfl
  have g5 : w6.cell? ⟨b', o' + 5, none⟩ = some (.int .u8 255) := (hj 5 (by decide)).trans rfl
  have g6 : w6.cell? ⟨b', o' + 6, none⟩ = some (.int .u8 0) := (hj 6 (by decide)).trans rfl
  have g7 : w6.cell? ⟨b', o' + 7, none⟩ = some (.int .u8 0) := (hj 7 (by decide)).trans rfl
  have g8 : w6.cell? ⟨b', o' + 8, none⟩ = some (.int .u8 255) := (hj 8 (by decide)).trans rfl
  have g9 : w6.cell? ⟨b', o' + 9, none⟩ = some (.int .u8 0) := (hj 9 (by decide)).trans rfl
  have g10 : w6.cell? ⟨b', o' + 10, none⟩ = some (.int .u8 0) := (hj 10 (by decide)).trans rfl
  have g11 : w6.cell? ⟨b', o' + 11, none⟩ = some (.int .u8 0) := (hj 11 (by decide)).trans rfl
  have g12 : w6.cell? ⟨b', o' + 12, none⟩ = some (.int .u8 0) := (hj 12 (by decide)).trans rfl
  have g13 : w6.cell? ⟨b', o' + 13, none⟩ = some (.string ⟨#[]⟩) := (hj 13 (by decide)).trans rfl
  have g14 : w6.cell? ⟨b', o' + 14, none⟩ = some (.int .i64 2) := (hj 14 (by decide)).trans rfl
  have z0 : w6.cell? ⟨zb, 0, none⟩ = some (.int .i64 8) := (Z6.out.cell 0).trans rfl
  have z1 : w6.cell? ⟨zb, 1, none⟩ = some (.int .i64 3) := (Z6.out.cell 1).trans rfl
  clear fc hj hat
  have hXl : (X.toList == ([60, 115, 104, 97, 112, 101, 115, 32, 119, 61, 34, 56, 34, 32, 104, 61, 34, 51, 34, 62, 10, 60, 102, 105, 108, 108, 32, 120, 61, 34, 45, 49, 34, 32, 121, 61, 34, 48, 34, 32, 119, 61, 34, 52, 34, 32, 104, 61, 34, 52, 34, 32, 99, 61, 34, 35, 102, 48, 48, 34, 32, 110, 61, 34, 50, 34, 47, 62, 10, 60, 47, 115, 104, 97, 112, 101, 115, 62, 10] : List UInt8)) = true := by rw [HX.out, bt_list]; decide +kernel
  go_wp2_with fail
  go_quiet (fail)
  go_wp2_with fail
  go_ret
  exact ⟨rfl, below_drewN' W6.out nq⟩
end Go.Proofs.YtemiamajgjfnbaaGreatDoor
