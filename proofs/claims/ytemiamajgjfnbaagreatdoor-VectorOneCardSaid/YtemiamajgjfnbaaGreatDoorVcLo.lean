/- casementlaw16.VectorOne, walked. -/
import Derived.Test.YtemiamajgjfnbaaGreatDoorVcAl
namespace Go.Proofs.YtemiamajgjfnbaaGreatDoor
open Go.RowKit Vc
set_option linter.unusedVariables false
set_option linter.unusedSimpArgs false
set_option maxHeartbeats 4000000 in
set_option maxRecDepth 20000 in
theorem law_one (s : ByteArray) (w : World) (hg : Glob w) :
    Calls Tryz.prog 4 #[.string s] w fun e w' => e = .returned (.bool true) ∧ Below w.heap.size w w' := by
  have HG := Lib.hid hg; clear hg
  have hlaw := one_law s.data.toList
  have HRD : Hid (∀ w, Glob w → Calls Tryz.prog 11 #[.string s] w (ReadPost s w)) := Lib.hid fun w hg => read_any s w hg
  unfold ReadPost at HRD
  obtain ⟨R, hR⟩ : ∃ R, R = readP s.data.toList := ⟨_, rfl⟩
  rw [← hR] at hlaw HRD
  clear hR
  obtain ⟨L, ⟨za, zb⟩, A, E⟩ := R
  simp only at hlaw HRD
  have hsl : s.data.toList.length = s.size := rfl
  rw [hsl] at hlaw
  go_enter Tryz.func4, Tryz.ntmps4
  go_upto_region 2 with (go_at_call 10; refine (alive_any _ HG.out).mono ?_; rintro e w1 ⟨rfl, hb⟩; have W1 := Lib.hid hb; clear hb)
  go_upto_region 3 with (go_at_call 11; refine (HRD.out _ (HG.out.below HG.out.size W1.out)).mono ?_; rintro e w2 ⟨v, rfl, hl, hb⟩; have W2 := Lib.hid (W1.out.trans (hb.mono W1.out.size)); have L2 := Lib.hid hl; clear hb; obtain ⟨p, c, rfl, hl⟩ := hl; clear hl)
  have hb3 := (Below.refl w2.heap.size w2).alloc (Nat.le_refl _) (.cells #[.int .i64 za, .int .i64 zb] 23)
  have L3 := Lib.hid (L2.out.below hb3)
  have Z3 := Lib.hid (blkV_new w2 23 #[.int .i64 za, .int .i64 zb])
  have W3 := Lib.hid (W2.out.trans (hb3.mono W2.out.size))
  clear hb3
  generalize w2.alloc (.cells #[.int .i64 za, .int .i64 zb] 23) = w3 at L3 Z3 W3 ⊢
  generalize w2.heap.size = zz at Z3 ⊢
  have z0 : w3.cell? ⟨zz, 0, none⟩ = some (.int .i64 za) := (Z3.out.cell 0).trans rfl
  have z1 : w3.cell? ⟨zz, 1, none⟩ = some (.int .i64 zb) := (Z3.out.cell 1).trans rfl
  rcases hlaw with ⟨h1, h2, h3, h4, h5⟩ | ⟨h1, h2, h3⟩
  · have g1 : (E == 0) = false := by simpa using h1
    cases h5
    subst h4
    clear h1
    go_wp2_with fail
    go_ret
    exact ⟨rfl, W3.out⟩
  · subst h1
    subst h3
    have HTX : Hid (∀ v w, IsL w v L → Glob w → Calls Tryz.prog 6 #[v, .agg #[.int .i64 za, .int .i64 zb]] w fun e w' => e = .returned (.tuple #[.string s, .int .i64 0]) ∧ Below w.heap.size w w') :=
      Lib.hid fun v w h hg => by
        have := text_any v L za zb w h hg
        rw [h2] at this
        have hb : bt s.data.toList = s := bstr s
        rw [hb] at this
        exact this
    clear h2
    go_wp2_with (go_at_call 6; refine (HTX.out _ _ L3.out (HG.out.below HG.out.size W3.out)).mono ?_; rintro e w4 ⟨rfl, hb⟩; have W4 := Lib.hid (W3.out.trans (hb.mono W3.out.size)); clear hb z0 z1)
    go_ret
    exact ⟨rfl, W4.out⟩
end Go.Proofs.YtemiamajgjfnbaaGreatDoor
