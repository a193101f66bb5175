/- vector's reader: what a stroke begins with. -/
import Derived.Test.YtemiamajgjfnbaaGreatDoorVcO
namespace Go.Proofs.YtemiamajgjfnbaaGreatDoor
open Go.RowKit Vc
set_option linter.unusedVariables false
set_option linter.unusedSimpArgs false
/-- Does this stand there? Then it is taken. -/
def beginS (l p : Bytes) : RS → Bool × RS
  | .ok a => if Lib.hasPrefix (l.drop a) p = true then (true, .ok (a + p.length)) else (false, .ok a)
  | .bad q => (false, .bad q)
theorem hasPrefix_nil (p : ByteArray) (hp : 0 < p.size) : Lib.hasPrefix [] p.data.toList = false := by
  cases h : p.data.toList with
  | nil => have : p.data.toList.length = p.size := rfl; rw [h] at this; simp at this; omega
  | cons b r => rfl
set_option maxHeartbeats 1000000 in
theorem begins_any (s p : ByteArray) (g c : Nat) (σ : RS) (w : World) (hs : s.size ≤ 140737488351232) (hp : 0 < p.size) (hI : IsV w g s σ) (hc : BlkV w c 64 #[.pointer (some ⟨g, 0, none⟩)]) :
    Calls Tryz.prog 38 #[.string p, .pointer (some ⟨c, 0, none⟩)] w fun e w' => e = .returned (.bool (beginS s.data.toList p.data.toList σ).1) ∧ IsV w' g s (beginS s.data.toList p.data.toList σ).2 ∧ w.grownBy w' (some g) := by
  have hk : w.cell? ⟨c, 0, none⟩ = some (.pointer (some ⟨g, 0, none⟩)) := (hc.cell 0).trans rfl
  cases σ with
  | ok a =>
    have HI := Lib.hid hI; have HC := Lib.hid hc; clear hI hc
    cases hpre : Lib.hasPrefix (s.data.toList.drop a) p.data.toList with
    | true =>
      have hlen := hasPrefix_len _ _ hpre
      have hl1 : s.data.toList.length = s.size := rfl
      have hl2 : p.data.toList.length = p.size := rfl
      rw [List.length_drop] at hlen
      have hfix : beginS s.data.toList p.data.toList (.ok a) = (true, .ok (a + p.size)) := by unfold beginS; simp only; rw [if_pos hpre]; rfl
      have HFIX := Lib.hid hfix; have HPRE := Lib.hid hpre; clear hfix hpre
      go_enter Tryz.func38, Tryz.ntmps38
      go_wp2_with fail
      refine (vrest_ok s g a _ HI.out).mono ?_
      rintro e w1 ⟨rfl, n, rfl⟩
      have h2 : IsV (w.drewN n) g s (.ok a) := HI.out.drewN n
      have g2 := grown_drewN w n (some g)
      have hk2 : (w.drewN n).cell? ⟨c, 0, none⟩ = some (.pointer (some ⟨g, 0, none⟩)) := hk
      clear hk
      generalize w.drewN n = w2 at h2 g2 hk2 ⊢
      have hc1 := h2.2.cell1
      have hf1 := h2.2.free 1
      have H2 := Lib.hid h2; have G2 := Lib.hid g2; clear h2 g2
      go_wp2_with fail
      refine (hasPrefix_any (s.extract a s.size) p _).mono ?_
      rintro e w3 ⟨rfl, rfl⟩
      rw [Lib.extract_to_end, HPRE.out]
      go_wp2_with fail
      go_ret
      refine ⟨?_, ?_, grown_trans G2.out (grown_set _ _ _ _)⟩
      · rw [HFIX.out]; rfl
      · rw [HFIX.out]; exact ⟨by omega, H2.out.2.set1 _⟩
    | false =>
      have hfix : beginS s.data.toList p.data.toList (.ok a) = (false, .ok a) := by unfold beginS; simp only; rw [if_neg (by rw [hpre]; decide)]
      have HFIX := Lib.hid hfix; have HPRE := Lib.hid hpre; clear hfix hpre
      go_enter Tryz.func38, Tryz.ntmps38
      go_wp2_with fail
      refine (vrest_ok s g a _ HI.out).mono ?_
      rintro e w1 ⟨rfl, n, rfl⟩
      have H2 := Lib.hid (HI.out.drewN n)
      have G2 := Lib.hid (grown_drewN w n (some g))
      generalize w.drewN n = w2 at H2 G2 ⊢
      go_wp2_with fail
      refine (hasPrefix_any (s.extract a s.size) p _).mono ?_
      rintro e w3 ⟨rfl, rfl⟩
      rw [Lib.extract_to_end, HPRE.out]
      go_wp2_with fail
      go_ret
      refine ⟨?_, ?_, G2.out⟩
      · rw [HFIX.out]; rfl
      · rw [HFIX.out]; exact H2.out
  | bad q =>
    have HI := Lib.hid hI; have HC := Lib.hid hc; clear hI hc
    have HPRE := Lib.hid (hasPrefix_nil p hp)
    go_enter Tryz.func38, Tryz.ntmps38
    go_wp2_with fail
    refine (vrest_bad s g q _ HI.out).mono ?_
    rintro e w1 ⟨rfl, rfl⟩
    go_wp2_with fail
    refine (hasPrefix_any ⟨#[]⟩ p _).mono ?_
    rintro e w3 ⟨rfl, rfl⟩
    rw [show (⟨#[]⟩ : ByteArray).data.toList = [] from rfl, HPRE.out]
    go_wp2_with fail
    go_ret
    exact ⟨rfl, HI.out, grown_refl _ _⟩
end Go.Proofs.YtemiamajgjfnbaaGreatDoor
