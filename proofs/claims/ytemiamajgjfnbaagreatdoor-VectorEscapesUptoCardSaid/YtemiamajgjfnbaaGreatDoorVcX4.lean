/- vector's reader: stroke, whole. -/
import Derived.Test.YtemiamajgjfnbaaGreatDoorVcX1
import Derived.Test.YtemiamajgjfnbaaGreatDoorVcX2
import Derived.Test.YtemiamajgjfnbaaGreatDoorVcX3
namespace Go.Proofs.YtemiamajgjfnbaaGreatDoor
open Go.RowKit Vc
set_option linter.unusedVariables false
set_option linter.unusedSimpArgs false
theorem vstroke_any (s : ByteArray) (g : Nat) (σ : RS) (w : World) (hs : s.size ≤ 4294967280) (hg : Glob w) (hG : 9 ≤ g) (hI : IsV w g s σ) :
    Calls Tryz.prog 27 #[.pointer (some ⟨g, 0, none⟩)] w fun e w' => e = .returned (SV (strokeS s.data.toList σ).1) ∧ IsV w' g s (strokeS s.data.toList σ).2 ∧ w.grownBy w' (some g) := by
  cases h1 : (beginS s.data.toList qClipEnd σ).1 with
  | true => exact vstroke_open s g σ w hs hg hG hI h1
  | false =>
    cases h2 : (beginS s.data.toList qClip σ).1 with
    | true => exact vstroke_clip s g σ w hs hg hG hI h1 h2
    | false =>
      cases h3 : (beginS s.data.toList qFill σ).1 with
      | true => exact vstroke_fill s g σ w hs hg hG hI h1 h2 h3
      | false =>
        cases h4 : (beginS s.data.toList qFrame σ).1 with
        | true => exact vstroke_frame s g σ w hs hg hG hI h1 h2 h3 h4
        | false => exact vstroke_write s g σ w hs hg hG hI h1 h2 h3 h4
end Go.Proofs.YtemiamajgjfnbaaGreatDoor
