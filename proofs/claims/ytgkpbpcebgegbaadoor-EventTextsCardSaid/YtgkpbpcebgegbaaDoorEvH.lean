/- The document's answer: kept, Check. -/
import Derived.Test.YtgkpbpcebgegbaaDoorEvU
import Derived.Test.YtgkpbpcebgegbaaDoorEvY
namespace Go.Proofs.YtgkpbpcebgegbaaDoor
open Go.RowKit Ev
set_option linter.unusedVariables false
set_option linter.unusedSimpArgs false

/-- An event with nothing but what its kind has. -/
def keptE (e : E) : E :=
  if e.kind = 1 then ⟨e.kind, 0, 0, 0, 0, e.name, e.mods, [], 0⟩
  else if e.kind = 2 then ⟨e.kind, 0, 0, 0, 0, [], 0, e.text, 0⟩
  else if e.kind = 3 ∨ e.kind = 4 ∨ e.kind = 6 then ⟨e.kind, e.ax, e.ay, 0, 0, [], 0, [], e.n⟩
  else if e.kind = 5 then ⟨e.kind, e.ax, e.ay, 0, 0, [], 0, [], 0⟩
  else if e.kind = 7 then ⟨e.kind, 0, 0, 0, 0, [], 0, [], e.n⟩
  else if e.kind = 8 then ⟨e.kind, 0, 0, e.sw, e.sh, [], 0, [], 0⟩
  else if e.kind = 9 ∨ e.kind = 10 then ⟨e.kind, e.ax, e.ay, 0, 0, [], 0, e.text, 0⟩
  else ⟨e.kind, 0, 0, 0, 0, [], 0, [], 0⟩
theorem res_kept {w : World} {r : Nat} {e : E} (h : Blk9 w r e) (tm : Array Value) (h2 : tm.getD 2 undef = .pointer (some ⟨r, 0, none⟩)) :
    (results Tryd.f29 tm).run Tryd.prog w = .ok (EV e) w := by
  have hl := load_ev h
  have hr : Tryd.f29.results = #[.cell 2 29] := rfl
  simp only [results, hr]
  simp at h2
  simp [Sem.run_bind, Result.andThen, asAddr, h2, hl]
set_option maxHeartbeats 4000000 in
set_option maxRecDepth 100000 in
theorem kept_1 (ax ay sw sh m n : Int) (nm tx : Bytes) (w : World) :
    Calls Tryd.prog 29 #[EV ⟨1, ax, ay, sw, sh, nm, m, tx, n⟩] w fun r w' => r = .returned (EV (keptE ⟨1, ax, ay, sw, sh, nm, m, tx, n⟩)) ∧ Below w.heap.size w w' := by
  rw [show keptE ⟨1, ax, ay, sw, sh, nm, m, tx, n⟩ = ⟨1, 0, 0, 0, 0, nm, m, [], 0⟩ by simp [keptE]]
  unfold EV
  go_enter Tryd.func29, Tryd.ntmps29
  go_wp2_with fail
  exact bodyPost_ret (res_kept (e := ⟨1, 0, 0, 0, 0, nm, m, [], 0⟩) (al3_1 w _ _ _) _ rfl) rfl ⟨rfl, below3 w (Nat.le_refl _) _ _ _⟩
set_option maxHeartbeats 4000000 in
set_option maxRecDepth 100000 in
theorem kept_2 (ax ay sw sh m n : Int) (nm tx : Bytes) (w : World) :
    Calls Tryd.prog 29 #[EV ⟨2, ax, ay, sw, sh, nm, m, tx, n⟩] w fun r w' => r = .returned (EV (keptE ⟨2, ax, ay, sw, sh, nm, m, tx, n⟩)) ∧ Below w.heap.size w w' := by
  rw [show keptE ⟨2, ax, ay, sw, sh, nm, m, tx, n⟩ = ⟨2, 0, 0, 0, 0, [], 0, tx, 0⟩ by simp [keptE]]
  unfold EV
  go_enter Tryd.func29, Tryd.ntmps29
  go_wp2_with fail
  exact bodyPost_ret (res_kept (e := ⟨2, 0, 0, 0, 0, [], 0, tx, 0⟩) (al3_1 w _ _ _) _ rfl) rfl ⟨rfl, below3 w (Nat.le_refl _) _ _ _⟩
set_option maxHeartbeats 4000000 in
set_option maxRecDepth 100000 in
theorem kept_3 (ax ay sw sh m n : Int) (nm tx : Bytes) (w : World) :
    Calls Tryd.prog 29 #[EV ⟨3, ax, ay, sw, sh, nm, m, tx, n⟩] w fun r w' => r = .returned (EV (keptE ⟨3, ax, ay, sw, sh, nm, m, tx, n⟩)) ∧ Below w.heap.size w w' := by
  rw [show keptE ⟨3, ax, ay, sw, sh, nm, m, tx, n⟩ = ⟨3, ax, ay, 0, 0, [], 0, [], n⟩ by simp [keptE]]
  unfold EV
  go_enter Tryd.func29, Tryd.ntmps29
  go_wp2_with fail
  exact bodyPost_ret (res_kept (e := ⟨3, ax, ay, 0, 0, [], 0, [], n⟩) (al3_1 w _ _ _) _ rfl) rfl ⟨rfl, below3 w (Nat.le_refl _) _ _ _⟩
set_option maxHeartbeats 4000000 in
set_option maxRecDepth 100000 in
theorem kept_4 (ax ay sw sh m n : Int) (nm tx : Bytes) (w : World) :
    Calls Tryd.prog 29 #[EV ⟨4, ax, ay, sw, sh, nm, m, tx, n⟩] w fun r w' => r = .returned (EV (keptE ⟨4, ax, ay, sw, sh, nm, m, tx, n⟩)) ∧ Below w.heap.size w w' := by
  rw [show keptE ⟨4, ax, ay, sw, sh, nm, m, tx, n⟩ = ⟨4, ax, ay, 0, 0, [], 0, [], n⟩ by simp [keptE]]
  unfold EV
  go_enter Tryd.func29, Tryd.ntmps29
  go_wp2_with fail
  exact bodyPost_ret (res_kept (e := ⟨4, ax, ay, 0, 0, [], 0, [], n⟩) (al3_1 w _ _ _) _ rfl) rfl ⟨rfl, below3 w (Nat.le_refl _) _ _ _⟩
set_option maxHeartbeats 4000000 in
set_option maxRecDepth 100000 in
theorem kept_5 (ax ay sw sh m n : Int) (nm tx : Bytes) (w : World) :
    Calls Tryd.prog 29 #[EV ⟨5, ax, ay, sw, sh, nm, m, tx, n⟩] w fun r w' => r = .returned (EV (keptE ⟨5, ax, ay, sw, sh, nm, m, tx, n⟩)) ∧ Below w.heap.size w w' := by
  rw [show keptE ⟨5, ax, ay, sw, sh, nm, m, tx, n⟩ = ⟨5, ax, ay, 0, 0, [], 0, [], 0⟩ by simp [keptE]]
  unfold EV
  go_enter Tryd.func29, Tryd.ntmps29
  go_wp2_with fail
  exact bodyPost_ret (res_kept (e := ⟨5, ax, ay, 0, 0, [], 0, [], 0⟩) (al3_1 w _ _ _) _ rfl) rfl ⟨rfl, below3 w (Nat.le_refl _) _ _ _⟩
set_option maxHeartbeats 4000000 in
set_option maxRecDepth 100000 in
theorem kept_6 (ax ay sw sh m n : Int) (nm tx : Bytes) (w : World) :
    Calls Tryd.prog 29 #[EV ⟨6, ax, ay, sw, sh, nm, m, tx, n⟩] w fun r w' => r = .returned (EV (keptE ⟨6, ax, ay, sw, sh, nm, m, tx, n⟩)) ∧ Below w.heap.size w w' := by
  rw [show keptE ⟨6, ax, ay, sw, sh, nm, m, tx, n⟩ = ⟨6, ax, ay, 0, 0, [], 0, [], n⟩ by simp [keptE]]
  unfold EV
  go_enter Tryd.func29, Tryd.ntmps29
  go_wp2_with fail
  exact bodyPost_ret (res_kept (e := ⟨6, ax, ay, 0, 0, [], 0, [], n⟩) (al3_1 w _ _ _) _ rfl) rfl ⟨rfl, below3 w (Nat.le_refl _) _ _ _⟩
set_option maxHeartbeats 4000000 in
set_option maxRecDepth 100000 in
theorem kept_7 (ax ay sw sh m n : Int) (nm tx : Bytes) (w : World) :
    Calls Tryd.prog 29 #[EV ⟨7, ax, ay, sw, sh, nm, m, tx, n⟩] w fun r w' => r = .returned (EV (keptE ⟨7, ax, ay, sw, sh, nm, m, tx, n⟩)) ∧ Below w.heap.size w w' := by
  rw [show keptE ⟨7, ax, ay, sw, sh, nm, m, tx, n⟩ = ⟨7, 0, 0, 0, 0, [], 0, [], n⟩ by simp [keptE]]
  unfold EV
  go_enter Tryd.func29, Tryd.ntmps29
  go_wp2_with fail
  exact bodyPost_ret (res_kept (e := ⟨7, 0, 0, 0, 0, [], 0, [], n⟩) (al3_1 w _ _ _) _ rfl) rfl ⟨rfl, below3 w (Nat.le_refl _) _ _ _⟩
set_option maxHeartbeats 4000000 in
set_option maxRecDepth 100000 in
theorem kept_8 (ax ay sw sh m n : Int) (nm tx : Bytes) (w : World) :
    Calls Tryd.prog 29 #[EV ⟨8, ax, ay, sw, sh, nm, m, tx, n⟩] w fun r w' => r = .returned (EV (keptE ⟨8, ax, ay, sw, sh, nm, m, tx, n⟩)) ∧ Below w.heap.size w w' := by
  rw [show keptE ⟨8, ax, ay, sw, sh, nm, m, tx, n⟩ = ⟨8, 0, 0, sw, sh, [], 0, [], 0⟩ by simp [keptE]]
  unfold EV
  go_enter Tryd.func29, Tryd.ntmps29
  go_wp2_with fail
  exact bodyPost_ret (res_kept (e := ⟨8, 0, 0, sw, sh, [], 0, [], 0⟩) (al3_1 w _ _ _) _ rfl) rfl ⟨rfl, below3 w (Nat.le_refl _) _ _ _⟩
set_option maxHeartbeats 4000000 in
set_option maxRecDepth 100000 in
theorem kept_9 (ax ay sw sh m n : Int) (nm tx : Bytes) (w : World) :
    Calls Tryd.prog 29 #[EV ⟨9, ax, ay, sw, sh, nm, m, tx, n⟩] w fun r w' => r = .returned (EV (keptE ⟨9, ax, ay, sw, sh, nm, m, tx, n⟩)) ∧ Below w.heap.size w w' := by
  rw [show keptE ⟨9, ax, ay, sw, sh, nm, m, tx, n⟩ = ⟨9, ax, ay, 0, 0, [], 0, tx, 0⟩ by simp [keptE]]
  unfold EV
  go_enter Tryd.func29, Tryd.ntmps29
  go_wp2_with fail
  exact bodyPost_ret (res_kept (e := ⟨9, ax, ay, 0, 0, [], 0, tx, 0⟩) (al3_1 w _ _ _) _ rfl) rfl ⟨rfl, below3 w (Nat.le_refl _) _ _ _⟩
set_option maxHeartbeats 4000000 in
set_option maxRecDepth 100000 in
theorem kept_10 (ax ay sw sh m n : Int) (nm tx : Bytes) (w : World) :
    Calls Tryd.prog 29 #[EV ⟨10, ax, ay, sw, sh, nm, m, tx, n⟩] w fun r w' => r = .returned (EV (keptE ⟨10, ax, ay, sw, sh, nm, m, tx, n⟩)) ∧ Below w.heap.size w w' := by
  rw [show keptE ⟨10, ax, ay, sw, sh, nm, m, tx, n⟩ = ⟨10, ax, ay, 0, 0, [], 0, tx, 0⟩ by simp [keptE]]
  unfold EV
  go_enter Tryd.func29, Tryd.ntmps29
  go_wp2_with fail
  exact bodyPost_ret (res_kept (e := ⟨10, ax, ay, 0, 0, [], 0, tx, 0⟩) (al3_1 w _ _ _) _ rfl) rfl ⟨rfl, below3 w (Nat.le_refl _) _ _ _⟩
theorem kept_any (e : E) (w : World) (h1 : 1 ≤ e.kind) (h10 : e.kind ≤ 10) :
    Calls Tryd.prog 29 #[EV e] w fun r w' => r = .returned (EV (keptE e)) ∧ Below w.heap.size w w' := by
  obtain ⟨k, ax, ay, sw, sh, nm, m, tx, n⟩ := e
  simp only at h1 h10
  have : k = 1 ∨ k = 2 ∨ k = 3 ∨ k = 4 ∨ k = 5 ∨ k = 6 ∨ k = 7 ∨ k = 8 ∨ k = 9 ∨ k = 10 := by omega
  rcases this with rfl | rfl | rfl | rfl | rfl | rfl | rfl | rfl | rfl | rfl
  · exact kept_1 ax ay sw sh m n nm tx w
  · exact kept_2 ax ay sw sh m n nm tx w
  · exact kept_3 ax ay sw sh m n nm tx w
  · exact kept_4 ax ay sw sh m n nm tx w
  · exact kept_5 ax ay sw sh m n nm tx w
  · exact kept_6 ax ay sw sh m n nm tx w
  · exact kept_7 ax ay sw sh m n nm tx w
  · exact kept_8 ax ay sw sh m n nm tx w
  · exact kept_9 ax ay sw sh m n nm tx w
  · exact kept_10 ax ay sw sh m n nm tx w
end Go.Proofs.YtgkpbpcebgegbaaDoor
