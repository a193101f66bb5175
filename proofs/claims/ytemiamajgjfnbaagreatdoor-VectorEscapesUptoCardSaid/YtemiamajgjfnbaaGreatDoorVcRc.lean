/- list.Check, walked. -/
import Derived.Test.YtemiamajgjfnbaaGreatDoorVcPb
import Derived.Deep.Light
import Derived.IntWalk
namespace Go.Proofs.YtemiamajgjfnbaaGreatDoor
open Go.RowKit Vc
set_option linter.unusedVariables false
set_option linter.unusedSimpArgs false
/-- A list of strokes in memory. -/
def IsL (w : World) (v : Value) (l : List S) : Prop :=
  ∃ (p : Option Addr) (c : Nat), v = .slice p l.length c ∧ ∀ i (h : i < l.length), ∃ b o, p = some ⟨b, o, none⟩ ∧ ∀ j, j < 15 → w.cell? ⟨b, o + i * 15 + j, none⟩ = (SC l[i])[j]?
theorem IsL.below {w w' : World} {v : Value} {l : List S} (h : IsL w v l) (hb : Below w.heap.size w w') : IsL w' v l := by
  obtain ⟨p, c, rfl, hc⟩ := h
  refine ⟨p, c, rfl, fun i hi => ?_⟩
  obtain ⟨b, o, rfl, hk⟩ := hc i hi
  refine ⟨b, o, rfl, fun j hj => ?_⟩
  have h1 := hk j hj
  have hlt : b < w.heap.size := by
    have : (SC l[i])[j]? = some ((SC l[i])[j]'(by show j < 15; exact hj)) := Array.getElem?_eq_getElem _
    rw [this] at h1
    exact cell_lt h1
  rw [← h1]
  exact hb.cell (p := ⟨b, o + i * 15 + j, none⟩) hlt
theorem IsL.at {w : World} {p : Option Addr} {n c : Nat} {l : List S} (h : IsL w (.slice p n c) l) (k : Nat) (hk : k < l.length) : ∃ b q x, p = some ⟨b, q, none⟩ ∧ x = l[k] ∧
    w.cell? ⟨b, q + k * 15, none⟩ = some (.int .u8 x.kind) ∧ w.cell? ⟨b, q + k * 15 + 1, none⟩ = some (.int .i64 x.r.x) ∧ w.cell? ⟨b, q + k * 15 + 2, none⟩ = some (.int .i64 x.r.y) ∧ w.cell? ⟨b, q + k * 15 + 3, none⟩ = some (.int .i64 x.r.w) ∧ w.cell? ⟨b, q + k * 15 + 4, none⟩ = some (.int .i64 x.r.h) ∧
    w.cell? ⟨b, q + k * 15 + 5, none⟩ = some (.int .u8 (x.c.r.toNat : Int)) ∧ w.cell? ⟨b, q + k * 15 + 6, none⟩ = some (.int .u8 (x.c.g.toNat : Int)) ∧ w.cell? ⟨b, q + k * 15 + 7, none⟩ = some (.int .u8 (x.c.b.toNat : Int)) ∧ w.cell? ⟨b, q + k * 15 + 8, none⟩ = some (.int .u8 (x.c.a.toNat : Int)) ∧
    w.cell? ⟨b, q + k * 15 + 9, none⟩ = some (.int .u8 (x.d.r.toNat : Int)) ∧ w.cell? ⟨b, q + k * 15 + 10, none⟩ = some (.int .u8 (x.d.g.toNat : Int)) ∧ w.cell? ⟨b, q + k * 15 + 11, none⟩ = some (.int .u8 (x.d.b.toNat : Int)) ∧ w.cell? ⟨b, q + k * 15 + 12, none⟩ = some (.int .u8 (x.d.a.toNat : Int)) ∧
    w.cell? ⟨b, q + k * 15 + 13, none⟩ = some (.string (bt x.t)) ∧ w.cell? ⟨b, q + k * 15 + 14, none⟩ = some (.int .i64 x.n) := by
  obtain ⟨p', c', he, hc⟩ := h
  cases he
  obtain ⟨b, q, rfl, hj⟩ := hc k hk
  exact ⟨b, q, l[k], rfl, rfl, (hj 0 (by decide)).trans rfl, (hj 1 (by decide)).trans rfl, (hj 2 (by decide)).trans rfl, (hj 3 (by decide)).trans rfl, (hj 4 (by decide)).trans rfl, (hj 5 (by decide)).trans rfl, (hj 6 (by decide)).trans rfl, (hj 7 (by decide)).trans rfl, (hj 8 (by decide)).trans rfl, (hj 9 (by decide)).trans rfl, (hj 10 (by decide)).trans rfl, (hj 11 (by decide)).trans rfl, (hj 12 (by decide)).trans rfl, (hj 13 (by decide)).trans rfl, (hj 14 (by decide)).trans rfl⟩
theorem cells15 {w : World} {b : Nat} {x : S} (h : BlkV w b 31 (SC x)) : w.cell? ⟨b, 0, none⟩ = some (.int .u8 x.kind) ∧ w.cell? ⟨b, 1, none⟩ = some (.int .i64 x.r.x) ∧ w.cell? ⟨b, 2, none⟩ = some (.int .i64 x.r.y) ∧ w.cell? ⟨b, 3, none⟩ = some (.int .i64 x.r.w) ∧ w.cell? ⟨b, 4, none⟩ = some (.int .i64 x.r.h) ∧ w.cell? ⟨b, 5, none⟩ = some (.int .u8 (x.c.r.toNat : Int)) ∧ w.cell? ⟨b, 6, none⟩ = some (.int .u8 (x.c.g.toNat : Int)) ∧ w.cell? ⟨b, 7, none⟩ = some (.int .u8 (x.c.b.toNat : Int)) ∧ w.cell? ⟨b, 8, none⟩ = some (.int .u8 (x.c.a.toNat : Int)) ∧ w.cell? ⟨b, 9, none⟩ = some (.int .u8 (x.d.r.toNat : Int)) ∧ w.cell? ⟨b, 10, none⟩ = some (.int .u8 (x.d.g.toNat : Int)) ∧ w.cell? ⟨b, 11, none⟩ = some (.int .u8 (x.d.b.toNat : Int)) ∧ w.cell? ⟨b, 12, none⟩ = some (.int .u8 (x.d.a.toNat : Int)) ∧ w.cell? ⟨b, 13, none⟩ = some (.string (bt x.t)) ∧ w.cell? ⟨b, 14, none⟩ = some (.int .i64 x.n) :=
  ⟨(h.cell 0).trans rfl, (h.cell 1).trans rfl, (h.cell 2).trans rfl, (h.cell 3).trans rfl, (h.cell 4).trans rfl, (h.cell 5).trans rfl, (h.cell 6).trans rfl, (h.cell 7).trans rfl, (h.cell 8).trans rfl, (h.cell 9).trans rfl, (h.cell 10).trans rfl, (h.cell 11).trans rfl, (h.cell 12).trans rfl, (h.cell 13).trans rfl, (h.cell 14).trans rfl⟩
theorem checkL_drop {l : List S} {k : Nat} (hk : k < l.length) (o : Int) : checkL (l.drop k) o = if mayE l[k] = 0 then (if stepO l[k] o < 0 then 130 else checkL (l.drop (k + 1)) (stepO l[k] o)) else mayE l[k] := by
  rw [List.drop_eq_getElem_cons hk]; rfl
set_option maxHeartbeats 1000000 in
set_option maxRecDepth 20000 in
theorem check_any (v : Value) (l : List S) (w : World) (hl : IsL w v l) :
    Calls Tryz.prog 12 #[v] w fun e w' => e = .returned (.int .i64 (checkE l)) ∧ Below w.heap.size w w' := by
  obtain ⟨p, c, hv⟩ : ∃ p c, v = .slice p l.length c := by obtain ⟨p, c, rfl, _⟩ := hl; exact ⟨p, c, rfl⟩
  subst hv
  have HL := Lib.hid hl; clear hl
  by_cases hn : 16384 < l.length
  · have hr : checkE l = 4 := by unfold checkE; rw [if_pos hn]
    have HR := Lib.hid hr; clear hr
    go_enter Tryz.func12, Tryz.ntmps12
    go_wp2_with fail
    go_ret
    exact ⟨by rw [HR.out]; rfl, Below.refl _ _⟩
  · have hr : checkE l = checkL l 0 := by unfold checkE; rw [if_neg hn]
    have HR := Lib.hid hr; clear hr
    go_enter Tryz.func12, Tryz.ntmps12
    go_wp2_with fail
    go_loopw [3, 12] (fun v3 v12 wr => ∃ (k : Nat) (o : Int), v12 = .int .i64 k ∧ k ≤ l.length ∧ v3 = .int .i64 o ∧ 0 ≤ o ∧ o ≤ k ∧ Hid (checkL (l.drop k) o = checkL l 0) ∧ Hid (Below w.heap.size w wr)) (fun _ v12 _ => l.length - (intOf v12).toNat)
    case atStart => exact ⟨0, 0, rfl, Nat.zero_le _, rfl, by decide, by decide, Lib.hid rfl, Lib.hid (Below.refl _ _)⟩
    case round =>
      obtain ⟨k, o, rfl, hk, rfl, ho0, hok, HCK, HW⟩ := hrel
      by_cases hlt : k < l.length
      · have hck := checkL_drop hlt o
        obtain ⟨b, q, x, rfl, hx, c0, c1, c2, c3, c4, c5, c6, c7, c8, c9, c10, c11, c12, c13, c14⟩ := (HL.out.below HW.out).at k hlt
        rw [← hx, HCK.out] at hck
        have i0 : (0 : Int) ≤ (k : Int) := by omega
        have i1 : (k : Int) < (l.length : Int) := by omega
        have HCX := Lib.hid hck; have HX := Lib.hid hx; clear hck hx HCK
        have b1 : o + 1 ≤ 9223372036854775807 := by omega
        have b2 : -1 ≤ o - 1 := by omega
        go_upto_region 7 with fail
        have B1 := Lib.hid (blkV_new wr 31 (SC x))
        have W1 := Lib.hid (HW.out.alloc HW.out.size (.cells (SC x) 31))
        unfold SC at B1 W1
        generalize wr.alloc (.cells #[.int .u8 x.kind, .int .i64 x.r.x, .int .i64 x.r.y, .int .i64 x.r.w, .int .i64 x.r.h, .int .u8 (x.c.r.toNat : Int), .int .u8 (x.c.g.toNat : Int), .int .u8 (x.c.b.toNat : Int), .int .u8 (x.c.a.toNat : Int), .int .u8 (x.d.r.toNat : Int), .int .u8 (x.d.g.toNat : Int), .int .u8 (x.d.b.toNat : Int), .int .u8 (x.d.a.toNat : Int), .string (bt x.t), .int .i64 x.n] 31) = w1 at B1 W1 ⊢
        clear c0 c1 c2 c3 c4 c5 c6 c7 c8 c9 c10 c11 c12 c13 c14
        obtain ⟨c0, c1, c2, c3, c4, c5, c6, c7, c8, c9, c10, c11, c12, c13, c14⟩ := cells15 (x := x) B1.out
        by_cases hm : mayE x = 0
        · rw [if_pos hm] at HCX
          have MAYX : Hid (∀ w, Calls Tryz.prog 30 #[SV x] w fun e w' => e = .returned (.int .i64 0) ∧ Below w.heap.size w w') := Lib.hid fun w => by have := may_any x w; rw [hm] at this; exact this
          clear hm
          obtain ⟨kd, hkd⟩ : ∃ kd, kd = x.kind := ⟨_, rfl⟩
          have hst : stepO x o = if kd = 4 then o + 1 else if kd = 5 then o - 1 else o := by rw [hkd]; rfl
          have HKD := Lib.hid hkd; clear hkd
          by_cases h4 : kd = 4
          · rw [if_pos h4] at hst
            have g4 : (kd == 4) = true := by simpa using h4
            have g5 : (kd == 5) = false := by rw [h4]; rfl
            rw [hst, if_neg (by omega)] at HCX
            clear hst h4
            go_wp2_with (go_at_call 30; refine (MAYX.out _).mono ?_; rintro e w2 ⟨rfl, hb⟩; have B2 := Lib.hid (B1.out.below hb B1.out.lt); have W2 := Lib.hid (W1.out.trans (hb.mono W1.out.size)); clear hb; have e0 : w2.cell? ⟨wr.heap.size, 0, none⟩ = some (.int .u8 kd) := by rw [HKD.out]; exact (B2.out.cell 0).trans rfl)
            go_roundw
            case rel => exact ⟨k + 1, o + 1, by go_num, by omega, rfl, by omega, by omega, Lib.hid HCX.out.symm, W2⟩
            case measure => go_light; simp [intOf]; omega
          · rw [if_neg h4] at hst
            have g4 : (kd == 4) = false := by simpa using h4
            clear h4
            by_cases h5 : kd = 5
            · rw [if_pos h5] at hst
              have g5 : (kd == 5) = true := by simpa using h5
              clear h5
              rw [hst] at HCX
              clear hst
              by_cases ho : o - 1 < 0
              · rw [if_pos ho] at HCX
                go_wp2_with (go_at_call 30; refine (MAYX.out _).mono ?_; rintro e w2 ⟨rfl, hb⟩; have B2 := Lib.hid (B1.out.below hb B1.out.lt); have W2 := Lib.hid (W1.out.trans (hb.mono W1.out.size)); clear hb; have e0 : w2.cell? ⟨wr.heap.size, 0, none⟩ = some (.int .u8 kd) := by rw [HKD.out]; exact (B2.out.cell 0).trans rfl)
                go_ret
                exact ⟨by rw [HR.out, HCX.out]; rfl, W2.out⟩
              · rw [if_neg ho] at HCX
                go_wp2_with (go_at_call 30; refine (MAYX.out _).mono ?_; rintro e w2 ⟨rfl, hb⟩; have B2 := Lib.hid (B1.out.below hb B1.out.lt); have W2 := Lib.hid (W1.out.trans (hb.mono W1.out.size)); clear hb; have e0 : w2.cell? ⟨wr.heap.size, 0, none⟩ = some (.int .u8 kd) := by rw [HKD.out]; exact (B2.out.cell 0).trans rfl)
                go_roundw
                case rel => exact ⟨k + 1, o - 1, by go_num, by omega, rfl, by omega, by omega, Lib.hid HCX.out.symm, W2⟩
                case measure => go_light; simp [intOf]; omega
            · rw [if_neg h5] at hst
              have g5 : (kd == 5) = false := by simpa using h5
              clear h5
              rw [hst, if_neg (by omega)] at HCX
              clear hst
              go_wp2_with (go_at_call 30; refine (MAYX.out _).mono ?_; rintro e w2 ⟨rfl, hb⟩; have B2 := Lib.hid (B1.out.below hb B1.out.lt); have W2 := Lib.hid (W1.out.trans (hb.mono W1.out.size)); clear hb; have e0 : w2.cell? ⟨wr.heap.size, 0, none⟩ = some (.int .u8 kd) := by rw [HKD.out]; exact (B2.out.cell 0).trans rfl)
              go_roundw
              case rel => exact ⟨k + 1, o, by go_num, by omega, rfl, by omega, by omega, Lib.hid HCX.out.symm, W2⟩
              case measure => go_light; simp [intOf]; omega
        · rw [if_neg hm] at HCX
          have g0 : (mayE x == 0) = false := by simpa using hm
          clear hm
          go_wp2_with (go_at_call 30; refine (may_any x _).mono ?_; rintro e w2 ⟨rfl, hb⟩; have W2 := Lib.hid (W1.out.trans (hb.mono W1.out.size)); clear hb)
          go_ret
          exact ⟨by rw [HR.out, HCX.out]; rfl, W2.out⟩
      · obtain rfl : k = l.length := by omega
        have hck := HCK.out
        rw [List.drop_length] at hck
        have HC2 := Lib.hid hck; clear hck
        by_cases hp : 0 < o
        · go_wp2_with fail
          go_ret
          exact ⟨by rw [HR.out, ← HC2.out]; unfold checkL; rw [if_pos hp]; rfl, HW.out⟩
        · go_wp2_with fail
          go_ret
          exact ⟨by rw [HR.out, ← HC2.out]; unfold checkL; rw [if_neg (by omega)]; rfl, HW.out⟩
end Go.Proofs.YtemiamajgjfnbaaGreatDoor
