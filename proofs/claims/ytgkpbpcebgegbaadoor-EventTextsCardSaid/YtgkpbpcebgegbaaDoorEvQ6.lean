/- The law: any event, any text. -/
import Derived.Test.YtgkpbpcebgegbaaDoorEvQ4
import Derived.Test.YtgkpbpcebgegbaaDoorEvQ5
namespace Go.Proofs.YtgkpbpcebgegbaaDoor
open Go.RowKit Ev
set_option linter.unusedVariables false
set_option linter.unusedSimpArgs false
theorem nine27 {w' : World} {a c d : Nat} {e pe : E} (h : Blk9 w' a e ∧ Blk9 w' c pe ∧ Blk9 w' d pe) : (w'.cell? ⟨a, 0, none⟩ = some (.int .u8 e.kind) ∧ w'.cell? ⟨a, 1, none⟩ = some (.int .i64 e.ax) ∧ w'.cell? ⟨a, 2, none⟩ = some (.int .i64 e.ay) ∧ w'.cell? ⟨a, 3, none⟩ = some (.int .i64 e.sw) ∧ w'.cell? ⟨a, 4, none⟩ = some (.int .i64 e.sh) ∧ w'.cell? ⟨a, 5, none⟩ = some (.string ⟨e.name.toArray⟩) ∧ w'.cell? ⟨a, 6, none⟩ = some (.int .u8 e.mods) ∧ w'.cell? ⟨a, 7, none⟩ = some (.string ⟨e.text.toArray⟩) ∧ w'.cell? ⟨a, 8, none⟩ = some (.int .i64 e.n)) ∧ (w'.cell? ⟨c, 0, none⟩ = some (.int .u8 pe.kind) ∧ w'.cell? ⟨c, 1, none⟩ = some (.int .i64 pe.ax) ∧ w'.cell? ⟨c, 2, none⟩ = some (.int .i64 pe.ay) ∧ w'.cell? ⟨c, 3, none⟩ = some (.int .i64 pe.sw) ∧ w'.cell? ⟨c, 4, none⟩ = some (.int .i64 pe.sh) ∧ w'.cell? ⟨c, 5, none⟩ = some (.string ⟨pe.name.toArray⟩) ∧ w'.cell? ⟨c, 6, none⟩ = some (.int .u8 pe.mods) ∧ w'.cell? ⟨c, 7, none⟩ = some (.string ⟨pe.text.toArray⟩) ∧ w'.cell? ⟨c, 8, none⟩ = some (.int .i64 pe.n)) ∧ (w'.cell? ⟨d, 0, none⟩ = some (.int .u8 pe.kind) ∧ w'.cell? ⟨d, 1, none⟩ = some (.int .i64 pe.ax) ∧ w'.cell? ⟨d, 2, none⟩ = some (.int .i64 pe.ay) ∧ w'.cell? ⟨d, 3, none⟩ = some (.int .i64 pe.sw) ∧ w'.cell? ⟨d, 4, none⟩ = some (.int .i64 pe.sh) ∧ w'.cell? ⟨d, 5, none⟩ = some (.string ⟨pe.name.toArray⟩) ∧ w'.cell? ⟨d, 6, none⟩ = some (.int .u8 pe.mods) ∧ w'.cell? ⟨d, 7, none⟩ = some (.string ⟨pe.text.toArray⟩) ∧ w'.cell? ⟨d, 8, none⟩ = some (.int .i64 pe.n)) :=
  ⟨h.1.nine, h.2.1.nine, h.2.2.nine⟩
theorem below3k {w w' : World} {a c d : Nat} {e pe : E} (h : Blk9 w a e ∧ Blk9 w c pe ∧ Blk9 w d pe) (hb : Below w.heap.size w w') : Blk9 w' a e ∧ Blk9 w' c pe ∧ Blk9 w' d pe :=
  ⟨h.1.same (hb.block _ h.1.lt), h.2.1.same (hb.block _ h.2.1.lt), h.2.2.same (hb.block _ h.2.2.lt)⟩
theorem new9 (w : World) (e : E) : Blk9 (w.alloc (.cells (EC e) 29)) w.heap.size e := heap_alloc_new _ _
theorem below_new {B : Nat} {a w : World} (h : Below B a w) (hB : B ≤ w.heap.size) (e : E) : Below B a (w.alloc (.cells (EC e) 29)) := h.alloc hB _
theorem size_new (w : World) (e : E) : (w.alloc (.cells (EC e) 29)).heap.size = w.heap.size + 1 := alloc_size _ _

set_option maxHeartbeats 8000000 in
set_option maxRecDepth 100000 in
theorem law_main (e : E) (s : ByteArray) (w : World) (hg : Glob w) (hn : e.name.length ≤ 9223372036854775807) (hm : 0 ≤ e.mods) (hs : s.size ≤ 100000) (ht : e.text.length ≤ 100000) :
    Calls Tryd.prog 3 #[EV e, .string s] w fun r w' => r = .returned (.bool true) ∧ Below w.heap.size w w' := by
  have hTA := fun w hg => evText_any e w hg hn hm
  have hTB := fun w hg => textqq_any e w hg hn hm
  have hPA := fun w hg => parse_any s w hg
  have hPB := fun w hg => parseq_any s w hg
  have hCA : ∀ w, Glob w → Calls Tryd.prog 8 #[EV e] w fun r w' => r = .returned (.int .i64 (chkE e)) ∧ Below w.heap.size w w' := fun w hg => by
    have := check_any e.kind e.ax e.ay e.sw e.sh e.n e.mods ⟨e.name.toArray⟩ ⟨e.text.toArray⟩ w hg (by show e.name.toArray.size ≤ _; rw [List.size_toArray]; exact hn)
    rw [show chkE ⟨e.kind, e.ax, e.ay, e.sw, e.sh, (⟨e.name.toArray⟩ : ByteArray).data.toList, e.mods, (⟨e.text.toArray⟩ : ByteArray).data.toList, e.n⟩ = chkE e from by simp] at this
    exact this
  have hCB := fun w hg => checkq_any e w hg hn
  generalize bt (textB e) = TB at hTA hTB
  generalize textE e = TE at hTA hTB
  generalize chkE e = CE at hCA hCB
  obtain ⟨⟨pe, px, py⟩, hp⟩ : ∃ P, parse s.data.toList = P := ⟨_, rfl⟩
  rw [hp] at hPA hPB
  clear hp
  have HTA := Lib.hid hTA; have HTB := Lib.hid hTB; have HPA := Lib.hid hPA; have HPB := Lib.hid hPB; have HCA := Lib.hid hCA; have HCB := Lib.hid hCB
  clear hTA hTB hPA hPB hCA hCB
  have HG := Lib.hid hg; clear hg hn hm
  have d1 : decide ((100000 : Int) < (s.size : Int)) = false := decide_eq_false (by omega)
  have d2 : decide ((100000 : Int) < (e.text.length : Int)) = false := decide_eq_false (by omega)
  unfold EV at HTA HTB HPA HPB HCA HCB ⊢
  simp only at HPA HPB
  go_enter Tryd.func3, Tryd.ntmps3
  go_wp2_with fail
  refine (HTA.out _ (HG.out.alloc _)).mono ?_
  rintro r w1 ⟨rfl, hb⟩
  have b1 : Blk9 w1 w.heap.size e := Blk9.same (w := w.alloc (.cells (EC e) 29)) (heap_alloc_new w _) (hb.block _ (by simp))
  have HB1 := Lib.hid (((Below.refl _ _).alloc (Nat.le_refl _) _).trans (hb.mono (by simp))); clear hb
  obtain ⟨c0, c1, c2, c3, c4, c5, c6, c7, c8⟩ := b1.nine
  have H1 := Lib.hid b1; clear b1
  go_wp2_with fail
  refine (HTB.out _ (HG.out.below HG.out.size HB1.out)).mono ?_
  rintro r w2 ⟨rfl, hb⟩
  have H2 := Lib.hid (H1.out.same (hb.block _ H1.out.lt))
  have HB2 := Lib.hid (HB1.out.trans (hb.mono HB1.out.size))
  clear hb c0 c1 c2 c3 c4 c5 c6 c7 c8
  go_wp2_with fail
  refine (HPA.out _ (HG.out.below HG.out.size HB2.out)).mono ?_
  rintro r w3 ⟨rfl, hb⟩
  have H3 := Lib.hid (H2.out.same (hb.block _ H2.out.lt))
  have HB3 := Lib.hid (HB2.out.trans (hb.mono HB2.out.size))
  clear hb
  go_wp2_with fail
  have HG4 := Lib.hid (HG.out.below HG.out.size (below_new HB3.out HB3.out.size pe))
  refine (HPB.out _ HG4.out).mono ?_
  rintro r w4 ⟨rfl, hb⟩
  have hz := size_new w3 pe
  have l3 := H3.out.lt
  have hlt4 : w3.heap.size < (w3.alloc (.cells (EC pe) 29)).heap.size := by omega
  have HB34 := Lib.hid (below_new (B := w3.heap.size) (Below.refl _ w3) (Nat.le_refl _) pe)
  have H4 := Lib.hid (Blk9.same (H3.out.same (HB34.out.block _ l3)) (hb.block _ (Nat.lt_trans l3 hlt4)))
  have P4 := Lib.hid (Blk9.same (new9 w3 pe) (hb.block _ hlt4))
  have HB4 := Lib.hid ((below_new HB3.out HB3.out.size pe).trans (hb.mono (by have := HB3.out.size; omega)))
  have hzz : w3.heap.size < w4.heap.size := P4.out.lt
  clear hb hz hlt4 HB34 HG4
  go_upto_region 7 with fail
  have H5 : Blk9 (w4.alloc (.cells (EC pe) 29)) w.heap.size e ∧ Blk9 (w4.alloc (.cells (EC pe) 29)) w3.heap.size pe ∧ Blk9 (w4.alloc (.cells (EC pe) 29)) w4.heap.size pe :=
    ⟨H4.out.same ((below_new (B := w4.heap.size) (Below.refl _ w4) (Nat.le_refl _) pe).block _ H4.out.lt), P4.out.same ((below_new (B := w4.heap.size) (Below.refl _ w4) (Nat.le_refl _) pe).block _ hzz), new9 w4 pe⟩
  have HB5 := Lib.hid (below_new HB4.out HB4.out.size pe)
  change Code.wp _ _ _ _ (w4.alloc (.cells (EC pe) 29))
  generalize w4.alloc (.cells (EC pe) 29) = w5 at H5 HB5 ⊢
  generalize w4.heap.size = dd at H5 ⊢
  generalize w3.heap.size = cc at H5 ⊢
  clear H3 H4 P4 hzz l3
  have H6 : Blk9 w5.drew w.heap.size e ∧ Blk9 w5.drew cc pe ∧ Blk9 w5.drew dd pe := H5
  have s6 := Lib.hid (show w.heap.size ≤ w5.drew.heap.size from HB5.out.size)
  have HB6 := Lib.hid (HB5.out.drew)
  have HG6 := Lib.hid (HG.out.below HG.out.size HB6.out)
  clear H5 HB5
  go_region_held3 (fun w' => (w'.cell? ⟨w.heap.size, 0, none⟩ = some (.int .u8 e.kind) ∧ w'.cell? ⟨w.heap.size, 1, none⟩ = some (.int .i64 e.ax) ∧ w'.cell? ⟨w.heap.size, 2, none⟩ = some (.int .i64 e.ay) ∧ w'.cell? ⟨w.heap.size, 3, none⟩ = some (.int .i64 e.sw) ∧ w'.cell? ⟨w.heap.size, 4, none⟩ = some (.int .i64 e.sh) ∧ w'.cell? ⟨w.heap.size, 5, none⟩ = some (.string ⟨e.name.toArray⟩) ∧ w'.cell? ⟨w.heap.size, 6, none⟩ = some (.int .u8 e.mods) ∧ w'.cell? ⟨w.heap.size, 7, none⟩ = some (.string ⟨e.text.toArray⟩) ∧ w'.cell? ⟨w.heap.size, 8, none⟩ = some (.int .i64 e.n)) ∧ (w'.cell? ⟨cc, 0, none⟩ = some (.int .u8 pe.kind) ∧ w'.cell? ⟨cc, 1, none⟩ = some (.int .i64 pe.ax) ∧ w'.cell? ⟨cc, 2, none⟩ = some (.int .i64 pe.ay) ∧ w'.cell? ⟨cc, 3, none⟩ = some (.int .i64 pe.sw) ∧ w'.cell? ⟨cc, 4, none⟩ = some (.int .i64 pe.sh) ∧ w'.cell? ⟨cc, 5, none⟩ = some (.string ⟨pe.name.toArray⟩) ∧ w'.cell? ⟨cc, 6, none⟩ = some (.int .u8 pe.mods) ∧ w'.cell? ⟨cc, 7, none⟩ = some (.string ⟨pe.text.toArray⟩) ∧ w'.cell? ⟨cc, 8, none⟩ = some (.int .i64 pe.n)) ∧ (w'.cell? ⟨dd, 0, none⟩ = some (.int .u8 pe.kind) ∧ w'.cell? ⟨dd, 1, none⟩ = some (.int .i64 pe.ax) ∧ w'.cell? ⟨dd, 2, none⟩ = some (.int .i64 pe.ay) ∧ w'.cell? ⟨dd, 3, none⟩ = some (.int .i64 pe.sw) ∧ w'.cell? ⟨dd, 4, none⟩ = some (.int .i64 pe.sh) ∧ w'.cell? ⟨dd, 5, none⟩ = some (.string ⟨pe.name.toArray⟩) ∧ w'.cell? ⟨dd, 6, none⟩ = some (.int .u8 pe.mods) ∧ w'.cell? ⟨dd, 7, none⟩ = some (.string ⟨pe.text.toArray⟩) ∧ w'.cell? ⟨dd, 8, none⟩ = some (.int .i64 pe.n))) (exact nine27 (by assumption)) (first | (go_at_call 8; refine (HCA.out _ (HG.out.below HG.out.size (by first | exact HB6.out | exact HB7.out | exact HB8.out))).mono ?_; rintro r w7 ⟨rfl, hb⟩; have HB7 := Lib.hid (Below.trans (by first | exact HB6.out | exact HB7.out | exact HB8.out) (hb.mono (Below.size (by first | exact HB6.out | exact HB7.out | exact HB8.out)))); have H7 : Blk9 w7 w.heap.size e ∧ Blk9 w7 cc pe ∧ Blk9 w7 dd pe := below3k (by assumption) hb; clear hb) | (go_at_call 9; refine (HCB.out _ (HG.out.below HG.out.size (by first | exact HB6.out | exact HB7.out | exact HB8.out))).mono ?_; rintro r w8 ⟨rfl, hb⟩; have HB8 := Lib.hid (Below.trans (by first | exact HB6.out | exact HB7.out | exact HB8.out) (hb.mono (Below.size (by first | exact HB6.out | exact HB7.out | exact HB8.out)))); have H8 : Blk9 w8 w.heap.size e ∧ Blk9 w8 cc pe ∧ Blk9 w8 dd pe := below3k (by assumption) hb; clear hb) | fail)
  all_goals (
    go_wp2_with fail
    go_ret
    refine ⟨by simp, ?_⟩
    first | exact HB8.out | exact HB7.out)

theorem law_any (e : E) (s : ByteArray) (w : World) (hg : Glob w) (hn : e.name.length ≤ 9223372036854775807) (hm : 0 ≤ e.mods) :
    Calls Tryd.prog 3 #[EV e, .string s] w fun r w' => r = .returned (.bool true) ∧ Below w.heap.size w w' := by
  by_cases hs : s.size ≤ 100000
  · by_cases ht : e.text.length ≤ 100000
    · exact law_main e s w hg hn hm hs ht
    · have d1 : decide ((100000 : Int) < (s.size : Int)) = false := decide_eq_false (by omega)
      have d2 : decide ((100000 : Int) < (e.text.length : Int)) = true := decide_eq_true (by omega)
      unfold EV
      go_enter Tryd.func3, Tryd.ntmps3
      go_wp2_with fail
      go_ret
      exact ⟨rfl, (Below.refl _ _).alloc (Nat.le_refl _) _⟩
  · have d1 : decide ((100000 : Int) < (s.size : Int)) = true := decide_eq_true (by omega)
    unfold EV
    go_enter Tryd.func3, Tryd.ntmps3
    go_wp2_with fail
    go_ret
    exact ⟨rfl, (Below.refl _ _).alloc (Nat.le_refl _) _⟩
end Go.Proofs.YtgkpbpcebgegbaaDoor
