/- event.Text. -/
import Derived.Test.YtgkpbpcebgegbaaDoorEvX
import Derived.Test.YtgkpbpcebgegbaaDoorEvP
import Derived.Lib.ItoaLen
namespace Go.Proofs.YtgkpbpcebgegbaaDoor
open Go.RowKit Ev
set_option linter.unusedVariables false
set_option linter.unusedSimpArgs false

/-- The words of an event's text. -/
def parts (e : E) : List Bytes :=
  if e.kind = 1 then [[107, 101, 121], itoa e.mods, esc e.name]
  else if e.kind = 2 then [[116, 101, 120, 116], esc e.text]
  else if e.kind = 3 then [[100, 111, 119, 110], itoa e.ax, itoa e.ay, itoa e.n]
  else if e.kind = 4 then [[117, 112], itoa e.ax, itoa e.ay, itoa e.n]
  else if e.kind = 5 then [[109, 111, 118, 101], itoa e.ax, itoa e.ay]
  else if e.kind = 6 then [[119, 104, 101, 101, 108], itoa e.ax, itoa e.ay, itoa e.n]
  else if e.kind = 7 then [[116, 105, 99, 107], itoa e.n]
  else if e.kind = 8 then [[114, 101, 115, 105, 122, 101], itoa e.sw, itoa e.sh]
  else if e.kind = 9 then [[100, 114, 97, 103], itoa e.ax, itoa e.ay, esc e.text]
  else [[100, 114, 111, 112], itoa e.ax, itoa e.ay, esc e.text]
def firstP (e : E) : Bytes := (parts e).headD []
def nums (e : E) : List Int :=
  if e.kind = 1 then [e.mods] else if e.kind = 2 then [] else if e.kind = 3 then [e.ax, e.ay, e.n] else if e.kind = 4 then [e.ax, e.ay, e.n] else if e.kind = 5 then [e.ax, e.ay] else if e.kind = 6 then [e.ax, e.ay, e.n]
  else if e.kind = 7 then [e.n] else if e.kind = 8 then [e.sw, e.sh] else [e.ax, e.ay]
def tailP (e : E) : List Bytes := if e.kind = 1 then [esc e.name] else if e.kind = 2 then [esc e.text] else if e.kind = 9 then [esc e.text] else if e.kind = 10 then [esc e.text] else []
theorem join_parts (e : E) : Lib.join (parts e) [32] = body e := by
  unfold parts body sp
  repeat' split
  all_goals simp [Lib.join]
theorem kind_cases (e : E) (h : chk e = true) : e.kind = 1 ∨ e.kind = 2 ∨ e.kind = 3 ∨ e.kind = 4 ∨ e.kind = 5 ∨ e.kind = 6 ∨ e.kind = 7 ∨ e.kind = 8 ∨ e.kind = 9 ∨ e.kind = 10 := by
  unfold chk at h
  by_cases h1 : e.kind = 1
  · simp [h1]
  by_cases h2 : e.kind = 2
  · simp [h2]
  by_cases h3 : e.kind = 3
  · simp [h3]
  by_cases h4 : e.kind = 4
  · simp [h4]
  by_cases h5 : e.kind = 5
  · simp [h5]
  by_cases h6 : e.kind = 6
  · simp [h6]
  by_cases h7 : e.kind = 7
  · simp [h7]
  by_cases h8 : e.kind = 8
  · simp [h8]
  by_cases h9 : e.kind = 9
  · simp [h9]
  by_cases h10 : e.kind = 10
  · simp [h10]
  simp [h1, h2, h3, h4, h5, h6, h7, h8, h9, h10] at h
theorem words_lit (w : World) :
    Calls Tryd.prog 10 #[] w fun e w' => e = .returned (.slice (some ⟨w.heap.size, 0, none⟩) 10 10) ∧ w' = w.alloc (.cells #[.string ⟨#[107, 101, 121]⟩, .string ⟨#[116, 101, 120, 116]⟩, .string ⟨#[100, 111, 119, 110]⟩, .string ⟨#[117, 112]⟩, .string ⟨#[109, 111, 118, 101]⟩, .string ⟨#[119, 104, 101, 101, 108]⟩, .string ⟨#[116, 105, 99, 107]⟩, .string ⟨#[114, 101, 115, 105, 122, 101]⟩, .string ⟨#[100, 114, 97, 103]⟩, .string ⟨#[100, 114, 111, 112]⟩] 9) := words_any w
theorem within_iff (n a b : Int) : within n a b = true ↔ a ≤ n ∧ n ≤ b := by unfold within; simp
theorem nums_ok (e : E) (h : chk e = true) (hm : 0 ≤ e.mods) : ∀ n ∈ nums e, -9223372036854775808 ≤ n ∧ n ≤ 9223372036854775807 := by
  unfold nums
  rcases kind_cases e h with hk | hk | hk | hk | hk | hk | hk | hk | hk | hk <;> simp [chk, hk, within_iff] at h <;> simp [hk] <;> omega
theorem tail_ok (e : E) (h : chk e = true) : ((e.kind = 1) → e.name.length ≤ 65536) ∧ ((e.kind = 2 ∨ e.kind = 9 ∨ e.kind = 10) → e.text.length ≤ 65536) := by
  rcases kind_cases e h with hk | hk | hk | hk | hk | hk | hk | hk | hk | hk <;> simp [chk, hk, within_iff] at h <;> simp [hk] <;> omega
theorem parts_eq (e : E) (h : chk e = true) : (parts e).map bt = bt (firstP e) :: (nums e).map (fun n => bt (itoa n)) ++ (tailP e).map bt := by
  rcases kind_cases e h with hk | hk | hk | hk | hk | hk | hk | hk | hk | hk <;> simp [parts, nums, tailP, firstP, hk]
theorem body_len (e : E) (h : chk e = true) (hm : 0 ≤ e.mods) : (body e).length ≤ 300000 := by
  have hN : ∀ n ∈ nums e, (itoa n).length ≤ 21 := fun n hn => Lib.itoa_length_le n (nums_ok e h hm n hn).1 (nums_ok e h hm n hn).2
  have ht := tail_ok e h
  have e1 := esc_len e.name
  have e2 := esc_len e.text
  rcases kind_cases e h with hk | hk | hk | hk | hk | hk | hk | hk | hk | hk <;> simp [nums, hk] at hN <;> simp [hk] at ht <;> simp [body, sp, hk] <;> omega
theorem parts_len (e : E) : (parts e).length ≤ 1000 := by unfold parts; repeat' split
                                                          all_goals simp
theorem parts_pos (e : E) : 0 < (parts e).length := by unfold parts; repeat' split
                                                       all_goals simp
theorem join_any (B c : Nat) (v : Value) (ls : List ByteArray) (w : World) (h : LC w B c v ls) (hpos : 0 < ls.length) (hlen : ls.length ≤ 1000) (hj : (Lib.join (ls.map (·.data.toList)) [32]).length ≤ 140737488355328) :
    Calls Tryd.prog 14 #[v, .string ⟨#[32]⟩] w fun e w' => e = .returned (.string ⟨(Lib.join (ls.map (·.data.toList)) [32]).toArray⟩) ∧ Below w.heap.size w w' := by
  have ho := h.2
  rcases ho.2 with ⟨_, h0⟩ | ⟨g, cap, cur, rfl, hB, hg, hn, hm, hsz, htk⟩
  · omega
  · have hlt : g < w.heap.size := (Array.getElem?_eq_some_iff.1 hg).1
    refine Tryd.strings_Join g 0 cap ls ⟨#[32]⟩ w (fun j x hx => ?_) hlt (by omega) hn hj
    have := World.ownsRow.cells ho (g := g) rfl j (.string x) (by simp [hx])
    have ha : (⟨g, 0, none⟩ : Addr).add j = ⟨g, 0 + j, none⟩ := by unfold Addr.add; split <;> simp_all
    rwa [ha] at this
theorem map_bt (ls : List Bytes) : (ls.map bt).map (·.data.toList) = ls := by
  induction ls with
  | nil => rfl
  | cons a l ih => rw [List.map_cons, List.map_cons, ih]; rfl
theorem words_op (e : E) (h : chk e = true) : ∃ (j : Nat) (WA : Array Value), j < 10 ∧ e.kind = (j : Int) + 1 ∧ WA[j]? = some (.string (bt (firstP e))) ∧ ∀ w, Calls Tryd.prog 10 #[] w fun r w' => r = .returned (.slice (some ⟨w.heap.size, 0, none⟩) 10 10) ∧ w' = w.alloc (.cells WA 9) := by
  rcases kind_cases e h with h | h | h | h | h | h | h | h | h | h
  · exact ⟨0, _, by decide, by rw [h]; rfl, by unfold firstP parts; simp only [h]; rfl, words_lit⟩
  · exact ⟨1, _, by decide, by rw [h]; rfl, by unfold firstP parts; simp only [h]; rfl, words_lit⟩
  · exact ⟨2, _, by decide, by rw [h]; rfl, by unfold firstP parts; simp only [h]; rfl, words_lit⟩
  · exact ⟨3, _, by decide, by rw [h]; rfl, by unfold firstP parts; simp only [h]; rfl, words_lit⟩
  · exact ⟨4, _, by decide, by rw [h]; rfl, by unfold firstP parts; simp only [h]; rfl, words_lit⟩
  · exact ⟨5, _, by decide, by rw [h]; rfl, by unfold firstP parts; simp only [h]; rfl, words_lit⟩
  · exact ⟨6, _, by decide, by rw [h]; rfl, by unfold firstP parts; simp only [h]; rfl, words_lit⟩
  · exact ⟨7, _, by decide, by rw [h]; rfl, by unfold firstP parts; simp only [h]; rfl, words_lit⟩
  · exact ⟨8, _, by decide, by rw [h]; rfl, by unfold firstP parts; simp only [h]; rfl, words_lit⟩
  · exact ⟨9, _, by decide, by rw [h]; rfl, by unfold firstP parts; simp only [h]; rfl, words_lit⟩
theorem al3_0 (w : World) (o o' o'' : Obj) : (((w.alloc o).alloc o').alloc o'').heap[w.heap.size]? = some o := (Below.heap_alloc _ _ _ (by simp; omega)).trans (alloc_at1 _ _ _)
theorem al3_1 (w : World) (o o' o'' : Obj) : (((w.alloc o).alloc o').alloc o'').heap[w.heap.size + 1]? = some o' := (Below.heap_alloc _ _ _ (by simp)).trans (alloc_at2 _ _ _)
theorem al3_2 (w : World) (o o' o'' : Obj) : (((w.alloc o).alloc o').alloc o'').heap[w.heap.size + 1 + 1]? = some o'' := by
  have := alloc_at2 (w.alloc o) o' o''
  rw [alloc_size] at this
  exact this
theorem below3 {B : Nat} (w : World) (hB : B ≤ w.heap.size) (o o' o'' : Obj) : Below B w (((w.alloc o).alloc o').alloc o'') :=
  (((Below.refl _ _).alloc hB _).alloc (by simp; omega) _).alloc (by simp; omega) _
theorem LC.mk' {w : World} {B c g : Nat} {x : ByteArray} (hc : w.heap[c]? = some (.cells #[.slice (some ⟨g, 0, none⟩) 1 1] 37 (0, 0))) (hg : w.heap[g]? = some (.cells #[.string x] 9 (0, 0))) (hB : B ≤ g) : LC w B c (.slice (some ⟨g, 0, none⟩) 1 1) [x] :=
  ⟨hc, by simp, .inr ⟨g, 1, _, rfl, hB, hg, Nat.le_refl _, by decide, rfl, by simp⟩⟩

theorem text_wrong (e : E) (w : World) (hg : Glob w) (hn : e.name.length ≤ 9223372036854775807) (hch : ¬ chk e = true) :
    Calls Tryd.prog 4 #[EV e] w fun r w' => r = .returned (.tuple #[.string ⟨#[]⟩, .int .i64 190]) ∧ Below w.heap.size w w' := by
  have HG := Lib.hid hg; clear hg
  have hE : chkE e = 190 := if_neg hch
  have HE := Lib.hid hE; clear hE hch
  unfold EV
  go_enter Tryd.func4, Tryd.ntmps4
  go_wp2_with (go_at_call 8; refine (check_any e.kind e.ax e.ay e.sw e.sh e.n e.mods ⟨e.name.toArray⟩ ⟨e.text.toArray⟩ _ (HG.out.alloc _) (by exact hn)).mono ?_; rintro r w' ⟨rfl, hb⟩; rw [show chkE ⟨e.kind, e.ax, e.ay, e.sw, e.sh, (⟨e.name.toArray⟩ : ByteArray).data.toList, e.mods, (⟨e.text.toArray⟩ : ByteArray).data.toList, e.n⟩ = chkE e from by simp, HE.out]; have HB := Lib.hid (((Below.refl _ _).alloc (Nat.le_refl _) _).trans (hb.mono (by simp))); clear hb)
  go_ret2
  exact ⟨rfl, HB.out⟩

set_option maxHeartbeats 4000000 in
set_option maxRecDepth 100000 in
theorem text_right (e : E) (w : World) (hg : Glob w) (hn : e.name.length ≤ 9223372036854775807) (hm : 0 ≤ e.mods) (hch : chk e = true) :
    Calls Tryd.prog 4 #[EV e] w fun r w' => r = .returned (.tuple #[.string (bt (textB e)), .int .i64 (textE e)]) ∧ Below w.heap.size w w' := by
  have HG := Lib.hid hg; clear hg
  have hE : chkE e = 0 := if_pos hch
  have HE := Lib.hid hE; have HC := Lib.hid hch; clear hE hch
  have hmf : ∀ (fn : Fn) (first cap : Array Value) (w : World), (Instr.makeFunc fn first cap).run Tryd.prog w = .ok (.func fn first cap) w := fun _ _ _ _ => rfl
  unfold EV
  go_enter Tryd.func4, Tryd.ntmps4
  go_upto_region 4 with (go_at_call 8; refine (check_any e.kind e.ax e.ay e.sw e.sh e.n e.mods ⟨e.name.toArray⟩ ⟨e.text.toArray⟩ _ (HG.out.alloc _) (by exact hn)).mono ?_; rintro r w1 ⟨rfl, hb⟩; rw [show chkE ⟨e.kind, e.ax, e.ay, e.sw, e.sh, (⟨e.name.toArray⟩ : ByteArray).data.toList, e.mods, (⟨e.text.toArray⟩ : ByteArray).data.toList, e.n⟩ = chkE e from by simp, HE.out]; have HB1 := Lib.hid (((Below.refl _ _).alloc (Nat.le_refl _) _).trans (hb.mono (by simp))); have HE1 := Lib.hid (show Blk9 w1 w.heap.size e from (hb.block w.heap.size (by simp)).trans (heap_alloc_new w _)); have hs1 := hb.size; clear hb)
  have hs2 : w.heap.size + 1 ≤ w1.heap.size := by simpa using hs1
  clear hs1
  go_cut [5] (fun v5 wx => ∃ (c : Nat) (v : Value), v5 = .pointer (some ⟨c, 0, none⟩) ∧ Hid (LC wx (w.heap.size + 1) c v [bt (firstP e)]) ∧ w.heap.size + 1 ≤ c ∧ Hid (Below (w.heap.size + 1) w1 wx))
  case first =>
    have hlt := HE1.out.lt
    obtain ⟨j, WA, hj, hjk, hWA, hWC⟩ := words_op e HC.out
    have hk0 : w1.cell? ⟨w.heap.size, 0, none⟩ = some (.int .u8 ((j : Int) + 1)) := (HE1.out.cell 0).trans (by rw [← hjk]; rfl)
    have hj1 : IntKind.u8.wrap (j : Int) = (j : Int) := IntWalk.u8_in _ (by omega)
    have hj2 : (j : Int) < 10 := by omega
    have HWC := Lib.hid hWC; clear hWC hjk
    go_region_law (first | (go_simp; go_at_call 10; refine (HWC.out _).mono ?_; rintro e w3 ⟨rfl, rfl⟩) | fail)
    all_goals (
      go_wp2_with fail
      go_meet
      refine ⟨_, _, rfl, Lib.hid (LC.drew (LC.mk' (by first | exact al3_0 _ _ _ _ | exact al3_1 _ _ _ _ | exact al3_2 _ _ _ _) (by first | exact al3_0 _ _ _ _ | exact al3_1 _ _ _ _ | exact al3_2 _ _ _ _) (by omega))), by omega, Lib.hid (below3 w1 hs2 _ _ _).drew⟩)
  case rest =>
    obtain ⟨c, v, rfl, HL, hBc, HBx⟩ := hcut
    have HEx := Lib.hid (HE1.out.same (HBx.out.block w.heap.size (by omega)))
    have HGx := Lib.hid ((HG.out.below HG.out.size HB1.out).below (Nat.le_succ_of_le HG.out.size) HBx.out)
    have hsx := HBx.out.size
    have hGs := HG.out.size
    have HNS := Lib.hid (nums_ok e HC.out hm)
    have HTL := Lib.hid (tail_ok e HC.out)
    have HPE := Lib.hid (parts_eq e HC.out)
    have hv0 : wc.cell? ⟨w.heap.size, 0, none⟩ = some (.int .u8 e.kind) := (HEx.out.cell 0).trans rfl
    have HE1' := HE1
    clear HE1
    go_upto_block 0 with fail
    go_cut [33] from 20 to 104 (fun v33 wy => ∃ v', Hid (LC wy (w.heap.size + 1) c v' ((parts e).map bt)) ∧ Hid (Below (w.heap.size + 1) w1 wy))
    case first =>
      have hkc := kind_cases e HC.out
      obtain ⟨k, hkk⟩ : ∃ k, e.kind = k := ⟨_, rfl⟩
      rw [hkk] at hkc
      clear hv0
      by_cases hK1 : k = 1
      · subst hK1
        clear hkc
        have hv6 : wc.cell? ⟨w.heap.size, 6, none⟩ = some (.int .u8 e.mods) := (HEx.out.cell 6).trans rfl
        have hns := HNS.out
        have hpe := HPE.out
        simp only [nums, tailP, hkk, if_true, Int.reduceEq, if_false, List.map_cons, List.map_nil] at hns hpe
        have HN := Lib.hid hns; have HP := Lib.hid hpe; have HK := Lib.hid hkk; clear hns hpe HNS HPE hkk
        have d1 : (e.kind == 1) = true := by rw [HK.out]; decide
        have d2 : (e.kind == 2) = false := by rw [HK.out]; decide
        have d5 : (e.kind == 5) = false := by rw [HK.out]; decide
        have d7 : (e.kind == 7) = false := by rw [HK.out]; decide
        have d8 : (e.kind == 8) = false := by rw [HK.out]; decide
        have d9 : (e.kind == 9) = false := by rw [HK.out]; decide
        have d10 : (e.kind == 10) = false := by rw [HK.out]; decide
        have hw1 : IntKind.i64.wrap e.mods = e.mods := IntWalk.i64_in _ (by have := HN.out e.mods (by simp); omega)
        go_wp2_with fail
        refine (text1_any (w.heap.size + 1) c wc.heap.size v [bt (firstP e)] [e.mods] _ (HGx.out.alloc _) (Nat.le_succ_of_le hGs) hBc (HL.out.alloc _) (heap_alloc_new _ _) (by rw [alloc_size]; omega) HN.out (by simp)).mono ?_
        rintro r w5 ⟨rfl, v5, h5, b5⟩
        have H5 := Lib.hid h5; have HB5 := Lib.hid ((HBx.out.alloc (by omega) _).trans b5); clear h5 b5
        have hx5 : w5.cell? ⟨w.heap.size, 5, none⟩ = some (.string ⟨e.name.toArray⟩) := ((HE1'.out.same (HB5.out.block w.heap.size (by omega))).cell 5).trans rfl
        have HG5 := Lib.hid ((HG.out.below HG.out.size HB1.out).below (Nat.le_succ_of_le HG.out.size) HB5.out)
        have hs5 := HB5.out.size
        have hsd : w.heap.size + 1 ≤ w5.drew.heap.size := by show w.heap.size + 1 ≤ w5.heap.size; omega
        have hl0 := H5.out.cell
        have hlf := H5.out.free
        have HLd := Lib.hid H5.out.drew
        have hsz : (⟨e.name.toArray⟩ : ByteArray).size ≤ 65536 := HTL.out.1 HK.out
        go_upto_region 10 with fail
        go_region_law (first | (go_simp; go_at_call 13; refine (escaped_any ⟨e.name.toArray⟩ _ hsz).mono ?_; rintro r w6 ⟨rfl, hb⟩; have h6 := HLd.out.below hb; have HB6 := Lib.hid ((HB5.out.drew).trans (hb.mono hsd)); have hc6 := h6.cell; have hl6 := h6.lt; have H6 := Lib.hid h6; have hs6 := hb.size; clear hb h6) | (refine step_append_str rfl (.tmp 43) (.tmp 48) (by rfl) (w.heap.size + 1) v5 ([bt (firstP e)] ++ [e.mods].map fun n => bt (itoa n)) (bt (esc e.name)) (by rfl) (H6.out.alloc _).2 w6.heap.size (by rfl) (new_cell0 _ _ _) (by simp) (by simp; omega) ?_; intro g7 cap7 w7 hown hgr; have hc7 := (H6.out.alloc _).grownCell hgr; have hf7 := (H6.out.alloc _).grownFree hgr; have HO7 := Lib.hid hown; have HG7 := Lib.hid hgr; clear hown hgr) | fail)
        all_goals (
          go_wp2_with fail
          go_meet
          have hs := HB6.out.size
          refine ⟨.slice (some ⟨g7, 0, none⟩) 3 cap7, Lib.hid ?_, Lib.hid ?_⟩
          · rw [HP.out]; exact (H6.out.alloc _).put HG7.out HO7.out
          · exact ((HB6.out.alloc (by omega) _).grown HG7.out (by simp; omega) (fun i hi => (World.ownsRow.lt H6.out.2 i hi).1)).setCell hBc _)
      by_cases hK2 : k = 2
      · subst hK2
        clear hkc
        have hns := HNS.out
        have hpe := HPE.out
        simp only [nums, tailP, hkk, if_true, Int.reduceEq, if_false, List.map_cons, List.map_nil] at hns hpe
        have HN := Lib.hid hns; have HP := Lib.hid hpe; have HK := Lib.hid hkk; clear hns hpe HNS HPE hkk
        have d1 : (e.kind == 1) = false := by rw [HK.out]; decide
        have d2 : (e.kind == 2) = true := by rw [HK.out]; decide
        have d5 : (e.kind == 5) = false := by rw [HK.out]; decide
        have d7 : (e.kind == 7) = false := by rw [HK.out]; decide
        have d8 : (e.kind == 8) = false := by rw [HK.out]; decide
        have d9 : (e.kind == 9) = false := by rw [HK.out]; decide
        have d10 : (e.kind == 10) = false := by rw [HK.out]; decide
        have hx7 : wc.cell? ⟨w.heap.size, 7, none⟩ = some (.string ⟨e.text.toArray⟩) := (HEx.out.cell 7).trans rfl
        have hsd : w.heap.size + 1 ≤ wc.drew.heap.size := by show w.heap.size + 1 ≤ wc.heap.size; omega
        have hl0 := HL.out.cell
        have hlf := HL.out.free
        have HLd := Lib.hid HL.out.drew
        have hsz : (⟨e.text.toArray⟩ : ByteArray).size ≤ 65536 := HTL.out.2 (.inl HK.out)
        go_upto_region 12 with fail
        go_region_law (first | (go_simp; go_at_call 13; refine (escaped_any ⟨e.text.toArray⟩ _ hsz).mono ?_; rintro r w6 ⟨rfl, hb⟩; have h6 := HLd.out.below hb; have HB6 := Lib.hid ((HBx.out.drew).trans (hb.mono hsd)); have hc6 := h6.cell; have hl6 := h6.lt; have H6 := Lib.hid h6; have hs6 := hb.size; clear hb h6) | (refine step_append_str rfl (.tmp 52) (.tmp 56) (by rfl) (w.heap.size + 1) v [bt (firstP e)] (bt (esc e.text)) (by rfl) (H6.out.alloc _).2 w6.heap.size (by rfl) (new_cell0 _ _ _) (by simp) (by simp; omega) ?_; intro g7 cap7 w7 hown hgr; have hc7 := (H6.out.alloc _).grownCell hgr; have hf7 := (H6.out.alloc _).grownFree hgr; have HO7 := Lib.hid hown; have HG7 := Lib.hid hgr; clear hown hgr) | fail)
        all_goals (
          go_wp2_with fail
          go_meet
          have hs := HB6.out.size
          refine ⟨.slice (some ⟨g7, 0, none⟩) 2 cap7, Lib.hid ?_, Lib.hid ?_⟩
          · rw [HP.out]; exact (H6.out.alloc _).put HG7.out HO7.out
          · exact ((HB6.out.alloc (by omega) _).grown HG7.out (by simp; omega) (fun i hi => (World.ownsRow.lt H6.out.2 i hi).1)).setCell hBc _)
      by_cases hK3 : k = 3
      · subst hK3
        clear hkc
        have hv1 : wc.cell? ⟨w.heap.size, 1, none⟩ = some (.int .i64 e.ax) := (HEx.out.cell 1).trans rfl
        have hv2 : wc.cell? ⟨w.heap.size, 2, none⟩ = some (.int .i64 e.ay) := (HEx.out.cell 2).trans rfl
        have hv8 : wc.cell? ⟨w.heap.size, 8, none⟩ = some (.int .i64 e.n) := (HEx.out.cell 8).trans rfl
        have hns := HNS.out
        have hpe := HPE.out
        simp only [nums, tailP, hkk, if_true, Int.reduceEq, if_false, List.map_cons, List.map_nil] at hns hpe
        have HN := Lib.hid hns; have HP := Lib.hid hpe; have HK := Lib.hid hkk; clear hns hpe HNS HPE hkk
        have d1 : (e.kind == 1) = false := by rw [HK.out]; decide
        have d2 : (e.kind == 2) = false := by rw [HK.out]; decide
        have d5 : (e.kind == 5) = false := by rw [HK.out]; decide
        have d7 : (e.kind == 7) = false := by rw [HK.out]; decide
        have d8 : (e.kind == 8) = false := by rw [HK.out]; decide
        have d9 : (e.kind == 9) = false := by rw [HK.out]; decide
        have d10 : (e.kind == 10) = false := by rw [HK.out]; decide
        go_wp2_with fail
        refine (text1_any (w.heap.size + 1) c wc.heap.size v [bt (firstP e)] [e.ax, e.ay, e.n] _ (HGx.out.alloc _) (Nat.le_succ_of_le hGs) hBc (HL.out.alloc _) (heap_alloc_new _ _) (by rw [alloc_size]; omega) HN.out (by simp)).mono ?_
        rintro r w5 ⟨rfl, v5, h5, b5⟩
        have H5 := Lib.hid h5; have HB5 := Lib.hid ((HBx.out.alloc (by omega) _).trans b5); clear h5 b5
        go_wp2_with fail
        go_meet
        exact ⟨v5, Lib.hid (by rw [HP.out]; simpa using H5.out), HB5⟩
      by_cases hK4 : k = 4
      · subst hK4
        clear hkc
        have hv1 : wc.cell? ⟨w.heap.size, 1, none⟩ = some (.int .i64 e.ax) := (HEx.out.cell 1).trans rfl
        have hv2 : wc.cell? ⟨w.heap.size, 2, none⟩ = some (.int .i64 e.ay) := (HEx.out.cell 2).trans rfl
        have hv8 : wc.cell? ⟨w.heap.size, 8, none⟩ = some (.int .i64 e.n) := (HEx.out.cell 8).trans rfl
        have hns := HNS.out
        have hpe := HPE.out
        simp only [nums, tailP, hkk, if_true, Int.reduceEq, if_false, List.map_cons, List.map_nil] at hns hpe
        have HN := Lib.hid hns; have HP := Lib.hid hpe; have HK := Lib.hid hkk; clear hns hpe HNS HPE hkk
        have d1 : (e.kind == 1) = false := by rw [HK.out]; decide
        have d2 : (e.kind == 2) = false := by rw [HK.out]; decide
        have d5 : (e.kind == 5) = false := by rw [HK.out]; decide
        have d7 : (e.kind == 7) = false := by rw [HK.out]; decide
        have d8 : (e.kind == 8) = false := by rw [HK.out]; decide
        have d9 : (e.kind == 9) = false := by rw [HK.out]; decide
        have d10 : (e.kind == 10) = false := by rw [HK.out]; decide
        go_wp2_with fail
        refine (text1_any (w.heap.size + 1) c wc.heap.size v [bt (firstP e)] [e.ax, e.ay, e.n] _ (HGx.out.alloc _) (Nat.le_succ_of_le hGs) hBc (HL.out.alloc _) (heap_alloc_new _ _) (by rw [alloc_size]; omega) HN.out (by simp)).mono ?_
        rintro r w5 ⟨rfl, v5, h5, b5⟩
        have H5 := Lib.hid h5; have HB5 := Lib.hid ((HBx.out.alloc (by omega) _).trans b5); clear h5 b5
        go_wp2_with fail
        go_meet
        exact ⟨v5, Lib.hid (by rw [HP.out]; simpa using H5.out), HB5⟩
      by_cases hK5 : k = 5
      · subst hK5
        clear hkc
        have hv1 : wc.cell? ⟨w.heap.size, 1, none⟩ = some (.int .i64 e.ax) := (HEx.out.cell 1).trans rfl
        have hv2 : wc.cell? ⟨w.heap.size, 2, none⟩ = some (.int .i64 e.ay) := (HEx.out.cell 2).trans rfl
        have hns := HNS.out
        have hpe := HPE.out
        simp only [nums, tailP, hkk, if_true, Int.reduceEq, if_false, List.map_cons, List.map_nil] at hns hpe
        have HN := Lib.hid hns; have HP := Lib.hid hpe; have HK := Lib.hid hkk; clear hns hpe HNS HPE hkk
        have d1 : (e.kind == 1) = false := by rw [HK.out]; decide
        have d2 : (e.kind == 2) = false := by rw [HK.out]; decide
        have d5 : (e.kind == 5) = true := by rw [HK.out]; decide
        have d7 : (e.kind == 7) = false := by rw [HK.out]; decide
        have d8 : (e.kind == 8) = false := by rw [HK.out]; decide
        have d9 : (e.kind == 9) = false := by rw [HK.out]; decide
        have d10 : (e.kind == 10) = false := by rw [HK.out]; decide
        go_wp2_with fail
        refine (text1_any (w.heap.size + 1) c wc.heap.size v [bt (firstP e)] [e.ax, e.ay] _ (HGx.out.alloc _) (Nat.le_succ_of_le hGs) hBc (HL.out.alloc _) (heap_alloc_new _ _) (by rw [alloc_size]; omega) HN.out (by simp)).mono ?_
        rintro r w5 ⟨rfl, v5, h5, b5⟩
        have H5 := Lib.hid h5; have HB5 := Lib.hid ((HBx.out.alloc (by omega) _).trans b5); clear h5 b5
        go_wp2_with fail
        go_meet
        exact ⟨v5, Lib.hid (by rw [HP.out]; simpa using H5.out), HB5⟩
      by_cases hK6 : k = 6
      · subst hK6
        clear hkc
        have hv1 : wc.cell? ⟨w.heap.size, 1, none⟩ = some (.int .i64 e.ax) := (HEx.out.cell 1).trans rfl
        have hv2 : wc.cell? ⟨w.heap.size, 2, none⟩ = some (.int .i64 e.ay) := (HEx.out.cell 2).trans rfl
        have hv8 : wc.cell? ⟨w.heap.size, 8, none⟩ = some (.int .i64 e.n) := (HEx.out.cell 8).trans rfl
        have hns := HNS.out
        have hpe := HPE.out
        simp only [nums, tailP, hkk, if_true, Int.reduceEq, if_false, List.map_cons, List.map_nil] at hns hpe
        have HN := Lib.hid hns; have HP := Lib.hid hpe; have HK := Lib.hid hkk; clear hns hpe HNS HPE hkk
        have d1 : (e.kind == 1) = false := by rw [HK.out]; decide
        have d2 : (e.kind == 2) = false := by rw [HK.out]; decide
        have d5 : (e.kind == 5) = false := by rw [HK.out]; decide
        have d7 : (e.kind == 7) = false := by rw [HK.out]; decide
        have d8 : (e.kind == 8) = false := by rw [HK.out]; decide
        have d9 : (e.kind == 9) = false := by rw [HK.out]; decide
        have d10 : (e.kind == 10) = false := by rw [HK.out]; decide
        go_wp2_with fail
        refine (text1_any (w.heap.size + 1) c wc.heap.size v [bt (firstP e)] [e.ax, e.ay, e.n] _ (HGx.out.alloc _) (Nat.le_succ_of_le hGs) hBc (HL.out.alloc _) (heap_alloc_new _ _) (by rw [alloc_size]; omega) HN.out (by simp)).mono ?_
        rintro r w5 ⟨rfl, v5, h5, b5⟩
        have H5 := Lib.hid h5; have HB5 := Lib.hid ((HBx.out.alloc (by omega) _).trans b5); clear h5 b5
        go_wp2_with fail
        go_meet
        exact ⟨v5, Lib.hid (by rw [HP.out]; simpa using H5.out), HB5⟩
      by_cases hK7 : k = 7
      · subst hK7
        clear hkc
        have hv8 : wc.cell? ⟨w.heap.size, 8, none⟩ = some (.int .i64 e.n) := (HEx.out.cell 8).trans rfl
        have hns := HNS.out
        have hpe := HPE.out
        simp only [nums, tailP, hkk, if_true, Int.reduceEq, if_false, List.map_cons, List.map_nil] at hns hpe
        have HN := Lib.hid hns; have HP := Lib.hid hpe; have HK := Lib.hid hkk; clear hns hpe HNS HPE hkk
        have d1 : (e.kind == 1) = false := by rw [HK.out]; decide
        have d2 : (e.kind == 2) = false := by rw [HK.out]; decide
        have d5 : (e.kind == 5) = false := by rw [HK.out]; decide
        have d7 : (e.kind == 7) = true := by rw [HK.out]; decide
        have d8 : (e.kind == 8) = false := by rw [HK.out]; decide
        have d9 : (e.kind == 9) = false := by rw [HK.out]; decide
        have d10 : (e.kind == 10) = false := by rw [HK.out]; decide
        go_wp2_with fail
        refine (text1_any (w.heap.size + 1) c wc.heap.size v [bt (firstP e)] [e.n] _ (HGx.out.alloc _) (Nat.le_succ_of_le hGs) hBc (HL.out.alloc _) (heap_alloc_new _ _) (by rw [alloc_size]; omega) HN.out (by simp)).mono ?_
        rintro r w5 ⟨rfl, v5, h5, b5⟩
        have H5 := Lib.hid h5; have HB5 := Lib.hid ((HBx.out.alloc (by omega) _).trans b5); clear h5 b5
        go_wp2_with fail
        go_meet
        exact ⟨v5, Lib.hid (by rw [HP.out]; simpa using H5.out), HB5⟩
      by_cases hK8 : k = 8
      · subst hK8
        clear hkc
        have hv3 : wc.cell? ⟨w.heap.size, 3, none⟩ = some (.int .i64 e.sw) := (HEx.out.cell 3).trans rfl
        have hv4 : wc.cell? ⟨w.heap.size, 4, none⟩ = some (.int .i64 e.sh) := (HEx.out.cell 4).trans rfl
        have hns := HNS.out
        have hpe := HPE.out
        simp only [nums, tailP, hkk, if_true, Int.reduceEq, if_false, List.map_cons, List.map_nil] at hns hpe
        have HN := Lib.hid hns; have HP := Lib.hid hpe; have HK := Lib.hid hkk; clear hns hpe HNS HPE hkk
        have d1 : (e.kind == 1) = false := by rw [HK.out]; decide
        have d2 : (e.kind == 2) = false := by rw [HK.out]; decide
        have d5 : (e.kind == 5) = false := by rw [HK.out]; decide
        have d7 : (e.kind == 7) = false := by rw [HK.out]; decide
        have d8 : (e.kind == 8) = true := by rw [HK.out]; decide
        have d9 : (e.kind == 9) = false := by rw [HK.out]; decide
        have d10 : (e.kind == 10) = false := by rw [HK.out]; decide
        go_wp2_with fail
        refine (text1_any (w.heap.size + 1) c wc.heap.size v [bt (firstP e)] [e.sw, e.sh] _ (HGx.out.alloc _) (Nat.le_succ_of_le hGs) hBc (HL.out.alloc _) (heap_alloc_new _ _) (by rw [alloc_size]; omega) HN.out (by simp)).mono ?_
        rintro r w5 ⟨rfl, v5, h5, b5⟩
        have H5 := Lib.hid h5; have HB5 := Lib.hid ((HBx.out.alloc (by omega) _).trans b5); clear h5 b5
        go_wp2_with fail
        go_meet
        exact ⟨v5, Lib.hid (by rw [HP.out]; simpa using H5.out), HB5⟩
      by_cases hK9 : k = 9
      · subst hK9
        clear hkc
        have hv1 : wc.cell? ⟨w.heap.size, 1, none⟩ = some (.int .i64 e.ax) := (HEx.out.cell 1).trans rfl
        have hv2 : wc.cell? ⟨w.heap.size, 2, none⟩ = some (.int .i64 e.ay) := (HEx.out.cell 2).trans rfl
        have hns := HNS.out
        have hpe := HPE.out
        simp only [nums, tailP, hkk, if_true, Int.reduceEq, if_false, List.map_cons, List.map_nil] at hns hpe
        have HN := Lib.hid hns; have HP := Lib.hid hpe; have HK := Lib.hid hkk; clear hns hpe HNS HPE hkk
        have d1 : (e.kind == 1) = false := by rw [HK.out]; decide
        have d2 : (e.kind == 2) = false := by rw [HK.out]; decide
        have d5 : (e.kind == 5) = false := by rw [HK.out]; decide
        have d7 : (e.kind == 7) = false := by rw [HK.out]; decide
        have d8 : (e.kind == 8) = false := by rw [HK.out]; decide
        have d9 : (e.kind == 9) = true := by rw [HK.out]; decide
        have d10 : (e.kind == 10) = false := by rw [HK.out]; decide
        go_wp2_with fail
        refine (text1_any (w.heap.size + 1) c wc.heap.size v [bt (firstP e)] [e.ax, e.ay] _ (HGx.out.alloc _) (Nat.le_succ_of_le hGs) hBc (HL.out.alloc _) (heap_alloc_new _ _) (by rw [alloc_size]; omega) HN.out (by simp)).mono ?_
        rintro r w5 ⟨rfl, v5, h5, b5⟩
        have H5 := Lib.hid h5; have HB5 := Lib.hid ((HBx.out.alloc (by omega) _).trans b5); clear h5 b5
        have hx7 : w5.cell? ⟨w.heap.size, 7, none⟩ = some (.string ⟨e.text.toArray⟩) := ((HE1'.out.same (HB5.out.block w.heap.size (by omega))).cell 7).trans rfl
        have HG5 := Lib.hid ((HG.out.below HG.out.size HB1.out).below (Nat.le_succ_of_le HG.out.size) HB5.out)
        have hs5 := HB5.out.size
        have hsd : w.heap.size + 1 ≤ w5.drew.heap.size := by show w.heap.size + 1 ≤ w5.heap.size; omega
        have hl0 := H5.out.cell
        have hlf := H5.out.free
        have HLd := Lib.hid H5.out.drew
        have hsz : (⟨e.text.toArray⟩ : ByteArray).size ≤ 65536 := HTL.out.2 (.inr (.inl HK.out))
        go_upto_region 22 with fail
        go_region_law (first | (go_simp; go_at_call 13; refine (escaped_any ⟨e.text.toArray⟩ _ hsz).mono ?_; rintro r w6 ⟨rfl, hb⟩; have h6 := HLd.out.below hb; have HB6 := Lib.hid ((HB5.out.drew).trans (hb.mono hsd)); have hc6 := h6.cell; have hl6 := h6.lt; have H6 := Lib.hid h6; have hs6 := hb.size; clear hb h6) | (refine step_append_str rfl (.tmp 99) (.tmp 103) (by rfl) (w.heap.size + 1) v5 ([bt (firstP e)] ++ [e.ax, e.ay].map fun n => bt (itoa n)) (bt (esc e.text)) (by rfl) (H6.out.alloc _).2 w6.heap.size (by rfl) (new_cell0 _ _ _) (by simp) (by simp; omega) ?_; intro g7 cap7 w7 hown hgr; have hc7 := (H6.out.alloc _).grownCell hgr; have hf7 := (H6.out.alloc _).grownFree hgr; have HO7 := Lib.hid hown; have HG7 := Lib.hid hgr; clear hown hgr) | fail)
        all_goals (
          go_wp2_with fail
          go_meet
          have hs := HB6.out.size
          refine ⟨.slice (some ⟨g7, 0, none⟩) 4 cap7, Lib.hid ?_, Lib.hid ?_⟩
          · rw [HP.out]; exact (H6.out.alloc _).put HG7.out HO7.out
          · exact ((HB6.out.alloc (by omega) _).grown HG7.out (by simp; omega) (fun i hi => (World.ownsRow.lt H6.out.2 i hi).1)).setCell hBc _)
      by_cases hK10 : k = 10
      · subst hK10
        clear hkc
        have hv1 : wc.cell? ⟨w.heap.size, 1, none⟩ = some (.int .i64 e.ax) := (HEx.out.cell 1).trans rfl
        have hv2 : wc.cell? ⟨w.heap.size, 2, none⟩ = some (.int .i64 e.ay) := (HEx.out.cell 2).trans rfl
        have hns := HNS.out
        have hpe := HPE.out
        simp only [nums, tailP, hkk, if_true, Int.reduceEq, if_false, List.map_cons, List.map_nil] at hns hpe
        have HN := Lib.hid hns; have HP := Lib.hid hpe; have HK := Lib.hid hkk; clear hns hpe HNS HPE hkk
        have d1 : (e.kind == 1) = false := by rw [HK.out]; decide
        have d2 : (e.kind == 2) = false := by rw [HK.out]; decide
        have d5 : (e.kind == 5) = false := by rw [HK.out]; decide
        have d7 : (e.kind == 7) = false := by rw [HK.out]; decide
        have d8 : (e.kind == 8) = false := by rw [HK.out]; decide
        have d9 : (e.kind == 9) = false := by rw [HK.out]; decide
        have d10 : (e.kind == 10) = true := by rw [HK.out]; decide
        go_wp2_with fail
        refine (text1_any (w.heap.size + 1) c wc.heap.size v [bt (firstP e)] [e.ax, e.ay] _ (HGx.out.alloc _) (Nat.le_succ_of_le hGs) hBc (HL.out.alloc _) (heap_alloc_new _ _) (by rw [alloc_size]; omega) HN.out (by simp)).mono ?_
        rintro r w5 ⟨rfl, v5, h5, b5⟩
        have H5 := Lib.hid h5; have HB5 := Lib.hid ((HBx.out.alloc (by omega) _).trans b5); clear h5 b5
        have hx7 : w5.cell? ⟨w.heap.size, 7, none⟩ = some (.string ⟨e.text.toArray⟩) := ((HE1'.out.same (HB5.out.block w.heap.size (by omega))).cell 7).trans rfl
        have HG5 := Lib.hid ((HG.out.below HG.out.size HB1.out).below (Nat.le_succ_of_le HG.out.size) HB5.out)
        have hs5 := HB5.out.size
        have hsd : w.heap.size + 1 ≤ w5.drew.heap.size := by show w.heap.size + 1 ≤ w5.heap.size; omega
        have hl0 := H5.out.cell
        have hlf := H5.out.free
        have HLd := Lib.hid H5.out.drew
        have hsz : (⟨e.text.toArray⟩ : ByteArray).size ≤ 65536 := HTL.out.2 (.inr (.inr HK.out))
        go_upto_region 22 with fail
        go_region_law (first | (go_simp; go_at_call 13; refine (escaped_any ⟨e.text.toArray⟩ _ hsz).mono ?_; rintro r w6 ⟨rfl, hb⟩; have h6 := HLd.out.below hb; have HB6 := Lib.hid ((HB5.out.drew).trans (hb.mono hsd)); have hc6 := h6.cell; have hl6 := h6.lt; have H6 := Lib.hid h6; have hs6 := hb.size; clear hb h6) | (refine step_append_str rfl (.tmp 99) (.tmp 103) (by rfl) (w.heap.size + 1) v5 ([bt (firstP e)] ++ [e.ax, e.ay].map fun n => bt (itoa n)) (bt (esc e.text)) (by rfl) (H6.out.alloc _).2 w6.heap.size (by rfl) (new_cell0 _ _ _) (by simp) (by simp; omega) ?_; intro g7 cap7 w7 hown hgr; have hc7 := (H6.out.alloc _).grownCell hgr; have hf7 := (H6.out.alloc _).grownFree hgr; have HO7 := Lib.hid hown; have HG7 := Lib.hid hgr; clear hown hgr) | fail)
        all_goals (
          go_wp2_with fail
          go_meet
          have hs := HB6.out.size
          refine ⟨.slice (some ⟨g7, 0, none⟩) 4 cap7, Lib.hid ?_, Lib.hid ?_⟩
          · rw [HP.out]; exact (H6.out.alloc _).put HG7.out HO7.out
          · exact ((HB6.out.alloc (by omega) _).grown HG7.out (by simp; omega) (fun i hi => (World.ownsRow.lt H6.out.2 i hi).1)).setCell hBc _)
      omega
    case rest =>
      obtain ⟨v', HLy, HBy⟩ := hcut
      have HG2 := Lib.hid ((HG.out.below HG.out.size HB1.out).below (Nat.le_succ_of_le HG.out.size) HBy.out)
      have hcl := HLy.out.cell
      have hbl := body_len e HC.out hm
      have hjp : Lib.join (((parts e).map bt).map (·.data.toList)) [32] = body e := by rw [map_bt, join_parts]
      have HJP := Lib.hid hjp; clear hjp
      clear HL HBx HEx HGx hsx hv0 HNS HTL HPE
      by_cases hL : (body e).length ≤ 65536
      · have hd : ((body e).length : Int) ≤ 65536 := by omega
        go_wp2_with (go_at_call 14; refine (join_any (w.heap.size + 1) c v' ((parts e).map bt) _ HLy.out (by simp [parts_pos]) (by simp [parts_len]) (by rw [HJP.out]; omega)).mono ?_; rintro r w9 ⟨rfl, hb⟩; rw [HJP.out]; have HB9 := Lib.hid ((HB1.out.trans (HBy.out.mono (Nat.le_succ _))).trans (hb.mono (by have h1 := HB1.out.size; have h2 := HBy.out.size; omega))); clear hb)
        go_ret2
        refine ⟨?_, HB9.out⟩
        rw [textB, if_pos ⟨HC.out, hL⟩, textE, if_pos HC.out, if_pos hL]; rfl
      · have hd : ¬ ((body e).length : Int) ≤ 65536 := by omega
        go_wp2_with (go_at_call 14; refine (join_any (w.heap.size + 1) c v' ((parts e).map bt) _ HLy.out (by simp [parts_pos]) (by simp [parts_len]) (by rw [HJP.out]; omega)).mono ?_; rintro r w9 ⟨rfl, hb⟩; rw [HJP.out]; have HB9 := Lib.hid ((HB1.out.trans (HBy.out.mono (Nat.le_succ _))).trans (hb.mono (by have h1 := HB1.out.size; have h2 := HBy.out.size; omega))); clear hb)
        go_ret2
        refine ⟨?_, HB9.out⟩
        rw [textB, if_neg (fun h => hL h.2), textE, if_pos HC.out, if_neg hL]; rfl

/-- event.Text, whole. -/
theorem evText_any (e : E) (w : World) (hg : Glob w) (hn : e.name.length ≤ 9223372036854775807) (hm : 0 ≤ e.mods) :
    Calls Tryd.prog 4 #[EV e] w fun r w' => r = .returned (.tuple #[.string (bt (textB e)), .int .i64 (textE e)]) ∧ Below w.heap.size w w' := by
  by_cases hch : chk e = true
  · exact text_right e w hg hn hm hch
  · rw [textB, if_neg (fun h => hch h.1), textE, if_neg hch]
    exact text_wrong e w hg hn hch
end Go.Proofs.YtgkpbpcebgegbaaDoor
