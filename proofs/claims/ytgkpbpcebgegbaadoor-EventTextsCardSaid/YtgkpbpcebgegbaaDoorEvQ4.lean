/- The document's answer: Parse. -/
import Derived.Test.YtgkpbpcebgegbaaDoorEvQ1
import Derived.Test.YtgkpbpcebgegbaaDoorEvQ2
import Derived.Test.YtgkpbpcebgegbaaDoorEvQ3
import Derived.Test.YtgkpbpcebgegbaaDoorEvI
namespace Go.Proofs.YtgkpbpcebgegbaaDoor
open Go.RowKit Ev
set_option linter.unusedVariables false
set_option linter.unusedSimpArgs false
theorem res_parseq {w : World} {r : Nat} {e : E} (h : Blk9 w r e) (tm : Array Value) (x y : Int) (h2 : tm.getD 2 undef = .pointer (some ⟨r, 0, none⟩)) (h3 : tm.getD 3 undef = .int .i64 x) (h4 : tm.getD 4 undef = .int .i64 y) :
    (results Tryd.f7 tm).run Tryd.prog w = .ok (.tuple #[EV e, .int .i64 x, .int .i64 y]) w := by
  have hl := load_ev h
  have hr : Tryd.f7.results = #[.cell 2 29, .tmp 3, .tmp 4] := rfl
  simp only [results, hr]
  simp at h2 h3 h4
  simp [Sem.run_bind, Result.andThen, asAddr, h2, h3, h4, hl]
/-- Amidst Parse: the reader at g, the event at b, the result's place r; of what was there at the begin nothing has turned. -/
structure MidQ (w0 w : World) (s : ByteArray) (r g b : Nat) (σ : RS) (e : E) : Prop where
  rd : IsQd w g s σ
  ev : Blk9 w b e
  res : Blk9 w r E0
  old : Below w0.heap.size w0 w
  r0 : w0.heap.size ≤ r
  g0 : w0.heap.size ≤ g
  b0 : w0.heap.size ≤ b
  bg : b ≠ g
  rg : r ≠ g
  rb : r ≠ b
section
variable {w0 w : World} {s : ByteArray} {r g b : Nat} {σ : RS} {e : E}
theorem MidQ.read {w' : World} {σ' : RS} (h : MidQ w0 w s r g b σ e) (hr : IsQd w' g s σ') (hg : w.grownBy w' (some g)) : MidQ w0 w' s r g b σ' e :=
  ⟨hr, h.ev.same (hg.block b h.ev.lt (by simp [h.bg])), h.res.same (hg.block r h.res.lt (by simp [h.rg])), h.old.grown hg h.old.size (fun k hk => by cases hk; exact h.g0), h.r0, h.g0, h.b0, h.bg, h.rg, h.rb⟩
theorem MidQ.set (h : MidQ w0 w s r g b σ e) (o : Nat) (v : Value) (e' : E) (he : (EC e).setIfInBounds o v = EC e') : MidQ w0 (w.setCell ⟨b, o, none⟩ v) s r g b σ e' :=
  ⟨h.rd.same (Below.heap_setCell _ _ _ _ h.bg.symm), h.ev.set o v e' he, h.res.same (Below.heap_setCell _ _ _ _ h.rb), h.old.setCell h.b0 v, h.r0, h.g0, h.b0, h.bg, h.rg, h.rb⟩
theorem MidQ.glob (h : MidQ w0 w s r g b σ e) (hg : Glob w0) : Glob w := hg.below hg.size h.old
theorem MidQ.pass {w' : World} (h : MidQ w0 w s r g b σ e) (hb : Below w.heap.size w w') : MidQ w0 w' s r g b σ e :=
  ⟨h.rd.below hb h.rd.lt, h.ev.same (hb.block b h.ev.lt), h.res.same (hb.block r h.res.lt), h.old.trans (hb.mono h.old.size), h.r0, h.g0, h.b0, h.bg, h.rg, h.rb⟩
end

/-- The answer's text, in whatever state. -/
theorem textq_any (s : ByteArray) (g : Nat) (σ : RS) (w : World) (hs : s.size ≤ 4294967280) (hI : IsQd w g s σ) :
    Calls Tryd.prog 25 #[.pointer (some ⟨g, 0, none⟩)] w fun e w' => TextQ s.data.toList σ e ∧ IsQd w' g s (textS s.data.toList σ).2 ∧ w.grownBy w' (some g) := by
  cases σ with
  | bad p =>
    refine (textq_bad s g p w hI).mono ?_
    rintro e w' ⟨rfl, rfl⟩
    exact ⟨TextQ.bad (p := p) rfl [], hI, grown_refl _ _⟩
  | ok a =>
    by_cases hb : s.data.toList[a]? = some 32
    · have h := textq_blank s g a w hs hI hb
      have e : textS s.data.toList (.ok a) = textR s.data.toList (.ok (a + 1)) := by unfold textS; rw [blankS, if_pos hb]
      rw [e]
      exact h
    · have e : textS s.data.toList (.ok a) = ([], .bad a) := by unfold textS; rw [blankS, if_neg hb]; rfl
      refine (textq_noblank s g a w (by omega) hI hb).mono ?_
      rintro r w' ⟨rfl, h1, h2⟩
      exact ⟨TextQ.bad (p := a) (by rw [e]) [], by rw [e]; exact h1, h2⟩
theorem MidQ.start {w0 w1 : World} {s : ByteArray} {r g : Nat} {σ : RS} (e : E) (hI : IsQd w1 g s σ) (hR : Blk9 w1 r E0) (hB : Below w0.heap.size w0 w1) (r0 : w0.heap.size ≤ r) (g0 : w0.heap.size ≤ g) (hrg : r ≠ g) : MidQ w0 (w1.alloc (.cells (EC e) 29)) s r g w1.heap.size σ e := by
  have h1 := hI.lt
  have h2 := hR.lt
  have hb : Below w1.heap.size w1 (w1.alloc (.cells (EC e) 29)) := (Below.refl _ _).alloc (Nat.le_refl _) _
  have hnew : Blk9 (w1.alloc (.cells (EC e) 29)) w1.heap.size e := heap_alloc_new _ _
  exact ⟨hI.below hb h1, hnew, hR.same (hb.block r h2), hB.trans (hb.mono hB.size), r0, g0, hB.size, by omega, hrg, by omega⟩
set_option maxHeartbeats 4000000 in
set_option maxRecDepth 100000 in
theorem parseq_long (s : ByteArray) (w : World) (hs : 65536 < s.size) :
    Calls Tryd.prog 7 #[.string s] w fun e w' => e = .returned (.tuple #[EV E0, .int .i64 0, .int .i64 3]) ∧ Below w.heap.size w w' := by
  go_enter Tryd.func7, Tryd.ntmps7
  go_wp2_with fail
  exact bodyPost_ret (v := .tuple #[EV E0, .int .i64 0, .int .i64 3]) (by simp [results, Tryd.results7, go_sem, EV, E0]) rfl ⟨rfl, (Below.refl _ _).alloc (Nat.le_refl _) _⟩
set_option maxHeartbeats 8000000 in
set_option maxRecDepth 100000 in
theorem parseq_A (s : ByteArray) (w : World) (hg : Glob w) (hs : s.size ≤ 65536) (hgr : 3 ≤ kindOf (s.data.toList.takeWhile lowB) ∧ kindOf (s.data.toList.takeWhile lowB) ≤ 6) :
    Calls Tryd.prog 7 #[.string s] w fun e w' => e = .returned (.tuple #[EV (parse s.data.toList).1, .int .i64 (parse s.data.toList).2.1, .int .i64 (parse s.data.toList).2.2]) ∧ Below w.heap.size w w' := by
  have HG := Lib.hid hg; clear hg
  have hk10 : kindOf (s.data.toList.takeWhile lowB) ≤ 10 := kindOf_le _
  obtain ⟨L, hL⟩ : ∃ L, (s.data.toList.takeWhile lowB).length = L := ⟨_, rfl⟩
  obtain ⟨K, hK⟩ : ∃ K, kindOf (s.data.toList.takeWhile lowB) = K := ⟨_, rfl⟩
  have hkS : kindS s.data.toList = if K = 0 then .bad 0 else .ok L := by unfold kindS; rw [hK, hL]
  rw [hK] at hk10 hgr
  have HKS := Lib.hid hkS; have HL := Lib.hid hL; have HK := Lib.hid hK; clear hkS hL hK
  have hkw := kindq_any s (w.heap.size + 1) ((w.alloc (.cells (EC E0) 29)).alloc (.cells #[.string s, .int .i64 0, .int .i64 (-1)] 55)) (by omega) ⟨Nat.zero_le _, alloc_at2 _ _ _⟩
  rw [HK.out, HKS.out] at hkw
  have HKW := Lib.hid hkw; clear hkw HKS
  have gd0 : decide (3 ≤ (K : Int)) = true := decide_eq_true (by omega)
  have gd1 : decide ((K : Int) ≤ 6) = true := decide_eq_true (by omega)
  go_enter Tryd.func7, Tryd.ntmps7
  go_wp2_with fail
  refine HKW.out.mono ?_
  rintro e w1 ⟨rfl, hI1, g1⟩
  have hB1 : Below w.heap.size w w1 := ((((Below.refl _ _).alloc (Nat.le_refl _) _).alloc (by simp) _).grown g1 (by simp; omega) (fun k hk => by cases hk; omega))
  have hR1 : Blk9 w1 w.heap.size E0 := Blk9.same (show Blk9 ((w.alloc (.cells (EC E0) 29)).alloc (.cells #[.string s, .int .i64 0, .int .i64 (-1)] 55)) w.heap.size E0 from alloc_at1 _ _ _) (g1.block _ (by simp; omega) (by simp))
  rw [if_neg (show ¬ K = 0 by omega)] at hI1
  have HM0 := Lib.hid (MidQ.start ⟨K, 0, 0, 0, 0, [], 0, [], 0⟩ hI1 hR1 hB1 (Nat.le_refl _) (Nat.le_succ _) (by omega))
  clear hI1 hR1 hB1 g1 HKW
  go_upto_region 5 with fail
  change Code.wp _ _ _ _ (w1.alloc (.cells (EC ⟨K, 0, 0, 0, 0, [], 0, [], 0⟩) 29))
  generalize w1.alloc (.cells (EC ⟨K, 0, 0, 0, 0, [], 0, [], 0⟩) 29) = w2 at HM0 ⊢
  generalize w1.heap.size = b at HM0 ⊢
  have hkc : w2.cell? ⟨b, 0, none⟩ = some (.int .u8 (K : Int)) := (HM0.out.ev.cell 0).trans rfl
  go_wp2_with fail
  refine (numq_any s _ (.ok L) _ (by omega) HM0.out.rd).mono ?_
  rintro e w4 ⟨rfl, hr, hgr⟩
  have HR4 := Lib.hid (HM0.out.read hr hgr); clear hr hgr
  have hc1 : w4.cell? ⟨b, 1, none⟩ = some (.int .i64 0) := (HR4.out.ev.cell 1).trans rfl
  have hf1 := HR4.out.ev.free 1
  have HM4 := Lib.hid (HR4.out.set 1 (.int .i64 (numS s.data.toList (.ok L)).1) ⟨(K : Int), (numS s.data.toList (.ok L)).1, 0, 0, 0, [], 0, [], 0⟩ rfl)
  go_wp2_with fail
  refine (numq_any s _ (numS s.data.toList (.ok L)).2 _ (by omega) HM4.out.rd).mono ?_
  rintro e w5 ⟨rfl, hr, hgr⟩
  have HR5 := Lib.hid (HM4.out.read hr hgr); clear hr hgr
  have hc2 : w5.cell? ⟨b, 2, none⟩ = some (.int .i64 0) := (HR5.out.ev.cell 2).trans rfl
  have hf2 := HR5.out.ev.free 2
  have HM5 := Lib.hid (HR5.out.set 2 (.int .i64 (numS s.data.toList (numS s.data.toList (.ok L)).2).1) ⟨(K : Int), (numS s.data.toList (.ok L)).1, (numS s.data.toList (numS s.data.toList (.ok L)).2).1, 0, 0, [], 0, [], 0⟩ rfl)
  have hkd : w5.cell? ⟨b, 0, none⟩ = some (.int .u8 (K : Int)) := (HR5.out.ev.cell 0).trans rfl
  go_upto_block 0 with fail
  go_cut [8] (fun v8 wx => ∃ (m : Int) (e : E), v8 = .int .i64 m ∧ Hid (m = (fields s.data.toList K (.ok L)).2.1) ∧ Hid (∀ q, (fields s.data.toList K (.ok L)).2.2 = .ok q → e = (fields s.data.toList K (.ok L)).1) ∧ Hid ((fields s.data.toList K (.ok L)).1.name.length ≤ s.data.toList.length) ∧ Hid (MidQ w wx s w.heap.size (w.heap.size + 1) b (fields s.data.toList K (.ok L)).2.2 e))
  case first =>
    by_cases k3 : K = 3
    · subst k3
      go_wp2_with fail
      refine (numq_any s _ (numS s.data.toList (numS s.data.toList (.ok L)).2).2 _ (by omega) HM5.out.rd).mono ?_
      rintro e w7 ⟨rfl, hr, hgr⟩
      have HR7 := Lib.hid (HM5.out.read hr hgr); clear hr hgr
      have hc8 : w7.cell? ⟨b, 8, none⟩ = some (.int .i64 0) := (HR7.out.ev.cell 8).trans rfl
      have hf8 := HR7.out.ev.free 8
      have HM7 := Lib.hid (HR7.out.set 8 (.int .i64 (numS s.data.toList (numS s.data.toList (numS s.data.toList (.ok L)).2).2).1) ⟨3, (numS s.data.toList (.ok L)).1, (numS s.data.toList (numS s.data.toList (.ok L)).2).1, 0, 0, [], 0, [], (numS s.data.toList (numS s.data.toList (numS s.data.toList (.ok L)).2).2).1⟩ rfl)
      go_wp2_with fail
      go_meet
      exact ⟨_, _, rfl, Lib.hid rfl, Lib.hid (fun q hq => rfl), Lib.hid (Nat.zero_le _), HM7⟩
    by_cases k4 : K = 4
    · subst k4
      go_wp2_with fail
      refine (numq_any s _ (numS s.data.toList (numS s.data.toList (.ok L)).2).2 _ (by omega) HM5.out.rd).mono ?_
      rintro e w7 ⟨rfl, hr, hgr⟩
      have HR7 := Lib.hid (HM5.out.read hr hgr); clear hr hgr
      have hc8 : w7.cell? ⟨b, 8, none⟩ = some (.int .i64 0) := (HR7.out.ev.cell 8).trans rfl
      have hf8 := HR7.out.ev.free 8
      have HM7 := Lib.hid (HR7.out.set 8 (.int .i64 (numS s.data.toList (numS s.data.toList (numS s.data.toList (.ok L)).2).2).1) ⟨4, (numS s.data.toList (.ok L)).1, (numS s.data.toList (numS s.data.toList (.ok L)).2).1, 0, 0, [], 0, [], (numS s.data.toList (numS s.data.toList (numS s.data.toList (.ok L)).2).2).1⟩ rfl)
      go_wp2_with fail
      go_meet
      exact ⟨_, _, rfl, Lib.hid rfl, Lib.hid (fun q hq => rfl), Lib.hid (Nat.zero_le _), HM7⟩
    by_cases k5 : K = 5
    · subst k5
      go_wp2_with fail
      go_meet
      exact ⟨_, _, rfl, Lib.hid rfl, Lib.hid (fun q hq => rfl), Lib.hid (Nat.zero_le _), HM5⟩
    by_cases k6 : K = 6
    · subst k6
      go_wp2_with fail
      refine (numq_any s _ (numS s.data.toList (numS s.data.toList (.ok L)).2).2 _ (by omega) HM5.out.rd).mono ?_
      rintro e w7 ⟨rfl, hr, hgr⟩
      have HR7 := Lib.hid (HM5.out.read hr hgr); clear hr hgr
      have hc8 : w7.cell? ⟨b, 8, none⟩ = some (.int .i64 0) := (HR7.out.ev.cell 8).trans rfl
      have hf8 := HR7.out.ev.free 8
      have HM7 := Lib.hid (HR7.out.set 8 (.int .i64 (numS s.data.toList (numS s.data.toList (numS s.data.toList (.ok L)).2).2).1) ⟨6, (numS s.data.toList (.ok L)).1, (numS s.data.toList (numS s.data.toList (.ok L)).2).1, 0, 0, [], 0, [], (numS s.data.toList (numS s.data.toList (numS s.data.toList (.ok L)).2).2).1⟩ rfl)
      go_wp2_with fail
      go_meet
      exact ⟨_, _, rfl, Lib.hid rfl, Lib.hid (fun q hq => rfl), Lib.hid (Nat.zero_le _), HM7⟩
    exfalso; omega
  case rest =>
    obtain ⟨m, e, rfl, HMM, HEE, HNL, HM2⟩ := hcut
    clear HM0
    have hp : parse s.data.toList = finish (fields s.data.toList K (.ok L)).1 (fields s.data.toList K (.ok L)).2.1 (done s.data.toList (fields s.data.toList K (.ok L)).2.2) := by
      unfold parse
      rw [if_neg (by show ¬ 65536 < s.size; omega)]
      simp only
      rw [HL.out, HK.out]
    generalize fields s.data.toList K (.ok L) = f at hp HMM HNL HM2 HEE
    obtain ⟨e9, m', σ⟩ := f
    obtain rfl : m = m' := HMM.out
    have HNL2 := Lib.hid (show e9.name.length ≤ s.size from HNL.out)
    have HM3 := Lib.hid (show MidQ w wc s w.heap.size (w.heap.size + 1) b σ e from HM2.out)
    simp only at hp
    have HP := Lib.hid hp
    clear HMM HNL HM2 hp hk10 HL HK
    cases σ with
    | bad q =>
      obtain ⟨ra, hblk⟩ := HM3.out.rd
      have hc0 := hblk.cell0
      have hc1 := hblk.cell1
      have hc2 := hblk.cell2
      clear hblk
      have hq : decide ((q : Int) < 0) = false := decide_eq_false (by omega)
      have hq2 : decide ((0 : Int) ≤ (q : Int)) = true := decide_eq_true (by omega)
      go_wp2_with fail
      have r0 : wc.cell? ⟨w.heap.size, 0, none⟩ = some (.int .u8 0) := (HM3.out.res.cell 0).trans rfl
      have f0 := HM3.out.res.free 0
      have r1 : wc.cell? ⟨w.heap.size, 1, none⟩ = some (.int .i64 0) := (HM3.out.res.cell 1).trans rfl
      have f1 := HM3.out.res.free 1
      have r2 : wc.cell? ⟨w.heap.size, 2, none⟩ = some (.int .i64 0) := (HM3.out.res.cell 2).trans rfl
      have f2 := HM3.out.res.free 2
      have r3 : wc.cell? ⟨w.heap.size, 3, none⟩ = some (.int .i64 0) := (HM3.out.res.cell 3).trans rfl
      have f3 := HM3.out.res.free 3
      have r4 : wc.cell? ⟨w.heap.size, 4, none⟩ = some (.int .i64 0) := (HM3.out.res.cell 4).trans rfl
      have f4 := HM3.out.res.free 4
      have r5 : wc.cell? ⟨w.heap.size, 5, none⟩ = some (.string ⟨#[]⟩) := (HM3.out.res.cell 5).trans rfl
      have f5 := HM3.out.res.free 5
      have r6 : wc.cell? ⟨w.heap.size, 6, none⟩ = some (.int .u8 0) := (HM3.out.res.cell 6).trans rfl
      have f6 := HM3.out.res.free 6
      have r7 : wc.cell? ⟨w.heap.size, 7, none⟩ = some (.string ⟨#[]⟩) := (HM3.out.res.cell 7).trans rfl
      have f7 := HM3.out.res.free 7
      have r8 : wc.cell? ⟨w.heap.size, 8, none⟩ = some (.int .i64 0) := (HM3.out.res.cell 8).trans rfl
      have f8 := HM3.out.res.free 8
      have hn1 : ¬ w.heap.size = w.heap.size + 1 := HM3.out.rg
      have hn2 : ¬ w.heap.size + 1 = w.heap.size := fun h => HM3.out.rg h.symm
      go_region
      go_wp2_with fail
      refine bodyPost_ret (res_parseq (w := (put9 wc w.heap.size E0).drew) (HM3.out.res.put E0).drew _ q 190 rfl rfl rfl) rfl ⟨?_, (below_put HM3.out.old _ (Nat.le_refl _) E0).drew⟩
      rw [HP.out]; rfl
    | ok a =>
      obtain rfl : e = e9 := HEE.out a rfl
      have ha := HM3.out.rd.1
      have hblk := HM3.out.rd.2
      have hc0 := hblk.cell0
      have hc1 := hblk.cell1
      have hc2 := hblk.cell2
      clear hblk
      have hq : decide ((-1 : Int) < 0) = true := by decide
      have hq2 : decide ((0 : Int) ≤ (-1 : Int)) = false := by decide
      by_cases hlt : a < s.size
      · have hd : decide ((a : Int) < (s.size : Int)) = true := decide_eq_true (by omega)
        have hdone : done s.data.toList (.ok a) = .bad a := by rw [done, if_pos (show a < s.data.toList.length from hlt)]
        have HD := Lib.hid hdone; clear hdone
        go_wp2_with (go_at_call 26; refine (wrongq_any s _ a a _ HM3.out.rd).mono ?_; rintro e' w5 ⟨rfl, hr, hgr⟩; have HM4 := Lib.hid (HM3.out.read hr hgr); clear hr hgr; obtain ⟨ra, hblk⟩ := HM4.out.rd; have hd0 := hblk.cell0; have hd1 := hblk.cell1; have hd2 := hblk.cell2; clear hblk hc0 hc1 hc2 hq hq2; have hq3 : decide ((0 : Int) ≤ (a : Int)) = true := decide_eq_true (by omega))
        have r0 : w5.cell? ⟨w.heap.size, 0, none⟩ = some (.int .u8 0) := (HM4.out.res.cell 0).trans rfl
        have f0 := HM4.out.res.free 0
        have r1 : w5.cell? ⟨w.heap.size, 1, none⟩ = some (.int .i64 0) := (HM4.out.res.cell 1).trans rfl
        have f1 := HM4.out.res.free 1
        have r2 : w5.cell? ⟨w.heap.size, 2, none⟩ = some (.int .i64 0) := (HM4.out.res.cell 2).trans rfl
        have f2 := HM4.out.res.free 2
        have r3 : w5.cell? ⟨w.heap.size, 3, none⟩ = some (.int .i64 0) := (HM4.out.res.cell 3).trans rfl
        have f3 := HM4.out.res.free 3
        have r4 : w5.cell? ⟨w.heap.size, 4, none⟩ = some (.int .i64 0) := (HM4.out.res.cell 4).trans rfl
        have f4 := HM4.out.res.free 4
        have r5 : w5.cell? ⟨w.heap.size, 5, none⟩ = some (.string ⟨#[]⟩) := (HM4.out.res.cell 5).trans rfl
        have f5 := HM4.out.res.free 5
        have r6 : w5.cell? ⟨w.heap.size, 6, none⟩ = some (.int .u8 0) := (HM4.out.res.cell 6).trans rfl
        have f6 := HM4.out.res.free 6
        have r7 : w5.cell? ⟨w.heap.size, 7, none⟩ = some (.string ⟨#[]⟩) := (HM4.out.res.cell 7).trans rfl
        have f7 := HM4.out.res.free 7
        have r8 : w5.cell? ⟨w.heap.size, 8, none⟩ = some (.int .i64 0) := (HM4.out.res.cell 8).trans rfl
        have f8 := HM4.out.res.free 8
        have hn1 : ¬ w.heap.size = w.heap.size + 1 := HM3.out.rg
        have hn2 : ¬ w.heap.size + 1 = w.heap.size := fun h => HM3.out.rg h.symm
        go_region
        go_wp2_with fail
        refine bodyPost_ret (res_parseq (w := (put9 w5 w.heap.size E0).drew) (HM4.out.res.put E0).drew _ a 190 rfl rfl rfl) rfl ⟨?_, (below_put HM4.out.old _ (Nat.le_refl _) E0).drew⟩
        rw [HP.out, HD.out]; rfl
      · have hd : decide ((a : Int) < (s.size : Int)) = false := decide_eq_false (by omega)
        have hdone : done s.data.toList (.ok a) = .ok a := by rw [done, if_neg (show ¬ a < s.data.toList.length from hlt)]
        have HD := Lib.hid hdone; clear hdone
        have v0 : wc.cell? ⟨b, 0, none⟩ = some (.int .u8 e.kind) := (HM3.out.ev.cell 0).trans rfl
        have v1 : wc.cell? ⟨b, 1, none⟩ = some (.int .i64 e.ax) := (HM3.out.ev.cell 1).trans rfl
        have v2 : wc.cell? ⟨b, 2, none⟩ = some (.int .i64 e.ay) := (HM3.out.ev.cell 2).trans rfl
        have v3 : wc.cell? ⟨b, 3, none⟩ = some (.int .i64 e.sw) := (HM3.out.ev.cell 3).trans rfl
        have v4 : wc.cell? ⟨b, 4, none⟩ = some (.int .i64 e.sh) := (HM3.out.ev.cell 4).trans rfl
        have v5 : wc.cell? ⟨b, 5, none⟩ = some (.string ⟨e.name.toArray⟩) := (HM3.out.ev.cell 5).trans rfl
        have v6 : wc.cell? ⟨b, 6, none⟩ = some (.int .u8 e.mods) := (HM3.out.ev.cell 6).trans rfl
        have v7 : wc.cell? ⟨b, 7, none⟩ = some (.string ⟨e.text.toArray⟩) := (HM3.out.ev.cell 7).trans rfl
        have v8 : wc.cell? ⟨b, 8, none⟩ = some (.int .i64 e.n) := (HM3.out.ev.cell 8).trans rfl
        have r0 : wc.cell? ⟨w.heap.size, 0, none⟩ = some (.int .u8 0) := (HM3.out.res.cell 0).trans rfl
        have f0 := HM3.out.res.free 0
        have r1 : wc.cell? ⟨w.heap.size, 1, none⟩ = some (.int .i64 0) := (HM3.out.res.cell 1).trans rfl
        have f1 := HM3.out.res.free 1
        have r2 : wc.cell? ⟨w.heap.size, 2, none⟩ = some (.int .i64 0) := (HM3.out.res.cell 2).trans rfl
        have f2 := HM3.out.res.free 2
        have r3 : wc.cell? ⟨w.heap.size, 3, none⟩ = some (.int .i64 0) := (HM3.out.res.cell 3).trans rfl
        have f3 := HM3.out.res.free 3
        have r4 : wc.cell? ⟨w.heap.size, 4, none⟩ = some (.int .i64 0) := (HM3.out.res.cell 4).trans rfl
        have f4 := HM3.out.res.free 4
        have r5 : wc.cell? ⟨w.heap.size, 5, none⟩ = some (.string ⟨#[]⟩) := (HM3.out.res.cell 5).trans rfl
        have f5 := HM3.out.res.free 5
        have r6 : wc.cell? ⟨w.heap.size, 6, none⟩ = some (.int .u8 0) := (HM3.out.res.cell 6).trans rfl
        have f6 := HM3.out.res.free 6
        have r7 : wc.cell? ⟨w.heap.size, 7, none⟩ = some (.string ⟨#[]⟩) := (HM3.out.res.cell 7).trans rfl
        have f7 := HM3.out.res.free 7
        have r8 : wc.cell? ⟨w.heap.size, 8, none⟩ = some (.int .i64 0) := (HM3.out.res.cell 8).trans rfl
        have f8 := HM3.out.res.free 8
        by_cases hm0 : m < 0
        · have hm0d : decide (m < 0) = true := decide_eq_true hm0
          go_wp2_with fail
          refine bodyPost_ret (res_parseq (w := put9 wc w.heap.size E0) (HM3.out.res.put E0) _ 0 190 rfl rfl rfl) rfl ⟨?_, below_put HM3.out.old _ (Nat.le_refl _) E0⟩
          rw [HP.out, HD.out, finish, if_pos (.inl (.inl hm0))]
        · have hm0d : decide (m < 0) = false := decide_eq_false hm0
          by_cases hm7 : 7 < m
          · have hm7d : decide (7 < m) = true := decide_eq_true hm7
            go_wp2_with fail
            refine bodyPost_ret (res_parseq (w := put9 wc w.heap.size E0) (HM3.out.res.put E0) _ 0 190 rfl rfl rfl) rfl ⟨?_, below_put HM3.out.old _ (Nat.le_refl _) E0⟩
            rw [HP.out, HD.out, finish, if_pos (.inl (.inr hm7))]
          · have hm7d : decide (7 < m) = false := decide_eq_false hm7
            go_wp2_with fail
            refine (checkq_any e wc (HM3.out.glob HG.out) (by have := HNL2.out; omega)).mono ?_
            rintro e' wd ⟨rfl, hbd⟩
            have HM5 := Lib.hid (HM3.out.pass hbd)
            clear hbd v0 v1 v2 v3 v4 v5 v6 v7 v8 r0 r1 r2 r3 r4 r5 r6 r7 r8 f0 f1 f2 f3 f4 f5 f6 f7 f8 hc0 hc1 hc2
            skip
            have x0 : wd.cell? ⟨b, 0, none⟩ = some (.int .u8 e.kind) := (HM5.out.ev.cell 0).trans rfl
            have y0 : wd.cell? ⟨w.heap.size, 0, none⟩ = some (.int .u8 0) := (HM5.out.res.cell 0).trans rfl
            have z0 := HM5.out.res.free 0
            have x1 : wd.cell? ⟨b, 1, none⟩ = some (.int .i64 e.ax) := (HM5.out.ev.cell 1).trans rfl
            have y1 : wd.cell? ⟨w.heap.size, 1, none⟩ = some (.int .i64 0) := (HM5.out.res.cell 1).trans rfl
            have z1 := HM5.out.res.free 1
            have x2 : wd.cell? ⟨b, 2, none⟩ = some (.int .i64 e.ay) := (HM5.out.ev.cell 2).trans rfl
            have y2 : wd.cell? ⟨w.heap.size, 2, none⟩ = some (.int .i64 0) := (HM5.out.res.cell 2).trans rfl
            have z2 := HM5.out.res.free 2
            have x3 : wd.cell? ⟨b, 3, none⟩ = some (.int .i64 e.sw) := (HM5.out.ev.cell 3).trans rfl
            have y3 : wd.cell? ⟨w.heap.size, 3, none⟩ = some (.int .i64 0) := (HM5.out.res.cell 3).trans rfl
            have z3 := HM5.out.res.free 3
            have x4 : wd.cell? ⟨b, 4, none⟩ = some (.int .i64 e.sh) := (HM5.out.ev.cell 4).trans rfl
            have y4 : wd.cell? ⟨w.heap.size, 4, none⟩ = some (.int .i64 0) := (HM5.out.res.cell 4).trans rfl
            have z4 := HM5.out.res.free 4
            have x5 : wd.cell? ⟨b, 5, none⟩ = some (.string ⟨e.name.toArray⟩) := (HM5.out.ev.cell 5).trans rfl
            have y5 : wd.cell? ⟨w.heap.size, 5, none⟩ = some (.string ⟨#[]⟩) := (HM5.out.res.cell 5).trans rfl
            have z5 := HM5.out.res.free 5
            have x6 : wd.cell? ⟨b, 6, none⟩ = some (.int .u8 e.mods) := (HM5.out.ev.cell 6).trans rfl
            have y6 : wd.cell? ⟨w.heap.size, 6, none⟩ = some (.int .u8 0) := (HM5.out.res.cell 6).trans rfl
            have z6 := HM5.out.res.free 6
            have x7 : wd.cell? ⟨b, 7, none⟩ = some (.string ⟨e.text.toArray⟩) := (HM5.out.ev.cell 7).trans rfl
            have y7 : wd.cell? ⟨w.heap.size, 7, none⟩ = some (.string ⟨#[]⟩) := (HM5.out.res.cell 7).trans rfl
            have z7 := HM5.out.res.free 7
            have x8 : wd.cell? ⟨b, 8, none⟩ = some (.int .i64 e.n) := (HM5.out.ev.cell 8).trans rfl
            have y8 : wd.cell? ⟨w.heap.size, 8, none⟩ = some (.int .i64 0) := (HM5.out.res.cell 8).trans rfl
            have z8 := HM5.out.res.free 8
            by_cases hch : chk e = true
            · rw [show chkE e = 0 from if_pos hch]
              go_wp2_with fail
              refine bodyPost_ret (res_parseq (w := put9 wd w.heap.size e) (HM5.out.res.put e) _ 0 0 rfl rfl rfl) rfl ⟨?_, below_put HM5.out.old _ (Nat.le_refl _) e⟩
              rw [HP.out, HD.out, finish, if_neg (by simp [hch]; omega)]
            · rw [show chkE e = 190 from if_neg hch]
              go_wp2_with fail
              refine bodyPost_ret (res_parseq (w := put9 wd w.heap.size E0) (HM5.out.res.put E0) _ 0 190 rfl rfl rfl) rfl ⟨?_, below_put HM5.out.old _ (Nat.le_refl _) E0⟩
              rw [HP.out, HD.out, finish, if_pos (.inr (by simpa using hch))]
set_option maxHeartbeats 8000000 in
set_option maxRecDepth 100000 in
theorem parseq_B (s : ByteArray) (w : World) (hg : Glob w) (hs : s.size ≤ 65536) (hgr : 9 ≤ kindOf (s.data.toList.takeWhile lowB) ∧ kindOf (s.data.toList.takeWhile lowB) ≤ 10) :
    Calls Tryd.prog 7 #[.string s] w fun e w' => e = .returned (.tuple #[EV (parse s.data.toList).1, .int .i64 (parse s.data.toList).2.1, .int .i64 (parse s.data.toList).2.2]) ∧ Below w.heap.size w w' := by
  have HG := Lib.hid hg; clear hg
  have hk10 : kindOf (s.data.toList.takeWhile lowB) ≤ 10 := kindOf_le _
  obtain ⟨L, hL⟩ : ∃ L, (s.data.toList.takeWhile lowB).length = L := ⟨_, rfl⟩
  obtain ⟨K, hK⟩ : ∃ K, kindOf (s.data.toList.takeWhile lowB) = K := ⟨_, rfl⟩
  have hkS : kindS s.data.toList = if K = 0 then .bad 0 else .ok L := by unfold kindS; rw [hK, hL]
  rw [hK] at hk10 hgr
  have HKS := Lib.hid hkS; have HL := Lib.hid hL; have HK := Lib.hid hK; clear hkS hL hK
  have hkw := kindq_any s (w.heap.size + 1) ((w.alloc (.cells (EC E0) 29)).alloc (.cells #[.string s, .int .i64 0, .int .i64 (-1)] 55)) (by omega) ⟨Nat.zero_le _, alloc_at2 _ _ _⟩
  rw [HK.out, HKS.out] at hkw
  have HKW := Lib.hid hkw; clear hkw HKS
  have gd0 : decide (3 ≤ (K : Int)) = true := decide_eq_true (by omega)
  have gd1 : decide ((K : Int) ≤ 6) = false := decide_eq_false (by omega)
  have gd2 : decide (9 ≤ (K : Int)) = true := decide_eq_true (by omega)
  go_enter Tryd.func7, Tryd.ntmps7
  go_wp2_with fail
  refine HKW.out.mono ?_
  rintro e w1 ⟨rfl, hI1, g1⟩
  have hB1 : Below w.heap.size w w1 := ((((Below.refl _ _).alloc (Nat.le_refl _) _).alloc (by simp) _).grown g1 (by simp; omega) (fun k hk => by cases hk; omega))
  have hR1 : Blk9 w1 w.heap.size E0 := Blk9.same (show Blk9 ((w.alloc (.cells (EC E0) 29)).alloc (.cells #[.string s, .int .i64 0, .int .i64 (-1)] 55)) w.heap.size E0 from alloc_at1 _ _ _) (g1.block _ (by simp; omega) (by simp))
  rw [if_neg (show ¬ K = 0 by omega)] at hI1
  have HM0 := Lib.hid (MidQ.start ⟨K, 0, 0, 0, 0, [], 0, [], 0⟩ hI1 hR1 hB1 (Nat.le_refl _) (Nat.le_succ _) (by omega))
  clear hI1 hR1 hB1 g1 HKW
  go_upto_region 5 with fail
  change Code.wp _ _ _ _ (w1.alloc (.cells (EC ⟨K, 0, 0, 0, 0, [], 0, [], 0⟩) 29))
  generalize w1.alloc (.cells (EC ⟨K, 0, 0, 0, 0, [], 0, [], 0⟩) 29) = w2 at HM0 ⊢
  generalize w1.heap.size = b at HM0 ⊢
  have hkc : w2.cell? ⟨b, 0, none⟩ = some (.int .u8 (K : Int)) := (HM0.out.ev.cell 0).trans rfl
  go_wp2_with fail
  refine (numq_any s _ (.ok L) _ (by omega) HM0.out.rd).mono ?_
  rintro e w4 ⟨rfl, hr, hgr⟩
  have HR4 := Lib.hid (HM0.out.read hr hgr); clear hr hgr
  have hc1 : w4.cell? ⟨b, 1, none⟩ = some (.int .i64 0) := (HR4.out.ev.cell 1).trans rfl
  have hf1 := HR4.out.ev.free 1
  have HM4 := Lib.hid (HR4.out.set 1 (.int .i64 (numS s.data.toList (.ok L)).1) ⟨(K : Int), (numS s.data.toList (.ok L)).1, 0, 0, 0, [], 0, [], 0⟩ rfl)
  go_wp2_with fail
  refine (numq_any s _ (numS s.data.toList (.ok L)).2 _ (by omega) HM4.out.rd).mono ?_
  rintro e w5 ⟨rfl, hr, hgr⟩
  have HR5 := Lib.hid (HM4.out.read hr hgr); clear hr hgr
  have hc2 : w5.cell? ⟨b, 2, none⟩ = some (.int .i64 0) := (HR5.out.ev.cell 2).trans rfl
  have hf2 := HR5.out.ev.free 2
  have HM5 := Lib.hid (HR5.out.set 2 (.int .i64 (numS s.data.toList (numS s.data.toList (.ok L)).2).1) ⟨(K : Int), (numS s.data.toList (.ok L)).1, (numS s.data.toList (numS s.data.toList (.ok L)).2).1, 0, 0, [], 0, [], 0⟩ rfl)
  have hkd : w5.cell? ⟨b, 0, none⟩ = some (.int .u8 (K : Int)) := (HR5.out.ev.cell 0).trans rfl
  go_upto_block 0 with fail
  go_cut [8] (fun v8 wx => ∃ (m : Int) (e : E), v8 = .int .i64 m ∧ Hid (m = (fields s.data.toList K (.ok L)).2.1) ∧ Hid (∀ q, (fields s.data.toList K (.ok L)).2.2 = .ok q → e = (fields s.data.toList K (.ok L)).1) ∧ Hid ((fields s.data.toList K (.ok L)).1.name.length ≤ s.data.toList.length) ∧ Hid (MidQ w wx s w.heap.size (w.heap.size + 1) b (fields s.data.toList K (.ok L)).2.2 e))
  case first =>
    by_cases k9 : K = 9
    · subst k9
      go_wp2_with fail
      refine (textq_any s _ (numS s.data.toList (numS s.data.toList (.ok L)).2).2 _ (by omega) HM5.out.rd).mono ?_
      rintro e w7 ⟨⟨tx7, rfl, htx7⟩, hr, hgr⟩
      have HTX7 := Lib.hid htx7; clear htx7
      have HR7 := Lib.hid (HM5.out.read hr hgr); clear hr hgr
      have hc7 : w7.cell? ⟨b, 7, none⟩ = some (.string ⟨#[]⟩) := (HR7.out.ev.cell 7).trans rfl
      have hf7 := HR7.out.ev.free 7
      have HM7 := Lib.hid (HR7.out.set 7 (.string ⟨tx7.toArray⟩) ⟨9, (numS s.data.toList (.ok L)).1, (numS s.data.toList (numS s.data.toList (.ok L)).2).1, 0, 0, [], 0, tx7, 0⟩ rfl)
      go_wp2_with fail
      go_meet
      exact ⟨_, _, rfl, Lib.hid rfl, Lib.hid (fun q hq => by rw [HTX7.out q hq]; rfl), Lib.hid (Nat.zero_le _), HM7⟩
    by_cases k10 : K = 10
    · subst k10
      go_wp2_with fail
      refine (textq_any s _ (numS s.data.toList (numS s.data.toList (.ok L)).2).2 _ (by omega) HM5.out.rd).mono ?_
      rintro e w7 ⟨⟨tx7, rfl, htx7⟩, hr, hgr⟩
      have HTX7 := Lib.hid htx7; clear htx7
      have HR7 := Lib.hid (HM5.out.read hr hgr); clear hr hgr
      have hc7 : w7.cell? ⟨b, 7, none⟩ = some (.string ⟨#[]⟩) := (HR7.out.ev.cell 7).trans rfl
      have hf7 := HR7.out.ev.free 7
      have HM7 := Lib.hid (HR7.out.set 7 (.string ⟨tx7.toArray⟩) ⟨10, (numS s.data.toList (.ok L)).1, (numS s.data.toList (numS s.data.toList (.ok L)).2).1, 0, 0, [], 0, tx7, 0⟩ rfl)
      go_wp2_with fail
      go_meet
      exact ⟨_, _, rfl, Lib.hid rfl, Lib.hid (fun q hq => by rw [HTX7.out q hq]; rfl), Lib.hid (Nat.zero_le _), HM7⟩
    exfalso; omega
  case rest =>
    obtain ⟨m, e, rfl, HMM, HEE, HNL, HM2⟩ := hcut
    clear HM0
    have hp : parse s.data.toList = finish (fields s.data.toList K (.ok L)).1 (fields s.data.toList K (.ok L)).2.1 (done s.data.toList (fields s.data.toList K (.ok L)).2.2) := by
      unfold parse
      rw [if_neg (by show ¬ 65536 < s.size; omega)]
      simp only
      rw [HL.out, HK.out]
    generalize fields s.data.toList K (.ok L) = f at hp HMM HNL HM2 HEE
    obtain ⟨e9, m', σ⟩ := f
    obtain rfl : m = m' := HMM.out
    have HNL2 := Lib.hid (show e9.name.length ≤ s.size from HNL.out)
    have HM3 := Lib.hid (show MidQ w wc s w.heap.size (w.heap.size + 1) b σ e from HM2.out)
    simp only at hp
    have HP := Lib.hid hp
    clear HMM HNL HM2 hp hk10 HL HK
    cases σ with
    | bad q =>
      obtain ⟨ra, hblk⟩ := HM3.out.rd
      have hc0 := hblk.cell0
      have hc1 := hblk.cell1
      have hc2 := hblk.cell2
      clear hblk
      have hq : decide ((q : Int) < 0) = false := decide_eq_false (by omega)
      have hq2 : decide ((0 : Int) ≤ (q : Int)) = true := decide_eq_true (by omega)
      go_wp2_with fail
      have r0 : wc.cell? ⟨w.heap.size, 0, none⟩ = some (.int .u8 0) := (HM3.out.res.cell 0).trans rfl
      have f0 := HM3.out.res.free 0
      have r1 : wc.cell? ⟨w.heap.size, 1, none⟩ = some (.int .i64 0) := (HM3.out.res.cell 1).trans rfl
      have f1 := HM3.out.res.free 1
      have r2 : wc.cell? ⟨w.heap.size, 2, none⟩ = some (.int .i64 0) := (HM3.out.res.cell 2).trans rfl
      have f2 := HM3.out.res.free 2
      have r3 : wc.cell? ⟨w.heap.size, 3, none⟩ = some (.int .i64 0) := (HM3.out.res.cell 3).trans rfl
      have f3 := HM3.out.res.free 3
      have r4 : wc.cell? ⟨w.heap.size, 4, none⟩ = some (.int .i64 0) := (HM3.out.res.cell 4).trans rfl
      have f4 := HM3.out.res.free 4
      have r5 : wc.cell? ⟨w.heap.size, 5, none⟩ = some (.string ⟨#[]⟩) := (HM3.out.res.cell 5).trans rfl
      have f5 := HM3.out.res.free 5
      have r6 : wc.cell? ⟨w.heap.size, 6, none⟩ = some (.int .u8 0) := (HM3.out.res.cell 6).trans rfl
      have f6 := HM3.out.res.free 6
      have r7 : wc.cell? ⟨w.heap.size, 7, none⟩ = some (.string ⟨#[]⟩) := (HM3.out.res.cell 7).trans rfl
      have f7 := HM3.out.res.free 7
      have r8 : wc.cell? ⟨w.heap.size, 8, none⟩ = some (.int .i64 0) := (HM3.out.res.cell 8).trans rfl
      have f8 := HM3.out.res.free 8
      have hn1 : ¬ w.heap.size = w.heap.size + 1 := HM3.out.rg
      have hn2 : ¬ w.heap.size + 1 = w.heap.size := fun h => HM3.out.rg h.symm
      go_region
      go_wp2_with fail
      refine bodyPost_ret (res_parseq (w := (put9 wc w.heap.size E0).drew) (HM3.out.res.put E0).drew _ q 190 rfl rfl rfl) rfl ⟨?_, (below_put HM3.out.old _ (Nat.le_refl _) E0).drew⟩
      rw [HP.out]; rfl
    | ok a =>
      obtain rfl : e = e9 := HEE.out a rfl
      have ha := HM3.out.rd.1
      have hblk := HM3.out.rd.2
      have hc0 := hblk.cell0
      have hc1 := hblk.cell1
      have hc2 := hblk.cell2
      clear hblk
      have hq : decide ((-1 : Int) < 0) = true := by decide
      have hq2 : decide ((0 : Int) ≤ (-1 : Int)) = false := by decide
      by_cases hlt : a < s.size
      · have hd : decide ((a : Int) < (s.size : Int)) = true := decide_eq_true (by omega)
        have hdone : done s.data.toList (.ok a) = .bad a := by rw [done, if_pos (show a < s.data.toList.length from hlt)]
        have HD := Lib.hid hdone; clear hdone
        go_wp2_with (go_at_call 26; refine (wrongq_any s _ a a _ HM3.out.rd).mono ?_; rintro e' w5 ⟨rfl, hr, hgr⟩; have HM4 := Lib.hid (HM3.out.read hr hgr); clear hr hgr; obtain ⟨ra, hblk⟩ := HM4.out.rd; have hd0 := hblk.cell0; have hd1 := hblk.cell1; have hd2 := hblk.cell2; clear hblk hc0 hc1 hc2 hq hq2; have hq3 : decide ((0 : Int) ≤ (a : Int)) = true := decide_eq_true (by omega))
        have r0 : w5.cell? ⟨w.heap.size, 0, none⟩ = some (.int .u8 0) := (HM4.out.res.cell 0).trans rfl
        have f0 := HM4.out.res.free 0
        have r1 : w5.cell? ⟨w.heap.size, 1, none⟩ = some (.int .i64 0) := (HM4.out.res.cell 1).trans rfl
        have f1 := HM4.out.res.free 1
        have r2 : w5.cell? ⟨w.heap.size, 2, none⟩ = some (.int .i64 0) := (HM4.out.res.cell 2).trans rfl
        have f2 := HM4.out.res.free 2
        have r3 : w5.cell? ⟨w.heap.size, 3, none⟩ = some (.int .i64 0) := (HM4.out.res.cell 3).trans rfl
        have f3 := HM4.out.res.free 3
        have r4 : w5.cell? ⟨w.heap.size, 4, none⟩ = some (.int .i64 0) := (HM4.out.res.cell 4).trans rfl
        have f4 := HM4.out.res.free 4
        have r5 : w5.cell? ⟨w.heap.size, 5, none⟩ = some (.string ⟨#[]⟩) := (HM4.out.res.cell 5).trans rfl
        have f5 := HM4.out.res.free 5
        have r6 : w5.cell? ⟨w.heap.size, 6, none⟩ = some (.int .u8 0) := (HM4.out.res.cell 6).trans rfl
        have f6 := HM4.out.res.free 6
        have r7 : w5.cell? ⟨w.heap.size, 7, none⟩ = some (.string ⟨#[]⟩) := (HM4.out.res.cell 7).trans rfl
        have f7 := HM4.out.res.free 7
        have r8 : w5.cell? ⟨w.heap.size, 8, none⟩ = some (.int .i64 0) := (HM4.out.res.cell 8).trans rfl
        have f8 := HM4.out.res.free 8
        have hn1 : ¬ w.heap.size = w.heap.size + 1 := HM3.out.rg
        have hn2 : ¬ w.heap.size + 1 = w.heap.size := fun h => HM3.out.rg h.symm
        go_region
        go_wp2_with fail
        refine bodyPost_ret (res_parseq (w := (put9 w5 w.heap.size E0).drew) (HM4.out.res.put E0).drew _ a 190 rfl rfl rfl) rfl ⟨?_, (below_put HM4.out.old _ (Nat.le_refl _) E0).drew⟩
        rw [HP.out, HD.out]; rfl
      · have hd : decide ((a : Int) < (s.size : Int)) = false := decide_eq_false (by omega)
        have hdone : done s.data.toList (.ok a) = .ok a := by rw [done, if_neg (show ¬ a < s.data.toList.length from hlt)]
        have HD := Lib.hid hdone; clear hdone
        have v0 : wc.cell? ⟨b, 0, none⟩ = some (.int .u8 e.kind) := (HM3.out.ev.cell 0).trans rfl
        have v1 : wc.cell? ⟨b, 1, none⟩ = some (.int .i64 e.ax) := (HM3.out.ev.cell 1).trans rfl
        have v2 : wc.cell? ⟨b, 2, none⟩ = some (.int .i64 e.ay) := (HM3.out.ev.cell 2).trans rfl
        have v3 : wc.cell? ⟨b, 3, none⟩ = some (.int .i64 e.sw) := (HM3.out.ev.cell 3).trans rfl
        have v4 : wc.cell? ⟨b, 4, none⟩ = some (.int .i64 e.sh) := (HM3.out.ev.cell 4).trans rfl
        have v5 : wc.cell? ⟨b, 5, none⟩ = some (.string ⟨e.name.toArray⟩) := (HM3.out.ev.cell 5).trans rfl
        have v6 : wc.cell? ⟨b, 6, none⟩ = some (.int .u8 e.mods) := (HM3.out.ev.cell 6).trans rfl
        have v7 : wc.cell? ⟨b, 7, none⟩ = some (.string ⟨e.text.toArray⟩) := (HM3.out.ev.cell 7).trans rfl
        have v8 : wc.cell? ⟨b, 8, none⟩ = some (.int .i64 e.n) := (HM3.out.ev.cell 8).trans rfl
        have r0 : wc.cell? ⟨w.heap.size, 0, none⟩ = some (.int .u8 0) := (HM3.out.res.cell 0).trans rfl
        have f0 := HM3.out.res.free 0
        have r1 : wc.cell? ⟨w.heap.size, 1, none⟩ = some (.int .i64 0) := (HM3.out.res.cell 1).trans rfl
        have f1 := HM3.out.res.free 1
        have r2 : wc.cell? ⟨w.heap.size, 2, none⟩ = some (.int .i64 0) := (HM3.out.res.cell 2).trans rfl
        have f2 := HM3.out.res.free 2
        have r3 : wc.cell? ⟨w.heap.size, 3, none⟩ = some (.int .i64 0) := (HM3.out.res.cell 3).trans rfl
        have f3 := HM3.out.res.free 3
        have r4 : wc.cell? ⟨w.heap.size, 4, none⟩ = some (.int .i64 0) := (HM3.out.res.cell 4).trans rfl
        have f4 := HM3.out.res.free 4
        have r5 : wc.cell? ⟨w.heap.size, 5, none⟩ = some (.string ⟨#[]⟩) := (HM3.out.res.cell 5).trans rfl
        have f5 := HM3.out.res.free 5
        have r6 : wc.cell? ⟨w.heap.size, 6, none⟩ = some (.int .u8 0) := (HM3.out.res.cell 6).trans rfl
        have f6 := HM3.out.res.free 6
        have r7 : wc.cell? ⟨w.heap.size, 7, none⟩ = some (.string ⟨#[]⟩) := (HM3.out.res.cell 7).trans rfl
        have f7 := HM3.out.res.free 7
        have r8 : wc.cell? ⟨w.heap.size, 8, none⟩ = some (.int .i64 0) := (HM3.out.res.cell 8).trans rfl
        have f8 := HM3.out.res.free 8
        by_cases hm0 : m < 0
        · have hm0d : decide (m < 0) = true := decide_eq_true hm0
          go_wp2_with fail
          refine bodyPost_ret (res_parseq (w := put9 wc w.heap.size E0) (HM3.out.res.put E0) _ 0 190 rfl rfl rfl) rfl ⟨?_, below_put HM3.out.old _ (Nat.le_refl _) E0⟩
          rw [HP.out, HD.out, finish, if_pos (.inl (.inl hm0))]
        · have hm0d : decide (m < 0) = false := decide_eq_false hm0
          by_cases hm7 : 7 < m
          · have hm7d : decide (7 < m) = true := decide_eq_true hm7
            go_wp2_with fail
            refine bodyPost_ret (res_parseq (w := put9 wc w.heap.size E0) (HM3.out.res.put E0) _ 0 190 rfl rfl rfl) rfl ⟨?_, below_put HM3.out.old _ (Nat.le_refl _) E0⟩
            rw [HP.out, HD.out, finish, if_pos (.inl (.inr hm7))]
          · have hm7d : decide (7 < m) = false := decide_eq_false hm7
            go_wp2_with fail
            refine (checkq_any e wc (HM3.out.glob HG.out) (by have := HNL2.out; omega)).mono ?_
            rintro e' wd ⟨rfl, hbd⟩
            have HM5 := Lib.hid (HM3.out.pass hbd)
            clear hbd v0 v1 v2 v3 v4 v5 v6 v7 v8 r0 r1 r2 r3 r4 r5 r6 r7 r8 f0 f1 f2 f3 f4 f5 f6 f7 f8 hc0 hc1 hc2
            skip
            have x0 : wd.cell? ⟨b, 0, none⟩ = some (.int .u8 e.kind) := (HM5.out.ev.cell 0).trans rfl
            have y0 : wd.cell? ⟨w.heap.size, 0, none⟩ = some (.int .u8 0) := (HM5.out.res.cell 0).trans rfl
            have z0 := HM5.out.res.free 0
            have x1 : wd.cell? ⟨b, 1, none⟩ = some (.int .i64 e.ax) := (HM5.out.ev.cell 1).trans rfl
            have y1 : wd.cell? ⟨w.heap.size, 1, none⟩ = some (.int .i64 0) := (HM5.out.res.cell 1).trans rfl
            have z1 := HM5.out.res.free 1
            have x2 : wd.cell? ⟨b, 2, none⟩ = some (.int .i64 e.ay) := (HM5.out.ev.cell 2).trans rfl
            have y2 : wd.cell? ⟨w.heap.size, 2, none⟩ = some (.int .i64 0) := (HM5.out.res.cell 2).trans rfl
            have z2 := HM5.out.res.free 2
            have x3 : wd.cell? ⟨b, 3, none⟩ = some (.int .i64 e.sw) := (HM5.out.ev.cell 3).trans rfl
            have y3 : wd.cell? ⟨w.heap.size, 3, none⟩ = some (.int .i64 0) := (HM5.out.res.cell 3).trans rfl
            have z3 := HM5.out.res.free 3
            have x4 : wd.cell? ⟨b, 4, none⟩ = some (.int .i64 e.sh) := (HM5.out.ev.cell 4).trans rfl
            have y4 : wd.cell? ⟨w.heap.size, 4, none⟩ = some (.int .i64 0) := (HM5.out.res.cell 4).trans rfl
            have z4 := HM5.out.res.free 4
            have x5 : wd.cell? ⟨b, 5, none⟩ = some (.string ⟨e.name.toArray⟩) := (HM5.out.ev.cell 5).trans rfl
            have y5 : wd.cell? ⟨w.heap.size, 5, none⟩ = some (.string ⟨#[]⟩) := (HM5.out.res.cell 5).trans rfl
            have z5 := HM5.out.res.free 5
            have x6 : wd.cell? ⟨b, 6, none⟩ = some (.int .u8 e.mods) := (HM5.out.ev.cell 6).trans rfl
            have y6 : wd.cell? ⟨w.heap.size, 6, none⟩ = some (.int .u8 0) := (HM5.out.res.cell 6).trans rfl
            have z6 := HM5.out.res.free 6
            have x7 : wd.cell? ⟨b, 7, none⟩ = some (.string ⟨e.text.toArray⟩) := (HM5.out.ev.cell 7).trans rfl
            have y7 : wd.cell? ⟨w.heap.size, 7, none⟩ = some (.string ⟨#[]⟩) := (HM5.out.res.cell 7).trans rfl
            have z7 := HM5.out.res.free 7
            have x8 : wd.cell? ⟨b, 8, none⟩ = some (.int .i64 e.n) := (HM5.out.ev.cell 8).trans rfl
            have y8 : wd.cell? ⟨w.heap.size, 8, none⟩ = some (.int .i64 0) := (HM5.out.res.cell 8).trans rfl
            have z8 := HM5.out.res.free 8
            by_cases hch : chk e = true
            · rw [show chkE e = 0 from if_pos hch]
              go_wp2_with fail
              refine bodyPost_ret (res_parseq (w := put9 wd w.heap.size e) (HM5.out.res.put e) _ 0 0 rfl rfl rfl) rfl ⟨?_, below_put HM5.out.old _ (Nat.le_refl _) e⟩
              rw [HP.out, HD.out, finish, if_neg (by simp [hch]; omega)]
            · rw [show chkE e = 190 from if_neg hch]
              go_wp2_with fail
              refine bodyPost_ret (res_parseq (w := put9 wd w.heap.size E0) (HM5.out.res.put E0) _ 0 190 rfl rfl rfl) rfl ⟨?_, below_put HM5.out.old _ (Nat.le_refl _) E0⟩
              rw [HP.out, HD.out, finish, if_pos (.inr (by simpa using hch))]
set_option maxHeartbeats 8000000 in
set_option maxRecDepth 100000 in
theorem parseq_C (s : ByteArray) (w : World) (hg : Glob w) (hs : s.size ≤ 65536) (hgr : 1 ≤ kindOf (s.data.toList.takeWhile lowB) ∧ kindOf (s.data.toList.takeWhile lowB) ≤ 2) :
    Calls Tryd.prog 7 #[.string s] w fun e w' => e = .returned (.tuple #[EV (parse s.data.toList).1, .int .i64 (parse s.data.toList).2.1, .int .i64 (parse s.data.toList).2.2]) ∧ Below w.heap.size w w' := by
  have HG := Lib.hid hg; clear hg
  have hk10 : kindOf (s.data.toList.takeWhile lowB) ≤ 10 := kindOf_le _
  obtain ⟨L, hL⟩ : ∃ L, (s.data.toList.takeWhile lowB).length = L := ⟨_, rfl⟩
  obtain ⟨K, hK⟩ : ∃ K, kindOf (s.data.toList.takeWhile lowB) = K := ⟨_, rfl⟩
  have hkS : kindS s.data.toList = if K = 0 then .bad 0 else .ok L := by unfold kindS; rw [hK, hL]
  rw [hK] at hk10 hgr
  have HKS := Lib.hid hkS; have HL := Lib.hid hL; have HK := Lib.hid hK; clear hkS hL hK
  have hkw := kindq_any s (w.heap.size + 1) ((w.alloc (.cells (EC E0) 29)).alloc (.cells #[.string s, .int .i64 0, .int .i64 (-1)] 55)) (by omega) ⟨Nat.zero_le _, alloc_at2 _ _ _⟩
  rw [HK.out, HKS.out] at hkw
  have HKW := Lib.hid hkw; clear hkw HKS
  have gd0 : decide (3 ≤ (K : Int)) = false := decide_eq_false (by omega)
  have gd1 : decide (9 ≤ (K : Int)) = false := decide_eq_false (by omega)
  go_enter Tryd.func7, Tryd.ntmps7
  go_wp2_with fail
  refine HKW.out.mono ?_
  rintro e w1 ⟨rfl, hI1, g1⟩
  have hB1 : Below w.heap.size w w1 := ((((Below.refl _ _).alloc (Nat.le_refl _) _).alloc (by simp) _).grown g1 (by simp; omega) (fun k hk => by cases hk; omega))
  have hR1 : Blk9 w1 w.heap.size E0 := Blk9.same (show Blk9 ((w.alloc (.cells (EC E0) 29)).alloc (.cells #[.string s, .int .i64 0, .int .i64 (-1)] 55)) w.heap.size E0 from alloc_at1 _ _ _) (g1.block _ (by simp; omega) (by simp))
  rw [if_neg (show ¬ K = 0 by omega)] at hI1
  have HM0 := Lib.hid (MidQ.start ⟨K, 0, 0, 0, 0, [], 0, [], 0⟩ hI1 hR1 hB1 (Nat.le_refl _) (Nat.le_succ _) (by omega))
  clear hI1 hR1 hB1 g1 HKW
  go_upto_region 5 with fail
  change Code.wp _ _ _ _ (w1.alloc (.cells (EC ⟨K, 0, 0, 0, 0, [], 0, [], 0⟩) 29))
  generalize w1.alloc (.cells (EC ⟨K, 0, 0, 0, 0, [], 0, [], 0⟩) 29) = w2 at HM0 ⊢
  generalize w1.heap.size = b at HM0 ⊢
  have hkc : w2.cell? ⟨b, 0, none⟩ = some (.int .u8 (K : Int)) := (HM0.out.ev.cell 0).trans rfl
  go_upto_block 0 with fail
  go_cut [8] (fun v8 wx => ∃ (m : Int) (e : E), v8 = .int .i64 m ∧ Hid (m = (fields s.data.toList K (.ok L)).2.1) ∧ Hid (∀ q, (fields s.data.toList K (.ok L)).2.2 = .ok q → e = (fields s.data.toList K (.ok L)).1) ∧ Hid ((fields s.data.toList K (.ok L)).1.name.length ≤ s.data.toList.length) ∧ Hid (MidQ w wx s w.heap.size (w.heap.size + 1) b (fields s.data.toList K (.ok L)).2.2 e))
  case first =>
    by_cases k1 : K = 1
    · subst k1
      go_wp2_with fail
      refine (numq_any s _ (.ok L) _ (by omega) HM0.out.rd).mono ?_
      rintro e w7 ⟨rfl, hr, hgr⟩
      have HR7 := Lib.hid (HM0.out.read hr hgr); clear hr hgr
      go_wp2_with fail
      refine (textq_any s _ (numS s.data.toList (.ok L)).2 _ (by omega) HR7.out.rd).mono ?_
      rintro e w8 ⟨⟨tx8, rfl, htx8⟩, hr, hgr⟩
      have HTX8 := Lib.hid htx8; clear htx8
      have HR8 := Lib.hid (HR7.out.read hr hgr); clear hr hgr
      have hc5 : w8.cell? ⟨b, 5, none⟩ = some (.string ⟨#[]⟩) := (HR8.out.ev.cell 5).trans rfl
      have hf5 := HR8.out.ev.free 5
      have hc6 : w8.cell? ⟨b, 6, none⟩ = some (.int .u8 0) := (HR8.out.ev.cell 6).trans rfl
      have hf6 := HR8.out.ev.free 6
      have HM8 := Lib.hid ((HR8.out.set 5 (.string ⟨tx8.toArray⟩) ⟨1, 0, 0, 0, 0, tx8, 0, [], 0⟩ rfl).set 6 (.int .u8 ((numS s.data.toList (.ok L)).1 % 256)) ⟨1, 0, 0, 0, 0, tx8, (numS s.data.toList (.ok L)).1 % 256, [], 0⟩ rfl)
      go_wp2_with fail
      go_meet
      exact ⟨_, _, rfl, Lib.hid rfl, Lib.hid (fun q hq => by rw [HTX8.out q hq]; rfl), Lib.hid (textS_len _ _), HM8⟩
    by_cases k2 : K = 2
    · subst k2
      go_wp2_with fail
      refine (textq_any s _ (.ok L) _ (by omega) HM0.out.rd).mono ?_
      rintro e w7 ⟨⟨tx7, rfl, htx7⟩, hr, hgr⟩
      have HTX7 := Lib.hid htx7; clear htx7
      have HR7 := Lib.hid (HM0.out.read hr hgr); clear hr hgr
      have hc7 : w7.cell? ⟨b, 7, none⟩ = some (.string ⟨#[]⟩) := (HR7.out.ev.cell 7).trans rfl
      have hf7 := HR7.out.ev.free 7
      have HM7 := Lib.hid (HR7.out.set 7 (.string ⟨tx7.toArray⟩) ⟨2, 0, 0, 0, 0, [], 0, tx7, 0⟩ rfl)
      go_wp2_with fail
      go_meet
      exact ⟨_, _, rfl, Lib.hid rfl, Lib.hid (fun q hq => by rw [HTX7.out q hq]; rfl), Lib.hid (Nat.zero_le _), HM7⟩
    exfalso; omega
  case rest =>
    obtain ⟨m, e, rfl, HMM, HEE, HNL, HM2⟩ := hcut
    clear HM0
    have hp : parse s.data.toList = finish (fields s.data.toList K (.ok L)).1 (fields s.data.toList K (.ok L)).2.1 (done s.data.toList (fields s.data.toList K (.ok L)).2.2) := by
      unfold parse
      rw [if_neg (by show ¬ 65536 < s.size; omega)]
      simp only
      rw [HL.out, HK.out]
    generalize fields s.data.toList K (.ok L) = f at hp HMM HNL HM2 HEE
    obtain ⟨e9, m', σ⟩ := f
    obtain rfl : m = m' := HMM.out
    have HNL2 := Lib.hid (show e9.name.length ≤ s.size from HNL.out)
    have HM3 := Lib.hid (show MidQ w wc s w.heap.size (w.heap.size + 1) b σ e from HM2.out)
    simp only at hp
    have HP := Lib.hid hp
    clear HMM HNL HM2 hp hk10 HL HK
    cases σ with
    | bad q =>
      obtain ⟨ra, hblk⟩ := HM3.out.rd
      have hc0 := hblk.cell0
      have hc1 := hblk.cell1
      have hc2 := hblk.cell2
      clear hblk
      have hq : decide ((q : Int) < 0) = false := decide_eq_false (by omega)
      have hq2 : decide ((0 : Int) ≤ (q : Int)) = true := decide_eq_true (by omega)
      go_wp2_with fail
      have r0 : wc.cell? ⟨w.heap.size, 0, none⟩ = some (.int .u8 0) := (HM3.out.res.cell 0).trans rfl
      have f0 := HM3.out.res.free 0
      have r1 : wc.cell? ⟨w.heap.size, 1, none⟩ = some (.int .i64 0) := (HM3.out.res.cell 1).trans rfl
      have f1 := HM3.out.res.free 1
      have r2 : wc.cell? ⟨w.heap.size, 2, none⟩ = some (.int .i64 0) := (HM3.out.res.cell 2).trans rfl
      have f2 := HM3.out.res.free 2
      have r3 : wc.cell? ⟨w.heap.size, 3, none⟩ = some (.int .i64 0) := (HM3.out.res.cell 3).trans rfl
      have f3 := HM3.out.res.free 3
      have r4 : wc.cell? ⟨w.heap.size, 4, none⟩ = some (.int .i64 0) := (HM3.out.res.cell 4).trans rfl
      have f4 := HM3.out.res.free 4
      have r5 : wc.cell? ⟨w.heap.size, 5, none⟩ = some (.string ⟨#[]⟩) := (HM3.out.res.cell 5).trans rfl
      have f5 := HM3.out.res.free 5
      have r6 : wc.cell? ⟨w.heap.size, 6, none⟩ = some (.int .u8 0) := (HM3.out.res.cell 6).trans rfl
      have f6 := HM3.out.res.free 6
      have r7 : wc.cell? ⟨w.heap.size, 7, none⟩ = some (.string ⟨#[]⟩) := (HM3.out.res.cell 7).trans rfl
      have f7 := HM3.out.res.free 7
      have r8 : wc.cell? ⟨w.heap.size, 8, none⟩ = some (.int .i64 0) := (HM3.out.res.cell 8).trans rfl
      have f8 := HM3.out.res.free 8
      have hn1 : ¬ w.heap.size = w.heap.size + 1 := HM3.out.rg
      have hn2 : ¬ w.heap.size + 1 = w.heap.size := fun h => HM3.out.rg h.symm
      go_region
      go_wp2_with fail
      refine bodyPost_ret (res_parseq (w := (put9 wc w.heap.size E0).drew) (HM3.out.res.put E0).drew _ q 190 rfl rfl rfl) rfl ⟨?_, (below_put HM3.out.old _ (Nat.le_refl _) E0).drew⟩
      rw [HP.out]; rfl
    | ok a =>
      obtain rfl : e = e9 := HEE.out a rfl
      have ha := HM3.out.rd.1
      have hblk := HM3.out.rd.2
      have hc0 := hblk.cell0
      have hc1 := hblk.cell1
      have hc2 := hblk.cell2
      clear hblk
      have hq : decide ((-1 : Int) < 0) = true := by decide
      have hq2 : decide ((0 : Int) ≤ (-1 : Int)) = false := by decide
      by_cases hlt : a < s.size
      · have hd : decide ((a : Int) < (s.size : Int)) = true := decide_eq_true (by omega)
        have hdone : done s.data.toList (.ok a) = .bad a := by rw [done, if_pos (show a < s.data.toList.length from hlt)]
        have HD := Lib.hid hdone; clear hdone
        go_wp2_with (go_at_call 26; refine (wrongq_any s _ a a _ HM3.out.rd).mono ?_; rintro e' w5 ⟨rfl, hr, hgr⟩; have HM4 := Lib.hid (HM3.out.read hr hgr); clear hr hgr; obtain ⟨ra, hblk⟩ := HM4.out.rd; have hd0 := hblk.cell0; have hd1 := hblk.cell1; have hd2 := hblk.cell2; clear hblk hc0 hc1 hc2 hq hq2; have hq3 : decide ((0 : Int) ≤ (a : Int)) = true := decide_eq_true (by omega))
        have r0 : w5.cell? ⟨w.heap.size, 0, none⟩ = some (.int .u8 0) := (HM4.out.res.cell 0).trans rfl
        have f0 := HM4.out.res.free 0
        have r1 : w5.cell? ⟨w.heap.size, 1, none⟩ = some (.int .i64 0) := (HM4.out.res.cell 1).trans rfl
        have f1 := HM4.out.res.free 1
        have r2 : w5.cell? ⟨w.heap.size, 2, none⟩ = some (.int .i64 0) := (HM4.out.res.cell 2).trans rfl
        have f2 := HM4.out.res.free 2
        have r3 : w5.cell? ⟨w.heap.size, 3, none⟩ = some (.int .i64 0) := (HM4.out.res.cell 3).trans rfl
        have f3 := HM4.out.res.free 3
        have r4 : w5.cell? ⟨w.heap.size, 4, none⟩ = some (.int .i64 0) := (HM4.out.res.cell 4).trans rfl
        have f4 := HM4.out.res.free 4
        have r5 : w5.cell? ⟨w.heap.size, 5, none⟩ = some (.string ⟨#[]⟩) := (HM4.out.res.cell 5).trans rfl
        have f5 := HM4.out.res.free 5
        have r6 : w5.cell? ⟨w.heap.size, 6, none⟩ = some (.int .u8 0) := (HM4.out.res.cell 6).trans rfl
        have f6 := HM4.out.res.free 6
        have r7 : w5.cell? ⟨w.heap.size, 7, none⟩ = some (.string ⟨#[]⟩) := (HM4.out.res.cell 7).trans rfl
        have f7 := HM4.out.res.free 7
        have r8 : w5.cell? ⟨w.heap.size, 8, none⟩ = some (.int .i64 0) := (HM4.out.res.cell 8).trans rfl
        have f8 := HM4.out.res.free 8
        have hn1 : ¬ w.heap.size = w.heap.size + 1 := HM3.out.rg
        have hn2 : ¬ w.heap.size + 1 = w.heap.size := fun h => HM3.out.rg h.symm
        go_region
        go_wp2_with fail
        refine bodyPost_ret (res_parseq (w := (put9 w5 w.heap.size E0).drew) (HM4.out.res.put E0).drew _ a 190 rfl rfl rfl) rfl ⟨?_, (below_put HM4.out.old _ (Nat.le_refl _) E0).drew⟩
        rw [HP.out, HD.out]; rfl
      · have hd : decide ((a : Int) < (s.size : Int)) = false := decide_eq_false (by omega)
        have hdone : done s.data.toList (.ok a) = .ok a := by rw [done, if_neg (show ¬ a < s.data.toList.length from hlt)]
        have HD := Lib.hid hdone; clear hdone
        have v0 : wc.cell? ⟨b, 0, none⟩ = some (.int .u8 e.kind) := (HM3.out.ev.cell 0).trans rfl
        have v1 : wc.cell? ⟨b, 1, none⟩ = some (.int .i64 e.ax) := (HM3.out.ev.cell 1).trans rfl
        have v2 : wc.cell? ⟨b, 2, none⟩ = some (.int .i64 e.ay) := (HM3.out.ev.cell 2).trans rfl
        have v3 : wc.cell? ⟨b, 3, none⟩ = some (.int .i64 e.sw) := (HM3.out.ev.cell 3).trans rfl
        have v4 : wc.cell? ⟨b, 4, none⟩ = some (.int .i64 e.sh) := (HM3.out.ev.cell 4).trans rfl
        have v5 : wc.cell? ⟨b, 5, none⟩ = some (.string ⟨e.name.toArray⟩) := (HM3.out.ev.cell 5).trans rfl
        have v6 : wc.cell? ⟨b, 6, none⟩ = some (.int .u8 e.mods) := (HM3.out.ev.cell 6).trans rfl
        have v7 : wc.cell? ⟨b, 7, none⟩ = some (.string ⟨e.text.toArray⟩) := (HM3.out.ev.cell 7).trans rfl
        have v8 : wc.cell? ⟨b, 8, none⟩ = some (.int .i64 e.n) := (HM3.out.ev.cell 8).trans rfl
        have r0 : wc.cell? ⟨w.heap.size, 0, none⟩ = some (.int .u8 0) := (HM3.out.res.cell 0).trans rfl
        have f0 := HM3.out.res.free 0
        have r1 : wc.cell? ⟨w.heap.size, 1, none⟩ = some (.int .i64 0) := (HM3.out.res.cell 1).trans rfl
        have f1 := HM3.out.res.free 1
        have r2 : wc.cell? ⟨w.heap.size, 2, none⟩ = some (.int .i64 0) := (HM3.out.res.cell 2).trans rfl
        have f2 := HM3.out.res.free 2
        have r3 : wc.cell? ⟨w.heap.size, 3, none⟩ = some (.int .i64 0) := (HM3.out.res.cell 3).trans rfl
        have f3 := HM3.out.res.free 3
        have r4 : wc.cell? ⟨w.heap.size, 4, none⟩ = some (.int .i64 0) := (HM3.out.res.cell 4).trans rfl
        have f4 := HM3.out.res.free 4
        have r5 : wc.cell? ⟨w.heap.size, 5, none⟩ = some (.string ⟨#[]⟩) := (HM3.out.res.cell 5).trans rfl
        have f5 := HM3.out.res.free 5
        have r6 : wc.cell? ⟨w.heap.size, 6, none⟩ = some (.int .u8 0) := (HM3.out.res.cell 6).trans rfl
        have f6 := HM3.out.res.free 6
        have r7 : wc.cell? ⟨w.heap.size, 7, none⟩ = some (.string ⟨#[]⟩) := (HM3.out.res.cell 7).trans rfl
        have f7 := HM3.out.res.free 7
        have r8 : wc.cell? ⟨w.heap.size, 8, none⟩ = some (.int .i64 0) := (HM3.out.res.cell 8).trans rfl
        have f8 := HM3.out.res.free 8
        by_cases hm0 : m < 0
        · have hm0d : decide (m < 0) = true := decide_eq_true hm0
          go_wp2_with fail
          refine bodyPost_ret (res_parseq (w := put9 wc w.heap.size E0) (HM3.out.res.put E0) _ 0 190 rfl rfl rfl) rfl ⟨?_, below_put HM3.out.old _ (Nat.le_refl _) E0⟩
          rw [HP.out, HD.out, finish, if_pos (.inl (.inl hm0))]
        · have hm0d : decide (m < 0) = false := decide_eq_false hm0
          by_cases hm7 : 7 < m
          · have hm7d : decide (7 < m) = true := decide_eq_true hm7
            go_wp2_with fail
            refine bodyPost_ret (res_parseq (w := put9 wc w.heap.size E0) (HM3.out.res.put E0) _ 0 190 rfl rfl rfl) rfl ⟨?_, below_put HM3.out.old _ (Nat.le_refl _) E0⟩
            rw [HP.out, HD.out, finish, if_pos (.inl (.inr hm7))]
          · have hm7d : decide (7 < m) = false := decide_eq_false hm7
            go_wp2_with fail
            refine (checkq_any e wc (HM3.out.glob HG.out) (by have := HNL2.out; omega)).mono ?_
            rintro e' wd ⟨rfl, hbd⟩
            have HM5 := Lib.hid (HM3.out.pass hbd)
            clear hbd v0 v1 v2 v3 v4 v5 v6 v7 v8 r0 r1 r2 r3 r4 r5 r6 r7 r8 f0 f1 f2 f3 f4 f5 f6 f7 f8 hc0 hc1 hc2
            skip
            have x0 : wd.cell? ⟨b, 0, none⟩ = some (.int .u8 e.kind) := (HM5.out.ev.cell 0).trans rfl
            have y0 : wd.cell? ⟨w.heap.size, 0, none⟩ = some (.int .u8 0) := (HM5.out.res.cell 0).trans rfl
            have z0 := HM5.out.res.free 0
            have x1 : wd.cell? ⟨b, 1, none⟩ = some (.int .i64 e.ax) := (HM5.out.ev.cell 1).trans rfl
            have y1 : wd.cell? ⟨w.heap.size, 1, none⟩ = some (.int .i64 0) := (HM5.out.res.cell 1).trans rfl
            have z1 := HM5.out.res.free 1
            have x2 : wd.cell? ⟨b, 2, none⟩ = some (.int .i64 e.ay) := (HM5.out.ev.cell 2).trans rfl
            have y2 : wd.cell? ⟨w.heap.size, 2, none⟩ = some (.int .i64 0) := (HM5.out.res.cell 2).trans rfl
            have z2 := HM5.out.res.free 2
            have x3 : wd.cell? ⟨b, 3, none⟩ = some (.int .i64 e.sw) := (HM5.out.ev.cell 3).trans rfl
            have y3 : wd.cell? ⟨w.heap.size, 3, none⟩ = some (.int .i64 0) := (HM5.out.res.cell 3).trans rfl
            have z3 := HM5.out.res.free 3
            have x4 : wd.cell? ⟨b, 4, none⟩ = some (.int .i64 e.sh) := (HM5.out.ev.cell 4).trans rfl
            have y4 : wd.cell? ⟨w.heap.size, 4, none⟩ = some (.int .i64 0) := (HM5.out.res.cell 4).trans rfl
            have z4 := HM5.out.res.free 4
            have x5 : wd.cell? ⟨b, 5, none⟩ = some (.string ⟨e.name.toArray⟩) := (HM5.out.ev.cell 5).trans rfl
            have y5 : wd.cell? ⟨w.heap.size, 5, none⟩ = some (.string ⟨#[]⟩) := (HM5.out.res.cell 5).trans rfl
            have z5 := HM5.out.res.free 5
            have x6 : wd.cell? ⟨b, 6, none⟩ = some (.int .u8 e.mods) := (HM5.out.ev.cell 6).trans rfl
            have y6 : wd.cell? ⟨w.heap.size, 6, none⟩ = some (.int .u8 0) := (HM5.out.res.cell 6).trans rfl
            have z6 := HM5.out.res.free 6
            have x7 : wd.cell? ⟨b, 7, none⟩ = some (.string ⟨e.text.toArray⟩) := (HM5.out.ev.cell 7).trans rfl
            have y7 : wd.cell? ⟨w.heap.size, 7, none⟩ = some (.string ⟨#[]⟩) := (HM5.out.res.cell 7).trans rfl
            have z7 := HM5.out.res.free 7
            have x8 : wd.cell? ⟨b, 8, none⟩ = some (.int .i64 e.n) := (HM5.out.ev.cell 8).trans rfl
            have y8 : wd.cell? ⟨w.heap.size, 8, none⟩ = some (.int .i64 0) := (HM5.out.res.cell 8).trans rfl
            have z8 := HM5.out.res.free 8
            by_cases hch : chk e = true
            · rw [show chkE e = 0 from if_pos hch]
              go_wp2_with fail
              refine bodyPost_ret (res_parseq (w := put9 wd w.heap.size e) (HM5.out.res.put e) _ 0 0 rfl rfl rfl) rfl ⟨?_, below_put HM5.out.old _ (Nat.le_refl _) e⟩
              rw [HP.out, HD.out, finish, if_neg (by simp [hch]; omega)]
            · rw [show chkE e = 190 from if_neg hch]
              go_wp2_with fail
              refine bodyPost_ret (res_parseq (w := put9 wd w.heap.size E0) (HM5.out.res.put E0) _ 0 190 rfl rfl rfl) rfl ⟨?_, below_put HM5.out.old _ (Nat.le_refl _) E0⟩
              rw [HP.out, HD.out, finish, if_pos (.inr (by simpa using hch))]
set_option maxHeartbeats 8000000 in
set_option maxRecDepth 100000 in
theorem parseq_D (s : ByteArray) (w : World) (hg : Glob w) (hs : s.size ≤ 65536) (hgr : 7 ≤ kindOf (s.data.toList.takeWhile lowB) ∧ kindOf (s.data.toList.takeWhile lowB) ≤ 8) :
    Calls Tryd.prog 7 #[.string s] w fun e w' => e = .returned (.tuple #[EV (parse s.data.toList).1, .int .i64 (parse s.data.toList).2.1, .int .i64 (parse s.data.toList).2.2]) ∧ Below w.heap.size w w' := by
  have HG := Lib.hid hg; clear hg
  have hk10 : kindOf (s.data.toList.takeWhile lowB) ≤ 10 := kindOf_le _
  obtain ⟨L, hL⟩ : ∃ L, (s.data.toList.takeWhile lowB).length = L := ⟨_, rfl⟩
  obtain ⟨K, hK⟩ : ∃ K, kindOf (s.data.toList.takeWhile lowB) = K := ⟨_, rfl⟩
  have hkS : kindS s.data.toList = if K = 0 then .bad 0 else .ok L := by unfold kindS; rw [hK, hL]
  rw [hK] at hk10 hgr
  have HKS := Lib.hid hkS; have HL := Lib.hid hL; have HK := Lib.hid hK; clear hkS hL hK
  have hkw := kindq_any s (w.heap.size + 1) ((w.alloc (.cells (EC E0) 29)).alloc (.cells #[.string s, .int .i64 0, .int .i64 (-1)] 55)) (by omega) ⟨Nat.zero_le _, alloc_at2 _ _ _⟩
  rw [HK.out, HKS.out] at hkw
  have HKW := Lib.hid hkw; clear hkw HKS
  have gd0 : decide (3 ≤ (K : Int)) = true := decide_eq_true (by omega)
  have gd1 : decide ((K : Int) ≤ 6) = false := decide_eq_false (by omega)
  have gd2 : decide (9 ≤ (K : Int)) = false := decide_eq_false (by omega)
  go_enter Tryd.func7, Tryd.ntmps7
  go_wp2_with fail
  refine HKW.out.mono ?_
  rintro e w1 ⟨rfl, hI1, g1⟩
  have hB1 : Below w.heap.size w w1 := ((((Below.refl _ _).alloc (Nat.le_refl _) _).alloc (by simp) _).grown g1 (by simp; omega) (fun k hk => by cases hk; omega))
  have hR1 : Blk9 w1 w.heap.size E0 := Blk9.same (show Blk9 ((w.alloc (.cells (EC E0) 29)).alloc (.cells #[.string s, .int .i64 0, .int .i64 (-1)] 55)) w.heap.size E0 from alloc_at1 _ _ _) (g1.block _ (by simp; omega) (by simp))
  rw [if_neg (show ¬ K = 0 by omega)] at hI1
  have HM0 := Lib.hid (MidQ.start ⟨K, 0, 0, 0, 0, [], 0, [], 0⟩ hI1 hR1 hB1 (Nat.le_refl _) (Nat.le_succ _) (by omega))
  clear hI1 hR1 hB1 g1 HKW
  go_upto_region 5 with fail
  change Code.wp _ _ _ _ (w1.alloc (.cells (EC ⟨K, 0, 0, 0, 0, [], 0, [], 0⟩) 29))
  generalize w1.alloc (.cells (EC ⟨K, 0, 0, 0, 0, [], 0, [], 0⟩) 29) = w2 at HM0 ⊢
  generalize w1.heap.size = b at HM0 ⊢
  have hkc : w2.cell? ⟨b, 0, none⟩ = some (.int .u8 (K : Int)) := (HM0.out.ev.cell 0).trans rfl
  go_upto_block 0 with fail
  go_cut [8] (fun v8 wx => ∃ (m : Int) (e : E), v8 = .int .i64 m ∧ Hid (m = (fields s.data.toList K (.ok L)).2.1) ∧ Hid (∀ q, (fields s.data.toList K (.ok L)).2.2 = .ok q → e = (fields s.data.toList K (.ok L)).1) ∧ Hid ((fields s.data.toList K (.ok L)).1.name.length ≤ s.data.toList.length) ∧ Hid (MidQ w wx s w.heap.size (w.heap.size + 1) b (fields s.data.toList K (.ok L)).2.2 e))
  case first =>
    by_cases k7 : K = 7
    · subst k7
      go_wp2_with fail
      refine (numq_any s _ (.ok L) _ (by omega) HM0.out.rd).mono ?_
      rintro e w7 ⟨rfl, hr, hgr⟩
      have HR7 := Lib.hid (HM0.out.read hr hgr); clear hr hgr
      have hc8 : w7.cell? ⟨b, 8, none⟩ = some (.int .i64 0) := (HR7.out.ev.cell 8).trans rfl
      have hf8 := HR7.out.ev.free 8
      have HM7 := Lib.hid (HR7.out.set 8 (.int .i64 (numS s.data.toList (.ok L)).1) ⟨7, 0, 0, 0, 0, [], 0, [], (numS s.data.toList (.ok L)).1⟩ rfl)
      go_wp2_with fail
      go_meet
      exact ⟨_, _, rfl, Lib.hid rfl, Lib.hid (fun q hq => rfl), Lib.hid (Nat.zero_le _), HM7⟩
    by_cases k8 : K = 8
    · subst k8
      go_wp2_with fail
      refine (numq_any s _ (.ok L) _ (by omega) HM0.out.rd).mono ?_
      rintro e w7 ⟨rfl, hr, hgr⟩
      have HR7 := Lib.hid (HM0.out.read hr hgr); clear hr hgr
      have hc3 : w7.cell? ⟨b, 3, none⟩ = some (.int .i64 0) := (HR7.out.ev.cell 3).trans rfl
      have hf3 := HR7.out.ev.free 3
      have HM7 := Lib.hid (HR7.out.set 3 (.int .i64 (numS s.data.toList (.ok L)).1) ⟨8, 0, 0, (numS s.data.toList (.ok L)).1, 0, [], 0, [], 0⟩ rfl)
      go_wp2_with fail
      refine (numq_any s _ (numS s.data.toList (.ok L)).2 _ (by omega) HM7.out.rd).mono ?_
      rintro e w8 ⟨rfl, hr, hgr⟩
      have HR8 := Lib.hid (HM7.out.read hr hgr); clear hr hgr
      have hc4 : w8.cell? ⟨b, 4, none⟩ = some (.int .i64 0) := (HR8.out.ev.cell 4).trans rfl
      have hf4 := HR8.out.ev.free 4
      have HM8 := Lib.hid (HR8.out.set 4 (.int .i64 (numS s.data.toList (numS s.data.toList (.ok L)).2).1) ⟨8, 0, 0, (numS s.data.toList (.ok L)).1, (numS s.data.toList (numS s.data.toList (.ok L)).2).1, [], 0, [], 0⟩ rfl)
      go_wp2_with fail
      go_meet
      exact ⟨_, _, rfl, Lib.hid rfl, Lib.hid (fun q hq => rfl), Lib.hid (Nat.zero_le _), HM8⟩
    exfalso; omega
  case rest =>
    obtain ⟨m, e, rfl, HMM, HEE, HNL, HM2⟩ := hcut
    clear HM0
    have hp : parse s.data.toList = finish (fields s.data.toList K (.ok L)).1 (fields s.data.toList K (.ok L)).2.1 (done s.data.toList (fields s.data.toList K (.ok L)).2.2) := by
      unfold parse
      rw [if_neg (by show ¬ 65536 < s.size; omega)]
      simp only
      rw [HL.out, HK.out]
    generalize fields s.data.toList K (.ok L) = f at hp HMM HNL HM2 HEE
    obtain ⟨e9, m', σ⟩ := f
    obtain rfl : m = m' := HMM.out
    have HNL2 := Lib.hid (show e9.name.length ≤ s.size from HNL.out)
    have HM3 := Lib.hid (show MidQ w wc s w.heap.size (w.heap.size + 1) b σ e from HM2.out)
    simp only at hp
    have HP := Lib.hid hp
    clear HMM HNL HM2 hp hk10 HL HK
    cases σ with
    | bad q =>
      obtain ⟨ra, hblk⟩ := HM3.out.rd
      have hc0 := hblk.cell0
      have hc1 := hblk.cell1
      have hc2 := hblk.cell2
      clear hblk
      have hq : decide ((q : Int) < 0) = false := decide_eq_false (by omega)
      have hq2 : decide ((0 : Int) ≤ (q : Int)) = true := decide_eq_true (by omega)
      go_wp2_with fail
      have r0 : wc.cell? ⟨w.heap.size, 0, none⟩ = some (.int .u8 0) := (HM3.out.res.cell 0).trans rfl
      have f0 := HM3.out.res.free 0
      have r1 : wc.cell? ⟨w.heap.size, 1, none⟩ = some (.int .i64 0) := (HM3.out.res.cell 1).trans rfl
      have f1 := HM3.out.res.free 1
      have r2 : wc.cell? ⟨w.heap.size, 2, none⟩ = some (.int .i64 0) := (HM3.out.res.cell 2).trans rfl
      have f2 := HM3.out.res.free 2
      have r3 : wc.cell? ⟨w.heap.size, 3, none⟩ = some (.int .i64 0) := (HM3.out.res.cell 3).trans rfl
      have f3 := HM3.out.res.free 3
      have r4 : wc.cell? ⟨w.heap.size, 4, none⟩ = some (.int .i64 0) := (HM3.out.res.cell 4).trans rfl
      have f4 := HM3.out.res.free 4
      have r5 : wc.cell? ⟨w.heap.size, 5, none⟩ = some (.string ⟨#[]⟩) := (HM3.out.res.cell 5).trans rfl
      have f5 := HM3.out.res.free 5
      have r6 : wc.cell? ⟨w.heap.size, 6, none⟩ = some (.int .u8 0) := (HM3.out.res.cell 6).trans rfl
      have f6 := HM3.out.res.free 6
      have r7 : wc.cell? ⟨w.heap.size, 7, none⟩ = some (.string ⟨#[]⟩) := (HM3.out.res.cell 7).trans rfl
      have f7 := HM3.out.res.free 7
      have r8 : wc.cell? ⟨w.heap.size, 8, none⟩ = some (.int .i64 0) := (HM3.out.res.cell 8).trans rfl
      have f8 := HM3.out.res.free 8
      have hn1 : ¬ w.heap.size = w.heap.size + 1 := HM3.out.rg
      have hn2 : ¬ w.heap.size + 1 = w.heap.size := fun h => HM3.out.rg h.symm
      go_region
      go_wp2_with fail
      refine bodyPost_ret (res_parseq (w := (put9 wc w.heap.size E0).drew) (HM3.out.res.put E0).drew _ q 190 rfl rfl rfl) rfl ⟨?_, (below_put HM3.out.old _ (Nat.le_refl _) E0).drew⟩
      rw [HP.out]; rfl
    | ok a =>
      obtain rfl : e = e9 := HEE.out a rfl
      have ha := HM3.out.rd.1
      have hblk := HM3.out.rd.2
      have hc0 := hblk.cell0
      have hc1 := hblk.cell1
      have hc2 := hblk.cell2
      clear hblk
      have hq : decide ((-1 : Int) < 0) = true := by decide
      have hq2 : decide ((0 : Int) ≤ (-1 : Int)) = false := by decide
      by_cases hlt : a < s.size
      · have hd : decide ((a : Int) < (s.size : Int)) = true := decide_eq_true (by omega)
        have hdone : done s.data.toList (.ok a) = .bad a := by rw [done, if_pos (show a < s.data.toList.length from hlt)]
        have HD := Lib.hid hdone; clear hdone
        go_wp2_with (go_at_call 26; refine (wrongq_any s _ a a _ HM3.out.rd).mono ?_; rintro e' w5 ⟨rfl, hr, hgr⟩; have HM4 := Lib.hid (HM3.out.read hr hgr); clear hr hgr; obtain ⟨ra, hblk⟩ := HM4.out.rd; have hd0 := hblk.cell0; have hd1 := hblk.cell1; have hd2 := hblk.cell2; clear hblk hc0 hc1 hc2 hq hq2; have hq3 : decide ((0 : Int) ≤ (a : Int)) = true := decide_eq_true (by omega))
        have r0 : w5.cell? ⟨w.heap.size, 0, none⟩ = some (.int .u8 0) := (HM4.out.res.cell 0).trans rfl
        have f0 := HM4.out.res.free 0
        have r1 : w5.cell? ⟨w.heap.size, 1, none⟩ = some (.int .i64 0) := (HM4.out.res.cell 1).trans rfl
        have f1 := HM4.out.res.free 1
        have r2 : w5.cell? ⟨w.heap.size, 2, none⟩ = some (.int .i64 0) := (HM4.out.res.cell 2).trans rfl
        have f2 := HM4.out.res.free 2
        have r3 : w5.cell? ⟨w.heap.size, 3, none⟩ = some (.int .i64 0) := (HM4.out.res.cell 3).trans rfl
        have f3 := HM4.out.res.free 3
        have r4 : w5.cell? ⟨w.heap.size, 4, none⟩ = some (.int .i64 0) := (HM4.out.res.cell 4).trans rfl
        have f4 := HM4.out.res.free 4
        have r5 : w5.cell? ⟨w.heap.size, 5, none⟩ = some (.string ⟨#[]⟩) := (HM4.out.res.cell 5).trans rfl
        have f5 := HM4.out.res.free 5
        have r6 : w5.cell? ⟨w.heap.size, 6, none⟩ = some (.int .u8 0) := (HM4.out.res.cell 6).trans rfl
        have f6 := HM4.out.res.free 6
        have r7 : w5.cell? ⟨w.heap.size, 7, none⟩ = some (.string ⟨#[]⟩) := (HM4.out.res.cell 7).trans rfl
        have f7 := HM4.out.res.free 7
        have r8 : w5.cell? ⟨w.heap.size, 8, none⟩ = some (.int .i64 0) := (HM4.out.res.cell 8).trans rfl
        have f8 := HM4.out.res.free 8
        have hn1 : ¬ w.heap.size = w.heap.size + 1 := HM3.out.rg
        have hn2 : ¬ w.heap.size + 1 = w.heap.size := fun h => HM3.out.rg h.symm
        go_region
        go_wp2_with fail
        refine bodyPost_ret (res_parseq (w := (put9 w5 w.heap.size E0).drew) (HM4.out.res.put E0).drew _ a 190 rfl rfl rfl) rfl ⟨?_, (below_put HM4.out.old _ (Nat.le_refl _) E0).drew⟩
        rw [HP.out, HD.out]; rfl
      · have hd : decide ((a : Int) < (s.size : Int)) = false := decide_eq_false (by omega)
        have hdone : done s.data.toList (.ok a) = .ok a := by rw [done, if_neg (show ¬ a < s.data.toList.length from hlt)]
        have HD := Lib.hid hdone; clear hdone
        have v0 : wc.cell? ⟨b, 0, none⟩ = some (.int .u8 e.kind) := (HM3.out.ev.cell 0).trans rfl
        have v1 : wc.cell? ⟨b, 1, none⟩ = some (.int .i64 e.ax) := (HM3.out.ev.cell 1).trans rfl
        have v2 : wc.cell? ⟨b, 2, none⟩ = some (.int .i64 e.ay) := (HM3.out.ev.cell 2).trans rfl
        have v3 : wc.cell? ⟨b, 3, none⟩ = some (.int .i64 e.sw) := (HM3.out.ev.cell 3).trans rfl
        have v4 : wc.cell? ⟨b, 4, none⟩ = some (.int .i64 e.sh) := (HM3.out.ev.cell 4).trans rfl
        have v5 : wc.cell? ⟨b, 5, none⟩ = some (.string ⟨e.name.toArray⟩) := (HM3.out.ev.cell 5).trans rfl
        have v6 : wc.cell? ⟨b, 6, none⟩ = some (.int .u8 e.mods) := (HM3.out.ev.cell 6).trans rfl
        have v7 : wc.cell? ⟨b, 7, none⟩ = some (.string ⟨e.text.toArray⟩) := (HM3.out.ev.cell 7).trans rfl
        have v8 : wc.cell? ⟨b, 8, none⟩ = some (.int .i64 e.n) := (HM3.out.ev.cell 8).trans rfl
        have r0 : wc.cell? ⟨w.heap.size, 0, none⟩ = some (.int .u8 0) := (HM3.out.res.cell 0).trans rfl
        have f0 := HM3.out.res.free 0
        have r1 : wc.cell? ⟨w.heap.size, 1, none⟩ = some (.int .i64 0) := (HM3.out.res.cell 1).trans rfl
        have f1 := HM3.out.res.free 1
        have r2 : wc.cell? ⟨w.heap.size, 2, none⟩ = some (.int .i64 0) := (HM3.out.res.cell 2).trans rfl
        have f2 := HM3.out.res.free 2
        have r3 : wc.cell? ⟨w.heap.size, 3, none⟩ = some (.int .i64 0) := (HM3.out.res.cell 3).trans rfl
        have f3 := HM3.out.res.free 3
        have r4 : wc.cell? ⟨w.heap.size, 4, none⟩ = some (.int .i64 0) := (HM3.out.res.cell 4).trans rfl
        have f4 := HM3.out.res.free 4
        have r5 : wc.cell? ⟨w.heap.size, 5, none⟩ = some (.string ⟨#[]⟩) := (HM3.out.res.cell 5).trans rfl
        have f5 := HM3.out.res.free 5
        have r6 : wc.cell? ⟨w.heap.size, 6, none⟩ = some (.int .u8 0) := (HM3.out.res.cell 6).trans rfl
        have f6 := HM3.out.res.free 6
        have r7 : wc.cell? ⟨w.heap.size, 7, none⟩ = some (.string ⟨#[]⟩) := (HM3.out.res.cell 7).trans rfl
        have f7 := HM3.out.res.free 7
        have r8 : wc.cell? ⟨w.heap.size, 8, none⟩ = some (.int .i64 0) := (HM3.out.res.cell 8).trans rfl
        have f8 := HM3.out.res.free 8
        by_cases hm0 : m < 0
        · have hm0d : decide (m < 0) = true := decide_eq_true hm0
          go_wp2_with fail
          refine bodyPost_ret (res_parseq (w := put9 wc w.heap.size E0) (HM3.out.res.put E0) _ 0 190 rfl rfl rfl) rfl ⟨?_, below_put HM3.out.old _ (Nat.le_refl _) E0⟩
          rw [HP.out, HD.out, finish, if_pos (.inl (.inl hm0))]
        · have hm0d : decide (m < 0) = false := decide_eq_false hm0
          by_cases hm7 : 7 < m
          · have hm7d : decide (7 < m) = true := decide_eq_true hm7
            go_wp2_with fail
            refine bodyPost_ret (res_parseq (w := put9 wc w.heap.size E0) (HM3.out.res.put E0) _ 0 190 rfl rfl rfl) rfl ⟨?_, below_put HM3.out.old _ (Nat.le_refl _) E0⟩
            rw [HP.out, HD.out, finish, if_pos (.inl (.inr hm7))]
          · have hm7d : decide (7 < m) = false := decide_eq_false hm7
            go_wp2_with fail
            refine (checkq_any e wc (HM3.out.glob HG.out) (by have := HNL2.out; omega)).mono ?_
            rintro e' wd ⟨rfl, hbd⟩
            have HM5 := Lib.hid (HM3.out.pass hbd)
            clear hbd v0 v1 v2 v3 v4 v5 v6 v7 v8 r0 r1 r2 r3 r4 r5 r6 r7 r8 f0 f1 f2 f3 f4 f5 f6 f7 f8 hc0 hc1 hc2
            skip
            have x0 : wd.cell? ⟨b, 0, none⟩ = some (.int .u8 e.kind) := (HM5.out.ev.cell 0).trans rfl
            have y0 : wd.cell? ⟨w.heap.size, 0, none⟩ = some (.int .u8 0) := (HM5.out.res.cell 0).trans rfl
            have z0 := HM5.out.res.free 0
            have x1 : wd.cell? ⟨b, 1, none⟩ = some (.int .i64 e.ax) := (HM5.out.ev.cell 1).trans rfl
            have y1 : wd.cell? ⟨w.heap.size, 1, none⟩ = some (.int .i64 0) := (HM5.out.res.cell 1).trans rfl
            have z1 := HM5.out.res.free 1
            have x2 : wd.cell? ⟨b, 2, none⟩ = some (.int .i64 e.ay) := (HM5.out.ev.cell 2).trans rfl
            have y2 : wd.cell? ⟨w.heap.size, 2, none⟩ = some (.int .i64 0) := (HM5.out.res.cell 2).trans rfl
            have z2 := HM5.out.res.free 2
            have x3 : wd.cell? ⟨b, 3, none⟩ = some (.int .i64 e.sw) := (HM5.out.ev.cell 3).trans rfl
            have y3 : wd.cell? ⟨w.heap.size, 3, none⟩ = some (.int .i64 0) := (HM5.out.res.cell 3).trans rfl
            have z3 := HM5.out.res.free 3
            have x4 : wd.cell? ⟨b, 4, none⟩ = some (.int .i64 e.sh) := (HM5.out.ev.cell 4).trans rfl
            have y4 : wd.cell? ⟨w.heap.size, 4, none⟩ = some (.int .i64 0) := (HM5.out.res.cell 4).trans rfl
            have z4 := HM5.out.res.free 4
            have x5 : wd.cell? ⟨b, 5, none⟩ = some (.string ⟨e.name.toArray⟩) := (HM5.out.ev.cell 5).trans rfl
            have y5 : wd.cell? ⟨w.heap.size, 5, none⟩ = some (.string ⟨#[]⟩) := (HM5.out.res.cell 5).trans rfl
            have z5 := HM5.out.res.free 5
            have x6 : wd.cell? ⟨b, 6, none⟩ = some (.int .u8 e.mods) := (HM5.out.ev.cell 6).trans rfl
            have y6 : wd.cell? ⟨w.heap.size, 6, none⟩ = some (.int .u8 0) := (HM5.out.res.cell 6).trans rfl
            have z6 := HM5.out.res.free 6
            have x7 : wd.cell? ⟨b, 7, none⟩ = some (.string ⟨e.text.toArray⟩) := (HM5.out.ev.cell 7).trans rfl
            have y7 : wd.cell? ⟨w.heap.size, 7, none⟩ = some (.string ⟨#[]⟩) := (HM5.out.res.cell 7).trans rfl
            have z7 := HM5.out.res.free 7
            have x8 : wd.cell? ⟨b, 8, none⟩ = some (.int .i64 e.n) := (HM5.out.ev.cell 8).trans rfl
            have y8 : wd.cell? ⟨w.heap.size, 8, none⟩ = some (.int .i64 0) := (HM5.out.res.cell 8).trans rfl
            have z8 := HM5.out.res.free 8
            by_cases hch : chk e = true
            · rw [show chkE e = 0 from if_pos hch]
              go_wp2_with fail
              refine bodyPost_ret (res_parseq (w := put9 wd w.heap.size e) (HM5.out.res.put e) _ 0 0 rfl rfl rfl) rfl ⟨?_, below_put HM5.out.old _ (Nat.le_refl _) e⟩
              rw [HP.out, HD.out, finish, if_neg (by simp [hch]; omega)]
            · rw [show chkE e = 190 from if_neg hch]
              go_wp2_with fail
              refine bodyPost_ret (res_parseq (w := put9 wd w.heap.size E0) (HM5.out.res.put E0) _ 0 190 rfl rfl rfl) rfl ⟨?_, below_put HM5.out.old _ (Nat.le_refl _) E0⟩
              rw [HP.out, HD.out, finish, if_pos (.inr (by simpa using hch))]
set_option maxHeartbeats 8000000 in
set_option maxRecDepth 100000 in
theorem parseq_Z (s : ByteArray) (w : World) (hg : Glob w) (hs : s.size ≤ 65536) (hgr : kindOf (s.data.toList.takeWhile lowB) = 0) :
    Calls Tryd.prog 7 #[.string s] w fun e w' => e = .returned (.tuple #[EV (parse s.data.toList).1, .int .i64 (parse s.data.toList).2.1, .int .i64 (parse s.data.toList).2.2]) ∧ Below w.heap.size w w' := by
  have HG := Lib.hid hg; clear hg
  have hk10 : kindOf (s.data.toList.takeWhile lowB) ≤ 10 := kindOf_le _
  obtain ⟨L, hL⟩ : ∃ L, (s.data.toList.takeWhile lowB).length = L := ⟨_, rfl⟩
  obtain ⟨K, hK⟩ : ∃ K, kindOf (s.data.toList.takeWhile lowB) = K := ⟨_, rfl⟩
  have hkS : kindS s.data.toList = if K = 0 then .bad 0 else .ok L := by unfold kindS; rw [hK, hL]
  rw [hK] at hk10 hgr
  have HKS := Lib.hid hkS; have HL := Lib.hid hL; have HK := Lib.hid hK; clear hkS hL hK
  have hkw := kindq_any s (w.heap.size + 1) ((w.alloc (.cells (EC E0) 29)).alloc (.cells #[.string s, .int .i64 0, .int .i64 (-1)] 55)) (by omega) ⟨Nat.zero_le _, alloc_at2 _ _ _⟩
  rw [HK.out, HKS.out] at hkw
  have HKW := Lib.hid hkw; clear hkw HKS
  have gd0 : decide (3 ≤ (K : Int)) = false := decide_eq_false (by omega)
  have gd1 : decide (9 ≤ (K : Int)) = false := decide_eq_false (by omega)
  go_enter Tryd.func7, Tryd.ntmps7
  go_wp2_with fail
  refine HKW.out.mono ?_
  rintro e w1 ⟨rfl, hI1, g1⟩
  have hB1 : Below w.heap.size w w1 := ((((Below.refl _ _).alloc (Nat.le_refl _) _).alloc (by simp) _).grown g1 (by simp; omega) (fun k hk => by cases hk; omega))
  have hR1 : Blk9 w1 w.heap.size E0 := Blk9.same (show Blk9 ((w.alloc (.cells (EC E0) 29)).alloc (.cells #[.string s, .int .i64 0, .int .i64 (-1)] 55)) w.heap.size E0 from alloc_at1 _ _ _) (g1.block _ (by simp; omega) (by simp))
  rw [if_pos hgr] at hI1
  obtain rfl : K = 0 := hgr
  have HM0 := Lib.hid (MidQ.start ⟨0, 0, 0, 0, 0, [], 0, [], 0⟩ hI1 hR1 hB1 (Nat.le_refl _) (Nat.le_succ _) (by omega))
  clear hI1 hR1 hB1 g1 HKW
  go_upto_region 5 with fail
  change Code.wp _ _ _ _ (w1.alloc (.cells (EC ⟨0, 0, 0, 0, 0, [], 0, [], 0⟩) 29))
  generalize w1.alloc (.cells (EC ⟨0, 0, 0, 0, 0, [], 0, [], 0⟩) 29) = w2 at HM0 ⊢
  generalize w1.heap.size = b at HM0 ⊢
  have hkc : w2.cell? ⟨b, 0, none⟩ = some (.int .u8 0) := (HM0.out.ev.cell 0).trans rfl
  go_upto_block 0 with fail
  go_cut [8] (fun v8 wx => ∃ (m : Int) (e : E), v8 = .int .i64 m ∧ Hid (m = (fields s.data.toList 0 (.ok L)).2.1) ∧ Hid (∀ q, (fields s.data.toList 0 (.ok L)).2.2 = .ok q → e = (fields s.data.toList 0 (.ok L)).1) ∧ Hid ((fields s.data.toList 0 (.ok L)).1.name.length ≤ s.data.toList.length) ∧ Hid (MidQ w wx s w.heap.size (w.heap.size + 1) b (fields s.data.toList 0 (.ok L)).2.2 e))
  case first =>
    · skip
      go_wp2_with fail
      go_meet
      exact ⟨0, _, rfl, Lib.hid rfl, Lib.hid (fun q hq => by cases hq), Lib.hid (Nat.zero_le _), HM0⟩
  case rest =>
    obtain ⟨m, e, rfl, HMM, HEE, HNL, HM2⟩ := hcut
    clear HM0
    have hp : parse s.data.toList = finish (fields s.data.toList 0 (.ok L)).1 (fields s.data.toList 0 (.ok L)).2.1 (done s.data.toList (fields s.data.toList 0 (.ok L)).2.2) := by
      unfold parse
      rw [if_neg (by show ¬ 65536 < s.size; omega)]
      simp only
      rw [HL.out, HK.out]
    generalize fields s.data.toList 0 (.ok L) = f at hp HMM HNL HM2 HEE
    obtain ⟨e9, m', σ⟩ := f
    obtain rfl : m = m' := HMM.out
    have HNL2 := Lib.hid (show e9.name.length ≤ s.size from HNL.out)
    have HM3 := Lib.hid (show MidQ w wc s w.heap.size (w.heap.size + 1) b σ e from HM2.out)
    simp only at hp
    have HP := Lib.hid hp
    clear HMM HNL HM2 hp hk10 HL HK
    cases σ with
    | bad q =>
      obtain ⟨ra, hblk⟩ := HM3.out.rd
      have hc0 := hblk.cell0
      have hc1 := hblk.cell1
      have hc2 := hblk.cell2
      clear hblk
      have hq : decide ((q : Int) < 0) = false := decide_eq_false (by omega)
      have hq2 : decide ((0 : Int) ≤ (q : Int)) = true := decide_eq_true (by omega)
      go_wp2_with fail
      have r0 : wc.cell? ⟨w.heap.size, 0, none⟩ = some (.int .u8 0) := (HM3.out.res.cell 0).trans rfl
      have f0 := HM3.out.res.free 0
      have r1 : wc.cell? ⟨w.heap.size, 1, none⟩ = some (.int .i64 0) := (HM3.out.res.cell 1).trans rfl
      have f1 := HM3.out.res.free 1
      have r2 : wc.cell? ⟨w.heap.size, 2, none⟩ = some (.int .i64 0) := (HM3.out.res.cell 2).trans rfl
      have f2 := HM3.out.res.free 2
      have r3 : wc.cell? ⟨w.heap.size, 3, none⟩ = some (.int .i64 0) := (HM3.out.res.cell 3).trans rfl
      have f3 := HM3.out.res.free 3
      have r4 : wc.cell? ⟨w.heap.size, 4, none⟩ = some (.int .i64 0) := (HM3.out.res.cell 4).trans rfl
      have f4 := HM3.out.res.free 4
      have r5 : wc.cell? ⟨w.heap.size, 5, none⟩ = some (.string ⟨#[]⟩) := (HM3.out.res.cell 5).trans rfl
      have f5 := HM3.out.res.free 5
      have r6 : wc.cell? ⟨w.heap.size, 6, none⟩ = some (.int .u8 0) := (HM3.out.res.cell 6).trans rfl
      have f6 := HM3.out.res.free 6
      have r7 : wc.cell? ⟨w.heap.size, 7, none⟩ = some (.string ⟨#[]⟩) := (HM3.out.res.cell 7).trans rfl
      have f7 := HM3.out.res.free 7
      have r8 : wc.cell? ⟨w.heap.size, 8, none⟩ = some (.int .i64 0) := (HM3.out.res.cell 8).trans rfl
      have f8 := HM3.out.res.free 8
      have hn1 : ¬ w.heap.size = w.heap.size + 1 := HM3.out.rg
      have hn2 : ¬ w.heap.size + 1 = w.heap.size := fun h => HM3.out.rg h.symm
      go_region
      go_wp2_with fail
      refine bodyPost_ret (res_parseq (w := (put9 wc w.heap.size E0).drew) (HM3.out.res.put E0).drew _ q 190 rfl rfl rfl) rfl ⟨?_, (below_put HM3.out.old _ (Nat.le_refl _) E0).drew⟩
      rw [HP.out]; rfl
    | ok a =>
      obtain rfl : e = e9 := HEE.out a rfl
      have ha := HM3.out.rd.1
      have hblk := HM3.out.rd.2
      have hc0 := hblk.cell0
      have hc1 := hblk.cell1
      have hc2 := hblk.cell2
      clear hblk
      have hq : decide ((-1 : Int) < 0) = true := by decide
      have hq2 : decide ((0 : Int) ≤ (-1 : Int)) = false := by decide
      by_cases hlt : a < s.size
      · have hd : decide ((a : Int) < (s.size : Int)) = true := decide_eq_true (by omega)
        have hdone : done s.data.toList (.ok a) = .bad a := by rw [done, if_pos (show a < s.data.toList.length from hlt)]
        have HD := Lib.hid hdone; clear hdone
        go_wp2_with (go_at_call 26; refine (wrongq_any s _ a a _ HM3.out.rd).mono ?_; rintro e' w5 ⟨rfl, hr, hgr⟩; have HM4 := Lib.hid (HM3.out.read hr hgr); clear hr hgr; obtain ⟨ra, hblk⟩ := HM4.out.rd; have hd0 := hblk.cell0; have hd1 := hblk.cell1; have hd2 := hblk.cell2; clear hblk hc0 hc1 hc2 hq hq2; have hq3 : decide ((0 : Int) ≤ (a : Int)) = true := decide_eq_true (by omega))
        have r0 : w5.cell? ⟨w.heap.size, 0, none⟩ = some (.int .u8 0) := (HM4.out.res.cell 0).trans rfl
        have f0 := HM4.out.res.free 0
        have r1 : w5.cell? ⟨w.heap.size, 1, none⟩ = some (.int .i64 0) := (HM4.out.res.cell 1).trans rfl
        have f1 := HM4.out.res.free 1
        have r2 : w5.cell? ⟨w.heap.size, 2, none⟩ = some (.int .i64 0) := (HM4.out.res.cell 2).trans rfl
        have f2 := HM4.out.res.free 2
        have r3 : w5.cell? ⟨w.heap.size, 3, none⟩ = some (.int .i64 0) := (HM4.out.res.cell 3).trans rfl
        have f3 := HM4.out.res.free 3
        have r4 : w5.cell? ⟨w.heap.size, 4, none⟩ = some (.int .i64 0) := (HM4.out.res.cell 4).trans rfl
        have f4 := HM4.out.res.free 4
        have r5 : w5.cell? ⟨w.heap.size, 5, none⟩ = some (.string ⟨#[]⟩) := (HM4.out.res.cell 5).trans rfl
        have f5 := HM4.out.res.free 5
        have r6 : w5.cell? ⟨w.heap.size, 6, none⟩ = some (.int .u8 0) := (HM4.out.res.cell 6).trans rfl
        have f6 := HM4.out.res.free 6
        have r7 : w5.cell? ⟨w.heap.size, 7, none⟩ = some (.string ⟨#[]⟩) := (HM4.out.res.cell 7).trans rfl
        have f7 := HM4.out.res.free 7
        have r8 : w5.cell? ⟨w.heap.size, 8, none⟩ = some (.int .i64 0) := (HM4.out.res.cell 8).trans rfl
        have f8 := HM4.out.res.free 8
        have hn1 : ¬ w.heap.size = w.heap.size + 1 := HM3.out.rg
        have hn2 : ¬ w.heap.size + 1 = w.heap.size := fun h => HM3.out.rg h.symm
        go_region
        go_wp2_with fail
        refine bodyPost_ret (res_parseq (w := (put9 w5 w.heap.size E0).drew) (HM4.out.res.put E0).drew _ a 190 rfl rfl rfl) rfl ⟨?_, (below_put HM4.out.old _ (Nat.le_refl _) E0).drew⟩
        rw [HP.out, HD.out]; rfl
      · have hd : decide ((a : Int) < (s.size : Int)) = false := decide_eq_false (by omega)
        have hdone : done s.data.toList (.ok a) = .ok a := by rw [done, if_neg (show ¬ a < s.data.toList.length from hlt)]
        have HD := Lib.hid hdone; clear hdone
        have v0 : wc.cell? ⟨b, 0, none⟩ = some (.int .u8 e.kind) := (HM3.out.ev.cell 0).trans rfl
        have v1 : wc.cell? ⟨b, 1, none⟩ = some (.int .i64 e.ax) := (HM3.out.ev.cell 1).trans rfl
        have v2 : wc.cell? ⟨b, 2, none⟩ = some (.int .i64 e.ay) := (HM3.out.ev.cell 2).trans rfl
        have v3 : wc.cell? ⟨b, 3, none⟩ = some (.int .i64 e.sw) := (HM3.out.ev.cell 3).trans rfl
        have v4 : wc.cell? ⟨b, 4, none⟩ = some (.int .i64 e.sh) := (HM3.out.ev.cell 4).trans rfl
        have v5 : wc.cell? ⟨b, 5, none⟩ = some (.string ⟨e.name.toArray⟩) := (HM3.out.ev.cell 5).trans rfl
        have v6 : wc.cell? ⟨b, 6, none⟩ = some (.int .u8 e.mods) := (HM3.out.ev.cell 6).trans rfl
        have v7 : wc.cell? ⟨b, 7, none⟩ = some (.string ⟨e.text.toArray⟩) := (HM3.out.ev.cell 7).trans rfl
        have v8 : wc.cell? ⟨b, 8, none⟩ = some (.int .i64 e.n) := (HM3.out.ev.cell 8).trans rfl
        have r0 : wc.cell? ⟨w.heap.size, 0, none⟩ = some (.int .u8 0) := (HM3.out.res.cell 0).trans rfl
        have f0 := HM3.out.res.free 0
        have r1 : wc.cell? ⟨w.heap.size, 1, none⟩ = some (.int .i64 0) := (HM3.out.res.cell 1).trans rfl
        have f1 := HM3.out.res.free 1
        have r2 : wc.cell? ⟨w.heap.size, 2, none⟩ = some (.int .i64 0) := (HM3.out.res.cell 2).trans rfl
        have f2 := HM3.out.res.free 2
        have r3 : wc.cell? ⟨w.heap.size, 3, none⟩ = some (.int .i64 0) := (HM3.out.res.cell 3).trans rfl
        have f3 := HM3.out.res.free 3
        have r4 : wc.cell? ⟨w.heap.size, 4, none⟩ = some (.int .i64 0) := (HM3.out.res.cell 4).trans rfl
        have f4 := HM3.out.res.free 4
        have r5 : wc.cell? ⟨w.heap.size, 5, none⟩ = some (.string ⟨#[]⟩) := (HM3.out.res.cell 5).trans rfl
        have f5 := HM3.out.res.free 5
        have r6 : wc.cell? ⟨w.heap.size, 6, none⟩ = some (.int .u8 0) := (HM3.out.res.cell 6).trans rfl
        have f6 := HM3.out.res.free 6
        have r7 : wc.cell? ⟨w.heap.size, 7, none⟩ = some (.string ⟨#[]⟩) := (HM3.out.res.cell 7).trans rfl
        have f7 := HM3.out.res.free 7
        have r8 : wc.cell? ⟨w.heap.size, 8, none⟩ = some (.int .i64 0) := (HM3.out.res.cell 8).trans rfl
        have f8 := HM3.out.res.free 8
        by_cases hm0 : m < 0
        · have hm0d : decide (m < 0) = true := decide_eq_true hm0
          go_wp2_with fail
          refine bodyPost_ret (res_parseq (w := put9 wc w.heap.size E0) (HM3.out.res.put E0) _ 0 190 rfl rfl rfl) rfl ⟨?_, below_put HM3.out.old _ (Nat.le_refl _) E0⟩
          rw [HP.out, HD.out, finish, if_pos (.inl (.inl hm0))]
        · have hm0d : decide (m < 0) = false := decide_eq_false hm0
          by_cases hm7 : 7 < m
          · have hm7d : decide (7 < m) = true := decide_eq_true hm7
            go_wp2_with fail
            refine bodyPost_ret (res_parseq (w := put9 wc w.heap.size E0) (HM3.out.res.put E0) _ 0 190 rfl rfl rfl) rfl ⟨?_, below_put HM3.out.old _ (Nat.le_refl _) E0⟩
            rw [HP.out, HD.out, finish, if_pos (.inl (.inr hm7))]
          · have hm7d : decide (7 < m) = false := decide_eq_false hm7
            go_wp2_with fail
            refine (checkq_any e wc (HM3.out.glob HG.out) (by have := HNL2.out; omega)).mono ?_
            rintro e' wd ⟨rfl, hbd⟩
            have HM5 := Lib.hid (HM3.out.pass hbd)
            clear hbd v0 v1 v2 v3 v4 v5 v6 v7 v8 r0 r1 r2 r3 r4 r5 r6 r7 r8 f0 f1 f2 f3 f4 f5 f6 f7 f8 hc0 hc1 hc2
            skip
            have x0 : wd.cell? ⟨b, 0, none⟩ = some (.int .u8 e.kind) := (HM5.out.ev.cell 0).trans rfl
            have y0 : wd.cell? ⟨w.heap.size, 0, none⟩ = some (.int .u8 0) := (HM5.out.res.cell 0).trans rfl
            have z0 := HM5.out.res.free 0
            have x1 : wd.cell? ⟨b, 1, none⟩ = some (.int .i64 e.ax) := (HM5.out.ev.cell 1).trans rfl
            have y1 : wd.cell? ⟨w.heap.size, 1, none⟩ = some (.int .i64 0) := (HM5.out.res.cell 1).trans rfl
            have z1 := HM5.out.res.free 1
            have x2 : wd.cell? ⟨b, 2, none⟩ = some (.int .i64 e.ay) := (HM5.out.ev.cell 2).trans rfl
            have y2 : wd.cell? ⟨w.heap.size, 2, none⟩ = some (.int .i64 0) := (HM5.out.res.cell 2).trans rfl
            have z2 := HM5.out.res.free 2
            have x3 : wd.cell? ⟨b, 3, none⟩ = some (.int .i64 e.sw) := (HM5.out.ev.cell 3).trans rfl
            have y3 : wd.cell? ⟨w.heap.size, 3, none⟩ = some (.int .i64 0) := (HM5.out.res.cell 3).trans rfl
            have z3 := HM5.out.res.free 3
            have x4 : wd.cell? ⟨b, 4, none⟩ = some (.int .i64 e.sh) := (HM5.out.ev.cell 4).trans rfl
            have y4 : wd.cell? ⟨w.heap.size, 4, none⟩ = some (.int .i64 0) := (HM5.out.res.cell 4).trans rfl
            have z4 := HM5.out.res.free 4
            have x5 : wd.cell? ⟨b, 5, none⟩ = some (.string ⟨e.name.toArray⟩) := (HM5.out.ev.cell 5).trans rfl
            have y5 : wd.cell? ⟨w.heap.size, 5, none⟩ = some (.string ⟨#[]⟩) := (HM5.out.res.cell 5).trans rfl
            have z5 := HM5.out.res.free 5
            have x6 : wd.cell? ⟨b, 6, none⟩ = some (.int .u8 e.mods) := (HM5.out.ev.cell 6).trans rfl
            have y6 : wd.cell? ⟨w.heap.size, 6, none⟩ = some (.int .u8 0) := (HM5.out.res.cell 6).trans rfl
            have z6 := HM5.out.res.free 6
            have x7 : wd.cell? ⟨b, 7, none⟩ = some (.string ⟨e.text.toArray⟩) := (HM5.out.ev.cell 7).trans rfl
            have y7 : wd.cell? ⟨w.heap.size, 7, none⟩ = some (.string ⟨#[]⟩) := (HM5.out.res.cell 7).trans rfl
            have z7 := HM5.out.res.free 7
            have x8 : wd.cell? ⟨b, 8, none⟩ = some (.int .i64 e.n) := (HM5.out.ev.cell 8).trans rfl
            have y8 : wd.cell? ⟨w.heap.size, 8, none⟩ = some (.int .i64 0) := (HM5.out.res.cell 8).trans rfl
            have z8 := HM5.out.res.free 8
            by_cases hch : chk e = true
            · rw [show chkE e = 0 from if_pos hch]
              go_wp2_with fail
              refine bodyPost_ret (res_parseq (w := put9 wd w.heap.size e) (HM5.out.res.put e) _ 0 0 rfl rfl rfl) rfl ⟨?_, below_put HM5.out.old _ (Nat.le_refl _) e⟩
              rw [HP.out, HD.out, finish, if_neg (by simp [hch]; omega)]
            · rw [show chkE e = 190 from if_neg hch]
              go_wp2_with fail
              refine bodyPost_ret (res_parseq (w := put9 wd w.heap.size E0) (HM5.out.res.put E0) _ 0 190 rfl rfl rfl) rfl ⟨?_, below_put HM5.out.old _ (Nat.le_refl _) E0⟩
              rw [HP.out, HD.out, finish, if_pos (.inr (by simpa using hch))]

/-- The answer's Parse, whole. -/
theorem parseq_any (s : ByteArray) (w : World) (hg : Glob w) :
    Calls Tryd.prog 7 #[.string s] w fun e w' => e = .returned (.tuple #[EV (parse s.data.toList).1, .int .i64 (parse s.data.toList).2.1, .int .i64 (parse s.data.toList).2.2]) ∧ Below w.heap.size w w' := by
  by_cases h : s.size ≤ 65536
  · have hk := kindOf_le (s.data.toList.takeWhile lowB)
    by_cases h0 : kindOf (s.data.toList.takeWhile lowB) = 0
    · exact parseq_Z s w hg h h0
    by_cases h1 : kindOf (s.data.toList.takeWhile lowB) ≤ 2
    · exact parseq_C s w hg h ⟨by omega, h1⟩
    by_cases h2 : kindOf (s.data.toList.takeWhile lowB) ≤ 6
    · exact parseq_A s w hg h ⟨by omega, h2⟩
    by_cases h3 : kindOf (s.data.toList.takeWhile lowB) ≤ 8
    · exact parseq_D s w hg h ⟨by omega, h3⟩
    · exact parseq_B s w hg h ⟨by omega, hk⟩
  · have hp : parse s.data.toList = (E0, 0, 3) := by
      unfold parse
      exact if_pos (show 65536 < s.size by omega)
    rw [hp]
    exact parseq_long s w (by omega)
end Go.Proofs.YtgkpbpcebgegbaaDoor
