/- vector.Read, walked. -/
import Derived.Test.YtemiamajgjfnbaaGreatDoorVcRa
import Derived.Test.YtemiamajgjfnbaaGreatDoorVcAt
import Derived.Deep.LoopGhost
namespace Go.Proofs.YtemiamajgjfnbaaGreatDoor
open Go.RowKit Vc
set_option linter.unusedVariables false
set_option linter.unusedSimpArgs false
def SZ (a b : Int) : Array Value := #[.int .i64 a, .int .i64 b]
theorem load_size {w : World} {r : Nat} {a b : Int} (h : BlkV w r 23 (SZ a b)) : (loadVar 23 ⟨r, 0, none⟩).run Tryz.prog w = .ok (.agg #[.int .i64 a, .int .i64 b]) w := by
  have c0 : w.cell? ⟨r, 0, none⟩ = some (.int .i64 a) := (h.cell 0).trans rfl
  have c1 : w.cell? ⟨r, 1, none⟩ = some (.int .i64 b) := (h.cell 1).trans rfl
  go_simp
theorem res_read {w : World} {r : Nat} {a b : Int} (h : BlkV w r 23 (SZ a b)) (tm : Array Value) (v : Value) (x y : Int) (h2 : tm.getD 2 undef = v) (h3 : tm.getD 3 undef = .pointer (some ⟨r, 0, none⟩)) (h4 : tm.getD 4 undef = .int .i64 x) (h5 : tm.getD 5 undef = .int .i64 y) :
    (results Tryz.f11 tm).run Tryz.prog w = .ok (.tuple #[v, .agg #[.int .i64 a, .int .i64 b], .int .i64 x, .int .i64 y]) w := by
  have hl := load_size h
  have hr : Tryz.f11.results = #[.tmp 2, .cell 3 23, .tmp 4, .tmp 5] := rfl
  simp only [results, hr]
  simp at h2 h3 h4 h5
  simp [Sem.run_bind, Result.andThen, asAddr, h2, h3, h4, h5, hl]
/-- Amidst Read: the reader, the result's place, the size. -/
structure MidQ (w0 w : World) (s : ByteArray) (zb : Nat) (σ : RS) (a b : Int) : Prop where
  rd : IsV w (w0.heap.size + 1) s σ
  res : BlkV w w0.heap.size 23 (SZ 0 0)
  siz : BlkV w zb 23 (SZ a b)
  old : Below w0.heap.size w0 w
  far : w0.heap.size + 1 < zb
section
variable {w0 w w' : World} {s : ByteArray} {zb : Nat} {σ σ' : RS} {a b : Int}
theorem MidQ.call (h : MidQ w0 w s zb σ a b) (h1 : IsV w' (w0.heap.size + 1) s σ') (h2 : w.grownBy w' (some (w0.heap.size + 1))) : MidQ w0 w' s zb σ' a b :=
  ⟨h1, h.res.same (h2.block _ h.res.lt (by intro e; have := Option.some.inj e; omega)), h.siz.same (h2.block _ h.siz.lt (by intro e; have := Option.some.inj e; have := h.far; omega)), below_of_grown h.old h2 (by omega) h.old.size, h.far⟩
theorem MidQ.below (h : MidQ w0 w s zb σ a b) (hb : Below w.heap.size w w') : MidQ w0 w' s zb σ a b :=
  ⟨h.rd.below hb, h.res.below hb h.res.lt, h.siz.below hb h.siz.lt, h.old.trans (hb.mono h.old.size), h.far⟩
theorem MidQ.store (h : MidQ w0 w s zb σ a b) (n : Int) : MidQ w0 (w.setCell ⟨zb, 1, none⟩ (.int .i64 n)) s zb σ a n :=
  ⟨h.rd.other h.siz (by decide) (by decide) (by decide), h.res.same (heap_other (by have := h.far; omega)), h.siz.set 1 _, h.old.setCell (by show w0.heap.size ≤ zb; have := h.far; omega) _, h.far⟩
theorem MidQ.app (h : MidQ w0 w s zb σ a b) {B : Nat} {v : Value} {l : List S} {ob : Obj} (hB : B ≤ w.heap.size) (hB0 : w0.heap.size ≤ B) (hown : OwnS w B v l) (hgr : (w.alloc ob).grownBy w' v.ownBlock) : MidQ w0 w' s zb σ a b :=
  ⟨h.rd.app hown hgr, hown.beside hgr h.res (by decide), hown.beside hgr h.siz (by decide), h.old.trans ((below_append hB hown hgr).mono hB0), h.far⟩
end
theorem OwnS.below {w w' : World} {base : Nat} {v : Value} {l : List S} (h : OwnS w base v l) (hb : Below w.heap.size w w') : OwnS w' base v l :=
  World.ownsRow.kept h (w' := w') (row := none) ⟨hb.os, hb.tape, hb.output, hb.size, fun k hk _ => hb.block k hk⟩ (by cases v.ownBlock <;> simp)
theorem ext_nil {s : ByteArray} {c : Nat} (h : s.size ≤ c) : s.extract c s.size = ⟨#[]⟩ := by
  apply ByteArray.ext
  apply Array.ext'
  have := Lib.extract_to_end s c
  rw [this, List.drop_eq_nil_of_le (by show s.size ≤ c; exact h)]
theorem ext_ne {s : ByteArray} {c : Nat} (h : c < s.size) : (s.extract c s.size).toList.isEmpty = false := by
  rw [Bool.eq_false_iff]
  intro e
  rw [List.isEmpty_iff] at e
  rw [Lib.toList_data, Lib.extract_to_end] at e
  have := congrArg List.length e
  rw [List.length_drop] at this
  have h2 : s.data.toList.length = s.size := rfl
  simp at this
  omega
def ReadPost (s : ByteArray) (w : World) (e : Ending) (w' : World) : Prop :=
  ∃ v, e = .returned (.tuple #[v, .agg #[.int .i64 (readP s.data.toList).2.1.1, .int .i64 (readP s.data.toList).2.1.2], .int .i64 (readP s.data.toList).2.2.1, .int .i64 (readP s.data.toList).2.2.2]) ∧ IsL w' v (readP s.data.toList).1 ∧ Below w.heap.size w w'
theorem isL_nil (w : World) : IsL w (.slice none 0 0) [] := ⟨none, 0, rfl, fun i hi => by simp at hi⟩
set_option maxHeartbeats 1000000 in
set_option maxRecDepth 20000 in
theorem read_long (s : ByteArray) (w : World) (hs : 65536 < s.size) :
    Calls Tryz.prog 11 #[.string s] w (ReadPost s w) := by
  have hr : readP s.data.toList = ([], (0, 0), 0, 3) := by unfold readP; rw [if_pos (show 65536 < s.data.toList.length from hs)]
  have HR := Lib.hid hr; clear hr
  go_enter Tryz.func11, Tryz.ntmps11
  go_wp2_with fail
  refine bodyPost_ret (res_read (r := w.heap.size) (a := 0) (b := 0) (v := .slice none 0 0) (x := 0) (y := 3) (blkV_new w _ _) _ rfl rfl rfl rfl) rfl ⟨_, by rw [HR.out], by rw [HR.out]; exact isL_nil _, (Below.refl _ _).alloc (Nat.le_refl _) _⟩

set_option maxHeartbeats 8000000 in
set_option maxRecDepth 20000 in
theorem read_short (s : ByteArray) (w : World) (hs : s.size ≤ 65536) (hg : Glob w) :
    Calls Tryz.prog 11 #[.string s] w (ReadPost s w) := by
  have hsl : s.data.toList.length = s.size := rfl
  have hG : 9 ≤ w.heap.size + 1 := Nat.le_trans hg.size (Nat.le_succ _)
  have HG := Lib.hid hg; clear hg
  have hsc := scan_tail s.data.toList
  obtain ⟨q1, h1⟩ : ∃ q, q = fieldS s.data.toList qHead (.ok 0) := ⟨_, rfl⟩
  rw [← h1] at hsc
  obtain ⟨q2, h2⟩ : ∃ q, q = fieldS s.data.toList qh q1.2 := ⟨_, rfl⟩
  rw [← h2] at hsc
  obtain ⟨σ0, h0⟩ : ∃ q, q = fixS s.data.toList qOpen q2.2 := ⟨_, rfl⟩
  rw [← h0] at hsc
  have hin : In s.data.toList.length σ0 := by rw [h0, h2, h1]; exact fix_in (field_in (field_in (Nat.zero_le _)))
  have hle0 : left s.data.toList σ0 ≤ s.size + 1 := by cases σ0 with | ok a => show s.size + 1 - a ≤ _; omega | bad p => exact Nat.zero_le _
  obtain ⟨T, hT⟩ : ∃ T, T = tailS s.data.toList σ0 [] := ⟨_, rfl⟩
  rw [← hT] at hsc
  have hr : readP s.data.toList = match Ev.done s.data.toList (fixS s.data.toList qEnd T.2) with
    | .bad p => ([], (0, 0), (p : Int), 160)
    | .ok _ => if sizedB q1.1 q2.1 = true then (if checkE T.1 = 0 then (T.1, (q1.1, q2.1), 0, 0) else ([], (0, 0), 0, checkE T.1)) else ([], (0, 0), 0, 9) := by
    unfold readP; rw [if_neg (by omega), hsc]; rfl
  have HR := Lib.hid hr; have HIN := Lib.hid hin; have HT := Lib.hid hT; have HQ1 := Lib.hid h1; have HQ2 := Lib.hid h2; have HS0 := Lib.hid h0
  clear hr hin hT h1 h2 h0 hsc
  go_enter Tryz.func11, Tryz.ntmps11
  go_upto_region 4 with fail
  have hA : Below w.heap.size w ((w.alloc (.cells (SZ 0 0) 23)).alloc (.cells #[.string s, .int .i64 0, .nilIface] 66)) :=
    ((Below.refl w.heap.size w).alloc (Nat.le_refl _) _).alloc (by simp) _
  have W1 := Lib.hid hA
  have R1 : Hid (BlkV ((w.alloc (.cells (SZ 0 0) 23)).alloc (.cells #[.string s, .int .i64 0, .nilIface] 66)) w.heap.size 23 (SZ 0 0)) := Lib.hid (alloc_at1 w _ _)
  have I1 : Hid (IsV ((w.alloc (.cells (SZ 0 0) 23)).alloc (.cells #[.string s, .int .i64 0, .nilIface] 66)) (w.heap.size + 1) s (.ok 0)) := Lib.hid ⟨Nat.zero_le _, alloc_at2 w _ _⟩
  clear hA
  unfold SZ at W1 R1 I1
  generalize (w.alloc (.cells #[.int .i64 0, .int .i64 0] 23)).alloc (.cells #[.string s, .int .i64 0, .nilIface] 66) = w1 at W1 R1 I1 ⊢
  go_upto_region 5 with (go_at_call 23; refine (vfield_any s ⟨#[60, 115, 104, 97, 112, 101, 115, 32, 119, 61, 34]⟩ (w.heap.size + 1) _ _ (by omega) (by decide) (HG.out.below HG.out.size W1.out) hG I1.out).mono ?_; rintro e w2 ⟨rfl, hh, gg⟩; rw [show (⟨#[60, 115, 104, 97, 112, 101, 115, 32, 119, 61, 34]⟩ : ByteArray).data.toList = qHead from rfl, ← HQ1.out] at hh ⊢; have I2 := Lib.hid hh; have R2 := Lib.hid (R1.out.same (gg.block _ R1.out.lt (by intro e; have := Option.some.inj e; omega))); have W2 := Lib.hid (below_of_grown W1.out gg (by omega) W1.out.size); clear hh gg)
  have hzb : w.heap.size + 1 < w2.heap.size := I2.out.lt
  have hB2 := (Below.refl w2.heap.size w2).alloc (Nat.le_refl _) (.cells (SZ q1.1 0) 23)
  have M3 : Hid (MidQ w (w2.alloc (.cells (SZ q1.1 0) 23)) s w2.heap.size q1.2 q1.1 0) := Lib.hid ⟨I2.out.below hB2, R2.out.below hB2 R2.out.lt, blkV_new _ _ _, W2.out.trans (hB2.mono W2.out.size), hzb⟩
  clear hB2
  unfold SZ at M3
  generalize w2.alloc (.cells #[.int .i64 q1.1, .int .i64 0] 23) = w3 at M3 ⊢
  generalize w2.heap.size = zb at M3 hzb ⊢
  go_upto_region 6 with (go_at_call 23; refine (vfield_any s ⟨#[34, 32, 104, 61, 34]⟩ (w.heap.size + 1) _ _ (by omega) (by decide) (HG.out.below HG.out.size M3.out.old) hG M3.out.rd).mono ?_; rintro e w4 ⟨rfl, hh, gg⟩; rw [show (⟨#[34, 32, 104, 61, 34]⟩ : ByteArray).data.toList = qh from rfl, ← HQ2.out] at hh ⊢; have M4 := Lib.hid (M3.out.call hh gg); clear hh gg; have c1 : w4.cell? ⟨zb, 1, none⟩ = some (.int .i64 0) := (M4.out.siz.cell 1).trans rfl; have f1 := M4.out.siz.free 1)
  have M5 := Lib.hid (M4.out.store q2.1)
  clear c1 f1
  generalize w4.setCell ⟨zb, 1, none⟩ (.int .i64 q2.1) = w5 at M5 ⊢
  go_upto_region 7 with (go_at_call 24; refine (vfixed_any s ⟨#[34, 62, 10]⟩ (w.heap.size + 1) _ _ (by omega) (by decide) M5.out.rd).mono ?_; rintro e w6 ⟨rfl, hh, gg⟩; rw [show (⟨#[34, 62, 10]⟩ : ByteArray).data.toList = qOpen from rfl, ← HS0.out] at hh; have M6 := Lib.hid (M5.out.call hh gg); clear hh gg)
  have hzB : zb < w6.heap.size := M6.out.siz.lt
  go_wp2_with fail
  go_loopg [8] (left s.data.toList σ0) (fun k v wr => ∃ (acc : List S) (σ : RS), Hid (MidQ w wr s zb σ q1.1 q2.1) ∧ Hid (OwnS wr w6.heap.size v acc) ∧ Hid (tailS s.data.toList σ acc = T) ∧ Hid (In s.data.toList.length σ) ∧ acc.length + left s.data.toList σ ≤ s.size + 1 ∧ Hid (k = left s.data.toList σ) ∧ w6.heap.size ≤ wr.heap.size)
  case atStart => exact ⟨[], σ0, M6, Lib.hid (OwnS.nil _ _), Lib.hid HT.out.symm, HIN, by simpa using hle0, Lib.hid rfl, Nat.le_refl _⟩
  case round =>
    clear hle0
    obtain ⟨acc, σ, MR, HO, HTL, HINR, hbound, HK, hwB⟩ := hrel
    cases σ with
    | bad p =>
      have hTb : T = (acc, .bad p) := by rw [← HTL.out]; rfl
      have hrb : readP s.data.toList = ([], (0, 0), (p : Int), 160) := by rw [HR.out, hTb]; rfl
      have HRB := Lib.hid hrb; clear hrb hTb
      have hI := MR.out.rd
      obtain ⟨a', x, ha', hBl, hBad⟩ := hI
      obtain ⟨bb, ff, y, rfl, e1, e2⟩ := hBad
      have hc2 := hBl.cell2
      have E1 := Lib.hid e1; have E2 := Lib.hid e2; clear hBl e1 e2
      go_upto_region 11 with (go_at_call 24; refine (vfixed_any s ⟨#[60, 47, 115, 104, 97, 112, 101, 115, 62, 10]⟩ (w.heap.size + 1) _ _ (by omega) (by decide) MR.out.rd).mono ?_; rintro e w7 ⟨rfl, hh, gg⟩; have M7 : Hid (MidQ w w7 s zb (.bad p) q1.1 q2.1) := Lib.hid (MR.out.call hh gg); clear hh gg)
      clear E1 E2 hc2
      have hI := M7.out.rd
      obtain ⟨a2, x2, ha2, hBl, hBad⟩ := hI
      obtain ⟨bb, ff, y, rfl, e1, e2⟩ := hBad
      have hc1 := hBl.cell1
      have hc2 := hBl.cell2
      have E1 := Lib.hid e1; have E2 := Lib.hid e2; clear hBl e1 e2
      go_upto_region 14 with (first | (go_at_call 26; refine (vrest_bad s (w.heap.size + 1) p _ M7.out.rd).mono ?_; rintro e w' ⟨rfl, rfl⟩))
      have hA8 := (Below.refl w7.heap.size w7).alloc (Nat.le_refl _) (.cells #[.pointer none] 71)
      have M8 := Lib.hid (M7.out.below hA8)
      have E18 := Lib.hid ((hA8.block bb (Array.getElem?_eq_some_iff.1 E1.out).1).trans E1.out)
      have E28 := Lib.hid ((hA8.block ff (Array.getElem?_eq_some_iff.1 E2.out).1).trans E2.out)
      have T8 : Hid ((w7.alloc (.cells #[.pointer none] 71)).heap[w7.heap.size]? = some (.cells #[.pointer none] 71 (0, 0))) := Lib.hid (heap_alloc_new _ _)
      have c82 : (w7.alloc (.cells #[.pointer none] 71)).cell? ⟨w.heap.size + 1, 2, none⟩ = some (.iface 82 (.pointer (some ⟨bb, 0, none⟩))) := (bcell hA8).1 _ _ M7.out.rd.lt |>.trans hc2
      have hb8 : bb < w7.heap.size := (Array.getElem?_eq_some_iff.1 E1.out).1
      have hf8 : ff < w7.heap.size := (Array.getElem?_eq_some_iff.1 E2.out).1
      have hr8 : w.heap.size < w7.heap.size := M7.out.res.lt
      have nfr : ¬ ff = w.heap.size := by intro e; have h := M7.out.res; unfold BlkV at h; rw [← e, E2.out] at h; simp at h
      clear hc1 hc2 hA8 E1 E2
      generalize w7.alloc (.cells #[.pointer none] 71) = w8 at M8 E18 E28 T8 c82 ⊢
      generalize w7.heap.size = tb at T8 hb8 hf8 hr8 ⊢
      go_upto_region 15 with (go_at_call 29; refine (as_bad bb ff p y tb _ (HG.out.below HG.out.size M8.out.old) E18.out T8.out).mono ?_; rintro e w9 ⟨rfl, w1', hb9, rfl⟩; have M9 := Lib.hid (M8.out.below hb9); have F9 := Lib.hid ((hb9.block ff (Array.getElem?_eq_some_iff.1 E28.out).1).trans E28.out); have T9 := Lib.hid ((hb9.block tb (Array.getElem?_eq_some_iff.1 T8.out).1).trans T8.out); clear hb9 c82)
      have nft : ff ≠ tb := by omega
      have nrt : w.heap.size ≠ tb := by omega
      have T10 : Hid ((w1'.setCell ⟨tb, 0, none⟩ (.pointer (some ⟨ff, 0, none⟩))).heap[tb]? = some (.cells #[.pointer (some ⟨ff, 0, none⟩)] 71 (0, 0))) := Lib.hid ((show BlkV w1' tb 71 #[.pointer none] from T9.out).set 0 (.pointer (some ⟨ff, 0, none⟩)))
      have F10 : Hid ((w1'.setCell ⟨tb, 0, none⟩ (.pointer (some ⟨ff, 0, none⟩))).heap[ff]? = some (.cells #[.int .i64 160, .int .i64 (p : Int)] 75 (0, 0))) := Lib.hid ((heap_other nft).trans F9.out)
      have R10 := Lib.hid (M9.out.res.same (heap_other (v := .pointer (some ⟨ff, 0, none⟩)) (o := 0) nrt))
      have W10 : Hid (Below w.heap.size w (w1'.setCell ⟨tb, 0, none⟩ (.pointer (some ⟨ff, 0, none⟩)))) := Lib.hid (M9.out.old.setCell (by show w.heap.size ≤ tb; omega) _)
      clear T9 F9 M9 M8 T8 E18 E28
      generalize w1'.setCell ⟨tb, 0, none⟩ (.pointer (some ⟨ff, 0, none⟩)) = w10 at T10 F10 R10 W10 ⊢
      have T11 : BlkV w10 tb 71 #[.pointer (some ⟨ff, 0, none⟩)] := T10.out
      have F11 : BlkV w10 ff 75 #[.int .i64 160, .int .i64 (p : Int)] := F10.out
      have k0 : w10.cell? ⟨tb, 0, none⟩ = some (.pointer (some ⟨ff, 0, none⟩)) := (T11.cell 0).trans rfl
      have k1 : w10.cell? ⟨ff, 0, none⟩ = some (.int .i64 160) := (F11.cell 0).trans rfl
      have k2 : w10.cell? ⟨ff, 1, none⟩ = some (.int .i64 (p : Int)) := (F11.cell 1).trans rfl
      have k3 : w10.cell? ⟨w.heap.size, 0, none⟩ = some (.int .i64 0) := (R10.out.cell 0).trans rfl
      have k4 : w10.cell? ⟨w.heap.size, 1, none⟩ = some (.int .i64 0) := (R10.out.cell 1).trans rfl
      have k5 := R10.out.free 0
      have k6 := R10.out.free 1
      have nfr2 : ¬ w.heap.size = ff := fun e => nfr e.symm
      have ntr : ¬ tb = w.heap.size := by omega
      have ntr2 : ¬ w.heap.size = tb := by omega
      clear T11 F11
      have RF := Lib.hid ((R10.out.set 0 (.int .i64 0)).set 1 (.int .i64 0))
      have WF : Hid (Below w.heap.size w ((w10.setCell ⟨w.heap.size, 0, none⟩ (.int .i64 0)).setCell ⟨w.heap.size, 1, none⟩ (.int .i64 0)).drew) := Lib.hid (((W10.out.setCell (by exact Nat.le_refl _) _).setCell (by exact Nat.le_refl _) _).drew)
      go_region_law fail
      all_goals (
        go_wp2_with fail
        exact bodyPost_ret (res_read (r := w.heap.size) (a := 0) (b := 0) (v := .slice none 0 0) (x := (p : Int)) (y := 160) (by exact RF.out) _ rfl rfl rfl rfl) rfl ⟨_, by rw [HRB.out], by rw [HRB.out]; exact isL_nil _, WF.out⟩)
    | ok a =>
      have hc2 := MR.out.rd.2.cell2
      have haS : a ≤ s.size := MR.out.rd.1
      cases hpre : Lib.hasPrefix (s.data.toList.drop a) qEnd with
      | false =>
        have hst := tail_step s.data.toList a acc haS hpre
        rw [HTL.out] at hst
        have hlf := stroke_left (l := s.data.toList) (a := a) haS
        have hsi := stroke_in (l := s.data.toList) (σ := .ok a) haS
        obtain ⟨ys, hys⟩ : ∃ q, q = strokeS s.data.toList (.ok a) := ⟨_, rfl⟩
        rw [← hys] at hst hlf hsi
        have HST := Lib.hid hst; have HLF := Lib.hid hlf; have HSI := Lib.hid hsi; have HYS := Lib.hid hys; have HPRE := Lib.hid hpre
        have hal : acc.length ≤ 100000 := by have h := hbound; omega
        have HBD := Lib.hid hbound
        clear hst hlf hsi hys hpre hbound
        have h16B : w.heap.size + 1 < w6.heap.size := by omega
        have hp8 : (⟨#[60, 47, 115, 104, 97, 112, 101, 115, 62, 10]⟩ : ByteArray).data.toList = qEnd := rfl
        have HP8 := Lib.hid hp8; clear hp8
        go_upto_region 9 with (first | (go_at_call 26; refine (vrest_ok s (w.heap.size + 1) a _ MR.out.rd).mono ?_; rintro e w7 ⟨rfl, n7, rfl⟩; have M7 : Hid (MidQ w (wr.drewN n7) s zb (.ok a) q1.1 q2.1) := Lib.hid (MR.out.below (below_drewN' (Below.refl _ _) n7)); have O7 : Hid (OwnS (wr.drewN n7) w6.heap.size u8 acc) := Lib.hid (HO.out.below (below_drewN' (Below.refl _ _) n7)); have b7 : w6.heap.size ≤ (wr.drewN n7).heap.size := hwB) | (go_at_call 25; refine (hasPrefix_any (s.extract a s.size) _ _).mono ?_; rintro e w' ⟨rfl, rfl⟩; rw [Lib.extract_to_end, HP8.out, HPRE.out]))
        generalize wr.drewN n7 = w7 at M7 O7 b7 ⊢
        clear hc2
        go_wp2_with (first | (go_at_call 27; refine (vstroke_any s (w.heap.size + 1) (.ok a) _ (by omega) (HG.out.below HG.out.size M7.out.old) hG M7.out.rd).mono ?_; rintro e w8 ⟨rfl, hh, gg⟩; rw [← HYS.out] at hh ⊢; have M8 := Lib.hid (M7.out.call hh gg); have O8 := Lib.hid (O7.out.grown h16B gg); have b8 : w6.heap.size ≤ w8.heap.size := Nat.le_trans b7 gg.size; clear hh gg; unfold SV SC) | (at_builtin; refine wp_append_stroke rfl (.tmp 37) (.tmp 40) rfl w6.heap.size u8 acc ys.1 rfl O8.out rfl hal b8 ?_; intro v' w9 hown hgr; have O9 := Lib.hid hown; have M9 := Lib.hid (M8.out.app b8 (by omega) O8.out hgr); have b9 : w6.heap.size ≤ w9.heap.size := Nat.le_trans b8 (Nat.le_trans (by simp) hgr.size); clear hown hgr))
        go_roundg (left s.data.toList ys.2)
        case measure => rw [HK.out]; exact HLF.out
        case rel =>
          refine ⟨acc ++ [ys.1], ys.2, M9, O9, Lib.hid HST.out.symm, HSI, ?_, Lib.hid rfl, b9⟩
          have h1 := HBD.out
          have h2 := HLF.out
          rw [List.length_append, List.length_singleton]; omega
      | true =>
        have hTb : T = (acc, .ok a) := by rw [← HTL.out]; exact tail_end _ _ _ hpre
        have hfx : fixS s.data.toList qEnd (.ok a) = .ok (a + 10) := by unfold fixS; simp only; rw [if_pos hpre]; rfl
        have hrb : readP s.data.toList = match Ev.done s.data.toList (.ok (a + 10)) with
          | .bad p => ([], (0, 0), (p : Int), 160)
          | .ok _ => if sizedB q1.1 q2.1 = true then (if checkE acc = 0 then (acc, (q1.1, q2.1), 0, 0) else ([], (0, 0), 0, checkE acc)) else ([], (0, 0), 0, 9) := by
          rw [HR.out, hTb]; simp only; rw [hfx]
        obtain ⟨c, hc⟩ : ∃ c, c = a + 10 := ⟨_, rfl⟩
        rw [← hc] at hrb hfx
        have HRC := Lib.hid hrb; have HFX := Lib.hid hfx; have HPRE := Lib.hid hpre
        clear hrb hTb hfx hpre hc
        have hp8 : (⟨#[60, 47, 115, 104, 97, 112, 101, 115, 62, 10]⟩ : ByteArray).data.toList = qEnd := rfl
        have HP8 := Lib.hid hp8; clear hp8
        have h16B : w.heap.size + 1 < w6.heap.size := by omega
        go_upto_region 11 with (first | (go_at_call 26; refine (vrest_ok s (w.heap.size + 1) a _ MR.out.rd).mono ?_; rintro e w7 ⟨rfl, n7, rfl⟩; have M7 : Hid (MidQ w (wr.drewN n7) s zb (.ok a) q1.1 q2.1) := Lib.hid (MR.out.below (below_drewN' (Below.refl _ _) n7)); have O7 : Hid (OwnS (wr.drewN n7) w6.heap.size u8 acc) := Lib.hid (HO.out.below (below_drewN' (Below.refl _ _) n7))) | (go_at_call 25; refine (hasPrefix_any (s.extract a s.size) _ _).mono ?_; rintro e w' ⟨rfl, rfl⟩; rw [Lib.extract_to_end, HP8.out, HPRE.out]) | (go_at_call 24; refine (vfixed_any s ⟨#[60, 47, 115, 104, 97, 112, 101, 115, 62, 10]⟩ (w.heap.size + 1) _ _ (by omega) (by decide) M7.out.rd).mono ?_; rintro e w8 ⟨rfl, hh, gg⟩; rw [HP8.out, HFX.out] at hh; have M8 := Lib.hid (M7.out.call hh gg); have O8 := Lib.hid (O7.out.grown h16B gg); clear hh gg))
        clear hc2 O7
        by_cases hend : c < s.size
        · have hdone : Ev.done s.data.toList (.ok c) = .bad c := by unfold Ev.done; simp only; rw [if_pos (show c < s.data.toList.length from hend)]
          have hrb : readP s.data.toList = ([], (0, 0), (c : Int), 160) := by rw [HRC.out, hdone]
          have HRB := Lib.hid hrb; clear hrb hdone HRC
          have hX := ext_ne hend
          go_upto_region 12 with (go_at_call 26; refine (vrest_ok s (w.heap.size + 1) c _ M8.out.rd).mono ?_; rintro e w9 ⟨rfl, n9, rfl⟩; have M9 : Hid (MidQ w (w8.drewN n9) s zb (.ok c) q1.1 q2.1) := Lib.hid (M8.out.below (below_drewN' (Below.refl _ _) n9)); generalize s.extract c s.size = X at hX ⊢)
          generalize w8.drewN n9 = w9 at M9 ⊢
          clear hX
          have hc1 := M9.out.rd.2.cell1
          go_upto_region 13 with (go_at_call 28; refine (vwrong_any s _ (w.heap.size + 1) c c _ M9.out.rd).mono ?_; rintro e w7' ⟨rfl, hh, gg⟩; have M7' := Lib.hid (M9.out.call hh gg); clear hh gg)
          clear hc1
          have hI := M7'.out.rd
          obtain ⟨a2, x2, ha2, hBl, hBad⟩ := hI
          obtain ⟨bb, ff, y, rfl, e1, e2⟩ := hBad
          have hc1 := hBl.cell1
          have hc2 := hBl.cell2
          have E1 := Lib.hid e1; have E2 := Lib.hid e2; clear hBl e1 e2
          go_upto_region 14 with (first | (go_at_call 26; refine (vrest_bad s (w.heap.size + 1) c _ M7'.out.rd).mono ?_; rintro e w' ⟨rfl, rfl⟩))
          have hA8 := (Below.refl w7'.heap.size w7').alloc (Nat.le_refl _) (.cells #[.pointer none] 71)
          have M8 := Lib.hid (M7'.out.below hA8)
          have E18 := Lib.hid ((hA8.block bb (Array.getElem?_eq_some_iff.1 E1.out).1).trans E1.out)
          have E28 := Lib.hid ((hA8.block ff (Array.getElem?_eq_some_iff.1 E2.out).1).trans E2.out)
          have T8 : Hid ((w7'.alloc (.cells #[.pointer none] 71)).heap[w7'.heap.size]? = some (.cells #[.pointer none] 71 (0, 0))) := Lib.hid (heap_alloc_new _ _)
          have c82 : (w7'.alloc (.cells #[.pointer none] 71)).cell? ⟨w.heap.size + 1, 2, none⟩ = some (.iface 82 (.pointer (some ⟨bb, 0, none⟩))) := (bcell hA8).1 _ _ M7'.out.rd.lt |>.trans hc2
          have hb8 : bb < w7'.heap.size := (Array.getElem?_eq_some_iff.1 E1.out).1
          have hf8 : ff < w7'.heap.size := (Array.getElem?_eq_some_iff.1 E2.out).1
          have hr8 : w.heap.size < w7'.heap.size := M7'.out.res.lt
          have nfr : ¬ ff = w.heap.size := by intro e; have h := M7'.out.res; unfold BlkV at h; rw [← e, E2.out] at h; simp at h
          clear hc1 hc2 hA8 E1 E2
          generalize w7'.alloc (.cells #[.pointer none] 71) = w8 at M8 E18 E28 T8 c82 ⊢
          generalize w7'.heap.size = tb at T8 hb8 hf8 hr8 ⊢
          go_upto_region 15 with (go_at_call 29; refine (as_bad bb ff c y tb _ (HG.out.below HG.out.size M8.out.old) E18.out T8.out).mono ?_; rintro e w9 ⟨rfl, w1', hb9, rfl⟩; have M9 := Lib.hid (M8.out.below hb9); have F9 := Lib.hid ((hb9.block ff (Array.getElem?_eq_some_iff.1 E28.out).1).trans E28.out); have T9 := Lib.hid ((hb9.block tb (Array.getElem?_eq_some_iff.1 T8.out).1).trans T8.out); clear hb9 c82)
          have nft : ff ≠ tb := by omega
          have nrt : w.heap.size ≠ tb := by omega
          have T10 : Hid ((w1'.setCell ⟨tb, 0, none⟩ (.pointer (some ⟨ff, 0, none⟩))).heap[tb]? = some (.cells #[.pointer (some ⟨ff, 0, none⟩)] 71 (0, 0))) := Lib.hid ((show BlkV w1' tb 71 #[.pointer none] from T9.out).set 0 (.pointer (some ⟨ff, 0, none⟩)))
          have F10 : Hid ((w1'.setCell ⟨tb, 0, none⟩ (.pointer (some ⟨ff, 0, none⟩))).heap[ff]? = some (.cells #[.int .i64 160, .int .i64 (c : Int)] 75 (0, 0))) := Lib.hid ((heap_other nft).trans F9.out)
          have R10 := Lib.hid (M9.out.res.same (heap_other (v := .pointer (some ⟨ff, 0, none⟩)) (o := 0) nrt))
          have W10 : Hid (Below w.heap.size w (w1'.setCell ⟨tb, 0, none⟩ (.pointer (some ⟨ff, 0, none⟩)))) := Lib.hid (M9.out.old.setCell (by show w.heap.size ≤ tb; omega) _)
          clear T9 F9 M9 M8 T8 E18 E28
          generalize w1'.setCell ⟨tb, 0, none⟩ (.pointer (some ⟨ff, 0, none⟩)) = w10 at T10 F10 R10 W10 ⊢
          have T11 : BlkV w10 tb 71 #[.pointer (some ⟨ff, 0, none⟩)] := T10.out
          have F11 : BlkV w10 ff 75 #[.int .i64 160, .int .i64 (c : Int)] := F10.out
          have k0 : w10.cell? ⟨tb, 0, none⟩ = some (.pointer (some ⟨ff, 0, none⟩)) := (T11.cell 0).trans rfl
          have k1 : w10.cell? ⟨ff, 0, none⟩ = some (.int .i64 160) := (F11.cell 0).trans rfl
          have k2 : w10.cell? ⟨ff, 1, none⟩ = some (.int .i64 (c : Int)) := (F11.cell 1).trans rfl
          have k3 : w10.cell? ⟨w.heap.size, 0, none⟩ = some (.int .i64 0) := (R10.out.cell 0).trans rfl
          have k4 : w10.cell? ⟨w.heap.size, 1, none⟩ = some (.int .i64 0) := (R10.out.cell 1).trans rfl
          have k5 := R10.out.free 0
          have k6 := R10.out.free 1
          have nfr2 : ¬ w.heap.size = ff := fun e => nfr e.symm
          have ntr : ¬ tb = w.heap.size := by omega
          have ntr2 : ¬ w.heap.size = tb := by omega
          clear T11 F11
          have RF := Lib.hid ((R10.out.set 0 (.int .i64 0)).set 1 (.int .i64 0))
          have WF : Hid (Below w.heap.size w ((w10.setCell ⟨w.heap.size, 0, none⟩ (.int .i64 0)).setCell ⟨w.heap.size, 1, none⟩ (.int .i64 0)).drew) := Lib.hid (((W10.out.setCell (by exact Nat.le_refl _) _).setCell (by exact Nat.le_refl _) _).drew)
          go_region_law fail
          all_goals (
            go_wp2_with fail
            exact bodyPost_ret (res_read (r := w.heap.size) (a := 0) (b := 0) (v := .slice none 0 0) (x := (c : Int)) (y := 160) (by exact RF.out) _ rfl rfl rfl rfl) rfl ⟨_, by rw [HRB.out], by rw [HRB.out]; exact isL_nil _, WF.out⟩)
        · have hdone : Ev.done s.data.toList (.ok c) = .ok c := by unfold Ev.done; simp only; rw [if_neg (show ¬ c < s.data.toList.length from hend)]
          have hrb : readP s.data.toList = if sizedB q1.1 q2.1 = true then (if checkE acc = 0 then (acc, (q1.1, q2.1), 0, 0) else ([], (0, 0), 0, checkE acc)) else ([], (0, 0), 0, 9) := by rw [HRC.out, hdone]
          have HRB := Lib.hid hrb; clear hrb hdone HRC
          have hX := ext_nil (s := s) (c := c) (by omega)
          go_upto_region 13 with (go_at_call 26; refine (vrest_ok s (w.heap.size + 1) c _ M8.out.rd).mono ?_; rintro e w9 ⟨rfl, n9, rfl⟩; have M9 : Hid (MidQ w (w8.drewN n9) s zb (.ok c) q1.1 q2.1) := Lib.hid (M8.out.below (below_drewN' (Below.refl _ _) n9)); have O9 : Hid (OwnS (w8.drewN n9) w6.heap.size u8 acc) := Lib.hid (O8.out.below (below_drewN' (Below.refl _ _) n9)); rw [hX])
          generalize w8.drewN n9 = w9 at M9 O9 ⊢
          clear hX
          go_upto_region 14 with fail
          have hA10 := (Below.refl w9.heap.size w9).alloc (Nat.le_refl _) (.cells #[.pointer none] 71)
          have M10 := Lib.hid (M9.out.below hA10)
          have O10 := Lib.hid (O9.out.below hA10)
          clear hA10
          generalize w9.alloc (.cells #[.pointer none] 71) = w10 at M10 O10 ⊢
          have hc2 := M10.out.rd.2.cell2
          have d0 : w10.cell? ⟨zb, 0, none⟩ = some (.int .i64 q1.1) := (M10.out.siz.cell 0).trans rfl
          have d1 : w10.cell? ⟨zb, 1, none⟩ = some (.int .i64 q2.1) := (M10.out.siz.cell 1).trans rfl
          obtain ⟨sz, hsz⟩ : ∃ sz, sz = sizedB q1.1 q2.1 := ⟨_, rfl⟩
          rw [← hsz] at HRB
          have HSZ : Hid (∀ w, Calls Tryz.prog 13 #[.agg #[.int .i64 q1.1, .int .i64 q2.1]] w fun e w' => e = .returned (.bool sz) ∧ Below w.heap.size w w') := Lib.hid fun w => by rw [hsz]; exact sized_any _ _ w
          clear hsz
          have hCk : Hid (∀ w', OwnS w' w6.heap.size u8 acc → Calls Tryz.prog 12 #[u8] w' fun e w'' => e = .returned (.int .i64 (checkE acc)) ∧ Below w'.heap.size w' w'') := Lib.hid fun w' h => check_any u8 acc w' h.isL
          cases sz with
          | false =>
            rw [if_neg (by decide)] at HRB
            go_upto_region 17 with (first | (go_at_call 29; refine (as_nil _ _).mono ?_; rintro e w' ⟨rfl, rfl⟩) | (go_at_call 13; refine (HSZ.out _).mono ?_; rintro e w11 ⟨rfl, hb⟩; have M11 := Lib.hid (M10.out.below hb); clear hb hc2 d0 d1))
            have k3 : w11.cell? ⟨w.heap.size, 0, none⟩ = some (.int .i64 0) := (M11.out.res.cell 0).trans rfl
            have k4 : w11.cell? ⟨w.heap.size, 1, none⟩ = some (.int .i64 0) := (M11.out.res.cell 1).trans rfl
            have k5 := M11.out.res.free 0
            have k6 := M11.out.res.free 1
            have RF := Lib.hid ((M11.out.res.set 0 (.int .i64 0)).set 1 (.int .i64 0))
            have WF : Hid (Below w.heap.size w ((w11.setCell ⟨w.heap.size, 0, none⟩ (.int .i64 0)).setCell ⟨w.heap.size, 1, none⟩ (.int .i64 0))) := Lib.hid ((M11.out.old.setCell (by exact Nat.le_refl _) _).setCell (by exact Nat.le_refl _) _)
            go_wp2_with fail
            exact bodyPost_ret (res_read (r := w.heap.size) (a := 0) (b := 0) (v := .slice none 0 0) (x := 0) (y := 9) (by exact RF.out) _ rfl rfl rfl rfl) rfl ⟨_, by rw [HRB.out], by rw [HRB.out]; exact isL_nil _, WF.out⟩
          | true =>
            rw [if_pos rfl] at HRB
            by_cases hck : checkE acc = 0
            · rw [if_pos hck] at HRB
              have hCk2 : Hid (∀ w', OwnS w' w6.heap.size u8 acc → Calls Tryz.prog 12 #[u8] w' fun e w'' => e = .returned (.int .i64 0) ∧ Below w'.heap.size w' w'') := Lib.hid fun w' h => by have := hCk.out w' h; rw [hck] at this; exact this
              clear hck hCk
              go_upto_region 21 with (first | (go_at_call 29; refine (as_nil _ _).mono ?_; rintro e w' ⟨rfl, rfl⟩) | (go_at_call 13; refine (HSZ.out _).mono ?_; rintro e w12 ⟨rfl, hb⟩; have M12 := Lib.hid (M10.out.below hb); have O12 := Lib.hid (O10.out.below hb); clear hb hc2 d0 d1) | (go_at_call 12; refine (hCk2.out _ O12.out).mono ?_; rintro e w11 ⟨rfl, hb⟩; have M11 := Lib.hid (M12.out.below hb); have O11 := Lib.hid (O12.out.below hb); clear hb))
              have k3 : w11.cell? ⟨w.heap.size, 0, none⟩ = some (.int .i64 0) := (M11.out.res.cell 0).trans rfl
              have k4 : w11.cell? ⟨w.heap.size, 1, none⟩ = some (.int .i64 0) := (M11.out.res.cell 1).trans rfl
              have k5 := M11.out.res.free 0
              have k6 := M11.out.res.free 1
              have d0 : w11.cell? ⟨zb, 0, none⟩ = some (.int .i64 q1.1) := (M11.out.siz.cell 0).trans rfl
              have d1 : w11.cell? ⟨zb, 1, none⟩ = some (.int .i64 q2.1) := (M11.out.siz.cell 1).trans rfl
              have nz1 : ¬ zb = w.heap.size := by omega
              have nz2 : ¬ w.heap.size = zb := by omega
              have RF := Lib.hid ((M11.out.res.set 0 (.int .i64 q1.1)).set 1 (.int .i64 q2.1))
              have WF : Hid (Below w.heap.size w ((w11.setCell ⟨w.heap.size, 0, none⟩ (.int .i64 q1.1)).setCell ⟨w.heap.size, 1, none⟩ (.int .i64 q2.1)).drew) := Lib.hid (((M11.out.old.setCell (by exact Nat.le_refl _) _).setCell (by exact Nat.le_refl _) _).drew)
              have OF := Lib.hid ((O11.out.grown (show w.heap.size < w6.heap.size by omega) (grown_set w11 w.heap.size 0 (.int .i64 q1.1))).grown (show w.heap.size < w6.heap.size by omega) (grown_set _ w.heap.size 1 (.int .i64 q2.1)))
              go_region_law fail
              all_goals (
                go_wp2_with fail
                exact bodyPost_ret (res_read (r := w.heap.size) (a := q1.1) (b := q2.1) (v := u8) (x := 0) (y := 0) (by exact RF.out) _ rfl rfl rfl rfl) rfl ⟨_, by rw [HRB.out], by rw [HRB.out]; exact OF.out.isL, WF.out⟩)
            · rw [if_neg hck] at HRB
              have g0 : (checkE acc == 0) = false := by simpa using hck
              clear hck
              go_upto_region 20 with (first | (go_at_call 29; refine (as_nil _ _).mono ?_; rintro e w' ⟨rfl, rfl⟩) | (go_at_call 13; refine (HSZ.out _).mono ?_; rintro e w12 ⟨rfl, hb⟩; have M12 := Lib.hid (M10.out.below hb); have O12 := Lib.hid (O10.out.below hb); clear hb hc2 d0 d1) | (go_at_call 12; refine (hCk.out _ O12.out).mono ?_; rintro e w11 ⟨rfl, hb⟩; have M11 := Lib.hid (M12.out.below hb); clear hb))
              have k3 : w11.cell? ⟨w.heap.size, 0, none⟩ = some (.int .i64 0) := (M11.out.res.cell 0).trans rfl
              have k4 : w11.cell? ⟨w.heap.size, 1, none⟩ = some (.int .i64 0) := (M11.out.res.cell 1).trans rfl
              have k5 := M11.out.res.free 0
              have k6 := M11.out.res.free 1
              have RF := Lib.hid ((M11.out.res.set 0 (.int .i64 0)).set 1 (.int .i64 0))
              have WF : Hid (Below w.heap.size w ((w11.setCell ⟨w.heap.size, 0, none⟩ (.int .i64 0)).setCell ⟨w.heap.size, 1, none⟩ (.int .i64 0))) := Lib.hid ((M11.out.old.setCell (by exact Nat.le_refl _) _).setCell (by exact Nat.le_refl _) _)
              go_wp2_with fail
              exact bodyPost_ret (res_read (r := w.heap.size) (a := 0) (b := 0) (v := .slice none 0 0) (x := 0) (y := checkE acc) (by exact RF.out) _ rfl rfl rfl rfl) rfl ⟨_, by rw [HRB.out], by rw [HRB.out]; exact isL_nil _, WF.out⟩
theorem read_any (s : ByteArray) (w : World) (hg : Glob w) :
    Calls Tryz.prog 11 #[.string s] w (ReadPost s w) := by
  by_cases h : 65536 < s.size
  · exact read_long s w h
  · exact read_short s w (by omega) hg
end Go.Proofs.YtemiamajgjfnbaaGreatDoor
