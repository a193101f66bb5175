/- vector's reader: colour. -/
import Derived.Test.YtemiamajgjfnbaaGreatDoorVcM
namespace Go.Proofs.YtemiamajgjfnbaaGreatDoor
open Go.RowKit Vc
set_option linter.unusedVariables false
set_option linter.unusedSimpArgs false
/-- A store into a block that is new. -/
theorem grown_new {w w' : World} {r : Option Nat} (h : w.grownBy w' r) (b o : Nat) (v : Value) (hb : w.heap.size ≤ b) : w.grownBy (w'.setCell ⟨b, o, none⟩ v) r :=
  ⟨h.os, h.tape, h.output, by simpa [World.setCell] using h.size, fun k hk hr => by
    rw [← h.block k hk hr]
    simp only [World.setCell, Array.getElem?_modify]
    rw [if_neg (by omega)]⟩
theorem grown_put4 {w w' : World} {r : Option Nat} (h : w.grownBy w' r) (b : Nat) (hb : w.heap.size ≤ b) (v0 v1 v2 v3 : Value) : w.grownBy (put4 w' b v0 v1 v2 v3) r :=
  grown_new (grown_new (grown_new (grown_new h b 0 v0 hb) b 1 v1 hb) b 2 v2 hb) b 3 v3 hb
theorem heap_other {w : World} {b c o : Nat} {v : Value} (h : c ≠ b) : (w.setCell ⟨b, o, none⟩ v).heap[c]? = w.heap[c]? := by
  simp only [World.setCell, Array.getElem?_modify]
  rw [if_neg (fun e => h e.symm)]
/-- The reader behind a store into a block of another type. -/
theorem IsV.other {w : World} {g b o : Nat} {s : ByteArray} {σ : RS} {T : TypeId} {vs : Array Value} {v : Value} (h : IsV w g s σ) (hb : BlkV w b T vs) (h1 : T ≠ 66) (h2 : T ≠ 84) (h3 : T ≠ 75) :
    IsV (w.setCell ⟨b, o, none⟩ v) g s σ := by
  have ne : ∀ (c : Nat) (us : Array Value) (U : TypeId), U ≠ T → w.heap[c]? = some (.cells us U (0, 0)) → c ≠ b := by
    intro c us U hU hc e
    subst e
    unfold BlkV at hb
    rw [hc] at hb
    simp at hb
    exact hU hb.2
  cases σ with
  | ok a => exact ⟨h.1, (heap_other (ne _ _ _ h1.symm h.2)).trans h.2⟩
  | bad p =>
    obtain ⟨a, x, ha, hB, bb, ff, y, rfl, e1, e2⟩ := h
    exact ⟨a, _, ha, (heap_other (ne _ _ _ h1.symm hB)).trans hB, bb, ff, y, rfl, (heap_other (ne _ _ _ h2.symm e1)).trans e1, (heap_other (ne _ _ _ h3.symm e2)).trans e2⟩
theorem IsV.put4 {w : World} {g b : Nat} {s : ByteArray} {σ : RS} {T : TypeId} {x0 x1 x2 x3 : Value} (h : IsV w g s σ) (hb : BlkV w b T #[x0, x1, x2, x3]) (h1 : T ≠ 66) (h2 : T ≠ 84) (h3 : T ≠ 75) (v0 v1 v2 v3 : Value) :
    IsV (put4 w b v0 v1 v2 v3) g s σ :=
  (((h.other hb h1 h2 h3).other (hb.set 0 v0) h1 h2 h3).other ((hb.set 0 v0).set 1 v1) h1 h2 h3).other (((hb.set 0 v0).set 1 v1).set 2 v2) h1 h2 h3
def colset : Bytes := [35, 48, 49, 50, 51, 52, 53, 54, 55, 56, 57, 97, 98, 99, 100, 101, 102, 65, 66, 67, 68, 69, 70]
/-- What might be a colour. -/
def wordC (l : Bytes) : Bytes := l.takeWhile (colset.contains ·)
/-- A colour read. -/
def colS (l : Bytes) : RS → C × RS
  | .ok a => match colP (wordC (l.drop a)) with
    | some c => if colB c = wordC (l.drop a) then (c, .ok (a + (wordC (l.drop a)).length)) else (C0, .bad a)
    | none => (C0, .bad a)
  | .bad q => (C0, .bad q)
theorem res_vcol {w : World} {r : Nat} {c : C} (h : BlkV w r 29 (colC c)) (tm : Array Value) (h2 : tm.getD 2 undef = .pointer (some ⟨r, 0, none⟩)) :
    (results Tryz.f40 tm).run Tryz.prog w = .ok (CV c) w := by
  have hl := load_col h
  have hr : Tryz.f40.results = #[.cell 2 29] := rfl
  simp only [results, hr]
  simp at h2
  simp [Sem.run_bind, Result.andThen, asAddr, h2, hl]
theorem wordC_len (l : Bytes) : (wordC l).length ≤ l.length := (List.takeWhile_sublist _).length_le
/-- vector.run at a text, and the text's beginning that it tells. -/
theorem runC_any (t : ByteArray) (w : World) (ht : t.size ≤ 140737488351232) :
    Calls Tryz.prog 51 #[.string t, .string ⟨#[35, 48, 49, 50, 51, 52, 53, 54, 55, 56, 57, 97, 98, 99, 100, 101, 102, 65, 66, 67, 68, 69, 70]⟩] w fun e w' => e = .returned (.int .i64 ((wordC t.data.toList).length : Nat)) ∧ Below w.heap.size w w' :=
  run_any t ⟨#[35, 48, 49, 50, 51, 52, 53, 54, 55, 56, 57, 97, 98, 99, 100, 101, 102, 65, 66, 67, 68, 69, 70]⟩ w ht (by decide) (ascii_of_all (by decide))
theorem wordC_take (l : Bytes) : l.take (wordC l).length = wordC l := by
  unfold wordC
  induction l with
  | nil => rfl
  | cons b t ih =>
    rw [List.takeWhile_cons]
    split
    · simp only [List.length_cons, List.take_succ_cons, ih]
    · rfl

set_option maxHeartbeats 800000 in
theorem vcolour_ok (s : ByteArray) (g a : Nat) (w : World) (hs : s.size ≤ 140737488351232) (hI : IsV w g s (.ok a)) :
    Calls Tryz.prog 40 #[.pointer (some ⟨g, 0, none⟩)] w fun e w' => e = .returned (CV (colS s.data.toList (.ok a)).1) ∧ IsV w' g s (colS s.data.toList (.ok a)).2 ∧ w.grownBy w' (some g) := by
  have hlt := hI.lt
  have ha := hI.1
  have HI := Lib.hid hI; clear hI
  go_enter Tryz.func40, Tryz.ntmps40
  go_wp2_with fail
  have hA := (Below.refl w.heap.size w).alloc (Nat.le_refl _) (.cells #[.int .u8 0, .int .u8 0, .int .u8 0, .int .u8 0] 29)
  have HI1 := Lib.hid (HI.out.below hA)
  have HR1 := Lib.hid (blkV_new w 29 #[.int .u8 0, .int .u8 0, .int .u8 0, .int .u8 0])
  have G1 := Lib.hid (grown_below hA (some g))
  clear hA
  refine (vrest_ok s g a _ HI1.out).mono ?_
  rintro e w1 ⟨rfl, n, rfl⟩
  have HI2 := Lib.hid (HI1.out.drewN n)
  have HR2 := Lib.hid (HR1.out.same (w' := (w.alloc (.cells #[.int .u8 0, .int .u8 0, .int .u8 0, .int .u8 0] 29)).drewN n) rfl)
  have G2 := Lib.hid (grown_trans G1.out (grown_drewN _ n (some g)))
  generalize (w.alloc (.cells #[.int .u8 0, .int .u8 0, .int .u8 0, .int .u8 0] 29)).drewN n = w2 at HI2 HR2 G2 ⊢
  obtain ⟨t, ht⟩ : ∃ t, t = s.extract a s.size := ⟨_, rfl⟩
  have htl : t.data.toList = s.data.toList.drop a := by rw [ht, Lib.extract_to_end]
  have hts : t.size ≤ s.size := by rw [ht, ByteArray.size_extract]; omega
  rw [← ht]
  have HTL := Lib.hid htl; clear htl ht
  have hk : (wordC t.data.toList).length ≤ t.size := wordC_len _
  have HK := Lib.hid hk
  have k0 : (0 : Int) ≤ ((wordC t.data.toList).length : Int) := by omega
  have k1 : ((wordC t.data.toList).length : Int) ≤ (t.size : Int) := by omega
  clear hk
  go_wp2_with (go_at_call 51; refine (runC_any t _ (by omega)).mono ?_; rintro e w3 ⟨rfl, hb3⟩; have HB3 := Lib.hid hb3; clear hb3)
  have HI3 := Lib.hid (HI2.out.below HB3.out)
  have HR3 := Lib.hid (HR2.out.below HB3.out HR2.out.lt)
  have G3 := Lib.hid (grown_trans G2.out (grown_below HB3.out (some g)))
  have hY : (t.extract 0 (wordC t.data.toList).length).data.toList = wordC (s.data.toList.drop a) := by
    rw [Lib.extract_from_zero, wordC_take, HTL.out]
  have hkl : (wordC t.data.toList).length = (wordC (s.data.toList.drop a)).length := by rw [HTL.out]
  generalize t.extract 0 (wordC t.data.toList).length = Y at hY ⊢
  generalize wordC t.data.toList = W0 at hkl k0 k1 HK ⊢
  have hYs : Y.size = W0.length := by rw [hkl, ← hY]; rfl
  have hYa : a + Y.size ≤ s.size := by
    have h1 := wordC_len (s.data.toList.drop a)
    have h2 : s.data.toList.length = s.size := rfl
    rw [List.length_drop] at h1; omega
  clear HK k0 k1 HB3 hYs
  have hS : colS s.data.toList (.ok a) = match colP Y.data.toList with
    | some c => if colB c = Y.data.toList then (c, .ok (a + Y.size)) else (C0, .bad a)
    | none => (C0, .bad a) := by
    unfold colS; simp only; rw [← hY]; rfl
  have HS := Lib.hid hS; clear hS hY hkl
  refine (colparse_any Y _ (by omega)).mono ?_
  rintro e w4 ⟨⟨n4, rfl⟩, hb4⟩
  have HI4 := Lib.hid (HI3.out.below hb4)
  have HR4 := Lib.hid (HR3.out.below hb4 HR3.out.lt)
  have G4 := Lib.hid (grown_trans G3.out (grown_below hb4 (some g)))
  clear hb4
  cases hp : colP Y.data.toList with
  | none =>
    have hres : colS s.data.toList (.ok a) = (C0, .bad a) := by rw [HS.out, hp]
    have HRES := Lib.hid hres; clear hres hp
    rw [show colE none = 40 from rfl, show CV (none.getD C0) = .agg #[.int .u8 0, .int .u8 0, .int .u8 0, .int .u8 0] from rfl]
    have hA := (Below.refl w4.heap.size w4).alloc (Nat.le_refl _) (.cells #[.int .u8 0, .int .u8 0, .int .u8 0, .int .u8 0] 29)
    have HI5 := Lib.hid (HI4.out.below hA)
    have HR5 := Lib.hid (HR4.out.below hA HR4.out.lt)
    have G5 := Lib.hid (grown_trans G4.out (grown_below hA (some g)))
    clear hA
    have hc1 := HI5.out.2.cell1
    go_wp2_with fail
    refine (vwrong_any s _ g a a _ HI5.out).mono ?_
    rintro e w6 ⟨rfl, h6, g6⟩
    have HR6 := Lib.hid (HR5.out.same (g6.block w.heap.size HR5.out.lt (by intro e; exact absurd (Option.some.inj e) (by omega))))
    have HI6 := Lib.hid h6
    have G6 := Lib.hid (grown_trans G5.out g6)
    clear h6 g6 hc1
    have c0 : w6.cell? ⟨w.heap.size, 0, none⟩ = some (.int .u8 0) := (HR6.out.cell 0).trans rfl
    have c1 : w6.cell? ⟨w.heap.size, 1, none⟩ = some (.int .u8 0) := (HR6.out.cell 1).trans rfl
    have c2 : w6.cell? ⟨w.heap.size, 2, none⟩ = some (.int .u8 0) := (HR6.out.cell 2).trans rfl
    have c3 : w6.cell? ⟨w.heap.size, 3, none⟩ = some (.int .u8 0) := (HR6.out.cell 3).trans rfl
    have f0 := HR6.out.free 0
    have f1 := HR6.out.free 1
    have f2 := HR6.out.free 2
    have f3 := HR6.out.free 3
    go_wp2_with fail
    refine bodyPost_ret (res_vcol (c := C0) (HR6.out.put4 _ _ _ _) _ rfl) rfl ⟨?_, ?_, grown_put4 G6.out _ (Nat.le_refl _) _ _ _ _⟩
    · rw [HRES.out]
    · rw [HRES.out]; exact HI6.out.put4 HR6.out (by decide) (by decide) (by decide) _ _ _ _
  | some c =>
    rw [show colE (some c) = 0 from rfl, show (some c).getD C0 = c from rfl]
    have hA := (Below.refl w4.heap.size w4).alloc (Nat.le_refl _) (.cells (colC c) 29)
    have HI5 := Lib.hid (HI4.out.below hA)
    have HR5 := Lib.hid (HR4.out.below hA HR4.out.lt)
    have G5 := Lib.hid (grown_trans G4.out (grown_below hA (some g)))
    have HB5 := Lib.hid (blkV_new w4 29 (colC c))
    clear hA
    unfold colC at HI5 HR5 G5 HB5
    have hl4 : w4.heap.size + 0 = w4.heap.size := rfl
    have hg4 : g < w4.heap.size := HI4.out.lt
    have hr4 : w.heap.size < w4.heap.size := HR4.out.lt
    have n1 : ¬ w4.heap.size = g := by omega
    have n2 : ¬ w.heap.size = g := by omega
    have n3 : ¬ w.heap.size = w4.heap.size := by omega
    unfold CV
    go_wp2_with fail
    refine (coltext_any c _).mono ?_
    rintro e w6 ⟨rfl, hb6⟩
    have HI6 := Lib.hid (HI5.out.below hb6)
    have HR6 := Lib.hid (HR5.out.below hb6 HR5.out.lt)
    have HB6 := Lib.hid (HB5.out.below hb6 HB5.out.lt)
    have G6 := Lib.hid (grown_trans G5.out (grown_below hb6 (some g)))
    clear hb6
    have hc1 := HI6.out.2.cell1
    have hf1 := HI6.out.2.free 1
    have d0 : w6.cell? ⟨w4.heap.size, 0, none⟩ = some (.int .u8 (c.r.toNat : Int)) := (HB6.out.cell 0).trans rfl
    have d1 : w6.cell? ⟨w4.heap.size, 1, none⟩ = some (.int .u8 (c.g.toNat : Int)) := (HB6.out.cell 1).trans rfl
    have d2 : w6.cell? ⟨w4.heap.size, 2, none⟩ = some (.int .u8 (c.b.toNat : Int)) := (HB6.out.cell 2).trans rfl
    have d3 : w6.cell? ⟨w4.heap.size, 3, none⟩ = some (.int .u8 (c.a.toNat : Int)) := (HB6.out.cell 3).trans rfl
    by_cases heq : colB c = Y.data.toList
    · have hX : bt (colB c) = Y := by rw [heq]; exact bstr Y
      have hres : colS s.data.toList (.ok a) = (c, .ok (a + Y.size)) := by rw [HS.out, hp]; simp only; rw [if_pos heq]
      have HRES := Lib.hid hres; clear hres hp heq
      rw [hX]
      have c0 : w6.cell? ⟨w.heap.size, 0, none⟩ = some (.int .u8 0) := (HR6.out.cell 0).trans rfl
      have c1 : w6.cell? ⟨w.heap.size, 1, none⟩ = some (.int .u8 0) := (HR6.out.cell 1).trans rfl
      have c2 : w6.cell? ⟨w.heap.size, 2, none⟩ = some (.int .u8 0) := (HR6.out.cell 2).trans rfl
      have c3 : w6.cell? ⟨w.heap.size, 3, none⟩ = some (.int .u8 0) := (HR6.out.cell 3).trans rfl
      have f0 := HR6.out.free 0
      have f1 := HR6.out.free 1
      have f2 := HR6.out.free 2
      have f3 := HR6.out.free 3
      go_wp2_with fail
      refine bodyPost_ret (res_vcol (c := c) ((HR6.out.same (heap_other n2)).put4 _ _ _ _) _ rfl) rfl ⟨?_, ?_, grown_put4 (grown_trans G6.out (grown_set _ _ _ _)) _ (Nat.le_refl _) _ _ _ _⟩
      · rw [HRES.out]
      · rw [HRES.out]; exact IsV.put4 (σ := .ok (a + Y.size)) ⟨hYa, HI6.out.2.set1 _⟩ (HR6.out.same (heap_other n2)) (by decide) (by decide) (by decide) _ _ _ _
    · have hX : ((bt (colB c)).toList == Y.toList) = false := by
        rw [beq_eq_false_iff_ne]; intro e
        rw [Lib.toList_data, Lib.toList_data] at e
        exact heq (by rw [← e]; simp [bt])
      have hres : colS s.data.toList (.ok a) = (C0, .bad a) := by rw [HS.out, hp]; simp only; rw [if_neg heq]
      have HRES := Lib.hid hres; clear hres hp heq
      generalize bt (colB c) = X at hX ⊢
      go_wp2_with fail
      refine (vwrong_any s _ g a a _ HI6.out).mono ?_
      rintro e w7 ⟨rfl, h7, g7⟩
      have HR7 := Lib.hid (HR6.out.same (g7.block w.heap.size HR6.out.lt (by intro e; exact absurd (Option.some.inj e) (by omega))))
      have HI7 := Lib.hid h7
      have G7 := Lib.hid (grown_trans G6.out g7)
      clear h7 g7 hc1 hf1 d0 d1 d2 d3
      have c0 : w7.cell? ⟨w.heap.size, 0, none⟩ = some (.int .u8 0) := (HR7.out.cell 0).trans rfl
      have c1 : w7.cell? ⟨w.heap.size, 1, none⟩ = some (.int .u8 0) := (HR7.out.cell 1).trans rfl
      have c2 : w7.cell? ⟨w.heap.size, 2, none⟩ = some (.int .u8 0) := (HR7.out.cell 2).trans rfl
      have c3 : w7.cell? ⟨w.heap.size, 3, none⟩ = some (.int .u8 0) := (HR7.out.cell 3).trans rfl
      have f0 := HR7.out.free 0
      have f1 := HR7.out.free 1
      have f2 := HR7.out.free 2
      have f3 := HR7.out.free 3
      go_wp2_with fail
      refine bodyPost_ret (res_vcol (c := C0) (HR7.out.put4 _ _ _ _) _ rfl) rfl ⟨?_, ?_, grown_put4 G7.out _ (Nat.le_refl _) _ _ _ _⟩
      · rw [HRES.out]
      · rw [HRES.out]; exact HI7.out.put4 HR7.out (by decide) (by decide) (by decide) _ _ _ _

set_option maxHeartbeats 800000 in
theorem vcolour_bad (s : ByteArray) (g p : Nat) (w : World) (hI : IsV w g s (.bad p)) :
    Calls Tryz.prog 40 #[.pointer (some ⟨g, 0, none⟩)] w fun e w' => e = .returned (CV C0) ∧ IsV w' g s (.bad p) ∧ w.grownBy w' (some g) := by
  have hlt := hI.lt
  have HI := Lib.hid hI; clear hI
  go_enter Tryz.func40, Tryz.ntmps40
  go_wp2_with fail
  have hA := (Below.refl w.heap.size w).alloc (Nat.le_refl _) (.cells #[.int .u8 0, .int .u8 0, .int .u8 0, .int .u8 0] 29)
  have HI1 := Lib.hid (HI.out.below hA)
  have HR1 := Lib.hid (blkV_new w 29 #[.int .u8 0, .int .u8 0, .int .u8 0, .int .u8 0])
  have G1 := Lib.hid (grown_below hA (some g))
  clear hA
  refine (vrest_bad s g p _ HI1.out).mono ?_
  rintro e w2 ⟨rfl, rfl⟩
  generalize w.alloc (.cells #[.int .u8 0, .int .u8 0, .int .u8 0, .int .u8 0] 29) = w2 at HI1 HR1 G1 ⊢
  go_wp2_with fail
  refine (runC_any ⟨#[]⟩ _ (by decide)).mono ?_
  rintro e w3 ⟨rfl, hb3⟩
  have HI3 := Lib.hid (HI1.out.below hb3)
  have HR3 := Lib.hid (HR1.out.below hb3 HR1.out.lt)
  have G3 := Lib.hid (grown_trans G1.out (grown_below hb3 (some g)))
  clear hb3
  rw [show wordC (⟨#[]⟩ : ByteArray).data.toList = [] from rfl, show (([] : Bytes).length : Int) = 0 from rfl]
  go_wp2_with fail
  refine (colparse_any ByteArray.empty _ (by decide)).mono ?_
  rintro e w4 ⟨⟨n4, rfl⟩, hb4⟩
  have HI4 := Lib.hid (HI3.out.below hb4)
  have HR4 := Lib.hid (HR3.out.below hb4 HR3.out.lt)
  have G4 := Lib.hid (grown_trans G3.out (grown_below hb4 (some g)))
  clear hb4
  rw [show colP ByteArray.empty.data.toList = none from rfl]
  rw [show colE none = 40 from rfl, show CV (none.getD C0) = .agg #[.int .u8 0, .int .u8 0, .int .u8 0, .int .u8 0] from rfl]
  have hA := (Below.refl w4.heap.size w4).alloc (Nat.le_refl _) (.cells #[.int .u8 0, .int .u8 0, .int .u8 0, .int .u8 0] 29)
  have hI5 := HI4.out.below hA
  have HI5 := Lib.hid hI5
  have HR5 := Lib.hid (HR4.out.below hA HR4.out.lt)
  have G5 := Lib.hid (grown_trans G4.out (grown_below hA (some g)))
  clear hA
  obtain ⟨a, x, ha, hBl, _⟩ := hI5
  have hc1 := hBl.cell1
  clear hBl
  go_wp2_with fail
  refine (vwrong_bad s _ g p _ _ HI5.out).mono ?_
  rintro e w6 ⟨rfl, rfl⟩
  generalize w4.alloc (.cells #[.int .u8 0, .int .u8 0, .int .u8 0, .int .u8 0] 29) = w6 at HI5 HR5 G5 hc1 ⊢
  have c0 : w6.cell? ⟨w.heap.size, 0, none⟩ = some (.int .u8 0) := (HR5.out.cell 0).trans rfl
  have c1 : w6.cell? ⟨w.heap.size, 1, none⟩ = some (.int .u8 0) := (HR5.out.cell 1).trans rfl
  have c2 : w6.cell? ⟨w.heap.size, 2, none⟩ = some (.int .u8 0) := (HR5.out.cell 2).trans rfl
  have c3 : w6.cell? ⟨w.heap.size, 3, none⟩ = some (.int .u8 0) := (HR5.out.cell 3).trans rfl
  have f0 := HR5.out.free 0
  have f1 := HR5.out.free 1
  have f2 := HR5.out.free 2
  have f3 := HR5.out.free 3
  go_wp2_with fail
  exact bodyPost_ret (res_vcol (c := C0) (HR5.out.put4 _ _ _ _) _ rfl) rfl ⟨rfl, HI5.out.put4 HR5.out (by decide) (by decide) (by decide) _ _ _ _, grown_put4 G5.out _ (Nat.le_refl _) _ _ _ _⟩
theorem vcolour_any (s : ByteArray) (g : Nat) (σ : RS) (w : World) (hs : s.size ≤ 140737488351232) (hI : IsV w g s σ) :
    Calls Tryz.prog 40 #[.pointer (some ⟨g, 0, none⟩)] w fun e w' => e = .returned (CV (colS s.data.toList σ).1) ∧ IsV w' g s (colS s.data.toList σ).2 ∧ w.grownBy w' (some g) := by
  cases σ with
  | ok a => exact vcolour_ok s g a w hs hI
  | bad p => exact vcolour_bad s g p w hI
end Go.Proofs.YtemiamajgjfnbaaGreatDoor
