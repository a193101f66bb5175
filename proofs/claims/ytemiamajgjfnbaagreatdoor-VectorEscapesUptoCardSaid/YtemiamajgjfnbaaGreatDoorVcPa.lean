/- Plain law of vector texts: a list as shapes, and a text of shapes read; what is read is what is written. No program is walked here. -/
import Derived.Test.YtemiamajgjfnbaaGreatDoorVcT
namespace Go.Proofs.YtemiamajgjfnbaaGreatDoor
open Vc
set_option linter.unusedVariables false
set_option linter.unusedSimpArgs false
/-! ### What is written -/
def qx1 : Bytes := [32, 120, 61, 34]
def qn1 : Bytes := [32, 110, 61, 34]
def qc1 : Bytes := [32, 99, 61, 34]
def qb1 : Bytes := [32, 98, 61, 34]
def qq : Bytes := [34]
def rectB (r : R) : Bytes := qx1 ++ Lib.itoa r.x ++ qy ++ Lib.itoa r.y ++ qw ++ Lib.itoa r.w ++ qh ++ Lib.itoa r.h ++ qq
def nodeB (n : Int) : Bytes := qn1 ++ Lib.itoa n ++ qq
def inkB (c : C) : Bytes := qc1 ++ colB c ++ qq
/-- A stroke's text. -/
def lineB (x : S) : Bytes :=
  if x.kind = 1 then [60, 102, 105, 108, 108] ++ rectB x.r ++ inkB x.c ++ nodeB x.n ++ [47, 62, 10]
  else if x.kind = 2 then [60, 102, 114, 97, 109, 101] ++ rectB x.r ++ inkB x.c ++ nodeB x.n ++ [47, 62, 10]
  else if x.kind = 3 then [60, 119, 114, 105, 116, 101] ++ rectB x.r ++ inkB x.c ++ qb1 ++ colB x.d ++ qq ++ nodeB x.n ++ [62] ++ esc x.t ++ qWriteEnd
  else if x.kind = 4 then [60, 99, 108, 105, 112] ++ rectB x.r ++ nodeB x.n ++ [62, 10]
  else [60, 47, 99, 108, 105, 112] ++ nodeB x.n ++ [62, 10]
def qHead : Bytes := [60, 115, 104, 97, 112, 101, 115, 32, 119, 61, 34]
def qEnd : Bytes := [60, 47, 115, 104, 97, 112, 101, 115, 62, 10]
def headB (a b : Int) : Bytes := qHead ++ Lib.itoa a ++ qh ++ Lib.itoa b ++ qOpen
def linesB (l : List S) : Bytes := l.flatMap lineB
def allB (l : List S) (a b : Int) : Bytes := headB a b ++ linesB l ++ qEnd
/-! ### What is read -/
/-- Strokes read until the end. -/
def loopS (l : Bytes) : Nat → RS → List S → List S × RS
  | 0, σ, acc => (acc, σ)
  | _ + 1, .bad p, acc => (acc, .bad p)
  | n + 1, .ok a, acc => if Lib.hasPrefix (l.drop a) qEnd = true then (acc, .ok a) else loopS l n (strokeS l (.ok a)).2 (acc ++ [(strokeS l (.ok a)).1])
/-- The reader at its end: the strokes, the size, the state. -/
def scanS (l : Bytes) : List S × (Int × Int) × RS :=
  let w := fieldS l qHead (.ok 0)
  let h := fieldS l qh w.2
  let r := loopS l (l.length + 1) (fixS l qOpen h.2) []
  (r.1, (w.1, h.1), Ev.done l (fixS l qEnd r.2))
/-! ### What is read is what is written -/
/-- From a to b stands x. -/
def Tk (l : Bytes) (a : Nat) (x : Bytes) (b : Nat) : Prop := l.drop a = x ++ l.drop b ∧ b = a + x.length
theorem Tk.append {l : Bytes} {a b c : Nat} {x y : Bytes} (h : Tk l a x b) (k : Tk l b y c) : Tk l a (x ++ y) c :=
  ⟨by rw [h.1, k.1, List.append_assoc], by rw [k.2, h.2, List.length_append]; omega⟩
theorem Tk.of_take {l : Bytes} {a : Nat} {x : Bytes} (h : (l.drop a).take x.length = x) : Tk l a x (a + x.length) := by
  refine ⟨?_, rfl⟩
  have h2 := List.take_append_drop x.length (l.drop a)
  rw [h, List.drop_drop] at h2
  exact h2.symm
theorem hasPrefix_take {l p : Bytes} (h : Lib.hasPrefix l p = true) : l.take p.length = p := by
  unfold Lib.hasPrefix at h
  exact (List.prefix_iff_eq_take.1 (List.isPrefixOf_iff_prefix.1 h)).symm
theorem fix_tk {l p : Bytes} {σ : RS} {b : Nat} (h : fixS l p σ = .ok b) : ∃ a, σ = .ok a ∧ Tk l a p b := by
  cases σ with
  | bad q => simp [fixS] at h
  | ok a =>
    unfold fixS at h
    simp only at h
    split at h
    · rename_i hp
      cases h
      exact ⟨a, rfl, Tk.of_take (hasPrefix_take hp)⟩
    · cases h
theorem num_tk {l : Bytes} {σ : RS} {b : Nat} (h : (Ev.numR l σ).2 = .ok b) : ∃ a, σ = .ok a ∧ Tk l a (Lib.itoa (Ev.numR l σ).1) b := by
  cases σ with
  | bad q => simp [Ev.numR] at h
  | ok a =>
    refine ⟨a, rfl, ?_⟩
    unfold Ev.numR at h ⊢
    simp only at h ⊢
    cases hn : Ev.numAt (l.drop a) with
    | none => rw [hn] at h; cases h
    | some q =>
      obtain ⟨n, c⟩ := q
      rw [hn] at h
      simp only at h ⊢
      cases h
      unfold Ev.numAt at hn
      split at hn
      · rename_i hc
        cases hn
        have hlen := congrArg List.length hc.2
        have hc2 := hc.2
        have hle : Ev.sgn (l.drop a) + (Ev.digs (l.drop a)).length ≤ (l.drop a).length := by
          have h1 := tw_le Ev.digB ((l.drop a).drop (Ev.sgn (l.drop a)))
          unfold Ev.digs
          rw [List.length_drop] at h1
          have : Ev.sgn (l.drop a) ≤ (l.drop a).length := by
            rcases sgn_cases (l.drop a) with ⟨h0, _⟩ | ⟨h1, h2⟩
            · omega
            · rw [h1]; cases hd : l.drop a with
              | nil => rw [hd] at h2; simp at h2
              | cons b r => simp
          omega
        rw [List.length_take, Nat.min_eq_left hle] at hlen
        rw [← hlen] at hc2
        have := Tk.of_take hc2.symm
        rw [hlen] at this
        exact this
      · cases hn
theorem field_tk {l p : Bytes} {σ : RS} {b : Nat} (h : (fieldS l p σ).2 = .ok b) : ∃ a, σ = .ok a ∧ Tk l a (p ++ Lib.itoa (fieldS l p σ).1) b := by
  unfold fieldS at h ⊢
  obtain ⟨c, hc, h2⟩ := num_tk h
  obtain ⟨a, ha, h1⟩ := fix_tk hc
  exact ⟨a, ha, h1.append h2⟩
theorem col_tk {l : Bytes} {σ : RS} {b : Nat} (h : (colS l σ).2 = .ok b) : ∃ a, σ = .ok a ∧ Tk l a (colB (colS l σ).1) b := by
  cases σ with
  | bad q => simp [colS] at h
  | ok a =>
    refine ⟨a, rfl, ?_⟩
    unfold colS at h ⊢
    simp only at h ⊢
    cases hp : colP (wordC (l.drop a)) with
    | none => rw [hp] at h; cases h
    | some c =>
      rw [hp] at h
      simp only at h ⊢
      by_cases he : colB c = wordC (l.drop a)
      · rw [if_pos he] at h ⊢
        cases h
        simp only
        have h2 := wordC_take (l.drop a)
        rw [← he] at h2 ⊢
        exact Tk.of_take h2
      · rw [if_neg he] at h; cases h
theorem wordV_take (l : Bytes) : l.take (wordV l).length = wordV l := by
  unfold wordV
  exact (List.prefix_iff_eq_take.1 (List.takeWhile_prefix _)).symm
theorem text_tk {l : Bytes} {σ : RS} {b : Nat} (h : (textV l σ).2 = .ok b) : ∃ a, σ = .ok a ∧ Tk l a (esc (textV l σ).1) b := by
  cases σ with
  | bad q => simp [textV] at h
  | ok a =>
    refine ⟨a, rfl, ?_⟩
    unfold textV at h ⊢
    simp only at h ⊢
    cases hd : dec (wordV (l.drop a)) 0 [] with
    | inl i => rw [hd] at h; cases h
    | inr v =>
      rw [hd] at h
      simp only at h ⊢
      cases h
      obtain ⟨u, hu, he⟩ := esc_dec _ _ _ _ _ (Nat.le_refl _) hd
      rw [List.nil_append] at hu
      subst hu
      rw [he]
      exact Tk.of_take (wordV_take _)
theorem rect_tk {l : Bytes} {σ : RS} {b : Nat} (h : (rectS l σ).2 = .ok b) : ∃ a, σ = .ok a ∧ Tk l a (Lib.itoa (rectS l σ).1.x ++ qy ++ Lib.itoa (rectS l σ).1.y ++ qw ++ Lib.itoa (rectS l σ).1.w ++ qh ++ Lib.itoa (rectS l σ).1.h) b := by
  unfold rectS at h ⊢
  simp only at h ⊢
  obtain ⟨d, hd, h4⟩ := field_tk h
  obtain ⟨c, hc, h3⟩ := field_tk hd
  obtain ⟨e, he, h2⟩ := field_tk hc
  obtain ⟨a, ha, h1⟩ := num_tk he
  refine ⟨a, ha, ?_⟩
  have := ((h1.append h2).append h3).append h4
  simpa [List.append_assoc] using this
theorem begin_tk {l p : Bytes} {σ : RS} (h : (beginS l p σ).1 = true) : ∃ a b, σ = .ok a ∧ (beginS l p σ).2 = .ok b ∧ Tk l a p b := by
  cases σ with
  | bad q => simp [beginS] at h
  | ok a =>
    unfold beginS at h ⊢
    simp only at h ⊢
    by_cases hp : Lib.hasPrefix (l.drop a) p = true
    · rw [if_pos hp]
      exact ⟨a, _, rfl, rfl, Tk.of_take (hasPrefix_take hp)⟩
    · rw [if_neg hp] at h; cases h
theorem body_tk {l : Bytes} {σ : RS} {k : Int} {b : Nat} (hk : k = 1 ∨ k = 2 ∨ k = 3) (h : (bodyS l k σ).2 = .ok b) : ∃ a, σ = .ok a ∧ ∀ p : Bytes, ∀ a0, Tk l a0 p a →
    Tk l a0 (p ++ Lib.itoa (bodyS l k σ).1.r.x ++ qy ++ Lib.itoa (bodyS l k σ).1.r.y ++ qw ++ Lib.itoa (bodyS l k σ).1.r.w ++ qh ++ Lib.itoa (bodyS l k σ).1.r.h ++ qc ++ colB (bodyS l k σ).1.c ++
      (if k = 3 then qb ++ colB (bodyS l k σ).1.d ++ qn ++ Lib.itoa (bodyS l k σ).1.n ++ qText ++ esc (bodyS l k σ).1.t ++ qWriteEnd else qn ++ Lib.itoa (bodyS l k σ).1.n ++ qShut)) b := by
  by_cases h3 : k = 3
  · subst h3
    unfold bodyS at h ⊢
    simp only [if_true] at h ⊢
    obtain ⟨c1, e1, t1⟩ := fix_tk h
    obtain ⟨c2, e2, t2⟩ := text_tk e1
    obtain ⟨c3, e3, t3⟩ := fix_tk e2
    obtain ⟨c4, e4, t4⟩ := field_tk e3
    obtain ⟨c5, e5, t5⟩ := col_tk e4
    obtain ⟨c6, e6, t6⟩ := fix_tk e5
    obtain ⟨c7, e7, t7⟩ := col_tk e6
    obtain ⟨c8, e8, t8⟩ := fix_tk e7
    obtain ⟨a, ha, t9⟩ := rect_tk e8
    refine ⟨a, ha, fun p a0 hp => ?_⟩
    have := ((((((((hp.append t9).append t8).append t7).append t6).append t5).append t4).append t3).append t2).append t1
    simpa [List.append_assoc] using this
  · unfold bodyS at h ⊢
    simp only [if_neg h3] at h ⊢
    obtain ⟨c1, e1, t1⟩ := fix_tk h
    obtain ⟨c4, e4, t4⟩ := field_tk e1
    obtain ⟨c7, e7, t7⟩ := col_tk e4
    obtain ⟨c8, e8, t8⟩ := fix_tk e7
    obtain ⟨a, ha, t9⟩ := rect_tk e8
    refine ⟨a, ha, fun p a0 hp => ?_⟩
    have := ((((hp.append t9).append t8).append t7).append t4).append t1
    simpa [List.append_assoc] using this
theorem bodyS_kind (l : Bytes) (k : Int) (σ : RS) : (bodyS l k σ).1.kind = k := by
  unfold bodyS
  by_cases h : k = 3
  · simp [h]
  · simp [h]
theorem stroke_tk {l : Bytes} {σ : RS} {b : Nat} (h : (strokeS l σ).2 = .ok b) : ∃ a, σ = .ok a ∧ Tk l a (lineB (strokeS l σ).1) b := by
  unfold strokeS at h ⊢
  by_cases h1 : (beginS l qClipEnd σ).1 = true
  · rw [if_pos h1] at h ⊢
    simp only at h ⊢
    obtain ⟨a, a1, rfl, e0, t0⟩ := begin_tk h1
    obtain ⟨c1, e1, t1⟩ := fix_tk h
    obtain ⟨c2, e2, t2⟩ := num_tk e1
    rw [e0] at e2; cases e2
    refine ⟨a, rfl, ?_⟩
    have := (t0.append t2).append t1
    unfold lineB nodeB
    simpa [List.append_assoc, qClipEnd, qOpen, qn1, qq] using this
  · rw [if_neg h1] at h ⊢
    by_cases h2 : (beginS l qClip σ).1 = true
    · rw [if_pos h2] at h ⊢
      simp only at h ⊢
      obtain ⟨a, a1, rfl, e0, t0⟩ := begin_tk h2
      obtain ⟨c1, e1, t1⟩ := fix_tk h
      obtain ⟨c2, e2, t2⟩ := field_tk e1
      obtain ⟨c3, e3, t3⟩ := rect_tk e2
      rw [e0] at e3; cases e3
      refine ⟨a, rfl, ?_⟩
      have := ((t0.append t3).append t2).append t1
      unfold lineB rectB nodeB
      simpa [List.append_assoc, qClip, qx1, qOpen, qn1, qn, qq] using this
    · rw [if_neg h2] at h ⊢
      by_cases h3 : (beginS l qFill σ).1 = true
      · rw [if_pos h3] at h ⊢
        obtain ⟨a, a1, rfl, e0, t0⟩ := begin_tk h3
        obtain ⟨c, ec, tc⟩ := body_tk (.inl rfl) h
        rw [e0] at ec; cases ec
        refine ⟨a, rfl, ?_⟩
        have := tc _ _ t0
        unfold lineB
        rw [bodyS_kind]
        unfold rectB inkB nodeB
        simpa [List.append_assoc, qFill, qx1, qShut, qn1, qn, qq, qc, qc1] using this
      · rw [if_neg h3] at h ⊢
        by_cases h4 : (beginS l qFrame σ).1 = true
        · rw [if_pos h4] at h ⊢
          obtain ⟨a, a1, rfl, e0, t0⟩ := begin_tk h4
          obtain ⟨c, ec, tc⟩ := body_tk (.inr (.inl rfl)) h
          rw [e0] at ec; cases ec
          refine ⟨a, rfl, ?_⟩
          have := tc _ _ t0
          unfold lineB
          rw [bodyS_kind]
          unfold rectB inkB nodeB
          simpa [List.append_assoc, qFrame, qx1, qShut, qn1, qn, qq, qc, qc1] using this
        · rw [if_neg h4] at h ⊢
          obtain ⟨c, ec, tc⟩ := body_tk (.inr (.inr rfl)) h
          obtain ⟨a, ha, t0⟩ := fix_tk ec
          refine ⟨a, ha, ?_⟩
          have := tc _ _ t0
          unfold lineB
          rw [bodyS_kind]
          unfold rectB inkB nodeB
          simpa [List.append_assoc, qWrite, qx1, qText, qn1, qn, qq, qc, qc1, qb, qb1, qWriteEnd] using this
theorem loop_tk {l : Bytes} : ∀ (n : Nat) (σ : RS) (acc : List S) (b : Nat), (loopS l n σ acc).2 = .ok b → ∃ a, σ = .ok a ∧ ∃ u, (loopS l n σ acc).1 = acc ++ u ∧ Tk l a (linesB u) b
  | 0, σ, acc, b, h => by
    simp only [loopS] at h ⊢
    exact ⟨b, h, [], by simp, by simp [linesB, Tk]⟩
  | n + 1, .bad p, acc, b, h => by simp [loopS] at h
  | n + 1, .ok a, acc, b, h => by
    refine ⟨a, rfl, ?_⟩
    unfold loopS at h ⊢
    by_cases hp : Lib.hasPrefix (l.drop a) qEnd = true
    · rw [if_pos hp] at h ⊢
      simp only at h ⊢
      cases h
      exact ⟨[], by simp, by simp [linesB, Tk]⟩
    · rw [if_neg hp] at h ⊢
      obtain ⟨c, hc, u, hu, tu⟩ := loop_tk n _ _ b h
      obtain ⟨a', ha', ts⟩ := stroke_tk hc
      cases ha'
      refine ⟨(strokeS l (.ok a)).1 :: u, by rw [hu]; simp, ?_⟩
      exact ts.append tu
/-- What is read is what is written. -/
theorem scan_tk {l : Bytes} {b : Nat} (h : (scanS l).2.2 = .ok b) : allB (scanS l).1 (scanS l).2.1.1 (scanS l).2.1.2 = l := by
  unfold scanS at h ⊢
  simp only at h ⊢
  have hd : ∃ c, fixS l qEnd (loopS l (l.length + 1) (fixS l qOpen (fieldS l qh (fieldS l qHead (.ok 0)).2).2) []).2 = .ok c ∧ l.length ≤ c := by
    revert h
    cases fixS l qEnd (loopS l (l.length + 1) (fixS l qOpen (fieldS l qh (fieldS l qHead (.ok 0)).2).2) []).2 with
    | ok c =>
      intro h
      unfold Ev.done at h
      simp only at h
      split at h
      · cases h
      · exact ⟨c, rfl, by omega⟩
    | bad p => intro h; cases h
  obtain ⟨c, hc, hcl⟩ := hd
  obtain ⟨c1, e1, t1⟩ := fix_tk hc
  obtain ⟨c2, e2, u, hu, t2⟩ := loop_tk _ _ _ _ e1
  obtain ⟨c3, e3, t3⟩ := fix_tk e2
  obtain ⟨c4, e4, t4⟩ := field_tk e3
  obtain ⟨c5, e5, t5⟩ := field_tk e4
  cases e5
  have := (((t5.append t4).append t3).append t2).append t1
  have h2 := this.1
  rw [List.drop_zero, List.drop_eq_nil_of_le hcl, List.append_nil] at h2
  rw [hu, List.nil_append]
  unfold allB headB
  simp only [List.append_assoc] at h2 ⊢
  exact h2.symm
/-! ### Places stand within -/
def In (n : Nat) : RS → Prop
  | .ok a => a ≤ n
  | .bad p => p ≤ n
theorem fix_in {l p : Bytes} {σ : RS} (h : In l.length σ) : In l.length (fixS l p σ) := by
  cases σ with
  | bad q => exact h
  | ok a =>
    unfold fixS
    simp only
    split
    · rename_i hp
      have := hasPrefix_len _ _ hp
      rw [List.length_drop] at this
      have h' : a ≤ l.length := h
      show a + p.length ≤ l.length
      omega
    · exact h
theorem Tk.le {l : Bytes} {a b : Nat} {x : Bytes} (h : Tk l a x b) (ha : a ≤ l.length) : b ≤ l.length := by
  have h1 := congrArg List.length h.1
  have h2 := h.2
  rw [List.length_append, List.length_drop, List.length_drop] at h1
  omega
theorem num_in {l : Bytes} {σ : RS} (h : In l.length σ) : In l.length (Ev.numR l σ).2 := by
  cases hr : (Ev.numR l σ).2 with
  | ok b => obtain ⟨a, rfl, t⟩ := num_tk hr; exact t.le h
  | bad p =>
    cases σ with
    | bad q => cases hr; exact h
    | ok a =>
      unfold Ev.numR at hr
      simp only at hr
      split at hr
      · cases hr
      · cases hr; exact h
theorem field_in {l p : Bytes} {σ : RS} (h : In l.length σ) : In l.length (fieldS l p σ).2 := num_in (fix_in h)
theorem col_in {l : Bytes} {σ : RS} (h : In l.length σ) : In l.length (colS l σ).2 := by
  cases hr : (colS l σ).2 with
  | ok b => obtain ⟨a, rfl, t⟩ := col_tk hr; exact t.le h
  | bad p =>
    cases σ with
    | bad q => cases hr; exact h
    | ok a =>
      unfold colS at hr
      simp only at hr
      split at hr
      · split at hr
        · cases hr
        · cases hr; exact h
      · cases hr; exact h
theorem text_in {l : Bytes} {σ : RS} (h : In l.length σ) : In l.length (textV l σ).2 := by
  cases hr : (textV l σ).2 with
  | ok b => obtain ⟨a, rfl, t⟩ := text_tk hr; exact t.le h
  | bad p =>
    cases σ with
    | bad q => cases hr; exact h
    | ok a =>
      unfold textV at hr
      simp only at hr
      split at hr
      · rename_i i hd
        cases hr
        have h1 := (dec_place _ _ _ _ _ (Nat.le_refl _) hd).2
        have h2 : (wordV (l.drop a)).length ≤ (l.drop a).length := (List.takeWhile_sublist _).length_le
        rw [List.length_drop] at h2
        show a + i ≤ l.length
        omega
      · cases hr
theorem rect_in {l : Bytes} {σ : RS} (h : In l.length σ) : In l.length (rectS l σ).2 := field_in (field_in (field_in (num_in h)))
theorem begin_in {l p : Bytes} {σ : RS} (h : In l.length σ) : In l.length (beginS l p σ).2 := by
  cases hb : (beginS l p σ).1 with
  | true => obtain ⟨a, b, rfl, e, t⟩ := begin_tk hb; rw [e]; exact t.le h
  | false =>
    cases σ with
    | bad q => exact h
    | ok a =>
      unfold beginS at hb ⊢
      simp only at hb ⊢
      split at hb
      · cases hb
      · rename_i hh; rw [if_neg hh]; exact h
theorem body_in {l : Bytes} {σ : RS} (k : Int) (h : In l.length σ) : In l.length (bodyS l k σ).2 := by
  unfold bodyS
  by_cases h3 : k = 3
  · simp only [if_pos h3]
    exact fix_in (text_in (fix_in (field_in (col_in (fix_in (col_in (fix_in (rect_in h))))))))
  · simp only [if_neg h3]
    exact fix_in (field_in (col_in (fix_in (rect_in h))))
theorem stroke_in {l : Bytes} {σ : RS} (h : In l.length σ) : In l.length (strokeS l σ).2 := by
  unfold strokeS
  split
  · exact fix_in (num_in (begin_in h))
  · split
    · exact fix_in (field_in (rect_in (begin_in h)))
    · split
      · exact body_in _ (begin_in h)
      · split
        · exact body_in _ (begin_in h)
        · exact body_in _ (fix_in h)
theorem loop_in {l : Bytes} : ∀ (n : Nat) (σ : RS) (acc : List S), In l.length σ → In l.length (loopS l n σ acc).2
  | 0, _, _, h => h
  | _ + 1, .bad _, _, h => h
  | n + 1, .ok a, acc, h => by
    unfold loopS
    split
    · exact h
    · exact loop_in n _ _ (stroke_in h)
theorem scan_within {l : Bytes} : In l.length (scanS l).2.2 := by
  unfold scanS
  simp only
  have h0 : In l.length (.ok 0) := Nat.zero_le _
  have := fix_in (p := qEnd) (loop_in (l.length + 1) _ [] (fix_in (p := qOpen) (field_in (p := qh) (field_in (p := qHead) h0))))
  revert this
  cases fixS l qEnd (loopS l (l.length + 1) (fixS l qOpen (fieldS l qh (fieldS l qHead (.ok 0)).2).2) []).2 with
  | ok a =>
    intro h
    unfold Ev.done
    simp only
    split
    · exact h
    · exact h
  | bad p => exact fun h => h
/-! ### Enough rounds -/
def left (l : Bytes) : RS → Nat
  | .ok a => l.length + 1 - a
  | .bad _ => 0
theorem line_pos (x : S) : 0 < (lineB x).length := by
  unfold lineB
  split
  · simp [List.length_append]
  · split
    · simp [List.length_append]
    · split
      · simp [List.length_append]
      · split <;> simp [List.length_append]
theorem stroke_left {l : Bytes} {a : Nat} (ha : a ≤ l.length) : left l (strokeS l (.ok a)).2 < left l (.ok a) := by
  cases hr : (strokeS l (.ok a)).2 with
  | bad p => show 0 < l.length + 1 - a; omega
  | ok b =>
    obtain ⟨a', ha', t⟩ := stroke_tk hr
    cases ha'
    have h1 := t.2
    have h2 := t.le ha
    have h3 := line_pos (strokeS l (.ok a)).1
    show l.length + 1 - b < l.length + 1 - a
    omega
theorem loop_fuel {l : Bytes} : ∀ (n m : Nat) (σ : RS) (acc : List S), In l.length σ → left l σ < n → left l σ < m → loopS l n σ acc = loopS l m σ acc
  | 0, _, _, _, _, h, _ => absurd h (Nat.not_lt_zero _)
  | _ + 1, 0, _, _, _, _, h => absurd h (Nat.not_lt_zero _)
  | n + 1, m + 1, .bad p, acc, _, _, _ => rfl
  | n + 1, m + 1, .ok a, acc, hi, hn, hm => by
    unfold loopS
    by_cases hp : Lib.hasPrefix (l.drop a) qEnd = true
    · rw [if_pos hp, if_pos hp]
    · rw [if_neg hp, if_neg hp]
      have := stroke_left (l := l) (a := a) hi
      exact loop_fuel n m _ _ (stroke_in hi) (by omega) (by omega)
/-- The strokes from a state, however many rounds. -/
def tailS (l : Bytes) (σ : RS) (acc : List S) : List S × RS := loopS l (left l σ + 1) σ acc
theorem tail_bad (l : Bytes) (p : Nat) (acc : List S) : tailS l (.bad p) acc = (acc, .bad p) := rfl
theorem tail_end (l : Bytes) (a : Nat) (acc : List S) (h : Lib.hasPrefix (l.drop a) qEnd = true) : tailS l (.ok a) acc = (acc, .ok a) := by
  unfold tailS loopS; rw [if_pos h]
theorem tail_step (l : Bytes) (a : Nat) (acc : List S) (ha : a ≤ l.length) (h : Lib.hasPrefix (l.drop a) qEnd = false) : tailS l (.ok a) acc = tailS l (strokeS l (.ok a)).2 (acc ++ [(strokeS l (.ok a)).1]) := by
  have h1 := stroke_left (l := l) ha
  have e : tailS l (.ok a) acc = loopS l (left l (.ok a)) (strokeS l (.ok a)).2 (acc ++ [(strokeS l (.ok a)).1]) := by
    unfold tailS
    rw [loopS, if_neg (by rw [h]; decide)]
  rw [e]
  unfold tailS
  exact loop_fuel _ _ _ _ (stroke_in (σ := .ok a) ha) h1 (by omega)
theorem scan_tail (l : Bytes) : scanS l = ((tailS l (fixS l qOpen (fieldS l qh (fieldS l qHead (.ok 0)).2).2) []).1, ((fieldS l qHead (.ok 0)).1, (fieldS l qh (fieldS l qHead (.ok 0)).2).1), Ev.done l (fixS l qEnd (tailS l (fixS l qOpen (fieldS l qh (fieldS l qHead (.ok 0)).2).2) []).2)) := by
  have h0 : In l.length (.ok 0) := Nat.zero_le _
  have hi := fix_in (p := qOpen) (field_in (p := qh) (field_in (p := qHead) h0))
  have hl : left l (fixS l qOpen (fieldS l qh (fieldS l qHead (.ok 0)).2).2) < l.length + 1 := by
    cases hr : fixS l qOpen (fieldS l qh (fieldS l qHead (.ok 0)).2).2 with
    | bad p => show 0 < _; omega
    | ok b =>
      obtain ⟨c, ec, t⟩ := fix_tk hr
      have h1 := t.2
      have : qOpen.length = 3 := rfl
      show l.length + 1 - b < l.length + 1
      omega
  unfold scanS tailS
  simp only
  rw [loop_fuel _ (left l (fixS l qOpen (fieldS l qh (fieldS l qHead (.ok 0)).2).2) + 1) _ _ hi hl (by omega)]
end Go.Proofs.YtemiamajgjfnbaaGreatDoor
