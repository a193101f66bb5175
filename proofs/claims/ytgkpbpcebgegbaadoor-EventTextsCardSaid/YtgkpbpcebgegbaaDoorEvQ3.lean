/- The document's answer: the reader's text. -/
import Derived.Test.YtgkpbpcebgegbaaDoorEvQ0
import Derived.Deep.LoopGhost
namespace Go.Proofs.YtgkpbpcebgegbaaDoor
open Go.RowKit Ev
set_option linter.unusedVariables false
set_option linter.unusedSimpArgs false

/-- What the answer's text hands back: a string; where the reader is well, the text read. -/
def TextQ (l : Bytes) (σ : RS) (e : Ending) : Prop := ∃ t : Bytes, e = .returned (.string (bt t)) ∧ ∀ q, (textS l σ).2 = .ok q → t = (textS l σ).1
theorem TextQ.bad {l : Bytes} {σ : RS} {p : Nat} (h : (textS l σ).2 = .bad p) (t : Bytes) : TextQ l σ (.returned (.string (bt t))) := ⟨t, rfl, fun q hq => by rw [h] at hq; cases hq⟩
theorem TextQ.well {l : Bytes} {σ : RS} (t : Bytes) (h : (textS l σ).1 = t) : TextQ l σ (.returned (.string (bt t))) := ⟨t, rfl, fun q hq => h.symm⟩

theorem IsQd.same {w w' : World} {g : Nat} {s : ByteArray} {σ : RS} (h : IsQd w g s σ) (hh : w'.heap[g]? = w.heap[g]?) : IsQd w' g s σ := by
  cases σ with
  | ok a => exact ⟨h.1, by have := h.2; unfold Blk3 at *; rw [hh]; exact this⟩
  | bad p => obtain ⟨a, h⟩ := h; exact ⟨a, by unfold Blk3 at *; rw [hh]; exact h⟩
theorem grown_append {a w w' : World} {g : Nat} {o : Obj} {v : Value} (h : a.grownBy w (some g)) (hgr : (w.alloc o).grownBy w' v.ownBlock) (hown : ∀ i, v.ownBlock = some i → a.heap.size ≤ i) : a.grownBy w' (some g) :=
  ⟨hgr.os.trans h.os, hgr.tape.trans h.tape, hgr.output.trans h.output, Nat.le_trans h.size (Nat.le_trans (by simp) hgr.size), fun k hk hr => by
    have h1 := h.size
    rw [hgr.block k (by simp; omega) (fun e => by have := hown k e.symm; omega), Below.heap_alloc _ _ _ (by omega)]
    exact h.block k hk hr⟩
theorem own_ne {w : World} {B g : Nat} {v : Value} {l : List UInt8} (h : OwnB w B v l) (hg : g < B) : v.ownBlock ≠ some g := fun e => by have := (World.ownsRow.lt h g e).1; omega
theorem append_at {w w' : World} {g : Nat} {o : Obj} {v : Value} (hg : g < w.heap.size) (hgr : (w.alloc o).grownBy w' v.ownBlock) (hown : ∀ i, v.ownBlock = some i → g ≠ i) : w'.heap[g]? = w.heap[g]? := by
  rw [hgr.block g (by simp; omega) (fun e => hown g e.symm rfl), Below.heap_alloc _ _ _ hg]
theorem small_q (c : UInt8) (w : World) :
    Calls Tryd.prog 45 #[.int .u8 (c.toNat : Int)] w fun e w' => e = .returned (.int .i64 (hexV c)) ∧ w' = w :=
  (small_any c w).mono fun e w' ⟨h, hw⟩ => ⟨h, hw.symm⟩

/-! ### The word from a place on, byte by byte -/
theorem word_in (s : ByteArray) (p x : Nat) (h0 : p ≤ x) (h1 : x < p + (word (s.data.toList.drop p)).length) :
    ∃ h : x < s.size, s[x] ≠ 32 ∧ ∃ h2 : x - p < (word (s.data.toList.drop p)).length, (word (s.data.toList.drop p))[x - p] = s[x] := by
  have h2 : x - p < (word (s.data.toList.drop p)).length := by omega
  obtain ⟨h3, h4⟩ := tw_lt (fun b => b != 32) (s.data.toList.drop p) _ h2
  have h5 : (word (s.data.toList.drop p))[x - p] = (s.data.toList.drop p)[x - p] := (List.takeWhile_prefix _).getElem h2
  have h6 : x < s.data.toList.length := by rw [List.length_drop] at h3; omega
  have h7 : (s.data.toList.drop p)[x - p] = s.data.toList[x] := by
    rw [List.getElem_drop]
    congr 1; omega
  rw [h7] at h4 h5
  have h8 : s.data.toList[x] = s[x]'h6 := rfl
  rw [h8] at h4 h5
  exact ⟨h6, by simpa using h4, h2, h5⟩
theorem word_end (s : ByteArray) (p : Nat) (h : p + (word (s.data.toList.drop p)).length < s.size) : s[p + (word (s.data.toList.drop p)).length] = 32 := by
  have hl : s.data.toList.length = s.size := rfl
  have h1 : ((s.data.toList.drop p).takeWhile (fun b => b != 32)).length < (s.data.toList.drop p).length := by
    unfold word at h; rw [List.length_drop]; omega
  have h2 := tw_end (fun b => b != 32) _ h1
  rw [List.getElem_drop] at h2
  have h3 : s.data.toList[p + ((s.data.toList.drop p).takeWhile (fun b => b != 32)).length]'(by unfold word at h; omega) = s[p + (word (s.data.toList.drop p)).length] := rfl
  rw [h3] at h2
  simpa using h2
theorem word_le (s : ByteArray) (p : Nat) (hp : p ≤ s.size) : p + (word (s.data.toList.drop p)).length ≤ s.size := by
  have h1 : (word (s.data.toList.drop p)).length ≤ (s.data.toList.drop p).length := tw_le _ _
  have hl : s.data.toList.length = s.size := rfl
  rw [List.length_drop] at h1; omega
/-- What is still to be read of the word. -/
def decQ (s : ByteArray) (p x : Nat) (acc : Bytes) : Sum Nat Bytes := dec ((word (s.data.toList.drop p)).drop (x - p)) (x - p) acc
theorem decQ_plain (s : ByteArray) (p x : Nat) (acc : Bytes) (h0 : p ≤ x) (h1 : x < p + (word (s.data.toList.drop p)).length) (hx : x < s.size) (hp : plainI (s[x].toNat : Int) = true) : decQ s p x acc = decQ s p (x + 1) (acc ++ [s[x]]) := by
  obtain ⟨_, _, h2, h3⟩ := word_in s p x h0 h1
  unfold decQ
  rw [dec_plain _ _ _ h2 (by rw [h3]; exact hp), h3, show x + 1 - p = x - p + 1 by omega]
theorem decQ_not37 (s : ByteArray) (p x : Nat) (acc : Bytes) (h0 : p ≤ x) (h1 : x < p + (word (s.data.toList.drop p)).length) (hx : x < s.size) (hp : plainI (s[x].toNat : Int) = false) (h37 : s[x] ≠ 37) : decQ s p x acc = .inl (x - p) := by
  obtain ⟨_, _, h2, h3⟩ := word_in s p x h0 h1
  unfold decQ
  exact dec_not37 _ _ _ h2 (by rw [h3]; exact hp) (by rw [h3]; exact h37)
theorem decQ_short (s : ByteArray) (p x : Nat) (acc : Bytes) (h0 : p ≤ x) (h1 : x < p + (word (s.data.toList.drop p)).length) (hx : x < s.size) (hp : plainI (s[x].toNat : Int) = false) (h4 : p + (word (s.data.toList.drop p)).length ≤ x + 2) : decQ s p x acc = .inl (x - p) := by
  obtain ⟨_, _, h2, h3⟩ := word_in s p x h0 h1
  unfold decQ
  exact dec_short _ _ _ h2 (by rw [h3]; exact hp) (by omega)
theorem decQ_hex (s : ByteArray) (p x : Nat) (acc : Bytes) (h0 : p ≤ x) (h1 : x + 2 < p + (word (s.data.toList.drop p)).length) (hx : x + 2 < s.size) (hp : plainI (s[x].toNat : Int) = false) (h37 : s[x] = 37) : decQ s p x acc =
    match val? s[x + 1], val? s[x + 2] with
    | some a, some b => if plainB (UInt8.ofNat (16 * a + b)) = true then .inl (x - p) else decQ s p (x + 3) (acc ++ [UInt8.ofNat (16 * a + b)])
    | _, _ => .inl (x - p) := by
  obtain ⟨_, _, h2, h3⟩ := word_in s p x h0 (by omega)
  obtain ⟨_, _, h4, h5⟩ := word_in s p (x + 1) (by omega) (by omega)
  obtain ⟨_, _, h6, h7⟩ := word_in s p (x + 2) (by omega) h1
  have e1 : x + 1 - p = x - p + 1 := by omega
  have e2 : x + 2 - p = x - p + 2 := by omega
  have e3 : x + 3 - p = x - p + 3 := by omega
  have h7' : (word (s.data.toList.drop p))[x - p + 2]'(by omega) = s[x + 2] := by rw [← h7]; congr 1; omega
  have h5' : (word (s.data.toList.drop p))[x - p + 1]'(by omega) = s[x + 1] := by rw [← h5]; congr 1; omega
  unfold decQ
  rw [dec_hex _ _ _ (by omega) (by rw [h3]; exact hp) (by rw [h3]; exact h37), h5', h7', e3]
  rfl
theorem decQ_end (s : ByteArray) (p x : Nat) (acc : Bytes) (h0 : p ≤ x) (h1 : x = p + (word (s.data.toList.drop p)).length) : decQ s p x acc = .inr acc := by
  unfold decQ
  rw [List.drop_eq_nil_iff.2 (by omega)]; rfl
theorem textR_bad (s : ByteArray) (p x : Nat) (h0 : p ≤ x) (hne : word (s.data.toList.drop p) ≠ []) (h : decQ s p p [] = .inl (x - p)) : textR s.data.toList (.ok p) = ([], .bad x) := by
  unfold decQ at h
  rw [Nat.sub_self, List.drop_zero] at h
  unfold textR
  simp only
  rw [if_neg hne, h]
  simp only
  rw [show p + (x - p) = x by omega]
theorem textR_ok (s : ByteArray) (p : Nat) (acc : Bytes) (hne : word (s.data.toList.drop p) ≠ []) (h : decQ s p p [] = .inr acc) : textR s.data.toList (.ok p) = (acc, .ok (p + (word (s.data.toList.drop p)).length)) := by
  unfold decQ at h
  rw [Nat.sub_self, List.drop_zero] at h
  unfold textR
  simp only
  rw [if_neg hne, h]
theorem textR_none (s : ByteArray) (p : Nat) (h : (word (s.data.toList.drop p)).length = 0) : textR s.data.toList (.ok p) = ([], .bad p) := by
  unfold textR; simp only; rw [if_pos (List.eq_nil_of_length_eq_zero h)]

set_option maxHeartbeats 1000000 in
set_option maxRecDepth 100000 in
theorem textq_bad (s : ByteArray) (g p : Nat) (w : World) (hI : IsQd w g s (.bad p)) :
    Calls Tryd.prog 25 #[.pointer (some ⟨g, 0, none⟩)] w fun e w' => e = .returned (.string ⟨#[]⟩) ∧ w = w' := by
  have hI2 := hI
  obtain ⟨a, hI2⟩ := hI2
  have hc2 := hI2.cell2
  have HI := Lib.hid hI; clear hI hI2
  have hp : decide ((0 : Int) ≤ (p : Int)) = true := by simp
  go_enter Tryd.func25, Tryd.ntmps25
  go_wp2_with (go_at_call 44; refine (blankq_bad s g p _ HI.out).mono ?_; rintro e w' ⟨rfl, rfl⟩)
  go_ret
  exact ⟨rfl, rfl⟩

set_option maxHeartbeats 2000000 in
set_option maxRecDepth 100000 in
theorem textq_noblank (s : ByteArray) (g a : Nat) (w : World) (hs : s.size ≤ 140737488351232) (hI : IsQd w g s (.ok a)) (hb : ¬ s.data.toList[a]? = some 32) :
    Calls Tryd.prog 25 #[.pointer (some ⟨g, 0, none⟩)] w fun e w' => e = .returned (.string ⟨#[]⟩) ∧ IsQd w' g s (.bad a) ∧ w.grownBy w' (some g) := by
  have HI := Lib.hid hI; clear hI
  have HB := Lib.hid hb; clear hb
  have hbl := (blankq_ok s g a w hs HI.out)
  rw [blankS, if_neg HB.out] at hbl
  have HBL := Lib.hid hbl; clear hbl
  have hp : decide ((0 : Int) ≤ (a : Int)) = true := by simp
  go_enter Tryd.func25, Tryd.ntmps25
  go_wp2_with (go_at_call 44; refine HBL.out.mono ?_; rintro e w' ⟨rfl, h1, h2⟩; have hc2 : w'.cell? ⟨g, 2, none⟩ = some (.int .i64 (a : Int)) := (by obtain ⟨_, h⟩ := h1; exact h.cell2); have H1 := Lib.hid h1; have H2 := Lib.hid h2; clear h1 h2)
  go_ret
  exact ⟨rfl, H1.out, H2.out⟩

set_option maxHeartbeats 4000000 in
set_option maxRecDepth 100000 in
theorem textq_blank (s : ByteArray) (g a : Nat) (w : World) (hs : s.size ≤ 4294967280) (hI : IsQd w g s (.ok a)) (hb : s.data.toList[a]? = some 32) :
    Calls Tryd.prog 25 #[.pointer (some ⟨g, 0, none⟩)] w fun e w' => TextQ s.data.toList (.ok a) e ∧ IsQd w' g s (textR s.data.toList (.ok (a + 1))).2 ∧ w.grownBy w' (some g) := by
  have htS : textS s.data.toList (.ok a) = textR s.data.toList (.ok (a + 1)) := by unfold textS; rw [blankS, if_pos hb]
  have HI := Lib.hid hI; clear hI
  have HB := Lib.hid hb; clear hb
  have hbl := (blankq_ok s g a w (by omega) HI.out)
  rw [blankS, if_pos HB.out] at hbl
  have HBL := Lib.hid hbl; clear hbl
  generalize hp : a + 1 = p
  rw [hp] at HBL htS
  have HTS := Lib.hid htS; clear htS
  clear hp
  have hdneg : decide ((0 : Int) ≤ (-1 : Int)) = false := by decide
  have hdneg2 : decide ((-1 : Int) < 0) = true := by decide
  go_enter Tryd.func25, Tryd.ntmps25
  go_wp2_with (go_at_call 44; refine HBL.out.mono ?_; rintro e w1 ⟨rfl, h1, h2⟩; have hps := h1.1; have hc0 := h1.2.cell0; have hc1 := h1.2.cell1; have hc2 := h1.2.cell2; have hf1 := h1.2.free 1; have H1 := Lib.hid h1; have H2 := Lib.hid h2; clear h1 h2)
  have hEs := word_le s p hps
  have hin : ∀ x, p ≤ x → x < p + (word (s.data.toList.drop p)).length → ∃ h : x < s.size, s[x] ≠ 32 := fun x h0 h1 => by obtain ⟨h, h2, _⟩ := word_in s p x h0 h1; exact ⟨h, h2⟩
  have hout := word_end s p
  have hzero := textR_none s p
  have hbadr := fun x h0 hne => textR_bad s p x h0 hne
  have hokr := fun acc hne => textR_ok s p acc hne
  have hl0 : (word (s.data.toList.drop p)).length = 0 ∨ word (s.data.toList.drop p) ≠ [] := by
    by_cases h : word (s.data.toList.drop p) = []
    · left; rw [h]; rfl
    · right; exact h
  generalize hE : p + (word (s.data.toList.drop p)).length = E at hEs hin hout hokr
  have HE := Lib.hid hE; have HIN := Lib.hid hin; have HOUT := Lib.hid hout; have HZERO := Lib.hid hzero; have HBADR := Lib.hid hbadr; have HOKR := Lib.hid hokr; have HL0 := Lib.hid hl0
  have hpE : p ≤ E := by omega
  clear hE hin hout hzero hbadr hokr hl0
  go_loop [3] (fun v => ∃ x : Nat, p ≤ x ∧ x ≤ E ∧ v = .int .i64 (x : Int)) (fun v => s.size - (intOf v).toNat)
  case atStart => exact ⟨p, Nat.le_refl _, hpE, rfl⟩
  case round =>
    obtain ⟨x, hx0, hx1, rfl⟩ := hrel
    by_cases hlt : x < E
    · obtain ⟨h1, h2⟩ := HIN.out x hx0 hlt
      have hne : ((s[x].toNat : Int) != 32) = true := by
        have : s[x].toNat ≠ 32 := fun h => h2 (UInt8.toNat_inj.1 (by rw [h]; rfl))
        simp; omega
      clear h2
      go_wp2_with fail
      go_round
      case rel => exact ⟨x + 1, by omega, by omega, by go_num⟩
      case measure => go_light; simp [intOf]; omega
    · have hxE : x = E := by omega
      have hxx : x = s.size ∨ (∃ h : x < s.size, ((s[x].toNat : Int) != 32) = false) := by
        by_cases h : x < s.size
        · have h2 := HOUT.out (by omega)
          right
          refine ⟨h, ?_⟩
          have h3 : s[x] = 32 := by rw [← h2]; congr 1
          rw [h3]; rfl
        · left; omega
      obtain rfl : E = x := hxE.symm
      clear hlt hx1
      have i0 : p ≤ E := hx0
      rcases hxx with hx | ⟨hks, hx⟩
      all_goals (
        first
          | (have d1 : decide (E < s.size) = true := decide_eq_true (by omega))
          | (have d1 : decide (E < s.size) = false := decide_eq_false (by omega); clear hx)
        rcases HL0.out with hz | hw
        · have hEp : E = p := by have := HE.out; omega
          have hT := HZERO.out hz
          have HT0 := Lib.hid hT; clear hT hz
          have de : ((E : Int) == (p : Int)) = true := by simp; omega
          have HEP := Lib.hid hEp; clear hEp
          go_wp2_with (go_at_call 26; refine (wrongq_any s g p p _ H1.out).mono ?_; rintro e w2 ⟨rfl, h2, g2⟩; have H3 := Lib.hid h2; have G3 := Lib.hid g2; clear h2 g2)
          go_loopg [4] (E - p) (fun k v wr => ∃ (acc : Bytes) (q : Nat), Hid (OwnB wr w1.heap.size v acc) ∧ Hid (w1.grownBy wr (some g)) ∧ Hid (IsQd wr g s (.bad q)) ∧ Hid (textR s.data.toList (.ok p) = ([], .bad q)))
          case atStart => exact ⟨[], p, Lib.hid (OwnB.nil _ _), G3, H3, HT0⟩
          case round =>
            clear hc0 hc1 hc2 hf1
            obtain ⟨acc, q, HO, HGR, HI3, HT⟩ := hrel
            · obtain ⟨a', hI⟩ := HI3.out
              have hc1 := hI.cell1
              have hc2 := hI.cell2
              clear hI
              have dq : decide ((q : Int) < 0) = false := decide_eq_false (by omega)
              have hconv := own_string (w := wr) Tryd.underlying62 Tryd.underlying9 HO.out
              by_cases hae : a' < (E : Int)
              all_goals (
                first
                  | (have da : decide (a' < (E : Int)) = true := decide_eq_true hae; clear hae)
                  | (have da : decide (a' < (E : Int)) = false := decide_eq_false hae; clear hae)
                go_wp2_with fail
                go_ret
                refine ⟨TextQ.bad (by rw [HTS.out, HT.out]) acc, ?_, grown_trans H2.out HGR.out⟩
                rw [HT.out]; exact HI3.out)
        · have hpE2 : p < E := by
            have h1 := HE.out
            have : (word (s.data.toList.drop p)).length ≠ 0 := fun h => hw (List.eq_nil_of_length_eq_zero h)
            omega
          have de : ((E : Int) == (p : Int)) = false := by simp; omega
          have HW0 := Lib.hid hw; clear hw
          go_wp2_with fail
          go_loopg [4] (E - p) (fun k v wr => ∃ acc : Bytes, Hid (OwnB wr w1.heap.size v acc) ∧ Hid (w1.grownBy wr (some g)) ∧ ((∃ x : Nat, p ≤ x ∧ x ≤ E ∧ acc.length ≤ x ∧ k = E - x ∧ Hid (IsQd wr g s (.ok x)) ∧ Hid (decQ s p x acc = decQ s p p []) ∧ Hid (word (s.data.toList.drop p) ≠ [])) ∨ (∃ q : Nat, Hid (IsQd wr g s (.bad q)) ∧ Hid (textR s.data.toList (.ok p) = ([], .bad q)))))
          case atStart => exact ⟨[], Lib.hid (OwnB.nil _ _), Lib.hid (grown_refl _ _), .inl ⟨p, Nat.le_refl _, by omega, Nat.zero_le _, rfl, H1, Lib.hid rfl, HW0⟩⟩
          case round =>
            clear hc0 hc1 hc2 hf1
            obtain ⟨acc, HO, HGR, hrel⟩ := hrel
            rcases hrel with ⟨x, hx0, hx1, hax, rfl, HI3, HD, HW⟩ | ⟨q, HI3, HT⟩
            · obtain ⟨hx2, hI⟩ := HI3.out
              have hc0 := hI.cell0
              have hc1 := hI.cell1
              have hc2 := hI.cell2
              clear hI hx2
              by_cases hlt : x < E
              · obtain ⟨h1, _⟩ := HIN.out x hx0 hlt
                have e0 : decide ((x : Int) < (E : Int)) = true := decide_eq_true (by omega)
                have e1 : decide (x < E) = true := decide_eq_true hlt
                have ix0 : (0 : Int) ≤ (x : Int) := by omega
                have ix1 : (x : Int) < (s.size : Int) := by omega
                go_wp2_with fail
                go_quiet (fail)
                have HO4 := Lib.hid (HO.out.same (w' := wr.drewN nq) rfl)
                have HI4 := Lib.hid (show IsQd (wr.drewN nq) g s (.ok x) from HI3.out)
                have HG4 := Lib.hid (grown_trans HGR.out (grown_drewN wr nq (some g)))
                have k0 : (wr.drewN nq).cell? ⟨g, 0, none⟩ = some (.string s) := hc0
                have k1 : (wr.drewN nq).cell? ⟨g, 1, none⟩ = some (.int .i64 x) := hc1
                have k2 : (wr.drewN nq).frozen? ⟨g, 1, none⟩ = false := HI4.out.2.free 1
                clear hc0 hc1 hc2 HO HI3 HGR
                generalize wr.drewN nq = w4 at HO4 HI4 HG4 k0 k1 k2 ⊢
                have hlt4 : g < w4.heap.size := HI4.out.lt
                cases hpl : plainI (s[x].toNat : Int) with
                | true =>
                  have hd := decQ_plain s p x acc hx0 (by have := HE.out; omega) h1 hpl
                  rw [HD.out] at hd
                  have HDD := Lib.hid hd; clear hd
                  have HX1 := Lib.hid hlt4; clear hlt4
                  go_wp2_with (first | (go_at_call 37; refine (stands_any _ _).mono ?_; rintro e w' ⟨rfl, rfl⟩) | (at_builtin; refine wp_append_byte rfl (.tmp 72) (.tmp 74) rfl w1.heap.size u4 acc s[x] _ rfl rfl HO4.out rfl (by omega) HG4.out.size ?_; intro v' w' hown hgr; have hb := append_at HX1.out hgr (fun i hi e => by have h1 := (World.ownsRow.lt HO4.out i hi).1; have h2 := H1.out.lt; omega); have h5 := HI4.out.same hb; have m1 := h5.2.cell1; have m2 := h5.2.free 1; have H5 := Lib.hid h5; have HO5 := Lib.hid hown; have HG5 := Lib.hid (grown_append HG4.out hgr (fun i hi => (World.ownsRow.lt HO4.out i hi).1)); clear hown hgr hb h5))
                  go_roundg (E - (x + 1))
                  case rel =>
                    go_light
                    exact ⟨acc ++ [s[x]], Lib.hid (show OwnB _ _ _ _ from ownsRow_setCell_below HO5.out H1.out.lt _), Lib.hid (grown_trans HG5.out (grown_set _ _ _ _)), .inl ⟨x + 1, by omega, by omega, by simp; omega, rfl, Lib.hid ⟨by omega, by have := H5.out.2.set1 (.int .i64 ((x : Int) + 1)); simpa using this⟩, Lib.hid HDD.out.symm, HW⟩⟩
                  case measure => omega
                | false =>
                  by_cases h37 : s[x] = 37
                  · have b37 : ((s[x].toNat : Int) != 37) = false := by rw [h37]; rfl
                    by_cases h2 : E ≤ x + 2
                    · have hd := decQ_short s p x acc hx0 (by have := HE.out; omega) h1 hpl (by have := HE.out; omega)
                      rw [HD.out] at hd
                      have hT := HBADR.out x hx0 HW.out hd
                      have HT := Lib.hid hT; clear hT hd
                      have H37 := Lib.hid h37; clear h37
                      have g1 : decide ((E : Int) ≤ (x : Int) + 2) = true := decide_eq_true (by omega)
                      have g2 : decide (E ≤ x + 2) = true := decide_eq_true h2
                      have wx2 : IntKind.i64.wrap ((x : Int) + 2) = (x : Int) + 2 := IntWalk.i64_in _ (by omega)
                      go_wp2_with (go_at_call 37; refine (stands_any _ _).mono ?_; rintro e w' ⟨rfl, rfl⟩)
                      go_quiet (fail)
                      have HI5 := Lib.hid (show IsQd (w4.drewN nq) g s (.ok x) from HI4.out)
                      have HG5 := Lib.hid (grown_trans HG4.out (grown_drewN w4 nq (some g)))
                      have m0 : (w4.drewN nq).cell? ⟨g, 0, none⟩ = some (.string s) := k0
                      have m1 : (w4.drewN nq).cell? ⟨g, 1, none⟩ = some (.int .i64 x) := k1
                      have HO5 := Lib.hid (HO4.out.same (w' := w4.drewN nq) rfl)
                      clear k0 k1 k2 HO4 HI4 HG4
                      generalize w4.drewN nq = w5 at HI5 HG5 HO5 m0 m1 ⊢
                      go_wp2_with (go_at_call 26; refine (wrongq_any s g x x _ HI5.out).mono ?_; rintro e w6 ⟨rfl, h6, g6⟩; have H6 := Lib.hid h6; have G6 := Lib.hid g6; clear h6 g6)
                      go_ret
                      refine ⟨TextQ.bad (by rw [HTS.out, HT.out]) [], ?_, grown_trans H2.out (grown_trans HG5.out G6.out)⟩
                      rw [HT.out]; exact H6.out
                    · have g1 : decide ((E : Int) ≤ (x : Int) + 2) = false := decide_eq_false (by omega)
                      have g2 : decide (E ≤ x + 2) = false := decide_eq_false h2
                      have hw1 : IntKind.i64.wrap ((x : Int) + 1) = (x : Int) + 1 := IntWalk.i64_in _ (by omega)
                      have hw2 : IntKind.i64.wrap ((x : Int) + 2) = (x : Int) + 2 := IntWalk.i64_in _ (by omega)
                      have p1 : (0 : Int) ≤ (x : Int) + 1 := by omega
                      have p2 : (x : Int) + 1 < (s.size : Int) := by omega
                      have p3 : (0 : Int) ≤ (x : Int) + 2 := by omega
                      have p4 : (x : Int) + 2 < (s.size : Int) := by omega
                      have p5 : ((x : Int) + 1).toNat = x + 1 := by omega
                      have p6 : ((x : Int) + 2).toNat = x + 2 := by omega
                      have p7 : x + 1 < s.size := by omega
                      have p8 : x + 2 < s.size := by omega
                      have hd := decQ_hex s p x acc hx0 (by have := HE.out; omega) p8 hpl h37
                      have H37 := Lib.hid h37; clear h37
                      cases hvx' : val? s[x + 1] with
                      | none =>
                        have hvx : hexV s[x + 1] = -1 := by unfold hexV; rw [hvx']
                        rw [hvx'] at hd
                        rw [HD.out] at hd
                        have hT := HBADR.out x hx0 HW.out hd
                        have HT := Lib.hid hT; clear hT hd
                        clear hvx'
                        go_wp2_with (go_at_call 37; refine (stands_any _ _).mono ?_; rintro e w' ⟨rfl, rfl⟩)
                        go_quiet ((go_at_call 45; exact Calls.quiet_of_same (small_q _ _)))
                        have HI5 := Lib.hid (show IsQd (w4.drewN nq) g s (.ok x) from HI4.out)
                        have HG5 := Lib.hid (grown_trans HG4.out (grown_drewN w4 nq (some g)))
                        have m0 : (w4.drewN nq).cell? ⟨g, 0, none⟩ = some (.string s) := k0
                        have m1 : (w4.drewN nq).cell? ⟨g, 1, none⟩ = some (.int .i64 x) := k1
                        have HO5 := Lib.hid (HO4.out.same (w' := w4.drewN nq) rfl)
                        clear k0 k1 k2 HO4 HI4 HG4
                        generalize w4.drewN nq = w5 at HI5 HG5 HO5 m0 m1 ⊢
                        go_wp2_with (go_at_call 26; refine (wrongq_any s g x x _ HI5.out).mono ?_; rintro e w6 ⟨rfl, h6, g6⟩; have H6 := Lib.hid h6; have G6 := Lib.hid g6; clear h6 g6)
                        go_ret
                        refine ⟨TextQ.bad (by rw [HTS.out, HT.out]) [], ?_, grown_trans H2.out (grown_trans HG5.out G6.out)⟩
                        rw [HT.out]; exact H6.out
                      | some vx =>
                        have hvx : hexV s[x + 1] = (vx : Int) := by unfold hexV; rw [hvx']
                        have hvx0 : decide ((vx : Int) < 0) = false := decide_eq_false (by omega)
                        have hvx1 := val_lt _ _ hvx'
                        cases hvy' : val? s[x + 2] with
                        | none =>
                          have hvy : hexV s[x + 2] = -1 := by unfold hexV; rw [hvy']
                          rw [hvx', hvy'] at hd
                          rw [HD.out] at hd
                          have hT := HBADR.out x hx0 HW.out hd
                          have HT := Lib.hid hT; clear hT hd
                          clear hvx' hvy'
                          go_wp2_with (go_at_call 37; refine (stands_any _ _).mono ?_; rintro e w' ⟨rfl, rfl⟩)
                          go_quiet ((go_at_call 45; exact Calls.quiet_of_same (small_q _ _)))
                          have HI5 := Lib.hid (show IsQd (w4.drewN nq) g s (.ok x) from HI4.out)
                          have HG5 := Lib.hid (grown_trans HG4.out (grown_drewN w4 nq (some g)))
                          have m0 : (w4.drewN nq).cell? ⟨g, 0, none⟩ = some (.string s) := k0
                          have m1 : (w4.drewN nq).cell? ⟨g, 1, none⟩ = some (.int .i64 x) := k1
                          have HO5 := Lib.hid (HO4.out.same (w' := w4.drewN nq) rfl)
                          clear k0 k1 k2 HO4 HI4 HG4
                          generalize w4.drewN nq = w5 at HI5 HG5 HO5 m0 m1 ⊢
                          go_wp2_with (go_at_call 26; refine (wrongq_any s g x x _ HI5.out).mono ?_; rintro e w6 ⟨rfl, h6, g6⟩; have H6 := Lib.hid h6; have G6 := Lib.hid g6; clear h6 g6)
                          go_ret
                          refine ⟨TextQ.bad (by rw [HTS.out, HT.out]) [], ?_, grown_trans H2.out (grown_trans HG5.out G6.out)⟩
                          rw [HT.out]; exact H6.out
                        | some vy =>
                          have hvy : hexV s[x + 2] = (vy : Int) := by unfold hexV; rw [hvy']
                          have hvy0 : decide ((vy : Int) < 0) = false := decide_eq_false (by omega)
                          have hvy1 := val_lt _ _ hvy'
                          rw [hvx', hvy', HD.out] at hd
                          simp only at hd
                          clear hvx' hvy'
                          have q1 : IntKind.i64.wrap (16 * (vx : Int)) = 16 * (vx : Int) := IntWalk.i64_in _ (by omega)
                          have q2 : IntKind.i64.wrap (16 * (vx : Int) + (vy : Int)) = 16 * (vx : Int) + (vy : Int) := IntWalk.i64_in _ (by omega)
                          have q3 : IntKind.u8.wrap (16 * (vx : Int) + (vy : Int)) = ((UInt8.ofNat (16 * vx + vy)).toNat : Int) := by
                            rw [IntWalk.u8_in _ (by omega)]
                            rw [show (UInt8.ofNat (16 * vx + vy)).toNat = 16 * vx + vy from by rw [UInt8.toNat_ofNat']; omega]
                            omega
                          generalize UInt8.ofNat (16 * vx + vy) = c at hd q3
                          have HDX := Lib.hid hd; clear hd
                          go_wp2_with (go_at_call 37; refine (stands_any _ _).mono ?_; rintro e w' ⟨rfl, rfl⟩)
                          go_quiet ((go_at_call 45; exact Calls.quiet_of_same (small_q _ _)))
                          have HI5 := Lib.hid (show IsQd (w4.drewN nq) g s (.ok x) from HI4.out)
                          have HG5 := Lib.hid (grown_trans HG4.out (grown_drewN w4 nq (some g)))
                          have m0 : (w4.drewN nq).cell? ⟨g, 0, none⟩ = some (.string s) := k0
                          have m1 : (w4.drewN nq).cell? ⟨g, 1, none⟩ = some (.int .i64 x) := k1
                          have HO5 := Lib.hid (HO4.out.same (w' := w4.drewN nq) rfl)
                          clear k0 k1 k2 HO4 HI4 HG4
                          generalize w4.drewN nq = w5 at HI5 HG5 HO5 m0 m1 ⊢
                          go_wp2_with fail
                          go_quiet ((go_at_call 45; exact Calls.quiet_of_same (small_q _ _)))
                          have HI6 := Lib.hid (show IsQd (w5.drewN nq) g s (.ok x) from HI5.out)
                          have HG6 := Lib.hid (grown_trans HG5.out (grown_drewN w5 nq (some g)))
                          have k1 : (w5.drewN nq).cell? ⟨g, 1, none⟩ = some (.int .i64 x) := m1
                          have HO6 := Lib.hid (HO5.out.same (w' := w5.drewN nq) rfl)
                          clear m0 m1 HO5 HI5 HG5 hvx hvy hw1 hw2 q1 q2 q3
                          generalize w5.drewN nq = w6 at HI6 HG6 HO6 k1 ⊢
                          cases hpc : plainI (c.toNat : Int) with
                          | true =>
                            have hT := HDX.out
                            rw [if_pos (show plainB c = true from hpc)] at hT
                            have HT := Lib.hid (HBADR.out x hx0 HW.out hT); clear hT
                            go_wp2_with (first | (go_at_call 37; refine (stands_any _ _).mono ?_; rintro e w' ⟨rfl, rfl⟩) | (go_at_call 26; refine (wrongq_any s g x x _ HI6.out).mono ?_; rintro e w7 ⟨rfl, h7, g7⟩; obtain ⟨a7, h7'⟩ := h7; have n1 := h7'.cell1; have HO7 := Lib.hid (show OwnB w7 w1.heap.size u4 acc from World.ownsRow.kept HO6.out g7 (.inr (own_ne HO6.out H1.out.lt))); have HG7 := Lib.hid (grown_trans HG6.out g7); have H7 := Lib.hid h7'; have HLT7 := Lib.hid h7'.lt; clear h7' g7) | (at_builtin; refine wp_append_byte rfl (.tmp 161) (.tmp 163) rfl w1.heap.size u4 acc c _ rfl rfl HO7.out rfl (by omega) HG7.out.size ?_; intro v' w' hown hgr; have h8 := (append_at HLT7.out hgr (fun i hi e => by have h1 := (World.ownsRow.lt HO7.out i hi).1; have h2 := H1.out.lt; omega)).trans H7.out; have o1 := Blk3.cell1 h8; have o2 := Blk3.free h8 1; have H8 := Lib.hid (show Blk3 w' g _ _ _ _ from h8); have HO8 := Lib.hid hown; have HG8 := Lib.hid (grown_append HG7.out hgr (fun i hi => (World.ownsRow.lt HO7.out i hi).1)); clear hown hgr h8))
                            go_roundg 0
                            case rel =>
                              go_light
                              exact ⟨acc ++ [c], Lib.hid (show OwnB _ _ _ _ from ownsRow_setCell_below HO8.out H1.out.lt _), Lib.hid (grown_trans HG8.out (grown_set _ _ _ _)), .inr ⟨x, Lib.hid ⟨_, H8.out.set1 _⟩, HT⟩⟩
                            case measure => omega
                          | false =>
                            have hD := HDX.out
                            rw [if_neg (show ¬ plainB c = true by unfold plainB; rw [hpc]; decide)] at hD
                            have HDD := Lib.hid hD; clear hD
                            have HX1 := Lib.hid HI6.out.lt
                            go_wp2_with (first | (go_at_call 37; refine (stands_any _ _).mono ?_; rintro e w' ⟨rfl, rfl⟩) | (at_builtin; refine wp_append_byte rfl (.tmp 161) (.tmp 163) rfl w1.heap.size u4 acc c _ rfl rfl HO6.out rfl (by omega) HG6.out.size ?_; intro v' w' hown hgr; have hb := append_at HX1.out hgr (fun i hi e => by have h1 := (World.ownsRow.lt HO6.out i hi).1; have h2 := H1.out.lt; omega); have h8 := HI6.out.same hb; have o1 := h8.2.cell1; have o2 := h8.2.free 1; have H8 := Lib.hid h8; have HO8 := Lib.hid hown; have HG8 := Lib.hid (grown_append HG6.out hgr (fun i hi => (World.ownsRow.lt HO6.out i hi).1)); clear hown hgr hb h8))
                            go_roundg (E - (x + 3))
                            case rel =>
                              go_light
                              exact ⟨acc ++ [c], Lib.hid (show OwnB _ _ _ _ from ownsRow_setCell_below HO8.out H1.out.lt _), Lib.hid (grown_trans HG8.out (grown_set _ _ _ _)), .inl ⟨x + 3, by omega, by omega, by simp; omega, rfl, Lib.hid ⟨by omega, by have := H8.out.2.set1 (.int .i64 ((x : Int) + 3)); simpa using this⟩, Lib.hid HDD.out.symm, HW⟩⟩
                            case measure => omega
                  · have b37 : ((s[x].toNat : Int) != 37) = true := by
                      have : s[x].toNat ≠ 37 := fun h => h37 (UInt8.toNat_inj.1 (by rw [h]; rfl))
                      simp; omega
                    have hd := decQ_not37 s p x acc hx0 (by have := HE.out; omega) h1 hpl h37
                    rw [HD.out] at hd
                    have hT := HBADR.out x hx0 HW.out hd
                    have HT := Lib.hid hT; clear hT hd
                    clear h37
                    go_wp2_with (go_at_call 37; refine (stands_any _ _).mono ?_; rintro e w' ⟨rfl, rfl⟩)
                    go_quiet (fail)
                    have HI5 := Lib.hid (show IsQd (w4.drewN nq) g s (.ok x) from HI4.out)
                    have HG5 := Lib.hid (grown_trans HG4.out (grown_drewN w4 nq (some g)))
                    have m0 : (w4.drewN nq).cell? ⟨g, 0, none⟩ = some (.string s) := k0
                    have m1 : (w4.drewN nq).cell? ⟨g, 1, none⟩ = some (.int .i64 x) := k1
                    have HO5 := Lib.hid (HO4.out.same (w' := w4.drewN nq) rfl)
                    clear k0 k1 k2 HO4 HI4 HG4
                    generalize w4.drewN nq = w5 at HI5 HG5 HO5 m0 m1 ⊢
                    go_wp2_with (go_at_call 26; refine (wrongq_any s g x x _ HI5.out).mono ?_; rintro e w6 ⟨rfl, h6, g6⟩; have H6 := Lib.hid h6; have G6 := Lib.hid g6; clear h6 g6)
                    go_ret
                    refine ⟨TextQ.bad (by rw [HTS.out, HT.out]) [], ?_, grown_trans H2.out (grown_trans HG5.out G6.out)⟩
                    rw [HT.out]; exact H6.out
              · obtain rfl : x = E := by omega
                have hd := decQ_end s p x acc hx0 (by have := HE.out; omega)
                rw [HD.out] at hd
                have hok := HOKR.out acc HW.out hd
                have HOK := Lib.hid hok; clear hok hd
                have e0 : decide ((x : Int) < (x : Int)) = false := decide_eq_false (by omega)
                have hconv := own_string (w := wr) Tryd.underlying62 Tryd.underlying9 HO.out
                go_wp2_with fail
                go_ret
                refine ⟨TextQ.well acc (by rw [HTS.out, HOK.out]), ?_, grown_trans H2.out HGR.out⟩
                rw [HOK.out]; exact HI3.out
            · obtain ⟨a', hI⟩ := HI3.out
              have hc1 := hI.cell1
              have hc2 := hI.cell2
              clear hI
              have dq : decide ((q : Int) < 0) = false := decide_eq_false (by omega)
              have hconv := own_string (w := wr) Tryd.underlying62 Tryd.underlying9 HO.out
              by_cases hae : a' < (E : Int)
              all_goals (
                first
                  | (have da : decide (a' < (E : Int)) = true := decide_eq_true hae; clear hae)
                  | (have da : decide (a' < (E : Int)) = false := decide_eq_false hae; clear hae)
                go_wp2_with fail
                go_ret
                refine ⟨TextQ.bad (by rw [HTS.out, HT.out]) acc, ?_, grown_trans H2.out HGR.out⟩
                rw [HT.out]; exact HI3.out))
end Go.Proofs.YtgkpbpcebgegbaaDoor
