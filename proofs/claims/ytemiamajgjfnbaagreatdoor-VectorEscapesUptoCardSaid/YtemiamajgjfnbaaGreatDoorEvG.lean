/- What the library's variables hold (kept by whatever leaves the first blocks alone), and the library's contracts in one spelling. -/
import Derived.Test.YtemiamajgjfnbaaGreatDoorShelf
import Derived.Test.YtemiamajgjfnbaaGreatDoorEvS
import Derived.Shelf.Strings.SlTrimAscii
import Derived.Shelf.Strings.BuilderK
import Derived.WalkKit
import Derived.WalkSmall
import Derived.KernelRfl
import Derived.Lib.Hide
import Derived.Deep.Draws
import Derived.Deep.QuietTactic
import Derived.BigQuiet
import Derived.Sort.Grow
namespace Go.Proofs.YtemiamajgjfnbaaGreatDoor
open Go.RowKit Go.Sort
set_option linter.unusedVariables false
set_option linter.unusedSimpArgs false

/-- What the library's variables hold. -/
structure Glob (w : World) : Prop where
  size : 9 ≤ w.heap.size
  pow10 : Lib.TabIs Tryz.prog w "internal/strconv.uint64pow10" .u64 Lib.pow10Tab
  maxlen : ∃ m, w.cell? ⟨1, 0, none⟩ = some (.int .i64 m)
  errS : ∃ te pe, w.cell? ⟨3, 0, none⟩ = some (.iface te pe)
  errR : ∃ te pe, w.cell? ⟨4, 0, none⟩ = some (.iface te pe)
  errT : w.cell? ⟨0, 0, none⟩ = some (.iface 106 (.agg #[.pointer (some ⟨9, 52, none⟩)]))

theorem pow10_named : Tryz.prog.globalNamed "internal/strconv.uint64pow10" = some 2 := by kernel_rfl

theorem Glob.keep {w w' : World} (h : Glob w) (hs : w.heap.size ≤ w'.heap.size) (hb : ∀ k, k < 9 → w'.heap[k]? = w.heap[k]?) : Glob w' := by
  have hc : ∀ k o, k < 9 → w'.cell? ⟨k, o, none⟩ = w.cell? ⟨k, o, none⟩ := fun k o hk => World.cell?_of_block (w := w) (a := ⟨k, o, none⟩) (hb k hk)
  refine ⟨Nat.le_trans h.size hs, ?_, ?_, ?_, ?_, ?_⟩
  · have := h.pow10
    unfold Lib.TabIs World.var? at this ⊢
    rw [pow10_named] at this ⊢
    simp only [Option.bind_some] at this ⊢
    rw [hb _ (by decide)]
    exact this
  · rw [hc _ _ (by decide)]; exact h.maxlen
  · rw [hc _ _ (by decide)]; exact h.errS
  · rw [hc _ _ (by decide)]; exact h.errR
  · rw [hc _ _ (by decide)]; exact h.errT
theorem Glob.below {w w' : World} {B : Nat} (h : Glob w) (hB : 9 ≤ B) (hb : Below B w w') : Glob w' :=
  h.keep hb.size fun k hk => hb.block k (by omega)
theorem Glob.drew {w : World} (h : Glob w) : Glob w.drew := h.keep (Nat.le_refl _) fun _ _ => rfl
theorem Glob.drewN {w : World} (h : Glob w) (n : Nat) : Glob (w.drewN n) := h.keep (Nat.le_refl _) fun _ _ => rfl
theorem Glob.alloc {w : World} (h : Glob w) (o : Obj) : Glob (w.alloc o) := h.below h.size ((Below.refl _ _).alloc (Nat.le_refl _) o)
theorem Glob.grown {w w' : World} {row : Option Nat} (h : Glob w) (hg : w.grownBy w' row) (hr : ∀ k, row = some k → 9 ≤ k) : Glob w' :=
  h.keep hg.size fun k hk => hg.block k (Nat.lt_of_lt_of_le hk h.size) (fun e => by have := hr k e.symm; omega)

theorem below_drewN' {B : Nat} {a w : World} (h : Below B a w) (n : Nat) : Below B a (w.drewN n) := h.trans ⟨rfl, rfl, rfl, Nat.le_refl _, fun _ _ => rfl⟩

theorem below_grow {w w' : World} (h : Below w.heap.size w w') (os : Array Obj) : Below w.heap.size w (grow w' os) := by
  refine ⟨h.os, h.tape, h.output, ?_, fun k hk => ?_⟩
  · have := h.size
    simp only [grow, Array.size_append]; omega
  · have := h.size
    show (w'.heap ++ os)[k]? = _
    rw [Array.getElem?_append_left (by omega)]
    exact h.block k hk
theorem bstr (s : ByteArray) : (⟨s.data.toList.toArray⟩ : ByteArray) = s := by cases s; simp

/-! ### The library, in one spelling -/
theorem itoa_any (n : Int) (h0 : -9223372036854775808 ≤ n) (h1 : n ≤ 9223372036854775807) (w : World) (hg : Glob w) :
    Calls Tryz.prog 15 #[.int .i64 n] w fun e w' => e = .returned (.string ⟨(Lib.itoa n).toArray⟩) ∧ Below w.heap.size w w' :=
  (Tryz.strconv_Itoa n h0 h1 w hg.pow10).mono fun e w' ⟨h, k, os, hw⟩ => ⟨h, by subst hw; exact below_grow (below_drewN' (Below.refl _ _) k) os⟩
/-- What strconv.Atoi hands back: the number, and whether there is no error. -/
def atoiV (l : List UInt8) : Int := match Lib.atoiAll l with | .ok v => v | .range => Lib.atoiSat l | _ => 0
def atoiOk (l : List UInt8) : Bool := match Lib.atoiAll l with | .ok _ => true | _ => false
def ErrVal (ok : Bool) (v : Value) : Prop := if ok = true then v = .nilIface else ∃ t p, v = .iface t p
theorem atoi_any (s : ByteArray) (hs : s.size ≤ 281474976710656) (w : World) (hg : Glob w) :
    Calls Tryz.prog 52 #[.string s] w fun e w' => ∃ v, e = .returned (.tuple #[.int .i64 (atoiV s.data.toList), v]) ∧ ErrVal (atoiOk s.data.toList) v ∧ Below w.heap.size w w' := by
  obtain ⟨ts, ps, hS⟩ := hg.errS
  obtain ⟨tr, pr, hR⟩ := hg.errR
  cases h : Lib.atoiAll s.data.toList with
  | ok v =>
    refine (Tryz.strconv_Atoi_ok s (by omega) v h w).mono fun e w' ⟨h1, h2⟩ => ⟨.nilIface, ?_, ?_, ?_⟩
    · rw [h1]; simp [atoiV, h]
    · simp [atoiOk, h, ErrVal]
    · rcases h2 with rfl | ⟨t, rfl⟩
      · exact Below.refl _ _
      · exact Lib.bytesWorld_below _ _ _
  | range =>
    refine (Tryz.strconv_Atoi_range s hs h _ w hR (.inr ⟨tr, pr, rfl⟩)).mono fun e w' ⟨N, h1, _, _, h2⟩ => ⟨.iface 146 (.pointer (some ⟨N, 0, none⟩)), ?_, ?_, h2⟩
    · rw [h1]; simp only [atoiV, h]
    · simp only [atoiOk, h, ErrVal, Bool.false_eq_true, if_false]; exact ⟨_, _, rfl⟩
  | _ =>
    refine (Tryz.strconv_Atoi_syntax s hs h _ w hS (.inr ⟨ts, ps, rfl⟩)).mono fun e w' ⟨N, h1, _, _, h2⟩ => ⟨.iface 146 (.pointer (some ⟨N, 0, none⟩)), ?_, ?_, h2⟩
    · rw [h1]; simp only [atoiV, h]
    · simp only [atoiOk, h, ErrVal, Bool.false_eq_true, if_false]; exact ⟨_, _, rfl⟩
theorem trim_any (s c : ByteArray) (w : World) (hcs : c.size < 4294967281) (hascii : ∀ (j : Nat) b, c.data.toList[j]? = some b → b.toNat < 128) :
    Calls Tryz.prog 64 #[.string s, .string c] w fun e w' => e = .returned (.string ⟨(Lib.trimLeftS s.data.toList c.data.toList).toArray⟩) ∧ Below w.heap.size w w' :=
  Any.strings_TrimLeft_laid Tryz.lays161 (by kernel_rfl) s c w hcs hascii
theorem hasPrefix_any (s p : ByteArray) (w : World) :
    Calls Tryz.prog 25 #[.string s, .string p] w fun e w' => e = .returned (.bool (Lib.hasPrefix s.data.toList p.data.toList)) ∧ w = w' :=
  (Tryz.strings_HasPrefix s p w).mono fun e w' ⟨h, hw⟩ => ⟨h, hw.symm⟩
theorem indexByte_any (s : ByteArray) (c : Int) (w : World) :
    Calls Tryz.prog 20 #[.string s, .int .u8 c] w fun e w' => e = .returned (.int .i64 (Lib.indexByte s.data.toList c.toNat.toUInt8)) ∧ w = w' :=
  (Tryz.strings_IndexByte s c w).mono fun e w' ⟨h, hw⟩ => ⟨h, hw.symm⟩
theorem cut_any (s sep : ByteArray) (w : World) (hs : s.size < 4294967281) (hg : Glob w) :
    Calls Tryz.prog 54 #[.string s, .string sep] w fun e w' => e = .returned (.tuple #[.string ⟨(Lib.cut s.data.toList sep.data.toList).1.toArray⟩, .string ⟨(Lib.cut s.data.toList sep.data.toList).2.1.toArray⟩, .bool (Lib.cut s.data.toList sep.data.toList).2.2]) ∧ ∃ n, w' = w.drewN n := by
  obtain ⟨m, hm⟩ := hg.maxlen
  exact Tryz.strings_Cut s sep m w hs hm
/-! ### A builder of the call's own: what it holds, as bytes -/
abbrev IsB (B b : Nat) (l : List UInt8) (w : World) : Prop := Lib.IsBuilderF 50 5 B b (Lib.byteCells l) w
theorem writeByte_any (B b : Nat) (l : List UInt8) (c : UInt8) (w : World) (h : IsB B b l w) (hlen : l.length + 1 ≤ 140737488355328) (hBw : B ≤ w.heap.size) :
    Calls Tryz.prog 21 #[.pointer (some ⟨b, 0, none⟩), .int .u8 (c.toNat : Int)] w fun e w' => e = .returned .nilIface ∧ IsB B b (l ++ [c]) w' ∧ Below B w w' :=
  (Any.Builder_WriteByte_k Tryz.layB167 Tryz.XB167 B b (Lib.byteCells l) c.toNat w h (by simpa [Lib.byteCells] using hlen) hBw).mono fun e w' ⟨h1, h2, h3, h4⟩ => ⟨h1, .inr (by simp only [Lib.byteCells, List.map_append, List.map_cons, List.map_nil] at h2 ⊢; exact h2), h3⟩
theorem writeString_any (B b : Nat) (l : List UInt8) (s : ByteArray) (w : World) (h : IsB B b l w) (hlen : l.length + s.size ≤ 140737488355328) (hBw : B ≤ w.heap.size) :
    Calls Tryz.prog 14 #[.pointer (some ⟨b, 0, none⟩), .string s] w fun e w' => e = .returned (.tuple #[.int .i64 s.size, .nilIface]) ∧ IsB B b (l ++ s.data.toList) w' ∧ Below B w w' :=
  (Any.Builder_WriteString_k Tryz.layB166 Tryz.XB166 B b (Lib.byteCells l) s w h (by simpa [Lib.byteCells] using hlen) hBw).mono fun e w' ⟨h1, h2, h3, h4⟩ => ⟨h1, .inr (by simp only [Lib.byteCells, Lib.strCells, List.map_append] at h2 ⊢; exact h2), h3⟩
theorem bString_any (B b : Nat) (l : List UInt8) (w : World) (h : IsB B b l w) (hBw : B ≤ w.heap.size) :
    Calls Tryz.prog 18 #[.pointer (some ⟨b, 0, none⟩)] w fun e w' => e = .returned (.string ⟨l.toArray⟩) ∧ IsB B b l w' ∧ Below B w w' :=
  (Tryz.Builder_String_any_k B b l w h hBw).mono fun e w' ⟨h1, h2, h3, _⟩ => ⟨h1, h2, h3⟩
theorem isB_new (w : World) (B : Nat) (hB : B ≤ w.heap.size) : IsB B w.heap.size [] (w.alloc (.cells #[.pointer none, .slice none 0 0] 50)) :=
  Lib.IsBuilderF.of (.inl ⟨hB, .slice none 0 0, heap_alloc_new w _, World.ownsRow_nil _ _ _ _, by simp [Value.ownBlock]⟩)
end Go.Proofs.YtemiamajgjfnbaaGreatDoor
