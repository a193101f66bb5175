/- An event that comes in, opened: its nine cells. -/
import Derived.Test.YtgkpbpcebgegbaaDoorRows
import Derived.ProofKit
import Derived.Lib.SmallJoins
namespace Go.Proofs.YtgkpbpcebgegbaaDoor
open Go.ChangeShapes Go.WideShapes Go.ChangeAt Go.RowKit
set_option linter.unusedVariables false
set_option linter.unusedSimpArgs false
set_option maxRecDepth 100000 in
theorem open_event {H : Type} {enc : TypeId × Value → H} {W : World} {r : Reach} {b0 base : Nat} {sp : Nat → Bool} {held : Bool} {v : Value} {d : DataW H} {p : List MemPlace}
    (hv : Value.okWide Tryd.prog W r b0 29 v) (h : DataW.Trod enc Tryd.prog W base sp held 29 v d p) :
    ∃ (k ax ay sw sh m n : Int) (nm tx : ByteArray), v = .agg #[.int .u8 k, .int .i64 ax, .int .i64 ay, .int .i64 sw, .int .i64 sh, .string nm, .int .u8 m, .string tx, .int .i64 n] ∧ 0 ≤ m ∧ nm.size ≤ maxLen ∧ tx.size ≤ maxLen := by
  obtain ⟨cs, rfl, hsz⟩ := okWide_struct Tryd.underlying29 hv
  obtain ⟨l⟩ := cs
  have hC : Tryd.prog.cellsOf 29 = 9 := by kernel_rfl
  match l, hsz.trans hC with
  | [c0, c1, c2, c3, c4, c5, c6, c7, c8], _ =>
    obtain ⟨fuel, hf⟩ := h
    obtain ⟨xs, n0, _, hx, _, hlen, hg⟩ := DataW.trod_struct Tryd.underlying29 hf
    have g0 := hg 0 _ rfl
    have g1 := hg 1 _ rfl
    have g2 := hg 2 _ rfl
    have g3 := hg 3 _ rfl
    have g4 := hg 4 _ rfl
    have g5 := hg 5 _ rfl
    clear hg
    have e5 : Tryd.prog.cellsOf 5 = 1 := by kernel_rfl
    have e3 : Tryd.prog.cellsOf 3 = 1 := by kernel_rfl
    have e9 : Tryd.prog.cellsOf 9 = 1 := by kernel_rfl
    have eP : Tryd.prog.cellsOf 23 = 2 := by kernel_rfl
    have eS : Tryd.prog.cellsOf 25 = 2 := by kernel_rfl
    have eK : Tryd.prog.cellsOf 27 = 2 := by kernel_rfl
    match xs, hlen with
    | [y0, y1, y2, y3, y4, y5], _ =>
      simp only [Value.cells, e5, e3, e9, eP, eS, eK, List.drop, List.take, List.getElem?_cons_zero, List.getElem?_cons_succ] at g0 g1 g2 g3 g4 g5
      obtain ⟨k, hk, _, _⟩ := DataW.trod_int Tryd.underlying5 g0
      obtain ⟨z0, z1, n1, _, _, q0, q1⟩ := trod_struct2 Tryd.underlying23 g1
      obtain ⟨z2, z3, n2, _, _, q2, q3⟩ := trod_struct2 Tryd.underlying25 g2
      obtain ⟨z4, z5, n3, _, _, q4, q5⟩ := trod_struct2 Tryd.underlying27 g3
      simp only [e5, e3, e9, List.drop, List.take] at q0 q1 q2 q3 q4 q5
      obtain ⟨ax, hax, _, _⟩ := DataW.trod_int Tryd.underlying3 q0
      obtain ⟨ay, hay, _, _⟩ := DataW.trod_int Tryd.underlying3 q1
      obtain ⟨sw, hsw, _, _⟩ := DataW.trod_int Tryd.underlying3 q2
      obtain ⟨sh, hsh, _, _⟩ := DataW.trod_int Tryd.underlying3 q3
      obtain ⟨nm, hnm, _, hnl⟩ := DataW.trod_string Tryd.underlying9 q4
      obtain ⟨m, hm, _, hmw⟩ := DataW.trod_int Tryd.underlying5 q5
      obtain ⟨tx, htx, _, htl⟩ := DataW.trod_string Tryd.underlying9 g4
      obtain ⟨n, hn, _, _⟩ := DataW.trod_int Tryd.underlying3 g5
      cases hk; cases hax; cases hay; cases hsw; cases hsh; cases hnm; cases hm; cases htx; cases hn
      refine ⟨k, ax, ay, sw, sh, m, n, nm, tx, rfl, ?_, hnl, htl⟩
      simp [Lit.wf, IntKind.min, IntKind.max, IntKind.signed, IntKind.bits] at hmw
      exact hmw.1
end Go.Proofs.YtgkpbpcebgegbaaDoor
