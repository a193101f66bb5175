/- The document's answer: Escaped, word. -/
import Derived.Test.YtgkpbpcebgegbaaDoorEvV
import Derived.Test.YtgkpbpcebgegbaaDoorEvE
namespace Go.Proofs.YtgkpbpcebgegbaaDoor
open Go.RowKit Ev
set_option linter.unusedVariables false
set_option linter.unusedSimpArgs false

/-- append of some bytes that lie in a block of their own, at a step of a region that draws its order. -/
theorem step_append_bytes {ops : Array Oper} {o : Oper} {a : Act} {K : Act → World → Prop} {Q : Exit → Act → World → Prop} {E : Prop} {w : World} (hgd : o.guard = none) (s x : Operand)
    (ho : o.op = .call { callee := .builtin .append, args := #[s, x], argTypes := #[62, 62] })
    (base : Nat) (v : Value) (l ys : List UInt8) (hs : a.eval s = v) (hown : OwnB w base v l) (n : Nat)
    (hx : a.eval x = .slice (some ⟨n, 0, none⟩) ys.length ys.length) (hy : w.heap[n]? = some (.cells (Lib.byteCells ys).toArray 5 (0, 0))) (hpos : 0 < ys.length) (hlen : l.length + ys.length ≤ 140737488355328) (hbase : base ≤ w.heap.size)
    (h : ∀ g cap w', OwnB w' base (.slice (some ⟨g, 0, none⟩) (l.length + ys.length) cap) (l ++ ys) → w.grownBy w' v.ownBlock → K (a.put o.dst (.slice (some ⟨g, 0, none⟩) (l.length + ys.length) cap)) w') :
    if Region.wanted o (yielded ops a.tmps) = true then Oper.wp Tryd.prog o a w K Q else E := by
  obtain ⟨i0, hi, hz0, hz1, hz2⟩ := info_parts byte_info
  refine step_append_lies _ hgd s x 62 ho base 5 i0 (.int .u8 0) 1 1 Tryd.underlying62 hi hz0 hz1 hz2 rfl (by decide) v l.length (Lib.byteCells l) hs hown
    ⟨n, 0, none⟩ ys.length ys.length (Lib.byteCells ys) hx (by simp [Lib.byteCells]) ?_ (by intro u hu; simp [Lib.byteCells] at hu; obtain ⟨b, _, rfl⟩ := hu; rfl) hpos (by unfold maxLen; omega) (by omega) hbase w.heap.size rfl ?_
  · exact fun j u hj => World.news_of_block hy j u (by simpa using hj)
  · intro g cap w' h1 h2 _ _
    refine h _ _ w' ?_ h2
    unfold OwnB
    rw [List.length_append]
    simpa [Lib.byteCells] using h1

theorem nib_eq (n : Nat) (h : n < 16) : ((⟨#[48, 49, 50, 51, 52, 53, 54, 55, 56, 57, 97, 98, 99, 100, 101, 102]⟩ : ByteArray)[n]'h) = nib n := by
  have := nib_at n h
  exact UInt8.toNat_inj.1 (by omega)

set_option maxHeartbeats 4000000 in
set_option maxRecDepth 100000 in
theorem escq_any (s : ByteArray) (w : World) (hs : s.size ≤ 100000) :
    Calls Tryd.prog 17 #[.string s] w fun e w' => e = .returned (.string (bt (esc s.data.toList))) ∧ Below w.heap.size w w' := by
  go_enter Tryd.func17, Tryd.ntmps17
  go_wp2_with fail
  go_loopw [3, 4] (fun v i wr => ∃ k : Nat, i = .int .i64 k ∧ k ≤ s.size ∧ Hid (OwnB wr w.heap.size v (esc (s.data.toList.take k))) ∧ Hid (Below w.heap.size w wr)) (fun _ i _ => s.size - (intOf i).toNat)
  case atStart => exact ⟨0, rfl, Nat.zero_le _, Lib.hid (OwnB.nil _ _), Lib.hid (Below.refl _ _)⟩
  case round =>
    obtain ⟨k, rfl, hk, HO, HW⟩ := hrel
    have hL : (esc (s.data.toList.take k)).length ≤ 3 * s.size := by
      have h1 := esc_len (s.data.toList.take k)
      have h2 : (s.data.toList.take k).length ≤ k := by simp; omega
      omega
    by_cases hlt : k < s.size
    · have hsn := esc_snoc s.data.toList k hlt
      rw [data_get s k hlt] at hsn
      have HSN := Lib.hid hsn; clear hsn
      generalize esc (s.data.toList.take k) = L at HO HSN hL
      have hWs := HW.out.size
      cases hpl : plainI (s[k].toNat : Int) with
      | true =>
        go_wp2_with (first | (go_at_call 37; refine (stands_any _ _).mono ?_; rintro e w' ⟨rfl, rfl⟩) | (at_builtin; refine wp_append_byte rfl (.tmp 15) (.tmp 19) rfl w.heap.size _ L s[k] _ rfl rfl HO.out rfl (by omega) HW.out.size ?_; intro v' w' hown hgr; have HO' := Lib.hid hown; have HGR := Lib.hid hgr; clear hown hgr))
        go_roundw
        case rel =>
          go_light
          refine ⟨k + 1, by go_num, by omega, Lib.hid ?_, Lib.hid ?_⟩
          · rw [HSN.out, esc1, if_pos (show plainB s[k] = true from hpl)]; exact HO'.out
          · exact (HW.out.alloc HW.out.size _).grown HGR.out (Nat.le_trans HW.out.size (by simp)) fun i hi => (World.ownsRow.lt HO.out i hi).1
        case measure => go_light; simp [intOf]; omega
      | false =>
        have hn1 := nib_hi s[k]
        have hn2 : s[k].toNat % 16 < 16 := Nat.mod_lt _ (by decide)
        have p0 : (0 : Int) ≤ (s[k].toNat : Int) / 16 := by omega
        have p1 : (s[k].toNat : Int) / 16 < 16 := by omega
        have p2 : (0 : Int) ≤ (s[k].toNat : Int) % 16 := by omega
        have p3 : (s[k].toNat : Int) % 16 < 16 := by omega
        have m1 : (s[k].toNat : Int).tmod 16 = (s[k].toNat : Int) % 16 := Int.tmod_eq_emod_of_nonneg (by omega)
        have m2 : (s[k].toNat : Int).tdiv 16 = (s[k].toNat : Int) / 16 := Int.tdiv_eq_ediv_of_nonneg (by omega)
        have q1 : IntKind.u8.wrap ((s[k].toNat : Int) / 16) = (s[k].toNat : Int) / 16 := IntWalk.u8_in _ (by omega)
        have q2 : IntKind.u8.wrap ((s[k].toNat : Int) % 16) = (s[k].toNat : Int) % 16 := IntWalk.u8_in _ (by omega)
        have r1 : ((s[k].toNat : Int) / 16).toNat = s[k].toNat / 16 := by omega
        have r2 : ((s[k].toNat : Int) % 16).toNat = s[k].toNat % 16 := by omega
        go_upto_region 7 with (go_at_call 37; refine (stands_any _ _).mono ?_; rintro e w' ⟨rfl, rfl⟩)
        have HOd := Lib.hid (HO.out.same (w' := wr.drew) rfl)
        have i0 : (0 : Int) ≤ (k : Int) := by omega
        have i1 : (k : Int) < (s.size : Int) := by omega
        go_region_law (first | (refine step_append_bytes rfl (.tmp 21) (.tmp 32) (by rfl) w.heap.size _ L [37, (⟨#[48, 49, 50, 51, 52, 53, 54, 55, 56, 57, 97, 98, 99, 100, 101, 102]⟩ : ByteArray)[s[k].toNat / 16]'hn1, (⟨#[48, 49, 50, 51, 52, 53, 54, 55, 56, 57, 97, 98, 99, 100, 101, 102]⟩ : ByteArray)[s[k].toNat % 16]'hn2] (by rfl) (World.ownsRow.alloc HOd.out _) wr.heap.size (by rfl) (heap_alloc_new _ _) (by simp) (by simp; omega) (by simp; omega) ?_; intro g6 cap6 w6 hown hgr; have HO6 := Lib.hid hown; have HG6 := Lib.hid hgr; clear hown hgr) | fail)
        all_goals (
          go_wp2_with fail
          go_roundw
          case rel =>
            go_light
            refine ⟨k + 1, by go_num, by omega, Lib.hid ?_, Lib.hid ?_⟩
            · rw [HSN.out, esc1, if_neg (show ¬ plainB s[k] = true by unfold plainB; rw [hpl]; decide), ← nib_eq _ hn1, ← nib_eq _ hn2]; exact HO6.out
            · exact ((HW.out.alloc HW.out.size _).drew).grown HG6.out (Nat.le_trans HW.out.size (by show wr.heap.size ≤ (wr.alloc _).heap.size; simp)) fun i hi => (World.ownsRow.lt HO.out i hi).1
          case measure => go_light; simp [intOf]; omega)
    · obtain rfl : k = s.size := by omega
      have hall : esc (s.data.toList.take s.size) = esc s.data.toList := by rw [List.take_of_length_le (by exact Nat.le_refl _)]
      rw [hall] at HO
      have hconv := own_string (w := wr) Tryd.underlying62 Tryd.underlying9 HO.out
      go_wp2_with fail
      go_ret
      exact ⟨rfl, HW.out⟩
end Go.Proofs.YtgkpbpcebgegbaaDoor
