/- errors.As at an error of vector's own, walked. -/
import Derived.Test.YtemiamajgjfnbaaGreatDoorVcAs
import Derived.Deep.Light
namespace Go.Proofs.YtemiamajgjfnbaaGreatDoor
open Go.RowKit Go.Extern.Stop Go.Stop Go.Extern
set_option linter.unusedVariables false
set_option linter.unusedSimpArgs false
theorem as_methodKind (h : Value) (w : World) : (Go.method 296 106 (.agg #[h]) "Kind").run Tryz.prog w = .ok (115, h) w := by kernel_rfl
theorem as_methodElem (h : Value) (w : World) : (Go.method 296 106 (.agg #[h]) "Elem").run Tryz.prog w = .ok (129, .agg #[h]) w := by kernel_rfl
theorem as_methodImplements (h : Value) (w : World) : (Go.method 296 106 (.agg #[h]) "Implements").run Tryz.prog w = .ok (130, .agg #[h]) w := by kernel_rfl
theorem as_methodAssignableTo (h : Value) (w : World) : (Go.method 296 106 (.agg #[h]) "AssignableTo").run Tryz.prog w = .ok (127, .agg #[h]) w := by kernel_rfl
theorem as_methodUnwrap (a : Addr) (w : World) : (Go.method 296 82 (.pointer (some a)) "Unwrap").run Tryz.prog w = .ok (122, .pointer (some a)) w := by kernel_rfl
theorem as_noAs (v : Value) (xT : TypeId) (w : World) : (Instr.typeAssert (.iface 82 v) xT 111 true).run Tryz.prog w = .ok (.tuple #[.nilIface, .bool false]) w :=
  run_typeAssert_lacksB Tryz.underlying111 (by kernel_rfl) (by kernel_rfl) v xT w
theorem as_hasUnwrap (v : Value) (xT : TypeId) (w : World) : (Instr.typeAssert (.iface 82 v) xT 114 true).run Tryz.prog w = .ok (.tuple #[.iface 82 v, .bool true]) w :=
  run_typeAssert_hasB Tryz.underlying114 (by kernel_rfl) v xT w
set_option maxHeartbeats 4000000 in
set_option maxRecDepth 20000 in
theorem as_bad (bb ff p : Nat) (x : ByteArray) (t : Nat) (w : World) (hg : Glob w) (h1 : w.heap[bb]? = some (.cells #[.string x, .pointer (some ⟨ff, 0, none⟩)] 84 (0, 0)))
    (ht : w.heap[t]? = some (.cells #[.pointer none] 71 (0, 0))) :
    Calls Tryz.prog 29 #[.iface 82 (.pointer (some ⟨bb, 0, none⟩)), .iface 73 (.pointer (some ⟨t, 0, none⟩))] w fun ev w' => ev = .returned (.bool true) ∧ ∃ w1, Below w.heap.size w w1 ∧ w' = w1.setCell ⟨t, 0, none⟩ (.pointer (some ⟨ff, 0, none⟩)) := by
  have h6 := @run_callFunc_extern Tryz.prog 42 _ (fun args => ReflectliteValue.unpack (args.getD 0 (.tuple #[]))) Tryz.func42 (by kernel_rfl) (by kernel_rfl) (by kernel_rfl) (by kernel_rfl)
  have h7 := @run_callFunc_extern Tryz.prog 43 _ (ReflectliteValue.methodAny (ReflectliteValue.valueError "reflectlite.Value.Type" 0) (fun t _ _ _ => ReflectliteType.toType t)) Tryz.func43 (by kernel_rfl) (by kernel_rfl) (by kernel_rfl) (by kernel_rfl)
  have h8 := @run_callFunc_extern Tryz.prog 44 _ (ReflectliteValue.method (ReflectliteValue.valueError "reflectlite.Value.IsNil" 0) ReflectliteValue.isNil) Tryz.func44 (by kernel_rfl) (by kernel_rfl) (by kernel_rfl) (by kernel_rfl)
  have h27 := @run_callFunc_extern Tryz.prog 115 _ (ReflectliteType.abiMethod fun t => do pure (.int .u8 (← Rtype.kind t))) Tryz.func115 (by kernel_rfl) (by kernel_rfl) (by kernel_rfl) (by kernel_rfl)
  have h37 := @run_callFunc_extern Tryz.prog 129 _ (ReflectliteType.method ReflectliteType.elem) Tryz.func129 (by kernel_rfl) (by kernel_rfl) (by kernel_rfl) (by kernel_rfl)
  have h38 := @run_callFunc_extern Tryz.prog 130 _ (ReflectliteType.relation "Implements" ReflectliteType.implements_) Tryz.func130 (by kernel_rfl) (by kernel_rfl) (by kernel_rfl) (by kernel_rfl)
  have h10 := @run_callFunc_extern Tryz.prog 55 _ ReflectliteType.typeOf Tryz.func55 (by kernel_rfl) (by kernel_rfl) (by kernel_rfl) (by kernel_rfl)
  have h35 := @run_callFunc_extern Tryz.prog 127 _ (ReflectliteType.relation "AssignableTo" ReflectliteType.assignableTo) Tryz.func127 (by kernel_rfl) (by kernel_rfl) (by kernel_rfl) (by kernel_rfl)
  have h11 := @run_callFunc_extern Tryz.prog 56 _ (ReflectliteValue.method (ReflectliteValue.valueError "reflectlite.Value.Elem" 0) ReflectliteValue.elem) Tryz.func56 (by kernel_rfl) (by kernel_rfl) (by kernel_rfl) (by kernel_rfl)
  have h12 := @run_callFunc_extern Tryz.prog 57 _ ReflectliteValue.set Tryz.func57 (by kernel_rfl) (by kernel_rfl) (by kernel_rfl) (by kernel_rfl)
  have tO := as_typeOfP
  have tB := as_typeOfB
  have mA := as_methodAssignableTo
  have aP := as_assignableP
  have aB := as_assignableB
  have vP := as_valueOfP
  have vPP := as_valueOfPP
  have tPP := as_typePP
  have mK := as_methodKind
  have mE := as_methodElem
  have mI := as_methodImplements
  have mU := as_methodUnwrap
  have kPP := as_kindPP
  have kP := as_kindP
  have ePP := as_elemPP
  have iP := as_implementsP
  have nA := as_noAs
  have hU := as_hasUnwrap
  have hlt : bb < w.heap.size := (Array.getElem?_eq_some_iff.1 h1).1
  have htl : t < w.heap.size := (Array.getElem?_eq_some_iff.1 ht).1
  have hgs := hg.size
  have hg0 := hg.errT
  have ht0 : w.cell? ⟨t, 0, none⟩ = some (.pointer none) := by simp [World.cell?, ht]
  have hf0 : w.frozen? ⟨t, 0, none⟩ = false := by simp [World.frozen?, ht]
  have n8 := as_isNilPP ⟨w.heap.size, 0, none⟩ ⟨t, 0, none⟩ ((w.alloc (.cells #[.pointer (some ⟨t, 0, none⟩)] 73)).alloc (.cells #[.pointer (some ⟨9, 73, none⟩), .pointer (some ⟨w.heap.size, 0, none⟩), .int .u64 150] 88)) (by simp)
  have hg2 : ((w.alloc (.cells #[.pointer (some ⟨t, 0, none⟩)] 73)).alloc (.cells #[.pointer (some ⟨9, 73, none⟩), .pointer (some ⟨w.heap.size, 0, none⟩), .int .u64 150] 88)).cell? ⟨0, 0, none⟩ = some (.iface 106 (.agg #[.pointer (some ⟨9, 52, none⟩)])) := by
    rw [World.cell?_alloc_lt _ _ ⟨0, 0, none⟩ (by simp), World.cell?_alloc_lt _ _ ⟨0, 0, none⟩ (by show 0 < w.heap.size; omega)]; exact hg0
  have el := as_elemVPP ⟨w.heap.size, 0, none⟩ ⟨t, 0, none⟩ (((w.alloc (.cells #[.pointer (some ⟨t, 0, none⟩)] 73)).alloc (.cells #[.pointer (some ⟨9, 73, none⟩), .pointer (some ⟨w.heap.size, 0, none⟩), .int .u64 150] 88)).alloc (.cells #[.pointer (some ⟨9, 73, none⟩), .pointer (some ⟨w.heap.size, 0, none⟩), .int .u64 150] 88)) (by rw [World.cell?_alloc_lt _ _ ⟨w.heap.size, 0, none⟩ (by simp; omega)]; simp)
  have st := as_setP ⟨t, 0, none⟩ ⟨w.heap.size + 1 + 1 + 1, 0, none⟩ ⟨ff, 0, none⟩ (.pointer none) ((((w.alloc (.cells #[.pointer (some ⟨t, 0, none⟩)] 73)).alloc (.cells #[.pointer (some ⟨9, 73, none⟩), .pointer (some ⟨w.heap.size, 0, none⟩), .int .u64 150] 88)).alloc (.cells #[.pointer (some ⟨9, 73, none⟩), .pointer (some ⟨w.heap.size, 0, none⟩), .int .u64 150] 88)).alloc (.cells #[.pointer (some ⟨ff, 0, none⟩)] 71))
    (by rw [World.cell?_alloc_at _ _ _ _ (by simp)]; rfl)
    (by rw [World.cell?_alloc_lt _ _ ⟨t, 0, none⟩ (by simp; omega), World.cell?_alloc_lt _ _ ⟨t, 0, none⟩ (by simp; omega), World.cell?_alloc_lt _ _ ⟨t, 0, none⟩ (by simp; omega), World.cell?_alloc_lt _ _ ⟨t, 0, none⟩ htl]; exact ht0)
    (by rw [World.frozen?_alloc_old _ _ ⟨t, 0, none⟩ (by simp; omega), World.frozen?_alloc_old _ _ ⟨t, 0, none⟩ (by simp; omega), World.frozen?_alloc_old _ _ ⟨t, 0, none⟩ (by simp; omega), World.frozen?_alloc_old _ _ ⟨t, 0, none⟩ (Nat.ne_of_lt htl)]; exact hf0)
  have HB : Hid (∀ w', w'.heap[bb]? = w.heap[bb]? → Calls Tryz.prog 122 #[.pointer (some ⟨bb, 0, none⟩)] w' fun e w'' => e = .returned (.iface 71 (.pointer (some ⟨ff, 0, none⟩))) ∧ w'' = w') := Lib.hid fun w' hh => unwrap_any bb ff _ w' (hh.trans h1)
  clear h1 ht
  go_enter Tryz.func29, Tryz.ntmps29
  go_wp2
  refine wp_loop_rounds 2 ?_
  rw [rounds_succ]
  go_wp2_with (go_at_call 122; refine (HB.out _ (by rw [Below.heap_alloc _ _ _ (by simp; omega), Below.heap_alloc _ _ _ (by simp; omega), Below.heap_alloc _ _ _ hlt])).mono ?_; rintro e w' ⟨rfl, rfl⟩)
  rw [rounds_succ]
  go_wp2
  go_ret
  exact ⟨rfl, _, (((((Below.refl _ _).alloc (Nat.le_refl _) _).alloc (by simp) _).alloc (by simp; omega) _).alloc (by simp; omega) _), rfl⟩
end Go.Proofs.YtemiamajgjfnbaaGreatDoor
