/- Lemmas towards the statement Smallest of termsearch: walks of the program's functions and plain laws on lists (TsErrsP, TsToldB, TsStates, TsSmallP, TsSmallest). Conditions: those that each theorem names. -/
import Derived.Test.YtglafkgakcfahaaGreatDoorSmallestPS
import Derived.BigQuiet
import Derived.Test.YtglafkgakcfahaaGreatDoorSmallestPQ
import Derived.KernelRfl
set_option linter.unusedVariables false
set_option linter.unusedSimpArgs false
set_option linter.unusedSectionVars false
namespace Go.Proofs.Ts
open Go Go.RowKit Go.Extern.Stop Go.Stop Go.Extern
theorem rl_typeOfP (v : Value) (w : World) : (ReflectliteType.typeOf #[.iface 103 v]).run Tryz.prog w = .ok (.iface 222 (.agg #[.pointer (some ⟨5, 103, none⟩)])) w := by kernel_rfl
theorem rl_assignablePP (w : World) : (ReflectliteType.relation "AssignableTo" ReflectliteType.assignableTo #[.agg #[.pointer (some ⟨5, 103, none⟩)], .iface 222 (.agg #[.pointer (some ⟨5, 103, none⟩)])]).run Tryz.prog w = .ok (.bool true) w := by kernel_rfl
theorem rl_valueOfP (p : Addr) (w : World) : (ReflectliteValue.unpack (.iface 103 (.pointer (some p)))).run Tryz.prog w = .ok (.agg #[.pointer (some ⟨5, 103, none⟩), .pointer (some ⟨w.heap.size, 0, none⟩), .int .u64 150]) (w.alloc (.cells #[.pointer (some p)] 103)) := by kernel_rfl
theorem rl_elemOfB (w : World) : (Rtype.elem? 105).run Tryz.prog w = .ok (some 103) w := by kernel_rfl
theorem rl_mkP (p : Addr) (w : World) : (ReflectliteValue.mk 103 p ReflectliteValue.flagAddr).run Tryz.prog w = .ok (.agg #[.pointer (some ⟨5, 103, none⟩), .pointer (some p), .int .u64 406]) w := by kernel_rfl
theorem rl_elemVB (a p : Addr) (W : World) (ha : W.cell? a = some (.pointer (some p))) :
  (ReflectliteValue.method (ReflectliteValue.valueError "reflectlite.Value.Elem" 0) ReflectliteValue.elem #[.agg #[.pointer (some ⟨5, 105, none⟩), .pointer (some a), .int .u64 150]]).run Tryz.prog W
   = .ok (.agg #[.pointer (some ⟨5, 103, none⟩), .pointer (some p), .int .u64 406]) W := by
 rw [rlm]
 simp only [Sem.run_bind, rl_partsB, Result.andThen]
 simp [ReflectliteValue.elem, loadVar, isAgg, underlying, Tryz.underlying105, ha, Result.andThen, rl_elemOfB, rl_mkP]
theorem rl_partsPa (a : Addr) (w : World) : (ReflectliteValue.parts (.agg #[.pointer (some ⟨5, 103, none⟩), .pointer (some a), .int .u64 406])).run Tryz.prog w = .ok (some (103, a, 406)) w := by kernel_rfl
theorem rl_partsP (a : Addr) (w : World) : (ReflectliteValue.parts (.agg #[.pointer (some ⟨5, 103, none⟩), .pointer (some a), .int .u64 150])).run Tryz.prog w = .ok (some (103, a, 150)) w := by kernel_rfl
theorem rl_directP (w : World) : (Rtype.directlyAssignable 103 103).run Tryz.prog w = .ok true w := by kernel_rfl
theorem rl_setP (ta b : Addr) (p : Addr) (old : Value) (W : World) (hb : W.cell? b = some (.pointer (some p))) (ht : W.cell? ta = some old) (hf : W.frozen? ta = false) :
  (ReflectliteValue.set #[.agg #[.pointer (some ⟨5, 103, none⟩), .pointer (some ta), .int .u64 406], .agg #[.pointer (some ⟨5, 103, none⟩), .pointer (some b), .int .u64 150]]).run Tryz.prog W
   = .ok (.tuple #[]) (W.setCell ta (.pointer (some p))) := by
 rw [rls]
 simp only [Sem.run_bind, rl_partsPa, rl_partsP, Result.andThen]
 simp [ReflectliteValue.flagAddr, loadVar, isAgg, underlying, Tryz.underlying103, hb, Result.andThen, rl_directP, storeVar, Value.cells, storeCells, Addr.add]
 rw [run_store Tryz.prog W ta _ _ (by rfl)]
 simp [ht, hf]
set_option maxHeartbeats 4000000 in
theorem as_hitB (p : Addr) (b : Nat) (old : Value) (w : World) (hg : ErrIn w) (ht0 : w.cell? ⟨b, 0, none⟩ = some old) (hf0 : w.frozen? ⟨b, 0, none⟩ = false) :
  Calls Tryz.prog 43 #[.iface 103 (.pointer (some p)), .iface 105 (.pointer (some ⟨b, 0, none⟩))] w fun ev w' => ev = .returned (.bool true) ∧ ∃ w1, Below w.heap.size w w1 ∧ w' = w1.setCell ⟨b, 0, none⟩ (.pointer (some p)) := by
 have h6 := @run_callFunc_extern Tryz.prog 71 _ (fun args => ReflectliteValue.unpack (args.getD 0 (.tuple #[]))) Tryz.func71 (by kernel_rfl) (by kernel_rfl) (by kernel_rfl) (by kernel_rfl)
 have h7 := @run_callFunc_extern Tryz.prog 72 _ (ReflectliteValue.methodAny (ReflectliteValue.valueError "reflectlite.Value.Type" 0) (fun t _ _ _ => ReflectliteType.toType t)) Tryz.func72 (by kernel_rfl) (by kernel_rfl) (by kernel_rfl) (by kernel_rfl)
 have h8 := @run_callFunc_extern Tryz.prog 73 _ (ReflectliteValue.method (ReflectliteValue.valueError "reflectlite.Value.IsNil" 0) ReflectliteValue.isNil) Tryz.func73 (by kernel_rfl) (by kernel_rfl) (by kernel_rfl) (by kernel_rfl)
 have h27 := @run_callFunc_extern Tryz.prog 203 _ (ReflectliteType.abiMethod fun t => do pure (.int .u8 (← Rtype.kind t))) Tryz.func203 (by kernel_rfl) (by kernel_rfl) (by kernel_rfl) (by kernel_rfl)
 have h37 := @run_callFunc_extern Tryz.prog 226 _ (ReflectliteType.method ReflectliteType.elem) Tryz.func226 (by kernel_rfl) (by kernel_rfl) (by kernel_rfl) (by kernel_rfl)
 have h38 := @run_callFunc_extern Tryz.prog 227 _ (ReflectliteType.relation "Implements" ReflectliteType.implements_) Tryz.func227 (by kernel_rfl) (by kernel_rfl) (by kernel_rfl) (by kernel_rfl)
 have h10 := @run_callFunc_extern Tryz.prog 75 _ ReflectliteType.typeOf Tryz.func75 (by kernel_rfl) (by kernel_rfl) (by kernel_rfl) (by kernel_rfl)
 have h35 := @run_callFunc_extern Tryz.prog 224 _ (ReflectliteType.relation "AssignableTo" ReflectliteType.assignableTo) Tryz.func224 (by kernel_rfl) (by kernel_rfl) (by kernel_rfl) (by kernel_rfl)
 have h11 := @run_callFunc_extern Tryz.prog 103 _ (ReflectliteValue.method (ReflectliteValue.valueError "reflectlite.Value.Elem" 0) ReflectliteValue.elem) Tryz.func103 (by kernel_rfl) (by kernel_rfl) (by kernel_rfl) (by kernel_rfl)
 have h12 := @run_callFunc_extern Tryz.prog 104 _ ReflectliteValue.set Tryz.func104 (by kernel_rfl) (by kernel_rfl) (by kernel_rfl) (by kernel_rfl)
 have tO := rl_typeOfP
 have mA := rl_methodAssignable
 have a25 := rl_assignablePP
 have v25 := rl_valueOfP
 have f6 := rl_valueOfB
 have f7 := rl_typeB
 have mK := rl_methodKind
 have mE := rl_methodElem
 have mI := rl_methodImplements
 have k27 := rl_kindB
 have k25 := rl_kindP
 have e27 := rl_elemB
 have i25 := rl_implementsP
 have n8 := rl_isNilB ⟨w.heap.size, 0, none⟩ ⟨b, 0, none⟩ ((w.alloc (.cells #[.pointer (some ⟨b, 0, none⟩)] 105)).alloc (.cells #[.pointer (some ⟨5, 105, none⟩), .pointer (some ⟨w.heap.size, 0, none⟩), .int .u64 150] 169)) (by simp)
 have hlt : 0 < w.heap.size := lt_of_cell hg
 unfold ErrIn at hg
 have hg2 : ((w.alloc (.cells #[.pointer (some ⟨b, 0, none⟩)] 105)).alloc (.cells #[.pointer (some ⟨5, 105, none⟩), .pointer (some ⟨w.heap.size, 0, none⟩), .int .u64 150] 169)).cell? ⟨0, 0, none⟩ = some (.iface 222 (.agg #[.pointer (some ⟨5, 69, none⟩)])) := by
  rw [World.cell?_alloc_lt _ _ ⟨0, 0, none⟩ (by simp), World.cell?_alloc_lt _ _ ⟨0, 0, none⟩ hlt]; exact hg
 have htl : b < w.heap.size := lt_of_cell ht0
 have el := rl_elemVB ⟨w.heap.size, 0, none⟩ ⟨b, 0, none⟩ (((w.alloc (.cells #[.pointer (some ⟨b, 0, none⟩)] 105)).alloc (.cells #[.pointer (some ⟨5, 105, none⟩), .pointer (some ⟨w.heap.size, 0, none⟩), .int .u64 150] 169)).alloc (.cells #[.pointer (some ⟨5, 105, none⟩), .pointer (some ⟨w.heap.size, 0, none⟩), .int .u64 150] 169)) (by rw [World.cell?_alloc_lt _ _ ⟨w.heap.size, 0, none⟩ (by simp; omega)]; simp)
 have st := rl_setP ⟨b, 0, none⟩ ⟨w.heap.size + 1 + 1 + 1, 0, none⟩ p old ((((w.alloc (.cells #[.pointer (some ⟨b, 0, none⟩)] 105)).alloc (.cells #[.pointer (some ⟨5, 105, none⟩), .pointer (some ⟨w.heap.size, 0, none⟩), .int .u64 150] 169)).alloc (.cells #[.pointer (some ⟨5, 105, none⟩), .pointer (some ⟨w.heap.size, 0, none⟩), .int .u64 150] 169)).alloc (.cells #[.pointer (some p)] 103))
  (by rw [World.cell?_alloc_at _ _ _ _ (by simp)]; rfl)
  (by rw [World.cell?_alloc_lt _ _ ⟨b, 0, none⟩ (by simp; omega), World.cell?_alloc_lt _ _ ⟨b, 0, none⟩ (by simp; omega), World.cell?_alloc_lt _ _ ⟨b, 0, none⟩ (by simp; omega), World.cell?_alloc_lt _ _ ⟨b, 0, none⟩ htl]; exact ht0)
  (by rw [World.frozen?_alloc_old _ _ ⟨b, 0, none⟩ (by simp; omega), World.frozen?_alloc_old _ _ ⟨b, 0, none⟩ (by simp; omega), World.frozen?_alloc_old _ _ ⟨b, 0, none⟩ (by simp; omega), World.frozen?_alloc_old _ _ ⟨b, 0, none⟩ (Nat.ne_of_lt htl)]; exact hf0)
 go_enter Tryz.func43, Tryz.ntmps43
 go_wp2
 refine wp_loop_rounds 1 ?_
 rw [rounds_succ]
 go_wp2
 go_ret
 refine ⟨rfl, _, ?_, rfl⟩
 exact ((((Below.refl _ w).alloc (Nat.le_refl _) _).alloc (by simp) _).alloc (by simp; omega) _).alloc (by simp; omega) _
theorem rl_methodUnwrap (fu : Nat) (v : Value) (w : World) : (Go.method (fu + 1) 103 v "Unwrap").run Tryz.prog w = .ok (209, v) w := by kernel_rfl
theorem rl_noIsB (v : Value) (xT : TypeId) (w : World) : (Instr.typeAssert (.iface 103 v) xT 234 true).run Tryz.prog w = .ok (.tuple #[.nilIface, .bool false]) w := run_typeAssert_lacksB Tryz.underlying234 (by kernel_rfl) (by kernel_rfl) v xT w
theorem rl_hasUnwrapB (v : Value) (xT : TypeId) (w : World) : (Instr.typeAssert (.iface 103 v) xT 229 true).run Tryz.prog w = .ok (.tuple #[.iface 103 v, .bool true]) w := run_typeAssert_hasB Tryz.underlying229 (by kernel_rfl) v xT w
theorem eq_bad (v : Value) (k : Int) (w : World) : (binOp BinOp.eql 69 (.iface 103 v) (.iface 33 (.int .i64 k))).run Tryz.prog w = .ok (.bool false) w := by kernel_rfl
set_option maxRecDepth 100000 in
set_option maxHeartbeats 4000000 in
/-- An error with a place is its number. -/
theorem is_bad (k t : Int) (b : Nat) (w : World) (hb : w.heap[b]? = some (.cells #[.int .i64 k, .int .i64 t] 108 (0, 0))) :
  Calls Tryz.prog 44 #[.iface 103 (.pointer (some ⟨b, 0, none⟩)), .iface 33 (.int .i64 k)] w fun ev w' => ev = .returned (.bool true) ∧ Below w.heap.size w w' := by
 have h10 := @run_callFunc_extern Tryz.prog 75 _ ReflectliteType.typeOf Tryz.func75 (by kernel_rfl) (by kernel_rfl) (by kernel_rfl) (by kernel_rfl)
 have h35 := @run_callFunc_extern Tryz.prog 225 _ (ReflectliteType.method (fun t => do Rtype.noPackHeld "Comparable" t; pure (.bool (← typeInfo t).comparable))) Tryz.func225 (by kernel_rfl) (by kernel_rfl) (by kernel_rfl) (by kernel_rfl)
 have c0 : w.cell? ⟨b, 0, none⟩ = some (.int .i64 k) := cell_block hb
 have tO := rl_typeOfN
 have mC := rl_methodComparable
 have cN := rl_comparableN
 have eE := eq_errno
 have eB := eq_bad
 have n1 := rl_noIsB
 have n2 := rl_hasUnwrapB
 have mU := rl_methodUnwrap
 clear hb
 go_enter Tryz.func44, Tryz.ntmps44
 go_wp2
 refine wp_loop_rounds 2 ?_
 rw [rounds_succ]
 go_wp2
 rw [rounds_succ]
 go_wp2
 go_ret
 exact ⟨rfl, Below.refl _ _⟩
end Go.Proofs.Ts
namespace Go.Proofs.Ts
open Go Go.RowKit Go.Extern.Stop Go.Stop Go.Extern
set_option maxRecDepth 100000 in
set_option maxHeartbeats 4000000 in
theorem told_bad (k t : Int) (b : Nat) (w : World) (hg : ErrIn w) (hb : w.heap[b]? = some (.cells #[.int .i64 k, .int .i64 t] 108 (0, 0))) :
    Calls Tryz.prog 32 #[.iface 103 (.pointer (some ⟨b, 0, none⟩))] w fun e w' => e = .returned (.tuple #[.int .i64 k, .int .i64 t]) ∧ Below w.heap.size w w' := by
  have HG := Lib.hid hg
  have HB := Lib.hid hb
  clear hg hb
  go_enter Tryz.func32, Tryz.ntmps32
  go_upto_region 5 with fail
  have hbe : Below w.heap.size w ((w.alloc (.cells #[.pointer none] 103)).alloc (.cells #[.int .i64 0] 33)) := ((Below.refl _ w).alloc (Nat.le_refl _) _).alloc (by simp) _
  have hb4 : ((w.alloc (.cells #[.pointer none] 103)).alloc (.cells #[.int .i64 0] 33)).heap[w.heap.size]? = some (.cells #[.pointer none] 103 (0, 0)) := (((Below.refl _ _).alloc (Nat.le_refl _) (.cells #[.int .i64 0] 33)).block _ (by simp)).trans (heap_alloc_new w (.cells #[.pointer none] 103))
  generalize ((w.alloc (.cells #[.pointer none] 103)).alloc (.cells #[.int .i64 0] 33)) = W at *
  have hit := as_hitB ⟨b, 0, none⟩ w.heap.size _ W (HG.out.below hbe) (cell_block (i := 0) hb4) (free_block hb4)
  have HIT := Lib.hid hit
  have HBE := Lib.hid hbe
  have HB4 := Lib.hid hb4
  clear hbe hb4 hit
  go_upto_region 6 with (first
    | (go_at_call 43; refine HIT.out.mono ?_; rintro e w2 ⟨rfl, w3, hb3, rfl⟩
       have h34 := (hb3.block _ (lt_of_heap HB4.out)).trans HB4.out
       have hw3 : Below w.heap.size w (w3.setCell ⟨w.heap.size, 0, none⟩ (.pointer (some ⟨b, 0, none⟩))) := (HBE.out.trans (hb3.mono HBE.out.size)).setCell (p := ⟨w.heap.size, 0, none⟩) (Nat.le_refl _) _
       have hbb := (hw3.block _ (lt_of_heap HB.out)).trans HB.out
       have cP : (w3.setCell ⟨w.heap.size, 0, none⟩ (.pointer (some ⟨b, 0, none⟩))).cell? ⟨w.heap.size, 0, none⟩ = some (.pointer (some ⟨b, 0, none⟩)) := World.cell?_setCell_same' _ _ _ (by rw [cell_block h34]; rfl)
       have cK : (w3.setCell ⟨w.heap.size, 0, none⟩ (.pointer (some ⟨b, 0, none⟩))).cell? ⟨b, 0, none⟩ = some (.int .i64 k) := cell_block hbb
       have HW3 := Lib.hid (And.intro hw3 hbb)
       clear hb3 h34 hw3 hbb
       generalize w3.setCell ⟨w.heap.size, 0, none⟩ (.pointer (some ⟨b, 0, none⟩)) = W5 at *)
    | (go_at_call 44; refine (is_bad k t b _ HW3.out.2).mono ?_; rintro e w4 ⟨rfl, hb4⟩
       have hP := (hb4.cell (p := ⟨w.heap.size, 0, none⟩) (lt_of_cell cP)).trans cP
       have hbb := (hb4.block _ (lt_of_heap HW3.out.2)).trans HW3.out.2
       have HW4 := Lib.hid (And.intro (HW3.out.1.trans (hb4.mono HW3.out.1.size)) hbb)
       clear hb4 cP cK
       have cP := hP
       have cK : w4.cell? ⟨b, 0, none⟩ = some (.int .i64 k) := cell_block hbb
       have cT : w4.cell? ⟨b, 1, none⟩ = some (.int .i64 t) := cell_block hbb
       clear hP hbb))
  go_quiet (fail)
  go_wp2_with fail
  go_ret2
  exact ⟨rfl, HW4.out.1.trans ((Same.drewN _ _).below _)⟩
end Go.Proofs.Ts
namespace Go.Proofs.Ts
open Go Go.RowKit
/-- What States brings about. -/
def StatesEnd (w : World) (P : Parsed) (most : Nat) (e : Ending) (w' : World) : Prop :=
 Below w.heap.size w w' ∧ ∃ r ev, MachOf P most r ∧ e = .returned (.tuple #[.int .i64 r.num, ev]) ∧ MachErr w w' ev r
set_option maxRecDepth 100000 in
set_option maxHeartbeats 4000000 in
theorem states_rx (a b : ByteArray) (n : Int) (most : Nat) (w : World) (ha : a.size ≤ 40) (hT : BitTab w) (h1 : 1 ≤ most) (h4 : most ≤ 400) :
  Calls Tryz.prog 34 #[.agg #[.int .i64 5, .string a, .string b, .int .i64 n], .int .i64 most] w (StatesEnd w (parseP a) most) := by
 have HT := Lib.hid hT
 have g1 : decide ((most : Int) < 1) = false := decide_eq_false (by omega)
 have g2 : decide ((400 : Int) < (most : Int)) = false := decide_eq_false (by omega)
 have g3 : decide ((40 : Int) < (a.size : Int)) = false := decide_eq_false (by omega)
 clear hT
 go_enter Tryz.func34, Tryz.ntmps34
 go_wp2_with fail
 obtain ⟨W, hW⟩ : ∃ W, W = w.alloc (.cells #[.int .i64 5, .string a, .string b, .int .i64 n] 37) := ⟨_, rfl⟩
 have hbW : Below w.heap.size w W := by rw [hW]; exact (Below.refl _ w).alloc (Nat.le_refl _) _
 rw [← hW]
 have HW := Lib.hid hbW
 clear hW hbW
 refine (machine_rx a b n most W (by omega) (HT.out.below HW.out) h1 h4).mono ?_
 rintro e w2 ⟨hb2, r, mv, nn, ev, hr, rfl, hev, hend⟩
 have H2 := Lib.hid (And.intro (HW.out.trans (hb2.mono HW.out.size)) (And.intro hr (And.intro hev hend)))
 have HSZ := Lib.hid HW.out.size
 clear hb2 hr hev hend
 go_wp2_with fail
 go_ret2
 refine ⟨H2.out.1, r, ev, H2.out.2.1, ?_, ?_⟩
 ·rcases H2.out.2.2.2 with ⟨x, c, rfl, rfl, _⟩ | ⟨hno, rfl, _⟩
  ·rfl
  ·cases r with
   | fault i => rfl
   | big => rfl
   | ok x c => exact absurd rfl (hno x c)
 ·have k := H2.out.2.2.1
  cases r with
  | fault i =>
   obtain ⟨b2, k1, k2, k3⟩ := k
   exact ⟨b2, Nat.le_trans HSZ.out k1, k2, k3⟩
  | big => exact k
  | ok x c => exact k
set_option maxRecDepth 100000 in
set_option maxHeartbeats 4000000 in
theorem plainStates_rx (a b : ByteArray) (n : Int) (most : Nat) (w : World) (ha : a.size ≤ 40) (hT : BitTab w) (hE : ErrIn w) (h1 : 1 ≤ most) (h4 : most ≤ 400) :
  Calls Tryz.prog 22 #[.agg #[.int .i64 5, .string a, .string b, .int .i64 n], .int .i64 most] w fun e w' =>
   ∃ r, MachOf (parseP a) most r ∧ e = .returned (.tuple #[.int .i64 r.num, .int .i64 r.err, .int .i64 r.place]) ∧ Below w.heap.size w w' := by
 have HT := Lib.hid (And.intro hT hE)
 clear hT hE
 go_enter Tryz.func22, Tryz.ntmps22
 go_wp2_with fail
 obtain ⟨W, hW⟩ : ∃ W, W = w.alloc (.cells #[.int .i64 5, .string a, .string b, .int .i64 n] 37) := ⟨_, rfl⟩
 have hbW : Below w.heap.size w W := by rw [hW]; exact (Below.refl _ w).alloc (Nat.le_refl _) _
 rw [← hW]
 have HW := Lib.hid hbW
 clear hW hbW
 refine (states_rx a b n most W ha (HT.out.1.below HW.out) h1 h4).mono ?_
 rintro e w2 ⟨hb2, r, ev, hr, rfl, hev⟩
 have H2 := Lib.hid (And.intro (HW.out.trans (hb2.mono HW.out.size)) hr)
 clear hb2 hr
 have htold : Calls Tryz.prog 32 #[ev] w2 fun e w' => e = .returned (.tuple #[.int .i64 r.err, .int .i64 r.place]) ∧ Below w2.heap.size w2 w' := by
  have hE2 := HT.out.2.below H2.out.1
  cases r with
  | fault i =>
   obtain ⟨b2, _, rfl, k3⟩ := hev
   exact told_bad 6 i b2 w2 hE2 k3
  | big =>
   have hev' : ev = _ := hev
   subst hev'
   exact told_errno 9 w2 hE2
  | ok x c =>
   have hev' : ev = _ := hev
   subst hev'
   exact told_nil w2
 have HTOLD := Lib.hid htold
 clear htold hev
 generalize hrn : r.num = rn at *
 generalize hre : r.err = re at *
 generalize hrp : r.place = rp at *
 go_wp2_with fail
 refine HTOLD.out.mono ?_
 rintro e w3 ⟨rfl, hb3⟩
 have H3 := Lib.hid (H2.out.1.trans (hb3.mono H2.out.1.size))
 clear hb3
 go_wp2_with fail
 go_ret3
 exact ⟨r, H2.out.2, by rw [hrn, hre, hrp]; rfl, H3.out⟩
end Go.Proofs.Ts
namespace Go.Proofs.Ts
open Go
def litOne (c : Nat) : Ast := .one (BSet.zero.add c c)
def four : Ast := .or (.or (.or (.seq (litOne 97) (litOne 98)) (.seq (litOne 97) (litOne 99))) (.seq (litOne 98) (litOne 98))) (.seq (litOne 98) (litOne 99))
theorem parse_four : parseP ⟨#[97, 98, 124, 97, 99, 124, 98, 98, 124, 98, 99]⟩ = .ok four := by kernel_rfl
/-- The sets that can be met. -/
def fourSets : List PSet := [beginSet, ⟨5, 0, 0⟩, ⟨80, 0, 0⟩, ⟨2, 0, 0⟩, ⟨8, 0, 0⟩, ⟨32, 0, 0⟩, ⟨128, 0, 0⟩]
def fourCheck : Bool := fourSets.all fun s => (List.range 256).all fun c => ((PM.compile four).step s c == PSet.zero) || fourSets.contains ((PM.compile four).step s c)
set_option maxRecDepth 100000 in
theorem fourCheck_ok : fourCheck = true := by kernel_rfl
theorem four_slim : (PM.compile four).slim 400 := by
 refine ⟨fourSets, fun s hs => ?_, by decide⟩
 induction hs with
 | start => exact List.mem_cons_self
 | step s c _ hc hz ih =>
  have h := fourCheck_ok
  unfold fourCheck at h
  have h1 := List.all_eq_true.1 (List.all_eq_true.1 h s ih) c (List.mem_range.2 hc)
  rcases Bool.or_eq_true _ _ ▸ h1 with h2 | h2
  ·exact absurd (eq_of_beq h2) hz
  ·exact List.contains_iff_mem.1 h2
def oneCheck : Bool := [97, 98, 99].all fun c => (List.range 256).all fun d => (BSet.zero.add c c).has d == decide (d = c)
theorem oneCheck_ok : oneCheck = true := by kernel_rfl
theorem litOne_lang {c : UInt8} (hc : c.toNat ∈ [97, 98, 99]) (t : List UInt8) : (litOne c.toNat).lang t ↔ t = [c] := by
 have h := oneCheck_ok
 unfold oneCheck at h
 have h1 : ∀ d : UInt8, (BSet.zero.add c.toNat c.toNat).has d.toNat = decide (d.toNat = c.toNat) := fun d => eq_of_beq (List.all_eq_true.1 (List.all_eq_true.1 h _ hc) _ (List.mem_range.2 d.toNat_lt))
 constructor
 ·rintro ⟨d, rfl, hd⟩
  rw [h1 d, decide_eq_true_eq] at hd
  rw [UInt8.toNat_inj.1 hd]
 ·rintro rfl
  exact ⟨c, rfl, by rw [h1 c]; simp⟩
theorem lit2_lang {c d : UInt8} (hc : c.toNat ∈ [97, 98, 99]) (hd : d.toNat ∈ [97, 98, 99]) (t : List UInt8) : (Ast.seq (litOne c.toNat) (litOne d.toNat)).lang t ↔ t = [c, d] := by
 constructor
 ·rintro ⟨u, v, rfl, hu, hv⟩
  rw [(litOne_lang hc u).1 hu, (litOne_lang hd v).1 hv]
  rfl
 ·rintro rfl
  exact ⟨[c], [d], rfl, (litOne_lang hc _).2 rfl, (litOne_lang hd _).2 rfl⟩
theorem four_lang (t : List UInt8) : four.lang t ↔ t = [97, 98] ∨ t = [97, 99] ∨ t = [98, 98] ∨ t = [98, 99] := by
 have h1 := lit2_lang (c := 97) (d := 98) (by decide) (by decide) t
 have h2 := lit2_lang (c := 97) (d := 99) (by decide) (by decide) t
 have h3 := lit2_lang (c := 98) (d := 98) (by decide) (by decide) t
 have h4 := lit2_lang (c := 98) (d := 99) (by decide) (by decide) t
 show (((_ ∨ _) ∨ _) ∨ _) ↔ _
 rw [← h1, ← h2, ← h3, ← h4, or_assoc, or_assoc]
 exact Iff.rfl
theorem four_least : LeastOf four.lang 3 := by
 refine ⟨[[], [97], [97, 98]], rfl, ?_, ?_, ?_⟩
 ·intro u hu
  simp only [List.mem_cons, List.not_mem_nil, or_false] at hu
  rcases hu with rfl | rfl | rfl
  ·exact ⟨[97, 98], (four_lang _).2 (by decide)⟩
  ·exact ⟨[98], (four_lang _).2 (by decide)⟩
  ·exact ⟨[], (four_lang _).2 (by decide)⟩
 ·have hno : ∀ {u v t : List UInt8}, ¬ four.lang (u ++ t) → four.lang (v ++ t) → ¬ ∀ t, four.lang (u ++ t) ↔ four.lang (v ++ t) := fun h k e => h ((e _).2 k)
  refine List.Pairwise.cons ?_ (List.Pairwise.cons ?_ (List.Pairwise.cons (by simp) List.Pairwise.nil))
  ·intro v hv
   simp only [List.mem_cons, List.not_mem_nil, or_false] at hv
   rcases hv with rfl | rfl
   ·exact hno (t := [98]) (by rw [four_lang]; decide) (by rw [four_lang]; decide)
   ·exact hno (t := []) (by rw [four_lang]; decide) (by rw [four_lang]; decide)
  ·intro v hv
   simp only [List.mem_cons, List.not_mem_nil, or_false] at hv
   subst hv
   exact hno (t := []) (by rw [four_lang]; decide) (by rw [four_lang]; decide)
 ·rintro u ⟨t, ht⟩
  rw [four_lang] at ht
  match u, ht with
  | [], _ => exact ⟨[], by simp, fun _ => Iff.rfl⟩
  | [x], ht =>
   refine ⟨[97], by simp, fun y => ?_⟩
   have hx : x = 97 ∨ x = 98 := by
    simp only [List.cons_append, List.cons.injEq] at ht
    rcases ht with h | h | h | h
    ·exact .inl h.1
    ·exact .inl h.1
    ·exact .inr h.1
    ·exact .inr h.1
   rw [four_lang, four_lang]
   rcases hx with rfl | rfl <;> simp
  | [x, z], ht =>
   refine ⟨[97, 98], by simp, fun y => ?_⟩
   rw [four_lang, four_lang]
   have hxz : (x = 97 ∨ x = 98) ∧ (z = 98 ∨ z = 99) := by
    simp only [List.cons_append, List.cons.injEq] at ht
    rcases ht with h | h | h | h
    ·exact ⟨.inl h.1, .inl h.2.1⟩
    ·exact ⟨.inl h.1, .inr h.2.1⟩
    ·exact ⟨.inr h.1, .inl h.2.1⟩
    ·exact ⟨.inr h.1, .inr h.2.1⟩
   rcases hxz with ⟨rfl | rfl, rfl | rfl⟩ <;> simp
  | x :: z :: v :: r, ht => simp at ht
theorem four_mach {r : Mach} (h : MachOf (parseP ⟨#[97, 98, 124, 97, 99, 124, 98, 98, 124, 98, 99]⟩) 400 r) : r = .ok four 3 := by
 rw [parse_four] at h
 cases r with
 | fault i => cases h
 | big =>
  rcases h with h | ⟨x, hx, hw⟩
  ·cases h
  ·cases hx
   exact (PM.slim_wide four_slim hw).elim
 | ok x c =>
  obtain ⟨hx, _, hl⟩ := h
  cases hx
  rw [(hl.ofLang (compile_reads four (by decide))).unique four_least]
/-! ### Other words. -/
theorem flatten_flatten {L : List UInt8 → Prop} {t : List UInt8} : (∃ l : List (List UInt8), t = l.flatten ∧ ∀ u ∈ l, ∃ m : List (List UInt8), u = m.flatten ∧ ∀ v ∈ m, L v) → ∃ m : List (List UInt8), t = m.flatten ∧ ∀ v ∈ m, L v := by
 rintro ⟨l, rfl, h⟩
 induction l with
 | nil => exact ⟨[], rfl, fun v hv => by simp at hv⟩
 | cons u l ih =>
  obtain ⟨m, hm, hv⟩ := h u List.mem_cons_self
  obtain ⟨m', hm', hv'⟩ := ih fun x hx => h x (List.mem_cons_of_mem _ hx)
  refine ⟨m ++ m', ?_, fun v hh => ?_⟩
  ·rw [List.flatten_cons, List.flatten_append, hm, hm']
  ·rcases List.mem_append.1 hh with hh | hh
   ·exact hv v hh
   ·exact hv' v hh
theorem star_star (x : Ast) (t : List UInt8) : (Ast.many (.many x false) false).lang t ↔ (Ast.many x false).lang t := by
 constructor
 ·rintro ⟨l, rfl, h, _⟩
  obtain ⟨m, h1, h2⟩ := flatten_flatten (L := x.lang) (t := l.flatten) ⟨l, rfl, fun u hu => by
   obtain ⟨m, h1, h2, _⟩ := h u hu
   exact ⟨m, h1, h2⟩⟩
  exact ⟨m, h1, h2, fun e => by cases e⟩
 ·intro h
  refine ⟨[t], by simp, fun u hu => ?_, fun e => by cases e⟩
  rw [List.mem_singleton.1 hu]
  exact h
theorem or_self_lang (x : Ast) (t : List UInt8) : (Ast.or x x).lang t ↔ x.lang t := or_self_iff
theorem parse_big_or {P : Prop} [Decidable P] {x y : Ast} (h : (if P then Parsed.big else .ok x) = .ok y) : ¬ P ∧ x = y := by
 split at h
 ·cases h
 ·rename_i hp; cases h; exact ⟨hp, rfl⟩
theorem small_law {p s1 s2 s3 s4 : ByteArray} {r r1 r2 r3 r4 : Mach} (e1 : s1.data.toList = 40 :: (p.data.toList ++ [41])) (e2 : s2.data.toList = 40 :: (p.data.toList ++ (41 :: 124 :: 40 :: (p.data.toList ++ [41]))))
  (e3 : s3.data.toList = 40 :: (p.data.toList ++ [41, 42])) (e4 : s4.data.toList = 40 :: (s3.data.toList ++ [41, 42]))
  (h : MachOf (parseP p) 400 r) (h1 : MachOf (parseP s1) 400 r1) (h2 : MachOf (parseP s2) 400 r2) (h3 : MachOf (parseP s3) 400 r3) (h4 : MachOf (parseP s4) 400 r4) (hr : r.err = 0) :
  (r1.err = 0 ∧ r1.num = r.num) ∧ (r2.err = 0 → r2.num = r.num) ∧ (r3.err = 0 → r4.err = 0 → r3.num = r4.num) := by
 obtain ⟨x, c, rfl⟩ := Mach.err_ok hr
 have hp := h.1
 obtain ⟨y, hy, hx, h128⟩ := parse_ok hp
 have hcx : x.count ≤ 128 := by rw [places_count x h128]; exact h128
 have p1 : parseP s1 = .ok x := by
  rw [parse_of (hy.group e1) (hx.group e1), if_neg (by omega)]
 have p2 := parse_of (hy.or hy e2) (hx.or hx e2)
 have p3 := parse_of (hy.star e3) (hx.star e3)
 have p4 := parse_of ((hy.star e3).star e4) ((hx.star e3).star e4)
 refine ⟨?_, fun h2e => ?_, fun h3e h4e => ?_⟩
 ·rw [p1] at h1
  cases r1 with
  | fault i => cases h1
  | big =>
   rcases h1 with h1 | ⟨x', hx', hw⟩
   ·cases h1
   ·cases hx'
    exact (PM.slim_wide h.2.1 hw).elim
  | ok x' c' =>
   have e := h1.1
   cases e
   refine ⟨rfl, ?_⟩
   show (c' : Int) = c
   rw [least_alike hcx hcx (fun t => Iff.rfl) h1.2.2 h.2.2]
 ·obtain ⟨x', c', rfl⟩ := Mach.err_ok h2e
  have e := p2.symm.trans h2.1
  obtain ⟨hle, rfl⟩ := parse_big_or e
  have hc' : (Ast.or x x).count ≤ 128 := by rw [places_count _ (by omega)]; omega
  show (c' : Int) = c
  rw [least_alike hc' hcx (or_self_lang x) h2.2.2 h.2.2]
 ·obtain ⟨x3, c3, rfl⟩ := Mach.err_ok h3e
  obtain ⟨x4, c4, rfl⟩ := Mach.err_ok h4e
  obtain ⟨hl3, rfl⟩ := parse_big_or (p3.symm.trans h3.1)
  obtain ⟨hl4, rfl⟩ := parse_big_or (p4.symm.trans h4.1)
  show (c3 : Int) = c4
  rw [least_alike (d := .many x false) (e := .many (.many x false) false) hcx hcx (fun t => (star_star x t).symm) h3.2.2 h4.2.2]
end Go.Proofs.Ts
namespace Go.Proofs.Ts
open Go Go.RowKit
/-- plain.States at the greatest limit. -/
theorem plainStates_400 (a b : ByteArray) (n : Int) (w : World) (ha : a.size ≤ 40) (hT : BitTab w ∧ ErrIn w) :
  Calls Tryz.prog 22 #[.agg #[.int .i64 5, .string a, .string b, .int .i64 n], .int .i64 400] w fun e w' =>
   ∃ r rn re rp, MachOf (parseP a) 400 r ∧ r.num = rn ∧ r.err = re ∧ r.place = rp ∧ e = .returned (.tuple #[.int .i64 rn, .int .i64 re, .int .i64 rp]) ∧ Below w.heap.size w w' := by
 have h := plainStates_rx a b n 400 w ha hT.1 hT.2 (by omega) (by omega)
 refine Calls.mono h ?_
 rintro e w' ⟨r, h1, h2, h3⟩
 exact ⟨r, _, _, _, h1, rfl, rfl, rfl, h2, h3⟩
set_option maxRecDepth 100000 in
set_option maxHeartbeats 4000000 in
theorem smallest_any (p : ByteArray) (w : World) (hT : BitTab w) (hE : ErrIn w) (hp : p.size ≤ 9223372036854775807) :
  Calls Tryz.prog 8 #[.string p] w fun e w' => e = .returned (.bool true) ∧ Below w.heap.size w w' := by
 have HT := Lib.hid (And.intro hT hE)
 clear hT hE
 go_enter Tryz.func8, Tryz.ntmps8
 go_wp2_with fail
 refine (fixed_any w).mono ?_
 rintro e w1 ⟨rfl, hb1⟩
 have H1 := Lib.hid hb1
 clear hb1
 by_cases h16 : 16 < p.size
 ·have g1 : decide ((16 : Int) < (p.size : Int)) = true := decide_eq_true (by omega)
  go_wp2_with fail
  go_ret
  exact ⟨rfl, H1.out⟩
 ·have g1 : decide ((16 : Int) < (p.size : Int)) = false := decide_eq_false (by omega)
  go_wp2_with fail
  refine (plainStates_400 p _ 0 w1 (by omega) ⟨HT.out.1.below H1.out, HT.out.2.below H1.out⟩).mono ?_
  rintro e w2 ⟨r0, n0, e0, p0, hr0, hn0, he0, hp0, rfl, hb2⟩
  have HR0 := Lib.hid (And.intro hr0 (And.intro hn0 he0))
  have H2 := Lib.hid (H1.out.trans (hb2.mono H1.out.size))
  clear hr0 hn0 he0 hp0 hb2
  go_wp2_with fail
  refine (plainStates_400 _ _ 0 w2 (by decide) ⟨HT.out.1.below H2.out, HT.out.2.below H2.out⟩).mono ?_
  rintro e w3 ⟨rf, nf, ef, pf, hrf, hnf, hef, hpf, rfl, hb3⟩
  have hfour := four_mach hrf
  subst hfour
  have hnf' : nf = 3 := hnf.symm
  have hef' : ef = 0 := hef.symm
  subst hnf' hef'
  have H3 := Lib.hid (H2.out.trans (hb3.mono H2.out.size))
  clear hrf hnf hef hpf hb3
  by_cases hz : e0 = 0
  ·subst hz
   go_wp2_with fail
   obtain ⟨s1, hs1⟩ : ∃ s : ByteArray, s = ⟨#[40]⟩ ++ p ++ ⟨#[41]⟩ := ⟨_, rfl⟩
   have hz1 : s1.size ≤ 40 := by
    rw [hs1]
    simp only [ByteArray.size_append]
    have q1 : ByteArray.size ⟨#[40]⟩ = 1 := rfl
    have q2 : ByteArray.size ⟨#[41]⟩ = 1 := rfl
    have q3 : ByteArray.size ⟨#[41, 124, 40]⟩ = 3 := rfl
    have q4 : ByteArray.size ⟨#[41, 42]⟩ = 2 := rfl
    have q5 : ByteArray.size ⟨#[40, 40]⟩ = 2 := rfl
    have q6 : ByteArray.size ⟨#[41, 42, 41, 42]⟩ = 4 := rfl
    omega
   have hl1 : s1.data.toList = 40 :: (p.data.toList ++ [41]) := by
    rw [hs1]
    simp
   rw [← hs1]
   have HS1 := Lib.hid (And.intro hz1 hl1)
   clear hs1 hz1 hl1
   refine (plainStates_400 s1 _ 0 w3 HS1.out.1 ⟨HT.out.1.below H3.out, HT.out.2.below H3.out⟩).mono ?_
   rintro e w4 ⟨r1, n1, e1, p1, hr1, hn1, he1, hp1, rfl, hb1⟩
   have HR1 := Lib.hid (And.intro hr1 (And.intro hn1 he1))
   have H4 := Lib.hid (H3.out.trans (hb1.mono H3.out.size))
   clear hr1 hn1 he1 hp1 hb1
   go_wp2_with fail
   obtain ⟨s2, hs2⟩ : ∃ s : ByteArray, s = ⟨#[40]⟩ ++ p ++ ⟨#[41, 124, 40]⟩ ++ p ++ ⟨#[41]⟩ := ⟨_, rfl⟩
   have hz2 : s2.size ≤ 40 := by
    rw [hs2]
    simp only [ByteArray.size_append]
    have q1 : ByteArray.size ⟨#[40]⟩ = 1 := rfl
    have q2 : ByteArray.size ⟨#[41]⟩ = 1 := rfl
    have q3 : ByteArray.size ⟨#[41, 124, 40]⟩ = 3 := rfl
    have q4 : ByteArray.size ⟨#[41, 42]⟩ = 2 := rfl
    have q5 : ByteArray.size ⟨#[40, 40]⟩ = 2 := rfl
    have q6 : ByteArray.size ⟨#[41, 42, 41, 42]⟩ = 4 := rfl
    omega
   have hl2 : s2.data.toList = 40 :: (p.data.toList ++ (41 :: 124 :: 40 :: (p.data.toList ++ [41]))) := by
    rw [hs2]
    simp
   rw [← hs2]
   have HS2 := Lib.hid (And.intro hz2 hl2)
   clear hs2 hz2 hl2
   refine (plainStates_400 s2 _ 0 w4 HS2.out.1 ⟨HT.out.1.below H4.out, HT.out.2.below H4.out⟩).mono ?_
   rintro e w5 ⟨r2, n2, e2, p2, hr2, hn2, he2, hp2, rfl, hb2⟩
   have HR2 := Lib.hid (And.intro hr2 (And.intro hn2 he2))
   have H5 := Lib.hid (H4.out.trans (hb2.mono H4.out.size))
   clear hr2 hn2 he2 hp2 hb2
   go_wp2_with fail
   obtain ⟨s3, hs3⟩ : ∃ s : ByteArray, s = ⟨#[40]⟩ ++ p ++ ⟨#[41, 42]⟩ := ⟨_, rfl⟩
   have hz3 : s3.size ≤ 40 := by
    rw [hs3]
    simp only [ByteArray.size_append]
    have q1 : ByteArray.size ⟨#[40]⟩ = 1 := rfl
    have q2 : ByteArray.size ⟨#[41]⟩ = 1 := rfl
    have q3 : ByteArray.size ⟨#[41, 124, 40]⟩ = 3 := rfl
    have q4 : ByteArray.size ⟨#[41, 42]⟩ = 2 := rfl
    have q5 : ByteArray.size ⟨#[40, 40]⟩ = 2 := rfl
    have q6 : ByteArray.size ⟨#[41, 42, 41, 42]⟩ = 4 := rfl
    omega
   have hl3 : s3.data.toList = 40 :: (p.data.toList ++ [41, 42]) := by
    rw [hs3]
    simp
   rw [← hs3]
   have HS3 := Lib.hid (And.intro hz3 hl3)
   clear hs3 hz3 hl3
   refine (plainStates_400 s3 _ 0 w5 HS3.out.1 ⟨HT.out.1.below H5.out, HT.out.2.below H5.out⟩).mono ?_
   rintro e w6 ⟨r3, n3, e3, p3, hr3, hn3, he3, hp3, rfl, hb3⟩
   have HR3 := Lib.hid (And.intro hr3 (And.intro hn3 he3))
   have H6 := Lib.hid (H5.out.trans (hb3.mono H5.out.size))
   clear hr3 hn3 he3 hp3 hb3
   go_wp2_with fail
   obtain ⟨s4, hs4⟩ : ∃ s : ByteArray, s = ⟨#[40, 40]⟩ ++ p ++ ⟨#[41, 42, 41, 42]⟩ := ⟨_, rfl⟩
   have hz4 : s4.size ≤ 40 := by
    rw [hs4]
    simp only [ByteArray.size_append]
    have q1 : ByteArray.size ⟨#[40]⟩ = 1 := rfl
    have q2 : ByteArray.size ⟨#[41]⟩ = 1 := rfl
    have q3 : ByteArray.size ⟨#[41, 124, 40]⟩ = 3 := rfl
    have q4 : ByteArray.size ⟨#[41, 42]⟩ = 2 := rfl
    have q5 : ByteArray.size ⟨#[40, 40]⟩ = 2 := rfl
    have q6 : ByteArray.size ⟨#[41, 42, 41, 42]⟩ = 4 := rfl
    omega
   have hl4 : s4.data.toList = 40 :: ((40 :: (p.data.toList ++ [41, 42])) ++ [41, 42]) := by
    rw [hs4]
    simp
   rw [← hs4]
   have HS4 := Lib.hid (And.intro hz4 hl4)
   clear hs4 hz4 hl4
   refine (plainStates_400 s4 _ 0 w6 HS4.out.1 ⟨HT.out.1.below H6.out, HT.out.2.below H6.out⟩).mono ?_
   rintro e w7 ⟨r4, n4, e4, p4, hr4, hn4, he4, hp4, rfl, hb4⟩
   have HR4 := Lib.hid (And.intro hr4 (And.intro hn4 he4))
   have H7 := Lib.hid (H6.out.trans (hb4.mono H6.out.size))
   clear hr4 hn4 he4 hp4 hb4
   have hlaw := small_law HS1.out.2 HS2.out.2 HS3.out.2 (HS4.out.2.trans (by rw [HS3.out.2])) HR0.out.1 HR1.out.1 HR2.out.1 HR3.out.1 HR4.out.1 HR0.out.2.2
   rw [HR1.out.2.1, HR1.out.2.2, HR2.out.2.1, HR2.out.2.2, HR3.out.2.1, HR3.out.2.2, HR4.out.2.1, HR4.out.2.2, HR0.out.2.1] at hlaw
   obtain ⟨⟨he1, hn1⟩, hl2, hl3⟩ := hlaw
   subst he1
   subst hn1
   clear h16 g1
   by_cases h2 : e2 = 0
   ·have hn2 := hl2 h2
    subst h2
    subst hn2
    by_cases h3 : e3 = 0
    ·subst h3
     by_cases h4 : e4 = 0
     ·have hn3 := hl3 rfl h4
      subst h4
      subst hn3
      go_wp2_with fail
      go_ret
      exact ⟨rfl, H7.out⟩
     ·have h4' : (e4 == 0) = false := beq_eq_false_iff_ne.2 h4
      go_wp2_with fail
      go_ret
      exact ⟨rfl, H7.out⟩
    ·have h3' : (e3 == 0) = false := beq_eq_false_iff_ne.2 h3
     go_wp2_with fail
     go_ret
     exact ⟨rfl, H7.out⟩
   ·have h2' : (e2 == 0) = false := beq_eq_false_iff_ne.2 h2
    by_cases h3 : e3 = 0
    ·subst h3
     by_cases h4 : e4 = 0
     ·have hn3 := hl3 rfl h4
      subst h4
      subst hn3
      go_wp2_with fail
      go_ret
      exact ⟨rfl, H7.out⟩
     ·have h4' : (e4 == 0) = false := beq_eq_false_iff_ne.2 h4
      go_wp2_with fail
      go_ret
      exact ⟨rfl, H7.out⟩
    ·have h3' : (e3 == 0) = false := beq_eq_false_iff_ne.2 h3
     go_wp2_with fail
     go_ret
     exact ⟨rfl, H7.out⟩
  ·have hz' : (e0 == 0) = false := beq_eq_false_iff_ne.2 hz
   go_wp2_with fail
   go_ret
   exact ⟨rfl, H3.out⟩
end Go.Proofs.Ts
