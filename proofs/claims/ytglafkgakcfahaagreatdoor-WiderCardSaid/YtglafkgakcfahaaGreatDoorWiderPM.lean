/- Lemmas towards the statement Wider of termsearch: walks of the program's functions and plain laws on lists (TsErrsB, TsErrsC, TsAskE, TsWider). Conditions: those that each theorem names. -/
import Derived.Test.YtglafkgakcfahaaGreatDoorWiderPL
import Derived.Deep.RegionWith
/- errors.As at a number where a *Bad is asked for; errors.Is of a number and itself; what Told makes of an error that is a number. -/
set_option linter.unusedVariables false
set_option linter.unusedSimpArgs false
namespace Go.Proofs.Ts
open Go Go.RowKit Go.Extern.Stop Go.Stop Go.Extern

theorem rl_valueOfB (b : Nat) (w : World) : (ReflectliteValue.unpack (.iface 105 (.pointer (some ⟨b, 0, none⟩)))).run Tryz.prog w = .ok (.agg #[.pointer (some ⟨5, 105, none⟩), .pointer (some ⟨w.heap.size, 0, none⟩), .int .u64 150]) (w.alloc (.cells #[.pointer (some ⟨b, 0, none⟩)] 105)) := by kernel_rfl
theorem rl_typeB (a : Addr) (w : World) : (ReflectliteValue.methodAny (ReflectliteValue.valueError "reflectlite.Value.Type" 0) (fun t _ _ _ => ReflectliteType.toType t) #[.agg #[.pointer (some ⟨5, 105, none⟩), .pointer (some a), .int .u64 150]]).run Tryz.prog w
    = .ok (.iface 222 (.agg #[.pointer (some ⟨5, 105, none⟩)])) w := by kernel_rfl
theorem rl_kindB (w : World) : ((ReflectliteType.abiMethod fun t => (fun a : Nat => Value.int IntKind.u8 (a : Int)) <$> Rtype.kind t) #[.pointer (some ⟨5, 105, none⟩)]).run Tryz.prog w = .ok (.int .u8 22) w := by kernel_rfl
theorem rl_kindP (w : World) : ((ReflectliteType.abiMethod fun t => (fun a : Nat => Value.int IntKind.u8 (a : Int)) <$> Rtype.kind t) #[.pointer (some ⟨5, 103, none⟩)]).run Tryz.prog w = .ok (.int .u8 22) w := by kernel_rfl
theorem rl_partsB (a : Addr) (w : World) : (ReflectliteValue.parts (.agg #[.pointer (some ⟨5, 105, none⟩), .pointer (some a), .int .u64 150])).run Tryz.prog w = .ok (some (105, a, 150)) w := by kernel_rfl
theorem rl_isNilB (a p : Addr) (W : World) (ha : W.cell? a = some (.pointer (some p))) :
    (ReflectliteValue.method (ReflectliteValue.valueError "reflectlite.Value.IsNil" 0) ReflectliteValue.isNil #[.agg #[.pointer (some ⟨5, 105, none⟩), .pointer (some a), .int .u64 150]]).run Tryz.prog W = .ok (.bool false) W := by
  rw [rlm]
  simp only [Sem.run_bind, rl_partsB, Result.andThen]
  simp [ReflectliteValue.isNil, loadVar, isAgg, underlying, Tryz.underlying105, ha, Result.andThen]
theorem rl_elemB (w : World) : (ReflectliteType.method ReflectliteType.elem #[.agg #[.pointer (some ⟨5, 105, none⟩)]]).run Tryz.prog w = .ok (.iface 222 (.agg #[.pointer (some ⟨5, 103, none⟩)])) w := by kernel_rfl
theorem rl_implementsP (w : World) : (ReflectliteType.relation "Implements" ReflectliteType.implements_ #[.agg #[.pointer (some ⟨5, 103, none⟩)], .iface 222 (.agg #[.pointer (some ⟨5, 69, none⟩)])]).run Tryz.prog w = .ok (.bool true) w := by kernel_rfl
theorem rl_assignableP (w : World) : (ReflectliteType.relation "AssignableTo" ReflectliteType.assignableTo #[.agg #[.pointer (some ⟨5, 33, none⟩)], .iface 222 (.agg #[.pointer (some ⟨5, 103, none⟩)])]).run Tryz.prog w = .ok (.bool false) w := by kernel_rfl

theorem rl_noAs (v : Value) (xT : TypeId) (w : World) : (Instr.typeAssert (.iface 33 v) xT 226 true).run Tryz.prog w = .ok (.tuple #[.nilIface, .bool false]) w := run_typeAssert_lacksB Tryz.underlying226 (by kernel_rfl) (by kernel_rfl) v xT w
theorem rl_noUnwrap (v : Value) (xT : TypeId) (w : World) : (Instr.typeAssert (.iface 33 v) xT 229 true).run Tryz.prog w = .ok (.tuple #[.nilIface, .bool false]) w := run_typeAssert_lacksB Tryz.underlying229 (by kernel_rfl) (by kernel_rfl) v xT w
theorem rl_noUnwraps (v : Value) (xT : TypeId) (w : World) : (Instr.typeAssert (.iface 33 v) xT 231 true).run Tryz.prog w = .ok (.tuple #[.nilIface, .bool false]) w := run_typeAssert_lacksB Tryz.underlying231 (by kernel_rfl) (by kernel_rfl) v xT w

set_option maxHeartbeats 4000000 in
theorem as_bad (k : Int) (b : Nat) (w : World) (hg : ErrIn w) :
    Calls Tryz.prog 43 #[.iface 33 (.int .i64 k), .iface 105 (.pointer (some ⟨b, 0, none⟩))] w fun ev w' => ev = .returned (.bool false) ∧ Below w.heap.size w w' := by
  have h6 := @run_callFunc_extern Tryz.prog 71 _ (fun args => ReflectliteValue.unpack (args.getD 0 (.tuple #[]))) Tryz.func71 (by kernel_rfl) (by kernel_rfl) (by kernel_rfl) (by kernel_rfl)
  have h7 := @run_callFunc_extern Tryz.prog 72 _ (ReflectliteValue.methodAny (ReflectliteValue.valueError "reflectlite.Value.Type" 0) (fun t _ _ _ => ReflectliteType.toType t)) Tryz.func72 (by kernel_rfl) (by kernel_rfl) (by kernel_rfl) (by kernel_rfl)
  have h8 := @run_callFunc_extern Tryz.prog 73 _ (ReflectliteValue.method (ReflectliteValue.valueError "reflectlite.Value.IsNil" 0) ReflectliteValue.isNil) Tryz.func73 (by kernel_rfl) (by kernel_rfl) (by kernel_rfl) (by kernel_rfl)
  have h27 := @run_callFunc_extern Tryz.prog 203 _ (ReflectliteType.abiMethod fun t => do pure (.int .u8 (← Rtype.kind t))) Tryz.func203 (by kernel_rfl) (by kernel_rfl) (by kernel_rfl) (by kernel_rfl)
  have h37 := @run_callFunc_extern Tryz.prog 226 _ (ReflectliteType.method ReflectliteType.elem) Tryz.func226 (by kernel_rfl) (by kernel_rfl) (by kernel_rfl) (by kernel_rfl)
  have h38 := @run_callFunc_extern Tryz.prog 227 _ (ReflectliteType.relation "Implements" ReflectliteType.implements_) Tryz.func227 (by kernel_rfl) (by kernel_rfl) (by kernel_rfl) (by kernel_rfl)
  have h10 := @run_callFunc_extern Tryz.prog 75 _ ReflectliteType.typeOf Tryz.func75 (by kernel_rfl) (by kernel_rfl) (by kernel_rfl) (by kernel_rfl)
  have h35 := @run_callFunc_extern Tryz.prog 224 _ (ReflectliteType.relation "AssignableTo" ReflectliteType.assignableTo) Tryz.func224 (by kernel_rfl) (by kernel_rfl) (by kernel_rfl) (by kernel_rfl)
  have h11 := @run_callFunc_extern Tryz.prog 103 _ (ReflectliteValue.method (ReflectliteValue.valueError "reflectlite.Value.Elem" 0) ReflectliteValue.elem) Tryz.func103 (by kernel_rfl) (by kernel_rfl) (by kernel_rfl) (by kernel_rfl)
  have h12 := @run_callFunc_extern Tryz.prog 104 _ ReflectliteValue.set Tryz.func104 (by kernel_rfl) (by kernel_rfl) (by kernel_rfl) (by kernel_rfl)
  have tO := rl_typeOfN
  have mA := rl_methodAssignable
  have a25 := rl_assignableP
  have f6 := rl_valueOfB
  have f7 := rl_typeB
  have mK := rl_methodKind
  have mE := rl_methodElem
  have mI := rl_methodImplements
  have k27 := rl_kindB
  have k25 := rl_kindP
  have e27 := rl_elemB
  have i25 := rl_implementsP
  have n8 := rl_isNilB ⟨w.heap.size, 0, none⟩ ⟨b, 0, none⟩ ((w.alloc (.cells #[.pointer (some ⟨b, 0, none⟩)] 105)).alloc (.cells #[.pointer (some ⟨5, 105, none⟩), .pointer (some ⟨w.heap.size, 0, none⟩), .int .u64 150] 169)) (by simp)
  have hlt : 0 < w.heap.size := lt_of_cell hg
  unfold ErrIn at hg
  have hg2 : ((w.alloc (.cells #[.pointer (some ⟨b, 0, none⟩)] 105)).alloc (.cells #[.pointer (some ⟨5, 105, none⟩), .pointer (some ⟨w.heap.size, 0, none⟩), .int .u64 150] 169)).cell? ⟨0, 0, none⟩ = some (.iface 222 (.agg #[.pointer (some ⟨5, 69, none⟩)])) := by
    rw [World.cell?_alloc_lt _ _ ⟨0, 0, none⟩ (by simp), World.cell?_alloc_lt _ _ ⟨0, 0, none⟩ hlt]; exact hg
  have n1 := rl_noAs
  have n2 := rl_noUnwrap
  have n3 := rl_noUnwraps
  go_enter Tryz.func43, Tryz.ntmps43
  go_wp2
  refine wp_loop_rounds 1 ?_
  rw [rounds_succ]
  go_wp2
  go_ret
  exact ⟨rfl, (((Below.refl _ w).alloc (Nat.le_refl _) _).alloc (by simp) _).alloc (by simp; omega) _⟩

end Go.Proofs.Ts
/- errors.Is of a number and itself; what Told makes of an error that is a number. -/
set_option linter.unusedVariables false
set_option linter.unusedSimpArgs false
namespace Go.Proofs.Ts
open Go Go.RowKit Go.Extern.Stop Go.Stop Go.Extern

theorem rl_comparableN (w : World) : (ReflectliteType.method (fun t => do Rtype.noPackHeld "Comparable" t; (fun a => Value.bool a.comparable) <$> typeInfo t) #[.agg #[.pointer (some ⟨5, 33, none⟩)]]).run Tryz.prog w = .ok (.bool true) w := by kernel_rfl

theorem errno_comparable : (Tryz.prog.info? 33).map (·.comparable) = some true := by kernel_rfl
theorem run_eql_iface_int {P : Program} {ti tp : TypeId} {ms : Array (String × TypeId)} {i : TypeInfo} {kk : IntKind} (k : Int) (w : World) (hi : P.underlying ti = some (.interface ms)) (hp : P.underlying tp = some (.int kk)) (hinfo : P.info? tp = some i) (hcomp : i.comparable = true) :
    (binOp .eql ti (.iface tp (.int .i64 k)) (.iface tp (.int .i64 k))).run P w = .ok (.bool true) w := by
  have h : ∀ d : Nat, (Op.equalIn (d + 2) ti (.iface tp (.int .i64 k)) (.iface tp (.int .i64 k))).run P w = .ok true w := fun d => by
    simp [Op.equalIn, run_underlying hi, run_underlying hp, typeInfo, hinfo, hcomp]
  simp only [binOp]
  simp [Op.equal, Op.maxDepth, h 9998]
theorem eq_errno (k : Int) (w : World) : (binOp BinOp.eql 69 (.iface 33 (.int .i64 k)) (.iface 33 (.int .i64 k))).run Tryz.prog w = .ok (.bool true) w := by
  obtain ⟨i, hi, hc⟩ := Option.map_eq_some_iff.1 errno_comparable
  exact run_eql_iface_int k w Tryz.underlying69 Tryz.underlying33 hi hc

set_option maxRecDepth 100000 in
set_option maxHeartbeats 4000000 in
/-- A number is itself. -/
theorem is_self (k : Int) (w : World) : Calls Tryz.prog 44 #[.iface 33 (.int .i64 k), .iface 33 (.int .i64 k)] w fun ev w' => ev = .returned (.bool true) ∧ Below w.heap.size w w' := by
  have h10 := @run_callFunc_extern Tryz.prog 75 _ ReflectliteType.typeOf Tryz.func75 (by kernel_rfl) (by kernel_rfl) (by kernel_rfl) (by kernel_rfl)
  have h35 := @run_callFunc_extern Tryz.prog 225 _ (ReflectliteType.method (fun t => do Rtype.noPackHeld "Comparable" t; pure (.bool (← typeInfo t).comparable))) Tryz.func225 (by kernel_rfl) (by kernel_rfl) (by kernel_rfl) (by kernel_rfl)
  have tO := rl_typeOfN
  have mC := rl_methodComparable
  have cN := rl_comparableN
  have eE := eq_errno
  go_enter Tryz.func44, Tryz.ntmps44
  go_wp2
  refine wp_loop_rounds 1 ?_
  rw [rounds_succ]
  go_wp2
  go_ret
  exact ⟨rfl, Below.refl _ _⟩

set_option maxRecDepth 100000 in
set_option maxHeartbeats 4000000 in
/-- An error by its number is told as that number, and no place. -/
theorem told_errno (k : Int) (w : World) (hg : ErrIn w) : Calls Tryz.prog 32 #[.iface 33 (.int .i64 k)] w fun e w' => e = .returned (.tuple #[.int .i64 k, .int .i64 (-1)]) ∧ Below w.heap.size w w' := by
  have HG := Lib.hid hg
  clear hg
  go_enter Tryz.func32, Tryz.ntmps32
  go_upto_region 5 with fail
  have hbe : Below w.heap.size w ((w.alloc (.cells #[.pointer none] 103)).alloc (.cells #[.int .i64 0] 33)) := ((Below.refl _ w).alloc (Nat.le_refl _) _).alloc (by simp) _
  have hb5 := heap_alloc_new (w.alloc (.cells #[.pointer none] 103)) (.cells #[.int .i64 0] 33)
  rw [World.size_alloc] at hb5
  generalize ((w.alloc (.cells #[.pointer none] 103)).alloc (.cells #[.int .i64 0] 33)) = W at *
  have HBE := Lib.hid hbe
  have HB5 := Lib.hid hb5
  clear hbe hb5
  go_upto_region 7 with (go_at_call 43; refine (as_bad k w.heap.size W (HG.out.below HBE.out)).mono ?_; rintro e w1 ⟨rfl, hb1⟩)
  have hb51 := (hb1.block _ (lt_of_heap HB5.out)).trans HB5.out
  have hbw1 : Below w.heap.size w w1 := HBE.out.trans (hb1.mono HBE.out.size)
  have hit := as_hit k (w.heap.size + 1) _ w1 (HG.out.below hbw1) (cell_block (i := 0) hb51) (free_block hb51)
  have HIT := Lib.hid hit
  have HBW1 := Lib.hid hbw1
  have HB51 := Lib.hid hb51
  clear hit hbw1 hb1 hb51
  go_wp2_with (first
    | (go_at_call 43; refine HIT.out.mono ?_; rintro e w2 ⟨rfl, w3, hb3, rfl⟩; have hb53 := (hb3.block _ (lt_of_heap HB51.out)).trans HB51.out; have cE : (w3.setCell ⟨w.heap.size + 1, 0, none⟩ (.int .i64 k)).cell? ⟨w.heap.size + 1, 0, none⟩ = some (.int .i64 k) := World.cell?_setCell_same' _ _ _ (by rw [cell_block hb53]; rfl); have HB3 := Lib.hid hb3; clear hb3 hb53)
    | (go_at_call 44; refine (is_self k _).mono ?_; rintro e w4 ⟨rfl, hb4⟩; have cE4 := (hb4.cell (p := ⟨w.heap.size + 1, 0, none⟩) (lt_of_cell cE)).trans cE; have HB4 := Lib.hid hb4; clear hb4))
  go_ret2
  have h1 : Below w.heap.size w w3 := HBW1.out.trans (HB3.out.mono HBW1.out.size)
  have h2 : Below w.heap.size w (w3.setCell ⟨w.heap.size + 1, 0, none⟩ (.int .i64 k)) := h1.setCell (p := ⟨w.heap.size + 1, 0, none⟩) (by simp) _
  exact ⟨rfl, h2.trans (HB4.out.mono h2.size)⟩
end Go.Proofs.Ts
/- What is asked wrongly: the error comes back, as a number. -/
set_option linter.unusedVariables false
set_option linter.unusedSimpArgs false
namespace Go.Proofs.Ts
open Go Go.RowKit

set_option maxRecDepth 100000 in
set_option maxHeartbeats 2000000 in
theorem terms_err (B : Nat) (q : Asked) (k : Int) (most sb : Nat) (D : List (List (List UInt8))) (kn : Value) (db : Nat) (R : Nat → Prop) (Λ : Nat → List Word) (ρ : Nat → Nat) (Dd : List DS) (pv : Value) (ps : List Value) (w : World)
    (hB : B ≤ w.heap.size) (hsb : B ≤ sb) (hseg : SegAt w sb D kn db R Λ ρ Dd pv ps) (hkn : KnownIs B w kn) (st : Nat) (hst : q.states = st) (hst1 : 1 ≤ st ∧ st ≤ 400) (hmost : most ≤ 2000000) (hcomp : CompileOk w q) (herr : errOf q = some k) :
    Calls Tryz.prog 41 #[ptrV sb, askV q, .int .i64 st, .int .i64 most] w fun e w' => ∃ kn', e = .returned (.tuple #[.slice none 0 0, errnoV k]) ∧ SegAt w' sb D kn' db R Λ ρ Dd pv ps ∧ KnownIs B w' kn' ∧ Below B w w' ∧ Cells w w' := by
  have hsbl := lt_of_heap hseg.1
  have g1 : decide ((st : Int) < 1) = false := by simp <;> omega
  have g2 : decide ((400 : Int) < (st : Int)) = false := by simp <;> omega
  have g3 : decide ((most : Int) < 0) = false := by simp
  have HSEG := Lib.hid hseg
  have HKN := Lib.hid hkn
  clear hseg hkn
  unfold ptrV askV strV
  go_enter Tryz.func41, Tryz.ntmps41
  go_wp2_with fail
  clear g1 g2 g3
  have hal : Below w.heap.size w ((w.alloc (.cells #[.int .i64 q.kind, .string ⟨q.a.toArray⟩, .string ⟨q.b.toArray⟩, .int .i64 q.n] 37)).alloc (.cells #[.int .i64 most] 3)) := ((Below.refl _ w).alloc (Nat.le_refl _) _).alloc (by simp) _
  generalize ((w.alloc (.cells #[.int .i64 q.kind, .string ⟨q.a.toArray⟩, .string ⟨q.b.toArray⟩, .int .i64 q.n] 37)).alloc (.cells #[.int .i64 most] 3)) = w2 at *
  have hseg2 := HSEG.out.below hal
  have hplan := plan_any B q sb D.length db pv kn w2 (Nat.le_trans hB hal.size) hsb hseg2.1 (HKN.out.below hal) (hcomp.kept (Cells.below hal))
  have HSEG2 := Lib.hid hseg2
  have HAL := Lib.hid hal
  clear hseg2 hal
  rw [hst] at hplan
  unfold ptrV askV strV at hplan
  refine hplan.mono ?_
  clear hplan
  rintro e w1 ⟨pb, kn', rfl, hpf, hce, hbe, hsg1, hkn1⟩
  obtain ⟨fv, hpb⟩ := hpf.errs k herr
  have hseg1 := HSEG2.out.kept hce hsg1
  have p1 : w1.cell? ⟨pb, 1, none⟩ = some (errnoV k) := cell_block hpb
  have HSEG1 := Lib.hid hseg1
  have HKN1 := Lib.hid hkn1
  have HBE := Lib.hid hbe
  have HCE := Lib.hid ((Cells.below HAL.out).trans hce)
  clear hpf hseg1 hkn1 hbe hce HSEG2 hpb hsg1
  unfold errnoV at *
  go_wp2_with fail
  go_quiet (fail)
  go_wp2_with fail
  go_ret2
  have hbq : Below w1.heap.size w1 (w1.drewN nq) := below_drewNv (Below.refl _ _) _
  exact ⟨kn', rfl, HSEG1.out.below hbq, HKN1.out.below hbq, ((HAL.out.mono hB).trans HBE.out).trans (hbq.mono (by have := HBE.out.size; have := HAL.out.size; omega)), HCE.out.trans (Cells.below hbq)⟩

set_option maxRecDepth 100000 in
set_option maxHeartbeats 2000000 in
theorem search_err (B : Nat) (q : Asked) (k : Int) (most sb : Nat) (D : List (List (List UInt8))) (kn : Value) (w : World)
    (hB : B ≤ w.heap.size) (hsb : B ≤ sb) (hseg : SegIs w sb D kn) (hkn : KnownIs B w kn) (st : Nat) (hst : q.states = st) (hst1 : 1 ≤ st ∧ st ≤ 400) (hmost : most ≤ 2000000) (hcomp : CompileOk w q) (herr : errOf q = some k) :
    Calls Tryz.prog 31 #[ptrV sb, askV q, .int .i64 st, .int .i64 most] w fun e w' => ∃ kn', e = .returned (.tuple #[.slice none 0 0, errnoV k]) ∧ SegIs w' sb D kn' ∧ KnownIs B w' kn' ∧ Below B w w' ∧ Cells w w' := by
  obtain ⟨db, R, Λ, ρ, Dd, pv, ps, hat⟩ := hseg.at
  have HAT := Lib.hid hat
  have HKN := Lib.hid hkn
  clear hseg hat hkn
  unfold ptrV askV strV
  go_enter Tryz.func31, Tryz.ntmps31
  go_wp2_with fail
  have hal : Below w.heap.size w (w.alloc (.cells #[.int .i64 q.kind, .string ⟨q.a.toArray⟩, .string ⟨q.b.toArray⟩, .int .i64 q.n] 37)) := (Below.refl _ w).alloc (Nat.le_refl _) _
  have HAL := Lib.hid hal
  clear hal
  generalize (w.alloc (.cells #[.int .i64 q.kind, .string ⟨q.a.toArray⟩, .string ⟨q.b.toArray⟩, .int .i64 q.n] 37)) = w2 at *
  have hterms := terms_err B q k most sb D kn db R Λ ρ Dd pv ps w2 (Nat.le_trans hB HAL.out.size) hsb (HAT.out.below HAL.out) (HKN.out.below HAL.out) st hst hst1 hmost (hcomp.kept (Cells.below HAL.out)) herr
  unfold ptrV askV strV at hterms
  refine hterms.mono ?_
  clear hterms
  rintro e w3 ⟨kn', rfl, hat3, hkn3, hb3, hc3⟩
  unfold errnoV
  go_wp2_with fail
  go_ret2
  exact ⟨kn', rfl, hat3.is, hkn3, (HAL.out.mono hB).trans hb3, (Cells.below HAL.out).trans hc3⟩

set_option maxRecDepth 100000 in
set_option maxHeartbeats 2000000 in
theorem plainSearch_err (B : Nat) (q : Asked) (k : Int) (most sb : Nat) (D : List (List (List UInt8))) (w : World) (hg : ErrIn w) (hgB : 0 < B)
    (hB : B ≤ w.heap.size) (hseg : Seg B w sb D) (st : Nat) (hst : q.states = st) (hst1 : 1 ≤ st ∧ st ≤ 400) (hmost : most ≤ 2000000) (hcomp : CompileOk w q) (herr : errOf q = some k) :
    Calls Tryz.prog 17 #[ptrV sb, askV q, .int .i64 st, .int .i64 most] w fun e w' => e = .returned (.tuple #[.slice none 0 0, .int .i64 k, .int .i64 (-1)]) ∧ Seg B w' sb D ∧ Below B w w' ∧ Cells w w' := by
  have HS := Lib.hid hseg
  have HG := Lib.hid hg
  clear hseg hg
  unfold ptrV askV strV
  go_enter Tryz.func17, Tryz.ntmps17
  go_wp2_with fail
  have hal : Below w.heap.size w (w.alloc (.cells #[.int .i64 q.kind, .string ⟨q.a.toArray⟩, .string ⟨q.b.toArray⟩, .int .i64 q.n] 37)) := (Below.refl _ w).alloc (Nat.le_refl _) _
  have HAL := Lib.hid hal
  clear hal
  generalize (w.alloc (.cells #[.int .i64 q.kind, .string ⟨q.a.toArray⟩, .string ⟨q.b.toArray⟩, .int .i64 q.n] 37)) = w2 at *
  obtain ⟨hsb, kn, hs2, hk2⟩ := HS.out.below HAL.out
  have hs := search_err B q k most sb D kn w2 (Nat.le_trans hB HAL.out.size) hsb hs2 hk2 st hst hst1 hmost (hcomp.kept (Cells.below HAL.out)) herr
  unfold ptrV askV strV at hs
  refine hs.mono ?_
  clear hs hs2 hk2
  rintro e w3 ⟨kn', rfl, hs3, hk3, hb3, hc3⟩
  have hbw : Below B w w3 := (HAL.out.mono hB).trans hb3
  have HC3 := Lib.hid hc3
  have HS3 : Hid (Seg B w3 sb D) := Lib.hid ⟨hsb, kn', hs3, hk3⟩
  have HBW := Lib.hid hbw
  have hg3 : ErrIn w3 := (World.cell?_of_block (a := ⟨0, 0, none⟩) (hbw.block _ hgB)).trans HG.out
  have HG3 := Lib.hid hg3
  clear hs3 hk3 hbw hg3 hb3 hc3
  unfold errnoV
  go_wp2_with fail
  refine (told_errno k w3 HG3.out).mono ?_
  rintro e w4 ⟨rfl, hb4⟩
  have HB4 := Lib.hid hb4
  clear hb4
  go_wp2_with fail
  go_ret3
  exact ⟨rfl, HS3.out.below HB4.out, HBW.out.trans (HB4.out.mono (Nat.le_trans hB HBW.out.size)), ((Cells.below HAL.out).trans HC3.out).trans (Cells.below HB4.out)⟩

set_option maxRecDepth 100000 in
set_option maxHeartbeats 2000000 in
theorem ask_err (B : Nat) (kind n : Int) (a b : List UInt8) (k : Int) (hk0 : k ≠ 0) (sb : Nat) (D : List (List (List UInt8))) (w : World) (hg : ErrIn w) (hgB : 0 < B)
    (hB : B ≤ w.heap.size) (hseg : Seg B w sb D) (hcomp : CompileOk w ⟨kind, a, b, n, 400⟩) (herr : errOf ⟨kind, a, b, n, 400⟩ = some k) :
    Calls Tryz.prog 14 #[ptrV sb, .int .i64 kind, strV a, strV b, .int .i64 n] w fun e w' => e = .returned (.tuple #[.slice none 0 0, .bool false]) ∧ Seg B w' sb D ∧ Below B w w' ∧ Cells w w' := by
  have HS := Lib.hid hseg
  have HG := Lib.hid hg
  clear hseg hg
  unfold ptrV strV
  go_enter Tryz.func14, Tryz.ntmps14
  go_wp2_with fail
  have hs := plainSearch_err B ⟨kind, a, b, n, 400⟩ k 1048576 sb D w HG.out hgB hB HS.out 400 rfl (by omega) (by omega) hcomp herr
  unfold ptrV askV strV at hs
  refine hs.mono ?_
  clear hs
  rintro e w3 ⟨rfl, hs3, hb3, hc3⟩
  have hkz : (k == 0) = false := by rw [Bool.eq_false_iff]; intro h; exact hk0 (by rwa [beq_iff_eq] at h)
  go_wp2_with fail
  go_ret2
  exact ⟨rfl, hs3, hb3, hc3⟩
end Go.Proofs.Ts
/- The walk of Wider. -/
set_option linter.unusedVariables false
set_option linter.unusedSimpArgs false
namespace Go.Proofs.Ts
open Go Go.RowKit

theorem RowOf.cells {w w' : World} {v : Value} {a : List Nat} (h : RowOf w v a) (hc : Cells w w') : RowOf w' v a := ownsRow_typed h fun k cs r hk => hc.2 k cs _ r hk (by decide)
theorem RowOf.below {w w' : World} {v : Value} {a : List Nat} (h : RowOf w v a) (hb : Below w.heap.size w w') : RowOf w' v a := ownsRow_block h fun k e => hb.block k (h.lt k e).2
/-- What the automaton of nearness reads. -/
def nearAcc (x : List UInt8) (n : Nat) : List UInt8 → Bool := accA (nstep (runesR ⟨x.toArray⟩) n) (nends (runesR ⟨x.toArray⟩) n) nstart
theorem nearAcc_mono (x : List UInt8) {n m : Nat} (h : n ≤ m) (u : List UInt8) (hu : nearAcc x n u = true) : nearAcc x m u = true := near_mono h u nstart hu
theorem size_of (x : List UInt8) : ByteArray.size ⟨x.toArray⟩ = x.length := by simp [ByteArray.size]
theorem nearAcc_zero {x : List UInt8} (h : x.length ≤ 40) (hv : Lib.validD x = true) : nearAcc x 0 = fun u => decide (u = x) := by
  have hv' : Lib.validD (ByteArray.mk x.toArray).data.toList = true := by simpa using hv
  obtain ⟨h1, h2, h3, _⟩ := runesR_of hv'
  have hs := size_of x
  funext u
  rw [Bool.eq_iff_iff, decide_eq_true_eq]
  have := near_zero h1 (by omega) u
  unfold nearAcc
  rw [this, ← h2]
theorem accOf_near {x b : List UInt8} {n : Nat} {st : Int} (h : x.length ≤ 40) (hv : Lib.validD x = true) (hn : n ≤ 2) : accOf ⟨6, x, b, n, st⟩ = some (nearAcc x n) := by
  have hs := size_of x
  have hb : nearBad ⟨x.toArray⟩ n = none := by
    unfold nearBad
    rw [if_neg (by omega), if_neg (by omega), if_pos (by simpa using hv)]
  have h61 : ¬ (6 : Int) = 1 := by decide
  have h62 : ¬ (6 : Int) = 2 := by decide
  simp only [accOf, if_pos h, if_neg h61, if_neg h62, hb, and_self, if_true]
  rfl
theorem errOf_near {x b : List UInt8} {n : Nat} {st : Int} (h : x.length ≤ 40) (hv : Lib.validD x = false) (hn : n ≤ 2) : errOf ⟨6, x, b, n, st⟩ = some 8 := by
  have hs := size_of x
  have hb : nearBad ⟨x.toArray⟩ n = some 8 := by
    unfold nearBad
    rw [if_neg (by omega), if_neg (by omega), if_neg (by simpa using hv)]
  simp only [errOf, h, and_self, if_true, hb]

set_option maxRecDepth 100000 in
set_option maxHeartbeats 4000000 in
theorem wider_any (docs : List ByteArray) (x : List UInt8) (v : Value) (w : World) (hT : TabsIn w) (hE : ErrIn w) (hv : StrsIs w v docs) (hl : docs.length ≤ 9223372036854775807) (hs : x.length ≤ 9223372036854775807) :
    Calls Tryz.prog 6 #[v, .string ⟨x.toArray⟩] w fun e w' => e = .returned (.bool true) ∧ Below w.heap.size w w' := by
  obtain ⟨va, vc, rfl, hc⟩ := id hv
  have hsz := size_of x
  have h0 : 0 < w.heap.size := lt_of_cell hE
  have HV := Lib.hid hv
  have HT := Lib.hid hT
  have HE := Lib.hid hE
  clear hv hc hT hE
  go_enter Tryz.func6, Tryz.ntmps6
  go_wp2_with fail
  refine (keepBuild_any docs _ w HV.out hl).mono ?_
  rintro e w1 ⟨hb1, hres⟩
  have HB1 := Lib.hid hb1
  clear hb1
  rcases hres with ⟨_, rfl⟩ | ⟨hsm, sb, rfl, hs1⟩
  · go_wp2_with fail
    go_ret
    exact ⟨rfl, HB1.out⟩
  · have hparts : docs.length ≤ 48 := by
      unfold smallW at hsm
      simp at hsm
      exact hsm.1
    have HS1 := Lib.hid hs1
    clear hs1 hsm
    unfold ptrV
    by_cases h40 : 40 < x.length
    · have g1 : decide ((40 : Int) < (x.length : Int)) = true := by simp; omega
      go_wp2_with fail
      go_ret
      exact ⟨rfl, HB1.out⟩
    · have g1 : decide ((40 : Int) < (x.length : Int)) = false := by simp; omega
      obtain ⟨D, hD⟩ : ∃ D, D = docs.map wordsB := ⟨_, rfl⟩
      have hDl : D.length ≤ 48 := by rw [hD]; simpa using hparts
      rw [← hD] at HS1
      clear hD
      go_upto_region 6 with fail
      cases hvd : Lib.validD x with
      | false =>
        have he1 := ask_err w.heap.size 6 0 x [] 8 (by omega) sb D w1 (HE.out.below HB1.out) h0 HB1.out.size HS1.out (compile_six (by omega) (HT.out.below HB1.out)) (errOf_near (n := 0) (by omega) hvd (by omega))
        unfold ptrV strV at he1
        have HE1 := Lib.hid he1
        clear he1
        go_upto_region 7 with (go_at_call 14; refine HE1.out.mono ?_; rintro e w2 ⟨rfl, hs2, hb2, hc2⟩)
        have HB2 : Hid (Below w.heap.size w w2) := Lib.hid (HB1.out.trans hb2)
        have he2 := ask_err w.heap.size 6 1 x [] 8 (by omega) sb D w2 (HE.out.below HB2.out) h0 HB2.out.size hs2 (compile_six (by omega) (HT.out.below HB2.out)) (errOf_near (n := 1) (by omega) hvd (by omega))
        unfold ptrV strV at he2
        have HE2 := Lib.hid he2
        clear he2 hs2 hb2 hc2
        go_upto_region 8 with (go_at_call 14; refine HE2.out.mono ?_; rintro e w3 ⟨rfl, hs3, hb3, hc3⟩)
        have HB3 : Hid (Below w.heap.size w w3) := Lib.hid (HB2.out.trans hb3)
        have he3 := ask_err w.heap.size 6 2 x [] 8 (by omega) sb D w3 (HE.out.below HB3.out) h0 HB3.out.size hs3 (compile_six (by omega) (HT.out.below HB3.out)) (errOf_near (n := 2) (by omega) hvd (by omega))
        unfold ptrV strV at he3
        have HE3 := Lib.hid he3
        clear he3 hs3 hb3 hc3
        go_upto_region 12 with (go_at_call 14; refine HE3.out.mono ?_; rintro e w4 ⟨rfl, hs4, hb4, hc4⟩)
        have HB4 : Hid (Below w.heap.size w w4) := Lib.hid (HB3.out.trans hb4)
        have he4 := plainSearch_err w.heap.size ⟨6, x, [], 0, 1⟩ 8 1048576 sb D w4 (HE.out.below HB4.out) h0 HB4.out.size hs4 1 rfl (by omega) (by omega) (compile_six (by omega) (HT.out.below HB4.out)) (errOf_near (n := 0) (by omega) hvd (by omega))
        unfold ptrV askV strV at he4
        have HE4 := Lib.hid he4
        clear he4 hs4 hb4 hc4
        go_wp2_with (go_at_call 17; refine HE4.out.mono ?_; rintro e w5 ⟨rfl, hs5, hb5, hc5⟩)
        go_ret
        exact ⟨rfl, HB4.out.trans hb5⟩
      | true =>
        have he1 := ask_any w.heap.size 6 0 x [] _ sb D w1 HB1.out.size HS1.out (by omega) (compile_six (by omega) (HT.out.below HB1.out)) (accOf_near (n := 0) (by omega) hvd (by omega))
        unfold ptrV strV at he1
        have HE1 := Lib.hid he1
        clear he1
        go_upto_region 7 with (go_at_call 14; refine HE1.out.mono ?_; rintro e w2 ⟨oa, rfl, hs2, hb2, hc2, hr2⟩)
        have HB2 : Hid (Below w.heap.size w w2) := Lib.hid (HB1.out.trans hb2)
        have RA2 : Hid (RowOf w2 oa (docsOf D (nearAcc x 0))) := Lib.hid hr2
        have he2 := ask_any w.heap.size 6 1 x [] _ sb D w2 HB2.out.size hs2 (by omega) (compile_six (by omega) (HT.out.below HB2.out)) (accOf_near (n := 1) (by omega) hvd (by omega))
        unfold ptrV strV at he2
        have HE2 := Lib.hid he2
        clear he2 hs2 hb2 hc2 hr2
        go_upto_region 8 with (go_at_call 14; refine HE2.out.mono ?_; rintro e w3 ⟨ob, rfl, hs3, hb3, hc3, hr3⟩)
        have HB3 : Hid (Below w.heap.size w w3) := Lib.hid (HB2.out.trans hb3)
        have RA3 : Hid (RowOf w3 oa (docsOf D (nearAcc x 0))) := Lib.hid (RA2.out.cells hc3)
        have RB3 : Hid (RowOf w3 ob (docsOf D (nearAcc x 1))) := Lib.hid hr3
        have he3 := ask_any w.heap.size 6 2 x [] _ sb D w3 HB3.out.size hs3 (by omega) (compile_six (by omega) (HT.out.below HB3.out)) (accOf_near (n := 2) (by omega) hvd (by omega))
        unfold ptrV strV at he3
        have HE3 := Lib.hid he3
        clear he3 hs3 hb3 hc3 hr3
        go_upto_region 14 with (go_at_call 14; refine HE3.out.mono ?_; rintro e w4 ⟨oc, rfl, hs4, hb4, hc4, hr4⟩)
        have HB4 : Hid (Below w.heap.size w w4) := Lib.hid (HB3.out.trans hb4)
        have RA4 : Hid (RowOf w4 oa (docsOf D (nearAcc x 0))) := Lib.hid (RA3.out.cells hc4)
        have RB4 : Hid (RowOf w4 ob (docsOf D (nearAcc x 1))) := Lib.hid (RB3.out.cells hc4)
        have RC4 : Hid (RowOf w4 oc (docsOf D (nearAcc x 2))) := Lib.hid hr4
        have he4 := ask_any w.heap.size 1 0 x [] (fun u => decide (u = x)) sb D w4 HB4.out.size hs4 (by omega) (compile_one (by omega)) (by simp [accOf]; omega)
        unfold ptrV strV at he4
        rw [← nearAcc_zero (by omega) hvd] at he4
        have HE4 := Lib.hid he4
        clear he4 hs4 hb4 hc4 hr4
        go_upto_region 15 with (go_at_call 14; refine HE4.out.mono ?_; rintro e w5 ⟨ot, rfl, hs5, hb5, hc5, hr5⟩)
        have HB5 : Hid (Below w.heap.size w w5) := Lib.hid (HB4.out.trans hb5)
        have ra5 := RA4.out.cells hc5
        have rb5 := RB4.out.cells hc5
        have rc5 := RC4.out.cells hc5
        have rt5 : RowOf w5 ot (docsOf D (nearAcc x 0)) := hr5
        have la := docsOf_len D (nearAcc x 0)
        have lb := docsOf_len D (nearAcc x 1)
        have lc := docsOf_len D (nearAcc x 2)
        have xa := docsOf_lt D (nearAcc x 0)
        have xb := docsOf_lt D (nearAcc x 1)
        have xc := docsOf_lt D (nearAcc x 2)
        have hbo := both_any _ _ _ _ w5 ra5 rb5 (by omega) (by omega) (fun y hy => by have := xa y hy; omega) (fun y hy => by have := xb y hy; omega)
        rw [docs_both D (nearAcc_mono x (by omega : 0 ≤ 1))] at hbo
        have RA5 := Lib.hid ra5
        have RB5 := Lib.hid rb5
        have RC5 := Lib.hid rc5
        have RT5 := Lib.hid rt5
        have HBO := Lib.hid hbo
        have XB := Lib.hid xb
        have XC := Lib.hid xc
        clear hbo ra5 rb5 rc5 rt5 hs5 hb5 hc5 hr5 xa xb xc
        go_upto_region 16 with (go_at_call 18; refine HBO.out.mono ?_; rintro e w6 ⟨ou, rfl, hb6, ru6⟩)
        have hbp := both_any _ _ _ _ w6 (RB5.out.below hb6) (RC5.out.below hb6) (by omega) (by omega) (fun y hy => by have := XB.out y hy; omega) (fun y hy => by have := XC.out y hy; omega)
        rw [docs_both D (nearAcc_mono x (by omega : 1 ≤ 2))] at hbp
        have HBP := Lib.hid hbp
        have HB6 := Lib.hid hb6
        have RU6 := Lib.hid ru6
        clear hbp hb6 ru6
        go_upto_region 17 with (go_at_call 18; refine HBP.out.mono ?_; rintro e w7 ⟨ov, rfl, hb7, rv7⟩)
        have hb57 : Below w5.heap.size w5 w7 := HB6.out.trans (hb7.mono HB6.out.size)
        have hs1 := same_eq _ _ _ w7 (RT5.out.below hb57) (RA5.out.below hb57) (by omega)
        have HS1' := Lib.hid hs1
        have HB57 := Lib.hid hb57
        have HB7 := Lib.hid hb7
        have RV7 := Lib.hid rv7
        clear hs1 hb57 hb7 rv7
        go_upto_region 18 with (go_at_call 16; refine HS1'.out.mono ?_; rintro e w8 ⟨rfl, hb8⟩)
        have hb68 : Below w6.heap.size w6 w8 := HB7.out.trans (hb8.mono HB7.out.size)
        have hb58 : Below w5.heap.size w5 w8 := HB57.out.trans (hb8.mono HB57.out.size)
        have hs2 := same_eq _ _ _ w8 (RU6.out.below hb68) (RB5.out.below hb58) (by omega)
        have HS2 := Lib.hid hs2
        have HB8 := Lib.hid hb8
        have HB58 := Lib.hid hb58
        clear hs2 hb68 hb58 hb8
        go_upto_region 19 with (go_at_call 16; refine HS2.out.mono ?_; rintro e w9 ⟨rfl, hb9⟩)
        have hb79 : Below w7.heap.size w7 w9 := HB8.out.trans (hb9.mono HB8.out.size)
        have hb59 : Below w5.heap.size w5 w9 := HB58.out.trans (hb9.mono HB58.out.size)
        have hs3 := same_eq _ _ _ w9 (RV7.out.below hb79) (RC5.out.below hb59) (by omega)
        have HS3 := Lib.hid hs3
        have HB59 := Lib.hid hb59
        clear hs3 hb79 hb59 hb9
        go_wp2_with (go_at_call 16; refine HS3.out.mono ?_; rintro e w10 ⟨rfl, hb10⟩)
        go_ret
        refine ⟨rfl, HB5.out.trans ((HB59.out.trans (hb10.mono HB59.out.size)).mono HB5.out.size)⟩
end Go.Proofs.Ts
