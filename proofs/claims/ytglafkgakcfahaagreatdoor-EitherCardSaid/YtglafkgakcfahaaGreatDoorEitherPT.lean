/- Lemmas towards the statement Either of termsearch: walks of the program's functions and plain laws on lists (TsErrsP, TsToldB, TsAskE, TsRowOf, TsEither). Conditions: those that each theorem names. -/
import Derived.Test.YtglafkgakcfahaaGreatDoorEitherPS
import Derived.BigQuiet
import Derived.Test.YtglafkgakcfahaaGreatDoorEitherPR
import Derived.Test.YtglafkgakcfahaaGreatDoorEitherPQ
set_option linter.unusedVariables false
set_option linter.unusedSimpArgs false
set_option linter.unusedSectionVars false
namespace Go.Proofs.Ts
open Go Go.RowKit Go.Extern.Stop Go.Stop Go.Extern
theorem rl_typeOfP (v:Value) (w:World):(ReflectliteType.typeOf #[.iface 103 v]).run Tryz.prog w = .ok (.iface 222 (.agg #[.pointer (some ⟨5,103,none⟩)])) w:=by kernel_rfl
theorem rl_assignablePP (w : World) : (ReflectliteType.relation "AssignableTo" ReflectliteType.assignableTo #[.agg #[.pointer (some ⟨5, 103, none⟩)], .iface 222 (.agg #[.pointer (some ⟨5, 103, none⟩)])]).run Tryz.prog w = .ok (.bool true) w := by kernel_rfl
theorem rl_valueOfP (p:Addr) (w:World):(ReflectliteValue.unpack (.iface 103 (.pointer (some p)))).run Tryz.prog w = .ok (.agg #[.pointer (some ⟨5,103,none⟩),.pointer (some ⟨w.heap.size,0,none⟩),.int .u64 150]) (w.alloc (.cells #[.pointer (some p)] 103)):=by kernel_rfl
theorem rl_elemOfB (w:World):(Rtype.elem? 105).run Tryz.prog w = .ok (some 103) w:=by kernel_rfl
theorem rl_mkP (p:Addr) (w:World):(ReflectliteValue.mk 103 p ReflectliteValue.flagAddr).run Tryz.prog w = .ok (.agg #[.pointer (some ⟨5,103,none⟩),.pointer (some p),.int .u64 406]) w:=by kernel_rfl
theorem rl_elemVB (a p:Addr) (W:World) (ha:W.cell? a=some (.pointer (some p))) :
  (ReflectliteValue.method (ReflectliteValue.valueError "reflectlite.Value.Elem" 0) ReflectliteValue.elem #[.agg #[.pointer (some ⟨5, 105, none⟩), .pointer (some a), .int .u64 150]]).run Tryz.prog W
   = .ok (.agg #[.pointer (some ⟨5,103,none⟩),.pointer (some p),.int .u64 406]) W:=by
 rw [rlm]
 simp only [Sem.run_bind,rl_partsB,Result.andThen]
 simp [ReflectliteValue.elem,loadVar,isAgg,underlying,Tryz.underlying105,ha,Result.andThen,rl_elemOfB,rl_mkP]
theorem rl_partsPa (a:Addr) (w:World):(ReflectliteValue.parts (.agg #[.pointer (some ⟨5,103,none⟩),.pointer (some a),.int .u64 406])).run Tryz.prog w = .ok (some (103,a,406)) w:=by kernel_rfl
theorem rl_partsP (a:Addr) (w:World):(ReflectliteValue.parts (.agg #[.pointer (some ⟨5,103,none⟩),.pointer (some a),.int .u64 150])).run Tryz.prog w = .ok (some (103,a,150)) w:=by kernel_rfl
theorem rl_directP (w:World):(Rtype.directlyAssignable 103 103).run Tryz.prog w = .ok true w:=by kernel_rfl
theorem rl_setP (ta b:Addr) (p:Addr) (old:Value) (W:World) (hb:W.cell? b=some (.pointer (some p))) (ht:W.cell? ta=some old) (hf:W.frozen? ta=false) :
  (ReflectliteValue.set #[.agg #[.pointer (some ⟨5,103,none⟩),.pointer (some ta),.int .u64 406],.agg #[.pointer (some ⟨5,103,none⟩),.pointer (some b),.int .u64 150]]).run Tryz.prog W
   = .ok (.tuple #[]) (W.setCell ta (.pointer (some p))):=by
 rw [rls]
 simp only [Sem.run_bind,rl_partsPa,rl_partsP,Result.andThen]
 simp [ReflectliteValue.flagAddr,loadVar,isAgg,underlying,Tryz.underlying103,hb,Result.andThen,rl_directP,storeVar,Value.cells,storeCells,Addr.add]
 rw [run_store Tryz.prog W ta _ _ (by rfl)]
 simp [ht,hf]
set_option maxHeartbeats 4000000 in
theorem as_hitB (p:Addr) (b:Nat) (old:Value) (w:World) (hg:ErrIn w) (ht0:w.cell? ⟨b,0,none⟩=some old) (hf0:w.frozen? ⟨b,0,none⟩=false) :
  Calls Tryz.prog 43 #[.iface 103 (.pointer (some p)),.iface 105 (.pointer (some ⟨b,0,none⟩))] w fun ev w'=>ev = .returned (.bool true) ∧ ∃ w1,Below w.heap.size w w1∧w'=w1.setCell ⟨b,0,none⟩ (.pointer (some p)):=by
 have h6:=@run_callFunc_extern Tryz.prog 71 _ (fun args=>ReflectliteValue.unpack (args.getD 0 (.tuple #[]))) Tryz.func71 (by kernel_rfl) (by kernel_rfl) (by kernel_rfl) (by kernel_rfl)
 have h7 := @run_callFunc_extern Tryz.prog 72 _ (ReflectliteValue.methodAny (ReflectliteValue.valueError "reflectlite.Value.Type" 0) (fun t _ _ _ => ReflectliteType.toType t)) Tryz.func72 (by kernel_rfl) (by kernel_rfl) (by kernel_rfl) (by kernel_rfl)
 have h8 := @run_callFunc_extern Tryz.prog 73 _ (ReflectliteValue.method (ReflectliteValue.valueError "reflectlite.Value.IsNil" 0) ReflectliteValue.isNil) Tryz.func73 (by kernel_rfl) (by kernel_rfl) (by kernel_rfl) (by kernel_rfl)
 have h27:=@run_callFunc_extern Tryz.prog 203 _ (ReflectliteType.abiMethod fun t=>do pure (.int .u8 (← Rtype.kind t))) Tryz.func203 (by kernel_rfl) (by kernel_rfl) (by kernel_rfl) (by kernel_rfl)
 have h37:=@run_callFunc_extern Tryz.prog 226 _ (ReflectliteType.method ReflectliteType.elem) Tryz.func226 (by kernel_rfl) (by kernel_rfl) (by kernel_rfl) (by kernel_rfl)
 have h38 := @run_callFunc_extern Tryz.prog 227 _ (ReflectliteType.relation "Implements" ReflectliteType.implements_) Tryz.func227 (by kernel_rfl) (by kernel_rfl) (by kernel_rfl) (by kernel_rfl)
 have h10:=@run_callFunc_extern Tryz.prog 75 _ ReflectliteType.typeOf Tryz.func75 (by kernel_rfl) (by kernel_rfl) (by kernel_rfl) (by kernel_rfl)
 have h35 := @run_callFunc_extern Tryz.prog 224 _ (ReflectliteType.relation "AssignableTo" ReflectliteType.assignableTo) Tryz.func224 (by kernel_rfl) (by kernel_rfl) (by kernel_rfl) (by kernel_rfl)
 have h11 := @run_callFunc_extern Tryz.prog 103 _ (ReflectliteValue.method (ReflectliteValue.valueError "reflectlite.Value.Elem" 0) ReflectliteValue.elem) Tryz.func103 (by kernel_rfl) (by kernel_rfl) (by kernel_rfl) (by kernel_rfl)
 have h12:=@run_callFunc_extern Tryz.prog 104 _ ReflectliteValue.set Tryz.func104 (by kernel_rfl) (by kernel_rfl) (by kernel_rfl) (by kernel_rfl)
 have tO:=rl_typeOfP
 have mA:=rl_methodAssignable
 have a25:=rl_assignablePP
 have v25:=rl_valueOfP
 have f6:=rl_valueOfB
 have f7:=rl_typeB
 have mK:=rl_methodKind
 have mE:=rl_methodElem
 have mI:=rl_methodImplements
 have k27:=rl_kindB
 have k25:=rl_kindP
 have e27:=rl_elemB
 have i25:=rl_implementsP
 have n8:=rl_isNilB ⟨w.heap.size,0,none⟩ ⟨b,0,none⟩ ((w.alloc (.cells #[.pointer (some ⟨b,0,none⟩)] 105)).alloc (.cells #[.pointer (some ⟨5,105,none⟩),.pointer (some ⟨w.heap.size,0,none⟩),.int .u64 150] 169)) (by simp)
 have hlt:0 < w.heap.size:=lt_of_cell hg
 unfold ErrIn at hg
 have hg2:((w.alloc (.cells #[.pointer (some ⟨b,0,none⟩)] 105)).alloc (.cells #[.pointer (some ⟨5,105,none⟩),.pointer (some ⟨w.heap.size,0,none⟩),.int .u64 150] 169)).cell? ⟨0,0,none⟩=some (.iface 222 (.agg #[.pointer (some ⟨5,69,none⟩)])):=by
  rw [World.cell?_alloc_lt _ _ ⟨0,0,none⟩ (by simp),World.cell?_alloc_lt _ _ ⟨0,0,none⟩ hlt]; exact hg
 have htl:b < w.heap.size:=lt_of_cell ht0
 have el:=rl_elemVB ⟨w.heap.size,0,none⟩ ⟨b,0,none⟩ (((w.alloc (.cells #[.pointer (some ⟨b,0,none⟩)] 105)).alloc (.cells #[.pointer (some ⟨5,105,none⟩),.pointer (some ⟨w.heap.size,0,none⟩),.int .u64 150] 169)).alloc (.cells #[.pointer (some ⟨5,105,none⟩),.pointer (some ⟨w.heap.size,0,none⟩),.int .u64 150] 169)) (by rw [World.cell?_alloc_lt _ _ ⟨w.heap.size,0,none⟩ (by simp; omega)]; simp)
 have st:=rl_setP ⟨b,0,none⟩ ⟨w.heap.size+1+1+1,0,none⟩ p old ((((w.alloc (.cells #[.pointer (some ⟨b,0,none⟩)] 105)).alloc (.cells #[.pointer (some ⟨5,105,none⟩),.pointer (some ⟨w.heap.size,0,none⟩),.int .u64 150] 169)).alloc (.cells #[.pointer (some ⟨5,105,none⟩),.pointer (some ⟨w.heap.size,0,none⟩),.int .u64 150] 169)).alloc (.cells #[.pointer (some p)] 103))
  (by rw [World.cell?_alloc_at _ _ _ _ (by simp)]; rfl)
  (by rw [World.cell?_alloc_lt _ _ ⟨b,0,none⟩ (by simp; omega),World.cell?_alloc_lt _ _ ⟨b,0,none⟩ (by simp; omega),World.cell?_alloc_lt _ _ ⟨b,0,none⟩ (by simp; omega),World.cell?_alloc_lt _ _ ⟨b,0,none⟩ htl]; exact ht0)
  (by rw [World.frozen?_alloc_old _ _ ⟨b,0,none⟩ (by simp; omega),World.frozen?_alloc_old _ _ ⟨b,0,none⟩ (by simp; omega),World.frozen?_alloc_old _ _ ⟨b,0,none⟩ (by simp; omega),World.frozen?_alloc_old _ _ ⟨b,0,none⟩ (Nat.ne_of_lt htl)]; exact hf0)
 go_enter Tryz.func43,Tryz.ntmps43
 go_wp2
 refine wp_loop_rounds 1 ?_
 rw [rounds_succ]
 go_wp2
 go_ret
 refine ⟨rfl,_,?_,rfl⟩
 exact ((((Below.refl _ w).alloc (Nat.le_refl _) _).alloc (by simp) _).alloc (by simp; omega) _).alloc (by simp; omega) _
theorem rl_methodUnwrap (fu : Nat) (v : Value) (w : World) : (Go.method (fu + 1) 103 v "Unwrap").run Tryz.prog w = .ok (209, v) w := by kernel_rfl
theorem rl_noIsB (v:Value) (xT:TypeId) (w:World):(Instr.typeAssert (.iface 103 v) xT 234 true).run Tryz.prog w = .ok (.tuple #[.nilIface,.bool false]) w:=run_typeAssert_lacksB Tryz.underlying234 (by kernel_rfl) (by kernel_rfl) v xT w
theorem rl_hasUnwrapB (v:Value) (xT:TypeId) (w:World):(Instr.typeAssert (.iface 103 v) xT 229 true).run Tryz.prog w = .ok (.tuple #[.iface 103 v,.bool true]) w:=run_typeAssert_hasB Tryz.underlying229 (by kernel_rfl) v xT w
theorem eq_bad (v:Value) (k:Int) (w:World):(binOp BinOp.eql 69 (.iface 103 v) (.iface 33 (.int .i64 k))).run Tryz.prog w = .ok (.bool false) w:=by kernel_rfl
set_option maxRecDepth 100000 in
set_option maxHeartbeats 4000000 in
theorem is_bad (k t:Int) (b:Nat) (w:World) (hb:w.heap[b]?=some (.cells #[.int .i64 k,.int .i64 t] 108 (0,0))) :
  Calls Tryz.prog 44 #[.iface 103 (.pointer (some ⟨b,0,none⟩)),.iface 33 (.int .i64 k)] w fun ev w'=>ev = .returned (.bool true)∧Below w.heap.size w w':=by
 have h10:=@run_callFunc_extern Tryz.prog 75 _ ReflectliteType.typeOf Tryz.func75 (by kernel_rfl) (by kernel_rfl) (by kernel_rfl) (by kernel_rfl)
 have h35 := @run_callFunc_extern Tryz.prog 225 _ (ReflectliteType.method (fun t => do Rtype.noPackHeld "Comparable" t; pure (.bool (← typeInfo t).comparable))) Tryz.func225 (by kernel_rfl) (by kernel_rfl) (by kernel_rfl) (by kernel_rfl)
 have c0:w.cell? ⟨b,0,none⟩=some (.int .i64 k):=cell_block hb
 have tO:=rl_typeOfN
 have mC:=rl_methodComparable
 have cN:=rl_comparableN
 have eE:=eq_errno
 have eB:=eq_bad
 have n1:=rl_noIsB
 have n2:=rl_hasUnwrapB
 have mU:=rl_methodUnwrap
 clear hb
 go_enter Tryz.func44,Tryz.ntmps44
 go_wp2
 refine wp_loop_rounds 2 ?_
 rw [rounds_succ]
 go_wp2
 rw [rounds_succ]
 go_wp2
 go_ret
 exact ⟨rfl,Below.refl _ _⟩
end Go.Proofs.Ts
namespace Go.Proofs.Ts
open Go Go.RowKit Go.Extern.Stop Go.Stop Go.Extern
set_option maxRecDepth 100000 in
set_option maxHeartbeats 4000000 in
theorem told_bad (k t:Int) (b:Nat) (w:World) (hg:ErrIn w) (hb:w.heap[b]?=some (.cells #[.int .i64 k,.int .i64 t] 108 (0,0))) :
    Calls Tryz.prog 32 #[.iface 103 (.pointer (some ⟨b,0,none⟩))] w fun e w'=>e = .returned (.tuple #[.int .i64 k,.int .i64 t])∧Below w.heap.size w w':=by
  have HG:=Lib.hid hg
  have HB:=Lib.hid hb
  clear hg hb
  go_enter Tryz.func32,Tryz.ntmps32
  go_upto_region 5 with fail
  have hbe:Below w.heap.size w ((w.alloc (.cells #[.pointer none] 103)).alloc (.cells #[.int .i64 0] 33)):=((Below.refl _ w).alloc (Nat.le_refl _) _).alloc (by simp) _
  have hb4:((w.alloc (.cells #[.pointer none] 103)).alloc (.cells #[.int .i64 0] 33)).heap[w.heap.size]?=some (.cells #[.pointer none] 103 (0,0)):=(((Below.refl _ _).alloc (Nat.le_refl _) (.cells #[.int .i64 0] 33)).block _ (by simp)).trans (heap_alloc_new w (.cells #[.pointer none] 103))
  generalize ((w.alloc (.cells #[.pointer none] 103)).alloc (.cells #[.int .i64 0] 33))=W at *
  have hit:=as_hitB ⟨b,0,none⟩ w.heap.size _ W (HG.out.below hbe) (cell_block (i:=0) hb4) (free_block hb4)
  have HIT:=Lib.hid hit
  have HBE:=Lib.hid hbe
  have HB4:=Lib.hid hb4
  clear hbe hb4 hit
  go_upto_region 6 with (first
    | (go_at_call 43; refine HIT.out.mono ?_; rintro e w2 ⟨rfl,w3,hb3,rfl⟩
       have h34:=(hb3.block _ (lt_of_heap HB4.out)).trans HB4.out
       have hw3:Below w.heap.size w (w3.setCell ⟨w.heap.size,0,none⟩ (.pointer (some ⟨b,0,none⟩))):=(HBE.out.trans (hb3.mono HBE.out.size)).setCell (p:=⟨w.heap.size,0,none⟩) (Nat.le_refl _) _
       have hbb:=(hw3.block _ (lt_of_heap HB.out)).trans HB.out
       have cP:(w3.setCell ⟨w.heap.size,0,none⟩ (.pointer (some ⟨b,0,none⟩))).cell? ⟨w.heap.size,0,none⟩=some (.pointer (some ⟨b,0,none⟩)):=World.cell?_setCell_same' _ _ _ (by rw [cell_block h34]; rfl)
       have cK:(w3.setCell ⟨w.heap.size,0,none⟩ (.pointer (some ⟨b,0,none⟩))).cell? ⟨b,0,none⟩=some (.int .i64 k):=cell_block hbb
       have HW3:=Lib.hid (And.intro hw3 hbb)
       clear hb3 h34 hw3 hbb
       generalize w3.setCell ⟨w.heap.size,0,none⟩ (.pointer (some ⟨b,0,none⟩))=W5 at *)
    | (go_at_call 44; refine (is_bad k t b _ HW3.out.2).mono ?_; rintro e w4 ⟨rfl,hb4⟩
       have hP:=(hb4.cell (p:=⟨w.heap.size,0,none⟩) (lt_of_cell cP)).trans cP
       have hbb:=(hb4.block _ (lt_of_heap HW3.out.2)).trans HW3.out.2
       have HW4:=Lib.hid (And.intro (HW3.out.1.trans (hb4.mono HW3.out.1.size)) hbb)
       clear hb4 cP cK
       have cP:=hP
       have cK:w4.cell? ⟨b,0,none⟩=some (.int .i64 k):=cell_block hbb
       have cT:w4.cell? ⟨b,1,none⟩=some (.int .i64 t):=cell_block hbb
       clear hP hbb))
  go_quiet (fail)
  go_wp2_with fail
  go_ret2
  exact ⟨rfl,HW4.out.1.trans ((Same.drewN _ _).below _)⟩
end Go.Proofs.Ts
namespace Go.Proofs.Ts
open Go Go.RowKit
set_option maxRecDepth 100000 in
set_option maxHeartbeats 2000000 in
theorem terms_err (B:Nat) (q:Asked) (k:EV) (most sb:Nat) (D:List (List (List UInt8))) (kn:Value) (db:Nat) (R:Nat→Prop) (Λ:Nat→List Word) (ρ:Nat→Nat) (Dd:List DS) (pv:Value) (ps:List Value) (w:World)
  (hB:B≤w.heap.size) (hsb:B≤sb) (hseg:SegAt w sb D kn db R Λ ρ Dd pv ps) (hkn:KnownIs B w kn) (st:Nat) (hst:q.states=st) (hst1:1≤st∧st≤400) (hmost:most≤2000000) (hcomp:CompileOk w q) (herr:errOf q=some k) :
  Calls Tryz.prog 41 #[ptrV sb,askV q,.int .i64 st,.int .i64 most] w fun e w'=>∃ kn' ev,e = .returned (.tuple #[.slice none 0 0,ev])∧ErrIs w' ev k∧SegAt w' sb D kn' db R Λ ρ Dd pv ps∧KnownIs B w' kn'∧Below B w w'∧Cells w w':=by
 have hsbl:=lt_of_heap hseg.1
 have g1:decide ((st:Int) < 1)=false:=by simp <;> omega
 have g2:decide ((400:Int) < (st:Int))=false:=by simp <;> omega
 have g3:decide ((most:Int) < 0)=false:=by simp
 have HSEG:=Lib.hid hseg
 have HKN:=Lib.hid hkn
 clear hseg hkn
 unfold ptrV askV strV
 go_enter Tryz.func41,Tryz.ntmps41
 go_wp2_with fail
 clear g1 g2 g3
 have hal:Below w.heap.size w ((w.alloc (.cells #[.int .i64 q.kind,.string ⟨q.a.toArray⟩,.string ⟨q.b.toArray⟩,.int .i64 q.n] 37)).alloc (.cells #[.int .i64 most] 3)):=((Below.refl _ w).alloc (Nat.le_refl _) _).alloc (by simp) _
 generalize ((w.alloc (.cells #[.int .i64 q.kind,.string ⟨q.a.toArray⟩,.string ⟨q.b.toArray⟩,.int .i64 q.n] 37)).alloc (.cells #[.int .i64 most] 3))=w2 at *
 have hseg2:=HSEG.out.below hal
 have hplan:=plan_any B q sb D.length db pv kn w2 (Nat.le_trans hB hal.size) hsb hseg2.1 (HKN.out.below hal) (hcomp.kept (Cells.below hal))
 have HSEG2:=Lib.hid hseg2
 have HAL:=Lib.hid hal
 clear hseg2 hal
 rw [hst] at hplan
 unfold ptrV askV strV at hplan
 refine hplan.mono ?_
 clear hplan
 rintro e w1 ⟨pb,kn',rfl,hpf,hce,hbe,hsg1,hkn1⟩
 obtain ⟨fv,ev,hpb,hev⟩:=hpf.errs k herr
 obtain ⟨eT,ew,hevv⟩:=hev.some
 have HEV:=Lib.hid (And.intro hev hevv)
 rw [hevv] at hpb
 have hseg1:=HSEG2.out.kept hce hsg1
 have p1:w1.cell? ⟨pb,1,none⟩=some (.iface eT ew):=cell_block hpb
 have HSEG1:=Lib.hid hseg1
 have HKN1:=Lib.hid hkn1
 have HBE:=Lib.hid hbe
 have HCE:=Lib.hid ((Cells.below HAL.out).trans hce)
 clear hpf hseg1 hkn1 hbe hce HSEG2 hpb hsg1 hev hevv
 go_wp2_with fail
 go_quiet (fail)
 go_wp2_with fail
 go_ret2
 have hbq:Below w1.heap.size w1 (w1.drewN nq):=below_drewNv (Below.refl _ _) _
 exact ⟨kn',.iface eT ew,rfl,by rw [← HEV.out.2]; exact HEV.out.1.kept fun k' cs t r hk _=>hbq.block k' (lt_of_heap hk),HSEG1.out.below hbq,HKN1.out.below hbq,((HAL.out.mono hB).trans HBE.out).trans (hbq.mono (by have:=HBE.out.size; have:=HAL.out.size; omega)),HCE.out.trans (Cells.below hbq)⟩
set_option maxRecDepth 100000 in
set_option maxHeartbeats 2000000 in
theorem search_err (B:Nat) (q:Asked) (k:EV) (most sb:Nat) (D:List (List (List UInt8))) (kn:Value) (w:World)
  (hB:B≤w.heap.size) (hsb:B≤sb) (hseg:SegIs w sb D kn) (hkn:KnownIs B w kn) (st:Nat) (hst:q.states=st) (hst1:1≤st∧st≤400) (hmost:most≤2000000) (hcomp:CompileOk w q) (herr:errOf q=some k) :
  Calls Tryz.prog 31 #[ptrV sb,askV q,.int .i64 st,.int .i64 most] w fun e w'=>∃ kn' ev,e = .returned (.tuple #[.slice none 0 0,ev])∧ErrIs w' ev k∧SegIs w' sb D kn'∧KnownIs B w' kn'∧Below B w w'∧Cells w w':=by
 obtain ⟨db,R,Λ,ρ,Dd,pv,ps,hat⟩:=hseg.at
 have HAT:=Lib.hid hat
 have HKN:=Lib.hid hkn
 clear hseg hat hkn
 unfold ptrV askV strV
 go_enter Tryz.func31,Tryz.ntmps31
 go_wp2_with fail
 have hal:Below w.heap.size w (w.alloc (.cells #[.int .i64 q.kind,.string ⟨q.a.toArray⟩,.string ⟨q.b.toArray⟩,.int .i64 q.n] 37)):=(Below.refl _ w).alloc (Nat.le_refl _) _
 have HAL:=Lib.hid hal
 clear hal
 generalize (w.alloc (.cells #[.int .i64 q.kind,.string ⟨q.a.toArray⟩,.string ⟨q.b.toArray⟩,.int .i64 q.n] 37))=w2 at *
 have hterms:=terms_err B q k most sb D kn db R Λ ρ Dd pv ps w2 (Nat.le_trans hB HAL.out.size) hsb (HAT.out.below HAL.out) (HKN.out.below HAL.out) st hst hst1 hmost (hcomp.kept (Cells.below HAL.out)) herr
 unfold ptrV askV strV at hterms
 refine hterms.mono ?_
 clear hterms
 rintro e w3 ⟨kn',ev,rfl,hev,hat3,hkn3,hb3,hc3⟩
 obtain ⟨eT,ew,hevv⟩:=hev.some
 subst hevv
 have HEV:=Lib.hid hev
 clear hev
 go_wp2_with fail
 go_ret2
 exact ⟨kn',_,rfl,HEV.out,hat3.is,hkn3,(HAL.out.mono hB).trans hb3,(Cells.below HAL.out).trans hc3⟩
theorem told_err {w:World} {ev:Value} {k:EV} (h:ErrIs w ev k) (hg:ErrIn w):Calls Tryz.prog 32 #[ev] w fun e w'=>e = .returned (.tuple #[.int .i64 k.num,.int .i64 k.place])∧Below w.heap.size w w':=by
 cases k with
 | no k =>
  have h':ev=errnoV k:=h
  subst h'
  exact told_errno k w hg
 | bad k i =>
  obtain ⟨b,rfl,hb⟩:=h
  exact told_bad k i b w hg hb
set_option maxRecDepth 100000 in
set_option maxHeartbeats 2000000 in
theorem plainSearch_err (B:Nat) (q:Asked) (k:EV) (most sb:Nat) (D:List (List (List UInt8))) (w:World) (hg:ErrIn w) (hgB:0 < B)
  (hB:B≤w.heap.size) (hseg:Seg B w sb D) (st:Nat) (hst:q.states=st) (hst1:1≤st∧st≤400) (hmost:most≤2000000) (hcomp:CompileOk w q) (herr:errOf q=some k) :
  Calls Tryz.prog 17 #[ptrV sb,askV q,.int .i64 st,.int .i64 most] w fun e w'=>e = .returned (.tuple #[.slice none 0 0,.int .i64 k.num,.int .i64 k.place])∧Seg B w' sb D∧Below B w w'∧Cells w w':=by
 have HS:=Lib.hid hseg
 have HG:=Lib.hid hg
 clear hseg hg
 unfold ptrV askV strV
 go_enter Tryz.func17,Tryz.ntmps17
 go_wp2_with fail
 have hal:Below w.heap.size w (w.alloc (.cells #[.int .i64 q.kind,.string ⟨q.a.toArray⟩,.string ⟨q.b.toArray⟩,.int .i64 q.n] 37)):=(Below.refl _ w).alloc (Nat.le_refl _) _
 have HAL:=Lib.hid hal
 clear hal
 generalize (w.alloc (.cells #[.int .i64 q.kind,.string ⟨q.a.toArray⟩,.string ⟨q.b.toArray⟩,.int .i64 q.n] 37))=w2 at *
 obtain ⟨hsb,kn,hs2,hk2⟩:=HS.out.below HAL.out
 have hs:=search_err B q k most sb D kn w2 (Nat.le_trans hB HAL.out.size) hsb hs2 hk2 st hst hst1 hmost (hcomp.kept (Cells.below HAL.out)) herr
 unfold ptrV askV strV at hs
 refine hs.mono ?_
 clear hs hs2 hk2
 rintro e w3 ⟨kn',ev,rfl,hev,hs3,hk3,hb3,hc3⟩
 have hbw:Below B w w3:=(HAL.out.mono hB).trans hb3
 have HC3:=Lib.hid hc3
 have HS3:Hid (Seg B w3 sb D):=Lib.hid ⟨hsb,kn',hs3,hk3⟩
 have HBW:=Lib.hid hbw
 have hg3:ErrIn w3:=(World.cell?_of_block (a:=⟨0,0,none⟩) (hbw.block _ hgB)).trans HG.out
 have HTOLD:=Lib.hid (told_err hev hg3)
 clear hs3 hk3 hbw hg3 hb3 hc3 hev
 generalize hkn:k.num=kn1 at *
 generalize hkp:k.place=kp1 at *
 go_wp2_with fail
 refine HTOLD.out.mono ?_
 rintro e w4 ⟨rfl,hb4⟩
 have HB4:=Lib.hid hb4
 clear hb4
 go_wp2_with fail
 go_ret3
 exact ⟨by rw [← hkn,← hkp]; rfl,HS3.out.below HB4.out,HBW.out.trans (HB4.out.mono (Nat.le_trans hB HBW.out.size)),((Cells.below HAL.out).trans HC3.out).trans (Cells.below HB4.out)⟩
set_option maxRecDepth 100000 in
set_option maxHeartbeats 2000000 in
theorem ask_err (B:Nat) (kind n:Int) (a b:List UInt8) (k:EV) (hk0:k.num≠0) (sb:Nat) (D:List (List (List UInt8))) (w:World) (hg:ErrIn w) (hgB:0 < B)
  (hB:B≤w.heap.size) (hseg:Seg B w sb D) (hcomp:CompileOk w ⟨kind,a,b,n,400⟩) (herr:errOf ⟨kind,a,b,n,400⟩=some k) :
  Calls Tryz.prog 14 #[ptrV sb,.int .i64 kind,strV a,strV b,.int .i64 n] w fun e w'=>e = .returned (.tuple #[.slice none 0 0,.bool false])∧Seg B w' sb D∧Below B w w'∧Cells w w':=by
 have HS:=Lib.hid hseg
 have HG:=Lib.hid hg
 clear hseg hg
 unfold ptrV strV
 go_enter Tryz.func14,Tryz.ntmps14
 go_wp2_with fail
 have hs:=plainSearch_err B ⟨kind,a,b,n,400⟩ k 1048576 sb D w HG.out hgB hB HS.out 400 rfl (by omega) (by omega) hcomp herr
 unfold ptrV askV strV at hs
 refine hs.mono ?_
 clear hs
 rintro e w3 ⟨rfl,hs3,hb3,hc3⟩
 have hkz:(k.num == 0)=false:=by rw [Bool.eq_false_iff]; intro h; exact hk0 (by rwa [beq_iff_eq] at h)
 generalize k.num=kn1 at *
 generalize k.place=kp1 at *
 go_wp2_with fail
 go_ret2
 exact ⟨rfl,hs3,hb3,hc3⟩
end Go.Proofs.Ts
namespace Go.Proofs.Ts
open Go Go.RowKit
theorem RowOf.cells {w w':World} {v:Value} {a:List Nat} (h:RowOf w v a) (hc:Cells w w'):RowOf w' v a:=ownsRow_typed h fun k cs r hk=>hc.2 k cs _ r hk (by decide)
theorem RowOf.below {w w':World} {v:Value} {a:List Nat} (h:RowOf w v a) (hb:Below w.heap.size w w'):RowOf w' v a:=ownsRow_block h fun k e=>hb.block k (h.lt k e).2
theorem list_str (x:ByteArray):(⟨x.data.toList.toArray⟩:ByteArray)=x:=by cases x; simp
theorem len_list' (s:ByteArray):s.data.toList.length=s.size:=by simp
end Go.Proofs.Ts
namespace Go.Proofs.Ts
open Go Go.RowKit
def RxAns (w':World) (D:List (List (List UInt8))) (x:ByteArray) (ov:Value) (ok:Bool):Prop :=
 (ok=true ∧ ∃ f,accOf ⟨5,x.data.toList,[],0,400⟩=some f∧RowOf w' ov (docsOf D f))∨(ok=false ∧ ∃ e,errOf ⟨5,x.data.toList,[],0,400⟩=some e)
theorem ask_rx (B:Nat) (x:ByteArray) (sb:Nat) (D:List (List (List UInt8))) (w:World) (hT:BitTab w) (hg:ErrIn w) (hgB:0 < B)
  (hB:B≤w.heap.size) (hseg:Seg B w sb D) (hD:D.length≤1000) :
  Calls Tryz.prog 14 #[ptrV sb,.int .i64 5,.string x,.string ⟨#[]⟩,.int .i64 0] w fun e w'=>∃ ov ok,e = .returned (.tuple #[ov,.bool ok])∧Seg B w' sb D∧Below B w w'∧Cells w w'∧RxAns w' D x ov ok:=by
 rcases pat_all x.data.toList [] 0 400 with ⟨f,hf⟩ | ⟨k,hk,hk0⟩
 ·have h:=ask_any B 5 0 x.data.toList [] f sb D w hB hseg hD (compile_pat (st:=400) hT (by omega) (by omega)) hf
  unfold strV at h
  rw [list_str] at h
  refine Calls.mono h ?_
  rintro e w' ⟨ov,h1,h2,h3,h4,h5⟩
  exact ⟨ov,true,h1,h2,h3,h4,.inl ⟨rfl,f,hf,h5⟩⟩
 ·have h:=ask_err B 5 0 x.data.toList [] k hk0 sb D w hg hgB hB hseg (compile_pat (st:=400) hT (by omega) (by omega)) hk
  unfold strV at h
  rw [list_str] at h
  refine Calls.mono h ?_
  rintro e w' ⟨h1,h2,h3,h4⟩
  exact ⟨_,false,h1,h2,h3,h4,.inr ⟨rfl,k,hk⟩⟩
theorem orText_str (p q:ByteArray):(⟨#[40]⟩++p++⟨#[41,124,40]⟩++q++⟨#[41]⟩:ByteArray).data.toList=orText p.data.toList q.data.toList:=by simp [orText]
set_option maxRecDepth 100000 in
set_option maxHeartbeats 4000000 in
theorem either_any (docs:List ByteArray) (p q:ByteArray) (v:Value) (w:World) (hT:BitTab w) (hE:ErrIn w) (hv:StrsIs w v docs) (hl:docs.length≤9223372036854775807) (hw64:wrap64 ((p.size:Int)+(q.size:Int))=(p.size:Int)+(q.size:Int)) :
  Calls Tryz.prog 5 #[v,.string p,.string q] w fun e w'=>e = .returned (.bool true)∧Below w.heap.size w w':=by
 obtain ⟨va,vc,rfl,hc⟩:=id hv
 have hsp:=len_list' p
 have hsq:=len_list' q
 have h0:0 < w.heap.size:=lt_of_cell hE
 have HV:=Lib.hid hv
 have HT:=Lib.hid hT
 have HE:=Lib.hid hE
 clear hv hc hT hE
 go_enter Tryz.func5,Tryz.ntmps5
 go_wp2_with fail
 refine (keepBuild_any docs _ w HV.out hl).mono ?_
 rintro e w1 ⟨hb1,hres⟩
 have HB1:=Lib.hid hb1
 clear hb1
 rcases hres with ⟨_,rfl⟩ | ⟨hsm,sb,rfl,hs1⟩
 ·go_wp2_with fail
  go_ret
  exact ⟨rfl,HB1.out⟩
 ·have hparts:docs.length≤48:=by
   unfold smallW at hsm
   simp at hsm
   exact hsm.1
  have HS1:=Lib.hid hs1
  clear hs1 hsm
  obtain ⟨D,hD⟩:∃ D,D=docs.map wordsB:=⟨_,rfl⟩
  have hDl:D.length≤48:=by rw [hD]; simpa using hparts
  rw [← hD] at HS1
  clear hD hparts
  unfold ptrV
  by_cases h30:p.size+q.size≤30
  case neg =>
   have hc':decide ((30:Int) < wrap64 ((p.size:Int)+(q.size:Int)))=true:=by rw [hw64]; exact decide_eq_true (by omega)
   clear hw64
   go_wp2_with fail
   go_ret
   exact ⟨rfl,HB1.out⟩
  case pos =>
   have hc':decide ((30:Int) < wrap64 ((p.size:Int)+(q.size:Int)))=false:=by rw [hw64]; exact decide_eq_false (by omega)
   clear hw64
   have HBT:Hid (∀ w',Below w.heap.size w w'→BitTab w'):=Lib.hid fun w' hb=>HT.out.below hb
   have HER:Hid (∀ w',Below w.heap.size w w'→ErrIn w'):=Lib.hid fun w' hb=>HE.out.below hb
   go_wp2_with fail
   clear hc'
   refine (ask_rx w.heap.size p sb D w1 (HBT.out _ HB1.out) (HER.out _ HB1.out) h0 HB1.out.size HS1.out (by omega)).mono ?_
   rintro e w2 ⟨o1,k1,rfl,hs2,hb2,hc2,ha2⟩
   have H2:=Lib.hid (And.intro (HB1.out.trans hb2) hs2)
   have A2:=Lib.hid ha2
   clear hs2 hb2 hc2 ha2
   go_wp2_with fail
   refine (ask_rx w.heap.size q sb D w2 (HBT.out _ H2.out.1) (HER.out _ H2.out.1) h0 H2.out.1.size H2.out.2 (by omega)).mono ?_
   rintro e w3 ⟨o2,k2,rfl,hs3,hb3,hc3,ha3⟩
   have H3:=Lib.hid (And.intro (H2.out.1.trans hb3) hs3)
   have A3:=Lib.hid (And.intro ha3 hc3)
   clear hs3 hb3 hc3 ha3
   go_wp2_with fail
   obtain ⟨s3,hs3⟩:∃ s:ByteArray,s=⟨#[40]⟩++p++⟨#[41,124,40]⟩++q++⟨#[41]⟩:=⟨_,rfl⟩
   rw [← hs3]
   have HS3:Hid (s3.data.toList=orText p.data.toList q.data.toList):=Lib.hid (by rw [hs3]; exact orText_str p q)
   have HS3E:=Lib.hid hs3
   clear hs3
   refine (ask_rx w.heap.size s3 sb D w3 (HBT.out _ H3.out.1) (HER.out _ H3.out.1) h0 H3.out.1.size H3.out.2 (by omega)).mono ?_
   rintro e w4 ⟨o3,k3,rfl,hs4,hb4,hc4,ha4⟩
   have H4:=Lib.hid (And.intro (H3.out.1.trans hb4) hs4)
   have A4:=Lib.hid (And.intro ha4 hc4)
   clear hs4 hb4 hc4 ha4
   rcases A2.out with ⟨rfl,f,hf,hrf⟩ | ⟨rfl,_⟩
   case inr =>
    go_wp2_with fail
    go_ret
    exact ⟨rfl,H4.out.1⟩
   rcases A3.out.1 with ⟨rfl,g,hg,hrg⟩ | ⟨rfl,_⟩
   case inr =>
    go_wp2_with fail
    go_ret
    exact ⟨rfl,H4.out.1⟩
   have hp40:p.data.toList.length≤40:=by omega
   have hq40:q.data.toList.length≤40:=by omega
   have hto:(orText p.data.toList q.data.toList).length≤40:=by unfold orText; simp only [List.length_cons,List.length_append,List.length_nil]; omega
   have hf':patAcc (parseP ⟨p.data.toList.toArray⟩) 400=some f:=(acc_pat (st:=400) hp40).symm.trans hf
   have hg':patAcc (parseP ⟨q.data.toList.toArray⟩) 400=some g:=(acc_pat (st:=400) hq40).symm.trans hg
   have hlaw:=either_law hf' hg'
   have RF4:Hid (RowOf w4 o1 (docsOf D f)):=Lib.hid ((hrf.cells A3.out.2).cells A4.out.2)
   have RG4:Hid (RowOf w4 o2 (docsOf D g)):=Lib.hid (hrg.cells A4.out.2)
   clear hrf hrg hf hg
   have A41:=A4.out.1
   unfold RxAns at A41
   rw [HS3.out] at A41
   rcases A41 with ⟨rfl,h,hh,hrh⟩ | ⟨rfl,er,her⟩
   case inr =>
    have he9:=hlaw.2 er ((err_pat (st:=400) hto).symm.trans her)
    have HER9:=Lib.hid (And.intro her he9)
    clear her he9 hlaw A2 A3 A4 hf' hg'
    go_wp2_with fail
    rw [← HS3E.out]
    obtain ⟨e1,e2⟩:=HER9.out
    subst e2
    rw [← HS3.out] at e1
    have hps:=plainSearch_err w.heap.size ⟨5,s3.data.toList,[],0,400⟩ (.no 9) 1048576 sb D w4 (HER.out _ H4.out.1) h0 H4.out.1.size H4.out.2 400 rfl (by omega) (by omega) (compile_pat (st:=400) (HBT.out _ H4.out.1) (by omega) (by omega)) e1
    simp only [EV.num,EV.place] at hps
    unfold ptrV askV strV at hps
    rw [list_str] at hps
    refine Calls.mono hps ?_
    clear hps
    rintro e w5 ⟨rfl,hs5,hb5,hc5⟩
    have H5:=Lib.hid (H4.out.1.trans hb5)
    clear hs5 hb5 hc5 e1
    go_wp2_with fail
    go_ret
    exact ⟨rfl,H5.out⟩
   have hh':=hlaw.1 h ((acc_pat (st:=400) hto).symm.trans hh)
   subst hh'
   have RH4:=Lib.hid hrh
   clear hrh hh A2 A3 A4 hlaw
   go_wp2_with fail
   have lf:=docsOf_len D f
   have lg:=docsOf_len D g
   have lh:=docsOf_len D (fun u=>f u || g u)
   have hbo:=both_any _ _ _ _ w4 RF4.out RG4.out (by omega) (by omega) (fun y hy=>by have:=docsOf_lt D f y hy; omega) (fun y hy=>by have:=docsOf_lt D g y hy; omega)
   rw [docs_or D f g] at hbo
   refine Calls.mono hbo ?_
   clear hbo
   rintro e w5 ⟨ou,rfl,hb5,ru5⟩
   have H5:=Lib.hid (And.intro (H4.out.1.trans (hb5.mono H4.out.1.size)) (H4.out.2.below hb5))
   have R5:=Lib.hid (And.intro ru5 (And.intro (RH4.out.below hb5) (RF4.out.below hb5)))
   clear hb5 ru5
   go_wp2_with fail
   refine Calls.mono (same_eq _ _ _ w5 R5.out.1 R5.out.2.1 (by omega)) ?_
   rintro e w6 ⟨rfl,hb6⟩
   have H6:=Lib.hid (And.intro (H5.out.1.trans (hb6.mono H5.out.1.size)) (H5.out.2.below hb6))
   have R6:=Lib.hid (R5.out.2.2.below hb6)
   clear hb6
   go_wp2_with fail
   obtain ⟨s4,hs4⟩:∃ s:ByteArray,s=⟨#[40]⟩++p++⟨#[41,124,40]⟩++p++⟨#[41]⟩:=⟨_,rfl⟩
   rw [← hs4]
   have HS4:Hid (s4.data.toList=orText p.data.toList p.data.toList):=Lib.hid (by rw [hs4]; exact orText_str p p)
   clear hs4
   refine (ask_rx w.heap.size s4 sb D w6 (HBT.out _ H6.out.1) (HER.out _ H6.out.1) h0 H6.out.1.size H6.out.2 (by omega)).mono ?_
   rintro e w7 ⟨o4,k4,rfl,hs7,hb7,hc7,ha7⟩
   have H7:=Lib.hid (H6.out.1.trans hb7)
   have R7:=Lib.hid (R6.out.cells hc7)
   clear hs7 hb7 hc7
   unfold RxAns at ha7
   rw [HS4.out] at ha7
   rcases ha7 with ⟨rfl,f2,hf2,hr2⟩ | ⟨rfl,_⟩
   case inr =>
    go_wp2_with fail
    go_ret
    exact ⟨rfl,H7.out⟩
   have hto2:(orText p.data.toList p.data.toList).length≤40:=by
    refine Nat.le_of_not_lt fun h=>?_
    simp only [accOf,if_neg (show ¬ (orText p.data.toList p.data.toList).length≤40 by omega)] at hf2
    cases hf2
   have htw:=twice_law hf' ((acc_pat (st:=400) hto2).symm.trans hf2)
   subst htw
   have R72:=Lib.hid hr2
   clear hr2 hf2
   go_wp2_with fail
   refine Calls.mono (same_eq _ _ _ w7 R7.out R72.out (by omega)) ?_
   rintro e w8 ⟨rfl,hb8⟩
   have H8:=Lib.hid (H7.out.trans (hb8.mono H7.out.size))
   clear hb8
   go_wp2_with fail
   go_ret
   exact ⟨rfl,H8.out⟩
end Go.Proofs.Ts
