/- Lemmas towards the statement Simple of termsearch: walks of the program's functions and plain laws on lists (TsErrs, TsCardE, TsCardB, TsMatch, TlBase, TlWords, TlIndex, TlApp). Conditions: those that each theorem names. -/
import Derived.Test.YtffjomnnkilhgaaGreatDoorSimplePF
import Derived.LaidEql
import Derived.Stop.Asserts
import Derived.RowKitTokens
import Derived.Test.YtffjomnnkilhgaaGreatDoorSimplePI
import Derived.Test.YtffjomnnkilhgaaGreatDoorSimplePG
import Derived.Test.YtffjomnnkilhgaaGreatDoorSimplePA
set_option linter.unusedVariables false
set_option linter.unusedSimpArgs false
set_option linter.unusedSectionVars false
namespace Go.Proofs.Ts
open Go Go.RowKit Go.Extern.Stop Go.Stop Go.Extern
/-! ### closed facts on the model's entries for internal/reflectlite -/
theorem rl_methodKind (fu : Nat) (h : Value) (w : World) : (Go.method (fu + 1) 327 (.agg #[h]) "Kind").run Tryz.prog w = .ok (281, h) w := by kernel_rfl
theorem rl_methodElem (fu : Nat) (h : Value) (w : World) : (Go.method (fu + 1) 327 (.agg #[h]) "Elem").run Tryz.prog w = .ok (304, .agg #[h]) w := by kernel_rfl
theorem rl_methodImplements (fu : Nat) (h : Value) (w : World) : (Go.method (fu + 1) 327 (.agg #[h]) "Implements").run Tryz.prog w = .ok (305, .agg #[h]) w := by kernel_rfl
theorem rl_methodAssignable (fu : Nat) (h : Value) (w : World) : (Go.method (fu + 1) 327 (.agg #[h]) "AssignableTo").run Tryz.prog w = .ok (302, .agg #[h]) w := by kernel_rfl
theorem rl_methodComparable (fu : Nat) (h : Value) (w : World) : (Go.method (fu + 1) 327 (.agg #[h]) "Comparable").run Tryz.prog w = .ok (303, .agg #[h]) w := by kernel_rfl
theorem rl_valueOfE (b:Nat) (w:World):(ReflectliteValue.unpack (.iface 135 (.pointer (some ⟨b,0,none⟩)))).run Tryz.prog w = .ok (.agg #[.pointer (some ⟨5,135,none⟩),.pointer (some ⟨w.heap.size,0,none⟩),.int .u64 150]) (w.alloc (.cells #[.pointer (some ⟨b,0,none⟩)] 135)):=by kernel_rfl
theorem rl_typeE (a : Addr) (w : World) : (ReflectliteValue.methodAny (ReflectliteValue.valueError "reflectlite.Value.Type" 0) (fun t _ _ _ => ReflectliteType.toType t) #[.agg #[.pointer (some ⟨5, 135, none⟩), .pointer (some a), .int .u64 150]]).run Tryz.prog w
  = .ok (.iface 327 (.agg #[.pointer (some ⟨5,135,none⟩)])) w:=by kernel_rfl
theorem rl_kindE (w:World):((ReflectliteType.abiMethod fun t=>(fun a:Nat=>Value.int IntKind.u8 (a:Int)) <$> Rtype.kind t) #[.pointer (some ⟨5,135,none⟩)]).run Tryz.prog w = .ok (.int .u8 22) w:=by kernel_rfl
theorem rl_kindN (w:World):((ReflectliteType.abiMethod fun t=>(fun a:Nat=>Value.int IntKind.u8 (a:Int)) <$> Rtype.kind t) #[.pointer (some ⟨5,43,none⟩)]).run Tryz.prog w = .ok (.int .u8 2) w:=by kernel_rfl
theorem rlm (z:Sem Value) (f:TypeId→Addr→Nat→Nat→Sem Value) (v:Value) :
  ReflectliteValue.method z f #[v]=(do match ← ReflectliteValue.parts v with | none=>z | some (t,a,fl)=>f t a fl (fl % 32)):=rfl
theorem rl_partsE (a:Addr) (w:World):(ReflectliteValue.parts (.agg #[.pointer (some ⟨5,135,none⟩),.pointer (some a),.int .u64 150])).run Tryz.prog w = .ok (some (135,a,150)) w:=by kernel_rfl
theorem rl_isNilE (a p:Addr) (W:World) (ha:W.cell? a=some (.pointer (some p))) :
  (ReflectliteValue.method (ReflectliteValue.valueError "reflectlite.Value.IsNil" 0) ReflectliteValue.isNil #[.agg #[.pointer (some ⟨5, 135, none⟩), .pointer (some a), .int .u64 150]]).run Tryz.prog W = .ok (.bool false) W := by
 rw [rlm]
 simp only [Sem.run_bind,rl_partsE,Result.andThen]
 simp [ReflectliteValue.isNil,loadVar,isAgg,underlying,Tryz.underlying135,ha,Result.andThen]
theorem rl_elemE (w:World):(ReflectliteType.method ReflectliteType.elem #[.agg #[.pointer (some ⟨5,135,none⟩)]]).run Tryz.prog w = .ok (.iface 327 (.agg #[.pointer (some ⟨5,43,none⟩)])) w:=by kernel_rfl
theorem rl_implementsN (w : World) : (ReflectliteType.relation "Implements" ReflectliteType.implements_ #[.agg #[.pointer (some ⟨5, 43, none⟩)], .iface 327 (.agg #[.pointer (some ⟨5, 76, none⟩)])]).run Tryz.prog w = .ok (.bool true) w := by kernel_rfl
theorem rl_typeOfN (v:Value) (w:World):(ReflectliteType.typeOf #[.iface 43 v]).run Tryz.prog w = .ok (.iface 327 (.agg #[.pointer (some ⟨5,43,none⟩)])) w:=by kernel_rfl
theorem rl_assignableN (w : World) : (ReflectliteType.relation "AssignableTo" ReflectliteType.assignableTo #[.agg #[.pointer (some ⟨5, 43, none⟩)], .iface 327 (.agg #[.pointer (some ⟨5, 43, none⟩)])]).run Tryz.prog w = .ok (.bool true) w := by kernel_rfl
theorem rl_valueOfN (k:Int) (w:World):(ReflectliteValue.unpack (.iface 43 (.int .i64 k))).run Tryz.prog w = .ok (.agg #[.pointer (some ⟨5,43,none⟩),.pointer (some ⟨w.heap.size,0,none⟩),.int .u64 130]) (w.alloc (.cells #[.int .i64 k] 43)):=by kernel_rfl
theorem rl_elemOfE (w:World):(Rtype.elem? 135).run Tryz.prog w = .ok (some 43) w:=by kernel_rfl
theorem rl_mkN (p:Addr) (w:World):(ReflectliteValue.mk 43 p ReflectliteValue.flagAddr).run Tryz.prog w = .ok (.agg #[.pointer (some ⟨5,43,none⟩),.pointer (some p),.int .u64 386]) w:=by kernel_rfl
theorem rl_elemVE (a p:Addr) (W:World) (ha:W.cell? a=some (.pointer (some p))) :
  (ReflectliteValue.method (ReflectliteValue.valueError "reflectlite.Value.Elem" 0) ReflectliteValue.elem #[.agg #[.pointer (some ⟨5, 135, none⟩), .pointer (some a), .int .u64 150]]).run Tryz.prog W
   = .ok (.agg #[.pointer (some ⟨5,43,none⟩),.pointer (some p),.int .u64 386]) W:=by
 rw [rlm]
 simp only [Sem.run_bind,rl_partsE,Result.andThen]
 simp [ReflectliteValue.elem,loadVar,isAgg,underlying,Tryz.underlying135,ha,Result.andThen,rl_elemOfE,rl_mkN]
theorem rls (v x:Value):ReflectliteValue.set #[v,x]=(do
  let (some (dst,a,fl),some (src,b,_)):=(← ReflectliteValue.parts v,← ReflectliteValue.parts x)
   | unsupported (.noEntry "extern/(internal/reflectlite.Value).Set.zeroValue")
  if fl / ReflectliteValue.flagAddr % 2 == 0 then unsupported (.noEntry "extern/(internal/reflectlite.Value).Set.unaddressable")
  let val ← loadVar src b
  if ← Rtype.directlyAssignable dst src then storeVar dst a val
  else if ← Rtype.implements dst src then
   if (← Rtype.kind src) == 20 then
    match val with
    | .nilIface => unsupported (.noEntry "extern/reflectlite: a nil value of one interface type handed on as a value of another")
    | _=>storeVar dst a val
   else storeVar dst a (.iface src val)
  else panicString ("reflectlite.Set: value of type " ++ (← Rtype.spelt src) ++ " is not assignable to type " ++ (← Rtype.spelt dst))
  pure (.tuple #[])):=rfl
theorem rl_partsNa (a:Addr) (w:World):(ReflectliteValue.parts (.agg #[.pointer (some ⟨5,43,none⟩),.pointer (some a),.int .u64 386])).run Tryz.prog w = .ok (some (43,a,386)) w:=by kernel_rfl
theorem rl_partsN (a:Addr) (w:World):(ReflectliteValue.parts (.agg #[.pointer (some ⟨5,43,none⟩),.pointer (some a),.int .u64 130])).run Tryz.prog w = .ok (some (43,a,130)) w:=by kernel_rfl
theorem rl_directN (w:World):(Rtype.directlyAssignable 43 43).run Tryz.prog w = .ok true w:=by kernel_rfl
theorem rl_setN (ta b:Addr) (k:Int) (old:Value) (W:World) (hb:W.cell? b=some (.int .i64 k)) (ht:W.cell? ta=some old) (hf:W.frozen? ta=false) :
  (ReflectliteValue.set #[.agg #[.pointer (some ⟨5,43,none⟩),.pointer (some ta),.int .u64 386],.agg #[.pointer (some ⟨5,43,none⟩),.pointer (some b),.int .u64 130]]).run Tryz.prog W
   = .ok (.tuple #[]) (W.setCell ta (.int .i64 k)):=by
 rw [rls]
 simp only [Sem.run_bind,rl_partsNa,rl_partsN,Result.andThen]
 simp [ReflectliteValue.flagAddr,loadVar,isAgg,underlying,Tryz.underlying43,hb,Result.andThen,rl_directN,storeVar,Value.cells,storeCells,Addr.add]
 rw [run_store Tryz.prog W ta _ _ (by rfl)]
 simp [ht,hf]
def ErrIn (w:World):Prop:=w.cell? ⟨0,0,none⟩=some (.iface 327 (.agg #[.pointer (some ⟨5,76,none⟩)]))
theorem ErrIn.below {w w':World} (h:ErrIn w) (hb:Below w.heap.size w w'):ErrIn w':=(hb.cell (p:=⟨0,0,none⟩) (lt_of_cell h)).trans h
set_option maxHeartbeats 4000000 in
theorem as_hit (k:Int) (b:Nat) (old:Value) (w:World) (hg:ErrIn w) (ht0:w.cell? ⟨b,0,none⟩=some old) (hf0:w.frozen? ⟨b,0,none⟩=false) :
  Calls Tryz.prog 69 #[.iface 43 (.int .i64 k),.iface 135 (.pointer (some ⟨b,0,none⟩))] w fun ev w'=>ev = .returned (.bool true) ∧ ∃ w1,Below w.heap.size w w1∧w'=w1.setCell ⟨b,0,none⟩ (.int .i64 k):=by
 have h6:=@run_callFunc_extern Tryz.prog 108 _ (fun args=>ReflectliteValue.unpack (args.getD 0 (.tuple #[]))) Tryz.func108 (by kernel_rfl) (by kernel_rfl) (by kernel_rfl) (by kernel_rfl)
 have h7 := @run_callFunc_extern Tryz.prog 109 _ (ReflectliteValue.methodAny (ReflectliteValue.valueError "reflectlite.Value.Type" 0) (fun t _ _ _ => ReflectliteType.toType t)) Tryz.func109 (by kernel_rfl) (by kernel_rfl) (by kernel_rfl) (by kernel_rfl)
 have h8 := @run_callFunc_extern Tryz.prog 110 _ (ReflectliteValue.method (ReflectliteValue.valueError "reflectlite.Value.IsNil" 0) ReflectliteValue.isNil) Tryz.func110 (by kernel_rfl) (by kernel_rfl) (by kernel_rfl) (by kernel_rfl)
 have h27:=@run_callFunc_extern Tryz.prog 281 _ (ReflectliteType.abiMethod fun t=>do pure (.int .u8 (← Rtype.kind t))) Tryz.func281 (by kernel_rfl) (by kernel_rfl) (by kernel_rfl) (by kernel_rfl)
 have h37:=@run_callFunc_extern Tryz.prog 304 _ (ReflectliteType.method ReflectliteType.elem) Tryz.func304 (by kernel_rfl) (by kernel_rfl) (by kernel_rfl) (by kernel_rfl)
 have h38 := @run_callFunc_extern Tryz.prog 305 _ (ReflectliteType.relation "Implements" ReflectliteType.implements_) Tryz.func305 (by kernel_rfl) (by kernel_rfl) (by kernel_rfl) (by kernel_rfl)
 have h10:=@run_callFunc_extern Tryz.prog 112 _ ReflectliteType.typeOf Tryz.func112 (by kernel_rfl) (by kernel_rfl) (by kernel_rfl) (by kernel_rfl)
 have h35 := @run_callFunc_extern Tryz.prog 302 _ (ReflectliteType.relation "AssignableTo" ReflectliteType.assignableTo) Tryz.func302 (by kernel_rfl) (by kernel_rfl) (by kernel_rfl) (by kernel_rfl)
 have h11 := @run_callFunc_extern Tryz.prog 157 _ (ReflectliteValue.method (ReflectliteValue.valueError "reflectlite.Value.Elem" 0) ReflectliteValue.elem) Tryz.func157 (by kernel_rfl) (by kernel_rfl) (by kernel_rfl) (by kernel_rfl)
 have h12:=@run_callFunc_extern Tryz.prog 158 _ ReflectliteValue.set Tryz.func158 (by kernel_rfl) (by kernel_rfl) (by kernel_rfl) (by kernel_rfl)
 have tO:=rl_typeOfN
 have mA:=rl_methodAssignable
 have a25:=rl_assignableN
 have v25:=rl_valueOfN
 have f6:=rl_valueOfE
 have f7:=rl_typeE
 have mK:=rl_methodKind
 have mE:=rl_methodElem
 have mI:=rl_methodImplements
 have k27:=rl_kindE
 have k25:=rl_kindN
 have e27:=rl_elemE
 have i25:=rl_implementsN
 have n8:=rl_isNilE ⟨w.heap.size,0,none⟩ ⟨b,0,none⟩ ((w.alloc (.cells #[.pointer (some ⟨b,0,none⟩)] 135)).alloc (.cells #[.pointer (some ⟨5,135,none⟩),.pointer (some ⟨w.heap.size,0,none⟩),.int .u64 150] 219)) (by simp)
 have hlt:0 < w.heap.size:=lt_of_cell hg
 unfold ErrIn at hg
 have hg2:((w.alloc (.cells #[.pointer (some ⟨b,0,none⟩)] 135)).alloc (.cells #[.pointer (some ⟨5,135,none⟩),.pointer (some ⟨w.heap.size,0,none⟩),.int .u64 150] 219)).cell? ⟨0,0,none⟩=some (.iface 327 (.agg #[.pointer (some ⟨5,76,none⟩)])):=by
  rw [World.cell?_alloc_lt _ _ ⟨0,0,none⟩ (by simp),World.cell?_alloc_lt _ _ ⟨0,0,none⟩ hlt]; exact hg
 have htl:b < w.heap.size:=lt_of_cell ht0
 have el:=rl_elemVE ⟨w.heap.size,0,none⟩ ⟨b,0,none⟩ (((w.alloc (.cells #[.pointer (some ⟨b,0,none⟩)] 135)).alloc (.cells #[.pointer (some ⟨5,135,none⟩),.pointer (some ⟨w.heap.size,0,none⟩),.int .u64 150] 219)).alloc (.cells #[.pointer (some ⟨5,135,none⟩),.pointer (some ⟨w.heap.size,0,none⟩),.int .u64 150] 219)) (by rw [World.cell?_alloc_lt _ _ ⟨w.heap.size,0,none⟩ (by simp; omega)]; simp)
 have st:=rl_setN ⟨b,0,none⟩ ⟨w.heap.size+1+1+1,0,none⟩ k old ((((w.alloc (.cells #[.pointer (some ⟨b,0,none⟩)] 135)).alloc (.cells #[.pointer (some ⟨5,135,none⟩),.pointer (some ⟨w.heap.size,0,none⟩),.int .u64 150] 219)).alloc (.cells #[.pointer (some ⟨5,135,none⟩),.pointer (some ⟨w.heap.size,0,none⟩),.int .u64 150] 219)).alloc (.cells #[.int .i64 k] 43))
  (by rw [World.cell?_alloc_at _ _ _ _ (by simp)]; rfl)
  (by rw [World.cell?_alloc_lt _ _ ⟨b,0,none⟩ (by simp; omega),World.cell?_alloc_lt _ _ ⟨b,0,none⟩ (by simp; omega),World.cell?_alloc_lt _ _ ⟨b,0,none⟩ (by simp; omega),World.cell?_alloc_lt _ _ ⟨b,0,none⟩ htl]; exact ht0)
  (by rw [World.frozen?_alloc_old _ _ ⟨b,0,none⟩ (by simp; omega),World.frozen?_alloc_old _ _ ⟨b,0,none⟩ (by simp; omega),World.frozen?_alloc_old _ _ ⟨b,0,none⟩ (by simp; omega),World.frozen?_alloc_old _ _ ⟨b,0,none⟩ (Nat.ne_of_lt htl)]; exact hf0)
 go_enter Tryz.func69,Tryz.ntmps69
 go_wp2
 refine wp_loop_rounds 1 ?_
 rw [rounds_succ]
 go_wp2
 go_ret
 refine ⟨rfl,_,?_,rfl⟩
 exact ((((Below.refl _ w).alloc (Nat.le_refl _) _).alloc (by simp) _).alloc (by simp; omega) _).alloc (by simp; omega) _
end Go.Proofs.Ts
namespace Go.Proofs.YtffjomnnkilhgaaGreatDoor.card
open Go Go.ChangeShapes Go.WideShapes Go.ChangeAt Go.RowKit
theorem err_glob : Tryz.prog.globalNamed "errors.errorType" = some 0 := by kernel_rfl
theorem err_rt : (Tryz.prog.cutTypes.find? (·.1 == "internal/reflectlite.rtype")).map (·.2) = some 327 := by kernel_rfl
set_option maxRecDepth 100000 in
theorem err_row:((List.range Tryz.prog.types.size).filter fun t=>Tryz.prog.rowNamed t [101,114,114,111,114])=[76]:=by kernel_rfl
theorem err_handle:typeHandle Tryz.prog 76 = .pointer (some ⟨5,76,none⟩):=by kernel_rfl
theorem err_in {W : World} {l : List (String × DataW Unit)} (hL : laidMetH Tryz.prog l W) (h1 : ("errors.errorType", (Rows.laid_errors_errorType : DataW Unit)) ∈ l.filter fun x => x.2.handleName?.isSome) : Ts.ErrIn W := by
 have hm:=(laidMetH_iff.1 hL).2
 obtain ⟨name,u,ty,e1,e2,e3,e4,e5⟩:=hm _ h1
 have en:name=[101,114,114,111,114]:=(Option.some.inj e1).symm
 subst en
 obtain rfl:=Option.some.inj (err_rt.symm.trans e2)
 have hm:ty∈(List.range Tryz.prog.types.size).filter fun t=>Tryz.prog.rowNamed t [101,114,114,111,114]:=List.mem_filter.2 ⟨List.mem_range.2 e3,e4⟩
 rw [err_row] at hm
 obtain rfl:=List.mem_singleton.1 hm
 rw [err_handle] at e5
 unfold Ts.ErrIn
 simpa using World.var?_cell err_glob e5 0
end Go.Proofs.YtffjomnnkilhgaaGreatDoor.card
namespace Go.Proofs.YtffjomnnkilhgaaGreatDoor.card
open Go Go.ChangeShapes Go.WideShapes Go.ChangeAt Go.RowKit
theorem bits_glob : Tryz.prog.globalNamed "math/bits.deBruijn64tab" = some 4 := by kernel_rfl
theorem bits_type:(Tryz.prog.globals[4]?).map (·.type)=some 456:=by kernel_rfl
theorem bits_data:(Rows.laid_math_bits_deBruijn64tab:DataW Unit)=Go.Lib.tabData .u8 (Go.Lib.deBruijn64tab.map fun (k:Nat)=>(k:Int)):=by kernel_rfl
theorem bits_cells:Tryz.prog.cellsOf 5=1:=by kernel_rfl
theorem bits_cells64:Tryz.prog.cellsOf 456=64:=by kernel_rfl
theorem bits_in {W : World} {l : List (String × DataW Unit)} (hL : laidMetH Tryz.prog l W) (hS : W.ShapedOpen Tryz.prog) (h1 : ("math/bits.deBruijn64tab", (Rows.laid_math_bits_deBruijn64tab : DataW Unit)) ∈ l.filter fun x => x.2.handleName?.isNone) : Ts.BitTab W := by
 have hm:=(laidMetH_iff.1 hL).1
 obtain ⟨z1,e1⟩:=row_type (P:=Tryz.prog) (g:=4) (t:=456) (by kernel_rfl)
 refine ⟨shaped_block hS (of_decide_eq_true (by kernel_rfl)) e1,fun j hj=>?_⟩
 have r1:=Go.Lib.laidMet.reads hm h1
 rw [bits_data] at r1
 obtain ⟨g,t,cs,fuel,p,hg,hty,hvar,hd⟩:=r1
 obtain rfl:=Option.some.inj (bits_glob.symm.trans hg)
 obtain rfl:=Option.some.inj (bits_type.symm.trans hty)
 have hcs:=Go.Lib.cells_of_tab Tryz.underlying456 Tryz.underlying5 bits_cells bits_cells64 hd
 have:=World.var?_cell hg hvar j
 rw [this,← Array.getElem?_toList,hcs]
 simp [hj,List.getD]
end Go.Proofs.YtffjomnnkilhgaaGreatDoor.card
namespace Go.Proofs.Ts
open Go Go.RowKit
def PostAt (w:World) (pv:Value) (i c:Nat):Prop:=∃ g n cap a cap2,pv = .slice (some ⟨g,0,none⟩) n cap∧i < n∧n≤10000∧w.cell? ⟨g,i,none⟩=some (.slice a c cap2)
theorem Terms.post {w:World} {sb:Nat} {D:List (List (List UInt8))} {pv fv:Value} {l:List (List UInt8 × Nat)} (h:Terms w sb D pv fv l) {j:Nat} {t:List UInt8} {i:Nat} (hj:l[j]?=some (t,i)):PostAt w pv i (postsOf D t).length:=by
 obtain ⟨g,n,cap,a,cap2,h1,h2,h3,h4,_⟩:=h.posts j t i hj
 exact ⟨g,n,cap,a,cap2,h1,h2,h3,h4⟩
set_option maxRecDepth 100000 in
set_option maxHeartbeats 1000000 in
theorem match_any (sb:Nat) (pv:Value) (t:List UInt8) (i c:Nat) (w:World) (h2:w.cell? ⟨sb,2,none⟩=some pv) (hp:PostAt w pv i c) :
  Calls Tryz.prog 87 #[ptrV sb,.agg #[strV t,intV i]] w fun e w'=>e = .returned (.agg #[strV t,intV c])∧Below w.heap.size w w':=by
 obtain ⟨g,n,cap,a,cap2,rfl,hin,hn,h3⟩:=hp
 unfold ptrV strV intV
 go_enter Tryz.func87,Tryz.ntmps87
 go_wp2_with fail
 have hal:Below w.heap.size w ((w.alloc (.cells #[.string ⟨t.toArray⟩,.int .i64 i] 182)).alloc (.cells #[.string ⟨#[]⟩,.int .i64 0] 103)):=((Below.refl _ w).alloc (Nat.le_refl _) _).alloc (by simp) _
 have f0:((w.alloc (.cells #[.string ⟨t.toArray⟩,.int .i64 i] 182)).alloc (.cells #[.string ⟨#[]⟩,.int .i64 0] 103)).heap[w.heap.size]?=some (.cells #[.string ⟨t.toArray⟩,.int .i64 i] 182 (0,0)):=by
  rw [Below.heap_alloc _ _ _ (by simp)]
  exact heap_alloc_new w _
 have m0:((w.alloc (.cells #[.string ⟨t.toArray⟩,.int .i64 i] 182)).alloc (.cells #[.string ⟨#[]⟩,.int .i64 0] 103)).heap[w.heap.size+1]?=some (.cells #[.string ⟨#[]⟩,.int .i64 0] 103 (0,0)):=by
  have:=heap_alloc_new (w.alloc (.cells #[.string ⟨t.toArray⟩,.int .i64 i] 182)) (.cells #[.string ⟨#[]⟩,.int .i64 0] 103)
  rw [World.size_alloc] at this
  exact this
 generalize ((w.alloc (.cells #[.string ⟨t.toArray⟩,.int .i64 i] 182)).alloc (.cells #[.string ⟨#[]⟩,.int .i64 0] 103))=w2 at *
 have c0:w2.cell? ⟨w.heap.size,0,none⟩=some (.string ⟨t.toArray⟩):=cell_block f0
 have c1:w2.cell? ⟨w.heap.size,1,none⟩=some (.int .i64 i):=cell_block f0
 have c2:w2.cell? ⟨sb,2,none⟩=some (.slice (some ⟨g,0,none⟩) n cap):=(hal.cell (p:=⟨sb,2,none⟩) (lt_of_cell h2)).trans h2
 have c3:w2.cell? ⟨g,i,none⟩=some (.slice a c cap2):=(hal.cell (p:=⟨g,i,none⟩) (lt_of_cell h3)).trans h3
 have hsl:=lt_of_cell h2
 have hgl:=lt_of_cell h3
 have M0:=Lib.hid m0
 have HAL:=Lib.hid hal
 clear h2 h3 hal f0 m0
 refine wp_region_ordX [(0,false),(1,false),(2,false),(3,false),(4,false),(5,false),(6,false),(7,false),(8,false),(9,false),(10,false),(11,false),(12,true)] 1000
  (fun w'=>w'.cell? ⟨w.heap.size,0,none⟩=some (.string ⟨t.toArray⟩)∧w'.cell? ⟨w.heap.size,1,none⟩=some (.int .i64 i)∧w'.cell? ⟨sb,2,none⟩=some (.slice (some ⟨g,0,none⟩) n cap)∧w'.cell? ⟨g,i,none⟩=some (.slice a c cap2)) (by kernel_rfl) (by kernel_rfl) ⟨c0,c1,c2,c3⟩ ?_
 iterate 12 (
  refine wpOrd_quiet ?_ rfl rfl (fun w' hS=>?_) ?_
  rotate_left
  ·obtain ⟨e0,e1,e2,e3⟩:=hS
   go_simp
   first | rfl | done
  simp only [put_lit,List.set_cons_succ,List.set_cons_zero])
 refine wpOrd_loud rfl rfl (by decide) (fun K hK=>?_)
 have n0:w2.cell? ⟨w.heap.size+1,0,none⟩=some (.string ⟨#[]⟩):=cell_block M0.out
 have n1:w2.cell? ⟨w.heap.size+1,1,none⟩=some (.int .i64 0):=cell_block M0.out
 have n2:w2.frozen? ⟨w.heap.size+1,0,none⟩=false:=free_block M0.out
 have n3:w2.frozen? ⟨w.heap.size+1,1,none⟩=false:=free_block M0.out
 go_simp
 have hb3:Below w.heap.size w ((w2.setCell ⟨w.heap.size+1,0,none⟩ (.string ⟨t.toArray⟩)).setCell ⟨w.heap.size+1,1,none⟩ (.int .i64 c)):=(HAL.out.setCell (p:=⟨w.heap.size+1,0,none⟩) (by simp only; omega) _).setCell (p:=⟨w.heap.size+1,1,none⟩) (by simp only; omega) _
 have hm3:((w2.setCell ⟨w.heap.size+1,0,none⟩ (.string ⟨t.toArray⟩)).setCell ⟨w.heap.size+1,1,none⟩ (.int .i64 c)).heap[w.heap.size+1]?=some (.cells #[.string ⟨t.toArray⟩,.int .i64 c] 103 (0,0)):=by
  have h1:=heap_setCell_same w2 (w.heap.size+1) 0 _ _ (.string ⟨t.toArray⟩) M0.out
  exact heap_setCell_same _ (w.heap.size+1) 1 _ _ (.int .i64 c) h1
 have oth:∀ (b j:Nat) u,b≠w.heap.size+1→w2.cell? ⟨b,j,none⟩=some u→((w2.setCell ⟨w.heap.size+1,0,none⟩ (.string ⟨t.toArray⟩)).setCell ⟨w.heap.size+1,1,none⟩ (.int .i64 c)).cell? ⟨b,j,none⟩=some u:=fun b j u hb hu=>by
  rw [World.cell?_setCell_other _ _ _ _ (fun e=>hb (congrArg Addr.block e).symm),World.cell?_setCell_other _ _ _ _ (fun e=>hb (congrArg Addr.block e).symm)]
  exact hu
 have e0:=oth _ _ _ (by omega) c0
 have e1:=oth _ _ _ (by omega) c1
 have e2:=oth _ _ _ (by omega) c2
 have e3:=oth _ _ _ (by omega) c3
 refine hK _ _ ⟨e0,e1,e2,e3⟩ ?_
 clear hK K oth n0 n1 n2 n3
 refine wpOrd_nil ?_
 generalize ((w2.setCell ⟨w.heap.size+1,0,none⟩ (.string ⟨t.toArray⟩)).setCell ⟨w.heap.size+1,1,none⟩ (.int .i64 c))=W3 at *
 have r0:W3.cell? ⟨w.heap.size+1,0,none⟩=some (.string ⟨t.toArray⟩):=cell_block hm3
 have r1:W3.cell? ⟨w.heap.size+1,1,none⟩=some (.int .i64 c):=cell_block hm3
 go_wp2_with fail
 refine bodyPost_ret (results_cell_row rfl _ _ (w.heap.size+1) _ _ _ _ rfl hm3 Tryz.underlying103 rfl (by kernel_rfl)) rfl ?_
 exact ⟨rfl,hb3.drew⟩
def matchesOf (D:List (List (List UInt8))) (l:List (List UInt8 × Nat)):List (List UInt8 × Nat):=l.map fun p=>(p.1,(postsOf D p.1).length)
theorem matchesOf_succ {D:List (List (List UInt8))} {l:List (List UInt8 × Nat)} {j:Nat} {t:List UInt8} {i:Nat} (h:l[j]?=some (t,i)):matchesOf D (l.take (j+1))=matchesOf D (l.take j)++[(t,(postsOf D t).length)]:=by
 have hj:=(List.getElem?_eq_some_iff.1 h).1
 have he:l[j]=(t,i):=(List.getElem?_eq_some_iff.1 h).2
 unfold matchesOf
 rw [List.take_succ_eq_append_getElem hj,he,List.map_append]
 rfl
theorem Tryz.info103:(Tryz.prog.info? 103).map (fun i=>(i.zero,i.size,i.bytes))=some (some (.agg #[.string ⟨#[]⟩,.int .i64 0]),2,24):=by kernel_rfl
set_option maxRecDepth 100000 in
set_option maxHeartbeats 2000000 in
theorem each_any (D:List (List (List UInt8))) (sb:Nat) (pv fv:Value) (l:List (List UInt8 × Nat)) (w:World) (ht:Terms w sb D pv fv l) (hD:D.length≤1000) :
  Calls Tryz.prog 86 #[fv,.func (.func 87) #[ptrV sb] #[]] w fun e w'=>∃ ov,e = .returned ov∧Below w.heap.size w w' ∧
   w'.ownsRow 0 103 2 ov l.length (foundCells (matchesOf D l))∧(l.length=0→ov = .slice none 0 0):=by
 obtain ⟨fa,fc,rfl⟩:=ht.form
 have hll:=ht.few
 obtain ⟨i0,hi,hz0,hz1,hz2⟩:=info_parts Tryz.info103
 have HT:=Lib.hid ht
 clear ht
 unfold ptrV
 go_enter Tryz.func86,Tryz.ntmps86
 go_wp2_with fail
 go_loopw [5,10] (fun ov i wr=>∃ j:Nat,j≤l.length∧i = .int .i64 j∧wr.ownsRow 0 103 2 ov j (foundCells (matchesOf D (l.take j)))∧Past w.heap.size ov∧Below w.heap.size w wr∧(j=0→ov = .slice none 0 0)) (fun _ i _=>l.length - (intOf i).toNat)
 case atStart=>exact ⟨0,Nat.zero_le _,rfl,World.ownsRow_nil _ _ _ _,(fun k e=>by cases e),Below.refl _ _,fun _=>rfl⟩
 case round =>
  obtain ⟨j,hj,rfl,hrow,hpast,hbel,hnil⟩:=hrel
  have HROW:=Lib.hid hrow
  have HPAST:=Lib.hid hpast
  have HBEL:=Lib.hid hbel
  have HNIL:=Lib.hid hnil
  clear hrow hpast hbel hnil
  by_cases hjl:j < l.length
  ·obtain ⟨t,i,hti⟩:∃ t i,l[j]?=some (t,i):=⟨_,_,List.getElem?_eq_getElem hjl⟩
   obtain ⟨g,cap,e1,k0,k1⟩:=HT.out.found j t i hti
   simp only [Value.slice.injEq,true_and] at e1
   obtain ⟨rfl,rfl⟩:=e1
   have go:∀ (b i:Nat) u,w.cell? ⟨b,i,none⟩=some u→wr.cell? ⟨b,i,none⟩=some u:=fun b i u hu=>(HBEL.out.cell (p:=⟨b,i,none⟩) (lt_of_cell hu)).trans hu
   have c0:=go _ _ _ k0
   have c1:=go _ _ _ k1
   have hpost:=HT.out.post hti
   have HMS:=Lib.hid (matchesOf_succ (D:=D) hti)
   obtain ⟨c,hc⟩:∃ c,c=(postsOf D t).length:=⟨_,rfl⟩
   have HC:=Lib.hid hc
   rw [← hc] at hpost
   have HPOST:=Lib.hid hpost
   clear hpost hc hti go
   go_wp2_with fail
   clear k0 k1 c0 c1
   have hb2:Below w.heap.size w (wr.alloc (.cells #[.string ⟨t.toArray⟩,.int .i64 i] 182)):=HBEL.out.alloc HBEL.out.size _
   have hro2:(wr.alloc (.cells #[.string ⟨t.toArray⟩,.int .i64 i] 182)).ownsRow 0 103 2 u5 j (foundCells (matchesOf D (l.take j))):=HROW.out.alloc _
   generalize (wr.alloc (.cells #[.string ⟨t.toArray⟩,.int .i64 i] 182))=w2 at *
   have hpost2:PostAt w2 pv i c:=by
    obtain ⟨g',n,cap',a,cap2,h1,h2,h3,h4⟩:=HPOST.out
    exact ⟨g',n,cap',a,cap2,h1,h2,h3,(hb2.cell (p:=⟨g',i,none⟩) (lt_of_cell h4)).trans h4⟩
   have hm:=match_any sb pv t i c w2 ((hb2.cell (p:=⟨sb,2,none⟩) (lt_of_cell HT.out.seg)).trans HT.out.seg) hpost2
   unfold ptrV strV intV at hm
   refine hm.mono ?_
   clear hm hpost2
   rintro e w3 ⟨rfl,hb3⟩
   have hb13:=hb2.trans (hb3.mono hb2.size)
   have hrow3:w3.ownsRow 0 103 2 u5 j (foundCells (matchesOf D (l.take j))):=ownsRow_block hro2 fun k e=>hb3.block k (hro2.lt k e).2
   have HB13:=Lib.hid hb13
   clear hb2 hro2 hb3 hb13
   have hrow4:(w3.alloc (.cells #[.string ⟨t.toArray⟩,.int .i64 c] 103)).ownsRow 0 103 2 u5 j (foundCells (matchesOf D (l.take j))):=hrow3.alloc _
   have hnew:∀ j u,[Value.string ⟨t.toArray⟩,.int .i64 c][j]?=some u→(w3.alloc (.cells #[.string ⟨t.toArray⟩,.int .i64 c] 103)).cell? ((⟨w3.heap.size,0,none⟩:Addr).add j)=some u:=cell_two_new w3 _ _ _
   clear hrow3
   go_wp2_with (at_builtin; refine wpList_append_lies rfl _ _ 57 rfl 103 i0 (.agg #[.string ⟨#[]⟩,.int .i64 0]) 2 24 Tryz.underlying57 hi hz0 hz1 hz2 rfl (by decide) u5 j (foundCells (matchesOf D (l.take j))) rfl hrow4 ⟨w3.heap.size,0,none⟩ 1 1 [.string ⟨t.toArray⟩,.int .i64 c] rfl rfl hnew (by simp [Value.oneCell']) (by decide) (by unfold maxLen; omega) (by omega) ?_; intro v4 W4 hrow5 hgrow5 hlies5; simp only [put_lit,List.set_cons_succ,List.set_cons_zero]; have HR5:=Lib.hid hrow5; have HM5:=Lib.hid ((Moves.alloc w3 u5 _).trans (Moves.append hgrow5 hlies5)); clear hrow5 hgrow5 hlies5)
   have hsz3:=HB13.out.size
   refine ⟨⟨j+1,by omega,by go_num,?_,HM5.out.past HPAST.out hsz3,HM5.out.below (fun k e=>HPAST.out k e) HB13.out hsz3,fun e=>by omega⟩,by simp [intOf]; omega⟩
   rw [HMS.out,foundCells_snoc,← HC.out]
   exact HR5.out
  ·obtain rfl:j=l.length:=by omega
   rw [List.take_length] at HROW
   go_wp2_with fail
   go_ret
   exact ⟨u5,rfl,HBEL.out,HROW.out,HNIL.out⟩
end Go.Proofs.Ts
namespace Go.Proofs.Tl
open Go Go.RowKit Go.Proofs.Ts
def i64V (x:Int):Value := .int .i64 x
def IntsOf (w:World) (v:Value) (L:List Int):Prop:=w.ownsRow 0 3 1 v L.length (L.map i64V)
theorem IntsOf.cellAt {w:World} {v:Value} {L:List Int} (h:IntsOf w v L) {i:Nat} (hi:i < L.length):∃ g cap,v = .slice (some ⟨g,0,none⟩) L.length cap∧w.cell? ⟨g,i,none⟩=some (.int .i64 (L.getD i 0))∧w.frozen? ⟨g,i,none⟩=false:=by
 rcases h.2 with ⟨_,h0⟩ | ⟨g,cap,cur,rfl,_,hg,_⟩
 ·omega
 ·refine ⟨g,cap,rfl,?_,free_block hg⟩
  have:=h.cells (g:=g) rfl i (i64V (L.getD i 0)) (by rw [List.getElem?_map,List.getElem?_eq_getElem hi,List.getD_eq_getElem?_getD,List.getElem?_eq_getElem hi]; rfl)
  rcases Nat.eq_zero_or_pos i with rfl | h0
  ·simpa [Addr.add,i64V] using this
  ·simpa [Addr.add,Nat.ne_of_gt h0,i64V] using this
theorem IntsOf.keep {w w':World} {v:Value} {L:List Int} (h:IntsOf w v L) (hb:∀ k,v.ownBlock=some k→w'.heap[k]?=w.heap[k]?):IntsOf w' v L:=ownsRow_block h hb
theorem IntsOf.below {w w':World} {v:Value} {L:List Int} (h:IntsOf w v L) (hb:Below w.heap.size w w'):IntsOf w' v L:=ownsRow_block h fun k e=>hb.block k (h.lt k e).2
structure RowAt (e:TypeId) (size:Nat) (w0 W:World) (v:Value) (n:Nat) (xs:List Value):Prop where
 below:Below w0.heap.size w0 W
 row:W.ownsRow 0 e size v n xs
 past:Past w0.heap.size v
 nil:n=0→v = .slice none 0 0
section
variable {e:TypeId} {size:Nat} {w0 W W':World} {v v':Value} {n m:Nat} {xs ys:List Value}
theorem RowAt.start (e:TypeId) (size:Nat) (w:World):RowAt e size w w (.slice none 0 0) 0 []:=⟨Below.refl _ _,World.ownsRow_nil _ _ _ _,(fun k h=>by cases h),fun _=>rfl⟩
theorem RowAt.kept (h:RowAt e size w0 W v n xs) (hb:Below W.heap.size W W'):RowAt e size w0 W' v n xs:=⟨h.below.trans (hb.mono h.below.size),ownsRow_block h.row fun k e=>hb.block k (h.row.lt k e).2,h.past,h.nil⟩
theorem RowAt.alloc (h:RowAt e size w0 W v n xs) (o:Obj):RowAt e size w0 (W.alloc o) v n xs:=h.kept ((Below.refl _ W).alloc (Nat.le_refl _) o)
theorem RowAt.same (h:RowAt e size w0 W v n xs) (hs:Same W W'):RowAt e size w0 W' v n xs:=h.kept (hs.below _)
theorem RowAt.base (h:RowAt e size w0 W v n xs) {w:World} (hb:Below w.heap.size w w0):RowAt e size w W v n xs:=⟨hb.trans (h.below.mono hb.size),h.row,fun k hk=>Nat.le_trans hb.size (h.past k hk),h.nil⟩
theorem RowAt.moves (h:RowAt e size w0 W v n xs) (hm:Moves W v W' v') (hr:W'.ownsRow 0 e size v' m ys) (h0:0 < m):RowAt e size w0 W' v' m ys :=
 ⟨hm.below h.past h.below h.below.size,hr,hm.past h.past h.below.size,fun e=>by omega⟩
end
def toldB (n p e at':Int):Bool:=n == e && p == if e=6 then at' else -1
set_option maxRecDepth 100000 in
theorem told_law (n p e at':Int) (w:World) :
  Calls Tryz.prog 19 #[.int .i64 n,.int .i64 p,.int .i64 e,.int .i64 at'] w fun x w'=>x = .returned (.bool (toldB n p e at'))∧Same w w':=by
 go_enter Tryz.func19,Tryz.ntmps19
 by_cases h6:e=6
 ·have hh:(e == 6)=true:=by simp [h6]
  by_cases hn:n=e
  ·have hn':(n == e)=true:=by simp [hn]
   go_wp2_with fail
   go_ret
   exact ⟨ret_bool (by simp [toldB,h6,hn]),Same.refl _⟩
  ·have hn':(n == e)=false:=by simp [hn]
   go_wp2_with fail
   go_ret
   exact ⟨ret_bool (by simp [toldB,hn]),Same.refl _⟩
 ·have hh:(e == 6)=false:=by simp [h6]
  by_cases hn:n=e
  ·have hn':(n == e)=true:=by simp [hn]
   go_wp2_with fail
   go_ret
   exact ⟨ret_bool (by simp [toldB,h6,hn]),Same.refl _⟩
  ·have hn':(n == e)=false:=by simp [hn]
   go_wp2_with fail
   go_ret
   exact ⟨ret_bool (by simp [toldB,hn]),Same.refl _⟩
def pickL (c:Int) (n:Nat):Nat:=((if c < 0 then -(c+1) else c).toNat) % n
theorem pickL_lt (c:Int) {n:Nat} (hn:0 < n):pickL c n < n:=Nat.mod_lt _ hn
set_option maxRecDepth 100000 in
theorem pick_law (c:Int) (n:Nat) (w:World) (hc:-9223372036854775808≤c∧c≤9223372036854775807) (hn:0 < n∧n≤1000000) :
  Calls Tryz.prog 21 #[.int .i64 c,.int .i64 n] w fun e w'=>e = .returned (.int .i64 (pickL c n))∧w'=w:=by
 have hn0:((n:Int) == 0)=false:=by rw [beq_eq_false_iff_ne]; omega
 by_cases h:c < 0
 ·have hp:Hid ((pickL c n:Nat)=((-(c+1)).toNat) % n):=Lib.hid (by unfold pickL; rw [if_pos h])
  go_enter Tryz.func21,Tryz.ntmps21
  go_wp2_with fail
  go_ret
  refine ⟨ret_int ?_,rfl⟩
  rw [hp.out]
  obtain ⟨m,hm⟩:∃ m:Nat,-(c+1)=(m:Int):=⟨(-(c+1)).toNat,by omega⟩
  have hc1:c+1 = -(m:Int):=by omega
  rw [hm,hc1,Int.neg_tmod,Int.neg_neg]
  simp
  rw [Int.tmod_eq_emod_of_nonneg (by omega)]
 ·have hp:Hid ((pickL c n:Nat)=c.toNat % n):=Lib.hid (by unfold pickL; rw [if_neg h])
  go_enter Tryz.func21,Tryz.ntmps21
  go_wp2_with fail
  go_ret
  refine ⟨ret_int ?_,rfl⟩
  rw [hp.out]
  obtain ⟨m,rfl⟩:∃ m:Nat,c=(m:Int):=⟨c.toNat,by omega⟩
  rw [Int.toNat_natCast]
  first
   | (rw [Int.tmod_eq_emod_of_nonneg (by omega)]; omega)
   | simp
set_option maxRecDepth 100000 in
set_option maxHeartbeats 4000000 in
theorem sameInts_law (L:List Int) (va vb:Value) (w:World) (ha:IntsOf w va L) (hb:IntsOf w vb L) (hla:L.length≤1000000) :
  Calls Tryz.prog 32 #[va,vb] w fun e w'=>e = .returned (.bool true)∧Same w w':=by
 obtain ⟨aa,ac,rfl⟩:=ownsRow_form ha
 obtain ⟨ba,bc,rfl⟩:=ownsRow_form hb
 have HA:=Lib.hid ha
 have HB:=Lib.hid hb
 clear ha hb
 go_enter Tryz.func32,Tryz.ntmps32
 go_wp2_with fail
 go_loopw [5] (fun iv wr=>∃ i:Nat,i≤L.length∧iv = .int .i64 (i:Int)∧Hid (Same w wr)) (fun iv _=>L.length - (intOf iv).toNat)
 case atStart=>exact ⟨0,Nat.zero_le _,rfl,Lib.hid (Same.refl _)⟩
 case round =>
  obtain ⟨i,hia,rfl,HO⟩:=hrel
  have q1:IntKind.i64.wrap ((i:Int)+1)=(i:Int)+1:=IntWalk.i64_in _ (by omega)
  by_cases hil:i < L.length
  ·obtain ⟨ga,cpa,ea,ca0,_⟩:=HA.out.cellAt hil
   simp only [Value.slice.injEq] at ea
   obtain ⟨rfl,_,rfl⟩:=ea
   obtain ⟨gb,cpb,eb,cb0,_⟩:=HB.out.cellAt hil
   simp only [Value.slice.injEq] at eb
   obtain ⟨rfl,_,rfl⟩:=eb
   have ca:=(HO.out.cell ⟨ga,i,none⟩).trans ca0
   have cb:=(HO.out.cell ⟨gb,i,none⟩).trans cb0
   have zi:(0:Int)≤(i:Int)∧(i:Int) < (L.length:Int):=by omega
   clear ca0 cb0
   generalize L.getD i 0=Av at *
   go_upto_region 6 with fail
   go_quiet (fail)
   go_wp2_with fail
   go_roundw
   case rel=>exact ⟨i+1,by omega,by go_num,Lib.hid (HO.out.trans (Same.drewN _ _))⟩
   case measure=>(simp [intOf]) <;> omega
  ·obtain rfl:i=L.length:=by omega
   go_wp2_with fail
   go_ret
   exact ⟨rfl,HO.out⟩
end Go.Proofs.Tl
namespace Go.Proofs.Tl
open Go Go.RowKit Go.Proofs.Ts
theorem blankR_law (c:UInt8) (w:World) :
  Calls Tryz.prog 95 #[.int .u8 c.toNat] w fun e w'=>e = .returned (.bool (isBlank c))∧Same w w':=by
 rw [blank_toNat]
 go_enter Tryz.func95,Tryz.ntmps95
 go_wp2
 all_goals
  go_ret
  exact ⟨ret_bool (by simp [*]),Same.refl _⟩
theorem conv_one (c:UInt8) (W:World):(convert 42 9 (.slice (some ⟨W.heap.size,0,none⟩) 1 1)).run Tryz.prog (W.alloc (.cells #[.int .u8 c.toNat] 5)) = .ok (.string ⟨#[c]⟩) (W.alloc (.cells #[.int .u8 c.toNat] 5)):=by
 refine run_convert_bytes_back (P:=Tryz.prog) _ 42 9 5 ⟨W.heap.size,0,none⟩ 1 [c] Tryz.underlying42 Tryz.underlying5 Tryz.underlying9 fun j hj=>?_
 have hj0:j=0:=by simp at hj; omega
 subst hj0
 exact cell_one_new W _ _ 0 _ rfl
def filtW (L:List (List UInt8)):List (List UInt8):=(L.map lowL).filter fun w=>decide (w.length≤16)
theorem wordsB_filt (s:ByteArray):wordsB s=filtW (fields s.data.toList []):=rfl
theorem filtW_cons (f:List UInt8) (L:List (List UInt8)):filtW (f :: L)=(if f.length≤16 then [lowL f] else [])++filtW L:=by
 unfold filtW
 rw [List.map_cons,List.filter_cons]
 have:(lowL f).length=f.length:=by simp [lowL]
 rw [this]
 by_cases h:f.length≤16 <;> simp [h]
def runW (cur:List UInt8):List (List UInt8):=if 0 < cur.length∧cur.length≤16 then [lowL cur] else []
theorem filtW_blank {s:ByteArray} {i:Nat} (h:i < s.size) (cur:List UInt8) (hb:isBlank s[i]=true):filtW (fields (s.data.toList.drop i) cur)=runW cur++filtW (fields (s.data.toList.drop (i+1)) []):=by
 have hd:s.data.toList.drop i=s[i] :: s.data.toList.drop (i+1):=by
  rw [List.drop_eq_getElem_cons (by simpa using h)]
  rfl
 rw [hd]
 conv=>lhs; unfold fields
 rw [if_pos hb]
 unfold runW
 by_cases hc:cur=[]
 ·simp [hc]
 ·have:0 < cur.length:=List.length_pos_iff.2 hc
  rw [if_neg hc,filtW_cons]
  simp [this]
theorem filtW_go {s:ByteArray} {i:Nat} (h:i < s.size) (cur:List UInt8) (hb:isBlank s[i]=false):filtW (fields (s.data.toList.drop i) cur)=filtW (fields (s.data.toList.drop (i+1)) (cur++[s[i]])):=by
 have hd:s.data.toList.drop i=s[i] :: s.data.toList.drop (i+1):=by
  rw [List.drop_eq_getElem_cons (by simpa using h)]
  rfl
 rw [hd]
 conv=>lhs; unfold fields
 rw [if_neg (by simp [hb])]
theorem filtW_end (s:ByteArray) (cur:List UInt8):filtW (fields (s.data.toList.drop s.size) cur)=runW cur:=by
 have:s.data.toList.drop s.size=[]:=by simp
 rw [this]
 unfold fields runW
 by_cases hc:cur=[]
 ·simp [hc,filtW]
 ·have:0 < cur.length:=List.length_pos_iff.2 hc
  rw [if_neg hc,filtW_cons]
  simp [this,filtW]
structure WAt (s:ByteArray) (i:Nat) (out:List (List UInt8)) (cur:List UInt8):Prop where
 all:wordsB s=out++if i≤s.size then filtW (fields (s.data.toList.drop i) cur) else []
 len:cur.length≤i
 out:out.length≤i
theorem WAt.start (s:ByteArray):WAt s 0 [] []:=⟨by simp [wordsB_filt],Nat.le_refl _,Nat.le_refl _⟩
theorem WAt.go {s:ByteArray} {i:Nat} {out:List (List UInt8)} {cur:List UInt8} (h:WAt s i out cur) (hi:i < s.size) (hb:isBlank s[i]=false):WAt s (i+1) out (cur++[s[i]]):=by
 refine ⟨?_,by have:=h.len; simp; omega,by have:=h.out; omega⟩
 rw [h.all,if_pos (by omega),if_pos (by omega),filtW_go hi cur hb]
theorem runW_le (cur:List UInt8):(runW cur).length≤1:=by unfold runW; split <;> simp
theorem WAt.stop {s:ByteArray} {i:Nat} {out:List (List UInt8)} {cur:List UInt8} (h:WAt s i out cur) (hi:i≤s.size) (hb:∀ hl:i < s.size,isBlank s[i]=true):WAt s (i+1) (out++runW cur) []:=by
 have h1:=runW_le cur
 refine ⟨?_,by simp,by have:=h.out; simp; omega⟩
 rw [h.all,if_pos hi]
 rcases Nat.lt_or_ge i s.size with hl | hl
 ·rw [if_pos (by omega),filtW_blank hl cur (hb hl),List.append_assoc]
 ·obtain rfl:i=s.size:=by omega
  rw [if_neg (by omega),filtW_end,List.append_nil]
theorem WAt.done {s:ByteArray} {out:List (List UInt8)} {cur:List UInt8} (h:WAt s (s.size+1) out cur):out=wordsB s:=by
 have:=h.all
 rw [if_neg (by omega),List.append_nil] at this
 exact this.symm
abbrev StrRow (w0 W:World) (v:Value) (out:List (List UInt8)):Prop:=RowAt 9 1 w0 W v out.length (out.map strV)
set_option maxRecDepth 100000 in
set_option maxHeartbeats 4000000 in
theorem words_law (s:ByteArray) (w:World) (hs:s.size≤1000) :
  Calls Tryz.prog 62 #[.string s] w fun e w'=>∃ ov,e = .returned ov∧StrRow w w' ov (wordsB s):=by
 obtain ⟨i0,hi,hz0,hz1,hz2⟩:=info_parts Tryz.info9
 have HW0:=Lib.hid (WAt.start s)
 have HR0:=Lib.hid (RowAt.start 9 1 w)
 go_enter Tryz.func62,Tryz.ntmps62
 go_wp2_with fail
 go_loopw [3,4,5] (fun ov cv iv wr=>∃ (i:Nat) (out:List (List UInt8)) (cur:List UInt8),i≤s.size+1∧iv = .int .i64 (i:Int)∧cv = .string ⟨(lowL cur).toArray⟩∧cur.length≤i∧out.length≤i∧Hid (WAt s i out cur)∧Hid (StrRow w wr ov out)) (fun _ _ iv _=>s.size+1 - (intOf iv).toNat)
 case atStart=>exact ⟨0,[],[],by omega,rfl,rfl,Nat.le_refl _,Nat.le_refl _,HW0,HR0⟩
 case round =>
  obtain ⟨i,out,cur,his,rfl,rfl,hcl,hol,HW,HR⟩:=hrel
  have hll:(lowL cur).length=cur.length:=by simp [lowL]
  have q1:IntKind.i64.wrap ((i:Int)+1)=(i:Int)+1:=IntWalk.i64_in _ (by omega)
  by_cases hie:i≤s.size
  ·by_cases hend:i=s.size
   ·have e1:((i:Int) == (s.size:Int))=true:=by simp [hend]
    by_cases hadd:0 < cur.length∧cur.length≤16
    ·have e2:0 < (lowL cur).length:=by omega
     have e3:((lowL cur).length:Int)≤(16:Int):=by omega
     have HR1:=Lib.hid (HR.out.alloc (.cells #[.string ⟨(lowL cur).toArray⟩] 9))
     have hrow:=HR1.out.row
     go_wp2_with (at_builtin; refine wpList_append_lies rfl _ _ 35 rfl 9 i0 (.string ⟨#[]⟩) 1 16 Tryz.underlying35 hi hz0 hz1 hz2 rfl (by decide) u3 out.length (out.map strV) rfl hrow ⟨wr.heap.size,0,none⟩ 1 1 [.string ⟨(lowL cur).toArray⟩] rfl rfl (cell_one_new wr _ _) (by simp [Value.oneCell']) (by decide) (by unfold maxLen; omega) (by omega) ?_; intro v4 W4 hrow4 hgrow4 hlies4; have HR4:=Lib.hid (HR1.out.moves (Moves.append hgrow4 hlies4) hrow4 (by omega)); clear hrow4 hgrow4 hlies4 hrow)
     go_roundw
     case rel =>
      refine ⟨i+1,out++[lowL cur],[],Nat.succ_le_succ hie,by go_num,rfl,Nat.zero_le _,by simp; exact hol,Lib.hid ?_,Lib.hid ?_⟩
      ·have:=HW.out.stop (by omega) (fun hl=>by omega)
       unfold runW at this
       rw [if_pos hadd] at this
       exact this
      ·unfold StrRow
       rw [List.map_append,List.length_append]
       exact HR4.out
     case measure=>(simp [intOf]) <;> omega
    ·have hk:Hid (WAt s (i+1) out []):=Lib.hid (by
      have:=HW.out.stop (by omega) (fun hl=>by omega)
      unfold runW at this
      rw [if_neg hadd,List.append_nil] at this
      exact this)
     by_cases hc0:0 < cur.length
     ·have e2:0 < (lowL cur).length:=by omega
      have e3:(16:Int) < ((lowL cur).length:Int):=by omega
      go_wp2_with fail
      go_roundw
      case rel=>exact ⟨i+1,out,[],Nat.succ_le_succ hie,by go_num,rfl,Nat.zero_le _,Nat.le_succ_of_le hol,hk,HR⟩
      case measure=>(simp [intOf]) <;> omega
     ·have e2:¬ 0 < (lowL cur).length:=by omega
      go_wp2_with fail
      go_roundw
      case rel=>exact ⟨i+1,out,[],Nat.succ_le_succ hie,by go_num,rfl,Nat.zero_le _,Nat.le_succ_of_le hol,hk,HR⟩
      case measure=>(simp [intOf]) <;> omega
   ·have hil:i < s.size:=by omega
    have e1:((i:Int) == (s.size:Int))=false:=by simp; omega
    cases hb:isBlank s[i] with
    | true =>
     go_upto_region 7 with (go_at_call 95; refine (blankR_law s[i] _).mono ?_; rintro e w2 ⟨rfl,hs2⟩; rw [hb]; have HR:=Lib.hid (HR.out.same hs2); clear hs2)
     by_cases hadd:0 < cur.length∧cur.length≤16
     ·have e2:0 < (lowL cur).length:=by omega
      have e3:((lowL cur).length:Int)≤(16:Int):=by omega
      have HR1:=Lib.hid (HR.out.alloc (.cells #[.string ⟨(lowL cur).toArray⟩] 9))
      have hrow:=HR1.out.row
      go_wp2_with (at_builtin; refine wpList_append_lies rfl _ _ 35 rfl 9 i0 (.string ⟨#[]⟩) 1 16 Tryz.underlying35 hi hz0 hz1 hz2 rfl (by decide) u3 out.length (out.map strV) rfl hrow ⟨w2.heap.size,0,none⟩ 1 1 [.string ⟨(lowL cur).toArray⟩] rfl rfl (cell_one_new w2 _ _) (by simp [Value.oneCell']) (by decide) (by unfold maxLen; omega) (by omega) ?_; intro v4 W4 hrow4 hgrow4 hlies4; have HR4:=Lib.hid (HR1.out.moves (Moves.append hgrow4 hlies4) hrow4 (by omega)); clear hrow4 hgrow4 hlies4 hrow)
      go_roundw
      case rel =>
       refine ⟨i+1,out++[lowL cur],[],Nat.succ_le_succ hie,by go_num,rfl,Nat.zero_le _,by simp; exact hol,Lib.hid ?_,Lib.hid ?_⟩
       ·have:=HW.out.stop (by omega) (fun _=>hb)
        unfold runW at this
        rw [if_pos hadd] at this
        exact this
       ·unfold StrRow
        rw [List.map_append,List.length_append]
        exact HR4.out
      case measure=>(simp [intOf]) <;> omega
     ·have hk:Hid (WAt s (i+1) out []):=Lib.hid (by
       have:=HW.out.stop (by omega) (fun _=>hb)
       unfold runW at this
       rw [if_neg hadd,List.append_nil] at this
       exact this)
      by_cases hc0:0 < cur.length
      ·have e2:0 < (lowL cur).length:=by omega
       have e3:(16:Int) < ((lowL cur).length:Int):=by omega
       go_wp2_with fail
       go_roundw
       case rel=>exact ⟨i+1,out,[],Nat.succ_le_succ hie,by go_num,rfl,Nat.zero_le _,Nat.le_succ_of_le hol,hk,HR⟩
       case measure=>(simp [intOf]) <;> omega
      ·have e2:¬ 0 < (lowL cur).length:=by omega
       go_wp2_with fail
       go_roundw
       case rel=>exact ⟨i+1,out,[],Nat.succ_le_succ hie,by go_num,rfl,Nat.zero_le _,Nat.le_succ_of_le hol,hk,HR⟩
       case measure=>(simp [intOf]) <;> omega
    | false =>
     have HW2:=Lib.hid (HW.out.go hil hb)
     have hc256:s[i].toNat < 256:=(s[i]).toNat_lt
     have hl:=low1_toNat s[i]
     have HSL:Hid ((lowL cur++[low1 s[i]]).toArray=(lowL (cur++[s[i]])).toArray):=Lib.hid (by simp [lowL])
     have hgl:(lowL cur).length+1≤2000:=by omega
     by_cases h1:65≤s[i].toNat
     ·by_cases h2:s[i].toNat≤90
      ·have hlo:((low1 s[i]).toNat:Int)=(s[i].toNat:Int)+32:=by rw [hl,if_pos ⟨h1,h2⟩]
       clear hl
       have hcv:∀ W:World,(convert 42 9 (.slice (some ⟨W.heap.size,0,none⟩) 1 1)).run Tryz.prog (W.alloc (.cells #[.int .u8 ((s[i].toNat:Int)+32)] 5)) = .ok (.string ⟨#[low1 s[i]]⟩) (W.alloc (.cells #[.int .u8 ((s[i].toNat:Int)+32)] 5)):=fun W=>by
        have:=conv_one (low1 s[i]) W
        rw [hlo] at this
        exact this
       go_wp2_with (go_at_call 95; refine (blankR_law s[i] _).mono ?_; rintro e w2 ⟨rfl,hs2⟩; rw [hb]; have HR:=Lib.hid (HR.out.same hs2); clear hs2)
       go_roundw
       case rel=>exact ⟨i+1,out,cur++[s[i]],Nat.succ_le_succ hie,by go_num,by rw [← HSL.out]; rfl,by simp; exact hcl,Nat.le_succ_of_le hol,HW2,Lib.hid (HR.out.alloc _)⟩
       case measure=>(simp [intOf]) <;> omega
      ·have hlo:((low1 s[i]).toNat:Int)=(s[i].toNat:Int):=by rw [hl,if_neg (by omega)]
       clear hl
       have hcv:∀ W:World,(convert 42 9 (.slice (some ⟨W.heap.size,0,none⟩) 1 1)).run Tryz.prog (W.alloc (.cells #[.int .u8 (s[i].toNat:Int)] 5)) = .ok (.string ⟨#[low1 s[i]]⟩) (W.alloc (.cells #[.int .u8 (s[i].toNat:Int)] 5)):=fun W=>by
        have:=conv_one (low1 s[i]) W
        rw [hlo] at this
        exact this
       go_wp2_with (go_at_call 95; refine (blankR_law s[i] _).mono ?_; rintro e w2 ⟨rfl,hs2⟩; rw [hb]; have HR:=Lib.hid (HR.out.same hs2); clear hs2)
       go_roundw
       case rel=>exact ⟨i+1,out,cur++[s[i]],Nat.succ_le_succ hie,by go_num,by rw [← HSL.out]; rfl,by simp; exact hcl,Nat.le_succ_of_le hol,HW2,Lib.hid (HR.out.alloc _)⟩
       case measure=>(simp [intOf]) <;> omega
     ·have hlo:((low1 s[i]).toNat:Int)=(s[i].toNat:Int):=by rw [hl,if_neg (by omega)]
      clear hl
      have hcv:∀ W:World,(convert 42 9 (.slice (some ⟨W.heap.size,0,none⟩) 1 1)).run Tryz.prog (W.alloc (.cells #[.int .u8 (s[i].toNat:Int)] 5)) = .ok (.string ⟨#[low1 s[i]]⟩) (W.alloc (.cells #[.int .u8 (s[i].toNat:Int)] 5)):=fun W=>by
       have:=conv_one (low1 s[i]) W
       rw [hlo] at this
       exact this
      go_wp2_with (go_at_call 95; refine (blankR_law s[i] _).mono ?_; rintro e w2 ⟨rfl,hs2⟩; rw [hb]; have HR:=Lib.hid (HR.out.same hs2); clear hs2)
      go_roundw
      case rel=>exact ⟨i+1,out,cur++[s[i]],Nat.succ_le_succ hie,by go_num,by rw [← HSL.out]; rfl,by simp; exact hcl,Nat.le_succ_of_le hol,HW2,Lib.hid (HR.out.alloc _)⟩
      case measure=>(simp [intOf]) <;> omega
  ·obtain rfl:i=s.size+1:=by omega
   go_wp2_with fail
   go_ret
   exact ⟨_,rfl,by rw [← HW.out.done]; exact HR.out⟩
end Go.Proofs.Tl
namespace Go.Proofs.Tl
open Go Go.RowKit Go.Proofs.Ts
structure IndexIs (B:Nat) (w:World) (mb n:Nat) (T:List (List UInt8)) (L:List UInt8→List Nat):Prop where
 le:B≤mb
 ex:∃ tv pv ps,w.heap[mb]?=some (.cells #[.int .i64 n,tv,pv] 90 (0,0)) ∧
  w.ownsRow 0 9 1 tv T.length (T.map strV)∧Past B tv∧w.ownsRow 0 24 1 pv T.length ps∧Past B pv ∧
  (∀ (i:Nat) v x,ps[i]?=some v→T[i]?=some x→w.ownsRow 0 3 1 v (L x).length ((L x).map intV)∧Past B v) ∧
  ∀ (i j:Nat) u v g,i≠j→ps[i]?=some u→ps[j]?=some v→u.ownBlock=some g→v.ownBlock≠some g
theorem IndexIs.start {B:Nat} (w:World) (hB:B≤w.heap.size) (n:Nat):IndexIs B (w.alloc (.cells #[.int .i64 n,.slice none 0 0,.slice none 0 0] 90)) w.heap.size n [] (fun _=>[]) :=
 ⟨hB,_,_,[],heap_alloc_new _ _,World.ownsRow_nil _ _ _ _,(fun k e=>by cases e),World.ownsRow_nil _ _ _ _,(fun k e=>by cases e),(fun i v x h=>by simp at h),fun i j u v g _ h=>by simp at h⟩
theorem IndexIs.kept {B:Nat} {w w':World} {mb n:Nat} {T:List (List UInt8)} {L:List UInt8→List Nat} (h:IndexIs B w mb n T L) (hk:∀ k,B≤k→k < w.heap.size→w'.heap[k]?=w.heap[k]?):IndexIs B w' mb n T L:=by
 obtain ⟨tv,pv,ps,h1,h2,h3,h4,h5,h6,h7⟩:=h.ex
 exact ⟨h.le,tv,pv,ps,(hk _ h.le (lt_of_heap h1)).trans h1,ownsRow_block h2 fun k e=>hk k (h3 k e) (h2.lt k e).2,h3,ownsRow_block h4 fun k e=>hk k (h5 k e) (h4.lt k e).2,h5,
  (fun i v x hv hx=>⟨ownsRow_block (h6 i v x hv hx).1 fun k e=>hk k ((h6 i v x hv hx).2 k e) ((h6 i v x hv hx).1.lt k e).2,(h6 i v x hv hx).2⟩),h7⟩
theorem IndexIs.below {B:Nat} {w w':World} {mb n:Nat} {T:List (List UInt8)} {L:List UInt8→List Nat} (h:IndexIs B w mb n T L) (hb:Below w.heap.size w w'):IndexIs B w' mb n T L:=h.kept fun k _ hl=>hb.block k hl
theorem strRow_cell {w:World} {v:Value} {T:List (List UInt8)} (h:w.ownsRow 0 9 1 v T.length (T.map strV)) {i:Nat} (hi:i < T.length):∃ g cap,v = .slice (some ⟨g,0,none⟩) T.length cap∧w.cell? ⟨g,i,none⟩=some (.string ⟨T[i].toArray⟩):=by
 obtain ⟨g,cap,e,hc⟩:=ownsRow_cell h (j:=i) (u:=strV T[i]) (by rw [List.getElem?_map,List.getElem?_eq_getElem hi]; rfl)
 exact ⟨g,cap,e,hc⟩
theorem less_eq (a:List UInt8) (s:ByteArray):Op.bytesLess a s.toList=decide (a < s.data.toList):=by
 rw [Go.Proofs.bytesLess_eq,Go.ByteArray.toList_eq]
def PlaceIs (T:List (List UInt8)) (s:List UInt8) (k:Nat):Prop:=k≤T.length∧(∀ (j:Nat) (h:j < T.length),j < k→T[j] < s) ∧ ∀ h:k < T.length,¬ T[k] < s
set_option maxRecDepth 100000 in
set_option maxHeartbeats 4000000 in
theorem place_law (s:ByteArray) (B mb n:Nat) (T:List (List UInt8)) (L:List UInt8→List Nat) (w:World) (hx:IndexIs B w mb n T L) (hT:T.length≤1000000) :
  Calls Tryz.prog 96 #[ptrV mb,.string s] w fun e w'=>∃ k:Nat,e = .returned (.tuple #[.int .i64 k,.bool (decide (T[k]?=some s.data.toList))])∧PlaceIs T s.data.toList k∧Same w w':=by
 obtain ⟨tv,pv,ps,h1,h2,h3,h4,h5,h6,h7⟩:=hx.ex
 obtain ⟨ta,tc,rfl⟩:=ownsRow_form h2
 have c1:w.cell? ⟨mb,1,none⟩=some (.slice ta T.length tc):=cell_block h1
 have H2:=Lib.hid h2
 clear h1 h2 h3 h4 h5 h6 h7 hx
 unfold ptrV
 go_enter Tryz.func96,Tryz.ntmps96
 go_wp2_with fail
 go_loopw [6] (fun iv wr=>∃ i:Nat,i≤T.length∧iv = .int .i64 (i:Int)∧Hid (∀ (j:Nat) (h:j < T.length),j < i→T[j] < s.data.toList)∧Hid (Same w wr)) (fun iv _=>T.length - (intOf iv).toNat)
 case atStart=>exact ⟨0,Nat.zero_le _,rfl,Lib.hid (fun j _ h=>by omega),Lib.hid (Same.refl _)⟩
 case round =>
  obtain ⟨i,hiT,rfl,HP,HS⟩:=hrel
  have q1:IntKind.i64.wrap ((i:Int)+1)=(i:Int)+1:=IntWalk.i64_in _ (by omega)
  have d1:wr.cell? ⟨mb,1,none⟩=some (.slice ta T.length tc):=(HS.out.cell _).trans c1
  by_cases hil:i < T.length
  ·obtain ⟨ga,cpa,ea,ca0⟩:=strRow_cell H2.out hil
   simp only [Value.slice.injEq] at ea
   obtain ⟨rfl,_,rfl⟩:=ea
   have ca:=(HS.out.cell ⟨ga,i,none⟩).trans ca0
   have zi:(0:Int)≤(i:Int)∧(i:Int) < (T.length:Int):=by omega
   by_cases hlt:T[i] < s.data.toList
   ·have b1:Op.bytesLess T[i] s.toList=true:=by rw [less_eq]; simpa using hlt
    have HP2:Hid (∀ (j:Nat) (h:j < T.length),j < i+1→T[j] < s.data.toList):=Lib.hid fun j h hj=>by
     rcases Nat.lt_or_ge j i with h' | h'
     ·exact HP.out j h h'
     ·obtain rfl:j=i:=by omega
      exact hlt
    clear ca0 hlt
    go_wp2_with fail
    exact ⟨⟨i+1,by omega,by go_num,HP2,HS⟩,by simp [intOf]; omega⟩
   ·have b1:Op.bytesLess T[i] s.toList=false:=by rw [less_eq]; simpa using hlt
    have HP2:Hid (PlaceIs T s.data.toList i):=Lib.hid ⟨by omega,HP.out,fun _=>hlt⟩
    have b2:(T[i] == s.toList)=decide (T[i]?=some s.data.toList):=by
     rw [List.getElem?_eq_getElem hil,Go.ByteArray.toList_eq,Bool.eq_iff_iff]
     simp
    have HB:=Lib.hid b2
    clear ca0 hlt b2
    go_upto_region 4 with fail
    go_quiet (fail)
    go_wp2_with fail
    go_ret2
    exact ⟨i,by rw [← HB.out]; rfl,HP2.out,HS.out.trans (Same.drewN _ _)⟩
  ·obtain rfl:i=T.length:=by omega
   have HP2:Hid (PlaceIs T s.data.toList T.length):=Lib.hid ⟨Nat.le_refl _,HP.out,fun h=>by omega⟩
   go_upto_region 4 with fail
   go_quiet (fail)
   go_wp2_with fail
   go_ret2
   exact ⟨T.length,by simp,HP2.out,HS.out.trans (Same.drewN _ _)⟩
end Go.Proofs.Tl
namespace Go.Proofs.Tl
open Go Go.RowKit Go.Proofs.Ts
section
variable {P:Program} {w:World}
theorem run_append_nought (t ty e:TypeId) (i:TypeInfo) (ht:P.underlying t=some (.slice e)) (hi:P.info? e=some i) (base:Option Addr) (n cap:Nat) (hle:n≤cap) (a:Option Addr) (c:Nat) :
  (Builtin.append_ #[t,t] ty #[.slice base n cap,.slice a 0 c]).run P w = .ok (.slice base n cap) w:=by
 cases a <;> cases base <;> simp [Builtin.append_,run_underlying ht,sizeOf,typeInfo,hi,Builtin.lenOf,Builtin.firstCells,loadCells,loadCellsFrom,storeCells,hle]
theorem run_append_all (t ty e:TypeId) (i:TypeInfo) (z:Value) (size bytes:Nat) (ht:P.underlying t=some (.slice e)) (hi:P.info? e=some i) (hz:i.zero=some z)
  (hsize:i.size=size) (hby:i.bytes=bytes) (hzs:z.cells.size=size) (hsz:0 < size)
  (v:Value) (n:Nat) (xs:List Value) (hown:w.ownsRow 0 e size v n xs)
  (a:Option Addr) (m c:Nat) (news:List Value) (hl:news.length=m * size) (hnews:∀ j u,news[j]?=some u → ∃ b,a=some b∧w.cell? (b.add j)=some u) (h1:∀ u∈news,u.oneCell'=true)
  (h63:n+m≤maxLen) (hbytes:(n+m) * bytes≤140737488355328) :
  ∃ v' w',(Builtin.append_ #[t,t] ty #[v,.slice a m c]).run P w = .ok v' w'∧w'.ownsRow 0 e size v' (n+m) (xs++news)∧Moves w v w' v'∧(m=0→v'=v):=by
 cases m with
 | zero =>
  have hn:news=[]:=List.eq_nil_of_length_eq_zero (by simpa using hl)
  subst hn
  rw [List.append_nil,Nat.add_zero]
  rcases hown.2 with ⟨rfl,rfl⟩ | ⟨g,cap,cur,rfl,h2,h3,h4,h5⟩
  ·exact ⟨_,_,run_append_nought t ty e i ht hi none 0 0 (Nat.le_refl _) a c,hown,Moves.refl _ _,fun _=>rfl⟩
  ·exact ⟨_,_,run_append_nought t ty e i ht hi _ n cap h4 a c,hown,Moves.refl _ _,fun _=>rfl⟩
 | succ m =>
  obtain ⟨u,hu⟩:∃ u,news[0]?=some u:=⟨_,List.getElem?_eq_getElem (by rw [hl]; exact Nat.mul_pos (Nat.succ_pos _) hsz)⟩
  obtain ⟨b,rfl,_⟩:=hnews 0 u hu
  obtain ⟨v',w',hr,h2,h3,h4⟩:=run_append_lies (P:=P) t ty e i z size bytes ht hi hz hsize hby hzs hsz v n xs hown b (m+1) c news hl
   (fun j u hj=>by obtain ⟨b',e',h'⟩:=hnews j u hj; cases e'; exact h') h1 (Nat.succ_pos _) h63 hbytes
  exact ⟨v',w',hr,h2,Moves.append h3 h4,fun e=>by cases e⟩
theorem wpList_append_all {ops:Array Oper} {rest:List Oper} {o:Oper} {act:Act} {Q:Exit→Act→World→Prop} (hgd:o.guard=none) (s x:Operand) (t:TypeId)
  (ho:o.op = .call { callee := .builtin .append,args:=#[s,x],argTypes:=#[t,t] })
  (e:TypeId) (i:TypeInfo) (z:Value) (size bytes:Nat) (ht:P.underlying t=some (.slice e)) (hi:P.info? e=some i) (hz:i.zero=some z)
  (hsize:i.size=size) (hby:i.bytes=bytes) (hzs:z.cells.size=size) (hsz:0 < size)
  (v:Value) (n:Nat) (xs:List Value) (hs:act.eval s=v) (hown:w.ownsRow 0 e size v n xs)
  (a:Option Addr) (m c:Nat) (news:List Value) (hx:act.eval x = .slice a m c) (hl:news.length=m * size) (hnews:∀ j u,news[j]?=some u → ∃ b,a=some b∧w.cell? (b.add j)=some u) (h1:∀ u∈news,u.oneCell'=true)
  (h63:n+m≤maxLen) (hbytes:(n+m) * bytes≤140737488355328)
  (h:∀ v' w',w'.ownsRow 0 e size v' (n+m) (xs++news)→Moves w v w' v'→(m=0→v'=v)→wpList P ops Q rest (act.put o.dst v') w'):wpList P ops Q (o :: rest) act w:=by
 refine wpList_plain hgd fun K hK=>?_
 obtain ⟨v',w',hr,h2,h3,h4⟩:=run_append_all (P:=P) t o.type e i z size bytes ht hi hz hsize hby hzs hsz v n xs hown a m c news hl hnews h1 h63 hbytes
 unfold Oper.wp execOp
 simp only [ho,resolve,invoke,builtin,Sem.run_bind,Sem.run_pure,Result.andThen_ok,List.map_toArray,List.map_cons,List.map_nil,hs,hx,hr]
 exact hK _ _ (h v' w' h2 h3 h4)
theorem ownsRow_cap {e size n m c:Nat} {a:Option Addr} {xs:List Value} (h:w.ownsRow 0 e size (.slice a m c) n xs):n≤c:=by
 rcases h.2 with ⟨h1,h0⟩ | ⟨g,cap,cur,h1,_,_,h4,_⟩
 ·omega
 ·cases h1; exact h4
theorem ownsRow_base0 {e size n m c:Nat} {a:Option Addr} {xs:List Value} (h:w.ownsRow 0 e size (.slice a m c) n xs):a=none ∨ ∃ g,a=some ⟨g,0,none⟩:=by
 rcases h.2 with ⟨h1,h0⟩ | ⟨g,cap,cur,h1,_⟩
 ·cases h1; exact .inl rfl
 ·cases h1; exact .inr ⟨g,rfl⟩
theorem piece_cells {e size n:Nat} {v:Value} {xs:List Value} (h:w.ownsRow 0 e size v n xs) (k:Nat) (a:Option Addr) (ha:∀ g,v.ownBlock=some g→xs.drop k≠[]→a=some ⟨g,k,none⟩) (m:Nat) :
  ∀ (j:Nat) u,((xs.drop k).take m)[j]?=some u → ∃ b,a=some b∧w.cell? (b.add j)=some u:=by
 intro j u hj
 have hj':(xs.drop k)[j]?=some u:=by
  have hjm:j < m:=by
   have:=(List.getElem?_eq_some_iff.1 hj).1
   simp at this
   omega
  rw [List.getElem?_take_of_lt hjm] at hj
  exact hj
 have hne:xs.drop k≠[]:=by
  intro h0
  rw [h0] at hj'
  cases hj'
 rcases h.2 with ⟨rfl,h0⟩ | ⟨g,cap,cur,rfl,_⟩
 ·exfalso
  have:=h.1
  rw [h0,Nat.zero_mul] at this
  exact hne (by rw [List.eq_nil_of_length_eq_zero this]; simp)
 ·refine ⟨_,ha g rfl hne,?_⟩
  rw [List.getElem?_drop] at hj'
  have:=h.cells (g:=g) rfl (k+j) u hj'
  have e1:(⟨g,k,none⟩:Addr).add j=⟨g,k+j,none⟩:=by unfold Addr.add; split <;> simp_all
  have e2:(⟨g,0,none⟩:Addr).add (k+j)=⟨g,k+j,none⟩:=by unfold Addr.add; split <;> simp_all
  rw [e1,← e2]
  exact this
theorem drop_cells {e n c:Nat} {a:Option Addr} {xs:List Value} (h:w.ownsRow 0 e 1 (.slice a n c) n xs) (k:Nat) :
  ∀ (j:Nat) u,(xs.drop k)[j]?=some u → ∃ b,(if c=k then a else Option.map (fun x=>x.add k) a)=some b∧w.cell? (b.add j)=some u:=by
 intro j u hj
 have hcap:=ownsRow_cap h
 have:=piece_cells h k (if c=k then a else Option.map (fun x=>x.add k) a) (fun g e hne=>by
  have hk:k < xs.length:=by
   rcases Nat.lt_or_ge k xs.length with h1 | h1
   ·exact h1
   ·exact absurd (List.drop_of_length_le h1) hne
  have hl:=h.1
  rw [if_neg (by omega)]
  rcases ownsRow_base0 h with rfl | ⟨g',rfl⟩
  ·cases e
  ·cases e
   simp only [Option.map_some]
   congr 1
   unfold Addr.add
   split <;> simp_all) ((xs.drop k).length) j u
 rw [List.take_length] at this
 exact this hj
theorem take_cells {e n c:Nat} {a:Option Addr} {xs:List Value} (h:w.ownsRow 0 e 1 (.slice a n c) n xs) (k:Nat) :
  ∀ (j:Nat) u,(xs.take k)[j]?=some u → ∃ b,a=some b∧w.cell? (b.add j)=some u:=by
 have:=piece_cells h 0 a (fun g e _=>by rcases ownsRow_base0 h with rfl | ⟨g',rfl⟩ <;> simp_all [Value.ownBlock]) k
 rw [List.drop_zero] at this
 exact this
end
theorem row_set {w:World} {B e n k:Nat} {v:Value} {xs:List Value} (h:w.ownsRow B e 1 v n xs) {g:Nat} (hg:v.ownBlock=some g) (u:Value):(w.setCell ⟨g,k,none⟩ u).ownsRow B e 1 v n (xs.set k u):=by
 rcases h.2 with ⟨rfl,_⟩ | ⟨g',cap,cur,rfl,h2,h3,h4,h5,h6,h7⟩
 ·cases hg
 ·cases hg
  refine ⟨by rw [List.length_set]; exact h.1,.inr ⟨g',cap,_,rfl,h2,heap_setCell_same w g' k _ _ u h3,h4,h5,by simpa using h6,?_⟩⟩
  rw [Array.toList_setIfInBounds,List.take_set,h7]
end Go.Proofs.Tl
