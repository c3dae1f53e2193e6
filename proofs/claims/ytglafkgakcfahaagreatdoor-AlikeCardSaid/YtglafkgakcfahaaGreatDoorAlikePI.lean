/- Lemmas towards the statement Alike of termsearch: walks of the program's functions and plain laws on lists (TsPart, TsJoin, TsPlaces, TsRepeat, TsReadB, TsReadC, TsRep, TsAdd). Conditions: those that each theorem names. -/
import Derived.Test.YtglafkgakcfahaaGreatDoorAlikePH
import Derived.Test.YtglafkgakcfahaaGreatDoorAlikePF
import Derived.Test.YtglafkgakcfahaaGreatDoorAlikePG
set_option linter.unusedVariables false
set_option linter.unusedSimpArgs false
set_option linter.unusedSectionVars false
namespace Go.Proofs.Ts
open Go Go.RowKit
def PartGives (e:Ast):Prop:=∀ (mb:Nat) (M:PM) (w:World),MachIs w mb M→BitTab w→M.n+e.count≤128 →
 Calls Tryz.prog 125 #[ptrV mb,e.val] w fun en w'=>en = .returned (PM.part e M).2.val∧MachIs w' mb (PM.part e M).1∧Mod (fun j=>j=mb) w w'
def Asserts (T:TypeId) (v:Value) (A:TypeId) (z:Value) (hit:Bool):Prop:=∀ w,(Instr.typeAssert (.iface T v) 199 A true).run Tryz.prog w = .ok (.tuple #[z,.bool hit]) w
def zOne:Value := .agg #[.int .u64 0,.int .u64 0,.int .u64 0,.int .u64 0]
def zTwo:Value := .agg #[.nilIface,.nilIface]
def zMany:Value := .agg #[.nilIface,.bool false]
def zMaybe:Value := .agg #[.nilIface]
theorem asserts_empty (v:Value):Asserts 263 v 266 zOne false∧Asserts 263 v 325 zTwo false∧Asserts 263 v 331 zTwo false∧Asserts 263 v 270 zMany false∧Asserts 263 v 328 zMaybe false :=
 ⟨fun w=>by kernel_rfl,fun w=>by kernel_rfl,fun w=>by kernel_rfl,fun w=>by kernel_rfl,fun w=>by kernel_rfl⟩
theorem asserts_huge (v:Value):Asserts 326 v 266 zOne false∧Asserts 326 v 325 zTwo false∧Asserts 326 v 331 zTwo false∧Asserts 326 v 270 zMany false∧Asserts 326 v 328 zMaybe false :=
 ⟨fun w=>by kernel_rfl,fun w=>by kernel_rfl,fun w=>by kernel_rfl,fun w=>by kernel_rfl,fun w=>by kernel_rfl⟩
theorem asserts_one (v:Value):Asserts 266 v 266 v true:=fun w=>by kernel_rfl
theorem asserts_or (v:Value):Asserts 325 v 266 zOne false∧Asserts 325 v 325 v true:=⟨fun w=>by kernel_rfl,fun w=>by kernel_rfl⟩
theorem asserts_seq (v:Value):Asserts 331 v 266 zOne false∧Asserts 331 v 325 zTwo false∧Asserts 331 v 331 v true:=⟨fun w=>by kernel_rfl,fun w=>by kernel_rfl,fun w=>by kernel_rfl⟩
theorem asserts_many (v:Value):Asserts 270 v 266 zOne false∧Asserts 270 v 325 zTwo false∧Asserts 270 v 331 zTwo false∧Asserts 270 v 270 v true:=⟨fun w=>by kernel_rfl,fun w=>by kernel_rfl,fun w=>by kernel_rfl,fun w=>by kernel_rfl⟩
theorem asserts_maybe (v:Value):Asserts 328 v 266 zOne false∧Asserts 328 v 325 zTwo false∧Asserts 328 v 331 zTwo false∧Asserts 328 v 270 zMany false∧Asserts 328 v 328 v true :=
 ⟨fun w=>by kernel_rfl,fun w=>by kernel_rfl,fun w=>by kernel_rfl,fun w=>by kernel_rfl,fun w=>by kernel_rfl⟩
theorem Part.val_eq (p:Part):p.val = .agg #[.int .u64 p.first.a,.int .u64 p.first.b,.int .u64 p.first.c,.int .u64 p.last.a,.int .u64 p.last.b,.int .u64 p.last.c,.bool p.none]:=rfl
structure Cells7 (w:World) (b:Nat) (a0 a1 a2 a3 a4 a5 a6:Value):Prop where
 c0:w.cell? ⟨b,0,none⟩=some a0
 c1:w.cell? ⟨b,1,none⟩=some a1
 c2:w.cell? ⟨b,2,none⟩=some a2
 c3:w.cell? ⟨b,3,none⟩=some a3
 c4:w.cell? ⟨b,4,none⟩=some a4
 c5:w.cell? ⟨b,5,none⟩=some a5
 c6:w.cell? ⟨b,6,none⟩=some a6
 free:∀ i,w.frozen? ⟨b,i,none⟩=false
theorem Cells7.of {w:World} {b:Nat} {a0 a1 a2 a3 a4 a5 a6:Value} {T:TypeId} (h:w.heap[b]?=some (.cells #[a0,a1,a2,a3,a4,a5,a6] T (0,0))):Cells7 w b a0 a1 a2 a3 a4 a5 a6 :=
 ⟨cell_block h,cell_block h,cell_block h,cell_block h,cell_block h,cell_block h,cell_block h,fun i=>free_block h⟩
theorem Cells7.all {w:World} {b:Nat} {a0 a1 a2 a3 a4 a5 a6:Value} (h:Cells7 w b a0 a1 a2 a3 a4 a5 a6):w.cell? ⟨b,0,none⟩=some a0∧w.cell? ⟨b,1,none⟩=some a1∧w.cell? ⟨b,2,none⟩=some a2∧w.cell? ⟨b,3,none⟩=some a3∧w.cell? ⟨b,4,none⟩=some a4∧w.cell? ⟨b,5,none⟩=some a5∧w.cell? ⟨b,6,none⟩=some a6 ∧
  w.frozen? ⟨b,0,none⟩=false∧w.frozen? ⟨b,1,none⟩=false∧w.frozen? ⟨b,2,none⟩=false∧w.frozen? ⟨b,3,none⟩=false∧w.frozen? ⟨b,4,none⟩=false∧w.frozen? ⟨b,5,none⟩=false∧w.frozen? ⟨b,6,none⟩=false :=
 ⟨h.c0,h.c1,h.c2,h.c3,h.c4,h.c5,h.c6,h.free 0,h.free 1,h.free 2,h.free 3,h.free 4,h.free 5,h.free 6⟩
theorem below_mod {w w':World} (h:Below w.heap.size w w') {S:Nat→Prop}:Mod S w w':=⟨h.os,h.tape,h.output,h.size,fun j hj _=>h.block j hj⟩
def set7 (w:World) (b:Nat) (a0 a1 a2 a3 a4 a5 a6:Value):World:=((((((w.setCell ⟨b,0,none⟩ a0).setCell ⟨b,1,none⟩ a1).setCell ⟨b,2,none⟩ a2).setCell ⟨b,3,none⟩ a3).setCell ⟨b,4,none⟩ a4).setCell ⟨b,5,none⟩ a5).setCell ⟨b,6,none⟩ a6
theorem set7_block {w:World} {b:Nat} {a0 a1 a2 a3 a4 a5 a6:Value} (v0 v1 v2 v3 v4 v5 v6:Value) {T:TypeId} (h:w.heap[b]?=some (.cells #[a0,a1,a2,a3,a4,a5,a6] T (0,0))) :
  (set7 w b v0 v1 v2 v3 v4 v5 v6).heap[b]?=some (.cells #[v0,v1,v2,v3,v4,v5,v6] T (0,0)):=by
 have k:=heap_setCell_same w b 0 _ _ v0 h
 simp only [List.setIfInBounds_toArray,List.set_cons_zero,List.set_cons_succ] at k
 replace k:=heap_setCell_same _ b 1 _ _ v1 k
 simp only [List.setIfInBounds_toArray,List.set_cons_zero,List.set_cons_succ] at k
 replace k:=heap_setCell_same _ b 2 _ _ v2 k
 simp only [List.setIfInBounds_toArray,List.set_cons_zero,List.set_cons_succ] at k
 replace k:=heap_setCell_same _ b 3 _ _ v3 k
 simp only [List.setIfInBounds_toArray,List.set_cons_zero,List.set_cons_succ] at k
 replace k:=heap_setCell_same _ b 4 _ _ v4 k
 simp only [List.setIfInBounds_toArray,List.set_cons_zero,List.set_cons_succ] at k
 replace k:=heap_setCell_same _ b 5 _ _ v5 k
 simp only [List.setIfInBounds_toArray,List.set_cons_zero,List.set_cons_succ] at k
 replace k:=heap_setCell_same _ b 6 _ _ v6 k
 simp only [List.setIfInBounds_toArray,List.set_cons_zero,List.set_cons_succ] at k
 exact k
theorem set7_other (w:World) (b:Nat) (v0 v1 v2 v3 v4 v5 v6:Value) {j:Nat} (hj:j≠b):(set7 w b v0 v1 v2 v3 v4 v5 v6).heap[j]?=w.heap[j]?:=by
 unfold set7
 rw [Below.heap_setCell _ ⟨b,6,none⟩ _ j hj,Below.heap_setCell _ ⟨b,5,none⟩ _ j hj,Below.heap_setCell _ ⟨b,4,none⟩ _ j hj,Below.heap_setCell _ ⟨b,3,none⟩ _ j hj,Below.heap_setCell _ ⟨b,2,none⟩ _ j hj,Below.heap_setCell _ ⟨b,1,none⟩ _ j hj,Below.heap_setCell _ ⟨b,0,none⟩ _ j hj]
theorem Mod.past {S:Nat→Prop} {w0 w:World} (h:Mod S w0 w) {b:Nat} (hb:w0.heap.size≤b) (i:Nat) (v:Value):Mod S w0 (w.setCell ⟨b,i,none⟩ v) :=
 ⟨h.os,h.tape,h.output,by rw [World.size_setCell]; exact h.size,fun j hj hn=>(Below.heap_setCell w ⟨b,i,none⟩ v j (by show j≠b; omega)).trans (h.block j hj hn)⟩
theorem set7_mod {S:Nat→Prop} (w:World) (b:Nat) (v0 v1 v2 v3 v4 v5 v6:Value) {w0:World} (h:Mod S w0 w) (hb:w0.heap.size≤b):Mod S w0 (set7 w b v0 v1 v2 v3 v4 v5 v6):=by
 unfold set7
 exact ((((((h.past hb _ _).past hb _ _).past hb _ _).past hb _ _).past hb _ _).past hb _ _).past hb _ _
theorem part_out {mb b:Nat} {M:PM} {w w1:World} (p:Part) {a0 a1 a2 a3 a4 a5 a6:Value} (h0:w1.heap[b]?=some (.cells #[a0,a1,a2,a3,a4,a5,a6] 278 (0,0))) (hM:MachIs w1 mb M) (hm:Mod (fun j=>j=mb) w w1) (hb:w.heap.size≤b) (hmb:mb < w.heap.size) :
  ∃ W,W=set7 w1 b (.int .u64 p.first.a) (.int .u64 p.first.b) (.int .u64 p.first.c) (.int .u64 p.last.a) (.int .u64 p.last.b) (.int .u64 p.last.c) (.bool p.none)∧W.heap[b]?=some (.cells p.cells.toArray 278 (0,0))∧MachIs W mb M∧Mod (fun j=>j=mb) w W :=
 ⟨_,rfl,set7_block _ _ _ _ _ _ _ h0,⟨hM.1,(set7_other _ _ _ _ _ _ _ _ _ (by omega)).trans hM.2⟩,set7_mod _ _ _ _ _ _ _ _ _ hm hb⟩
theorem Ast.val_iface (e:Ast):∃ t v,e.val = .iface t v:=by cases e <;> exact ⟨_,_,rfl⟩
def z7:Array Value:=#[.int .u64 0,.int .u64 0,.int .u64 0,.int .u64 0,.int .u64 0,.int .u64 0,.bool false]
set_option maxRecDepth 100000 in
set_option maxHeartbeats 1000000 in
theorem part_empty:PartGives .empty:=by
 intro mb M w hM hT hn
 have hmb:=lt_of_heap hM.2
 obtain ⟨a1,a2,a3,a4,a5⟩:=asserts_empty (.agg #[])
 simp only [Asserts,zOne,zTwo,zMany,zMaybe] at a1 a2 a3 a4 a5
 have hnew:=heap_alloc_new w (.cells #[.int .u64 0,.int .u64 0,.int .u64 0,.int .u64 0,.int .u64 0,.int .u64 0,.bool true] 278)
 have hb:=(Below.refl w.heap.size w).alloc (Nat.le_refl _) (.cells #[.int .u64 0,.int .u64 0,.int .u64 0,.int .u64 0,.int .u64 0,.int .u64 0,.bool true] 278)
 have H:=Lib.hid (show _∧_∧_ from ⟨hM,hnew,hb⟩)
 clear hM hT hn hnew hb
 unfold ptrV Ast.val
 go_enter Tryz.func125,Tryz.ntmps125
 go_wp2_with fail
 refine bodyPost_ret (results_cell_row rfl _ _ w.heap.size _ _ (0,0) _ rfl H.out.2.1 Tryz.underlying278 rfl (by kernel_rfl)) rfl ?_
 exact ⟨rfl,H.out.1.below H.out.2.2,⟨H.out.2.2.os,H.out.2.2.tape,H.out.2.2.output,H.out.2.2.size,fun j hj _=>H.out.2.2.block j hj⟩⟩
set_option maxRecDepth 100000 in
set_option maxHeartbeats 1000000 in
theorem part_huge:PartGives .huge:=by
 intro mb M w hM hT hn
 have hmb:=lt_of_heap hM.2
 obtain ⟨a1,a2,a3,a4,a5⟩:=asserts_huge (.agg #[])
 simp only [Asserts,zOne,zTwo,zMany,zMaybe] at a1 a2 a3 a4 a5
 have hnew:=heap_alloc_new w (.cells #[.int .u64 0,.int .u64 0,.int .u64 0,.int .u64 0,.int .u64 0,.int .u64 0,.bool true] 278)
 have hb:=(Below.refl w.heap.size w).alloc (Nat.le_refl _) (.cells #[.int .u64 0,.int .u64 0,.int .u64 0,.int .u64 0,.int .u64 0,.int .u64 0,.bool true] 278)
 have H:=Lib.hid (show _∧_∧_ from ⟨hM,hnew,hb⟩)
 clear hM hT hn hnew hb
 unfold ptrV Ast.val
 go_enter Tryz.func125,Tryz.ntmps125
 go_wp2_with fail
 refine bodyPost_ret (results_cell_row rfl _ _ w.heap.size _ _ (0,0) _ rfl H.out.2.1 Tryz.underlying278 rfl (by kernel_rfl)) rfl ?_
 exact ⟨rfl,H.out.1.below H.out.2.2,⟨H.out.2.2.os,H.out.2.2.tape,H.out.2.2.output,H.out.2.2.size,fun j hj _=>H.out.2.2.block j hj⟩⟩
set_option maxRecDepth 100000 in
set_option maxHeartbeats 2000000 in
theorem part_maybe (e:Ast) (ih:PartGives e):PartGives (.maybe e):=by
 intro mb M w hM hT hn
 have hmb:=lt_of_heap hM.2
 obtain ⟨a1,a2,a3,a4,a5⟩:=asserts_maybe (.agg #[e.val])
 simp only [Asserts,zOne,zTwo,zMany,zMaybe] at a1 a2 a3 a4 a5
 obtain ⟨xt,xv,hx⟩:=e.val_iface
 obtain ⟨W,hW⟩:∃ W,W=(w.alloc (.cells z7 278)).alloc (.cells #[.iface xt xv] 328):=⟨_,rfl⟩
 have h0:W.heap[w.heap.size]?=some (.cells z7 278 (0,0)):=by
  rw [hW,Below.heap_alloc _ _ _ (by simp)]
  exact heap_alloc_new w _
 have h1:W.heap[w.heap.size+1]?=some (.cells #[.iface xt xv] 328 (0,0)):=by
  rw [hW]
  have:=heap_alloc_new (w.alloc (.cells z7 278)) (.cells #[.iface xt xv] 328)
  rw [World.size_alloc] at this
  exact this
 have hb:Below w.heap.size w W:=by rw [hW]; exact ((Below.refl _ w).alloc (Nat.le_refl _) _).alloc (by simp) _
 have hsz:W.heap.size=w.heap.size+2:=by rw [hW]; simp
 have hcall:=ih mb M W (hM.below hb) (hT.below hb) hn
 rw [hx] at a1 a2 a3 a4 a5 hcall
 have hc1:W.cell? ⟨w.heap.size+1,0,none⟩=some (.iface xt xv):=cell_block h1
 obtain ⟨p,hp⟩:∃ p,p=(PM.part e M).2:=⟨_,rfl⟩
 have hval:(PM.part (.maybe e) M).2.val=Part.val ⟨p.first,p.last,true⟩:=by rw [hp]; rfl
 have hmach:(PM.part (.maybe e) M).1=(PM.part e M).1:=rfl
 rw [hval,hmach]
 rw [← hp] at hcall
 generalize (PM.part e M).1=N at *
 have H:=Lib.hid (show _∧_∧_ from ⟨hcall,h0,hb⟩)
 have HW:=Lib.hid hW
 rw [show (Ast.maybe e).val = .iface 328 (.agg #[e.val]) from rfl,hx]
 unfold ptrV z7 at *
 clear hM hT hn hb hval hmach hp hcall h0 h1 ih hx hW
 go_enter Tryz.func125,Tryz.ntmps125
 go_wp2_with fail
 rw [← HW.out]
 go_wp2_with fail
 refine H.out.1.mono ?_
 rintro en w1 ⟨rfl,hm1,hmod1⟩
 have hc0:=(hmod1.block (w.heap.size) (by omega) (by omega)).trans H.out.2.1
 have hsz1:=hmod1.size
 obtain ⟨q,hq⟩:∃ q:Part,q=⟨p.first,p.last,true⟩:=⟨_,rfl⟩
 have hc2:(w1.alloc (.cells q.cells.toArray 278)).heap[w.heap.size]?=some (.cells z7 278 (0,0)):=(Below.heap_alloc w1 _ _ (by omega)).trans hc0
 have hm2:=hm1.below ((Below.refl _ w1).alloc (Nat.le_refl _) (.cells q.cells.toArray 278))
 have hmod2:Mod (fun j=>j=mb) w (w1.alloc (.cells q.cells.toArray 278)):=((below_mod H.out.2.2).trans hmod1).trans (Mod.alloc _ _ _)
 obtain ⟨W3,hW3,hfin⟩:=part_out q hc2 hm2 hmod2 (Nat.le_refl _) hmb
 have hd:=Cells7.of hc2
 rw [hq] at hd hW3
 have HF:=Lib.hid hfin
 have HW3:=Lib.hid hW3
 have HQ:=Lib.hid hq
 unfold Part.cells PSet.cells at hd
 simp only [List.cons_append,List.nil_append] at hd
 rw [Part.val_eq p]
 obtain ⟨d0,d1,d2,d3,d4,d5,d6,f0,f1,f2,f3,f4,f5,f6⟩:=hd.all
 clear hq hd hfin hW3 hc2 hm2 hmod2 hm1 hmod1 hc0
 go_wp2_with fail
 have e3:=HW3.out
 unfold set7 Part.cells PSet.cells at e3
 simp only [List.cons_append,List.nil_append] at e3
 rw [← e3]
 clear e3
 refine bodyPost_ret (results_cell_row rfl _ _ w.heap.size _ _ (0,0) _ rfl HF.out.1 Tryz.underlying278 rfl (by kernel_rfl)) rfl ?_
 rw [← HQ.out]
 exact ⟨rfl,HF.out.2⟩
end Go.Proofs.Ts
namespace Go.Proofs.Ts
open Go Go.RowKit
def Ast.isEmpty:Ast→Bool
 | .empty=>true
 | _=>false
theorem asserts_isEmpty (a:Ast):∃ T v,a.val = .iface T v∧Asserts T v 263 (.agg #[]) a.isEmpty:=by
 cases a with
 | empty=>exact ⟨_,_,rfl,fun w=>by kernel_rfl⟩
 | huge=>exact ⟨_,_,rfl,fun w=>by kernel_rfl⟩
 | one s=>exact ⟨_,_,rfl,fun w=>by kernel_rfl⟩
 | seq a b=>exact ⟨_,_,rfl,fun w=>by kernel_rfl⟩
 | or a b=>exact ⟨_,_,rfl,fun w=>by kernel_rfl⟩
 | many a sm=>exact ⟨_,_,rfl,fun w=>by kernel_rfl⟩
 | maybe a=>exact ⟨_,_,rfl,fun w=>by kernel_rfl⟩
theorem join_val (a b:Ast):(a.join b)=if a.isEmpty then b else if b.isEmpty then a else .seq a b:=by
 cases a <;> cases b <;> rfl
set_option maxRecDepth 100000 in
set_option maxHeartbeats 1000000 in
theorem join_any (a b:Ast) (w:World) :
  Calls Tryz.prog 124 #[a.val,b.val] w fun e w'=>e = .returned (a.join b).val∧Below w.heap.size w w':=by
 obtain ⟨Ta,va,ea,ha⟩:=asserts_isEmpty a
 obtain ⟨Tb,vb,eb,hb⟩:=asserts_isEmpty b
 have hj:(a.join b).val=if a.isEmpty then b.val else if b.isEmpty then a.val else .iface 331 (.agg #[a.val,b.val]):=by
  rw [join_val]
  cases a.isEmpty <;> cases b.isEmpty <;> rfl
 rw [hj,ea,eb]
 clear hj ea eb
 generalize a.isEmpty=p at *
 generalize b.isEmpty=q at *
 unfold Asserts at ha hb
 go_enter Tryz.func124,Tryz.ntmps124
 cases p
 ·cases q
  ·go_wp2_with fail
   go_ret
   exact ⟨rfl,((Below.refl _ w).alloc (Nat.le_refl _) _).alloc (by simp) _⟩
  ·go_wp2_with fail
   go_ret
   exact ⟨rfl,((Below.refl _ w).alloc (Nat.le_refl _) _).alloc (by simp) _⟩
 ·go_wp2_with fail
  go_ret
  exact ⟨rfl,(Below.refl _ w).alloc (Nat.le_refl _) _⟩
end Go.Proofs.Ts
namespace Go.Proofs.Ts
open Go Go.RowKit
def PlacesIs (iv : Value) (n : Nat) : Prop := ∃ T v f r, iv = .iface T v ∧ (∀ fu w, (method (fu + 1) T v "termsearch/pattern.places").run Tryz.prog w = .ok (f, r) w) ∧ (∀ args w, (callFunc f args).run Tryz.prog w = .ok (.enter f args) w) ∧
 ∀ w,Calls Tryz.prog f #[r] w fun e w'=>e = .returned (.int .i64 n)∧Below w.heap.size w w'
theorem empty_places:PlacesIs Ast.empty.val 0 :=
 ⟨_,_,234,.agg #[],rfl,fun fu w=>by kernel_rfl,enters_of Tryz.func234 (by kernel_rfl) rfl,fun w=>by
  go_enter Tryz.func234,Tryz.ntmps234
  go_wp2_with fail
  go_ret
  exact ⟨rfl,(Below.refl _ w).alloc (Nat.le_refl _) _⟩⟩
theorem huge_places:PlacesIs Ast.huge.val 129 :=
 ⟨_,_,245,.agg #[],rfl,fun fu w=>by kernel_rfl,enters_of Tryz.func245 (by kernel_rfl) rfl,fun w=>by
  go_enter Tryz.func245,Tryz.ntmps245
  go_wp2_with fail
  go_ret
  exact ⟨rfl,(Below.refl _ w).alloc (Nat.le_refl _) _⟩⟩
theorem one_places (s:BSet):PlacesIs (Ast.one s).val 1 :=
 ⟨_,_,235,.agg s.cells.toArray,rfl,fun fu w=>by kernel_rfl,enters_of Tryz.func235 (by kernel_rfl) rfl,fun w=>by
  unfold BSet.cells
  go_enter Tryz.func235,Tryz.ntmps235
  go_wp2_with fail
  go_ret
  exact ⟨rfl,(Below.refl _ w).alloc (Nat.le_refl _) _⟩⟩
theorem maybe_places {iv:Value} {n:Nat} (h:PlacesIs iv n):PlacesIs (.iface 328 (.agg #[iv])) n:=by
 obtain ⟨T,v,f,r,rfl,hm,hc,hcall⟩:=h
 refine ⟨_,_,246,.agg #[.iface T v],rfl,fun fu w=>by kernel_rfl,enters_of Tryz.func246 (by kernel_rfl) rfl,fun w=>?_⟩
 have HC:=Lib.hid hcall
 clear hcall
 go_enter Tryz.func246,Tryz.ntmps246
 go_wp2_with fail
 refine (HC.out _).mono ?_
 rintro e w1 ⟨rfl,hb1⟩
 go_wp2_with fail
 go_ret
 exact ⟨rfl,((Below.refl _ w).alloc (Nat.le_refl _) _).trans (hb1.mono (by simp))⟩
theorem many_places {iv:Value} {n:Nat} {sm:Bool} (h:PlacesIs iv n):PlacesIs (.iface 270 (.agg #[iv,.bool sm])) n:=by
 obtain ⟨T,v,f,r,rfl,hm,hc,hcall⟩:=h
 refine ⟨_,_,236,.agg #[.iface T v,.bool sm],rfl,fun fu w=>by kernel_rfl,enters_of Tryz.func236 (by kernel_rfl) rfl,fun w=>?_⟩
 have HC:=Lib.hid hcall
 clear hcall
 go_enter Tryz.func236,Tryz.ntmps236
 go_wp2_with fail
 refine (HC.out _).mono ?_
 rintro e w1 ⟨rfl,hb1⟩
 go_wp2_with fail
 go_ret
 exact ⟨rfl,((Below.refl _ w).alloc (Nat.le_refl _) _).trans (hb1.mono (by simp))⟩
set_option maxRecDepth 100000 in
set_option maxHeartbeats 2000000 in
theorem seq_places {iv jv:Value} {n m:Nat} (h:PlacesIs iv n) (h':PlacesIs jv m) (hn:n≤129) (hm':m≤129):PlacesIs (.iface 331 (.agg #[iv,jv])) (min (n+m) 129):=by
 obtain ⟨T,v,f,r,rfl,hm,hc,hcall⟩:=h
 obtain ⟨T2,v2,f2,r2,rfl,hm2,hc2,hcall2⟩:=h'
 refine ⟨_,_,247,.agg #[.iface T v,.iface T2 v2],rfl,fun fu w=>by kernel_rfl,enters_of Tryz.func247 (by kernel_rfl) rfl,fun w=>?_⟩
 have HC:=Lib.hid hcall
 have HC2:=Lib.hid hcall2
 clear hcall hcall2
 have hbox:Hid ((w.alloc (.cells #[.iface T v,.iface T2 v2] 331)).drew.heap[w.heap.size]?=some (.cells #[.iface T v,.iface T2 v2] 331 (0,0))∧Below w.heap.size w (w.alloc (.cells #[.iface T v,.iface T2 v2] 331)).drew) :=
  Lib.hid ⟨heap_alloc_new w _,((Below.refl _ w).alloc (Nat.le_refl _) _).drew⟩
 obtain ⟨q,hq⟩:∃ q:Nat,q=min (n+m) 129:=⟨_,rfl⟩
 have hwr:IntKind.i64.wrap ((n:Int)+(m:Int))=(n:Int)+(m:Int):=IntWalk.i64_in _ (by omega)
 have hmin:min ((n:Int)+(m:Int)) 129=(q:Int):=by omega
 rw [← hq]
 clear hq
 go_enter Tryz.func247,Tryz.ntmps247
 go_wp2_with fail
 refine wp_region_ordV [0,1,3,4] [2,5] 2 [(6,false),(7,true),(8,false)] #[true,true,false,true,true,false,false,false,false] #[true,true,true,true,true,true,false,false,false] 1000
  (fun w'=>w'.heap[w.heap.size]?=some (.cells #[.iface T v,.iface T2 v2] 331 (0,0))∧Below w.heap.size w w') (by kernel_rfl) (by kernel_rfl) hbox.out ?_
 simp only [List.map_cons,List.map_nil]
 iterate 4 (
  refine wpOrd_quiet ?_ rfl rfl (fun w' hS=>?_) ?_
  rotate_left
  ·have e0:w'.cell? ⟨w.heap.size,0,none⟩=some (.iface T v):=cell_block hS.1
   have e1:w'.cell? ⟨w.heap.size,1,none⟩=some (.iface T2 v2):=cell_block hS.1
   go_simp
   first | rfl | done
  simp only [put_lit,List.set_cons_succ,List.set_cons_zero])
 refine wpOrd_nil ?_
 rintro -
 refine invL [5,8] [undef,undef] (fun l vs w'=>∃ v1 v3,vs=[v1,v3]∧(w'.heap[w.heap.size]?=some (.cells #[.iface T v,.iface T2 v2] 331 (0,0))∧Below w.heap.size w w')∧(l.getD 2 false=true→v1 = .int .i64 n)∧(l.getD 5 false=true→v3 = .int .i64 m)) (by unfold putsL; simp only [putsL,put_lit,List.set_cons_succ,List.set_cons_zero]) ?_ ?_ ?_ ?_
 ·exact ⟨_,_,rfl,hbox.out,fun h=>absurd h (by decide),fun h=>absurd h (by decide)⟩
 ·rintro l vs w' i ⟨v1,v3,rfl,hS,h1,h3⟩ hi hr G HG
  simp only [List.mem_cons,List.not_mem_nil,or_false] at hi
  have hs:=ready_set hr
  have HX:=Lib.hid (show _∧_∧_∧_ from ⟨hS,h1,h3,hs⟩)
  clear hS h1 h3 hs hr
  rcases hi with rfl | rfl
  ·refine HG.out ?_
   simp only [putsL,put_lit,List.set_cons_succ,List.set_cons_zero]
   refine wpOp_loudK rfl rfl (fun K hK=>?_)
   go_simp
   refine (HC.out _).mono ?_
   rintro en w'' ⟨rfl,hb⟩
   refine hK.out _ _ ⟨fun _=>?_,[_,_],rfl,_,_,rfl,?_,fun _=>rfl,?_⟩
   ·exact ⟨(hb.block _ (lt_of_heap HX.out.1.1)).trans HX.out.1.1,HX.out.1.2.trans (hb.mono HX.out.1.2.size)⟩
   ·exact ⟨(hb.block _ (lt_of_heap HX.out.1.1)).trans HX.out.1.1,HX.out.1.2.trans (hb.mono HX.out.1.2.size)⟩
   ·rw [HX.out.2.2.2 5,if_neg (show ¬ (5=2) by decide)]
    exact HX.out.2.2.1
  ·refine HG.out ?_
   simp only [putsL,put_lit,List.set_cons_succ,List.set_cons_zero]
   refine wpOp_loudK rfl rfl (fun K hK=>?_)
   go_simp
   refine (HC2.out _).mono ?_
   rintro en w'' ⟨rfl,hb⟩
   refine hK.out _ _ ⟨fun _=>?_,[_,_],rfl,_,_,rfl,?_,?_,fun _=>rfl⟩
   ·exact ⟨(hb.block _ (lt_of_heap HX.out.1.1)).trans HX.out.1.1,HX.out.1.2.trans (hb.mono HX.out.1.2.size)⟩
   ·exact ⟨(hb.block _ (lt_of_heap HX.out.1.1)).trans HX.out.1.1,HX.out.1.2.trans (hb.mono HX.out.1.2.size)⟩
   ·rw [HX.out.2.2.2 2,if_neg (show ¬ (2=5) by decide)]
    exact HX.out.2.1
 ·rintro vs w' ⟨v1,v3,rfl,hS,_,_⟩
  exact hS
 ·rintro vs w' ⟨v1,v3,rfl,hS,h1,h3⟩ G HG
  obtain rfl:=h1 (by decide)
  obtain rfl:=h3 (by decide)
  have HS:=Lib.hid hS
  clear hS h1 h3
  refine HG.out ?_
  simp only [putsL,put_lit,List.set_cons_succ,List.set_cons_zero]
  refine wpOrd_quiet ?_ rfl rfl (fun w' hS=>?_) ?_
  rotate_left
  ·go_simp
   first | rfl | done
  simp only [put_lit,List.set_cons_succ,List.set_cons_zero]
  refine wpOrd_loud rfl rfl (by decide) (fun K hK=>?_)
  go_simp
  refine hK _ _ HS.out ?_
  clear hK K hwr hmin
  refine wpOrd_quiet ?_ rfl rfl (fun w' hS=>?_) ?_
  rotate_left
  ·go_simp
   first | rfl | done
  simp only [put_lit,List.set_cons_succ,List.set_cons_zero]
  refine wpOrd_nil ?_
  go_wp2_with fail
  go_ret
  exact ⟨rfl,HS.out.2⟩
set_option maxRecDepth 100000 in
set_option maxHeartbeats 2000000 in
theorem or_places {iv jv:Value} {n m:Nat} (h:PlacesIs iv n) (h':PlacesIs jv m) (hn:n≤129) (hm':m≤129):PlacesIs (.iface 325 (.agg #[iv,jv])) (min (n+m) 129):=by
 obtain ⟨T,v,f,r,rfl,hm,hc,hcall⟩:=h
 obtain ⟨T2,v2,f2,r2,rfl,hm2,hc2,hcall2⟩:=h'
 refine ⟨_,_,244,.agg #[.iface T v,.iface T2 v2],rfl,fun fu w=>by kernel_rfl,enters_of Tryz.func244 (by kernel_rfl) rfl,fun w=>?_⟩
 have HC:=Lib.hid hcall
 have HC2:=Lib.hid hcall2
 clear hcall hcall2
 have hbox:Hid ((w.alloc (.cells #[.iface T v,.iface T2 v2] 325)).drew.heap[w.heap.size]?=some (.cells #[.iface T v,.iface T2 v2] 325 (0,0))∧Below w.heap.size w (w.alloc (.cells #[.iface T v,.iface T2 v2] 325)).drew) :=
  Lib.hid ⟨heap_alloc_new w _,((Below.refl _ w).alloc (Nat.le_refl _) _).drew⟩
 obtain ⟨q,hq⟩:∃ q:Nat,q=min (n+m) 129:=⟨_,rfl⟩
 have hwr:IntKind.i64.wrap ((n:Int)+(m:Int))=(n:Int)+(m:Int):=IntWalk.i64_in _ (by omega)
 have hmin:min ((n:Int)+(m:Int)) 129=(q:Int):=by omega
 rw [← hq]
 clear hq
 go_enter Tryz.func244,Tryz.ntmps244
 go_wp2_with fail
 refine wp_region_ordV [0,1,3,4] [2,5] 2 [(6,false),(7,true),(8,false)] #[true,true,false,true,true,false,false,false,false] #[true,true,true,true,true,true,false,false,false] 1000
  (fun w'=>w'.heap[w.heap.size]?=some (.cells #[.iface T v,.iface T2 v2] 325 (0,0))∧Below w.heap.size w w') (by kernel_rfl) (by kernel_rfl) hbox.out ?_
 simp only [List.map_cons,List.map_nil]
 iterate 4 (
  refine wpOrd_quiet ?_ rfl rfl (fun w' hS=>?_) ?_
  rotate_left
  ·have e0:w'.cell? ⟨w.heap.size,0,none⟩=some (.iface T v):=cell_block hS.1
   have e1:w'.cell? ⟨w.heap.size,1,none⟩=some (.iface T2 v2):=cell_block hS.1
   go_simp
   first | rfl | done
  simp only [put_lit,List.set_cons_succ,List.set_cons_zero])
 refine wpOrd_nil ?_
 rintro -
 refine invL [5,8] [undef,undef] (fun l vs w'=>∃ v1 v3,vs=[v1,v3]∧(w'.heap[w.heap.size]?=some (.cells #[.iface T v,.iface T2 v2] 325 (0,0))∧Below w.heap.size w w')∧(l.getD 2 false=true→v1 = .int .i64 n)∧(l.getD 5 false=true→v3 = .int .i64 m)) (by unfold putsL; simp only [putsL,put_lit,List.set_cons_succ,List.set_cons_zero]) ?_ ?_ ?_ ?_
 ·exact ⟨_,_,rfl,hbox.out,fun h=>absurd h (by decide),fun h=>absurd h (by decide)⟩
 ·rintro l vs w' i ⟨v1,v3,rfl,hS,h1,h3⟩ hi hr G HG
  simp only [List.mem_cons,List.not_mem_nil,or_false] at hi
  have hs:=ready_set hr
  have HX:=Lib.hid (show _∧_∧_∧_ from ⟨hS,h1,h3,hs⟩)
  clear hS h1 h3 hs hr
  rcases hi with rfl | rfl
  ·refine HG.out ?_
   simp only [putsL,put_lit,List.set_cons_succ,List.set_cons_zero]
   refine wpOp_loudK rfl rfl (fun K hK=>?_)
   go_simp
   refine (HC.out _).mono ?_
   rintro en w'' ⟨rfl,hb⟩
   refine hK.out _ _ ⟨fun _=>?_,[_,_],rfl,_,_,rfl,?_,fun _=>rfl,?_⟩
   ·exact ⟨(hb.block _ (lt_of_heap HX.out.1.1)).trans HX.out.1.1,HX.out.1.2.trans (hb.mono HX.out.1.2.size)⟩
   ·exact ⟨(hb.block _ (lt_of_heap HX.out.1.1)).trans HX.out.1.1,HX.out.1.2.trans (hb.mono HX.out.1.2.size)⟩
   ·rw [HX.out.2.2.2 5,if_neg (show ¬ (5=2) by decide)]
    exact HX.out.2.2.1
  ·refine HG.out ?_
   simp only [putsL,put_lit,List.set_cons_succ,List.set_cons_zero]
   refine wpOp_loudK rfl rfl (fun K hK=>?_)
   go_simp
   refine (HC2.out _).mono ?_
   rintro en w'' ⟨rfl,hb⟩
   refine hK.out _ _ ⟨fun _=>?_,[_,_],rfl,_,_,rfl,?_,?_,fun _=>rfl⟩
   ·exact ⟨(hb.block _ (lt_of_heap HX.out.1.1)).trans HX.out.1.1,HX.out.1.2.trans (hb.mono HX.out.1.2.size)⟩
   ·exact ⟨(hb.block _ (lt_of_heap HX.out.1.1)).trans HX.out.1.1,HX.out.1.2.trans (hb.mono HX.out.1.2.size)⟩
   ·rw [HX.out.2.2.2 2,if_neg (show ¬ (2=5) by decide)]
    exact HX.out.2.1
 ·rintro vs w' ⟨v1,v3,rfl,hS,_,_⟩
  exact hS
 ·rintro vs w' ⟨v1,v3,rfl,hS,h1,h3⟩ G HG
  obtain rfl:=h1 (by decide)
  obtain rfl:=h3 (by decide)
  have HS:=Lib.hid hS
  clear hS h1 h3
  refine HG.out ?_
  simp only [putsL,put_lit,List.set_cons_succ,List.set_cons_zero]
  refine wpOrd_quiet ?_ rfl rfl (fun w' hS=>?_) ?_
  rotate_left
  ·go_simp
   first | rfl | done
  simp only [put_lit,List.set_cons_succ,List.set_cons_zero]
  refine wpOrd_loud rfl rfl (by decide) (fun K hK=>?_)
  go_simp
  refine hK _ _ HS.out ?_
  clear hK K hwr hmin
  refine wpOrd_quiet ?_ rfl rfl (fun w' hS=>?_) ?_
  rotate_left
  ·go_simp
   first | rfl | done
  simp only [put_lit,List.set_cons_succ,List.set_cons_zero]
  refine wpOrd_nil ?_
  go_wp2_with fail
  go_ret
  exact ⟨rfl,HS.out.2⟩
theorem places_le (a:Ast):a.places≤129:=by
 induction a with
 | empty=>decide
 | huge=>decide
 | one s=>show 1≤129; decide
 | seq a b _ _=>show min _ 129≤129; omega
 | or a b _ _=>show min _ 129≤129; omega
 | many a sm ih=>exact ih
 | maybe a ih=>exact ih
theorem places_any (a:Ast):PlacesIs a.val a.places:=by
 induction a with
 | empty=>exact empty_places
 | huge=>exact huge_places
 | one s=>exact one_places s
 | seq a b iha ihb=>exact seq_places iha ihb (places_le a) (places_le b)
 | or a b iha ihb=>exact or_places iha ihb (places_le a) (places_le b)
 | many a sm ih=>exact many_places ih
 | maybe a ih=>exact maybe_places ih
end Go.Proofs.Ts
namespace Go.Proofs.Ts
open Go Go.RowKit
def TimesIs (tv:Value) (T:Times):Prop:=∃ f,tv = .func (.func f) #[] #[]∧(∀ args w,(callFunc f args).run Tryz.prog w = .ok (.enter f args) w) ∧
 ∀ (a:Ast) (lo hi:Nat) (en:Bool) (w:World),lo≤hi→hi≤9→Calls Tryz.prog f #[a.val,.int .i64 lo,.int .i64 hi,.bool en] w fun e w'=>e = .returned (T a lo hi en).val∧Below w.heap.size w w'
theorem once_times:TimesIs (.func (.func 119) #[] #[]) onceT :=
 ⟨_,rfl,enters_of Tryz.func119 (by kernel_rfl) rfl,fun a lo hi en w _ _=>by
  show Calls Tryz.prog 119 #[a.val,.int .i64 lo,.int .i64 hi,.bool en] w fun e w'=>e = .returned a.val∧Below w.heap.size w w'
  generalize a.val=v
  go_enter Tryz.func119,Tryz.ntmps119
  go_wp2_with fail
  go_ret
  exact ⟨rfl,Below.refl _ _⟩⟩
set_option maxRecDepth 100000 in
set_option maxHeartbeats 4000000 in
theorem repeat_any (a:Ast) (lo hi:Nat) (en:Bool) (w:World) (hlh:lo≤hi) (h9:hi≤9) :
  Calls Tryz.prog 121 #[a.val,.int .i64 lo,.int .i64 hi,.bool en] w fun e w'=>e = .returned (repeatT a lo hi en).val∧Below w.heap.size w w':=by
 obtain ⟨T,v,f,r,hv,hm,hc,hcall⟩:=places_any a
 obtain ⟨R,hR⟩:∃ R,R=repeatT a lo hi en:=⟨_,rfl⟩
 rw [← hR,hv]
 unfold repeatT at hR
 have HR:=Lib.hid hR
 have HV:=Lib.hid hv
 have hq:=places_le a
 obtain ⟨q,hqe⟩:∃ q,q=a.places:=⟨_,rfl⟩
 rw [← hqe] at hq hcall
 have HC:=Lib.hid hcall
 have HQ:=Lib.hid hqe
 obtain ⟨N,hN⟩:∃ N,N=if en then lo+1 else hi:=⟨_,rfl⟩
 have HN:=Lib.hid hN
 have hN10:N≤10:=by rw [hN]; split <;> omega
 obtain ⟨qn,hqn⟩:∃ qn,qn=q * N:=⟨_,rfl⟩
 have hqb:qn≤1290:=by rw [hqn]; exact Nat.mul_le_mul hq hN10
 have hmul:(q:Int) * (N:Int)=(qn:Int):=by rw [hqn]; simp
 have HQN:=Lib.hid hqn
 clear hR hv hcall hqe hN hqn
 have hbg:Hid (128 < qn→R = .huge):=Lib.hid fun h=>by
  rw [HR.out,if_pos]
  rw [← HQ.out,← HN.out,← HQN.out]
  exact h
 have hsm:Hid (¬ 128 < qn→R=if en then (Ast.joinN .empty a lo).join (.many a false) else (Ast.joinN .empty a lo).joinN (.maybe a) (hi - lo)):=Lib.hid fun h=>by
  rw [HR.out,if_neg]
  rw [← HQ.out,← HN.out,← HQN.out]
  exact h
 cases en
 ·obtain rfl:N=hi:=HN.out
  clear HR
  go_enter Tryz.func121,Tryz.ntmps121
  go_wp2_with fail
  refine (HC.out _).mono ?_
  rintro e w1 ⟨rfl,hb1⟩
  have HB:=Lib.hid hb1
  clear hb1
  by_cases hbig:128 < qn
  ·have hbz:(128:Int) < (qn:Int):=by omega
   have hRr:=hbg.out hbig
   subst hRr
   clear hbig
   go_wp2_with fail
   go_ret
   exact ⟨rfl,HB.out⟩
  ·have hbz:¬ (128:Int) < (qn:Int):=by omega
   have hbz2:decide ((128:Int) < (qn:Int))=false:=by simp; omega
   have HRS:=Lib.hid (hsm.out hbig)
   clear hbig hbz
   go_wp2_with fail
   go_loopw [10,25] (fun xv kv wr=>∃ (k:Nat),k≤lo∧kv = .int .i64 k∧xv=(Ast.joinN .empty a k).val∧Below w.heap.size w wr) (fun _ kv _=>lo - (intOf kv).toNat)
   case atStart=>exact ⟨0,Nat.zero_le _,rfl,rfl,HB.out⟩
   case round =>
    clear HB
    obtain ⟨k,hk,rfl,rfl,hbr⟩:=hrel
    by_cases hkl:k < lo
    ·have hkz:(k:Int) < (lo:Int):=by omega
     have HBR:=Lib.hid hbr
     clear hbr
     go_wp2_with fail
     have hcall:=join_any (Ast.joinN .empty a k) a wr
     rw [HV.out] at hcall
     refine hcall.mono ?_
     clear hcall
     rintro e w1 ⟨rfl,hb1⟩
     have HB1:=Lib.hid (HBR.out.trans (hb1.mono HBR.out.size))
     clear hb1
     go_wp2_with fail
     exact ⟨⟨k+1,by omega,by go_num,rfl,HB1.out⟩,by simp [intOf]; omega⟩
    ·obtain rfl:lo=k:=by omega
     have HBR:=Lib.hid hbr
     clear hbr hkl hk
     have HRS:=Lib.hid HRS.out
     go_wp2_with fail
     go_loopw [10,40] (fun xv kv wr=>∃ (k:Nat),k≤N - lo∧kv = .int .i64 k∧xv=((Ast.joinN .empty a lo).joinN (.maybe a) k).val∧Below w.heap.size w wr) (fun _ kv _=>N - lo - (intOf kv).toNat)
     case atStart=>exact ⟨0,Nat.zero_le _,rfl,rfl,HBR.out⟩
     case round =>
      clear HBR
      obtain ⟨k,hk,rfl,rfl,hbr⟩:=hrel
      by_cases hkl:k < N - lo
      ·have hkz:(k:Int) < (N:Int) - (lo:Int):=by omega
       have HBR:=Lib.hid hbr
       clear hbr
       go_wp2_with fail
       have hcall:=join_any ((Ast.joinN .empty a lo).joinN (.maybe a) k) (.maybe a) wr
       rw [show (Ast.maybe a).val = .iface 328 (.agg #[a.val]) from rfl,HV.out] at hcall
       refine hcall.mono ?_
       clear hcall
       rintro e w1 ⟨rfl,hb1⟩
       have HB1:=Lib.hid (HBR.out.trans (hb1.mono HBR.out.size))
       clear hb1
       go_wp2_with fail
       exact ⟨⟨k+1,by omega,by go_num,rfl,HB1.out⟩,by simp [intOf]; omega⟩
      ·have hkn:k=N - lo:=by omega
       have hkz:decide ((k:Int) < (N:Int) - (lo:Int))=false:=by simp; omega
       have HKN:=Lib.hid hkn
       have HBR:=Lib.hid hbr
       clear hbr hkl hk hkn
       go_wp2_with fail
       go_ret
       refine ⟨?_,HBR.out⟩
       rw [HRS.out,HKN.out]
       rfl
 ·obtain rfl:N=lo+1:=HN.out
  clear HR
  go_enter Tryz.func121,Tryz.ntmps121
  rw [show (((lo+1:Nat)):Int)=(lo:Int)+1 by omega] at hmul
  go_wp2_with fail
  refine (HC.out _).mono ?_
  rintro e w1 ⟨rfl,hb1⟩
  have HB:=Lib.hid hb1
  clear hb1
  by_cases hbig:128 < qn
  ·have hbz:(128:Int) < (qn:Int):=by omega
   have hRr:=hbg.out hbig
   subst hRr
   clear hbig
   go_wp2_with fail
   go_ret
   exact ⟨rfl,HB.out⟩
  ·have hbz:¬ (128:Int) < (qn:Int):=by omega
   have hbz2:decide ((128:Int) < (qn:Int))=false:=by simp; omega
   have HRS:=Lib.hid (hsm.out hbig)
   clear hbig hbz
   go_wp2_with fail
   go_loopw [10,25] (fun xv kv wr=>∃ (k:Nat),k≤lo∧kv = .int .i64 k∧xv=(Ast.joinN .empty a k).val∧Below w.heap.size w wr) (fun _ kv _=>lo - (intOf kv).toNat)
   case atStart=>exact ⟨0,Nat.zero_le _,rfl,rfl,HB.out⟩
   case round =>
    clear HB
    obtain ⟨k,hk,rfl,rfl,hbr⟩:=hrel
    by_cases hkl:k < lo
    ·have hkz:(k:Int) < (lo:Int):=by omega
     have HBR:=Lib.hid hbr
     clear hbr
     go_wp2_with fail
     have hcall:=join_any (Ast.joinN .empty a k) a wr
     rw [HV.out] at hcall
     refine hcall.mono ?_
     clear hcall
     rintro e w1 ⟨rfl,hb1⟩
     have HB1:=Lib.hid (HBR.out.trans (hb1.mono HBR.out.size))
     clear hb1
     go_wp2_with fail
     exact ⟨⟨k+1,by omega,by go_num,rfl,HB1.out⟩,by simp [intOf]; omega⟩
    ·obtain rfl:lo=k:=by omega
     have HBR:=Lib.hid hbr
     clear hbr hkl hk
     go_wp2_with fail
     have hcall:=join_any (Ast.joinN .empty a lo) (.many a false) wr
     rw [show (Ast.many a false).val = .iface 270 (.agg #[a.val,.bool false]) from rfl,HV.out] at hcall
     refine hcall.mono ?_
     clear hcall
     rintro e w1 ⟨rfl,hb1⟩
     have HB1:=Lib.hid (HBR.out.trans (hb1.mono HBR.out.size))
     clear hb1
     go_wp2_with fail
     go_ret
     refine ⟨?_,HB1.out⟩
     rw [HRS.out]
     rfl
theorem repeat_times:TimesIs (.func (.func 121) #[] #[]) repeatT :=
 ⟨_,rfl,enters_of Tryz.func121 (by kernel_rfl) rfl,fun a lo hi en w h1 h2=>repeat_any a lo hi en w h1 h2⟩
end Go.Proofs.Ts
namespace Go.Proofs.Ts
open Go Go.RowKit
def Reads {α:Type} (val:α→Value) (rb:Nat) (s:ByteArray) (w:World) (r:PR α) (e:Ending) (w':World):Prop :=
 match r with
 | .fault i=>e = .panicked (faultP i)∧Mod (fun j=>j=rb) w w'
 | .ok x i=>e = .returned (val x)∧RdIs w' rb s i∧Mod (fun j=>j=rb) w w'
set_option maxRecDepth 100000 in
set_option maxHeartbeats 1000000 in
theorem single_any (rb:Nat) (s:ByteArray) (i:Nat) (w:World) (hR:RdIs w rb s i) :
  Calls Tryz.prog 188 #[ptrV rb] w (Reads (fun c:UInt8 => .int .u8 c.toNat) rb s w (singleP s i)):=by
 have hcall:=eat_any rb s i 92 w hR
 have hel:=eat_le s i 92 hR.2.1
 obtain ⟨R,hRd⟩:∃ R,R=singleP s i:=⟨_,rfl⟩
 rw [← hRd]
 unfold singleP at hRd
 generalize hbr:isB s i 92=br at hcall
 generalize eatB s i 92=q at *
 have hs:=hR.2.2
 have HC:=Lib.hid hcall
 have HE:=Lib.hid hel
 clear hcall hR hbr hel
 have HRd:=Lib.hid hRd
 clear hRd
 unfold ptrV
 go_enter Tryz.func188,Tryz.ntmps188
 go_wp2_with (have hcall:=HC.out; unfold ptrV at hcall; refine hcall.mono ?_; clear hcall; rintro e w1 ⟨rfl,hr1,hm1⟩; have H1:=Lib.hid (And.intro hr1 hm1); clear hr1 hm1)
 obtain ⟨ok,hok⟩:∃ ok,ok=decide (q < s.size):=⟨_,rfl⟩
 have HOK:=Lib.hid hok
 clear hok
 refine wp_region_ordP [(0,false),(1,false),(2,false),(3,false),(4,false),(5,false),(6,false),(7,false),(8,false),(9,false),(10,false),(11,true)]
  (fun w'=>RdIs w' rb s q∧Mod (fun j=>j=rb) w w') (fun c w'=>Reads (fun c:UInt8 => .int .u8 c.toNat) rb s w R (.panicked c) w') (fun c a w' hd h=>⟨hd,h⟩) (by kernel_rfl) (by kernel_rfl) ?_ ?_
 ·exact ⟨H1.out.1.same (Same.drew _),H1.out.2.trans (Mod.same (Same.drew _))⟩
 iterate 11 (
  refine wpOrdP_quiet ?_ rfl rfl (fun w' hS=>?_) ?_
  rotate_left
  ·have e0:=hS.1.c0
   have e1:=hS.1.c1
   go_simp
   first | rfl | done
  simp only [put_lit,List.set_cons_succ,List.set_cons_zero])
 refine wpOrdP_loud rfl rfl (by decide) (fun K hK=>?_)
 have HK:=Lib.hid hK
 clear hK
 go_simp
 rw [← HOK.out]
 have hcall:=must_any rb s q ok _ (H1.out.1.same (Same.drew w1))
 unfold ptrV at hcall
 refine hcall.mono ?_
 clear hcall
 rintro e w2 ⟨rfl,hs2⟩
 have hS2:RdIs w2 rb s q∧Mod (fun j=>j=rb) w w2:=⟨(H1.out.1.same (Same.drew _)).same hs2,(H1.out.2.trans (Mod.same (Same.drew _))).trans (Mod.same hs2)⟩
 cases ok
 ·refine ⟨rfl,?_⟩
  have hRr:R = .fault q:=by rw [HRd.out,at_end s q (by simpa using HOK.out)]
  rw [hRr]
  exact ⟨rfl,hS2.2⟩
 ·refine HK.out _ _ hS2 ?_
  have hlt:q < s.size:=by simpa using HOK.out
  have HS2:=Lib.hid hS2
  have c0:=hS2.1.c0
  have c1:=hS2.1.c1
  have hf:=hS2.1.free 1
  have hrb:=hS2.1.lt
  have hRr:R = .ok s[q] (q+1):=by rw [HRd.out,at_str s q hlt]
  clear HK K hS2 H1
  refine wpOrdP_nil ?_
  subst hRr
  go_wp2_with fail
  have hset:=HS2.out.1.set (j:=q+1) (by omega)
  have e1:((q+1:Nat):Int)=(q:Int)+1:=by omega
  rw [e1] at hset
  have hm3:Mod (fun j=>j=rb) w (w2.setCell ⟨rb,1,none⟩ (.int .i64 ((q:Int)+1))):=HS2.out.2.trans (Mod.setCell _ _ _ fun _=>rfl)
  have HS3:=Lib.hid (And.intro hset hm3)
  generalize w2.setCell ⟨rb,1,none⟩ (.int .i64 ((q:Int)+1))=w3 at *
  clear c0 c1 hf hset hm3 e1
  have c0:=HS3.out.1.c0
  have c1:=HS3.out.1.c1
  go_quiet (fail)
  go_wp2_with fail
  go_ret
  exact ⟨rfl,HS3.out.1.same (Same.drewN _ _),HS3.out.2.trans (Mod.same (Same.drewN _ _))⟩
end Go.Proofs.Ts
namespace Go.Proofs.Ts
open Go Go.RowKit
set_option maxRecDepth 100000 in
set_option maxHeartbeats 2000000 in
theorem digit_any (rb:Nat) (s:ByteArray) (i least:Nat) (w:World) (hR:RdIs w rb s i) (hl9:least≤9) :
  Calls Tryz.prog 186 #[ptrV rb,.int .i64 least] w (Reads (fun n:Nat => .int .i64 n) rb s w (digitP s i least)):=by
 obtain ⟨R,hRd⟩:∃ R,R=digitP s i least:=⟨_,rfl⟩
 rw [← hRd]
 unfold digitP at hRd
 have hs:=hR.2.2
 have hi:=hR.2.1
 have HR:=Lib.hid hR
 have d6:IntKind.u8.wrap (least:Int)=(least:Int):=IntWalk.u8_in _ (by omega)
 have d7:IntKind.u8.wrap (48+(least:Int))=48+(least:Int):=IntWalk.u8_in _ (by omega)
 clear hR
 by_cases hlt:i < s.size
 ·rw [at_str s i hlt] at hRd
  dsimp only at hRd
  have hcl:=(s[i]).toNat_lt
  by_cases h1:48+least≤(s[i]).toNat
  ·obtain ⟨ok,hok⟩:∃ ok,ok=decide (((s[i]).toNat:Int)≤57):=⟨_,rfl⟩
   have HRd:Hid (R=if ok then PR.ok ((s[i]).toNat - 48) (i+1) else PR.fault i):=Lib.hid (by
    rw [hRd,hok]
    by_cases h57:(s[i]).toNat≤57
    ·rw [if_pos ⟨h1,h57⟩,decide_eq_true (by omega)]; rfl
    ·rw [if_neg (fun e=>h57 e.2),decide_eq_false (by omega)]; rfl)
   have HOK:=Lib.hid hok
   have h1z:(48:Int)+(least:Int)≤((s[i]).toNat:Int):=by omega
   clear hok hRd
   unfold ptrV
   go_enter Tryz.func186,Tryz.ntmps186
   go_wp2_with fail
   refine wp_region_ordP [(0,false),(1,false),(2,false),(3,false),(4,false),(5,false),(6,false),(7,false),(8,false),(9,false),(10,false),(11,false),(12,false),(13,false),(14,false),(15,false),(16,false),(17,false),(18,false),(19,false),(20,false),(21,false),(22,false),(23,false),(24,false),(25,false),(26,false),(27,false),(28,false),(29,false),(30,false),(31,false),(32,false),(33,false),(34,false),(35,false),(36,false),(37,false),(38,true)]
    (fun w'=>RdIs w' rb s i∧Mod (fun j=>j=rb) w w') (fun c w'=>Reads (fun n:Nat => .int .i64 n) rb s w R (.panicked c) w') (fun c a w' hd h=>⟨hd,h⟩) (by kernel_rfl) (by kernel_rfl) ?_ ?_
   ·exact ⟨HR.out.same (Same.drew _),Mod.same (Same.drew _)⟩
   iterate 38 (
    refine wpOrdP_quiet ?_ rfl rfl (fun w' hS=>?_) ?_
    rotate_left
    ·have e0:=hS.1.c0
     have e1:=hS.1.c1
     go_simp
     first | rfl | done
    simp only [put_lit,List.set_cons_succ,List.set_cons_zero])
   refine wpOrdP_loud rfl rfl (by decide) (fun K hK=>?_)
   have HK:=Lib.hid hK
   clear hK
   go_simp
   rw [← HOK.out]
   have hcall:=must_any rb s i ok _ (HR.out.same (Same.drew w))
   unfold ptrV at hcall
   refine hcall.mono ?_
   clear hcall
   rintro e w2 ⟨rfl,hs2⟩
   cases ok
   ·refine ⟨rfl,?_⟩
    rw [HRd.out]
    exact ⟨rfl,(Mod.same (Same.drew _)).trans (Mod.same hs2)⟩
   ·have hS2:RdIs w2 rb s i∧Mod (fun j=>j=rb) w w2:=⟨(HR.out.same (Same.drew _)).same hs2,(Mod.same (Same.drew _)).trans (Mod.same hs2)⟩
    refine HK.out _ _ hS2 ?_
    have HS2:=Lib.hid hS2
    have c0:=hS2.1.c0
    have c1:=hS2.1.c1
    have hf:=hS2.1.free 1
    have hrb:=hS2.1.lt
    have hRr:R = .ok ((s[i]).toNat - 48) (i+1):=HRd.out
    have h57:((s[i]).toNat:Int)≤57:=by
     have:=HOK.out
     simpa using this.symm
    have d8:IntKind.u8.wrap (((s[i]).toNat:Int) - 48)=((s[i]).toNat:Int) - 48:=IntWalk.u8_in _ (by omega)
    have d9:((((s[i]).toNat - 48:Nat)):Int)=((s[i]).toNat:Int) - 48:=by omega
    clear HK K hS2
    refine wpOrdP_nil ?_
    subst hRr
    go_wp2_with fail
    have hset:=HS2.out.1.set (j:=i+1) (by omega)
    have e1:((i+1:Nat):Int)=(i:Int)+1:=by omega
    rw [e1] at hset
    have hm3:Mod (fun j=>j=rb) w (w2.setCell ⟨rb,1,none⟩ (.int .i64 ((i:Int)+1))):=HS2.out.2.trans (Mod.setCell _ _ _ fun _=>rfl)
    have HS3:=Lib.hid (And.intro hset hm3)
    have HD9:=Lib.hid d9
    generalize w2.setCell ⟨rb,1,none⟩ (.int .i64 ((i:Int)+1))=w3 at *
    clear c0 c1 hf hset hm3 e1 d9
    have c0:=HS3.out.1.c0
    have c1:=HS3.out.1.c1
    go_quiet (fail)
    go_wp2_with fail
    go_ret
    exact ⟨ret_int HD9.out.symm,HS3.out.1.same (Same.drewN _ _),HS3.out.2.trans (Mod.same (Same.drewN _ _))⟩
  ·have HRd:Hid (R=PR.fault i):=Lib.hid (by rw [hRd,if_neg (fun e=>h1 e.1)])
   have h1z:decide ((48:Int)+(least:Int)≤((s[i]).toNat:Int))=false:=by simp; omega
   clear hRd
   unfold ptrV
   go_enter Tryz.func186,Tryz.ntmps186
   go_wp2_with fail
   refine wp_region_ordP [(0,false),(1,false),(2,false),(3,false),(4,false),(5,false),(6,false),(7,false),(8,false),(9,false),(10,false),(11,false),(12,false),(13,false),(14,false),(15,false),(16,false),(17,false),(18,false),(19,false),(20,false),(21,false),(22,false),(23,false),(24,false),(25,false),(26,false),(27,false),(28,false),(29,false),(30,false),(31,false),(32,false),(33,false),(34,false),(35,false),(36,false),(37,false),(38,true)]
    (fun w'=>RdIs w' rb s i∧Mod (fun j=>j=rb) w w') (fun c w'=>Reads (fun n:Nat => .int .i64 n) rb s w R (.panicked c) w') (fun c a w' hd h=>⟨hd,h⟩) (by kernel_rfl) (by kernel_rfl) ?_ ?_
   ·exact ⟨HR.out.same (Same.drew _),Mod.same (Same.drew _)⟩
   iterate 27 (
    refine wpOrdP_quiet ?_ rfl rfl (fun w' hS=>?_) ?_
    rotate_left
    ·have e0:=hS.1.c0
     have e1:=hS.1.c1
     go_simp
     first | rfl | done
    simp only [put_lit,List.set_cons_succ,List.set_cons_zero])
   iterate 10 (
    refine wpOrdP_skip rfl rfl ?_
    simp only [put_lit,List.set_cons_succ,List.set_cons_zero])
   iterate 1 (
    refine wpOrdP_quiet ?_ rfl rfl (fun w' hS=>?_) ?_
    rotate_left
    ·have e0:=hS.1.c0
     have e1:=hS.1.c1
     go_simp
     first | rfl | done
    simp only [put_lit,List.set_cons_succ,List.set_cons_zero])
   refine wpOrdP_loud rfl rfl (by decide) (fun K hK=>?_)
   have HK:=Lib.hid hK
   clear hK
   go_simp
   have hcall:=must_any rb s i false _ (HR.out.same (Same.drew w))
   unfold ptrV at hcall
   refine hcall.mono ?_
   clear hcall
   rintro e w2 ⟨rfl,hs2⟩
   refine ⟨rfl,?_⟩
   rw [HRd.out]
   exact ⟨rfl,(Mod.same (Same.drew _)).trans (Mod.same hs2)⟩
 ·rw [at_end s i (by omega)] at hRd
  dsimp only at hRd
  have HRd:=Lib.hid hRd
  have q2:decide (i < s.size)=false:=by simp; omega
  clear hRd hlt
  unfold ptrV
  go_enter Tryz.func186,Tryz.ntmps186
  go_wp2_with fail
  refine wp_region_ordP [(0,false),(1,false),(2,false),(3,false),(4,false),(5,false),(6,false),(7,false),(8,false),(9,false),(10,false),(11,false),(12,false),(13,false),(14,false),(15,false),(16,false),(17,false),(18,false),(19,false),(20,false),(21,false),(22,false),(23,false),(24,false),(25,false),(26,false),(27,false),(28,false),(29,false),(30,false),(31,false),(32,false),(33,false),(34,false),(35,false),(36,false),(37,false),(38,true)]
   (fun w'=>RdIs w' rb s i∧Mod (fun j=>j=rb) w w') (fun c w'=>Reads (fun n:Nat => .int .i64 n) rb s w R (.panicked c) w') (fun c a w' hd h=>⟨hd,h⟩) (by kernel_rfl) (by kernel_rfl) ?_ ?_
  ·exact ⟨HR.out.same (Same.drew _),Mod.same (Same.drew _)⟩
  iterate 12 (
   refine wpOrdP_quiet ?_ rfl rfl (fun w' hS=>?_) ?_
   rotate_left
   ·have e0:=hS.1.c0
    have e1:=hS.1.c1
    go_simp
    first | rfl | done
   simp only [put_lit,List.set_cons_succ,List.set_cons_zero])
  iterate 13 (
   refine wpOrdP_skip rfl rfl ?_
   simp only [put_lit,List.set_cons_succ,List.set_cons_zero])
  iterate 2 (
   refine wpOrdP_quiet ?_ rfl rfl (fun w' hS=>?_) ?_
   rotate_left
   ·have e0:=hS.1.c0
    have e1:=hS.1.c1
    go_simp
    first | rfl | done
   simp only [put_lit,List.set_cons_succ,List.set_cons_zero])
  iterate 10 (
   refine wpOrdP_skip rfl rfl ?_
   simp only [put_lit,List.set_cons_succ,List.set_cons_zero])
  iterate 1 (
   refine wpOrdP_quiet ?_ rfl rfl (fun w' hS=>?_) ?_
   rotate_left
   ·have e0:=hS.1.c0
    have e1:=hS.1.c1
    go_simp
    first | rfl | done
   simp only [put_lit,List.set_cons_succ,List.set_cons_zero])
  refine wpOrdP_loud rfl rfl (by decide) (fun K hK=>?_)
  have HK:=Lib.hid hK
  clear hK
  go_simp
  have hcall:=must_any rb s i false _ (HR.out.same (Same.drew w))
  unfold ptrV at hcall
  refine hcall.mono ?_
  clear hcall
  rintro e w2 ⟨rfl,hs2⟩
  refine ⟨rfl,?_⟩
  rw [HRd.out]
  exact ⟨rfl,(Mod.same (Same.drew _)).trans (Mod.same hs2)⟩
end Go.Proofs.Ts
namespace Go.Proofs.Ts
open Go Go.RowKit
section
variable {T:Times} {s:ByteArray} {a:Ast} {j k l:Nat} {lo hi p:Nat}
theorem behind_star (h:isB s j 42=true):behindP T s a j = .ok (.many a false) (j+1):=by unfold behindP; rw [if_pos h]
theorem behind_plus (h:isB s j 42=false) (h2:isB s j 43=true):behindP T s a j = .ok (.many a true) (j+1):=by unfold behindP; rw [if_neg (by rw [h]; decide),if_pos h2]
theorem behind_opt (h:isB s j 42=false) (h2:isB s j 43=false) (h3:isB s j 63=true):behindP T s a j = .ok (.maybe a) (j+1):=by unfold behindP; rw [if_neg (by rw [h]; decide),if_neg (by rw [h2]; decide),if_pos h3]
theorem behind_none (h:isB s j 42=false) (h2:isB s j 43=false) (h3:isB s j 63=false) (h4:isB s j 123=false):behindP T s a j = .ok a j:=by unfold behindP; rw [if_neg (by rw [h]; decide),if_neg (by rw [h2]; decide),if_neg (by rw [h3]; decide),if_neg (by rw [h4]; decide)]
theorem behind_times (h:isB s j 42=false) (h2:isB s j 43=false) (h3:isB s j 63=false) (h4:isB s j 123=true):behindP T s a j=timesP T s a (j+1):=by unfold behindP; rw [if_neg (by rw [h]; decide),if_neg (by rw [h2]; decide),if_neg (by rw [h3]; decide),if_pos h4]
end
set_option maxRecDepth 100000 in
set_option maxHeartbeats 4000000 in
theorem repeated_any (rb:Nat) (s:ByteArray) (i:Nat) (tv:Value) (T:Times) (A:Nat→PR Ast) (w:World) (hT:TimesIs tv T) (hR:RdIs w rb s i)
  (hA:∀ w,RdIs w rb s i→Calls Tryz.prog 185 #[ptrV rb,tv] w (Reads Ast.val rb s w (atomP A s i))) :
  Calls Tryz.prog 173 #[ptrV rb,tv] w (Reads Ast.val rb s w (repP T A s i)):=by
 obtain ⟨R,hRd⟩:∃ R,R=repP T A s i:=⟨_,rfl⟩
 rw [← hRd]
 unfold repP at hRd
 obtain ⟨tf,rfl,htc,htt⟩:=hT
 have hcall:=hA w hR
 obtain ⟨R1,hR1⟩:∃ R1,R1=atomP A s i:=⟨_,rfl⟩
 rw [← hR1] at hcall hRd
 have HC:=Lib.hid hcall
 have HT:=Lib.hid htt
 have HRD:=Lib.hid hRd
 clear hcall hRd hA hR hR1 htt
 unfold ptrV
 go_enter Tryz.func173,Tryz.ntmps173
 go_wp2_with fail
 have hcall:=HC.out
 unfold ptrV at hcall
 refine hcall.mono ?_
 clear hcall HC
 cases R1 with
 | fault p =>
  rintro e w1 ⟨rfl,hm1⟩
  refine ⟨rfl,?_⟩
  rw [HRD.out]
  exact ⟨rfl,hm1⟩
 | ok a j =>
  rintro e w1 ⟨rfl,hr1,hm1⟩
  have HS:=Lib.hid (And.intro hr1 hm1)
  have HRB:Hid (R=behindP T s a j):=Lib.hid HRD.out
  obtain ⟨T0,v0,hv,_⟩:=asserts_isEmpty a
  have HV:=Lib.hid hv
  rw [hv]
  clear hr1 hm1 HRD hv
  go_wp2_with fail
  have hcall:=eat_any rb s j 42 _ HS.out.1
  unfold ptrV at hcall
  refine hcall.mono ?_
  clear hcall
  obtain ⟨b1,hb1⟩:∃ b,b=isB s j 42:=⟨_,rfl⟩
  unfold eatB
  rw [← hb1]
  have HB1:=Lib.hid hb1.symm
  clear hb1
  rintro e w2 ⟨rfl,hr2,hm2⟩
  have HS2:=Lib.hid (And.intro hr2 (HS.out.2.trans hm2))
  clear hr2 hm2 HS
  cases b1
  case true =>
   have hRr:=HRB.out.trans (behind_star HB1.out)
   subst hRr
   go_wp2_with fail
   go_ret
   refine ⟨?_,HS2.out⟩
   show _=Ending.returned (.iface 270 (.agg #[a.val,.bool false]))
   rw [HV.out]
   rfl
  case false =>
  go_wp2_with fail
  have hcall:=eat_any rb s j 43 _ HS2.out.1
  unfold ptrV at hcall
  refine hcall.mono ?_
  clear hcall
  obtain ⟨b2,hb2⟩:∃ b,b=isB s j 43:=⟨_,rfl⟩
  unfold eatB
  rw [← hb2]
  have HB2:=Lib.hid hb2.symm
  clear hb2
  rintro e w3 ⟨rfl,hr3,hm3⟩
  have HS3:=Lib.hid (And.intro hr3 (HS2.out.2.trans hm3))
  clear hr3 hm3 HS2
  cases b2
  case true =>
   have hRr:=HRB.out.trans (behind_plus HB1.out HB2.out)
   subst hRr
   go_wp2_with fail
   go_ret
   refine ⟨?_,HS3.out⟩
   show _=Ending.returned (.iface 270 (.agg #[a.val,.bool true]))
   rw [HV.out]
   rfl
  case false =>
  go_wp2_with fail
  have hcall:=eat_any rb s j 63 _ HS3.out.1
  unfold ptrV at hcall
  refine hcall.mono ?_
  clear hcall
  obtain ⟨b3,hb3⟩:∃ b,b=isB s j 63:=⟨_,rfl⟩
  unfold eatB
  rw [← hb3]
  have HB3:=Lib.hid hb3.symm
  clear hb3
  rintro e w4 ⟨rfl,hr4,hm4⟩
  have HS4:=Lib.hid (And.intro hr4 (HS3.out.2.trans hm4))
  clear hr4 hm4 HS3
  cases b3
  case true =>
   have hRr:=HRB.out.trans (behind_opt HB1.out HB2.out HB3.out)
   subst hRr
   go_wp2_with fail
   go_ret
   refine ⟨?_,HS4.out⟩
   show _=Ending.returned (.iface 328 (.agg #[a.val]))
   rw [HV.out]
   rfl
  case false =>
  go_wp2_with fail
  have hcall:=eat_any rb s j 123 _ HS4.out.1
  unfold ptrV at hcall
  refine hcall.mono ?_
  clear hcall
  obtain ⟨b4,hb4⟩:∃ b,b=isB s j 123:=⟨_,rfl⟩
  unfold eatB
  rw [← hb4]
  have HB4:=Lib.hid hb4.symm
  clear hb4
  rintro e w5 ⟨rfl,hr5,hm5⟩
  have HS5:=Lib.hid (And.intro hr5 (HS4.out.2.trans hm5))
  clear hr5 hm5 HS4
  cases b4
  case false =>
   have hRr:=HRB.out.trans (behind_none HB1.out HB2.out HB3.out HB4.out)
   subst hRr
   go_wp2_with fail
   go_ret
   refine ⟨?_,HS5.out⟩
   show _=Ending.returned (a.val)
   rw [HV.out]
   rfl
  case true =>
  have HRT:Hid (R=timesP T s a (j+1)):=Lib.hid (HRB.out.trans (behind_times HB1.out HB2.out HB3.out HB4.out))
  clear HRB HB1 HB2 HB3 HB4
  go_wp2_with fail
  have hcall:=digit_any rb s (j+1) 0 _ HS5.out.1 (by decide)
  unfold ptrV at hcall
  refine hcall.mono ?_
  clear hcall
  unfold timesP at HRT
  obtain ⟨D,hD⟩:∃ D,D=digitP s (j+1) 0:=⟨_,rfl⟩
  have hdl:∀ x k,D = .ok x k→x≤9:=fun x k h=>(digit_le (hD.symm.trans h)).2
  rw [← hD] at HRT ⊢
  have HDL:=Lib.hid hdl
  clear hD hdl
  cases D with
  | fault p =>
   rintro e w6 ⟨rfl,hm6⟩
   refine ⟨rfl,?_⟩
   rw [HRT.out]
   exact ⟨rfl,HS5.out.2.trans hm6⟩
  | ok lo k =>
   rintro e w6 ⟨rfl,hr6,hm6⟩
   have hlo:lo≤9:=HDL.out lo k rfl
   have HS6:=Lib.hid (And.intro hr6 (HS5.out.2.trans hm6))
   clear hr6 hm6 HS5 HDL
   go_wp2_with fail
   have hcall:=eat_any rb s k 44 _ HS6.out.1
   unfold ptrV at hcall
   refine hcall.mono ?_
   clear hcall
   obtain ⟨b5,hb5⟩:∃ b,b=isB s k 44:=⟨_,rfl⟩
   unfold eatB
   rw [← hb5]
   have HB5:=Lib.hid hb5.symm
   clear hb5
   rintro e w7 ⟨rfl,hr7,hm7⟩
   have HS7:=Lib.hid (And.intro hr7 (HS6.out.2.trans hm7))
   clear hr7 hm7 HS6
   cases b5
   case false =>
    go_wp2_with fail
    have hcall:=eat_any rb s (k) 125 _ HS7.out.1
    unfold ptrV at hcall
    refine hcall.mono ?_
    clear hcall
    obtain ⟨b8,hb8⟩:∃ b,b=isB s (k) 125:=⟨_,rfl⟩
    unfold eatB
    rw [← hb8]
    have HB8:=Lib.hid hb8.symm
    clear hb8
    rintro e w8 ⟨rfl,hr8,hm8⟩
    have HS8:=Lib.hid (And.intro hr8 (HS7.out.2.trans hm8))
    clear hr8 hm8
    go_wp2_with fail
    have hcall:=must_any rb s _ b8 _ HS8.out.1
    unfold ptrV at hcall
    refine hcall.mono ?_
    clear hcall
    rintro e w9 ⟨rfl,hs9⟩
    have HS9:=Lib.hid (And.intro (HS8.out.1.same hs9) (HS8.out.2.trans (Mod.same hs9)))
    clear hs9 HS8
    cases b8
    case false =>
     refine ⟨rfl,?_⟩
     have hRr:R = .fault (k):=by rw [HRT.out]; rw [if_neg (by rw [HB5.out]; decide),if_neg (by rw [HB8.out]; decide)]
     rw [hRr]
     exact ⟨rfl,HS9.out.2⟩
    case true =>
    have hRr:R = .ok (T a lo lo false) ((k)+1):=by rw [HRT.out]; rw [if_neg (by rw [HB5.out]; decide),if_pos HB8.out]
    subst hRr
    go_wp2_with fail
    have hcall:=HT.out a lo lo false w9 (by omega) (by omega)
    rw [HV.out] at hcall
    refine hcall.mono ?_
    clear hcall
    rintro e w10 ⟨rfl,hb10⟩
    have HS10:=Lib.hid (And.intro (HS9.out.1.below hb10) (HS9.out.2.trans (below_mod hb10)))
    clear hb10
    go_wp2_with fail
    go_ret
    exact ⟨rfl,HS10.out⟩
   case true =>
   go_wp2_with fail
   have hcall:=is_any rb s (k+1) 125 _ HS7.out.1
   unfold ptrV at hcall
   refine hcall.mono ?_
   clear hcall
   obtain ⟨b6,hb6⟩:∃ b,b=isB s (k+1) 125:=⟨_,rfl⟩
   rw [← hb6]
   have HB6:=Lib.hid hb6.symm
   clear hb6
   rintro e wi ⟨rfl,hsi⟩
   have HSI:=Lib.hid (And.intro (HS7.out.1.same hsi) (HS7.out.2.trans (Mod.same hsi)))
   clear hsi HS7
   cases b6
   case true =>
    go_wp2_with fail
    have hcall:=eat_any rb s (k+1) 125 _ HSI.out.1
    unfold ptrV at hcall
    refine hcall.mono ?_
    clear hcall
    obtain ⟨b8,hb8⟩:∃ b,b=isB s (k+1) 125:=⟨_,rfl⟩
    unfold eatB
    rw [← hb8]
    have HB8:=Lib.hid hb8.symm
    clear hb8
    rintro e w8 ⟨rfl,hr8,hm8⟩
    have HS8:=Lib.hid (And.intro hr8 (HSI.out.2.trans hm8))
    clear hr8 hm8
    go_wp2_with fail
    have hcall:=must_any rb s _ b8 _ HS8.out.1
    unfold ptrV at hcall
    refine hcall.mono ?_
    clear hcall
    rintro e w9 ⟨rfl,hs9⟩
    have HS9:=Lib.hid (And.intro (HS8.out.1.same hs9) (HS8.out.2.trans (Mod.same hs9)))
    clear hs9 HS8
    cases b8
    case false =>
     exact absurd (HB6.out.symm.trans HB8.out) (by decide)
    case true =>
    have hRr:R = .ok (T a lo lo true) (k+1+1):=by rw [HRT.out]; rw [if_pos HB5.out,if_pos HB6.out]
    subst hRr
    go_wp2_with fail
    have hcall:=HT.out a lo lo true w9 (by omega) (by omega)
    rw [HV.out] at hcall
    refine hcall.mono ?_
    clear hcall
    rintro e w10 ⟨rfl,hb10⟩
    have HS10:=Lib.hid (And.intro (HS9.out.1.below hb10) (HS9.out.2.trans (below_mod hb10)))
    clear hb10
    go_wp2_with fail
    go_ret
    exact ⟨rfl,HS10.out⟩
   case false =>
   go_wp2_with fail
   have hcall:=digit_any rb s (k+1) lo _ HSI.out.1 hlo
   unfold ptrV at hcall
   refine hcall.mono ?_
   clear hcall
   rw [if_pos HB5.out,if_neg (by rw [HB6.out]; decide)] at HRT
   obtain ⟨D2,hD2⟩:∃ D,D=digitP s (k+1) lo:=⟨_,rfl⟩
   have hdl2:∀ x k,D2 = .ok x k→lo≤x∧x≤9:=fun x k h=>digit_le (hD2.symm.trans h)
   rw [← hD2] at HRT ⊢
   have HDL2:=Lib.hid hdl2
   clear hD2 hdl2
   cases D2 with
   | fault p =>
    rintro e w6b ⟨rfl,hm6⟩
    refine ⟨rfl,?_⟩
    rw [HRT.out]
    exact ⟨rfl,HSI.out.2.trans hm6⟩
   | ok hi k2 =>
    rintro e w6b ⟨rfl,hr6,hm6⟩
    have hhi:lo≤hi∧hi≤9:=HDL2.out hi k2 rfl
    obtain ⟨hh1,hh2⟩:=hhi
    have HSJ:=Lib.hid (And.intro hr6 (HSI.out.2.trans hm6))
    clear hr6 hm6 HSI HDL2
    go_wp2_with fail
    have hcall:=eat_any rb s (k2) 125 _ HSJ.out.1
    unfold ptrV at hcall
    refine hcall.mono ?_
    clear hcall
    obtain ⟨b8,hb8⟩:∃ b,b=isB s (k2) 125:=⟨_,rfl⟩
    unfold eatB
    rw [← hb8]
    have HB8:=Lib.hid hb8.symm
    clear hb8
    rintro e w8 ⟨rfl,hr8,hm8⟩
    have HS8:=Lib.hid (And.intro hr8 (HSJ.out.2.trans hm8))
    clear hr8 hm8
    go_wp2_with fail
    have hcall:=must_any rb s _ b8 _ HS8.out.1
    unfold ptrV at hcall
    refine hcall.mono ?_
    clear hcall
    rintro e w9 ⟨rfl,hs9⟩
    have HS9:=Lib.hid (And.intro (HS8.out.1.same hs9) (HS8.out.2.trans (Mod.same hs9)))
    clear hs9 HS8
    cases b8
    case false =>
     refine ⟨rfl,?_⟩
     have hRr:R = .fault k2:=by rw [HRT.out]; rw [if_neg (by rw [HB8.out]; decide)]
     rw [hRr]
     exact ⟨rfl,HS9.out.2⟩
    case true =>
    have hRr:R = .ok (T a lo hi false) (k2+1):=by rw [HRT.out]; rw [if_pos HB8.out]
    subst hRr
    go_wp2_with fail
    have hcall:=HT.out a lo hi false w9 (by omega) (by omega)
    rw [HV.out] at hcall
    refine hcall.mono ?_
    clear hcall
    rintro e w10 ⟨rfl,hb10⟩
    have HS10:=Lib.hid (And.intro (HS9.out.1.below hb10) (HS9.out.2.trans (below_mod hb10)))
    clear hb10
    go_wp2_with fail
    go_ret
    exact ⟨rfl,HS10.out⟩
end Go.Proofs.Ts
namespace Go.Proofs.Ts
open Go Go.RowKit
theorem BSet.setw_cells (s:BSet) {i:Nat} (h:i < 4) (v:Nat):s.cells.toArray.setIfInBounds i (.int .u64 v)=(s.setw i v).cells.toArray:=by
 match i with
 | 0=>rfl
 | 1=>rfl
 | 2=>rfl
 | 3=>rfl
 | n+4=>omega
theorem BSet.ok_setw {s:BSet} (h:s.ok) (i:Nat) {v:Nat} (hv:v < W64):(s.setw i v).ok:=by
 obtain ⟨h1,h2,h3,h4⟩:=h
 match i with
 | 0=>exact ⟨hv,h2,h3,h4⟩
 | 1=>exact ⟨h1,hv,h3,h4⟩
 | 2=>exact ⟨h1,h2,hv,h4⟩
 | _+3=>exact ⟨h1,h2,h3,hv⟩
theorem BSet.ok_on {s:BSet} (h:s.ok) (k:Nat):(s.on k).ok:=BSet.ok_setw h _ (PSet.or_lt (BSet.ok_word h _) (PSet.bit_lt k))
theorem BSet.ok_addN {s:BSet} (h:s.ok) (lo:Nat):∀ n,(s.addN lo n).ok
 | 0=>h
 | n+1=>BSet.ok_on (BSet.ok_addN h lo n) _
theorem BSet.ok_add {s:BSet} (h:s.ok) (lo hi:Nat):(s.add lo hi).ok:=BSet.ok_addN h lo _
theorem BSet.ok_zero:BSet.zero.ok:=⟨by decide,by decide,by decide,by decide⟩
def BSetIs (w:World) (ob:Nat) (s:BSet):Prop:=s.ok∧w.heap[ob]?=some (.cells s.cells.toArray 266 (0,0))
theorem BSetIs.lt {w:World} {ob:Nat} {s:BSet} (h:BSetIs w ob s):ob < w.heap.size:=lt_of_heap h.2
theorem BSetIs.same {w w':World} {ob:Nat} {s:BSet} (h:BSetIs w ob s) (k:Same w w'):BSetIs w' ob s:=⟨h.1,by rw [k.heap]; exact h.2⟩
theorem BSetIs.mod {w w':World} {ob:Nat} {s:BSet} {S:Nat→Prop} (h:BSetIs w ob s) (k:Mod S w w') (hn:¬ S ob):BSetIs w' ob s:=⟨h.1,(k.block ob h.lt hn).trans h.2⟩
set_option maxRecDepth 100000 in
set_option maxHeartbeats 1000000 in
theorem add_any (ob lo hi:Nat) (s:BSet) (w:World) (hS:BSetIs w ob s) (hlo:lo < 256) (hhi:hi < 256) :
  Calls Tryz.prog 122 #[ptrV ob,.int .u8 lo,.int .u8 hi] w fun e w'=>e = .returned (.tuple #[])∧BSetIs w' ob (s.add lo hi)∧Mod (fun j=>j=ob) w w':=by
 have H:=Lib.hid hS
 clear hS
 have a1:IntKind.i64.wrap (lo:Int)=(lo:Int):=IntWalk.i64_in _ (by omega)
 have a2:IntKind.i64.wrap (hi:Int)=(hi:Int):=IntWalk.i64_in _ (by omega)
 unfold ptrV
 go_enter Tryz.func122,Tryz.ntmps122
 go_wp2_with fail
 go_loopw [6] (fun cv wr=>∃ (n:Nat),n≤hi+1 - lo∧cv = .int .i64 ((lo:Int)+(n:Int))∧Hid (BSetIs wr ob (s.addN lo n)∧Mod (fun j=>j=ob) w wr)) (fun cv _=>hi+1 - (intOf cv).toNat)
 case atStart=>exact ⟨0,Nat.zero_le _,by simp,H.out,Mod.refl _ _⟩
 case round =>
  clear H
  obtain ⟨n,hn,rfl,HR⟩:=hrel
  by_cases hlt:lo+n≤hi
  ·obtain ⟨k,hk⟩:∃ k,k=lo+n:=⟨_,rfl⟩
   have ek:(lo:Int)+(n:Int)=(k:Int):=by omega
   rw [ek]
   have hkh:(k:Int)≤(hi:Int):=by omega
   obtain ⟨t,ht⟩:∃ t,t=s.addN lo n:=⟨_,rfl⟩
   have hb:=HR.out.1
   rw [← ht] at hb
   obtain ⟨q,hq⟩:∃ q,q=k / 64:=⟨_,rfl⟩
   obtain ⟨r,hr⟩:∃ r,r=k % 64:=⟨_,rfl⟩
   have hq4:q < 4:=by omega
   have hr64:r < 64:=by omega
   obtain ⟨x,hx⟩:∃ x,x=t.word (k / 64):=⟨_,rfl⟩
   obtain ⟨y,hy⟩:∃ y,y=2 ^ (k % 64):=⟨_,rfl⟩
   have c0:wr.cell? ⟨ob,q,none⟩=some (.int .u64 x):=by rw [cell_block hb.2,BSet.cells_at _ hq4,hx,hq]
   have f0:wr.frozen? ⟨ob,q,none⟩=false:=free_block hb.2
   have hor:=bits_or_u64_nat x y (by rw [hx]; exact BSet.ok_word hb.1 _) (by rw [hy]; exact PSet.bit_lt k)
   have d1:(k:Int) / 64=(q:Int):=by omega
   have d2:(k:Int) % 64=(r:Int):=by omega
   have d3:Int.tdiv (k:Int) 64=(q:Int):=by rw [Int.tdiv_eq_ediv_of_nonneg (by omega)]; exact d1
   have d4:Int.tmod (k:Int) 64=(r:Int):=by rw [Int.tmod_eq_emod_of_nonneg (by omega)]; exact d2
   have d5:IntKind.u64.wrap (2 ^ r)=(y:Int):=by
    have h:2 ^ (k % 64) < 18446744073709551616:=PSet.bit_lt k
    rw [← hr] at h hy
    rw [IntKind.wrap_u64,hy]
    have e:((2:Int) ^ r)=((2 ^ r:Nat):Int):=by simp
    rw [e]
    exact Int.emod_eq_of_lt (by omega) (by omega)
   have d6:IntKind.i64.wrap (q:Int)=(q:Int):=by rw [IntKind.wrap_i64]; omega
   have d7:IntKind.i64.wrap (r:Int)=(r:Int):=by rw [IntKind.wrap_i64]; omega
   have d8:(q:Int) < 4:=by omega
   have hnew:BSetIs (wr.drew.setCell ⟨ob,q,none⟩ (.int .u64 ((x ||| y:Nat):Int))) ob (s.addN lo (n+1)):=by
    refine ⟨BSet.ok_on HR.out.1.1 _,?_⟩
    ·rw [heap_setCell_same wr.drew ob q _ _ _ hb.2,BSet.setw_cells t hq4]
     show _=some (Obj.cells ((s.addN lo n).on (lo+n)).cells.toArray _ _)
     unfold BSet.on
     rw [← hk,← ht,← hx,← hy,← hq]
   have hmod:Mod (fun j=>j=ob) w (wr.drew.setCell ⟨ob,q,none⟩ (.int .u64 ((x ||| y:Nat):Int))):=(HR.out.2.trans (Mod.same (Same.drew _))).trans (Mod.setCell _ _ _ fun _=>rfl)
   have HN:=Lib.hid (And.intro hnew hmod)
   have HKK:=Lib.hid hk
   clear hb hx hy hq hr ht hnew hmod hk ek
   go_wp2_with fail
   refine wp_region_ordX [(0,false),(1,false),(2,false),(3,false),(4,false),(5,false),(6,false),(7,false),(8,false),(9,false),(10,false),(11,true),(12,true),(13,true),(14,true)] 14
    (fun w'=>w'.cell? ⟨ob,q,none⟩=some (.int .u64 x)) (by kernel_rfl) (by kernel_rfl) c0 ?_
   iterate 11 (
    refine wpOrd_quiet ?_ rfl rfl (fun w' hS=>?_) ?_
    rotate_left
    ·go_simp
     first | rfl | done
    simp only [put_lit,List.set_cons_succ,List.set_cons_zero])
   iterate 3 (
    refine wpOrd_loud rfl rfl (by decide) (fun K hK=>?_)
    have HK:=Lib.hid hK
    clear hK
    go_simp
    refine HK.out _ _ c0 ?_
    clear HK K)
   refine wpOrd_last rfl rfl (fun K hK=>?_)
   have HK:=Lib.hid hK
   clear hK
   go_simp
   refine HK.out _ _ ?_
   clear HK K
   go_wp2_with fail
   have e9:=HKK.out
   exact ⟨⟨n+1,by omega,by go_num,HN⟩,by simp [intOf]; omega⟩
  ·obtain rfl:n=hi+1 - lo:=by omega
   go_wp2_with fail
   refine bodyPost_end (results_none rfl _ _ _) rfl ?_
   exact ⟨rfl,HR.out⟩
end Go.Proofs.Ts
