/- Lemmas towards the statement Simple of termsearch: walks of the program's functions and plain laws on lists (TsSettle, TsCode, TsGraph, TsHits, TsWords, TsKeep1, TsKeep2, TsAutA). Conditions: those that each theorem names. -/
import Derived.Test.YtffjomnnkilhgaaGreatDoorSimplePA
import Derived.Lib.BufferRead
import Derived.Lib.FieldsP
import Derived.Test.YtffjomnnkilhgaaGreatDoorProg
set_option linter.unusedVariables false
set_option linter.unusedSimpArgs false
set_option linter.unusedSectionVars false
namespace Go.Proofs.Ts
open Go Go.RowKit
theorem cell_block {w:World} {b i:Nat} {cs:Array Value} {t:TypeId} (h:w.heap[b]?=some (.cells cs t (0,0))):w.cell? ⟨b,i,none⟩=cs[i]?:=by simp [World.cell?,h]
theorem free_block {w:World} {b i:Nat} {cs:Array Value} {t:TypeId} (h:w.heap[b]?=some (.cells cs t (0,0))):w.frozen? ⟨b,i,none⟩=false:=by simp [World.frozen?,h]
theorem lt_of_cell {w:World} {b i:Nat} {v:Value} (h:w.cell? ⟨b,i,none⟩=some v):b < w.heap.size:=World.block_lt_of_cell? w _ h
theorem lt_of_heap {w:World} {b:Nat} {o:Obj} (h:w.heap[b]?=some o):b < w.heap.size:=(Array.getElem?_eq_some_iff.1 h).1
structure Small (s:St):Prop where
 edges:∀ b nd,s.G b=some nd→nd.edges.length≤300
 ids:∀ p∈s.ids,p.2 < 1000000
 len:s.ids.length < 1000000
theorem Small.hook {s:St} {n t:Nat} {ndn ndt:Nd} (h:Small s) (hn:s.G n=some ndn) (hl:s.ids.length+1 < 1000000):Small (hook s n t ndn ndt)∧(Ts.hook s n t ndn ndt).ids.length≤s.ids.length+1:=by
 unfold Ts.hook
 split
 ·refine ⟨⟨fun b nd hb=>?_,h.ids,h.len⟩,Nat.le_succ _⟩
  simp only [upd] at hb
  split at hb
  ·cases hb
   have:=h.edges n ndn hn
   simp
   omega
  ·exact h.edges b nd hb
 ·refine ⟨⟨h.edges,fun p hp=>?_,?_⟩,?_⟩
  ·rcases mem_put hp with rfl | hp
   ·exact h.len
   ·exact h.ids p hp
  ·have:=length_put_le s.ids t s.ids.length; simp only; omega
  ·exact length_put_le s.ids t s.ids.length
theorem Small.settleP:∀ (ts:List Nat) (s:St) (t:Nat),Small s→s.ids.length+ts.length < 1000000→Small (settleP ts s t)∧(Ts.settleP ts s t).ids.length≤s.ids.length+ts.length
 | [],s,t,h,hl=>⟨h,Nat.le_refl _⟩
 | u :: us,s,t,h,hl=>by
  simp only [List.length_cons] at hl
  obtain ⟨h1,h2⟩:=Small.settleP us s u h (by omega)
  unfold Ts.settleP
  split
  ·rename_i ndt ndn e1 e2
   obtain ⟨h3,h4⟩:=h1.hook (t:=u) (ndt:=ndt) e2 (by omega)
   exact ⟨h3,by simp only [List.length_cons]; omega⟩
  ·exact ⟨h1,by simp only [List.length_cons]; omega⟩
theorem Small.idOf {s:St} (h:Small s) (t:Nat):idOf s.ids t < 1000000:=by
 unfold Ts.idOf
 cases hg:get s.ids t with
 | none=>simp
 | some x=>exact h.ids _ (get_some_mem hg)
theorem edgeText_append (ids:List (Nat × Nat)) (a b:List (UInt8 × Nat)):edgeText ids (a++b)=edgeText ids a++edgeText ids b:=by simp [edgeText]
theorem edgeText_one (ids:List (Nat × Nat)) (c:UInt8) (t:Nat):edgeText ids [(c,t)]=c :: (vint (idOf ids t)).map UInt8.ofNat:=by simp [edgeText]
theorem edgeText_length {s:St} (h:Small s) (es:List (UInt8 × Nat)):(edgeText s.ids es).length≤es.length * 4:=by
 induction es with
 | nil=>simp [edgeText]
 | cons p r ih =>
  have e:edgeText s.ids (p :: r)=(p.1 :: (vint (Ts.idOf s.ids p.2)).map UInt8.ofNat)++edgeText s.ids r:=by simp [edgeText]
  rw [e,List.length_append,List.length_cons,List.length_map,List.length_cons]
  have:=vint_length (h.idOf p.2)
  omega
def byteC (b:UInt8):Value := .int .u8 b.toNat
theorem byteC_vint {n:Nat} (h:n < 1000000):((vint n).map UInt8.ofNat).map byteC=(vint n).map byteV:=by
 rw [List.map_map]
 apply List.map_congr_left
 intro b hb
 have:=vint_lt h b hb
 simp only [Function.comp,byteC,byteV,UInt8.toNat_ofNat']
 rw [Nat.mod_eq_of_lt (by omega)]
theorem edgeText_step {s:St} (h:Small s) {es:List (UInt8 × Nat)} {k:Nat} {c:UInt8} {t:Nat} (hk:es[k]?=some (c,t)) :
  (edgeText s.ids (es.take (k+1))).map byteC=(edgeText s.ids (es.take k)).map byteC++[.int .u8 c.toNat]++(vint (Ts.idOf s.ids t)).map byteV ∧
  (edgeText s.ids (es.take (k+1))).length=(edgeText s.ids (es.take k)).length+1+(vint (Ts.idOf s.ids t)).length:=by
 obtain ⟨hlt,he⟩:=List.getElem?_eq_some_iff.1 hk
 rw [List.take_succ_eq_append_getElem hlt,he,edgeText_append,edgeText_one]
 refine ⟨?_,?_⟩
 ·rw [List.map_append,List.map_cons,byteC_vint (h.idOf t),List.append_assoc]
  rfl
 ·simp
  omega
theorem conv_row {P:Program} {src dst e:TypeId} (hs:P.underlying src=some (.slice e)) (he:P.underlying e=some (.int .u8)) (hd:P.underlying dst=some .string) {w:World} {v:Value} {l:List UInt8} {B n:Nat}
  (hn:n=l.length) (h:w.ownsRow B e 1 v n (l.map byteC)):(convert src dst v).run P w = .ok (.string ⟨l.toArray⟩) w:=by
 subst hn
 rcases h.2 with ⟨rfl,h0⟩ | ⟨g,cap,cur,rfl,_⟩
 ·have:l=[]:=List.eq_nil_of_length_eq_zero h0
  subst this
  exact Lib.run_convert_nil_bytes w src dst e 0 hs he hd
 ·refine run_convert_bytes_back w src dst e ⟨g,0,none⟩ cap l hs he hd fun j hj=>?_
  have hc:=h.cellAt j (by omega)
  rw [List.getElem?_map,List.getElem?_eq_getElem hj] at hc
  simpa [Addr.add_lit,byteC] using hc
theorem settle_none (B bb kb ib:Nat) (s:St) (n:Nat) (w:World) (hs:StIn B bb kb ib w s) (hw:Way s n []) :
  Calls Tryz.prog 139 #[ptrV bb,ptrV n] w fun e w'=>e = .returned (.tuple #[])∧StIn B bb kb ib w' s∧Below B w w':=by
 obtain ⟨nd,hG,hnil⟩:=hw
 have hrow:=hs.nodes.row n nd hG
 have hb:=hs.nodes.node n nd hG
 rw [hnil] at hrow
 obtain ⟨a,cap,hv⟩:=ownsRow_form hrow
 rw [hv] at hb
 have c1:w.cell? ⟨n,1,none⟩=some (.slice a 0 cap):=cell_block hb
 clear hb hrow hv hnil
 unfold ptrV
 go_enter Tryz.func139,Tryz.ntmps139
 go_wp2
 refine bodyPost_ret (results_none rfl _ _ _) rfl ?_
 exact ⟨rfl,hs,Below.refl _ _⟩
theorem NodesIn.same {B:Nat} {w w':World} {G:Graph} (h:NodesIn B w G) (hS:Same w w'):NodesIn B w' G:=by
 obtain ⟨n,rfl⟩:=hS
 exact ⟨h.ge,h.node,h.row,h.apart⟩
theorem StIn.same {B bb kb ib:Nat} {w w':World} {s:St} (h:StIn B bb kb ib w s) (hS:Same w w'):StIn B bb kb ib w' s:=by
 obtain ⟨n,rfl⟩:=hS
 exact ⟨h.nodes.same (Same.drewN w n),h.bb_ge,h.kb_ge,h.ib_ge,h.ne,h.bld,h.kn,h.ids,h.idsIn,h.knIn,h.toIn⟩
def Within (H:Nat) (s:St) (bb kb ib:Nat):Prop:=bb < H∧kb < H∧ib < H ∧ ∀ b nd,s.G b=some nd→b < H ∧ ∀ g,nd.v.ownBlock=some g→g < H
theorem StIn.within {B bb kb ib:Nat} {w:World} {s:St} (h:StIn B bb kb ib w s):Within w.heap.size s bb kb ib :=
 ⟨lt_of_heap h.bld,h.kn.lt,h.ids.lt,fun b nd hb=>⟨lt_of_heap (h.nodes.node b nd hb),fun g hg=>((h.nodes.row b nd hb).lt g hg).2⟩⟩
theorem StIn.below {B bb kb ib:Nat} {w w':World} {s:St} (h:StIn B bb kb ib w s) (hb:Below w.heap.size w w'):StIn B bb kb ib w' s:=by
 obtain ⟨w1,w2,w3,w4⟩:=h.within
 refine ⟨⟨h.nodes.ge,fun b nd hG=>(hb.block b (w4 b nd hG).1).trans (h.nodes.node b nd hG),fun b nd hG=>ownsRow_block (h.nodes.row b nd hG) (fun k hk=>hb.block k ((w4 b nd hG).2 k hk)),h.nodes.apart⟩,
  h.bb_ge,h.kb_ge,h.ib_ge,h.ne,(hb.block bb w1).trans h.bld,h.kn.of_block (hb.block kb w2),h.ids.of_block (hb.block ib w3),h.idsIn,h.knIn,h.toIn⟩
theorem StIn.nodeCells {B bb kb ib:Nat} {w:World} {s:St} (h:StIn B bb kb ib w s) {b:Nat} {nd:Nd} (hG:s.G b=some nd) :
  w.cell? ⟨b,0,none⟩=some (.bool nd.final) ∧ ∃ a cap,nd.v = .slice a nd.edges.length cap∧w.cell? ⟨b,1,none⟩=some (.slice a nd.edges.length cap):=by
 have hb:=h.nodes.node b nd hG
 obtain ⟨a,cap,hv⟩:=ownsRow_form (h.nodes.row b nd hG)
 refine ⟨cell_block hb,a,cap,hv,?_⟩
 rw [← hv]
 exact cell_block hb
theorem StIn.edgeCells {B bb kb ib:Nat} {w:World} {s:St} (h:StIn B bb kb ib w s) {b:Nat} {nd:Nd} (hG:s.G b=some nd) {i:Nat} {c:UInt8} {t:Nat} (hi:nd.edges[i]?=some (c,t)) :
  ∃ g cap,nd.v = .slice (some ⟨g,0,none⟩) nd.edges.length cap∧w.cell? ⟨g,i * 2,none⟩=some (.int .u8 c.toNat)∧w.cell? ⟨g,i * 2+1,none⟩=some (ptrV t):=by
 have hrow:=h.nodes.row b nd hG
 have hlt:=(List.getElem?_eq_some_iff.1 hi).1
 obtain ⟨m,hm⟩:∃ m,nd.edges.length=m+1:=⟨nd.edges.length - 1,by omega⟩
 rw [hm] at hrow
 obtain ⟨g,cap,hv⟩:=ownsRow_head hrow
 rw [hv] at hrow
 obtain ⟨e1,e2⟩:=edgeCells_at nd.edges i (c,t) hi
 exact ⟨g,cap,by rw [hm]; exact hv,(hrow.cellAt _ (by omega)).trans e1,(hrow.cellAt _ (by omega)).trans e2⟩
theorem StIn.cellsAt {B bb kb ib:Nat} {w:World} {s:St} (h:StIn B bb kb ib w s) {b:Nat} (hb:(s.G b).isSome):cellsAt w b:=by
 obtain ⟨nd,hnd⟩:=Option.isSome_iff_exists.1 hb
 exact ⟨_,_,h.nodes.node b nd hnd⟩
theorem StIn.idsCells {B bb kb ib:Nat} {w:World} {s:St} (h:StIn B bb kb ib w s):∀ p∈vals intV s.ids,Ts.cellsAt w p.1:=fun p hp=>by
 obtain ⟨q,hq,rfl⟩:=List.mem_map.1 hp
 exact h.cellsAt (h.idsIn q hq)
theorem StIn.lookId {B bb kb ib:Nat} {w:World} {s:St} (h:StIn B bb kb ib w s) {t:Nat} (ht:(s.G t).isSome) :
  (Instr.lookup 276 (.map (some ib)) (.pointer (some ⟨t,0,none⟩)) false).run Tryz.prog w = .ok (.int .i64 (idOf s.ids t)) w:=by
 have e:=MapIs.lookup node_law h.ids t (h.cellsAt ht) h.idsCells Tryz.underlying276 (z := .int .i64 0) (by kernel_rfl) false
 rw [get_vals] at e
 unfold idOf
 cases hg:get s.ids t with
 | none=>rw [hg] at e; exact e
 | some x=>rw [hg] at e; exact e
theorem StIn.lookNone {B bb kb ib:Nat} {w:World} {s:St} (h:StIn B bb kb ib w s) {t:Nat} (ht:(s.G t).isSome) (hn:get s.ids t=none) :
  (Instr.lookup 276 (.map (some ib)) (.pointer (some ⟨t,0,none⟩)) true).run Tryz.prog w = .ok (.tuple #[.int .i64 0,.bool false]) w:=by
 have e:=MapIs.lookup node_law h.ids t (h.cellsAt ht) h.idsCells Tryz.underlying276 (z := .int .i64 0) (by kernel_rfl) true
 rw [get_vals,hn] at e
 exact e
theorem StIn.lookShape {B bb kb ib:Nat} {w:World} {s:St} (h:StIn B bb kb ib w s) (k:Shape) :
  (Instr.lookup 275 (.map (some kb)) (.agg #[.bool k.1,.string ⟨k.2.toArray⟩]) true).run Tryz.prog w =
   .ok (.tuple #[((get s.kn k).map ptrV).getD (.pointer none),.bool (get s.kn k).isSome]) w:=by
 have e:=MapIs.lookup shape_law h.kn k trivial (fun _ _=>trivial) Tryz.underlying275 (z := .pointer none) (by kernel_rfl) true
 rw [get_vals] at e
 rw [Option.isSome_map] at e
 exact e
set_option maxRecDepth 100000 in
set_option maxHeartbeats 2000000 in
theorem settle_some (B bb kb ib:Nat) (t:Nat) (ts:List Nat)
  (ih:∀ (s:St) (w:World),StIn B bb kb ib w s→Way s t ts→Small s→s.ids.length+ts.length < 1000000→Calls Tryz.prog 139 #[ptrV bb,ptrV t] w fun e w'=>e = .returned (.tuple #[])∧StIn B bb kb ib w' (settleP ts s t)∧Below B w w')
  (s:St) (n:Nat) (w:World) (hs:StIn B bb kb ib w s) (hw:Way s n (t :: ts)) (hsm:Small s) (hlen:s.ids.length+(t :: ts).length < 1000000) :
  Calls Tryz.prog 139 #[ptrV bb,ptrV n] w fun e w'=>e = .returned (.tuple #[])∧StIn B bb kb ib w' (settleP (t :: ts) s n)∧Below B w w':=by
 obtain ⟨⟨nd,c,es,hG,hedges⟩,hid,htn,hnts,hway⟩:=hw
 have hrow:=hs.nodes.row n nd hG
 have hb:=hs.nodes.node n nd hG
 rw [hedges] at hrow
 simp only [List.length_append,List.length_cons,List.length_nil,Nat.zero_add] at hrow
 obtain ⟨g,cap,hv⟩:=ownsRow_head hrow
 rw [hv] at hb hrow
 have c1:w.cell? ⟨n,1,none⟩=some (.slice (some ⟨g,0,none⟩) (es.length+1) cap):=cell_block hb
 have ce0:w.cell? ⟨g,es.length * 2,none⟩=some (.int .u8 c.toNat):=by
  rw [hrow.cellAt _ (by omega),edgeCells_append,List.getElem?_append_right (by rw [edgeCells_length]; omega),edgeCells_length]; simp [edgeCells]
 have ce1:w.cell? ⟨g,es.length * 2+1,none⟩=some (ptrV t):=by
  rw [hrow.cellAt _ (by omega),edgeCells_append,List.getElem?_append_right (by rw [edgeCells_length]; omega),edgeCells_length]; simp [edgeCells]
 have b0:w.cell? ⟨bb,0,none⟩=some (.map (some kb)):=cell_block hs.bld
 have b1:w.cell? ⟨bb,1,none⟩=some (.map (some ib)):=cell_block hs.bld
 have hles:es.length≤300:=by have:=hsm.edges n nd hG; rw [hedges] at this; simp at this; omega
 clear hb hrow
 have hlen':s.ids.length+ts.length < 1000000:=by simp only [List.length_cons] at hlen; omega
 have HV:=Lib.hid hv
 clear hv
 have tcell:∃ ndt,s.G t=some ndt:=by
  cases ts with
  | nil=>obtain ⟨x,hx,_⟩:=hway; exact ⟨x,hx⟩
  | cons u us=>obtain ⟨⟨x,_,_,hx,_⟩,_⟩:=hway; exact ⟨x,hx⟩
 obtain ⟨ndt,hGt⟩:=tcell
 have hl1:∀ m,(Instr.lookup 276 (.map (some ib)) (.pointer (some ⟨t,0,none⟩)) true).run Tryz.prog (w.drewN m) = .ok (.tuple #[.int .i64 0,.bool false]) (w.drewN m):=fun m =>
  (hs.same (Same.drewN w m)).lookNone (by rw [hGt]; rfl) hid
 unfold ptrV at ce1 ⊢
 go_enter Tryz.func139,Tryz.ntmps139
 go_wp2_with fail
 have q1:IntKind.i64.wrap ((es.length:Int)+1 - 1)=(es.length:Int):=by rw [IntWalk.i64_in _ (by omega)]; omega
 have q2:(0:Int)≤(es.length:Int)∧(es.length:Int) < (es.length:Int)+1:=by omega
 go_quiet (fail)
 clear q1 q2
 go_wp2_with fail
 go_quiet (fail)
 go_wp2_with fail
 refine (ih s _ (hs.same (Same.drewN _ _)) hway hsm hlen').mono ?_
 rintro e w1 ⟨rfl,hs1,hb1⟩
 have hGn1:(settleP ts s t).G n=some nd:=(settleP_other ts s t n (Ne.symm htn) hnts).trans hG
 obtain ⟨nd1,hGt1⟩:=Option.isSome_iff_exists.1 (settleP_dom ts s t t (by rw [hGt]; rfl))
 have HP:=Lib.hid (settleP_cons hGt1 hGn1)
 have hsm1:Small (settleP ts s t):=(hsm.settleP ts s t hlen').1
 generalize settleP ts s t=s1 at *
 clear hl1 c1 ce0 ce1 b0 b1 hway hid
 have hs1h:=Lib.hid hs1
 obtain ⟨ct0,a1,cap1,hv1,ct1⟩:=hs1.nodeCells hGt1
 obtain ⟨cn0,_⟩:=hs1.nodeCells hGn1
 have ce1:w1.cell? ⟨g,es.length * 2+1,none⟩=some (.pointer (some ⟨t,0,none⟩)):=by
  obtain ⟨g',cap',e1,_,e3⟩:=hs1.edgeCells hGn1 (i:=es.length) (c:=c) (t:=t) (by rw [hedges]; simp)
  have eb:=congrArg Value.ownBlock (HV.out.symm.trans e1)
  simp [Value.ownBlock] at eb
  subst eb
  exact e3
 have b0:w1.cell? ⟨bb,0,none⟩=some (.map (some kb)):=cell_block hs1.bld
 have b1:w1.cell? ⟨bb,1,none⟩=some (.map (some ib)):=cell_block hs1.bld
 have hv1':=Lib.hid hv1
 clear hs1 hv1
 have hlen1:nd1.edges.length≤300:=hsm1.edges t nd1 hGt1
 go_wp2_with fail
 go_loopw [7,57] (fun sv i wr=>∃ k:Nat,k≤nd1.edges.length∧i = .int .i64 k∧wr.ownsRow 0 5 1 sv (edgeText s1.ids (nd1.edges.take k)).length ((edgeText s1.ids (nd1.edges.take k)).map byteC)∧Past w1.heap.size sv∧Below w1.heap.size w1 wr)
  (fun _ i _=>nd1.edges.length - (intOf i).toNat)
 case atStart=>exact ⟨0,Nat.zero_le _,rfl,World.ownsRow_nil _ _ _ _,(fun k hk=>by cases hk),Below.refl _ _⟩
 case round =>
  obtain ⟨k,hk,rfl,hrow,hpast,hbl⟩:=hrel
  by_cases hlt:k < nd1.edges.length
  ·obtain ⟨c',t',hct⟩:∃ c' t',nd1.edges[k]?=some (c',t'):=⟨_,_,List.getElem?_eq_getElem hlt⟩
   obtain ⟨g1,cap1',e1,ek0,ek1⟩:=(hs1h.out.below hbl).edgeCells hGt1 hct
   rw [hv1'.out] at e1
   simp only [Value.slice.injEq,true_and] at e1
   obtain ⟨rfl,rfl⟩:=e1
   unfold ptrV at ek1
   have hW:=hs1h.out.below hbl
   have htl:(edgeText s1.ids (nd1.edges.take k)).length≤1200:=by have:=edgeText_length hsm1 (nd1.edges.take k); rw [List.length_take] at this; omega
   have hid':=hsm1.idOf t'
   have hstep:=Lib.hid (edgeText_step hsm1 hct)
   go_wp2_with fail
   refine wp_region_ord [(0,false),(1,false),(2,false),(5,false),(6,false),(7,false),(8,false),(9,false),(10,false),(11,false),(3,true),(4,true),(12,true),(13,false)]
    (fun w'=>Below w1.heap.size w1 w'∧w'.heap[wr.heap.size]?=some (.cells #[.int .u8 c'.toNat,.pointer (some ⟨t',0,none⟩)] 284 (0,0))) (by kernel_rfl) (by kernel_rfl) ?_ ?_
   ·exact ⟨(hbl.alloc hbl.size _).drew,heap_alloc_new _ _⟩
   have hpW:∀ W,Below w1.heap.size w1 W→(Instr.lookup 276 (.map (some ib)) (.pointer (some ⟨t',0,none⟩)) false).run Tryz.prog W = .ok (.int .i64 (idOf s1.ids t')) W :=
    fun W hB=>(hs1h.out.below hB).lookId (hs1h.out.toIn t nd1 hGt1 (c',t') (List.mem_of_getElem? hct))
   have HpW:=Lib.hid hpW
   clear hpW
   iterate 10 (
    refine wpOrd_quiet ?_ rfl rfl (fun w' hS=>?_) ?_
    rotate_left
    ·have hS1:=hS.1
     have hS2:=hS.2
     have f0:w'.cell? ⟨wr.heap.size,0,none⟩=some (.int .u8 c'.toNat):=cell_block hS2
     have f1:w'.cell? ⟨wr.heap.size,1,none⟩=some (.pointer (some ⟨t',0,none⟩)):=cell_block hS2
     have f2:w'.cell? ⟨bb,1,none⟩=some (.map (some ib)):=cell_block (hs1h.out.below hS1).bld
     have f3:=HpW.out w' hS1
     clear hS hS1 hS2
     go_simp
     first | rfl | done
    simp only [put_lit,List.set_cons_succ,List.set_cons_zero])
   refine wpOrd_loud rfl rfl (by decide) (fun K hK=>?_)
   go_simp
   have hB3:Below w1.heap.size w1 ((wr.alloc (.cells #[.int .u8 c'.toNat,.pointer (some ⟨t',0,none⟩)] 284)).alloc (.cells #[.int .u8 c'.toNat] 5)).drew :=
    ((hbl.alloc hbl.size _).alloc (by have:=hbl.size; simp; omega) _).drew
   have hF3:((wr.alloc (.cells #[.int .u8 c'.toNat,.pointer (some ⟨t',0,none⟩)] 284)).alloc (.cells #[.int .u8 c'.toNat] 5)).drew.heap[wr.heap.size]?=some (.cells #[.int .u8 c'.toNat,.pointer (some ⟨t',0,none⟩)] 284 (0,0)) :=
    heap_alloc2_old _ _ _
   have hrow3:((wr.alloc (.cells #[.int .u8 c'.toNat,.pointer (some ⟨t',0,none⟩)] 284)).alloc (.cells #[.int .u8 c'.toNat] 5)).drew.ownsRow 0 5 1 u7 (edgeText s1.ids (nd1.edges.take k)).length ((edgeText s1.ids (nd1.edges.take k)).map byteC) :=
    ((hrow.alloc _).alloc _).drew
   have hc3:∀ j u,[Value.int .u8 c'.toNat][j]?=some u→((wr.alloc (.cells #[.int .u8 c'.toNat,.pointer (some ⟨t',0,none⟩)] 284)).alloc (.cells #[.int .u8 c'.toNat] 5)).drew.cell? ((⟨wr.heap.size+1,0,none⟩:Addr).add j)=some u:=by
    have:=cell_one_new (wr.alloc (.cells #[.int .u8 c'.toNat,.pointer (some ⟨t',0,none⟩)] 284)) (.int .u8 c'.toNat) 5
    simpa using this
   have hsz3:((wr.alloc (.cells #[.int .u8 c'.toNat,.pointer (some ⟨t',0,none⟩)] 284)).alloc (.cells #[.int .u8 c'.toNat] 5)).drew.heap.size=wr.heap.size+2:=by simp
   generalize ((wr.alloc (.cells #[.int .u8 c'.toNat,.pointer (some ⟨t',0,none⟩)] 284)).alloc (.cells #[.int .u8 c'.toNat] 5)).drew=W3 at *
   refine hK _ _ ⟨hB3,hF3⟩ ?_
   clear hK K
   refine wpOrd_loud rfl rfl (by decide) (fun K hK=>?_)
   obtain ⟨i0,hi,hz0,hz1,hz2⟩:=info_parts Tryz.tsInfo5
   refine wp_append_lies _ _ 42 rfl 5 i0 (.int .u8 0) 1 1 Tryz.underlying42 hi hz0 hz1 hz2 rfl (by decide) _ _ _ rfl hrow3 ⟨wr.heap.size+1,0,none⟩ 1 1 [.int .u8 c'.toNat] rfl rfl hc3 (by simp [Value.oneCell']) (by decide) (by unfold maxLen; omega) (by omega) ?_
   intro v4 W4 hrow4 hgrow4 hlies4
   have hpast4:Past w1.heap.size v4:=(Moves.append hgrow4 hlies4).past hpast (by have:=hB3.size; omega)
   have hB4:Below w1.heap.size w1 W4:=hB3.grown hgrow4 (by have:=hB3.size; omega) hpast
   have hFne:u7.ownBlock≠some wr.heap.size:=fun e=>by have:=(hrow.lt _ e).2; omega
   have hF4:W4.heap[wr.heap.size]?=some (.cells #[.int .u8 c'.toNat,.pointer (some ⟨t',0,none⟩)] 284 (0,0)) :=
    (hgrow4.block _ (by omega) (Ne.symm hFne)).trans hF3
   have hmv4:=Moves.append hgrow4 hlies4
   clear hgrow4 hlies4
   refine hK _ _ ⟨hB4,hF4⟩ ?_
   clear hK K
   simp only [put_lit,List.set_cons_succ,List.set_cons_zero]
   refine wpOrd_loud rfl rfl (by decide) (fun K hK=>?_)
   go_simp
   refine (put_any v4 _ _ (idOf s1.ids t') W4 hid' (by omega) hrow4).mono ?_
   rintro e W5 ⟨v5,rfl,hrow5,hmv5⟩
   have hB5:Below w1.heap.size w1 W5:=hmv5.below hpast4 hB4 hB4.size
   have hF5:W5.heap[wr.heap.size]?=some (.cells #[.int .u8 c'.toNat,.pointer (some ⟨t',0,none⟩)] 284 (0,0)):=by
    refine (hmv5.block (by have:=hmv4.size; omega) ?_).trans hF4
    rcases hmv4.lies with h | ⟨g',h,hg'⟩
    ·rw [h]; exact hFne
    ·rw [h]; intro e; cases e; omega
   have hpast5:=hmv5.past hpast4 hB4.size
   refine hK _ _ ⟨hB5,hF5⟩ ?_
   clear hK K
   refine wpOrd_quiet ?_ rfl rfl (fun w' hS=>?_) ?_
   rotate_left
   ·go_simp
    first | rfl | done
   refine wpOrd_nil ?_
   rw [← hstep.out.1,← hstep.out.2] at hrow5
   go_wp2
   exact ⟨⟨k+1,by omega,by go_num,hrow5,hpast5,hB5⟩,by simp [intOf]; omega⟩
  ·obtain rfl:k=nd1.edges.length:=by omega
   rw [List.take_length] at hrow
   have hW:=Lib.hid (hs1h.out.below hbl)
   have hcv:∀ W,Below wr.heap.size wr W→(convert 42 9 u7).run Tryz.prog W = .ok (.string ⟨(edgeText s1.ids nd1.edges).toArray⟩) W:=fun W hB =>
    conv_row Tryz.underlying42 Tryz.underlying5 Tryz.underlying9 rfl (ownsRow_block hrow fun k hk=>hB.block k (hrow.lt k hk).2)
   have HCV:=Lib.hid hcv
   clear hcv
   have dt0:wr.cell? ⟨t,0,none⟩=some (.bool nd1.final):=(hW.out.nodeCells hGt1).1
   have de1:wr.cell? ⟨g,es.length * 2+1,none⟩=some (.pointer (some ⟨t,0,none⟩)):=by
    rw [hbl.cell (by exact lt_of_cell ce1)]; exact ce1
   have lg:=lt_of_cell de1
   have lt':=lt_of_cell dt0
   go_wp2_with fail
   refine wp_region_ord [(0,false),(1,false),(2,false),(3,false),(4,false),(5,false),(6,false),(7,false),(8,false),(9,false),(10,true),(11,true)]
    (fun w'=>Below wr.heap.size wr w') (by kernel_rfl) (by kernel_rfl) ?_ ?_
   ·exact (Below.refl _ wr).drew
   iterate 10 (
    refine wpOrd_quiet ?_ rfl rfl (fun w' hS=>?_) ?_
    rotate_left
    ·have f0:w'.cell? ⟨t,0,none⟩=some (.bool nd1.final):=(hS.cell (p:=⟨t,0,none⟩) lt').trans dt0
     have f1:w'.cell? ⟨g,es.length * 2+1,none⟩=some (.pointer (some ⟨t,0,none⟩)):=(hS.cell (p:=⟨g,_,none⟩) lg).trans de1
     have f3:=HCV.out w' hS
     clear hS
     go_simp
     first | rfl | done
    simp only [put_lit,List.set_cons_succ,List.set_cons_zero])
   refine wpOrd_loud rfl rfl (by decide) (fun K hK=>?_)
   go_simp
   refine hK _ _ ?_ ?_
   ·exact ((Below.refl _ wr).alloc (Nat.le_refl _) _).drew
   clear hK K
   refine wpOrd_loud rfl rfl (by decide) (fun K hK=>?_)
   go_simp
   refine hK _ _ ?_ ?_
   ·exact ((Below.refl _ wr).alloc (Nat.le_refl _) _).drew
   clear hK K
   refine wpOrd_nil ?_
   go_wp2_with fail
   have hBk:Below wr.heap.size wr (wr.alloc (.cells #[.bool nd1.final,.string ⟨(edgeText s1.ids nd1.edges).toArray⟩] 374)).drew:=((Below.refl _ wr).alloc (Nat.le_refl _) _).drew
   have hKk:(wr.alloc (.cells #[.bool nd1.final,.string ⟨(edgeText s1.ids nd1.edges).toArray⟩] 374)).drew.heap[wr.heap.size]?=some (.cells #[.bool nd1.final,.string ⟨(edgeText s1.ids nd1.edges).toArray⟩] 374 (0,0)):=heap_alloc_new _ _
   generalize (wr.alloc (.cells #[.bool nd1.final,.string ⟨(edgeText s1.ids nd1.edges).toArray⟩] 374)).drew=Wk at *
   have hSk:=hW.out.below hBk
   have k0:Wk.cell? ⟨wr.heap.size,0,none⟩=some (.bool nd1.final):=cell_block hKk
   have k1:Wk.cell? ⟨wr.heap.size,1,none⟩=some (.string ⟨(edgeText s1.ids nd1.edges).toArray⟩):=cell_block hKk
   have kb0:Wk.cell? ⟨bb,0,none⟩=some (.map (some kb)):=cell_block hSk.bld
   have kb1:Wk.cell? ⟨bb,1,none⟩=some (.map (some ib)):=cell_block hSk.bld
   have hlk:∀ m,(Instr.lookup 275 (.map (some kb)) (.agg #[.bool nd1.final,.string ⟨(edgeText s1.ids nd1.edges).toArray⟩]) true).run Tryz.prog (Wk.drewN m) =
     .ok (.tuple #[((get s1.kn (shapeOf s1.ids nd1)).map ptrV).getD (.pointer none),.bool (get s1.kn (shapeOf s1.ids nd1)).isSome]) (Wk.drewN m):=fun m=>(hSk.same (Same.drewN Wk m)).lookShape (shapeOf s1.ids nd1)
   clear ct0 cn0 ce1 b0 b1 dt0 de1 lg lt' HCV
   have HKk:=Lib.hid hKk
   clear hKk
   unfold hook at HP
   have HSk:=Lib.hid hSk
   have hmg:∀ m,get s1.kn (shapeOf s1.ids nd1)=some m→(s1.G m).isSome:=fun m h=>hs1h.out.knIn _ (get_some_mem h)
   have hBB:Below B w Wk:=by
    have x1:Below B w w1:=(Same.drewN w _).below B |>.trans hb1
    have x2:Below B w1 wr:=hbl.mono (by have:=hb1.size; have:=(hs1h.out.nodes.ge n nd hGn1).1; have:=lt_of_heap (hs1h.out.nodes.node n nd hGn1); omega)
    have x3:Below B wr Wk:=hBk.mono (by have:=hbl.size; have:=(hs1h.out.nodes.ge n nd hGn1).1; have:=lt_of_heap (hs1h.out.nodes.node n nd hGn1); omega)
    exact x1.trans (x2.trans x3)
   clear hSk hBk hW
   cases hget:get s1.kn (shapeOf s1.ids nd1) with
   | some m =>
    have hmG:=hmg m hget
    rw [hget] at hlk HP
    clear hmg hget
    simp only [Option.map_some,Option.getD_some,Option.isSome_some,ptrV] at hlk
    have hrel:=Lib.hid (HSk.out.relink hGn1 hedges HV.out hmG)
    have cg:Wk.cell? ⟨g,es.length * 2+1,none⟩=some (.pointer (some ⟨t,0,none⟩)):=by
     obtain ⟨g',cap',e1,_,e3⟩:=HSk.out.edgeCells hGn1 (i:=es.length) (c:=c) (t:=t) (by rw [hedges]; simp)
     have eb:=congrArg Value.ownBlock (HV.out.symm.trans e1)
     simp [Value.ownBlock] at eb
     subst eb
     exact e3
    have fg:Wk.frozen? ⟨g,es.length * 2+1,none⟩=false:=by
     have hr:=HSk.out.nodes.row n nd hGn1
     rw [hedges,HV.out] at hr
     simp only [List.length_append,List.length_cons,List.length_nil,Nat.zero_add] at hr
     exact hr.frozenAt _
    have hgB:B≤g:=(HSk.out.nodes.ge n nd hGn1).2 g (by rw [HV.out]; rfl)
    go_quiet (fail)
    go_wp2_with fail
    refine bodyPost_ret (results_none rfl _ _ _) rfl ?_
    refine ⟨rfl,?_,?_⟩
    ·rw [HP.out]
     have e1:nd.edges.dropLast++[((nd.edges.getLast?.map (·.1)).getD 0,m)]=es++[(c,m)]:=by rw [hedges]; simp
     rw [e1]
     exact hrel.out.same (Same.drewN _ _)
    ·exact (hBB.setCell (p:=⟨g,_,none⟩) hgB _).trans ((Same.drewN _ _).below B)
   | none =>
    rw [hget] at hlk HP
    clear hmg hget
    simp only [Option.map_none,Option.getD_none,Option.isSome_none] at hlk
    have htG:(s1.G t).isSome:=by rw [hGt1]; rfl
    have e1:∀ W,Same Wk W→W.cell? ⟨g,es.length * 2+1,none⟩=some (.pointer (some ⟨t,0,none⟩)):=fun W hS=>by
     obtain ⟨g',cap',e1,_,e3⟩:=(HSk.out.same hS).edgeCells hGn1 (i:=es.length) (c:=c) (t:=t) (by rw [hedges]; simp)
     have eb:=congrArg Value.ownBlock (HV.out.symm.trans e1)
     simp [Value.ownBlock] at eb
     subst eb
     exact e3
    have E1:=Lib.hid e1
    clear e1
    go_quiet (fail)
    go_wp2_with fail
    obtain ⟨Wl,hSl,rfl⟩:∃ Wl,Same Wk Wl∧Wl=Wk.drewN nq:=⟨_,Same.drewN _ _,rfl⟩
    generalize Wk.drewN nq=Wl at *
    have cl0:Wl.cell? ⟨wr.heap.size,0,none⟩=some (.bool nd1.final):=(hSl.cell _).trans k0
    have cl1:Wl.cell? ⟨wr.heap.size,1,none⟩=some (.string ⟨(edgeText s1.ids nd1.edges).toArray⟩):=(hSl.cell _).trans k1
    have cl2:Wl.cell? ⟨bb,0,none⟩=some (.map (some kb)):=(hSl.cell _).trans kb0
    have cl3:Wl.cell? ⟨bb,1,none⟩=some (.map (some ib)):=(hSl.cell _).trans kb1
    have cl4:=E1.out Wl hSl
    have hSL:=Lib.hid (HSk.out.same hSl)
    clear k0 k1 kb0 kb1 hlk
    have nk:wr.heap.size≠kb:=by have:=(hs1h.out.kn.lt); have:=hbl.size; omega
    have ni:wr.heap.size≠ib:=by have:=(hs1h.out.ids.lt); have:=hbl.size; omega
    obtain ⟨nbk,nbi⟩:=hs1h.out.mapsApart
    obtain ⟨_,ngk,ngi,_⟩:=hs1h.out.rowBlock hGn1 (g:=g) (by rw [HV.out]; rfl)
    refine wp_region_ord [(0,false),(1,false),(2,false),(3,false),(4,false),(5,false),(6,false),(7,false),(8,false),(9,true)]
     (fun w'=>w'.cell? ⟨wr.heap.size,0,none⟩=some (.bool nd1.final)∧w'.cell? ⟨wr.heap.size,1,none⟩=some (.string ⟨(edgeText s1.ids nd1.edges).toArray⟩)∧w'.cell? ⟨bb,0,none⟩=some (.map (some kb)) ∧
      w'.cell? ⟨bb,1,none⟩=some (.map (some ib))∧w'.cell? ⟨g,es.length * 2+1,none⟩=some (.pointer (some ⟨t,0,none⟩))) (by kernel_rfl) (by kernel_rfl) ?_ ?_
    ·exact ⟨cl0,cl1,cl2,cl3,cl4⟩
    iterate 9 (
     refine wpOrd_quiet ?_ rfl rfl (fun w' hS=>?_) ?_
     rotate_left
     ·obtain ⟨f0,f1,f2,f3,f4⟩:=hS
      go_simp
      first | rfl | done
     simp only [put_lit,List.set_cons_succ,List.set_cons_zero])
    refine wpOrd_loud rfl rfl (by decide) (fun K hK=>?_)
    have hSL1:=hSL.out.same (Same.drew Wl)
    obtain ⟨W2,hrun2,hmap2,hg2,hz2⟩:=MapIs.update shape_law hSL1.kn (shapeOf s1.ids nd1) trivial (fun _ _=>trivial) Tryz.underlying275 (ptrV t)
    have hrun2':(Instr.mapUpdate 275 (.map (some kb)) (.agg #[.bool nd1.final,.string ⟨(edgeText s1.ids nd1.edges).toArray⟩]) (.pointer (some ⟨t,0,none⟩))).run Tryz.prog Wl.drew = .ok () W2:=hrun2
    clear hrun2
    go_simp
    have HS2:=Lib.hid (hSL1.learn htG hg2 hmap2)
    have cm0:W2.cell? ⟨wr.heap.size,0,none⟩=some (.bool nd1.final):=World.grownBy.cell hg2 cl0 (fun e=>nk (Option.some.inj e))
    have cm1:W2.cell? ⟨wr.heap.size,1,none⟩=some (.string ⟨(edgeText s1.ids nd1.edges).toArray⟩):=World.grownBy.cell hg2 cl1 (fun e=>nk (Option.some.inj e))
    have cm2:W2.cell? ⟨bb,0,none⟩=some (.map (some kb)):=World.grownBy.cell hg2 cl2 (fun e=>nbk (Option.some.inj e))
    have cm3:W2.cell? ⟨bb,1,none⟩=some (.map (some ib)):=World.grownBy.cell hg2 cl3 (fun e=>nbk (Option.some.inj e))
    have cm4:W2.cell? ⟨g,es.length * 2+1,none⟩=some (.pointer (some ⟨t,0,none⟩)):=World.grownBy.cell hg2 cl4 (fun e=>ngk (Option.some.inj e))
    have hB2:Below B w W2:=(hBB.trans (hSl.below B)).drew.grown hg2 (by have:=(hs1h.out.nodes.ge n nd hGn1).1; have:=lt_of_heap (hSL1.nodes.node n nd hGn1); omega) (fun k hk=>by cases hk; exact hs1h.out.kb_ge)
    refine hK _ _ ⟨cm0,cm1,cm2,cm3,cm4⟩ ?_
    clear hK K hrun2' hmap2 hg2 cl0 cl1 cl2 cl3 cl4
    refine wpOrd_nil ?_
    go_wp2_with fail
    have tc:∀ W,Same W2 W→(∀ p∈vals intV s1.ids,cellsAt W p.1)∧cellsAt W t:=fun W hS=>⟨(HS2.out.same hS).idsCells,(HS2.out.same hS).cellsAt htG⟩
    refine wp_region_ord [(0,false),(1,false),(2,false),(3,false),(4,false),(5,false),(6,false),(7,false),(8,false),(9,false),(10,false),(11,false),(12,true),(13,true)]
     (fun w'=>w'.cell? ⟨bb,1,none⟩=some (.map (some ib))∧w'.cell? ⟨g,es.length * 2+1,none⟩=some (.pointer (some ⟨t,0,none⟩))) (by kernel_rfl) (by kernel_rfl) ?_ ?_
    ·exact ⟨cm3,cm4⟩
    iterate 12 (
     refine wpOrd_quiet ?_ rfl rfl (fun w' hS=>?_) ?_
     rotate_left
     ·obtain ⟨f0,f1⟩:=hS
      go_simp
      first | rfl | done
     simp only [put_lit,List.set_cons_succ,List.set_cons_zero])
    refine wpOrd_loud rfl rfl (by decide) (fun K hK=>?_)
    obtain ⟨ies,ic,hib,_⟩:=HS2.out.ids
    have hisz:ies.size=s1.ids.length:=by rw [MapIs.len hib HS2.out.ids]; simp [vals]
    have hrunl:(Builtin.len_ #[276] 3 #[.map (some ib)]).run Tryz.prog W2.drew = .ok (.int .i64 s1.ids.length) W2.drew:=by
     rw [← hisz]
     unfold Builtin.len_
     simp only [Sem.run_bind,List.getElem?_toArray,List.getElem?_cons_zero,run_underlying Tryz.underlying276,Result.andThen_ok]
     rw [getObj_run (w:=W2.drew) hib]
     rfl
    clear hib hisz
    go_simp
    refine hK _ _ ⟨cm3,cm4⟩ ?_
    clear hK K hrunl
    refine wpOrd_loud rfl rfl (by decide) (fun K hK=>?_)
    have hS2:=HS2.out.same (Same.drew W2)
    obtain ⟨W3,hrun3,hmap3,hg3,hz3⟩:=MapIs.update node_law hS2.ids t (hS2.cellsAt htG) hS2.idsCells Tryz.underlying276 (intV s1.ids.length)
    have hrun3':(Instr.mapUpdate 276 (.map (some ib)) (.pointer (some ⟨t,0,none⟩)) (.int .i64 s1.ids.length)).run Tryz.prog W2.drew = .ok () W3:=hrun3
    clear hrun3
    go_simp
    have cn3:W3.cell? ⟨bb,1,none⟩=some (.map (some ib)):=World.grownBy.cell hg3 cm3 (fun e=>nbi (Option.some.inj e))
    have cn4:W3.cell? ⟨g,es.length * 2+1,none⟩=some (.pointer (some ⟨t,0,none⟩)):=World.grownBy.cell hg3 cm4 (fun e=>ngi (Option.some.inj e))
    have hS3:=hS2.count htG hg3 hmap3
    have hB3:Below B w W3:=hB2.drew.grown hg3 (by have:=hB2.size; have:=(hs1h.out.nodes.ge n nd hGn1).1; have:=lt_of_heap (hS2.nodes.node n nd hGn1); simp at this; simp; omega) (fun k hk=>by cases hk; exact hs1h.out.ib_ge)
    refine hK _ _ ⟨cn3,cn4⟩ ?_
    clear hK K hrun3' hmap3 hg3 cm0 cm1 cm2 cm3 cm4
    refine wpOrd_nil ?_
    go_wp2_with fail
    refine bodyPost_end (results_none rfl _ _ _) rfl ?_
    refine ⟨rfl,?_,hB3⟩
    rw [HP.out]
    exact hS3
theorem settle_any (B bb kb ib:Nat):∀ (ts:List Nat) (s:St) (n:Nat) (w:World),StIn B bb kb ib w s→Way s n ts→Small s→s.ids.length+ts.length < 1000000 →
  Calls Tryz.prog 139 #[ptrV bb,ptrV n] w fun e w'=>e = .returned (.tuple #[])∧StIn B bb kb ib w' (settleP ts s n)∧Below B w w'
 | [],s,n,w,hs,hw,_,_=>settle_none B bb kb ib s n w hs hw
 | t :: ts,s,n,w,hs,hw,hsm,hl=>settle_some B bb kb ib t ts (fun s w=>settle_any B bb kb ib ts s t w) s n w hs hw hsm hl
end Go.Proofs.Ts
namespace Go.Proofs.Ts
open Go Go.RowKit
def vbytes (n:Nat):List UInt8:=(vint n).map UInt8.ofNat
theorem vbytes_small {n:Nat} (h:n < 128):vbytes n=[UInt8.ofNat n]:=by simp [vbytes,vint_small h]
theorem vbytes_big {n:Nat} (h:128≤n):vbytes n=UInt8.ofNat (n % 128+128) :: vbytes (n / 128):=by simp [vbytes,vint_big h]
theorem ofNat_lt {a:Nat} (h:a < 256):(UInt8.ofNat a).toNat=a:=by simp [UInt8.toNat_ofNat']; omega
theorem vbytes_inj:∀ (a b:Nat) (x y:List UInt8),vbytes a++x=vbytes b++y→a=b∧x=y:=by
 intro a
 induction a using Nat.strongRecOn with
 | _ a ih =>
  intro b x y h
  by_cases ha:a < 128
  ·by_cases hb:b < 128
   ·rw [vbytes_small ha,vbytes_small hb] at h
    simp only [List.cons_append,List.nil_append,List.cons.injEq] at h
    have:=congrArg UInt8.toNat h.1
    rw [ofNat_lt (by omega),ofNat_lt (by omega)] at this
    exact ⟨this,h.2⟩
   ·rw [vbytes_small ha,vbytes_big (show 128≤b by omega)] at h
    simp only [List.cons_append,List.nil_append,List.cons.injEq] at h
    have:=congrArg UInt8.toNat h.1
    rw [ofNat_lt (by omega),ofNat_lt (by omega)] at this
    omega
  ·by_cases hb:b < 128
   ·rw [vbytes_big (show 128≤a by omega),vbytes_small hb] at h
    simp only [List.cons_append,List.nil_append,List.cons.injEq] at h
    have:=congrArg UInt8.toNat h.1
    rw [ofNat_lt (by omega),ofNat_lt (by omega)] at this
    omega
   ·rw [vbytes_big (show 128≤a by omega),vbytes_big (show 128≤b by omega)] at h
    simp only [List.cons_append,List.nil_append,List.cons.injEq] at h
    have h1:=congrArg UInt8.toNat h.1
    rw [ofNat_lt (by omega),ofNat_lt (by omega)] at h1
    obtain ⟨h2,h3⟩:=ih (a / 128) (by omega) (b / 128) x y h.2
    exact ⟨by omega,h3⟩
theorem edgeText_inj {ids:List (Nat × Nat)} (hinj:∀ a b,(get ids a).isSome→(get ids b).isSome→idOf ids a=idOf ids b→a=b) :
  ∀ (es fs:List (UInt8 × Nat)),(∀ e∈es,(get ids e.2).isSome)→(∀ e∈fs,(get ids e.2).isSome)→edgeText ids es=edgeText ids fs→es=fs
 | [],[],_,_,_=>rfl
 | [],f :: fs,_,_,h=>by simp [edgeText] at h
 | e :: es,[],_,_,h=>by simp [edgeText] at h
 | e :: es,f :: fs,he,hf,h=>by
  have h':e.1 :: (vbytes (idOf ids e.2)++edgeText ids es)=f.1 :: (vbytes (idOf ids f.2)++edgeText ids fs):=by simpa [edgeText,vbytes] using h
  simp only [List.cons.injEq] at h'
  obtain ⟨h1,h2⟩:=vbytes_inj _ _ _ _ h'.2
  have h3:=hinj _ _ (he e List.mem_cons_self) (hf f List.mem_cons_self) h1
  have h4:=edgeText_inj hinj es fs (fun x hx=>he x (List.mem_cons_of_mem _ hx)) (fun x hx=>hf x (List.mem_cons_of_mem _ hx)) h2
  rw [h4]
  congr 1
  exact Prod.ext h'.1 h3
end Go.Proofs.Ts
namespace Go.Proofs.Ts
open Go Go.RowKit
abbrev Word:=List UInt8
def wordsAt (f:Bool) (es:List (UInt8 × Nat)) (L:Nat→List Word):List Word:=(if f then [[]] else [])++es.flatMap fun p=>(L p.2).map (p.1 :: ·)
def Settled (s:St) (n:Nat):Prop:=(get s.ids n).isSome
def Asc (es:List (UInt8 × Nat)):Prop:=es.Pairwise fun p q=>p.1 < q.1
structure Numbered (s:St) (L:Nat→List Word):Prop where
 apart:Apart s.ids
 nums:∀ (i:Nat) (p:Nat × Nat),s.ids[i]?=some p→p.2=i
 node:∀ n,Settled s n → ∃ nd,s.G n=some nd∧Asc nd.edges∧(∀ p∈nd.edges,Settled s p.2∧idOf s.ids p.2 < idOf s.ids n)∧L n=wordsAt nd.final nd.edges L
 known:∀ p∈s.kn,Settled s p.2 ∧ ∃ nd,s.G p.2=some nd∧shapeOf s.ids nd=p.1
def Sp (s:St) (L:Nat→List Word):Nat→List UInt8→List Nat→List Word→Prop
 | n,[],[],W=>∃ nd,s.G n=some nd∧get s.ids n=none∧Asc nd.edges∧(∀ p∈nd.edges,Settled s p.2)∧W=wordsAt nd.final nd.edges L
 | n,c :: u,m :: ns,W=>∃ nd es V,s.G n=some nd∧get s.ids n=none∧Asc nd.edges∧nd.edges=es++[(c,m)]∧(∀ p∈es,Settled s p.2) ∧ ¬ n∈m :: ns∧Sp s L m u ns V ∧
   W=wordsAt nd.final es L++V.map (c :: ·)
 | _,_,_,_=>False
def FI (s:St) (root:Nat) (u:List UInt8) (ns:List Nat) (W:List Word):Prop:=∃ L,Numbered s L∧Sp s L root u ns W
def nodeAt (root:Nat) (ns:List Nat) (p:Nat):Nat:=(root :: ns).getD p 0
theorem Sp.len {s:St} {L:Nat→List Word}:∀ (u:List UInt8) (ns:List Nat) (n:Nat) (W:List Word),Sp s L n u ns W→ns.length=u.length
 | [],[],_,_,_=>rfl
 | c :: u,m :: ns,n,W,h=>by
  obtain ⟨nd,es,V,_,_,_,_,_,_,h2,_⟩:=h
  simp [Sp.len u ns m V h2]
 | [],_ :: _,_,_,h=>h.elim
 | _ :: _,[],_,_,h=>h.elim
theorem Sp.step {s:St} {L:Nat→List Word}:∀ (u:List UInt8) (ns:List Nat) (n:Nat) (W:List Word),Sp s L n u ns W → ∀ i,i < u.length → ∃ nd es,s.G (nodeAt n ns i)=some nd∧nd.edges=es++[(u.getD i 0,nodeAt n ns (i+1))]
 | [],[],_,_,_,i,hi=>by simp at hi
 | c :: u,m :: ns,n,W,h,i,hi=>by
  obtain ⟨nd,es,V,h1,_,_,h3,_,_,h2,_⟩:=h
  cases i with
  | zero=>exact ⟨nd,es,h1,h3⟩
  | succ i =>
   obtain ⟨nd',es',e1,e2⟩:=Sp.step u ns m V h2 i (by simpa using hi)
   exact ⟨nd',es',e1,by simpa [nodeAt] using e2⟩
 | [],_ :: _,_,_,h,_,_=>h.elim
 | _ :: _,[],_,_,h,_,_=>h.elim
theorem Sp.leaf {s:St} {L:Nat→List Word}:∀ (u:List UInt8) (ns:List Nat) (n:Nat) (W:List Word),Sp s L n u ns W → ∃ nd,s.G (nodeAt n ns u.length)=some nd∧Asc nd.edges
 | [],[],n,_,h=>by
  obtain ⟨nd,h1,_,h2,_⟩:=h
  exact ⟨nd,h1,h2⟩
 | c :: u,m :: ns,n,W,h=>by
  obtain ⟨nd,es,V,_,_,_,_,_,_,h2,_⟩:=h
  exact Sp.leaf u ns m V h2
 | [],_ :: _,_,_,h=>h.elim
 | _ :: _,[],_,_,h=>h.elim
theorem FI.len {s:St} {root:Nat} {u:List UInt8} {ns:List Nat} {W:List Word} (h:FI s root u ns W):ns.length=u.length:=by
 obtain ⟨L,_,hs⟩:=h
 exact Sp.len _ _ _ _ hs
theorem FI.step {s:St} {root:Nat} {u:List UInt8} {ns:List Nat} {W:List Word} (h:FI s root u ns W) {i:Nat} (hi:i < u.length) :
  ∃ nd es,s.G (nodeAt root ns i)=some nd∧nd.edges=es++[(u.getD i 0,nodeAt root ns (i+1))]:=by
 obtain ⟨L,_,hs⟩:=h
 exact Sp.step _ _ _ _ hs i hi
theorem FI.leaf {s:St} {root:Nat} {u:List UInt8} {ns:List Nat} {W:List Word} (h:FI s root u ns W):∃ nd,s.G (nodeAt root ns u.length)=some nd∧Asc nd.edges:=by
 obtain ⟨L,_,hs⟩:=h
 exact Sp.leaf _ _ _ _ hs
def Bare (s:St) (root:Nat) (u:List UInt8) (ns:List Nat):Prop:=∀ nd,s.G (nodeAt root ns u.length)=some nd→nd.edges=[]
theorem Sp.head {s:St} {L:Nat→List Word}:∀ (u:List UInt8) (ns:List Nat) (n:Nat) (W:List Word),Sp s L n u ns W→get s.ids n=none
 | [],[],n,_,h=>by
  obtain ⟨nd,_,h2,_⟩:=h
  exact h2
 | c :: u,m :: ns,n,W,h=>by
  obtain ⟨nd,es,V,_,h2,_⟩:=h
  exact h2
 | [],_ :: _,_,_,h=>h.elim
 | _ :: _,[],_,_,h=>h.elim
theorem Sp.way {s:St} {L:Nat→List Word}:∀ (u:List UInt8) (ns:List Nat) (n:Nat) (W:List Word),Sp s L n u ns W→(∀ nd,s.G (nodeAt n ns u.length)=some nd→nd.edges=[])→Way s n ns
 | [],[],n,_,h,he=>by
  obtain ⟨nd,h1,_⟩:=h
  exact ⟨nd,h1,he nd h1⟩
 | c :: u,m :: ns,n,W,h,he=>by
  obtain ⟨nd,es,V,h1,h2,h3,h4,h5,h6,h7,_⟩:=h
  have hw:=Sp.way u ns m V h7 he
  refine ⟨⟨nd,c,es,h1,h4⟩,Sp.head u ns m V h7,fun e=>h6 (by rw [e]; exact List.mem_cons_self),fun hm=>h6 (List.mem_cons_of_mem _ hm),hw⟩
 | [],_ :: _,_,_,h,_=>h.elim
 | _ :: _,[],_,_,h,_=>h.elim
theorem Sp.drop {s:St} {L:Nat→List Word}:∀ (u:List UInt8) (ns:List Nat) (n:Nat) (W:List Word) (p:Nat),Sp s L n u ns W→p≤u.length → ∃ V,Sp s L (nodeAt n ns p) (u.drop p) (ns.drop p) V
 | u,ns,n,W,0,h,_=>⟨W,h⟩
 | [],[],n,_,p+1,h,hp=>by simp at hp
 | c :: u,m :: ns,n,W,p+1,h,hp=>by
  obtain ⟨nd,es,V,_,_,_,_,_,_,h7,_⟩:=h
  obtain ⟨V',hV⟩:=Sp.drop u ns m V p h7 (by simpa using hp)
  exact ⟨V',by simpa [nodeAt] using hV⟩
 | [],_ :: _,_,_,_+1,h,_=>h.elim
 | _ :: _,[],_,_,_+1,h,_=>h.elim
theorem nodeAt_drop (n:Nat) (ns:List Nat) (p i:Nat) (hp:p≤ns.length):nodeAt (nodeAt n ns p) (ns.drop p) i=nodeAt n ns (p+i):=by
 unfold nodeAt
 cases i with
 | zero=>simp
 | succ i =>
  simp only [List.getD_eq_getElem?_getD,List.getElem?_cons_succ,List.getElem?_drop]
  rw [show p+(i+1)=(p+i)+1 by omega,List.getElem?_cons_succ]
theorem FI.way {s:St} {root:Nat} {u:List UInt8} {ns:List Nat} {W:List Word} (h:FI s root u ns W) (he:Bare s root u ns) {p:Nat} (hp:p≤u.length):Way s (nodeAt root ns p) (ns.drop p):=by
 have hl:=h.len
 obtain ⟨L,_,hs⟩:=h
 obtain ⟨V,hV⟩:=Sp.drop _ _ _ _ p hs hp
 refine Sp.way _ _ _ _ hV fun nd hnd=>he nd ?_
 rw [nodeAt_drop _ _ _ _ (by omega),List.length_drop,show p+(u.length - p)=u.length by omega] at hnd
 exact hnd
theorem Numbered.turn {s s':St} {L:Nat→List Word} (h:Numbered s L) (hi:s'.ids=s.ids) (hk:s'.kn=s.kn) (hG:∀ n,Settled s n→s'.G n=s.G n):Numbered s' L:=by
 refine ⟨hi ▸ h.apart,fun i p hp=>h.nums i p (hi ▸ hp),fun n hn=>?_,fun p hp=>?_⟩
 ·have hn':Settled s n:=by unfold Settled at hn ⊢; rw [hi] at hn; exact hn
  obtain ⟨nd,h1,h2,h3,h4⟩:=h.node n hn'
  refine ⟨nd,(hG n hn').trans h1,h2,fun p hp=>?_,h4⟩
  unfold Settled
  rw [hi]
  exact h3 p hp
 ·rw [hk] at hp
  obtain ⟨h1,nd,h2,h3⟩:=h.known p hp
  refine ⟨by unfold Settled; rw [hi]; exact h1,nd,(hG _ h1).trans h2,by rw [hi]; exact h3⟩
theorem Numbered.inj {s:St} {L:Nat→List Word} (h:Numbered s L) (a b:Nat) (ha:(get s.ids a).isSome) (hb:(get s.ids b).isSome) (e:idOf s.ids a=idOf s.ids b):a=b:=by
 obtain ⟨x,hx⟩:=Option.isSome_iff_exists.1 ha
 obtain ⟨y,hy⟩:=Option.isSome_iff_exists.1 hb
 unfold idOf at e
 rw [hx,hy] at e
 simp only [Option.getD_some] at e
 subst e
 obtain ⟨i,hi⟩:=List.getElem?_of_mem (get_some_mem hx)
 obtain ⟨j,hj⟩:=List.getElem?_of_mem (get_some_mem hy)
 have h1:=h.nums i _ hi
 have h2:=h.nums j _ hj
 simp only at h1 h2
 subst h1
 subst h2
 rw [hi] at hj
 exact congrArg Prod.fst (Option.some.inj hj)
theorem Numbered.lt {s:St} {L:Nat→List Word} (h:Numbered s L) {a:Nat} (ha:Settled s a):idOf s.ids a < s.ids.length:=by
 obtain ⟨x,hx⟩:=Option.isSome_iff_exists.1 ha
 unfold idOf
 rw [hx]
 obtain ⟨i,hi⟩:=List.getElem?_of_mem (get_some_mem hx)
 have h1:=h.nums i _ hi
 simp only at h1
 subst h1
 exact (List.getElem?_eq_some_iff.1 hi).1
theorem edgeText_congr (ids ids':List (Nat × Nat)) (es:List (UInt8 × Nat)) (h:∀ e∈es,idOf ids' e.2=idOf ids e.2):edgeText ids' es=edgeText ids es:=by
 unfold edgeText
 rw [List.flatMap_def,List.flatMap_def]
 congr 1
 exact List.map_congr_left fun e he=>by rw [h e he]
theorem wordsAt_congr (f:Bool) (es:List (UInt8 × Nat)) (L Λ:Nat→List Word) (h:∀ e∈es,Λ e.2=L e.2):wordsAt f es Λ=wordsAt f es L:=by
 unfold wordsAt
 rw [List.flatMap_def,List.flatMap_def]
 congr 2
 exact List.map_congr_left fun e he=>by rw [h e he]
theorem Numbered.hook {s:St} {L:Nat→List Word} (h:Numbered s L) {n t:Nat} {c:UInt8} {es:List (UInt8 × Nat)} {ndn ndt:Nd} (hn:s.G n=some ndn) (ht:s.G t=some ndt) (hne:t≠n) (in_:get s.ids n=none) (it:get s.ids t=none)
  (he:ndn.edges=es++[(c,t)]) (hta:Asc ndt.edges) (hts:∀ e∈ndt.edges,Settled s e.2) :
  ∃ L',Numbered (Ts.hook s n t ndn ndt) L'∧(∀ x,Settled s x→Settled (Ts.hook s n t ndn ndt) x∧L' x=L x)∧(∀ x,x≠t→get (Ts.hook s n t ndn ndt).ids x=get s.ids x) ∧
   ∃ m nd',(Ts.hook s n t ndn ndt).G n=some nd'∧nd'.final=ndn.final∧nd'.edges=es++[(c,m)]∧Settled (Ts.hook s n t ndn ndt) m∧L' m=wordsAt ndt.final ndt.edges L:=by
 unfold Ts.hook
 cases hk:get s.kn (shapeOf s.ids ndt) with
 | some m =>
  simp only
  obtain ⟨h1,ndm,h2,h3⟩:=h.known _ (get_some_mem hk)
  simp only at h1 h2 h3
  obtain ⟨ndm',g1,g2,g3,g4⟩:=h.node m h1
  rw [h2] at g1
  cases g1
  unfold shapeOf at h3
  have hf:=congrArg Prod.fst h3
  have hx:=congrArg Prod.snd h3
  simp only at hf hx
  have hedge:=edgeText_inj h.inj ndm.edges ndt.edges (fun e he=>(g3 e he).1) hts hx
  refine ⟨L,h.turn rfl rfl fun x hxs=>?_,fun x hx=>⟨hx,rfl⟩,fun x _=>trivial,m,{ ndn with edges:=es++[(c,m)] },by simp [upd,he],rfl,rfl,h1,by rw [g4,hf,hedge]⟩
  have:x≠n:=fun e=>by unfold Settled at hxs; rw [e,in_] at hxs; cases hxs
  simp [upd,this]
 | none =>
  simp only
  have gp:∀ x,get (put s.ids t s.ids.length) x=if t=x then some s.ids.length else get s.ids x:=fun x=>get_put _ _ _ _
  have hst:¬ Settled s t:=by unfold Settled; rw [it]; simp
  have sne:∀ x,Settled s x→t≠x:=fun x hx e=>hst (e ▸ hx)
  have ido:∀ x,Settled s x→idOf (put s.ids t s.ids.length) x=idOf s.ids x:=fun x hx=>by unfold idOf; rw [gp,if_neg (sne x hx)]
  have idt:idOf (put s.ids t s.ids.length) t=s.ids.length:=by unfold idOf; rw [gp,if_pos rfl]; rfl
  have hS:∀ x,Settled s x→(get (put s.ids t s.ids.length) x).isSome:=fun x hx=>by rw [gp,if_neg (sne x hx)]; exact hx
  have hLe:∀ x,Settled s x→(if x=t then wordsAt ndt.final ndt.edges L else L x)=L x:=fun x hx=>if_neg (Ne.symm (sne x hx))
  have shp:∀ nd:Nd,(∀ e∈nd.edges,Settled s e.2)→shapeOf (put s.ids t s.ids.length) nd=shapeOf s.ids nd:=fun nd hs=>by
   unfold shapeOf
   rw [edgeText_congr _ _ _ fun e he=>ido _ (hs e he)]
  refine ⟨fun x=>if x=t then wordsAt ndt.final ndt.edges L else L x,⟨h.apart.put _ _,fun i p hp=>?_,fun x hx=>?_,fun p hp=>?_⟩,fun x hx=>⟨hS x hx,hLe x hx⟩,fun x hx=>by rw [gp,if_neg (Ne.symm hx)],
   t,ndn,hn,rfl,he,by unfold Settled; simp only; rw [gp,if_pos rfl]; rfl,by simp⟩
  ·simp only at hp
   rw [length_put_none _ it] at hp
   by_cases hi:i < s.ids.length
   ·rw [List.getElem?_append_left hi] at hp
    exact h.nums i p hp
   ·have hi2:i=s.ids.length:=by
     have:=(List.getElem?_eq_some_iff.1 hp).1
     simp at this
     omega
    subst hi2
    simp at hp
    subst hp
    rfl
  ·by_cases hxt:x=t
   ·subst hxt
    refine ⟨ndt,ht,hta,fun p hp=>⟨hS _ (hts p hp),?_⟩,?_⟩
    ·simp only
     rw [ido _ (hts p hp),idt]
     exact h.lt (hts p hp)
    ·simp only [if_pos]
     exact (wordsAt_congr _ _ L _ fun e he=>hLe _ (hts e he)).symm
   ·have hxs:Settled s x:=by
     unfold Settled at hx
     simp only at hx
     rw [gp,if_neg (Ne.symm hxt)] at hx
     exact hx
    obtain ⟨nd,h1,h2,h3,h4⟩:=h.node x hxs
    refine ⟨nd,h1,h2,fun p hp=>⟨hS _ (h3 p hp).1,?_⟩,?_⟩
    ·simp only
     rw [ido _ (h3 p hp).1,ido _ hxs]
     exact (h3 p hp).2
    ·rw [hLe x hxs,h4]
     exact (wordsAt_congr _ _ L _ fun e he=>hLe _ (h3 e he).1).symm
  ·simp only at hp
   rcases mem_put hp with rfl | hp
   ·exact ⟨by unfold Settled; simp only; rw [gp,if_pos rfl]; rfl,ndt,ht,shp ndt hts⟩
   ·obtain ⟨h1,nd,h2,h3⟩:=h.known p hp
    obtain ⟨nd',g1,_,g3,_⟩:=h.node _ h1
    rw [h2] at g1
    cases g1
    exact ⟨hS _ h1,nd,h2,by simp only; rw [shp nd fun e he=>(g3 e he).1]; exact h3⟩
theorem wordsAt_last (f:Bool) (es:List (UInt8 × Nat)) (c:UInt8) (m:Nat) (L:Nat→List Word):wordsAt f (es++[(c,m)]) L=wordsAt f es L++(L m).map (c :: ·):=by simp [wordsAt]
theorem Sp.fresh {s:St} {L:Nat→List Word}:∀ (u:List UInt8) (ns:List Nat) (n:Nat) (W:List Word),Sp s L n u ns W → ¬ n∈ns
 | [],[],n,W,h=>by simp
 | c :: u,m :: ns,n,W,h=>by
  obtain ⟨nd,es,V,_,_,_,_,_,h6,_⟩:=h
  exact h6
 | [],_ :: _,_,_,h=>h.elim
 | _ :: _,[],_,_,h=>h.elim
theorem nodeAt_mem (n:Nat) (ns:List Nat) (p:Nat) (hp:p≤ns.length):nodeAt n ns p∈n :: ns:=by
 unfold nodeAt
 rw [List.getD_eq_getElem?_getD,List.getElem?_eq_getElem (by simp; omega),Option.getD_some]
 exact List.getElem_mem _
theorem Sp.settle:∀ (u:List UInt8) (ns:List Nat) (n:Nat) (W:List Word) (s:St) (L:Nat→List Word),Numbered s L→Sp s L n u ns W→(∀ nd,s.G (nodeAt n ns u.length)=some nd→nd.edges=[]) →
  ∃ L' nd',Numbered (settleP ns s n) L'∧(∀ x,Settled s x→Settled (settleP ns s n) x∧L' x=L x)∧(∀ x,¬ x∈ns→get (settleP ns s n).ids x=get s.ids x)∧(settleP ns s n).G n=some nd'∧Asc nd'.edges ∧
   (∀ e∈nd'.edges,Settled (settleP ns s n) e.2)∧W=wordsAt nd'.final nd'.edges L' ∧ ∀ e∈nd'.edges,0 < u.length∧e.1≤u.getD 0 0
 | [],[],n,W,s,L,hN,h,hb=>by
  obtain ⟨nd,h1,h2,h3,h4,h5⟩:=h
  have he:=hb nd h1
  exact ⟨L,nd,hN,fun x hx=>⟨hx,rfl⟩,fun x _=>rfl,h1,h3,h4,h5,fun e hx=>by rw [he] at hx; cases hx⟩
 | c :: u,t :: ns,n,W,s,L,hN,h,hb=>by
  obtain ⟨nd,es,V,h1,h2,h3,h4,h5,h6,h7,h8⟩:=h
  obtain ⟨L1,ndt,hN1,m1,i1,g1,a1,s1,w1,_⟩:=Sp.settle u ns t V s L hN h7 hb
  simp only [List.mem_cons,not_or] at h6
  have hGn:(settleP ns s t).G n=some nd:=(settleP_other ns s t n h6.1 h6.2).trans h1
  have hin:get (settleP ns s t).ids n=none:=(i1 n h6.2).trans h2
  have hit:get (settleP ns s t).ids t=none:=(i1 t (Sp.fresh u ns t V h7)).trans (Sp.head u ns t V h7)
  rw [settleP_cons g1 hGn]
  obtain ⟨L2,hN2,m2,i2,m,nd',g2,f2,e2,st2,l2⟩:=hN1.hook hGn g1 (Ne.symm h6.1) hin hit h4 a1 s1
  have hasc:Asc nd'.edges:=by
   rw [e2]
   rw [h4] at h3
   have h3':=List.pairwise_append.1 h3
   refine List.pairwise_append.2 ⟨h3'.1,List.pairwise_singleton _ _,fun a ha b hb=>?_⟩
   simp at hb
   subst hb
   exact h3'.2.2 a ha (c,t) (by simp)
  have hse:∀ e∈es,Settled (Ts.hook (settleP ns s t) n t nd ndt) e.2∧L2 e.2=L e.2:=fun e he=>by
   have x1:=m1 e.2 (h5 e he)
   have x2:=m2 e.2 x1.1
   exact ⟨x2.1,x2.2.trans x1.2⟩
  refine ⟨L2,nd',hN2,fun x hx=>?_,fun x hx=>?_,g2,hasc,fun e he=>?_,?_,fun e he=>⟨by simp,?_⟩⟩
  ·have x1:=m1 x hx
   have x2:=m2 x x1.1
   exact ⟨x2.1,x2.2.trans x1.2⟩
  ·simp only [List.mem_cons,not_or] at hx
   exact (i2 x hx.1).trans (i1 x hx.2)
  ·rw [e2] at he
   rcases List.mem_append.1 he with he | he
   ·exact (hse e he).1
   ·simp at he
    subst he
    exact st2
  ·rw [h8,e2,wordsAt_last,f2,l2,← w1,wordsAt_congr nd.final es L L2 fun e he=>(hse e he).2]
  ·rw [e2] at he hasc
   rcases List.mem_append.1 he with he | he
   ·have:=(List.pairwise_append.1 hasc).2.2 e he (c,m) (by simp)
    exact UInt8.le_of_lt this
   ·simp at he
    subst he
    exact UInt8.le_refl _
 | [],_ :: _,_,_,_,_,_,h,_=>h.elim
 | _ :: _,[],_,_,_,_,_,h,_=>h.elim
theorem Sp.settleAt:∀ (p:Nat) (u:List UInt8) (ns:List Nat) (n:Nat) (W:List Word) (s:St) (L:Nat→List Word),Numbered s L→Sp s L n u ns W→(∀ nd,s.G (nodeAt n ns u.length)=some nd→nd.edges=[])→p≤u.length →
  ∃ L',Numbered (settleP (ns.drop p) s (nodeAt n ns p)) L'∧(∀ x,Settled s x→Settled (settleP (ns.drop p) s (nodeAt n ns p)) x∧L' x=L x)∧(∀ x,¬ x∈ns.drop p→get (settleP (ns.drop p) s (nodeAt n ns p)).ids x=get s.ids x) ∧
   Sp (settleP (ns.drop p) s (nodeAt n ns p)) L' n (u.take p) (ns.take p) W ∧ ∀ nd,(settleP (ns.drop p) s (nodeAt n ns p)).G (nodeAt n ns p)=some nd → ∀ e∈nd.edges,p < u.length∧e.1≤u.getD p 0
 | 0,u,ns,n,W,s,L,hN,h,hb,_=>by
  obtain ⟨L',nd',h1,h2,h3,h4,h5,h6,h7,h8⟩:=Sp.settle u ns n W s L hN h hb
  refine ⟨L',h1,h2,h3,⟨nd',h4,(h3 n (Sp.fresh u ns n W h)).trans (Sp.head u ns n W h),h5,h6,h7⟩,fun nd hnd e he=>?_⟩
  have hnd':(settleP ns s n).G n=some nd:=hnd
  rw [h4] at hnd'
  cases hnd'
  exact h8 e he
 | p+1,c :: u,t :: ns,n,W,s,L,hN,h,hb,hp=>by
  obtain ⟨nd,es,V,h1,h2,h3,h4,h5,h6,h7,h8⟩:=h
  have hp':p≤u.length:=by simpa using hp
  have hl:=Sp.len u ns t V h7
  obtain ⟨L',g1,g2,g3,g4,g5⟩:=Sp.settleAt p u ns t V s L hN h7 hb hp'
  have hna:nodeAt n (t :: ns) (p+1)=nodeAt t ns p:=rfl
  rw [hna]
  show ∃ L',Numbered (settleP (ns.drop p) s (nodeAt t ns p)) L'∧_
  have hnd:¬ n∈ns.drop p:=fun h=>h6 (List.mem_cons_of_mem _ (List.mem_of_mem_drop h))
  have hnn:n≠nodeAt t ns p:=fun e=>h6 (e ▸ nodeAt_mem t ns p (by omega))
  refine ⟨L',g1,g2,g3,⟨nd,es,V,(settleP_other _ _ _ _ hnn hnd).trans h1,(g3 n hnd).trans h2,h3,h4,fun e he=>(g2 _ (h5 e he)).1,?_,g4,?_⟩,fun nd hnd e he=>?_⟩
  ·intro hm
   refine h6 ?_
   rcases List.mem_cons.1 hm with e | hm
   ·rw [e]; exact List.mem_cons_self
   ·exact List.mem_cons_of_mem _ (List.mem_of_mem_take hm)
  ·rw [h8,wordsAt_congr nd.final es L L' fun e he=>(g2 _ (h5 e he)).2]
  ·obtain ⟨x1,x2⟩:=g5 nd hnd e he
   exact ⟨by simp; omega,by simpa using x2⟩
 | p+1,[],_,_,_,_,_,_,h,_,hp=>absurd hp (by simp)
 | p+1,_ :: _,[],_,_,_,_,_,h,_,_=>h.elim
theorem FI.settle {s:St} {root:Nat} {u:List UInt8} {ns:List Nat} {W:List Word} (h:FI s root u ns W) (he:Bare s root u ns) {p:Nat} (hp:p≤u.length) :
  FI (settleP (ns.drop p) s (nodeAt root ns p)) root (u.take p) (ns.take p) W ∧
  (∀ nd,(settleP (ns.drop p) s (nodeAt root ns p)).G (nodeAt root ns p)=some nd → ∀ e∈nd.edges,p < u.length∧e.1≤u.getD p 0):=by
 obtain ⟨L,hn,hs⟩:=h
 obtain ⟨L',h1,_,_,h4,h5⟩:=Sp.settleAt p u ns root W s L hn hs he hp
 exact ⟨⟨L',h1,h4⟩,h5⟩
def growG (s:St) (n m:Nat) (c:UInt8) (nd:Nd) (v:Value):St:={ s with G:=upd (upd s.G m ⟨false,[],.slice none 0 0⟩) n { nd with edges:=nd.edges++[(c,m)],v:=v } }
theorem Sp.grow {s:St} {L:Nat→List Word} {m:Nat} {c:UInt8} {nd:Nd} {v:Value} (hm:s.G m=none) (hi:get s.ids m=none) (hc:∀ e∈nd.edges,e.1 < c) :
  ∀ (u:List UInt8) (ns:List Nat) (n:Nat) (W:List Word),Sp s L n u ns W→s.G (nodeAt n ns u.length)=some nd→Sp (growG s (nodeAt n ns u.length) m c nd v) L n (u++[c]) (ns++[m]) W
 | [],[],n,W,h,hG=>by
  obtain ⟨nd',h1,h2,h3,h4,h5⟩:=h
  have hG':s.G n=some nd:=hG
  rw [h1] at hG'
  cases hG'
  have hnm:n≠m:=fun e=>by rw [e,hm] at h1; cases h1
  refine ⟨{ nd with edges:=nd.edges++[(c,m)],v:=v },nd.edges,[],by simp [growG,upd,nodeAt],h2,?_,rfl,h4,by simpa using hnm,⟨⟨false,[],.slice none 0 0⟩,by simp [growG,upd,nodeAt,hnm.symm],hi,List.Pairwise.nil,(fun p hp=>by cases hp),rfl⟩,by simp [h5]⟩
  refine List.pairwise_append.2 ⟨h3,List.pairwise_singleton _ _,fun a ha b hb=>?_⟩
  simp at hb
  subst hb
  exact hc a ha
 | d :: u,x :: ns,n,W,h,hG=>by
  obtain ⟨nd',es,V,h1,h2,h3,h4,h5,h6,h7,h8⟩:=h
  have hl:=Sp.len u ns x V h7
  have hleaf:nodeAt n (x :: ns) (d :: u).length∈x :: ns:=by
   have:nodeAt n (x :: ns) (d :: u).length=(x :: ns).getD u.length 0:=rfl
   rw [this,List.getD_eq_getElem?_getD,List.getElem?_eq_getElem (by simp; omega),Option.getD_some]
   exact List.getElem_mem _
  have hn1:n≠nodeAt n (x :: ns) (d :: u).length:=fun e=>h6 (e ▸ hleaf)
  have hnm:n≠m:=fun e=>by rw [e,hm] at h1; cases h1
  refine ⟨nd',es,V,by simp only [growG,upd]; rw [if_neg hn1,if_neg hnm]; exact h1,h2,h3,h4,h5,?_,Sp.grow hm hi hc u ns x V h7 hG,h8⟩
  intro hmem
  have:n∈(x :: ns)++[m]:=hmem
  rcases List.mem_append.1 this with h | h
  ·exact h6 h
  ·simp at h; exact hnm h
 | [],_ :: _,_,_,h,_=>h.elim
 | _ :: _,[],_,_,h,_=>h.elim
theorem Sp.last {s:St} {L:Nat→List Word}:∀ (u:List UInt8) (ns:List Nat) (n:Nat) (W:List Word),Sp s L n u ns W→get s.ids (nodeAt n ns u.length)=none
 | [],[],n,W,h=>Sp.head [] [] n W h
 | c :: u,m :: ns,n,W,h=>by
  obtain ⟨nd,es,V,_,_,_,_,_,_,h7,_⟩:=h
  exact Sp.last u ns m V h7
 | [],_ :: _,_,_,h=>h.elim
 | _ :: _,[],_,_,h=>h.elim
theorem FI.grow {s:St} {root:Nat} {u:List UInt8} {ns:List Nat} {W:List Word} (h:FI s root u ns W) {m:Nat} {c:UInt8} {nd:Nd} {v:Value} (hG:s.G (nodeAt root ns u.length)=some nd) (hm:s.G m=none) (hi:get s.ids m=none)
  (hc:∀ e∈nd.edges,e.1 < c):FI (growG s (nodeAt root ns u.length) m c nd v) root (u++[c]) (ns++[m]) W:=by
 obtain ⟨L,hn,hs⟩:=h
 refine ⟨L,hn.turn rfl rfl fun n hn'=>?_,Sp.grow hm hi hc _ _ _ _ hs hG⟩
 have h1:n≠nodeAt root ns u.length:=fun e=>by unfold Settled at hn'; rw [e,Sp.last _ _ _ _ hs] at hn'; cases hn'
 have h2:n≠m:=fun e=>by unfold Settled at hn'; rw [e,hi] at hn'; cases hn'
 simp only [growG,upd]
 rw [if_neg h1,if_neg h2]
def closeG (s:St) (n:Nat) (nd:Nd):St:={ s with G:=upd s.G n { nd with final:=true } }
theorem Sp.close {s:St} {L:Nat→List Word} {nd:Nd} (he:nd.edges=[]) (hf:nd.final=false) :
  ∀ (u:List UInt8) (ns:List Nat) (n:Nat) (W:List Word),Sp s L n u ns W→s.G (nodeAt n ns u.length)=some nd→Sp (closeG s (nodeAt n ns u.length) nd) L n u ns (W++[u])
 | [],[],n,W,h,hG=>by
  obtain ⟨nd',h1,h2,h3,h4,h5⟩:=h
  have hG':s.G n=some nd:=hG
  rw [h1] at hG'
  cases hG'
  refine ⟨{ nd with final:=true },by simp [closeG,upd,nodeAt],h2,h3,h4,?_⟩
  rw [h5,he,hf]
  rfl
 | d :: u,x :: ns,n,W,h,hG=>by
  obtain ⟨nd',es,V,h1,h2,h3,h4,h5,h6,h7,h8⟩:=h
  have hl:=Sp.len u ns x V h7
  have hleaf:nodeAt n (x :: ns) (d :: u).length∈x :: ns:=by
   have:nodeAt n (x :: ns) (d :: u).length=(x :: ns).getD u.length 0:=rfl
   rw [this,List.getD_eq_getElem?_getD,List.getElem?_eq_getElem (by simp; omega),Option.getD_some]
   exact List.getElem_mem _
  have hn1:n≠nodeAt n (x :: ns) (d :: u).length:=fun e=>h6 (e ▸ hleaf)
  refine ⟨nd',es,V++[u],by simp only [closeG,upd]; rw [if_neg hn1]; exact h1,h2,h3,h4,h5,h6,Sp.close he hf u ns x V h7 hG,?_⟩
  rw [h8]
  simp
 | [],_ :: _,_,_,h,_=>h.elim
 | _ :: _,[],_,_,h,_=>h.elim
theorem FI.close {s:St} {root:Nat} {u:List UInt8} {ns:List Nat} {W:List Word} (h:FI s root u ns W) {nd:Nd} (hG:s.G (nodeAt root ns u.length)=some nd) (he:nd.edges=[]) (hf:nd.final=false) :
  FI (closeG s (nodeAt root ns u.length) nd) root u ns (W++[u]):=by
 obtain ⟨L,hn,hs⟩:=h
 refine ⟨L,hn.turn rfl rfl fun n hn'=>?_,Sp.close he hf _ _ _ _ hs hG⟩
 have h1:n≠nodeAt root ns u.length:=fun e=>by unfold Settled at hn'; rw [e,Sp.last _ _ _ _ hs] at hn'; cases hn'
 simp only [closeG,upd]
 rw [if_neg h1]
def start (root:Nat):St:={ G:=upd (fun _=>none) root ⟨false,[],.slice none 0 0⟩,kn:=[],ids:=[] }
theorem FI.start (root:Nat):FI (start root) root [] [] []:=by
 refine ⟨fun _=>[],⟨List.nodup_nil,(fun i p h=>by simp [Ts.start] at h),(fun n h=>by simp [Settled,Ts.start,get] at h),(fun p h=>by simp [Ts.start] at h)⟩,⟨false,[],.slice none 0 0⟩,by simp [Ts.start,upd],rfl,List.Pairwise.nil,(fun p h=>by cases h),rfl⟩
inductive Reach (G:Graph) (root:Nat):Nat→Prop
 | here:Reach G root root
 | there {n:Nat} {nd:Nd} {e:UInt8 × Nat}:Reach G root n→G n=some nd→e∈nd.edges→Reach G root e.2
theorem wordsAt_le (f:Bool) (es:List (UInt8 × Nat)) (L:Nat→List Word) {e:UInt8 × Nat} (he:e∈es):(L e.2).length≤(wordsAt f es L).length:=by
 unfold wordsAt
 obtain ⟨a,b,rfl⟩:=List.append_of_mem he
 simp
 omega
theorem FI.number {s:St} {root:Nat} {W:List Word} (h:FI s root [] [] W) (hsm:Small s) (hW:W.length≤1000000) (hids:s.ids.length < 1000000) :
  ∃ (Good:Nat→Prop) (ρ:Nat→Nat) (L:Nat→List Word),Good root∧(∀ n,Good n → ∃ nd,s.G n=some nd∧nd.edges.length≤300 ∧ ∀ e∈nd.edges,Good e.2∧ρ e.2 < ρ n) ∧
   (∀ M:List (Nat × Nat),Apart M→(∀ p∈M,Good p.1)→M.length≤1000000)∧(∀ n nd,Good n→s.G n=some nd→Asc nd.edges∧L n=wordsAt nd.final nd.edges L∧(L n).length≤1000000)∧L root=W∧ρ root≤1000000:=by
 obtain ⟨L,hn,nd0,r1,r2,r3,r4,r5⟩:=h
 have hroot:¬ Settled s root:=by unfold Settled; rw [r2]; simp
 have hset:∀ n,Reach s.G root n→n=root∨Settled s n:=fun n h=>by
  induction h with
  | here=>exact .inl rfl
  | there hr hG he ih =>
   right
   rcases ih with rfl | ih
   ·rw [r1] at hG; cases hG; exact r4 _ he
   ·obtain ⟨nd',h1,_,h3,_⟩:=hn.node _ ih
    rw [h1] at hG; cases hG
    exact (h3 _ he).1
 have hne:∀ n,Settled s n→n≠root:=fun n h e=>hroot (e ▸ h)
 have hLs:∀ n,Settled s n→(if n=root then W else L n)=L n:=fun n h=>if_neg (hne n h)
 have hnode:∀ n nd,Reach s.G root n→s.G n=some nd→Asc nd.edges∧(∀ e∈nd.edges,Settled s e.2∧idOf s.ids e.2 < if n=root then 1000000 else idOf s.ids n) ∧
   (if n=root then W else L n)=wordsAt nd.final nd.edges (fun n=>if n=root then W else L n):=fun n nd hr hG=>by
  rcases hset n hr with rfl | hs
  ·rw [r1] at hG
   cases hG
   refine ⟨r3,fun e he=>⟨r4 e he,by rw [if_pos rfl]; exact hsm.idOf _⟩,?_⟩
   rw [if_pos rfl,wordsAt_congr _ _ L _ fun e he=>hLs _ (r4 e he)]
   exact r5
  ·obtain ⟨nd',h1,h2,h3,h4⟩:=hn.node n hs
   rw [h1] at hG
   cases hG
   refine ⟨h2,fun e he=>⟨(h3 e he).1,by rw [if_neg (hne n hs)]; exact (h3 e he).2⟩,?_⟩
   rw [hLs n hs,wordsAt_congr _ _ L _ fun e he=>hLs _ (h3 e he).1]
   exact h4
 have hlenW:∀ n,Reach s.G root n→(if n=root then W else L n).length≤W.length:=fun n h=>by
  induction h with
  | here=>rw [if_pos rfl]; exact Nat.le_refl _
  | there hr hG he ih =>
   rw [(hnode _ _ hr hG).2.2] at ih
   exact Nat.le_trans (wordsAt_le _ _ (fun n=>if n=root then W else L n) he) ih
 refine ⟨Reach s.G root,fun n=>if n=root then 1000000 else idOf s.ids n,fun n=>if n=root then W else L n,.here,fun n hr=>?_,fun M hM hg=>?_,fun n nd hr hG=>⟨(hnode n nd hr hG).1,(hnode n nd hr hG).2.2,Nat.le_trans (hlenW n hr) hW⟩,if_pos rfl,by simp⟩
 ·have:∃ nd,s.G n=some nd:=by
   rcases hset n hr with rfl | hs
   ·exact ⟨_,r1⟩
   ·obtain ⟨nd,h1,_⟩:=hn.node n hs
    exact ⟨nd,h1⟩
  obtain ⟨nd,hG⟩:=this
  refine ⟨nd,hG,hsm.edges n nd hG,fun e he=>⟨.there hr hG he,?_⟩⟩
  obtain ⟨h1,h2⟩:=(hnode n nd hr hG).2.1 e he
  simp only
  rw [if_neg (hne _ h1)]
  exact h2
 ·have hsub:M.map (·.1) ⊆ root :: s.ids.map (·.1):=fun x hx=>by
   obtain ⟨p,hp,rfl⟩:=List.mem_map.1 hx
   rcases hset _ (hg p hp) with e | hs
   ·rw [e]; exact List.mem_cons_self
   ·obtain ⟨y,hy⟩:=Option.isSome_iff_exists.1 hs
    exact List.mem_cons_of_mem _ (List.mem_map.2 ⟨_,get_some_mem hy,rfl⟩)
  have hl:=List.Nodup.length_le_of_subset hM hsub
  simp at hl
  omega
end Go.Proofs.Ts
namespace Go.Proofs.Ts
open Go
section
variable {σ:Type} (step:σ→UInt8→Option σ) (ends:σ→Bool)
def accA:σ→List UInt8→Bool
 | s,[]=>ends s
 | s,c :: u=>match step s c with
  | none=>false
  | some t=>accA t u
end
def hits (f:List UInt8→Bool) (ws:List (List UInt8)) (n:Nat):List (List UInt8 × Nat):=(ws.zipIdx n).filter fun p=>f p.1
theorem hits_nil (f:List UInt8→Bool) (n:Nat):hits f [] n=[]:=rfl
theorem hits_cons (f:List UInt8→Bool) (w:List UInt8) (ws:List (List UInt8)) (n:Nat):hits f (w :: ws) n=(if f w then [(w,n)] else [])++hits f ws (n+1):=by
 unfold hits
 rw [List.zipIdx_cons,List.filter_cons]
 by_cases h:f w=true <;> simp [h]
theorem hits_append (f:List UInt8→Bool):∀ (a b:List (List UInt8)) (n:Nat),hits f (a++b) n=hits f a n++hits f b (n+a.length)
 | [],b,n=>by simp [hits_nil]
 | w :: a,b,n=>by
  rw [List.cons_append,hits_cons,hits_cons,hits_append f a b (n+1),List.append_assoc,List.length_cons,show n+1+a.length=n+(a.length+1) by omega]
theorem hits_map (f:List UInt8→Bool) (c:UInt8):∀ (ws:List (List UInt8)) (n:Nat),hits f (ws.map (c :: ·)) n=(hits (fun u=>f (c :: u)) ws n).map fun p=>(c :: p.1,p.2)
 | [],n=>rfl
 | w :: ws,n=>by
  rw [List.map_cons,hits_cons,hits_cons,hits_map f c ws (n+1),List.map_append]
  by_cases h:f (c :: w)=true <;> simp [h]
theorem hits_none (f:List UInt8→Bool) (ws:List (List UInt8)) (n:Nat) (h:∀ w∈ws,f w=false):hits f ws n=[]:=by
 unfold hits
 rw [List.filter_eq_nil_iff]
 intro p hp
 rw [h p.1 (List.fst_mem_of_mem_zipIdx hp)]
 simp
theorem hits_mem {f:List UInt8→Bool} {ws:List (List UInt8)} {n:Nat} {p:List UInt8 × Nat} (h:p∈hits f ws n):f p.1=true∧n≤p.2∧ws[p.2 - n]?=some p.1:=by
 unfold hits at h
 rw [List.mem_filter] at h
 obtain ⟨h1,h2⟩:=h
 obtain ⟨w,i⟩:=p
 have:=List.mem_zipIdx h1
 refine ⟨h2,this.1,?_⟩
 have h3:=this.2.1
 have h4:=this.2.2
 simp only at h4 ⊢
 rw [h4]
 exact List.getElem?_eq_getElem (by omega)
def pre (p:List UInt8) (l:List (List UInt8 × Nat)):List (List UInt8 × Nat):=l.map fun q=>(p++q.1,q.2)
theorem pre_append (p:List UInt8) (a b:List (List UInt8 × Nat)):pre p (a++b)=pre p a++pre p b:=by simp [pre]
def edgeWords (Λ:Nat→List (List UInt8)) (es:List (UInt8 × Nat)):List (List UInt8):=es.flatMap fun e=>(Λ e.2).map (e.1 :: ·)
theorem edgeWords_snoc (Λ:Nat→List (List UInt8)) (es:List (UInt8 × Nat)) (e:UInt8 × Nat):edgeWords Λ (es++[e])=edgeWords Λ es++(Λ e.2).map (e.1 :: ·):=by simp [edgeWords]
theorem edgeWords_le (Λ:Nat→List (List UInt8)) (es:List (UInt8 × Nat)) (j:Nat):(edgeWords Λ (es.take j)).length≤(edgeWords Λ es).length:=by
 conv=>rhs; rw [← List.take_append_drop j es]
 unfold edgeWords
 rw [List.flatMap_append,List.length_append]
 omega
section
variable {σ:Type} {step:σ→UInt8→Option σ} {ends:σ→Bool}
theorem hits_edge (s:σ) (c:UInt8) (t:Nat) (Λ:Nat→List (List UInt8)) (p:List UInt8) (n:Nat) :
  pre p (hits (accA step ends s) ((Λ t).map (c :: ·)) n)=match step s c with | none=>[] | some s'=>pre (p++[c]) (hits (accA step ends s') (Λ t) n):=by
 rw [hits_map]
 cases h:step s c with
 | none =>
  simp only
  have:hits (fun u=>accA step ends s (c :: u)) (Λ t) n=[]:=hits_none _ _ _ fun w _=>by simp [accA,h]
  rw [this]
  rfl
 | some s' =>
  simp only
  have:(fun u=>accA step ends s (c :: u))=accA step ends s':=funext fun u=>by simp [accA,h]
  rw [this]
  unfold pre
  rw [List.map_map]
  apply List.map_congr_left
  intro q _
  simp
end
def partOf {σ:Type} (step:σ→UInt8→Option σ) (ends:σ→Bool) (Λ:Nat→List (List UInt8)) (f:Bool) (es:List (UInt8 × Nat)) (s:σ) (p:List UInt8) (n j:Nat):List (List UInt8 × Nat) :=
 (if f && ends s then [(p,n)] else [])++pre p (hits (accA step ends s) (edgeWords Λ (es.take j)) (n+(if f then 1 else 0)))
theorem partOf_all {σ:Type} (step:σ→UInt8→Option σ) (ends:σ→Bool) (Λ:Nat→List (List UInt8)) (f:Bool) (es:List (UInt8 × Nat)) (s:σ) (p:List UInt8) (n:Nat) :
  partOf step ends Λ f es s p n es.length=pre p (hits (accA step ends s) (wordsAt f es Λ) n):=by
 unfold partOf wordsAt
 rw [List.take_of_length_le (Nat.le_refl _),hits_append,pre_append]
 cases f with
 | false=>simp [hits_nil,pre,edgeWords]
 | true =>
  simp only [if_true,Bool.true_and,hits_cons,hits_nil,List.append_nil,List.length_singleton,accA]
  congr 1
  by_cases h:ends s=true <;> simp [h,pre]
theorem partOf_zero {σ:Type} (step:σ→UInt8→Option σ) (ends:σ→Bool) (Λ:Nat→List (List UInt8)) (f:Bool) (es:List (UInt8 × Nat)) (s:σ) (p:List UInt8) (n:Nat) :
  partOf step ends Λ f es s p n 0=if f && ends s then [(p,n)] else []:=by simp [partOf,edgeWords,hits_nil,pre]
theorem partOf_succ {σ:Type} (step:σ→UInt8→Option σ) (ends:σ→Bool) (Λ:Nat→List (List UInt8)) (f:Bool) (es:List (UInt8 × Nat)) (s:σ) (p:List UInt8) (n j:Nat) {c:UInt8} {t:Nat} (h:es[j]?=some (c,t)) :
  partOf step ends Λ f es s p n (j+1)=partOf step ends Λ f es s p n j ++
   match step s c with | none=>[] | some s'=>pre (p++[c]) (hits (accA step ends s') (Λ t) (n+(if f then 1 else 0)+(edgeWords Λ (es.take j)).length)):=by
 unfold partOf
 have hj:=(List.getElem?_eq_some_iff.1 h).1
 have he:es[j]=(c,t):=(List.getElem?_eq_some_iff.1 h).2
 rw [List.take_succ_eq_append_getElem hj,he,edgeWords_snoc,hits_append,pre_append,← List.append_assoc,hits_edge]
theorem partOf_prefix {σ:Type} (step:σ→UInt8→Option σ) (ends:σ→Bool) (Λ:Nat→List (List UInt8)) (f:Bool) (es:List (UInt8 × Nat)) (s:σ) (p:List UInt8) (n j:Nat) (hj:j≤es.length) :
  partOf step ends Λ f es s p n j <+: partOf step ends Λ f es s p n es.length:=by
 unfold partOf
 rw [List.take_of_length_le (Nat.le_refl es.length)]
 have:edgeWords Λ es=edgeWords Λ (es.take j)++edgeWords Λ (es.drop j):=by
  conv=>lhs; rw [← List.take_append_drop j es]
  unfold edgeWords
  rw [List.flatMap_append]
 rw [this,hits_append,pre_append,← List.append_assoc]
 exact List.prefix_append _ _
end Go.Proofs.Ts
namespace Go.Proofs.Ts
open Go
def isBlank (c:UInt8):Bool:=c == 32 || c == 9 || c == 10
def low1 (c:UInt8):UInt8:=if 65≤c∧c≤90 then c+32 else c
def lowL (l:List UInt8):List UInt8:=l.map low1
def fields:List UInt8→List UInt8→List (List UInt8)
 | [],cur=>if cur=[] then [] else [cur]
 | c :: r,cur=>if isBlank c=true then (if cur=[] then fields r [] else cur :: fields r []) else fields r (cur++[c])
theorem fields_all:∀ (l cur:List UInt8),(∀ c∈cur,isBlank c=false) → ∀ f∈fields l cur,f≠[] ∧ ∀ c∈f,isBlank c=false
 | [],cur,hc,f,hf=>by
  unfold fields at hf
  split at hf
  ·cases hf
  ·rename_i h
   simp at hf
   subst hf
   exact ⟨h,hc⟩
 | c :: r,cur,hc,f,hf=>by
  unfold fields at hf
  split at hf
  ·split at hf
   ·exact fields_all r [] (by simp) f hf
   ·rename_i h
    rcases List.mem_cons.1 hf with rfl | hf
    ·exact ⟨h,hc⟩
    ·exact fields_all r [] (by simp) f hf
  ·rename_i hb
   refine fields_all r (cur++[c]) ?_ f hf
   intro x hx
   rcases List.mem_append.1 hx with hx | hx
   ·exact hc x hx
   ·simp at hx; subst hx; simpa using hb
end Go.Proofs.Ts
namespace Go.Proofs.Ts
open Go Go.RowKit
theorem blank_toNat (c:UInt8):isBlank c=(((c.toNat:Int) == 32) || ((c.toNat:Int) == 9) || ((c.toNat:Int) == 10)):=by
 unfold isBlank
 rw [Bool.eq_iff_iff]
 simp [← UInt8.toNat_inj]
 omega
theorem low1_toNat (c:UInt8):((low1 c).toNat:Int)=if 65≤c.toNat∧c.toNat≤90 then (c.toNat:Int)+32 else c.toNat:=by
 unfold low1
 by_cases h:65≤c∧c≤90
 ·have h1:65≤c.toNat:=by simpa [UInt8.le_iff_toNat_le] using h.1
  have h2:c.toNat≤90:=by simpa [UInt8.le_iff_toNat_le] using h.2
  rw [if_pos h,if_pos ⟨h1,h2⟩,UInt8.toNat_add]
  simp
  omega
 ·have h':¬ (65≤c.toNat∧c.toNat≤90):=fun x=>h ⟨by simpa [UInt8.le_iff_toNat_le] using x.1,by simpa [UInt8.le_iff_toNat_le] using x.2⟩
  rw [if_neg h,if_neg h']
end Go.Proofs.Ts
namespace Go.Proofs.Ts
open Go Go.RowKit
theorem getD_str (s:ByteArray) (k:Nat) (h:k < s.size):s.data.toList.getD k 0=s[k]:=by
 rw [List.getD_eq_getElem?_getD,List.getElem?_eq_getElem (by simpa using h),Option.getD_some,idx_str s k h]
def agree (d s:List UInt8) (k m:Nat):Bool:=decide (lowL ((d.drop k).take m)=s.take m)
end Go.Proofs.Ts
namespace Go.Proofs.Ts
open Go Go.RowKit
theorem eq_nat (a b:Nat):((a:Int) == (b:Int))=decide (a=b):=by
 rw [Bool.eq_iff_iff,beq_iff_eq,decide_eq_true_eq]
 omega
theorem eq_byte (a b:UInt8):((a.toNat:Int) == (b.toNat:Int))=decide (a=b):=by
 rw [Bool.eq_iff_iff,beq_iff_eq,decide_eq_true_eq]
 constructor
 ·intro h; exact UInt8.toNat_inj.1 (by omega)
 ·rintro rfl; rfl
theorem exactEnds_any (s:ByteArray) (k:Nat) (w:World) (hs:s.size≤1000000) (hk:k≤1000000) :
  Calls Tryz.prog 316 #[.string s,.int .i64 k] w fun e w'=>e = .returned (.bool (decide (k=s.size)))∧Same w w':=by
 rw [← eq_nat]
 go_enter Tryz.func316,Tryz.ntmps316
 go_wp2
 go_ret
 exact ⟨rfl,Same.refl _⟩
theorem beginsEnds_any (s:ByteArray) (k:Nat) (w:World) (hs:s.size≤1000000) (hk:k≤1000000) :
  Calls Tryz.prog 319 #[.string s,.int .i64 k] w fun e w'=>e = .returned (.bool (decide (k=s.size)))∧Same w w':=by
 rw [← eq_nat]
 go_enter Tryz.func319,Tryz.ntmps319
 go_wp2
 go_ret
 exact ⟨rfl,Same.refl _⟩
theorem exactStart_any (s:ByteArray) (w:World) :
  Calls Tryz.prog 317 #[.string s] w fun e w'=>e = .returned (.int .i64 0)∧Same w w':=by
 go_enter Tryz.func317,Tryz.ntmps317
 go_wp2
 go_ret
 exact ⟨rfl,Same.refl _⟩
theorem beginsStart_any (s:ByteArray) (w:World) :
  Calls Tryz.prog 320 #[.string s] w fun e w'=>e = .returned (.int .i64 0)∧Same w w':=by
 go_enter Tryz.func320,Tryz.ntmps320
 go_wp2
 go_ret
 exact ⟨rfl,Same.refl _⟩
def goesOn (s:ByteArray) (k:Nat) (c:UInt8):Bool:=decide (k < s.size) && decide (s.data.toList.getD k 0=c)
theorem exactStep_any (s:ByteArray) (k:Nat) (c:UInt8) (w:World) (hs:s.size≤1000000) (hk:k≤1000000) :
  Calls Tryz.prog 318 #[.string s,.int .i64 k,.int .u8 c.toNat] w fun e w'=>e = .returned (.tuple #[.int .i64 ((k+1:Nat):Int),.bool (goesOn s k c)])∧Same w w':=by
 have q1:IntKind.i64.wrap ((k:Int)+1)=(k:Int)+1:=IntWalk.i64_in _ (by omega)
 by_cases h:k < s.size
 ·have hg:Hid (goesOn s k c=(((s[k]).toNat:Int) == (c.toNat:Int))):=Lib.hid (by
   unfold goesOn
   rw [decide_eq_true h,getD_str s k h,eq_byte]
   rfl)
  have q2:decide ((k:Int) < (s.size:Int))=true:=by simp; omega
  go_enter Tryz.func318,Tryz.ntmps318
  go_wp2_with fail
  go_quiet (fail)
  go_wp2_with fail
  go_ret2
  exact ⟨by rw [hg.out]; rfl,Same.drewN _ _⟩
 ·have hg:Hid (goesOn s k c=false):=Lib.hid (by unfold goesOn; rw [decide_eq_false h]; rfl)
  have q2:decide ((k:Int) < (s.size:Int))=false:=by simp; omega
  go_enter Tryz.func318,Tryz.ntmps318
  go_wp2_with fail
  go_quiet (fail)
  go_wp2_with fail
  go_ret2
  exact ⟨by rw [hg.out]; rfl,Same.drewN _ _⟩
def begNext (s:ByteArray) (k:Nat):Nat:=if k=s.size then k else k+1
def begOk (s:ByteArray) (k:Nat) (c:UInt8):Bool:=decide (k=s.size) || goesOn s k c
theorem beginsStep_any (s:ByteArray) (k:Nat) (c:UInt8) (w:World) (hs:s.size≤1000000) (hk:k≤s.size) :
  Calls Tryz.prog 321 #[.string s,.int .i64 k,.int .u8 c.toNat] w fun e w'=>e = .returned (.tuple #[.int .i64 (begNext s k:Nat),.bool (begOk s k c)])∧Same w w':=by
 by_cases h:k=s.size
 ·have h1:begOk s k c=true:=by simp [begOk,h]
  have h2:begNext s k=k:=by simp [begNext,h]
  rw [h1,h2]
  clear h1 h2
  subst h
  clear hk
  go_enter Tryz.func321,Tryz.ntmps321
  go_wp2_with fail
  go_ret2
  exact ⟨rfl,Same.refl _⟩
 ·have hlt:k < s.size:=by omega
  have q1:IntKind.i64.wrap ((k:Int)+1)=(k:Int)+1:=IntWalk.i64_in _ (by omega)
  have h1:begOk s k c=(((s[k]).toNat:Int) == (c.toNat:Int)):=by
   unfold begOk goesOn
   rw [decide_eq_false h,decide_eq_true hlt,getD_str s k hlt,eq_byte]
   rfl
  have h2:begNext s k=k+1:=by simp [begNext,h]
  rw [h1,h2]
  clear h1 h2
  have q2:((k:Int) == (s.size:Int))=false:=by rw [eq_nat]; simpa using h
  clear h hk
  go_enter Tryz.func321,Tryz.ntmps321
  go_wp2_with fail
  go_quiet (fail)
  go_wp2_with fail
  go_ret2
  exact ⟨rfl,Same.drewN _ _⟩
end Go.Proofs.Ts
