/- Lemmas towards the statement Least of termsearch: walks of the program's functions and plain laws on lists (TsPart, TsJoin, TsPlaces, TsRepeat, TsReadB, TsReadC, TsRep, TsAdd, TsClass, TsSeq, TsParsB, TsParsC, TsAlt, TsAtom, TsAltAny, TsCatch, TsParse, TsParsOk, TsPartB, TsPartC, TsPartD, TsPartE, TsPartF, TsPartG, TsPartH, TsMachA). Conditions: those that each theorem names. -/
import Derived.Test.YtffjomnnkilhgaaGreatDoorLeastPA
import Derived.Test.YtffjomnnkilhgaaGreatDoorLeastPD
import Derived.Defers
import Derived.Recover
set_option linter.unusedVariables false
set_option linter.unusedSimpArgs false
set_option linter.unusedSectionVars false
set_option maxRecDepth 100000
set_option maxHeartbeats 32000000
open And renaming intro->aA
open Bool renaming and_eq_true->cR,and_false->Bb,and_true->Du,false_and->Ba,false_or->MN,or_false->agC,true_and->gP,true_or->asy
open Go renaming Calls->aX,CallsD->UW,Leaves->UR,TypeId->dx,Value->ay,World->ak
open Go.Ending renaming returned->kG
open Go.Exit renaming thenS->ac3
open Go.Instr renaming typeAssert->jJ
open Go.IntKind renaming wrap_i64->UT
open Go.IntWalk renaming i64_in->aK,u8_in->A0
open Go.Lib renaming hid->ae
open Go.Proofs.Tryz renaming f103->xw,f143->agt,func143->UG,func145->asn,func147->UF,func151->pk,func251->Uy,func297->asa,func298->ar9,func299->ar8,func312->ar6,func313->ar5,func314->ar4,func315->ar3,ntmps143->Q8,ntmps147->aoP,ntmps151->nI,ntmps251->Q4,prog->ah,underlying312->fw,zeroCells310->afH
open Go.Region renaming ready->bZ
open Go.RowKit renaming Below->aI
open Go.RowKit.Below renaming heap_alloc->aC,heap_setCell->az,refl->aB
open Go.World renaming size_alloc->bM
open List renaming cons_append->iT,eq_of_mem_replicate->iR,ext_getElem?->AP,getElem?_append_right->gA,getElem?_eq_getElem->ar,getElem?_map->bp,getElem?_zipIdx->Zf,length_replicate->bK,map_cons->dM,map_nil->mg,mem_cons->ql,nil_append->eZ,not_mem_nil->tT,replicate->aQ,setIfInBounds_toArray->bD,set_append_left->uW,set_append_right->cU,set_cons_succ->ai,set_cons_zero->aj
open Nat renaming le_refl->au,le_succ->uU,le_trans->aZ,lt_of_lt_of_le->bI,reduceAdd->uH,xor_lt_two_pow->acW,zero_le->aW
open Ne renaming symm->dB
namespace Go.Proofs.Ts
open Go Go.RowKit
def gZ(e:bC):Prop:=∀(mb:Nat)(M:PM)(w:ak),bQ w mb M->eN w->M.n+e.count<=128->aX ah 151 #[aP mb,e.val] w λen w'=>en= .returned (PM.part e M).2.val/\bQ w' mb (PM.part e M).1/\Mod (λj=>j=mb) w w'
def Asserts(T:dx)(v:ay)(A:dx)(z:ay)(hit:Bool):Prop:=∀w,(jJ (.iface T v) 210 A true).run ah w= .ok (.tuple #[z,.bool hit]) w
def C3:ay:= .agg #[.int .u64 0,.int .u64 0,.int .u64 0,.int .u64 0]
def yu:ay:= .agg #[.nilIface,.nilIface]
def zu:ay:= .agg #[.nilIface,.bool false]
def vN:ay:= .agg #[.nilIface]
theorem Gu(v:ay):Asserts 296 v 300 C3 false/\Asserts 296 v 387 yu false/\Asserts 296 v 393 yu false/\Asserts 296 v 304 zu false/\Asserts 296 v 390 vN false:=⟨λw=>by kernel_rfl,λw=>by kernel_rfl,λw=>by kernel_rfl,λw=>by kernel_rfl,λw=>by kernel_rfl⟩
theorem JD(v:ay):Asserts 388 v 300 C3 false/\Asserts 388 v 387 yu false/\Asserts 388 v 393 yu false/\Asserts 388 v 304 zu false/\Asserts 388 v 390 vN false:=⟨λw=>by kernel_rfl,λw=>by kernel_rfl,λw=>by kernel_rfl,λw=>by kernel_rfl,λw=>by kernel_rfl⟩
theorem Ms(v:ay):Asserts 300 v 300 v true:=λw=>by kernel_rfl
theorem Ps(v:ay):Asserts 387 v 300 C3 false/\Asserts 387 v 387 v true:=⟨λw=>by kernel_rfl,λw=>by kernel_rfl⟩
theorem Mr(v:ay):Asserts 393 v 300 C3 false/\Asserts 393 v 387 yu false/\Asserts 393 v 393 v true:=⟨λw=>by kernel_rfl,λw=>by kernel_rfl,λw=>by kernel_rfl⟩
theorem JC(v:ay):Asserts 304 v 300 C3 false/\Asserts 304 v 387 yu false/\Asserts 304 v 393 yu false/\Asserts 304 v 304 v true:=⟨λw=>by kernel_rfl,λw=>by kernel_rfl,λw=>by kernel_rfl,λw=>by kernel_rfl⟩
theorem Gt(v:ay):Asserts 390 v 300 C3 false/\Asserts 390 v 387 yu false/\Asserts 390 v 393 yu false/\Asserts 390 v 304 zu false/\Asserts 390 v 390 v true:=⟨λw=>by kernel_rfl,λw=>by kernel_rfl,λw=>by kernel_rfl,λw=>by kernel_rfl,λw=>by kernel_rfl⟩
theorem Part.yz(p:Part):p.val= .agg #[uV p.first.a,uV p.first.b,uV p.first.c,uV p.last.a,uV p.last.b,uV p.last.c,.bool p.none]:=rfl
structure dJ (w:ak) (b:Nat) (a0 a1 a2 a3 a4 a5 a6:ay):Prop where
 c0:w.cell? ⟨b,0,none⟩=some a0
 c1:w.cell? ⟨b,1,none⟩=some a1
 c2:w.cell? ⟨b,2,none⟩=some a2
 c3:w.cell? ⟨b,3,none⟩=some a3
 c4:w.cell? ⟨b,4,none⟩=some a4
 c5:w.cell? ⟨b,5,none⟩=some a5
 c6:w.cell? ⟨b,6,none⟩=some a6
 free:∀ i,w.frozen? ⟨b,i,none⟩=false
theorem dJ.of{w:ak}{b:Nat}{a0 a1 a2 a3 a4 a5 a6:ay}{T:dx}(h:w.heap[b]?=some (.cells #[a0,a1,a2,a3,a4,a5,a6] T (0,0))):dJ w b a0 a1 a2 a3 a4 a5 a6:=⟨aq h,aq h,aq h,aq h,aq h,aq h,aq h,λi=>aU h⟩
theorem dJ.all{w:ak}{b:Nat}{a0 a1 a2 a3 a4 a5 a6:ay}(h:dJ w b a0 a1 a2 a3 a4 a5 a6):w.cell? (aD b 0)=some a0/\w.cell? (aD b 1)=some a1/\w.cell? (aD b 2)=some a2/\w.cell? (aD b 3)=some a3/\w.cell? (aD b 4)=some a4/\w.cell? (aD b 5)=some a5/\w.cell? (aD b 6)=some a6/\w.frozen? (aD b 0)=false/\w.frozen? (aD b 1)=false/\w.frozen? (aD b 2)=false/\w.frozen? (aD b 3)=false/\w.frozen? (aD b 4)=false/\w.frozen? (aD b 5)=false/\w.frozen? (aD b 6)=false:=⟨h.c0,h.c1,h.c2,h.c3,h.c4,h.c5,h.c6,h.free 0,h.free 1,h.free 2,h.free 3,h.free 4,h.free 5,h.free 6⟩
theorem fo{w w':ak}(h:aI w.heap.size w w'){S:Nat->Prop}:Mod S w w':=⟨h.os,h.tape,h.output,h.size,λj hj _=>h.block j hj⟩
def sZ(w:ak)(b:Nat)(a0 a1 a2 a3 a4 a5 a6:ay):ak:=((((((w.setCell ⟨b,0,none⟩ a0).setCell ⟨b,1,none⟩ a1).setCell ⟨b,2,none⟩ a2).setCell ⟨b,3,none⟩ a3).setCell ⟨b,4,none⟩ a4).setCell ⟨b,5,none⟩ a5).setCell ⟨b,6,none⟩ a6
theorem qA{w:ak}{b:Nat}{a0 a1 a2 a3 a4 a5 a6:ay}(v0 v1 v2 v3 v4 v5 v6:ay){T:dx}(h:w.heap[b]?=some (.cells #[a0,a1,a2,a3,a4,a5,a6] T (0,0))):(sZ w b v0 v1 v2 v3 v4 v5 v6).heap[b]?=some (.cells #[v0,v1,v2,v3,v4,v5,v6] T (0,0)):=by have k:=heap_setCell_same w b 0 _ _ v0 h;simp only[bD,aj,ai]at k;replace k:=heap_setCell_same _ b 1 _ _ v1 k;simp only[bD,aj,ai]at k;replace k:=heap_setCell_same _ b 2 _ _ v2 k;simp only[bD,aj,ai]at k;replace k:=heap_setCell_same _ b 3 _ _ v3 k;simp only[bD,aj,ai]at k;replace k:=heap_setCell_same _ b 4 _ _ v4 k;simp only[bD,aj,ai]at k;replace k:=heap_setCell_same _ b 5 _ _ v5 k;simp only[bD,aj,ai]at k;replace k:=heap_setCell_same _ b 6 _ _ v6 k;simp only[bD,aj,ai]at k;exact k
theorem qz(w:ak)(b:Nat)(v0 v1 v2 v3 v4 v5 v6:ay){j:Nat}(hj:j≠b):(sZ w b v0 v1 v2 v3 v4 v5 v6).heap[j]?=w.heap[j]?:=by unfold sZ;rw[az _ (aD b 6) _ j hj,az _ (aD b 5) _ j hj,az _ (aD b 4) _ j hj,az _ (aD b 3) _ j hj,az _ (aD b 2) _ j hj,az _ (aD b 1) _ j hj,az _ (aD b 0) _ j hj]
theorem Mod.past{S:Nat->Prop}{w0 w:ak}(h:Mod S w0 w){b:Nat}(hb:w0.heap.size<=b)(i:Nat)(v:ay):Mod S w0 (w.setCell (aD b i) v):=⟨h.os,h.tape,h.output,by rw[World.size_setCell];exact h.size,λj hj hn=>(az w (aD b i) v j (by show j≠b;omega)).trans (h.block j hj hn)⟩
theorem vW{S:Nat->Prop}(w:ak)(b:Nat)(v0 v1 v2 v3 v4 v5 v6:ay){w0:ak}(h:Mod S w0 w)(hb:w0.heap.size<=b):Mod S w0 (sZ w b v0 v1 v2 v3 v4 v5 v6):=by unfold sZ;exact((((((h.past hb _ _).past hb _ _).past hb _ _).past hb _ _).past hb _ _).past hb _ _).past hb _ _
theorem oU{mb b:Nat}{M:PM}{w w1:ak}(p:Part){a0 a1 a2 a3 a4 a5 a6:ay}(h0:w1.heap[b]?=some (.cells #[a0,a1,a2,a3,a4,a5,a6] 312 (0,0)))(hM:bQ w1 mb M)(hm:Mod (λj=>j=mb) w w1)(hb:w.heap.size<=b)(hmb:mb<w.heap.size):∃W,W=sZ w1 b (uV p.first.a) (uV p.first.b) (uV p.first.c) (uV p.last.a) (uV p.last.b) (uV p.last.c) (.bool p.none)/\W.heap[b]?=some (.cells p.cells.toArray 312 (0,0))/\bQ W mb M/\Mod (λj=>j=mb) w W:=⟨_,rfl,qA _ _ _ _ _ _ _ h0,⟨hM.1,(qz _ _ _ _ _ _ _ _ _ (by omega)).trans hM.2⟩,vW _ _ _ _ _ _ _ _ _ hm hb⟩
theorem bC.pS(e:bC):∃t v,e.val= .iface t v:=by cases e<;>exact⟨_,_,rfl⟩
def z7:Array ay:=#[.int .u64 0,.int .u64 0,.int .u64 0,.int .u64 0,.int .u64 0,.int .u64 0,.bool false]
theorem NZ:gZ .empty:=by intro mb M w hM hT hn;have hmb:=lt_of_heap hM.2;obtain⟨a1,a2,a3,a4,a5⟩:=Gu (.agg #[]);simp only[Asserts,C3,yu,zu,vN]at a1 a2 a3 a4 a5;have hnew:=heap_alloc_new w (.cells #[uV 0,uV 0,uV 0,uV 0,uV 0,uV 0,.bool true] 312);have hb:=(aB w.heap.size w).alloc (au _) (.cells #[uV 0,uV 0,uV 0,uV 0,uV 0,uV 0,.bool true] 312);have H:=ae (show _/\_/\_ from⟨hM,hnew,hb⟩);clear hM hT hn hnew hb;unfold aP bC.val;go_enter pk,nI;go_wp2_with fail;refine bodyPost_ret (results_cell_row rfl _ _ w.heap.size _ _ (0,0) _ rfl H.2.1 fw rfl (by kernel_rfl)) rfl ?_;exact⟨rfl,H.1.below H.2.2,⟨H.2.2.os,H.2.2.tape,H.2.2.output,H.2.2.size,λj hj _=>H.2.2.block j hj⟩⟩
theorem RO:gZ .iW:=by intro mb M w hM hT hn;have hmb:=lt_of_heap hM.2;obtain⟨a1,a2,a3,a4,a5⟩:=JD (.agg #[]);simp only[Asserts,C3,yu,zu,vN]at a1 a2 a3 a4 a5;have hnew:=heap_alloc_new w (.cells #[uV 0,uV 0,uV 0,uV 0,uV 0,uV 0,.bool true] 312);have hb:=(aB w.heap.size w).alloc (au _) (.cells #[uV 0,uV 0,uV 0,uV 0,uV 0,uV 0,.bool true] 312);have H:=ae (show _/\_/\_ from⟨hM,hnew,hb⟩);clear hM hT hn hnew hb;unfold aP bC.val;go_enter pk,nI;go_wp2_with fail;refine bodyPost_ret (results_cell_row rfl _ _ w.heap.size _ _ (0,0) _ rfl H.2.1 fw rfl (by kernel_rfl)) rfl ?_;exact⟨rfl,H.1.below H.2.2,⟨H.2.2.os,H.2.2.tape,H.2.2.output,H.2.2.size,λj hj _=>H.2.2.block j hj⟩⟩
theorem NY(e:bC)(ih:gZ e):gZ (.maybe e):=by
 intro mb M w hM hT hn;have hmb:=lt_of_heap hM.2;obtain⟨a1,a2,a3,a4,a5⟩:=Gt (.agg #[e.val]);simp only[Asserts,C3,yu,zu,vN]at a1 a2 a3 a4 a5;obtain⟨xt,xv,hx⟩:=e.pS;obtain⟨W,hW⟩:∃W,W=(w.alloc (.cells z7 312)).alloc (.cells #[.iface xt xv] 390):=⟨_,rfl⟩;have h0:W.heap[w.heap.size]?=some (.cells z7 312 (0,0)):=by rw[hW,aC _ _ _ (by simp)];exact heap_alloc_new w _
 have h1:W.heap[w.heap.size+1]?=some (.cells #[.iface xt xv] 390 (0,0)):=by rw[hW];have:=heap_alloc_new (w.alloc (.cells z7 312)) (.cells #[.iface xt xv] 390);rw[bM]at this;exact this
 have hb:aI w.heap.size w W:=by rw[hW];exact((aB _ w).alloc (au _) _).alloc (by simp) _
 have hsz:W.heap.size=w.heap.size+2:=by rw[hW];simp
 have hcall:=ih mb M W (hM.below hb) (hT.below hb) hn;rw[hx]at a1 a2 a3 a4 a5 hcall;have hc1:W.cell? (aD (w.heap.size+1) 0)=some (.iface xt xv):=aq h1;obtain⟨p,hp⟩:∃p,p=(PM.part e M).2:=⟨_,rfl⟩;have hval:(PM.part (.maybe e) M).2.val=Part.val ⟨p.first,p.last,true⟩:=by rw[hp];rfl
 have LD:(PM.part (.maybe e) M).1=(PM.part e M).1:=rfl;rw[hval,LD];rw[<-hp]at hcall;generalize(PM.part e M).1=N at*;have H:=ae (show _/\_/\_ from⟨hcall,h0,hb⟩);have HW:=ae hW;rw[show(bC.maybe e).val= .iface 390 (.agg #[e.val])from rfl,hx];unfold aP z7 at*;clear hM hT hn hb hval LD hp hcall h0 h1 ih hx hW;go_enter pk,nI;go_wp2_with fail;rw[<-HW];go_wp2_with fail;refine H.1.mono ?_;rintro en w1⟨rfl,hm1,qO⟩;have hc0:=(qO.block (w.heap.size) (by omega) (by omega)).trans H.2.1;have hsz1:=qO.size;obtain⟨q,hq⟩:∃q:Part,q=⟨p.first,p.last,true⟩:=⟨_,rfl⟩;have hc2:(w1.alloc (.cells q.cells.toArray 312)).heap[w.heap.size]?=some (.cells z7 312 (0,0)):=(aC w1 _ _ (by omega)).trans hc0;have hm2:=hm1.below ((aB _ w1).alloc (au _) (.cells q.cells.toArray 312));have kU:Mod (λj=>j=mb) w (w1.alloc (.cells q.cells.toArray 312)):=((fo H.2.2).trans qO).trans (Mod.alloc _ _ _);obtain⟨W3,hW3,hfin⟩:=oU q hc2 hm2 kU (au _) hmb;have hd:=dJ.of hc2;rw[hq]at hd hW3;have HF:=ae hfin;have CU:=ae hW3;have HQ:=ae hq;unfold Part.cells aH.cells at hd;simp only[iT,eZ]at hd;rw[Part.yz p];obtain⟨d0,d1,d2,d3,d4,d5,d6,f0,f1,f2,f3,f4,f5,f6⟩:=hd.all;clear hq hd hfin hW3 hc2 hm2 kU hm1 qO hc0;go_wp2_with fail;have e3:=CU.out;unfold sZ Part.cells aH.cells at e3;simp only[iT,eZ]at e3;rw[<-e3];clear e3;refine bodyPost_ret (results_cell_row rfl _ _ w.heap.size _ _ (0,0) _ rfl HF.1 fw rfl (by kernel_rfl)) rfl ?_;rw[<-HQ];exact⟨rfl,HF.2⟩
def bC.isEmpty:bC->Bool| .empty=>true|_=>false
theorem ko(a:bC):∃T v,a.val= .iface T v/\Asserts T v 296 (.agg #[]) a.isEmpty:=by cases a with|empty=>exact⟨_,_,rfl,λw=>by kernel_rfl⟩|iW=>exact⟨_,_,rfl,λw=>by kernel_rfl⟩|one s=>exact⟨_,_,rfl,λw=>by kernel_rfl⟩|seq a b=>exact⟨_,_,rfl,λw=>by kernel_rfl⟩|or a b=>exact⟨_,_,rfl,λw=>by kernel_rfl⟩|many a sm=>exact⟨_,_,rfl,λw=>by kernel_rfl⟩|maybe a=>exact⟨_,_,rfl,λw=>by kernel_rfl⟩
theorem V7(a b:bC):(a.join b)=if a.isEmpty then b else if b.isEmpty then a else .seq a b:=by cases a<;>cases b<;>rfl
theorem ke(a b:bC)(w:ak):aX ah 150 #[a.val,b.val] w λe w'=>e= .returned (a.join b).val/\aI w.heap.size w w':=by
 obtain⟨Ta,va,ea,ha⟩:=ko a;obtain⟨Tb,vb,eb,hb⟩:=ko b;have hj:(a.join b).val=if a.isEmpty then b.val else if b.isEmpty then a.val else .iface 393 (.agg #[a.val,b.val]):=by rw[V7];cases a.isEmpty<;>cases b.isEmpty<;>rfl
 rw[hj,ea,eb];clear hj ea eb;generalize a.isEmpty=p at*;generalize b.isEmpty=q at*;unfold Asserts at ha hb;go_enter Tryz.func150,Tryz.ntmps150;cases p;·
  cases q;·go_wp2_with fail;go_ret;exact⟨rfl,((aB _ w).alloc (au _) _).alloc (by simp) _⟩
  ·go_wp2_with fail;go_ret;exact⟨rfl,((aB _ w).alloc (au _) _).alloc (by simp) _⟩
 ·go_wp2_with fail;go_ret;exact⟨rfl,(aB _ w).alloc (au _) _⟩
def jh(iv:ay)(n:Nat):Prop:=∃T v f r,iv= .iface T v∧(∀fu w,(method (fu+1) T v "termsearch/pattern.places").run ah w= .ok (f,r) w)∧(∀args w,(callFunc f args).run ah w= .ok (.enter f args) w)∧∀w,aX ah f #[r] w λe w'=>e= .returned (.int .i64 n)/\aI w.heap.size w w'
theorem Jk:jh bC.empty.val 0:=⟨_,_,297,.agg #[],rfl,λfu w=>by kernel_rfl,enters_of asa (by kernel_rfl) rfl,λw=>by go_enter asa,Tryz.ntmps297;go_wp2_with fail;go_ret;exact⟨rfl,(aB _ w).alloc (au _) _⟩⟩
theorem Lq:jh bC.iW.val 129:=⟨_,_,313,.agg #[],rfl,λfu w=>by kernel_rfl,enters_of ar5 (by kernel_rfl) rfl,λw=>by go_enter ar5,Tryz.ntmps313;go_wp2_with fail;go_ret;exact⟨rfl,(aB _ w).alloc (au _) _⟩⟩
theorem N6(s:bG):jh (bC.one s).val 1:=⟨_,_,298,.agg s.cells.toArray,rfl,λfu w=>by kernel_rfl,enters_of ar9 (by kernel_rfl) rfl,λw=>by unfold bG.cells;go_enter ar9,Tryz.ntmps298;go_wp2_with fail;go_ret;exact⟨rfl,(aB _ w).alloc (au _) _⟩⟩
theorem IX{iv:ay}{n:Nat}(h:jh iv n):jh (.iface 390 (.agg #[iv])) n:=by obtain⟨T,v,f,r,rfl,hm,hc,hcall⟩:=h;refine⟨_,_,314,.agg #[.iface T v],rfl,λfu w=>by kernel_rfl,enters_of ar4 (by kernel_rfl) rfl,λw=>?_⟩;have HC:=ae hcall;clear hcall;go_enter ar4,Tryz.ntmps314;go_wp2_with fail;refine(HC _).mono ?_;rintro e w1⟨rfl,hb1⟩;go_wp2_with fail;go_ret;exact⟨rfl,((aB _ w).alloc (au _) _).trans (hb1.mono (by simp))⟩
theorem Lg{iv:ay}{n:Nat}{sm:Bool}(h:jh iv n):jh (.iface 304 (.agg #[iv,.bool sm])) n:=by obtain⟨T,v,f,r,rfl,hm,hc,hcall⟩:=h;refine⟨_,_,299,.agg #[.iface T v,.bool sm],rfl,λfu w=>by kernel_rfl,enters_of ar8 (by kernel_rfl) rfl,λw=>?_⟩;have HC:=ae hcall;clear hcall;go_enter ar8,Tryz.ntmps299;go_wp2_with fail;refine(HC _).mono ?_;rintro e w1⟨rfl,hb1⟩;go_wp2_with fail;go_ret;exact⟨rfl,((aB _ w).alloc (au _) _).trans (hb1.mono (by simp))⟩
theorem NI{iv jv:ay}{n m:Nat}(h:jh iv n)(h':jh jv m)(hn:n<=129)(hm':m<=129):jh (.iface 393 (.agg #[iv,jv])) (min (n+m) 129):=by
 obtain⟨T,v,f,r,rfl,hm,hc,hcall⟩:=h;obtain⟨T2,v2,f2,r2,rfl,hm2,hc2,kV⟩:=h';refine⟨_,_,315,.agg #[.iface T v,.iface T2 v2],rfl,λfu w=>by kernel_rfl,enters_of ar3 (by kernel_rfl) rfl,λw=>?_⟩;have HC:=ae hcall;have Yr:=ae kV;clear hcall kV;have Xd:Hid ((w.alloc (.cells #[.iface T v,.iface T2 v2] 393)).drew.heap[w.heap.size]?=some (.cells #[.iface T v,.iface T2 v2] 393 (0,0))/\aI w.heap.size w (w.alloc (.cells #[.iface T v,.iface T2 v2] 393)).drew):=ae ⟨heap_alloc_new w _,((aB _ w).alloc (au _) _).drew⟩;obtain⟨q,hq⟩:∃q:Nat,q=min (n+m) 129:=⟨_,rfl⟩;have hwr:IntKind.i64.wrap ((n:Int)+(m:Int))=(n:Int)+(m:Int):=aK _ (by omega);have hmin:min ((n:Int)+(m:Int)) 129=(q:Int):=by omega
 rw[<-hq];clear hq;go_enter ar3,Tryz.ntmps315;go_wp2_with fail;refine kS [0,1,3,4] [2,5] 2 [(6,false),(7,true),(8,false)] #[true,true,false,true,true,false,false,false,false] #[true,true,true,true,true,true,false,false,false] 1000 (λw'=>w'.heap[w.heap.size]?=some (.cells #[.iface T v,.iface T2 v2] 393 (0,0))/\aI w.heap.size w w') (by kernel_rfl) (by kernel_rfl) Xd ?_;simp only[dM,mg];iterate 4(
 refine aR ?_ rfl rfl (λw' hS=>?_) ?_;rotate_left;·have e0:w'.cell? (aD w.heap.size 0)=some (.iface T v):=aq hS.1;have e1:w'.cell? (aD w.heap.size 1)=some (.iface T2 v2):=aq hS.1;go_simp;try rfl
 simp only[aN,ai,aj])
 refine cV ?_;rintro-;refine ads [5,8] [undef,undef] (λl vs w'=>∃v1 v3,vs=[v1,v3]/\(w'.heap[w.heap.size]?=some (.cells #[.iface T v,.iface T2 v2] 393 (0,0))/\aI w.heap.size w w')/\(l.getD 2 false=true->v1=iV n)/\(l.getD 5 false=true->v3=iV m)) (by unfold jX;simp only[jX,aN,ai,aj]) ?_ ?_ ?_ ?_;·exact⟨_,_,rfl,Xd,λh=>absurd h (by decide),λh=>absurd h (by decide)⟩
 ·rintro l vs w' i⟨v1,v3,rfl,hS,h1,h3⟩hi hr G HG;simp only[ql,tT,or_false]at hi;have hs:=jc hr;have HX:=ae (show _/\_/\_/\_ from⟨hS,h1,h3,hs⟩);clear hS h1 h3 hs hr;rcases hi with rfl|rfl;·
   refine HG ?_;simp only[jX,aN,ai,aj];refine eO rfl rfl (λK hK=>?_);go_simp;refine(HC _).mono ?_;rintro en w''⟨rfl,hb⟩;refine hK _ _ ⟨λ_=>?_,[_,_],rfl,_,_,rfl,?_,λ_=>rfl,?_⟩;·exact⟨(hb.block _ (lt_of_heap HX.1.1)).trans HX.1.1,HX.1.2.trans (hb.mono HX.1.2.size)⟩
   ·exact⟨(hb.block _ (lt_of_heap HX.1.1)).trans HX.1.1,HX.1.2.trans (hb.mono HX.1.2.size)⟩
   ·rw[HX.2.2.2 5,if_neg (show¬(5=2)by decide)];exact HX.2.2.1
  ·refine HG ?_;simp only[jX,aN,ai,aj];refine eO rfl rfl (λK hK=>?_);go_simp;refine(Yr _).mono ?_;rintro en w''⟨rfl,hb⟩;refine hK _ _ ⟨λ_=>?_,[_,_],rfl,_,_,rfl,?_,?_,λ_=>rfl⟩;·exact⟨(hb.block _ (lt_of_heap HX.1.1)).trans HX.1.1,HX.1.2.trans (hb.mono HX.1.2.size)⟩
   ·exact⟨(hb.block _ (lt_of_heap HX.1.1)).trans HX.1.1,HX.1.2.trans (hb.mono HX.1.2.size)⟩
   ·rw[HX.2.2.2 2,if_neg (show¬(2=5)by decide)];exact HX.2.1
 ·rintro vs w'⟨v1,v3,rfl,hS,_,_⟩;exact hS
 ·rintro vs w'⟨v1,v3,rfl,hS,h1,h3⟩G HG;obtain rfl:=h1 (by decide);obtain rfl:=h3 (by decide);have HS:=ae hS;clear hS h1 h3;refine HG ?_;simp only[jX,aN,ai,aj];refine aR ?_ rfl rfl (λw' hS=>?_) ?_;rotate_left;·go_simp;try rfl
  simp only[aN,ai,aj];refine bg rfl rfl (by decide) (λK hK=>?_);go_simp;refine hK _ _ HS ?_;clear hK K hwr hmin;refine aR ?_ rfl rfl (λw' hS=>?_) ?_;rotate_left;·go_simp;try rfl
  simp only[aN,ai,aj];refine cV ?_;go_wp2_with fail;go_ret;exact⟨rfl,HS.2⟩
theorem RQ{iv jv:ay}{n m:Nat}(h:jh iv n)(h':jh jv m)(hn:n<=129)(hm':m<=129):jh (.iface 387 (.agg #[iv,jv])) (min (n+m) 129):=by
 obtain⟨T,v,f,r,rfl,hm,hc,hcall⟩:=h;obtain⟨T2,v2,f2,r2,rfl,hm2,hc2,kV⟩:=h';refine⟨_,_,312,.agg #[.iface T v,.iface T2 v2],rfl,λfu w=>by kernel_rfl,enters_of ar6 (by kernel_rfl) rfl,λw=>?_⟩;have HC:=ae hcall;have Yr:=ae kV;clear hcall kV;have Xd:Hid ((w.alloc (.cells #[.iface T v,.iface T2 v2] 387)).drew.heap[w.heap.size]?=some (.cells #[.iface T v,.iface T2 v2] 387 (0,0))/\aI w.heap.size w (w.alloc (.cells #[.iface T v,.iface T2 v2] 387)).drew):=ae ⟨heap_alloc_new w _,((aB _ w).alloc (au _) _).drew⟩;obtain⟨q,hq⟩:∃q:Nat,q=min (n+m) 129:=⟨_,rfl⟩;have hwr:IntKind.i64.wrap ((n:Int)+(m:Int))=(n:Int)+(m:Int):=aK _ (by omega);have hmin:min ((n:Int)+(m:Int)) 129=(q:Int):=by omega
 rw[<-hq];clear hq;go_enter ar6,Tryz.ntmps312;go_wp2_with fail;refine kS [0,1,3,4] [2,5] 2 [(6,false),(7,true),(8,false)] #[true,true,false,true,true,false,false,false,false] #[true,true,true,true,true,true,false,false,false] 1000 (λw'=>w'.heap[w.heap.size]?=some (.cells #[.iface T v,.iface T2 v2] 387 (0,0))/\aI w.heap.size w w') (by kernel_rfl) (by kernel_rfl) Xd ?_;simp only[dM,mg];iterate 4(
 refine aR ?_ rfl rfl (λw' hS=>?_) ?_;rotate_left;·have e0:w'.cell? (aD w.heap.size 0)=some (.iface T v):=aq hS.1;have e1:w'.cell? (aD w.heap.size 1)=some (.iface T2 v2):=aq hS.1;go_simp;try rfl
 simp only[aN,ai,aj])
 refine cV ?_;rintro-;refine ads [5,8] [undef,undef] (λl vs w'=>∃v1 v3,vs=[v1,v3]/\(w'.heap[w.heap.size]?=some (.cells #[.iface T v,.iface T2 v2] 387 (0,0))/\aI w.heap.size w w')/\(l.getD 2 false=true->v1=iV n)/\(l.getD 5 false=true->v3=iV m)) (by unfold jX;simp only[jX,aN,ai,aj]) ?_ ?_ ?_ ?_;·exact⟨_,_,rfl,Xd,λh=>absurd h (by decide),λh=>absurd h (by decide)⟩
 ·rintro l vs w' i⟨v1,v3,rfl,hS,h1,h3⟩hi hr G HG;simp only[ql,tT,or_false]at hi;have hs:=jc hr;have HX:=ae (show _/\_/\_/\_ from⟨hS,h1,h3,hs⟩);clear hS h1 h3 hs hr;rcases hi with rfl|rfl;·
   refine HG ?_;simp only[jX,aN,ai,aj];refine eO rfl rfl (λK hK=>?_);go_simp;refine(HC _).mono ?_;rintro en w''⟨rfl,hb⟩;refine hK _ _ ⟨λ_=>?_,[_,_],rfl,_,_,rfl,?_,λ_=>rfl,?_⟩;·exact⟨(hb.block _ (lt_of_heap HX.1.1)).trans HX.1.1,HX.1.2.trans (hb.mono HX.1.2.size)⟩
   ·exact⟨(hb.block _ (lt_of_heap HX.1.1)).trans HX.1.1,HX.1.2.trans (hb.mono HX.1.2.size)⟩
   ·rw[HX.2.2.2 5,if_neg (show¬(5=2)by decide)];exact HX.2.2.1
  ·refine HG ?_;simp only[jX,aN,ai,aj];refine eO rfl rfl (λK hK=>?_);go_simp;refine(Yr _).mono ?_;rintro en w''⟨rfl,hb⟩;refine hK _ _ ⟨λ_=>?_,[_,_],rfl,_,_,rfl,?_,?_,λ_=>rfl⟩;·exact⟨(hb.block _ (lt_of_heap HX.1.1)).trans HX.1.1,HX.1.2.trans (hb.mono HX.1.2.size)⟩
   ·exact⟨(hb.block _ (lt_of_heap HX.1.1)).trans HX.1.1,HX.1.2.trans (hb.mono HX.1.2.size)⟩
   ·rw[HX.2.2.2 2,if_neg (show¬(2=5)by decide)];exact HX.2.1
 ·rintro vs w'⟨v1,v3,rfl,hS,_,_⟩;exact hS
 ·rintro vs w'⟨v1,v3,rfl,hS,h1,h3⟩G HG;obtain rfl:=h1 (by decide);obtain rfl:=h3 (by decide);have HS:=ae hS;clear hS h1 h3;refine HG ?_;simp only[jX,aN,ai,aj];refine aR ?_ rfl rfl (λw' hS=>?_) ?_;rotate_left;·go_simp;try rfl
  simp only[aN,ai,aj];refine bg rfl rfl (by decide) (λK hK=>?_);go_simp;refine hK _ _ HS ?_;clear hK K hwr hmin;refine aR ?_ rfl rfl (λw' hS=>?_) ?_;rotate_left;·go_simp;try rfl
  simp only[aN,ai,aj];refine cV ?_;go_wp2_with fail;go_ret;exact⟨rfl,HS.2⟩
theorem fE(a:bC):a.places<=129:=by induction a with|empty=>decide|iW=>decide|one s=>show 1<=129;decide|seq a b _ _=>show min _ 129<=129;omega|or a b _ _=>show min _ 129<=129;omega|many a sm ih=>exact ih|maybe a ih=>exact ih
theorem Et(a:bC):jh a.val a.places:=by induction a with|empty=>exact Jk|iW=>exact Lq|one s=>exact N6 s|seq a b uo um=>exact NI uo um (fE a) (fE b)|or a b uo um=>exact RQ uo um (fE a) (fE b)|many a sm ih=>exact Lg ih|maybe a ih=>exact IX ih
def DF(tv:ay)(T:dU):Prop:=∃f,tv= .func (.func f) #[] #[]/\(∀args w,(callFunc f args).run ah w= .ok (.enter f args) w)/\∀(a:bC)(lo hi:Nat)(en:Bool)(w:ak),lo<=hi->hi<=9->aX ah f #[a.val,.int .i64 lo,.int .i64 hi,.bool en] w λe w'=>e= .returned (T a lo hi en).val/\aI w.heap.size w w'
theorem N7:DF (.func (.func 145) #[] #[]) qG:=⟨_,rfl,enters_of asn (by kernel_rfl) rfl,λa lo hi en w _ _=>by show aX ah 145 #[a.val,iV lo,iV hi,.bool en] w λe w'=>e= .returned a.val/\aI w.heap.size w w';generalize a.val=v;go_enter asn,Tryz.ntmps145;go_wp2_with fail;go_ret;exact⟨rfl,aB _ _⟩⟩
theorem NU(a:bC)(lo hi:Nat)(en:Bool)(w:ak)(hlh:lo<=hi)(h9:hi<=9):aX ah 147 #[a.val,iV lo,iV hi,.bool en] w λe w'=>e= .returned (bJ a lo hi en).val/\aI w.heap.size w w':=by
 obtain⟨T,v,f,r,hv,hm,hc,hcall⟩:=Et a;obtain⟨R,hR⟩:∃R,R=bJ a lo hi en:=⟨_,rfl⟩;rw[<-hR,hv];unfold bJ at hR;have HR:=ae hR;have HV:=ae hv;have hq:=fE a;obtain⟨q,hqe⟩:∃q,q=a.places:=⟨_,rfl⟩;rw[<-hqe]at hq hcall;have HC:=ae hcall;have HQ:=ae hqe;obtain⟨N,hN⟩:∃N,N=if en then lo+1 else hi:=⟨_,rfl⟩;have HN:=ae hN;have anh:N<=10:=by rw[hN];split<;>omega
 obtain⟨qn,Gb⟩:∃qn,qn=q*N:=⟨_,rfl⟩;have hqb:qn<=1290:=by rw[Gb];exact Nat.mul_le_mul hq anh
 have hmul:(q:Int)*(N:Int)=(qn:Int):=by rw[Gb];simp
 have HQN:=ae Gb;clear hR hv hcall hqe hN Gb;have hbg:Hid (128<qn->R= .iW):=ae λh=>by rw[HR,if_pos];rw[<-HQ,<-HN,<-HQN];exact h
 have hsm:Hid (¬128<qn->R=if en then(bC.gH .empty a lo).join (.many a false)else(bC.gH .empty a lo).gH (.maybe a) (hi-lo)):=ae λh=>by rw[HR,if_neg];rw[<-HQ,<-HN,<-HQN];exact h
 cases en;·
  obtain rfl:N=hi:=HN.out;clear HR;go_enter UF,aoP;go_wp2_with fail;refine(HC _).mono ?_;rintro e w1⟨rfl,hb1⟩;have HB:=ae hb1;clear hb1;by_cases hbig:128<qn;·
   have hbz:(128:Int)<(qn:Int):=by omega
   have nj:=hbg hbig;subst nj;clear hbig;go_wp2_with fail;go_ret;exact⟨rfl,HB⟩
  ·have hbz:¬(128:Int)<(qn:Int):=by omega
   have amX:decide ((128:Int)<(qn:Int))=false:=by simp;omega
   have zm:=ae (hsm hbig);clear hbig hbz;go_wp2_with fail;go_loopw[10,25](λxv kv wr=>∃(k:Nat),k<=lo/\kv= .int .i64 k/\xv=(bC.gH .empty a k).val/\aI w.heap.size w wr)(λ_ kv _=>lo-(intOf kv).toNat);case atStart=>exact⟨0,aW _,rfl,rfl,HB⟩
   case round=>
    clear HB;obtain⟨k,hk,rfl,rfl,hbr⟩:=hrel;by_cases hkl:k<lo;·
     have hkz:(k:Int)<(lo:Int):=by omega
     have DL:=ae hbr;clear hbr;go_wp2_with fail;have hcall:=ke (bC.gH .empty a k) a wr;rw[HV]at hcall;refine hcall.mono ?_;clear hcall;rintro e w1⟨rfl,hb1⟩;have jG:=ae (DL.trans (hb1.mono DL.size));clear hb1;go_wp2_with fail;exact⟨⟨k+1,by omega,by go_num,rfl,jG.out⟩,by simp[intOf];omega⟩
    ·obtain rfl:lo=k:=by omega
     have DL:=ae hbr;clear hbr hkl hk;have zm:=ae zm;go_wp2_with fail;go_loopw[10,40](λxv kv wr=>∃(k:Nat),k<=N-lo/\kv= .int .i64 k/\xv=((bC.gH .empty a lo).gH (.maybe a) k).val/\aI w.heap.size w wr)(λ_ kv _=>N-lo-(intOf kv).toNat);case atStart=>exact⟨0,aW _,rfl,rfl,DL⟩
     case round=>
      clear DL;obtain⟨k,hk,rfl,rfl,hbr⟩:=hrel;by_cases hkl:k<N-lo;·
       have hkz:(k:Int)<(N:Int)-(lo:Int):=by omega
       have DL:=ae hbr;clear hbr;go_wp2_with fail;have hcall:=ke ((bC.gH .empty a lo).gH (.maybe a) k) (.maybe a) wr;rw[show(bC.maybe a).val= .iface 390 (.agg #[a.val])from rfl,HV]at hcall;refine hcall.mono ?_;clear hcall;rintro e w1⟨rfl,hb1⟩;have jG:=ae (DL.trans (hb1.mono DL.size));clear hb1;go_wp2_with fail;exact⟨⟨k+1,by omega,by go_num,rfl,jG.out⟩,by simp[intOf];omega⟩
      ·have HKN:=ae (show k=N-lo by omega);have hkz:decide ((k:Int)<(N:Int)-(lo:Int))=false:=by simp;omega
       have DL:=ae hbr;clear hbr hkl hk;go_wp2_with fail;go_ret;refine⟨?_,DL⟩;rw[zm,HKN];rfl
 ·obtain rfl:N=lo+1:=HN.out;clear HR;go_enter UF,aoP;rw[show(((lo+1:Nat)):Int)=(lo:Int)+1 by omega]at hmul;go_wp2_with fail;refine(HC _).mono ?_;rintro e w1⟨rfl,hb1⟩;have HB:=ae hb1;clear hb1;by_cases hbig:128<qn;·
   have hbz:(128:Int)<(qn:Int):=by omega
   have nj:=hbg hbig;subst nj;clear hbig;go_wp2_with fail;go_ret;exact⟨rfl,HB⟩
  ·have hbz:¬(128:Int)<(qn:Int):=by omega
   have amX:decide ((128:Int)<(qn:Int))=false:=by simp;omega
   have zm:=ae (hsm hbig);clear hbig hbz;go_wp2_with fail;go_loopw[10,25](λxv kv wr=>∃(k:Nat),k<=lo/\kv= .int .i64 k/\xv=(bC.gH .empty a k).val/\aI w.heap.size w wr)(λ_ kv _=>lo-(intOf kv).toNat);case atStart=>exact⟨0,aW _,rfl,rfl,HB⟩
   case round=>
    clear HB;obtain⟨k,hk,rfl,rfl,hbr⟩:=hrel;by_cases hkl:k<lo;·
     have hkz:(k:Int)<(lo:Int):=by omega
     have DL:=ae hbr;clear hbr;go_wp2_with fail;have hcall:=ke (bC.gH .empty a k) a wr;rw[HV]at hcall;refine hcall.mono ?_;clear hcall;rintro e w1⟨rfl,hb1⟩;have jG:=ae (DL.trans (hb1.mono DL.size));clear hb1;go_wp2_with fail;exact⟨⟨k+1,by omega,by go_num,rfl,jG.out⟩,by simp[intOf];omega⟩
    ·obtain rfl:lo=k:=by omega
     have DL:=ae hbr;clear hbr hkl hk;go_wp2_with fail;have hcall:=ke (bC.gH .empty a lo) (.many a false) wr;rw[show(bC.many a false).val= .iface 304 (.agg #[a.val,.bool false])from rfl,HV]at hcall;refine hcall.mono ?_;clear hcall;rintro e w1⟨rfl,hb1⟩;have jG:=ae (DL.trans (hb1.mono DL.size));clear hb1;go_wp2_with fail;go_ret;refine⟨?_,jG⟩;rw[zm];rfl
theorem IC:DF (.func (.func 147) #[] #[]) bJ:=⟨_,rfl,enters_of UF (by kernel_rfl) rfl,λa lo hi en w h1 h2=>NU a lo hi en w h1 h2⟩
def Reads{α:Type}(val:α->ay)(rb:Nat)(s:ByteArray)(w:ak)(r:PR α)(e:Ending)(w':ak):Prop:=match r with| .fault i=>e= .panicked (BF i)/\Mod (λj=>j=rb) w w'| .ok x i=>e= .returned (val x)/\eQ w' rb s i/\Mod (λj=>j=rb) w w'
theorem yE(rb:Nat)(s:ByteArray)(i:Nat)(w:ak)(hR:eQ w rb s i):aX ah 266 #[aP rb] w (Reads (λc:UInt8=> .int .u8 c.toNat) rb s w (cZ s i)):=by
 have hcall:=lG rb s i 92 w hR;have HE:=ae (yZ s i 92 hR.2.1);obtain⟨R,yX⟩:∃R,R=cZ s i:=⟨_,rfl⟩;rw[<-yX];unfold cZ at yX;generalize hbr:cH s i 92=br at hcall;generalize gL s i 92=q at*;have hs:=hR.2.2;have HC:=ae hcall;clear hcall hR hbr;have TC:=ae yX;clear yX;unfold aP;go_enter Tryz.func266,Tryz.ntmps266;go_wp2_with(have hcall:=HC.out;unfold aP at hcall;refine hcall.mono ?_;clear hcall;rintro e w1⟨rfl,hr1,hm1⟩;have H1:=ae (aA hr1 hm1);clear hr1 hm1);obtain⟨ok,hok⟩:∃ok,ok=decide (q<s.size):=⟨_,rfl⟩;have PL:=ae hok;clear hok;refine eo [(0,false),(1,false),(2,false),(3,false),(4,false),(5,false),(6,false),(7,false),(8,false),(9,false),(10,false),(11,true)] (λw'=>eQ w' rb s q/\Mod (λj=>j=rb) w w') (λc w'=>Reads (λc:UInt8=> .int .u8 c.toNat) rb s w R (.panicked c) w') (λc a w' hd h=>⟨hd,h⟩) (by kernel_rfl) (by kernel_rfl) ?_ ?_;·exact⟨H1.1.same (Same.drew _),H1.2.trans (Mod.same (Same.drew _))⟩
 iterate 11(
 refine bR ?_ rfl rfl (λw' hS=>?_) ?_;rotate_left;·have e0:=hS.1.c0;have e1:=hS.1.c1;go_simp;try rfl
 simp only[aN,ai,aj])
 refine dG rfl rfl (by decide) (λK hK=>?_);have HK:=ae hK;clear hK;go_simp;rw[<-PL];have hcall:=eW rb s q ok _ (H1.1.same (Same.drew w1));unfold aP at hcall;refine hcall.mono ?_;clear hcall;rintro e w2⟨rfl,hs2⟩;have rD:eQ w2 rb s q/\Mod (λj=>j=rb) w w2:=⟨(H1.1.same (Same.drew _)).same hs2,(H1.2.trans (Mod.same (Same.drew _))).trans (Mod.same hs2)⟩;cases ok;·
  refine⟨rfl,?_⟩;have nj:R= .fault q:=by rw[TC.out,at_end s q (by simpa using PL.out)]
  rw[nj];exact⟨rfl,rD.2⟩
 ·refine HK _ _ rD ?_;have hlt:q<s.size:=by simpa using PL.out
  have ju:=ae rD;have c0:=rD.1.c0;have c1:=rD.1.c1;have hf:=rD.1.free 1;have rN:=rD.1.lt;have nj:R= .ok s[q] (q+1):=by rw[TC,iP s q hlt]
  clear HK K rD H1;refine iM ?_;subst nj;go_wp2_with fail;have kD:=ju.1.set (j:=q+1) (by omega);have e1:((q+1:Nat):Int)=(q:Int)+1:=by omega
  rw[e1]at kD;have ur:Mod (λj=>j=rb) w (w2.setCell (aD rb 1) (iV ((q:Int)+1))):=ju.2.trans (Mod.setCell _ _ _ λ_=>rfl);have iH:=ae (aA kD ur);generalize w2.setCell (aD rb 1) (iV ((q:Int)+1))=w3 at*;clear c0 c1 hf kD ur e1;have c0:=iH.1.c0;have c1:=iH.1.c1;go_quiet(fail);go_wp2_with fail;go_ret;exact⟨rfl,iH.1.same (Same.drewN _ _),iH.2.trans (Mod.same (Same.drewN _ _))⟩
theorem Hj(rb:Nat)(s:ByteArray)(i least:Nat)(w:ak)(hR:eQ w rb s i)(hl9:least<=9):aX ah 251 #[aP rb,iV least] w (Reads (λn:Nat=>iV n) rb s w (dI s i least)):=by
 obtain⟨R,yX⟩:∃R,R=dI s i least:=⟨_,rfl⟩;rw[<-yX];unfold dI at yX;have hs:=hR.2.2;have hi:=hR.2.1;have HR:=ae hR;have d6:IntKind.u8.wrap (least:Int)=(least:Int):=A0 _ (by omega);have d7:IntKind.u8.wrap (48+(least:Int))=48+(least:Int):=A0 _ (by omega);clear hR;by_cases hlt:i<s.size;·
  rw[iP s i hlt]at yX;dsimp only at yX;have hcl:=(s[i]).toNat_lt;by_cases h1:48+least<=(s[i]).toNat;·
   obtain⟨ok,hok⟩:∃ok,ok=decide (((s[i]).toNat:Int)<=57):=⟨_,rfl⟩;have TC:Hid (R=if ok then PR.ok ((s[i]).toNat-48) (i+1)else PR.fault i):=ae (by
    rw[yX,hok];by_cases h57:(s[i]).toNat<=57;·rw[if_pos ⟨h1,h57⟩,decide_eq_true (by omega)];rfl
    ·rw[if_neg (λe=>h57 e.2),decide_eq_false (by omega)];rfl);have PL:=ae hok;have h1z:(48:Int)+(least:Int)<=((s[i]).toNat:Int):=by omega
   clear hok yX;unfold aP;go_enter Uy,Q4;go_wp2_with fail;refine eo [(0,false),(1,false),(2,false),(3,false),(4,false),(5,false),(6,false),(7,false),(8,false),(9,false),(10,false),(11,false),(12,false),(13,false),(14,false),(15,false),(16,false),(17,false),(18,false),(19,false),(20,false),(21,false),(22,false),(23,false),(24,false),(25,false),(26,false),(27,false),(28,false),(29,false),(30,false),(31,false),(32,false),(33,false),(34,false),(35,false),(36,false),(37,false),(38,true)] (λw'=>eQ w' rb s i/\Mod (λj=>j=rb) w w') (λc w'=>Reads (λn:Nat=>iV n) rb s w R (.panicked c) w') (λc a w' hd h=>⟨hd,h⟩) (by kernel_rfl) (by kernel_rfl) ?_ ?_;·exact⟨HR.same (Same.drew _),Mod.same (Same.drew _)⟩
   iterate 38(
 refine bR ?_ rfl rfl (λw' hS=>?_) ?_;rotate_left;·have e0:=hS.1.c0;have e1:=hS.1.c1;go_simp;try rfl
 simp only[aN,ai,aj])
   refine dG rfl rfl (by decide) (λK hK=>?_);have HK:=ae hK;clear hK;go_simp;rw[<-PL];have hcall:=eW rb s i ok _ (HR.same (Same.drew w));unfold aP at hcall;refine hcall.mono ?_;clear hcall;rintro e w2⟨rfl,hs2⟩;cases ok;·refine⟨rfl,?_⟩;rw[TC];exact⟨rfl,(Mod.same (Same.drew _)).trans (Mod.same hs2)⟩
   ·have rD:eQ w2 rb s i/\Mod (λj=>j=rb) w w2:=⟨(HR.same (Same.drew _)).same hs2,(Mod.same (Same.drew _)).trans (Mod.same hs2)⟩;refine HK _ _ rD ?_;have ju:=ae rD;have c0:=rD.1.c0;have c1:=rD.1.c1;have hf:=rD.1.free 1;have rN:=rD.1.lt;have nj:R= .ok ((s[i]).toNat-48) (i+1):=TC;have h57:((s[i]).toNat:Int)<=57:=by have:=PL.out;simpa using this.symm
    have d8:IntKind.u8.wrap (((s[i]).toNat:Int)-48)=((s[i]).toNat:Int)-48:=A0 _ (by omega);have HD9:=ae (show((((s[i]).toNat-48:Nat)):Int)=((s[i]).toNat:Int)-48 by omega);clear HK K rD;refine iM ?_;subst nj;go_wp2_with fail;have kD:=ju.1.set (j:=i+1) (by omega);have e1:((i+1:Nat):Int)=(i:Int)+1:=by omega
    rw[e1]at kD;have ur:Mod (λj=>j=rb) w (w2.setCell (aD rb 1) (iV ((i:Int)+1))):=ju.2.trans (Mod.setCell _ _ _ λ_=>rfl);have iH:=ae (aA kD ur);generalize w2.setCell (aD rb 1) (iV ((i:Int)+1))=w3 at*;clear c0 c1 hf kD ur e1;have c0:=iH.1.c0;have c1:=iH.1.c1;go_quiet(fail);go_wp2_with fail;go_ret;exact⟨IA HD9.symm,iH.1.same (Same.drewN _ _),iH.2.trans (Mod.same (Same.drewN _ _))⟩
  ·have TC:Hid (R=PR.fault i):=ae (by rw[yX,if_neg (λe=>h1 e.1)]);have h1z:decide ((48:Int)+(least:Int)<=((s[i]).toNat:Int))=false:=by simp;omega
   clear yX;unfold aP;go_enter Uy,Q4;go_wp2_with fail;refine eo [(0,false),(1,false),(2,false),(3,false),(4,false),(5,false),(6,false),(7,false),(8,false),(9,false),(10,false),(11,false),(12,false),(13,false),(14,false),(15,false),(16,false),(17,false),(18,false),(19,false),(20,false),(21,false),(22,false),(23,false),(24,false),(25,false),(26,false),(27,false),(28,false),(29,false),(30,false),(31,false),(32,false),(33,false),(34,false),(35,false),(36,false),(37,false),(38,true)] (λw'=>eQ w' rb s i/\Mod (λj=>j=rb) w w') (λc w'=>Reads (λn:Nat=>iV n) rb s w R (.panicked c) w') (λc a w' hd h=>⟨hd,h⟩) (by kernel_rfl) (by kernel_rfl) ?_ ?_;·exact⟨HR.same (Same.drew _),Mod.same (Same.drew _)⟩
   iterate 27(
 refine bR ?_ rfl rfl (λw' hS=>?_) ?_;rotate_left;·have e0:=hS.1.c0;have e1:=hS.1.c1;go_simp;try rfl
 simp only[aN,ai,aj])
   iterate 10(refine eV rfl rfl ?_;simp only[aN,ai,aj])
   iterate 1(
 refine bR ?_ rfl rfl (λw' hS=>?_) ?_;rotate_left;·have e0:=hS.1.c0;have e1:=hS.1.c1;go_simp;try rfl
 simp only[aN,ai,aj])
   refine dG rfl rfl (by decide) (λK hK=>?_);have HK:=ae hK;clear hK;go_simp;have hcall:=eW rb s i false _ (HR.same (Same.drew w));unfold aP at hcall;refine hcall.mono ?_;clear hcall;rintro e w2⟨rfl,hs2⟩;refine⟨rfl,?_⟩;rw[TC];exact⟨rfl,(Mod.same (Same.drew _)).trans (Mod.same hs2)⟩
 ·rw[at_end s i (by omega)]at yX;dsimp only at yX;have TC:=ae yX;have q2:decide (i<s.size)=false:=by simp;omega
  clear yX hlt;unfold aP;go_enter Uy,Q4;go_wp2_with fail;refine eo [(0,false),(1,false),(2,false),(3,false),(4,false),(5,false),(6,false),(7,false),(8,false),(9,false),(10,false),(11,false),(12,false),(13,false),(14,false),(15,false),(16,false),(17,false),(18,false),(19,false),(20,false),(21,false),(22,false),(23,false),(24,false),(25,false),(26,false),(27,false),(28,false),(29,false),(30,false),(31,false),(32,false),(33,false),(34,false),(35,false),(36,false),(37,false),(38,true)] (λw'=>eQ w' rb s i/\Mod (λj=>j=rb) w w') (λc w'=>Reads (λn:Nat=>iV n) rb s w R (.panicked c) w') (λc a w' hd h=>⟨hd,h⟩) (by kernel_rfl) (by kernel_rfl) ?_ ?_;·exact⟨HR.same (Same.drew _),Mod.same (Same.drew _)⟩
  iterate 12(
 refine bR ?_ rfl rfl (λw' hS=>?_) ?_;rotate_left;·have e0:=hS.1.c0;have e1:=hS.1.c1;go_simp;try rfl
 simp only[aN,ai,aj])
  iterate 13(refine eV rfl rfl ?_;simp only[aN,ai,aj])
  iterate 2(
 refine bR ?_ rfl rfl (λw' hS=>?_) ?_;rotate_left;·have e0:=hS.1.c0;have e1:=hS.1.c1;go_simp;try rfl
 simp only[aN,ai,aj])
  iterate 10(refine eV rfl rfl ?_;simp only[aN,ai,aj])
  iterate 1(
 refine bR ?_ rfl rfl (λw' hS=>?_) ?_;rotate_left;·have e0:=hS.1.c0;have e1:=hS.1.c1;go_simp;try rfl
 simp only[aN,ai,aj])
  refine dG rfl rfl (by decide) (λK hK=>?_);have HK:=ae hK;clear hK;go_simp;have hcall:=eW rb s i false _ (HR.same (Same.drew w));unfold aP at hcall;refine hcall.mono ?_;clear hcall;rintro e w2⟨rfl,hs2⟩;refine⟨rfl,?_⟩;rw[TC];exact⟨rfl,(Mod.same (Same.drew _)).trans (Mod.same hs2)⟩
section
variable{T:dU}{s:ByteArray}{a:bC}{j k l:Nat}{lo hi p:Nat}
theorem Mh(h:cH s j 42=true):dY T s a j= .ok (.many a false) (j+1):=by unfold dY;rw[if_pos h]
theorem Mi(h:cH s j 42=false)(h2:cH s j 43=true):dY T s a j= .ok (.many a true) (j+1):=by unfold dY;rw[if_neg (by rw[h];decide),if_pos h2]
theorem Pm(h:cH s j 42=false)(h2:cH s j 43=false)(h3:cH s j 63=true):dY T s a j= .ok (.maybe a) (j+1):=by unfold dY;rw[if_neg (by rw[h];decide),if_neg (by rw[h2];decide),if_pos h3]
theorem Mj(h:cH s j 42=false)(h2:cH s j 43=false)(h3:cH s j 63=false)(h4:cH s j 123=false):dY T s a j= .ok a j:=by unfold dY;rw[if_neg (by rw[h];decide),if_neg (by rw[h2];decide),if_neg (by rw[h3];decide),if_neg (by rw[h4];decide)]
theorem Jz(h:cH s j 42=false)(h2:cH s j 43=false)(h3:cH s j 63=false)(h4:cH s j 123=true):dY T s a j=gQ T s a (j+1):=by unfold dY;rw[if_neg (by rw[h];decide),if_neg (by rw[h2];decide),if_neg (by rw[h3];decide),if_pos h4]
end
theorem IB(rb:Nat)(s:ByteArray)(i:Nat)(tv:ay)(T:dU)(A:Nat->PR bC)(w:ak)(hT:DF tv T)(hR:eQ w rb s i)(hA:∀w,eQ w rb s i->aX ah 250 #[aP rb,tv] w (Reads bC.val rb s w (eY A s i))):aX ah 226 #[aP rb,tv] w (Reads bC.val rb s w (gq T A s i)):=by obtain⟨R,yX⟩:∃R,R=gq T A s i:=⟨_,rfl⟩;rw[<-yX];unfold gq at yX;obtain⟨tf,rfl,Z5,htt⟩:=hT;have hcall:=hA w hR;obtain⟨R1,hR1⟩:∃R1,R1=eY A s i:=⟨_,rfl⟩;rw[<-hR1]at hcall yX;have HC:=ae hcall;have HT:=ae htt;have MX:=ae yX;clear hcall yX hA hR hR1 htt;unfold aP;go_enter Tryz.func226,Tryz.ntmps226;go_wp2_with fail;have hcall:=HC.out;unfold aP at hcall;refine hcall.mono ?_;cases R1 with
 |fault p=>rintro e w1⟨rfl,hm1⟩;refine⟨rfl,?_⟩;rw[MX.out];exact⟨rfl,hm1⟩|ok a j=>
  rintro e w1⟨rfl,hr1,hm1⟩;have HS:=ae (aA hr1 hm1);have HRB:=ae MX.out;obtain⟨T0,v0,hv,_⟩:=ko a;have HV:=ae hv;rw[hv];go_wp2_with fail;have hcall:=lG rb s j 42 _ HS.out.1;unfold aP at hcall;refine hcall.mono ?_;obtain⟨b1,hb1⟩:∃b,b=cH s j 42:=⟨_,rfl⟩;unfold gL;rw[<-hb1];have jG:=ae hb1.symm;clear hb1;rintro e w2⟨rfl,hr2,hm2⟩;have ju:=ae (aA hr2 (HS.out.2.trans hm2));cases b1;case true=>have nj:=HRB.out.trans (Mh jG.out);subst nj;go_wp2_with fail;go_ret;refine⟨?_,ju.out⟩;show _=kG (.iface 304 (.agg #[a.val,.bool false]));rw[HV.out];rfl
  case false=>
   go_wp2_with fail;have hcall:=lG rb s j 43 _ ju.out.1;unfold aP at hcall;refine hcall.mono ?_;obtain⟨b2,hb2⟩:∃b,b=cH s j 43:=⟨_,rfl⟩;unfold gL;rw[<-hb2];have kN:=ae hb2.symm;clear hb2;rintro e w3⟨rfl,hr3,ur⟩;have iH:=ae (aA hr3 (ju.out.2.trans ur));cases b2;case true=>have nj:=HRB.out.trans (Mi jG.out kN.out);subst nj;go_wp2_with fail;go_ret;refine⟨?_,iH.out⟩;show _=kG (.iface 304 (.agg #[a.val,.bool true]));rw[HV.out];rfl
   case false=>
    go_wp2_with fail;have hcall:=lG rb s j 63 _ iH.out.1;unfold aP at hcall;refine hcall.mono ?_;obtain⟨b3,hb3⟩:∃b,b=cH s j 63:=⟨_,rfl⟩;unfold gL;rw[<-hb3];have Dq:=ae hb3.symm;clear hb3;rintro e w4⟨rfl,hr4,hm4⟩;have pF:=ae (aA hr4 (iH.out.2.trans hm4));cases b3;case true=>have nj:=HRB.out.trans (Pm jG.out kN.out Dq.out);subst nj;go_wp2_with fail;go_ret;refine⟨?_,pF.out⟩;show _=kG (.iface 390 (.agg #[a.val]));rw[HV.out];rfl
    case false=>
     go_wp2_with fail;have hcall:=lG rb s j 123 _ pF.out.1;unfold aP at hcall;refine hcall.mono ?_;obtain⟨b4,hb4⟩:∃b,b=cH s j 123:=⟨_,rfl⟩;unfold gL;rw[<-hb4];have TK:=ae hb4.symm;clear hb4;rintro e w5⟨rfl,BA,nJ⟩;have sO:=ae (aA BA (pF.out.2.trans nJ));clear BA nJ pF;cases b4;case false=>have nj:=HRB.out.trans (Mj jG.out kN.out Dq.out TK.out);subst nj;go_wp2_with fail;go_ret;refine⟨?_,sO.out⟩;show _=kG (a.val);rw[HV.out];rfl
     case true=>have Ya:=ae (HRB.out.trans (Jz jG.out kN.out Dq.out TK.out));clear HRB jG kN Dq TK;go_wp2_with fail;have hcall:=Hj rb s (j+1) 0 _ sO.out.1 (by decide);unfold aP at hcall;refine hcall.mono ?_;clear hcall;unfold gQ at Ya;obtain⟨D,hD⟩:∃D,D=dI s (j+1) 0:=⟨_,rfl⟩;have Fz:∀x k,D= .ok x k->x<=9:=λx k h=>(ny (hD.symm.trans h)).2;rw[<-hD]at Ya⊢;have HDL:=ae Fz;clear hD Fz;cases D with
      |fault p=>rintro e w6⟨rfl,Dg⟩;refine⟨rfl,?_⟩;rw[Ya.out];exact⟨rfl,sO.out.2.trans Dg⟩|ok lo k=>
       rintro e w6⟨rfl,Ga,Dg⟩;have hlo:=HDL.out lo k rfl;have q9:=ae (aA Ga (sO.out.2.trans Dg));clear Ga Dg sO HDL;go_wp2_with fail;have hcall:=lG rb s k 44 _ q9.out.1;unfold aP at hcall;refine hcall.mono ?_;clear hcall;obtain⟨b5,hb5⟩:∃b,b=cH s k 44:=⟨_,rfl⟩;unfold gL;rw[<-hb5];have Y0:=ae hb5.symm;clear hb5;rintro e w7⟨rfl,hr7,hm7⟩;have ye:=ae (aA hr7 (q9.out.2.trans hm7));clear hr7 hm7 q9;cases b5;case false=>
        go_wp2_with fail;have hcall:=lG rb s (k) 125 _ ye.out.1;unfold aP at hcall;refine hcall.mono ?_;clear hcall;obtain⟨b8,nK⟩:∃b,b=cH s (k) 125:=⟨_,rfl⟩;unfold gL;rw[<-nK];have MG:=ae nK.symm;clear nK;rintro e w8⟨rfl,MP,Df⟩;have zl:=ae (aA MP (ye.out.2.trans Df));clear MP Df;go_wp2_with fail;have hcall:=eW rb s _ b8 _ zl.out.1;unfold aP at hcall;refine hcall.mono ?_;clear hcall;rintro e w9⟨rfl,pX⟩;have yc:=ae (aA (zl.out.1.same pX) (zl.out.2.trans (Mod.same pX)));clear pX zl;cases b8;case false=>
         refine⟨rfl,?_⟩;have nj:R= .fault (k):=by rw[Ya.out];rw[if_neg (by rw[Y0.out];decide),if_neg (by rw[MG.out];decide)]
         rw[nj];exact⟨rfl,yc.out.2⟩
        case true=>
         have nj:R= .ok (T a lo lo false) ((k)+1):=by rw[Ya.out];rw[if_neg (by rw[Y0.out];decide),if_pos MG.out]
         subst nj;go_wp2_with fail;have hcall:=HT.out a lo lo false w9 (by omega) (by omega);rw[HV.out]at hcall;refine hcall.mono ?_;clear hcall;rintro e w10⟨rfl,Ah⟩;have X9:=ae (aA (yc.out.1.below Ah) (yc.out.2.trans (fo Ah)));clear Ah;go_wp2_with fail;go_ret;exact⟨rfl,X9.out⟩
       case true=>
        go_wp2_with fail;have hcall:=od rb s (k+1) 125 _ ye.out.1;unfold aP at hcall;refine hcall.mono ?_;clear hcall;obtain⟨b6,oY⟩:∃b,b=cH s (k+1) 125:=⟨_,rfl⟩;rw[<-oY];have HB6:=ae oY.symm;clear oY;rintro e wi⟨rfl,Z8⟩;have HSI:=ae (aA (ye.out.1.same Z8) (ye.out.2.trans (Mod.same Z8)));clear Z8 ye;cases b6;case true=>
         go_wp2_with fail;have hcall:=lG rb s (k+1) 125 _ HSI.out.1;unfold aP at hcall;refine hcall.mono ?_;clear hcall;obtain⟨b8,nK⟩:∃b,b=cH s (k+1) 125:=⟨_,rfl⟩;unfold gL;rw[<-nK];have MG:=ae nK.symm;clear nK;rintro e w8⟨rfl,MP,Df⟩;have zl:=ae (aA MP (HSI.out.2.trans Df));clear MP Df;go_wp2_with fail;have hcall:=eW rb s _ b8 _ zl.out.1;unfold aP at hcall;refine hcall.mono ?_;clear hcall;rintro e w9⟨rfl,pX⟩;have yc:=ae (aA (zl.out.1.same pX) (zl.out.2.trans (Mod.same pX)));clear pX zl;cases b8;case false=>exact absurd (HB6.out.symm.trans MG.out) (by decide)
         case true=>
          have nj:R= .ok (T a lo lo true) (k+1+1):=by rw[Ya.out];rw[if_pos Y0.out,if_pos HB6.out]
          subst nj;go_wp2_with fail;have hcall:=HT.out a lo lo true w9 (by omega) (by omega);rw[HV.out]at hcall;refine hcall.mono ?_;clear hcall;rintro e w10⟨rfl,Ah⟩;have X9:=ae (aA (yc.out.1.below Ah) (yc.out.2.trans (fo Ah)));clear Ah;go_wp2_with fail;go_ret;exact⟨rfl,X9.out⟩
        case false=>go_wp2_with fail;have hcall:=Hj rb s (k+1) lo _ HSI.out.1 hlo;unfold aP at hcall;refine hcall.mono ?_;clear hcall;rw[if_pos Y0.out,if_neg (by rw[HB6.out];decide)]at Ya;obtain⟨D2,OX⟩:∃D,D=dI s (k+1) lo:=⟨_,rfl⟩;have aic:∀x k,D2= .ok x k->lo<=x/\x<=9:=λx k h=>ny (OX.symm.trans h);rw[<-OX]at Ya⊢;have ajL:=ae aic;clear OX aic;cases D2 with
         |fault p=>rintro e w6b⟨rfl,Dg⟩;refine⟨rfl,?_⟩;rw[Ya.out];exact⟨rfl,HSI.out.2.trans Dg⟩|ok hi k2=>
          rintro e w6b⟨rfl,Ga,Dg⟩;have hhi:=ajL.out hi k2 rfl;obtain⟨hh1,hh2⟩:=hhi;have HSJ:=ae (aA Ga (HSI.out.2.trans Dg));clear Ga Dg HSI ajL;go_wp2_with fail;have hcall:=lG rb s (k2) 125 _ HSJ.out.1;unfold aP at hcall;refine hcall.mono ?_;clear hcall;obtain⟨b8,nK⟩:∃b,b=cH s (k2) 125:=⟨_,rfl⟩;unfold gL;rw[<-nK];have MG:=ae nK.symm;clear nK;rintro e w8⟨rfl,MP,Df⟩;have zl:=ae (aA MP (HSJ.out.2.trans Df));clear MP Df;go_wp2_with fail;have hcall:=eW rb s _ b8 _ zl.out.1;unfold aP at hcall;refine hcall.mono ?_;clear hcall;rintro e w9⟨rfl,pX⟩;have yc:=ae (aA (zl.out.1.same pX) (zl.out.2.trans (Mod.same pX)));clear pX zl;cases b8;case false=>
           refine⟨rfl,?_⟩;have nj:R= .fault k2:=by rw[Ya.out];rw[if_neg (by rw[MG.out];decide)]
           rw[nj];exact⟨rfl,yc.out.2⟩
          case true=> have nj:R= .ok (T a lo hi false) (k2+1):=by rw[Ya.out];rw[if_pos MG.out]
                      subst nj;go_wp2_with fail;have hcall:=HT.out a lo hi false w9 (by omega) (by omega);rw[HV.out]at hcall;refine hcall.mono ?_;clear hcall;rintro e w10⟨rfl,Ah⟩;have X9:=ae (aA (yc.out.1.below Ah) (yc.out.2.trans (fo Ah)));clear Ah;go_wp2_with fail;go_ret;exact⟨rfl,X9.out⟩
theorem bG.qy(s:bG){i:Nat}(h:i<4)(v:Nat):s.cells.toArray.setIfInBounds i (uV v)=(s.rA i v).cells.toArray:=by match i with|0=>rfl|1=>rfl|2=>rfl|3=>rfl|n+4=>omega
theorem bG.zO{s:bG}(h:s.ok)(i:Nat){v:Nat}(hv:v<Ax):(s.rA i v).ok:=by obtain⟨h1,h2,h3,h4⟩:=h;match i with|0=>exact⟨hv,h2,h3,h4⟩|1=>exact⟨h1,hv,h3,h4⟩|2=>exact⟨h1,h2,hv,h4⟩|_+3=>exact⟨h1,h2,h3,hv⟩
theorem bG.xP{s:bG}(h:s.ok)(k:Nat):(s.on k).ok:=bG.zO h _ (aH.K6 (bG.jS h _) (aH.BM k))
theorem bG.Qa{s:bG}(h:s.ok)(lo:Nat):∀n,(s.addN lo n).ok|0=>h|n+1=>bG.xP (bG.Qa h lo n) _
theorem bG.Bp{s:bG}(h:s.ok)(lo hi:Nat):(s.add lo hi).ok:=bG.Qa h lo _
theorem bG.dL:bG.zero.ok:=⟨by decide,by decide,by decide,by decide⟩
def gG(w:ak)(ob:Nat)(s:bG):Prop:=s.ok/\w.heap[ob]?=some (.cells s.cells.toArray 300 (0,0))
theorem gG.lt{w:ak}{ob:Nat}{s:bG}(h:gG w ob s):ob<w.heap.size:=lt_of_heap h.2
theorem gG.same{w w':ak}{ob:Nat}{s:bG}(h:gG w ob s)(k:Same w w'):gG w' ob s:=⟨h.1,by rw[k.heap];exact h.2⟩
theorem gG.mod{w w':ak}{ob:Nat}{s:bG}{S:Nat->Prop}(h:gG w ob s)(k:Mod S w w')(hn:¬S ob):gG w' ob s:=⟨h.1,(k.block ob h.lt hn).trans h.2⟩
theorem rS(ob lo hi:Nat)(s:bG)(w:ak)(hS:gG w ob s)(hlo:lo<256)(hhi:hi<256):aX ah 148 #[aP ob,.int .u8 lo,.int .u8 hi] w λe w'=>e= .returned (.tuple #[])/\gG w' ob (s.add lo hi)/\Mod (λj=>j=ob) w w':=by
 have H:=ae hS;clear hS;have a1:IntKind.i64.wrap (lo:Int)=(lo:Int):=aK _ (by omega);have a2:IntKind.i64.wrap (hi:Int)=(hi:Int):=aK _ (by omega);unfold aP;go_enter Tryz.func148,Tryz.ntmps148;go_wp2_with fail;go_loopw[6](λcv wr=>∃(n:Nat),n<=hi+1-lo/\cv= .int .i64 ((lo:Int)+(n:Int))/\Hid (gG wr ob (s.addN lo n)/\Mod (λj=>j=ob) w wr))(λcv _=>hi+1-(intOf cv).toNat);case atStart=>exact⟨0,aW _,by simp,H.out,Mod.refl _ _⟩
 case round=>
  clear H;obtain⟨n,hn,rfl,HR⟩:=hrel;by_cases hlt:lo+n<=hi;·
   obtain⟨k,hk⟩:∃k,k=lo+n:=⟨_,rfl⟩;have ek:(lo:Int)+(n:Int)=(k:Int):=by omega
   rw[ek];have hkh:(k:Int)<=(hi:Int):=by omega
   obtain⟨t,ht⟩:∃t,t=s.addN lo n:=⟨_,rfl⟩;have hb:=HR.1;rw[<-ht]at hb;obtain⟨q,hq⟩:∃q,q=k/64:=⟨_,rfl⟩;obtain⟨r,hr⟩:∃r,r=k%64:=⟨_,rfl⟩;have hq4:q<4:=by omega
   have ahk:r<64:=by omega
   obtain⟨x,hx⟩:∃x,x=t.word (k/64):=⟨_,rfl⟩;obtain⟨y,hy⟩:∃y,y=2^(k%64):=⟨_,rfl⟩;have c0:wr.cell? (aD ob q)=some (uV x):=by rw[aq hb.2,bG.lh _ hq4,hx,hq]
   have f0:wr.frozen? (aD ob q)=false:=aU hb.2;have Lv:=bits_or_u64_nat x y (by rw[hx];exact bG.jS hb.1 _) (by rw[hy];exact aH.BM k);have d1:(k:Int)/64=(q:Int):=by omega
   have d2:(k:Int)%64=(r:Int):=by omega
   have d3:Int.tdiv (k:Int) 64=(q:Int):=by rw[Int.tdiv_eq_ediv_of_nonneg (by omega)];exact d1
   have d4:Int.tmod (k:Int) 64=(r:Int):=by rw[Int.tmod_eq_emod_of_nonneg (by omega)];exact d2
   have d5:IntKind.u64.wrap (2^r)=(y:Int):=by
    have h:2^(k%64)<18446744073709551616:=aH.BM k;rw[<-hr]at h hy;rw[IntKind.wrap_u64,hy];have e:((2:Int)^r)=((2^r:Nat):Int):=by simp
    rw[e];exact Int.emod_eq_of_lt (by omega) (by omega)
   have d6:IntKind.i64.wrap (q:Int)=(q:Int):=by rw[UT];omega
   have d7:IntKind.i64.wrap (r:Int)=(r:Int):=by rw[UT];omega
   have d8:(q:Int)<4:=by omega
   have hnew:gG (wr.drew.setCell (aD ob q) (uV ((x|||y:Nat):Int))) ob (s.addN lo (n+1)):=by refine⟨bG.xP HR.1.1 _,?_⟩;·rw[heap_setCell_same wr.drew ob q _ _ _ hb.2,bG.qy t hq4];show _=some (Obj.cells ((s.addN lo n).on (lo+n)).cells.toArray _ _);unfold bG.on;rw[<-hk,<-ht,<-hx,<-hy,<-hq]
   have hmod:Mod (λj=>j=ob) w (wr.drew.setCell (aD ob q) (uV ((x|||y:Nat):Int))):=(HR.2.trans (Mod.same (Same.drew _))).trans (Mod.setCell _ _ _ λ_=>rfl);have HN:=ae (aA hnew hmod);have HKK:=ae hk;clear hb hx hy hq hr ht hnew hmod hk ek;go_wp2_with fail;refine bB [(0,false),(1,false),(2,false),(3,false),(4,false),(5,false),(6,false),(7,false),(8,false),(9,false),(10,false),(11,true),(12,true),(13,true),(14,true)] 14 (λw'=>w'.cell? (aD ob q)=some (uV x)) (by kernel_rfl) (by kernel_rfl) c0 ?_;iterate 11(
 refine aR ?_ rfl rfl (λw' hS=>?_) ?_;rotate_left;·go_simp;try rfl
 simp only[aN,ai,aj])
   iterate 3(refine bg rfl rfl (by decide) (λK hK=>?_);have HK:=ae hK;clear hK;go_simp;refine HK _ _ c0 ?_;clear HK K)
   refine cO rfl rfl (λK hK=>?_);have HK:=ae hK;clear hK;go_simp;refine HK _ _ ?_;clear HK K;go_wp2_with fail;have e9:=HKK.out;exact⟨⟨n+1,by omega,by go_num,HN⟩,by simp[intOf];omega⟩
  ·obtain rfl:n=hi+1-lo:=by omega
   go_wp2_with fail;refine bodyPost_end (results_none rfl _ _ _) rfl ?_;exact⟨rfl,HR⟩
section
variable{s:ByteArray}{o:bG}{q j k p:Nat}{lo hi:UInt8}
theorem Js(h:lW s q=false):cB s o q= .fault q:=by unfold cB;rw[if_neg (by rw[h];decide)]
theorem Dn(h:lW s q=true)(h1:cZ s q= .fault p):cB s o q= .fault p:=by unfold cB;rw[if_pos h,h1]
theorem E7(h:lW s q=true)(h1:cZ s q= .ok lo j)(h2:cH s j 45=false):cB s o q= .ok (o.add lo.toNat lo.toNat) j:=by unfold cB;rw[if_pos h,h1];dsimp only;rw[if_neg (by rw[h2];decide)]
theorem Gm(h:lW s q=true)(h1:cZ s q= .ok lo j)(h2:cH s j 45=true)(h3:lW s (j+1)=false):cB s o q= .fault (j+1):=by unfold cB;rw[if_pos h,h1];dsimp only;rw[if_pos h2,if_neg (by rw[h3];decide)]
theorem BL(h:lW s q=true)(h1:cZ s q= .ok lo j)(h2:cH s j 45=true)(h3:lW s (j+1)=true)(h4:cZ s (j+1)= .fault p):cB s o q= .fault p:=by unfold cB;rw[if_pos h,h1];dsimp only;rw[if_pos h2,if_pos h3,h4]
theorem Gl(h:lW s q=true)(h1:cZ s q= .ok lo j)(h2:cH s j 45=true)(h3:lW s (j+1)=true)(h4:cZ s (j+1)= .ok hi k)(h5:hi<lo):cB s o q= .fault (k-1):=by unfold cB;rw[if_pos h,h1];dsimp only;rw[if_pos h2,if_pos h3,h4];dsimp only;rw[if_pos h5]
theorem E6(h:lW s q=true)(h1:cZ s q= .ok lo j)(h2:cH s j 45=true)(h3:lW s (j+1)=true)(h4:cZ s (j+1)= .ok hi k)(h5:¬hi<lo):cB s o q= .ok (o.add lo.toNat hi.toNat) k:=by unfold cB;rw[if_pos h,h1];dsimp only;rw[if_pos h2,if_pos h3,h4];dsimp only;rw[if_neg h5]
end
def PT(rb ob:Nat)(s:ByteArray)(w:ak)(C:PR bG)(e:Ending)(w':ak):Prop:=match C with| .fault p=>e= .panicked (BF p)/\Mod (λj=>j=rb\/j=ob) w w'| .ok o j=>e= .returned (.tuple #[])/\eQ w' rb s j/\gG w' ob o/\Mod (λj=>j=rb\/j=ob) w w'
def acM(rb ob:Nat)(s:ByteArray)(w:ak)(D:PR bG)(f:Nat)(first:Bool)(o:bG)(q:Nat)(wr:ak):Prop:=D=fB s f first o q/\s.size<f+q/\eQ wr rb s q/\gG wr ob o/\Mod (λj=>j=rb\/j=ob) w wr
def IE(w:ak)(rb:Nat):Nat:=match w.cell? ⟨rb,1,none⟩with|some (.int _ i)=>i.toNat|_=>0
theorem rI{w:ak}{rb i:Nat}{s:ByteArray}(h:eQ w rb s i):IE w rb=i:=by unfold IE;rw[h.c1];simp
theorem eQ.mod{w w':ak}{rb i:Nat}{s:ByteArray}{S:Nat->Prop}(h:eQ w rb s i)(k:Mod S w w')(hn:¬S rb):eQ w' rb s i:=⟨(k.block rb h.lt hn).trans h.1,h.2⟩
theorem qd{s:ByteArray}{f:Nat}{first:Bool}{o:bG}{q:Nat}(h:(first||!cH s q 93)=true):(∀p,cB s o q= .fault p->fB s (f+1) first o q= .fault p)/\∀o' j,cB s o q= .ok o' j->fB s (f+1) first o q=fB s f false o' j:=by
 constructor;·intro p hp;unfold fB;rw[if_pos h,hp]
 ·intro o' j hp;rw[fB,if_pos h,hp]
theorem y8{s:ByteArray}{f:Nat}{o:bG}{q:Nat}(h:cH s q 93=true):fB s (f+1) false o q= .ok o q:=by unfold fB;rw[if_neg (by rw[h];decide)]
def tQ(rb ob:Nat)(s:ByteArray)(w:ak)(o:bG)(q:Nat)(W:ak):Prop:=eQ W rb s q/\gG W ob o/\Mod (λj=>j=rb\/j=ob) w W
theorem tQ.same{rb ob:Nat}{s:ByteArray}{w:ak}{o:bG}{q:Nat}{W V:ak}(h:tQ rb ob s w o q W)(k:Same W V):tQ rb ob s w o q V:=⟨h.1.same k,h.2.1.same k,h.2.2.trans (Mod.same k)⟩
theorem tQ.rd{rb ob:Nat}{s:ByteArray}{w:ak}{o:bG}{q j:Nat}{W V:ak}(h:tQ rb ob s w o q W)(hn:ob≠rb)(r:eQ V rb s j)(m:Mod (λk=>k=rb) W V):tQ rb ob s w o j V:=⟨r,h.2.1.mod m hn,h.2.2.trans (m.mono λ_ _ h=> .inl h)⟩
theorem Hl(s:ByteArray)(q:Nat):(lW s q=false/\(decide (q<s.size)=false\/q<s.size/\cH s q 45=true\/q<s.size/\cH s q 45=false/\cH s q 93=true))\/(lW s q=true/\q<s.size/\cH s q 45=false/\cH s q 93=false):=by unfold lW;by_cases h:q<s.size<;>cases cH s q 45<;>cases cH s q 93<;>simp[h]
theorem S5 (rb ob:Nat) (s:ByteArray) (i:Nat) (w:ak) (hR:eQ w rb s i) (hO:gG w ob .zero) (hne:ob≠rb) :
    aX ah 265 #[aP rb,aP ob] w (PT rb ob s w (nW s i)):=by
  obtain ⟨C,hC⟩:∃ C,C=nW s i:=⟨_,rfl⟩
  obtain ⟨i1,hi1⟩:∃ i1,i1=gL s i 94:=⟨_,rfl⟩
  obtain ⟨nt,hnt⟩:∃ nt,nt=cH s i 94:=⟨_,rfl⟩
  obtain ⟨D,hD⟩:∃ D,D=fB s (s.size+1) true .zero i1:=⟨_,rfl⟩
  have Yn:Hid (∀ p,D = .fault p->C = .fault p):=ae fun p hp=>by
    rw [hC]
    unfold nW
    rw [<- hi1,<- hD,hp]
  have Yp:Hid (∀ o j,D = .ok o j->C = .ok (if nt then o.not else o) (j+1)):=ae fun o j hp=>by
    rw [hC]
    unfold nW
    rw [<- hi1,<- hD,hp,hnt]
  rw [<- hC]
  have JO:=ae hne
  have hle:i1<=s.size:=by rw [hi1]; exact (yZ s i 94 hR.2.1).2
  have hcall:=lG rb s i 94 w hR
  rw [<- hi1,<- hnt] at hcall
  have pG:=ae hcall
  have HDD:=ae hD
  have HO:=ae hO
  clear hC hi1 hnt hD hR hO hne hcall hle
  unfold aP
  go_enter Tryz.func265,Tryz.ntmps265
  go_wp2_with (go_at_call 194; refine pG.mono ?_; rintro e w1 ⟨rfl,hr1,hm1⟩)
  have HA:Hid (acM rb ob s w D (s.size+1) true .zero i1 w1):=ae ⟨HDD,by omega,hr1,HO.mod hm1 (fun e=>JO e),hm1.mono fun _ _ h => .inl h⟩
  clear hr1 hm1 HDD HO pG
  go_loopw [5] (fun v wr=>∃ (f:Nat) (first:Bool) (o:bG) (q:Nat),v = .bool first/\Hid (acM rb ob s w D f first o q wr)) (fun _ wr=>s.size - IE wr rb)
  case atStart=>exact ⟨_,true,.zero,i1,rfl,HA⟩
  case round =>
    clear HA
    obtain ⟨f0,first,o,q,rfl,HI⟩:=hrel
    obtain ⟨f,rfl⟩:∃ f,f0=f+1:=⟨f0 - 1,by have:=HI.2.1; have:=HI.2.2.1.2.1; omega⟩
    have HS:Hid (tQ rb ob s w o q wr):=ae HI.2.2
    have hcs:(first=false/\cH s q 93=true)\/(first=false/\cH s q 93=false)\/first=true:=by cases first <;> cases cH s q 93 <;> simp
    rcases hcs with ⟨rfl,CE⟩ | ⟨rfl,CE⟩ | rfl
    · go_wp2_with fail
      refine (od rb s q 93 _ HS.1).mono ?_
      rintro e wa ⟨rfl,hsa⟩
      rw [CE]
      replace HS:=ae (HS.same hsa)
      have HX:Hid (D = .ok o q):=ae (HI.1.trans (y8 CE))
      have c1:=HS.1.c1
      have hf:=HS.1.free 1
      have hsz:=HS.1.2.2
      have hql:=gu CE
      have kD:=HS.1.set (j:=q+1) (by omega)
      have ek:((q+1:Nat):Int)=(q:Int)+1:=by omega
      rw [ek] at kD
      have HT:=ae (show eQ (wa.setCell (aD rb 1) (iV ((q:Int)+1))) rb s (q+1)/\gG (wa.setCell (aD rb 1) (iV ((q:Int)+1))) ob o/\Mod (fun j=>j=rb\/j=ob) w (wa.setCell (aD rb 1) (iV ((q:Int)+1))) from
        ⟨kD,HS.2.1.mod (Mod.setCell (S:=fun j=>j=rb) wa _ _ fun _=>rfl) (fun e=>JO e),HS.2.2.trans (Mod.setCell _ _ _ fun _ => .inl rfl)⟩)
      have zo:Hid (C = .ok (if nt then o.not else o) (q+1)):=ae (Yp o q HX)
      have hq6:q<=1000000:=by omega
      clear kD ek hql Yn Yp HI HX
      cases nt
      · go_wp2_with fail
        refine bodyPost_end (results_none rfl _ _ _) rfl ?_
        rw [zo]
        exact ⟨rfl,HT⟩
      · go_wp2_with fail
        generalize wa.setCell (aD rb 1) (iV ((q:Int)+1))=wt at *
        clear HS c1 hf hq6
        go_loopw [92] (fun iv wr=>∃ (n:Nat),n<=4/\iv = .int .i64 n/\Hid (eQ wr rb s (q+1)/\gG wr ob (o.Db n)/\Mod (fun j=>j=rb\/j=ob) w wr)) (fun iv _=>4 - (intOf iv).toNat)
        case atStart=>exact ⟨0,by decide,rfl,HT⟩
        case round =>
          clear HT
          obtain ⟨n,hn,rfl,HR⟩:=hrel
          by_cases h4:n < 4
          · have hb:=HR.2.1
            obtain ⟨t,ht⟩:∃ t,t=o.Db n:=⟨_,rfl⟩
            rw [<- ht] at hb
            obtain ⟨x,hx⟩:∃ x,x=t.word n:=⟨_,rfl⟩
            have c0:wr.cell? (aD ob n)=some (uV x):=by rw [aq hb.2,bG.lh _ h4,hx]
            have f0:wr.frozen? (aD ob n)=false:=aU hb.2
            have hxl:x < Ax:=by rw [hx]; exact bG.jS hb.1 _
            have aly:bits .xor .u64 (if IntKind.u64.signed=true then -1 else IntKind.u64.max) (x:Int)=((18446744073709551615 ^^^ x:Nat):Int):=bits_xor_u64_nat 18446744073709551615 x (by decide) hxl
            have Oz:(18446744073709551615 ^^^ x:Nat) < Ax:=acW (n:=64) (by decide) hxl
            obtain ⟨y,hy⟩:∃ y,y=(18446744073709551615 ^^^ x:Nat):=⟨_,rfl⟩
            rw [<- hy] at aly Oz
            have hnew:gG ((wr.setCell (aD ob n) (uV y)).drew) ob (o.Db (n+1)):=by
              refine ⟨bG.zO HR.2.1.1 _ (by rw [<- ht,<- hx,<- hy]; exact Oz),?_⟩
              show (wr.setCell (aD ob n) (uV y)).heap[ob]?=_
              rw [heap_setCell_same wr ob n _ _ _ hb.2,bG.qy t h4]
              show _=some (Obj.cells ((o.Db n).rA n (18446744073709551615 ^^^ (o.Db n).word n)).cells.toArray _ _)
              rw [<- ht,<- hx,<- hy]
            have hmod:Mod (fun j=>j=rb\/j=ob) wr ((wr.setCell (aD ob n) (uV y)).drew):=(Mod.setCell _ _ _ fun _ => .inr rfl).trans (Mod.same (Same.drew _))
            have kU:Mod (fun j=>j=ob) wr ((wr.setCell (aD ob n) (uV y)).drew):=(Mod.setCell (S:=fun j=>j=ob) _ _ _ fun _=>rfl).trans (Mod.same (Same.drew _))
            have HN:=ae (show _/\_/\_ from ⟨HR.1.mod kU (fun e=>JO.out e.symm),hnew,HR.2.2.trans hmod⟩)
            have hnz:(n:Int) < 4:=by omega
            clear hb hx hxl Oz hy ht hnew hmod kU
            go_wp2_with fail
            refine bB [(0,false),(1,false),(2,false),(3,false),(4,false),(5,false),(6,false),(7,false),(8,false),(9,true),(10,true),(11,true),(12,true)] 12
              (fun w'=>w'.cell? (aD ob n)=some (uV x)) (by kernel_rfl) (by kernel_rfl) c0 ?_
            iterate 9 (
              refine aR ?_ rfl rfl (fun w' hS=>?_) ?_
              rotate_left
              · go_simp
                try rfl
              simp only [aN,ai,aj])
            iterate 3 (
              refine bg rfl rfl (by decide) (fun K hK=>?_)
              have HK:=ae hK
              clear hK
              go_simp
              refine HK _ _ c0 ?_
              clear HK K)
            refine cO rfl rfl (fun K hK=>?_)
            have HK:=ae hK
            clear hK
            go_simp
            refine HK _ _ ?_
            clear HK K
            go_wp2_with fail
            exact ⟨⟨n+1,by omega,by go_num,HN⟩,by simp [intOf]; omega⟩
          · obtain rfl:n=4:=by omega
            go_wp2_with fail
            refine bodyPost_end (results_none rfl _ _ _) rfl ?_
            rw [zo]
            exact ⟨rfl,HR⟩
    all_goals
      have TG:Hid (∀ p,cB s o q = .fault p->C = .fault p):=ae fun p hp=>Yn p (HI.1.trans ((qd (by first | rfl | (rw [CE]; rfl))).1 p hp))
      have HDo:Hid (∀ o' j,cB s o q = .ok o' j->D=fB s f false o' j):=ae fun o' j hp=>HI.1.trans ((qd (by first | rfl | (rw [CE]; rfl))).2 o' j hp)
      clear Yp
      go_wp2_with (go_at_call 225; refine (od rb s q 93 _ HS.1).mono ?_; rintro e wa ⟨rfl,hsa⟩; rw [CE]; replace HS:=ae (HS.same hsa); clear hsa CE)
      replace HS:=ae (HS.same (Same.drew _))
      rcases Hl s q with ⟨hcl,hh⟩ | ⟨hcl,hlt,h45,CE⟩
      rcases hh with hlt | ⟨hlt,h45⟩ | ⟨hlt,h45,CE⟩
      all_goals
        refine eo [(0,false),(1,false),(2,false),(3,false),(4,false),(5,false),(6,false),(7,false),(8,false),(9,false),(10,false),(11,false),(12,false),(13,true),(14,false),(15,false),(16,false),(17,false),(18,true),(19,false),(20,false),(21,true)]
          (tQ rb ob s w o q) (fun c w'=>PT rb ob s w C (.panicked c) w') (fun c a w' hd h=>⟨hd,h⟩) (by kernel_rfl) (by kernel_rfl) HS ?_
        repeat (first
          | (refine bR ?_ rfl rfl (fun w' hS=>?_) ?_
             rotate_left
             · have e0:=hS.1.c0
               have e1:=hS.1.c1
               go_simp
               try rfl
             simp only [aN,ai,aj])
          | (refine eV rfl rfl ?_
             simp only [aN,ai,aj]))
        first
          | (refine ik rfl rfl ?_
             simp only [aN,ai,aj])
          | (refine dG rfl rfl (by decide) (fun K hK=>?_); replace hK:=ae hK; go_simp; refine (od rb s q 45 _ HS.1).mono ?_; rintro e wb ⟨rfl,rM⟩; rw [h45]; replace HS:=ae (HS.same rM); refine hK.out _ _ HS.out ?_; clear hK K rM)
        repeat (first
          | (refine bR ?_ rfl rfl (fun w' hS=>?_) ?_
             rotate_left
             · have e0:=hS.1.c0
               have e1:=hS.1.c1
               go_simp
               try rfl
             simp only [aN,ai,aj])
          | (refine eV rfl rfl ?_
             simp only [aN,ai,aj]))
        first
          | (refine ik rfl rfl ?_
             simp only [aN,ai,aj])
          | (refine dG rfl rfl (by decide) (fun K hK=>?_); replace hK:=ae hK; go_simp; refine (od rb s q 93 _ HS.1).mono ?_; rintro e wb ⟨rfl,rM⟩; rw [CE]; replace HS:=ae (HS.same rM); refine hK.out _ _ HS.out ?_; clear hK K rM)
        repeat (first
          | (refine bR ?_ rfl rfl (fun w' hS=>?_) ?_
             rotate_left
             · have e0:=hS.1.c0
               have e1:=hS.1.c1
               go_simp
               try rfl
             simp only [aN,ai,aj])
          | (refine eV rfl rfl ?_
             simp only [aN,ai,aj]))
      iterate 3 (refine dG rfl rfl (by decide) (fun K hK=>?_); replace hK:=ae hK; go_simp; refine (eW rb s q false _ HS.1).mono ?_; rintro e wb ⟨rfl,rM⟩; replace HS:=ae (HS.same rM); refine ⟨rfl,?_⟩; rw [TG.out _ (Js hcl)]; exact ⟨rfl,HS.2.2⟩)
      refine dG rfl rfl (by decide) (fun K hK=>?_); replace hK:=ae hK; go_simp; refine (eW rb s q true _ HS.1).mono ?_; rintro e wb ⟨rfl,rM⟩; replace HS:=ae (HS.same rM); refine hK.out _ _ HS.out ?_; clear hK K rM
      clear hlt h45 CE
      refine iM ?_
      go_wp2_with (go_at_call 266; refine (yE rb s q _ HS.1).mono ?_; cases R1:cZ s q)
      · rintro e wb ⟨rfl,hmb⟩; refine ⟨rfl,?_⟩; rw [TG _ (Dn hcl R1)]; exact ⟨rfl,HS.2.2.trans (hmb.mono fun _ _ h => .inl h)⟩
      rename_i lo j
      have rC:=mO s q HS.1.2.1
      rw [R1] at rC
      obtain ⟨atV,atU⟩:q < j/\j<=s.size:=rC
      rintro e wb ⟨rfl,rN,hmb⟩
      replace HS:=ae (HS.rd JO rN hmb)
      clear rN hmb
      go_wp2_with (go_at_call 194; refine (lG rb s j 45 _ HS.1).mono ?_; unfold gL; cases D45:cH s j 45 <;> (rintro e w5 ⟨rfl,BA,nJ⟩; (first | replace HS:=ae (HS.rd (j:=j) JO BA nJ) | replace HS:=ae (HS.rd (j:=j+1) JO BA nJ)); clear BA nJ))
      · go_wp2_with (go_at_call 148; refine (rS ob lo.toNat lo.toNat o _ HS.2.1 lo.toNat_lt lo.toNat_lt).mono ?_; rintro e wz ⟨rfl,hbz,hmz⟩)
        exact ⟨⟨f,false,_,_,rfl,ae ⟨HDo.out _ _ (E7 hcl R1 D45),by have:=HI.2.1; omega,HS.1.mod hmz (fun e=>JO.out e.symm),hbz,HS.2.2.trans (hmz.mono fun _ _ h => .inr h)⟩⟩,by
          rw [rI (HS.1.mod hmz (fun e=>JO e.symm)),rI HI.2.2.1]
          omega⟩
      go_wp2_with fail
      have aat:=hcl
      clear hcl
      replace HS:=ae (HS.same (Same.drew _))
      rcases Hl s (j+1) with ⟨hcl,hh⟩ | ⟨hcl,hlt,h45,CE⟩
      rcases hh with hlt | ⟨hlt,h45⟩ | ⟨hlt,h45,CE⟩
      all_goals
        first | have at2:(j:Int)+1 < (s.size:Int):=by omega | have q2z:decide ((j:Int)+1 < (s.size:Int))=false:=by have:=of_decide_eq_false hlt; simp; omega
        refine eo [(0,false),(1,false),(2,false),(3,false),(4,false),(5,false),(6,false),(7,false),(8,false),(9,false),(10,false),(11,false),(12,false),(13,true),(14,false),(15,false),(16,false),(17,false),(18,true),(19,false),(20,false),(21,true)]
          (tQ rb ob s w o (j+1)) (fun c w'=>PT rb ob s w C (.panicked c) w') (fun c a w' hd h=>⟨hd,h⟩) (by kernel_rfl) (by kernel_rfl) HS ?_
        repeat (first
          | (refine bR ?_ rfl rfl (fun w' hS=>?_) ?_
             rotate_left
             · have e0:=hS.1.c0
               have e1:=hS.1.c1
               go_simp
               try rfl
             simp only [aN,ai,aj])
          | (refine eV rfl rfl ?_
             simp only [aN,ai,aj]))
        first
          | (refine ik rfl rfl ?_
             simp only [aN,ai,aj])
          | (refine dG rfl rfl (by decide) (fun K hK=>?_); replace hK:=ae hK; go_simp; refine (od rb s (j+1) 45 _ HS.1).mono ?_; rintro e wb ⟨rfl,rM⟩; rw [h45]; replace HS:=ae (HS.same rM); refine hK.out _ _ HS.out ?_; clear hK K rM)
        repeat (first
          | (refine bR ?_ rfl rfl (fun w' hS=>?_) ?_
             rotate_left
             · have e0:=hS.1.c0
               have e1:=hS.1.c1
               go_simp
               try rfl
             simp only [aN,ai,aj])
          | (refine eV rfl rfl ?_
             simp only [aN,ai,aj]))
        first
          | (refine ik rfl rfl ?_
             simp only [aN,ai,aj])
          | (refine dG rfl rfl (by decide) (fun K hK=>?_); replace hK:=ae hK; go_simp; refine (od rb s (j+1) 93 _ HS.1).mono ?_; rintro e wb ⟨rfl,rM⟩; rw [CE]; replace HS:=ae (HS.same rM); refine hK.out _ _ HS.out ?_; clear hK K rM)
        repeat (first
          | (refine bR ?_ rfl rfl (fun w' hS=>?_) ?_
             rotate_left
             · have e0:=hS.1.c0
               have e1:=hS.1.c1
               go_simp
               try rfl
             simp only [aN,ai,aj])
          | (refine eV rfl rfl ?_
             simp only [aN,ai,aj]))
      iterate 3 (refine dG rfl rfl (by decide) (fun K hK=>?_); replace hK:=ae hK; go_simp; refine (eW rb s (j+1) false _ HS.1).mono ?_; rintro e wb ⟨rfl,rM⟩; replace HS:=ae (HS.same rM); refine ⟨rfl,?_⟩; rw [TG.out _ (Gm aat R1 D45 hcl)]; exact ⟨rfl,HS.2.2⟩)
      refine dG rfl rfl (by decide) (fun K hK=>?_); replace hK:=ae hK; go_simp; refine (eW rb s (j+1) true _ HS.1).mono ?_; rintro e wb ⟨rfl,rM⟩; replace HS:=ae (HS.same rM); refine hK.out _ _ HS.out ?_; clear hK K rM
      clear hlt h45 CE
      refine iM ?_
      go_wp2_with (go_at_call 266; refine (yE rb s (j+1) _ HS.1).mono ?_; cases R2:cZ s (j+1))
      · rintro e wb ⟨rfl,hmb⟩; refine ⟨rfl,?_⟩; rw [TG _ (BL aat R1 D45 hcl R2)]; exact ⟨rfl,HS.2.2.trans (hmb.mono fun _ _ h => .inl h)⟩
      rename_i hi k
      have rC:=mO s (j+1) HS.1.2.1
      rw [R2] at rC
      obtain ⟨atT,atS⟩:j+1 < k/\k<=s.size:=rC
      rintro e wb ⟨rfl,rN,hmb⟩
      replace HS:=ae (HS.rd JO rN hmb)
      clear rN hmb
      by_cases hhl:hi < lo
      · have hhz:(hi.toNat:Int) < (lo.toNat:Int):=by have:=UInt8.lt_iff_toNat_lt.1 hhl; omega
        have c1:=HS.1.c1
        have hf:=HS.1.free 1
        have hsz:=HS.1.2.2
        have kD:=HS.1.set (j:=k - 1) (by omega)
        rw [show ((k - 1:Nat):Int)=(k:Int) - 1 by omega] at kD
        have hcall:=eW rb s (k - 1) false _ kD
        unfold aP at hcall
        replace hcall:=ae hcall
        have hw:IntKind.i64.wrap ((k:Int) - 1)=(k:Int) - 1:=aK _ (by omega)
        go_wp2_with (go_at_call 146; refine hcall.mono ?_; rintro e wc ⟨rfl,hsc⟩)
        refine ⟨rfl,?_⟩
        rw [TG _ (Gl aat R1 D45 hcl R2 hhl)]
        exact ⟨rfl,(HS.2.2.trans (Mod.setCell _ _ _ fun _ => .inl rfl)).trans (Mod.same hsc)⟩
      have hhz:decide ((hi.toNat:Int) < (lo.toNat:Int))=false:=by
        have:¬ hi.toNat < lo.toNat:=fun e=>hhl (UInt8.lt_iff_toNat_lt.2 e)
        simp; omega
      go_wp2_with (go_at_call 148; refine (rS ob lo.toNat hi.toNat o _ HS.2.1 lo.toNat_lt hi.toNat_lt).mono ?_; rintro e wz ⟨rfl,hbz,hmz⟩)
      exact ⟨⟨f,false,_,_,rfl,ae ⟨HDo.out _ _ (E6 aat R1 D45 hcl R2 hhl),by have:=HI.2.1; omega,HS.1.mod hmz (fun e=>JO.out e.symm),hbz,HS.2.2.trans (hmz.mono fun _ _ h => .inr h)⟩⟩,by
        rw [rI (HS.1.mod hmz (fun e=>JO e.symm)),rI HI.2.2.1]
        omega⟩
theorem Iq(rb:Nat)(s:ByteArray)(i:Nat)(tv:ay)(T:dU)(A:Nat->PR bC)(w:ak)(hR:eQ w rb s i)(rC:∀q,q<=s.size->(gq T A s q).On s q)(hA:∀q w,eQ w rb s q->i<=q->aX ah 226 #[aP rb,tv] w (Reads bC.val rb s w (gq T A s q))):aX ah 193 #[aP rb,tv] w (Reads bC.val rb s w (fU T A s (s.size+1) .empty i)):=by
 obtain⟨R,yX⟩:∃R,R=fU T A s (s.size+1) .empty i:=⟨_,rfl⟩;rw[<-yX];have H0:Hid (R=fU T A s (s.size+1) .empty i/\s.size<s.size+1+i/\eQ w rb s i/\Mod (λj=>j=rb) w w):=ae ⟨yX,by omega,hR,Mod.refl _ _⟩;have AG:=ae hA;have HON:=ae rC;unfold aP;go_enter Tryz.func193,Tryz.ntmps193;go_wp2_with fail;go_loopw[5](λv wr=>∃(f:Nat)(x:bC)(q:Nat),v=x.val/\Hid (i<=q)/\Hid (R=fU T A s f x q/\s.size<f+q/\eQ wr rb s q/\Mod (λj=>j=rb) w wr))(λ_ wr=>s.size-IE wr rb);case atStart=>exact⟨_,.empty,i,rfl,ae (au _),H0⟩
 case round=>
  obtain⟨f0,x,q,rfl,HIQ,HI⟩:=hrel;obtain⟨f,rfl⟩:∃f,f0=f+1:=⟨f0-1,by have:=HI.out.2.1;have:=HI.out.2.2.1.2.1;omega⟩;have HS:=ae (show eQ wr.drew rb s q/\Mod (λj=>j=rb) w wr.drew from⟨HI.out.2.2.1.same (Same.drew _),HI.out.2.2.2.trans (Mod.same (Same.drew _))⟩);go_wp2_with fail;by_cases hlt:q<s.size;·
   obtain⟨b1,hb1⟩:∃b,b=cH s q 124:=⟨_,rfl⟩;have jG:=ae hb1;clear hb1;cases b1;·
    obtain⟨b2,hb2⟩:∃b,b=cH s q 41:=⟨_,rfl⟩;have kN:=ae hb2;clear hb2;cases b2;·
     have HM:Hid (gY s q=true):=ae (by unfold gY;rw[decide_eq_true hlt,<-jG.out,<-kN.out];rfl);refine eo [(0,false),(1,false),(2,false),(3,false),(4,false),(5,false),(6,false),(7,false),(8,false),(9,false),(10,false),(11,false),(12,true),(13,false),(14,false),(15,false),(16,false),(17,true),(18,false),(19,false)] (λw'=>eQ w' rb s q/\Mod (λj=>j=rb) w w') (λc w'=>False) (λc a w' hd h=>h.elim) (by kernel_rfl) (by kernel_rfl) HS.out ?_;iterate 12(
 refine bR ?_ rfl rfl (λw' hS=>?_) ?_;rotate_left;·have e0:=hS.1.c0;have e1:=hS.1.c1;go_simp;try rfl
 simp only[aN,ai,aj])
     refine dG rfl rfl (by decide) (λK hK=>?_);have HK:=ae hK;clear hK;go_simp;have hcall:=od rb s q 124 _ HS.out.1;unfold aP at hcall;refine hcall.mono ?_;rintro e wb⟨rfl,rM⟩;rw[<-jG.out];have kq:=ae (show eQ wb rb s q/\Mod (λj=>j=rb) w wb from⟨HS.out.1.same rM,HS.out.2.trans (Mod.same rM)⟩);have HS:=kq;refine HK.out _ _ HS.out ?_;iterate 4(
 refine bR ?_ rfl rfl (λw' hS=>?_) ?_;rotate_left;·have e0:=hS.1.c0;have e1:=hS.1.c1;go_simp;try rfl
 simp only[aN,ai,aj])
     refine dG rfl rfl (by decide) (λK hK=>?_);have HK:=ae hK;clear hK;go_simp;have hcall:=od rb s q 41 _ HS.out.1;unfold aP at hcall;refine hcall.mono ?_;rintro e wb⟨rfl,rM⟩;rw[<-kN.out];have kq:=ae (show eQ wb rb s q/\Mod (λj=>j=rb) w wb from⟨HS.out.1.same rM,HS.out.2.trans (Mod.same rM)⟩);have HS:=kq;refine HK.out _ _ HS.out ?_;iterate 2(
 refine bR ?_ rfl rfl (λw' hS=>?_) ?_;rotate_left;·have e0:=hS.1.c0;have e1:=hS.1.c1;go_simp;try rfl
 simp only[aN,ai,aj])
     refine iM ?_;go_wp2_with fail;have hcall:=AG.out q _ HS.out.1 HIQ.out;unfold aP at hcall;refine hcall.mono ?_;have rC:=HON.out q HS.out.1.2.1;have HF:Hid (∀p,gq T A s q= .fault p->R= .fault p):=ae λp hp=>by rw[HI.out.1,fU,if_pos HM.out,hp]
     have HO:Hid (∀y j,gq T A s q= .ok y j->R=fU T A s f (x.join y) j):=ae λy j hp=>by rw[HI.out.1,fU,if_pos HM.out,hp]
     obtain⟨D,hD⟩:∃D,D=gq T A s q:=⟨_,rfl⟩;rw[<-hD]at rC HF HO⊢;have HD:=ae (aA hD rC);cases D with|fault p=>rintro e wd⟨rfl,hmd⟩;refine⟨rfl,?_⟩;rw[HF.out p rfl];exact⟨rfl,HS.out.2.trans hmd⟩|ok y j=>rintro e wd⟨rfl,hrd,hmd⟩;have HJ:Hid (q<j/\j<=s.size):=ae HD.out.2;have HSd:=ae (aA hrd (HS.out.2.trans hmd));have hcall:=ke x y wd;go_wp2_with fail;refine hcall.mono ?_;rintro e we⟨rfl,Xe⟩;have HN:Hid (R=fU T A s f (x.join y) j/\s.size<f+j/\eQ we rb s j/\Mod (λj=>j=rb) w we):=ae ⟨HO.out y j rfl,by have:=HI.out.2.1;have:=HJ.out;omega,HSd.out.1.below Xe,HSd.out.2.trans (fo Xe)⟩;have Yi:Hid (s.size-IE we rb<s.size-IE wr rb):=ae (by rw[rI HN.out.2.2.1,rI HI.out.2.2.1];have:=HJ.out;omega);go_wp2_with fail;exact⟨⟨f,_,j,rfl,ae (by have:=HIQ.out;have:=HJ.out;omega),HN⟩,Yi.out⟩
    ·have HM:Hid (gY s q=false):=ae (by unfold gY;rw[decide_eq_true hlt,<-jG.out,<-kN.out];rfl);refine eo [(0,false),(1,false),(2,false),(3,false),(4,false),(5,false),(6,false),(7,false),(8,false),(9,false),(10,false),(11,false),(12,true),(13,false),(14,false),(15,false),(16,false),(17,true),(18,false),(19,false)] (λw'=>eQ w' rb s q/\Mod (λj=>j=rb) w w') (λc w'=>False) (λc a w' hd h=>h.elim) (by kernel_rfl) (by kernel_rfl) HS.out ?_;iterate 12(
 refine bR ?_ rfl rfl (λw' hS=>?_) ?_;rotate_left;·have e0:=hS.1.c0;have e1:=hS.1.c1;go_simp;try rfl
 simp only[aN,ai,aj])
     refine dG rfl rfl (by decide) (λK hK=>?_);have HK:=ae hK;go_simp;have hcall:=od rb s q 124 _ HS.out.1;unfold aP at hcall;refine hcall.mono ?_;rintro e wb⟨rfl,rM⟩;rw[<-jG.out];have kq:=ae (show eQ wb rb s q/\Mod (λj=>j=rb) w wb from⟨HS.out.1.same rM,HS.out.2.trans (Mod.same rM)⟩);have HS:=kq;refine HK.out _ _ HS.out ?_;iterate 4(
 refine bR ?_ rfl rfl (λw' hS=>?_) ?_;rotate_left;·have e0:=hS.1.c0;have e1:=hS.1.c1;go_simp;try rfl
 simp only[aN,ai,aj])
     refine dG rfl rfl (by decide) (λK hK=>?_);have HK:=ae hK;go_simp;have hcall:=od rb s q 41 _ HS.out.1;unfold aP at hcall;refine hcall.mono ?_;rintro e wb⟨rfl,rM⟩;rw[<-kN.out];have kq:=ae (show eQ wb rb s q/\Mod (λj=>j=rb) w wb from⟨HS.out.1.same rM,HS.out.2.trans (Mod.same rM)⟩);have HS:=kq;refine HK.out _ _ HS.out ?_;iterate 2(
 refine bR ?_ rfl rfl (λw' hS=>?_) ?_;rotate_left;·have e0:=hS.1.c0;have e1:=hS.1.c1;go_simp;try rfl
 simp only[aN,ai,aj])
     refine iM ?_;have nj:R= .ok x q:=by rw[HI.out.1];unfold fU;rw[if_neg (by rw[HM.out];decide)]
     subst nj;go_wp2_with fail;go_ret;exact⟨rfl,HS.out⟩
   ·have HM:Hid (gY s q=false):=ae (by unfold gY;rw[decide_eq_true hlt,<-jG.out];rfl);refine eo [(0,false),(1,false),(2,false),(3,false),(4,false),(5,false),(6,false),(7,false),(8,false),(9,false),(10,false),(11,false),(12,true),(13,false),(14,false),(15,false),(16,false),(17,true),(18,false),(19,false)] (λw'=>eQ w' rb s q/\Mod (λj=>j=rb) w w') (λc w'=>False) (λc a w' hd h=>h.elim) (by kernel_rfl) (by kernel_rfl) HS.out ?_;iterate 12(
 refine bR ?_ rfl rfl (λw' hS=>?_) ?_;rotate_left;·have e0:=hS.1.c0;have e1:=hS.1.c1;go_simp;try rfl
 simp only[aN,ai,aj])
    refine dG rfl rfl (by decide) (λK hK=>?_);have HK:=ae hK;go_simp;have hcall:=od rb s q 124 _ HS.out.1;unfold aP at hcall;refine hcall.mono ?_;rintro e wb⟨rfl,rM⟩;rw[<-jG.out];have kq:=ae (show eQ wb rb s q/\Mod (λj=>j=rb) w wb from⟨HS.out.1.same rM,HS.out.2.trans (Mod.same rM)⟩);have HS:=kq;refine HK.out _ _ HS.out ?_;iterate 3(
 refine bR ?_ rfl rfl (λw' hS=>?_) ?_;rotate_left;·have e0:=hS.1.c0;have e1:=hS.1.c1;go_simp;try rfl
 simp only[aN,ai,aj])
    iterate 1(refine eV rfl rfl ?_;simp only[aN,ai,aj])
    refine ik rfl rfl ?_;simp only[aN,ai,aj];iterate 1(refine eV rfl rfl ?_;simp only[aN,ai,aj])
    iterate 1(
 refine bR ?_ rfl rfl (λw' hS=>?_) ?_;rotate_left;·have e0:=hS.1.c0;have e1:=hS.1.c1;go_simp;try rfl
 simp only[aN,ai,aj])
    refine iM ?_;have nj:R= .ok x q:=by rw[HI.out.1];unfold fU;rw[if_neg (by rw[HM.out];decide)]
    subst nj;go_wp2_with fail;go_ret;exact⟨rfl,HS.out⟩
  ·have HM:Hid (gY s q=false):=ae (by unfold gY;rw[decide_eq_false hlt];rfl);have q2:=decide_eq_false hlt;refine eo [(0,false),(1,false),(2,false),(3,false),(4,false),(5,false),(6,false),(7,false),(8,false),(9,false),(10,false),(11,false),(12,true),(13,false),(14,false),(15,false),(16,false),(17,true),(18,false),(19,false)] (λw'=>eQ w' rb s q/\Mod (λj=>j=rb) w w') (λc w'=>False) (λc a w' hd h=>h.elim) (by kernel_rfl) (by kernel_rfl) HS.out ?_;iterate 11(
 refine bR ?_ rfl rfl (λw' hS=>?_) ?_;rotate_left;·have e0:=hS.1.c0;have e1:=hS.1.c1;go_simp;try rfl
 simp only[aN,ai,aj])
   iterate 1(refine eV rfl rfl ?_;simp only[aN,ai,aj])
   refine ik rfl rfl ?_;simp only[aN,ai,aj];iterate 1(refine eV rfl rfl ?_;simp only[aN,ai,aj])
   iterate 2(
 refine bR ?_ rfl rfl (λw' hS=>?_) ?_;rotate_left;·have e0:=hS.1.c0;have e1:=hS.1.c1;go_simp;try rfl
 simp only[aN,ai,aj])
   iterate 1(refine eV rfl rfl ?_;simp only[aN,ai,aj])
   refine ik rfl rfl ?_;simp only[aN,ai,aj];iterate 1(refine eV rfl rfl ?_;simp only[aN,ai,aj])
   iterate 1(
 refine bR ?_ rfl rfl (λw' hS=>?_) ?_;rotate_left;·have e0:=hS.1.c0;have e1:=hS.1.c1;go_simp;try rfl
 simp only[aN,ai,aj])
   refine iM ?_;have nj:R= .ok x q:=by rw[HI.out.1];unfold fU;rw[if_neg (by rw[HM.out];decide)]
   subst nj;go_wp2_with fail;go_ret;exact⟨rfl,HS.out⟩
/-!### Whatever becomes of repeats, the places are the same. -/
def PR.Uf{α β:Type}:PR α->PR β->Prop| .fault e,.fault e'=>e=e'| .ok _ j,.ok _ j'=>j=j'|_,_=>False
theorem PR.Va{α:Type}(r:PR α):r.Uf r:=by cases r<;>rfl
section
variable{T T':dU}{A A':Nat->PR bC}{s:ByteArray}
theorem XQ(hA:∀j,(A j).Uf (A' j))(i:Nat):(eY A s i).Uf (eY A' s i):=by
 unfold eY;split;·rfl
 ·rename_i c hc;split;·
   have h:=hA (i+1);cases h1:A (i+1)<;>cases h2:A' (i+1)<;>rw[h1,h2]at h;·exact h
   ·exact h.elim
   ·exact h.elim
   ·have h':_=_:=h;subst h';dsimp only;split<;>rfl
  ·split;·rfl
   ·exact PR.Va _
theorem Rk(a a':bC)(i:Nat):(gQ T s a i).Uf (gQ T' s a' i):=by unfold gQ;cases dI s i 0 with
 |fault e=>rfl|ok lo j=>
  dsimp only;split;·
   split;·rfl
   ·cases dI s (j+1) lo with|fault e=>rfl|ok hi k=>dsimp only;split<;>rfl
  ·split<;>rfl
theorem Pk(a a':bC)(i:Nat):(dY T s a i).Uf (dY T' s a' i):=by
 unfold dY;split;·rfl
 ·split;·rfl
  ·split;·rfl
   ·split;·exact Rk a a' (i+1)
    ·rfl
theorem Zy(hA:∀j,(A j).Uf (A' j))(i:Nat):(gq T A s i).Uf (gq T' A' s i):=by
 unfold gq;have h:=XQ (s:=s) hA i;cases h1:eY A s i<;>cases h2:eY A' s i<;>rw[h1,h2]at h;·exact h
 ·exact h.elim
 ·exact h.elim
 ·have h':_=_:=h;subst h';exact Pk _ _ _
theorem Ir(hA:∀j,(A j).Uf (A' j)):∀(f:Nat)(x x':bC)(i:Nat),(fU T A s f x i).Uf (fU T' A' s f x' i)
 |0,_,_,i=>rfl|f+1,x,x',i=>by
  unfold fU;split;·
   have h:=Zy (T:=T) (T':=T') (s:=s) hA i;cases h1:gq T A s i<;>cases h2:gq T' A' s i<;>rw[h1,h2]at h;·exact h
   ·exact h.elim
   ·exact h.elim
   ·have h':_=_:=h;subst h';exact Ir hA f _ _ _
  ·rfl
theorem VC(hA:∀j,(A j).Uf (A' j)):∀(f:Nat)(x x':bC)(i:Nat),(vC T A s f x i).Uf (vC T' A' s f x' i)
 |0,_,_,i=>rfl|f+1,x,x',i=>by
  unfold vC;split;·
   have h:=Ir (T:=T) (T':=T') (s:=s) hA (s.size+1) .empty .empty (i+1);cases h1:fU T A s (s.size+1) .empty (i+1)<;>cases h2:fU T' A' s (s.size+1) .empty (i+1)<;>rw[h1,h2]at h;·exact h
   ·exact h.elim
   ·exact h.elim
   ·have h':_=_:=h;subst h';exact VC hA f _ _ _
  ·rfl
theorem JG(T T':dU)(s:ByteArray):∀(n i:Nat),(eP T s n i).Uf (eP T' s n i)
 |0,i=>rfl|n+1,i=>by
  have hA:=JG T T' s n;unfold eP;have h:=Ir (T:=T) (T':=T') (s:=s) hA (s.size+1) .empty .empty i;cases h1:fU T (eP T s n) s (s.size+1) .empty i<;>cases h2:fU T' (eP T' s n) s (s.size+1) .empty i<;>rw[h1,h2]at h;·exact h
  ·exact h.elim
  ·exact h.elim
  ·have h':_=_:=h;subst h';exact VC hA _ _ _ _
end
/-!### Within another text, ahead of a closing bracket. -/
structure Ctx (p s:ByteArray) (k:Nat):Prop where
 at':∀ i,i < p.size->s.data.toList[i+k]?=p.data.toList[i]?
 end':s.data.toList[p.size+k]?=some 41
section
variable{p s:ByteArray}{k:Nat}
theorem Ctx.size(h:Ctx p s k):p.size+k<s.size:=iy h.end'
theorem Ctx.Sn(h:Ctx p s k){i:Nat}(hi:i<p.size)(c:UInt8):cH s (i+k) c=cH p i c:=by unfold cH;rw[h.at' i hi]
theorem Ctx.cH(h:Ctx p s k){i:Nat}(hi:i<=p.size){c:UInt8}(hc:c≠41):cH s (i+k) c=Ts.cH p i c:=by
 by_cases h1:i<p.size;·exact h.Sn h1 c
 ·have e:i=p.size:=by omega
  subst e;unfold Ts.cH;rw[h.end',at_end p p.size (au _)];simp[dB hc]
theorem Ctx.eat(h:Ctx p s k){i:Nat}(hi:i<=p.size){c:UInt8}(hc:c≠41):gL s (i+k) c=gL p i c+k:=by unfold gL;rw[h.cH hi hc];split<;>omega
theorem Ctx.single(h:Ctx p s k){i j:Nat}{c:UInt8}(hi:i<=p.size)(hp:cZ p i= .ok c j):cZ s (i+k)= .ok c (j+k):=by
 unfold cZ at hp⊢;rw[h.eat hi (by decide)];split at hp;·cases hp
 ·rename_i d hd;cases hp;rw[h.at' _ (iy hd),hd];dsimp only;congr 1;omega
theorem Ctx.digit(h:Ctx p s k){i j l x:Nat}(hp:dI p i l= .ok x j):dI s (i+k) l= .ok x (j+k):=by
 unfold dI at hp⊢;split at hp;·cases hp
 ·rename_i d hd;rw[h.at' _ (iy hd),hd];dsimp only;split at hp;·rename_i hh;cases hp;rw[if_pos hh];congr 1;omega
  ·cases hp
theorem Ctx.cls(h:Ctx p s k){i:Nat}(hp:lW p i=true):lW s (i+k)=true:=by unfold lW at hp⊢;simp only[cR,decide_eq_true_eq]at hp⊢;have hs:=h.size;rw[h.Sn hp.1.1,h.Sn hp.1.1];exact⟨⟨by omega,hp.1.2⟩,hp.2⟩
theorem Ctx.cB(h:Ctx p s k){i j:Nat}{o o':bG}(hi:i<=p.size)(hp:cB p o i= .ok o' j):Ts.cB s o (i+k)= .ok o' (j+k):=by
 unfold Ts.cB at hp⊢;split at hp;·
  rename_i hc;rw[if_pos (h.cls hc)];have h1:=mO p i hi;split at hp;·cases hp
  ·rename_i lo j1 he;rw[he]at h1;have h1':i<j1/\j1<=p.size:=h1;rw[h.single hi he];dsimp only;rw[h.cH h1'.2 (by decide)];split at hp;·
    rename_i hd;rw[if_pos hd];have hd':=gu hd;split at hp;·
     rename_i hc2;rw[show j1+k+1=j1+1+k by omega,if_pos (h.cls hc2)];split at hp;·cases hp
     ·rename_i hi' j2 CD;rw[h.single (by omega) CD];dsimp only;split at hp;·cases hp
      ·rename_i hlt;cases hp;rw[if_neg hlt]
    ·cases hp
   ·rename_i hd;cases hp;rw[if_neg hd]
 ·cases hp
theorem Ctx.fB(h:Ctx p s k):∀(f f':Nat)(first:Bool)(o o':bG)(i j:Nat),f<=f'->i<=p.size->fB p f first o i= .ok o' j->Ts.fB s f' first o (i+k)= .ok o' (j+k)
 |0,_,_,_,_,_,_,_,_,hp=>by cases hp|f+1,0,_,_,_,_,_,hf,_,_=>by omega|f+1,f'+1,first,o,o',i,j,hf,hi,hp=>by
  unfold Ts.fB at hp⊢;rw[h.cH hi (by decide)];split at hp;·
   rename_i hc;rw[if_pos hc];have h1:=CL p o i hi;split at hp;·cases hp
   ·rename_i o2 j2 he;rw[he]at h1;have h1':i<j2/\j2<=p.size:=h1;rw[h.cB hi he];exact Ctx.fB h f f' false o2 o' j2 j (by omega) h1'.2 hp
  ·rename_i hc;cases hp;rw[if_neg hc]
theorem Ctx.nW(h:Ctx p s k){i j:Nat}{o:bG}(hi:i<=p.size)(hp:nW p i= .ok o j):Ts.nW s (i+k)= .ok o (j+k):=by
 unfold Ts.nW at hp⊢;have h0:=yZ p i 94 hi;have hs:=h.size;split at hp;·cases hp
 ·rename_i o2 j2 he;cases hp;rw[h.eat hi (by decide),h.fB _ (s.size+1) _ _ _ _ _ (by omega) h0.2 he,h.cH hi (by decide)];dsimp only;congr 1;omega
theorem Ctx.atom(h:Ctx p s k){A A':Nat->PR bC}(hA:∀i x j,i<=p.size->A i= .ok x j->A' (i+k)= .ok x (j+k)){i j:Nat}{x:bC}(hi:i<=p.size)(hp:eY A p i= .ok x j):eY A' s (i+k)= .ok x (j+k):=by
 unfold eY at hp⊢;split at hp;·cases hp
 ·rename_i c hc;have hl:=iy hc;rw[h.at' _ hl,hc];dsimp only;split at hp;·
   rename_i nH;rw[if_pos nH];split at hp;·cases hp
   ·rename_i y j2 he;rw[show i+k+1=i+1+k by omega,hA _ _ _ (by omega) he];dsimp only;split at hp;·rename_i Ud;cases hp;rw[h.Sn (gu Ud),if_pos Ud];congr 1;omega
    ·cases hp
  ·rename_i nH;rw[if_neg nH];split at hp;·rename_i uY;cases hp;rw[if_pos uY];congr 1;omega
   ·rename_i uY;rw[if_neg uY];split at hp;·
     rename_i uN;rw[if_pos uN];split at hp;·cases hp
     ·rename_i o j2 he;cases hp;rw[show i+k+1=i+1+k by omega,h.nW (by omega) he]
    ·rename_i uN;rw[if_neg uN];split at hp;·cases hp
     ·rename_i hw;rw[if_neg hw];split at hp;·cases hp
      ·rename_i d j2 he;cases hp;rw[h.single hi he]
theorem Ctx.times(h:Ctx p s k){T:dU}{a x:bC}{i j:Nat}(hi:i<=p.size)(hp:gQ T p a i= .ok x j):gQ T s a (i+k)= .ok x (j+k):=by
 unfold gQ at hp⊢;have h1:=Ao p i 0 hi;split at hp;·cases hp
 ·rename_i lo j1 he;rw[he]at h1;have h1':i<j1/\j1<=p.size:=h1;rw[h.digit he];dsimp only;rw[h.cH h1'.2 (by decide)];split at hp;·
   rename_i xq;rw[if_pos xq];have hl:=gu xq;rw[show j1+k+1=j1+1+k by omega,h.cH (by omega) (by decide)];split at hp;·rename_i kO;cases hp;rw[if_pos kO];congr 1;omega
   ·rename_i kO;rw[if_neg kO];have h2:=Ao p (j1+1) lo (by omega);split at hp;·cases hp
    ·rename_i hi' j2 CD;rw[CD]at h2;have h2':j1+1<j2/\j2<=p.size:=h2;rw[h.digit CD];dsimp only;rw[h.cH h2'.2 (by decide)];split at hp;·rename_i h3;cases hp;rw[if_pos h3];congr 1;omega
     ·cases hp
  ·rename_i xq;rw[if_neg xq,h.cH h1'.2 (by decide)];split at hp;·rename_i h3;cases hp;rw[if_pos h3];congr 1;omega
   ·cases hp
theorem Ctx.behind(h:Ctx p s k){T:dU}{a x:bC}{i j:Nat}(hi:i<=p.size)(hp:dY T p a i= .ok x j):dY T s a (i+k)= .ok x (j+k):=by
 unfold dY at hp⊢;rw[h.cH hi (by decide),h.cH hi (by decide),h.cH hi (by decide),h.cH hi (by decide)];split at hp;·rename_i h1;cases hp;rw[if_pos h1];congr 1;omega
 ·rename_i h1;rw[if_neg h1];split at hp;·rename_i h2;cases hp;rw[if_pos h2];congr 1;omega
  ·rename_i h2;rw[if_neg h2];split at hp;·rename_i h3;cases hp;rw[if_pos h3];congr 1;omega
   ·rename_i h3;rw[if_neg h3];split at hp;·rename_i h4;rw[if_pos h4,show i+k+1=i+1+k by omega];exact h.times (gu h4) hp
    ·rename_i h4;cases hp;rw[if_neg h4]
theorem Ctx.rep(h:Ctx p s k){T:dU}{A A':Nat->PR bC}(hG:∀j,j<=p.size->(A j).Good p j)(hA:∀i x j,i<=p.size->A i= .ok x j->A' (i+k)= .ok x (j+k)){i j:Nat}{x:bC}(hi:i<=p.size)(hp:gq T A p i= .ok x j):gq T A' s (i+k)= .ok x (j+k):=by
 unfold gq at hp⊢;have h1:=QH A p i hi λj _=>hG j;split at hp;·cases hp
 ·rename_i a j1 he;rw[he]at h1;have h1':i<j1/\j1<=p.size:=h1;rw[h.atom hA hi he];exact h.behind h1'.2 hp
theorem Ctx.more(h:Ctx p s k){i:Nat}(hi:i<=p.size):gY s (i+k)=gY p i:=by
 have hs:=h.size;unfold gY;by_cases h1:i<p.size;·rw[h.Sn h1,h.Sn h1,decide_eq_true h1,decide_eq_true (by omega:i+k<s.size)]
 ·have e:i=p.size:=by omega
  subst e;have h2:Ts.cH s (p.size+k) 41=true:=by unfold Ts.cH;rw[h.end'];rfl
  rw[h2,decide_eq_false (Nat.lt_irrefl _)];simp
theorem Ctx.seq(h:Ctx p s k){T:dU}{A A':Nat->PR bC}(hG:∀j,j<=p.size->(A j).Good p j)(hA:∀i x j,i<=p.size->A i= .ok x j->A' (i+k)= .ok x (j+k)):∀(f f':Nat)(x y:bC)(i j:Nat),f<=f'->i<=p.size->fU T A p f x i= .ok y j->fU T A' s f' x (i+k)= .ok y (j+k)
 |0,_,_,_,_,_,_,_,hp=>by cases hp|f+1,0,_,_,_,_,hf,_,_=>by omega|f+1,f'+1,x,y,i,j,hf,hi,hp=>by
  unfold fU at hp⊢;rw[h.more hi];split at hp;·
   rename_i hm;rw[if_pos hm];have h1:=Bj T A p i hi λj _=>hG j;split at hp;·cases hp
   ·rename_i z j1 he;rw[he]at h1;have h1':i<j1/\j1<=p.size:=h1;rw[h.rep hG hA hi he];exact Ctx.seq h hG hA f f' _ y j1 j (by omega) h1'.2 hp
  ·rename_i hm;cases hp;rw[if_neg hm]
theorem Ctx.or(h:Ctx p s k){T:dU}{A A':Nat->PR bC}(hG:∀j,j<=p.size->(A j).Good p j)(hA:∀i x j,i<=p.size->A i= .ok x j->A' (i+k)= .ok x (j+k)):∀(f f':Nat)(x y:bC)(i j:Nat),f<=f'->i<=p.size->vC T A p f x i= .ok y j->vC T A' s f' x (i+k)= .ok y (j+k)
 |0,_,_,_,_,_,_,_,hp=>by cases hp|f+1,0,_,_,_,_,hf,_,_=>by omega|f+1,f'+1,x,y,i,j,hf,hi,hp=>by
  unfold vC at hp⊢;rw[h.cH hi (by decide)];have hs:=h.size;split at hp;·
   rename_i hm;rw[if_pos hm];have hl:=gu hm;have h1:=qB T A p hG (p.size+1) .empty (i+1) (by omega);split at hp;·cases hp
   ·rename_i z j1 he;rw[he]at h1;have h1':i+1<=j1/\j1<=p.size:=h1;rw[show i+k+1=i+1+k by omega,h.seq hG hA (p.size+1) (s.size+1) _ _ _ _ (by omega) (by omega) he];exact Ctx.or h hG hA f f' _ y j1 j (by omega) h1'.2 hp
  ·rename_i hm;cases hp;rw[if_neg hm]
theorem Ctx.alt(h:Ctx p s k)(T:dU):∀(n n' i j:Nat)(x:bC),n<=n'->i<=p.size->eP T p n i= .ok x j->eP T s n' (i+k)= .ok x (j+k)
 |0,_,_,_,_,_,_,hp=>by cases hp|n+1,0,_,_,_,hn,_,_=>by omega|n+1,n'+1,i,j,x,hn,hi,hp=>by
  have hs:=h.size;have hG:=nA T p n;have hA:∀i x j,i<=p.size->eP T p n i= .ok x j->eP T s n' (i+k)= .ok x (j+k):=λi x j hi hp=>Ctx.alt h T n n' i j x (by omega) hi hp;unfold eP at hp⊢;have h1:=qB T (eP T p n) p hG (p.size+1) .empty i hi;split at hp;·cases hp
  ·rename_i y j1 he;rw[he]at h1;have h1':i<=j1/\j1<=p.size:=h1;rw[h.seq hG hA (p.size+1) (s.size+1) _ _ _ _ (by omega) hi he];exact h.or hG hA (p.size+1) (s.size+1) _ _ _ _ (by omega) h1'.2 hp
end
/-!### Patterns in brackets. -/
def MJ(T:dU)(p:ByteArray)(x:bC):Prop:=eP T p (p.size+1) 0= .ok x p.size
theorem group{T:dU}{p s:ByteArray}{k n:Nat}{x:bC}(hp:MJ T p x)(h:Ctx p s (k+1))(nH:s.data.toList[k]?=some 40)(hn:p.size+1<=n):eY (eP T s n) s k= .ok x (p.size+k+2):=by have h1:=h.alt T (p.size+1) n 0 p.size x hn (aW _) hp;unfold eY;rw[nH];dsimp only;rw[if_pos rfl,show k+1=0+(k+1)by omega,h1];dsimp only;rw[if_pos (by unfold cH;rw[h.end'];rfl)];rfl
theorem adf{T:dU}{A:Nat->PR bC}{s:ByteArray}{f i:Nat}{x:bC}(h:cH s i 124=false):vC T A s (f+1) x i= .ok x i:=by unfold vC;rw[if_neg (by rw[h];decide)]
section
variable{T:dU}{p q s:ByteArray}{x y:bC}
theorem Eu(h:gD s= .ok x):∃y,MJ qG s y/\MJ bJ s x/\x.places<=128:=by
 unfold gD at h;split at h;·cases h
 ·rename_i y j he;split at h;·
   rename_i hj;subst hj;split at h;·cases h
   ·rename_i x' j' CD;have Ls:=JG qG bJ s (s.size+1) 0;rw[he,CD]at Ls;have hj:s.size=j':=Ls;subst hj;split at h;·cases h
    ·cases h;exact⟨y,he,CD,by omega⟩
  ·cases h
theorem Vz(h1:MJ qG s y)(h2:MJ bJ s x):gD s=if x.places>128 then .big else .ok x:=by unfold gD;have h1':eP qG s (s.size+1) 0= .ok y s.size:=h1;have h2':eP bJ s (s.size+1) 0= .ok x s.size:=h2;rw[h1',h2'];dsimp only;rw[if_pos rfl]
end
theorem zM(x:bC)(h:x.places<=128):x.count=x.places:=by induction x with|empty=>rfl|iW=>exact absurd h (by decide)|one s=>rfl|seq a b uo um=>have h':min (a.places+b.places) 129<=128:=h;show a.count+b.count=min (a.places+b.places) 129;rw[uo (by omega),um (by omega)];omega|or a b uo um=>have h':min (a.places+b.places) 129<=128:=h;show a.count+b.count=min (a.places+b.places) 129;rw[uo (by omega),um (by omega)];omega|many a sm ih=>exact ih h|maybe a ih=>exact ih h
theorem BP(rb:Nat)(s:ByteArray)(i:Nat)(tv:ay)(T:dU)(A:Nat->PR bC)(w:ak)(hR:eQ w rb s i)(R:PR bC)(hRf:∀p,fU T A s (s.size+1) .empty i= .fault p->R= .fault p)(hRo:∀x j,fU T A s (s.size+1) .empty i= .ok x j->R=vC T A s (s.size+1) x j)(hg:∀q,q<=s.size->(fU T A s (s.size+1) .empty q).Good s q)(hS:∀q w,eQ w rb s q->i<=q->aX ah 193 #[aP rb,tv] w (Reads bC.val rb s w (fU T A s (s.size+1) .empty q))):aX ah 144 #[aP rb,tv] w (Reads bC.val rb s w R):=by have hcall:=hS i w hR (au _);have YN:=hg i hR.2.1;obtain⟨D,hD⟩:∃D,D=fU T A s (s.size+1) .empty i:=⟨_,rfl⟩;rw[<-hD]at hcall hRf hRo YN;have HC:=ae hcall;have HS:=ae hS;have HG:=ae hg;have HR:=ae (aA hRf hRo);have HGI:=ae YN;clear hcall hS hg hRf hRo YN hD hR;unfold aP;go_enter Tryz.func144,Tryz.ntmps144;go_wp2_with fail;have hcall:=HC.out;unfold aP at hcall;refine hcall.mono ?_;clear hcall HC;cases D with
 |fault p=>rintro e w1⟨rfl,hm1⟩;refine⟨rfl,?_⟩;rw[HR.out.1 p rfl];exact⟨rfl,hm1⟩|ok x0 j0=>
  rintro e w1⟨rfl,hr1,hm1⟩;have YN:=HGI.out;have SD:i<=j0/\j0<=s.size:=YN;have H0:Hid (R=vC T A s (s.size+1) x0 j0/\s.size<s.size+1+j0/\eQ w1 rb s j0/\Mod (λj=>j=rb) w w1):=ae ⟨HR.out.2 x0 j0 rfl,by omega,hr1,hm1⟩;have HIJ:Hid (i<=j0):=ae SD.1;clear hr1 hm1 YN SD HGI HR;go_wp2_with fail;go_loopw[5](λv wr=>∃(f:Nat)(x:bC)(q:Nat),v=x.val/\Hid (i<=q)/\Hid (R=vC T A s f x q/\s.size<f+q/\eQ wr rb s q/\Mod (λj=>j=rb) w wr))(λ_ wr=>s.size-IE wr rb);case atStart=>exact⟨_,x0,j0,rfl,HIJ,H0⟩
  case round=>
   clear H0 HIJ;obtain⟨f0,x,q,rfl,HIQ,HI⟩:=hrel;obtain⟨f,rfl⟩:∃f,f0=f+1:=⟨f0-1,by have:=HI.out.2.1;have:=HI.out.2.2.1.2.1;omega⟩;obtain⟨Tx,vx,hvx,_⟩:=ko x;have HVX:=ae hvx;rw[hvx];clear hvx;go_wp2_with fail;have hcall:=lG rb s q 124 _ HI.out.2.2.1;unfold aP at hcall;refine hcall.mono ?_;clear hcall;obtain⟨b,hb⟩:∃b,b=cH s q 124:=⟨_,rfl⟩;unfold gL;rw[<-hb];have HB:=ae hb.symm;clear hb;rintro e w2⟨rfl,hr2,hm2⟩;have ju:=ae (aA hr2 (HI.out.2.2.2.trans hm2));clear hr2 hm2;cases b;case false=>
    have nj:R= .ok x q:=by rw[HI.out.1];exact adf HB.out
    subst nj;go_wp2_with fail;go_ret;refine⟨?_,ju.out⟩;show _=kG x.val;rw[HVX.out];rfl
   case true=>
    go_wp2_with fail;have hcall:=HS.out (q+1) _ ju.out.1 (by have:=HIQ.out;omega);unfold aP at hcall;refine hcall.mono ?_;clear hcall;have hg:=HG.out (q+1) ju.out.1.2.1;have HF:Hid (∀p,fU T A s (s.size+1) .empty (q+1)= .fault p->R= .fault p):=ae λp hp=>by rw[HI.out.1,vC,if_pos HB.out,hp]
    have HO:Hid (∀y j,fU T A s (s.size+1) .empty (q+1)= .ok y j->R=vC T A s f (.or x y) j):=ae λy j hp=>by rw[HI.out.1,vC,if_pos HB.out,hp]
    obtain⟨D,hD⟩:∃D,D=fU T A s (s.size+1) .empty (q+1):=⟨_,rfl⟩;rw[<-hD]at hg HF HO⊢;have HGD:=ae hg;clear hD hg;cases D with|fault p=>rintro e w3⟨rfl,ur⟩;refine⟨rfl,?_⟩;rw[HF.out p rfl];exact⟨rfl,ju.out.2.trans ur⟩|ok y j=>rintro e w3⟨rfl,hr3,ur⟩;have HJ:Hid (q+1<=j/\j<=s.size):=ae HGD.out;have HN:Hid (R=vC T A s f (.or x y) j/\s.size<f+j/\eQ w3 rb s j/\Mod (λj=>j=rb) w w3):=ae ⟨HO.out y j rfl,by have:=HI.out.2.1;have:=HJ.out;omega,hr3,ju.out.2.trans ur⟩;have Yi:Hid (s.size-IE w3 rb<s.size-IE wr rb):=ae (by rw[rI HN.out.2.2.1,rI HI.out.2.2.1];have:=HJ.out;omega);obtain⟨Ty,vy,hvy,_⟩:=ko y;have HVY:=ae hvy;rw[hvy];clear hr3 ur hvy;go_wp2_with fail;refine⟨⟨f,.or x y,j,?_,ae (by have:=HIQ.out;have:=HJ.out;omega),HN⟩,Yi.out⟩;show _=Value.iface 387 (.agg #[x.val,y.val]);rw[HVX.out,HVY.out]
theorem Qc{w a b:ak}{rb ob:Nat}(h:Mod (λj=>j=rb) w a)(k:Mod (λj=>j=ob) a b)(ho:w.heap.size<=ob):Mod (λj=>j=rb) w b:=⟨k.os.trans h.os,k.tape.trans h.tape,k.output.trans h.output,aZ h.size k.size,λj hj hn=>(k.block j (bI hj h.size) (λe=>by have e':j=ob:=e;omega)).trans (h.block j hj hn)⟩
theorem Le{w a b:ak}{rb ob:Nat}(h:Mod (λj=>j=rb) w a)(k:Mod (λj=>j=rb\/j=ob) a b)(ho:w.heap.size<=ob):Mod (λj=>j=rb) w b:=⟨k.os.trans h.os,k.tape.trans h.tape,k.output.trans h.output,aZ h.size k.size,λj hj hn=>(k.block j (bI hj h.size) (λe=>by rcases e with e|e;exact hn e;have e':j=ob:=e;omega)).trans (h.block j hj hn)⟩
theorem XU(rb:Nat)(s:ByteArray)(i:Nat)(tv:ay)(A:Nat->PR bC)(w:ak)(hR:eQ w rb s i)(hA:∀w,eQ w rb s (i+1)->aX ah 144 #[aP rb,tv] w (Reads bC.val rb s w (A (i+1)))):aX ah 250 #[aP rb,tv] w (Reads bC.val rb s w (eY A s i)):=by
 obtain⟨R,yX⟩:∃R,R=eY A s i:=⟨_,rfl⟩;rw[<-yX];unfold eY at yX;have hs:=hR.2.2;have HA:=ae hA;have HR:=ae hR;have TC:=ae yX;clear yX hA hR;unfold aP;go_enter Tryz.func250,Tryz.ntmps250;go_wp2_with fail;obtain⟨ok,hok⟩:∃ok,ok=decide (i<s.size):=⟨_,rfl⟩;have PL:=ae hok;clear hok;refine eo [(0,false),(1,false),(2,false),(3,false),(4,false),(5,false),(6,false),(7,false),(8,false),(9,false),(10,false),(11,true)] (λw'=>eQ w' rb s i/\Mod (λj=>j=rb) w w') (λc w'=>Reads bC.val rb s w R (.panicked c) w') (λc a w' hd h=>⟨hd,h⟩) (by kernel_rfl) (by kernel_rfl) ?_ ?_;·exact⟨HR.out.same (Same.drew _),Mod.same (Same.drew _)⟩
 iterate 11(
 refine bR ?_ rfl rfl (λw' hS=>?_) ?_;rotate_left;·have e0:=hS.1.c0;have e1:=hS.1.c1;go_simp;try rfl
 simp only[aN,ai,aj])
 refine dG rfl rfl (by decide) (λK hK=>?_);have HK:=ae hK;clear hK;go_simp;rw[<-PL.out];have hcall:=eW rb s i ok _ (HR.out.same (Same.drew w));unfold aP at hcall;refine hcall.mono ?_;clear hcall;rintro e w2⟨rfl,hs2⟩;have rD:eQ w2 rb s i/\Mod (λj=>j=rb) w w2:=⟨(HR.out.same (Same.drew _)).same hs2,(Mod.same (Same.drew _)).trans (Mod.same hs2)⟩;cases ok;·
  refine⟨rfl,?_⟩;have nj:R= .fault i:=by rw[TC.out,at_end s i (by simpa using PL.out)]
  rw[nj];exact⟨rfl,rD.2⟩
 ·refine HK.out _ _ rD ?_;have hlt:i<s.size:=by simpa using PL.out
  obtain⟨c,hc⟩:∃c,c=s[i]:=⟨_,rfl⟩;have hat:s.data.toList[i]?=some c:=by rw[hc];exact iP s i hlt
  obtain⟨W3,hW3⟩:∃W3,W3=w2.alloc (.cells #[uV 0,uV 0,uV 0,uV 0] 300):=⟨_,rfl⟩;have hb3:aI w2.heap.size w2 W3:=by rw[hW3];exact(aB _ w2).alloc (au _) _
  have hbs:gG W3 w2.heap.size .zero:=⟨bG.dL,by rw[hW3];exact heap_alloc_new w2 _⟩;have H3:=ae (show _/\_/\_/\_ from⟨rD.1.below hb3,rD.2.trans (fo hb3),hbs,rD.1.lt⟩);have Fw:Hid (R=if c=40 then(match A (i+1)with| .fault e=> .fault e| .ok x j=>if cH s j 41 then .ok x (j+1)else .fault j)else if c=46 then .ok (.one (bG.zero.add 0 255)) (i+1)else if c=91 then(match nW s (i+1)with| .fault e=> .fault e| .ok o j=> .ok (.one o) j)else if rZ c then .fault i else(match cZ s i with| .fault e=> .fault e| .ok d j=> .ok (.one (bG.zero.add d.toNat d.toNat)) j)):=ae (by rw[TC.out,hat];rfl);have c0:=H3.out.1.c0;have c1:=H3.out.1.c1;have DK:=ae rD.2.size;have CU:=ae hW3;have zo:=ae hc;clear HK K rD hs2 hb3 hbs hW3 hat HR TC;refine iM ?_;go_upto_region 3 with(fail);rw[<-CU.out];go_quiet(fail);rw[<-zo.out];have hS4:eQ (W3.drewN nq) rb s i/\Mod (λj=>j=rb) w (W3.drewN nq)/\gG (W3.drewN nq) w2.heap.size .zero/\rb<w2.heap.size:=⟨H3.out.1.same (Same.drewN _ _),H3.out.2.1.trans (Mod.same (Same.drewN _ _)),H3.out.2.2.1.same (Same.drewN _ _),H3.out.2.2.2⟩;have H4:=ae hS4;clear hS4 c0 c1 H3 CU;generalize W3.drewN nq=W4 at*;have c0:=H4.out.1.c0;have c1:=H4.out.1.c1;have hf:=H4.out.1.free 1;have kD:=H4.out.1.set (j:=i+1) (by omega);have ei:((i+1:Nat):Int)=(i:Int)+1:=by omega
  rw[ei]at kD;have wX:Hid (eQ (W4.setCell (aD rb 1) (iV ((i:Int)+1))) rb s (i+1)/\Mod (λj=>j=rb) w (W4.setCell (aD rb 1) (iV ((i:Int)+1)))):=ae ⟨kD,H4.out.2.1.trans (Mod.setCell _ _ _ λ_=>rfl)⟩;clear kD ei;by_cases nH:c=40;·
   have e40:(c.toNat:Int)=40:=by rw[nH];rfl
   rw[e40];rw[if_pos nH]at Fw;clear e40 nH zo;go_wp2_with fail;have hcall:=HA.out _ wX.out.1;unfold aP at hcall;refine hcall.mono ?_;clear hcall;obtain⟨D,hD⟩:∃D,D=A (i+1):=⟨_,rfl⟩;have HF:Hid (∀p,D= .fault p->R= .fault p):=ae λp hp=>by rw[Fw.out,<-hD,hp]
   have HO:Hid (∀x j,D= .ok x j->R=if cH s j 41 then .ok x (j+1)else .fault j):=ae λx j hp=>by rw[Fw.out,<-hD,hp]
   rw[<-hD];clear hD Fw;cases D with
    |fault p=>rintro e w5⟨rfl,nJ⟩;refine⟨rfl,?_⟩;rw[HF.out p rfl];exact⟨rfl,wX.out.2.trans nJ⟩|ok x j=>
     rintro e w5⟨rfl,BA,nJ⟩;have sO:=ae (aA BA (wX.out.2.trans nJ));clear BA nJ;go_wp2_with fail;have hcall:=lG rb s j 41 _ sO.out.1;unfold aP at hcall;refine hcall.mono ?_;clear hcall;obtain⟨b8,nK⟩:∃b,b=cH s j 41:=⟨_,rfl⟩;unfold gL;rw[<-nK];have MG:=ae nK.symm;clear nK;rintro e w8⟨rfl,MP,Df⟩;have zl:=ae (aA MP (sO.out.2.trans Df));clear MP Df;go_wp2_with fail;have hcall:=eW rb s _ b8 _ zl.out.1;unfold aP at hcall;refine hcall.mono ?_;clear hcall;rintro e w9⟨rfl,pX⟩;have yc:=ae (aA (zl.out.1.same pX) (zl.out.2.trans (Mod.same pX)));clear pX zl;cases b8;case false=>
      refine⟨rfl,?_⟩;have nj:R= .fault j:=by rw[HO.out x j rfl,if_neg (by rw[MG.out];decide)]
      rw[nj];exact⟨rfl,yc.out.2⟩
     case true=>
      have nj:R= .ok x (j+1):=by rw[HO.out x j rfl,if_pos MG.out]
      subst nj;go_wp2_with fail;go_ret;exact⟨rfl,yc.out⟩
  ·by_cases uY:c=46;·
    have e46:(c.toNat:Int)=46:=by rw[uY];rfl
    rw[e46];have nj:R= .ok (.one (bG.zero.add 0 255)) (i+1):=by rw[Fw.out,if_neg nH,if_pos uY]
    clear e46 uY nH zo Fw;subst nj;go_wp2_with fail;have hbz:gG (W4.setCell (aD rb 1) (iV ((i:Int)+1))) w2.heap.size .zero:=H4.out.2.2.1.mod (Mod.setCell (S:=λj=>j=rb) W4 _ _ λ_=>rfl) (λe=>by have e':w2.heap.size=rb:=e;have:=H4.out.2.2.2;omega);have hcall:=rS w2.heap.size 0 255 .zero _ hbz (by decide) (by decide);unfold aP at hcall;refine hcall.mono ?_;clear hcall hbz;rintro e w5⟨rfl,hb5,nJ⟩;have hrd:=wX.out.1.mod nJ (λe=>by have e':rb=w2.heap.size:=e;have:=H4.out.2.2.2;omega);obtain⟨o,ho⟩:∃o,o=bG.zero.add 0 255:=⟨_,rfl⟩;rw[<-ho]at hb5⊢;have k0:w5.cell? (aD w2.heap.size 0)=some (uV o.a):=aq hb5.2;have k1:w5.cell? (aD w2.heap.size 1)=some (uV o.b):=aq hb5.2;have k2:w5.cell? (aD w2.heap.size 2)=some (uV o.c):=aq hb5.2;have k3:w5.cell? (aD w2.heap.size 3)=some (uV o.d):=aq hb5.2;have HN:=ae (aA hrd nJ);have HO:=ae ho;clear hb5 nJ hrd ho;go_wp2_with fail;go_ret;refine⟨?_,HN.out.1,Qc wX.out.2 HN.out.2 ?_⟩;·show _=kG (bC.one (bG.zero.add 0 255)).val;rw[<-HO.out];rfl
    ·exact DK.out
   ·by_cases uN:c=91;·
     have e91:(c.toNat:Int)=91:=by rw[uN];rfl
     rw[e91];rw[if_neg nH,if_neg uY,if_pos uN]at Fw;clear e91 uN uY nH zo;go_wp2_with fail;have hbz:gG (W4.setCell (aD rb 1) (iV ((i:Int)+1))) w2.heap.size .zero:=H4.out.2.2.1.mod (Mod.setCell (S:=λj=>j=rb) W4 _ _ λ_=>rfl) (λe=>by have e':w2.heap.size=rb:=e;have:=H4.out.2.2.2;omega);have hcall:=S5 rb w2.heap.size s (i+1) _ wX.out.1 hbz (by have:=H4.out.2.2.2;omega);unfold aP at hcall;refine hcall.mono ?_;clear hcall hbz;obtain⟨D,hD⟩:∃D,D=nW s (i+1):=⟨_,rfl⟩;have HF:Hid (∀p,D= .fault p->R= .fault p):=ae λp hp=>by rw[Fw.out,<-hD,hp]
     have HO:Hid (∀o j,D= .ok o j->R= .ok (.one o) j):=ae λo j hp=>by rw[Fw.out,<-hD,hp]
     rw[<-hD];clear hD Fw;cases D with|fault p=>rintro e w5⟨rfl,nJ⟩;refine⟨rfl,?_⟩;rw[HF.out p rfl];exact⟨rfl,Le wX.out.2 nJ DK.out⟩|ok o j=>have nj:=HO.out o j rfl;subst nj;rintro e w5⟨rfl,BA,hb5,nJ⟩;have k0:w5.cell? (aD w2.heap.size 0)=some (uV o.a):=aq hb5.2;have k1:w5.cell? (aD w2.heap.size 1)=some (uV o.b):=aq hb5.2;have k2:w5.cell? (aD w2.heap.size 2)=some (uV o.c):=aq hb5.2;have k3:w5.cell? (aD w2.heap.size 3)=some (uV o.d):=aq hb5.2;have HN:=ae (aA BA nJ);clear hb5 nJ BA HF HO;go_wp2_with fail;go_ret;exact⟨rfl,HN.out.1,Le wX.out.2 HN.out.2 DK.out⟩
    ·by_cases hwr:rZ c=true;·
      rw[if_neg nH,if_neg uY,if_neg uN,if_pos hwr]at Fw;have Lv:c=41\/c=93\/c=123\/c=125\/c=42\/c=43\/c=63\/c=124:=by simpa[rZ,or_assoc]using hwr
      have nj:=Fw.out;clear hwr nH uY uN Fw;subst nj;rcases Lv with h|h|h|h|h|h|h|h;·
       have ec:(c.toNat:Int)=41:=by rw[h];rfl
       rw[ec];clear ec h zo wX;go_wp2_with fail;have hcall:=eW rb s i false _ H4.out.1;unfold aP at hcall;refine hcall.mono ?_;clear hcall;rintro e w9⟨rfl,pX⟩;exact⟨rfl,rfl,H4.out.2.1.trans (Mod.same pX)⟩
      ·have ec:(c.toNat:Int)=93:=by rw[h];rfl
       rw[ec];clear ec h zo wX;go_wp2_with fail;have hcall:=eW rb s i false _ H4.out.1;unfold aP at hcall;refine hcall.mono ?_;clear hcall;rintro e w9⟨rfl,pX⟩;exact⟨rfl,rfl,H4.out.2.1.trans (Mod.same pX)⟩
      ·have ec:(c.toNat:Int)=123:=by rw[h];rfl
       rw[ec];clear ec h zo wX;go_wp2_with fail;have hcall:=eW rb s i false _ H4.out.1;unfold aP at hcall;refine hcall.mono ?_;clear hcall;rintro e w9⟨rfl,pX⟩;exact⟨rfl,rfl,H4.out.2.1.trans (Mod.same pX)⟩
      ·have ec:(c.toNat:Int)=125:=by rw[h];rfl
       rw[ec];clear ec h zo wX;go_wp2_with fail;have hcall:=eW rb s i false _ H4.out.1;unfold aP at hcall;refine hcall.mono ?_;clear hcall;rintro e w9⟨rfl,pX⟩;exact⟨rfl,rfl,H4.out.2.1.trans (Mod.same pX)⟩
      ·have ec:(c.toNat:Int)=42:=by rw[h];rfl
       rw[ec];clear ec h zo wX;go_wp2_with fail;have hcall:=eW rb s i false _ H4.out.1;unfold aP at hcall;refine hcall.mono ?_;clear hcall;rintro e w9⟨rfl,pX⟩;exact⟨rfl,rfl,H4.out.2.1.trans (Mod.same pX)⟩
      ·have ec:(c.toNat:Int)=43:=by rw[h];rfl
       rw[ec];clear ec h zo wX;go_wp2_with fail;have hcall:=eW rb s i false _ H4.out.1;unfold aP at hcall;refine hcall.mono ?_;clear hcall;rintro e w9⟨rfl,pX⟩;exact⟨rfl,rfl,H4.out.2.1.trans (Mod.same pX)⟩
      ·have ec:(c.toNat:Int)=63:=by rw[h];rfl
       rw[ec];clear ec h zo wX;go_wp2_with fail;have hcall:=eW rb s i false _ H4.out.1;unfold aP at hcall;refine hcall.mono ?_;clear hcall;rintro e w9⟨rfl,pX⟩;exact⟨rfl,rfl,H4.out.2.1.trans (Mod.same pX)⟩
      ·have ec:(c.toNat:Int)=124:=by rw[h];rfl
       rw[ec];clear ec h zo wX;go_wp2_with fail;have hcall:=eW rb s i false _ H4.out.1;unfold aP at hcall;refine hcall.mono ?_;clear hcall;rintro e w9⟨rfl,pX⟩;exact⟨rfl,rfl,H4.out.2.1.trans (Mod.same pX)⟩
     ·rw[if_neg nH,if_neg uY,if_neg uN,if_neg hwr]at Fw;have hno:∀z:UInt8,(z==40||z==46||z==91||rZ z)=true->((c.toNat:Int)==(z.toNat:Int))=false:=λz hz=>by rw[beq_eq_false_iff_ne];intro e;have e':=UInt8.toNat_inj.1 (by exact_mod_cast e);subst e';simp[nH,uY,uN,hwr]at hz
      have n40:((c.toNat:Int)==40)=false:=hno 40 (by decide);have n46:((c.toNat:Int)==46)=false:=hno 46 (by decide);have n91:((c.toNat:Int)==91)=false:=hno 91 (by decide);have n41:((c.toNat:Int)==41)=false:=hno 41 (by decide);have n93:((c.toNat:Int)==93)=false:=hno 93 (by decide);have n123:((c.toNat:Int)==123)=false:=hno 123 (by decide);have n125:((c.toNat:Int)==125)=false:=hno 125 (by decide);have n42:((c.toNat:Int)==42)=false:=hno 42 (by decide);have n43:((c.toNat:Int)==43)=false:=hno 43 (by decide);have n63:((c.toNat:Int)==63)=false:=hno 63 (by decide);have n124:((c.toNat:Int)==124)=false:=hno 124 (by decide);clear hno hwr nH uY uN zo wX;generalize(c.toNat:Int)=ci at*;go_wp2_with fail;have hcall:=yE rb s i _ H4.out.1;unfold aP at hcall;refine hcall.mono ?_;clear hcall;obtain⟨D,hD⟩:∃D,D=cZ s i:=⟨_,rfl⟩;have HF:Hid (∀p,D= .fault p->R= .fault p):=ae λp hp=>by rw[Fw.out,<-hD,hp]
      have HO:Hid (∀d j,D= .ok d j->R= .ok (.one (bG.zero.add d.toNat d.toNat)) j):=ae λd j hp=>by rw[Fw.out,<-hD,hp]
      rw[<-hD];clear hD Fw n40 n46 n91 n41 n93 n123 n125 n42 n43 n63 n124;cases D with
       |fault p=>rintro e w5⟨rfl,nJ⟩;refine⟨rfl,?_⟩;rw[HF.out p rfl];exact⟨rfl,H4.out.2.1.trans nJ⟩|ok d j=>
        have nj:R= .ok (.one (bG.zero.add d.toNat d.toNat)) j:=HO.out d j rfl;subst nj;rintro e w5⟨rfl,BA,nJ⟩;have aen:gG w5 w2.heap.size .zero:=H4.out.2.2.1.mod nJ (λe=>by have e':w2.heap.size=rb:=e;have:=H4.out.2.2.2;omega);have H5:=ae (aA BA (aA aen (H4.out.2.1.trans nJ)));have Fz:d.toNat<256:=d.toNat_lt;have hadd:=rS w2.heap.size d.toNat d.toNat .zero w5 aen Fz Fz;have TL:=ae hadd;clear BA nJ aen hadd HF HO;obtain⟨o,ho⟩:∃o,o=bG.zero.add d.toNat d.toNat:=⟨_,rfl⟩;have HOO:=ae ho;clear ho;generalize hdi:d.toNat=dn at*;go_wp2_with fail;have hcall:=TL.out;unfold aP at hcall;refine hcall.mono ?_;clear hcall TL;rintro e w6⟨rfl,oY,Dg⟩;rw[<-HOO.out]at oY⊢;have hrd:=H5.out.1.mod Dg (λe=>by have e':rb=w2.heap.size:=e;have:=H4.out.2.2.2;omega);have k0:w6.cell? (aD w2.heap.size 0)=some (uV o.a):=aq oY.2;have k1:w6.cell? (aD w2.heap.size 1)=some (uV o.b):=aq oY.2;have k2:w6.cell? (aD w2.heap.size 2)=some (uV o.c):=aq oY.2;have k3:w6.cell? (aD w2.heap.size 3)=some (uV o.d):=aq oY.2;have HN:=ae (aA hrd Dg);clear oY Dg hrd;go_wp2_with fail;go_ret;refine⟨?_,HN.out.1,Qc H5.out.2.2 HN.out.2 ?_⟩;·show _=kG (bC.one (bG.zero.add dn dn)).val;rw[<-HOO.out];rfl
        ·exact DK.out
theorem JH(rb:Nat)(s:ByteArray)(tv:ay)(T:dU)(hT:DF tv T):∀(n i:Nat)(w:ak),s.size<n+i->eQ w rb s i->aX ah 144 #[aP rb,tv] w (Reads bC.val rb s w (eP T s n i))|0,i,w,h,hR=>absurd hR.2.1 (by omega)|n+1,i,w,h,hR=>BP rb s i tv T (eP T s n) w hR (eP T s (n+1) i) (λp hp=>by simp only[eP,hp]) (λx j hp=>by simp only[eP,hp]) (λq hq=>qB T (eP T s n) s (nA T s n) _ .empty q hq) (λq w hRq hq=>Iq rb s q tv T (eP T s n) w hRq (λq hq=>Bj T (eP T s n) s q hq λj _=>nA T s n j) (λq' w ana hq'=>IB rb s q' tv T (eP T s n) w hT ana (λw hRa=>XU rb s q' tv (eP T s n) w hRa (λw hR'=>JH rb s tv T hT n (q'+1) w (by omega) hR'))))
theorem Ii(x y v:ay):#[x,y]++(Array.replicate 18 undef).setIfInBounds 4 v=#[x,y,undef,undef,undef,undef,v,undef,undef,undef,undef,undef,undef,undef,undef,undef,undef,undef,undef,undef]:=by apply Array.toList_inj.mp;simp[aQ]
theorem Fg(v:ay)(w:ak):(jJ (.iface 288 v) 20 288 true).run ah w= .ok (.tuple #[v,.bool true]) w:=by kernel_rfl
theorem JE(v:ay)(w:ak):(jJ (.iface 289 v) 20 288 true).run ah w= .ok (.tuple #[iV 0,.bool false]) w:=by kernel_rfl
theorem JF(v:ay)(w:ak):(jJ (.iface 289 v) 20 289 true).run ah w= .ok (.tuple #[v,.bool true]) w:=by kernel_rfl
theorem O8(xa ea:Nat)(w:ak):UW ah 143 #[pT xa,pT ea] .returning w λe u' w'=>e= .returned (.tuple #[])/\u'= .returning/\w'=w:=by refine callsD_of_wpS UG rfl λc₀ cs hu=>?_;apply wpS_seq;apply wpS_region;simp[wpOpsS,go_sem,recoverD,hu,Q8,ac3];refine wpS_of_wp ?_;generalize hQ:(λ(e:Exit)(a':Act)(w':ak)=>bodyPostS ah agt c₀ cs _ e a' (_::cs) w')=Q;rw[Ii];go_wp2_with fail;rw[<-hQ];refine⟨rfl,.returning,?_,_,results_none rfl _ _ _,rfl,rfl,rfl⟩;cases c₀;cases hu;rfl
structure Two (w:ak) (xa ea:Nat) (v1 v2:ay):Prop where
 ne:xa≠ea
 x:w.heap[xa]?=some (.cells #[v1] 210 (0,0))
 e:w.heap[ea]?=some (.cells #[v2] 76 (0,0))
theorem Two.set {w:ak} {xa ea:Nat} {v1 v2:ay} (h:Two w xa ea v1 v2) (y1 y2:ay):Two ((w.setCell (aD xa 0) y1).setCell (aD ea 0) y2) xa ea y1 y2 where
 ne:=h.ne
 x:=by
  rw [az _ _ _ _ h.ne]
  have k:=heap_setCell_same w xa 0 _ _ y1 h.x
  simpa using k
 e:=by
  have k:=heap_setCell_same (w.setCell (aD xa 0) y1) ea 0 _ _ y2 (by rw [az _ _ _ _ fun e=>h.ne e.symm]; exact h.e)
  simpa using k
theorem Two.below{w w':ak}{xa ea:Nat}{v1 v2:ay}(h:Two w xa ea v1 v2)(hb:aI w.heap.size w w'):Two w' xa ea v1 v2:=⟨h.ne,(hb.block _ (lt_of_heap h.x)).trans h.x,(hb.block _ (lt_of_heap h.e)).trans h.e⟩
theorem Two.alloc{w:ak}{xa ea:Nat}{v1 v2:ay}(h:Two w xa ea v1 v2)(o:Obj):Two (w.alloc o) xa ea v1 v2:=h.below ((aB _ w).alloc (au _) _)
theorem Two.one {w:ak} {xa ea:Nat} {v1 v2:ay} (h:Two w xa ea v1 v2) (y:ay):Two (w.setCell (aD xa 0) y) xa ea y v2 where
 ne:=h.ne
 x:=by
  have k:=heap_setCell_same w xa 0 _ _ y h.x
  simpa using k
 e:=by rw [az _ _ _ _ fun e=>h.ne e.symm]; exact h.e
theorem L9(xa ea i:Nat)(w:ak)(v1 v2:ay)(h:Two w xa ea v1 v2):UW ah 143 #[pT xa,pT ea] (.panicking (BF i)) w λe u' w'=>e= .returned (.tuple #[])/\u'= .panicking [{v:= .iface 288 (iV i),recovered:=true}]/\w'=((w.alloc (.cells #[iV 6,iV i] 134)).setCell (aD xa 0) .nilIface).setCell (aD ea 0) (.iface 129 (pT w.heap.size)):=by refine callsD_of_wpS UG rfl λc₀ cs hu=>?_;unfold BF at hu;apply wpS_seq;apply wpS_region;simp[wpOpsS,go_sem,recoverD,hu,Q8,ac3];refine wpS_of_wp ?_;generalize hQ:(λ(e:Exit)(a':Act)(w':ak)=>bodyPostS ah agt c₀ cs _ e a' (_::cs) w')=Q;rw[Ii];have c1:∀o,(w.alloc o).cell? (aD xa 0)=some v1:=λo=>aq (h.alloc o).x;have f1:∀o,(w.alloc o).frozen? (aD xa 0)=false:=λo=>aU (h.alloc o).x;have c2:∀o y,((w.alloc o).setCell (aD xa 0) y).cell? (aD ea 0)=some v2:=λo y=>aq (h.alloc o|>.one y).e;have f2:∀o y,((w.alloc o).setCell (aD xa 0) y).frozen? (aD ea 0)=false:=λo y=>aU (h.alloc o|>.one y).e;have wL:=Fg;have HQ:=ae hQ;clear hQ h;go_wp2_with fail;rw[<-HQ];refine⟨rfl,_,rfl,_,results_none rfl _ _ _,rfl,rfl,rfl⟩
theorem Te(xa ea:Nat)(w:ak)(v1 v2:ay)(h:Two w xa ea v1 v2):UW ah 143 #[pT xa,pT ea] (.panicking [{v:= .iface 289 (.agg #[]),recovered:=false}]) w λe u' w'=>e= .returned (.tuple #[])/\u'= .panicking [{v:= .iface 289 (.agg #[]),recovered:=true}]/\w'=((w.alloc (.cells #[] 289)).setCell (aD xa 0) .nilIface).setCell (aD ea 0) (.iface 43 (iV 9)):=by refine callsD_of_wpS UG rfl λc₀ cs hu=>?_;apply wpS_seq;apply wpS_region;simp[wpOpsS,go_sem,recoverD,hu,Q8,ac3];refine wpS_of_wp ?_;generalize hQ:(λ(e:Exit)(a':Act)(w':ak)=>bodyPostS ah agt c₀ cs _ e a' (_::cs) w')=Q;rw[Ii];have c1:∀o,(w.alloc o).cell? (aD xa 0)=some v1:=λo=>aq (h.alloc o).x;have f1:∀o,(w.alloc o).frozen? (aD xa 0)=false:=λo=>aU (h.alloc o).x;have c2:∀o y,((w.alloc o).setCell (aD xa 0) y).cell? (aD ea 0)=some v2:=λo y=>aq (h.alloc o|>.one y).e;have f2:∀o y,((w.alloc o).setCell (aD xa 0) y).frozen? (aD ea 0)=false:=λo y=>aU (h.alloc o|>.one y).e;have wL:=JE;have xU:=JF;have HQ:=ae hQ;clear hQ h;go_wp2_with fail;rw[<-HQ];refine⟨rfl,_,rfl,_,results_none rfl _ _ _,rfl,rfl,rfl⟩
def lA(w:ak)(r:kE)(e:Ending)(w':ak):Prop:=aI w.heap.size w w'/\match r with| .ok x=>e= .returned (.tuple #[x.val,.nilIface])| .big=>e= .returned (.tuple #[.nilIface,.iface 43 (.int .i64 9)])| .fault i=>∃b,w.heap.size<=b/\e= .returned (.tuple #[.nilIface,.iface 129 (aP b)])/\w'.heap[b]?=some (.cells #[.int .i64 6,.int .i64 i] 134 (0,0))
theorem nZ{W w2:ak}{rb B:Nat}(h:Mod (λj=>j=rb) W w2)(hB:B<=rb)(hs:B<=W.heap.size):aI B W w2:=⟨h.os,h.tape,h.output,h.size,λj hj=>h.block j (bI hj hs) (λe=>by have e':j=rb:=e;omega)⟩
theorem Two.mod{w w':ak}{xa ea rb:Nat}{v1 v2:ay}(h:Two w xa ea v1 v2)(k:Mod (λj=>j=rb) w w')(h1:xa≠rb)(h2:ea≠rb):Two w' xa ea v1 v2:=⟨h.ne,(k.block _ (lt_of_heap h.x) h1).trans h.x,(k.block _ (lt_of_heap h.e) h2).trans h.e⟩
theorem sA{tmps:Array ay}{W:ak}{xa ea:Nat}{v1 v2:ay}(h:Two W xa ea v1 v2)(h2:tmps[2]?.getD undef=pT xa)(h3:tmps[3]?.getD undef=pT ea):(results xw tmps).run ah W= .ok (.tuple #[v1,v2]) W:=by have c1:W.cell? (aD xa 0)=some v1:=aq h.x;have c2:W.cell? (aD ea 0)=some v2:=aq h.e;have e:Tryz.f103.results=#[.cell 2 210,.cell 3 76]:=rfl;simp[results,e,go_sem,c1,c2,h2,h3]
theorem yY{w w2:ak}{xa ea p:Nat}{v1 v2:ay}{tmps:Array ay}(hxa:w.heap.size<=xa)(hea:w.heap.size<=ea)(hb:aI w.heap.size w w2)(h:Two w2 xa ea v1 v2)(h2:tmps[2]?.getD undef=pT xa)(h3:tmps[3]?.getD undef=pT ea):UW ah 143 #[pT xa,pT ea] (.panicking (BF p)) w2 λ| .returned _,u',w'=>UR ah xw tmps (lA w (.fault p)) [] (settle u') w'| .panicked chain,u',w'=>UR ah xw tmps (lA w (.fault p)) [] (raised u' chain) w'| .outgrown,_,w'=>lA w (.fault p) .outgrown w':=by
 refine(L9 xa ea p w2 v1 v2 h).mono ?_;rintro e u' w'⟨rfl,rfl,rfl⟩;have Hg:aI w2.heap.size w2 (w2.alloc (.cells #[iV 6,iV p] 134)):=(aB _ w2).alloc (au _) _;have h':=(h.alloc (.cells #[iV 6,iV p] 134)).set .nilIface (.iface 129 (pT w2.heap.size));have hn:=heap_alloc_new w2 (.cells #[iV 6,iV p] 134);have hx:=lt_of_heap h.x;have he:=lt_of_heap h.e;refine⟨_,sA h' h2 h3,?_,w2.heap.size,hb.size,rfl,?_⟩;·exact(((hb.trans (Hg.mono hb.size))).setCell (p:=(aD xa 0)) hxa _).setCell (p:=(aD ea 0)) hea _
 ·rw[az _ _ _ _ (by show w2.heap.size≠ea;omega),az _ _ _ _ (by show w2.heap.size≠xa;omega)];exact hn
theorem XL{w w2:ak}{xa ea:Nat}{v1 v2:ay}{tmps:Array ay}(hxa:w.heap.size<=xa)(hea:w.heap.size<=ea)(hb:aI w.heap.size w w2)(h:Two w2 xa ea v1 v2)(h2:tmps[2]?.getD undef=pT xa)(h3:tmps[3]?.getD undef=pT ea):UW ah 143 #[pT xa,pT ea] (.panicking [{v:= .iface 289 (.agg #[]),recovered:=false}]) w2 λ| .returned _,u',w'=>UR ah xw tmps (lA w .big) [] (settle u') w'| .panicked chain,u',w'=>UR ah xw tmps (lA w .big) [] (raised u' chain) w'| .outgrown,_,w'=>lA w .big .outgrown w':=by refine(Te xa ea w2 v1 v2 h).mono ?_;rintro e u' w'⟨rfl,rfl,rfl⟩;have Hg:aI w2.heap.size w2 (w2.alloc (.cells #[] 289)):=(aB _ w2).alloc (au _) _;have h':=(h.alloc (.cells #[] 289)).set .nilIface (.iface 43 (iV 9));refine⟨_,sA h' h2 h3,?_,rfl⟩;exact(((hb.trans (Hg.mono hb.size))).setCell (p:=(aD xa 0)) hxa _).setCell (p:=(aD ea 0)) hea _
theorem ZJ{w w2:ak}{xa ea:Nat}{x:bC}{tmps:Array ay}(hb:aI w.heap.size w w2)(h:Two w2 xa ea x.val .nilIface)(h2:tmps[2]?.getD undef=pT xa)(h3:tmps[3]?.getD undef=pT ea):UW ah 143 #[pT xa,pT ea] .returning w2 λ| .returned _,u',w'=>UR ah xw tmps (lA w (.ok x)) [] (settle u') w'| .panicked chain,u',w'=>UR ah xw tmps (lA w (.ok x)) [] (raised u' chain) w'| .outgrown,_,w'=>lA w (.ok x) .outgrown w':=by refine(O8 xa ea w2).mono ?_;rintro e u' w'⟨rfl,rfl,rfl⟩;exact⟨_,sA h h2 h3,hb,rfl⟩
theorem RP(s:ByteArray)(w:ak)(hs:s.size<=1000000):aX ah 103 #[.string s] w (lA w (gD s)):=by
 obtain⟨R,hR⟩:∃R,R=gD s:=⟨_,rfl⟩;rw[<-hR];have HR:=ae hR;clear hR;have hmf:∀(fn:Fn)(first cap:Array ay)(w:ak),(Instr.makeFunc fn first cap).run ah w= .ok (.func fn first cap) w:=λ_ _ _ _=>rfl;go_enter_defers Tryz.func103,Tryz.ntmps103;go_wp2_with fail;obtain⟨W,hW⟩:∃W,W=((w.alloc (.cells #[.nilIface] 210)).alloc (.cells #[.nilIface] 76)).alloc (.cells #[.string s,iV 0] 292):=⟨_,rfl⟩;have hbW:aI w.heap.size w W:=by rw[hW];exact(((aB _ w).alloc (au _) _).alloc (by simp) _).alloc (by simp;omega) _
 have htW:Two W w.heap.size (w.heap.size+1) .nilIface .nilIface:=by
  rw[hW];refine Two.alloc ⟨by omega,?_,?_⟩ _;·exact(((aB _ _).alloc (au _) (.cells #[.nilIface] 76)).block _ (by simp)).trans (heap_alloc_new w (.cells #[.nilIface] 210))
  ·have k:=heap_alloc_new (w.alloc (.cells #[.nilIface] 210)) (.cells #[.nilIface] 76);rw[bM]at k;exact k
 have hrW:eQ W (w.heap.size+1+1) s 0:=by refine⟨?_,by omega,hs⟩;rw[hW];have k:=heap_alloc_new ((w.alloc (.cells #[.nilIface] 210)).alloc (.cells #[.nilIface] 76)) (.cells #[.string s,iV 0] 292);rw[bM,bM]at k;exact k
 rw[<-hW];have HW:=ae (aA hbW (aA htW hrW));clear hW hbW htW hrW;have hcall:=JH (w.heap.size+1+1) s _ qG N7 (s.size+1) 0 W (by omega) HW.2.2;unfold aP at hcall;refine hcall.mono ?_;clear hcall;obtain⟨D,hD⟩:∃D,D=eP qG s (s.size+1) 0:=⟨_,rfl⟩;have HF:Hid (∀p,D= .fault p->R= .fault p):=ae λp hp=>by rw[HR];unfold gD;rw[<-hD,hp]
 have HN:Hid (∀x j,D= .ok x j->j≠s.size->R= .fault j):=ae λx j hp hj=>by rw[HR];unfold gD;rw[<-hD,hp];exact if_neg hj
 have HO:Hid (∀x j,D= .ok x j->j=s.size->((∀p,eP bJ s (s.size+1) 0= .fault p->R= .fault p)/\∀y k,eP bJ s (s.size+1) 0= .ok y k->R=if y.places>128 then .big else .ok y)):=ae λx j hp hj=>by refine⟨λp hq=>?_,λy k hq=>?_⟩;all_goals(rw[HR];unfold gD;rw[<-hD,hp,hq];exact if_pos hj)
 rw[<-hD];clear hD HR;cases D with
  |fault p=>have nj:R= .fault p:=HF p rfl;subst nj;clear HF HN HO;rintro e w2⟨rfl,hm2⟩;have hb2:=HW.1.trans (nZ hm2 (by omega) HW.1.size);have ht2:=HW.2.1.mod hm2 (by omega) (by omega);refine leaves_cons (f:=143) (args:=#[pT w.heap.size,pT (w.heap.size+1)]) (by simp) (by simp[go_sem]) ?_;exact yY (au _) (uU _) hb2 ht2 rfl rfl|ok x j=>
   rintro e w2⟨rfl,hr2,hm2⟩;have H2:=ae (aA hr2 (aA (HW.1.trans (nZ hm2 (by omega) HW.1.size)) (HW.2.1.mod hm2 (by omega) (by omega))));clear hm2 HF;have c0:=hr2.c0;have c1:=hr2.c1;clear hr2;go_wp2_with fail;have hd:((j:Int)==(s.size:Int))=decide (j=s.size):=by
    by_cases h:j=s.size;·rw[h];simp
    ·rw[decide_eq_false h,beq_eq_false_iff_ne];exactλe=>h (by omega)
   rw[hd];have hcall:=eW (w.heap.size+1+1) s j (decide (j=s.size)) w2 H2.1;unfold aP at hcall;refine hcall.mono ?_;clear hcall hd;rintro e w3⟨rfl,hs3⟩;have H3:=ae (aA (H2.2.1.trans (hs3.below _)) (H2.2.2.below (hs3.below _)));clear hs3;by_cases hj:j=s.size;·
    rw[decide_eq_true hj];have HP:=ae (HO x j rfl hj);clear HO HN H2 hj;go_wp2_with fail;obtain⟨W4,tM⟩:∃W4,W4=w3.alloc (.cells #[.string s,iV 0] 292):=⟨_,rfl⟩;have hb4:aI w3.heap.size w3 W4:=by rw[tM];exact(aB _ w3).alloc (au _) _
    have hr4:eQ W4 w3.heap.size s 0:=⟨by rw[tM];exact heap_alloc_new w3 _,by omega,hs⟩;rw[<-tM];have hx3:=lt_of_heap H3.2.x;have he3:=lt_of_heap H3.2.e;have H4:=ae (aA (H3.1.trans (hb4.mono H3.1.size)) (aA (H3.2.below hb4) (aA hr4 (aA hx3 (aA he3 hb4.size)))));clear tM hb4 hr4 hx3 he3;have hcall:=JH w3.heap.size s _ bJ IC (s.size+1) 0 W4 (by omega) H4.2.2.1;unfold aP at hcall;refine hcall.mono ?_;clear hcall;obtain⟨D2,OX⟩:∃D2,D2=eP bJ s (s.size+1) 0:=⟨_,rfl⟩;rw[<-OX]at HP⊢;clear OX;have hmo:∀w5:ak,Mod (λq=>q=w3.heap.size) W4 w5->aI w.heap.size w w5/\Two w5 w.heap.size (w.heap.size+1) .nilIface .nilIface:=λw5 nJ=>by have h1:=H4.2.2.2.1;have h2:=H4.2.2.2.2.1;exact⟨H4.1.trans (nZ nJ H3.1.size H4.1.size),H4.2.1.mod nJ (by omega) (by omega)⟩
    have HMO:=ae hmo;clear hmo;cases D2 with
     |fault p=>have nj:R= .fault p:=HP.1 p rfl;subst nj;rintro e w5⟨rfl,nJ⟩;refine leaves_cons (f:=143) (args:=#[pT w.heap.size,pT (w.heap.size+1)]) (by simp) (by simp[go_sem]) ?_;exact yY (au _) (uU _) (HMO _ nJ).1 (HMO _ nJ).2 rfl rfl|ok y k=>
      rintro e w5⟨rfl,BA,nJ⟩;have H5:=ae (HMO _ nJ);have tI:=ae (HP.2 y k rfl);obtain⟨Ty,vy,fy,ry,hv,hmy,hcy,hpy⟩:=Et y;have HV:=ae hv;have HPY:=ae hpy;rw[hv];clear BA nJ HP HMO H4 H3 hv hpy;have hx5:=aq (i:=0) H5.2.x;have fx5:=aU (i:=0) H5.2.x;have he5:=lt_of_heap H5.2.x;have h6:=H5.2.one (.iface Ty vy);have oY:=H5.1.setCell (p:=(aD w.heap.size 0)) (au _) (.iface Ty vy);have H6:=ae (aA oY h6);clear h6 oY;go_upto_region 7 with fail;generalize w5.setCell (aD w.heap.size 0) (.iface Ty vy)=W6 at*;clear hx5 fx5 he5 H5;have hx6:=aq (i:=0) H6.2.x;go_wp2_with fail;refine(HPY _).mono ?_;rintro e w7⟨rfl,lC⟩;have H7:=ae (aA (H6.1.trans (lC.mono H6.1.size)) (H6.2.below lC));have hx7:=aq (i:=0) H7.2.x;have hxl:=lt_of_heap H7.2.x;have hel:=lt_of_heap H7.2.e;have ce7:=aq (i:=0) H7.2.e;have fx7:=aU (i:=0) H7.2.x;have fe7:=aU (i:=0) H7.2.e;clear lC hx6 H6;by_cases hp:y.places>128;·
       have nj:R= .big:=by rw[tI];exact if_pos hp
       subst nj;have hgt:decide ((y.places:Int)>128)=true:=decide_eq_true (by omega);have ah2:(128:Int)<(y.places:Int):=by omega
       go_wp2_with fail;refine leaves_cons (f:=143) (args:=#[pT w.heap.size,pT (w.heap.size+1)]) (by simp) (by simp[go_sem]) ?_;exact XL (au _) (uU _) H7.1 H7.2 rfl rfl
      ·have nj:R= .ok y:=by rw[tI];exact if_neg hp
       subst nj;have ah2:¬(128:Int)<(y.places:Int):=by omega
       go_wp2_with fail;have nK:=(H7.1.setCell (p:=(aD w.heap.size 0)) (au _) y.val).setCell (p:=(aD (w.heap.size+1) 0)) (uU _) .nilIface;have ht8:=H7.2.set y.val .nilIface;rw[HV]at nK ht8;refine leaves_cons (f:=143) (args:=#[pT w.heap.size,pT (w.heap.size+1)]) (by simp) (by simp[go_sem]) ?_;refine ZJ nK ?_ rfl rfl;rw[HV];exact ht8
   ·rw[decide_eq_false hj];have nj:R= .fault j:=HN x j rfl hj;subst nj;refine leaves_cons (f:=143) (args:=#[pT w.heap.size,pT (w.heap.size+1)]) (by simp) (by simp[go_sem]) ?_;exact yY (au _) (uU _) H3.1 H3.2 rfl rfl
theorem bG.IQ{s:bG}(h:s.ok):∀n,(s.Db n).ok|0=>h|n+1=>bG.zO (bG.IQ h n) _ (by have h1:=bG.jS (bG.IQ h n) n;exact acW (n:=64) (by decide) h1)
theorem Jr{s:ByteArray}{o o':bG}{i j:Nat}(h:o.ok)(hc:cB s o i= .ok o' j):o'.ok:=by
 unfold cB at hc;split at hc;·
  split at hc;·cases hc
  ·split at hc;·
    split at hc;·
     split at hc;·cases hc
     ·split at hc;·cases hc
      ·cases hc;exact bG.Bp h _ _
    ·cases hc
   ·cases hc;exact bG.Bp h _ _
 ·cases hc
theorem E5{s:ByteArray}:∀(f:Nat){first:Bool}{o o':bG}{i j:Nat},o.ok->fB s f first o i= .ok o' j->o'.ok
 |0,first,o,o',i,j,h,hc=>by cases hc|f+1,first,o,o',i,j,h,hc=>by
  unfold fB at hc;split at hc;·
   split at hc;·cases hc
   ·rename_i o1 j1 he;exact E5 f (Jr h he) hc
  ·cases hc;exact h
theorem Vf{s:ByteArray}{o:bG}{i j:Nat}(hc:nW s i= .ok o j):o.ok:=by
 unfold nW at hc;split at hc;·cases hc
 ·rename_i o1 j1 he;have h1:=E5 _ bG.dL he;cases hc;split;·exact bG.IQ h1 4
  ·exact h1
theorem bC.zR{a b:bC}(ha:a.ok)(hb:b.ok):(a.join b).ok:=by cases a<;>cases b<;>first|exact hb|exact ha|exact⟨ha,hb⟩
theorem bC.zQ{a b:bC}(ha:a.ok)(hb:b.ok):∀n,(a.gH b n).ok|0=>ha|n+1=>bC.zR (bC.zQ ha hb n) hb
def dU.q8(T:dU):Prop:=∀(a:bC)lo hi en,a.ok->(T a lo hi en).ok
theorem wB:bC.empty.ok:=trivial
theorem ZI:bC.iW.ok:=trivial
theorem FZ:dU.q8 bJ:=λa lo hi en h=>by
 unfold bJ;by_cases h1:a.places*(if en then lo+1 else hi)>128;·rw[if_pos h1];exact ZI
 ·rw[if_neg h1];cases en;·exact bC.zQ (bC.zQ wB h lo) (show(bC.maybe a).ok from h) _
  ·exact bC.zR (bC.zQ wB h lo) (show(bC.many a false).ok from h)
section
variable{T:dU}{A:Nat->PR bC}{s:ByteArray}
theorem Tv(hA:∀i x j,A i= .ok x j->x.ok){i j:Nat}{x:bC}(hc:eY A s i= .ok x j):x.ok:=by
 unfold eY at hc;split at hc;·cases hc
 ·split at hc;·
   split at hc;·cases hc
   ·rename_i y k he;split at hc;·cases hc;exact hA _ _ _ he
    ·cases hc
  ·split at hc;·cases hc;exact bG.Bp bG.dL _ _
   ·split at hc;·
     split at hc;·cases hc
     ·rename_i o k he;cases hc;exact Vf he
    ·split at hc;·cases hc
     ·split at hc;·cases hc
      ·cases hc;exact bG.Bp bG.dL _ _
theorem Nl(hT:T.q8){a x:bC}{i j:Nat}(ha:a.ok)(hc:gQ T s a i= .ok x j):x.ok:=by
 unfold gQ at hc;split at hc;·cases hc
 ·split at hc;·
   split at hc;·cases hc;exact hT _ _ _ _ ha
   ·split at hc;·cases hc
    ·split at hc;·cases hc;exact hT _ _ _ _ ha
     ·cases hc
  ·split at hc;·cases hc;exact hT _ _ _ _ ha
   ·cases hc
theorem Ml(hT:T.q8){a x:bC}{i j:Nat}(ha:a.ok)(hc:dY T s a i= .ok x j):x.ok:=by
 unfold dY at hc;split at hc;·cases hc;exact ha
 ·split at hc;·cases hc;exact ha
  ·split at hc;·cases hc;exact ha
   ·split at hc;·exact Nl hT ha hc
    ·cases hc;exact ha
theorem Vr(hT:T.q8)(hA:∀i x j,A i= .ok x j->x.ok){i j:Nat}{x:bC}(hc:gq T A s i= .ok x j):x.ok:=by
 unfold gq at hc;split at hc;·cases hc
 ·rename_i a k he;exact Ml hT (Tv hA he) hc
theorem Eg(hT:T.q8)(hA:∀i x j,A i= .ok x j->x.ok):∀(f:Nat){y x:bC}{i j:Nat},y.ok->fU T A s f y i= .ok x j->x.ok
 |0,y,x,i,j,h,hc=>by cases hc|f+1,y,x,i,j,h,hc=>by
  unfold fU at hc;split at hc;·
   split at hc;·cases hc
   ·rename_i z k he;exact Eg hT hA f (bC.zR h (Vr hT hA he)) hc
  ·cases hc;exact h
theorem P8(hT:T.q8)(hA:∀i x j,A i= .ok x j->x.ok):∀(f:Nat){y x:bC}{i j:Nat},y.ok->vC T A s f y i= .ok x j->x.ok
 |0,y,x,i,j,h,hc=>by cases hc|f+1,y,x,i,j,h,hc=>by
  unfold vC at hc;split at hc;·
   split at hc;·cases hc
   ·rename_i z k he;exact P8 hT hA f (show(bC.or y z).ok from⟨h,Eg hT hA _ wB he⟩) hc
  ·cases hc;exact h
theorem Mv(hT:T.q8):∀(n:Nat){x:bC}{i j:Nat},eP T s n i= .ok x j->x.ok
 |0,x,i,j,hc=>by cases hc|n+1,x,i,j,hc=>by
  have hA:∀i x j,eP T s n i= .ok x j->x.ok:=λi x j h=>Mv hT n h;unfold eP at hc;split at hc;·cases hc
  ·rename_i y k he;exact P8 hT hA _ (Eg hT hA _ wB he) hc
end
theorem N5{s:ByteArray}{x:bC}(h:gD s= .ok x):x.ok:=by obtain⟨_,_,h2,_⟩:=Eu h;exact Mv FZ _ h2
theorem IG{s:ByteArray}{x:bC}(h:gD s= .ok x):x.count<=128:=by obtain⟨_,_,_,h3⟩:=Eu h;rw[zM x h3];exact h3
theorem eN.mod{mb:Nat}{M:PM}{w w':ak}(hT:eN w)(hM:bQ w mb M)(hm:Mod (λj=>j=mb) w w'):eN w':=by refine hT.kept (hm.block _ hT.lt λe=>?_);obtain⟨⟨cs,h1⟩,_⟩:=hT;rw[e,hM.2]at h1;cases h1
theorem aH.under.fits{s:aH}{n:Nat}(h:s.under n)(hn:n<=128):s.fits:=λk hk=>by have:=h k hk;omega
theorem Part.kZ(p:Part):p.cells.toArray=#[uV p.first.a,uV p.first.b,uV p.first.c,uV p.last.a,uV p.last.b,uV p.last.c,.bool p.none]:=rfl
theorem RN(e:bC)(sm:Bool)(ih:gZ e):gZ (.many e sm):=by
 intro mb M w hM hT hn;have hmb:=lt_of_heap hM.2;have hok:=jR e M hM.1 hn;have hn':M.n+e.count<=128:=hn;have hnn:(PM.part e M).1.n<=128:=by rw[hok.n];exact hn
 obtain⟨a1,a2,a3,a4⟩:=JC (.agg #[e.val,.bool sm]);simp only[Asserts,C3,yu,zu,vN]at a1 a2 a3 a4;obtain⟨xt,xv,hx⟩:=e.pS;obtain⟨W,hW⟩:∃W,W=(w.alloc (.cells z7 312)).alloc (.cells #[.iface xt xv,.bool sm] 304):=⟨_,rfl⟩;have h0:W.heap[w.heap.size]?=some (.cells z7 312 (0,0)):=by rw[hW,aC _ _ _ (by simp)];exact heap_alloc_new w _
 have h1:W.heap[w.heap.size+1]?=some (.cells #[.iface xt xv,.bool sm] 304 (0,0)):=by rw[hW];have:=heap_alloc_new (w.alloc (.cells z7 312)) (.cells #[.iface xt xv,.bool sm] 304);rw[bM]at this;exact this
 have hb:aI w.heap.size w W:=by rw[hW];exact((aB _ w).alloc (au _) _).alloc (by simp) _
 have hsz:W.heap.size=w.heap.size+2:=by rw[hW];simp
 have hcall:=ih mb M W (hM.below hb) (hT.below hb) hn;rw[hx]at a1 a2 a3 a4 hcall;have hc1:W.cell? (aD (w.heap.size+1) 0)=some (.iface xt xv):=aq h1;obtain⟨p,hp⟩:∃p,p=(PM.part e M).2:=⟨_,rfl⟩;obtain⟨r,hr⟩:∃r,r=(p.none||!sm):=⟨_,rfl⟩;obtain⟨N,hN⟩:∃N,N=(PM.part e M).1:=⟨_,rfl⟩;have hval:(PM.part (.many e sm) M).2.val=Part.val ⟨p.first,p.last,r⟩:=by rw[hr,hp];rfl
 have LD:(PM.part (.many e sm) M).1=N.link p.last.elems p.first:=by rw[hN,hp];rfl
 rw[hval,LD];rw[<-hp,<-hN]at hcall hok;rw[<-hN]at hnn;have H:=ae (show _/\_/\_/\_/\_/\_/\_ from⟨hcall,h0,hb,hM.below hb,hT.below hb,hok,h1⟩);have HW:=ae hW;have HR:=ae hr;rw[show(bC.many e sm).val= .iface 304 (.agg #[e.val,.bool sm])from rfl,hx];unfold aP z7 at*;clear hM hT hn hn' hb hval LD hp hcall h0 h1 ih hx hW hok hr hN;go_enter pk,nI;go_wp2_with fail;rw[<-HW];go_wp2_with fail;refine H.1.mono ?_;rintro en w1⟨rfl,hm1,qO⟩;have hc0:=(qO.block (w.heap.size) (by omega) (by omega)).trans H.2.1;have hcx:=(qO.block (w.heap.size+1) (by omega) (by omega)).trans H.2.2.2.2.2.2;have hsz1:=qO.size;have hT1:=H.2.2.2.2.1.mod H.2.2.2.1 qO;have hbA:=(aB w1.heap.size w1).alloc (au _) (.cells p.cells.toArray 312);have Hb:=zW mb N p.last p.first (w1.alloc (.cells p.cells.toArray 312)) H.2.2.2.2.2.1.part.l (H.2.2.2.2.2.1.ul.fits hnn) H.2.2.2.2.2.1.part.f (hm1.below hbA) (hT1.below hbA);have HL:=ae (show _/\_/\_/\_/\_ from⟨Hb,qO,hm1,hc0,hcx⟩);clear Hb qO hm1 hc0 hcx hT1 hbA;rw[Part.yz p];go_wp2_with fail;have hl:=HL.1;rw[Part.kZ]at hl;unfold aP aH.val aH.cells at hl;refine hl.mono ?_;clear hl;rintro en w3⟨rfl,ur,uL⟩;have Z6:=uL.size;rw[bM]at Z6;have Ja:Mod (λj=>j=mb) w1 w3:=(Mod.alloc _ w1 _).trans uL;have g0:=(Ja.block (w.heap.size) (by omega) (by omega)).trans HL.2.2.2.1;have gx:=(Ja.block (w.heap.size+1) (by omega) (by omega)).trans HL.2.2.2.2;have g1:=(uL.block w1.heap.size (by simp) (by omega)).trans (heap_alloc_new w1 _);have CB:Mod (λj=>j=mb) w w3:=((fo H.2.2.1).trans HL.2.1).trans Ja;have hk:=dJ.of g1;obtain⟨e0,e1,e2,e3,e4,e5,e6,k0,k1,k2,k3,k4,k5,k6⟩:=hk.all;have hcs:w3.cell? (aD (w.heap.size+1) 1)=some (.bool sm):=aq gx;have s1:=heap_setCell_same w3 w1.heap.size 6 _ _ (.bool r) g1;simp only[bD,aj,ai]at s1;have s0:=(az w3 (aD w1.heap.size 6) (.bool r) w.heap.size (by show w.heap.size≠w1.heap.size;omega)).trans g0;have sm3:bQ (w3.setCell (aD w1.heap.size 6) (.bool r)) mb (N.link p.last.elems p.first):=⟨ur.1,(az w3 (aD w1.heap.size 6) (.bool r) mb (by show mb≠w1.heap.size;omega)).trans ur.2⟩;have smod:=CB.past (show w.heap.size<=w1.heap.size by omega) 6 (.bool r);obtain⟨W5,uM,hfin⟩:=oU ⟨p.first,p.last,r⟩ s0 sm3 smod (au _) hmb;have Sy:r=(p.none||!sm):=HR;have HF:=ae (show _/\_/\_/\_ from⟨hfin,s0,s1,uM⟩);obtain⟨d0,d1,d2,d3,d4,d5,d6,f0,f1,f2,f3,f4,f5,f6⟩:=(dJ.of s0).all;clear hfin s0 s1 uM sm3 smod CB Ja uL ur g0 gx g1 hk HL;generalize p.none=pn at*;cases pn<;>cases sm;all_goals simp only[agC,Bool.or_true,Bool.not_true,Bool.not_false,MN,asy]at Sy;subst Sy;go_wp2_with fail
 all_goals have e3:=HF.2.2.2;unfold sZ at e3;rw[<-e3];clear e3;refine bodyPost_ret (results_cell_row rfl _ _ w.heap.size _ _ (0,0) _ rfl HF.1.1 fw rfl (by kernel_rfl)) rfl ?_;exact⟨rfl,HF.1.2⟩
def PM.yH(M:PM)(c:Nat)(s:aH):PM:={M with at':=M.at'.set c s}
def PM.kH(M:PM)(s:bG)(c:Nat):PM:={M with at':=(M.at'.zipIdx).map λq=>if decide (q.2<c)&&s.has q.2 then q.1.on M.n else q.1}
theorem PM.NV(M:PM)(s:bG):M.kH s 0=M:=by
 unfold PM.kH;have h:(M.at'.zipIdx).map (λq=>if decide (q.2<0)&&s.has q.2 then q.1.on M.n else q.1)=M.at':=by simp[List.zipIdx_map_fst]
 rw[h]
theorem PM.s7(M:PM)(s:bG)(c:Nat)(j:Nat):(M.kH s c).at'[j]?=(M.at'[j]?).map λt=>if decide (j<c)&&s.has j then t.on M.n else t:=by unfold PM.kH;simp only[bp,Zf];cases M.at'[j]?<;>simp
theorem PM.Eo{M:PM}{s:bG}{c:Nat}{t:aH}(ht:(M.kH s c).at'[c]?=some t)(hc:s.has c=true):(M.kH s c).yH c (t.on M.n)=M.kH s (c+1):=by
 have e:((M.kH s c).yH c (t.on M.n)).at'=(M.kH s (c+1)).at':=by
  apply AP;intro j;show(((M.kH s c).at').set c (t.on M.n))[j]?=_;rw[List.getElem?_set,M.s7 s (c+1) j];by_cases hj:c=j;·subst hj;have hl:=(List.getElem?_eq_some_iff.1 ht).1;rw[if_pos rfl,if_pos hl];rw[M.s7]at ht;cases hm:M.at'[c]? with|none=>rw[hm]at ht;cases ht|some u=>rw[hm]at ht;simp at ht;subst ht;simp[hc]
  ·rw[if_neg hj,M.s7];have:(decide (j<c)&&s.has j)=(decide (j<c+1)&&s.has j):=by congr 1;rw[decide_eq_decide];omega
   rw[this]
 unfold PM.yH PM.kH at*;simp only at e;rw[e]
theorem PM.F5{M:PM}{s:bG}{c:Nat}(hc:s.has c=false):M.kH s c=M.kH s (c+1):=by
 have e:(M.kH s c).at'=(M.kH s (c+1)).at':=by
  apply AP;intro j;rw[M.s7,M.s7];have:(decide (j<c)&&s.has j)=(decide (j<c+1)&&s.has j):=by
   by_cases hj:j=c;·subst hj;simp[hc]
   ·congr 1;rw[decide_eq_decide];omega
  rw[this]
 unfold PM.kH at*;simp only at e;rw[e]
theorem PM.RH{M:PM}(h:M.ok)(s:bG):{M.kH s 256 with n:=M.n+1}=M.mi s:=by
 have e:(M.kH s 256).at'=(M.mi s).at':=by
  apply AP;intro j;rw[M.s7];unfold PM.mi;simp only[bp,Zf];by_cases hj:j<256;·cases M.at'[j]?<;>simp[hj]
  ·rw[List.getElem?_eq_none (by rw[h.la];omega)];simp
 unfold PM.kH PM.mi at*;simp only at e;rw[e]
theorem PM.RU{M:PM}(h:M.ok)(c:Nat){t:aH}(ht:t.ok):(M.yH c t).ok:=⟨by show(M.at'.set c t).length=256;rw[List.length_set];exact h.la,h.lf,λu hu=>by
 rcases List.mem_or_eq_of_mem_set hu with h1|h1;·exact h.oa u h1
 ·rw[h1];exact ht,h.of',h.ol⟩
theorem bQ.nC{w:ak}{mb:Nat}{M:PM}(h:bQ w mb M):w.cell? (aD mb 1158)=some (iV M.n):=by have h1:=dV M.at';have h2:=dV M.follow;have h3:=h.1.la;have h4:=h.1.lf;have h5:M.last.cells.length=3:=rfl;rw[h.cell,PM.cells,gA (by omega),gA (by omega),gA (by omega),show 1158-(setCells M.at').length-(setCells M.follow).length-M.last.cells.length=0 by omega];rfl
theorem bQ.ali{w:ak}{mb:Nat}{M:PM}(h:bQ w mb M)(n:Nat):bQ (w.setCell (aD mb 1158) (iV n)) mb {M with n:=n}:=by refine⟨⟨h.1.la,h.1.lf,h.1.oa,h.1.of',h.1.ol⟩,?_⟩;rw[heap_setCell_same w mb 1158 _ _ _ h.2];congr 2;have h1:=dV M.at';have h2:=dV M.follow;have h3:=h.1.la;have h4:=h.1.lf;have h5:M.last.cells.length=3:=rfl;simp only[bD];congr 1;unfold PM.cells;simp only;rw[cU _ _ (by omega),cU _ _ (by omega),cU _ _ (by omega),show 1158-(setCells M.at').length-(setCells M.follow).length-M.last.cells.length=0 by omega];rfl
theorem uI:∀ (l:List aH) (k:Nat) (s t:aH) (i:Nat),i < 3->l[k]?=some s->t=s.rA i (t.word i)->(setCells l).set (k * 3+i) (uV (t.word i))=setCells (l.set k t)
 | [],k,s,t,i,hi,h,he=>by simp at h
 | y :: l,0,s,t,i,hi,h,he=>by
  simp at h
  subst h
  rw [he]
  match i with
  | 0=>simp [setCells,aH.cells,aH.rA,aH.word]
  | 1=>simp [setCells,aH.cells,aH.rA,aH.word]
  | 2=>simp [setCells,aH.cells,aH.rA,aH.word]
  | n+3=>omega
 | y :: l,k+1,s,t,i,hi,h,he=>by
  have ih:=uI l k s t i hi (by simpa using h) he
  have e:∀ l:List aH,setCells (y :: l)=uV y.a :: uV y.b :: uV y.c :: setCells l:=fun l=>by simp [setCells,aH.cells]
  rw [ai,e,e,<- ih,show (k+1) * 3+i=k * 3+i+1+1+1 by omega]
  simp only [ai]
theorem PM.Ip{M:PM}(h:M.ok){c i:Nat}{s:aH}(hc:M.at'[c]?=some s)(hi:i<3)(v:Nat):M.cells.toArray.setIfInBounds (c*3+i) (uV v)=(M.yH c (s.rA i v)).cells.toArray:=by
 simp only[bD];congr 1;have hl:=(List.getElem?_eq_some_iff.1 hc).1;have h1:=dV M.at';have hw:(s.rA i v).word i=v:=by rw[aH.sX _ _ _ _ hi hi,if_pos rfl]
 have h2:=uI M.at' c s (s.rA i v) i hi hc (by rw[hw]);rw[hw]at h2;unfold PM.cells PM.yH;simp only;rw[uW _ _ (by omega),h2]
theorem Oo(mb c k:Nat)(M:PM)(s:aH)(w:ak)(hM:bQ w mb M)(hc:M.at'[c]?=some s)(hk:k<192):aX ah 152 #[.pointer (some (aD mb (c*3))),iV k] w λe w'=>e= .returned (.tuple #[])/\bQ w' mb (M.yH c (s.on k))/\Mod (λj=>j=mb) w w':=by have hs:s.ok:=hM.1.oa s (List.mem_of_getElem? hc);refine(Bh mb (c*3) k s w hs hk (hM.atC hc)).mono ?_;rintro e w'⟨rfl,hS⟩;refine⟨rfl,⟨PM.RU hM.1 c (aH.xP hs k),?_⟩,Mod.trans (Mod.setCell (S:=λj=>j=mb) w (aD mb _) _ λ_=>rfl) (Mod.same hS)⟩;rw[hS.heap,heap_setCell_same w mb (c*3+k/64) _ _ _ hM.2,PM.Ip hM.1 hc (by omega)];rfl
theorem Vx(s:bG)(hs:s.ok):gZ (.one s):=by
 intro mb M w hM hT hn;have hmb:=lt_of_heap hM.2;have hn':M.n+1<=128:=hn;have a1:=Ms (.agg s.cells.toArray);simp only[Asserts]at a1;obtain⟨W,hW⟩:∃W,W=((w.alloc (.cells z7 312)).alloc (.cells s.cells.toArray 300)).alloc (.cells #[uV 0,uV 0,uV 0] 306):=⟨_,rfl⟩;have h0:W.heap[w.heap.size]?=some (.cells z7 312 (0,0)):=by rw[hW,aC _ _ _ (by simp;omega),aC _ _ _ (by simp)];exact heap_alloc_new w _
 have h1:W.heap[w.heap.size+1]?=some (.cells s.cells.toArray 300 (0,0)):=by rw[hW,aC _ _ _ (by simp)];have:=heap_alloc_new (w.alloc (.cells z7 312)) (.cells s.cells.toArray 300);rw[bM]at this;exact this
 have h2:W.heap[w.heap.size+1+1]?=some (.cells aH.zero.cells.toArray 306 (0,0)):=by rw[hW];have:=heap_alloc_new ((w.alloc (.cells z7 312)).alloc (.cells s.cells.toArray 300)) (.cells #[uV 0,uV 0,uV 0] 306);rw[bM,bM]at this;exact this
 have hb:aI w.heap.size w W:=by rw[hW];exact(((aB _ w).alloc (au _) _).alloc (by simp) _).alloc (by simp;omega) _
 have hsz:W.heap.size=w.heap.size+3:=by rw[hW];simp
 have hMW:=hM.below hb;have hnc:=hMW.nC;have al6:=hnc;rw[hW]at al6;have hcall:=Cq (w.heap.size+1+1) M.n aH.zero 306 W aH.dL (by omega) h2;have H:=ae (show _/\_/\_/\_/\_/\_ from⟨hcall,h0,h1,hb,hMW,hs⟩);have HW:=ae hW;rw[show(bC.one s).val= .iface 300 (.agg s.cells.toArray)from rfl];unfold aP z7 bG.cells at*;go_enter pk,nI;go_wp2_with fail;rw[<-HW];refine H.1.mono ?_;rintro en w1⟨rfl,g2,go,gb⟩;have am1:=H.2.2.2.1.trans (gb _ (by omega));have g0:=(go w.heap.size (by omega)).trans H.2.1;have g1:=(go (w.heap.size+1) (by omega)).trans H.2.2.1;have tN:bQ w1 mb M:=⟨H.2.2.2.2.1.1,(go mb (by omega)).trans H.2.2.2.2.1.2⟩;have hm1:Mod (λj=>j=mb) w w1:=fo am1;have HI:=ae (show _/\_/\_/\_/\_ from⟨g0,g1,g2,tN,hm1⟩);go_wp2_with fail;go_loopw[28](λi wr=>∃c:Nat,c<=256/\i= .int .i64 c/\Hid (wr.heap[w.heap.size]?=some (.cells z7 312 (0,0))/\wr.heap[w.heap.size+1]?=some (.cells s.cells.toArray 300 (0,0))/\wr.heap[w.heap.size+1+1]?=some (.cells (aH.zero.on M.n).cells.toArray 306 (0,0))/\bQ wr mb (M.kH s c)/\Mod (λj=>j=mb) w wr))(λi _=>256-(intOf i).toNat);case atStart=>exact⟨0,by omega,rfl,HI.1,HI.2.1,HI.2.2.1,by rw[PM.NV];exact HI.2.2.2.1,HI.2.2.2.2⟩
 case round=>
  obtain⟨c,hc,rfl,HI⟩:=hrel;by_cases hlt:c<256;·
   obtain⟨i0,i1,i2,i3,i4⟩:=HI.out;have l1:=aq (i:=0) i1;have l2:=aq (i:=1) i1;have l3:=aq (i:=2) i1;have l4:=aq (i:=3) i1;have hcall:=NG s c wr H.2.2.2.2.2 hlt;unfold bG.cells at l1 l2 l3 l4 hcall;simp only[List.getElem?_toArray,List.getElem?_cons_zero,List.getElem?_cons_succ]at l1 l2 l3 l4;have hlz:(c:Int)<256:=by omega
   have hwr:IntKind.u8.wrap (c:Int)=(c:Int):=A0 _ (by omega);obtain⟨tc,Z5⟩:∃tc,(M.kH s c).at'[c]?=some tc:=⟨_,ar (by rw[i3.1.la];exact hlt)⟩;obtain⟨hh,hhe⟩:∃hh,hh=s.has c:=⟨_,rfl⟩;rw[<-hhe]at hcall;have HC:=ae (show _/\_/\_ from⟨hcall,Z5,hhe⟩);clear i0 i1 i2 i3 i4 hcall Z5 hhe;go_wp2_with fail;refine HC.1.mono ?_;rintro en w2⟨rfl,hb2⟩;have hN:∀W,aI wr.heap.size wr W->(W.heap[w.heap.size]?=some (.cells z7 312 (0,0))/\W.heap[w.heap.size+1]?=some (.cells s.cells.toArray 300 (0,0))/\W.heap[w.heap.size+1+1]?=some (.cells (aH.zero.on M.n).cells.toArray 306 (0,0))/\bQ W mb (M.kH s c)/\Mod (λj=>j=mb) w W):=λW hb=>⟨(hb.block _ (lt_of_heap HI.1)).trans HI.1,(hb.block _ (lt_of_heap HI.2.1)).trans HI.2.1,(hb.block _ (lt_of_heap HI.2.2.1)).trans HI.2.2.1,HI.2.2.2.1.below hb,HI.2.2.2.2.trans (fo hb)⟩;have HN:=ae (hN w2 hb2);have atE:=hb2.size;clear hN hb2;cases hh;·
    go_wp2_with fail;go_roundw;case rel=>refine⟨c+1,by omega,by go_num,HN.1,HN.2.1,HN.2.2.1,?_,HN.2.2.2.2⟩;rw[<-PM.F5 HC.2.2.symm];exact HN.2.2.2.1
    case measure=>simp[intOf];omega
   ·have hnc:=HN.2.2.2.1.nC;go_wp2_with fail;refine jz [(0,false),(1,false),(2,false),(3,false),(4,false),(5,false),(6,false),(7,false),(8,false),(9,true)] 9 (λW'=>W'.cell? (aD mb 1158)=some (iV M.n)) (by kernel_rfl) (by kernel_rfl) hnc ?_;iterate 9(
 refine aR ?_ rfl rfl (λw' hS=>?_) ?_;rotate_left;·go_simp;try rfl
 simp only[aN,ai,aj])
    refine cO rfl rfl (λK hK=>?_);go_simp;refine(Oo mb c M.n (M.kH s c) _ w2.drew (HN.2.2.2.1.below (Same.drew w2|>.below _)) HC.2.1 (by omega)).mono ?_;rintro en w4⟨rfl,hm4,G9⟩;refine hK _ _ ?_;clear hK K;go_wp2_with fail;have hmm:=(Mod.same (Same.drew w2)).trans G9;have e0:=(hmm.block _ (lt_of_heap HN.1) (by omega)).trans HN.1;have e1:=(hmm.block _ (lt_of_heap HN.2.1) (by omega)).trans HN.2.1;have e2:=(hmm.block _ (lt_of_heap HN.2.2.1) (by omega)).trans HN.2.2.1;have e3:bQ w4 mb (M.kH s (c+1)):=by rw[<-PM.Eo HC.2.1 HC.2.2.symm];exact hm4
    have e4:=HN.2.2.2.2.trans hmm;have HE:=ae (show _/\_/\_/\_/\_ from⟨e0,e1,e2,e3,e4⟩);clear hmm e0 e1 e2 e3 e4 hm4 G9 hnc;go_wp2_with fail;go_roundw;case rel=>exact⟨c+1,by omega,by go_num,HE⟩
    case measure=>simp[intOf];omega
  ·obtain rfl:c=256:=by omega
   clear hlt;obtain⟨i0,i1,i2,i3,i4⟩:=HI.out;have hnc:wr.cell? (aD mb 1158)=some (iV M.n):=i3.nC;have hnf:wr.frozen? (aD mb 1158)=false:=i3.free _;obtain⟨v,hv⟩:∃v:aH,v=aH.zero.on M.n:=⟨_,rfl⟩;rw[<-hv]at i2;have hM5:=i3.ali (M.n+1);have hpa:PM.part (.one s) M=(M.mi s,⟨v,v,false⟩):=by rw[hv];rfl
   have hnz:((M.n:Int)+1)=((M.n+1:Nat):Int):=by omega
   have hb0:w.heap.size≠mb:=by omega
   obtain⟨W4,tM⟩:∃W4,W4=wr.setCell (aD mb 1158) (iV ((M.n:Int)+1)):=⟨_,rfl⟩;have k0:W4.heap[w.heap.size]?=some (.cells z7 312 (0,0)):=by rw[tM];exact(az wr (aD mb 1158) _ _ (by show w.heap.size≠mb;omega)).trans i0
   have k2:W4.heap[w.heap.size+1+1]?=some (.cells v.cells.toArray 306 (0,0)):=by rw[tM];exact(az wr (aD mb 1158) _ _ (by show w.heap.size+1+1≠mb;omega)).trans i2
   have kM:bQ W4 mb (M.mi s):=by rw[tM,hnz,<-PM.RH H.2.2.2.2.1.1];exact hM5
   have km:Mod (λj=>j=mb) w W4:=by rw[tM];exact Mod.trans i4 (Mod.setCell (S:=λj=>j=mb) wr (aD mb _) _ λ_=>rfl)
   obtain⟨W5,uM,hfin⟩:=oU ⟨v,v,false⟩ k0 kM km (au _) hmb;obtain⟨d0,d1,d2,d3,d4,d5,d6,f0,f1,f2,f3,f4,f5,f6⟩:=(dJ.of k0).all;have q0:W4.cell? (aD (w.heap.size+1+1) 0)=some (uV v.a):=aq k2;have q1:W4.cell? (aD (w.heap.size+1+1) 1)=some (uV v.b):=aq k2;have q2:W4.cell? (aD (w.heap.size+1+1) 2)=some (uV v.c):=aq k2;have HF:=ae (show _/\_ from⟨hfin,uM⟩);have HW4:=ae tM;have HPA:=ae hpa;rw[tM]at d0 d1 d2 d3 d4 d5 d6 f0 f1 f2 f3 f4 f5 f6 q0 q1 q2;have hlt:(M.n:Int)+1<=128:=by omega
   have hge:(0:Int)<=(M.n:Int):=by omega
   clear hnz hb0 i0 i1 i2 i3 i4 hv hM5 hpa tM k0 k2 kM km hfin uM H HI HW;go_wp2_with fail;have e3:=HF.2;unfold sZ at e3;rw[HW4]at e3;rw[<-e3];clear e3;refine bodyPost_ret (results_cell_row rfl _ _ w.heap.size _ _ (0,0) _ rfl HF.1.1 fw rfl (by kernel_rfl)) rfl ?_;rw[HPA];exact⟨rfl,HF.1.2⟩
structure Ay (mb:Nat) (w0:ak) (M M1 M2:PM) (p q:Part) (l:Array Bool) (v1 v2 v3 v4:ay) (g3 g4:Nat) (w:ak):Prop where
 mod:Mod (fun j=>j=mb) w0 w
 jZ:bQ w mb (if l.getD 7 false then M2 else if l.getD 3 false then M1 else M)
 ord:l.getD 7 false=true->l.getD 3 false=true
 r1:l.getD 3 false=true->v1=p.val
 r2:l.getD 7 false=true->v2=q.val
 b3:l.getD 8 false=true->v3=aP g3/\w0.heap.size<=g3/\w.heap[g3]?=some (.cells z7 312 (0,0))
 b4:l.getD 9 false=true->v4=aP g4/\w0.heap.size<=g4/\w.heap[g4]?=some (.cells z7 312 (0,0))
 ne:l.getD 8 false=true->l.getD 9 false=true->g3≠g4
section
variable{ops:Array Oper}{mb:Nat}{w0 w w':ak}{M M1 M2:PM}{p q:Part}{l:Array Bool}{v1 v2 v3 v4:ay}{g3 g4:Nat}
theorem Ay.first(h:Ay mb w0 M M1 M2 p q l v1 v2 v3 v4 g3 g4 w)(hmb:mb<w0.heap.size)(hr:3∈bZ .any ops l)(hM:bQ w' mb M1)(hm:Mod (λj=>j=mb) w w'):Ay mb w0 M M1 M2 p q (l.setIfInBounds 3 true) p.val v2 v3 v4 g3 g4 w':=by
 have hs:=jc hr;have hun:=dK hr;have h7:l.getD 7 false=false:=by cases h7:l.getD 7 false with|false=>rfl|true=>rw[h.ord h7]at hun;cases hun
 have keep:∀g,w0.heap.size<=g->w.heap[g]?=some (.cells z7 312 (0,0))->w'.heap[g]?=some (.cells z7 312 (0,0)):=λg hg hw=>(hm.block g (lt_of_heap hw) (by omega)).trans hw;refine⟨h.mod.trans hm,?_,λ_=>by rw[hs,if_pos rfl],λ_=>rfl,?_,?_,?_,?_⟩;·rw[hs 7,hs 3,if_neg (show¬(7=3)by decide),h7,if_pos (show 3=3 from rfl)];exact hM
 ·rw[hs,if_neg (by decide)];exact h.r2
 ·rw[hs,if_neg (by decide)];exactλe=>⟨(h.b3 e).1,(h.b3 e).2.1,keep _ (h.b3 e).2.1 (h.b3 e).2.2⟩
 ·rw[hs,if_neg (by decide)];exactλe=>⟨(h.b4 e).1,(h.b4 e).2.1,keep _ (h.b4 e).2.1 (h.b4 e).2.2⟩
 ·rw[hs,hs,if_neg (by decide),if_neg (by decide)];exact h.ne
theorem Ay.second(h:Ay mb w0 M M1 M2 p q l v1 v2 v3 v4 g3 g4 w)(hmb:mb<w0.heap.size)(hr:7∈bZ .any ops l)(h3:l.getD 3 false=true)(hM:bQ w' mb M2)(hm:Mod (λj=>j=mb) w w'):Ay mb w0 M M1 M2 p q (l.setIfInBounds 7 true) v1 q.val v3 v4 g3 g4 w':=by
 have hs:=jc hr;have keep:∀g,w0.heap.size<=g->w.heap[g]?=some (.cells z7 312 (0,0))->w'.heap[g]?=some (.cells z7 312 (0,0)):=λg hg hw=>(hm.block g (lt_of_heap hw) (by omega)).trans hw;refine⟨h.mod.trans hm,?_,λ_=>by rw[hs,if_neg (by decide)];exact h3,?_,λ_=>rfl,?_,?_,?_⟩;·rw[hs 7,if_pos (show 7=7 from rfl)];exact hM
 ·rw[hs,if_neg (by decide)];exact h.r1
 ·rw[hs,if_neg (by decide)];exactλe=>⟨(h.b3 e).1,(h.b3 e).2.1,keep _ (h.b3 e).2.1 (h.b3 e).2.2⟩
 ·rw[hs,if_neg (by decide)];exactλe=>⟨(h.b4 e).1,(h.b4 e).2.1,keep _ (h.b4 e).2.1 (h.b4 e).2.2⟩
 ·rw[hs,hs,if_neg (by decide),if_neg (by decide)];exact h.ne
theorem Ay.abz(h:Ay mb w0 M M1 M2 p q l v1 v2 v3 v4 g3 g4 w)(hr:8∈bZ .any ops l):Ay mb w0 M M1 M2 p q (l.setIfInBounds 8 true) v1 v2 (aP w.heap.size) v4 w.heap.size g4 (w.alloc (.cells z7 312)):=by
 have hs:=jc hr;refine⟨h.mod.trans (Mod.alloc _ _ _),?_,?_,?_,?_,λ_=>⟨rfl,h.mod.size,heap_alloc_new w _⟩,?_,?_⟩;·rw[hs 7,hs 3,if_neg (show¬(7=8)by decide),if_neg (show¬(3=8)by decide)];exact h.jZ.below ((aB _ w).alloc (au _) _)
 ·rw[hs,hs,if_neg (by decide),if_neg (by decide)];exact h.ord
 ·rw[hs,if_neg (by decide)];exact h.r1
 ·rw[hs,if_neg (by decide)];exact h.r2
 ·rw[hs,if_neg (by decide)];exactλe=>⟨(h.b4 e).1,(h.b4 e).2.1,(aC w _ _ (lt_of_heap (h.b4 e).2.2)).trans (h.b4 e).2.2⟩
 ·rw[hs,hs,if_pos rfl,if_neg (by decide)];exactλ_ e=>by have:=lt_of_heap (h.b4 e).2.2;omega
theorem Ay.aby(h:Ay mb w0 M M1 M2 p q l v1 v2 v3 v4 g3 g4 w)(hr:9∈bZ .any ops l):Ay mb w0 M M1 M2 p q (l.setIfInBounds 9 true) v1 v2 v3 (aP w.heap.size) g3 w.heap.size (w.alloc (.cells z7 312)):=by
 have hs:=jc hr;refine⟨h.mod.trans (Mod.alloc _ _ _),?_,?_,?_,?_,?_,λ_=>⟨rfl,h.mod.size,heap_alloc_new w _⟩,?_⟩;·rw[hs 7,hs 3,if_neg (show¬(7=9)by decide),if_neg (show¬(3=9)by decide)];exact h.jZ.below ((aB _ w).alloc (au _) _)
 ·rw[hs,hs,if_neg (by decide),if_neg (by decide)];exact h.ord
 ·rw[hs,if_neg (by decide)];exact h.r1
 ·rw[hs,if_neg (by decide)];exact h.r2
 ·rw[hs,if_neg (by decide)];exactλe=>⟨(h.b3 e).1,(h.b3 e).2.1,(aC w _ _ (lt_of_heap (h.b3 e).2.2)).trans (h.b3 e).2.2⟩
 ·rw[hs,hs,if_neg (by decide),if_pos rfl];exactλe _=>by have:=lt_of_heap (h.b3 e).2.2;omega
end
theorem ZG(e f:bC)(ih1:gZ e)(ih2:gZ f):gZ (.or e f):=by
 intro mb M w hM hT hn;have hmb:=lt_of_heap hM.2;have hn':M.n+(e.count+f.count)<=128:=hn;have Ad:=jR e M hM.1 (by omega);have I8:=jR f (PM.part e M).1 Ad.jZ (by rw[Ad.n];omega);obtain⟨a1,a2⟩:=Ps (.agg #[e.val,f.val]);simp only[Asserts,C3,yu,zu,vN]at a1 a2;obtain⟨xt,xv,hx⟩:=e.pS;obtain⟨yt,yv,hy⟩:=f.pS;obtain⟨W,hW⟩:∃W,W=(w.alloc (.cells z7 312)).alloc (.cells #[.iface xt xv,.iface yt yv] 387):=⟨_,rfl⟩;have h0:W.heap[w.heap.size]?=some (.cells z7 312 (0,0)):=by rw[hW,aC _ _ _ (by simp)];exact heap_alloc_new w _
 have h1:W.heap[w.heap.size+1]?=some (.cells #[.iface xt xv,.iface yt yv] 387 (0,0)):=by rw[hW];have:=heap_alloc_new (w.alloc (.cells z7 312)) (.cells #[.iface xt xv,.iface yt yv] 387);rw[bM]at this;exact this
 have hb:aI w.heap.size w W:=by rw[hW];exact((aB _ w).alloc (au _) _).alloc (by simp) _
 have hsz:W.heap.size=w.heap.size+2:=by rw[hW];simp
 have hc1:W.cell? (aD (w.heap.size+1) 0)=some (.iface xt xv):=aq h1;have hc2:W.cell? (aD (w.heap.size+1) 1)=some (.iface yt yv):=aq h1;obtain⟨N1,hN1⟩:∃N1,N1=(PM.part e M).1:=⟨_,rfl⟩;obtain⟨N2,OV⟩:∃N2,N2=(PM.part f N1).1:=⟨_,rfl⟩;obtain⟨p,hp⟩:∃p,p=(PM.part e M).2:=⟨_,rfl⟩;obtain⟨q,hq⟩:∃q,q=(PM.part f N1).2:=⟨_,rfl⟩;have hval:PM.part (.or e f) M=(N2,p.or q):=by rw[OV,hq,hp,hN1];rfl
 have qQ:∀W,bQ W mb M->eN W->aX ah 151 #[aP mb,e.val] W λen w'=>en= .returned p.val/\bQ w' mb N1/\Mod (λj=>j=mb) W w':=λW h1 h2=>by rw[hp,hN1];exact ih1 mb M W h1 h2 (by omega)
 have kV:∀W,bQ W mb N1->eN W->aX ah 151 #[aP mb,f.val] W λen w'=>en= .returned q.val/\bQ w' mb N2/\Mod (λj=>j=mb) W w':=λW h1 h2=>by rw[hq,OV];exact ih2 mb N1 W h1 h2 (by rw[hN1,Ad.n];omega)
 rw[hx]at qQ;rw[hy]at kV;rw[hx,hy]at a1 a2;rw[<-hp,<-hN1]at Ad;rw[<-hN1,<-hq,<-OV]at I8;have H:=ae (show _/\_/\_/\_/\_/\_/\_ from⟨qQ,kV,h0,hb,hM.below hb,hT.below hb,h1⟩);have HO:=ae (show _/\_ from⟨Ad,I8⟩);have HV:=ae hval;have HW:=ae hW;have HMT:=ae (show _/\_ from⟨hM,hT⟩);rw[show(bC.or e f).val= .iface 387 (.agg #[e.val,f.val])from rfl,hx,hy];unfold aP z7 at*;clear hM hT hn hn' hb hval hp hq qQ kV h0 h1 ih1 ih2 hx hy hW Ad I8 hN1 OV;go_enter pk,nI;go_wp2_with fail;rw[<-HW];refine kS [0,1,2,4,5,6] [3,7,8,9] 4 [(10,true),(11,true)] #[true,true,true,false,true,true,true,false,false,false,false,false] #[true,true,true,true,true,true,true,true,true,true,false,false] 11 (λW'=>W'.cell? (aD (w.heap.size+1) 0)=some (.iface xt xv)/\W'.cell? (aD (w.heap.size+1) 1)=some (.iface yt yv)) (by kernel_rfl) (by kernel_rfl) ⟨hc1,hc2⟩ ?_;simp only[dM,mg];iterate 6(
 refine aR ?_ rfl rfl (λw' hS=>?_) ?_;rotate_left;·obtain⟨q0,q1⟩:=hS;go_simp;try rfl
 simp only[aN,ai,aj])
 refine cV ?_;rintro-;refine ag2 62 66 9 10 (λl v1 v2 v3 v4 w'=>∃g3 g4,Ay mb W.drew M N1 N2 p q l v1 v2 v3 v4 g3 g4 w') (by unfold vZ;simp only[aN,ai,aj]) ?_ ?_ ?_ ?_;·have:=H.2.2.2.2.1.below (Same.drew W|>.below _);exact⟨0,0,⟨Mod.refl _ _,this,λh=>absurd h (by decide),λh=>absurd h (by decide),λh=>absurd h (by decide),λh=>absurd h (by decide),λh=>absurd h (by decide),λh=>absurd h (by decide)⟩⟩
 ·rintro l v1 v2 v3 v4 w' i⟨g3,g4,xC⟩hi hr;have hS:∀W',Mod (λj=>j=mb) W.drew W'->W'.cell? (aD (w.heap.size+1) 0)=some (.iface xt xv)/\W'.cell? (aD (w.heap.size+1) 1)=some (.iface yt yv):=λW' hm=>by have hxb:=(hm.block (w.heap.size+1) (by show _<W.heap.size;omega) (by omega)).trans H.2.2.2.2.2.2;exact⟨aq hxb,aq hxb⟩
  have HS:=ae hS;have aeA:eN w':=by have h1:=H.2.2.2.2.2.1.below (Same.drew W|>.below _);exact h1.mod (H.2.2.2.2.1.below (Same.drew W|>.below _)) xC.mod
  have ad0:mb<W.drew.heap.size:=by show mb<W.heap.size;omega
  have HT:=ae (show _/\_/\_/\_ from⟨xC,hr,aeA,ad0⟩);simp only[ql,tT,or_false]at hi;unfold vZ;simp only[aN,ai,aj];rcases hi with rfl|rfl|rfl|rfl;·
   refine eO rfl rfl (λK hK=>?_);have hun:=dK HT.2.1;have tN:bQ w' mb M:=by
    have h7:l.getD 7 false=false:=by cases h7:l.getD 7 false with|false=>rfl|true=>rw[HT.1.ord h7]at hun;cases hun
    have:=HT.1.jZ;rw[h7,hun]at this;exact this
   have hcall:=H.1 w' tN HT.2.2.1;go_simp;refine hcall.mono ?_;rintro en w''⟨rfl,hm2,kU⟩;have qR:=HT.1.first HT.2.2.2 HT.2.1 hm2 kU;exact hK _ _ ⟨λ_=>HS _ qR.mod,_,_,_,_,rfl,_,_,qR⟩
  ·refine eO rfl rfl (λK hK=>?_);have h3:=iF (x:=7) (i:=3) (by kernel_rfl) HT.2.1;have hun:=dK HT.2.1;have tN:bQ w' mb N1:=by have:=HT.1.jZ;rw[h3,hun]at this;exact this
   have hcall:=H.2.1 w' tN HT.2.2.1;have H3:=ae h3;go_simp;refine hcall.mono ?_;rintro en w''⟨rfl,hm2,kU⟩;have qR:=HT.1.second HT.2.2.2 HT.2.1 H3 hm2 kU;exact hK _ _ ⟨λ_=>HS _ qR.mod,_,_,_,_,rfl,_,_,qR⟩
  ·refine eO rfl rfl (λK hK=>?_);go_simp;have qR:=HT.1.abz HT.2.1;exact hK _ _ ⟨λ_=>HS _ qR.mod,_,_,_,_,rfl,_,_,qR⟩
  ·refine eO rfl rfl (λK hK=>?_);go_simp;have qR:=HT.1.aby HT.2.1;exact hK _ _ ⟨λ_=>HS _ qR.mod,_,_,_,_,rfl,_,_,qR⟩
 ·rintro v1 v2 v3 v4 w'⟨g3,g4,xC⟩;have hxb:=(xC.mod.block (w.heap.size+1) (by show _<W.heap.size;omega) (by omega)).trans H.2.2.2.2.2.2;have hx0:w'.cell? (aD (w.heap.size+1) 0)=some (.iface xt xv):=aq hxb;have hx1:w'.cell? (aD (w.heap.size+1) 1)=some (.iface yt yv):=aq hxb;exact⟨hx0,hx1⟩
 ·rintro v1 v2 v3 v4 w'⟨g3,g4,xC⟩G HG;obtain rfl:=xC.r1 (by decide);obtain rfl:=xC.r2 (by decide);obtain⟨rfl,hg3,hb3⟩:=xC.b3 (by decide);obtain⟨rfl,hg4,hb4⟩:=xC.b4 (by decide);have hne:=xC.ne (by decide) (by decide);have hMz:=xC.jZ;rw[if_pos (by decide)]at hMz;have hmod:=xC.mod;have amE:W.heap.size<=g3:=hg3;have amD:W.heap.size<=g4:=hg4;have hxb:=(hmod.block (w.heap.size+1) (by show _<W.heap.size;omega) (by omega)).trans H.2.2.2.2.2.2;have rN:=(hmod.block (w.heap.size) (by show _<W.heap.size;omega) (by omega)).trans H.2.2.1;have CB:=((fo H.2.2.2.1).trans (Mod.same (Same.drew W))).trans hmod;obtain⟨W3,hW3⟩:∃W3,W3=sZ w' g3 (uV p.first.a) (uV p.first.b) (uV p.first.c) (uV p.last.a) (uV p.last.b) (uV p.last.c) (.bool p.none):=⟨_,rfl⟩;have k3:W3.heap[g3]?=some (.cells p.cells.toArray 312 (0,0)):=by rw[hW3];exact qA _ _ _ _ _ _ _ hb3
  have o3:∀j,j≠g3->W3.heap[j]?=w'.heap[j]?:=λj hj=>by rw[hW3];exact qz _ _ _ _ _ _ _ _ _ hj
  have m3:Mod (λj=>j=mb) w W3:=by rw[hW3];exact vW _ _ _ _ _ _ _ _ _ CB (by omega)
  have OS:=(o3 g4 (dB hne)).trans hb4;obtain⟨W4,tM⟩:∃W4,W4=sZ W3 g4 (uV q.first.a) (uV q.first.b) (uV q.first.c) (uV q.last.a) (uV q.last.b) (uV q.last.c) (.bool q.none):=⟨_,rfl⟩;have k4:W4.heap[g4]?=some (.cells q.cells.toArray 312 (0,0)):=by rw[tM];exact qA _ _ _ _ _ _ _ OS
  have o4:∀j,j≠g4->W4.heap[j]?=W3.heap[j]?:=λj hj=>by rw[tM];exact qz _ _ _ _ _ _ _ _ _ hj
  have m4:Mod (λj=>j=mb) w W4:=by rw[tM];exact vW _ _ _ _ _ _ _ _ _ m3 (by omega)
  have k43:=(o4 g3 hne).trans k3;have k40:=((o4 w.heap.size (by omega)).trans (o3 w.heap.size (by omega))).trans rN;have k4M:bQ W4 mb N2:=⟨hMz.1,((o4 mb (by omega)).trans (o3 mb (by omega))).trans hMz.2⟩;have Wu:=(o3 (w.heap.size+1) (by omega)).trans hxb;have HA:=ae (show _/\_/\_/\_/\_/\_ from⟨k4,k43,k40,k4M,m4,Wu⟩);have HB:=ae (show _/\_ from⟨hb3,OS⟩);have CU:=ae (show _/\_ from⟨hW3,tM⟩);clear xC hMz hmod hxb rN CB k3 o3 m3 hb4 OS k4 o4 m4 k43 k40 k4M Wu hc1 hc2 hb3 hW3 tM;obtain⟨d0,d1,d2,d3,d4,d5,d6,f0,f1,f2,f3,f4,f5,f6⟩:=(dJ.of HB.1).all;obtain⟨i0,i1,i2,i3,i4,i5,i6,j0,j1,j2,j3,j4,j5,j6⟩:=(dJ.of HB.2).all;have hx0:W3.cell? (aD (w.heap.size+1) 0)=some (.iface xt xv):=aq HA.2.2.2.2.2;have hx1:W3.cell? (aD (w.heap.size+1) 1)=some (.iface yt yv):=aq HA.2.2.2.2.2;have HX:=ae (aA hx0 hx1);have HY:=ae (aA (dJ.of HA.2.1) (dJ.of HA.1));clear hx0 hx1;have s3:=CU.1;have s4:=CU.2;unfold sZ at s3 s4;have HS:=ae (aA s3 s4);clear s3 s4;refine HG ?_;unfold vZ;simp only[aN,ai,aj];rw[Part.yz p,Part.yz q];unfold aP;refine bg rfl rfl (by decide) (λK hK=>?_);have HK:=ae hK;clear hK;go_simp;rw[<-HS.1];refine HK _ _ HX ?_;clear HK K;refine cO rfl rfl (λK hK=>?_);have HK:=ae hK;clear hK;go_simp;rw[<-HS.2];refine HK _ _ ?_;clear HK K d0 d1 d2 d3 d4 d5 d6 f0 f1 f2 f3 f4 f5 f6 i0 i1 i2 i3 i4 i5 i6 j0 j1 j2 j3 j4 j5 j6;go_wp2_with fail;have Hd:∀W',aI W4.heap.size W4 W'->dJ W' g3 (uV p.first.a) (uV p.first.b) (uV p.first.c) (uV p.last.a) (uV p.last.b) (uV p.last.c) (.bool p.none)/\dJ W' g4 (uV q.first.a) (uV q.first.b) (uV q.first.c) (uV q.last.a) (uV q.last.b) (uV q.last.c) (.bool q.none):=λW' hb=>⟨dJ.of ((hb.block _ (lt_of_heap HA.2.1)).trans HA.2.1),dJ.of ((hb.block _ (lt_of_heap HA.1)).trans HA.1)⟩;have Yk:=ae Hd;have qQ:=λW'=>mP p.first q.first W' HO.1.part.f HO.2.part.f;have kV:=λW'=>mP p.last q.last W' HO.1.part.l HO.2.part.l;unfold aH.val aH.cells at qQ kV;have HC:=ae (aA qQ kV);obtain⟨r,hr⟩:∃r,r=p.or q:=⟨_,rfl⟩;have hr1:(p.first.or q.first)=r.first:=by rw[hr];rfl
  have hr2:(p.last.or q.last)=r.last:=by rw[hr];rfl
  have hr3:(p.none||q.none)=r.none:=by rw[hr];rfl
  have HR:=ae (show _/\_/\_/\_ from⟨hr1,hr2,hr3,hr⟩);clear Hd qQ kV hr hr1 hr2 hr3;have hk0:=Yk W4.drew (Same.drew W4|>.below _);cases Dy:p.none;all_goals
   rw[Dy]at hk0;refine jz [(0,false),(1,false),(2,false),(3,false),(5,false),(6,false),(7,false),(8,false),(10,false),(11,false),(4,true),(9,true),(12,false),(13,false),(14,false),(15,false),(16,false),(17,true)] 17 (λW'=>dJ W' g3 (uV p.first.a) (uV p.first.b) (uV p.first.c) (uV p.last.a) (uV p.last.b) (uV p.last.c) (.bool _)/\dJ W' g4 (uV q.first.a) (uV q.first.b) (uV q.first.c) (uV q.last.a) (uV q.last.b) (uV q.last.c) (.bool q.none)) (by kernel_rfl) (by kernel_rfl) hk0 ?_;iterate 10(
 first|refine jn rfl rfl ?_|(refine aR ?_ rfl rfl (λw' hS=>?_) ?_;rotate_left;·obtain⟨⟨x0,x1,x2,x3,x4,x5,x6,x7⟩,⟨y0,y1,y2,y3,y4,y5,y6,y7⟩⟩:=hS;go_simp;try rfl)
 simp only[aN,ai,aj])
   refine bg rfl rfl (by decide) (λK hK=>?_);have HK:=ae hK;clear hK;go_simp;refine(HC.1 _).mono ?_;rintro en W5⟨rfl,hb5⟩;have LI:=(Same.drew W4|>.below W4.heap.size).trans hb5;have hk5:=Yk W5 LI;rw[Dy]at hk5;refine HK _ _ hk5 ?_;clear HK K;refine bg rfl rfl (by decide) (λK hK=>?_);have HK:=ae hK;clear hK;go_simp;refine(HC.2 _).mono ?_;rintro en W6⟨rfl,oY⟩;have aew:=LI.trans (oY.mono LI.size);have hk6:=Yk W6 aew;rw[Dy]at hk6;refine HK _ _ hk6 ?_;clear HK K;iterate 5(
 first|refine jn rfl rfl ?_|(refine aR ?_ rfl rfl (λw' hS=>?_) ?_;rotate_left;·obtain⟨⟨x0,x1,x2,x3,x4,x5,x6,x7⟩,⟨y0,y1,y2,y3,y4,y5,y6,y7⟩⟩:=hS;go_simp;try rfl)
 simp only[aN,ai,aj])
   have HB6:=ae aew;clear LI aew hb5 oY hk0 hk5;have hl6:=(HB6.block _ (lt_of_heap HA.2.2.1)).trans HA.2.2.1;have Dg:=HA.2.2.2.1.below HB6;have Qn:=HA.2.2.2.2.1.trans (fo HB6);obtain⟨W7,wO,hfin⟩:=oU r hl6 Dg Qn (au _) hmb;have HF:=ae hfin;unfold sZ at wO;have hr1:=HR.1;have hr2:=HR.2.1;have hr3:=HR.2.2.1.symm;rw[Dy]at hr3;simp only[MN,asy]at hr3;rw[hr3]at wO;have TB:=ae wO;clear hr3;obtain⟨l0,l1,l2,l3,l4,l5,l6,n0,n1,n2,n3,n4,n5,n6⟩:=(dJ.of hl6).all;clear hl6 Dg Qn wO hfin;refine cO rfl rfl (λK hK=>?_);have HK:=ae hK;clear hK;rw[hr1,hr2];clear hr1 hr2;go_simp;rw[<-TB];refine HK _ _ ?_;clear HK K l0 l1 l2 l3 l4 l5 l6 n0 n1 n2 n3 n4 n5 n6;go_wp2_with fail;refine bodyPost_ret (results_cell_row rfl _ _ w.heap.size _ _ (0,0) _ rfl HF.1 fw rfl (by kernel_rfl)) rfl ?_;rw[HV,<-HR.2.2.2];exact⟨rfl,HF.2⟩
structure tG (mb b b5 g3 g4:Nat) (w:ak) (N:PM) (p q c:Part) (W:ak):Prop where
 res:W.heap[b]?=some (.cells z7 312 (0,0))
 own:W.heap[b5]?=some (.cells c.cells.toArray 312 (0,0))
 k3:W.heap[g3]?=some (.cells p.cells.toArray 312 (0,0))
 k4:W.heap[g4]?=some (.cells q.cells.toArray 312 (0,0))
 jZ:bQ W mb N
 mod:Mod (fun j=>j=mb) w W
theorem tG.below{mb b b5 g3 g4:Nat}{w W W':ak}{N:PM}{p q c:Part}(h:tG mb b b5 g3 g4 w N p q c W)(hb:aI W.heap.size W W'):tG mb b b5 g3 g4 w N p q c W':=⟨(hb.block _ (lt_of_heap h.res)).trans h.res,(hb.block _ (lt_of_heap h.own)).trans h.own,(hb.block _ (lt_of_heap h.k3)).trans h.k3,(hb.block _ (lt_of_heap h.k4)).trans h.k4,h.jZ.below hb,h.mod.trans (fo hb)⟩
theorem tG.turn{mb b b5 g3 g4:Nat}{w W W':ak}{N:PM}{p q c c':Part}(h:tG mb b b5 g3 g4 w N p q c W)(n1:b≠b5)(n2:g3≠b5)(n3:g4≠b5)(n4:mb≠b5)(hm:Mod (λj=>j=mb) w W')(ho:∀j,j≠b5->W'.heap[j]?=W.heap[j]?)(hown:W'.heap[b5]?=some (.cells c'.cells.toArray 312 (0,0))):tG mb b b5 g3 g4 w N p q c' W':=⟨(ho _ n1).trans h.res,hown,(ho _ n2).trans h.k3,(ho _ n3).trans h.k4,⟨h.jZ.1,(ho _ n4).trans h.jZ.2⟩,hm⟩
theorem tG.first{mb b b5 g3 g4:Nat}{w W:ak}{N:PM}{p q c:Part}(h:tG mb b b5 g3 g4 w N p q c W)(n0:w.heap.size<=b5)(n1:b≠b5)(n2:g3≠b5)(n3:g4≠b5)(n4:mb≠b5)(s:aH):tG mb b b5 g3 g4 w N p q {c with first:=s} (((W.setCell (aD b5 0) (uV s.a)).setCell (aD b5 1) (uV s.b)).setCell (aD b5 2) (uV s.c)):=by
 refine h.turn n1 n2 n3 n4 (((h.mod.past n0 0 _).past n0 1 _).past n0 2 _) (λj hj=>?_) ?_;·rw[az _ (aD b5 2) _ j hj,az _ (aD b5 1) _ j hj,az _ (aD b5 0) _ j hj]
 ·have k:=h.own;rw[Part.kZ]at k⊢;replace k:=heap_setCell_same W b5 0 _ _ (uV s.a) k;simp only[bD,aj,ai]at k;replace k:=heap_setCell_same _ b5 1 _ _ (uV s.b) k;simp only[bD,aj,ai]at k;replace k:=heap_setCell_same _ b5 2 _ _ (uV s.c) k;simp only[bD,aj,ai]at k;exact k
theorem tG.last{mb b b5 g3 g4:Nat}{w W:ak}{N:PM}{p q c:Part}(h:tG mb b b5 g3 g4 w N p q c W)(n0:w.heap.size<=b5)(n1:b≠b5)(n2:g3≠b5)(n3:g4≠b5)(n4:mb≠b5)(s:aH):tG mb b b5 g3 g4 w N p q {c with last:=s} (((W.setCell (aD b5 3) (uV s.a)).setCell (aD b5 (3+1)) (uV s.b)).setCell (aD b5 (3+2)) (uV s.c)):=by
 refine h.turn n1 n2 n3 n4 (((h.mod.past n0 3 _).past n0 (3+1) _).past n0 (3+2) _) (λj hj=>?_) ?_;·rw[az _ (aD b5 (3+2)) _ j hj,az _ (aD b5 (3+1)) _ j hj,az _ (aD b5 3) _ j hj]
 ·have k:=h.own;rw[Part.kZ]at k⊢;replace k:=heap_setCell_same W b5 3 _ _ (uV s.a) k;simp only[bD,aj,ai]at k;replace k:=heap_setCell_same _ b5 (3+1) _ _ (uV s.b) k;simp only[bD,uH,aj,ai]at k;replace k:=heap_setCell_same _ b5 (3+2) _ _ (uV s.c) k;simp only[bD,uH,aj,ai]at k;exact k
theorem Vw(e f:bC)(ih1:gZ e)(ih2:gZ f):gZ (.seq e f):=by
 intro mb M w hM hT hn;have hmb:=lt_of_heap hM.2;have hn':M.n+(e.count+f.count)<=128:=hn;have Ad:=jR e M hM.1 (by omega);have I8:=jR f (PM.part e M).1 Ad.jZ (by rw[Ad.n];omega);obtain⟨a1,a2,a3⟩:=Mr (.agg #[e.val,f.val]);simp only[Asserts,C3,yu,zu,vN]at a1 a2 a3;obtain⟨xt,xv,hx⟩:=e.pS;obtain⟨yt,yv,hy⟩:=f.pS;obtain⟨W,hW⟩:∃W,W=(w.alloc (.cells z7 312)).alloc (.cells #[.iface xt xv,.iface yt yv] 393):=⟨_,rfl⟩;have h0:W.heap[w.heap.size]?=some (.cells z7 312 (0,0)):=by rw[hW,aC _ _ _ (by simp)];exact heap_alloc_new w _
 have h1:W.heap[w.heap.size+1]?=some (.cells #[.iface xt xv,.iface yt yv] 393 (0,0)):=by rw[hW];have:=heap_alloc_new (w.alloc (.cells z7 312)) (.cells #[.iface xt xv,.iface yt yv] 393);rw[bM]at this;exact this
 have hb:aI w.heap.size w W:=by rw[hW];exact((aB _ w).alloc (au _) _).alloc (by simp) _
 have hsz:W.heap.size=w.heap.size+2:=by rw[hW];simp
 have hc1:W.cell? (aD (w.heap.size+1) 0)=some (.iface xt xv):=aq h1;have hc2:W.cell? (aD (w.heap.size+1) 1)=some (.iface yt yv):=aq h1;obtain⟨N1,hN1⟩:∃N1,N1=(PM.part e M).1:=⟨_,rfl⟩;obtain⟨N2,OV⟩:∃N2,N2=(PM.part f N1).1:=⟨_,rfl⟩;obtain⟨p,hp⟩:∃p,p=(PM.part e M).2:=⟨_,rfl⟩;obtain⟨q,hq⟩:∃q,q=(PM.part f N1).2:=⟨_,rfl⟩;have hval:PM.part (.seq e f) M=(N2.link p.last.elems q.first,p.seq q):=by rw[OV,hq,hp,hN1];rfl
 have qQ:∀W,bQ W mb M->eN W->aX ah 151 #[aP mb,e.val] W λen w'=>en= .returned p.val/\bQ w' mb N1/\Mod (λj=>j=mb) W w':=λW h1 h2=>by rw[hp,hN1];exact ih1 mb M W h1 h2 (by omega)
 have kV:∀W,bQ W mb N1->eN W->aX ah 151 #[aP mb,f.val] W λen w'=>en= .returned q.val/\bQ w' mb N2/\Mod (λj=>j=mb) W w':=λW h1 h2=>by rw[hq,OV];exact ih2 mb N1 W h1 h2 (by rw[hN1,Ad.n];omega)
 rw[hx]at qQ;rw[hy]at kV;rw[hx,hy]at a1 a2 a3;rw[<-hp,<-hN1]at Ad;rw[<-hN1,<-hq,<-OV]at I8;have H:=ae (show _/\_/\_/\_/\_/\_/\_ from⟨qQ,kV,h0,hb,hM.below hb,hT.below hb,h1⟩);have hnn:N2.n<=128:=by rw[I8.n,Ad.n];omega
 have HO:=ae (show _/\_/\_/\_ from⟨Ad,I8,hnn,(by rw[I8.n];omega:N1.n<=N2.n)⟩);have HV:=ae hval;have HW:=ae hW;have HMT:=ae (show _/\_ from⟨hM,hT⟩);rw[show(bC.seq e f).val= .iface 393 (.agg #[e.val,f.val])from rfl,hx,hy];unfold aP z7 at*;clear hM hT hn hn' hb hval hp hq qQ kV h0 h1 ih1 ih2 hx hy hW Ad I8 hN1 OV;go_enter pk,nI;go_wp2_with fail;rw[<-HW];refine kS [0,1,2,4,5,6] [3,7,8,9] 4 [(10,true),(11,true)] #[true,true,true,false,true,true,true,false,false,false,false,false] #[true,true,true,true,true,true,true,true,true,true,false,false] 11 (λW'=>W'.cell? (aD (w.heap.size+1) 0)=some (.iface xt xv)/\W'.cell? (aD (w.heap.size+1) 1)=some (.iface yt yv)) (by kernel_rfl) (by kernel_rfl) ⟨hc1,hc2⟩ ?_;simp only[dM,mg];iterate 6(
 refine aR ?_ rfl rfl (λw' hS=>?_) ?_;rotate_left;·obtain⟨q0,q1⟩:=hS;go_simp;try rfl
 simp only[aN,ai,aj])
 refine cV ?_;rintro-;refine ag2 90 94 12 13 (λl v1 v2 v3 v4 w'=>∃g3 g4,Ay mb W.drew M N1 N2 p q l v1 v2 v3 v4 g3 g4 w') (by unfold vZ;simp only[aN,ai,aj]) ?_ ?_ ?_ ?_;·have:=H.2.2.2.2.1.below (Same.drew W|>.below _);exact⟨0,0,⟨Mod.refl _ _,this,λh=>absurd h (by decide),λh=>absurd h (by decide),λh=>absurd h (by decide),λh=>absurd h (by decide),λh=>absurd h (by decide),λh=>absurd h (by decide)⟩⟩
 ·rintro l v1 v2 v3 v4 w' i⟨g3,g4,xC⟩hi hr;have hS:∀W',Mod (λj=>j=mb) W.drew W'->W'.cell? (aD (w.heap.size+1) 0)=some (.iface xt xv)/\W'.cell? (aD (w.heap.size+1) 1)=some (.iface yt yv):=λW' hm=>by have hxb:=(hm.block (w.heap.size+1) (by show _<W.heap.size;omega) (by omega)).trans H.2.2.2.2.2.2;exact⟨aq hxb,aq hxb⟩
  have HS:=ae hS;have aeA:eN w':=by have h1:=H.2.2.2.2.2.1.below (Same.drew W|>.below _);exact h1.mod (H.2.2.2.2.1.below (Same.drew W|>.below _)) xC.mod
  have ad0:mb<W.drew.heap.size:=by show mb<W.heap.size;omega
  have HT:=ae (show _/\_/\_/\_ from⟨xC,hr,aeA,ad0⟩);simp only[ql,tT,or_false]at hi;unfold vZ;simp only[aN,ai,aj];rcases hi with rfl|rfl|rfl|rfl;·
   refine eO rfl rfl (λK hK=>?_);have hun:=dK HT.2.1;have tN:bQ w' mb M:=by
    have h7:l.getD 7 false=false:=by cases h7:l.getD 7 false with|false=>rfl|true=>rw[HT.1.ord h7]at hun;cases hun
    have:=HT.1.jZ;rw[h7,hun]at this;exact this
   have hcall:=H.1 w' tN HT.2.2.1;go_simp;refine hcall.mono ?_;rintro en w''⟨rfl,hm2,kU⟩;have qR:=HT.1.first HT.2.2.2 HT.2.1 hm2 kU;exact hK _ _ ⟨λ_=>HS _ qR.mod,_,_,_,_,rfl,_,_,qR⟩
  ·refine eO rfl rfl (λK hK=>?_);have h3:=iF (x:=7) (i:=3) (by kernel_rfl) HT.2.1;have hun:=dK HT.2.1;have tN:bQ w' mb N1:=by have:=HT.1.jZ;rw[h3,hun]at this;exact this
   have hcall:=H.2.1 w' tN HT.2.2.1;have H3:=ae h3;clear hun tN h3;go_simp;refine hcall.mono ?_;rintro en w''⟨rfl,hm2,kU⟩;have qR:=HT.1.second HT.2.2.2 HT.2.1 H3 hm2 kU;exact hK _ _ ⟨λ_=>HS _ qR.mod,_,_,_,_,rfl,_,_,qR⟩
  ·refine eO rfl rfl (λK hK=>?_);go_simp;have qR:=HT.1.abz HT.2.1;exact hK _ _ ⟨λ_=>HS _ qR.mod,_,_,_,_,rfl,_,_,qR⟩
  ·refine eO rfl rfl (λK hK=>?_);go_simp;have qR:=HT.1.aby HT.2.1;exact hK _ _ ⟨λ_=>HS _ qR.mod,_,_,_,_,rfl,_,_,qR⟩
 ·rintro v1 v2 v3 v4 w'⟨g3,g4,xC⟩;have hxb:=(xC.mod.block (w.heap.size+1) (by show _<W.heap.size;omega) (by omega)).trans H.2.2.2.2.2.2;have hx0:w'.cell? (aD (w.heap.size+1) 0)=some (.iface xt xv):=aq hxb;have hx1:w'.cell? (aD (w.heap.size+1) 1)=some (.iface yt yv):=aq hxb;exact⟨hx0,hx1⟩
 ·rintro v1 v2 v3 v4 w'⟨g3,g4,xC⟩G HG;obtain rfl:=xC.r1 (by decide);obtain rfl:=xC.r2 (by decide);obtain⟨rfl,hg3,hb3⟩:=xC.b3 (by decide);obtain⟨rfl,hg4,hb4⟩:=xC.b4 (by decide);have hne:=xC.ne (by decide) (by decide);have hMz:=xC.jZ;rw[if_pos (by decide)]at hMz;have hmod:=xC.mod;have amE:W.heap.size<=g3:=hg3;have amD:W.heap.size<=g4:=hg4;have hxb:=(hmod.block (w.heap.size+1) (by show _<W.heap.size;omega) (by omega)).trans H.2.2.2.2.2.2;have rN:=(hmod.block (w.heap.size) (by show _<W.heap.size;omega) (by omega)).trans H.2.2.1;have CB:=((fo H.2.2.2.1).trans (Mod.same (Same.drew W))).trans hmod;obtain⟨W3,hW3⟩:∃W3,W3=sZ w' g3 (uV p.first.a) (uV p.first.b) (uV p.first.c) (uV p.last.a) (uV p.last.b) (uV p.last.c) (.bool p.none):=⟨_,rfl⟩;have k3:W3.heap[g3]?=some (.cells p.cells.toArray 312 (0,0)):=by rw[hW3];exact qA _ _ _ _ _ _ _ hb3
  have o3:∀j,j≠g3->W3.heap[j]?=w'.heap[j]?:=λj hj=>by rw[hW3];exact qz _ _ _ _ _ _ _ _ _ hj
  have m3:Mod (λj=>j=mb) w W3:=by rw[hW3];exact vW _ _ _ _ _ _ _ _ _ CB (by omega)
  have OS:=(o3 g4 (dB hne)).trans hb4;obtain⟨W4,tM⟩:∃W4,W4=sZ W3 g4 (uV q.first.a) (uV q.first.b) (uV q.first.c) (uV q.last.a) (uV q.last.b) (uV q.last.c) (.bool q.none):=⟨_,rfl⟩;have k4:W4.heap[g4]?=some (.cells q.cells.toArray 312 (0,0)):=by rw[tM];exact qA _ _ _ _ _ _ _ OS
  have o4:∀j,j≠g4->W4.heap[j]?=W3.heap[j]?:=λj hj=>by rw[tM];exact qz _ _ _ _ _ _ _ _ _ hj
  have m4:Mod (λj=>j=mb) w W4:=by rw[tM];exact vW _ _ _ _ _ _ _ _ _ m3 (by omega)
  have k43:=(o4 g3 hne).trans k3;have k40:=((o4 w.heap.size (by omega)).trans (o3 w.heap.size (by omega))).trans rN;have k4M:bQ W4 mb N2:=⟨hMz.1,((o4 mb (by omega)).trans (o3 mb (by omega))).trans hMz.2⟩;have Wu:=(o3 (w.heap.size+1) (by omega)).trans hxb;have HA:=ae (show _/\_/\_/\_/\_/\_ from⟨k4,k43,k40,k4M,m4,Wu⟩);have HB:=ae (show _/\_ from⟨hb3,OS⟩);have CU:=ae (show _/\_ from⟨hW3,tM⟩);clear xC hMz hmod hxb rN CB k3 o3 m3 hb4 OS k4 o4 m4 k43 k40 k4M Wu hc1 hc2 hb3 hW3 tM;obtain⟨d0,d1,d2,d3,d4,d5,d6,f0,f1,f2,f3,f4,f5,f6⟩:=(dJ.of HB.1).all;obtain⟨i0,i1,i2,i3,i4,i5,i6,j0,j1,j2,j3,j4,j5,j6⟩:=(dJ.of HB.2).all;have hx0:W3.cell? (aD (w.heap.size+1) 0)=some (.iface xt xv):=aq HA.2.2.2.2.2;have hx1:W3.cell? (aD (w.heap.size+1) 1)=some (.iface yt yv):=aq HA.2.2.2.2.2;have HX:=ae (aA hx0 hx1);have HY:=ae (aA (dJ.of HA.2.1) (dJ.of HA.1));clear hx0 hx1;have s3:=CU.1;have s4:=CU.2;unfold sZ at s3 s4;have HS:=ae (aA s3 s4);clear s3 s4;refine HG ?_;unfold vZ;simp only[aN,ai,aj];rw[Part.yz p,Part.yz q];unfold aP;refine bg rfl rfl (by decide) (λK hK=>?_);have HK:=ae hK;clear hK;go_simp;rw[<-HS.1];refine HK _ _ HX ?_;clear HK K;refine cO rfl rfl (λK hK=>?_);have HK:=ae hK;clear hK;go_simp;rw[<-HS.2];refine HK _ _ ?_;clear HK K d0 d1 d2 d3 d4 d5 d6 f0 f1 f2 f3 f4 f5 f6 i0 i1 i2 i3 i4 i5 i6 j0 j1 j2 j3 j4 j5 j6;obtain⟨c3,c4⟩:=HY.out;obtain⟨x0,x1,x2,x3,x4,x5,x6,x7⟩:=c3;obtain⟨y0,y1,y2,y3,y4,y5,y6,y7⟩:=c4;clear x7 y7;have abI:=HMT.2.mod HMT.1 HA.2.2.2.2.1;have HLK:=ae (zW mb N2 p.last q.first W4 HO.1.part.l ((HO.1.ul.mono HO.2.2.2).fits HO.2.2.1) HO.2.1.part.f HA.2.2.2.1 abI);clear abI;go_wp2_with fail;have Hb:=HLK.out;unfold aP aH.val aH.cells at Hb;refine Hb.mono ?_;clear Hb;rintro en W5⟨rfl,nJ,LC⟩;have Qm:=(LC.block _ (lt_of_heap HA.2.2.1) (by omega)).trans HA.2.2.1;have h35:=(LC.block _ (lt_of_heap HA.2.1) (by omega)).trans HA.2.1;have h45:=(LC.block _ (lt_of_heap HA.1) (by omega)).trans HA.1;have OG:=HA.2.2.2.2.1.trans LC;have ahF:=lt_of_heap Qm;have hlt3:=lt_of_heap h35;have ahI:=lt_of_heap h45;have amg:=lt_of_heap nJ.2;obtain⟨N3,hN3⟩:∃N3,N3=N2.link p.last.elems q.first:=⟨_,rfl⟩;rw[<-hN3]at nJ;obtain⟨c,hc⟩:∃c:Part,c=⟨p.first,q.last,p.none&&q.none⟩:=⟨_,rfl⟩;have hsa:tG mb w.heap.size W5.heap.size g3 g4 w N3 p q c (W5.alloc (.cells c.cells.toArray 312)):=⟨(aC W5 _ _ ahF).trans Qm,heap_alloc_new W5 _,(aC W5 _ _ hlt3).trans h35,(aC W5 _ _ ahI).trans h45,nJ.below ((aB _ W5).alloc (au _) _),OG.trans (Mod.alloc _ _ _)⟩;have aty:=OG.size;obtain⟨x0,x1,x2,x3,x4,x5,x6,x7⟩:=dJ.of h35;obtain⟨y0,y1,y2,y3,y4,y5,y6,y7⟩:=dJ.of h45;have JN:=ae (show _/\_/\_ from⟨hsa,hc,hN3⟩);have YV:=ae Qm;clear x7 y7 hsa hc hN3 nJ OG LC Qm h35 h45 HLK HY HX;cases Dy:p.none<;>cases Gb:q.none;·
   rw[Dy]at x6;rw[Gb]at y6;have hs0:=JN.1;rw[JN.2.1,Dy,Gb]at hs0;simp only[Du,Bb,gP,Ba]at hs0;have hps:p.seq q=⟨p.first,q.last,false⟩:=by unfold Part.seq;rw[Dy,Gb];rfl
   have MZ:=ae hps;clear hps;obtain⟨W9,vG,hfin⟩:=oU ⟨p.first,q.last,false⟩ hs0.res hs0.jZ hs0.mod (au _) hmb;obtain⟨l0,l1,l2,l3,l4,l5,l6,n0,n1,n2,n3,n4,n5,n6⟩:=(dJ.of hs0.res).all;unfold sZ at vG;obtain⟨v0,v1,v2,v3,v4,v5,v6,vf⟩:=dJ.of hs0.k4;obtain⟨u0,u1,u2,u3,u4,u5,u6,uf⟩:=dJ.of hs0.k3;rw[Dy,Part.kZ]at u6;rw[Gb,Part.kZ]at v6;clear vf uf v0 v1 v2 v3 v4 v5 u0 u1 u2 u3 u4 u5 ahF hlt3 ahI amg;rw[Part.kZ]at vG l0 l1 l2 l3 l4 l5 l6 n0 n1 n2 n3 n4 n5 n6;have HF:=ae hfin;have X7:=ae vG;clear hs0 hfin vG;go_wp2_with fail;rw[<-X7];refine bodyPost_ret (results_cell_row rfl _ _ w.heap.size _ _ (0,0) _ rfl HF.1 fw rfl (by kernel_rfl)) rfl ?_;rw[HV,MZ,<-JN.2.2];exact⟨rfl,HF.2⟩
  ·rw[Dy]at x6;rw[Gb]at y6;have hs0:=JN.1;rw[JN.2.1,Dy,Gb]at hs0;simp only[Du,Bb,gP,Ba]at hs0;have hps:p.seq q=⟨p.first,q.last.or p.last,false⟩:=by unfold Part.seq;rw[Dy,Gb];rfl
   have MZ:=ae hps;clear hps;have H0:=ae hs0;clear hs0;obtain⟨v0,v1,v2,v3,v4,v5,v6,vf⟩:=dJ.of H0.k4;obtain⟨u0,u1,u2,u3,u4,u5,u6,uf⟩:=dJ.of H0.k3;obtain⟨o0,o1,o2,o3,o4,o5,o6,of'⟩:=dJ.of H0.own;rw[Gb]at v6;rw[Part.kZ]at v3 v4 v5 v6 u3 u4 u5 o3 o4 o5;clear vf uf of';go_wp2_with fail;have hcall:=λW'=>mP q.last p.last W' HO.2.1.part.l HO.1.part.l;unfold aH.val aH.cells at hcall;refine(hcall _).mono ?_;clear hcall;rintro en W8⟨rfl,nK⟩;have hs8:=H0.below (by rw[Part.kZ];exact nK);have pX:=hs8.last (by omega) (by omega) (by omega) (by omega) (by omega) (q.last.or p.last);obtain⟨m0,m1,m2,m3,m4,m5,m6,mf0,mf1,mf2,mf3,mf4,mf5,mf6⟩:=(dJ.of hs8.own).all;obtain⟨W9,vG,hfin⟩:=oU ⟨p.first,q.last.or p.last,false⟩ pX.res pX.jZ pX.mod (au _) hmb;obtain⟨l0,l1,l2,l3,l4,l5,l6,n0,n1,n2,n3,n4,n5,n6⟩:=(dJ.of pX.res).all;unfold sZ at vG;have HF:=ae hfin;have X7:=ae vG;clear hs8 pX hfin vG nK;go_wp2_with fail;rw[<-X7];refine bodyPost_ret (results_cell_row rfl _ _ w.heap.size _ _ (0,0) _ rfl HF.1 fw rfl (by kernel_rfl)) rfl ?_;rw[HV,MZ,<-JN.2.2];exact⟨rfl,HF.2⟩
  ·rw[Dy]at x6;rw[Gb]at y6;have hs0:=JN.1;rw[JN.2.1,Dy,Gb]at hs0;simp only[Du,Bb,gP,Ba]at hs0;have hps:p.seq q=⟨p.first.or q.first,q.last,false⟩:=by unfold Part.seq;rw[Dy,Gb];rfl
   have MZ:=ae hps;clear hps;have H0:=ae hs0;clear hs0;go_wp2_with fail;have hcall:=λW'=>mP p.first q.first W' HO.1.part.f HO.2.1.part.f;unfold aH.val aH.cells at hcall;refine(hcall _).mono ?_;clear hcall;rintro en W6⟨rfl,oY⟩;have F9:=H0.below (by rw[Part.kZ];exact oY);have TZ:=F9.first (by omega) (by omega) (by omega) (by omega) (by omega) (p.first.or q.first);obtain⟨o0,o1,o2,o3,o4,o5,o6,of0,of1,of2,of3,of4,of5,of6⟩:=(dJ.of F9.own).all;obtain⟨v0,v1,v2,v3,v4,v5,v6,vf⟩:=dJ.of TZ.k4;obtain⟨u0,u1,u2,u3,u4,u5,u6,uf⟩:=dJ.of TZ.k3;rw[Gb]at v6;clear vf uf;obtain⟨W9,vG,hfin⟩:=oU ⟨p.first.or q.first,q.last,false⟩ TZ.res TZ.jZ TZ.mod (au _) hmb;obtain⟨l0,l1,l2,l3,l4,l5,l6,n0,n1,n2,n3,n4,n5,n6⟩:=(dJ.of TZ.res).all;unfold sZ at vG;have HF:=ae hfin;have X7:=ae vG;clear F9 TZ hfin vG oY;go_wp2_with fail;rw[<-X7];refine bodyPost_ret (results_cell_row rfl _ _ w.heap.size _ _ (0,0) _ rfl HF.1 fw rfl (by kernel_rfl)) rfl ?_;rw[HV,MZ,<-JN.2.2];exact⟨rfl,HF.2⟩
  ·rw[Dy]at x6;rw[Gb]at y6;have hs0:=JN.1;rw[JN.2.1,Dy,Gb]at hs0;simp only[Du,Bb,gP,Ba]at hs0;have hps:p.seq q=⟨p.first.or q.first,q.last.or p.last,true⟩:=by unfold Part.seq;rw[Dy,Gb];rfl
   have MZ:=ae hps;clear hps;have H0:=ae hs0;clear hs0;go_wp2_with fail;have hcall:=λW'=>mP p.first q.first W' HO.1.part.f HO.2.1.part.f;unfold aH.val aH.cells at hcall;refine(hcall _).mono ?_;clear hcall;rintro en W6⟨rfl,oY⟩;have F9:=H0.below (by rw[Part.kZ];exact oY);have TZ:=F9.first (by omega) (by omega) (by omega) (by omega) (by omega) (p.first.or q.first);obtain⟨o0,o1,o2,o3,o4,o5,o6,of0,of1,of2,of3,of4,of5,of6⟩:=(dJ.of F9.own).all;obtain⟨v0,v1,v2,v3,v4,v5,v6,vf⟩:=dJ.of TZ.k4;obtain⟨u0,u1,u2,u3,u4,u5,u6,uf⟩:=dJ.of TZ.k3;rw[Gb]at v6;clear vf uf;have H7:=ae TZ;clear F9 TZ oY;go_wp2_with fail;have hcall:=λW'=>mP q.last p.last W' HO.2.1.part.l HO.1.part.l;unfold aH.val aH.cells at hcall;refine(hcall _).mono ?_;clear hcall;rintro en W8⟨rfl,nK⟩;have hs8:=H7.below nK;have pX:=hs8.last (by omega) (by omega) (by omega) (by omega) (by omega) (q.last.or p.last);obtain⟨m0,m1,m2,m3,m4,m5,m6,mf0,mf1,mf2,mf3,mf4,mf5,mf6⟩:=(dJ.of hs8.own).all;obtain⟨W9,vG,hfin⟩:=oU ⟨p.first.or q.first,q.last.or p.last,true⟩ pX.res pX.jZ pX.mod (au _) hmb;obtain⟨l0,l1,l2,l3,l4,l5,l6,n0,n1,n2,n3,n4,n5,n6⟩:=(dJ.of pX.res).all;unfold sZ at vG;have HF:=ae hfin;have X7:=ae vG;clear hs8 pX hfin vG nK;go_wp2_with fail;rw[<-X7];refine bodyPost_ret (results_cell_row rfl _ _ w.heap.size _ _ (0,0) _ rfl HF.1 fw rfl (by kernel_rfl)) rfl ?_;rw[HV,MZ,<-JN.2.2];exact⟨rfl,HF.2⟩
theorem Vy(e:bC)(he:e.ok):gZ e:=by induction e with|empty=>exact NZ|iW=>exact RO|one s=>exact Vx s he|seq a b uo um=>exact Vw a b (uo he.1) (um he.2)|or a b uo um=>exact ZG a b (uo he.1) (um he.2)|many a sm ih=>exact RN a sm (ih he)|maybe a ih=>exact NY a (ih he)
def PM.zero:PM:=⟨aQ 256 aH.zero,aQ 129 aH.zero,aH.zero,0⟩
theorem PM.dL:PM.zero.ok where
 la:=bK
 lf:=bK
 oa:=fun s hs=>by
  have h:=iR (show s∈aQ 256 aH.zero from hs)
  rw [h]; exact aH.dL
 of':=fun s hs=>by
  have h:=iR (show s∈aQ 129 aH.zero from hs)
  rw [h]; exact aH.dL
 ol:=aH.dL
def PM.setLast(M:PM)(s:aH):PM:={M with last:=s}
def PM.compile(e:bC):PM:=((PM.part e .zero).1.gB 128 (PM.part e .zero).2.first).setLast (if(PM.part e .zero).2.none then(PM.part e .zero).2.last.on 128 else(PM.part e .zero).2.last)
theorem Nb:afH=PM.zero.cells.toArray:=by kernel_rfl
theorem PM.yI{M:PM}(h:M.ok){s:aH}(hs:s.ok):(M.setLast s).ok:=⟨h.la,h.lf,h.oa,h.of',hs⟩
theorem PM.KE{M:PM}(h:M.ok)(i:Nat)(hi:i<3)(v:Nat):M.cells.toArray.setIfInBounds (1155+i) (uV v)=(M.setLast (M.last.rA i v)).cells.toArray:=by simp only[bD];congr 1;have h1:=dV M.at';have h2:=dV M.follow;have h3:=h.la;have h4:=h.lf;have h5:M.last.cells.length=3:=rfl;have h6:=aH.qy M.last hi v;simp only[bD]at h6;unfold PM.cells PM.setLast;simp only;rw[cU _ _ (by omega),cU _ _ (by omega),uW _ _ (by omega),show 1155+i-(setCells M.at').length-(setCells M.follow).length=i by omega];have h7:=congrArg Array.toList h6;simp only at h7;rw[h7]
theorem PM.FW{M:PM}(h:M.ok){s:aH}:((M.cells.toArray.setIfInBounds 1155 (uV s.a)).setIfInBounds (1155+1) (uV s.b)).setIfInBounds (1155+2) (uV s.c)=(M.setLast s).cells.toArray:=by have hx:∀(N:PM)i v,(N.setLast (N.last.rA i v)).last=N.last.rA i v:=λ_ _ _=>rfl;simp only[bD];congr 1;have h1:=dV M.at';have h2:=dV M.follow;have h3:=h.la;have h4:=h.lf;have h5:M.last.cells.length=3:=rfl;unfold PM.cells PM.setLast;simp only;rw[cU _ _ (by omega),cU _ _ (by omega),cU _ _ (by omega),cU _ _ (by omega),cU _ _ (by omega),cU _ _ (by omega),show 1155-(setCells M.at').length-(setCells M.follow).length=0 by omega,show 1155+1-(setCells M.at').length-(setCells M.follow).length=1 by omega,show 1155+2-(setCells M.at').length-(setCells M.follow).length=2 by omega];rfl
theorem Ez(mb k:Nat)(M:PM)(w:ak)(hM:bQ w mb M)(hk:k<192):aX ah 152 #[.pointer (some (aD mb 1155)),iV k] w λe w'=>e= .returned (.tuple #[])/\bQ w' mb (M.setLast (M.last.on k))/\Mod (λj=>j=mb) w w':=by refine(Bh mb 1155 k M.last w hM.1.ol hk hM.V3).mono ?_;rintro e w'⟨rfl,hS⟩;refine⟨rfl,⟨PM.yI hM.1 (aH.xP hM.1.ol k),?_⟩,Mod.trans (Mod.setCell (S:=λj=>j=mb) w (aD mb _) _ λ_=>rfl) (Mod.same hS)⟩;rw[hS.heap,heap_setCell_same w mb (1155+k/64) _ _ _ hM.2,PM.KE hM.1 (k/64) (by omega)];rfl
theorem Aq(e:bC)(he:e.ok)(hn:e.count<=128)(w:ak)(hT:eN w):aX ah 105 #[e.val] w λen w'=>en= .returned (aP w.heap.size)/\bQ w' w.heap.size (PM.compile e)/\aI w.heap.size w w':=by
 obtain⟨W,hW⟩:∃W,W=w.alloc (.cells afH 310):=⟨_,rfl⟩;have hb:aI w.heap.size w W:=by rw[hW];exact(aB _ w).alloc (au _) _
 have hM0:bQ W w.heap.size PM.zero:=⟨PM.dL,by rw[hW,<-Nb];exact heap_alloc_new w _⟩;have hcall:=Vy e he w.heap.size PM.zero W hM0 (hT.below hb) (by show 0+e.count<=128;omega);have hok:=jR e PM.zero PM.dL (by show 0+e.count<=128;omega);obtain⟨M,hM⟩:∃M,M=(PM.part e .zero).1:=⟨_,rfl⟩;obtain⟨p,hp⟩:∃p,p=(PM.part e .zero).2:=⟨_,rfl⟩;have hcp:PM.compile e=(M.gB 128 p.first).setLast (if p.none then p.last.on 128 else p.last):=by rw[hM,hp];rfl
 rw[<-hM,<-hp]at hcall hok;obtain⟨R,hR⟩:∃R,R=PM.compile e:=⟨_,rfl⟩;rw[<-hR];rw[<-hR]at hcp;have H:=ae (show _/\_/\_/\_ from⟨hcall,hok,hcp,hb⟩);have HW:=ae hW;have hsz:W.heap.size=w.heap.size+1:=by rw[hW];simp
 clear hT hb hM0 hcall hok hcp hM hp hR hW;go_enter Tryz.func105,Tryz.ntmps105;go_wp2_with fail;rw[<-HW];refine H.1.mono ?_;rintro en w1⟨rfl,hm1,qO⟩;rw[Part.yz p];have hsz1:=qO.size;obtain⟨W1,hW1⟩:∃W1,W1=w1.alloc (.cells p.cells.toArray 312):=⟨_,rfl⟩;have hp1:W1.heap[w1.heap.size]?=some (.cells p.cells.toArray 312 (0,0)):=by rw[hW1];exact heap_alloc_new w1 _
 have hb1:aI w1.heap.size w1 W1:=by rw[hW1];exact(aB _ w1).alloc (au _) _
 have hm2:=hm1.below hb1;have kU:aI w.heap.size w W1:=by have h1:aI w.heap.size W w1:=qO.toBelow (by omega) (λk e=>by omega);exact(H.2.2.2.trans h1).trans (hb1.mono (by omega))
 obtain⟨x0,x1,x2,x3,x4,x5,x6,x7⟩:=dJ.of hp1;have HX:=ae (show _/\_/\_ from⟨hp1,hm2,kU⟩);have tH:=ae hW1;rw[Part.kZ]at tH;clear hp1 hb1 hm1 qO hm2 kU x7 hW1;go_wp2_with fail;rw[<-tH];have f0:W1.frozen? (aD w.heap.size 1152)=false:=HX.2.1.free _;have f1:W1.frozen? (aD w.heap.size (1152+1))=false:=HX.2.1.free _;have f2:W1.frozen? (aD w.heap.size (1152+2))=false:=HX.2.1.free _;have aar:=HX.2.1.Ji (k:=128) (s:=M.follow.getD 128 aH.zero) (by
  rw[List.getD_eq_getElem?_getD];have hl:128<M.follow.length:=by rw[HX.2.1.1.lf];decide
  rw[ar hl];rfl);have c0:=(aar 0 (by decide)).1;have c1:=(aar 1 (by decide)).1;have c2:=(aar 2 (by decide)).1;simp only[Nat.reduceMul,uH]at c0 c1 c2 f1 f2;obtain⟨W2,hW2⟩:∃W2,W2=(((W1.setCell (aD w.heap.size 1152) (uV p.first.a)).setCell (aD w.heap.size 1153) (uV p.first.b)).setCell (aD w.heap.size 1154) (uV p.first.c)).drew:=⟨_,rfl⟩;have o2:∀j,j≠w.heap.size->W2.heap[j]?=W1.heap[j]?:=λj hj=>by rw[hW2];show(((W1.setCell (aD w.heap.size 1152) (uV p.first.a)).setCell (aD w.heap.size 1153) (uV p.first.b)).setCell (aD w.heap.size 1154) (uV p.first.c)).heap[j]?=_;rw[az _ (aD w.heap.size 1154) _ j hj,az _ (aD w.heap.size 1153) _ j hj,az _ (aD w.heap.size 1152) _ j hj]
 have k2:W2.heap[w.heap.size]?=some (.cells (M.gB 128 p.first).cells.toArray 310 (0,0)):=by rw[hW2];have k1:=heap_setCell_same W1 w.heap.size 1152 _ _ (uV p.first.a) HX.2.1.2;have k2:=heap_setCell_same _ w.heap.size 1153 _ _ (uV p.first.b) k1;have k3:=heap_setCell_same _ w.heap.size 1154 _ _ (uV p.first.c) k2;rw[<-PM.uJ HX.2.1.1 (show 128<129 by decide)];exact k3
 have hb2:aI w.heap.size w W2:=by rw[hW2];exact(((HX.2.2.setCell (p:=(aD _ 1152)) (au _) _).setCell (p:=(aD _ 1153)) (au _) _).setCell (p:=(aD _ 1154)) (au _) _).trans (Same.drew _|>.below _)
 have hM2:bQ W2 w.heap.size (M.gB 128 p.first):=⟨PM.pM HX.2.1.1 _ H.2.1.part.f,k2⟩;have hp2:=(o2 w1.heap.size (by omega)).trans HX.1;have H2:=ae (show _/\_/\_ from⟨hb2,hM2,hp2⟩);have vh:=ae hW2;clear aar hW2 o2 k2 hb2 hM2 hp2;refine jz [(0,false),(1,false),(2,false),(3,false),(4,false),(5,false),(6,true)] 6 (λW'=>W'.cell? (aD w1.heap.size 0)=some (uV p.first.a)/\W'.cell? (aD w1.heap.size 1)=some (uV p.first.b)/\W'.cell? (aD w1.heap.size 2)=some (uV p.first.c)) (by kernel_rfl) (by kernel_rfl) ⟨x0,x1,x2⟩ ?_;iterate 6(
 refine aR ?_ rfl rfl (λw' hS=>?_) ?_;rotate_left;·obtain⟨q0,q1,q2⟩:=hS;go_simp;try rfl
 simp only[aN,ai,aj])
 refine cO rfl rfl (λK hK=>?_);have HK:=ae hK;clear hK;go_simp;rw[<-vh];refine HK _ _ ?_;clear HK K c0 c1 c2 f0 f1 f2;obtain⟨x0,x1,x2,x3,x4,x5,x6,x7⟩:=dJ.of H2.2.2;have g0:W2.frozen? (aD w.heap.size 1155)=false:=H2.2.1.free _;have g1:W2.frozen? (aD w.heap.size (1155+1))=false:=H2.2.1.free _;have g2:W2.frozen? (aD w.heap.size (1155+2))=false:=H2.2.1.free _;have hla:=H2.2.1.V3;have c0:=(hla 0 (by decide)).1;have c1:=(hla 1 (by decide)).1;have c2:=(hla 2 (by decide)).1;simp only[Nat.add_zero]at c0 c1 c2;obtain⟨W3,hW3⟩:∃W3,W3=((W2.setCell (aD w.heap.size 1155) (uV p.last.a)).setCell (aD w.heap.size (1155+1)) (uV p.last.b)).setCell (aD w.heap.size (1155+2)) (uV p.last.c):=⟨_,rfl⟩;have k3:W3.heap[w.heap.size]?=some (.cells ((M.gB 128 p.first).setLast p.last).cells.toArray 310 (0,0)):=by rw[hW3];have k1:=heap_setCell_same W2 w.heap.size 1155 _ _ (uV p.last.a) H2.2.1.2;have k2:=heap_setCell_same _ w.heap.size (1155+1) _ _ (uV p.last.b) k1;have k3:=heap_setCell_same _ w.heap.size (1155+2) _ _ (uV p.last.c) k2;rw[PM.FW H2.2.1.1]at k3;exact k3
 have hb3:aI w.heap.size w W3:=by rw[hW3];exact((H2.1.setCell (p:=(aD _ 1155)) (au _) _).setCell (p:=(aD _ (1155+1))) (au _) _).setCell (p:=(aD _ (1155+2))) (au _) _
 have Uc:bQ W3 w.heap.size ((M.gB 128 p.first).setLast p.last):=⟨PM.yI H2.2.1.1 H.2.1.part.l,k3⟩;have hp3:W3.heap[w1.heap.size]?=some (.cells p.cells.toArray 312 (0,0)):=by
  have hne:w1.heap.size≠w.heap.size:=by omega
  rw[hW3,az _ (aD w.heap.size (1155+2)) _ _ hne,az _ (aD w.heap.size (1155+1)) _ _ hne,az _ (aD w.heap.size 1155) _ _ hne];exact H2.2.2
 obtain⟨y0,y1,y2,y3,y4,y5,y6,y7⟩:=dJ.of hp3;rw[hW3]at y6;have H3:=ae (show _/\_ from⟨hb3,Uc⟩);have CU:=ae hW3;clear hla k3 hb3 Uc hp3 hW3 y0 y1 y2 y3 y4 y5 y7 x7;cases Dy:p.none;all_goals rw[Dy]at y6 x6;go_wp2_with fail
 ·rw[<-CU];go_ret;refine⟨rfl,?_,H3.1⟩;have:=H.2.2.1;rw[Dy]at this;rw[this];exact H3.2
 ·have hcall:=Ez w.heap.size 128 ((M.gB 128 p.first).setLast p.last) W3 H3.2 (by decide);rw[CU]at hcall;refine hcall.mono ?_;clear hcall;rintro en w4⟨rfl,hm4,G9⟩;rw[<-CU]at G9;have hfin:aI w.heap.size w w4:=H3.1.trans (G9.toBelow H3.1.size (λk e=>by omega));have HF:=ae (show _/\_ from⟨hm4,hfin⟩);clear hm4 G9 hfin y6 x6;go_wp2_with fail;go_ret;refine⟨rfl,?_,HF.2⟩;have:=H.2.2.1;rw[Dy]at this;rw[this];exact HF.1
def PM.fit(M:PM):Prop:=∀c,(M.at'.getD c aH.zero).fits
theorem aH.Xt{s t:aH}(h:t.fits):(s.and t).fits:=λk hk=>by rw[aH.fO,aH.Dw,cR]at hk;exact h k ((aH.fO _ _).2 ⟨hk.1,hk.2.2⟩)
theorem CR:bN.ok:=aH.xP aH.dL _
theorem Gs:bN.fits:=λk hk=>by rw[aH.fO]at hk;have:=hk.2;unfold bN at this;rw[aH.wG _ _ _ (by decide) hk.1,aH.jC,agC,decide_eq_true_iff]at this;omega
end Go.Proofs.Ts
