/- Lemmas towards the statement Least of termsearch: walks of the program's functions and plain laws on lists (TsCountB, TsNumberB, TsSeg, TsGrow, TsKeep3, TsFrom, TsTerms, TsWalk, TsPlanA, TsUtf, TsNearP, TsNearA, TsNearB, TsNearD, TsOrdP, TsRead, TsParsQ, TsSetP, TsSetO, TsSetN, TsSetB, TsSetM, TsRg, TsIterB, TsSetI, TsSetJ, TsOrdIn, TsSetS, TsOrdT, TsLink, TsAst, TsParsP, TsOrdV). Conditions: those that each theorem names. -/
import Derived.Test.YtffjomnnkilhgaaGreatDoorLeastPA
import Derived.Test.YtffjomnnkilhgaaGreatDoorLeastPC
import Derived.Laws.OwnMore
import Derived.Laws.EntriesVeiled
import Derived.Test.YtffjomnnkilhgaaGreatDoorLeastPB
import Derived.Deep.CutBlock
import Derived.Maps.AppendAt
import Derived.Deep.DeepCutAuto
import Derived.Sort.OwnSorted
import Derived.Shelf.Unicode.DecodeSlow
import Derived.Lib.DecodeNEq
import Derived.Lib.ValidU
import Derived.Laws.IdiomStrings
import Derived.Test.YtffjomnnkilhgaaGreatDoorShelf
import Derived.Deep.WholeRow
import Derived.Laws.Tables
import Derived.Laws.Bits64b
import Derived.Lib.TrailingZeros
import Derived.RangeFuncFrom
import Derived.RangeFuncBound
import Derived.RangeFuncLeaves
import Derived.OrdersIn
import Derived.RangeFuncCalls
set_option linter.unusedVariables false
set_option linter.unusedSimpArgs false
set_option linter.unusedSectionVars false
set_option maxRecDepth 100000
set_option maxHeartbeats 32000000
open Array renaming getD_eq_getD_getElem?->lZ,getElem?_eq_none->UX,getElem?_setIfInBounds_ne->pH,replicate->fh,replicate_succ->rz,replicate_zero->ru
open Bool renaming and_eq_true->cR,or_eq_true->eU
open Go renaming AbidesFrom->DW,Calls->aX,CallsIn->asx,Exit->J1,Good->mS,LeavesInM->agy,NoPanic->pR,Oper->gV,PanicEntry->DU,Program->iX,TypeId->dx,Value->ay,World->ak,YieldAt->arX
open Go.Code renaming region->AR
open Go.Fence renaming wide->mH
open Go.Instr renaming index->awF,makeFunc->A8
open Go.IntKind renaming wrap_i64->UT,wrap_u64->agz
open Go.IntWalk renaming u8_in->A0
open Go.Lib renaming ctz->Cb,goFieldsP->kQ,hid->ae
open Go.Op renaming equalIn->acV
open Go.Oper renaming semAt_some->ze,upon->Ca,uponIn->awA,wp->ak8,wp_mono->ass
open Go.Proofs.Tryz renaming func146->asm,func198->UC,func225->asc,ntmps146->aoQ,ntmps225->aoH,prog->ah,underlying306->iK
open Go.Region renaming binds->mF,free_spec->Hz,noSelect->fK,noSelect_spec->Hy,ready->bZ,wanted->gj
open Go.RowKit renaming Below->aI
open Go.RowKit.Below renaming heap_alloc->aC,heap_setCell->az,refl->aB
open Go.Sem renaming run_bind->dZ
open Go.Value renaming string->DM
open Go.World renaming alloc_heap_new->Y2,cell?_alloc_lt->aV,cell?_of_block->fq,ownsRow_nil->bS,putObj_heap_other->kB,putObj_heap_same->Uo,size_alloc->bM
open Int renaming tdiv_eq_ediv_of_nonneg->M7,tmod_eq_emod_of_nonneg->yq
open List renaming append_assoc->kP,append_toArray->sS,cons_append->iT,cons_lt_cons_iff->YE,filter_append->qm,filter_eq_nil_iff->yl,flatMap_cons->Rc,flatMap_def->tU,foldl_append->afM,getD_eq_getElem?_getD->aw,getElem?_append_left->dF,getElem?_append_right->gA,getElem?_eq_getElem->ar,getElem?_map->bp,getElem?_replicate->cu,getElem_mem->eu,length->awD,length_append->bh,length_cons->cI,length_drop->C0,length_map->jx,length_nil->gX,length_set->bW,map_append->cQ,map_congr_left->rW,map_cons->dM,mem_cons_of_mem->bq,mem_cons_self->bE,mem_filter->J0,mem_of_getElem?->aS,mem_range->acZ,mergeSort_perm->CY,nil_append->eZ,push_toArray->vB,range->jL,range'->JT,range_eq_range'->Zb,replicate->aQ,set_append_left->uW,set_append_right->cU,set_cons_succ->ai,set_cons_zero->aj,size_toArray->mf,take_append_getElem->Ra,take_length->dH
open Nat renaming le_of_lt->ij,le_refl->au,le_trans->aZ,lt_irrefl->abo,lt_of_le_of_lt->qj,lt_of_lt_of_le->bI,lt_or_ge->fe,lt_succ_self->rq,mul_one->awC,reduceAdd->uH,reduceSub->Dt,testBit_and->ajX,testBit_or->ak9,testBit_succ->agu,testBit_two_pow_mul->oF,zero_add->gW,zero_le->aW
open Ne renaming symm->dB
open Option renaming getD_some->fT
open Option.some renaming inj->aJ
namespace Go.Proofs.Ts
open Go Go.RowKit
theorem Tryz.ag4:(Tryz.prog.info? 4).map (λi=>(i.zero,i.size,i.bytes))=some (some (.bool false),1,1):=by kernel_rfl
theorem Oj(n:Nat):madeCells #[.bool false] n=((aQ n false).map Value.bool).toArray:=by apply Array.ext';rw[toList_madeCells_one];simp
def mj(w:ak)(db n:Nat):ak:=(((w.alloc (.cells #[aP db] 158)).alloc (.cells (madeCells #[.bool false] n) 4)).alloc (.cells #[.slice (some ⟨w.heap.size+1,0,none⟩) n n] 151)).alloc (.cells #[Jo w.heap.size] 383)
theorem Ar(w:ak)(db n j:Nat)(h:j<w.heap.size):(mj w db n).heap[j]?=w.heap[j]?:=by unfold mj;rw[aC _ _ _ (by simp;omega),aC _ _ _ (by simp;omega),aC _ _ _ (by simp;omega),aC _ _ _ h]
theorem JY.start{B db:Nat}{V:ay}{D:List DS}{w:ak}(SG:w.heap[db]?=some (.cells #[V] 172 (0,0)))(hrows:RowsIn B w V D)(aez:V.ownBlock≠some db):JY B w.heap.size db V D (aQ D.length false) (mj w db D.length):=by
 have aed:=lt_of_heap SG;have old:=Ar w db D.length;refine⟨aed,(old _ aed).trans SG,?_,?_,?_,?_,hrows.kept λk _ hk=>old k hk,λg hg=>⟨(hrows.row.lt g hg).2,λe=>aez (e▸hg)⟩,λi s g hi hg=>((hrows.jw i s hi).lt g hg).2,by simp⟩;·unfold mj;rw[aC _ _ _ (by simp<;>omega),aC _ _ _ (by simp<;>omega),aC _ _ _ (by simp<;>omega)];exact heap_alloc_new _ _
 ·unfold mj;rw[aC _ _ _ (by simp<;>omega),aC _ _ _ (by simp<;>omega),<-Oj];have:=heap_alloc_new (w.alloc (.cells #[aP db] 158)) (.cells (madeCells #[.bool false] D.length) 4);simpa using this
 ·unfold mj;rw[aC _ _ _ (by simp)];have:=heap_alloc_new ((w.alloc (.cells #[aP db] 158)).alloc (.cells (madeCells #[.bool false] D.length) 4)) (.cells #[sL (w.heap.size+1) D.length D.length] 151);simpa using this
 ·unfold mj;have:=heap_alloc_new (((w.alloc (.cells #[aP db] 158)).alloc (.cells (madeCells #[.bool false] D.length) 4)).alloc (.cells #[sL (w.heap.size+1) D.length D.length] 151)) (.cells #[Jo w.heap.size] 383);simpa using this
theorem lH(B db:Nat)(V:ay)(D:List DS)(w:ak)(SG:w.heap[db]?=some (.cells #[V] 172 (0,0)))(hrows:RowsIn B w V D)(aez:V.ownBlock≠some db)(h0:0<D.length)(hlen:D.length<=1000000)(hz:∀(i:Nat)s,D[i]?=some s->s.below=0)(c ρ:Nat->Nat)(hc:∀i,c i<=1000000)(hST:∀(i:Nat)s,D[i]?=some s->s.aY.length<=300/\(∀e∈s.aY,e.2<D.length/\ρ e.2<ρ i)/\c i=(if s.final then 1 else 0)+(s.aY.map λe=>c e.2).sum):aX ah 142 #[aP db] w λe w'=>e= .returned (.tuple #[])/\∃D' wR,w'.heap[db]?=some (.cells #[V] 172 (0,0))/\RowsIn B w' V D'/\Mod (λj=>V.ownBlock=some j) w w'/\Fj c ρ (ρ 0) D (aQ D.length false) D' wR/\wR[0]?=some true/\Clo D wR:=by
 have aed:=lt_of_heap SG;obtain⟨m,hm⟩:∃m,D.length=m+1:=⟨D.length-1,by omega⟩;obtain⟨g,cap,hV⟩:∃g cap,V=sL g D.length cap:=by have hr:=hrows.row;rw[hm]at hr;obtain⟨g,cap,e⟩:=bX hr;exact⟨g,cap,by rw[hm];exact e⟩
 have hVl:∀k,V.ownBlock=some k->k<w.heap.size:=λk e=>(hrows.row.lt k e).2;obtain⟨i0,hi,hz0,hz1,hz2⟩:=info_parts Tryz.ag4;have hmk:∀W:ak,(Instr.makeSlice 151 (iV D.length) (iV D.length)).run ah W= .ok (sL W.heap.size D.length D.length) (W.alloc (.cells (madeCells #[.bool false] D.length) 4)):=λW=>by have:=run_make (P:=ah) W 151 4 i0 (.bool false) Tryz.underlying151 hi hz0 .i64 .i64 D.length D.length (by omega) (Int.le_refl _) (by rw[hz2];omega) (by omega);rw[hz1]at this;simpa[Value.cells]using this
 have hmf:∀(fn:Fn)(first cap:Array ay)(w:ak),(A8 fn first cap).run ah w= .ok (.func fn first cap) w:=λ_ _ _ _=>rfl;have d0:w.cell? (aD db 0)=some (sL g D.length cap):=by rw[<-hV];exact aq SG
 have HZ:=ae hz;have HC:=ae hc;have HS:=ae hST;have HV:=ae hV;have HM:=ae hm;clear hi hz hc hST hV hm hz0 hz1 hz2;unfold aP;go_enter Tryz.func142,Tryz.ntmps142;go_wp2_with fail;have hst:=JY.start SG hrows aez;refine(Tp B w.heap.size db V c ρ HC D HS hlen (ρ 0+1) 0 D (aQ D.length false) (mj w db D.length) (by omega) h0 (λi s hi=>⟨s.below,hi⟩) rfl (λi s hi _=>⟨λe=>(by rw[cu]at e;split at e<;>cases e),λ_=>HZ i s hi⟩) (λi s hi e=>(by rw[cu]at e;split at e<;>cases e)) hst).mono ?_;rintro e w2⟨rfl,D',wR,hcn,hmod,htu,h0',Xb⟩;go_wp2_with fail;refine bodyPost_end (results_none rfl _ _ _) rfl ?_;refine⟨rfl,D',wR,hcn.Qz,hcn.rows,⟨hmod.os,hmod.tape,hmod.output,aZ (by unfold mj;simp;omega) hmod.size,λj hj hn=>(hmod.block j (by unfold mj;simp;omega) ?_).trans (Ar w db D.length j hj)⟩,htu,h0',Xb⟩;rintro(e|e);·exact hn e
 ·omega
structure mM (w:ak) (db:Nat) (R:Nat->Prop) (Λ:Nat->List fJ) (ρ:Nat->Nat) (D:List DS):Prop where
 mem:∃ V,w.heap[db]?=some (.cells #[V] 172 (0,0))/\RowsIn 0 w V D
 root:R 0/\ρ 0<=1000000
 state:∀ i,R i -> ∃ s,D[i]?=some s/\Asc s.aY/\s.below=(Λ i).length/\Λ i=fG s.final s.aY Λ /\ ∀ e∈s.aY,R e.2/\ρ e.2 < ρ i
def jY(w:ak):ak:=((((w.alloc (.cells #[.slice none 0 0] 172)).alloc (.cells #[aP w.heap.size] 158)).alloc (.map #[] 0)).alloc (.cells #[.map (some (w.heap.size+2))] 276)).alloc (.cells #[Oe w.heap.size] 376)
theorem IV(w:ak)(j:Nat)(h:j<w.heap.size):(jY w).heap[j]?=w.heap[j]?:=by unfold jY;rw[aC _ _ _ (by simp;omega),aC _ _ _ (by simp;omega),aC _ _ _ (by simp;omega),aC _ _ _ (by simp;omega),aC _ _ _ h]
theorem wD(w:ak):aI w.heap.size w (jY w):=⟨rfl,rfl,rfl,by unfold jY;simp;omega,λj hj=>IV w j hj⟩
theorem sJ.start(w:ak):sJ w.heap.size [] [] (.slice none 0 0) (jY w):=by
 refine⟨?_,?_,?_,?_,?_,RowsIn.empty _ _⟩;·unfold jY;rw[aC _ _ _ (by simp<;>omega),aC _ _ _ (by simp<;>omega),aC _ _ _ (by simp<;>omega),aC _ _ _ (by simp<;>omega)];exact heap_alloc_new _ _
 ·unfold jY;rw[aC _ _ _ (by simp<;>omega),aC _ _ _ (by simp<;>omega),aC _ _ _ (by simp<;>omega)];have:=heap_alloc_new (w.alloc (.cells #[.slice none 0 0] 172)) (.cells #[aP w.heap.size] 158);simpa using this
 ·have:=bV.made aP ((w.alloc (.cells #[.slice none 0 0] 172)).alloc (.cells #[aP w.heap.size] 158));have hs:((w.alloc (.cells #[.slice none 0 0] 172)).alloc (.cells #[aP w.heap.size] 158)).heap.size=w.heap.size+2:=by simp
  rw[hs]at this;refine this.of_block ?_;unfold jY;rw[aC _ _ _ (by simp<;>omega),aC _ _ _ (by simp<;>omega)]
 ·unfold jY;rw[aC _ _ _ (by simp<;>omega)];have:=heap_alloc_new (((w.alloc (.cells #[.slice none 0 0] 172)).alloc (.cells #[aP w.heap.size] 158)).alloc (.map #[] 0)) (.cells #[.map (some (w.heap.size+2))] 276);simpa using this
 ·unfold jY;have:=heap_alloc_new ((((w.alloc (.cells #[.slice none 0 0] 172)).alloc (.cells #[aP w.heap.size] 158)).alloc (.map #[] 0)).alloc (.cells #[.map (some (w.heap.size+2))] 276)) (.cells #[Oe w.heap.size] 376);simpa using this
def ud(M:List (Nat×Nat))(i:Nat):Nat:=match M[i]? with|some p=>p.1|none=>0
def rE(M:List (Nat×Nat))(L:Nat->List fJ)(i:Nat):Nat:=match M[i]? with|some p=>(L p.1).length|none=>0
theorem nY{M:List (Nat×Nat)}{i:Nat}{p:Nat×Nat}(h:M[i]?=some p):ud M i=p.1:=by simp[ud,h]
theorem yx{M:List (Nat×Nat)}{L:Nat->List fJ}{i:Nat}{p:Nat×Nat}(h:M[i]?=some p):rE M L i=(L p.1).length:=by simp[rE,h]
theorem Met.all{G:rU}{mS:Nat->Prop}{H root:Nat}{V V':ay}{w w':ak}{M:List (Nat×Nat)}{D:List DS}(h:Met G mS H root [] [] V w M D V' w')(k:Nat)(s:DS)(hk:D[k]?=some s):∃n nd,M[k]?=some (n,k)/\G n=some nd/\s.final=nd.final/\s.below=0/\s.aY=nd.aY.map (λe=>(e.1,(get M e.2).getD 0))/\∀e∈nd.aY,M[(get M e.2).getD 0]?=some (e.2,(get M e.2).getD 0):=by have hcl:=λk hk=>h.closed k (aW _) hk;obtain⟨n,s',nd,h1,h2,h3,h4,h5,h6,h7⟩:=hcl k (List.getElem?_eq_some_iff.1 hk).1;rw[hk]at h2;cases h2;refine⟨n,nd,h1,h3,h4,h5,h6,λe he=>?_⟩;obtain⟨x,hx⟩:=Option.isSome_iff_exists.1 (h7 e he);rw[hx,fT];obtain⟨j,hj⟩:=List.getElem?_of_mem (dX hx);obtain⟨n',s2,nd2,g1,_⟩:=hcl j (by rw[<-h.len];exact(List.getElem?_eq_some_iff.1 hj).1);rw[hj]at g1;have:=congrArg Prod.snd (aJ g1);simp only at this;rw[this]at hj⊢;exact hj
theorem D6(f:Bool)(es:List (UInt8×Nat))(L:Nat->List fJ):(fG f es L).length=(if f then 1 else 0)+(es.map λe=>(L e.2).length).sum:=by
 unfold fG;rw[bh,List.length_flatMap];congr 1;·split<;>rfl
 ·simp
theorem J5(f:Bool)(es:List (UInt8×Nat))(L Λ:Nat->List fJ)(g:Nat->Nat)(h:∀e∈es,Λ (g e.2)=L e.2):fG f (es.map λe=>(e.1,g e.2)) Λ=fG f es L:=by unfold fG;rw[List.flatMap_map];congr 1;rw[tU,tU];congr 1;exact rW λe he=>by simp only;rw[h e he]
theorem Oa(s:St)(B bb kb ib:Nat)(w:ak)(hst:fZ B bb kb ib w s)(mS:Nat->Prop)(ρ:Nat->Nat)(L:Nat->List fJ)(Af:∀n,mS n->∃nd,s.G n=some nd/\nd.aY.length<=300/\∀e∈nd.aY,mS e.2/\ρ e.2<ρ n)(Je:∀M:List (Nat×Nat),Apart M->(∀p∈M,mS p.1)->M.length<=1000000)(hL:∀n nd,mS n->s.G n=some nd->Asc nd.aY/\L n=fG nd.final nd.aY L/\(L n).length<=1000000)(root:Nat)(hroot:mS root)(hρr:ρ root<=1000000):aX ah 140 #[aP root] w λe w'=>e= .returned (aP w.heap.size)/\aI w.heap.size w w'/\∃R Λ ρ' D,mM w' w.heap.size R Λ ρ' D/\Λ 0=L root:=by
 have hmm:=@run_makeMap ah;have hmf:∀(fn:Fn)(first cap:Array ay)(w:ak),(A8 fn first cap).run ah w= .ok (.func fn first cap) w:=λ_ _ _ _=>rfl;have HG:=ae Af;have HF:=ae Je;have HL:=ae hL;clear Af Je hL;unfold aP;go_enter Tryz.func140,Tryz.ntmps140;go_wp2_with fail;have hms:=sJ.start w;refine(VP s B bb kb ib w.heap.size w hst rfl mS ρ HG HF (ρ root+1) root [] [] (.slice none 0 0) (jY w) (rq _) hroot (λp hp=>by cases hp) List.nodup_nil rfl hms (wD w)).mono ?_;rintro e w2⟨M,D,V,rfl,hm⟩;have OC:M[0]?=some (root,0):=jd (hm.first rfl) (by simp);have hD0:0<D.length:=by rw[<-hm.len];exact(List.getElem?_eq_some_iff.1 OC).1
 have hDl:D.length<=1000000:=by rw[<-hm.len];exact HF M hm.apart hm.good
 have hV5:=hm.meet.rows.past;have c1:w2.cell? (aD (w.heap.size+1) 0)=some (pT w.heap.size):=aq hm.meet.cd;have hall:=hm.all;have Yi:=ae hm.meet;have hcb:∀i,rE M L i<=1000000:=λi=>by unfold rE;cases hi:M[i]? with|none=>simp|some p=>have hp:=hm.good p (aS hi);obtain⟨nd,h1,_⟩:=HG.out p.1 hp;exact(HL p.1 nd hp h1).2.2
 have hsum:∀(i:Nat)st,D[i]?=some st->st.aY.length<=300/\(∀e∈st.aY,e.2<D.length/\ρ (ud M e.2)<ρ (ud M i))/\rE M L i=(if st.final then 1 else 0)+(st.aY.map λe=>rE M L e.2).sum:=λi st hi=>by
  obtain⟨n,nd,h1,h2,h3,h4,h5,h6⟩:=hall i st hi;have hgn:=hm.good _ (aS h1);obtain⟨qJ,g1,g2,g3⟩:=HG.out n hgn;rw[h2]at g1;cases g1;obtain⟨l1,l2,l3⟩:=HL.out n nd hgn h2;refine⟨by rw[h5];simpa using g2,λe he=>?_,?_⟩;·rw[h5]at he;obtain⟨e0,he0,rfl⟩:=List.mem_map.1 he;have:=h6 e0 he0;refine⟨by rw[<-hm.len];exact(List.getElem?_eq_some_iff.1 this).1,?_⟩;rw[nY this,nY h1];exact(g3 e0 he0).2
  ·rw[yx h1,l2,D6,h3,h5,List.map_map];congr 2;refine rW λe he=>?_;simp only[Function.comp];rw[yx (h6 e he)]
 have aji:=ae hsum;have uE:=ae hall;have HCB:=ae hcb;have ajy:=ae hm;clear hsum hall hcb hm;go_wp2_with fail;refine(lH (w.heap.size+5) w.heap.size V D w2 Yi.Qz Yi.rows (λe=>by have:=hV5 _ e;omega) hD0 hDl (λi st hi=>by obtain⟨_,_,_,_,_,h,_⟩:=uE.out i st hi;exact h) (rE M L) (λi=>ρ (ud M i)) HCB.out aji.out).mono ?_;rintro e w3⟨rfl,D',dn,hd3,hr3,uL,htu,h03,acb⟩;have c3:w3.cell? (aD (w.heap.size+1) 0)=some (pT w.heap.size):=(uL.cell (p:=(aD (w.heap.size+1) 0)) (lt_of_cell c1) (λe=>by have:=hV5 _ e;simp only at this;omega)).trans c1;have yU:aI w.heap.size w w3:=(wD w).trans ((ajy.steps.below (λk h=>by cases h) (by unfold jY;simp;omega)).trans ⟨uL.os,uL.tape,uL.output,uL.size,λj hj=>uL.block j (by have:=Yi.size;omega) (λe=>by have:=hV5 _ e;omega)⟩);have HTU:=ae htu;have aow:=ae acb;have Ui:=ae hr3;have HD3:=ae hd3;clear htu acb hr3 hd3 uL;go_wp2_with fail;go_ret;refine⟨rfl,yU,λi=>dn[i]?=some true,λi=>L (ud M i),λi=>ρ (ud M i),D',⟨⟨V,HD3.out,Ui.agY⟩,⟨h03,by show ρ (ud M 0)<=_;rw[nY OC];exact hρr⟩,λi hi=>?_⟩,by simp only;rw[nY OC]⟩;have hil:i<D.length:=by have h1:=(List.getElem?_eq_some_iff.1 hi).1;have h2:=HTU.XC;rw[List.length_replicate]at h2;omega
 have hDi:D[i]?=some D[i]:=ar hil;obtain⟨b,g1,g2⟩:=HTU.at_ i _ hDi;have hb:b=rE M L i:=by
  rcases g2 with⟨_,g3⟩|⟨_,g3,_⟩;·rw[hi,cu,if_pos hil]at g3;cases g3
  ·exact g3
 obtain⟨n,nd,h1,h2,h3,h4,h5,h6⟩:=uE.out i _ hDi;have hgn:=ajy.good _ (aS h1);obtain⟨l1,l2,l3⟩:=HL.out n nd hgn h2;obtain⟨_,s2,_⟩:=aji.out i _ hDi;refine⟨_,g1,?_,?_,?_,λe he=>⟨aow i _ hDi hi e he,(s2 e he).2⟩⟩;·show Asc D[i].aY;rw[h5];exact List.pairwise_map.2 l1
 ·show b=_;rw[hb,yx h1,nY h1]
 ·show L (ud M i)=fG D[i].final D[i].aY _;rw[nY h1,h3,h5,l2];exact(J5 nd.final nd.aY L _ (λt=>(get M t).getD 0) (λe he=>by rw[nY (h6 e he)])).symm
theorem RowsIn.S7{B:Nat}{w w':ak}{V:ay}{D:List DS}(h:RowsIn B w V D)(hk:∀(k:Nat)cs t r,w.heap[k]?=some (.cells cs t r)->t≠168->w'.heap[k]?=w.heap[k]?):RowsIn B w' V D:=by
 have go:∀{e size n:Nat}{v:ay}{xs:List ay},e≠168->w.ownsRow 0 e size v n xs->w'.ownsRow 0 e size v n xs:=λhe hr=>aO hr λk hk'=>by
  rcases hr.2 with⟨rfl,_⟩|⟨g,cap,cur,rfl,_,hg,_⟩;·cases hk'
  ·cases hk';exact hk _ _ _ _ hg he
 exact⟨go (by decide) h.row,h.past,λi s hi=>go (by decide) (h.jw i s hi),h.uP,h.apart,h.lX⟩
theorem mM.kept{w w':ak}{db:Nat}{R:Nat->Prop}{Λ:Nat->List fJ}{ρ:Nat->Nat}{D:List DS}(h:mM w db R Λ ρ D)(hk:∀(k:Nat)cs t r,w.heap[k]?=some (.cells cs t r)->t≠168->w'.heap[k]?=w.heap[k]?):mM w' db R Λ ρ D:=by obtain⟨V,h1,h2⟩:=h.mem;exact⟨⟨V,(hk _ _ _ _ h1 (by decide)).trans h1,h2.S7 hk⟩,h.root,h.state⟩
theorem bT{w w':ak}{B e size n:Nat}{v:ay}{xs:List ay}(hr:w.ownsRow B e size v n xs)(hk:∀(k:Nat)cs r,w.heap[k]?=some (.cells cs e r)->w'.heap[k]?=w.heap[k]?):w'.ownsRow B e size v n xs:=aO hr λk hk'=>by
 rcases hr.2 with⟨rfl,_⟩|⟨g,cap,cur,rfl,_,hg,_⟩;·cases hk'
 ·cases hk';exact hk _ _ _ hg
theorem D5{d:ByteArray}{t:List UInt8}(h:t∈dc d):0<t.length/\t.length<=16:=by unfold dc at h;rw[J0,List.mem_map]at h;obtain⟨⟨f,hf,rfl⟩,Ue⟩:=h;have hne:=(uu d.data.toList [] (by simp) f hf).1;refine⟨?_,by simpa using Ue⟩;unfold iq;rw[jx];exact List.length_pos_iff.2 hne
theorem xK(d:ByteArray):(dc d).length<=d.size+1:=by
 unfold dc;have h1:=List.length_filter_le (λw:List UInt8=>decide (w.length<=16)) ((fields d.data.toList []).map iq);have h2:=nu d.data.toList [];rw[jx]at h1;have h3:d.data.toList.length=d.size:=by simp
 omega
theorem Ce:∀(docs:List ByteArray),(∀d∈docs,d.size<=200)->(docs.flatMap dc).length<=201*docs.length|[],_=>by simp|d::ds,h=>by have ih:=Ce ds λx hx=>h x (by simp[hx]);have h1:=xK d;have h2:=h d (by simp);rw[Rc,bh,cI];omega
theorem xO{docs:List ByteArray}{x:List UInt8}(h:bU ((docs.map dc).take docs.length) x≠[]):∃d∈docs,x∈dc d:=by obtain⟨j,hj⟩:=List.exists_mem_of_ne_nil _ h;obtain⟨ws,h1,h2⟩:=(KU _ _ _).1 hj;have h3:=aS h1;obtain⟨d,h4,rfl⟩:=List.mem_map.1 (List.mem_of_mem_take h3);exact⟨d,h4,h2⟩
theorem fZ.grow{B bb kb ib:Nat}{w W:ak}{s:St}(h:fZ B bb kb ib w s){L:Nat}{nd:Nd}{c:UInt8}{v:ay}(hG:s.G L=some nd)(hM:W.heap[w.heap.size]?=some (.cells #[.bool false,.slice none 0 0] 282 (0,0)))(hmv:bL w nd.v W v)(hne:v.ownBlock≠some w.heap.size)(hrow:W.ownsRow 0 284 2 v (nd.aY.length+1) (Ts.dt (nd.aY++[(c,w.heap.size)]))):fZ B bb kb ib (W.setCell (aD L 1) v) (pD s L w.heap.size c nd v):=by
 obtain⟨a1,a2⟩:=h.xk;have lt:∀{x:Nat}{o:Obj},w.heap[x]?=some o->x<w.heap.size:=λhx=>(Array.getElem?_eq_some_iff.1 hx).1;have aiR:=lt (h.nodes.node L nd hG);have hLb:=h.xh hG;have hvL:nd.v.ownBlock≠some L:=λe=>(h.jW hG e).2.2.2 L nd hG rfl;have aiW:B<=w.heap.size:=aZ (h.nodes.ge L nd hG).1 (ij aiR);have old:∀k,k<w.heap.size->k≠L->nd.v.ownBlock≠some k->(W.setCell (aD L 1) v).heap[k]?=w.heap[k]?:=λk hk hkL T6=>(az W _ _ k hkL).trans (hmv.block hk T6);have adh:(W.setCell (aD L 1) v).heap[L]?=some (.cells #[.bool nd.final,v] 282 (0,0)):=by have hWL:W.heap[L]?=some (.cells #[.bool nd.final,nd.v] 282 (0,0)):=(hmv.block aiR hvL).trans (h.nodes.node L nd hG);have:=heap_setCell_same W L 1 _ _ v hWL;simpa using this
 have alm:(W.setCell (aD L 1) v).heap[w.heap.size]?=some (.cells #[.bool false,.slice none 0 0] 282 (0,0)):=(az W _ _ _ (by show w.heap.size≠L;omega)).trans hM;have Nh:∀g,v.ownBlock=some g->g≠L/\(nd.v.ownBlock=some g\/w.heap.size<g):=λg hg=>by
  rcases hmv.lies with e|⟨g',e,hg'⟩;·rw[hg]at e;exact⟨λx=>hvL (by rw[<-e,x]),.inl e.symm⟩
  ·rw[hg]at e;cases e;have:g≠w.heap.size:=λx=>hne (by rw[hg,x]);exact⟨by omega,.inr (by omega)⟩
 have agG:kp B v:=hmv.past (h.nodes.ge L nd hG).2 aiW;have dom:∀k,(s.G k).isSome->((pD s L w.heap.size c nd v).G k).isSome:=λk hk=>by
  simp only[pD,upd];split;·rfl
  ·split;·rfl
   ·exact hk
 have cases':∀b x,(pD s L w.heap.size c nd v).G b=some x->(b=L/\x={nd with aY:=nd.aY++[(c,w.heap.size)],v:=v})\/(b=w.heap.size/\b≠L/\x=⟨false,[],.slice none 0 0⟩)\/(b≠L/\b<w.heap.size/\s.G b=some x):=λb x hb=>by
  simp only[pD,upd]at hb;split at hb;·rename_i e;cases hb;exact .inl ⟨e,rfl⟩
  ·rename_i e;split at hb;·rename_i e';cases hb;exact .inr (.inl ⟨e',e,rfl⟩)
   ·exact .inr (.inr ⟨e,lt (h.nodes.node b x hb),hb⟩)
 refine⟨⟨λb x hb=>?_,λb x hb=>?_,λb x hb=>?_,λb b' x x' g hbb hb hb' hg=>?_⟩,h.Fe,h.Cy,h.CA,h.ne,?_,h.kn.of_block (old kb h.kn.lt (λe=>hLb.2.1 e.symm) (λe=>(h.jW hG e).2.1 rfl)),h.ids.of_block (old ib h.ids.lt (λe=>hLb.2.2 e.symm) (λe=>(h.jW hG e).2.2.1 rfl)),λp hp=>dom _ (h.zY p hp),λp hp=>dom _ (h.Lj p hp),λb x hb p hp=>?_⟩;·
  rcases cases' b x hb with⟨rfl,rfl⟩|⟨rfl,_,rfl⟩|⟨_,_,hb'⟩;·exact⟨(h.nodes.ge b nd hG).1,agG⟩
  ·exact⟨aiW,λk hk=>by cases hk⟩
  ·exact h.nodes.ge b x hb'
 ·rcases cases' b x hb with⟨rfl,rfl⟩|⟨rfl,_,rfl⟩|⟨hbL,hbl,hb'⟩;·exact adh
  ·exact alm
  ·rw[old b hbl hbL (λe=>(h.jW hG e).2.2.2 b x hb' rfl)];exact h.nodes.node b x hb'
 ·rcases cases' b x hb with⟨rfl,rfl⟩|⟨rfl,_,rfl⟩|⟨hbL,hbl,hb'⟩;·
   have hl:(nd.aY++[(c,w.heap.size)]).length=nd.aY.length+1:=by simp
   simp only[hl];exact aO hrow λg hg=>az W _ _ g (Nh g hg).1
  ·exact bS _ _ _ _
  ·refine aO (h.nodes.row b x hb') λg hg=>old g ((h.nodes.row b x hb').lt g hg).2 ?_ ?_;·exact(h.jW hb' hg).2.2.2 L nd hG
   ·intro e;exact h.nodes.apart L b nd x g (dB hbL) hG hb' e hg
 ·rcases cases' b x hb with⟨rfl,rfl⟩|⟨rfl,_,rfl⟩|⟨hbL,hbl,hb1⟩;·
   rcases cases' b' x' hb' with⟨rfl,rfl⟩|⟨rfl,_,rfl⟩|⟨am2,amZ,Ai⟩;·exact absurd rfl hbb
   ·intro e;cases e
   ·intro e;rcases(Nh g hg).2 with e'|e';·exact h.nodes.apart b b' nd x' g hbb hG Ai e' e
    ·have:=((h.nodes.row b' x' Ai).lt g e).2;omega
  ·cases hg
  ·rcases cases' b' x' hb' with⟨rfl,rfl⟩|⟨rfl,_,rfl⟩|⟨am2,amZ,Ai⟩;·
    intro e;rcases(Nh g e).2 with e'|e';·exact h.nodes.apart b b' x nd g hbb hb1 hG hg e'
    ·have:=((h.nodes.row b x hb1).lt g hg).2;omega
   ·intro e;cases e
   ·exact h.nodes.apart b b' x x' g hbb hb1 Ai hg
 ·rw[old bb (lt h.FB) (λe=>hLb.1 e.symm) (λe=>(h.jW hG e).1 rfl)];exact h.FB
 ·rcases cases' b x hb with⟨rfl,rfl⟩|⟨rfl,_,rfl⟩|⟨hbL,hbl,hb'⟩;·
   rcases List.mem_append.1 hp with hp|hp;·exact dom _ (h.FV b nd hG p hp)
   ·simp at hp;subst hp;simp only[pD,upd];split;·rfl
    ·simp
  ·cases hp
  ·exact dom _ (h.FV b x hb' p hp)
theorem fZ.close{B bb kb ib:Nat}{w:ak}{s:St}(h:fZ B bb kb ib w s){L:Nat}{nd:Nd}(hG:s.G L=some nd):fZ B bb kb ib (w.setCell (aD L 0) (.bool true)) (ou s L nd):=by
 have hLb:=h.xh hG;have old:∀k,k≠L->(w.setCell (aD L 0) (.bool true)).heap[k]?=w.heap[k]?:=λk hk=>az w _ _ k hk;have adh:(w.setCell (aD L 0) (.bool true)).heap[L]?=some (.cells #[.bool true,nd.v] 282 (0,0)):=by have:=heap_setCell_same w L 0 _ _ (.bool true) (h.nodes.node L nd hG);simpa using this
 have dom:∀k,(s.G k).isSome->((ou s L nd).G k).isSome:=λk hk=>by
  simp only[ou,upd];split;·rfl
  ·exact hk
 have cases':∀b x,(ou s L nd).G b=some x->∃y,s.G b=some y/\x.v=y.v/\x.aY=y.aY/\((b=L/\x.final=true)\/(b≠L/\x=y)):=λb x hb=>by
  simp only[ou,upd]at hb;split at hb;·rename_i e;cases hb;subst e;exact⟨nd,hG,rfl,rfl,.inl ⟨rfl,rfl⟩⟩
  ·rename_i e;exact⟨x,hb,rfl,rfl,.inr ⟨e,rfl⟩⟩
 refine⟨⟨λb x hb=>?_,λb x hb=>?_,λb x hb=>?_,λb b' x x' g hbb hb hb' hg=>?_⟩,h.Fe,h.Cy,h.CA,h.ne,(old bb (dB hLb.1)).trans h.FB,h.kn.of_block (old kb (dB hLb.2.1)),h.ids.of_block (old ib (dB hLb.2.2)),λp hp=>dom _ (h.zY p hp),λp hp=>dom _ (h.Lj p hp),λb x hb p hp=>?_⟩;·obtain⟨y,hy,e1,_,_⟩:=cases' b x hb;rw[e1];exact h.nodes.ge b y hy
 ·obtain⟨y,hy,e1,_,⟨rfl,e3⟩|⟨e2,rfl⟩⟩:=cases' b x hb;·rw[hG]at hy;cases hy;rw[e1,e3];exact adh
  ·rw[old b e2];exact h.nodes.node b _ hy
 ·obtain⟨y,hy,e1,e2,_⟩:=cases' b x hb;rw[e1,e2];exact aO (h.nodes.row b y hy) λg hg=>old g ((h.jW hy hg).2.2.2 L nd hG)
 ·obtain⟨y,hy,e1,_,_⟩:=cases' b x hb;obtain⟨y',hy',e1',_,_⟩:=cases' b' x' hb';rw[e1]at hg;rw[e1'];exact h.nodes.apart b b' y y' g hbb hy hy' hg
 ·obtain⟨y,hy,_,e2,_⟩:=cases' b x hb;rw[e2]at hp;exact dom _ (h.FV b y hy p hp)
def jU(w:ak)(v:ay)(ss:List ByteArray):Prop:=∃a cap,v= .slice a ss.length cap/\∀i(h:i<ss.length),∃b off,a=some ⟨b,off,none⟩/\w.cell? ⟨b,off+i,none⟩=some (.string ss[i])
def wH(ts:List ByteArray)(k:Nat):List UInt8:=if k=0 then[]else(ts.getD (k-1) ByteArray.empty).data.toList
def kI(ts:List ByteArray):List fJ:=ts.map λt=>t.data.toList
def Stop(t u:List UInt8)(p:Nat):Prop:=p<=t.length/\p<=u.length/\t.take p=u.take p/\(p=t.length\/p=u.length\/t.getD p 0≠u.getD p 0)
theorem LY(t u:ByteArray)(q:Nat)(h1:q<t.size)(h2:q<u.size)(h:t[q]=u[q])(hc:t.data.toList.take q=u.data.toList.take q):t.data.toList.take (q+1)=u.data.toList.take (q+1):=by rw[xM t q h1,xM u q h2,hc,h]
theorem BC(s:ByteArray)(k:Nat)(h:k<s.size):s.data.toList.getD k 0=s[k]:=Xp s k h
theorem U8(w:ak):fZ w.heap.size (w.heap.size+1+1) w.heap.size (w.heap.size+1) ((((w.alloc (.map #[] 0)).alloc (.map #[] 0)).alloc (.cells #[.map (some w.heap.size),.map (some (w.heap.size+1))] 278)).alloc (.cells #[.bool false,.slice none 0 0] 282)) (start (w.heap.size+1+1+1)):=by
 have only:∀b nd,(start (w.heap.size+1+1+1)).G b=some nd->b=w.heap.size+1+1+1/\nd=⟨false,[],.slice none 0 0⟩:=λb nd h=>by
  simp only[start,upd]at h;split at h;·rename_i e;cases h;exact⟨e,rfl⟩
  ·cases h
 refine⟨⟨λb nd h=>?_,λb nd h=>?_,λb nd h=>?_,λb b' nd qJ g hne h h'=>?_⟩,by omega,by omega,by omega,by omega,?_,?_,?_,(λp hp=>by cases hp),(λp hp=>by cases hp),λb nd h p hp=>?_⟩;·obtain⟨rfl,rfl⟩:=only b nd h;exact⟨by omega,λk e=>by cases e⟩
 ·obtain⟨rfl,rfl⟩:=only b nd h;have:=heap_alloc_new (((w.alloc (.map #[] 0)).alloc (.map #[] 0)).alloc (.cells #[.map (some w.heap.size),.map (some (w.heap.size+1))] 278)) (.cells #[.bool false,.slice none 0 0] 282);simpa using this
 ·obtain⟨rfl,rfl⟩:=only b nd h;exact bS _ _ _ _
 ·obtain⟨rfl,rfl⟩:=only b nd h;obtain⟨rfl,rfl⟩:=only b' qJ h';exact absurd rfl hne
 ·rw[aC _ _ _ (by simp<;>omega)];have:=heap_alloc_new ((w.alloc (.map #[] 0)).alloc (.map #[] 0)) (.cells #[.map (some w.heap.size),.map (some (w.heap.size+1))] 278);simpa using this
 ·refine(bV.made yF w).of_block ?_;rw[aC _ _ _ (by simp<;>omega),aC _ _ _ (by simp<;>omega),aC _ _ _ (by simp<;>omega)]
 ·have:=bV.made aP (w.alloc (.map #[] 0));have hs:(w.alloc (.map #[] 0)).heap.size=w.heap.size+1:=by simp
  rw[hs]at this;refine this.of_block ?_;rw[aC _ _ _ (by simp<;>omega),aC _ _ _ (by simp<;>omega)]
 ·obtain⟨rfl,rfl⟩:=only b nd h;cases hp
theorem Kt(w:ak):aI w.heap.size w ((((w.alloc (.map #[] 0)).alloc (.map #[] 0)).alloc (.cells #[.map (some w.heap.size),.map (some (w.heap.size+1))] 278)).alloc (.cells #[.bool false,.slice none 0 0] 282)):=((((aB _ w).alloc (au _) _).alloc (by simp) _).alloc (by simp;omega) _).alloc (by simp;omega) _
theorem Nz(root:Nat):abn (start root) root [] []:=by intro nd h;simp only[nodeAt,start,upd,gX,List.getD_cons_zero,if_true]at h;cases h;rfl
theorem Ks (root:Nat):Small (start root) where
 aY:=fun b nd h=>by
  simp only [start,upd] at h
  split at h
  ·cases h; simp
  ·cases h
 ids:=fun p hp=>by cases hp
 len:=by simp [start]
theorem Ku{B bb kb ib:Nat}{w:ak}{s:St}{root:Nat}{u:List UInt8}{ns:List Nat}{W:List fJ}(h:fZ B bb kb ib w s)(hf:FI s root u ns W)(hsm:Small s){i:Nat}(hi:i<u.length):∃g cap m,w.cell? (aD (nodeAt root ns i) 1)=some (sL g (m+1) cap)/\w.cell? (aD g (m*2+1))=some (pT (nodeAt root ns (i+1)))/\m<=300:=by
 obtain⟨nd,es,hG,he⟩:=hf.step hi;obtain⟨g,cap,e1,_,e3⟩:=h.dt hG (i:=es.length) (c:=u.getD i 0) (t:=nodeAt root ns (i+1)) (by rw[he];simp);obtain⟨_,a,cap',f1,f2⟩:=h.fN hG;have hl:nd.aY.length=es.length+1:=by rw[he];simp
 rw[e1,hl]at f1;simp only[Value.slice.injEq]at f1;obtain⟨rfl,_,rfl⟩:=f1;rw[hl]at f2;exact⟨g,cap,es.length,f2,e3,by have:=hsm.aY _ nd hG;omega⟩
theorem Tryz.ZQ:(Tryz.prog.info? 284).map (λi=>(i.zero,i.size,i.bytes))=some (some (.agg #[.int .u8 0,.pointer none]),2,16):=by kernel_rfl
theorem G7(ts:List ByteArray)(h:∀t∈ts,0<t.size/\t.size<=16)(k:Nat)(hk:k<=ts.length):(wH ts k).length<=16:=by
 unfold wH;split;·simp
 ·have hlt:k-1<ts.length:=by omega
  rw[aw,ar hlt,fT];have:=(h _ (eu hlt)).2;simpa using this
theorem VZ(ts:List ByteArray)(h:∀t∈ts,0<t.size/\t.size<=16)(ha:ts.Pairwise λa b=>a.data.toList<b.data.toList)(k:Nat)(hk:k<ts.length):wH ts k<ts[k].data.toList:=by
 unfold wH;split;·
  rename_i h0;have hp:=(h _ (eu hk)).1;have hne:ts[k].data.toList≠[]:=by intro e;have hl:=congrArg awD e;rw[Array.length_toList,gX]at hl;have:ts[k].size=ts[k].data.size:=rfl;omega
  cases hh:ts[k].data.toList with|nil=>exact absurd hh hne|cons x r=>exact List.nil_lt_cons x r
 ·have hlt:k-1<ts.length:=by omega
  rw[aw,ar hlt,fT];exact List.pairwise_iff_getElem.1 ha (k-1) k hlt hk (by omega)
theorem PY:∀ (u t:List UInt8) (p:Nat),u < t->Stop t u p->p < t.length/\(p < u.length->u.getD p 0 < t.getD p 0)
 | [],t,p,h,hs=>by
  obtain ⟨h1,h2,h3,h4⟩:=hs
  simp at h2
  subst h2
  cases t with
  | nil=>exact absurd h (List.lt_irrefl [])
  | cons x r=>simp
 | c :: u,[],p,h,hs=>absurd h (List.not_lt_nil _)
 | c :: u,d :: t,0,h,hs=>by
  obtain ⟨h1,h2,h3,h4⟩:=hs
  have hne:c≠d:=by
   rcases h4 with h4 | h4 | h4
   ·simp at h4
   ·simp at h4
   ·simpa using dB h4
  refine ⟨by simp,fun _=>?_⟩
  rw [YE] at h
  simpa [hne] using h
 | c :: u,d :: t,p+1,h,hs=>by
  obtain ⟨h1,h2,h3,h4⟩:=hs
  simp only [List.take_succ_cons,List.cons.injEq] at h3
  obtain ⟨rfl,h3⟩:=h3
  have hlt:u < t:=by
   rw [YE] at h
   rcases h with h | h
   ·exact absurd h (by simp)
   ·exact h.2
  have ih:=PY u t p hlt ⟨by simpa using h1,by simpa using h2,h3,by simpa using h4⟩
  simpa using ih
theorem K9(root:Nat)(ns:List Nat)(q i:Nat)(h:i<=q):nodeAt root (ns.take q) i=nodeAt root ns i:=by unfold nodeAt;cases i with|zero=>rfl|succ i=>simp only[aw,List.getElem?_cons_succ,List.getElem?_take];rw[if_pos (by omega)]
def ae6(s:St)(t:List UInt8)(root:Nat)(ns:List Nat)(q j:Nat):Prop:=∀nd,s.G (nodeAt root ns j)=some nd->(j<t.length->∀e∈nd.aY,e.1<t.getD j 0)/\(q<j->nd.aY=[]/\nd.final=false)
structure uF (H bb kb ib root:Nat) (W:List fJ) (t:List UInt8) (ids q:Nat) (w:ak) (j:Nat) (s:St) (ns:List Nat) (wr:ak):Prop where
 st:fZ H bb kb ib wr s
 fi:FI s root (t.take j) ns W
 leaf:ae6 s t root ns q j
 small:Small s
 ids:s.ids.length<=ids
 below:aI H w wr
structure QX (H bb kb ib root:Nat) (ts:List ByteArray) (w:ak) (k:Nat) (lb:ByteArray) (s:St) (ns:List Nat) (wr:ak):Prop where
 st:fZ H bb kb ib wr s
 fi:FI s root (wH ts k) ns ((kI ts).take k)
 bare:abn s root (wH ts k) ns
 small:Small s
 ids:s.ids.length<=20 * k
 below:aI H w wr
 last:lb.data.toList=wH ts k
theorem Asc.length{es:List (UInt8×Nat)}(h:Asc es):es.length<=256:=by
 have h1:(es.map λp=>p.1.toNat).Nodup:=by rw[List.Nodup,List.pairwise_map];exact h.imp λhab=>by have:=UInt8.lt_iff_toNat_lt.1 hab;omega
 have h2:(es.map λp=>p.1.toNat)⊆jL 256:=λx hx=>by obtain⟨p,_,rfl⟩:=List.mem_map.1 hx;exact List.mem_range.2 p.1.toNat_lt
 have:=h1.length_le_of_subset h2;simpa using this
theorem La(root:Nat)(ns:List Nat)(m:Nat):nodeAt root (ns++[m]) (ns.length+1)=m:=by simp[nodeAt,aw]
theorem uF.step{H bb kb ib root ids q j:Nat}{W:List fJ}{t:List UInt8}{w wr W':ak}{s:St}{ns:List Nat}(h:uF H bb kb ib root W t ids q w j s ns wr)(hj:j<t.length){nd:Nd}{v:ay}(hG:s.G (nodeAt root ns j)=some nd)(hin:fZ H bb kb ib W' (pD s (nodeAt root ns j) wr.heap.size (t.getD j 0) nd v))(hb:aI H wr W'):uF H bb kb ib root W t ids q w (j+1) (pD s (nodeAt root ns j) wr.heap.size (t.getD j 0) nd v) (ns++[wr.heap.size]) W'/\nodeAt root (ns++[wr.heap.size]) (j+1)=wr.heap.size:=by
 have hlen:(t.take j).length=j:=by simp;omega
 have hnl:ns.length=j:=by rw[h.fi.len,hlen]
 have hna:nodeAt root (ns++[wr.heap.size]) (j+1)=wr.heap.size:=by rw[<-hnl];exact La root ns _
 have hm:s.G wr.heap.size=none:=by cases e:s.G wr.heap.size with|none=>rfl|some x=>exact absurd (lt_of_heap (h.st.nodes.node _ x e)) (abo _)
 have hi:get s.ids wr.heap.size=none:=by cases e:get s.ids wr.heap.size with|none=>rfl|some x=>have:=h.st.zY _ (dX e);rw[hm]at this;cases this
 have hlf:=h.leaf nd hG;have hne:nodeAt root ns j≠wr.heap.size:=λe=>by rw[e,hm]at hG;cases hG
 have SK:=hG;rw[<-hlen]at SK;have hfi:=h.fi.grow (c:=t.getD j 0) (v:=v) SK hm hi (hlf.1 hj);rw[hlen]at hfi;have htk:t.take j++[t.getD j 0]=t.take (j+1):=by rw[aw,ar hj,fT,Ra hj]
 rw[htk]at hfi;refine⟨⟨hin,hfi,?_,⟨?_,h.small.ids,h.small.len⟩,h.ids,h.below.trans hb⟩,hna⟩;·intro qJ hn';rw[hna]at hn';simp only[pD,upd]at hn';rw[if_neg (dB hne),if_pos trivial]at hn';cases hn';exact⟨λ_ e he=>(by cases he),λ_=>⟨rfl,rfl⟩⟩
 ·intro b x hx;simp only[pD,upd]at hx;split at hx;·
   cases hx;obtain⟨nd0,es,e1,e2⟩:=hfi.step (i:=j) (by simp;omega);have Gg:Asc (nd.aY++[(t.getD j 0,wr.heap.size)]):=by
    refine List.pairwise_append.2 ⟨?_,List.pairwise_singleton _ _,?_⟩;·obtain⟨ug,g1,g2⟩:=h.fi.leaf;rw[hlen,hG]at g1;cases g1;exact g2
    ·intro a ha b hb;simp at hb;subst hb;exact hlf.1 hj a ha
   exact aZ Gg.length (by decide)
  ·split at hx;·cases hx;simp
   ·exact h.small.aY b x hx
theorem uF.close{H bb kb ib root q:Nat}{ts:List ByteArray}{k:Nat}{w wr:ak}{s:St}{ns:List Nat}{t:ByteArray}(h:uF H bb kb ib root ((kI ts).take k) t.data.toList (20*k+16) q w t.size s ns wr)(hk:k<ts.length)(ht:t=ts[k])(hq:q<t.size){nd:Nd}(hG:s.G (nodeAt root ns t.size)=some nd):QX H bb kb ib root ts w (k+1) t (ou s (nodeAt root ns t.size) nd) ns (wr.setCell (aD (nodeAt root ns t.size) 0) (.bool true)):=by
 have hts:t.data.toList.length=t.size:=by simp
 have htk:t.data.toList.take t.size=t.data.toList:=by rw[<-hts];exact dH
 obtain⟨h1,h2⟩:=(h.leaf nd hG).2 hq;have hlast:wH ts (k+1)=t.data.toList:=by unfold wH;rw[if_neg (by omega),Nat.add_sub_cancel,aw,ar hk,fT,ht]
 have SK:=hG;rw[<-hts]at SK;have hf:=h.fi;rw[htk]at hf;have hfc:=hf.close SK h1 h2;have hW:(kI ts).take k++[t.data.toList]=(kI ts).take (k+1):=by
  have hk':k<(kI ts).length:=by simpa[kI]using hk
  rw[<-Ra hk'];simp[kI,ht]
 rw[hW]at hfc;rw[hts]at hfc;refine⟨h.st.close hG,by rw[hlast];exact hfc,?_,⟨?_,h.small.ids,h.small.len⟩,by have:=h.ids;show s.ids.length<=_;omega,h.below.setCell (h.st.nodes.ge _ nd hG).1 _,hlast.symm⟩;·rw[hlast];intro x hx;rw[hts]at hx;simp only[ou,upd,if_true]at hx;cases hx;exact h1
 ·intro b x hx;simp only[ou,upd]at hx;split at hx;·cases hx;exact h.small.aY _ nd hG
  ·exact h.small.aY b x hx
theorem Xr(v:ay)(ts:List ByteArray)(w:ak)(hv:jU w v ts)(hn:ts.length<=10000)(hsz:∀t∈ts,0<t.size/\t.size<=16)(Gg:ts.Pairwise λa b=>a.data.toList<b.data.toList):aX ah 94 #[v] w λe w'=>∃db R Λ ρ D,e= .returned (aP db)/\aI w.heap.size w w'/\mM w' db R Λ ρ D/\Λ 0=kI ts:=by
 obtain⟨a,cap,rfl,hc⟩:=hv;have hmm:=@run_makeMap ah;have HC:=ae hc;have DK:=ae hsz;have Yx:=ae Gg;go_enter Tryz.func94,Tryz.ntmps94;go_wp2_with fail;have hst:=U8 w;have hbl:=Kt w;generalize((((w.alloc (.map #[] 0)).alloc (.map #[] 0)).alloc (.cells #[.map (some w.heap.size),.map (some (w.heap.size+1))] 278)).alloc (.cells #[.bool false,.slice none 0 0] 282))=W0 at*;generalize w.heap.size+1+1+1=root at*;generalize w.heap.size+1+1=bb at*;generalize w.heap.size+1=ib at*;obtain⟨kb,hkb⟩:∃kb,kb=w.heap.size:=⟨_,rfl⟩;have alO:fZ w.heap.size bb kb ib W0 (start root):=by rw[hkb];exact hst
 have HST:=ae alO;go_loopw[5,21](λlast i wr=>∃(k:Nat)(lb:ByteArray)(s:St)(ns:List Nat),k<=ts.length/\i= .int .i64 k/\last= .string lb/\QX w.heap.size bb kb ib root ts w k lb s ns wr)(λ_ i _=>ts.length-(intOf i).toNat);case atStart=>exact⟨0,⟨#[]⟩,start root,[],aW _,rfl,rfl,⟨HST,FI.start root,Nz root,Ks root,aW _,hbl,rfl⟩⟩
 case round=>
  obtain⟨k,lb,s,ns,hk,rfl,rfl,hR⟩:=hrel;have HR:=ae hR;by_cases hlt:k<ts.length;·
   obtain⟨t,ht⟩:∃t,t=ts[k]:=⟨_,rfl⟩;obtain⟨b,off,rfl,hcell⟩:=HC.out k hlt;have aej:wr.cell? (aD b (off+k))=some (.string t):=by rw[ht];exact(HR.below.cell (p:=(aD b (off+k))) (lt_of_cell hcell)).trans hcell
   have atD:=DK t (ht▸eu hlt);have alI:=G7 ts DK k hk;have at3:lb.size<=16:=by have:=congrArg awD HR.last;simp at this;omega
   have HT:=ae ht;clear ht hcell;go_upto_block 2 with(fail);go_cut[8](λp wx=>∃q:Nat,p= .int .i64 q/\q<=16/\Hid (Stop t.data.toList lb.data.toList q)/\Same wr wx);case first=>
    go_wp2_with fail;go_loopw[8](λp wx=>∃q:Nat,q<=t.size/\q<=lb.size/\p= .int .i64 q/\Hid (t.data.toList.take q=lb.data.toList.take q)/\Same wr wx)(λp _=>t.size-(intOf p).toNat);case atStart=>exact⟨0,aW _,aW _,rfl,rfl,Same.refl _⟩
    case round=>
     obtain⟨q,hq1,hq2,rfl,HQ,hS⟩:=hrel;by_cases g1:q<t.size;·
      by_cases g2:q<lb.size;·
       by_cases g3:t[q]=lb[q];·
        have g3':(((t[q]).toNat:Int)==((lb[q]).toNat:Int))=true:=by rw[g3];simp
        have HS:=ae (LY t lb q g1 g2 g3 HQ);clear g3;go_wp2_with fail;go_quiet(fail);go_wp2_with fail;exact⟨⟨q+1,by omega,by omega,by go_num,HS,hS.trans (Same.drewN _ _)⟩,by simp[intOf];omega⟩
       ·have g3':(((t[q]).toNat:Int)==((lb[q]).toNat:Int))=false:=by rw[beq_eq_false_iff_ne];intro e;exact g3 (UInt8.toNat_inj.1 (by omega))
        have HS:Hid (Stop t.data.toList lb.data.toList q):=⟨by simp;omega,by simp;omega,HQ.out,.inr (.inr (by rw[BC t q g1,BC lb q g2];exact g3))⟩;go_wp2_with fail;go_quiet(fail);go_wp2_with fail;go_meet;exact⟨q,rfl,by omega,HS,hS.trans (Same.drewN _ _)⟩
      ·have HS:Hid (Stop t.data.toList lb.data.toList q):=⟨by simp;omega,by simp;omega,HQ.out,.inr (.inl (by simp;omega))⟩;have g1':decide ((q:Int)<(t.size:Int))=true:=by simp;omega
       have g2':decide ((q:Int)<(lb.size:Int))=false:=by simp;omega
       go_wp2_with fail;go_quiet(fail);go_wp2_with fail;go_meet;exact⟨q,rfl,by omega,HS,hS.trans (Same.drewN _ _)⟩
     ·have HS:Hid (Stop t.data.toList lb.data.toList q):=⟨by simp;omega,by simp;omega,HQ.out,.inl (by simp;omega)⟩;have g1':decide ((q:Int)<(t.size:Int))=false:=by simp;omega
      go_wp2_with fail;go_quiet(fail);go_wp2_with fail;go_meet;exact⟨q,rfl,by omega,HS,hS.trans (Same.drewN _ _)⟩
   case rest=>
    obtain⟨q,rfl,atN,HST,hS⟩:=hcut;have hqu:q<=(wH ts k).length:=by have:=HST.2.1;rw[HR.last]at this;exact this
    go_upto_block 4 with(fail);go_cut[9](λn wy=>n=pT (nodeAt root ns q)/\Same wr wy);case first=>
     go_wp2_with fail;go_loopw[9,48](λn i wy=>∃j:Nat,j<=q/\i= .int .i64 j/\n=pT (nodeAt root ns j)/\Same wr wy)(λ_ i _=>q-(intOf i).toNat);case atStart=>exact⟨0,aW _,rfl,rfl,hS⟩
     case round=>
      obtain⟨j,hj,rfl,rfl,rD⟩:=hrel;by_cases hjq:j<q;·
       obtain⟨g,Mc,m,d1,d2,d3⟩:=Ku (HR.st.same rD) HR.fi HR.small (i:=j) (by omega);go_wp2_with fail;have q1:IntKind.i64.wrap ((m:Int)+1-1)=(m:Int):=by rw[IntWalk.i64_in _ (by omega)];omega
       have q2:(0:Int)<=(m:Int)/\(m:Int)<(m:Int)+1:=by omega
       go_quiet(fail);clear q1 q2;go_wp2_with fail;exact⟨⟨j+1,by omega,by go_num,rfl,rD.trans (Same.drewN _ _)⟩,by simp[intOf];omega⟩
      ·obtain rfl:j=q:=by omega
       go_wp2_with fail;go_meet;exact⟨rfl,rD⟩
    case rest=>
     obtain⟨rfl,rD⟩:=hcut;go_wp2_with fail;have hnl:=HR.fi.len;refine(yG w.heap.size bb kb ib (ns.drop q) s (nodeAt root ns q) _ (HR.st.same rD) (HR.fi.way HR.bare hqu) HR.small (by have:=HR.ids;rw[C0];omega)).mono ?_;rintro e w2⟨rfl,px,hb2⟩;have hlt2:lb.data.toList<t.data.toList:=by rw[HR.last,HT];exact VZ ts DK Yx k hlt
     obtain⟨hqt,hqc⟩:=PY _ _ q hlt2 HST;have alX:q<t.size:=by simpa using hqt
     obtain⟨hf2,CD⟩:=HR.fi.settle HR.bare hqu;have Sv:=Small.cX (ns.drop q) s (nodeAt root ns q) HR.small (by have:=HR.ids;rw[C0];omega);have hut:(wH ts k).take q=t.data.toList.take q:=by rw[<-HR.last];exact HST.2.2.1.symm
     have hna:=K9 root ns q q (au _);have hG0:uF w.heap.size bb kb ib root ((kI ts).take k) t.data.toList (20*k+16) q w q (cX (ns.drop q) s (nodeAt root ns q)) (ns.take q) w2:=by refine⟨px,by rw[<-hut];exact hf2,?_,Sv.1,by have h1:=Sv.2;have h2:=HR.ids;rw[C0]at h1;omega,(HR.below.trans (rD.below _)).trans hb2⟩;intro nd hG;rw[hna]at hG;refine⟨λ_ e he=>?_,λh=>absurd h (abo _)⟩;obtain⟨h1,h2⟩:=CD nd hG e he;rw[<-HR.last]at h1 h2;exact qj h2 (hqc h1)
     have HG0:=ae hG0;have al7:=ae hna;clear hG0 px hb2 hf2 CD Sv hut hlt2 hqc hqt hna;go_wp2_with fail;go_loopw[9,11](λn i wy=>∃(j:Nat)(s':St)(ns':List Nat),q<=j/\j<=t.size/\i= .int .i64 j/\n=pT (nodeAt root ns' j)/\uF w.heap.size bb kb ib root ((kI ts).take k) t.data.toList (20*k+16) q w j s' ns' wy)(λ_ i _=>t.size-(intOf i).toNat);case atStart=>exact⟨q,_,ns.take q,au _,by omega,rfl,by rw[al7],HG0⟩
     case round=>
      obtain⟨j,s',ns',hj1,hj2,rfl,rfl,hR'⟩:=hrel;have JX:=ae hR';clear hR';by_cases hjt:j<t.size;·
       have hlen':(t.data.toList.take j).length=j:=by simp;omega
       obtain⟨nd,FA,ack⟩:=JX.fi.leaf;rw[hlen']at FA;obtain⟨_,a1,Mc,hv1,d1⟩:=JX.st.fN FA;have hrow:=JX.st.nodes.row _ nd FA;rw[hv1]at hrow;have hL:=lt_of_cell d1;have hfr:wr.frozen? (aD (nodeAt root ns' j) 1)=false:=aU (JX.st.nodes.node _ nd FA);have hel:=JX.small.aY _ nd FA;have HCJ:=ae (BC t j hjt);go_wp2_with fail;refine bB [(0,false),(1,false),(2,false),(3,false),(4,false),(5,false),(6,false),(7,false),(8,false),(9,false),(10,true),(11,true),(12,true),(13,true),(14,true)] 14 (λw'=>w'.cell? (aD (nodeAt root ns' j) 1)=some (.slice a1 nd.aY.length Mc)) (by kernel_rfl) (by kernel_rfl) ?_ ?_;·rw[<-d1];exact aV _ _ _ hL
       iterate 10(
 refine aR ?_ rfl rfl (λw' hS=>?_) ?_;rotate_left;·go_simp;try rfl
 simp only[aN,ai,aj])
       refine bg rfl rfl (by decide) (λK hK=>?_);go_simp;have hl2:((wr.alloc (.cells #[.bool false,.slice none 0 0] 282)).alloc (.cells #[.int .u8 t[j].toNat,pT wr.heap.size] 284)).drew.cell? (aD (nodeAt root ns' j) 1)=some (.slice a1 nd.aY.length Mc):=by rw[<-d1];exact(aV _ _ _ (by simp;omega)).trans (aV _ _ _ hL)
       have hrow3:((wr.alloc (.cells #[.bool false,.slice none 0 0] 282)).alloc (.cells #[.int .u8 t[j].toNat,pT wr.heap.size] 284)).drew.ownsRow 0 284 2 (.slice a1 nd.aY.length Mc) nd.aY.length (dt nd.aY):=((hrow.alloc _).alloc _).drew;have Uc:((wr.alloc (.cells #[.bool false,.slice none 0 0] 282)).alloc (.cells #[.int .u8 t[j].toNat,pT wr.heap.size] 284)).drew.heap[wr.heap.size]?=some (.cells #[.bool false,.slice none 0 0] 282 (0,0)):=heap_alloc2_old _ _ _;have De:bL wr nd.v ((wr.alloc (.cells #[.bool false,.slice none 0 0] 282)).alloc (.cells #[.int .u8 t[j].toNat,pT wr.heap.size] 284)).drew nd.v:=((bL.alloc wr _ _).trans (bL.alloc _ _ _)).trans (bL.same _ (Same.drew _));have hc3:∀i u,[Value.int .u8 t[j].toNat,pT wr.heap.size][i]?=some u->((wr.alloc (.cells #[.bool false,.slice none 0 0] 282)).alloc (.cells #[.int .u8 t[j].toNat,pT wr.heap.size] 284)).drew.cell? (((aD (wr.heap.size+1) 0):Addr).add i)=some u:=by have:=cell_two_new (wr.alloc (.cells #[.bool false,.slice none 0 0] 282)) (.int .u8 t[j].toNat) (pT wr.heap.size) 284;simpa using this
       have Z6:((wr.alloc (.cells #[.bool false,.slice none 0 0] 282)).alloc (.cells #[.int .u8 t[j].toNat,pT wr.heap.size] 284)).drew.heap.size=wr.heap.size+2:=by simp
       generalize((wr.alloc (.cells #[.bool false,.slice none 0 0] 282)).alloc (.cells #[.int .u8 t[j].toNat,pT wr.heap.size] 284)).drew=W3 at*;refine hK _ _ hl2 ?_;clear hK K;refine bg rfl rfl (by decide) (λK hK=>?_);obtain⟨i0,hi,hz0,hz1,hz2⟩:=info_parts Tryz.ZQ;refine wp_append_lies _ _ 280 rfl 284 i0 (.agg #[.int .u8 0,.pointer none]) 2 16 Tryz.underlying280 hi hz0 hz1 hz2 rfl (by decide) _ _ _ rfl hrow3 (aD (wr.heap.size+1) 0) 1 1 [.int .u8 t[j].toNat,pT wr.heap.size] rfl rfl hc3 (by simp[Value.oneCell']) (by decide) (by unfold maxLen;omega) (by omega) ?_;intro v4 W4 hrow4 cM dS;rw[<-hv1]at cM dS;have hvL:nd.v.ownBlock≠some (nodeAt root ns' j):=λe=>(JX.st.jW FA e).2.2.2 _ nd FA rfl;have hl4:=World.grownBy.cell cM hl2 (λe=>hvL e.symm);have hf4:W4.frozen? (aD (nodeAt root ns' j) 1)=false:=by have hn:=JX.st.nodes.node _ nd FA;have h3:=(De.block (lt_of_heap hn) hvL).trans hn;have h4:=(cM.block _ (lt_of_heap h3) (λe=>hvL e.symm)).trans h3;exact aU h4
       have hM4:W4.heap[wr.heap.size]?=some (.cells #[.bool false,.slice none 0 0] 282 (0,0)):=(cM.block _ (by omega) (λe=>by have:=(JX.st.nodes.row _ nd FA).lt _ e.symm;omega)).trans Uc;have Ae:=De.trans (bL.append cM dS);have ahu:v4.ownBlock≠some wr.heap.size:=by
        intro e;rcases dS with⟨h,_⟩|⟨h,_⟩;·rw[h]at e;have:=(JX.st.nodes.row _ nd FA).lt _ e;omega
        ·rw[h]at e;have:=aJ e;omega
       have qN:W4.ownsRow 0 284 2 v4 (nd.aY.length+1) (dt (nd.aY++[(t[j],wr.heap.size)])):=by rw[jE];exact hrow4
       obtain⟨g4,wU,rfl⟩:=bX qN;have hin:=ae (JX.st.grow (c:=t[j]) FA hM4 Ae ahu qN);have hbB:=Ae.below (JX.st.nodes.ge _ nd FA).2 (aB _ _) JX.below.size;have hLB:=(JX.st.nodes.ge _ nd FA).1;clear cM dS hrow4 qN hM4 Ae ahu Uc De hrow3 hc3 hl2 hrow d1 hfr;refine hK _ _ hl4 ?_;clear hK K;simp only[aN,ai,aj];refine bg rfl rfl (by decide) (λK hK=>?_);go_simp;refine hK _ _ hl4 ?_;clear hK K;refine bg rfl rfl (by decide) (λK hK=>?_);go_simp;refine hK _ _ hl4 ?_;clear hK K;refine cO rfl rfl (λK hK=>?_);go_simp;refine hK _ _ ?_;clear hK K;go_wp2_with fail;have hgc:=HCJ.out;have Wy:=JX.step (by simp;omega) FA (by rw[hgc];exact hin.out) (hbB.setCell hLB _);rw[hgc]at Wy;exact⟨⟨j+1,_,ns'++[wr.heap.size],by omega,by omega,by go_num,by rw[Wy.2],Wy.1⟩,by simp[intOf];omega⟩
      ·obtain rfl:j=t.size:=by omega
       have hlen':(t.data.toList.take t.size).length=t.size:=by simp
       obtain⟨nd,FA,ack⟩:=JX.fi.leaf;rw[hlen']at FA;obtain⟨d0,a1,Mc,hv1,d1⟩:=JX.st.fN FA;have hfr:wr.frozen? (aD (nodeAt root ns' t.size) 0)=false:=aU (JX.st.nodes.node _ nd FA);have hcl:=ae (JX.close hlt HT alX FA);clear ack;go_wp2_with fail;exact⟨⟨k+1,t,_,ns',by omega,by go_num,rfl,hcl.out⟩,by simp[intOf];omega⟩
  ·obtain rfl:k=ts.length:=by omega
   go_wp2_with fail;have hnl:=HR.fi.len;have alI:=G7 ts DK ts.length hk;have amw:=HR.ids;refine(yG w.heap.size bb kb ib ns s root wr HR.st (HR.fi.way HR.bare (aW _)) HR.small (by omega)).mono ?_;rintro e w2⟨rfl,px,hb2⟩;have hll:(kI ts).length=ts.length:=by simp[kI]
   have hf2:FI (cX ns s root) root [] [] (kI ts):=by have h1:=(HR.fi.settle HR.bare (aW _)).1;rw[<-hll,dH]at h1;exact h1
   have Sv:=Small.cX ns s root HR.small (by omega);obtain⟨mS,ρ,L,g1,g2,g3,g4,g5,g6⟩:=FI.number hf2 Sv.1 (by omega) Sv.1.len;have HG2:=ae g2;have HG3:=ae g3;have HG4:=ae g4;have anX:=ae px;clear g2 g3 g4 px hf2;go_wp2_with fail;refine(Oa _ w.heap.size bb kb ib w2 anX mS ρ L HG2 HG3 HG4 root g1 g6).mono ?_;rintro e w3⟨rfl,hb3,R,Λ,ρ',D,hdi,hΛ⟩;go_wp2_with fail;go_ret;exact⟨w2.heap.size,R,Λ,ρ',D,rfl,(HR.below.trans hb2).trans (hb3.mono (by have:=HR.below.size;have:=hb2.size;omega)),hdi,hΛ.trans g5⟩
open Go.Sort
theorem zT{α:Type}[DecidableEq α]:∀(l l':List α),l.Nodup->(∀x∈l,x∈l')->l.length<=l'.length|[],l',_,_=>aW _|a::l,l',hn,hs=>by rw[List.nodup_cons]at hn;have ha:=hs a (by simp);have ih:=zT l (l'.erase a) hn.2 λx hx=>(List.mem_erase_of_ne (λe=>hn.1 (by rw[<-e];exact hx))).2 (hs x (by simp[hx]));rw[List.length_erase_of_mem ha]at ih;have:=List.length_pos_of_mem ha;simp;omega
def Cm(ss:List (List UInt8)):List (List UInt8):=ss.mergeSort λx y=>decide (x<=y)
theorem Sg(a b c:List UInt8):decide (a<=b)=true->decide (b<=c)=true->decide (a<=c)=true:=by simp only[decide_eq_true_eq];exactλh k=>List.le_trans h k
theorem Sh(a b:List UInt8):(decide (a<=b)||decide (b<=a))=true:=by simp only[eU,decide_eq_true_eq];exact List.le_total a b
theorem Rs(ss:List (List UInt8))(x:List UInt8):x∈Cm ss↔x∈ss:=(CY ss _).mem_iff
theorem zD(ss:List (List UInt8)):(Cm ss).length=ss.length:=(CY ss _).length_eq
theorem Kw{ss:List (List UInt8)}(h:ss.Nodup):(Cm ss).Nodup:=(CY ss _).nodup_iff.2 h
theorem NA{ss:List (List UInt8)}(h:ss.Nodup):(Cm ss).Pairwise λa b=>a<b:=by
 have h1:=List.pairwise_mergeSort Sg Sh ss;have h2:=Kw h;refine List.Pairwise.imp₂ ?_ h1 h2;intro a b h3 h4;rw[decide_eq_true_eq]at h3;rcases List.le_iff_lt_or_eq.1 h3 with h|h;·exact h
 ·exact absurd h h4
theorem U9(v:ay)(ss:List (List UInt8))(w:ak)(hrow:w.ownsRow 0 9 1 v ss.length (ss.map dC))(hsz:ss.length<=1000000):aX ah 93 #[v] w λe w'=>e= .returned (.tuple #[])/\w'.ownsRow 0 9 1 v ss.length ((Cm ss).map dC)/\w.grownBy w' v.ownBlock:=by
 have he:dC=encStr:=rfl;rcases hrow.2 with⟨rfl,hnil⟩|⟨g,cap,cur,rfl,hbase,hb,h1,h2,h3,h4⟩;·
  have:=List.eq_nil_of_length_eq_zero hnil;subst this;refine(Tryz.slices_Sort_string_none none 0 w).mono ?_;rintro e w'⟨rfl,rfl⟩;have h0:Cm []=[]:=by simp[Cm]
  rw[h0];exact⟨rfl,bS _ _ _ _,World.grownBy.refl _ _⟩
 ·refine(Tryz.slices_Sort_string g 0 cap ss w (holds_of_block hb (by rw[awC]at h4;exact h4)) (Array.getElem?_eq_some_iff.1 hb).1 (by omega)).mono ?_;rintro e w'⟨rfl,nn,os,rfl⟩;exact⟨rfl,ownsRow_sorted (zD ss) hbase hb h1 h2 h3,grownBy_sorted _⟩
theorem Nt{w:ak}{v:ay}{ss:List (List UInt8)}(h:w.ownsRow 0 9 1 v ss.length (ss.map dC)):jU w v (ss.map λl=>⟨l.toArray⟩):=by
 obtain⟨a,cap,rfl⟩:=ownsRow_form h;refine⟨a,cap,by simp,λi hi=>?_⟩;have hi':i<ss.length:=by simpa using hi
 obtain⟨m,hm⟩:∃m,ss.length=m+1:=⟨ss.length-1,by omega⟩;have h':=h;rw[hm]at h';obtain⟨g,cap',e⟩:=bX h';cases e;rw[<-hm]at h';refine⟨g,0,rfl,?_⟩;rw[gW,h.cellAt i (by omega),bp,ar hi'];simp[dC]
def ZN(t:dx):Bool:=[172,207,242,158,436,249,437,5,352,353,440,441,447,448,412,415,456,21,310,260,404,306].contains t
def acv(w w':ak):Prop:=w.heap.size<=w'.heap.size/\∀(k:Nat)cs t r,w.heap[k]?=some (.cells cs t r)->ZN t=true->w'.heap[k]?=w.heap[k]?
def ae3(B:Nat)(w w':ak):Prop:=w'.os=w.os/\w'.tape=w.tape/\w'.output=w.output/\w.heap.size<=w'.heap.size/\∀(k:Nat)o,w.heap[k]?=some o->(k<B\/∀cs r,o≠ .cells cs 5 r)->w'.heap[k]?=some o
section
variable{V:ay}{D:List DS}{db:Nat}{iv yf:ay}{bd ba by' bw B:Nat}{p:List UInt8}{pv pv':ay}{J J':List (List UInt8×Nat)->ak->Prop}{w0:ak}{ys ys':List (List UInt8×Nat)}{Wb Wc W4 W5:ak}{c:UInt8}
end
theorem Ev{w:ak}{B e size n g:Nat}{v:ay}{xs:List ay}(h:w.ownsRow B e size v n xs)(hg:v.ownBlock=some g):∃cur,w.heap[g]?=some (.cells cur e (0,0)):=by
 rcases h.2 with⟨rfl,_⟩|⟨g',cap,cur,rfl,_,hc,_⟩;·cases hg
 ·cases hg;exact⟨cur,hc⟩
structure nN where
 kind:Int
 a:List UInt8
 b:List UInt8
 n:Int
 states:Int
deriving DecidableEq
def aeW(q:nN):ay:= .agg #[.int .i64 q.kind,dC q.a,dC q.b,.int .i64 q.n,.int .i64 q.states]
open Go.Lib
def bt(p:List UInt8)(k:Nat):Nat:=(p.getD k 0).toNat
def dec(p:List UInt8):Nat×Nat:=decodeGo ⟨p.toArray⟩
def full(p:List UInt8):Bool:=decide (0<p.length)&&(decide (firstT (bt p 0)%8<=p.length)||(decide (1<p.length)&&(decide (bt p 1<accLo (firstT (bt p 0)/16))||decide (accHi (firstT (bt p 0)/16)<bt p 1))||(decide (2<p.length)&&(decide (bt p 2<128)||decide (191<bt p 2)))))
structure NS where
 now:List Nat
 was:List Nat
 last:Int
 part:List UInt8
def adj:NS:=⟨(jL 41).map (min · 3),aQ 41 3,-1,[]⟩
def LZ(word now was:List Nat)(last:Int)(r:Nat):Nat->Nat|0=>min (now.getD 0 0+1) 3|j+1=>min (if 0<j/\(word.getD j 0:Int)=last/\word.getD (j-1) 0=r then min (min (min (now.getD j 0+if word.getD j 0=r then 0 else 1) (now.getD (j+1) 0+1)) (LZ word now was last r j+1)) (was.getD (j-1) 0+1)else min (min (now.getD j 0+if word.getD j 0=r then 0 else 1) (now.getD (j+1) 0+1)) (LZ word now was last r j+1)) 3
def VY(word now was:List Nat)(last:Int)(r:Nat):Nat->Nat|0=>LZ word now was last r 0|j+1=>min (VY word now was last r j) (LZ word now was last r (j+1))
def alg(word:List Nat)(s:NS)(r:Nat):List Nat:=(jL 41).map λj=>if j<=word.length then LZ word s.now s.was s.last r j else 3
def leastRow(l:List Nat):Nat:=l.foldl min (l.getD 0 0)
def agU(word:List Nat)(s:NS)(c:UInt8):NS:=if full (s.part++[c])=false then{s with part:=s.part++[c]}else⟨alg word s (dec (s.part++[c])).1,s.now,((dec (s.part++[c])).1:Int),[]⟩
def nok(word:List Nat)(far:Nat)(s:NS)(c:UInt8):Bool:=if full (s.part++[c])=false then true else if(dec (s.part++[c])).1=65533/\(dec (s.part++[c])).2<2 then false else decide (VY word s.now s.was s.last (dec (s.part++[c])).1 word.length<=far\/leastRow s.now<far)
def agT(word:List Nat)(far:Nat)(s:NS)(c:UInt8):Option NS:=if nok word far s c then some (agU word s c)else none
def agV(word:List Nat)(far:Nat)(s:NS):Bool:=decide (s.part=[])&&decide (s.now.getD word.length 0<=far)
/-!### a greater distance reads no less -/
/-!### bytes below 128 -/
/-!### what is far is not read: a bound below the rows -/
section
variable{word:List Nat}{F:List UInt8->Nat->Int}
end
/-!### what is near is read: a way through the rows -/
section
variable{word:List Nat}
end
section
variable{w:ak}{b:Nat}{now was:List Nat}{last:Int}{p4:List Nat}{n:Nat}
end
structure Fk(w:ak):Prop where first:∃cs,w.heap[2]?=some (.cells cs 412 (0,0))accept:∃cs,w.heap[3]?=some (.cells cs 415 (0,0))tabs:Lib.Utf8Tabs 2 3 w
theorem Fk.kept{w w':ak}(h:Fk w)(h1:w'.heap[2]?=w.heap[2]?)(h2:w'.heap[3]?=w.heap[3]?):Fk w':=by have e1:∀j,w'.cell? (aD (2) j)=w.cell? (aD (2) j):=λj=>fq (a:=(aD (2) j)) h1;have e2:∀j,w'.cell? (aD (3) j)=w.cell? (aD (3) j):=λj=>fq (a:=(aD (3) j)) h2;exact⟨by rw[h1];exact h.first,by rw[h2];exact h.accept,λc hc=>(e1 c).trans (h.tabs.1 c hc),λi hi=>⟨(e2 _).trans (h.tabs.2 i hi).1,(e2 _).trans (h.tabs.2 i hi).2⟩⟩
section
variable{w W:ak}{g cap:Nat}{word:List Nat}{far:Nat}{now was:List Nat}{last:Int}{p4:List Nat}{n:Nat}
end
theorem mN{P:iX}{S:ak->Prop}{l:List gV}{x:Nat}{Q:Act->ak->Prop}{i:Nat}{rest:List (Nat×Bool)}{a:Act}{w:ak}{o:gV}(ho:l[i]?=some o)(hw:gj o (yielded l.toArray a.tmps)=false)(h:fM P l S x Q rest (a.put o.dst undef) w):fM P l S x Q ((i,true)::rest) a w:=by unfold fM;rw[ho];simp only[hw,Bool.false_eq_true,if_false];exact h
def Vi(a:ByteArray):List Nat:=(Conv.runesFrom a a.size 0 #[]).toList.map λv=>match v with| .int _ r=>r.toNat|_=>0
def Xy(k:Int):ay:= .iface 43 (.int .i64 k)
def Qb(a:ByteArray)(n:Int):Option Int:=if 40<a.size then some 2 else if n<0\/2<n then some 7 else if Lib.validD a.data.toList=true then none else some 8
section
variable{P:iX}{ops:Array gV}{S:ak->Prop}{Q:J1->Act->ak->Prop}{R:List DU->ak->Prop}
def xu(R:List DU->ak->Prop)(Q:J1->Act->ak->Prop):J1->Act->ak->Prop| .panic c,a,w=>a.defers=[]/\R c w|e,a,w=>Q e a w
theorem xu.imp{Q':J1->Act->ak->Prop}(hn:∀e a w,(∀c,e≠ .panic c)->Q e a w->Q' e a w)(h:∀c a w,a.defers=[]->R c w->Q' (.panic c) a w):∀(e:J1)(a:Act)(w:ak),xu R Q e a w->Q' e a w:=λe a w hh=>by cases e with|panic c=>exact h c a w hh.1 hh.2|_=>exact hn _ a w (λc e=>by cases e) hh
theorem put_defers(a:Act)(d:Option Tmp)(v:ay):(a.put d v).defers=a.defers:=by cases d<;>rfl
def jo (P:iX) (l:List gV) (S:ak->Prop) (x:Nat) (R:List DU->ak->Prop) (Q:Act->ak->Prop):List (Nat × Bool)->Act->ak->Prop
 | [],a,w=>Q a w
 | (i,true) :: rest,a,w =>
  match l[i]? with
  | none=>False
  | some o=>if gj o (yielded l.toArray a.tmps) then o.wp P a w (fun a' w'=>(i≠x->S w')/\((i=x->rest=[])/\jo P l S x R Q rest a' w')) (xu R fun _ _ _=>False) else jo P l S x R Q rest (a.put o.dst undef) w
 | (i,false) :: rest,a,w =>
  match l[i]? with
  | none=>False
  | some o=>∃ v,YieldsIf P l.toArray S o v a/\jo P l S x R Q rest (a.put o.dst v) w
theorem uy{lo:List gV}{x:Nat}(hs:fK lo.toArray=true){Q':J1->Act->ak->Prop}(hQ:∀a w,Q .normal a w->Q' .normal a w)(hp:∀c a w,a.defers=[]/\R c w↔Q' (.panic c) a w):∀(l:List (Nat×Bool))(listed:Array Bool)(a:Act)(w:ak),(∀q∈l,q.2=false->pq lo.toArray x q.1=true)->pL lo.toArray l listed=true->S w->jo P lo S x R (Q .normal) l a w->BO P lo.toArray Q' S x l.length listed a w
 |[],listed,a,w,_,hB,_,h=>by simp only[pL,beq_iff_eq]at hB;exact⟨hB,hQ _ _ h⟩|(i,true)::rest,listed,a,w,hl,hB,hS,h=>by
  simp only[pL,cR,beq_iff_eq]at hB;obtain⟨hr,hB'⟩:=hB;have ih:=uy (x:=x) hs hQ hp rest (listed.setIfInBounds i true);refine⟨λh0=>(by rw[hr]at h0;cases h0),λj hj=>?_⟩;rw[hr]at hj;obtain rfl:j=i:=by simpa using hj
  unfold jo at h;unfold wpOp;split at h;·exact h.elim
  ·rename_i o ho;have ho':lo.toArray[j]?=some o:=by simpa using ho
   simp only[ho'];split;·
    rename_i hw;rw[if_pos hw]at h;refine .inl ?_;refine ass (K:=λa' w'=>(j≠x->S w')/\((j=x->rest=[])/\jo P lo S x R (Q .normal) rest a' w')) (λa' w' hh=>⟨hh.1,?_⟩) ?_;·
     by_cases MQ:j=x;·have:=hh.2.1 MQ;subst this;simp only[pL,beq_iff_eq]at hB';exact⟨hB',hQ _ _ hh.2.2⟩
     ·exact ih a' w' (λq hq=>hl q (bq _ hq)) hB' (hh.1 MQ) hh.2.2
    ·unfold ak8 at h⊢;generalize(execOp a.eval o).run P w=r at*;cases r with
     |ok n w'=>
      cases n<;>simp only[Ca]at h⊢;case value=>exact h
      case skip=>exact h
      case defer=>exact h
      case row=>exact h
      case enter f args=>refine Calls.mono h λe w'' he=>?_;cases e with|returned v=>exact he|panicked c=>exact(hp _ _ _).1 he|outgrown=>obtain⟨_,_,hx⟩:=he;exact hx.elim
      all_goals exact h|halt x w'=>cases x<;>simp only[Ca]at h⊢;all_goals first|exact h.elim|exact(hp _ _ _).1 h
   ·rename_i hw;rw[if_neg hw]at h;exact⟨λ_=>hS,ih _ _ (λq hq=>hl q (bq _ hq)) hB' hS h⟩|(i,false)::rest,listed,a,w,hl,hB,hS,h=>by
  simp only[pL,cR]at hB;obtain⟨⟨hr,hf⟩,hB'⟩:=hB;have ih:=uy (x:=x) hs hQ hp rest (listed.setIfInBounds i true);unfold jo at h;split at h;·exact h.elim
  ·rename_i o ho;obtain⟨v,hy,hk⟩:=h;have ho':lo.toArray[i]?=some o:=by simpa using ho
   exact Fh (hl (i,false) bE rfl) ho' hs (λc a w hq=>(hp _ _ _).1 ⟨(put_defers a o.dst v)▸((hp _ _ _).2 hq).1,((hp _ _ _).2 hq).2⟩) rest.length listed a w (Hz ho' hf) (by simpa using hr) hy hS (ih _ _ (λq hq=>hl q (bq _ hq)) hB' hS hk)
theorem eo{id:Nat}{a:Act}{w:ak}{l:List gV}(order:List (Nat×Bool))(S:ak->Prop)(R:List DU->ak->Prop)(hR:∀c a w,a.defers=[]->R c w->Q (.panic c) a w)(hm:P.follows .mixedOrders=true)(hs:(fK l.toArray&&(order.all λq=>q.2||pq l.toArray 1000 q.1)&&(order.length==l.length)&&pL l.toArray order (fh l.length false))=true)(hS:S w.drew)(h:jo P l S 1000 R (Q .normal) order a w.drew):(AR id l.toArray true).wp P Q a w:=by
 simp only[cR,beq_iff_eq]at hs;obtain⟨⟨⟨h1,h3⟩,h4⟩,h5⟩:=hs;have h3':∀q∈order,q.2=false->pq l.toArray 1000 q.1=true:=λq hq hf=>by have:=List.all_eq_true.1 h3 q hq;rw[hf]at this;simpa using this
 refine Code.wp_mono (xu.imp (R:=R) (Q:=Q) (Q':=Q) (λ_ _ _ _ h=>h) hR) (wp_region_any hm (jq (S:=S) (x:=1000) _ _ _ _ ?_));have:=uy (Q:=Q) (Q':=xu R Q) h1 (λ_ _ h=>h) (λ_ _ _=>Iff.rfl) order (fh l.length false) a w.drew h3' h5 hS h;rw[h4]at this;simpa using this
theorem iM{l:List gV}{x:Nat}{Q:Act->ak->Prop}{a:Act}{w:ak}(h:Q a w):jo P l S x R Q [] a w:=h
theorem bR{l:List gV}{x:Nat}{Q:Act->ak->Prop}{i:Nat}{rest:List (Nat×Bool)}{a:Act}{w:ak}{o:gV}(v:ay)(ho:l[i]?=some o)(hw:gj o (yielded l.toArray a.tmps)=true)(hv:∀w',S w'->(execOp a.eval o).run P w'= .ok (.value v) w')(h:jo P l S x R Q rest (a.put o.dst v) w):jo P l S x R Q ((i,false)::rest) a w:=by unfold jo;rw[ho];exact⟨v,.inl ⟨hw,hv⟩,h⟩
theorem eV{l:List gV}{x:Nat}{Q:Act->ak->Prop}{i:Nat}{rest:List (Nat×Bool)}{a:Act}{w:ak}{o:gV}(ho:l[i]?=some o)(hw:gj o (yielded l.toArray a.tmps)=false)(h:jo P l S x R Q rest (a.put o.dst undef) w):jo P l S x R Q ((i,false)::rest) a w:=by unfold jo;rw[ho];exact⟨undef,.inr ⟨hw,rfl⟩,h⟩
theorem dG{l:List gV}{x:Nat}{Q:Act->ak->Prop}{i:Nat}{rest:List (Nat×Bool)}{a:Act}{w:ak}{o:gV}(ho:l[i]?=some o)(hw:gj o (yielded l.toArray a.tmps)=true)(hx:i≠x)(h:∀K:Act->ak->Prop,(∀a' w',S w'->jo P l S x R Q rest a' w'->K a' w')->o.wp P a w K (xu R λ_ _ _=>False)):jo P l S x R Q ((i,true)::rest) a w:=by unfold jo;rw[ho];simp only[hw,if_true];exact h _ λa' w' h1 h2=>⟨λ_=>h1,λe=>absurd e hx,h2⟩
theorem ik{l:List gV}{x:Nat}{Q:Act->ak->Prop}{i:Nat}{rest:List (Nat×Bool)}{a:Act}{w:ak}{o:gV}(ho:l[i]?=some o)(hw:gj o (yielded l.toArray a.tmps)=false)(h:jo P l S x R Q rest (a.put o.dst undef) w):jo P l S x R Q ((i,true)::rest) a w:=by unfold jo;rw[ho];simp only[hw];exact h
end
def eQ(w:ak)(rb:Nat)(s:ByteArray)(i:Nat):Prop:=w.heap[rb]?=some (.cells #[.string s,.int .i64 i] 292 (0,0))/\i<=s.size/\s.size<=1000000
section
variable{w w':ak}{rb i:Nat}{s:ByteArray}
theorem eQ.c0(h:eQ w rb s i):w.cell? (aD rb 0)=some (.string s):=aq h.1
theorem eQ.c1(h:eQ w rb s i):w.cell? (aD rb 1)=some (iV i):=aq h.1
theorem eQ.free(h:eQ w rb s i)(k:Nat):w.frozen? (aD rb k)=false:=aU h.1
theorem eQ.lt(h:eQ w rb s i):rb<w.heap.size:=lt_of_heap h.1
theorem eQ.same(h:eQ w rb s i)(k:Same w w'):eQ w' rb s i:=⟨by rw[k.heap];exact h.1,h.2⟩
theorem eQ.below(h:eQ w rb s i)(k:aI w.heap.size w w'):eQ w' rb s i:=⟨(k.block _ h.lt).trans h.1,h.2⟩
theorem eQ.set(h:eQ w rb s i){j:Nat}(hj:j<=s.size):eQ (w.setCell (aD rb 1) (iV j)) rb s j:=⟨by rw[heap_setCell_same w rb 1 _ _ _ h.1];simp,hj,h.2.2⟩
end
def cH(s:ByteArray)(i:Nat)(c:UInt8):Bool:=decide (s.data.toList[i]?=some c)
theorem iP(s:ByteArray)(k:Nat)(h:k<s.size):s.data.toList[k]?=some s[k]:=by
 have:k<s.data.toList.length:=by simpa using h
 rw[ar this];rfl
theorem at_end(s:ByteArray)(k:Nat)(h:s.size<=k):s.data.toList[k]?=none:=List.getElem?_eq_none (by simpa using h)
theorem od(rb:Nat)(s:ByteArray)(i:Nat)(c:UInt8)(w:ak)(hR:eQ w rb s i):aX ah 225 #[aP rb,.int .u8 c.toNat] w λe w'=>e= .returned (.bool (cH s i c))/\Same w w':=by
 have c0:=hR.c0;have c1:=hR.c1;have hi:=hR.2.1;have hs:=hR.2.2;clear hR;unfold aP;by_cases h:i<s.size;·
  have hg:Hid (cH s i c=(((s[i]).toNat:Int)==(c.toNat:Int))):=ae (by unfold cH;rw[iP s i h,Qw];simp);have q2:decide ((i:Int)<(s.size:Int))=true:=by simp;omega
  go_enter asc,aoH;go_wp2_with fail;go_quiet(fail);go_wp2_with fail;go_ret;exact⟨gS hg.symm,Same.drewN _ _⟩
 ·have hg:Hid (cH s i c=false):=ae (by unfold cH;rw[at_end s i (by omega)];simp);have q2:decide ((i:Int)<(s.size:Int))=false:=by simp;omega
  go_enter asc,aoH;go_wp2_with fail;go_quiet(fail);go_wp2_with fail;go_ret;exact⟨gS hg.symm,Same.drewN _ _⟩
def BF(i:Nat):List DU:=[{v:= .iface 288 (.int .i64 i),recovered:=false}]
theorem eW(rb:Nat)(s:ByteArray)(i:Nat)(ok:Bool)(w:ak)(hR:eQ w rb s i):aX ah 146 #[aP rb,.bool ok] w λe w'=>e=(if ok then .returned (.tuple #[])else .panicked (BF i))/\Same w w':=by
 have c0:=hR.c0;have c1:=hR.c1;clear hR;unfold aP;have aae:∀(x:Bool)(w:ak),(Op.unary .not (.bool x)).run ah w= .ok (.bool (!x)) w:=λ_ _=>rfl;cases ok;·go_enter asm,aoQ;go_wp2_with fail;exact⟨rfl,rfl,Same.refl _⟩
 ·go_enter asm,aoQ;go_wp2_with fail;refine bodyPost_end (results_none rfl _ _ _) rfl ?_;exact⟨rfl,Same.refl _⟩
def gL(s:ByteArray)(i:Nat)(c:UInt8):Nat:=if cH s i c then i+1 else i
theorem gu{s:ByteArray}{i:Nat}{c:UInt8}(h:cH s i c=true):i<s.size:=by
 unfold cH at h;rcases fe i s.size with h'|h';·exact h'
 ·rw[at_end s i h']at h;simp at h
theorem lG(rb:Nat)(s:ByteArray)(i:Nat)(c:UInt8)(w:ak)(hR:eQ w rb s i):aX ah 194 #[aP rb,.int .u8 c.toNat] w λe w'=>e= .returned (.bool (cH s i c))/\eQ w' rb s (gL s i c)/\Mod (λj=>j=rb) w w':=by
 have HC:=ae (od rb s i c w hR);have hlt:cH s i c=true->i<s.size:=gu;unfold gL;generalize cH s i c=r at*;have HR:=ae hR;have c1:=hR.c1;have hf:=hR.free 1;have hi:=hR.2.1;have hs:=hR.2.2;have rN:=hR.lt;clear hR;unfold aP;go_enter Tryz.func194,Tryz.ntmps194;go_wp2_with(have hcall:=HC.out;unfold aP at hcall;refine hcall.mono ?_;clear hcall;rintro e w1⟨rfl,hs1⟩;have c1':=(hs1.cell _).trans c1;have hf':=(hs1.frozen _).trans hf;have kL:=ae hs1;clear hs1 c1 hf;cases r);·go_ret;exact⟨rfl,HR.same kL,Mod.same kL⟩
 ·go_ret;refine⟨rfl,?_,?_⟩;·have:=(HR.same kL.out).set (j:=i+1) (hlt (by simp));simpa using this
  ·exact(Mod.same kL).trans (Mod.setCell _ _ _ λ_=>rfl)
inductive PR(α:Type)where|fault(i:Nat)|ok(x:α)(i:Nat)
def cZ(s:ByteArray)(i:Nat):PR UInt8:=match s.data.toList[gL s i 92]? with|none=> .fault (gL s i 92)|some c=> .ok c (gL s i 92+1)
def dI(s:ByteArray)(i least:Nat):PR Nat:=match s.data.toList[i]? with|none=> .fault i|some c=>if 48+least<=c.toNat/\c.toNat<=57 then .ok (c.toNat-48) (i+1)else .fault i
def lW(s:ByteArray)(i:Nat):Bool:=decide (i<s.size)&&!cH s i 45&&!cH s i 93
/-!### Places rise. -/
def PR.Good{α:Type}(s:ByteArray)(i:Nat):PR α->Prop| .fault e=>e<=s.size| .ok _ j=>i<=j/\j<=s.size
def PR.On{α:Type}(s:ByteArray)(i:Nat):PR α->Prop| .fault e=>e<=s.size| .ok _ j=>i<j/\j<=s.size
theorem iy{s:ByteArray}{i:Nat}{c:UInt8}(h:s.data.toList[i]?=some c):i<s.size:=by
 rcases fe i s.size with h'|h';·exact h'
 ·rw[at_end s i h']at h;cases h
theorem yZ(s:ByteArray)(i:Nat)(c:UInt8)(h:i<=s.size):i<=gL s i c/\gL s i c<=s.size:=by
 unfold gL;split;·have:=gu (by assumption);omega
 ·omega
theorem mO(s:ByteArray)(i:Nat)(h:i<=s.size):(cZ s i).On s i:=by
 have:=yZ s i 92 h;unfold cZ;split;·exact this.2
 ·rename_i hc;have:=iy hc;exact⟨by omega,by omega⟩
theorem Ao(s:ByteArray)(i l:Nat)(h:i<=s.size):(dI s i l).On s i:=by
 unfold dI;split;·exact h
 ·rename_i hc;have:=iy hc;split;·exact⟨by omega,by omega⟩
  ·exact h
theorem ny{s:ByteArray}{i l x j:Nat}(h:dI s i l= .ok x j):l<=x/\x<=9:=by
 unfold dI at h;split at h;·cases h
 ·split at h;·cases h;omega
  ·cases h
structure aH where
 a:Nat
 b:Nat
 c:Nat
 deriving DecidableEq,Inhabited
abbrev Ax:Nat:=18446744073709551616
namespace aH
def word(s:aH):Nat->Nat|0=>s.a|1=>s.b|_=>s.c
def ok(s:aH):Prop:=s.a<Ax/\s.b<Ax/\s.c<Ax
def zero:aH:=⟨0,0,0⟩
def mem(s:aH)(k:Nat):Bool:=(s.word (k/64)).testBit (k%64)
def or(s t:aH):aH:=⟨s.a|||t.a,s.b|||t.b,s.c|||t.c⟩
def and(s t:aH):aH:=⟨s.a&&&t.a,s.b&&&t.b,s.c&&&t.c⟩
def rA(s:aH)(i v:Nat):aH:=match i with|0=>{s with a:=v}|1=>{s with b:=v}|_=>{s with c:=v}
def on(s:aH)(k:Nat):aH:=s.rA (k/64) (s.word (k/64)|||2^(k%64))
def cells(s:aH):List ay:=[.int .u64 s.a,.int .u64 s.b,.int .u64 s.c]
theorem dL:zero.ok:=⟨by decide,by decide,by decide⟩
theorem adn{x:Nat}(h:x<Ax):x<2^64:=h
theorem jS{s:aH}(h:s.ok)(i:Nat):s.word i<Ax:=by obtain⟨h1,h2,h3⟩:=h;match i with|0=>exact h1|1=>exact h2|_+2=>exact h3
theorem K6{x y:Nat}(hx:x<Ax)(hy:y<Ax):x|||y<Ax:=Nat.or_lt_two_pow (n:=64) hx hy
theorem Pv{x y:Nat}(hy:y<Ax):x&&&y<Ax:=Nat.and_lt_two_pow (n:=64) _ hy
theorem zP{s t:aH}(h:s.ok)(k:t.ok):(s.or t).ok:=⟨K6 h.1 k.1,K6 h.2.1 k.2.1,K6 h.2.2 k.2.2⟩
theorem VH{s t:aH}(h:s.ok)(k:t.ok):(s.and t).ok:=⟨Pv k.1,Pv k.2.1,Pv k.2.2⟩
theorem BM(k:Nat):2^(k%64)<Ax:=Nat.pow_lt_pow_right (by decide) (Nat.mod_lt _ (by decide))
theorem zO{s:aH}(h:s.ok)(i:Nat){v:Nat}(hv:v<Ax):(s.rA i v).ok:=by obtain⟨h1,h2,h3⟩:=h;match i with|0=>exact⟨hv,h2,h3⟩|1=>exact⟨h1,hv,h3⟩|_+2=>exact⟨h1,h2,hv⟩
theorem xP{s:aH}(h:s.ok)(k:Nat):(s.on k).ok:=zO h _ (K6 (jS h _) (BM k))
theorem Zg(s t:aH)(i:Nat):(s.or t).word i=s.word i|||t.word i:=by match i with|0=>rfl|1=>rfl|_+2=>rfl
theorem U0(s t:aH)(i:Nat):(s.and t).word i=s.word i&&&t.word i:=by match i with|0=>rfl|1=>rfl|_+2=>rfl
theorem yJ(s t:aH)(k:Nat):(s.or t).mem k=(s.mem k||t.mem k):=by unfold mem;rw[Zg,ak9]
theorem Dw(s t:aH)(k:Nat):(s.and t).mem k=(s.mem k&&t.mem k):=by unfold mem;rw[U0,ajX]
theorem jC(k:Nat):zero.mem k=false:=by
 have:∀i,zero.word i=0:=λi=>by match i with|0=>rfl|1=>rfl|_+2=>rfl
 unfold mem;rw[this];simp
theorem sX(s:aH)(i j v:Nat)(hi:i<3)(hj:j<3):(s.rA i v).word j=if i=j then v else s.word j:=by match i,j with|0,0=>rfl|0,1=>rfl|0,2=>rfl|1,0=>rfl|1,1=>rfl|1,2=>rfl|2,0=>rfl|2,1=>rfl|2,2=>rfl|n+3,_=>omega|_,m+3=>omega
theorem wG(s:aH)(k j:Nat)(hk:k<192)(hj:j<192):(s.on k).mem j=(decide (j=k)||s.mem j):=by
 unfold mem on;rw[sX _ _ _ _ (by omega) (by omega)];by_cases h:k/64=j/64;·
  rw[if_pos h,ak9,Nat.testBit_two_pow,h];by_cases e:j=k;·subst e;simp
  ·have:¬k%64=j%64:=λe2=>e (by omega);simp[e,this]
 ·rw[if_neg h];have:¬j=k:=λe=>h (by rw[e]);simp[this]
theorem Ci{x:Nat}(h:x<Ax){i:Nat}(hi:64<=i):x.testBit i=false:=Nat.testBit_lt_two_pow (bI (adn h) (Nat.pow_le_pow_right (by decide) hi))
theorem ext{s t:aH}(hs:s.ok)(ht:t.ok)(h:∀k,k<192->s.mem k=t.mem k):s=t:=by
 have key:∀i,i<3->s.word i=t.word i:=λi hi=>by
  apply Nat.eq_of_testBit_eq;intro j;by_cases hj:j<64;·have:=h (64*i+j) (by omega);unfold mem at this;rw[show(64*i+j)/64=i by omega,show(64*i+j)%64=j by omega]at this;exact this
  ·rw[Ci (jS hs i) (by omega),Ci (jS ht i) (by omega)]
 obtain⟨a,b,c⟩:=s;obtain⟨a',b',c'⟩:=t;have h0:a=a':=key 0 (by decide);have h1:b=b':=key 1 (by decide);have h2:c=c':=key 2 (by decide);subst h0 h1 h2;rfl
end aH
theorem Jn{x:Nat}(h0:x≠0)(h:x<Ax):∃m,x=2^Cb 64 x*(2*m+1)/\Cb 64 x<64:=by unfold Cb;rw[if_neg h0];exact Lib.ctzFrom_spec 64 x (by omega) h
theorem Nu(x:Nat)(h0:x≠0)(h:x<Ax)(i:Nat):(x&&&(x-1)).testBit i=(x.testBit i&&!decide (i=Cb 64 x)):=by
 obtain⟨m,hm,hk⟩:=Jn h0 h;obtain⟨k,hk'⟩:∃k,k=Cb 64 x:=⟨_,rfl⟩;rw[<-hk']at hm⊢;have hp:0<2^k:=Nat.two_pow_pos k;have hx1:x-1=2^k*(2*m)+(2^k-1):=by rw[hm,Nat.mul_add,awC];omega
 rw[ajX];by_cases hik:i<k;·
  have h1:x.testBit i=false:=by rw[hm,oF];simp;omega
  rw[h1];simp
 ·rw[hx1,Nat.testBit_two_pow_mul_add _ (by omega:2^k-1<2^k),if_neg hik];have h2:x.testBit i=(2*m+1).testBit (i-k):=by
   conv=>lhs;rw[hm]
   rw[oF];simp;omega
  rw[h2];by_cases e:i=k;·subst e;simp
  ·obtain⟨j,hj⟩:∃j,i-k=j+1:=⟨i-k-1,by omega⟩;rw[hj,agu,agu,show 2*m/2=m by omega,show(2*m+1)/2=m by omega];simp[e]
theorem Ro(x:Nat)(h0:x≠0):x&&&(x-1)<x:=qj Nat.and_le_right (by omega)
open Go Go.RowKit
def aH.VD(s t:aH):Nat->aH|0=>s|1=>⟨s.a|||t.a,s.b,s.c⟩|2=>⟨s.a|||t.a,s.b|||t.b,s.c⟩|_=>s.or t
theorem aH.RR(s t:aH){j:Nat}(h:j<3):(s.VD t j).word j=s.word j:=by match j with|0=>rfl|1=>rfl|2=>rfl|n+3=>omega
theorem aH.lh(s:aH){j:Nat}(h:j<3):s.cells.toArray[j]?=some (uV (s.word j)):=by match j with|0=>rfl|1=>rfl|2=>rfl|n+3=>omega
theorem aH.RS(s t:aH){j:Nat}(h:j<3):(s.VD t j).cells.toArray.setIfInBounds j (uV ((s.word j|||t.word j:Nat):Int))=(s.VD t (j+1)).cells.toArray:=by match j with|0=>rfl|1=>rfl|2=>rfl|n+3=>omega
def aH.val(s:aH):ay:= .agg s.cells.toArray
theorem mP(s t:aH)(w:ak)(hs:s.ok)(ht:t.ok):aX ah 196 #[s.val,t.val] w λe w'=>e= .returned (s.or t).val/\aI w.heap.size w w':=by
 have HS:=ae hs;have HT:=ae ht;clear hs ht;unfold aH.val aH.cells;go_enter Tryz.func196,Tryz.ntmps196;go_wp2_with fail;obtain⟨W,hW⟩:∃W,W=((w.alloc (.cells #[uV s.a,uV s.b,uV s.c] 306)).alloc (.cells #[uV t.a,uV t.b,uV t.c] 306)).alloc (.cells #[uV 0,uV 0,uV 0] 306):=⟨_,rfl⟩;rw[<-hW];have h0:W.heap[w.heap.size]?=some (.cells (s.VD t 0).cells.toArray 306 (0,0)):=by rw[hW,aC _ _ _ (by simp;omega),aC _ _ _ (by simp)];exact heap_alloc_new w _
 have h1:W.heap[w.heap.size+1]?=some (.cells t.cells.toArray 306 (0,0)):=by rw[hW,aC _ _ _ (by simp)];have:=heap_alloc_new (w.alloc (.cells #[uV s.a,uV s.b,uV s.c] 306)) (.cells #[uV t.a,uV t.b,uV t.c] 306);rw[bM]at this;exact this
 have h2:W.heap[w.heap.size+1+1]?=some (.cells #[uV 0,uV 0,uV 0] 306 (0,0)):=by rw[hW];have:=heap_alloc_new ((w.alloc (.cells #[uV s.a,uV s.b,uV s.c] 306)).alloc (.cells #[uV t.a,uV t.b,uV t.c] 306)) (.cells #[uV 0,uV 0,uV 0] 306);simp only[bM]at this;exact this
 have hb:aI w.heap.size w W:=by rw[hW];exact(((aB _ w).alloc (au _) _).alloc (by simp) _).alloc (by simp;omega) _
 have H0:=ae (show _/\_/\_/\_ from⟨h0,h1,h2,hb⟩);clear hW h0 h1 h2 hb;obtain⟨b0,hb0⟩:∃b0,b0=w.heap.size:=⟨_,rfl⟩;rw[<-hb0]at H0⊢;have AL:=ae hb0;clear hb0;go_loopw[6](λi wr=>∃j:Nat,j<=3/\i= .int .i64 j/\Hid (wr.heap[b0]?=some (.cells (s.VD t j).cells.toArray 306 (0,0))/\wr.heap[b0+1]?=some (.cells t.cells.toArray 306 (0,0))/\wr.heap[b0+1+1]?=some (.cells #[uV 0,uV 0,uV 0] 306 (0,0))/\aI b0 w wr))(λi _=>3-(intOf i).toNat);case atStart=>exact⟨0,by omega,rfl,H0⟩
 case round=>
  clear H0;obtain⟨j,hj,rfl,HR⟩:=hrel;obtain⟨h0,h1,h2,hb⟩:=HR.out;by_cases hjl:j<3;·
   have hjz:(j:Int)<3:=by omega
   obtain⟨x,hx⟩:∃x,x=s.word j:=⟨_,rfl⟩;obtain⟨y,hy⟩:∃y,y=t.word j:=⟨_,rfl⟩;have c0:wr.cell? (aD b0 j)=some (uV x):=by rw[aq h0,aH.lh _ hjl,aH.RR _ _ hjl,hx]
   have c1:wr.cell? (aD (b0+1) j)=some (uV y):=by rw[aq h1,aH.lh _ hjl,hy]
   have f0:wr.frozen? (aD b0 j)=false:=aU h0;have Lv:=bits_or_u64_nat x y (by rw[hx];exact aH.jS HS j) (by rw[hy];exact aH.jS HT j);have HX:=ae (show x=s.word j/\y=t.word j from⟨hx,hy⟩);clear h0 h1 h2 hb hx hy;go_wp2_with fail;refine bB [(0,false),(1,false),(2,false),(3,false),(4,false),(5,false),(6,false),(7,false),(8,true)] 8 (λw'=>w'.cell? (aD b0 j)=some (uV x)/\w'.cell? (aD (b0+1) j)=some (uV y)) (by kernel_rfl) (by kernel_rfl) ⟨c0,c1⟩ ?_;iterate 8(
 refine aR ?_ rfl rfl (λw' hS=>?_) ?_;rotate_left;·obtain⟨e0,e1⟩:=hS;go_simp;try rfl
 simp only[aN,ai,aj])
   refine cO rfl rfl (λK hK=>?_);go_simp;refine hK _ _ ?_;clear hK K;go_wp2_with fail;obtain⟨h0,h1,h2,hb⟩:=HR.out;refine⟨⟨j+1,by omega,by go_num,?_,?_,?_,?_⟩,by simp[intOf];omega⟩;·rw[<-aH.RS s t hjl,<-HX.1,<-HX.2];exact heap_setCell_same wr.drew b0 j _ _ _ h0
   ·exact(az wr (aD b0 j) _ (b0+1) (by simp)).trans h1
   ·exact(az wr (aD b0 j) _ (b0+1+1) (by simp;omega)).trans h2
   ·exact hb.drew.setCell (p:=(aD b0 j)) (au _) _
  ·obtain rfl:j=3:=by omega
   have h0':wr.heap[b0]?=some (.cells #[uV (s.or t).a,uV (s.or t).b,uV (s.or t).c] 306 (0,0)):=h0;have c0:wr.cell? (aD b0 0)=some (uV (s.or t).a):=aq h0';have c1:wr.cell? (aD b0 1)=some (uV (s.or t).b):=aq h0';have c2:wr.cell? (aD b0 2)=some (uV (s.or t).c):=aq h0';have d0:wr.cell? (aD (b0+1+1) 0)=some (uV 0):=aq h2;have d1:wr.cell? (aD (b0+1+1) 1)=some (uV 0):=aq h2;have d2:wr.cell? (aD (b0+1+1) 2)=some (uV 0):=aq h2;have e0:wr.frozen? (aD (b0+1+1) 0)=false:=aU h2;have e1:wr.frozen? (aD (b0+1+1) 1)=false:=aU h2;have e2:wr.frozen? (aD (b0+1+1) 2)=false:=aU h2;clear h0 h0' h1 h2 hb;go_wp2_with fail;have g1:=heap_setCell_same wr (b0+1+1) 0 _ _ (uV ((s.or t).a:Nat)) HR.2.2.1;have g2:=heap_setCell_same _ (b0+1+1) 1 _ _ (uV ((s.or t).b:Nat)) g1;have g3:=heap_setCell_same _ (b0+1+1) 2 _ _ (uV ((s.or t).c:Nat)) g2;refine bodyPost_ret (results_cell_row rfl _ _ (b0+1+1) _ _ (0,0) _ rfl g3 iK rfl (by kernel_rfl)) rfl ?_;refine⟨rfl,?_⟩;have hb:=HR.2.2.2;rw[AL]at hb⊢;exact((hb.setCell (p:=(aD _ 0)) (by simp only;omega) _).setCell (p:=(aD _ 1)) (by simp only;omega) _).setCell (p:=(aD _ 2)) (by simp only;omega) _
def aH.Mt(s t:aH):Nat->aH|0=>s|1=>⟨s.a&&&t.a,s.b,s.c⟩|2=>⟨s.a&&&t.a,s.b&&&t.b,s.c⟩|_=>s.and t
theorem aH.Px(s t:aH){j:Nat}(h:j<3):(s.Mt t j).word j=s.word j:=by match j with|0=>rfl|1=>rfl|2=>rfl|n+3=>omega
theorem aH.Py(s t:aH){j:Nat}(h:j<3):(s.Mt t j).cells.toArray.setIfInBounds j (uV ((s.word j&&&t.word j:Nat):Int))=(s.Mt t (j+1)).cells.toArray:=by match j with|0=>rfl|1=>rfl|2=>rfl|n+3=>omega
theorem Ef(s t:aH)(w:ak)(hs:s.ok)(ht:t.ok):aX ah 199 #[s.val,t.val] w λe w'=>e= .returned (s.and t).val/\aI w.heap.size w w':=by
 have HS:=ae hs;have HT:=ae ht;unfold aH.val aH.cells;go_enter Tryz.func199,Tryz.ntmps199;go_wp2_with fail;obtain⟨W,hW⟩:∃W,W=((w.alloc (.cells #[uV s.a,uV s.b,uV s.c] 306)).alloc (.cells #[uV t.a,uV t.b,uV t.c] 306)).alloc (.cells #[uV 0,uV 0,uV 0] 306):=⟨_,rfl⟩;rw[<-hW];have h0:W.heap[w.heap.size]?=some (.cells (s.Mt t 0).cells.toArray 306 (0,0)):=by rw[hW,aC _ _ _ (by simp;omega),aC _ _ _ (by simp)];exact heap_alloc_new w _
 have h1:W.heap[w.heap.size+1]?=some (.cells t.cells.toArray 306 (0,0)):=by rw[hW,aC _ _ _ (by simp)];have:=heap_alloc_new (w.alloc (.cells #[uV s.a,uV s.b,uV s.c] 306)) (.cells #[uV t.a,uV t.b,uV t.c] 306);rw[bM]at this;exact this
 have h2:W.heap[w.heap.size+1+1]?=some (.cells #[uV 0,uV 0,uV 0] 306 (0,0)):=by rw[hW];have:=heap_alloc_new ((w.alloc (.cells #[uV s.a,uV s.b,uV s.c] 306)).alloc (.cells #[uV t.a,uV t.b,uV t.c] 306)) (.cells #[uV 0,uV 0,uV 0] 306);simp only[bM]at this;exact this
 have hb:aI w.heap.size w W:=by rw[hW];exact(((aB _ w).alloc (au _) _).alloc (by simp) _).alloc (by simp;omega) _
 have H0:=ae (show _/\_/\_/\_ from⟨h0,h1,h2,hb⟩);clear hW h0 h1 h2 hb;obtain⟨b0,hb0⟩:∃b0,b0=w.heap.size:=⟨_,rfl⟩;rw[<-hb0]at H0⊢;have AL:=ae hb0;clear hb0;go_loopw[6](λi wr=>∃j:Nat,j<=3/\i= .int .i64 j/\Hid (wr.heap[b0]?=some (.cells (s.Mt t j).cells.toArray 306 (0,0))/\wr.heap[b0+1]?=some (.cells t.cells.toArray 306 (0,0))/\wr.heap[b0+1+1]?=some (.cells #[uV 0,uV 0,uV 0] 306 (0,0))/\aI b0 w wr))(λi _=>3-(intOf i).toNat);case atStart=>exact⟨0,by omega,rfl,H0⟩
 case round=>
  clear H0;obtain⟨j,hj,rfl,HR⟩:=hrel;obtain⟨h0,h1,h2,hb⟩:=HR.out;by_cases hjl:j<3;·
   have hjz:(j:Int)<3:=by omega
   obtain⟨x,hx⟩:∃x,x=s.word j:=⟨_,rfl⟩;obtain⟨y,hy⟩:∃y,y=t.word j:=⟨_,rfl⟩;have c0:wr.cell? (aD b0 j)=some (uV x):=by rw[aq h0,aH.lh _ hjl,aH.Px _ _ hjl,hx]
   have c1:wr.cell? (aD (b0+1) j)=some (uV y):=by rw[aq h1,aH.lh _ hjl,hy]
   have f0:wr.frozen? (aD b0 j)=false:=aU h0;have Lv:=bits_and_u64_nat x y (by rw[hx];exact aH.jS HS j) (by rw[hy];exact aH.jS HT j);have HX:=ae (show x=s.word j/\y=t.word j from⟨hx,hy⟩);clear h0 h1 h2 hb hx hy;go_wp2_with fail;refine bB [(0,false),(1,false),(2,false),(3,false),(4,false),(5,false),(6,false),(7,false),(8,true)] 8 (λw'=>w'.cell? (aD b0 j)=some (uV x)/\w'.cell? (aD (b0+1) j)=some (uV y)) (by kernel_rfl) (by kernel_rfl) ⟨c0,c1⟩ ?_;iterate 8(
 refine aR ?_ rfl rfl (λw' hS=>?_) ?_;rotate_left;·obtain⟨e0,e1⟩:=hS;go_simp;try rfl
 simp only[aN,ai,aj])
   refine cO rfl rfl (λK hK=>?_);go_simp;refine hK _ _ ?_;clear hK K;go_wp2_with fail;obtain⟨h0,h1,h2,hb⟩:=HR.out;refine⟨⟨j+1,by omega,by go_num,?_,?_,?_,?_⟩,by simp[intOf];omega⟩;·rw[<-aH.Py s t hjl,<-HX.1,<-HX.2];exact heap_setCell_same wr.drew b0 j _ _ _ h0
   ·exact(az wr (aD b0 j) _ (b0+1) (by simp)).trans h1
   ·exact(az wr (aD b0 j) _ (b0+1+1) (by simp;omega)).trans h2
   ·exact hb.drew.setCell (p:=(aD b0 j)) (au _) _
  ·obtain rfl:j=3:=by omega
   have h0':=h0;have c0:wr.cell? (aD b0 0)=some (uV (s.and t).a):=aq h0';have c1:wr.cell? (aD b0 1)=some (uV (s.and t).b):=aq h0';have c2:wr.cell? (aD b0 2)=some (uV (s.and t).c):=aq h0';have d0:wr.cell? (aD (b0+1+1) 0)=some (uV 0):=aq h2;have d1:wr.cell? (aD (b0+1+1) 1)=some (uV 0):=aq h2;have d2:wr.cell? (aD (b0+1+1) 2)=some (uV 0):=aq h2;have e0:wr.frozen? (aD (b0+1+1) 0)=false:=aU h2;have e1:wr.frozen? (aD (b0+1+1) 1)=false:=aU h2;have e2:wr.frozen? (aD (b0+1+1) 2)=false:=aU h2;clear h0 h0' h1 h2 hb;go_wp2_with fail;have g1:=heap_setCell_same wr (b0+1+1) 0 _ _ (uV ((s.and t).a:Nat)) HR.2.2.1;have g2:=heap_setCell_same _ (b0+1+1) 1 _ _ (uV ((s.and t).b:Nat)) g1;have g3:=heap_setCell_same _ (b0+1+1) 2 _ _ (uV ((s.and t).c:Nat)) g2;refine bodyPost_ret (results_cell_row rfl _ _ (b0+1+1) _ _ (0,0) _ rfl g3 iK rfl (by kernel_rfl)) rfl ?_;refine⟨rfl,?_⟩;have hb:=HR.2.2.2;rw[AL]at hb⊢;exact((hb.setCell (p:=(aD _ 0)) (by simp only;omega) _).setCell (p:=(aD _ 1)) (by simp only;omega) _).setCell (p:=(aD _ 2)) (by simp only;omega) _
def Fm(w:ak)(b o:Nat)(s:aH):Prop:=∀j,j<3->w.cell? ⟨b,o+j,none⟩=some (.int .u64 (s.word j))/\w.frozen? ⟨b,o+j,none⟩=false
theorem Bh(b o k:Nat)(s:aH)(w:ak)(hs:s.ok)(hk:k<192)(hA:Fm w b o s):aX ah 152 #[.pointer (some (aD b o)),iV k] w λe w'=>e= .returned (.tuple #[])/\Same (w.setCell (aD b (o+k/64)) (uV ((s.word (k/64)|||2^(k%64):Nat):Int))) w':=by
 obtain⟨q,hq⟩:∃q,q=k/64:=⟨_,rfl⟩;obtain⟨r,hr⟩:∃r,r=k%64:=⟨_,rfl⟩;have hq3:q<3:=by omega
 have ahk:r<64:=by omega
 obtain⟨x,hx⟩:∃x,x=s.word (k/64):=⟨_,rfl⟩;obtain⟨y,hy⟩:∃y,y=2^(k%64):=⟨_,rfl⟩;rw[<-hx,<-hy,<-hq];have c0:w.cell? (aD b (o+q))=some (uV x):=by rw[hx,<-hq];exact(hA q hq3).1
 have f0:w.frozen? (aD b (o+q))=false:=(hA q hq3).2;have Lv:=bits_or_u64_nat x y (by rw[hx];exact aH.jS hs _) (by rw[hy];exact aH.BM k);have d1:(k:Int)/64=(q:Int):=by omega
 have d2:(k:Int)%64=(r:Int):=by omega
 have d3:Int.tdiv (k:Int) 64=(q:Int):=by rw[M7 (by omega)];exact d1
 have d4:Int.tmod (k:Int) 64=(r:Int):=by rw[yq (by omega)];exact d2
 have d5:IntKind.u64.wrap (2^r)=(y:Int):=by
  have h:2^(k%64)<18446744073709551616:=aH.BM k;rw[<-hr]at h hy;rw[agz,hy];have e:((2:Int)^r)=((2^r:Nat):Int):=by simp
  rw[e];exact Int.emod_eq_of_lt (by omega) (by omega)
 have d6:IntKind.i64.wrap (q:Int)=(q:Int):=by rw[UT];omega
 have d7:IntKind.i64.wrap (r:Int)=(r:Int):=by rw[UT];omega
 have d8:(q:Int)<3:=by omega
 clear hA hs hx hy hq hr;go_enter Tryz.func152,Tryz.ntmps152;go_wp2_with fail;refine bB [(0,false),(1,false),(2,false),(3,false),(4,false),(5,false),(6,false),(7,false),(8,false),(9,false),(10,true),(11,true),(12,true)] 12 (λw'=>w'.cell? (aD b (o+q))=some (uV x)) (by kernel_rfl) (by kernel_rfl) c0 ?_;iterate 10(
 refine aR ?_ rfl rfl (λw' hS=>?_) ?_;rotate_left;·go_simp;try rfl
 simp only[aN,ai,aj])
 iterate 2(refine bg rfl rfl (by decide) (λK hK=>?_);go_simp;refine hK _ _ c0 ?_;clear hK K)
 refine cO rfl rfl (λK hK=>?_);go_simp;refine hK _ _ ?_;clear hK K;go_wp2_with fail;go_end0;exact⟨rfl,Same.drew _⟩
def bN:aH:=aH.zero.on 128
theorem Fm.of_block{w:ak}{b:Nat}{s:aH}{T:dx}(h:w.heap[b]?=some (.cells s.cells.toArray T (0,0))):Fm w b 0 s:=λj hj=>by rw[gW];exact⟨(aq h).trans (aH.lh s hj),aU h⟩
theorem aH.qy(s:aH){i:Nat}(h:i<3)(v:Nat):s.cells.toArray.setIfInBounds i (uV v)=(s.rA i v).cells.toArray:=by match i with|0=>rfl|1=>rfl|2=>rfl|n+3=>omega
theorem Cq(b k:Nat)(s:aH)(T:dx)(w:ak)(hs:s.ok)(hk:k<192)(hb:w.heap[b]?=some (.cells s.cells.toArray T (0,0))):aX ah 152 #[pT b,iV k] w λe w'=>e= .returned (.tuple #[])/\w'.heap[b]?=some (.cells (s.on k).cells.toArray T (0,0))/\(∀j,j≠b->w'.heap[j]?=w.heap[j]?)/\∀B,B<=b->aI B w w':=by
 refine(Bh b 0 k s w hs hk (Fm.of_block hb)).mono ?_;rintro e w'⟨rfl,hS⟩;rw[gW]at hS;refine⟨rfl,?_,λj hj=>?_,λB hB=>?_⟩;·rw[hS.heap,heap_setCell_same w b (k/64) _ _ _ hb,aH.qy s (by omega)];rfl
 ·rw[hS.heap];exact az w (aD b (k/64)) _ j hj
 ·exact((aB _ w).setCell (p:=(aD b (k/64))) hB _).trans (hS.below _)
theorem F7(v:ay)(w:ak):aX ah 153 #[v] w λe w'=>e= .returned bN.val/\aI w.heap.size w w':=by
 have h1:((w.alloc (.cells #[uV 0,uV 0,uV 0] 306)).alloc (.cells #[uV 0,uV 0,uV 0] 306)).heap[w.heap.size+1]?=some (.cells aH.zero.cells.toArray 306 (0,0)):=by have:=heap_alloc_new (w.alloc (.cells #[uV 0,uV 0,uV 0] 306)) (.cells #[uV 0,uV 0,uV 0] 306);rw[bM]at this;exact this
 have h0:((w.alloc (.cells #[uV 0,uV 0,uV 0] 306)).alloc (.cells #[uV 0,uV 0,uV 0] 306)).heap[w.heap.size]?=some (.cells #[uV 0,uV 0,uV 0] 306 (0,0)):=by rw[aC _ _ _ (by simp)];exact heap_alloc_new w _
 have hb:aI w.heap.size w ((w.alloc (.cells #[uV 0,uV 0,uV 0] 306)).alloc (.cells #[uV 0,uV 0,uV 0] 306)):=((aB _ w).alloc (au _) _).alloc (by simp) _;have H:=ae (show _/\_/\_ from⟨h0,h1,hb⟩);go_enter Tryz.func153,Tryz.ntmps153;go_wp2_with fail;generalize((w.alloc (.cells #[uV 0,uV 0,uV 0] 306)).alloc (.cells #[uV 0,uV 0,uV 0] 306))=W at*;refine(Cq (w.heap.size+1) 128 aH.zero _ W aH.dL (by decide) H.2.1).mono ?_;rintro e w1⟨rfl,g1,g2,g3⟩;have g0:=(g2 w.heap.size (by omega)).trans H.1;have gb:=H.2.2.trans (g3 _ (by omega));have c0:w1.cell? (aD (w.heap.size+1) 0)=some (uV bN.a):=aq g1;have c1:w1.cell? (aD (w.heap.size+1) 1)=some (uV bN.b):=aq g1;have c2:w1.cell? (aD (w.heap.size+1) 2)=some (uV bN.c):=aq g1;have f0:w1.frozen? (aD w.heap.size 0)=false:=aU g0;have f1:w1.frozen? (aD w.heap.size 1)=false:=aU g0;have f2:w1.frozen? (aD w.heap.size 2)=false:=aU g0;have d0:w1.cell? (aD w.heap.size 0)=some (uV 0):=aq g0;have d1:w1.cell? (aD w.heap.size 1)=some (uV 0):=aq g0;have d2:w1.cell? (aD w.heap.size 2)=some (uV 0):=aq g0;have G0:=ae (show _/\_ from⟨g0,gb⟩);obtain⟨bs,hbs⟩:∃bs,bs=bN:=⟨_,rfl⟩;rw[<-hbs]at c0 c1 c2;have HBS:=ae hbs;clear hbs;go_wp2_with fail;have k1:=heap_setCell_same w1 w.heap.size 0 _ _ (uV (bs.a:Nat)) G0.1;have k2:=heap_setCell_same _ w.heap.size 1 _ _ (uV (bs.b:Nat)) k1;have k3:=heap_setCell_same _ w.heap.size 2 _ _ (uV (bs.c:Nat)) k2;refine bodyPost_ret (results_cell_row rfl _ _ w.heap.size _ _ (0,0) _ rfl k3 iK rfl (by kernel_rfl)) rfl ?_;refine⟨by rw[<-HBS];rfl,?_⟩;exact((G0.2.setCell (p:=(aD _ 0)) (au _) _).setCell (p:=(aD _ 1)) (au _) _).setCell (p:=(aD _ 2)) (au _) _
structure PM where
 at':List aH
 follow:List aH
 last:aH
 n:Nat
 deriving Inhabited
def setCells(l:List aH):List ay:=l.flatMap aH.cells
theorem dV(l:List aH):(setCells l).length=l.length*3:=by unfold setCells;induction l with|nil=>rfl|cons a l ih=>rw[Rc,bh,ih,cI];show 3+_=_;omega
theorem iG:∀ (l:List aH) (k:Nat) (s:aH),l[k]?=some s -> ∀ j,j < 3->(setCells l)[k * 3+j]?=some (uV (s.word j))
 | [],k,s,h,_,_=>by simp at h
 | y :: t,0,s,h,j,hj=>by
  simp at h
  subst h
  match j with
  | 0=>rfl
  | 1=>rfl
  | 2=>rfl
  | n+3=>omega
 | y :: t,k+1,s,h,j,hj=>by
  have ih:=iG t k s (by simpa using h) j hj
  have e:setCells (y :: t)=uV y.a :: uV y.b :: uV y.c :: setCells t:=by simp [setCells,aH.cells]
  rw [e,show (k+1) * 3+j=(k * 3+j)+1+1+1 by omega]
  simpa using ih
def PM.cells(M:PM):List ay:=setCells M.at'++(setCells M.follow++(M.last.cells++[.int .i64 M.n]))
structure PM.ok (M:PM):Prop where
 la:M.at'.length=256
 lf:M.follow.length=129
 oa:∀ s∈M.at',s.ok
 of':∀ s∈M.follow,s.ok
 ol:M.last.ok
def bQ(w:ak)(mb:Nat)(M:PM):Prop:=M.ok/\w.heap[mb]?=some (.cells M.cells.toArray 310 (0,0))
theorem bQ.below{w w':ak}{mb:Nat}{M:PM}(h:bQ w mb M)(hb:aI w.heap.size w w'):bQ w' mb M:=⟨h.1,(hb.block _ (lt_of_heap h.2)).trans h.2⟩
section
variable{w:ak}{mb:Nat}{M:PM}
theorem bQ.cell(h:bQ w mb M)(i:Nat):w.cell? (aD mb i)=M.cells[i]?:=by rw[aq h.2];simp
theorem bQ.free(h:bQ w mb M)(i:Nat):w.frozen? (aD mb i)=false:=aU h.2
theorem bQ.atC(h:bQ w mb M){c:Nat}{s:aH}(hc:M.at'[c]?=some s):Fm w mb (c*3) s:=λj hj=>by refine⟨?_,h.free _⟩;have hl:=(List.getElem?_eq_some_iff.1 hc).1;have:=dV M.at';rw[h.cell,PM.cells,dF (by omega)];exact iG _ _ _ hc j hj
theorem bQ.Ji(h:bQ w mb M){k:Nat}{s:aH}(hc:M.follow[k]?=some s):Fm w mb (768+k*3) s:=λj hj=>by refine⟨?_,h.free _⟩;have hl:=(List.getElem?_eq_some_iff.1 hc).1;have h1:=dV M.at';have h2:=dV M.follow;have h3:=h.1.la;rw[h.cell,PM.cells,gA (by omega),dF (by omega),show 768+k*3+j-(setCells M.at').length=k*3+j by omega];exact iG _ _ _ hc j hj
theorem bQ.V3(h:bQ w mb M):Fm w mb 1155 M.last:=λj hj=>by refine⟨?_,h.free _⟩;have h1:=dV M.at';have h2:=dV M.follow;have h3:=h.1.la;have h4:=h.1.lf;rw[h.cell,PM.cells,gA (by omega),gA (by omega),dF (by show _<3;omega),show 1155+j-(setCells M.at').length-(setCells M.follow).length=j by omega];have:=M.last.lh hj;simpa using this
end
theorem Co(d:Nat)(s t:aH)(W:ak):(acV (d+2) 306 s.val t.val).run ah W= .ok (decide (s=t)) W:=by
 obtain⟨a,b,c⟩:=s;obtain⟨a',b',c'⟩:=t;have hn:(Go.sizeOf 297).run ah W= .ok 1 W:=by kernel_rfl
 have hu:=Tryz.underlying297;unfold aH.val aH.cells;rw[acV];simp only[dZ,run_underlying iK,Result.andThen_ok,hn];have MS:∀W,(isAgg 297).run ah W= .ok false W:=λW=>by kernel_rfl
 have heq:∀(x y:Nat)W,(acV (d+1) 297 (uV x) (uV y)).run ah W= .ok (decide (x=y)) W:=λx y W=>by
  have e:((x:Int)==(y:Int))=decide (x=y):=by rw[Bool.eq_iff_iff,beq_iff_eq,decide_eq_true_iff];omega
  rw[run_equalIn_int (P:=ah) (w:=W) d 297 .u64 .u64 x y hu,e]
 simp only[go_sem];simp[show JT 0 3=[0,1,2]from rfl,dZ,MS,heq];by_cases h1:a=a'<;>by_cases h2:b=b'<;>by_cases h3:c=c'<;>simp[h1,h2,h3]
theorem PZ(s t:aH)(W:ak):(binOp .neq 306 s.val t.val).run ah W= .ok (.bool (!decide (s=t))) W:=by have h:=Co 9998 s t W;unfold aH.val at h⊢;rw[run_neq_struct];rw[show(10000:Nat)=9998+2 from rfl,h];rfl
theorem GN(x y:Operand)(a b:Array ay)(W:ak):(eqGuard .neq 306 x y (.agg a) (.agg b)).run ah W= .ok () W:=by unfold eqGuard;simp[dZ,run_program]
def PM.ends(M:PM)(s:aH):Bool:=!decide (s.and M.last=aH.zero)
theorem zX(mb:Nat)(M:PM)(s:aH)(w:ak)(hs:s.ok)(hM:bQ w mb M):aX ah 156 #[aP mb,s.val] w λe w'=>e= .returned (.bool (M.ends s))/\aI w.heap.size w w':=by
 have hl:=hM.V3;have HS:=ae hs;have HM:=ae hM;have m0:=(hl 0 (by decide)).1;have m1:=(hl 1 (by decide)).1;have m2:=(hl 2 (by decide)).1;have an8:=ae (show∀W,(binOp .neq 306 (s.and M.last).val aH.zero.val).run ah W= .ok (.bool (M.ends s)) W from PZ (s.and M.last) aH.zero);clear hl hs hM;generalize M.ends s=r at*;unfold aP aH.val aH.cells;go_enter Tryz.func156,Tryz.ntmps156;go_wp2_with fail;have hb0:aI w.heap.size w (w.alloc (.cells #[uV s.a,uV s.b,uV s.c] 306)):=(aB _ w).alloc (au _) _;have hbx:=heap_alloc_new w (.cells #[uV s.a,uV s.b,uV s.c] 306);have n0:=(hb0.cell (p:=(aD mb (1155+0))) (lt_of_cell m0)).trans m0;have n1:=(hb0.cell (p:=(aD mb (1155+1))) (lt_of_cell m1)).trans m1;have n2:=(hb0.cell (p:=(aD mb (1155+2))) (lt_of_cell m2)).trans m2;have AL:=ae hb0;clear m0 m1 m2 hb0;obtain⟨b,hb⟩:∃b,b=w.heap.size:=⟨_,rfl⟩;rw[<-hb]at hbx⊢;clear hb;generalize w.alloc (.cells #[uV s.a,uV s.b,uV s.c] 306)=W at*;have c0:W.cell? (aD b 0)=some (uV s.a):=aq hbx;have c1:W.cell? (aD b 1)=some (uV s.b):=aq hbx;have c2:W.cell? (aD b 2)=some (uV s.c):=aq hbx;clear hbx;have hla:M.last.word 0=M.last.a:=rfl;have hlb:M.last.word 1=M.last.b:=rfl;have hlc:M.last.word 2=M.last.c:=rfl;rw[hla]at n0;rw[hlb]at n1;rw[hlc]at n2;clear hla hlb hlc;refine mh [(0,false),(1,false),(2,false),(3,false),(4,false),(6,false),(5,true),(7,false),(8,false)] (λw'=>(w'.cell? (aD b 0)=some (uV s.a)/\w'.cell? (aD b 1)=some (uV s.b)/\w'.cell? (aD b 2)=some (uV s.c))/\w'.cell? (aD mb 1155)=some (uV M.last.a)/\w'.cell? (aD mb (1155+1))=some (uV M.last.b)/\w'.cell? (aD mb (1155+2))=some (uV M.last.c)) (by kernel_rfl) (by kernel_rfl) ⟨⟨c0,c1,c2⟩,n0,n1,n2⟩ ?_;iterate 6(
 refine aR ?_ rfl rfl (λw' hS=>?_) ?_;rotate_left;·obtain⟨⟨e0,e1,e2⟩,f0,f1,f2⟩:=hS;go_simp;try rfl
 simp only[aN,ai,aj])
 refine bg rfl rfl (by decide) (λK hK=>?_);go_simp;have hcall:=Ef s M.last W.drew HS HM.1.ol;have SA:=an8.out;have WY:=λx y W=>GN x y (s.and M.last).cells.toArray aH.zero.cells.toArray W;unfold aH.val aH.cells at hcall SA;unfold aH.cells at WY;have z:(aH.zero.a:Int)=0/\(aH.zero.b:Int)=0/\(aH.zero.c:Int)=0:=⟨rfl,rfl,rfl⟩;rw[z.1,z.2.1,z.2.2]at SA WY;clear z;refine hcall.mono ?_;clear hcall;rintro e W2⟨rfl,hb2⟩;have yV:aI W.heap.size W W2:=(aB _ _).drew.trans hb2;have g0:=(yV.cell (p:=(aD b 0)) (lt_of_cell c0)).trans c0;have g1:=(yV.cell (p:=(aD b 1)) (lt_of_cell c1)).trans c1;have g2:=(yV.cell (p:=(aD b 2)) (lt_of_cell c2)).trans c2;have k0:=(yV.cell (p:=(aD mb (1155+0))) (lt_of_cell n0)).trans n0;have k1:=(yV.cell (p:=(aD mb (1155+1))) (lt_of_cell n1)).trans n1;have k2:=(yV.cell (p:=(aD mb (1155+2))) (lt_of_cell n2)).trans n2;refine hK _ _ ⟨⟨g0,g1,g2⟩,k0,k1,k2⟩ ?_;clear hK K g0 g1 g2 k0 k1 k2 c0 c1 c2 n0 n1 n2;iterate 2(
 refine aR ?_ rfl rfl (λw' hS=>?_) ?_;rotate_left;·clear hS;go_simp;try rfl
 simp only[aN,ai,aj])
 refine cV ?_;go_wp2_with fail;go_ret;exact⟨rfl,AL.trans (yV.mono AL.size)⟩
variable{F:Fence}{n:Nat}{P:iX}
def MK{α:Type}(F:Fence)(n:Nat)(P:iX)(g:Nat)(fst lb:Array ay)(encs:α->Array ay)(b:Nat)(xs:List α)(w:ak):Prop:=∀(l:Nat)(J:List α->ak->Prop)(W:ak),aI w.heap.size w W->DW W.heap.size J->(∀pre x W1,J pre W1->pre++[x]<+:xs->arX F (n-1) P l (encs x) W1 λe W'=>e= .returned (.bool true)/\J (pre++[x]) W'/\W'.heap[b]?=W1.heap[b]?)->J [] W->asx F n P g (fst++#[.func (.yield l) #[] #[]]++lb) W λe W'=>(∃v,e= .returned v)/\J xs W'
theorem xJ{α:Type}{g:Operand}{ps:Array Tmp}{assign body:Code}{Q:J1->Act->ak->Prop}{a:Act}{w:ak}(hro:F.round=none)(h1:1<=n){gf:Nat}{fst lb:Array ay}(hg:a.eval g= .func (.func gf) fst lb)(hFg:F.fn gf)(eg:∀args w,(callFunc gf args).run P w= .ok (.enter gf args) w){encs:α->Array ay}{b:Nat}(hb:b<w.heap.size){xs:List α}(hseq:MK F (n-1) P gf fst lb encs b xs w)(hps:∀x,(encs x).size=ps.size)(I:List α->ak->Prop)(hI:OwnFrom w.heap.size I)(h0:I [] w)(a₁:α->Act)(aaD:∀(l:Nat)(x:α)(W:ak)(K:Act->ak->Prop),K (a₁ x) W->assign.wpIn (F.inRound l) (n-1-1) P (Exit.then K (λ_ _ _=>False)) {tmps:=(ps.zip (encs x)).foldl (λt(p,v)=>t.setIfInBounds p v) a.tmps,defers:=[]} W)(hbody:∀(l:Nat)(pre:List α)(x:α)(W:ak),I pre W->pre++[x]<+:xs->body.wpIn (F.inRound l) (n-1-1) P (Exit.then (λ_ W'=>KeepsOthers W W'/\W'.heap[b]?=W.heap[b]?/\I (pre++[x]) W') (λ_ _ _=>False)) (a₁ x) W)(hdone:∀(D:Nat)(W:ak),w.heap.size<=D->I xs W->W.heap[D]?=some (.deferred (some []))->Q .normal {a with defers:={target:= .collected D,args:=#[]}::a.defers} W):(Code.rangeFunc g ps assign body).wpIn F n P Q a w:=by
 refine wpIn_rangeFunc ?_;intro fn hfn;rw[hro];obtain⟨rec,hrec⟩:∃rec:LoopState->Option Code->Loop,rec=λst pe=>{state:=st,pending:=pe,fn,tmps:=a.tmps,params:=ps,assign,body,defers:=w.heap.size}:=⟨_,rfl⟩;obtain⟨W1,hW1⟩:∃W1,(w.alloc (.deferred (some []))).alloc (.loop (rec .ready none))=W1:=⟨_,rfl⟩;have hL1:W1.heap[w.heap.size+1]?=some (.loop (rec .ready none)):=by rw[<-hW1];have:=Y2 (w.alloc (.deferred (some []))) (.loop (rec .ready none));rwa[bM]at this
 have Jg:W1.heap[w.heap.size]?=some (.deferred (some [])):=by rw[<-hW1];exact(aC _ _ _ (by simp)).trans (Y2 w _)
 have hI1:I [] W1:=by rw[<-hW1];exact hI.alloc _ (hI.alloc _ h0)
 have hb1:aI w.heap.size w W1:=by rw[<-hW1];exact((aB _ w).alloc (au _) _).alloc (by simp) _
 refine⟨w.heap.size+1,[{target:= .collected w.heap.size,args:=#[]}],W1,{target:= .fn (.func gf) lb,args:=fst++#[.func (.yield (w.heap.size+1)) #[] #[]]},W1,gf,fst++#[.func (.yield (w.heap.size+1)) #[] #[]]++lb,W1,?_,?_,?_,?_,λ_=>h1,?_⟩;·rw[<-hW1,hrec];exact run_enterLoop_outer _ _ _ _ _
 ·simp only[resolve,hg];simp[go_sem]
 ·intro f' hf';simp[Target.leads]at hf';subst hf';exact hFg
 ·simp[invoke,go_sem,eg]
 ·have hsz:W1.heap.size=w.heap.size+2:=by rw[<-hW1];simp
  have turn:∀{A B:ak}{row:Option Nat},(∀r,row=some r->W1.heap.size<=r/\∃o:Obj,A.heap[r]?=some o/\o.isWalk=true)->∀r,row=some r->w.heap.size<=r/\∃o:Obj,A.heap[r]?=some o/\o.isCells=false:=λhr r e=>by obtain⟨hB,o,ho,hw⟩:=hr r e;exact⟨by omega,o,ho,Obj.not_cells_of_walk hw⟩
  refine(hseq (w.heap.size+1) (λpre W=>I pre W/\W.heap[w.heap.size+1]?=some (.loop (rec .ready none))/\W.heap[w.heap.size]?=some (.deferred (some []))) W1 hb1 (λs A B row hs hg' hr=>⟨hI s A B row hs.1 hg' (turn (B:=B) hr),(grownBy_keeps hg' (λr e=>(hr r e).2) hs.2.1 rfl).trans hs.2.1,(grownBy_keeps hg' (λr e=>(hr r e).2) hs.2.2 rfl).trans hs.2.2⟩) ?_ ⟨hI1,hL1,Jg⟩).mono ?_;·rintro pre x W⟨hi,hl,hk⟩hpx;have hlt:w.heap.size+1<W.heap.size:=(Array.getElem?_eq_some_iff.1 hl).1;have hy:=run_yield (P:=P) (args:=encs x) hl (by rw[hrec];exact hps x);rw[hrec]at hy;refine⟨fn,_,assign,body,hy,roundIn_of_wpIn hfn (aaD _ x W _ ⟨_,run_beginRound hl (by rw[hrec]),?_⟩)⟩;have hl2:(W.putObj (w.heap.size+1) (.loop {rec .ready none with state:= .busy})).heap[w.heap.size+1]?=some (.loop {rec .ready none with state:= .busy}):=Uo hlt;have hk2:(W.putObj (w.heap.size+1) (.loop {rec .ready none with state:= .busy})).heap[w.heap.size]?=some (.deferred (some [])):=(kB (by omega)).trans hk;refine wpIn_mono (hbody _ pre x _ (hI.putObj _ hi (by omega) hl rfl) hpx) ?_;intro e a3 W3 hp;cases e with
   |normal=>
    obtain⟨hk3,hkb,hi3⟩:=hp;have hl3:=hk3.same _ _ hl2 rfl;have hend:=run_endRound (P:=P) none hl3;rw[hrec]at hl3 hend;refine⟨_,_,hend,rfl,⟨hI.putObj _ hi3 (by omega) hl3 rfl,?_,(kB (by omega)).trans (hk3.same _ _ hk2 rfl)⟩,?_⟩;·rw[hrec];exact Uo (Array.getElem?_eq_some_iff.1 hl3).1
    ·exact(kB (by omega)).trans (hkb.trans (kB (by omega)))|ret=>exact hp.elim|exit id=>exact hp.elim|goto t=>exact hp.elim|panic ch=>exact hp.elim|outgrown=>exact hp.elim
  ·rintro e W2⟨⟨v,rfl⟩,hi,hl,hk⟩;have hend:=run_endLoop (P:=P) hl (by rw[hrec];simp);rw[hrec]at hend;exact⟨none,_,hend,hdone _ _ (au _) (hI.putObj _ hi (by omega) hl rfl) ((kB (by omega)).trans hk)⟩
theorem EE{fn:Func}{tmps:Array ay}{R:Ending->ak->Prop}(D:Nat)(w:ak)(hD:w.heap[D]?=some (.deferred (some [])))(h:∀w',Mod (λk=>k=D) w w'->∃v,(results fn tmps).run P w'= .ok v w'/\R (.returned v) w'):agy F n P fn tmps R [{target:= .collected D,args:=#[]}] .returning w:=by have hg:=grownBy_putObj' w D (.deferred none);obtain⟨v,h1,h2⟩:=h _ (Mod.grown (S:=λk=>k=D) hg λk e _=>by cases e;rfl);exact⟨by simp,.inl ⟨D,_,rfl,run_takeDeferred hD,v,h1,h2⟩⟩
theorem pU{β:Type}(B k:Nat)(cs:β->Array ay)(T:β->dx)(r:β->Nat×Nat):OwnFrom B (λ(x:β)W=>W.heap[k]?=some (.cells (cs x) (T x) (r x))):=λs W W' row hs hg hr=>by refine(hg.block k (Array.getElem?_eq_some_iff.1 hs).1 λe=>?_).trans hs;obtain⟨_,o,ho,hc⟩:=hr k e.symm;rw[hs]at ho;cases ho;cases hc
open Go.Shelf
attribute[local go_sem]ze
def nM(f:List UInt8)(i:Nat):List UInt8:=iq (f.take i)++f.drop i
theorem Oq(f:List UInt8):nM f 0=f:=by simp[nM,iq]
theorem R3(f:List UInt8):nM f f.length=iq f:=by simp[nM]
theorem lB(f:List UInt8)(i:Nat):(nM f i).length=f.length:=by simp[nM,iq];omega
theorem GZ(f:List UInt8)(i:Nat)(h:i<f.length):(nM f i)[i]'(by rw[lB];exact h)=f[i]:=by unfold nM;rw[List.getElem_append_right (by simp[iq];omega)];simp[iq,Nat.min_eq_left (ij h)]
theorem EA(f:List UInt8)(i:Nat)(h:i<f.length):nM f (i+1)=(nM f i).set i (uX f[i]):=by
 unfold nM;rw[List.take_succ_eq_append_getElem h,List.drop_eq_getElem_cons h];have hl:(iq (f.take i)).length=i:=by simp[iq];omega
 rw[cU _ _ (by omega),hl,Nat.sub_self,aj];have e:iq (f.take i++[f[i]])=iq (f.take i)++[uX f[i]]:=by unfold iq;rw[cQ];rfl
 rw[e,kP];rfl
theorem EB(f:List UInt8)(i:Nat)(h:i<f.length)(hc:uX f[i]=f[i]):nM f (i+1)=nM f i:=by
 rw[EA f i h,hc];apply List.ext_getElem?;intro j;rw[List.getElem?_set];split;·rename_i e;subst e;rw[if_pos (by rw[lB];exact h),ar (by rw[lB];exact h),GZ f i h]
 ·rfl
theorem Nf(n:Nat)(hn:1<=n)(l Bn:Nat)(d:ByteArray)(hd:d.size<=1000000)(J Jx:List (List UInt8)->ak->Prop)(W:ak)(hJ:DW W.heap.size J)(hY:∀pre x W1,J pre W1->pre.length<(dc d).length->arX mH (n-1) ah l #[dC x] W1 λe W'=>(e= .returned (.bool true)/\J (pre++[x]) W'/\jy W1 W')\/(e= .returned (.bool false)/\Jx (pre++[x]) W'))(hBn:W.cell? (aD Bn 0)=some (.string d))(h0:J [] W):asx mH n ah 133 #[.func (.yield l) #[] #[],pT Bn] W λe W'=>(∃v,e= .returned v)/\((∃ys,ys=dc d/\J ys W')\/(∃pre,True/\Jx pre W')):=by
 obtain⟨fs,Jd⟩:∃fs,fs=fields d.data.toList []:=⟨_,rfl⟩;have uE:=ae (U3 d fs Jd);have hgf:=goFields_eq d;have hfl:fs.length<=1000001:=by rw[Jd];have:=nu d.data.toList [];simp at this;omega
 rw[<-Jd]at hgf;have hlen:(kQ jF d).length=fs.length:=by rw[<-hgf];simp
 have HY:=ae hY;have HGF:=ae hgf;have HLEN:=ae hlen;have HJ:=ae hJ;clear hY hgf hlen Jd hJ;refine callsIn_of_wp Tryz.func133 rfl trivial ?_ rfl;simp only[Tryz.ntmps133,mf,cI,gX,uH,Dt,rz,ru,vB,sS,eZ,iT];gi_wp2_with(refine⟨trivial,?_⟩;gi_at_call 134;refine(callsIn_wide.2 (Tryz.strings_FieldsFunc_runes 135 #[] (enters_of Tryz.func135 (by kernel_rfl) rfl) jF d _ (by omega) (Pd _))).mono ?_;rintro e w1⟨A,rfl,hA,hrow,hb1⟩);have hJ1:J [] w1:=HJ _ _ _ none h0 ⟨hb1.os,hb1.tape,hb1.output,hb1.size,λk hk _=>hb1.block k hk⟩ (λr e=>by cases e);have oX:w1.ownsRow 0 9 1 (sL A fs.length fs.length) fs.length ((kQ jF d).map DM):=by have:=II hrow;rw[HLEN]at this;exact this
 have jG:=ae hb1;have hJW:DW w1.heap.size J:=λs A B row hs hg hr=>HJ s A B row hs hg (λr e=>by obtain⟨h1,h2⟩:=hr r e;exact⟨aZ jG.size h1,h2⟩);have HJW:=ae hJW;rw[HLEN];clear hrow hb1 hJW HJ h0;gi_loopw[11](λi wr=>∃k:Nat,k<=fs.length/\i=iV k/\Hid (J (upto fs k) wr)/\wr.ownsRow 0 9 1 (sL A fs.length fs.length) fs.length ((kQ jF d).map DM))(λi _=>fs.length-(intOf i).toNat);case atStart=>exact⟨0,aW _,rfl,hJ1,oX⟩
 case round=>
  obtain⟨wo,rfl⟩:∃wo:ak,wo=wr:=⟨_,rfl⟩;obtain⟨k,hk,rfl,HJk,hrow⟩:=hrel;by_cases hlt:k<fs.length;·
   obtain⟨f,hf⟩:∃f,(kQ jF d)[k]?=some f:=⟨_,ar (by rw[HLEN];exact hlt)⟩;have hfl:f.data.toList=fs[k]:=by
    have h1:((kQ jF d).map λb=>b.data.toList)[k]?=some f.data.toList:=by rw[bp,hf];rfl
    have h2:=ar hlt;have h3:fs[k]?=some f.data.toList:=by
     conv=>lhs;rw[<-HGF]
     exact h1
    rw[h2]at h3;exact(aJ h3).symm
   have hck:wo.cell? (aD A (0+k))=some (.string f):=by have:=hrow.cellAt k (by omega);rw[gW];rw[this,bp,hf];rfl
   rw[gW]at hck;have vp:=ae hrow;have HFL:=ae hfl;have hcap:A<wo.heap.size:=lt_of_cell hck;have hfd:f.size<=1000000:=aZ (Gh d f (aS hf)) hd;have Jd:Hid (f.data.toList.length=f.size):=ae (by simp);clear hrow hfl hf oX hJ1;gi_wp2_with(refine FU _ rfl rfl f rfl ?_;intro cap w2 hbr hb2 hs2;have DL:=ae hbr;have kN:=ae hb2;have ju:=ae hs2;clear hbr hb2 hs2;simp only[aN,ai,aj]);gi_loopw[19](λi wi=>∃j:Nat,j<=f.size/\i=iV j/\PU wi wo.heap.size (nM f.data.toList j)/\aI wo.heap.size wo wi)(λi _=>f.size-(intOf i).toNat);case atStart=>exact⟨0,aW _,rfl,by rw[Oq];exact DL,kN⟩
   case round=>
    obtain⟨j,hj,rfl,hbr,hb3⟩:=hrel;have TJ:=ae hbr;have Dq:=ae hb3;clear hbr hb3;by_cases hjl:j<f.size;·
     have OI:j<f.data.toList.length:=by rw[Jd];exact hjl
     obtain⟨c,hc⟩:∃c,c=f.data.toList[j]:=⟨_,rfl⟩;have hcell:wr.cell? (aD wo.heap.size j)=some (.int .u8 c.toNat):=by obtain⟨h1,_⟩:=TJ.2 j (by rw[lB];exact OI);rw[GZ _ _ OI,<-hc]at h1;exact h1
     have hfr:wr.frozen? (aD wo.heap.size j)=false:=(TJ.2 j (by rw[lB];exact OI)).2;have hc256:c.toNat<256:=c.toNat_lt;have JU:=ae (EC c);have HC:=ae hc;clear hc;by_cases hA1:65<=c.toNat;·
      by_cases hA2:c.toNat<=90;·
       have hst:=ae (TJ.store j (by rw[lB];exact OI) (uX f.data.toList[j]));have HV:=ae (show((uX c).toNat:Int)=(c.toNat:Int)+32 by rw[JU,if_pos ⟨hA1,hA2⟩]);have q1:(c.toNat:Int)+97-65=(c.toNat:Int)+32:=by omega
       rw[<-EA f.data.toList j OI,<-HC]at hst;gi_wp2;exact⟨⟨j+1,by omega,by go_num,by rw[<-HV.out];exact hst.out,Dq.setCell (p:=(aD wo.heap.size j)) (au _) _⟩,by simp[intOf];omega⟩
      ·have hno:Hid (nM f.data.toList (j+1)=nM f.data.toList j):=ae (EB f.data.toList j OI (by rw[<-HC.out];apply UInt8.toNat_inj.1;have:=JU.out;rw[if_neg (by omega)]at this;omega));gi_wp2;go_roundw;case rel=>exact⟨j+1,by omega,by go_num,by rw[hno];exact TJ,Dq⟩
       case measure=>simp[intOf];omega
     ·have hno:Hid (nM f.data.toList (j+1)=nM f.data.toList j):=ae (EB f.data.toList j OI (by rw[<-HC.out];apply UInt8.toNat_inj.1;have:=JU.out;rw[if_neg (by omega)]at this;omega));gi_wp2;go_roundw;case rel=>exact⟨j+1,by omega,by go_num,by rw[hno];exact TJ,Dq⟩
      case measure=>simp[intOf];omega
    ·obtain rfl:j=f.size:=by omega
     have hbr:PU wr wo.heap.size (iq f.data.toList):=by have:=TJ.out;rw[<-Jd,R3]at this;exact this
     have hJr:J (upto fs k) wr:=HJW _ _ _ none HJk ⟨Dq.os,Dq.tape,Dq.output,Dq.size,λk hk _=>Dq.block k hk⟩ (λr e=>by cases e);have hrow3:wr.ownsRow 0 9 1 (sL A fs.length fs.length) fs.length ((kQ jF d).map DM):=(jy.below Dq).row vp;have Hc:(iq f.data.toList).length=f.size:=by unfold iq;rw[jx];exact Jd
     by_cases Ue:f.size<=16;·
      have hup:=ae (Kf fs k hlt (by rw[<-HFL,Jd];exact Ue));have hnl:=Zj fs k hlt (by rw[<-HFL,Jd];exact Ue);rw[uE]at hnl;obtain⟨fn,tmps,assign,body,hy,hR⟩:=HY.out (upto fs k) (iq f.data.toList) wr hJr hnl;have hback:=run_convert_bytes_back (P:=ah) wr 42 9 5 (aD wo.heap.size 0) cap (iq f.data.toList) Tryz.underlying42 Tryz.underlying5 Tryz.underlying9 (λj hj=>by have:=(hbr.2 j hj).1;rw[show((aD wo.heap.size 0):Addr).add j=(aD wo.heap.size j)by unfold Addr.add;split<;>simp_all];exact this);rw[Hc]at hback;unfold dC at hy;have Yb:=ae hrow3;have Wx:wo.heap.size<=wr.heap.size:=Dq.size;clear hbr hJr hrow3 Hc hnl;gi_wp2;refine hR.mono ?_;rintro e W3(⟨rfl,hJ3,hk3⟩|⟨rfl,hJx3⟩);·have ank:Hid (J (upto fs (k+1)) W3):=ae (by have h:=hJ3;rw[HFL]at h;rw[hup];exact h);have hrow3:=hk3.row Yb;have ajp:=ae hrow3;have hA3:=(hrow3.lt A rfl).2;clear hJ3 hk3 hrow3;gi_wp2;exact⟨⟨k+1,by omega,by go_num,ank,ajp.out⟩,by simp[intOf];omega⟩
      ·have HJX:=ae hJx3;clear hJx3;gi_wp2;refine bodyPost_ret (results_none rfl _ _ _) rfl ?_;exact⟨⟨_,rfl⟩,.inr ⟨_,trivial,HJX⟩⟩
     ·have hup:=ae (Zi fs k hlt (by rw[<-HFL,Jd];exact Ue));have HJr:=ae hJr;have Wx:wo.heap.size<=wr.heap.size:=Dq.size;clear hbr hJr Hc;have Yb:=ae hrow3;clear hrow3;gi_wp2;refine⟨λ_ h=>(by cases h),?_⟩;gi_wp2;exact⟨⟨k+1,by omega,by go_num,ae (hup.symm▸HJr.out),Yb.out⟩,by simp[intOf];omega⟩
  ·obtain rfl:k=fs.length:=by omega
   have hJd:Hid (J (dc d) wo):=ae (by have:=HJk.out;rw[uE]at this;exact this);clear hrow oX hJ1;gi_wp2;go_end0;exact⟨⟨_,rfl⟩,.inl ⟨_,rfl,hJd⟩⟩
theorem J3(n:Nat)(hn:1<=n)(Bn:Nat)(d:ByteArray)(hd:d.size<=1000000)(w:ak)(hB:Bn<w.heap.size)(hc:w.cell? (aD Bn 0)=some (.string d)):SeqStopsK mH n ah 133 #[pT Bn] (λx:List UInt8=>#[dC x]) jy (λys=>ys=dc d) (λ_=>True) (dc d).length w:=λl J Jx W hW hJ _ hY h0=>Nf n hn l Bn d hd J Jx W hJ hY ((hW.cell (p:=(aD Bn 0)) hB).trans hc) h0
def bitsOf(x:Nat):List Nat:=(jL 64).filter x.testBit
theorem Mf:bitsOf 0=[]:=by unfold bitsOf;rw[yl];intro a _;simp
theorem Pj{x k:Nat}(h:k∈bitsOf x):k<64/\x.testBit k=true:=by unfold bitsOf at h;rw[J0,acZ]at h;exact h
theorem Gq{x:Nat}(h0:x≠0)(h:x<Ax):bitsOf x=Cb 64 x::bitsOf (x&&&(x-1)):=by
 obtain⟨m,hm,hk⟩:=Jn h0 h;have hs:=Nu x h0 h;obtain⟨k,hk'⟩:∃k,k=Cb 64 x:=⟨_,rfl⟩;rw[<-hk']at hm hk hs⊢;have ahK:∀i,i<k->x.testBit i=false:=λi hi=>by rw[hm,oF];simp;omega
 have aaz:x.testBit k=true:=by rw[hm,oF];simp
 have hr:jL 64=jL k++(k::JT (k+1) (63-k)):=by
  have h1:jL 64=JT 0 k++JT (0+1*k) (64-k):=by rw[Zb,List.range'_append];congr 1;omega
  rw[h1,<-Zb,show 0+1*k=k by omega,show 64-k=(63-k)+1 by omega,List.range'_succ]
 unfold bitsOf;rw[hr,qm,qm,List.filter_cons_of_pos aaz,List.filter_cons_of_neg (by rw[hs];simp)];have e1:(jL k).filter x.testBit=[]:=by rw[yl];intro i hi;rw[ahK i (List.mem_range.1 hi)];simp
 have e2:(jL k).filter (x&&&(x-1)).testBit=[]:=by rw[yl];intro i hi;rw[hs,ahK i (List.mem_range.1 hi)];simp
 rw[e1,e2,eZ,eZ];congr 1;apply List.filter_congr;intro i hi;have:k+1<=i:=by rw[List.mem_range']at hi;omega
 rw[hs];have hne:¬i=k:=by omega
 simp[hne]
def aH.lD(s:aH)(i:Nat):List Nat:=(jL i).flatMap λj=>(bitsOf (s.word j)).map (64*j+·)
def aH.elems(s:aH):List Nat:=s.lD 3
theorem aH.uv(s:aH)(i:Nat):s.lD (i+1)=s.lD i++(bitsOf (s.word i)).map (64*i+·):=by unfold aH.lD;rw[List.range_succ,List.flatMap_append];simp
theorem aH.EX(s:aH){i:Nat}(h:i<=3):s.lD i<+:s.elems:=by
 have:∀d,s.lD i<+:s.lD (i+d):=λd=>by induction d with|zero=>exact List.prefix_refl _|succ d ih=>exact ih.trans ⟨_,(s.uv (i+d)).symm⟩
 have:=this (3-i);rwa[show i+(3-i)=3 by omega]at this
theorem aH.fO(s:aH)(k:Nat):k∈s.elems↔k<192/\s.mem k=true:=by
 unfold aH.elems aH.lD aH.mem;rw[List.mem_flatMap];constructor;·rintro⟨j,hj,h⟩;obtain⟨b,hb,rfl⟩:=List.mem_map.1 h;obtain⟨h1,h2⟩:=Pj hb;have:=List.mem_range.1 hj;refine⟨by omega,?_⟩;rw[show(64*j+b)/64=j by omega,show(64*j+b)%64=b by omega];exact h2
 ·rintro⟨h1,h2⟩;refine⟨k/64,List.mem_range.2 (by omega),List.mem_map.2 ⟨k%64,?_,by omega⟩⟩;unfold bitsOf;rw[J0,acZ];exact⟨by omega,h2⟩
def eN(w:ak):Prop:=(∃cs,w.heap[4]?=some (.cells cs 456 (0,0)))/\TabAt 4 Lib.deBruijn64tab w
theorem eN.kept{w w':ak}(h:eN w)(hb:w'.heap[4]?=w.heap[4]?):eN w':=by obtain⟨⟨cs,h1⟩,h2⟩:=h;refine⟨⟨cs,hb.trans h1⟩,λj hj=>?_⟩;rw[fq (a:=(aD (4) j)) hb];exact h2 j hj
theorem eN.lt{w:ak}(h:eN w):4<w.heap.size:=by obtain⟨⟨cs,h1⟩,_⟩:=h;exact lt_of_heap h1
theorem eN.below{w w':ak}(h:eN w)(hb:aI w.heap.size w w'):eN w':=h.kept (hb.block _ h.lt)
attribute[local go_sem]ze
theorem JI{β:Type}{B:Nat}{J:β->ak->Prop}(h:DW B J){s:β}{w w':ak}(hb:aI w.heap.size w w')(hj:J s w):J s w':=h s w w' none hj ⟨hb.os,hb.tape,hb.output,hb.size,λk hk _=>hb.block k hk⟩ (λr e=>by cases e)
theorem Sr(s:aH){j:Nat}(hj:j<3)(w:ak):(awF 306 (.agg #[uV s.a,uV s.b,uV s.c]) (iV (j:Int))).run ah w= .ok (uV (s.word j)) w:=by
 have MS:∀W,(isAgg 297).run ah W= .ok false W:=λW=>by kernel_rfl
 have hn:∀W,(Go.sizeOf 297).run ah W= .ok 1 W:=λW=>by kernel_rfl
 have h1:(0:Int)<=(j:Int)/\(j:Int)<3:=by omega
 have hc:=aH.lh s hj;unfold aH.cells at hc;have hc':[Value.int .u64 s.a,uV s.b,uV s.c][j]?=some (uV (s.word j)):=by simpa using hc
 simp[awF,run_underlying iK,asIntOf,h1,go_sem,Go.part,MS,hn,hc'];exactλh=>absurd h (by omega)
theorem NH(n:Nat)(hn:1<=n)(l:Nat)(s:aH)(hs:s.ok)(J:List Nat->ak->Prop)(W:ak)(hJ:DW W.heap.size J)(hY:∀pre x W1,J pre W1->pre++[x]<+:s.elems->arX mH (n-1) ah l #[cJ x] W1 λe W'=>e= .returned (.bool true)/\J (pre++[x]) W'/\W'.heap[4]?=W1.heap[4]?)(hT:eN W)(h0:J [] W):asx mH n ah 198 #[s.val,.func (.yield l) #[] #[]] W λe W'=>(∃v,e= .returned v)/\J s.elems W':=by
 have HY:=ae hY;have HJ:=ae hJ;have HS:=ae hs;have hb1:aI W.heap.size W (W.alloc (.cells #[uV s.a,uV s.b,uV s.c] 306)):=(aB _ W).alloc (au _) _;have hJ1:=ae (JI hJ hb1 h0);have hT1:=ae (hT.below hb1);have DK:=ae hb1.size;clear hY hJ hs hT h0 hb1;unfold aH.val aH.cells;refine callsIn_of_wp UC rfl trivial ?_ rfl;simp only[Tryz.ntmps198,mf,cI,gX,uH,Dt,rz,ru,vB,sS,eZ,iT];gi_wp2;generalize W.alloc (.cells #[uV s.a,uV s.b,uV s.c] 306)=W2 at*;gi_loopw[7](λi wr=>∃j:Nat,j<=3/\i=iV j/\Hid (J (s.lD j) wr/\eN wr))(λi _=>3-(intOf i).toNat);case atStart=>exact⟨0,by omega,rfl,hJ1,hT1⟩
 case round=>
  clear hJ1 hT1;obtain⟨j,hj,rfl,HR⟩:=hrel;by_cases hjl:j<3;·
   have hjz:(j:Int)<3:=by omega
   obtain⟨x,hx⟩:∃x,x=s.word j:=⟨_,rfl⟩;have hcx:=λw=>Sr s hjl w;rw[<-hx]at hcx;have HX:Hid (x=s.word j/\x<Ax):=ae ⟨hx,by rw[hx];exact aH.jS HS j⟩;clear hx;gi_wp2;gi_loopw[5](λv wi=>∃(y:Nat)(dn:List Nat),v=uV y/\Hid (y<Ax/\bitsOf (s.word j)=dn++bitsOf y/\J (s.lD j++dn.map (64*j+·)) wi/\eN wi))(λv _=>(intOf v).toNat);case atStart=>exact⟨x,[],rfl,HX.2,by rw[<-HX.1];rfl,by simpa using HR.1,HR.2⟩
   case round=>
    clear HR;obtain⟨y,dn,rfl,HQ⟩:=hrel;by_cases hy0:y=0;·
     have hyz:((y:Int)==0)=true:=by simp[hy0]
     have hq:J (s.lD (j+1)) wr/\eN wr:=by obtain⟨_,h2,h3,h4⟩:=HQ.out;rw[hy0,Mf,List.append_nil]at h2;rw[aH.uv,h2];exact⟨h3,h4⟩
     have HN:=ae hq;clear HQ hy0 hq;gi_wp2;exact⟨⟨j+1,by omega,by go_num,HN⟩,by simp[intOf];omega⟩
    ·have hyz:((y:Int)==0)=false:=by rw[beq_eq_false_iff_ne];omega
     obtain⟨hq1,hq2,hq3,hq4⟩:=HQ.out;obtain⟨c,hc⟩:∃c,c=Cb 64 y:=⟨_,rfl⟩;obtain⟨z,hz⟩:∃z,z=y&&&(y-1):=⟨_,rfl⟩;have hst:=Gq hy0 hq1;rw[<-hc,<-hz]at hst;have als:z<y:=by rw[hz];exact Ro y hy0
     have htz:=Tryz.bits_TrailingZeros64 y hq1 wr (λ_=>hq4.2);rw[<-hc]at htz;have hpx:s.lD j++dn.map (64*j+·)++[64*j+c]<+:s.elems:=by refine List.IsPrefix.trans ?_ (s.EX (i:=j+1) (by omega));rw[aH.uv,hq2,hst];exact⟨(bitsOf z).map (64*j+·),by simp⟩
     obtain⟨fn,tmps,assign,body,Oz,hR⟩:=HY.out _ _ wr hq3 hpx;have e1:((64*j+c:Nat):Int)=64*(j:Int)+(c:Int):=by omega
     unfold cJ at Oz;rw[e1]at Oz;have d1:IntKind.u64.wrap ((y:Int)-1)=((y-1:Nat):Int):=by have:y<18446744073709551616:=hq1;rw[agz];omega
     have d2:=bits_and_u64_nat y (y-1) hq1 (qj (Nat.sub_le _ _) hq1);rw[<-hz]at d2;have auz:c<64:=by obtain⟨_,_,h⟩:=Jn hy0 hq1;rw[<-hc]at h;exact h
     have HST:Hid (bitsOf y=c::bitsOf z/\z<Ax/\bitsOf (s.word j)=dn++bitsOf y/\eN wr):=ae ⟨hst,Nat.lt_trans als hq1,hq2,hq4⟩;have HTZ:=ae htz;clear hq1 hq2 hq3 hq4 hc hz hst hpx e1 htz hy0;gi_wp2_with(refine⟨trivial,?_⟩;gi_at_call 227;refine(callsIn_wide.2 HTZ).mono ?_;rintro e w1⟨rfl,hw1⟩;subst hw1);refine hR.mono ?_;clear hR Oz HTZ;rintro e W3⟨rfl,hj3,hk3⟩;have YL:J (s.lD j++(dn++[c]).map (64*j+·)) W3/\eN W3:=by refine⟨?_,HST.2.2.2.kept hk3⟩;rw[cQ,dM,List.map_nil,<-kP];exact hj3
     have HN3:=ae YL;clear hj3 hk3 YL;gi_wp2;refine⟨⟨z,dn++[c],rfl,HST.2.1,?_,HN3.1,HN3.2⟩,by simp[intOf];omega⟩;rw[HST.2.2.1,HST.1,kP];rfl
  ·obtain rfl:j=3:=by omega
   gi_wp2;go_end0;exact⟨⟨_,rfl⟩,HR.1⟩
theorem zI(n:Nat)(hn:1<=n)(s:aH)(hs:s.ok)(w:ak)(hT:eN w):MK mH n ah 198 #[s.val] #[] (λk:Nat=>#[cJ k]) 4 s.elems w:=λl J W hW hJ hY h0=>NH n hn l s hs J W hJ hY (hT.below hW) h0
section
variable{P:iX}{ops:Array gV}{Q:J1->Act->ak->Prop}{n l:Nat}
def Fa(o:gV):Bool:=match o.op with| .defer _=>false|_=>true
theorem IL{o:gV}{a:Act}{w:ak}{K:Act->ak->Prop}(hnd:Fa o=true)(h:o.wp P a w K Q):o.wpIn (Fence.wide.inRound l) n P a w K Q:=by
 have hd:∀c,o.op≠ .defer c:=λc e=>by unfold Fa at hnd;rw[e]at hnd;cases hnd
 refine⟨λ_ _=>trivial,?_⟩;rw[Oper.semAt_eq _ _ _ hd];unfold ak8 at h;generalize(execOp a.eval o).run P w=r at*;cases r with
  |ok x w'=>
   cases x<;>simp only[Ca,awA]at h⊢;case value=>exact h
   case skip=>exact h
   case defer=>exact h
   case enter f args=>exact⟨λhx=>(by cases hx),CallsIn.inRound l (callsIn_wide.2 h)⟩
   case row r args=>refine⟨λhx=>(by cases hx),λc cs _=>?_⟩;obtain⟨v,w'',h1,h2⟩:=h c cs;exact⟨v,w'',h1,stepsIn_wide.2 h2⟩
   all_goals exact h.elim|halt x w'=>cases x<;>simp only[Ca,awA]at h⊢<;>exact h
def Calm(Q:J1->Act->ak->Prop):J1->Act->ak->Prop| .normal,a,w=>Q .normal a w|_,_,_=>False
theorem DY(hno:¬LetsOut Q)(hall:(ops.toList.all Fa)=true){i:Nat}{K:Act->ak->Prop}{a:Act}{w:ak}(h:wpOp P ops Q i K a w):wpOpIn (Fence.wide.inRound l) n P ops Q i K a w:=by unfold wpOpIn;unfold wpOp at h;cases ho:ops[i]? with
 |none=>rw[ho]at h;exact h|some o=>
  rw[ho]at h;simp only at h⊢;have hc:Fa o=true:=by rw[List.all_eq_true]at hall;exact hall o (by rw[Array.mem_toList_iff];exact Array.mem_of_getElem? ho)
  split;·
   rename_i hw;rw[if_pos hw]at h;rcases h with h|⟨_,h⟩;·exact IL hc h
   ·exact(hno h).elim
  ·rename_i hw;rw[if_neg hw]at h;exact⟨λ_ _=>trivial,h⟩
theorem nS(hno:¬LetsOut Q)(hall:(ops.toList.all Fa)=true):∀(fuel:Nat)(listed:Array Bool)(a:Act)(w:ak),wpAny P .any ops Q fuel listed a w->wpAnyIn (Fence.wide.inRound l) n P .any ops Q fuel listed a w|0,_,_,_,h=>h|fuel+1,listed,a,w,h=>⟨h.1,λi hi=>wpOpIn_mono (λa' w' h'=>nS hno hall fuel _ a' w' h') (DY hno hall (h.2 i hi))⟩
theorem jA{id:Nat}{a:Act}{w:ak}{lo:List gV}(order:List (Nat×Bool))(x:Nat)(S:ak->Prop)(hm:P.follows .mixedOrders=true)(hs:(fK lo.toArray&&(order.all λq=>q.2||pq lo.toArray x q.1)&&(order.length==lo.length)&&pL lo.toArray order (fh lo.length false)&&lo.all Fa)=true)(hS:S w.drew)(h:fM P lo S x (Q .normal) order a w.drew):(AR id lo.toArray true).wpIn (Fence.wide.inRound l) n P Q a w:=by
 simp only[cR,beq_iff_eq]at hs;obtain⟨⟨⟨⟨h1,h3⟩,h4⟩,h5⟩,h6⟩:=hs;have h3':∀q∈order,q.2=false->pq lo.toArray x q.1=true:=λq hq hf=>by have:=List.all_eq_true.1 h3 q hq;rw[hf]at this;simpa using this
 refine wpIn_mono (Q:=Calm Q) (wpIn_region_any hm (nS (λ⟨_,_,h⟩=>h) h6 _ _ _ _ (jq (S:=S) (x:=x) _ _ _ _ ?_))) ?_;·have:=rR (Q:=Q) (Q':=Calm Q) h1 (λ_ _ h=>h) (λ_ _ _ h=>h) order (fh lo.length false) a w.drew h3' h5 hS h;rw[h4]at this;simpa using this
 ·intro e a w h;cases e<;>first|exact h|exact h.elim
end
attribute[local go_sem]ze
def PM.next(M:PM)(l:List Nat):aH:=l.foldl (λt k=>t.or (M.follow.getD k aH.zero)) aH.zero
def PM.step(M:PM)(s:aH)(c:Nat):aH:=(M.next s.elems).and (M.at'.getD c aH.zero)
theorem PM.RV(M:PM)(l:List Nat)(k:Nat):M.next (l++[k])=(M.next l).or (M.follow.getD k aH.zero):=by unfold PM.next;rw[afM];rfl
theorem PM.GX{M:PM}(h:M.ok)(k:Nat):(M.follow.getD k aH.zero).ok:=by rw[aw];cases e:M.follow[k]? with|none=>exact aH.dL|some s=>exact h.of' s (aS e)
theorem PM.agS{M:PM}(h:M.ok)(c:Nat):(M.at'.getD c aH.zero).ok:=by rw[aw];cases e:M.at'[c]? with|none=>exact aH.dL|some s=>exact h.oa s (aS e)
theorem PM.IU{M:PM}(h:M.ok)(l:List Nat):(M.next l).ok:=by
 unfold PM.next;have:∀(l:List Nat)(t:aH),t.ok->(l.foldl (λt k=>t.or (M.follow.getD k aH.zero)) t).ok:=λl=>by induction l with|nil=>exactλt ht=>ht|cons k l ih=>exactλt ht=>ih _ (aH.zP ht (M.GX h k))
 exact this l _ aH.dL
theorem PM.IP{M:PM}(h:M.ok)(s:aH)(c:Nat):(M.step s c).ok:=aH.VH (M.IU h _) (M.agS h c)
theorem C9{P:iX}{fn:Func}{p u:Tmp}{ty:dx}(h:fn.results=#[.cell p ty,.tmp u])(tmps:Array ay)(w:ak)(g:Nat)(t:dx)(cs:Array ay)(fr:Nat×Nat)(d:TypeDesc)(hp:tmps.getD p undef=pT g)(hg:w.heap[g]?=some (.cells cs t fr))(hu:P.underlying ty=some d)(hd:(match d with| .struct _| .array _ _=>true|_=>false)=true)(hi:(P.info? ty).map (·.size)=some cs.size):(results fn tmps).run P w= .ok (.tuple #[.agg cs,tmps.getD u undef]) w:=by
 have hp':tmps[p]?.getD undef=pT g:=by simpa using hp
 simp[results,h,hp',asAddr,run_loadVar_row w g t ty cs fr d hg hu hd hi]
def aH.fits(s:aH):Prop:=∀k∈s.elems,k<129
theorem I0(mb:Nat)(M:PM)(s:aH)(c:UInt8)(w:ak)(hs:s.ok)(hf:s.fits)(hM:bQ w mb M)(hT:eN w):aX ah 154 #[aP mb,s.val,.int .u8 c.toNat] w λe w'=>e= .returned (.tuple #[(M.step s c.toNat).val,.bool (!decide (M.step s c.toNat=aH.zero))])/\aI w.heap.size w w':=by
 have hmf:∀(fn:Fn)(first cap:Array ay)(w:ak),(A8 fn first cap).run ah w= .ok (.func fn first cap) w:=λ_ _ _ _=>rfl;have HS:=ae hs;have HF:=ae hf;have HM:=ae hM;have HT:=ae hT;clear hs hf hM hT;refine(callsIn_wide (n:=5)).1 ?_;refine callsIn_of_wp_marks Tryz.func154 rfl trivial ?_ rfl;simp only[Tryz.ntmps154,mf,cI,gX,uH,Dt,rz,ru,vB,sS,eZ,iT];refine wpIn_wide.2 ?_;unfold aP aH.val aH.cells;go_wp2_with fail;obtain⟨W,hW⟩:∃W,W=(((w.alloc (.cells #[pT mb] 126)).alloc (.cells #[uV s.a,uV s.b,uV s.c] 306)).alloc (.cells #[uV 0,uV 0,uV 0] 306)).alloc (.cells #[uV 0,uV 0,uV 0] 306):=⟨_,rfl⟩;rw[<-hW];have h0:W.heap[w.heap.size]?=some (.cells #[pT mb] 126 (0,0)):=by rw[hW,aC _ _ _ (by simp;omega),aC _ _ _ (by simp;omega),aC _ _ _ (by simp)];exact heap_alloc_new w _
 have h2:W.heap[w.heap.size+1+1]?=some (.cells aH.zero.cells.toArray 306 (0,0)):=by rw[hW,aC _ _ _ (by simp)];have:=heap_alloc_new ((w.alloc (.cells #[pT mb] 126)).alloc (.cells #[uV s.a,uV s.b,uV s.c] 306)) (.cells #[uV 0,uV 0,uV 0] 306);simp only[bM]at this;exact this
 have h3:W.heap[w.heap.size+1+1+1]?=some (.cells aH.zero.cells.toArray 306 (0,0)):=by rw[hW];have:=heap_alloc_new (((w.alloc (.cells #[pT mb] 126)).alloc (.cells #[uV s.a,uV s.b,uV s.c] 306)).alloc (.cells #[uV 0,uV 0,uV 0] 306)) (.cells #[uV 0,uV 0,uV 0] 306);simp only[bM]at this;exact this
 have hb:aI w.heap.size w W:=by rw[hW];exact((((aB _ w).alloc (au _) _).alloc (by simp) _).alloc (by simp;omega) _).alloc (by simp;omega) _
 have hsz:W.heap.size=w.heap.size+4:=by rw[hW];simp
 have xC:=HT.below hb;have H0:=ae (show _/\_/\_/\_ from⟨h0,h2,h3,hb⟩);clear hW h0 h2 h3 hb;obtain⟨b0,hb0⟩:∃b0,b0=w.heap.size:=⟨_,rfl⟩;rw[<-hb0]at H0 hsz⊢;have AL:=ae hb0;clear hb0;refine wpIn_wide.1 (xJ (F:=mH) (n:=5) rfl (by omega) (gf:=198) (fst:=#[s.val]) (lb:=#[]) rfl trivial (enters_of UC (by kernel_rfl) rfl) (b:=4) xC.lt (zI 4 (by omega) s HS W xC) (λ_=>rfl) (λpre W'=>aI b0 w W'/\W'.heap[b0]?=some (.cells #[pT mb] 126 (0,0))/\W'.heap[b0+1+1]?=some (.cells aH.zero.cells.toArray 306 (0,0))/\W'.heap[b0+1+1+1]?=some (.cells (M.next pre).cells.toArray 306 (0,0))) ?own ⟨H0.2.2.2,H0.1,H0.2.1,H0.2.2.1⟩ (λk=>{tmps:=#[pT mb,.agg #[uV s.a,uV s.b,uV s.c],.int .u8 c.toNat,pT b0,pT (b0+1),undef,pT (b0+1+1),.bool false,pT (b0+1+1+1),iV k, .agg #[uV s.a,uV s.b,uV s.c],.func (.func 198) #[.agg #[uV s.a,uV s.b,uV s.c]] #[],iV k,undef,undef,undef,undef,undef,undef,undef,undef,undef,undef,undef,undef,undef,undef,undef,undef,undef,undef,undef,undef],defers:=[]}) ?assign ?body ?done);case own=>exact(ownFrom_below (by rw[AL];exact au _) (by omega)).and ((pU _ _ (λ_=>_) (λ_=>_) (λ_=>_)).and ((pU _ _ (λ_=>_) (λ_=>_) (λ_=>_)).and (pU _ _ (λpre=>(M.next pre).cells.toArray) (λ_=>_) (λ_=>_))))
 case assign=>intro l x W' K' hK';unfold cJ;gi_wp2;exact hK'
 case body=>
  rintro l pre k W1⟨hb,h0,h2,h3⟩hpx;have T7:k∈s.elems:=hpx.subset (by simp);have hk:=HF k T7;have tN:bQ W1 mb M:=HM.below (AL.out▸hb);obtain⟨fk,hfk⟩:∃fk,M.follow[k]?=some fk:=⟨_,ar (by rw[tN.1.lf];exact hk)⟩;have hfc:=tN.Ji hfk;obtain⟨T,hTd⟩:∃T,T=M.next pre:=⟨_,rfl⟩;have Xk:T.ok:=by rw[hTd];exact M.IU tN.1 pre
  have Gd:fk.ok:=tN.1.of' fk (aS hfk);have hnx:M.next (pre++[k])=T.or fk:=by rw[M.RV,hTd,aw,hfk];rfl
  rw[<-hTd]at h3;have c0:W1.cell? (aD (b0+1+1+1) 0)=some (uV T.a):=aq h3;have c1:W1.cell? (aD (b0+1+1+1) 1)=some (uV T.b):=aq h3;have c2:W1.cell? (aD (b0+1+1+1) 2)=some (uV T.c):=aq h3;have f0:W1.frozen? (aD (b0+1+1+1) 0)=false:=aU h3;have f1:W1.frozen? (aD (b0+1+1+1) 1)=false:=aU h3;have f2:W1.frozen? (aD (b0+1+1+1) 2)=false:=aU h3;have d0:W1.cell? (aD b0 0)=some (pT mb):=aq h0;have e0:W1.cell? (aD mb (768+k*3))=some (uV fk.a):=(hfc 0 (by decide)).1;have e1:W1.cell? (aD mb (768+k*3+1))=some (uV fk.b):=(hfc 1 (by decide)).1;have e2:W1.cell? (aD mb (768+k*3+2))=some (uV fk.c):=(hfc 2 (by decide)).1;have hkz:(k:Int)<129:=by omega
  have HI:=ae (show _/\_/\_/\_ from⟨hb,h0,h2,h3⟩);have HOR:=ae (λW'=>mP T fk W' Xk Gd);rw[hnx];have hall:Hid (∀W',aI W1.heap.size W1 W'->(W'.cell? (aD (b0+1+1+1) 0)=some (uV T.a)/\W'.cell? (aD (b0+1+1+1) 1)=some (uV T.b)/\W'.cell? (aD (b0+1+1+1) 2)=some (uV T.c))/\W'.cell? (aD b0 0)=some (pT mb)/\W'.cell? (aD mb (768+k*3))=some (uV fk.a)/\W'.cell? (aD mb (768+k*3+1))=some (uV fk.b)/\W'.cell? (aD mb (768+k*3+2))=some (uV fk.c)):=ae λW' hbb=>by have go:∀(b i:Nat)v,W1.cell? (aD b i)=some v->W'.cell? (aD b i)=some v:=λb i v hv=>(hbb.cell (p:=(aD b i)) (lt_of_cell hv)).trans hv;exact⟨⟨go _ _ _ c0,go _ _ _ c1,go _ _ _ c2⟩,go _ _ _ d0,go _ _ _ e0,go _ _ _ e1,go _ _ _ e2⟩
  clear hb h0 h2 h3 tN hfc hTd Xk Gd hnx hfk T7 hpx;gi_wp2;refine jA [(0,false),(1,false),(2,false),(3,false),(4,false),(5,false),(6,false),(7,true),(8,true)] 8 (λW'=>(W'.cell? (aD (b0+1+1+1) 0)=some (uV T.a)/\W'.cell? (aD (b0+1+1+1) 1)=some (uV T.b)/\W'.cell? (aD (b0+1+1+1) 2)=some (uV T.c))/\W'.cell? (aD b0 0)=some (pT mb)/\W'.cell? (aD mb (768+k*3))=some (uV fk.a)/\W'.cell? (aD mb (768+k*3+1))=some (uV fk.b)/\W'.cell? (aD mb (768+k*3+2))=some (uV fk.c)) (by kernel_rfl) (by kernel_rfl) (hall _ (aB _ _).drew) ?_;iterate 7(
 refine aR ?_ rfl rfl (λw' hS=>?_) ?_;rotate_left;·obtain⟨⟨q0,q1,q2⟩,q3,q4,q5,q6⟩:=hS;go_simp;try rfl
 simp only[aN,ai,aj])
  refine bg rfl rfl (by decide) (λK hK=>?_);go_simp;have Lv:=HOR W1.drew;unfold aH.val aH.cells at Lv;refine Lv.mono ?_;clear Lv;rintro e W6⟨rfl,oY⟩;have Ag:aI W1.heap.size W1 W6:=(aB _ _).drew.trans oY;have hc6:=hall W6 Ag;have Xm:=(Ag.block _ (lt_of_heap HI.2.2.2)).trans HI.2.2.2;have g0:W6.frozen? (aD (b0+1+1+1) 0)=false:=aU Xm;have g1:W6.frozen? (aD (b0+1+1+1) 1)=false:=aU Xm;have g2:W6.frozen? (aD (b0+1+1+1) 2)=false:=aU Xm;refine hK _ _ hc6 ?_;have xH:=ae Ag;have H36:=ae Xm;clear hK K oY Ag Xm hall c0 c1 c2 d0 e0 e1 e2 f0 f1 f2;obtain⟨⟨q0,q1,q2⟩,q3,q4,q5,q6⟩:=hc6;refine cO rfl rfl (λK hK=>?_);go_simp;refine hK _ _ ?_;clear hK K;gi_wp2;have j0:aI b0 w W6:=HI.1.trans (xH.mono (by have:=HI.1.size;rw[AL];exact this));have k1:=heap_setCell_same W6 (b0+1+1+1) 0 _ _ (uV ((T.or fk).a:Nat)) H36;have k2:=heap_setCell_same _ (b0+1+1+1) 1 _ _ (uV ((T.or fk).b:Nat)) k1;have k3:=heap_setCell_same _ (b0+1+1+1) 2 _ _ (uV ((T.or fk).c:Nat)) k2;have K4:∀q,q≠b0+1+1+1->(((W6.setCell (aD (b0+1+1+1) 0) (uV ((T.or fk).a:Nat))).setCell (aD (b0+1+1+1) 1) (uV ((T.or fk).b:Nat))).setCell (aD (b0+1+1+1) 2) (uV ((T.or fk).c:Nat))).heap[q]?=W6.heap[q]?:=λq hq=>by rw[az _ (aD _ 2) _ q hq,az _ (aD _ 1) _ q hq,az _ (aD _ 0) _ q hq]
  have szz:(((W6.setCell (aD (b0+1+1+1) 0) (uV ((T.or fk).a:Nat))).setCell (aD (b0+1+1+1) 1) (uV ((T.or fk).b:Nat))).setCell (aD (b0+1+1+1) 2) (uV ((T.or fk).c:Nat))).heap.size=W6.heap.size:=by simp
  have jj:aI b0 w (((W6.setCell (aD (b0+1+1+1) 0) (uV ((T.or fk).a:Nat))).setCell (aD (b0+1+1+1) 1) (uV ((T.or fk).b:Nat))).setCell (aD (b0+1+1+1) 2) (uV ((T.or fk).c:Nat))):=((j0.setCell (p:=(aD (b0+1+1+1) 0)) (by simp only;omega) _).setCell (p:=(aD (b0+1+1+1) 1)) (by simp only;omega) _).setCell (p:=(aD (b0+1+1+1) 2)) (by simp only;omega) _;generalize((W6.setCell (aD (b0+1+1+1) 0) (uV ((T.or fk).a:Nat))).setCell (aD (b0+1+1+1) 1) (uV ((T.or fk).b:Nat))).setCell (aD (b0+1+1+1) 2) (uV ((T.or fk).c:Nat))=W7 at*;have VI:∀q o,W1.heap[q]?=some o->q≠b0+1+1+1->W7.heap[q]?=some o:=λq o ho hq=>(K4 q hq).trans ((xH.block q (lt_of_heap ho)).trans ho);refine⟨⟨by rw[szz];exact xH.size,λq o ho hoc=>VI q o ho λe=>?_⟩,?_,jj,VI _ _ HI.2.1 (by omega),VI _ _ HI.2.2.1 (by omega),k3⟩;·rw[e,HI.2.2.2]at ho;cases ho;cases hoc
  ·have hlt:=HT.lt;rw[<-AL]at hlt;have hq:4<W1.heap.size:=by have:=HI.1.size;rw[<-AL.out]at this;omega
   rw[K4 _ (by omega)];exact xH.block _ hq
 case done=>
  rintro Dm W1 hD⟨hb,h0,h2,h3⟩hdf;have tN:bQ W1 mb M:=HM.below (AL.out▸hb);obtain⟨ac,hac⟩:∃ac,M.at'[c.toNat]?=some ac:=⟨_,ar (by rw[tN.1.la];exact c.toNat_lt)⟩;have hfc:=tN.atC hac;obtain⟨T,hTd⟩:∃T,T=M.next s.elems:=⟨_,rfl⟩;have Xk:T.ok:=by rw[hTd];exact M.IU tN.1 _
  have Gd:ac.ok:=tN.1.oa ac (aS hac);have hnx:M.step s c.toNat=T.and ac:=by unfold PM.step;rw[hTd,aw,hac];rfl
  rw[<-hTd]at h3;have c0:W1.cell? (aD (b0+1+1+1) 0)=some (uV T.a):=aq h3;have c1:W1.cell? (aD (b0+1+1+1) 1)=some (uV T.b):=aq h3;have c2:W1.cell? (aD (b0+1+1+1) 2)=some (uV T.c):=aq h3;have d0:W1.cell? (aD b0 0)=some (pT mb):=aq h0;have e0:W1.cell? (aD mb (c.toNat*3))=some (uV ac.a):=(hfc 0 (by decide)).1;have e1:W1.cell? (aD mb (c.toNat*3+1))=some (uV ac.b):=(hfc 1 (by decide)).1;have e2:W1.cell? (aD mb (c.toNat*3+2))=some (uV ac.c):=(hfc 2 (by decide)).1;have hcz:(c.toNat:Int)<256:=by have:=c.toNat_lt;omega
  have HI:=ae (show _/\_/\_/\_/\_ from⟨hb,h0,h2,h3,hdf⟩);have HAND:=ae (λW'=>Ef T ac W' Xk Gd);have BX:=ae hnx;have hall:Hid (∀W',aI W1.heap.size W1 W'->(W'.cell? (aD (b0+1+1+1) 0)=some (uV T.a)/\W'.cell? (aD (b0+1+1+1) 1)=some (uV T.b)/\W'.cell? (aD (b0+1+1+1) 2)=some (uV T.c))/\W'.cell? (aD b0 0)=some (pT mb)/\W'.cell? (aD mb (c.toNat*3))=some (uV ac.a)/\W'.cell? (aD mb (c.toNat*3+1))=some (uV ac.b)/\W'.cell? (aD mb (c.toNat*3+2))=some (uV ac.c)):=ae λW' hbb=>by have go:∀(b i:Nat)v,W1.cell? (aD b i)=some v->W'.cell? (aD b i)=some v:=λb i v hv=>(hbb.cell (p:=(aD b i)) (lt_of_cell hv)).trans hv;exact⟨⟨go _ _ _ c0,go _ _ _ c1,go _ _ _ c2⟩,go _ _ _ d0,go _ _ _ e0,go _ _ _ e1,go _ _ _ e2⟩
  clear hb h0 h2 h3 tN hfc hTd Xk Gd hnx hac hdf;go_wp2_with fail;refine bB [(0,false),(1,false),(2,false),(3,false),(4,false),(5,false),(6,false),(7,true),(8,true)] 8 (λW'=>(W'.cell? (aD (b0+1+1+1) 0)=some (uV T.a)/\W'.cell? (aD (b0+1+1+1) 1)=some (uV T.b)/\W'.cell? (aD (b0+1+1+1) 2)=some (uV T.c))/\W'.cell? (aD b0 0)=some (pT mb)/\W'.cell? (aD mb (c.toNat*3))=some (uV ac.a)/\W'.cell? (aD mb (c.toNat*3+1))=some (uV ac.b)/\W'.cell? (aD mb (c.toNat*3+2))=some (uV ac.c)) (by kernel_rfl) (by kernel_rfl) (hall _ (aB _ _).drew) ?_;iterate 7(
 refine aR ?_ rfl rfl (λw' hS=>?_) ?_;rotate_left;·obtain⟨⟨q0,q1,q2⟩,q3,q4,q5,q6⟩:=hS;go_simp;try rfl
 simp only[aN,ai,aj])
  refine bg rfl rfl (by decide) (λK hK=>?_);go_simp;have hand:=HAND W1.drew;unfold aH.val aH.cells at hand;refine hand.mono ?_;clear hand;rintro e W6⟨rfl,oY⟩;have Ag:aI W1.heap.size W1 W6:=(aB _ _).drew.trans oY;have hc6:=hall W6 Ag;have Xm:=(Ag.block _ (lt_of_heap HI.2.2.2.1)).trans HI.2.2.2.1;have g0:W6.frozen? (aD (b0+1+1+1) 0)=false:=aU Xm;have g1:W6.frozen? (aD (b0+1+1+1) 1)=false:=aU Xm;have g2:W6.frozen? (aD (b0+1+1+1) 2)=false:=aU Xm;refine hK _ _ hc6 ?_;have xH:=ae Ag;have H36:=ae Xm;clear hK K oY Ag Xm hall c0 c1 c2 d0 e0 e1 e2;obtain⟨⟨q0,q1,q2⟩,q3,q4,q5,q6⟩:=hc6;refine cO rfl rfl (λK hK=>?_);go_simp;refine hK _ _ ?_;clear hK K q0 q1 q2 q3 q4 q5 q6 g0 g1 g2;obtain⟨V,hV⟩:∃V,V=T.and ac:=⟨_,rfl⟩;rw[<-hV];have j0:aI b0 w W6:=HI.1.trans (xH.mono (by have:=HI.1.size;rw[AL];exact this));have k1:=heap_setCell_same W6 (b0+1+1+1) 0 _ _ (uV (V.a:Nat)) H36;have k2:=heap_setCell_same _ (b0+1+1+1) 1 _ _ (uV (V.b:Nat)) k1;have k3:=heap_setCell_same _ (b0+1+1+1) 2 _ _ (uV (V.c:Nat)) k2;have K4:∀q,q≠b0+1+1+1->(((W6.setCell (aD (b0+1+1+1) 0) (uV (V.a:Nat))).setCell (aD (b0+1+1+1) 1) (uV (V.b:Nat))).setCell (aD (b0+1+1+1) 2) (uV (V.c:Nat))).heap[q]?=W6.heap[q]?:=λq hq=>by rw[az _ (aD _ 2) _ q hq,az _ (aD _ 1) _ q hq,az _ (aD _ 0) _ q hq]
  have jj:aI b0 w (((W6.setCell (aD (b0+1+1+1) 0) (uV (V.a:Nat))).setCell (aD (b0+1+1+1) 1) (uV (V.b:Nat))).setCell (aD (b0+1+1+1) 2) (uV (V.c:Nat))):=((j0.setCell (p:=(aD (b0+1+1+1) 0)) (by simp only;omega) _).setCell (p:=(aD (b0+1+1+1) 1)) (by simp only;omega) _).setCell (p:=(aD (b0+1+1+1) 2)) (by simp only;omega) _;generalize((W6.setCell (aD (b0+1+1+1) 0) (uV (V.a:Nat))).setCell (aD (b0+1+1+1) 1) (uV (V.b:Nat))).setCell (aD (b0+1+1+1) 2) (uV (V.c:Nat))=W7 at*;have VI:∀q o,W1.heap[q]?=some o->q≠b0+1+1+1->W7.heap[q]?=some o:=λq o ho hq=>(K4 q hq).trans ((xH.block q (lt_of_heap ho)).trans ho);have r2:=VI _ _ HI.2.2.1 (by omega);have r3:W7.heap[b0+1+1+1]?=some (.cells #[uV V.a,uV V.b,uV V.c] 306 (0,0)):=k3;have rd:Dm≠b0+1+1+1->W7.heap[Dm]?=some (.deferred (some [])):=λh=>VI _ _ HI.2.2.2.2 h;have aiU:Dm≠b0+1+1+1:=λe=>by have:=HI.2.2.2.2;rw[e,HI.2.2.2.1]at this;cases this
  have HE:=ae (show _/\_/\_/\_ from⟨r2,r3,rd aiU,jj⟩);have n0:W7.cell? (aD (b0+1+1+1) 0)=some (uV V.a):=aq r3;have n1:W7.cell? (aD (b0+1+1+1) 1)=some (uV V.b):=aq r3;have n2:W7.cell? (aD (b0+1+1+1) 2)=some (uV V.c):=aq r3;have u0:W7.frozen? (aD (b0+1+1) 0)=false:=aU r2;have u1:W7.frozen? (aD (b0+1+1) 1)=false:=aU r2;have u2:W7.frozen? (aD (b0+1+1) 2)=false:=aU r2;have x0:W7.cell? (aD (b0+1+1) 0)=some (uV 0):=aq r2;have x1:W7.cell? (aD (b0+1+1) 1)=some (uV 0):=aq r2;have x2:W7.cell? (aD (b0+1+1) 2)=some (uV 0):=aq r2;have SA:=PZ V aH.zero;have WY:=λx y W=>GN x y V.cells.toArray aH.zero.cells.toArray W;unfold aH.val aH.cells at SA;unfold aH.cells at WY;have z:(aH.zero.a:Int)=0/\(aH.zero.b:Int)=0/\(aH.zero.c:Int)=0:=⟨rfl,rfl,rfl⟩;rw[z.1,z.2.1,z.2.2]at SA WY;obtain⟨bb,hbb⟩:∃bb,bb=!decide (V=aH.zero):=⟨_,rfl⟩;rw[<-hbb]at SA;have QV:=ae hbb;have HVV:=ae hV;clear z hbb hV k1 k2 k3 K4 jj VI r2 r3 rd aiU j0;go_wp2_with fail;go_region;have m1:=heap_setCell_same W7 (b0+1+1) 0 _ _ (uV (V.a:Nat)) HE.1;have m2:=heap_setCell_same _ (b0+1+1) 1 _ _ (uV (V.b:Nat)) m1;have m3:=heap_setCell_same _ (b0+1+1) 2 _ _ (uV (V.c:Nat)) m2;have K4:∀q,q≠b0+1+1->((((W7.setCell (aD (b0+1+1) 0) (uV (V.a:Nat))).setCell (aD (b0+1+1) 1) (uV (V.b:Nat))).setCell (aD (b0+1+1) 2) (uV (V.c:Nat))).drew).heap[q]?=W7.heap[q]?:=λq hq=>by show(((W7.setCell (aD (b0+1+1) 0) (uV (V.a:Nat))).setCell (aD (b0+1+1) 1) (uV (V.b:Nat))).setCell (aD (b0+1+1) 2) (uV (V.c:Nat))).heap[q]?=_;rw[az _ (aD _ 2) _ q hq,az _ (aD _ 1) _ q hq,az _ (aD _ 0) _ q hq]
  have jj:aI b0 w ((((W7.setCell (aD (b0+1+1) 0) (uV (V.a:Nat))).setCell (aD (b0+1+1) 1) (uV (V.b:Nat))).setCell (aD (b0+1+1) 2) (uV (V.c:Nat))).drew):=(((HE.2.2.2.setCell (p:=(aD (b0+1+1) 0)) (by simp only;omega) _).setCell (p:=(aD (b0+1+1) 1)) (by simp only;omega) _).setCell (p:=(aD (b0+1+1) 2)) (by simp only;omega) _).drew;have m3':((((W7.setCell (aD (b0+1+1) 0) (uV (V.a:Nat))).setCell (aD (b0+1+1) 1) (uV (V.b:Nat))).setCell (aD (b0+1+1) 2) (uV (V.c:Nat))).drew).heap[b0+1+1]?=some (.cells V.cells.toArray 306 (0,0)):=m3;have go:∀i v,W7.cell? (aD (b0+1+1+1) i)=some v->((((W7.setCell (aD (b0+1+1) 0) (uV (V.a:Nat))).setCell (aD (b0+1+1) 1) (uV (V.b:Nat))).setCell (aD (b0+1+1) 2) (uV (V.c:Nat))).drew).cell? (aD (b0+1+1+1) i)=some v:=λi v hv=>(fq (a:=(aD (b0+1+1+1) i)) (K4 (b0+1+1+1) (by omega))).trans hv;have hdm:Dm≠b0+1+1:=λe=>by have:=HE.2.2.1;rw[e,HE.1]at this;cases this
  have hD8:=(K4 Dm hdm).trans HE.2.2.1;clear go K4 m1 m2 m3 n0 n1 n2 u0 u1 u2 x0 x1 x2;generalize(((W7.setCell (aD (b0+1+1) 0) (uV (V.a:Nat))).setCell (aD (b0+1+1) 1) (uV (V.b:Nat))).setCell (aD (b0+1+1) 2) (uV (V.c:Nat))).drew=W8 at*;go_wp2_with fail;change agy mH 5 ah Tryz.f154 _ _ [{target:= .collected Dm,args:=#[]}] .returning W8;refine EE Dm W8 hD8 λw' hm=>?_;have hv':=(hm.block _ (lt_of_heap m3') (λe=>hdm e.symm)).trans m3';refine⟨_,C9 rfl _ w' (b0+1+1) _ _ (0,0) _ rfl hv' iK rfl (by kernel_rfl),?_,?_⟩;·rw[BX,<-HVV,<-QV];rfl
  ·rw[<-AL];exact jj.trans (hm.toBelow (by have:=jj.size;rw[<-AL.out]at this;exact this) λq hq=>by omega)
section
variable{P:iX}{ops:Array gV}{S:ak->Prop}{Q:J1->Act->ak->Prop}
def mV(ops:Array gV):Nat->Nat->Nat->Bool|0,_,_=>false|f+1,x,i=>match ops[x]? with|none=>true|some o=>o.after.any λe=>mF .any e&&(e.on==i||((ops[e.on]?).isSome&&mV ops f e.on i))
def Shut(ops:Array gV)(listed:Array Bool):Prop:=∀j,listed.getD j false=true->∀o,ops[j]?=some o->∀e∈o.after,mF .any e=true->listed.getD e.on false=true
theorem getD_set_true{listed:Array Bool}{j k:Nat}(h:listed.getD k false=true):(listed.setIfInBounds j true).getD k false=true:=by
 by_cases e:j=k;·
  subst e;have hk:j<listed.size:=by
   rcases fe j listed.size with h'|h';·exact h'
   ·simp[UX h']at h
  simp[hk]
 ·simp only[lZ]at h⊢;rw[pH e];exact h
theorem Jh{listed:Array Bool}{j k:Nat}(hjk:j≠k)(h:(listed.setIfInBounds j true).getD k false=true):listed.getD k false=true:=by simp only[lZ]at h⊢;rw[pH hjk]at h;exact h
theorem Shut.step{listed:Array Bool}(h:Shut ops listed){i:Nat}(hi:i∈bZ .any ops listed):Shut ops (listed.setIfInBounds i true):=by
 intro j hj o ho e he hb;by_cases hij:i=j;·subst hij;obtain⟨_,o',ho',hall⟩:=mem_ready.1 hi;rw[ho]at ho';cases ho';exact getD_set_true (hall e he hb)
 ·exact getD_set_true (h j (Jh hij hj) o ho e he hb)
theorem xL{i:Nat}{listed:Array Bool}(hs:Shut ops listed):∀(f x:Nat),mV ops f x i=true->(∀o,ops[x]?=some o->∀e∈o.after,mF .any e=true->listed.getD e.on false=true)->(ops[x]?).isSome=true->listed.getD i false=true
 |0,x,h,_,_=>by cases h|f+1,x,h,hx,WA=>by unfold mV at h;cases ho:ops[x]? with
  |none=>rw[ho]at WA;cases WA|some o=>
   rw[ho]at h;obtain⟨e,he,hb⟩:=Array.any_eq_true'.1 h;simp only[cR,eU,beq_iff_eq]at hb;have hl:=hx o ho e he hb.1;rcases hb.2 with h1|⟨h1,h2⟩;·rw[<-h1];exact hl
   ·exact xL hs f e.on h2 (λo' ho' e' he' hb'=>hs e.on hl o' ho' e' he' hb') h1
theorem CT{x i:Nat}{oi:gV}{v:ay}(hx:mV ops 64 x i=true\/ops[x]?=none)(hi:ops[i]?=some oi)(WE:fK ops=true)(hQ:∀c a w,Q (.panic c) (a.put oi.dst v) w->Q (.panic c) a w):∀(n:Nat)(listed:Array Bool)(a:Act)(w:ak),Shut ops listed->(∀j oj,ops[j]?=some oj->j≠i->listed.getD j true=false->(∀e∈oj.after,mF .any e=true->e.on≠i)->oi.apart ops oj=true)->i∈bZ .any ops listed->YieldsIf P ops S oi v a->S w->BO P ops Q S x n (listed.setIfInBounds i true) (a.put oi.dst v) w->BO P ops Q S x (n+1) listed a w:=by intro n;induction n with
 |zero=>
  intro listed a w _ _ hr hy hS H;refine⟨λh=>(by rw[h]at hr;cases hr),λj hj=>?_⟩;by_cases Jc:j=i;·subst Jc;exact hy.wpOp hi hS ⟨λ_=>hS,H⟩
  ·have hc:=ready_mono hj Jc;rw[H.1]at hc;cases hc|succ n ih=>
  intro listed a w hsh hfree hr hy hS H;refine⟨λh=>(by rw[h]at hr;cases hr),λj hj=>?_⟩;by_cases Jc:j=i;·subst Jc;exact hy.wpOp hi hS ⟨λ_=>hS,H⟩
  ·have MQ:j≠x:=by
    rintro rfl;obtain⟨_,o',ho',aiI⟩:=mem_ready.1 hj;rcases hx with hx|hx;·have h1:=xL hsh 64 j hx (λo ho e he hb=>by rw[ho']at ho;cases ho;exact aiI e he hb) (by rw[ho'];rfl);rw[dK hr]at h1;cases h1
    ·rw[hx]at ho';cases ho'
   have h1:=H.2 j (ready_mono hj Jc);obtain⟨WX,oj,hoj,hall⟩:=mem_ready.1 hj;have aae:∀e∈oj.after,mF .any e=true->e.on≠i:=λe he hb heq=>by have h2:=hall e he hb;rw[heq,dK hr]at h2;cases h2
   have h2:=wpOp_putIf hoj (hfree j oj hoj Jc WX aae) (λcs b=>Hy WE i oi cs b hi) (λcs b=>Hy WE j oj cs b hoj) hQ hy h1;have OL:∀k ok,ops[k]?=some ok->k≠i->(listed.setIfInBounds j true).getD k true=false->(∀e∈ok.after,mF .any e=true->e.on≠i)->oi.apart ops ok=true:=λk ok hk hki hun hno=>by
    refine hfree k ok hk hki ?_ hno;by_cases hjk:j=k;·subst hjk;exact WX
    ·rw[getD_set_ne true hjk]at hun;exact hun
   refine wpOp_mono (λa' w' h3=>⟨λ_=>h3.2.1 MQ,ih (listed.setIfInBounds j true) a' w' (hsh.step hj) OL (ready_mono hr (dB Jc)) h3.1 (h3.2.1 MQ) ?_⟩) h2;rw[Array.setIfInBounds_comm _ _ Jc];exact h3.2.2
theorem Gz{lo:List gV}{j:Nat}{o:gV}{a:Act}{w:ak}{K:Act->ak->Prop}(ho:lo[j]?=some o)(hw:gj o (yielded lo.toArray a.tmps)=true)(h:o.wp P a w K (pR λ_ _ _=>False)):wpOp P lo.toArray Q j K a w:=by
 unfold wpOp;have ho':lo.toArray[j]?=some o:=by simpa using ho
 simp only[ho'];rw[if_pos hw];refine .inl ?_;unfold ak8 at h⊢;generalize(execOp a.eval o).run P w=r at*;cases r with
  |ok n w'=>
   cases n<;>simp only[Ca]at h⊢;case value=>exact h
   case skip=>exact h
   case defer=>exact h
   case row=>exact h
   case enter f args=>refine Calls.mono h λe w'' he=>?_;cases e with|returned v=>exact he|panicked c=>exact he.elim|outgrown=>obtain⟨_,_,hx⟩:=he;exact hx.elim
   all_goals exact h|halt x w'=>cases x<;>simp only[Ca]at h⊢;all_goals exact h.elim
theorem nz{lo:List gV}{x:Nat}(hs:fK lo.toArray=true){Q':J1->Act->ak->Prop}(hQ:∀a w,Q .normal a w->Q' .normal a w)(hp:∀c a w,¬Q' (.panic c) a w):∀(l:List (Nat×Bool))(listed:Array Bool)(a:Act)(w:ak),Shut lo.toArray listed->(∀q∈l,q.2=false->mV lo.toArray 64 x q.1=true\/lo.toArray[x]?=none)->pL lo.toArray l listed=true->S w->fM P lo S x (Q .normal) l a w->BO P lo.toArray Q' S x l.length listed a w
 |[],listed,a,w,_,_,hB,_,h=>by simp only[pL,beq_iff_eq]at hB;exact⟨hB,hQ _ _ h⟩|(i,true)::rest,listed,a,w,hsh,hl,hB,hS,h=>by
  simp only[pL,cR,beq_iff_eq]at hB;obtain⟨hr,hB'⟩:=hB;have ih:=nz (x:=x) hs hQ hp rest (listed.setIfInBounds i true);refine⟨λh0=>(by rw[hr]at h0;cases h0),λj hj=>?_⟩;have ahh:=hsh.step hj;rw[hr]at hj;obtain rfl:j=i:=by simpa using hj
  unfold fM at h;split at h;·exact h.elim
  ·rename_i o ho;by_cases hw:gj o (yielded lo.toArray a.tmps)=true;·
    rw[if_pos hw]at h;refine Gz ho hw (ass (λa' w' hh=>⟨hh.1,?_⟩) h);by_cases MQ:j=x;·have:=hh.2.1 MQ;subst this;simp only[pL,beq_iff_eq]at hB';exact⟨hB',hQ _ _ hh.2.2⟩
    ·exact ih a' w' ahh (λq hq=>hl q (bq _ hq)) hB' (hh.1 MQ) hh.2.2
   ·rw[if_neg hw]at h;unfold wpOp;have ho':lo.toArray[j]?=some o:=by simpa using ho
    simp only[ho'];rw[if_neg hw];exact⟨λ_=>hS,ih _ _ ahh (λq hq=>hl q (bq _ hq)) hB' hS h⟩|(i,false)::rest,listed,a,w,hsh,hl,hB,hS,h=>by
  simp only[pL,cR]at hB;obtain⟨⟨hr,hf⟩,hB'⟩:=hB;have OD:i∈bZ .any lo.toArray listed:=by simpa using hr
  have ih:=nz (x:=x) hs hQ hp rest (listed.setIfInBounds i true);unfold fM at h;split at h;·exact h.elim
  ·rename_i o ho;obtain⟨v,hy,hk⟩:=h;have ho':lo.toArray[i]?=some o:=by simpa using ho
   exact CT (hl (i,false) bE rfl) ho' hs (λc a w hq=>(hp _ _ _ hq).elim) rest.length listed a w hsh (Hz ho' hf) OD hy hS (ih _ _ (hsh.step OD) (λq hq=>hl q (bq _ hq)) hB' hS hk)
theorem Bf(n:Nat):Shut ops (fh n false):=by intro j hj;simp only[lZ,Array.getElem?_replicate]at hj;split at hj<;>simp at hj
theorem jz{id:Nat}{a:Act}{w:ak}{l:List gV}(order:List (Nat×Bool))(x:Nat)(S:ak->Prop)(hm:P.follows .mixedOrders=true)(hs:(fK l.toArray&&(order.all λq=>q.2||mV l.toArray 64 x q.1||(l.toArray[x]?).isNone)&&(order.length==l.length)&&pL l.toArray order (fh l.length false))=true)(hS:S w.drew)(h:fM P l S x (Q .normal) order a w.drew):(AR id l.toArray true).wp P Q a w:=by
 simp only[cR,beq_iff_eq]at hs;obtain⟨⟨⟨h1,h3⟩,h4⟩,h5⟩:=hs;have h3':∀q∈order,q.2=false->mV l.toArray 64 x q.1=true\/l.toArray[x]?=none:=λq hq hf=>by have:=List.all_eq_true.1 h3 q hq;rw[hf]at this;simpa using this
 refine wp_region_noPanic (wp_region_any hm (jq (S:=S) (x:=x) _ _ _ _ ?_));have:=nz (Q:=Q) (Q':=pR Q) h1 (λ_ _ h=>h) (λ_ _ _ h=>h) order (fh l.length false) a w.drew (Bf _) h3' h5 hS h;rw[h4]at this;simpa using this
theorem Bd{n l:Nat}{id:Nat}{a:Act}{w:ak}{lo:List gV}(order:List (Nat×Bool))(x:Nat)(S:ak->Prop)(hm:P.follows .mixedOrders=true)(hs:(fK lo.toArray&&(order.all λq=>q.2||mV lo.toArray 64 x q.1||(lo.toArray[x]?).isNone)&&(order.length==lo.length)&&pL lo.toArray order (fh lo.length false)&&lo.all Fa)=true)(hS:S w.drew)(h:fM P lo S x (Q .normal) order a w.drew):(AR id lo.toArray true).wpIn (Fence.wide.inRound l) n P Q a w:=by
 simp only[cR,beq_iff_eq]at hs;obtain⟨⟨⟨⟨h1,h3⟩,h4⟩,h5⟩,h6⟩:=hs;have h3':∀q∈order,q.2=false->mV lo.toArray 64 x q.1=true\/lo.toArray[x]?=none:=λq hq hf=>by have:=List.all_eq_true.1 h3 q hq;rw[hf]at this;simpa using this
 refine wpIn_mono (Q:=Calm Q) (wpIn_region_any hm (nS (λ⟨_,_,h⟩=>h) h6 _ _ _ _ (jq (S:=S) (x:=x) _ _ _ _ ?_))) ?_;·have:=nz (Q:=Q) (Q':=Calm Q) h1 (λ_ _ h=>h) (λ_ _ _ h=>h) order (fh lo.length false) a w.drew (Bf _) h3' h5 hS h;rw[h4]at this;simpa using this
 ·intro e a' w' h';cases e<;>first|exact h'|exact h'.elim
end
attribute[local go_sem]ze
def PM.gB(M:PM)(k:Nat)(s:aH):PM:={M with follow:=M.follow.set k s}
def PM.mY(M:PM)(tt:aH)(k:Nat):PM:=M.gB k ((M.follow.getD k aH.zero).or tt)
def PM.link(M:PM)(l:List Nat)(tt:aH):PM:=l.foldl (λM k=>M.mY tt k) M
theorem PM.Sb(M:PM)(l:List Nat)(tt:aH)(k:Nat):M.link (l++[k]) tt=(M.link l tt).mY tt k:=by unfold PM.link;rw[afM];rfl
theorem PM.pM{M:PM}(h:M.ok)(k:Nat){s:aH}(hs:s.ok):(M.gB k s).ok:=⟨h.la,by show(M.follow.set k s).length=129;rw[bW];exact h.lf,h.oa,λt ht=>by
 rcases List.mem_or_eq_of_mem_set ht with h1|h1;·exact h.of' t h1
 ·rw[h1];exact hs,h.ol⟩
theorem PM.N8{M:PM}(h:M.ok){tt:aH}(ht:tt.ok)(k:Nat):(M.mY tt k).ok:=PM.pM h k (aH.zP (M.GX h k) ht)
theorem PM.P9{M:PM}(h:M.ok){tt:aH}(ht:tt.ok)(l:List Nat):(M.link l tt).ok:=by unfold PM.link;induction l generalizing M with|nil=>exact h|cons k l ih=>exact ih (PM.N8 h ht k)
theorem zH:∀(l:List aH)(k:Nat)(s:aH),k<l.length->(((setCells l).set (k*3) (uV s.a)).set (k*3+1) (uV s.b)).set (k*3+2) (uV s.c)=setCells (l.set k s)
 |[],k,s,h=>by simp at h|y::t,0,s,h=>by simp[setCells,aH.cells]|y::t,k+1,s,h=>by
  have ih:=zH t k s (by simpa using h);have e:∀l:List aH,setCells (y::l)=uV y.a::uV y.b::uV y.c::setCells l:=λl=>by simp[setCells,aH.cells]
  rw[ai,e,e,<-ih,show(k+1)*3=k*3+1+1+1 by omega];simp only[ai]
theorem PM.uJ{M:PM}(h:M.ok){k:Nat}(hk:k<129)(s:aH):((M.cells.toArray.setIfInBounds (768+k*3) (uV s.a)).setIfInBounds (768+k*3+1) (uV s.b)).setIfInBounds (768+k*3+2) (uV s.c)=(M.gB k s).cells.toArray:=by
 simp only[List.setIfInBounds_toArray];congr 1;have h1:(setCells M.at').length=768:=by rw[dV,h.la]
 have h2:=h.lf;have h3:(setCells M.follow).length=387:=by rw[dV,h.lf]
 unfold PM.cells PM.gB;simp only;rw[cU _ _ (by omega),cU _ _ (by omega),cU _ _ (by omega),h1];rw[uW _ _ (by omega),uW _ _ (by rw[bW];omega),uW _ _ (by rw[bW,bW];omega)];rw[show 768+k*3-768=k*3 by omega,show 768+k*3+1-768=k*3+1 by omega,show 768+k*3+2-768=k*3+2 by omega,zH _ _ _ (by omega)]
theorem zW(mb:Nat)(M:PM)(s tt:aH)(w:ak)(hs:s.ok)(hf:s.fits)(ht:tt.ok)(hM:bQ w mb M)(hT:eN w):aX ah 197 #[aP mb,s.val,tt.val] w λe w'=>e= .returned (.tuple #[])/\bQ w' mb (M.link s.elems tt)/\Mod (λj=>j=mb) w w':=by
 have hmf:∀(fn:Fn)(first cap:Array ay)(w:ak),(A8 fn first cap).run ah w= .ok (.func fn first cap) w:=λ_ _ _ _=>rfl;have HS:=ae hs;have HF:=ae hf;have HTT:=ae ht;have HM:=ae hM;have HT:=ae hT;have hmb:=lt_of_heap hM.2;have hgm:4≠mb:=λe=>by obtain⟨⟨cs,h1⟩,_⟩:=hT;rw[e,hM.2]at h1;cases h1
 clear hs hf ht hM hT;refine(callsIn_wide (n:=5)).1 ?_;refine callsIn_of_wp_marks Tryz.func197 rfl trivial ?_ rfl;simp only[Tryz.ntmps197,mf,cI,gX,uH,Dt,rz,ru,vB,sS,eZ,iT];refine wpIn_wide.2 ?_;unfold aP aH.val aH.cells;go_wp2_with fail;obtain⟨W,hW⟩:∃W,W=((w.alloc (.cells #[pT mb] 126)).alloc (.cells #[uV s.a,uV s.b,uV s.c] 306)).alloc (.cells #[uV tt.a,uV tt.b,uV tt.c] 306):=⟨_,rfl⟩;rw[<-hW];have h0:W.heap[w.heap.size]?=some (.cells #[pT mb] 126 (0,0)):=by rw[hW,aC _ _ _ (by simp;omega),aC _ _ _ (by simp)];exact heap_alloc_new w _
 have h2:W.heap[w.heap.size+1+1]?=some (.cells #[uV tt.a,uV tt.b,uV tt.c] 306 (0,0)):=by rw[hW];have:=heap_alloc_new ((w.alloc (.cells #[pT mb] 126)).alloc (.cells #[uV s.a,uV s.b,uV s.c] 306)) (.cells #[uV tt.a,uV tt.b,uV tt.c] 306);simp only[bM]at this;exact this
 have hb:aI w.heap.size w W:=by rw[hW];exact(((aB _ w).alloc (au _) _).alloc (by simp) _).alloc (by simp;omega) _
 have hsz:W.heap.size=w.heap.size+3:=by rw[hW];simp
 have xC:=HT.below hb;have hMW:=HM.below hb;have hmod:Mod (λj=>j=mb) w W:=⟨hb.os,hb.tape,hb.output,hb.size,λj hj _=>hb.block j hj⟩;have H0:=ae (show _/\_/\_/\_ from⟨hmod,h0,h2,hMW⟩);clear hW h0 h2 hb hmod hMW;obtain⟨b0,hb0⟩:∃b0,b0=w.heap.size:=⟨_,rfl⟩;rw[<-hb0]at H0 hsz hmb⊢;have AL:=ae hb0;clear hb0;refine wpIn_wide.1 (xJ (F:=mH) (n:=5) rfl (by omega) (gf:=198) (fst:=#[s.val]) (lb:=#[]) rfl trivial (enters_of UC (by kernel_rfl) rfl) (b:=4) xC.lt (zI 4 (by omega) s HS W xC) (λ_=>rfl) (λpre W'=>Mod (λj=>j=mb) w W'/\W'.heap[b0]?=some (.cells #[pT mb] 126 (0,0))/\W'.heap[b0+1+1]?=some (.cells #[uV tt.a,uV tt.b,uV tt.c] 306 (0,0))/\bQ W' mb (M.link pre tt)) ?own H0 (λk=>{tmps:=#[pT mb,.agg #[uV s.a,uV s.b,uV s.c],.agg #[uV tt.a,uV tt.b,uV tt.c],pT b0,pT (b0+1),pT (b0+1+1),iV k, .agg #[uV s.a,uV s.b,uV s.c],.func (.func 198) #[.agg #[uV s.a,uV s.b,uV s.c]] #[],iV k,undef,undef,undef,undef,undef,undef,undef,undef,undef,undef,undef,undef,undef],defers:=[]}) ?assign ?body ?done);case own=>
  refine OwnFrom.and ?_ ((pU _ _ (λ_=>_) (λ_=>_) (λ_=>_)).and ((pU _ _ (λ_=>_) (λ_=>_) (λ_=>_)).and ?_));·intro x A B row hs hg hr;refine⟨hg.os.trans hs.os,hg.tape.trans hs.tape,hg.output.trans hs.output,aZ hs.size hg.size,λj hj hn=>(hg.block j (bI hj hs.size) λe=>?_).trans (hs.block j hj hn)⟩;obtain⟨h1,_⟩:=hr j e.symm;rw[<-AL]at hj;omega
  ·intro x A B row hs hg hr;exact⟨hs.1,(pU (β:=List Nat) W.heap.size mb (λpre=>(M.link pre tt).cells.toArray) (λ_=>310) (λ_=>(0,0))) x A B row hs.2 hg hr⟩
 case assign=>intro l x W' K' hK';unfold cJ;gi_wp2;exact hK'
 case body=>
  rintro l pre k W1⟨hmod,h0,h2,tN⟩hpx;have T7:k∈s.elems:=hpx.subset (by simp);have hk:=HF k T7;obtain⟨N,hN⟩:∃N,N=M.link pre tt:=⟨_,rfl⟩;rw[PM.Sb,<-hN];rw[<-hN]at tN;obtain⟨fk,hfk⟩:∃fk,N.follow[k]?=some fk:=⟨_,ar (by rw[tN.1.lf];exact hk)⟩;have hfc:=tN.Ji hfk;have Gd:fk.ok:=tN.1.of' fk (aS hfk);have hone:N.mY tt k=N.gB k (fk.or tt):=by unfold PM.mY;rw[aw,hfk];rfl
  have c0:W1.cell? (aD (b0+1+1) 0)=some (uV tt.a):=aq h2;have c1:W1.cell? (aD (b0+1+1) 1)=some (uV tt.b):=aq h2;have c2:W1.cell? (aD (b0+1+1) 2)=some (uV tt.c):=aq h2;have d0:W1.cell? (aD b0 0)=some (pT mb):=aq h0;have e0:W1.cell? (aD mb (768+k*3))=some (uV fk.a):=(hfc 0 (by decide)).1;have e1:W1.cell? (aD mb (768+k*3+1))=some (uV fk.b):=(hfc 1 (by decide)).1;have e2:W1.cell? (aD mb (768+k*3+2))=some (uV fk.c):=(hfc 2 (by decide)).1;have hkz:(k:Int)<129:=by omega
  rw[hone];have HI:=ae (show _/\_/\_/\_ from⟨hmod,h0,h2,tN⟩);have HOR:=ae (λW'=>mP fk tt W' Gd HTT);have hall:Hid (∀W',aI W1.heap.size W1 W'->(W'.cell? (aD (b0+1+1) 0)=some (uV tt.a)/\W'.cell? (aD (b0+1+1) 1)=some (uV tt.b)/\W'.cell? (aD (b0+1+1) 2)=some (uV tt.c))/\W'.cell? (aD b0 0)=some (pT mb)/\W'.cell? (aD mb (768+k*3))=some (uV fk.a)/\W'.cell? (aD mb (768+k*3+1))=some (uV fk.b)/\W'.cell? (aD mb (768+k*3+2))=some (uV fk.c)):=ae λW' hbb=>by have go:∀(b i:Nat)v,W1.cell? (aD b i)=some v->W'.cell? (aD b i)=some v:=λb i v hv=>(hbb.cell (p:=(aD b i)) (lt_of_cell hv)).trans hv;exact⟨⟨go _ _ _ c0,go _ _ _ c1,go _ _ _ c2⟩,go _ _ _ d0,go _ _ _ e0,go _ _ _ e1,go _ _ _ e2⟩
  have aon:=ae Gd;clear hmod h0 h2 tN hfc hN Gd hone hfk T7 hpx;gi_wp2;refine Bd [(0,false),(1,false),(2,false),(3,false),(4,false),(5,false),(6,false),(7,false),(8,false),(10,false),(11,false),(9,true),(12,true),(13,true)] 13 (λW'=>(W'.cell? (aD (b0+1+1) 0)=some (uV tt.a)/\W'.cell? (aD (b0+1+1) 1)=some (uV tt.b)/\W'.cell? (aD (b0+1+1) 2)=some (uV tt.c))/\W'.cell? (aD b0 0)=some (pT mb)/\W'.cell? (aD mb (768+k*3))=some (uV fk.a)/\W'.cell? (aD mb (768+k*3+1))=some (uV fk.b)/\W'.cell? (aD mb (768+k*3+2))=some (uV fk.c)) (by kernel_rfl) (by kernel_rfl) (hall _ (aB _ _).drew) ?_;iterate 11(
 refine aR ?_ rfl rfl (λw' hS=>?_) ?_;rotate_left;·obtain⟨⟨q0,q1,q2⟩,q3,q4,q5,q6⟩:=hS;go_simp;try rfl
 simp only[aN,ai,aj])
  refine bg rfl rfl (by decide) (λK hK=>?_);go_simp;have Lv:=HOR W1.drew;unfold aH.val aH.cells at Lv;refine Lv.mono ?_;clear Lv;rintro e W6⟨rfl,oY⟩;have Ag:aI W1.heap.size W1 W6:=(aB _ _).drew.trans oY;have hc6:=hall W6 Ag;have hM6:=HI.2.2.2.below Ag;have g0:W6.frozen? (aD mb (768+k*3))=false:=hM6.free _;have g1:W6.frozen? (aD mb (768+k*3+1))=false:=hM6.free _;have g2:W6.frozen? (aD mb (768+k*3+2))=false:=hM6.free _;refine hK _ _ hc6 ?_;have xH:=ae Ag;have YW:=ae hM6;clear hK K oY Ag hall c0 c1 c2 d0 e0 e1 e2 hM6;refine bg rfl rfl (by decide) (λK hK=>?_);go_simp;refine hK _ _ hc6 ?_;clear hK K;obtain⟨⟨q0,q1,q2⟩,q3,q4,q5,q6⟩:=hc6;refine cO rfl rfl (λK hK=>?_);go_simp;refine hK _ _ ?_;clear hK K;gi_wp2;have k1:=heap_setCell_same W6 mb (768+k*3) _ _ (uV ((fk.or tt).a:Nat)) YW.2;have k2:=heap_setCell_same _ mb (768+k*3+1) _ _ (uV ((fk.or tt).b:Nat)) k1;have k3:=heap_setCell_same _ mb (768+k*3+2) _ _ (uV ((fk.or tt).c:Nat)) k2;rw[PM.uJ YW.1 hk]at k3;have K4:∀q,q≠mb->(((W6.setCell (aD mb (768+k*3)) (uV ((fk.or tt).a:Nat))).setCell (aD mb (768+k*3+1)) (uV ((fk.or tt).b:Nat))).setCell (aD mb (768+k*3+2)) (uV ((fk.or tt).c:Nat))).heap[q]?=W6.heap[q]?:=λq hq=>by rw[az _ (aD mb (768+k*3+2)) _ q hq,az _ (aD mb (768+k*3+1)) _ q hq,az _ (aD mb (768+k*3)) _ q hq]
  have szz:(((W6.setCell (aD mb (768+k*3)) (uV ((fk.or tt).a:Nat))).setCell (aD mb (768+k*3+1)) (uV ((fk.or tt).b:Nat))).setCell (aD mb (768+k*3+2)) (uV ((fk.or tt).c:Nat))).heap.size=W6.heap.size:=by simp
  have Qn:Mod (λj=>j=mb) w W6:=HI.1.trans ⟨xH.os,xH.tape,xH.output,xH.size,λj hj _=>xH.block j hj⟩;have jj:Mod (λj=>j=mb) w (((W6.setCell (aD mb (768+k*3)) (uV ((fk.or tt).a:Nat))).setCell (aD mb (768+k*3+1)) (uV ((fk.or tt).b:Nat))).setCell (aD mb (768+k*3+2)) (uV ((fk.or tt).c:Nat))):=((Qn.trans (Mod.setCell _ (aD mb _) _ λ_=>rfl)).trans (Mod.setCell _ (aD mb _) _ λ_=>rfl)).trans (Mod.setCell _ (aD mb _) _ λ_=>rfl);generalize((W6.setCell (aD mb (768+k*3)) (uV ((fk.or tt).a:Nat))).setCell (aD mb (768+k*3+1)) (uV ((fk.or tt).b:Nat))).setCell (aD mb (768+k*3+2)) (uV ((fk.or tt).c:Nat))=W7 at*;have VI:∀q o,W1.heap[q]?=some o->q≠mb->W7.heap[q]?=some o:=λq o ho hq=>(K4 q hq).trans ((xH.block q (lt_of_heap ho)).trans ho);have Gd:=HI.2.2.2.1.of';refine⟨⟨by rw[szz];exact xH.size,λq o ho hoc=>VI q o ho λe=>?_⟩,?_,jj,VI _ _ HI.2.1 (by omega),VI _ _ HI.2.2.1 (by omega),?_,k3⟩;·rw[e,HI.2.2.2.2]at ho;cases ho;cases hoc
  ·have hq:4<W1.heap.size:=by have:=HI.1.size;have:=HT.lt;omega
   rw[K4 _ hgm];exact xH.block _ hq
  ·exact PM.pM YW.1 k (aH.zP aon HTT)
 case done=>
  rintro Dm W1 hD⟨hmod,h0,h2,tN⟩hdf;have HE:=ae (show _/\_/\_ from⟨hmod,tN,hdf⟩);clear hmod h0 h2 tN hdf;go_wp2_with fail;change agy mH 5 ah Tryz.f197 _ _ [{target:= .collected Dm,args:=#[]}] .returning W1;refine EE Dm W1 HE.2.2 λw' hm=>⟨_,results_none rfl _ _ _,rfl,⟨HE.2.1.1,(hm.block mb (lt_of_heap HE.2.1.2) λe=>?_).trans HE.2.1.2⟩,⟨hm.os.trans HE.1.os,hm.tape.trans HE.1.tape,hm.output.trans HE.1.output,aZ HE.1.size hm.size,λj hj hn=>(hm.block j (bI hj HE.1.size) λe=>?_).trans (HE.1.block j hj hn)⟩⟩;·have:=HE.2.2;rw[<-e,HE.2.1.2]at this;cases this
  ·rw[e,<-AL]at hj;omega
structure bG where
 a:Nat
 b:Nat
 c:Nat
 d:Nat
 deriving DecidableEq,Inhabited
namespace bG
def word(s:bG):Nat->Nat|0=>s.a|1=>s.b|2=>s.c|_=>s.d
def ok(s:bG):Prop:=s.a<Ax/\s.b<Ax/\s.c<Ax/\s.d<Ax
def has(s:bG)(c:Nat):Bool:=(s.word (c/64)).testBit (c%64)
def cells(s:bG):List ay:=[.int .u64 s.a,.int .u64 s.b,.int .u64 s.c,.int .u64 s.d]
theorem jS{s:bG}(h:s.ok)(i:Nat):s.word i<Ax:=by obtain⟨h1,h2,h3,h4⟩:=h;match i with|0=>exact h1|1=>exact h2|2=>exact h3|_+3=>exact h4
theorem lh(s:bG){j:Nat}(h:j<4):s.cells.toArray[j]?=some (uV (s.word j)):=by match j with|0=>rfl|1=>rfl|2=>rfl|3=>rfl|n+4=>omega
end bG
inductive bC where|empty|iW|one(s:bG)|seq(a b:bC)|or(a b:bC)|many(a:bC)(sm:Bool)|maybe(a:bC)
namespace bC
def val:bC->ay|empty=> .iface 296 (.agg #[])|iW=> .iface 388 (.agg #[])|one s=> .iface 300 (.agg s.cells.toArray)|seq a b=> .iface 393 (.agg #[a.val,b.val])|or a b=> .iface 387 (.agg #[a.val,b.val])|many a sm=> .iface 304 (.agg #[a.val,.bool sm])|maybe a=> .iface 390 (.agg #[a.val])
def count:bC->Nat|empty|iW=>0|one _=>1|seq a b|or a b=>a.count+b.count|many a _|maybe a=>a.count
def ok:bC->Prop|empty|iW=>True|one s=>s.ok|seq a b|or a b=>a.ok/\b.ok|many a _|maybe a=>a.ok
end bC
structure Part where
 first:aH
 last:aH
 none:Bool
def Part.cells(p:Part):List ay:=p.first.cells++(p.last.cells++[.bool p.none])
def Part.val(p:Part):ay:= .agg p.cells.toArray
structure Part.ok (p:Part):Prop where
 f:p.first.ok
 l:p.last.ok
def PM.mi(M:PM)(s:bG):PM:={M with at':=(M.at'.zipIdx).map λq=>if s.has q.2 then q.1.on M.n else q.1,n:=M.n+1}
def Part.or(p q:Part):Part:=⟨p.first.or q.first,p.last.or q.last,p.none||q.none⟩
def Part.seq(p q:Part):Part:=⟨if p.none then p.first.or q.first else p.first,if q.none then q.last.or p.last else q.last,p.none&&q.none⟩
def PM.part:bC->PM->PM×Part| .empty,M=>(M,⟨.zero,.zero,true⟩)| .iW,M=>(M,⟨.zero,.zero,true⟩)| .one s,M=>(M.mi s,⟨aH.zero.on M.n,aH.zero.on M.n,false⟩)| .or a b,M=>((PM.part b (PM.part a M).1).1,(PM.part a M).2.or (PM.part b (PM.part a M).1).2)| .seq a b,M=>((PM.part b (PM.part a M).1).1.link (PM.part a M).2.last.elems (PM.part b (PM.part a M).1).2.first,(PM.part a M).2.seq (PM.part b (PM.part a M).1).2)| .many a sm,M=>((PM.part a M).1.link (PM.part a M).2.last.elems (PM.part a M).2.first,⟨(PM.part a M).2.first,(PM.part a M).2.last,(PM.part a M).2.none||!sm⟩)| .maybe a,M=>((PM.part a M).1,⟨(PM.part a M).2.first,(PM.part a M).2.last,true⟩)
theorem Mg(x r:Nat):(x/2^r)&&&1=if x.testBit r then 1 else 0:=by
 rw[Nat.and_one_is_mod,Nat.testBit_eq_decide_div_mod_eq];by_cases h:x/2^r%2=1;·simp[h]
 ·simp[h];omega
theorem NG(s:bG)(c:Nat)(w:ak)(hs:s.ok)(hc:c<256):aX ah 195 #[.agg s.cells.toArray,.int .u8 c] w λe w'=>e= .returned (.bool (s.has c))/\aI w.heap.size w w':=by
 obtain⟨q,hq⟩:∃q,q=c/64:=⟨_,rfl⟩;obtain⟨r,hr⟩:∃r,r=c%64:=⟨_,rfl⟩;have hq4:q<4:=by omega
 have ahk:r<64:=by omega
 obtain⟨x,hx⟩:∃x,x=s.word q:=⟨_,rfl⟩;have hxl:x<Ax:=by rw[hx];exact bG.jS hs q
 have hhas:s.has c=x.testBit r:=by unfold bG.has;rw[hx,hq,hr]
 rw[hhas];have hb:(w.alloc (.cells #[uV s.a,uV s.b,uV s.c,uV s.d] 300)).heap[w.heap.size]?=some (.cells s.cells.toArray 300 (0,0)):=heap_alloc_new w _;have PO:=ae (show aI w.heap.size w (w.alloc (.cells #[uV s.a,uV s.b,uV s.c,uV s.d] 300))from(aB _ w).alloc (au _) _);have c0:(w.alloc (.cells #[uV s.a,uV s.b,uV s.c,uV s.d] 300)).cell? (aD w.heap.size q)=some (uV x):=by rw[aq hb,bG.lh _ hq4,hx]
 have d1:(c:Int)/64=(q:Int):=by omega
 have d2:(c:Int)%64=(r:Int):=by omega
 have d3:Int.tdiv (c:Int) 64=(q:Int):=by rw[M7 (by omega)];exact d1
 have d4:Int.tmod (c:Int) 64=(r:Int):=by rw[yq (by omega)];exact d2
 have d5:(x:Int)/2^r=((x/2^r:Nat):Int):=by simp
 have hy:x/2^r<Ax:=qj (Nat.div_le_self _ _) hxl;have hand:bits .and .u64 ((x/2^r:Nat):Int) ((1:Nat):Int)=(((x/2^r)&&&1:Nat):Int):=bits_and_u64_nat _ 1 hy (by decide);rw[Mg]at hand;have d6:IntKind.u8.wrap (q:Int)=(q:Int):=A0 _ (by omega);have d7:IntKind.u8.wrap (r:Int)=(r:Int):=A0 _ (by omega);have d8:(q:Int)<4:=by omega
 have d9:(r:Int)<=64:=by omega
 obtain⟨t,ht⟩:∃t,t=x.testBit r:=⟨_,rfl⟩;rw[<-ht]at hand⊢;rw[<-d5]at hand;clear hs hx hq hr hxl hhas hb hy ht d5;unfold bG.cells;go_enter Tryz.func195,Tryz.ntmps195;go_wp2_with fail;go_ret;refine⟨?_,PO⟩;rw[show((1:Nat):Int)=1 from rfl]at hand;refine gS ?_;rw[hand];cases t<;>rfl
/-!### What a part keeps. -/
theorem PM.K8{M:PM}(h:M.ok)(s:bG):(M.mi s).ok:=⟨by show((M.at'.zipIdx).map _).length=256;simp[h.la],h.lf,λt ht=>by
 obtain⟨q,hq,rfl⟩:=List.mem_map.1 ht;have hm:q.1∈M.at':=by obtain⟨h1,h2,h3⟩:=List.mem_zipIdx hq;rw[h3];exact eu _
 by_cases hh:s.has q.2=true;·rw[if_pos hh];exact aH.xP (h.oa _ hm) _
 ·rw[if_neg hh];exact h.oa _ hm,h.of',h.ol⟩
def aH.under(s:aH)(n:Nat):Prop:=∀k∈s.elems,k<n
theorem aH.zA{s t:aH}{n:Nat}(h:s.under n)(k:t.under n):(s.or t).under n:=λj hj=>by
 rw[aH.fO,aH.yJ,eU]at hj;rcases hj.2 with h1|h1;·exact h j ((aH.fO _ _).2 ⟨hj.1,h1⟩)
 ·exact k j ((aH.fO _ _).2 ⟨hj.1,h1⟩)
theorem aH.nU(n:Nat):aH.zero.under n:=λk hk=>by rw[aH.fO,aH.jC]at hk;cases hk.2
theorem aH.Kh{k n:Nat}(h:k<n)(hn:k<192):(aH.zero.on k).under n:=λj hj=>by rw[aH.fO]at hj;have:=hj.2;rw[aH.wG _ _ _ hn hj.1,aH.jC,Bool.or_false,decide_eq_true_iff]at this;omega
theorem aH.under.mono{s:aH}{n m:Nat}(h:s.under n)(hm:n<=m):s.under m:=λk hk=>bI (h k hk) hm
theorem PM.yN(M:PM)(l:List Nat)(tt:aH):(M.link l tt).n=M.n:=by unfold PM.link;induction l generalizing M with|nil=>rfl|cons k l ih=>rw[List.foldl_cons,ih];rfl
structure lY (M N:PM) (p:Part) (c:Nat):Prop where
 jZ:N.ok
 part:p.ok
 n:N.n=M.n+c
 uf:p.first.under N.n
 ul:p.last.under N.n
theorem Part.zP{p q:Part}(h:p.ok)(k:q.ok):(p.or q).ok:=⟨aH.zP h.f k.f,aH.zP h.l k.l⟩
theorem Part.adi{p q:Part}(h:p.ok)(k:q.ok):(p.seq q).ok:=⟨by
 show(if p.none then p.first.or q.first else p.first).ok;split;·exact aH.zP h.f k.f
 ·exact h.f,by
 show(if q.none then q.last.or p.last else q.last).ok;split;·exact aH.zP k.l h.l
 ·exact k.l⟩
theorem Part.Rj{p q:Part}{n:Nat}(h1:p.first.under n)(h2:p.last.under n)(k1:q.first.under n)(k2:q.last.under n):(p.seq q).first.under n/\(p.seq q).last.under n:=⟨by
 show(if p.none then p.first.or q.first else p.first).under n;split;·exact aH.zA h1 k1
 ·exact h1,by
 show(if q.none then q.last.or p.last else q.last).under n;split;·exact aH.zA k2 h2
 ·exact k2⟩
theorem lY.one {M:PM} (h:M.ok) (s:bG) (hn:M.n+1<=128):lY M (M.mi s) ⟨aH.zero.on M.n,aH.zero.on M.n,false⟩ 1 where
 jZ:=M.K8 h s
 part:=⟨aH.xP aH.dL _,aH.xP aH.dL _⟩
 n:=rfl
 uf:=aH.Kh (rq _) (by omega)
 ul:=aH.Kh (rq _) (by omega)
theorem lY.or{M N L:PM}{p q:Part}{c d:Nat}(ha:lY M N p c)(hb:lY N L q d):lY M L (p.or q) (c+d):=by
 have hm:N.n<=L.n:=by rw[hb.n];omega
 exact⟨hb.jZ,Part.zP ha.part hb.part,by rw[hb.n,ha.n];omega,aH.zA (ha.uf.mono hm) hb.uf,aH.zA (ha.ul.mono hm) hb.ul⟩
theorem lY.seq{M N L:PM}{p q:Part}{c d:Nat}(ha:lY M N p c)(hb:lY N L q d):lY M (L.link p.last.elems q.first) (p.seq q) (c+d):=by
 have hm:N.n<=L.n:=by rw[hb.n];omega
 have hu:=Part.Rj (ha.uf.mono hm) (ha.ul.mono hm) hb.uf hb.ul;exact⟨PM.P9 hb.jZ hb.part.f _,Part.adi ha.part hb.part,by rw[PM.yN,hb.n,ha.n];omega,by rw[PM.yN];exact hu.1,by rw[PM.yN];exact hu.2⟩
theorem lY.many{M N:PM}{p:Part}{c:Nat}(ha:lY M N p c)(b:Bool):lY M (N.link p.last.elems p.first) ⟨p.first,p.last,b⟩ c:=⟨PM.P9 ha.jZ ha.part.f _,⟨ha.part.f,ha.part.l⟩,by rw[PM.yN];exact ha.n,by rw[PM.yN];exact ha.uf,by rw[PM.yN];exact ha.ul⟩
theorem jR(e:bC):∀(M:PM),M.ok->M.n+e.count<=128->lY M (PM.part e M).1 (PM.part e M).2 e.count:=by induction e with|empty=>exactλM h _=>⟨h,⟨aH.dL,aH.dL⟩,rfl,aH.nU _,aH.nU _⟩|iW=>exactλM h _=>⟨h,⟨aH.dL,aH.dL⟩,rfl,aH.nU _,aH.nU _⟩|one s=>exactλM h hn=>lY.one h s hn|or a b uo um=>intro M h hn;have hn':M.n+(a.count+b.count)<=128:=hn;have ha:=uo M h (by omega);exact ha.or (um _ ha.jZ (by rw[ha.n];omega))|seq a b uo um=>intro M h hn;have hn':M.n+(a.count+b.count)<=128:=hn;have ha:=uo M h (by omega);exact ha.seq (um _ ha.jZ (by rw[ha.n];omega))|many a sm ih=>exactλM h hn=>(ih M h hn).many _|maybe a ih=>exactλM h hn=>⟨(ih M h hn).jZ,⟨(ih M h hn).part.f,(ih M h hn).part.l⟩,(ih M h hn).n,(ih M h hn).uf,(ih M h hn).ul⟩
open Go
/-!### Sets of bytes. -/
def bG.rA(s:bG)(i v:Nat):bG:=match i with|0=>{s with a:=v}|1=>{s with b:=v}|2=>{s with c:=v}|_=>{s with d:=v}
def bG.on(s:bG)(k:Nat):bG:=s.rA (k/64) (s.word (k/64)|||2^(k%64))
def bG.addN(s:bG)(lo:Nat):Nat->bG|0=>s|n+1=>(s.addN lo n).on (lo+n)
def bG.add(s:bG)(lo hi:Nat):bG:=s.addN lo (hi+1-lo)
def bG.zero:bG:=⟨0,0,0,0⟩
def bG.Db(s:bG):Nat->bG|0=>s|n+1=>(s.Db n).rA n (18446744073709551615^^^(s.Db n).word n)
def bG.not(s:bG):bG:=s.Db 4
/-!### Patterns. -/
def bC.places:bC->Nat| .empty=>0| .iW=>129| .one _=>1| .seq a b| .or a b=>min (a.places+b.places) 129| .many a _| .maybe a=>a.places
def bC.join:bC->bC->bC| .empty,b=>b|a,.empty=>a|a,b=> .seq a b
def bC.gH(x y:bC):Nat->bC|0=>x|n+1=>(x.gH y n).join y
abbrev dU:=bC->Nat->Nat->Bool->bC
def qG:dU:=λa _ _ _=>a
def bJ:dU:=λa lo hi Qx=>if a.places*(if Qx then lo+1 else hi)>128 then .iW else if Qx then(bC.gH .empty a lo).join (.many a false)else(bC.gH .empty a lo).gH (.maybe a) (hi-lo)
/-!### The text. -/
def cB(s:ByteArray)(o:bG)(i:Nat):PR bG:=if lW s i then match cZ s i with| .fault e=> .fault e| .ok lo j=>if cH s j 45 then if lW s (j+1)then match cZ s (j+1)with| .fault e=> .fault e| .ok hi k=>if hi<lo then .fault (k-1)else .ok (o.add lo.toNat hi.toNat) k else .fault (j+1)else .ok (o.add lo.toNat lo.toNat) j else .fault i
def fB(s:ByteArray):Nat->Bool->bG->Nat->PR bG|0,_,_,i=> .fault i|f+1,first,o,i=>if first||!cH s i 93 then match cB s o i with| .fault e=> .fault e| .ok o' j=>fB s f false o' j else .ok o i
def nW(s:ByteArray)(i:Nat):PR bG:=match fB s (s.size+1) true .zero (gL s i 94)with| .fault e=> .fault e| .ok o j=> .ok (if cH s i 94 then o.not else o) (j+1)
def rZ(c:UInt8):Bool:=c==41||c==93||c==123||c==125||c==42||c==43||c==63||c==124
def eY(A:Nat->PR bC)(s:ByteArray)(i:Nat):PR bC:=match s.data.toList[i]? with|none=> .fault i|some c=>if c=40 then match A (i+1)with| .fault e=> .fault e| .ok x j=>if cH s j 41 then .ok x (j+1)else .fault j else if c=46 then .ok (.one (bG.zero.add 0 255)) (i+1)else if c=91 then match nW s (i+1)with| .fault e=> .fault e| .ok o j=> .ok (.one o) j else if rZ c then .fault i else match cZ s i with| .fault e=> .fault e| .ok d j=> .ok (.one (bG.zero.add d.toNat d.toNat)) j
def gQ(T:dU)(s:ByteArray)(a:bC)(i:Nat):PR bC:=match dI s i 0 with| .fault e=> .fault e| .ok lo j=>if cH s j 44 then if cH s (j+1) 125 then .ok (T a lo lo true) (j+2)else match dI s (j+1) lo with| .fault e=> .fault e| .ok hi k=>if cH s k 125 then .ok (T a lo hi false) (k+1)else .fault k else if cH s j 125 then .ok (T a lo lo false) (j+1)else .fault j
def dY(T:dU)(s:ByteArray)(a:bC)(i:Nat):PR bC:=if cH s i 42 then .ok (.many a false) (i+1)else if cH s i 43 then .ok (.many a true) (i+1)else if cH s i 63 then .ok (.maybe a) (i+1)else if cH s i 123 then gQ T s a (i+1)else .ok a i
def gq(T:dU)(A:Nat->PR bC)(s:ByteArray)(i:Nat):PR bC:=match eY A s i with| .fault e=> .fault e| .ok a j=>dY T s a j
def gY(s:ByteArray)(i:Nat):Bool:=decide (i<s.size)&&!cH s i 124&&!cH s i 41
def fU(T:dU)(A:Nat->PR bC)(s:ByteArray):Nat->bC->Nat->PR bC|0,_,i=> .fault i|f+1,x,i=>if gY s i then match gq T A s i with| .fault e=> .fault e| .ok y j=>fU T A s f (x.join y) j else .ok x i
def vC(T:dU)(A:Nat->PR bC)(s:ByteArray):Nat->bC->Nat->PR bC|0,_,i=> .fault i|f+1,x,i=>if cH s i 124 then match fU T A s (s.size+1) .empty (i+1)with| .fault e=> .fault e| .ok y j=>vC T A s f (.or x y) j else .ok x i
def eP(T:dU)(s:ByteArray):Nat->Nat->PR bC|0,i=> .fault i|n+1,i=>match fU T (eP T s n) s (s.size+1) .empty i with| .fault e=> .fault e| .ok x j=>vC T (eP T s n) s (s.size+1) x j
inductive kE where|fault(i:Nat)|big|ok(x:bC)
def gD(s:ByteArray):kE:=match eP qG s (s.size+1) 0 with| .fault e=> .fault e| .ok _ j=>if j=s.size then match eP bJ s (s.size+1) 0 with| .fault e=> .fault e| .ok x _=>if x.places>128 then .big else .ok x else .fault j
/-!### Places rise. -/
theorem CL(s:ByteArray)(o:bG)(i:Nat)(h:i<=s.size):(cB s o i).On s i:=by
 unfold cB;split;·
  have h1:=mO s i h;split;·rename_i he;rw[he]at h1;exact h1
  ·rename_i lo j he;rw[he]at h1;have h1':i<j/\j<=s.size:=h1;split;·
    rename_i hd;have hd':=gu hd;split;·
     have h2:=mO s (j+1) (by omega);split;·rename_i CD;rw[CD]at h2;exact h2
     ·rename_i hi k CD;rw[CD]at h2;have h2':j+1<k/\k<=s.size:=h2;split;·show k-1<=s.size;omega
      ·exact⟨by omega,by omega⟩
    ·show j+1<=s.size;omega
   ·exact h1'
 ·exact h
theorem E4(s:ByteArray):∀(f:Nat)(first:Bool)(o:bG)(i:Nat),i<=s.size->s.size<f+i->(fB s f first o i).Good s i/\∀o' j,fB s f first o i= .ok o' j->cH s j 93=true
 |0,_,_,i,h,hf=>by omega|f+1,first,o,i,h,hf=>by
  unfold fB;split;·have h1:=CL s o i h;cases he:cB s o i with|fault e=>rw[he]at h1;exact⟨h1,λo' j hh=>by cases hh⟩|ok o' j=>rw[he]at h1;have h1':i<j/\j<=s.size:=h1;have ih:=E4 s f false o' j (by omega) (by omega);refine⟨?_,ih.2⟩;have ih1:=ih.1;show(fB s f false o' j).Good s i;cases hc:fB s f false o' j with|fault e=>rw[hc]at ih1;exact ih1|ok o2 j2=>rw[hc]at ih1;have atk:j<=j2/\j2<=s.size:=ih1;exact⟨by omega,by omega⟩
  ·rename_i hn;refine⟨⟨au _,h⟩,λo' j hh=>?_⟩;cases hh;have hn':first=false/\cH s i 93=true:=by simpa using hn
   exact hn'.2
theorem ac7(s:ByteArray)(i:Nat)(h:i<=s.size):(nW s i).On s i:=by have h0:=yZ s i 94 h;have h1:=E4 s (s.size+1) true .zero (gL s i 94) h0.2 (by omega);unfold nW;cases he:fB s (s.size+1) true .zero (gL s i 94)with|fault e=>rw[he]at h1;exact h1.1|ok o j=>have h2:=gu (h1.2 o j he);rw[he]at h1;have h1':gL s i 94<=j/\j<=s.size:=h1.1;exact⟨by omega,by omega⟩
theorem QH(A:Nat->PR bC)(s:ByteArray)(i:Nat)(h:i<=s.size)(hA:∀j,i<j->j<=s.size->(A j).Good s j):(eY A s i).On s i:=by
 unfold eY;split;·exact h
 ·rename_i c hc;have hl:=iy hc;split;·
   have h1:=hA (i+1) (by omega) (by omega);split;·rename_i he;rw[he]at h1;exact h1
   ·rename_i x j he;rw[he]at h1;have h1':i+1<=j/\j<=s.size:=h1;split;·have:=gu (by assumption);exact⟨by omega,by omega⟩
    ·exact h1'.2
  ·split;·exact⟨by omega,by omega⟩
   ·split;·have h1:=ac7 s (i+1) (by omega);split;·rename_i he;rw[he]at h1;exact h1
           ·rename_i o j he;rw[he]at h1;have h1':i+1<j/\j<=s.size:=h1;exact⟨by omega,by omega⟩
    ·split;·exact h
     ·have h1:=mO s i h;split;·rename_i he;rw[he]at h1;exact h1
      ·rename_i o j he;rw[he]at h1;exact h1
theorem Nj(T:dU)(s:ByteArray)(a:bC)(i:Nat)(h:i<=s.size):(gQ T s a i).Good s i:=by
 unfold gQ;have h1:=Ao s i 0 h;split;·rename_i he;rw[he]at h1;exact h1
 ·rename_i lo j he;rw[he]at h1;have h1':i<j/\j<=s.size:=h1;split;·
   have:=gu (by assumption);split;·have:=gu (by assumption);exact⟨by omega,by omega⟩
   ·have h2:=Ao s (j+1) lo (by omega);split;·rename_i CD;rw[CD]at h2;exact h2
    ·rename_i hi k CD;rw[CD]at h2;have h2':j+1<k/\k<=s.size:=h2;split;·have:=gu (by assumption);exact⟨by omega,by omega⟩
     ·exact h2'.2
  ·split;·have:=gu (by assumption);exact⟨by omega,by omega⟩
   ·exact h1'.2
theorem Mk(T:dU)(s:ByteArray)(a:bC)(i:Nat)(h:i<=s.size):(dY T s a i).Good s i:=by
 unfold dY;split;·have:=gu (by assumption);exact⟨by omega,by omega⟩
 ·split;·have:=gu (by assumption);exact⟨by omega,by omega⟩
  ·split;·have:=gu (by assumption);exact⟨by omega,by omega⟩
   ·split;·have:=gu (by assumption);have h1:=Nj T s a (i+1) (by omega);cases he:gQ T s a (i+1)with|fault e=>rw[he]at h1;exact h1|ok x j=>rw[he]at h1;have h1':i+1<=j/\j<=s.size:=h1;exact⟨by omega,by omega⟩
    ·exact⟨au _,h⟩
theorem Bj(T:dU)(A:Nat->PR bC)(s:ByteArray)(i:Nat)(h:i<=s.size)(hA:∀j,i<j->j<=s.size->(A j).Good s j):(gq T A s i).On s i:=by
 unfold gq;have h1:=QH A s i h hA;split;·rename_i he;rw[he]at h1;exact h1
 ·rename_i a j he;rw[he]at h1;have h1':i<j/\j<=s.size:=h1;have h2:=Mk T s a j h1'.2;cases hb:dY T s a j with|fault e=>rw[hb]at h2;exact h2|ok x k=>rw[hb]at h2;have h2':j<=k/\k<=s.size:=h2;exact⟨by omega,by omega⟩
theorem qB(T:dU)(A:Nat->PR bC)(s:ByteArray)(hA:∀j,j<=s.size->(A j).Good s j):∀(f:Nat)(x:bC)(i:Nat),i<=s.size->(fU T A s f x i).Good s i
 |0,_,i,h=>h|f+1,x,i,h=>by
  unfold fU;split;·
   have h1:=Bj T A s i h λj _=>hA j;split;·rename_i he;rw[he]at h1;exact h1
   ·rename_i y j he;rw[he]at h1;have h1':i<j/\j<=s.size:=h1;have ih:=qB T A s hA f (x.join y) j h1'.2;cases hc:fU T A s f (x.join y) j with|fault e=>rw[hc]at ih;exact ih|ok z k=>rw[hc]at ih;have ih':j<=k/\k<=s.size:=ih;exact⟨by omega,by omega⟩
  ·exact⟨au _,h⟩
theorem P7(T:dU)(A:Nat->PR bC)(s:ByteArray)(hA:∀j,j<=s.size->(A j).Good s j):∀(f:Nat)(x:bC)(i:Nat),i<=s.size->(vC T A s f x i).Good s i
 |0,_,i,h=>h|f+1,x,i,h=>by
  unfold vC;split;·
   have hl:=gu (by assumption);have h1:=qB T A s hA (s.size+1) .empty (i+1) (by omega);split;·rename_i he;rw[he]at h1;exact h1
   ·rename_i y j he;rw[he]at h1;have h1':i+1<=j/\j<=s.size:=h1;have ih:=P7 T A s hA f (.or x y) j h1'.2;cases hc:vC T A s f (.or x y) j with|fault e=>rw[hc]at ih;exact ih|ok z k=>rw[hc]at ih;have ih':j<=k/\k<=s.size:=ih;exact⟨by omega,by omega⟩
  ·exact⟨au _,h⟩
theorem nA(T:dU)(s:ByteArray):∀(n i:Nat),i<=s.size->(eP T s n i).Good s i
 |0,i,h=>h|n+1,i,h=>by
  have hA:=nA T s n;unfold eP;have h1:=qB T (eP T s n) s hA (s.size+1) .empty i h;split;·rename_i he;rw[he]at h1;exact h1
  ·rename_i x j he;rw[he]at h1;have h1':i<=j/\j<=s.size:=h1;have h2:=P7 T (eP T s n) s hA (s.size+1) x j h1'.2;cases hc:vC T (eP T s n) s (s.size+1) x j with|fault e=>rw[hc]at h2;exact h2|ok z k=>rw[hc]at h2;have h2':j<=k/\k<=s.size:=h2;exact⟨by omega,by omega⟩
open Go.RowKit
section
variable{P:iX}{ops:Array gV}{S:ak->Prop}{Q:J1->Act->ak->Prop}
def IW(ops:Array gV)(ls:List (Array Bool)):List (Array Bool):=(ls.flatMap λl=>(bZ .any ops l).map λi=>l.setIfInBounds i true).eraseDups
def Qd(ops:Array gV)(F:List Nat)(lF:Array Bool):Nat->List (Array Bool)->Bool|0,ls=>ls.all (·==lF)|k+1,ls=>(ls.all λl=>!(bZ .any ops l).isEmpty&&(bZ .any ops l).all F.contains)&&Qd ops F lF k (IW ops ls)
theorem Hr{x n':Nat}{F:List Nat}{lF:Array Bool}(Inv:Array Bool->Act->ak->Prop)(hstep:∀l a w i,Inv l a w->i∈F->i∈bZ .any ops l->wpOp P ops Q i (λa' w'=>(i≠x->S w')/\Inv (l.setIfInBounds i true) a' w') a w)(hfin:∀a w,Shut ops lF->Inv lF a w->BO P ops Q S x n' lF a w):∀(k:Nat)(ls:List (Array Bool)),Qd ops F lF k ls=true->∀l∈ls,Shut ops l->∀a w,Inv l a w->BO P ops Q S x (n'+k) l a w
 |0,ls,hL,l,hl,hsh,a,w,hI=>by have:=List.all_eq_true.1 hL l hl;rw[beq_iff_eq]at this;subst this;exact hfin a w hsh hI|k+1,ls,hL,l,hl,hsh,a,w,hI=>by
  simp only[Qd,cR]at hL;have h1:=List.all_eq_true.1 hL.1 l hl;simp only[cR,Bool.not_eq_true',List.isEmpty_eq_false_iff]at h1;refine⟨λh0=>absurd h0 h1.1,λi hi=>?_⟩;have hF:i∈F:=by have:=List.all_eq_true.1 h1.2 i hi;simpa using this
  refine wpOp_mono (λa' w' h=>⟨h.1,Hr Inv hstep hfin k (IW ops ls) hL.2 (l.setIfInBounds i true) ?_ (hsh.step hi) a' w' h.2⟩) (hstep l a w i hI hF hi);unfold IW;rw[List.mem_eraseDups];exact List.mem_flatMap.2 ⟨l,hl,List.mem_map.2 ⟨i,hi,rfl⟩⟩
def preB(ops:Array gV):List Nat->Array Bool->Array Bool->Bool|[],listed,l0=>listed==l0|i::rest,listed,l0=>(bZ .any ops listed).contains i&&Region.free .any ops listed i&&preB ops rest (listed.setIfInBounds i true) l0
theorem CS{lo:List gV}{x n:Nat}{l0:Array Bool}(hs:fK lo.toArray=true){Q':J1->Act->ak->Prop}(hp:∀c a w,¬Q' (.panic c) a w):∀(l:List Nat)(listed:Array Bool)(a:Act)(w:ak),Shut lo.toArray listed->(∀q∈l,mV lo.toArray 64 x q=true\/lo.toArray[x]?=none)->preB lo.toArray l listed l0=true->S w->fM P lo S x (λa w=>Shut lo.toArray l0->S w->BO P lo.toArray Q' S x n l0 a w) (l.map λi=>(i,false)) a w->BO P lo.toArray Q' S x (n+l.length) listed a w
 |[],listed,a,w,hsh,_,hB,hS,h=>by simp only[preB,beq_iff_eq]at hB;subst hB;exact h hsh hS|i::rest,listed,a,w,hsh,hl,hB,hS,h=>by
  simp only[preB,cR]at hB;obtain⟨⟨hr,hf⟩,hB'⟩:=hB;have OD:i∈bZ .any lo.toArray listed:=by simpa using hr
  have ih:=CS (x:=x) (n:=n) (l0:=l0) hs hp rest (listed.setIfInBounds i true);rw[dM]at h;unfold fM at h;split at h;·exact h.elim
  ·rename_i o ho;obtain⟨v,hy,hk⟩:=h;have ho':lo.toArray[i]?=some o:=by simpa using ho
   exact CT (hl i bE) ho' hs (λc a w hq=>(hp _ _ _ hq).elim) (n+rest.length) listed a w hsh (Hz ho' hf) OD hy hS (ih _ _ (hsh.step OD) (λq hq=>hl q (bq _ hq)) hB' hS hk)
theorem vO{lo:List gV}{x:Nat}{R R':Act->ak->Prop}(h:∀a w,R a w->R' a w):∀(l:List Nat)(a:Act)(w:ak),fM P lo S x R (l.map λi=>(i,false)) a w->fM P lo S x R' (l.map λi=>(i,false)) a w
 |[],a,w,hh=>h a w hh|i::rest,a,w,hh=>by
  rw[dM]at hh⊢;unfold fM at hh⊢;split at hh;·exact hh.elim
  ·rename_i o ho;obtain⟨v,hy,hk⟩:=hh;exact⟨v,hy,vO h rest _ _ hk⟩
theorem jc{l:Array Bool}{i:Nat}(h:i∈bZ .any ops l)(j:Nat):(l.setIfInBounds i true).getD j false=if j=i then true else l.getD j false:=by
 have h1:=(mem_ready.1 h).1;have hi:i<l.size:=by
  rcases fe i l.size with h'|h';·exact h'
  ·simp[UX h']at h1
 by_cases e:j=i;·subst e;simp[hi]
 ·rw[if_neg e];simp only[lZ];rw[pH (dB e)]
theorem kS{id:Nat}{a:Act}{w:ak}{lo:List gV}(pre:List Nat)(F:List Nat)(k:Nat)(post:List (Nat×Bool))(l0 lF:Array Bool)(x:Nat)(S:ak->Prop)(hm:P.follows .mixedOrders=true)(hs:(fK lo.toArray&&(pre.all λq=>mV lo.toArray 64 x q||(lo.toArray[x]?).isNone)&&(post.all λq=>q.2||mV lo.toArray 64 x q.1||(lo.toArray[x]?).isNone)&&(pre.length+k+post.length==lo.length)&&preB lo.toArray pre (fh lo.length false) l0&&Qd lo.toArray F lF k [l0]&&pL lo.toArray post lF)=true)(hS:S w.drew)(hpre:fM P lo S x (λa w=>S w->∃Inv:Array Bool->Act->ak->Prop,Inv l0 a w/\(∀(l:Array Bool)a w i,Inv l a w->i∈F->i∈bZ .any lo.toArray l->wpOp P lo.toArray (pR Q) i (λa' w'=>(i≠x->S w')/\Inv (l.setIfInBounds i true) a' w') a w)/\∀a w,Inv lF a w->S w/\fM P lo S x (Q .normal) post a w) (pre.map λi=>(i,false)) a w.drew):(AR id lo.toArray true).wp P Q a w:=by
 simp only[cR,beq_iff_eq]at hs;obtain⟨⟨⟨⟨⟨⟨h1,h2⟩,h3⟩,h4⟩,h5⟩,h6⟩,h7⟩:=hs;have h2':∀q∈pre,mV lo.toArray 64 x q=true\/lo.toArray[x]?=none:=λq hq=>by have:=List.all_eq_true.1 h2 q hq;simpa using this
 have h3':∀q∈post,q.2=false->mV lo.toArray 64 x q.1=true\/lo.toArray[x]?=none:=λq hq hf=>by have:=List.all_eq_true.1 h3 q hq;rw[hf]at this;simpa using this
 refine wp_region_noPanic (wp_region_any hm (jq (S:=S) (x:=x) _ _ _ _ ?_));have key:=CS (P:=P) (S:=S) (lo:=lo) (x:=x) (n:=post.length+k) (l0:=l0) h1 (Q':=pR Q) (λ_ _ _ h=>h) pre (fh lo.length false) a w.drew (Bf _) h2' h5 hS ?_;·
  have e:post.length+k+pre.length=lo.length:=by omega
  rw[e]at key;simpa using key
 ·refine vO ?_ pre _ _ hpre;intro a' w' hI hsh Qq;obtain⟨Inv,hI0,hstep,hpost⟩:=hI Qq;exact Hr (P:=P) (Q:=pR Q) (S:=S) (F:=F) (lF:=lF) Inv hstep (λa w hsh hI=>nz (Q:=Q) (Q':=pR Q) h1 (λ_ _ h=>h) (λ_ _ _ h=>h) post lF a w hsh h3' h7 (hpost a w hI).1 (hpost a w hI).2) k [l0] h6 l0 (by simp) hsh a' w' hI0
theorem eO{lo:List gV}{j:Nat}{o:gV}{a:Act}{w:ak}{K0:Act->ak->Prop}(ho:lo[j]?=some o)(hw:gj o (yielded lo.toArray a.tmps)=true)(h:∀K:Act->ak->Prop,Hid (∀a' w',K0 a' w'->K a' w')->o.wp P a w K (pR λ_ _ _=>False)):wpOp P lo.toArray Q j K0 a w:=Gz ho hw (h K0 (ae λ_ _ h=>h))
def vZ(a:Act)(s1 s2 s3 s4:Nat)(v1 v2 v3 v4:ay):Act:=(((a.put (some s1) v1).put (some s2) v2).put (some s3) v3).put (some s4) v4
theorem ag2{lo:List gV}{x:Nat}{F:List Nat}{l0 lF:Array Bool}{post:List (Nat×Bool)}{a0:Act}{w:ak}{S:ak->Prop}(s1 s2 s3 s4:Nat)(T:Array Bool->ay->ay->ay->ay->ak->Prop)(hu:a0=vZ a0 s1 s2 s3 s4 undef undef undef undef)(h0:T l0 undef undef undef undef w)(hstep:∀l v1 v2 v3 v4 w' i,T l v1 v2 v3 v4 w'->i∈F->i∈bZ .any lo.toArray l->wpOp P lo.toArray (pR Q) i (λa' w''=>(i≠x->S w'')/\∃u1 u2 u3 u4,a'=vZ a0 s1 s2 s3 s4 u1 u2 u3 u4/\T (l.setIfInBounds i true) u1 u2 u3 u4 w'') (vZ a0 s1 s2 s3 s4 v1 v2 v3 v4) w')(hend:∀v1 v2 v3 v4 w',T lF v1 v2 v3 v4 w'->S w')(hpost:∀v1 v2 v3 v4 w',T lF v1 v2 v3 v4 w'->∀G:Prop,Hid (fM P lo S x (Q .normal) post (vZ a0 s1 s2 s3 s4 v1 v2 v3 v4) w'->G)->G):∃Inv:Array Bool->Act->ak->Prop,Inv l0 a0 w/\(∀(l:Array Bool)a w i,Inv l a w->i∈F->i∈bZ .any lo.toArray l->wpOp P lo.toArray (pR Q) i (λa' w'=>(i≠x->S w')/\Inv (l.setIfInBounds i true) a' w') a w)/\∀a w,Inv lF a w->S w/\fM P lo S x (Q .normal) post a w:=⟨λl a w'=>∃u1 u2 u3 u4,a=vZ a0 s1 s2 s3 s4 u1 u2 u3 u4/\T l u1 u2 u3 u4 w',⟨undef,undef,undef,undef,hu,h0⟩,λl a w' i h hi hr=>by obtain⟨v1,v2,v3,v4,rfl,hT⟩:=h;exact hstep l v1 v2 v3 v4 w' i hT hi hr,λa w' h=>by obtain⟨v1,v2,v3,v4,rfl,hT⟩:=h;exact⟨hend v1 v2 v3 v4 w' hT,hpost v1 v2 v3 v4 w' hT _ (ae id)⟩⟩
def jX(a:Act):List Nat->List ay->Act|s::ss,v::vs=>jX (a.put (some s) v) ss vs|_,_=>a
theorem ads{lo:List gV}{x:Nat}{F:List Nat}{l0 lF:Array Bool}{post:List (Nat×Bool)}{a0:Act}{w:ak}{S:ak->Prop}(ss:List Nat)(v0:List ay)(T:Array Bool->List ay->ak->Prop)(hu:a0=jX a0 ss v0)(h0:T l0 v0 w)(hstep:∀l vs w' i,T l vs w'->i∈F->i∈bZ .any lo.toArray l->∀G:Prop,Hid (wpOp P lo.toArray (pR Q) i (λa' w''=>(i≠x->S w'')/\∃us,a'=jX a0 ss us/\T (l.setIfInBounds i true) us w'') (jX a0 ss vs) w'->G)->G)(hend:∀vs w',T lF vs w'->S w')(hpost:∀vs w',T lF vs w'->∀G:Prop,Hid (fM P lo S x (Q .normal) post (jX a0 ss vs) w'->G)->G):∃Inv:Array Bool->Act->ak->Prop,Inv l0 a0 w/\(∀(l:Array Bool)a w i,Inv l a w->i∈F->i∈bZ .any lo.toArray l->wpOp P lo.toArray (pR Q) i (λa' w'=>(i≠x->S w')/\Inv (l.setIfInBounds i true) a' w') a w)/\∀a w,Inv lF a w->S w/\fM P lo S x (Q .normal) post a w:=⟨λl a w'=>∃us,a=jX a0 ss us/\T l us w',⟨v0,hu,h0⟩,λl a w' i h hi hr=>by obtain⟨vs,rfl,hT⟩:=h;exact hstep l vs w' i hT hi hr _ (ae id),λa w' h=>by obtain⟨vs,rfl,hT⟩:=h;exact⟨hend vs w' hT,hpost vs w' hT _ (ae id)⟩⟩
end
end Go.Proofs.Ts
