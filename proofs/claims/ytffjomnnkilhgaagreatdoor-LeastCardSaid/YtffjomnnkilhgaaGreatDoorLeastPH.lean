/- Lemmas towards the statement Least of termsearch: walks of the program's functions and plain laws on lists (TlMarksB, TlTurn, TlBuilt, TlBuiltW, TlAsked, TlPair, TlStep, TlScript, TlPlays, TlCard, TlCardW, TsWild, TsMachineW, TlSimple, TlNodes, TsLitP, TlNodesB, TlCount, TlBoth, TlLink, TlPar, TlParB, TlParC, TlAtomR). Conditions: those that each theorem names. -/
import Derived.Test.YtffjomnnkilhgaaGreatDoorLeastPA
import Derived.Test.YtffjomnnkilhgaaGreatDoorLeastPG
import Derived.Deep.Slices
import Derived.SizedLaws
import Derived.DataShut
import Derived.Test.YtffjomnnkilhgaaGreatDoorLeastPF
import Derived.Test.YtffjomnnkilhgaaGreatDoorLeastPE
import Derived.Test.YtffjomnnkilhgaaGreatDoorLeastPD
set_option linter.unusedVariables false
set_option linter.unusedSimpArgs false
set_option linter.unusedSectionVars false
set_option maxRecDepth 100000
set_option maxHeartbeats 32000000
open And renaming intro->aA
open Array renaming getElem?_toList->YG
open Bool renaming false_eq_true->jP,false_or->MN,not_false->jO,or_assoc->aoZ,true_and->gP
open ByteArray renaming size->kR
open Classical renaming byContradiction->dP
open Go renaming Calls->aX,DataW->nG,Ending->rY,Field->awG,MemPlace->AW,Program->iX,TypeId->dx,Value->ay,World->ak
open Go.Addr renaming add->iU
open Go.Calls renaming quiet_of_same->abu
open Go.DataW renaming slice->awH,trod->M8,trod_struct->afO,weights->vM,weightsAll->agB
open Go.IntWalk renaming i64_in->aK
open Go.Lib renaming hid->ae
open Go.Proofs.Tryz renaming func117->asr,func13->awz,func160->asi,func201->UB,func202->UA,func228->yh,func253->gy,ntmps117->aoU,ntmps13->ar2,ntmps160->aoM,ntmps201->Q7,ntmps202->Q6,ntmps228->vH,ntmps253->fR,prog->ah,underlying22->FE,underlying24->sP,underlying34->FD,underlying35->ie,underlying37->vw,underlying9->oM
open Go.RowKit renaming Below->aI
open Go.RowKit.Below renaming heap_setCell->az,refl->aB
open Go.Value renaming bool->mz,cells->Gy,slice->cY
open Go.Value.slice renaming injEq->bA
open Go.World renaming cell?_of_block->fq,cell?_spot->agr,ownsRow_nil->bS
open Int renaming add_sub_cancel->ac1
open List renaming any_append->aj1,drop_succ_cons->abt,drop_zero->Ia,flatMap_cons->Rc,getD_eq_getElem?_getD->aw,getElem?_append->AY,getElem?_eq_getElem->ar,getElem?_map->bp,getElem?_replicate->cu,getElem?_set->fD,getElem_mem->eu,length_append->bh,length_map->jx,length_replicate->bK,length_set->bW,length_singleton->YD,length_take->iu,map_append->cQ,map_set->CZ,mem_append->jM,mem_cons->ql,mem_cons_of_mem->bq,mem_cons_self->bE,mem_singleton->iL,not_mem_nil->tT,replicate->aQ,set_append->Y9,set_cons_succ->ai,set_cons_zero->aj,take_length->dH,take_of_length_le->vJ,take_succ_cons->abp,take_succ_eq_append_getElem->bH,take_zero->acY
open List.cons renaming injEq->fL
open Nat renaming add_comm->asw,eq_zero_or_pos->yj,le_refl->au,le_trans->aZ,lt_irrefl->abo,lt_or_ge->fe,lt_succ_self->rq,not_lt_zero->iB,sub_self->mG,zero_le->aW
open Ne renaming symm->dB
open Option.some renaming inj->aJ
open UInt8 renaming lt_iff_toNat_lt->YB,ofNat->cS,toNat_lt->ia,toNat_ofNat'->M3
namespace Go.Proofs.Tl
open Go Go.RowKit Go.Proofs.Ts
theorem jt{w w':ak}{v:ay}{L:List Int}(h:gh w v L)(hb:∀k,v.ownBlock=some k->w'.heap[k]?=w.heap[k]?):gh w' v L:=aO h hb
theorem Ho{w:ak}{v:ay}{L:List Int}(h:gh w v L){g i:Nat}(hg:v.ownBlock=some g)(c:Int):gh (w.setCell (aD g i) (.int .u8 c)) v (L.set i c):=by have:=Iy (k:=i) h hg (.int .u8 c);unfold gh;rw[bW,CZ];exact this
theorem RY(o:qf)(hf:o.Fits)(wb:Nat)(w:ak)(N:List vq)(xv mv bv nv:ay)(uK:w.heap[wb]?=some (.cells #[xv,mv,bv,nv] 32 (0,0)))(hrow:w.ownsRow 0 67 2 nv N.length (tD N))(hk:o.kind=11)(hN:0<N.length)(OV:N.length<=1000000)(e:vq)(he:N[qE o.a N.length]?=some e)(hr:gh w e.real e.L)(hw:gh w e.want e.L)(hne:∀k,e.real.ownBlock=some k->e.want.ownBlock≠some k)(hl:e.L.length<=1000000):aX ah 20 #[aP wb,MO o] w λe' w'=>e'= .returned (.tuple #[])/\∃L',L'.length=e.L.length/\gh w' e.real L'/\gh w' e.want L'/\Mod (λk=>e.real.ownBlock=some k\/e.want.ownBlock=some k) w w':=by
 obtain⟨kd,oa,ob,oc,qk,qa,qb,qn,dv,docs,os⟩:=o;simp only at hk he;subst hk;obtain⟨g,cap,rfl,c1,c2⟩:=Fb hrow he;obtain⟨rv,wv,L⟩:=e;simp only at c1 c2 hr hw hne hl⊢;obtain⟨ra,rc,rfl⟩:=ownsRow_form hr;obtain⟨va,vc,rfl⟩:=ownsRow_form hw;obtain⟨k,hk0⟩:∃k,k=qE oa N.length:=⟨_,rfl⟩;rw[<-hk0]at he c1 c2;have hkl:=(List.getElem?_eq_some_iff.1 he).1;have hpick:=λW=>wk oa N.length W hf.a ⟨hN,OV⟩;rw[<-hk0]at hpick;have MB:=ae hpick;obtain⟨W,hW⟩:∃W,W=w.alloc (.cells (qf.mk 11 oa ob oc qk qa qb qn dv docs os).cells 37):=⟨_,rfl⟩;have hB:aI w.heap.size w W:=by rw[hW];exact(aB w.heap.size w).alloc (au _) _
 have hop:W.heap[w.heap.size]?=some (.cells (qf.mk 11 oa ob oc qk qa qb qn dv docs os).cells 37 (0,0)):=by rw[hW];exact heap_alloc_new w _
 have EF:=(hB.block wb (lt_of_heap uK)).trans uK;have d1:=(hB.cell (p:=(aD g (2*k))) (lt_of_cell c1)).trans c1;have d2:=(hB.cell (p:=(aD g (2*k+1))) (lt_of_cell c2)).trans c2;have BW:=ae (jt hr λk e=>hB.block k (hr.lt k e).2);have tH:=ae (jt hw λk e=>hB.block k (hw.lt k e).2);have z2:k*2=2*k:=by omega
 have zi:(0:Int)<=(k:Int)/\(k:Int)<(N.length:Int):=by omega
 have h2:W.cell? (aD wb 3)=some (sL g N.length cap):=aq EF;have p0:W.cell? (aD w.heap.size 0)=some (iV 11):=aq hop;have p1:W.cell? (aD w.heap.size 1)=some (iV oa):=aq hop;have p2:W.cell? (aD w.heap.size 2)=some (iV ob):=aq hop;have p3:W.cell? (aD w.heap.size 3)=some (iV oc):=aq hop;have hgN:decide ((0:Int)<(N.length:Int))=true:=decide_eq_true (by omega);have HB:=ae hB;have JO:=ae hne;have afa:=ae EF;have Yc:=ae (aO hrow λk e=>hB.block k (hrow.lt k e).2);have HOP:=ae hop;have HF:=ae hf;clear uK EF hrow hr hw hne hop hB c1 c2 hk0 hpick he hf;unfold aP MO qf.cells dC at*;simp only at hW HF⊢;go_enter Tryz.func20,Tryz.ntmps20;go_upto_region 1 with fail;rw[<-hW];clear hW;go_upto_region 9 with fail;go_quiet((go_at_call 21;exact abu (MB _)));have HS:=ae (Same.drewN W nq);by_cases hl0:L.length=0;·rw[hl0]at d1 d2;go_wp2_with fail;refine bodyPost_end (results_none rfl _ _ _) rfl ?_;obtain rfl:L=[]:=List.eq_nil_of_length_eq_zero hl0;exact⟨rfl,jt BW (λk _=>rfl),jt tH (λk _=>rfl),(fo HB).trans (Mod.same HS)⟩
 ·have hgL:=decide_eq_true (by omega);obtain⟨i,hi0⟩:∃i,i=qE ob L.length:=⟨_,rfl⟩;have hil:i<L.length:=by rw[hi0];exact wm _ (by omega)
  have yR:=λW=>wk ob L.length W HF.b ⟨by omega,by omega⟩;rw[<-hi0]at yR;have PJ:=ae yR;clear yR hi0;obtain⟨ga,cpa,ea,O9,fa0⟩:=BW.cellAt hil;simp only[bA]at ea;obtain⟨rfl,_,rfl⟩:=ea;obtain⟨gb,cpb,eb,XH,fb0⟩:=tH.cellAt hil;simp only[bA]at eb;obtain⟨rfl,_,rfl⟩:=eb;have zj:(0:Int)<=(i:Int)/\(i:Int)<(L.length:Int):=by omega
  have T8:ga≠gb:=λh=>JO ga rfl (by rw[h];rfl);generalize L.getD i 0=Av at*;go_upto_region 13 with(go_at_call 21;refine(PJ _).mono ?_;rintro e w'⟨rfl,rfl⟩);have tI:Hid (gh (W.drewN nq) (sL ga L.length rc) L):=ae (jt BW λk _=>rfl);have vh:Hid (gh (W.drewN nq) (sL gb L.length vc) L):=ae (jt tH λk _=>rfl);have MD:Hid (Mod (λk=>(cY (some (aD ga 0)) L.length rc).ownBlock=some k\/(cY (some (aD gb 0)) L.length vc).ownBlock=some k) w (W.drewN nq)):=ae ((fo HB).trans (Mod.same HS));have HH2:Hid ((W.drewN nq).heap=W.heap):=ae rfl;have k0:(W.drewN nq).cell? (aD wb 3)=some (sL g N.length cap):=h2;have k1:(W.drewN nq).cell? (aD g (2*k))=some (sL ga L.length rc):=d1;have k2:(W.drewN nq).cell? (aD w.heap.size 3)=some (iV oc):=p3;have k3:(W.drewN nq).cell? (aD ga i)=some (.int .u8 Av):=O9;have k4:(W.drewN nq).frozen? (aD ga i)=false:=fa0;have k5:(W.drewN nq).cell? (aD g (2*k+1))=some (sL gb L.length vc):=d2;have k6:(W.drewN nq).cell? (aD gb i)=some (.int .u8 Av):=XH;have k7:(W.drewN nq).frozen? (aD gb i)=false:=fb0;have t1:ga≠wb:=λh=>by subst h;have:=cz BW rfl afa;revert this;decide
  have t2:ga≠w.heap.size:=λh=>by subst h;have:=cz BW rfl HOP;revert this;decide
  have t4:gb≠w.heap.size:=λh=>by subst h;have:=cz tH rfl HOP;revert this;decide
  have k8:(W.drewN nq).cell? (aD w.heap.size 0)=some (iV 11):=p0;have t3:ga≠g:=λh=>by subst h;obtain⟨cur,qP⟩:=ct Yc rfl;have:=cz BW rfl qP;revert this;decide
  generalize W.drewN nq=W2 at*;clear h2 d1 d2 p0 p1 p2 p3 O9 XH fa0 fb0;refine bB [(0,false),(1,false),(2,false),(3,false),(4,false),(5,false),(6,false),(7,false),(8,false),(9,false),(10,false),(11,false),(12,false),(13,true)] 13 (λw'=>w'.cell? (aD wb 3)=some (sL g N.length cap)/\w'.cell? (aD g (2*k))=some (sL ga L.length rc)/\w'.cell? (aD w.heap.size 3)=some (iV oc)) (by kernel_rfl) (by kernel_rfl) ⟨k0,k1,k2⟩ ?_;iterate 13(
 refine aR ?_ rfl rfl (λw' hS=>?_) ?_;rotate_left;·obtain⟨f0,f1,f2⟩:=hS;go_simp;try rfl
 simp only[aN,ai,aj])
  refine cO rfl rfl (λK hK=>?_);have HK:=ae hK;clear hK;go_simp;refine HK _ _ ?_;clear HK K;have M0:=ae (show Mod (λk=>(cY (some (aD ga 0)) L.length rc).ownBlock=some k\/(cY (some (aD gb 0)) L.length vc).ownBlock=some k) w (W2.setCell (aD ga i) (.int .u8 (IntKind.u8.wrap oc))).drew from(MD.trans (Mod.setCell W2 (aD ga i) (.int .u8 (IntKind.u8.wrap oc)) λ_=> .inl rfl)).trans (Mod.same (Same.drew (W2.setCell (aD ga i) (.int .u8 (IntKind.u8.wrap oc))))));have hr3:gh (W2.setCell (aD ga i) (.int .u8 (IntKind.u8.wrap oc))).drew (sL ga L.length rc) (L.set i (IntKind.u8.wrap oc)):=by have:=Ho (i:=i) tI (g:=ga) rfl (IntKind.u8.wrap oc);exact jt this λk _=>rfl
  have iO:∀(b j:Nat),b≠ga->(W2.setCell (aD ga i) (.int .u8 (IntKind.u8.wrap oc))).drew.heap[b]?=W2.heap[b]?:=λb j hb=>az W2 _ _ b hb;have CU:=ae (show gh (W2.setCell (aD ga i) (.int .u8 (IntKind.u8.wrap oc))).drew (sL gb L.length vc) L from jt vh λk e=>iO k 0 (λh=>T8 ((aJ e).trans h).symm));have tA:∀b j v,b≠ga->W2.cell? (aD b j)=some v->(W2.setCell (aD ga i) (.int .u8 (IntKind.u8.wrap oc))).drew.cell? (aD b j)=some v:=λb j v hb hv=>(fq (a:=(aD b j)) (iO b j hb)).trans hv;have l0:=tA _ _ _ (dB t1) k0;have l2:=tA _ _ _ (dB t2) k2;have l8:=tA _ _ _ (dB t2) k8;have l5:=tA _ _ _ (dB t3) k5;have l6:=tA _ _ _ (dB T8) k6;have l7:(W2.setCell (aD ga i) (.int .u8 (IntKind.u8.wrap oc))).drew.frozen? (aD gb i)=false:=(World.frozen?_of_block (a:=(aD gb i)) (iO gb i (dB T8))).trans k7;have Ui:=ae hr3;clear hr3 iO tA k8 k0 k1 k2 k3 k4 k5 k6 k7 tI vh MD HH2;generalize(W2.setCell (aD ga i) (.int .u8 (IntKind.u8.wrap oc))).drew=W3 at*;go_upto_region 14 with fail;refine bB [(0,false),(1,false),(2,false),(3,false),(4,false),(5,false),(6,false),(7,false),(8,false),(9,false),(10,false),(11,false),(12,false),(13,true)] 13 (λw'=>w'.cell? (aD wb 3)=some (sL g N.length cap)/\w'.cell? (aD g (2*k+1))=some (sL gb L.length vc)/\w'.cell? (aD w.heap.size 3)=some (iV oc)) (by kernel_rfl) (by kernel_rfl) ⟨l0,l5,l2⟩ ?_;iterate 13(
 refine aR ?_ rfl rfl (λw' hS=>?_) ?_;rotate_left;·obtain⟨f0,f1,f2⟩:=hS;go_simp;try rfl
 simp only[aN,ai,aj])
  refine cO rfl rfl (λK hK=>?_);have HK:=ae hK;clear hK;go_simp;refine HK _ _ ?_;clear HK K;have HM4:=ae (show Mod (λk=>(cY (some (aD ga 0)) L.length rc).ownBlock=some k\/(cY (some (aD gb 0)) L.length vc).ownBlock=some k) w (W3.setCell (aD gb i) (.int .u8 (IntKind.u8.wrap oc))).drew from(M0.trans (Mod.setCell W3 (aD gb i) (.int .u8 (IntKind.u8.wrap oc)) λ_=> .inr rfl)).trans (Mod.same (Same.drew (W3.setCell (aD gb i) (.int .u8 (IntKind.u8.wrap oc))))));have hw4:gh (W3.setCell (aD gb i) (.int .u8 (IntKind.u8.wrap oc))).drew (sL gb L.length vc) (L.set i (IntKind.u8.wrap oc)):=by have:=Ho (i:=i) CU (g:=gb) rfl (IntKind.u8.wrap oc);exact jt this λk _=>rfl
  have hr4:gh (W3.setCell (aD gb i) (.int .u8 (IntKind.u8.wrap oc))).drew (sL ga L.length rc) (L.set i (IntKind.u8.wrap oc)):=by have hll:(cY (some (aD ga 0)) L.length rc).ownBlock=some ga:=rfl;exact jt Ui λk e=>(az W3 _ _ k (λh=>T8 ((aJ (hll.symm.trans e)).trans h)))
  have l8:(W3.setCell (aD gb i) (.int .u8 (IntKind.u8.wrap oc))).drew.cell? (aD w.heap.size 0)=some (iV 11):=(fq (a:=(aD w.heap.size 0)) (az W3 (aD gb i) _ _ (dB t4))).trans l8;have PI:=ae hr4;have HW4:=ae hw4;clear hr4 hw4 l0 l2 l5 l6 l7 M0 Ui CU;generalize(W3.setCell (aD gb i) (.int .u8 (IntKind.u8.wrap oc))).drew=W4 at*;go_wp2_with fail;refine bodyPost_end (results_none rfl _ _ _) rfl ?_;exact⟨rfl,L.set i (IntKind.u8.wrap oc),by simp,PI.out,HW4.out,HM4.out⟩
theorem zS:∀(N:List vg)(i:Nat)(e:vg)(L:List Int),N[i]?=some e->numCells (N.set i {e with L:=L})=numCells N|[],i,e,L,h=>by simp at h|a::N,0,e,L,h=>by simp at h;subst h;rfl|a::N,i+1,e,L,h=>by have ih:=zS N i e L (by simpa using h);unfold numCells at*;simp only[ai,Rc,ih]
theorem Aw:∀(N:List vq)(i:Nat)(e:vq)(L:List Int),N[i]?=some e->tD (N.set i {e with L:=L})=tD N|[],i,e,L,h=>by simp at h|a::N,0,e,L,h=>by simp at h;subst h;rfl|a::N,i+1,e,L,h=>by have ih:=Aw N i e L (by simpa using h);unfold tD at*;simp only[ai,Rc,ih]
section
variable{w w':ak}{own:Nat->Option Tag}{wb:Nat}{S:List Fp}{N:List vg}{Bs:List vq}{Env:ak->Prop}
theorem lu.num(h:lu w own wb S N Bs Env){i:Nat}{e:vg}(he:N[i]?=some e){L':List Int}(hl:L'.length=e.L.length)(hr:fV w' e.real L')(hw:fV w' e.want L')(hm:Mod (λk=>e.real.ownBlock=some k\/e.want.ownBlock=some k) w w'):∃fF,lu w' fF wb S (N.set i {e with L:=L'}) Bs Env:=by
 have ho:=h.nums i e he;have hil:=(List.getElem?_eq_some_iff.1 he).1;have Ge:¬Fix 3:=by decide
 obtain⟨fF,hs,ht,hn⟩:=Step.make (T:=λt=>t= .real i\/t= .want i) (w:=w) (w':=w') (own:=own) h.dom hm.size (iOq.mod hm) (λk hk hno=>hm.block k hk λhc=>by
  rcases hc with hc|hc;·exact hno _ (ho.Ej k hc) (.inl rfl)
  ·exact hno _ (ho.Bc k hc) (.inr rfl)) (λk=>if e.want.ownBlock=some k then 1 else 0) [(.real i,e.real.ownBlock,0),(.want i,e.want.ownBlock,1)] (λp hp k hk=>by
  rcases List.mem_cons.1 hp with rfl|hp;·have hrt:=ho.Ej k hk;refine⟨.inr ⟨hrt,.inl rfl⟩,(hr.lt k hk).2,pz.row hr Ge hk,if_neg λhc=>?_⟩;have:=ho.Bc k hc;rw[hrt]at this;cases this
  ·obtain rfl:=List.mem_singleton.1 hp;exact⟨.inr ⟨ho.Bc k hk,.inr rfl⟩,(hw.lt k hk).2,pz.row hw Ge hk,if_pos hk⟩) (by simp);obtain⟨xv,mv,nv,bv,h1,h2,h3,h4,h5⟩:=h.uK;refine⟨fF,hs.dom,hs.Ky h.soft,hs.box h.env,(hs.keep _ _ h.tag (by simp)).1,⟨xv,mv,nv,bv,(hs.keep _ _ h.tag (by simp)).2.trans h1,h2.step hs (by simp),h3.step hs (by simp),?_,h5.step hs (by simp)⟩,λj f hj=>(h.NJ j f hj).step hs h.soft (by simp) (by simp),λj f hj=>?_,λj f hj=>(h.Gp j f hj).step hs (by simp) (by simp)⟩;·rw[bW,zS N i e L' he];exact h4.step hs (by simp)
 ·rw[fD]at hj;split at hj;·rename_i hij;subst hij;cases hj;exact⟨hr,hw,λk hk=>ht _ bE k hk,λk hk=>ht _ (bq _ bE) k hk,by simp only;rw[hl];exact ho.few⟩
  ·rename_i hij;exact(h.nums j f hj).step hs (by simp;omega) (by simp;omega)
theorem lu.byt(h:lu w own wb S N Bs Env){i:Nat}{e:vq}(he:Bs[i]?=some e){L':List Int}(hl:L'.length=e.L.length)(hr:gh w' e.real L')(hw:gh w' e.want L')(hm:Mod (λk=>e.real.ownBlock=some k\/e.want.ownBlock=some k) w w'):∃fF,lu w' fF wb S N (Bs.set i {e with L:=L'}) Env:=by
 have ho:=h.Gp i e he;have hil:=(List.getElem?_eq_some_iff.1 he).1;have Ge:¬Fix 5:=by decide
 obtain⟨fF,hs,ht,hn⟩:=Step.make (T:=λt=>t= .QE i\/t= .QD i) (w:=w) (w':=w') (own:=own) h.dom hm.size (iOq.mod hm) (λk hk hno=>hm.block k hk λhc=>by
  rcases hc with hc|hc;·exact hno _ (ho.Ej k hc) (.inl rfl)
  ·exact hno _ (ho.Bc k hc) (.inr rfl)) (λk=>if e.want.ownBlock=some k then 1 else 0) [(.QE i,e.real.ownBlock,0),(.QD i,e.want.ownBlock,1)] (λp hp k hk=>by
  rcases List.mem_cons.1 hp with rfl|hp;·have hrt:=ho.Ej k hk;refine⟨.inr ⟨hrt,.inl rfl⟩,(hr.lt k hk).2,pz.row hr Ge hk,if_neg λhc=>?_⟩;have:=ho.Bc k hc;rw[hrt]at this;cases this
  ·obtain rfl:=List.mem_singleton.1 hp;exact⟨.inr ⟨ho.Bc k hk,.inr rfl⟩,(hw.lt k hk).2,pz.row hw Ge hk,if_pos hk⟩) (by simp);obtain⟨xv,mv,nv,bv,h1,h2,h3,h4,h5⟩:=h.uK;refine⟨fF,hs.dom,hs.Ky h.soft,hs.box h.env,(hs.keep _ _ h.tag (by simp)).1,⟨xv,mv,nv,bv,(hs.keep _ _ h.tag (by simp)).2.trans h1,h2.step hs (by simp),h3.step hs (by simp),h4.step hs (by simp),?_⟩,λj f hj=>(h.NJ j f hj).step hs h.soft (by simp) (by simp),λj f hj=>(h.nums j f hj).step hs (by simp) (by simp),λj f hj=>?_⟩;·rw[bW,Aw Bs i e L' he];exact h5.step hs (by simp)
 ·rw[fD]at hj;split at hj;·rename_i hij;subst hij;cases hj;exact⟨hr,hw,λk hk=>ht _ bE k hk,λk hk=>ht _ (bq _ bE) k hk,by simp only;rw[hl];exact ho.few⟩
  ·rename_i hij;exact(h.Gp j f hj).step hs (by simp;omega) (by simp;omega)
end
theorem IY(o:qf)(hf:o.Fits)(n wb:Nat)(Env:ak->Prop)(w:ak)(h:gw n w wb Env)(hn:n<=1000000):aX ah 20 #[aP wb,MO o] w λe w'=>e= .returned (.tuple #[])/\gw n w' wb Env:=by
 obtain⟨own,S,N,Bs,h1,h2,h3,h4⟩:=h;obtain⟨xv,mv,nv,bv,k1,k2,k3,k4,k5⟩:=h4.uK;obtain⟨na,nc,rfl⟩:=ownsRow_form k4.1;obtain⟨ba,bc,rfl⟩:=ownsRow_form k5.1;by_cases c10:o.kind=10/\0<N.length;·
  have hl:=wm o.a c10.2;obtain⟨e,he⟩:∃e,N[qE o.a N.length]?=some e:=⟨_,ar hl⟩;have ho:=h4.nums _ e he;refine(RX o hf wb w N xv mv _ _ k1 k4.1 c10.1 c10.2 (by omega) e he ho.real ho.want (λk a b=>?_) ho.few).mono ?_;·have h1:=ho.Ej k a;rw[ho.Bc k b]at h1;cases h1
  ·rintro e' w'⟨rfl,L',g1,g2,g3,g4⟩;obtain⟨fF,h5⟩:=h4.num he g1 g2 g3 g4;exact⟨rfl,fF,S,_,Bs,h1,by simpa using h2,h3,h5⟩
 ·by_cases c11:o.kind=11/\0<Bs.length;·
   have hl:=wm o.a c11.2;obtain⟨e,he⟩:∃e,Bs[qE o.a Bs.length]?=some e:=⟨_,ar hl⟩;have ho:=h4.Gp _ e he;refine(RY o hf wb w Bs xv mv _ _ k1 k5.1 c11.1 c11.2 (by omega) e he ho.real ho.want (λk a b=>?_) ho.few).mono ?_;·have h1:=ho.Ej k a;rw[ho.Bc k b]at h1;cases h1
   ·rintro e' w'⟨rfl,L',g1,g2,g3,g4⟩;obtain⟨fF,h5⟩:=h4.byt he g1 g2 g3 g4;exact⟨rfl,fF,S,N,_,h1,h2,by simpa using h3,h5⟩
  ·refine(Og o wb w N.length Bs.length xv mv na ba nc bc k1 (λh=>?_) (λh=>?_)).mono ?_;·
    rcases yj N.length with h0|h0;·exact h0
    ·exact absurd ⟨h,h0⟩ c10
   ·rcases yj Bs.length with h0|h0;·exact h0
    ·exact absurd ⟨h,h0⟩ c11
   ·rintro e' w'⟨rfl,hb⟩;obtain⟨fF,h5⟩:=h4.below hb;exact⟨rfl,fF,S,N,Bs,h1,h2,h3,h5⟩
theorem Ix{B:Nat}{w w':ak}{V:ay}{D:List DS}(h:Ts.RowsIn B w V D)(hk:∀(k:Nat)cs t r,w.heap[k]?=some (.cells cs t r)->Fix t->w'.heap[k]?=w.heap[k]?):Ts.RowsIn B w' V D:=⟨bT h.row λk cs r hk'=>hk _ _ _ _ hk' (by decide),h.past,λi s hi=>bT (h.jw i s hi) λk cs r hk'=>hk _ _ _ _ hk' (by decide),h.uP,h.apart,h.lX⟩
theorem O3{w w':ak}{db:Nat}{R:Nat->Prop}{Λ:Nat->List fJ}{ρ:Nat->Nat}{D:List DS}(h:mM w db R Λ ρ D)(hk:∀(k:Nat)cs t r,w.heap[k]?=some (.cells cs t r)->Fix t->w'.heap[k]?=w.heap[k]?):mM w' db R Λ ρ D:=by obtain⟨V,h1,h2⟩:=h.mem;exact⟨⟨V,(hk _ _ _ _ h1 (by decide)).trans h1,Ix h2 hk⟩,h.root,h.state⟩
theorem Ox{B C:Nat}{w:ak}{mb:Nat}{D:List (List (List UInt8))}(h:uD B w mb D)(hb:C<=B):uD C w mb D:=by obtain⟨T,h1,h2,h3⟩:=h;obtain⟨tv,pv,ps,a1,a2,a3,a4,a5,a6,a7⟩:=h3.ex;exact⟨T,h1,h2,aZ hb h3.le,tv,pv,ps,a1,a2,λk e=>aZ hb (a3 k e),a4,λk e=>aZ hb (a5 k e),λi v x hv hx=>⟨(a6 i v x hv hx).1,λk e=>aZ hb ((a6 i v x hv hx).2 k e)⟩,a7⟩
theorem Ow{B:Nat}{w w':ak}{mb:Nat}{D:List (List (List UInt8))}(h:uD B w mb D)(hk:∀k,B<=k->k<w.heap.size->w'.heap[k]?=w.heap[k]?):uD B w' mb D:=by obtain⟨T,h1,h2,h3⟩:=h;exact⟨T,h1,h2,h3.kept hk⟩
section
variable{w w1 w2 w3:ak}{own:Nat->Option Tag}{wb:Nat}{S:List Fp}{N:List vg}{Bs:List vq}{Env:ak->Prop}
theorem lu.joined(h:lu w own wb S N Bs Env){sb mb:Nat}{D:List (List (List UInt8))}{xv mv nv bv TU TW:ay}(uK:w.heap[wb]?=some (.cells #[xv,mv,nv,bv] 32 (0,0)))(hb1:aI w.heap.size w w1)(rM:w.heap.size<=sb)(hseg:sG w.heap.size w1 sb D (.map none))(hb2:aI w1.heap.size w1 w2)(aam:uD w1.heap.size w2 mb D)(hD:D.length<=48)(Z4:w3.heap[wb]?=some (.cells #[TU,TW,nv,bv] 32 (0,0)))(hx3:w3.ownsRow 0 49 1 TU (S.length+1) ((S.map λe=>aP e.sb)++[aP sb]))(hxp:∀k,TU.ownBlock=some k->xv.ownBlock=some k\/w2.heap.size<=k)(ur:w3.ownsRow 0 50 1 TW (S.length+1) ((S.map λe=>aP e.mb)++[aP mb]))(hmp:∀k,TW.ownBlock=some k->mv.ownBlock=some k\/w2.heap.size<=k)(hm:Mod (λk=>k=wb\/xv.ownBlock=some k\/mv.ownBlock=some k) w2 w3):∃fF,lu w3 fF wb (S++[⟨sb,mb,D,.map none⟩]) N Bs Env:=by
 obtain⟨xv0,mv0,nv0,bv0,k1,k2,k3,k4,k5⟩:=h.uK;rw[uK]at k1;cases k1;have hz1:=hb1.size;have hz2:=hb2.size;have hz3:=hm.size;have hwb:=lt_of_heap uK;have old:∀k,k<w.heap.size->own k=some .uK\/own k=some .xs\/own k=some .ms\/w3.heap[k]?=w.heap[k]?:=λk hk=>by
  by_cases hc:k=wb\/xv.ownBlock=some k\/mv.ownBlock=some k;·
   rcases hc with rfl|hc|hc;·exact .inl h.tag
   ·exact .inr (.inl (k2.2 k hc))
   ·exact .inr (.inr (.inl (k3.2 k hc)))
  ·exact .inr (.inr (.inr ((hm.block k (by omega) hc).trans ((hb2.block k (by omega)).trans (hb1.block k hk)))))
 have nw:∀k,w.heap.size<=k->k<w2.heap.size->w3.heap[k]?=w2.heap[k]?:=λk hk hk2=>hm.block k hk2 λhc=>by
  rcases hc with rfl|hc|hc;·omega
  ·have:=(k2.1.lt k hc).2;omega
  ·have:=(k3.1.lt k hc).2;omega
 obtain⟨db,R,Λ,ρ,Dd,pv,ps,amL,Aa⟩:=id hseg;have ahj:=lt_of_heap Aa.1;have WD:w3.heap[sb]?=some (Iu D.length db pv 0 (.map none)):=(nw sb rM (by omega)).trans ((hb2.block sb ahj).trans Aa.1);obtain⟨fF,hs,ht,hn⟩:=Step.make (T:=λt=>t= .uK\/t= .xs\/t= .ms) (w:=w) (w':=w3) (own:=own) h.dom (by omega) (((iOq.below hb1).trans (iOq.below hb2)).trans (iOq.mod hm)) (λk hk hno=>by
  rcases old k hk with hc|hc|hc|hc;·exact absurd (.inl rfl) (hno _ hc)
  ·exact absurd (.inr (.inl rfl)) (hno _ hc)
  ·exact absurd (.inr (.inr rfl)) (hno _ hc)
  ·exact hc) (Zl w3) [(.uK,some wb,32+1),(.xs,TU.ownBlock,49+1),(.ms,TW.ownBlock,50+1),(.seg S.length,some sb,168+1)] (λp hp k hk=>by
  simp only[ql,tT,or_false]at hp;rcases hp with rfl|rfl|rfl|rfl;·cases hk;exact⟨.inr ⟨h.tag,.inl rfl⟩,lt_of_heap Z4,pz.cells Z4 (by decide),yA Z4⟩
  ·refine⟨?_,(hx3.lt k hk).2,pz.row hx3 (by decide) hk,Ki hx3 hk⟩;rcases hxp k hk with hc|hc;·exact .inr ⟨k2.2 k hc,.inr (.inl rfl)⟩
   ·exact .inl (by omega)
  ·refine⟨?_,(ur.lt k hk).2,pz.row ur (by decide) hk,Ki ur hk⟩;rcases hmp k hk with hc|hc;·exact .inr ⟨k3.2 k hc,.inr (.inr rfl)⟩
   ·exact .inl (by omega)
  ·cases hk;exact⟨.inl rM,lt_of_heap WD,pz.cells WD (by decide),yA WD⟩) (by simp);have tg:∀p∈[(Tag.uK,some wb,32+1),(.xs,TU.ownBlock,49+1),(.ms,TW.ownBlock,50+1),(.seg S.length,some sb,168+1)],∀k,p.2.1=some k->fF k=some p.1:=ht;have fresh:∀k,w.heap.size<=k->fF k≠none->k=sb\/w2.heap.size<=k:=λk hk hc=>by
  rcases hn k hc with⟨t,h1,_⟩|⟨p,hp,hpk⟩;·have:=h.dom k (by rw[h1];simp);omega
  ·simp only[ql,tT,or_false]at hp;rcases hp with rfl|rfl|rfl|rfl;·cases hpk;omega
   ·rcases hxp k hpk with hc|hc;·have:=(k2.1.lt k hc).2;omega
    ·exact .inr hc
   ·rcases hmp k hpk with hc|hc;·have:=(k3.1.lt k hc).2;omega
    ·exact .inr hc
   ·cases hpk;exact .inl rfl
 have abJ:=hs.Ky h.soft;refine⟨fF,hs.dom,abJ,hs.box h.env,tg _ bE wb rfl,⟨TU,TW,nv,bv,Z4,⟨?_,λk hk=>tg (.xs,TU.ownBlock,49+1) (by simp) k hk⟩,⟨?_,λk hk=>tg (.ms,TW.ownBlock,50+1) (by simp) k hk⟩,k4.step hs (by simp),k5.step hs (by simp)⟩,λj f hj=>?_,λj f hj=>(h.nums j f hj).step hs (by simp) (by simp),λj f hj=>(h.Gp j f hj).step hs (by simp) (by simp)⟩;·rw[bh,YD,cQ];exact hx3
 ·rw[bh,YD,cQ];exact ur
 ·rcases fe j S.length with hjl|hjl;·rw[List.getElem?_append_left hjl]at hj;exact(h.NJ j f hj).step hs h.soft (by simp) (by simp)
  ·rw[List.getElem?_append_right hjl]at hj;have hj0:j-S.length=0:=by have:=(List.getElem?_eq_some_iff.1 hj).1;simp at this;omega
   rw[hj0]at hj;cases hj;obtain rfl:j=S.length:=by omega
   have still:∀W,q8 (Mut fF) w3 W->∀(k:Nat)cs t r,w1.heap[k]?=some (.cells cs t r)->Fix t\/(w.heap.size<=k/\k≠sb)->W.heap[k]?=w1.heap[k]?:=λW hW k cs t r hk hc=>by
    have hk1:=lt_of_heap hk;have h12:=hb2.block k hk1;have hno:fF k=none:=dP λhno=>by
     rcases hc with hc|⟨hc,hc2⟩;·
      refine abJ k hno cs t r ?_ hc;rcases fe k w.heap.size with YM|YM;·
       have hw:w.heap[k]?=some (.cells cs t r):=(hb1.block k YM).symm.trans hk;rcases old k YM with ho|ho|ho|ho;·exact absurd hc (h.soft k (by rw[ho];simp) _ _ _ hw)
       ·exact absurd hc (h.soft k (by rw[ho];simp) _ _ _ hw)
       ·exact absurd hc (h.soft k (by rw[ho];simp) _ _ _ hw)
       ·exact ho.trans hw
      ·exact(nw k YM (by omega)).trans (h12.trans hk)
     ·rcases fresh k hc hno with h'|h';·exact hc2 h'
      ·omega
    have h23:w3.heap[k]?=w2.heap[k]?:=by
     rcases fe k w.heap.size with YM|YM;·
      have rC:own k=none:=by cases ho:own k with
       |none=>rfl|some t0=>
        have hw:w.heap[k]?=some (.cells cs t r):=(hb1.block k YM).symm.trans hk;rcases hc with hc|hc;·exact absurd hc (h.soft k (by rw[ho];simp) _ _ _ hw)
        ·omega
      have:=(hs.rest k YM rC).1;exact this.trans ((hb1.block k YM).symm.trans h12.symm)
     ·exact nw k YM (by omega)
    exact(hW.block k (by omega) (λhm=>hm hno)).trans (h23.trans h12)
   refine⟨⟨db,R,Λ,ρ,Dd,pv,ps,WD,λW hW=>?_⟩,tg (.seg S.length,some sb,168+1) (by simp) sb rfl,(λk hk=>by cases hk),.inl rfl,λW hW=>?_,hD⟩;·obtain⟨_,h2,h3,h4,h5,h6,h7,h8⟩:=Aa;refine⟨O3 h2 λk cs t r hk hf=>still W hW k cs t r hk (.inl hf),h3,h4,h5,h6,bT h7 λk cs r hk=>still W hW k cs _ r hk (.inl (by decide)),λi v x hv hx=>?_⟩;have h9:=h8 i v x hv hx;refine aO h9 λk hk=>?_;obtain⟨cur,qP⟩:=ct h9 hk;refine still W hW k _ _ _ qP (.inr ⟨amL v (List.mem_of_getElem? hv) k hk,λe=>?_⟩);subst e;have:=WD;rw[(nw k rM (by omega)).trans ((hb2.block k ahj)),qP]at this;cases this
   ·refine Ox (Ow aam λk hk hk2=>?_) (aW _);have hno:fF k=none:=dP λhno=>by
     rcases fresh k (by omega) hno with h'|h';·omega
     ·omega
    exact(hW.block k (by omega) (λhm=>hm hno)).trans (nw k (by omega) hk2)
end
structure CW (w:ak):Prop where
 err:ErrAt w
 bits:eN w
 tabs:Fk w
theorem Ns{w w':ak}{v:ay}{docs:List ByteArray}(h:jU w v docs)(hb:aI w.heap.size w w'):jU w' v docs:=by obtain⟨a,cap,rfl,hc⟩:=h;refine⟨a,cap,rfl,λi hi=>?_⟩;obtain⟨b,off,e,hcell⟩:=hc i hi;exact⟨b,off,e,(hb.cell (p:=(aD b (off+i))) (lt_of_cell hcell)).trans hcell⟩
theorem Jw(docs:List ByteArray)(dv:ay)(n wb:Nat)(Env:ak->Prop)(w:ak)(h:gw n w wb Env)(hn:n<=1000000)(hE:ErrAt w)(hd:jU w dv docs)(hl:docs.length<=1000000):aX ah 15 #[aP wb,dv] w λe w'=>e= .returned (.bool true)/\gw (n+1) w' wb Env:=by
 have HPB:=ae (Es docs dv w hd hl hE.1);have HRB:=ae (λW hW=>ID docs dv W hW hl);have HP:=ae h;have HD:=ae hd;clear h hd;obtain⟨bn,hbn⟩:∃bn,bn=eX docs:=⟨_,rfl⟩;have Um:=ae hbn;clear hbn;unfold aP;go_enter Tryz.func15,Tryz.ntmps15;go_upto_region 2 with(go_at_call 34;refine HPB.mono ?_;rintro e w1⟨hb1,sv,ev,rfl,hbu⟩;have jG:=ae hb1;have HBU:=ae hbu;rw[<-Um];clear hb1 hbu);go_upto_region 3 with(go_at_call 35;refine(HRB w1 (Ns HD jG)).mono ?_;rintro e w2⟨hb2,hru⟩;rw[<-Um]at hru;have kN:=ae hb2;clear hb2;rcases hru with⟨hz,rfl⟩|⟨hz,mb,rfl,aam⟩);·
  have EG:sv= .pointer none:=by
   rcases HBU.out with⟨_,h,_⟩|⟨h,_⟩;·exact h
   ·exact absurd (Um.trans h) hz
  subst EG;go_wp2_with fail;go_ret;exact⟨rfl,((HP.below jG).below kN).mono (by omega)⟩
 ·subst hz;obtain⟨sb,rfl,rM,hseg⟩:∃sb,sv=aP sb/\w.heap.size<=sb/\sG w.heap.size w1 sb (docs.map dc) (.map none):=by
   rcases HBU.out with⟨h,_⟩|⟨_,_,h⟩;·exact absurd Um.symm h
   ·exact h
  have hD:(docs.map dc).length<=48:=by
   have h0:=Um.out;unfold eX at h0;split at h0;·cases h0
   ·simp;omega
  obtain⟨own,S,N,Bs,l1,l2,l3,hp⟩:=HP.out;obtain⟨agP,hp1⟩:=hp.below jG;obtain⟨asK,hp2⟩:=hp1.below kN;obtain⟨xv,mv,nv,bv,k1,k2,k3,k4,k5⟩:=hp.uK;have k1':w2.heap[wb]?=some (.cells #[xv,mv,nv,bv] 32 (0,0)):=(kN.block wb (by have:=lt_of_heap k1;have:=jG.size;omega)).trans ((jG.block wb (lt_of_heap k1)).trans k1);have hr:∀{e size m:Nat}{v:ay}{xs:List ay},w.ownsRow 0 e size v m xs->w2.ownsRow 0 e size v m xs:=λhr=>aO hr λk e=>(kN.block k (by have:=(hr.lt k e).2;have:=jG.size;omega)).trans (jG.block k (hr.lt k e).2);have HJ:=ae (Wd sb mb wb S.length xv mv nv bv _ _ w2 (by omega) k1' (hr k2.1) (hr k3.1));have HIX:=ae aam;have Uh:=ae (aA rM hseg);have HPP:=ae (aA hp k1);clear aam rM hseg hp k1 k1' hr k2 k3 k4 k5 hp1 hp2 HBU HPB HRB;unfold aP at*;go_wp2_with(go_at_call 36;refine HJ.mono ?_;rintro e w3⟨rfl,TU,TW,g1,g2,g3,g4,g5,g6⟩;have HG:=ae (aA g1 (aA g2 (aA g3 (aA g4 (aA g5 g6)))));clear g1 g2 g3 g4 g5 g6);go_ret;obtain⟨g1,g2,g3,g4,g5,g6⟩:=HG.out;obtain⟨fF,h'⟩:=HPP.1.joined HPP.2 jG Uh.1 Uh.2 kN HIX hD g1 g2 g3 g4 g5 g6;exact⟨rfl,fF,_,N,Bs,by simp;omega,by omega,by omega,h'⟩
section
variable{w w1 w':ak}{own:Nat->Option Tag}{wb:Nat}{S:List Fp}{N:List vg}{Bs:List vq}{Env:ak->Prop}
theorem lu.kept(h:lu w own wb S N Bs Env)(hb:aI w.heap.size w w'):∃fF,lu w' fF wb S N Bs Env/\(∀k t,own k=some t->fF k=some t)/\∀k,fF k≠none->own k≠none:=by have hs:=Step.base (T:=λ_=>False) h.dom hb.size (iOq.below hb) λk hk _=>hb.block k hk;obtain⟨xv,mv,nv,bv,h1,h2,h3,h4,h5⟩:=h.uK;exact⟨_,⟨hs.dom,hs.Ky h.soft,hs.box h.env,(hs.keep _ _ h.tag id).1,⟨xv,mv,nv,bv,(hs.keep _ _ h.tag id).2.trans h1,h2.step hs id,h3.step hs id,h4.step hs id,h5.step hs id⟩,λi e he=>(h.NJ i e he).step hs h.soft id id,λi e he=>(h.nums i e he).step hs id id,λi e he=>(h.Gp i e he).step hs id id⟩,λk t ht=>(hs.keep k t ht id).1,λk hk hn=>hk (BK hn)⟩
end
theorem gw.box{n:Nat}{w:ak}{wb:Nat}{Env:ak->Prop}(h:gw n w wb Env)(o:Obj):gw n (w.alloc o) wb (λW=>Env W/\W.heap[w.heap.size]?=some o):=by
 obtain⟨own,S,N,Bs,h1,h2,h3,h4⟩:=h;obtain⟨fF,h5,h6,h7⟩:=h4.kept ((aB w.heap.size w).alloc (au _) o);refine⟨fF,S,N,Bs,h1,h2,h3,⟨h5.dom,h5.soft,λW hW=>⟨h5.env W hW,?_⟩,h5.tag,h5.uK,h5.NJ,h5.nums,h5.Gp⟩⟩;rw[hW.block w.heap.size (by simp) λhm=>?_];·exact heap_alloc_new w o
 ·have:=h4.dom _ (h7 _ hm);omega
theorem gw.weaken{n:Nat}{w:ak}{wb:Nat}{Env ajT:ak->Prop}(h:gw n w wb Env)(f:∀W,Env W->ajT W):gw n w wb ajT:=by obtain⟨own,S,N,Bs,h1,h2,h3,h4⟩:=h;exact⟨own,S,N,Bs,h1,h2,h3,⟨h4.dom,h4.soft,h4.env.mono f,h4.tag,h4.uK,h4.NJ,h4.nums,h4.Gp⟩⟩
def qf.q(o:qf):nN:=⟨o.qk,o.qa,o.qb,o.qn,o.b⟩
theorem Cr{w:ak}{v:ay}{S:List Fp}{t:dx}{f:Fp->Nat}(h:w.ownsRow 0 t 1 v S.length (S.map λe=>aP (f e))){i:Nat}{e:Fp}(he:S[i]?=some e):∃g cap,v=sL g S.length cap/\w.cell? (aD g i)=some (aP (f e)):=by obtain⟨g,cap,h1,h2⟩:=dh h (j:=i) (u:=aP (f e)) (by rw[bp,he];rfl);exact⟨g,cap,h1,h2⟩
theorem gw.same{n:Nat}{w w':ak}{wb:Nat}{Env:ak->Prop}(h:gw n w wb Env)(hs:Same w w'):gw n w' wb Env:=h.below (hs.below _)
theorem Nw(o:qf)(hk:o.kind=1)(n wb:Nat)(Env:ak->Prop)(w:ak)(h:gw n w wb Env)(hn:n<=1000000)(hE:∀W,Env W->CW W/\jU W o.dv o.docs)(hl:o.docs.length<=1000000):aX ah 13 #[aP wb,MO o] w λe w'=>e= .returned (.bool true)/\gw (n+1) w' wb Env:=by obtain⟨kd,oa,ob,oc,qk,qa,qb,qn,dv,docs,os⟩:=o;simp only at hk hE hl;subst hk;have hP:=h.box (.cells (qf.mk 1 oa ob oc qk qa qb qn dv docs os).cells 37);have HB:=ae (Jw docs dv n wb Env (w.alloc (.cells (qf.mk 1 oa ob oc qk qa qb qn dv docs os).cells 37)) (hP.weaken λ_ h=>h.1) hn (hE _ hP.env.1).1.err (hE _ hP.env.1).2 hl);obtain⟨a0,tC,rfl,_⟩:=(hE _ h.env).2;clear hP hE;unfold aP MO qf.cells dC at*;simp only at HB⊢;go_enter awz,ar2;go_wp2_with(go_at_call 15;refine HB.mono ?_;rintro e w1⟨rfl,hp1⟩;have Ye:=ae hp1;clear hp1);go_ret;exact⟨rfl,Ye⟩
theorem GH(o:qf)(hf:o.Fits)(hk:o.kind=10\/o.kind=11)(n wb:Nat)(Env:ak->Prop)(w:ak)(h:gw n w wb Env)(hn:n<=1000000):aX ah 13 #[aP wb,MO o] w λe w'=>e= .returned (.bool true)/\gw n w' wb Env:=by have hP:=h.box (.cells o.cells 37);have hm:=IY o hf n wb _ _ hP hn;obtain⟨kd,oa,ob,oc,qk,qa,qb,qn,dv,docs,os⟩:=o;simp only at hk;have HM:=ae hm;have HF:=ae hf;clear hm hP hf;unfold aP MO qf.cells dC at*;simp only at HM⊢;have hdone:∀(e:rY)(W:ak),(e= .returned (.bool true)/\gw n W wb (λW=>Env W/\W.heap[w.heap.size]?=some (.cells #[iV kd,iV oa,iV ob,iV oc,iV qk,.string ⟨qa.toArray⟩,.string ⟨qb.toArray⟩,iV qn,dv,.string ⟨os.toArray⟩] 37)))->e= .returned (.bool true)/\gw n W wb Env:=λe W h=>⟨h.1,h.2.weaken λ_ h=>h.1⟩;refine Calls.mono ?_ hdone;clear hdone;rcases hk with rfl|rfl;all_goals
 go_enter awz,ar2;go_upto_region 12 with(go_at_call 20;refine HM.out.mono ?_;rintro e w1⟨rfl,hp1⟩;have Ye:=ae hp1;clear hp1);obtain⟨own,S,N,Bs,l1,l2,l3,hp⟩:=Ye.out;obtain⟨xv,mv,nv,bv,k1,k2,k3,k4,k5⟩:=hp.uK;obtain⟨xa,xc,rfl⟩:=ownsRow_form k2.1;obtain⟨ma,mc,rfl⟩:=ownsRow_form k3.1;have c0:w1.cell? (aD wb 0)=some (.slice xa S.length xc):=aq k1;have c1:w1.cell? (aD wb 1)=some (.slice ma S.length mc):=aq k1;by_cases hS:S.length=0;·rw[hS]at c0;clear hp k1 k2 k3 k4 k5;go_wp2_with fail;go_ret;exact⟨rfl,Ye.out⟩
 ·have hpos:0<S.length:=by omega
  have hpick:=λW=>wk oa S.length W HF.out.a ⟨hpos,by omega⟩;have hlt:=wm oa hpos;obtain⟨i,hi⟩:∃i,i=qE oa S.length:=⟨_,rfl⟩;rw[<-hi]at hpick hlt;have MB:=ae hpick;clear hpick hi;obtain⟨e,he⟩:∃e,S[i]?=some e:=⟨_,ar hlt⟩;obtain⟨gx,cx,e1,x1⟩:=Cr k2.1 he;obtain⟨gm,cm,e2,x2⟩:=Cr k3.1 he;simp only[bA,true_and]at e1 e2;obtain⟨rfl,rfl⟩:=e1;obtain⟨rfl,rfl⟩:=e2;have hop:=hp.env.out.2;have p0:w1.cell? (aD w.heap.size 0)=some (iV _):=aq hop;have p1:w1.cell? (aD w.heap.size 1)=some (iV oa):=aq hop;have z0:((S.length:Int)==0)=false:=by rw[beq_eq_false_iff_ne];omega
  have zi:(0:Int)<=(i:Int)/\(i:Int)<(S.length:Int):=by omega
  unfold aP at x1 x2;clear hop hp k1 k2 k3 k4 k5 he;go_upto_region 14 with fail;go_quiet((go_at_call 21;exact abu (MB.out _)));go_wp2_with fail;go_ret;exact⟨rfl,Ye.out.same (Same.drewN _ _)⟩
def ve(n:Nat):Prop:=n<=281474976710656
structure qf.QJ (o:qf):Prop where
 a:ve o.qa.length
 b:ve o.qb.length
 s:ve o.s.length
 docs:ve o.docs.length
 doc:∀ d∈o.docs,ve d.size
theorem ac5{n a b c d:Nat}(hn:n<=65536)(ha:ve a)(hb:ve b)(hc:ve c)(hd:ve d):IntKind.i64.wrap ((n:Int)+a)=(n:Int)+a/\IntKind.i64.wrap ((n:Int)+a+b)=(n:Int)+a+b/\IntKind.i64.wrap ((n:Int)+a+b+c)=(n:Int)+a+b+c/\IntKind.i64.wrap ((n:Int)+a+b+c+d)=(n:Int)+a+b+c+d:=by unfold ve at*;exact⟨aK _ (by omega),aK _ (by omega),aK _ (by omega),aK _ (by omega)⟩
theorem adg{n a:Nat}(hn:n<=65536)(ha:ve a):IntKind.i64.wrap ((n:Int)+a)=(n:Int)+a:=by unfold ve at*;exact aK _ (by omega)
def qW(w:ak)(v:ay)(ops:List qf):Prop:=∃a cap,v= .slice a ops.length cap/\∀i(h:i<ops.length),(∃b off,a=some ⟨b,off,none⟩/\∀(j:Nat)u,ops[i].cells[j]?=some u->w.cell? ⟨b,off+i*10+j,none⟩=some u)/\jU w ops[i].dv ops[i].docs/\ops[i].Fits/\ops[i].QJ
theorem Nr{w w':ak}{v:ay}{docs:List ByteArray}(h:jU w v docs)(hb:∀(b j:Nat)u,w.cell? (aD b j)=some u->w'.cell? (aD b j)=some u):jU w' v docs:=by obtain⟨a,cap,rfl,hc⟩:=h;refine⟨a,cap,rfl,λi hi=>?_⟩;obtain⟨b,off,e,hcell⟩:=hc i hi;exact⟨b,off,e,hb _ _ _ hcell⟩
theorem qW.cells{w w':ak}{v:ay}{ops:List qf}(h:qW w v ops)(hb:∀(b j:Nat)u,w.cell? (aD b j)=some u->w'.cell? (aD b j)=some u):qW w' v ops:=by obtain⟨a,cap,rfl,hc⟩:=h;refine⟨a,cap,rfl,λi hi=>?_⟩;obtain⟨⟨b,off,e,h1⟩,h2,h3,h4⟩:=hc i hi;exact⟨⟨b,off,e,λj u hu=>hb _ _ _ (h1 j u hu)⟩,Nr h2 hb,h3,h4⟩
theorem Rt(ops:List qf)(v:ay)(w:ak)(hv:qW w v ops)(hl:ve ops.length):aX ah 12 #[v] w λe w'=>Same w w'/\(e= .returned (.bool false)\/(e= .returned (.bool true)/\ops.length<=65536/\∀o∈ops,o.docs.length<=65536)):=by
 obtain⟨a,cap,rfl,hc⟩:=hv;have HC:=ae hc;have HL:=ae hl;clear hc hl;go_enter Tryz.func12,Tryz.ntmps12;by_cases h0:65536<ops.length;·have g0:=decide_eq_true (by omega);go_wp2_with fail;go_ret;exact⟨Same.refl _,.inl rfl⟩
 ·have g0:=decide_eq_false (by omega);go_wp2_with fail;go_loopw[3,4](λnv iv wr=>∃i n:Nat,i<=ops.length/\iv= .int .i64 (i:Int)/\nv= .int .i64 (n:Int)/\n<=65536/\Hid (∀o∈ops.take i,o.docs.length<=65536)/\Hid (Same w wr))(λ_ iv _=>ops.length-(intOf iv).toNat);case atStart=>exact⟨0,ops.length,aW _,rfl,rfl,by omega,ae (λo h=>by simp at h),ae (Same.refl _)⟩
  case round=>
   obtain⟨i,n,hi,rfl,rfl,hn,HA,HS⟩:=hrel;have q1:IntKind.i64.wrap ((i:Int)+1)=(i:Int)+1:=aK _ (by omega);by_cases hil:i<ops.length;·
    obtain⟨⟨b,off,rfl,hcell⟩,adF,_,hsz⟩:=HC.out i hil;have HA2:Hid (ops[i].docs.length<=65536->∀o∈ops.take (i+1),o.docs.length<=65536):=ae λh o ho=>by
     rw[bH hil]at ho;rcases List.mem_append.1 ho with ho|ho;·exact HA o ho
     ·rw[List.mem_singleton.1 ho];exact h
    generalize ops[i]=o at*;obtain⟨kd,oa,ob,oc,qk,qa,qb,qn,dv,docs,os⟩:=o;obtain⟨da,Gk,hdv,hd⟩:=adF;simp only at hdv;subst hdv;have d5:wr.cell? (aD b (off+i*10+5))=some (.string ⟨qa.toArray⟩):=(HS.cell _).trans (hcell 5 _ rfl);have d6:wr.cell? (aD b (off+i*10+6))=some (.string ⟨qb.toArray⟩):=(HS.cell _).trans (hcell 6 _ rfl);have d8:wr.cell? (aD b (off+i*10+8))=some (.slice da docs.length Gk):=(HS.cell _).trans (hcell 8 _ rfl);have d9:wr.cell? (aD b (off+i*10+9))=some (.string ⟨os.toArray⟩):=(HS.cell _).trans (hcell 9 _ rfl);have HD:=ae hd;have DK:=ae hsz;obtain⟨s1,s2,s3,s4⟩:=ac5 hn hsz.s hsz.a hsz.b hsz.docs;simp only at s1 s2 s3 s4 HA2;have zi:(0:Int)<=(i:Int)/\(i:Int)<(ops.length:Int):=by omega
    clear hcell hd hsz;go_upto_region 7 with fail;go_quiet(fail);have ju:=ae (HS.trans (Same.drewN wr nq));by_cases hgt:65536<n+os.length+qa.length+qb.length+docs.length;·have g1:=decide_eq_true (by omega);go_wp2_with fail;go_ret;exact⟨ju,.inl rfl⟩
    ·have g1:=decide_eq_false (by omega);obtain⟨m,hm⟩:∃m:Nat,m=n+os.length+qa.length+qb.length+docs.length:=⟨_,rfl⟩;have hmi:(n:Int)+os.length+qa.length+qb.length+docs.length=(m:Int):=by omega
     have HA3:=ae (HA2 (by omega));have hm2:m<=65536:=by omega
     have Fz:docs.length<=65536:=by omega
     have HM:=ae hm;clear hm HA2 HA s1 s2 s3 s4;go_upto_region 10 with fail;rw[hmi];clear hmi g1;go_upto_region 11 with fail;generalize hW:wr.drewN nq=W at*;have e5:W.cell? (aD b (off+i*10+8))=some (.slice da docs.length Gk):=by rw[<-hW];exact d8
     clear hW d5 d6 d8 d9;go_loopw[3,5](λnv kv wq=>∃k n:Nat,k<=docs.length/\kv= .int .i64 (k:Int)/\nv= .int .i64 (n:Int)/\n<=65536/\Hid (Same W wq))(λ_ kv _=>docs.length-(intOf kv).toNat);case atStart=>exact⟨0,m,aW _,rfl,rfl,hm2,ae (Same.refl _)⟩
     case round=>
      obtain⟨k,n2,hk,rfl,rfl,hn2,HQ⟩:=hrel;have q2:IntKind.i64.wrap ((k:Int)+1)=(k:Int)+1:=aK _ (by omega);have f5:=(HQ.cell (aD b (off+i*10+8))).trans e5;by_cases hkl:k<docs.length;·
       obtain⟨db,avi,rfl,YO⟩:=HD.out k hkl;have aec:=DK.doc docs[k] (eu hkl);have f6:=(HQ.cell _).trans ((ju.cell _).trans YO);have s5:=adg hn2 aec;generalize docs[k]=dd at*;have zk:(0:Int)<=(k:Int)/\(k:Int)<(docs.length:Int):=by omega
       clear YO;by_cases ah2:65536<n2+dd.size;·have g2:=decide_eq_true (by omega);clear aec;go_wp2_with fail;go_ret;exact⟨ju.trans HQ,.inl rfl⟩
       ·have g2:=decide_eq_false (by omega);clear aec;go_wp2_with fail;go_roundw;case rel=>exact⟨k+1,n2+dd.size,by omega,by go_num,by go_num,by omega,HQ⟩
        case measure=>(simp[intOf])<;>omega
      ·obtain rfl:k=docs.length:=by omega
       go_wp2_with fail;go_roundw;case rel=>exact⟨i+1,n2,by omega,by go_num,rfl,hn2,HA3,ae (ju.trans HQ)⟩
       case measure=>(simp[intOf])<;>omega
   ·obtain rfl:i=ops.length:=by omega
    rw[dH]at HA;go_wp2_with fail;go_ret;exact⟨HS,.inr ⟨rfl,by omega,HA⟩⟩
def inB(kd:Int)(ks:List Int):Bool:=(kd==1||kd==10||kd==11)||ks.any λk=>kd==k
def XV(kd:Int):Bool:=kd==5||kd==6||kd==7
def GU(ks qs:List Int)(o:qf):Bool:=inB o.kind ks&&(qs.isEmpty||!XV o.kind||qs.any λk=>o.qk==k)
structure lL (w0:ak) (v kv qv:ay) (ops:List qf) (ks qs:List Int) (w:ak):Prop where
 base:aI w0.heap.size w0 w
 env:CW w
 script:qW w v ops
 kinds:fV w kv ks
 queries:fV w qv qs
theorem CW.kept{w w':ak}(h:CW w)(hk:∀k,k<w.heap.size->w'.heap[k]?=w.heap[k]?):CW w':=by obtain⟨_,cs,t,r,h2,_⟩:=id h.err;obtain⟨c1,h3⟩:=h.tabs.first;obtain⟨c2,h4⟩:=h.tabs.accept;exact⟨h.err.kept (hk _ (lt_of_heap h2)),h.bits.kept (hk _ h.bits.lt),h.tabs.kept (hk _ (lt_of_heap h3)) (hk _ (lt_of_heap h4))⟩
theorem lL.kept{w0:ak}{v kv qv:ay}{ops:List qf}{ks qs:List Int}{w w':ak}(h:lL w0 v kv qv ops ks qs w)(hb:aI w.heap.size w w'):lL w0 v kv qv ops ks qs w':=⟨h.base.trans (hb.mono h.base.size),h.env.kept hb.block,h.script.cells λb j u hu=>(fq (a:=(aD b j)) (hb.block _ (lt_of_cell hu))).trans hu,h.kinds.keep λk e=>hb.block k (h.kinds.lt k e).2,h.queries.keep λk e=>hb.block k (h.queries.lt k e).2⟩
theorem gw.start{w0:ak}{v kv qv:ay}{ops:List qf}{ks qs:List Int}{w:ak}(h:lL w0 v kv qv ops ks qs w):gw 0 (w.alloc (.cells #[.slice none 0 0,.slice none 0 0,.slice none 0 0,.slice none 0 0] 32)) w.heap.size (lL w0 v kv qv ops ks qs):=by
 have hwb:=heap_alloc_new w (.cells #[.slice none 0 0,.slice none 0 0,.slice none 0 0,.slice none 0 0] 32);refine⟨λk=>if k=w.heap.size then some .uK else none,[],[],[],au _,au _,au _,⟨λk hk=>?_,λk hk=>?_,λW hW=>?_,if_pos rfl,⟨_,_,_,_,hwb,⟨bS _ _ _ _,λk e=>by cases e⟩,⟨bS _ _ _ _,λk e=>by cases e⟩,⟨bS _ _ _ _,λk e=>by cases e⟩,⟨bS _ _ _ _,λk e=>by cases e⟩⟩,λi e he=>by simp at he,λi e he=>by simp at he,λi e he=>by simp at he⟩⟩;·
  by_cases e:k=w.heap.size;·subst e;simp
  ·exact absurd (if_neg e) hk
 ·by_cases e:k=w.heap.size;·subst e;exact pz.cells hwb (by decide)
  ·exact absurd (if_neg e) hk
 ·refine h.kept ⟨hW.io.os,hW.io.tape,hW.io.output,aZ (by simp) hW.size,λk hk=>?_⟩;rw[hW.block k (by simp;omega) (λhm=>hm (if_neg (by omega)))];exact Below.heap_alloc w _ k hk
theorem RJ(ops:List qf)(ks qs:List Int)(v kv qv:ay)(w:ak)(hE:lL w v kv qv ops ks qs w)(hl:ve ops.length)(hk:ks.length<=100)(hq:qs.length<=100)(hstep:∀o∈ops,GU ks qs o=true->o.docs.length<=65536->∀n wb W,n<=65536->gw n W wb (lL w v kv qv ops ks qs)->aX ah 13 #[aP wb,MO o] W λe w'=>e= .returned (.bool true)/\gw (n+1) w' wb (lL w v kv qv ops ks qs)):aX ah 11 #[v,kv,qv] w λe w'=>e= .returned (.bool true)/\aI w.heap.size w w':=by
 have HSM:=ae (Rt ops v w hE.script hl);obtain⟨a,cap,rfl,_⟩:=hE.script;obtain⟨ka,kc,rfl⟩:=ownsRow_form hE.kinds;obtain⟨qa0,qc,rfl⟩:=ownsRow_form hE.queries;have HE:=ae hE;have ajk:=ae hstep;have HL:=ae hl;clear hE hstep hl;go_enter Tryz.func11,Tryz.ntmps11;go_upto_region 2 with(go_at_call 12;refine HSM.mono ?_;rintro e w1⟨hs1,hres⟩;have kL:=ae hs1;clear hs1;rcases hres with rfl|⟨rfl,h65,aih⟩);·go_wp2_with fail;go_ret;exact⟨rfl,kL.below _⟩
 ·have aou:=ae aih;clear aih;have HP0:=ae (gw.start (HE.kept (w':=w1) (kL.below _)));have jG:Hid (aI w.heap.size w (w1.alloc (.cells #[.slice none 0 0,.slice none 0 0,.slice none 0 0,.slice none 0 0] 32))):=ae ((kL.below _).alloc (by rw[kL.heap];exact au _) _);obtain⟨wb,hwb⟩:∃wb,wb=w1.heap.size:=⟨_,rfl⟩;rw[<-hwb]at HP0;go_upto_region 6 with fail;rw[<-hwb];clear hwb;generalize(w1.alloc (.cells #[.slice none 0 0,.slice none 0 0,.slice none 0 0,.slice none 0 0] 32))=w2 at*;go_loopw[9](λiv wr=>∃i:Nat,i<=ops.length/\iv= .int .i64 (i:Int)/\Hid (gw i wr wb (lL w (.slice a ops.length cap) (.slice ka ks.length kc) (.slice qa0 qs.length qc) ops ks qs))/\Hid (aI w.heap.size w wr))(λiv _=>ops.length-(intOf iv).toNat);case atStart=>exact⟨0,aW _,rfl,HP0,jG⟩
  case round=>
   obtain⟨i,hi,rfl,HP,HB⟩:=hrel;have q1:IntKind.i64.wrap ((i:Int)+1)=(i:Int)+1:=aK _ (by omega);by_cases hil:i<ops.length;·
    have ad9:=HP.env;obtain⟨a',cap',e1,hsc⟩:=ad9.script;simp only[bA,true_and]at e1;obtain⟨rfl,rfl⟩:=e1;obtain⟨⟨b,off,rfl,hcell⟩,adF,_,_⟩:=hsc i hil;have hmem:=eu hil;have HST:=ae (ajk ops[i] hmem);have amO:=aou ops[i] hmem;generalize ops[i]=o at*;obtain⟨kd,oa,ob,oc,qk,qa,qb,qn,dv,docs,os⟩:=o;obtain⟨da,Gk,hdv,_⟩:=adF;simp only at hdv;subst hdv;have c0:wr.cell? (aD b (off+i*10+0))=some (iV kd):=hcell 0 _ rfl;have c1:wr.cell? (aD b (off+i*10+1))=some (iV oa):=hcell 1 _ rfl;have c2:wr.cell? (aD b (off+i*10+2))=some (iV ob):=hcell 2 _ rfl;have c3:wr.cell? (aD b (off+i*10+3))=some (iV oc):=hcell 3 _ rfl;have c4:wr.cell? (aD b (off+i*10+4))=some (iV qk):=hcell 4 _ rfl;have c5:wr.cell? (aD b (off+i*10+5))=some (.string ⟨qa.toArray⟩):=hcell 5 _ rfl;have c6:wr.cell? (aD b (off+i*10+6))=some (.string ⟨qb.toArray⟩):=hcell 6 _ rfl;have c7:wr.cell? (aD b (off+i*10+7))=some (iV qn):=hcell 7 _ rfl;have c8:wr.cell? (aD b (off+i*10+8))=some (.slice da docs.length Gk):=hcell 8 _ rfl;have c9:wr.cell? (aD b (off+i*10+9))=some (.string ⟨os.toArray⟩):=hcell 9 _ rfl;have zi:(0:Int)<=(i:Int)/\(i:Int)<(ops.length:Int):=by omega
    simp only[Nat.add_zero]at c0;have afy:=ae ad9;clear hcell hsc ad9 hmem;go_upto_region 9 with fail;rename_i K1 Jg;have hop:=heap_alloc_new wr (.cells #[iV kd,iV oa,iV ob,iV oc,iV qk,.string ⟨qa.toArray⟩,.string ⟨qb.toArray⟩,iV qn,.slice da docs.length Gk,.string ⟨os.toArray⟩] 37);have DL:=ae ((aB wr.heap.size wr).alloc (au _) (.cells #[iV kd,iV oa,iV ob,iV oc,iV qk,.string ⟨qa.toArray⟩,.string ⟨qb.toArray⟩,iV qn,.slice da docs.length Gk,.string ⟨os.toArray⟩] 37));obtain⟨g,hg⟩:∃g,g=wr.heap.size:=⟨_,rfl⟩;rw[<-hg]at hop;have HG:=ae hg;rw[<-hg];clear hg c0 c1 c2 c3 c4 c5 c6 c7 c8 c9;generalize(wr.alloc (.cells #[iV kd,iV oa,iV ob,iV oc,iV qk,.string ⟨qa.toArray⟩,.string ⟨qb.toArray⟩,iV qn,.slice da docs.length Gk,.string ⟨os.toArray⟩] 37))=W at*;have p0:W.cell? (aD g 0)=some (iV kd):=aq hop;have p1:W.cell? (aD g 1)=some (iV oa):=aq hop;have p2:W.cell? (aD g 2)=some (iV ob):=aq hop;have p3:W.cell? (aD g 3)=some (iV oc):=aq hop;have p4:W.cell? (aD g 4)=some (iV qk):=aq hop;have p5:W.cell? (aD g 5)=some (.string ⟨qa.toArray⟩):=aq hop;have p6:W.cell? (aD g 6)=some (.string ⟨qb.toArray⟩):=aq hop;have p7:W.cell? (aD g 7)=some (iV qn):=aq hop;have p8:W.cell? (aD g 8)=some (.slice da docs.length Gk):=aq hop;have p9:W.cell? (aD g 9)=some (.string ⟨os.toArray⟩):=aq hop;have HPW:=ae (HP.below DL);have HKI:=ae (afy.kinds.below DL);have HQU:=ae (afy.queries.below DL);clear hop afy;go_cut[11]from 31 to 109(λt wy=>t= .bool (kd==1||kd==10||kd==11)/\W=wy);case first=>
     by_cases k1:kd=1;·subst k1;go_wp2_with fail;go_meet;exact⟨rfl,rfl⟩
     ·have e1:=beq_eq_false_iff_ne.2 k1;by_cases k10:kd=10;·subst k10;go_wp2_with fail;go_meet;exact⟨rfl,rfl⟩
      ·have e10:=beq_eq_false_iff_ne.2 k10;by_cases k11:kd=11;·subst k11;go_wp2_with fail;go_meet;exact⟨rfl,rfl⟩
       ·have e11:(kd==11)=false:=beq_eq_false_iff_ne.2 k11;go_wp2_with fail;go_meet;exact⟨by rw[e1,e10,e11];rfl,rfl⟩
    case rest=>
     obtain⟨rfl,rfl⟩:=hcut;refine Jg _ _ ?_;clear Jg;obtain⟨b0,hb0⟩:∃b0,b0=(kd==1||kd==10||kd==11):=⟨_,rfl⟩;rw[<-hb0];have AL:=ae hb0;clear hb0;go_upto_region 11 with fail;go_loopw[11,12](λbv jv wq=>∃j:Nat,j<=ks.length/\jv= .int .i64 (j:Int)/\bv= .bool (b0||(ks.take j).any λk=>kd==k)/\Hid (Same W wq))(λ_ jv _=>ks.length-(intOf jv).toNat);case atStart=>exact⟨0,aW _,rfl,by simp,ae (Same.refl _)⟩
     case round=>
      obtain⟨j,hj,rfl,rfl,HS⟩:=hrel;have q2:IntKind.i64.wrap ((j:Int)+1)=(j:Int)+1:=aK _ (by omega);by_cases hjl:j<ks.length;·
       obtain⟨g2,cp2,e2,hc2,_⟩:=HKI.cellAt hjl;simp only[bA,true_and]at e2;obtain⟨rfl,rfl⟩:=e2;have wM:(b0||(ks.take (j+1)).any λk=>kd==k)=((b0||(ks.take j).any λk=>kd==k)||(kd==ks.getD j 0)):=by rw[bH hjl,aj1,aw,ar hjl];simp[aoZ]
       have r1:=(HS.cell _).trans hc2;have r2:=(HS.cell _).trans p0;have zj:(0:Int)<=(j:Int)/\(j:Int)<(ks.length:Int):=by omega
       have BX:=ae wM;generalize(b0||(ks.take j).any λk=>kd==k)=bj at*;generalize ks.getD j 0=kj at*;clear hc2 wM;go_upto_region 13 with fail;cases bj with
        |true=> go_quiet(fail);go_wp2_with fail;go_roundw;case rel=>exact⟨j+1,by omega,by go_num,by rw[BX];rfl,ae (HS.trans (Same.drewN _ _))⟩
                case measure=>(simp[intOf])<;>omega|false=>
         go_quiet(fail);go_wp2_with fail;go_roundw;case rel=>exact⟨j+1,by omega,by go_num,by rw[BX,MN],ae (HS.trans (Same.drewN _ _))⟩
         case measure=>(simp[intOf])<;>omega
      ·obtain rfl:j=ks.length:=by omega
       have hin:(b0||(ks.take ks.length).any λk=>kd==k)=inB kd ks:=by rw[dH,AL];rfl
       rw[hin];clear hin;have t0:=(HS.cell _).trans p0;have t4:=(HS.cell _).trans p4;obtain⟨ib,hib⟩:∃ib,ib=inB kd ks:=⟨_,rfl⟩;rw[<-hib];have HIB:=ae hib;clear hib;go_upto_region 14 with fail;rename_i K2 hK2 K1 Jg;go_cut[77]from 60 to 109(λt wy=>t= .bool (decide (0<qs.length)&&XV kd)/\wr=wy);case first=>
        by_cases hq0:qs.length=0;·have g1:decide ((0:Int)<(qs.length:Int))=false:=decide_eq_false (by omega);have g2:decide (0<qs.length)=false:=decide_eq_false (by omega);go_wp2_with fail;go_meet;exact⟨by rw[g2];rfl,rfl⟩
        ·have g1:decide ((0:Int)<(qs.length:Int))=true:=decide_eq_true (by omega);have g2:decide (0<qs.length)=true:=decide_eq_true (by omega);by_cases k5:kd=5;·subst k5;go_wp2_with fail;go_meet;exact⟨by rw[g2];rfl,rfl⟩
         ·have e5:(kd==5)=false:=beq_eq_false_iff_ne.2 k5;by_cases k6:kd=6;·subst k6;go_wp2_with fail;go_meet;exact⟨by rw[g2];rfl,rfl⟩
          ·have e6:(kd==6)=false:=beq_eq_false_iff_ne.2 k6;by_cases k7:kd=7;·subst k7;go_wp2_with fail;go_meet;exact⟨by rw[g2];rfl,rfl⟩
           ·have e7:(kd==7)=false:=beq_eq_false_iff_ne.2 k7;go_wp2_with fail;go_meet;exact⟨by rw[g2];unfold XV;rw[e5,e6,e7];rfl,rfl⟩
       case rest=>
        obtain⟨rfl,rfl⟩:=hcut;refine Jg _ _ ?_;clear Jg;obtain⟨cb,hcb⟩:∃cb,cb=(decide (0<qs.length)&&XV kd):=⟨_,rfl⟩;rw[<-hcb];have HCB:=ae hcb;clear hcb;go_cut[11]from 78 to 109(λt wy=>t= .bool (if cb then ib&&qs.any (λk=>qk==k)else ib)/\Hid (Same W wy));case first=>cases cb with
         |false=>go_wp2_with fail;go_meet;exact⟨rfl,HS⟩|true=>
          go_upto_region 17 with fail;go_loopw[13,14](λbv jv wq=>∃j:Nat,j<=qs.length/\jv= .int .i64 (j:Int)/\bv= .bool ((qs.take j).any λk=>qk==k)/\Hid (Same W wq))(λ_ jv _=>qs.length-(intOf jv).toNat);case atStart=>exact⟨0,aW _,rfl,by simp,HS⟩
          case round=>
           obtain⟨j,hj,rfl,rfl,HS⟩:=hrel;have q2:IntKind.i64.wrap ((j:Int)+1)=(j:Int)+1:=aK _ (by omega);by_cases hjl:j<qs.length;·
            obtain⟨g2,cp2,e2,hc2,_⟩:=HQU.cellAt hjl;simp only[bA,true_and]at e2;obtain⟨rfl,rfl⟩:=e2;have wM:((qs.take (j+1)).any λk=>qk==k)=(((qs.take j).any λk=>qk==k)||(qk==qs.getD j 0)):=by rw[bH hjl,aj1,aw,ar hjl];simp
            have r1:=(HS.cell _).trans hc2;have r2:=(HS.cell _).trans p4;have zj:(0:Int)<=(j:Int)/\(j:Int)<(qs.length:Int):=by omega
            have BX:=ae wM;generalize((qs.take j).any λk=>qk==k)=bj at*;generalize qs.getD j 0=kj at*;clear hc2 wM;go_upto_region 19 with fail;cases bj with
             |true=> go_quiet(fail);go_wp2_with fail;go_roundw;case rel=>exact⟨j+1,by omega,by go_num,by rw[BX];rfl,ae (HS.trans (Same.drewN _ _))⟩
                     case measure=>(simp[intOf])<;>omega|false=>
              go_quiet(fail);go_wp2_with fail;go_roundw;case rel=>exact⟨j+1,by omega,by go_num,by rw[BX,MN],ae (HS.trans (Same.drewN _ _))⟩
              case measure=>(simp[intOf])<;>omega
           ·obtain rfl:j=qs.length:=by omega
            rw[dH];generalize(qs.any λk=>qk==k)=mine at*;cases ib with|true=>go_wp2_with fail;go_meet;exact⟨by simp,HS⟩|false=>go_wp2_with fail;go_meet;exact⟨by simp,HS⟩
        case rest=>
         obtain⟨rfl,iH⟩:=hcut;refine hK2 _ _ ?_;clear hK2;have hpb:(if cb then ib&&qs.any (λk=>qk==k)else ib)=GU ks qs ⟨kd,oa,ob,oc,qk,qa,qb,qn,.slice da docs.length Gk,docs,os⟩:=by unfold GU;simp only;rw[HCB,HIB];cases qs with|nil=>simp|cons x t=>cases XV kd<;>simp
         rw[hpb];clear hpb;cases hpl:GU ks qs ⟨kd,oa,ob,oc,qk,qa,qb,qn,.slice da docs.length Gk,docs,os⟩with|false=>clear hpl;go_wp2_with fail;refine⟨⟨i+1,by omega,by go_num,ae ((HPW.same iH.out).mono (by omega)),ae ((HB.trans (DL.mono HB.size)).trans (iH.below _))⟩,by simp[intOf];omega⟩|true=>have r0:=(iH.cell _).trans p0;have r1:=(iH.cell _).trans p1;have r2:=(iH.cell _).trans p2;have r3:=(iH.cell _).trans p3;have r4:=(iH.cell _).trans p4;have r5:=(iH.cell _).trans p5;have r6:=(iH.cell _).trans p6;have r7:=(iH.cell _).trans p7;have r8:=(iH.cell _).trans p8;have r9:=(iH.cell _).trans p9;have hst:=HST hpl amO i wb wc (by omega) (HPW.same iH);unfold aP MO qf.cells dC at hst;simp only at hst;have pF:=ae hst;have Un:Hid (aI w.heap.size w wc):=ae ((HB.trans (DL.mono HB.size)).trans (iH.below _));clear hst hpl p0 p1 p2 p3 p4 p5 p6 p7 p8 p9;go_upto_region 23 with(go_at_call 13;refine pF.mono ?_;rintro e w5⟨rfl,hp5⟩;have HP5:=ae hp5;clear hp5);obtain⟨own,S,N,Bs,l1,l2,l3,hp⟩:=HP5.out;have hlk:=R7 own wb S N Bs _ w5 hp (by omega) (by omega);unfold aP at hlk;have HLK:=ae hlk;clear hlk hp;go_wp2_with(go_at_call 14;refine HLK.mono ?_;rintro e w6⟨rfl,F9⟩;have q9:=ae F9;clear F9);have hfin:=HP5.same q9;exact⟨⟨i+1,by omega,by go_num,ae hfin,ae hfin.env.base⟩,by simp[intOf];omega⟩
   ·obtain rfl:i=ops.length:=by omega
    go_wp2_with fail;go_ret;exact⟨rfl,HB⟩
end Go.Proofs.Tl
namespace Go.Proofs.YtffjomnnkilhgaaGreatDoor.card
open Go Go.ChangeShapes Go.WideShapes Go.ChangeAt Go.RowKit Go.Deep
theorem XG:Tryz.prog.cellsOf 3=1:=by kernel_rfl
theorem aeU:Tryz.prog.cellsOf 34=4:=by kernel_rfl
theorem cellsD:Tryz.prog.cellsOf 35=1:=by kernel_rfl
theorem QB:Tryz.prog.cellsOf 37=10:=by kernel_rfl
theorem nX{n:Nat}(h:n<=reachBytes):Tl.ve n:=by unfold Tl.ve;unfold reachBytes at h;omega
section
variable{W:ak}{base:Nat}{spare:Nat->Bool}{held:Bool}{H:Type}{enc:dx×ay->H}
theorem Cg{P:iX}{e:dx}:∀{l:List (nG H)}{d:nG H}{n:Nat},d∈l->n∈d.weights P e->n∈agB P e l
 |[],d,n,h,_=>by cases h|a::l,d,n,h,hn=>by
  unfold agB;rw[jM];rcases List.mem_cons.1 h with rfl|h;·exact .inl hn
  ·exact .inr (Cg h hn)
theorem zw{P:iX}{t e:dx}{elems sp:List (nG H)}{d:nG H}{n:Nat}(ht:P.underlying t=some (.slice e))(hd:d∈elems)(hn:n∈d.weights P e):n∈(awH elems sp).weights P t:=by unfold vM;rw[ht];exact bq _ (List.mem_append.2 (.inl (Cg hd hn)))
theorem Cf{P:iX}{t e:dx}{elems sp:List (nG H)}(ht:P.underlying t=some (.slice e)):(elems.length+sp.length)*P.bytesOf e∈(awH elems sp).weights P t:=by unfold vM;rw[ht];exact bE
theorem Ig{P:iX}{t:dx}{fs:Array awG}{parts:List (nG H)}{j:Nat}{f:awG}{d:nG H}{n:Nat}(ht:P.underlying t=some (.struct fs))(hf:fs[j]?=some f)(hd:parts[j]?=some d)(hn:n∈d.weights P f.type):n∈(DataW.agg parts).weights P t:=by unfold vM;rw[ht];exact DataW.weights_mem_each (j:=j) (by rw[bp,YG,hf];rfl) hd n hn
theorem Nq{v:ay}{x:nG H×List AW}{fuel:Nat}(h:M8 enc ah W base spare held fuel 35 [v]=some x)(hw:∀n∈x.1.weights ah 35,n<=reachBytes):∃docs:List ByteArray,Ts.jU W v docs/\docs.length<=reachBytes/\∀d∈docs,d.size<=reachBytes:=by
 rcases open_strings ie oM O7 h with⟨hv,_⟩|⟨a,len,cap,ss,hv,_,hl,hc,hlen,hx,hcell,_⟩;·simp only[fL,and_true]at hv;subst hv;exact⟨[],⟨none,0,rfl,λi hi=>absurd hi (iB i)⟩,aW _,λd hd=>by cases hd⟩
 ·simp only[fL,and_true]at hv;subst hv;have hle:len<=ss.length:=by rw[hlen];split<;>omega
  rw[hx]at hw;have hb:Tryz.prog.bytesOf 9=16:=by kernel_rfl
  refine⟨ss.take len,⟨some a,cap,by rw[iu,Nat.min_eq_left hle],λi hi=>?_⟩,?_,λd hd=>?_⟩;·
   rw[iu]at hi;have hc:=hcell i (by omega);obtain⟨b,off,spot⟩:=a;have hs:spot=none:=by simpa[iU]using agr (hcell 0 (by omega))
   subst hs;refine⟨b,off,rfl,?_⟩;have he:(ss.take len)[i]'(by rw[iu];omega)=ss.getD i ByteArray.empty:=by rw[List.getElem_take,aw,ar (by omega)];rfl
   rw[he,<-hc];by_cases h0:i=0;·subst h0;simp[iU]
   ·simp[iU,h0]
  ·have:=hw _ (Cf ie);rw[hb]at this;unfold strs at this;rw[jx]at this;omega
  ·have:=hw d.data.toList.length (zw ie (d:= .lit (.string d.data.toList)) (List.mem_map.2 ⟨d,hd,rfl⟩) (by unfold vM;exact bE));have e:d.data.toList.length=d.size:=Array.length_toList;rw[e]at this;exact this
theorem Bx{c:ay}{x:nG H×List AW}{fuel:Nat}(h:M8 enc ah W base spare held fuel 3 [c]=some x):∃n,c= .int .i64 n/\Tl.I64 n:=by obtain⟨n,h1,_,h2⟩:=DataW.trod_int Tryz.underlying3 h;simp only[fL,and_true]at h1;refine⟨n,h1,?_⟩;unfold Tl.I64;exact(Lit.wf_int_iff .i64 n).1 h2
theorem Nv{c:ay}{x:nG H×List AW}{fuel:Nat}(h:M8 enc ah W base spare held fuel 9 [c]=some x)(hw:∀n∈x.1.weights ah 9,n<=reachBytes):∃s:List UInt8,c=Ts.dC s/\s.length<=reachBytes:=by obtain⟨s,h1,h2,_⟩:=DataW.trod_string oM h;simp only[fL,and_true]at h1;refine⟨s.data.toList,by rw[h1];unfold Ts.dC;cases s;simp,?_⟩;rw[h2]at hw;exact hw _ (by unfold vM;exact bE)
theorem ten{α:Type}{l:List α}(h:l.length=10):∃a b c d e f g i j k,l=[a,b,c,d,e,f,g,i,j,k]:=by match l,h with|[a,b,c,d,e,f,g,i,j,k],_=>exact⟨a,b,c,d,e,f,g,i,j,k,rfl⟩
theorem qp{P:iX}{t:dx}{fs:Array awG}{ys:List (nG H×List AW)}{j:Nat}{f:awG}{y:nG H×List AW}(ht:P.underlying t=some (.struct fs))(hf:fs[j]?=some f)(hy:ys[j]?=some y)(hw:∀n∈(DataW.agg (ys.map (·.1))).weights P t,n<=reachBytes):∀n∈y.1.weights P f.type,n<=reachBytes:=λn hn=>hw n (Ig ht hf (by rw[bp,hy];rfl) hn)
theorem agR{cs:List ay}{x:nG H×List AW}{fuel:Nat}(h:M8 enc ah W base spare held fuel 37 cs=some x)(hw:∀n∈x.1.weights ah 37,n<=reachBytes):∃o:Tl.qf,o.cells.toList=cs/\Ts.jU W o.dv o.docs/\o.Fits/\o.QJ:=by obtain⟨ys,n,_,rfl,hlen,Oz,hf⟩:=afO vw h;rw[QB]at hlen;obtain⟨c0,c1,c2,c3,c4,c5,c6,c7,c8,c9,rfl⟩:=ten hlen;have atq:ys.length=7:=Oz;have at':∀j,j<7->∃y,ys[j]?=some y:=λj hj=>⟨_,ar (by omega)⟩;obtain⟨y0,e0⟩:=at' 0 (by omega);obtain⟨y1,e1⟩:=at' 1 (by omega);obtain⟨y2,e2⟩:=at' 2 (by omega);obtain⟨y3,e3⟩:=at' 3 (by omega);obtain⟨y4,e4⟩:=at' 4 (by omega);obtain⟨y5,e5⟩:=at' 5 (by omega);obtain⟨y6,e6⟩:=at' 6 (by omega);have f0:=hf 0 _ rfl;have f1:=hf 1 _ rfl;have f2:=hf 2 _ rfl;have f3:=hf 3 _ rfl;have f4:=hf 4 _ rfl;have f5:=hf 5 _ rfl;have f6:=hf 6 _ rfl;simp only[XG,aeU,cellsD,O7,e0,e1,e2,e3,e4,e5,e6,abt,Ia,abp,acY]at f0 f1 f2 f3 f4 f5 f6;obtain⟨k0,rfl,g0⟩:=Bx f0;obtain⟨k1,rfl,g1⟩:=Bx f1;obtain⟨k2,rfl,g2⟩:=Bx f2;obtain⟨k3,rfl,g3⟩:=Bx f3;have w4:=qp vw (j:=4) rfl e4 hw;have w5:=qp vw (j:=5) rfl e5 hw;have w6:=qp vw (j:=6) rfl e6 hw;obtain⟨docs,hs,hd1,hd2⟩:=Nq f5 w5;obtain⟨s,rfl,hs1⟩:=Nv f6 w6;obtain⟨zs,n4,_,rfl,_,hzl,hz⟩:=afO FD f4;have atn:zs.length=4:=hzl;have at4:∀j,j<4->∃y,zs[j]?=some y:=λj hj=>⟨_,ar (by omega)⟩;obtain⟨z0,i0⟩:=at4 0 (by omega);obtain⟨z1,i1⟩:=at4 1 (by omega);obtain⟨z2,i2⟩:=at4 2 (by omega);obtain⟨z3,i3⟩:=at4 3 (by omega);have l0:=hz 0 _ rfl;have l1:=hz 1 _ rfl;have l2:=hz 2 _ rfl;have l3:=hz 3 _ rfl;simp only[XG,O7,i0,i1,i2,i3,abt,Ia,abp,acY]at l0 l1 l2 l3;obtain⟨k4,rfl,g4⟩:=Bx l0;obtain⟨qa,rfl,hqa⟩:=Nv l1 (qp FD (j:=1) rfl i1 w4);obtain⟨qb,rfl,hqb⟩:=Nv l2 (qp FD (j:=2) rfl i2 w4);obtain⟨k7,rfl,g7⟩:=Bx l3;exact⟨⟨k0,k1,k2,k3,k4,qa,qb,k7,c8,docs,s⟩,rfl,hs,⟨g0,g1,g2,g3,g4,g7⟩,⟨nX hqa,nX hqb,nX hs1,nX hd1,λd hd=>nX (hd2 d hd)⟩⟩
theorem aeY(b off n:Nat):(⟨b,off,none⟩:Addr).add n=⟨b,off+n,none⟩:=by
 unfold iU;split;·rename_i h;subst h;rfl
 ·rfl
theorem Rw{v:ay}{d:nG H}{p:List AW}(h:DataW.Trod enc ah W base spare held 22 v d p)(hv:∃a0 len cap,v= .slice a0 len cap)(hw:∀n∈d.weights ah 22,n<=reachBytes):∃ops:List Tl.qf,Tl.qW W v ops/\Tl.ve ops.length:=by
 obtain⟨a0,I1,tC,rfl⟩:=hv;obtain⟨fuel,h⟩:=h;have hcells:(cY a0 I1 tC).cells.toList=[.slice a0 I1 tC]:=by simp[Gy]
 rw[hcells]at h;rcases open_slice FE h with⟨hcs,_⟩|⟨a,len,cap,m,n,D,Pl,hcs,_,hl,_,hm,hx,hi⟩;·simp only[fL,bA,and_true]at hcs;obtain⟨rfl,rfl,rfl⟩:=hcs;exact⟨[],⟨none,0,rfl,λi hi=>absurd hi (iB i)⟩,aW _⟩
 ·simp only[fL,bA,and_true]at hcs;obtain⟨rfl,rfl,rfl⟩:=hcs;rw[QB]at hi;simp only[Prod.mk.injEq]at hx;have hdw:=hx.1;subst hdw;have hle:I1<=m:=by rw[hm];split<;>omega
  have hel:∀i,i<I1->∃o:Tl.qf,(∀(j:Nat)u,o.cells[j]?=some u->W.cell? (a.add (i*10+j))=some u)/\Ts.jU W o.dv o.docs/\o.Fits/\o.QJ:=λi hil=>by obtain⟨cs',hc,ht⟩:=hi i (by omega);obtain⟨o,ho,h1,h2,h3⟩:=agR ht λn hn=>hw n (zw FE (List.mem_map.2 ⟨i,List.mem_range.2 hil,rfl⟩) hn);refine⟨o,λj u hu=>?_,h1,h2,h3⟩;obtain⟨_,_,hat⟩:=World.cells?_some hc;have hj:j<10:=(Array.getElem?_eq_some_iff.1 hu).1;have:=hat j hj;rw[<-ho,YG,hu,Go.Deep.add_add]at this;exact this
  have hch:∃f:Nat->Tl.qf,∀i,i<I1->(∀(j:Nat)u,(f i).cells[j]?=some u->W.cell? (a.add (i*10+j))=some u)/\Ts.jU W (f i).dv (f i).docs/\(f i).Fits/\(f i).QJ:=by classical refine⟨λi=>if hil:i<I1 then Classical.choose (hel i hil)else⟨0,0,0,0,0,[],[],0,.nilIface,[],[]⟩,λi hil=>?_⟩;have:=Classical.choose_spec (hel i hil);simpa only[dif_pos hil]using this
  obtain⟨f,hf⟩:=hch;refine⟨(List.range I1).map f,⟨some a,tC,by simp,λi hil=>?_⟩,?_⟩;·
   have amu:i<I1:=by simpa using hil
   have he:((List.range I1).map f)[i]=f i:=by simp
   rw[he];obtain⟨h1,h2,h3,h4⟩:=hf i amu;refine⟨?_,h2,h3,h4⟩;obtain⟨b,off,spot⟩:=a;have hs:spot=none:=by have:=agr ((hf 0 (by omega)).1 0 _ rfl);simpa[iU]using this
   subst hs;refine⟨b,off,rfl,λj u hu=>?_⟩;have:=h1 j u hu;rw[aeY]at this;rw[Nat.add_assoc];exact this
  ·have:=hw _ (Cf FE);have hb:Tryz.prog.bytesOf 37=120:=by kernel_rfl
   rw[hb]at this;rw[jx,List.length_range]at this⊢;exact nX (by omega)
end
end Go.Proofs.YtffjomnnkilhgaaGreatDoor.card
namespace Go.Proofs.YtffjomnnkilhgaaGreatDoor.card
open Go Go.ChangeShapes Go.WideShapes Go.ChangeAt Go.RowKit
noncomputable def yO (os:Os):ak :=
 let w0:=laidWorld os
 let h1:=w0.heap.modify 1 fun
   | .cells _ t frozen => .cells #[.iface 463 (.pointer (some ⟨w0.heap.size,0,none⟩))] t frozen
   | o=>o
 { w0 with heap:=h1.push (.cells #[.string ⟨#[118,97,114,105,110,116,58,32,98,97,100,32,98,121,116,101,115]⟩] 485 (0,0)) }
theorem Si(os:Os)(args:Array ay):laidMetH ah Rows.simpleRow.laid ((yO os).forCall (λ_ _=>0) ⟨#[],args,[]⟩).memory:=laidMetH_of_parts (laidMet_of_run' 8 (by kernel_rfl) (by kernel_rfl)) (by kernel_rfl)
theorem ND{W:ak}(hS:W.ShapedOpen ah):∃cs t r,W.heap[0]?=some (.cells cs t r)/\t≠168:=by obtain⟨z1,e1⟩:=zL (P:=ah) (g:=0) (t:=222) (by kernel_rfl);obtain⟨cs,h⟩:=pJ hS (of_decide_eq_true (by kernel_rfl)) e1;exact⟨cs,_,_,h,by decide⟩
end Go.Proofs.YtffjomnnkilhgaaGreatDoor.card
namespace Go.Proofs.Ts
open Go Go.RowKit
def uz(s:ByteArray)(R:kE)(w:ak)(f:Nat)(x:bC)(i:Nat)(wr:ak):Prop:=R=ey s f x i/\s.size<f+i/\i<=s.size/\trail s.data.toList i%2=0/\aI w.heap.size w wr
theorem U2(s:ByteArray)(w:ak)(hs:s.size<=1000000):aX ah 104 #[.string s] w (lA w (qo s)):=by
 obtain⟨R,hR⟩:∃R,R=qo s:=⟨_,rfl⟩;rw[<-hR];have H0:Hid (uz s R w (s.size+1) .empty 0 w):=ae ⟨hR,by omega,aW _,rfl,aB _ _⟩;clear hR;go_enter Tryz.func104,Tryz.ntmps104;go_wp2_with fail;go_loopw[4,5,6](λxv iv ov wr=>∃(f:Nat)(x:bC)(i:Nat),xv=x.val/\iv= .int .i64 i/\Hid (uz s R w f x i wr))(λxv iv ov _=>s.size-(intOf iv).toNat);case atStart=>exact⟨_,_,0,rfl,rfl,H0⟩
 case round=>
  obtain⟨f,x,i,rfl,rfl,HI⟩:=hrel;obtain⟨h1,h2,h3,h4,h5⟩:=id HI;obtain⟨f,rfl⟩:∃f',f=f'+1:=⟨f-1,by omega⟩;by_cases hlt:i<s.size;case neg=>have hRv:=h1.trans (Kb (at_end s i (by omega)));have q0:=decide_eq_false (by omega);subst hRv;clear h1 h2 h3 h4;have HB:=ae h5;clear h5;go_wp2_with fail;go_ret2;exact⟨HB,rfl⟩
  case pos=>
   have q0:=decide_eq_true (by omega);obtain⟨c,hc⟩:∃c,c=s[i]:=⟨_,rfl⟩;have hat:s.data.toList[i]?=some c:=by rw[hc];exact iP s i hlt
   obtain⟨W,hW⟩:∃W,W=wr.alloc (.cells #[uV 0,uV 0,uV 0,uV 0] 300):=⟨_,rfl⟩;have hbW:aI w.heap.size w W:=by rw[hW];exact h5.alloc h5.size _
   have hbs:gG W wr.heap.size .zero:=⟨bG.dL,by rw[hW];exact heap_alloc_new wr _⟩;have HW:=ae (aA hbW (aA hbs h5.size));have HWE:=ae hW;have HF:=ae (aA h1 (aA h2 (aA h4 hat)));have zo:=ae hc;have q1:IntKind.i64.wrap ((i:Int)+1)=(i:Int)+1:=aK _ (by omega);clear h1 h2 h3 h4 h5 hW hbW hbs hat hc;go_upto_region 6 with fail;rw[<-HWE];clear HWE;by_cases Hn:c=42;case pos=>
    have e42:((s[i]).toNat:Int)=42:=by rw[<-zo,Hn];rfl
    have htr:trail s.data.toList (i+1)=0:=oO HF.2.2.2 (by rw[Hn];decide);have hsub:i=0\/(0<i/\∃h:i-1<s.size,s[i-1]≠92)\/(0<i/\∃h:i-1<s.size,s[i-1]=92):=by
     by_cases hi:i=0;·exact .inl hi
     ·by_cases tP:s[i-1]'(by omega)=92;·exact .inr (.inr ⟨by omega,by omega,tP⟩)
      ·exact .inr (.inl ⟨by omega,by omega,tP⟩)
    go_wp2_with fail;have hcall:=rS wr.heap.size 0 255 .zero W HW.2.1 (by decide) (by decide);unfold aP at hcall;refine hcall.mono ?_;clear hcall;rintro e w5⟨rfl,hb5,nJ⟩;have H5:=ae (aA (show gG w5 wr.heap.size allB from hb5) (HW.1.trans (nZ nJ HW.2.2 HW.1.size)));clear hb5 nJ;rcases hsub with hi0|⟨hi0,hil,tP⟩|⟨hi0,hil,tP⟩;case inl=>
     have z0:((i:Int)==0)=true:=by rw[hi0];rfl
     clear hi0;obtain⟨o,ho⟩:∃o,o=allB:=⟨_,rfl⟩;have HO:=ae ho;have lC:=H5.1.same (Same.refl w5);rw[<-ho]at lC;clear ho;have k0:w5.cell? (aD wr.heap.size 0)=some (uV o.a):=aq lC.2;have k1:w5.cell? (aD wr.heap.size 1)=some (uV o.b):=aq lC.2;have k2:w5.cell? (aD wr.heap.size 2)=some (uV o.c):=aq lC.2;have k3:w5.cell? (aD wr.heap.size 3)=some (uV o.d):=aq lC.2;clear lC;go_wp2_with fail;have hcall:=ke x (.many (.one o) false) w5;refine hcall.mono ?_;clear hcall;rintro e w8⟨rfl,nK⟩;have HN:Hid (uz s R w f (x.join (.many (.one o) false)) (i+1) w8):=ae ⟨HF.1.trans ((xe HF.2.2.2 Hn).trans (by rw[HO.out])),by have:=HF.2.1;omega,by omega,by rw[htr],(H5.2.trans ((Same.refl w5).below _)).trans (nK.mono (H5.2.trans ((Same.refl w5).below _)).size)⟩;clear nK;go_wp2_with fail;exact⟨⟨f,_,i+1,rfl,by go_num,HN⟩,by simp[intOf];omega⟩
    case inr.inl=>
     have z0:=beq_eq_false_iff_ne.2 (by omega);have z1:IntKind.i64.wrap ((i:Int)-1)=((i-1:Nat):Int):=by rw[aK _ (by omega)];omega
     have z2:=decide_eq_true (by omega);have z3:(((s[i-1]).toNat:Int)!=92)=true:=by rw[bne_iff_ne];exactλh=>tP (UInt8.toNat_inj.1 (by show _=92;omega))
     obtain⟨o,ho⟩:∃o,o=allB:=⟨_,rfl⟩;have HO:=ae ho;have lC:=H5.1.same (Same.refl w5);rw[<-ho]at lC;clear ho;have k0:w5.cell? (aD wr.heap.size 0)=some (uV o.a):=aq lC.2;have k1:w5.cell? (aD wr.heap.size 1)=some (uV o.b):=aq lC.2;have k2:w5.cell? (aD wr.heap.size 2)=some (uV o.c):=aq lC.2;have k3:w5.cell? (aD wr.heap.size 3)=some (uV o.d):=aq lC.2;clear lC;go_wp2_with fail;have hcall:=ke x (.many (.one o) false) w5;refine hcall.mono ?_;clear hcall;rintro e w8⟨rfl,nK⟩;have HN:Hid (uz s R w f (x.join (.many (.one o) false)) (i+1) w8):=ae ⟨HF.1.trans ((xe HF.2.2.2 Hn).trans (by rw[HO.out])),by have:=HF.2.1;omega,by omega,by rw[htr],(H5.2.trans ((Same.refl w5).below _)).trans (nK.mono (H5.2.trans ((Same.refl w5).below _)).size)⟩;clear nK;go_wp2_with fail;exact⟨⟨f,_,i+1,rfl,by go_num,HN⟩,by simp[intOf];omega⟩
    case inr.inr=>
     have z0:((i:Int)==0)=false:=beq_eq_false_iff_ne.2 (by omega);have z1:IntKind.i64.wrap ((i:Int)-1)=((i-1:Nat):Int):=by rw[aK _ (by omega)];omega
     have z2:=decide_eq_true (by omega);have z3:((s[i-1]).toNat:Int)=92:=by rw[tP];rfl
     have Z5:=GF s i (by omega);have hez:kR (s.extract 0 i)<=1000000:=by simp;omega
     have EO:=Qv (s.extract 0 i) w5 hez;rw[Z5,decide_eq_true HF.2.2.1]at EO;clear Z5 hez;have TF:=ae EO;clear EO;go_upto_region 16 with(go_at_call 149;refine TF.mono ?_;rintro e w6⟨rfl,F9⟩;have q9:=ae F9;clear F9);obtain⟨o,ho⟩:∃o,o=allB:=⟨_,rfl⟩;have HO:=ae ho;have lC:=H5.1.same q9;rw[<-ho]at lC;clear ho;have k0:w6.cell? (aD wr.heap.size 0)=some (uV o.a):=aq lC.2;have k1:w6.cell? (aD wr.heap.size 1)=some (uV o.b):=aq lC.2;have k2:w6.cell? (aD wr.heap.size 2)=some (uV o.c):=aq lC.2;have k3:w6.cell? (aD wr.heap.size 3)=some (uV o.d):=aq lC.2;clear lC;go_wp2_with fail;have hcall:=ke x (.many (.one o) false) w6;refine hcall.mono ?_;clear hcall;rintro e w8⟨rfl,nK⟩;have HN:Hid (uz s R w f (x.join (.many (.one o) false)) (i+1) w8):=ae ⟨HF.1.trans ((xe HF.2.2.2 Hn).trans (by rw[HO.out])),by have:=HF.2.1;omega,by omega,by rw[htr],(H5.2.trans (q9.below _)).trans (nK.mono (H5.2.trans (q9.below _)).size)⟩;clear nK;go_wp2_with fail;exact⟨⟨f,_,i+1,rfl,by go_num,HN⟩,by simp[intOf];omega⟩
   case neg=>
    have e42:(((s[i]).toNat:Int)==42)=false:=beq_eq_false_iff_ne.2 λh=>Hn (by rw[zo];exact UInt8.toNat_inj.1 (by show _=42;omega));by_cases Pb:c=63;case pos=>
     have e63:((s[i]).toNat:Int)=63:=by rw[<-zo,Pb];rfl
     have htr:trail s.data.toList (i+1)=0:=oO HF.2.2.2 (by rw[Pb];decide);clear e42;go_wp2_with fail;have hcall:=rS wr.heap.size 0 255 .zero W HW.2.1 (by decide) (by decide);unfold aP at hcall;refine hcall.mono ?_;clear hcall;rintro e w5⟨rfl,hb5,nJ⟩;have H5:=ae (aA (show gG w5 wr.heap.size allB from hb5) (HW.1.trans (nZ nJ HW.2.2 HW.1.size)));clear hb5 nJ;obtain⟨o,ho⟩:∃o,o=allB:=⟨_,rfl⟩;have HO:=ae ho;have lC:=H5.1.same (Same.refl w5);rw[<-ho]at lC;clear ho;have k0:w5.cell? (aD wr.heap.size 0)=some (uV o.a):=aq lC.2;have k1:w5.cell? (aD wr.heap.size 1)=some (uV o.b):=aq lC.2;have k2:w5.cell? (aD wr.heap.size 2)=some (uV o.c):=aq lC.2;have k3:w5.cell? (aD wr.heap.size 3)=some (uV o.d):=aq lC.2;clear lC;go_wp2_with fail;have hcall:=ke x (.one o) w5;refine hcall.mono ?_;clear hcall;rintro e w8⟨rfl,nK⟩;have HN:Hid (uz s R w f (x.join (.one o)) (i+1) w8):=ae ⟨HF.1.trans ((GD HF.2.2.2 Hn Pb).trans (by rw[HO.out])),by have:=HF.2.1;omega,by omega,by rw[htr],(H5.2.trans ((Same.refl w5).below _)).trans (nK.mono (H5.2.trans ((Same.refl w5).below _)).size)⟩;clear nK;go_wp2_with fail;exact⟨⟨f,_,i+1,rfl,by go_num,HN⟩,by simp[intOf];omega⟩
    case neg=>
     have e63:(((s[i]).toNat:Int)==63)=false:=beq_eq_false_iff_ne.2 λh=>Pb (by rw[zo];exact UInt8.toNat_inj.1 (by show _=63;omega));by_cases JW:c=92;case neg=>
      have e92:(((s[i]).toNat:Int)==92)=false:=beq_eq_false_iff_ne.2 λh=>JW (by rw[zo];exact UInt8.toNat_inj.1 (by show _=92;omega));have htr:trail s.data.toList (i+1)=0:=oO HF.2.2.2 JW;go_upto_region 14 with fail;have Fz:(s[i]).toNat<256:=(s[i]).toNat_lt;refine eo [(0,false),(1,false),(2,false),(3,false),(4,false),(5,false),(6,true)] (λw'=>aI w.heap.size w w') (λc w'=>False) (λc a w' hd h=>h.elim) (by kernel_rfl) (by kernel_rfl) (HW.1.trans ((Same.drew _).below _)) ?_;iterate 6(
 refine bR ?_ rfl rfl (λw' hS=>?_) ?_;rotate_left;·go_simp;try rfl
 simp only[aN,ai,aj])
      refine dG rfl rfl (by decide) (λK hK=>?_);have HK:=ae hK;clear hK;go_simp;obtain⟨dn,hdn⟩:∃dn,dn=(s[i]).toNat:=⟨_,rfl⟩;rw[<-hdn]at Fz⊢;have hcall:=rS wr.heap.size dn dn .zero W.drew (HW.2.1.same (Same.drew _)) Fz Fz;unfold aP at hcall;refine hcall.mono ?_;clear hcall;rintro e w5⟨rfl,hb5,nJ⟩;have pY:aI w.heap.size w w5:=(HW.1.trans ((Same.drew _).below _)).trans (nZ nJ HW.2.2 (aZ HW.1.size (Below.size ((Same.drew W).below w.heap.size))));have H5:=ae (aA hb5 pY);have HDN:=ae hdn;clear hb5 nJ pY hdn Fz;refine HK _ _ H5.2 ?_;clear HK K;refine iM ?_;obtain⟨o,ho⟩:∃o,o=bG.zero.add dn dn:=⟨_,rfl⟩;have HO:=ae ho;have lC:=H5.1.same (Same.refl w5);rw[<-ho]at lC;clear ho;have k0:w5.cell? (aD wr.heap.size 0)=some (uV o.a):=aq lC.2;have k1:w5.cell? (aD wr.heap.size 1)=some (uV o.b):=aq lC.2;have k2:w5.cell? (aD wr.heap.size 2)=some (uV o.c):=aq lC.2;have k3:w5.cell? (aD wr.heap.size 3)=some (uV o.d):=aq lC.2;clear lC;go_wp2_with fail;have hcall:=ke x (.one o) w5;refine hcall.mono ?_;clear hcall;rintro e w8⟨rfl,nK⟩;have HN:Hid (uz s R w f (x.join (.one o)) (i+1) w8):=ae ⟨HF.1.trans ((Ka HF.2.2.2 Hn Pb JW).trans (by rw[HO.out,HDN.out,<-zo.out];rfl)),by have:=HF.2.1;omega,by omega,by rw[htr],(H5.2.trans ((Same.refl w5).below _)).trans (nK.mono (H5.2.trans ((Same.refl w5).below _)).size)⟩;clear nK;go_wp2_with fail;exact⟨⟨f,_,i+1,rfl,by go_num,HN⟩,by simp[intOf];omega⟩
     case pos=>
      have e92:((s[i]).toNat:Int)=92:=by rw[<-zo,JW];rfl
      have xU:trail s.data.toList (i+1)=trail s.data.toList i+1:=Eb (by rw[HF.2.2.2,JW]);clear e42 e63;obtain⟨j,hj⟩:∃j,j=i+1:=⟨_,rfl⟩;have HJ:=ae hj;have Jc:(i:Int)+1=(j:Int):=by omega
      rw[<-hj]at xU;clear hj;have xE:=ae xU;clear xU;rw[Jc]at q1;by_cases hjl:j<s.size;case neg=>
       have hjs:((j:Int)==(s.size:Int))=true:=by rw[beq_iff_eq];have:=HJ.out;omega
       have hRv:R= .fault j:=HF.1.trans ((Kc HF.2.2.2 Hn Pb JW (at_end s (i+1) (by have:=HJ.out;omega))).trans (by rw[HJ.out]));subst hRv;go_wp2_with fail;go_ret2;exact⟨HW.1.alloc HW.1.size _,W.heap.size,HW.1.size,rfl,heap_alloc_new W _⟩
      case pos=>
       have hjs:((j:Int)==(s.size:Int))=false:=beq_eq_false_iff_ne.2 (by omega);have q2:decide ((j:Int)<(s.size:Int))=true:=decide_eq_true (by omega);have aif:s.data.toList[i+1]?=some s[j]:=by rw[<-HJ];exact iP s j hjl
       have abg:=ae aif;clear aif;go_upto_region 14 with fail;have Fz:(s[j]).toNat<256:=(s[j]).toNat_lt;refine eo [(0,false),(1,false),(2,false),(3,false),(4,false),(5,false),(6,true)] (λw'=>aI w.heap.size w w') (λc w'=>False) (λc a w' hd h=>h.elim) (by kernel_rfl) (by kernel_rfl) (HW.1.trans ((Same.drew _).below _)) ?_;iterate 6(
 refine bR ?_ rfl rfl (λw' hS=>?_) ?_;rotate_left;·go_simp;try rfl
 simp only[aN,ai,aj])
       refine dG rfl rfl (by decide) (λK hK=>?_);have HK:=ae hK;clear hK;go_simp;obtain⟨dn,hdn⟩:∃dn,dn=(s[j]).toNat:=⟨_,rfl⟩;rw[<-hdn]at Fz⊢;have hcall:=rS wr.heap.size dn dn .zero W.drew (HW.2.1.same (Same.drew _)) Fz Fz;unfold aP at hcall;refine hcall.mono ?_;clear hcall;rintro e w5⟨rfl,hb5,nJ⟩;have pY:aI w.heap.size w w5:=(HW.1.trans ((Same.drew _).below _)).trans (nZ nJ HW.2.2 (aZ HW.1.size (Below.size ((Same.drew W).below w.heap.size))));have H5:=ae (aA hb5 pY);have HDN:=ae hdn;clear hb5 nJ pY hdn Fz;refine HK _ _ H5.2 ?_;clear HK K;refine iM ?_;obtain⟨o,ho⟩:∃o,o=bG.zero.add dn dn:=⟨_,rfl⟩;have HO:=ae ho;have lC:=H5.1.same (Same.refl w5);rw[<-ho]at lC;clear ho;have k0:w5.cell? (aD wr.heap.size 0)=some (uV o.a):=aq lC.2;have k1:w5.cell? (aD wr.heap.size 1)=some (uV o.b):=aq lC.2;have k2:w5.cell? (aD wr.heap.size 2)=some (uV o.c):=aq lC.2;have k3:w5.cell? (aD wr.heap.size 3)=some (uV o.d):=aq lC.2;clear lC;have q3:IntKind.i64.wrap ((j:Int)+1)=(j:Int)+1:=aK _ (by omega);by_cases d42:s[j]=42;case neg=>
        have w42:(((s[j]).toNat:Int)==42)=false:=beq_eq_false_iff_ne.2 λh=>d42 (UInt8.toNat_inj.1 (by show _=42;omega));have htr:trail s.data.toList (j+1)%2=0:=by
         by_cases d92:s[j]=92;·rw[Eb (by rw[<-d92];exact iP s j hjl),xE.out];have:=HF.2.2.1;omega
         ·rw[oO (iP s j hjl) d92]
        go_wp2_with fail;have hcall:=ke x (.one o) w5;refine hcall.mono ?_;clear hcall;rintro e w8⟨rfl,nK⟩;have HN:Hid (uz s R w f (x.join (.one o)) (j+1) w8):=ae ⟨HF.1.trans ((D7 HF.2.2.2 Hn Pb JW abg.out).trans (by rw[HO.out,HDN.out,show i+2=j+1 from by rw[HJ.out]];rfl)),by have:=HF.2.1;have:=HJ.out;omega,by omega,htr,(H5.2.trans ((Same.refl w5).below _)).trans (nK.mono (H5.2.trans ((Same.refl w5).below _)).size)⟩;have Yi:Hid (s.size-(j+1)<s.size-i):=ae (by have:=HJ.out;omega);clear nK;go_wp2_with fail;exact⟨⟨f,_,j+1,rfl,by go_num,HN⟩,by have:=Yi.out;simp[intOf];omega⟩
       case pos=>
        have w42:((s[j]).toNat:Int)=42:=by rw[d42];rfl
        have htr:trail s.data.toList (j+1)%2=0:=by rw[oO (iP s j hjl) (by rw[d42];decide)]
        have z0:((j:Int)==0)=false:=beq_eq_false_iff_ne.2 (by have:=HJ.out;omega);have z1:IntKind.i64.wrap ((j:Int)-1)=(i:Int):=by have:=HJ.out;rw[aK _ (by omega)];omega
        have z2:decide ((i:Int)<(s.size:Int))=true:=decide_eq_true (by omega);have Z5:=GF s j (by omega);have hez:kR (s.extract 0 j)<=1000000:=by simp;omega
        have EO:=Qv (s.extract 0 j) w5 hez;rw[Z5,xE.out,decide_eq_false (by have:=HF.2.2.1;omega)]at EO;clear Z5 hez;have TF:=ae EO;clear EO;go_upto_region 17 with(go_at_call 149;refine TF.mono ?_;rintro e w6⟨rfl,F9⟩;have q9:=ae F9;clear F9);clear k0 k1 k2 k3;have T9:=H5.1.same q9;rw[<-HO]at T9;have k0:w6.cell? (aD wr.heap.size 0)=some (uV o.a):=aq T9.2;have k1:w6.cell? (aD wr.heap.size 1)=some (uV o.b):=aq T9.2;have k2:w6.cell? (aD wr.heap.size 2)=some (uV o.c):=aq T9.2;have k3:w6.cell? (aD wr.heap.size 3)=some (uV o.d):=aq T9.2;clear T9;go_wp2_with fail;have hcall:=ke x (.one o) w6;refine hcall.mono ?_;clear hcall;rintro e w8⟨rfl,nK⟩;have HN:Hid (uz s R w f (x.join (.one o)) (j+1) w8):=ae ⟨HF.1.trans ((D7 HF.2.2.2 Hn Pb JW abg.out).trans (by rw[HO.out,HDN.out,show i+2=j+1 from by rw[HJ.out]];rfl)),by have:=HF.2.1;have:=HJ.out;omega,by omega,htr,(H5.2.trans (q9.below _)).trans (nK.mono (H5.2.trans (q9.below _)).size)⟩;have Yi:Hid (s.size-(j+1)<s.size-i):=ae (by have:=HJ.out;omega);clear nK;go_wp2_with fail;exact⟨⟨f,_,j+1,rfl,by go_num,HN⟩,by have:=Yi.out;simp[intOf];omega⟩
theorem Ol(a b:ByteArray)(n:Int)(most:Nat)(w:ak)(ha:a.size<=40)(hT:eN w)(h1:1<=most)(h4:most<=400):aX ah 68 #[.agg #[iV 4,.string a,.string b,iV n],iV most] w (QO w (qo a) most):=by
 obtain⟨P,hP⟩:∃P,P=qo a:=⟨_,rfl⟩;have HP:=ae hP;have HT:=ae hT;rw[<-hP];clear hP hT;go_enter Tryz.func68,Tryz.ntmps68;go_wp2_with fail;obtain⟨W,hW⟩:∃W,W=w.alloc (.cells #[iV 4,.string a,.string b,iV n] 34):=⟨_,rfl⟩;have hbW:aI w.heap.size w W:=by rw[hW];exact(aB _ w).alloc (au _) _
 rw[<-hW];have HW:=ae hbW;clear hW hbW;refine(U2 a W (by omega)).mono ?_;rw[<-HP];rintro e w2⟨hb2,CD⟩;have H2:=ae (HW.trans (hb2.mono HW.size));clear hb2;cases P with
  |fault i=>obtain⟨b2,hbl,rfl,hbb⟩:=CD;have QV:=ae (aA (aZ HW.size hbl) hbb);clear hbl hbb;unfold aP;go_wp2_with fail;go_ret3;exact⟨H2,.fault i,_,_,_,rfl,rfl,⟨b2,QV.1,rfl,QV.2⟩,.inr ⟨λ_ _ h=>(by cases h),rfl,rfl⟩⟩|big=>have OO:e=_:=CD;subst OO;go_wp2_with fail;go_ret3;exact⟨H2,.big,_,_,_,.inl rfl,rfl,rfl,.inr ⟨λ_ _ h=>(by cases h),rfl,rfl⟩⟩|ok x=>
   have OO:e=_:=CD;subst OO;have hxo:=(D8 HP.symm).1;have hxc:x.count<=128:=by have:=(D8 HP.symm).2;omega
   have HX:=ae (aA hxo hxc);clear hxo hxc;obtain⟨xv,hxv⟩:∃xv,xv=x.val:=⟨_,rfl⟩;rw[<-hxv];have HXV:=ae hxv;clear hxv;go_wp2_with fail;rw[HXV];refine(Aq x HX.1 HX.2 w2 (HT.below H2)).mono ?_;rintro e w3⟨rfl,ur,hb3⟩;have H3:=ae (aA ur (H2.trans (hb3.mono H2.size)));obtain⟨mb,hmb⟩:∃mb,mb=w2.heap.size:=⟨_,rfl⟩;rw[<-hmb]at H3⊢;have rh:=ae (show w.heap.size<=mb by rw[hmb];exact H2.size);clear ur hb3 hmb;unfold aP;go_wp2_with fail;have hcall:=GG mb most (PM.compile x) w3 H3.1 (o7 x HX.2) (HT.below H3.2) h1 h4;unfold aP at hcall;refine hcall.mono ?_;clear hcall;rintro e w4⟨hb4,hres⟩;have H4:=ae (aA (H3.1.below hb4) (H3.2.trans (hb4.mono H3.2.size)));clear hb4;rcases hres with⟨rfl,wK⟩|⟨tb,L,ib,sv,ov,kv,oI,sets,rows,rfl,hok,hall,hlen,hmem⟩;·go_wp2_with fail;go_ret3;exact⟨H4.2,.big,_,_,_,.inr ⟨x,rfl,wK⟩,rfl,rfl,.inr ⟨λ_ _ h=>(by cases h),rfl,rfl⟩⟩
   ·have xE:=ae (aA hok (aA hall (aA hlen hmem)));clear hok hall hlen hmem;unfold aP;go_wp2_with fail;have hcall:=xm mb tb ib w3.heap.size (PM.compile x) L sv ov kv oI sets rows w4 H4.1 (o7 x HX.2) xE.1 xE.2.1 (aZ xE.2.2.1 h4) xE.2.2.2;unfold aP at hcall;refine hcall.mono ?_;clear hcall;rintro e w5⟨c,rfl,hl,hb5⟩;have H5:=ae (aA hl (aA (H4.1.below hb5) (H4.2.trans (hb5.mono H4.2.size))));clear hl hb5;go_wp2_with fail;go_ret3;refine⟨H5.2.2,.ok x c,_,_,_,⟨rfl,⟨sets,λs hs=>xE.1.all xE.2.1 hs,xE.2.2.1⟩,H5.1⟩,rfl,rfl,.inl ⟨x,c,rfl,rfl,mb,rh,rfl,H5.2.1⟩⟩
end Go.Proofs.Ts
namespace Go.Proofs.Tl
open Go Go.RowKit Go.Proofs.Ts
theorem Wh{w:ak}{g:Nat}{L:List Int}{cs:Array ay}(hc:cs=(L.map Wp).toArray)(h:w.heap[g]?=some (.cells cs 3 (0,0)))(hl:L.length<=100):fV w (sL g L.length L.length) L:=by subst hc;refine⟨by simp,.inr ⟨g,L.length,_,rfl,aW _,h,au _,by unfold maxLen;omega,by simp,by simp[vJ]⟩⟩
def fN(k:Nat)(hs:List Bool)(a b:ay):List ay:= .int .i64 k::(hs.map mz++[a,b])
def bP(w:ak)(nb k:Nat)(hs:List Bool)(a b:ay):Prop:=hs.length=256/\w.heap[nb]?=some (.cells (fN k hs a b).toArray 138 (0,0))
def bu(w:ak):bC->Nat->Prop| .empty,nb=>bP w nb 0 (aQ 256 false) (.pointer none) (.pointer none)| .iW,_=>False| .one s,nb=>∃hs,bP w nb 1 hs (.pointer none) (.pointer none)/\∀c,c<256->hs.getD c false=s.has c| .seq x y,nb=>∃hs a b,bP w nb 2 hs (aP a) (aP b)/\bu w x a/\bu w y b| .or x y,nb=>∃hs a b,bP w nb 3 hs (aP a) (aP b)/\bu w x a/\bu w y b| .many x sm,nb=>∃hs a,bP w nb (if sm then 5 else 4) hs (aP a) (.pointer none)/\bu w x a| .maybe x,nb=>∃hs a,bP w nb 6 hs (aP a) (.pointer none)/\bu w x a
theorem bP.lt{w:ak}{nb k:Nat}{hs:List Bool}{a b:ay}(h:bP w nb k hs a b):nb<w.heap.size:=lt_of_heap h.2
theorem bP.old{w w':ak}{nb k:Nat}{hs:List Bool}{a b:ay}(h:bP w nb k hs a b)(e:w'.heap[nb]?=w.heap[nb]?):bP w' nb k hs a b:=⟨h.1,e.trans h.2⟩
theorem bu.lt{w:ak}{x:bC}{nb:Nat}(h:bu w x nb):nb<w.heap.size:=by cases x with|empty=>exact bP.lt h|iW=>exact h.elim|one s=>obtain⟨_,h,_⟩:=h;exact h.lt|seq x y=>obtain⟨_,_,_,h,_⟩:=h;exact h.lt|or x y=>obtain⟨_,_,_,h,_⟩:=h;exact h.lt|many x sm=>obtain⟨_,_,h,_⟩:=h;exact h.lt|maybe x=>obtain⟨_,_,h,_⟩:=h;exact h.lt
theorem bu.old{w w':ak}{N:Nat}(hk:∀b,b<N->w'.heap[b]?=w.heap[b]?):∀{x:bC}{nb:Nat},w.heap.size<=N->bu w x nb->bu w' x nb| .empty,nb,hN,h=>by have:=bu.lt h;exact bP.old h (hk _ (by omega))| .iW,_,_,h=>h.elim| .one s,nb,hN,h=>by have:=h.lt;obtain⟨hs,h,h2⟩:=h;exact⟨hs,h.old (hk _ (by omega)),h2⟩| .seq x y,nb,hN,h=>by have:=h.lt;obtain⟨hs,a,b,h,h2,h3⟩:=h;exact⟨hs,a,b,h.old (hk _ (by omega)),bu.old hk hN h2,bu.old hk hN h3⟩| .or x y,nb,hN,h=>by have:=h.lt;obtain⟨hs,a,b,h,h2,h3⟩:=h;exact⟨hs,a,b,h.old (hk _ (by omega)),bu.old hk hN h2,bu.old hk hN h3⟩| .many x sm,nb,hN,h=>by have:=h.lt;obtain⟨hs,a,h,h2⟩:=h;exact⟨hs,a,h.old (hk _ (by omega)),bu.old hk hN h2⟩| .maybe x,nb,hN,h=>by have:=h.lt;obtain⟨hs,a,h,h2⟩:=h;exact⟨hs,a,h.old (hk _ (by omega)),bu.old hk hN h2⟩
theorem bu.below{w w':ak}{x:bC}{nb:Nat}(h:bu w x nb)(hb:aI w.heap.size w w'):bu w' x nb:=bu.old (λb hlt=>hb.block b hlt) (au _) h
section
variable{w:ak}{nb k:Nat}{hs:List Bool}{a b:ay}
theorem bP.shape(h:bP w nb k hs a b):w.cell? (aD nb 0)=some (iV k):=aq h.2
theorem bP.flag(h:bP w nb k hs a b){c:Nat}(hc:c<256):w.cell? (aD nb (1+c))=some (.bool (hs.getD c false)):=by rw[aq h.2];have hl:=h.1;unfold fN;rw[asw 1 c];simp[AY,hl,hc,bp,aw,ar (show c<hs.length by omega)]
theorem bP.left(h:bP w nb k hs a b):w.cell? (aD nb 257)=some a:=by rw[aq h.2];have hl:=h.1;unfold fN;simp[AY,hl]
theorem bP.right(h:bP w nb k hs a b):w.cell? (aD nb 258)=some b:=by rw[aq h.2];have hl:=h.1;unfold fN;simp[AY,hl]
end
theorem bP.free{w:ak}{nb k:Nat}{hs:List Bool}{a b:ay}(h:bP w nb k hs a b)(i:Nat):w.frozen? (aD nb i)=false:=aU h.2
theorem bP.set{w:ak}{nb k:Nat}{hs:List Bool}{a b:ay}(h:bP w nb k hs a b)(c:Nat)(v:Bool)(hc:c<256):bP (w.setCell (aD nb (1+c)) (.bool v)) nb k (hs.set c v) a b:=by refine⟨by rw[bW];exact h.1,?_⟩;rw[heap_setCell_same w nb (1+c) _ _ _ h.2];have hl:=h.1;unfold fN;rw[asw 1 c];simp[Y9,hl,hc,CZ]
theorem bP.same{w w':ak}{nb k:Nat}{hs:List Bool}{a b:ay}(h:bP w nb k hs a b)(s:Same w w'):bP w' nb k hs a b:=h.old (by rw[s.heap])
def dW:List Bool:=aQ 256 false
theorem Tryz.DX:Tryz.zeroCells138=(fN 0 dW (.pointer none) (.pointer none)).toArray:=by kernel_rfl
theorem Tryz.S6:Tryz.zeroCells138.setIfInBounds 0 (.int .i64 1)=(fN 1 dW (.pointer none) (.pointer none)).toArray:=by kernel_rfl
theorem Tryz.VA(k:Int)(a b:ay):((Tryz.zeroCells138.setIfInBounds 0 (.int .i64 k)).setIfInBounds 257 a).setIfInBounds 258 b=(Value.int .i64 k::(dW.map mz++[a,b])).toArray:=by kernel_rfl
theorem Tryz.VX(k:Int)(a:ay):(Tryz.zeroCells138.setIfInBounds 0 (.int .i64 k)).setIfInBounds 257 a=(Value.int .i64 k::(dW.map mz++[a,.pointer none])).toArray:=by kernel_rfl
/-!### Rows of flags. -/
def bY(w:ak)(b:Nat)(l:List Bool):Prop:=w.heap[b]?=some (.cells (l.map mz).toArray 4 (0,0))
section
variable{w w':ak}{b:Nat}{l:List Bool}
theorem bY.lt(h:bY w b l):b<w.heap.size:=lt_of_heap h
theorem bY.cell(h:bY w b l){i:Nat}(hi:i<l.length):w.cell? (aD b i)=some (.bool (l.getD i false)):=by rw[aq h];simp[ar hi,aw]
theorem bY.free(h:bY w b l)(i:Nat):w.frozen? (aD b i)=false:=aU h
theorem bY.set(h:bY w b l)(i:Nat)(v:Bool):bY (w.setCell (aD b i) (.bool v)) b (l.set i v):=by unfold bY;rw[heap_setCell_same w b i _ _ _ h];simp[CZ]
theorem bY.old(h:bY w b l)(hb:w'.heap[b]?=w.heap[b]?):bY w' b l:=hb.trans h
theorem bY.same(h:bY w b l)(k:Same w w'):bY w' b l:=by unfold bY;rw[k.heap];exact h
theorem bY.below(h:bY w b l)(hb:aI w.heap.size w w'):bY w' b l:=h.old (hb.block b h.lt)
end
def ja(b n:Nat):ay:= .slice (some ⟨b,0,none⟩) n n
theorem tz(l:List Bool)(i j:Nat)(v:Bool)(h:i<l.length):(l.set i v).getD j false=if j=i then v else l.getD j false:=by
 simp only[aw,fD];by_cases hj:i=j;·subst hj;simp[h]
 ·rw[if_neg hj,if_neg (λe=>hj e.symm)]
theorem Tryz.abC:(Tryz.prog.info? 4).map (λi=>(i.zero,i.size,i.bytes))=some (some (.bool false),1,1):=by kernel_rfl
theorem Oi(n:Nat):madeCells #[.bool false] n=((aQ n false).map mz).toArray:=by apply Array.toList_inj.1;rw[toList_madeCells_one];simp
theorem bY.made(w:ak)(n:Nat):bY (w.alloc (.cells (madeCells #[.bool false] n) 4)) w.heap.size (aQ n false):=by unfold bY;rw[<-Oi];exact heap_alloc_new _ _
theorem yK(n:Nat)(z:Int)(hz:z=n)(hn:n<=1000000)(W:ak):(Instr.makeSlice 151 (iV z) (iV z)).run ah W= .ok (sL W.heap.size n n) (W.alloc (.cells (madeCells #[.bool false] n) 4)):=by obtain⟨i0,hi,hz0,hz1,hz2⟩:=info_parts Tryz.abC;subst hz;have:=run_make (P:=ah) W 151 4 i0 (.bool false) Tryz.underlying151 hi hz0 .i64 .i64 n n (by omega) (Int.le_refl _) (by rw[hz2];omega) (by omega);rw[hz1]at this;simpa[Gy]using this
end Go.Proofs.Tl
namespace Go.Proofs.Ts
open Go
/-!### Machines in which each place leads to one place. -/
/-!### One byte. -/
theorem bG.sX(s:bG)(i j v:Nat)(hi:i<4)(hj:j<4):(s.rA i v).word j=if i=j then v else s.word j:=by match i,j,hi,hj with|0,0,_,_=>rfl|0,1,_,_=>rfl|0,2,_,_=>rfl|0,3,_,_=>rfl|1,0,_,_=>rfl|1,1,_,_=>rfl|1,2,_,_=>rfl|1,3,_,_=>rfl|2,0,_,_=>rfl|2,1,_,_=>rfl|2,2,_,_=>rfl|2,3,_,_=>rfl|3,0,_,_=>rfl|3,1,_,_=>rfl|3,2,_,_=>rfl|3,3,_,_=>rfl
theorem bG.Xh(s:bG)(k j:Nat)(hk:k<256)(hj:j<256):(s.on k).has j=(decide (j=k)||s.has j):=by
 unfold bG.on bG.has;rw[bG.sX _ _ _ _ (by omega) (by omega)];split;·rename_i h;rw[Nat.testBit_or,Nat.testBit_two_pow,h,Bool.or_comm];congr 1;rw[Bool.eq_iff_iff,decide_eq_true_eq,decide_eq_true_eq];omega
 ·rename_i h;rw[decide_eq_false (by intro e;subst e;exact h rfl),MN]
theorem bG.ES(s:bG)(lo j:Nat)(hj:j<256):∀n,lo+n<=256->(s.addN lo n).has j=(decide (lo<=j/\j<lo+n)||s.has j)|0,_=>by rw[decide_eq_false (by omega)];rfl|n+1,h=>by show((s.addN lo n).on (lo+n)).has j=_;rw[bG.Xh _ _ _ (by omega) hj,bG.ES s lo j hj n (by omega),<-aoZ,<-Bool.decide_or];congr 1;rw[decide_eq_decide];omega
theorem J2(j:Nat):bG.zero.has j=false:=by unfold bG.has bG.word bG.zero;split<;>simp
theorem VF(c d:UInt8):(wA c).has d.toNat=decide (d=c):=by
 have h1:=c.toNat_lt;have h2:=d.toNat_lt;show(bG.zero.addN c.toNat (c.toNat+1-c.toNat)).has d.toNat=_;rw[bG.ES _ _ _ h2 _ (by omega),J2,Bool.or_false,decide_eq_decide];constructor;·intro h;exact UInt8.toNat_inj.1 (by omega)
 ·rintro rfl;omega
theorem XX(d:UInt8):allB.has d.toNat=true:=by have h2:=d.toNat_lt;show(bG.zero.addN 0 (255+1-0)).has d.toNat=_;rw[bG.ES _ _ _ h2 _ (by omega),decide_eq_true (by omega)];rfl
/-!### A word, byte by byte. -/
end Go.Proofs.Ts
namespace Go.Proofs.Tl
open Go Go.RowKit Go.Proofs.Ts
theorem Bt{w:ak}{nb:Nat}{c:UInt8}(h:bP w nb 1 (dW.set c.toNat true) (.pointer none) (.pointer none)):bu w (.one (wA c)) nb:=by
 refine⟨_,h,λd hd=>?_⟩;have e:(cS d).toNat=d:=by simp[M3];omega
 rw[<-e,VF,tz _ _ _ _ (by rw[show dW.length=256 from bK];exact ia c)];by_cases hc:cS d=c;·subst hc;simp
 ·rw[if_neg (λh=>hc (UInt8.toNat_inj.1 h)),decide_eq_false hc];unfold dW;rw[aw,cu];split<;>rfl
theorem Bu{w:ak}{nb:Nat}(h:bP w nb 1 (aQ 256 true) (.pointer none) (.pointer none)):bu w (.one allB) nb:=by
 refine⟨_,h,λd hd=>?_⟩;have e:(cS d).toNat=d:=by simp[M3];omega
 rw[<-e,XX,aw,cu,if_pos (by rw[e];exact hd)];rfl
theorem bu.Bg{w:ak}{nb:Nat}(h:bu w .empty nb):w.cell? (aD nb 0)=some (iV 0):=by exact bP.shape h
theorem bu.shape{w:ak}{x:bC}{nb:Nat}(h:bu w x nb)(hx:x≠ .empty):∃k:Int,w.cell? (aD nb 0)=some (iV k)/\(k==0)=false:=by cases x with|empty=>exact absurd rfl hx|iW=>exact h.elim|one s=>obtain⟨_,h,_⟩:=h;exact⟨_,h.shape,rfl⟩|seq x y=>obtain⟨_,_,_,h,_⟩:=h;exact⟨_,h.shape,rfl⟩|or x y=>obtain⟨_,_,_,h,_⟩:=h;exact⟨_,h.shape,rfl⟩|many x sm=>obtain⟨_,_,h,_⟩:=h;cases sm<;>exact⟨_,h.shape,rfl⟩|maybe x=>obtain⟨_,_,h,_⟩:=h;exact⟨_,h.shape,rfl⟩
theorem join_some{x y:bC}(hx:x≠ .empty)(hy:y≠ .empty):x.join y= .seq x y:=by cases x<;>cases y<;>first|rfl|exact absurd rfl hx|exact absurd rfl hy
theorem xg(w:ak)(k:Nat)(a b:ay):bP (w.alloc (.cells (((Tryz.zeroCells138.setIfInBounds 0 (iV (k:Int))).setIfInBounds 257 a).setIfInBounds 258 b) 138)) w.heap.size k dW a b:=by refine⟨bK,?_⟩;rw[Tryz.VA];exact heap_alloc_new _ _
theorem pV(w:ak)(k:Nat)(a:ay):bP (w.alloc (.cells ((Tryz.zeroCells138.setIfInBounds 0 (iV (k:Int))).setIfInBounds 257 a) 138)) w.heap.size k dW a (.pointer none):=by refine⟨bK,?_⟩;rw[Tryz.VX];exact heap_alloc_new _ _
theorem qI(w:ak):bP (w.alloc (.cells (Tryz.zeroCells138.setIfInBounds 0 (iV 1)) 138)) w.heap.size 1 dW (.pointer none) (.pointer none):=by refine⟨bK,?_⟩;rw[Tryz.S6];exact heap_alloc_new _ _
theorem bu.cat{w:ak}{x y:bC}{nb mb:Nat}(hx:bu w x nb)(hy:bu w y mb)(h1:x≠ .empty)(h2:y≠ .empty):bu (w.alloc (.cells (((Tryz.zeroCells138.setIfInBounds 0 (iV 2)).setIfInBounds 257 (pT nb)).setIfInBounds 258 (pT mb)) 138)) (x.join y) w.heap.size:=by rw[join_some h1 h2];have hb:aI w.heap.size w (w.alloc (.cells (((Tryz.zeroCells138.setIfInBounds 0 (iV 2)).setIfInBounds 257 (pT nb)).setIfInBounds 258 (pT mb)) 138)):=(aB _ w).alloc (au _) _;exact⟨dW,nb,mb,xg w 2 _ _,hx.below hb,hy.below hb⟩
theorem count_nil(w:ak):aX ah 117 #[.pointer none] w λe w'=>e= .returned (iV 0)/\aI w.heap.size w w':=by go_enter asr,aoU;go_wp2_with fail;go_ret;exact⟨rfl,aB _ _⟩
def abm(x:bC):Prop:=∀(nb:Nat)(w:ak),bu w x nb->x.count<=100000->aX ah 117 #[aP nb] w λe w'=>e= .returned (.int .i64 x.count)/\aI w.heap.size w w'
theorem oq(nb k:Nat)(hs:List Bool)(av bv:ay)(w:ak)(ca cb:Nat)(hn:bP w nb k hs av bv)(hc:ca+cb<=100000)(ha:∀W,aI w.heap.size w W->aX ah 117 #[av] W λe w'=>e= .returned (iV ca)/\aI W.heap.size W w')(hb:∀W,aI w.heap.size w W->aX ah 117 #[bv] W λe w'=>e= .returned (iV cb)/\aI W.heap.size W w'):aX ah 117 #[aP nb] w λe w'=>e= .returned (iV ((ca+cb+if k=1 then 1 else 0:Nat):Int))/\aI w.heap.size w w':=by
 have c0:=hn.shape;have c1:=hn.left;have c2:=hn.right;have HA:=ae ha;have HB:=ae hb;have HN:=ae hn;clear ha hb hn;have q1:IntKind.i64.wrap ((ca:Int)+(cb:Int))=(ca:Int)+(cb:Int):=aK _ (by omega);have q2:IntKind.i64.wrap ((ca:Int)+(cb:Int)+1)=(ca:Int)+(cb:Int)+1:=aK _ (by omega);obtain⟨z,hz⟩:∃z:Int,z=if k=1 then 1 else 0:=⟨_,rfl⟩;have hpost:∀(e:rY)(w':ak),(e= .returned (iV ((ca:Int)+(cb:Int)+z))/\aI w.heap.size w w')->(e= .returned (iV ((ca+cb+if k=1 then 1 else 0:Nat):Int))/\aI w.heap.size w w'):=by rintro e w'⟨rfl,h⟩;refine⟨?_,h⟩;rw[hz];split<;>simp
 refine Calls.mono ?_ hpost;clear hpost;unfold aP;have HS:=ae (show∀W,aI w.heap.size w W->W.cell? (aD nb 0)=some (iV k)/\W.cell? (aD nb 257)=some av/\W.cell? (aD nb 258)=some bv fromλW h=>⟨(h.cell (p:=(aD nb 0)) HN.lt).trans c0,(h.cell (p:=(aD nb 257)) HN.lt).trans c1,(h.cell (p:=(aD nb 258)) HN.lt).trans c2⟩);clear c0 c1 c2;have hkk:(k=1/\z=1)\/(((k:Int)==1)=false/\z=0):=by
  by_cases hk:k=1;·exact .inl ⟨hk,by rw[hz,if_pos hk]⟩
  ·exact .inr ⟨by rw[beq_eq_false_iff_ne];omega,by rw[hz,if_neg hk]⟩
 have HKK:=ae hkk;clear hkk hz;go_enter asr,aoU;go_upto_region 3 with fail;refine bB [(0,false),(1,false),(2,false),(3,false),(5,false),(6,false),(7,false),(8,false),(4,true),(9,true),(10,false),(11,false)] 1000 (λw'=>aI w.heap.size w w') (by kernel_rfl) (by kernel_rfl) ((Same.drew w).below _) ?_;iterate 8(
 refine aR ?_ rfl rfl (λw' hS=>?_) ?_;rotate_left;·obtain⟨f0,f1,f2⟩:=HS.out _ hS;go_simp;try rfl
 simp only[aN,ai,aj])
 refine bg rfl rfl (by decide) (λK hK=>?_);have HK:=ae hK;clear hK;go_simp;refine(HA _ ((Same.drew w).below _)).mono ?_;rintro e w2⟨rfl,hb2⟩;have hb3:aI w.heap.size w w2:=((Same.drew w).below _).trans hb2;refine HK _ _ hb3 ?_;clear HK K;try simp only[aN,ai,aj]
 refine bg rfl rfl (by decide) (λK hK=>?_);have HK:=ae hK;clear hK;go_simp;refine(HB _ hb3).mono ?_;rintro e w4⟨rfl,hb4⟩;have hb5:aI w.heap.size w w4:=hb3.trans (hb4.mono hb3.size);refine HK _ _ hb5 ?_;clear HK K;try simp only[aN,ai,aj]
 iterate 2(
 refine aR ?_ rfl rfl (λw' hS=>?_) ?_;rotate_left;·go_simp;try rfl
 simp only[aN,ai,aj])
 refine cV ?_;obtain⟨f0,_,_⟩:=HS.out _ hb5;have H5:=ae hb5;clear hb2 hb3 hb4 hb5;rcases HKK.out with⟨hk,hz⟩|⟨hk,hz⟩;·subst hk;subst hz;go_wp2_with fail;go_ret;exact⟨rfl,H5⟩
 ·subst hz;have h0:(ca:Int)+(cb:Int)+0=(ca:Int)+(cb:Int):=Int.add_zero _;go_wp2_with fail;go_ret;exact⟨by first|rfl|(rw[h0];rfl)|(simp;done),H5.out⟩
theorem lH:∀x:bC,abm x| .empty=>λnb w hN hc=>(oq nb 0 _ _ _ w 0 0 hN (by omega) (λW _=>count_nil W) (λW _=>count_nil W))| .iW=>λnb w hN hc=>hN.elim| .one b=>λnb w hN hc=>by obtain⟨hs,hn,_⟩:=hN;exact oq nb 1 _ _ _ w 0 0 hn (by omega) (λW _=>count_nil W) (λW _=>count_nil W)| .seq x y=>λnb w hN hc=>by obtain⟨hs,a,b,hn,h1,h2⟩:=hN;have hc':x.count+y.count<=100000:=hc;exact oq nb 2 _ _ _ w x.count y.count hn hc' (λW hW=>lH x a W (h1.below hW) (by omega)) (λW hW=>lH y b W (h2.below hW) (by omega))| .or x y=>λnb w hN hc=>by obtain⟨hs,a,b,hn,h1,h2⟩:=hN;have hc':x.count+y.count<=100000:=hc;exact oq nb 3 _ _ _ w x.count y.count hn hc' (λW hW=>lH x a W (h1.below hW) (by omega)) (λW hW=>lH y b W (h2.below hW) (by omega))| .many x sm=>λnb w hN hc=>by obtain⟨hs,a,hn,h1⟩:=hN;have hc':x.count<=100000:=hc;have:=oq nb _ _ _ _ w x.count 0 hn (by omega) (λW hW=>lH x a W (h1.below hW) (by omega)) (λW _=>count_nil W);rw[if_neg (by cases sm<;>decide)]at this;exact this| .maybe x=>λnb w hN hc=>by obtain⟨hs,a,hn,h1⟩:=hN;have hc':x.count<=100000:=hc;exact oq nb 6 _ _ _ w x.count 0 hn (by omega) (λW hW=>lH x a W (h1.below hW) (by omega)) (λW _=>count_nil W)
theorem Lc(l:List Nat):∀u∈l.map cJ,u.oneCell'=true:=λu hu=>by obtain⟨t,_,rfl⟩:=List.mem_map.1 hu;rfl
theorem Ey{w:ak}{a:Option Addr}{n c:Nat}{l:List Nat}(h:w.ownsRow 0 3 1 (.slice a n c) l.length (l.map cJ)):∀(j:Nat)u,(l.map cJ)[j]?=some u->∃b,a=some b/\w.cell? (b.add j)=some u:=by have:=rJ h 0 a (λg e _=>by rcases oJ h with rfl|⟨g',rfl⟩<;>simp_all[Value.ownBlock]) l.length;rw[Ia,vJ (by simp)]at this;exact this
theorem XJ(a b:List Nat)(va vb:ay)(w:ak)(ha:dE w va a)(hb:dE w vb b)(hl:a.length+b.length<=100000):aX ah 163 #[va,vb] w λe w'=>∃v,e= .returned v/\dE w' v (a++b)/\kp w.heap.size v/\aI w.heap.size w w':=by
 obtain⟨i0,hi,hz0,hz1,hz2⟩:=info_parts Tryz.info3;obtain⟨ea,ca,rfl⟩:=ownsRow_form ha;obtain⟨eb,cb,rfl⟩:=ownsRow_form hb;have hnil:w.ownsRow 0 3 1 (.slice none 0 0) 0 []:=bS _ _ _ _;have HPA:=ae (Ey ha);have HB:=ae hb;have hal:(a.map cJ).length=a.length*1:=by simp
 have hbl:(b.map cJ).length=b.length*1:=by simp
 clear ha hb;go_enter Tryz.func163,Tryz.ntmps163;go_upto_region 2 with(at_builtin;refine fC rfl _ _ 24 rfl 3 i0 (iV 0) 1 8 sP hi hz0 hz1 hz2 rfl (by decide) (.slice none 0 0) 0 [] rfl hnil ea a.length ca (a.map cJ) rfl hal HPA (Lc a) (by unfold maxLen;omega) (by omega) ?_;intro v1 W1 oX LA _;rw[Nat.zero_add,List.nil_append]at oX;have BW:=ae oX;have YX:=ae LA;clear oX LA);have hb1:aI w.heap.size w W1:=YX.below (λk e=>by cases e) (aB _ _) (au _);have HPB:=ae (Ey (HB.below hb1));have jG:=ae hb1;clear hb1;go_wp2_with(at_builtin;refine fC rfl _ _ 24 rfl 3 i0 (iV 0) 1 8 sP hi hz0 hz1 hz2 rfl (by decide) v1 a.length (a.map cJ) rfl BW eb b.length cb (b.map cJ) rfl hbl HPB (Lc b) (by unfold maxLen;omega) (by omega) ?_;intro v2 W2 hrow2 Lx _;have tI:=ae hrow2;have MD:=ae (YX.trans Lx);clear hrow2 Lx);go_ret;refine⟨v2,rfl,?_,MD.past (λk h=>by cases h) (au _),MD.below (λk e=>by cases e) (aB _ _) (au _)⟩;unfold dE;rw[bh,cQ];exact tI
structure eA (w:ak) (sb c:Nat) (ns fs:List Nat) (rows:List (List Bool)):Prop where
 ex:∃ hv fv,w.heap[sb]?=some (.cells #[hv,fv] 150 (0,0))/\w.ownsRow 0 81 1 hv ns.length (ns.map aP)/\w.ownsRow 0 151 1 fv fs.length (fs.map fun f=>ja f c)
 nd:fs.Nodup
 len:rows.length=fs.length
 row:∀ (i:Nat) f l,fs[i]?=some f->rows[i]?=some l->bY w f l/\l.length=c
def jg(rows:List (List Bool))(i j:Nat):Bool:=(rows.getD i []).getD j false
def dQ(w w':ak):Prop:=∀(k:Nat)cs t r,w.heap[k]?=some (.cells cs t r)->t≠4->w'.heap[k]?=w.heap[k]?
theorem dQ.refl(w:ak):dQ w w:=λ_ _ _ _ _ _=>rfl
theorem dQ.trans{a b c:ak}(h:dQ a b)(k:dQ b c):dQ a c:=λn cs t r hn ht=>by have e:=h n cs t r hn ht;exact(k n cs t r (e.trans hn) ht).trans e
theorem dQ.set{w:ak}{f j:Nat}{l:List Bool}(h:bY w f l)(v:ay):dQ w (w.setCell (aD f j) v):=λn cs t r hn ht=>by refine az w _ _ n (λe=>?_);subst e;rw[show w.heap[n]?=_ from h]at hn;cases hn;exact ht rfl
theorem dQ.same{w w':ak}(h:Same w w'):dQ w w':=λn cs t r hn ht=>by rw[h.heap]
theorem dQ.ints{w w':ak}(h:dQ w w'){v:ay}{l:List Nat}(hv:dE w v l):dE w' v l:=bT hv λk cs r hk=>h k cs _ r hk (by decide)
theorem eA.keep{w w':ak}{sb c:Nat}{ns fs:List Nat}{rows:List (List Bool)}(h:eA w sb c ns fs rows)(hk:dQ w w')(rows':List (List Bool))(hl:rows'.length=rows.length)(hr:∀(i:Nat)f l,fs[i]?=some f->rows'[i]?=some l->bY w' f l/\l.length=c):eA w' sb c ns fs rows':=by obtain⟨hv,fv,h1,h2,h3⟩:=h.ex;exact⟨⟨hv,fv,(hk _ _ _ _ h1 (by decide)).trans h1,bT h2 λk cs r hk'=>hk k cs _ r hk' (by decide),bT h3 λk cs r hk'=>hk k cs _ r hk' (by decide)⟩,h.nd,hl.trans h.len,hr⟩
theorem eA.set{w:ak}{sb c:Nat}{ns fs:List Nat}{rows:List (List Bool)}(h:eA w sb c ns fs rows){i j f:Nat}(hf:fs[i]?=some f)(hj:j<c):eA (w.setCell (aD f j) (.bool true)) sb c ns fs (rows.set i ((rows.getD i []).set j true)):=by
 have hi:i<rows.length:=by rw[h.len];exact(List.getElem?_eq_some_iff.1 hf).1
 have OD:rows[i]?=some rows[i]:=ar hi;obtain⟨h1,h2⟩:=h.row i f _ hf OD;refine h.keep (dQ.set h1 _) _ (by simp) λk g l hg hl=>?_;rw[fD]at hl;by_cases hik:i=k;·subst hik;rw[if_pos rfl,if_pos hi]at hl;obtain rfl:g=f:=aJ (hg.symm.trans hf);obtain rfl:=aJ hl;rw[aw,OD];exact⟨h1.set j true,by simpa using h2⟩
 ·rw[if_neg hik]at hl;obtain⟨k1,k2⟩:=h.row k g l hg hl;refine⟨k1.old (az w _ _ g (λe=>?_)),k2⟩;subst e;have hk2:=(List.getElem?_eq_some_iff.1 hg);have hf2:=(List.getElem?_eq_some_iff.1 hf);obtain⟨k3,k4⟩:=hk2;obtain⟨f3,f4⟩:=hf2;rcases Nat.lt_or_gt_of_ne hik with hlt|hlt;·exact List.pairwise_iff_getElem.1 h.nd i k f3 k3 hlt (f4.trans k4.symm)
  ·exact List.pairwise_iff_getElem.1 h.nd k i k3 f3 hlt (k4.trans f4.symm)
theorem Tn{rows:List (List Bool)}{i j:Nat}(hi:i<rows.length)(hj:j<(rows.getD i []).length)(a b:Nat):jg (rows.set i ((rows.getD i []).set j true)) a b=true↔jg rows a b=true\/(a=i/\b=j):=by
 unfold jg;by_cases ha:a=i;·
  subst ha;have e:(rows.set a ((rows.getD a []).set j true)).getD a []=(rows.getD a []).set j true:=by rw[aw,fD,if_pos rfl,if_pos hi];rfl
  rw[e,tz _ _ _ _ hj];by_cases hb:b=j;·simp[hb]
  ·simp[hb]
 ·have e:(rows.set i ((rows.getD i []).set j true)).getD a []=rows.getD a []:=by rw[aw,fD,if_neg (λh=>ha h.symm),<-aw]
  rw[e];simp[ha]
theorem VV(sb c B:Nat)(ns fs:List Nat)(rows:List (List Bool))(F T:List Nat)(vF vT:ay)(w:ak)(hs:eA w sb c ns fs rows)(hF:dE w vF F)(hT:dE w vT T)(hFl:∀f∈F,f<fs.length)(JV:∀t∈T,t<c)(hFn:F.length<=1000)(hTn:T.length<=1000)(hcn:c<=1000)(hfn:fs.length<=1000)(hB:B<=w.heap.size)(OM:∀f∈fs,B<=f):aX ah 164 #[aP sb,vF,vT] w λe w'=>e= .returned (.tuple #[])/\aI B w w'/\dQ w w'/\∃rows',eA w' sb c ns fs rows'/\∀a b,jg rows' a b=true↔jg rows a b=true\/(a∈F/\b∈T):=by
 obtain⟨aF,cF,rfl⟩:=ownsRow_form hF;obtain⟨aT,cT,rfl⟩:=ownsRow_form hT;have HS:=ae (show _/\_/\_/\_/\_/\_ from⟨hF,hT,hFl,JV,hB,OM⟩);have HS0:=ae hs;clear hs hF hT hFl JV hB OM;unfold aP;go_enter Tryz.func164,Tryz.ntmps164;go_wp2_with fail;go_loopw[6](λiv wr=>∃i:Nat,i<=F.length/\iv= .int .i64 (i:Int)/\Hid (aI B w wr/\dQ w wr/\∃rows',eA wr sb c ns fs rows'/\∀a b,jg rows' a b=true↔jg rows a b=true\/(a∈F.take i/\b∈T)))(λiv _=>F.length-(intOf iv).toNat);case atStart=>exact⟨0,aW _,rfl,aB _ _,dQ.refl _,rows,HS0.out,λa b=>by simp⟩
 case round=>
  obtain⟨i,hi,rfl,HI⟩:=hrel;have q1:IntKind.i64.wrap ((i:Int)+1)=(i:Int)+1:=aK _ (by omega);by_cases hlt:i<F.length;·
   have z1:(0:Int)<=(i:Int)/\(i:Int)<(F.length:Int):=by omega
   go_wp2_with fail;go_loopw[7](λkv wx=>∃k:Nat,k<=T.length/\kv= .int .i64 (k:Int)/\Hid (aI B w wx/\dQ w wx/\∃rows',eA wx sb c ns fs rows'/\∀a b,jg rows' a b=true↔jg rows a b=true\/(a∈F.take i/\b∈T)\/(a=F[i]/\b∈T.take k)))(λkv _=>T.length-(intOf kv).toNat);case atStart=>obtain⟨h1,h2,rows',h3,h4⟩:=HI.out;exact⟨0,aW _,rfl,h1,h2,rows',h3,λa b=>by rw[h4 a b];simp⟩
   case round=>
    clear HI;obtain⟨k,hk,rfl,HK⟩:=hrel;have q2:IntKind.i64.wrap ((k:Int)+1)=(k:Int)+1:=aK _ (by omega);by_cases hlk:k<T.length;·
     have z2:(0:Int)<=(k:Int)/\(k:Int)<(T.length:Int):=by omega
     obtain⟨h1,h2,rows',h3,h4⟩:=HK.out;obtain⟨hF,hT,hFl,JV,hB,OM⟩:=HS.out;have hf:=hFl _ (eu hlt);have ht:=JV _ (eu hlk);obtain⟨gF,kF,eF,cFi⟩:=dE.cell (h2.ints hF) hlt;obtain⟨gT,kT,eT,cTk⟩:=dE.cell (h2.ints hT) hlk;simp only[bA,true_and]at eF eT;obtain⟨rfl,rfl⟩:=eF;obtain⟨rfl,rfl⟩:=eT;obtain⟨hv,fv,e1,e2,e3⟩:=h3.ex;have Jd:fs[F[i]]?=some fs[F[i]]:=ar hf;obtain⟨gf,kf,rfl,cf⟩:=dh e3 (j:=F[i]) (u:=ja fs[F[i]] c) (by rw[bp,Jd];rfl);have c1:wr.cell? (aD sb 1)=some (sL gf fs.length kf):=aq e1;have hrl:F[i]<rows'.length:=by rw[h3.len];exact hf
     obtain⟨r1,r2⟩:=h3.row _ _ _ Jd (ar hrl);obtain⟨kv,k0⟩:∃kv,wr.cell? (aD (fs[F[i]]) (T[k]))=some (.bool kv):=⟨_,r1.cell (i:=T[k]) (by rw[r2];exact ht)⟩;have k1:=r1.free T[k];have kD:=h3.set Jd ht;have aaz:=λa b=>Tn (rows:=rows') (i:=F[i]) (j:=T[k]) hrl (by rw[aw,ar hrl];show T[k]<rows'[F[i]].length;rw[r2];exact ht) a b;have wM:Hid (aI B w (wr.setCell (aD (fs[F[i]]) (T[k])) (.bool true)).drew/\dQ w (wr.setCell (aD (fs[F[i]]) (T[k])) (.bool true)).drew/\∃rows',eA (wr.setCell (aD (fs[F[i]]) (T[k])) (.bool true)).drew sb c ns fs rows'/\∀a b,jg rows' a b=true↔jg rows a b=true\/(a∈F.take i/\b∈T)\/(a=F[i]/\b∈T.take (k+1))):=ae (by
      refine⟨(h1.setCell (OM _ (eu hf)) _).drew,(h2.trans (dQ.set r1 _)).trans (dQ.same (Same.drew _)),_,kD.keep (dQ.same (Same.drew _)) _ rfl (λi f l hf hl=>by obtain⟨a1,a2⟩:=kD.row i f l hf hl;exact⟨a1.same (Same.drew _),a2⟩),λa b=>?_⟩;rw[aaz a b,h4 a b,bH hlk,jM,iL];constructor;·
       rintro((h|h|h)|h);·exact .inl h
       ·exact .inr (.inl h)
       ·exact .inr (.inr ⟨h.1,.inl h.2⟩)
       ·exact .inr (.inr ⟨h.1,.inr h.2⟩)
      ·rintro(h|h|⟨h,h'|h'⟩);·exact .inl (.inl h)
       ·exact .inl (.inr (.inl h))
       ·exact .inl (.inr (.inr ⟨h,h'⟩))
       ·exact .inr ⟨h,h'⟩);have wY:=wM;unfold ja at cf;generalize fs[F[i]]=fb at*;generalize F[i]=fi at*;generalize T[k]=tk at*;have z3:(0:Int)<=(fi:Int)/\(fi:Int)<(fs.length:Int):=by omega
     have z4:(0:Int)<=(tk:Int)/\(tk:Int)<(c:Int):=by omega
     clear kD aaz h4 h3 e1 e2 e3 r1 r2 hrl Jd hf ht hF hT hFl JV OM hB h1 h2 wM;go_upto_region 6 with fail;refine bB [(0,false),(1,false),(2,false),(3,false),(4,false),(5,false),(6,false),(7,false),(8,false),(9,false),(10,false),(11,false),(12,false),(13,false),(14,false),(15,true)] 15 (λw'=>w'.cell? (aD sb 1)=some (sL gf fs.length kf)/\w'.cell? (aD gF i)=some (iV fi)/\w'.cell? (aD gf fi)=some (sL fb c c)/\w'.cell? (aD gT k)=some (iV tk)) (by kernel_rfl) (by kernel_rfl) ⟨c1,cFi,cf,cTk⟩ ?_;iterate 15(
 refine aR ?_ rfl rfl (λw' hS=>?_) ?_;rotate_left;·obtain⟨f0,f1,f2,f3⟩:=hS;go_simp;try rfl
 simp only[aN,ai,aj])
     refine cO rfl rfl (λK hK=>?_);have HK:=ae hK;clear hK;go_simp;refine HK _ _ ?_;clear HK K;go_wp2_with fail;exact⟨⟨k+1,by omega,by go_num,wY⟩,by simp[intOf];omega⟩
    ·obtain rfl:k=T.length:=by omega
     go_wp2_with fail;refine⟨⟨i+1,by omega,by go_num,ae ?_⟩,by simp[intOf];omega⟩;obtain⟨h1,h2,rows',h3,h4⟩:=HK.out;refine⟨h1,h2,rows',h3,λa b=>?_⟩;rw[h4 a b,dH,bH hlt,jM,iL];constructor;·
      rintro(h|h|h);·exact .inl h
      ·exact .inr ⟨.inl h.1,h.2⟩
      ·exact .inr ⟨.inr h.1,h.2⟩
     ·rintro(h|⟨h|h,h'⟩);·exact .inl h
      ·exact .inr (.inl ⟨h,h'⟩)
      ·exact .inr (.inr ⟨h,h'⟩)
  ·obtain rfl:i=F.length:=by omega
   go_wp2_with fail;refine bodyPost_end (results_none rfl _ _ _) rfl ?_;obtain⟨h1,h2,rows',h3,h4⟩:=HI.out;exact⟨rfl,h1,h2,rows',h3,λa b=>by rw[h4 a b,dH]⟩
def bO(w:ak)(pb:Nat)(s:ByteArray)(i:Nat)(bad:Bool):Prop:=w.heap[pb]?=some (.cells #[.string s,.int .i64 (i:Int),.bool bad] 232 (0,0))/\i<=s.size/\s.size<=1000000
section
variable{w w':ak}{pb i:Nat}{s:ByteArray}{bad:Bool}
theorem bO.c0(h:bO w pb s i bad):w.cell? (aD pb 0)=some (.string s):=aq h.1
theorem bO.c1(h:bO w pb s i bad):w.cell? (aD pb 1)=some (iV (i:Int)):=aq h.1
theorem bO.c2(h:bO w pb s i bad):w.cell? (aD pb 2)=some (.bool bad):=aq h.1
theorem bO.free(h:bO w pb s i bad)(k:Nat):w.frozen? (aD pb k)=false:=aU h.1
theorem bO.lt(h:bO w pb s i bad):pb<w.heap.size:=lt_of_heap h.1
theorem bO.same(h:bO w pb s i bad)(k:Same w w'):bO w' pb s i bad:=⟨by rw[k.heap];exact h.1,h.2⟩
theorem bO.below(h:bO w pb s i bad)(k:aI w.heap.size w w'):bO w' pb s i bad:=⟨(k.block _ h.lt).trans h.1,h.2⟩
theorem bO.old(h:bO w pb s i bad)(k:w'.heap[pb]?=w.heap[pb]?):bO w' pb s i bad:=⟨k.trans h.1,h.2⟩
theorem bO.set(h:bO w pb s i bad){j:Nat}(hj:j<=s.size):bO (w.setCell (aD pb 1) (iV (j:Int))) pb s j bad:=⟨by rw[heap_setCell_same w pb 1 _ _ _ h.1];simp,hj,h.2.2⟩
theorem bO.fail(h:bO w pb s i bad):bO (w.setCell (aD pb 2) (.bool true)) pb s i true:=⟨by rw[heap_setCell_same w pb 2 _ _ _ h.1];simp,h.2⟩
end
def Hu{α:Type}(pb:Nat)(s:ByteArray)(w':ak):PR α->Prop| .fault e=>bO w' pb s e true| .ok _ j=>bO w' pb s j false
theorem rG(pb:Nat)(s:ByteArray)(i:Nat)(bad:Bool)(c:UInt8)(w:ak)(hR:bO w pb s i bad):aX ah 202 #[aP pb,.int .u8 c.toNat] w λe w'=>e= .returned (.bool (!bad&&cH s i c))/\Same w w':=by have c0:=hR.c0;have c1:=hR.c1;have c2:=hR.c2;have hi:=hR.2.1;have hs:=hR.2.2;clear hR;unfold aP;cases bad with
 |true=>go_enter UA,Q6;go_wp2_with fail;go_quiet(fail);go_wp2_with fail;go_ret;exact⟨rfl,Same.drewN _ _⟩|false=>
  by_cases h:i<s.size;·
   have hg:Hid (cH s i c=(((s[i]).toNat:Int)==(c.toNat:Int))):=ae (by unfold cH;rw[iP s i h,Qw];simp);have q2:decide ((i:Int)<(s.size:Int))=true:=by simp;omega
   go_enter UA,Q6;go_wp2_with fail;go_quiet(fail);go_wp2_with fail;go_ret;exact⟨gS (by rw[hg];rfl),Same.drewN _ _⟩
  ·have hg:Hid (cH s i c=false):=ae (by unfold cH;rw[at_end s i (by omega)];simp);have q2:decide ((i:Int)<(s.size:Int))=false:=by simp;omega
   go_enter UA,Q6;go_wp2_with fail;go_quiet(fail);go_wp2_with fail;go_ret;exact⟨gS (by rw[hg];rfl),Same.drewN _ _⟩
theorem ZH(pb:Nat)(s:ByteArray)(i:Nat)(bad:Bool)(c:UInt8)(w:ak)(hR:bO w pb s i bad)(h:i<s.size)(hcall:aX ah 202 #[aP pb,.int .u8 c.toNat] w λe w'=>e= .returned (.bool true)/\Same w w'):aX ah 160 #[aP pb,.int .u8 c.toNat] w λe w'=>e= .returned (.bool true)/\bO w' pb s (i+1) bad/\Mod (λj=>j=pb) w w':=by have HR:=ae hR;have HC:=ae hcall;have c1:=hR.c1;have hf:=hR.free 1;have hs:=hR.2.2;have q1:IntKind.i64.wrap ((i:Int)+1)=(i:Int)+1:=aK _ (by omega);clear hR hcall;unfold aP;go_enter asi,aoM;go_wp2_with(have hcall:=HC.out;unfold aP at hcall;refine hcall.mono ?_;clear hcall;rintro e w1⟨rfl,hs1⟩;have c1':=(hs1.cell _).trans c1;have hf':=(hs1.frozen _).trans hf;have kL:=ae hs1;clear hs1 c1 hf);go_ret;refine⟨rfl,?_,(Mod.same kL).trans (Mod.setCell _ _ _ λ_=>rfl)⟩;exact(HR.same kL).set (j:=i+1) h
theorem K7(pb:Nat)(c:UInt8)(w:ak)(hcall:aX ah 202 #[aP pb,.int .u8 c.toNat] w λe w'=>e= .returned (.bool false)/\Same w w'):aX ah 160 #[aP pb,.int .u8 c.toNat] w λe w'=>e= .returned (.bool false)/\Same w w':=by have HC:=ae hcall;clear hcall;unfold aP;go_enter asi,aoM;go_wp2_with(have hcall:=HC.out;unfold aP at hcall;refine hcall.mono ?_;clear hcall;rintro e w1⟨rfl,hs1⟩;have kL:=ae hs1;clear hs1);go_ret;exact⟨rfl,kL⟩
theorem rK(pb:Nat)(s:ByteArray)(i:Nat)(bad:Bool)(c:UInt8)(w:ak)(hR:bO w pb s i bad):aX ah 160 #[aP pb,.int .u8 c.toNat] w λe w'=>e= .returned (.bool (!bad&&cH s i c))/\bO w' pb s (if bad then i else gL s i c) bad/\Mod (λj=>j=pb) w w':=by have hcall:=rG pb s i bad c w hR;cases bad with|true=>exact(K7 pb c w hcall).mono λe w' h=>⟨h.1,hR.same h.2,Mod.same h.2⟩|false=>cases hb:cH s i c with|false=>rw[hb]at hcall;exact(K7 pb c w hcall).mono λe w' h=>⟨h.1,by have:=hR.same h.2;simpa[gL,hb]using this,Mod.same h.2⟩|true=>rw[hb]at hcall;exact(ZH pb s i false c w hR (gu hb) hcall).mono λe w' h=>⟨h.1,by have:=h.2.1;simpa[gL,hb]using this,h.2.2⟩
def lq(pb:Nat)(s:ByteArray)(i:Nat)(w:ak)(e:rY)(w':ak):Prop:=Hu pb s w' (cZ s i)/\Mod (λj=>j=pb) w w'/\e= .returned (.int .u8 (match cZ s i with| .fault _=>0| .ok c _=>(c.toNat:Int)))
theorem vV(pb:Nat)(s:ByteArray)(i:Nat)(w:ak)(hR:bO w pb s i false):aX ah 254 #[aP pb] w (lq pb s i w):=by
 have hcall:=rK pb s i false 92 w hR;obtain⟨j,hj⟩:∃j,j=gL s i 92:=⟨_,rfl⟩;have hjs:j<=s.size:=by rw[hj];exact(yZ s i 92 hR.2.1).2
 simp only[jO,gP,jP,if_false,<-hj]at hcall;have hs:=hR.2.2;have HC:=ae hcall;have HJ:=ae hj;clear hcall hj hR;unfold aP;go_enter Tryz.func254,Tryz.ntmps254;go_upto_region 2 with(have hcall:=HC.out;unfold aP at hcall;refine hcall.mono ?_;clear hcall;rintro e w1⟨rfl,hp1,hm1⟩;have c0:=hp1.c0;have c1:=hp1.c1;have c2:=hp1.c2;have f1:=hp1.free 1;have f2:=hp1.free 2;have Ye:=ae (aA hp1 hm1);clear hp1 hm1);by_cases h:j<s.size;·
  have hg:Hid (cZ s i= .ok s[j] (j+1)):=ae (by unfold cZ;rw[<-HJ,iP s j h]);have q1:IntKind.i64.wrap ((j:Int)+1)=(j:Int)+1:=aK _ (by omega);have q2:IntKind.i64.wrap ((j:Int)+1-1)=(j:Int):=by rw[ac1];exact aK _ (by omega)
  have q3:decide ((j:Int)>=(s.size:Int))=false:=by simp;omega
  have q4:decide ((s.size:Int)<=(j:Int))=false:=by simp;omega
  go_quiet(fail);go_upto_region 6 with fail;obtain⟨W2,hW2⟩:∃W2,W2=(w1.drewN nq).setCell (aD pb 1) (iV ((j:Int)+1)):=⟨_,rfl⟩;have hp2:bO W2 pb s (j+1) false:=by rw[hW2];exact(Ye.1.same (Same.drewN _ _)).set (j:=j+1) h
  have hm2:Mod (λj=>j=pb) w W2:=by rw[hW2];exact(Ye.2.trans (Mod.same (Same.drewN _ _))).trans (Mod.setCell _ _ _ λ_=>rfl)
  have e0:=hp2.c0;have e1:W2.cell? (aD pb 1)=some (iV ((j:Int)+1)):=hp2.c1;have Yd:=ae (aA hp2 hm2);rw[<-hW2];clear hp2 hm2 hW2 c0 c1 c2 f1 f2;obtain⟨bv,hbv⟩:∃bv,bv=s[j]:=⟨_,rfl⟩;have HBV:=ae hbv;clear hbv;go_quiet(fail);go_wp2_with fail;go_ret;unfold lq;rw[hg];refine⟨Yd.1.same (Same.drewN _ _),Yd.2.trans (Mod.same (Same.drewN _ _)),rfl⟩
 ·have hg:Hid (cZ s i= .fault j):=ae (by unfold cZ;rw[<-HJ,at_end s j (by omega)]);have q3:decide ((j:Int)>=(s.size:Int))=true:=by simp;omega
  have q4:decide ((s.size:Int)<=(j:Int))=true:=by simp;omega
  go_quiet(fail);go_wp2_with fail;go_ret;unfold lq;rw[hg];refine⟨(Ye.1.same (Same.drewN _ _)).fail,(Ye.2.trans (Mod.same (Same.drewN _ _))).trans (Mod.setCell _ _ _ λ_=>rfl),rfl⟩
def je(pb:Nat)(s:ByteArray)(i:Nat)(w:ak)(e:rY)(w':ak):Prop:=Hu pb s w' (dI s i 0)/\Mod (λj=>j=pb) w w'/\e= .returned (.int .i64 (match dI s i 0 with| .fault _=>0| .ok x _=>(x:Int)))
theorem kX(pb:Nat)(s:ByteArray)(i:Nat)(w:ak)(hR:bO w pb s i false):aX ah 201 #[aP pb] w (je pb s i w):=by
 have c0:=hR.c0;have c1:=hR.c1;have c2:=hR.c2;have f1:=hR.free 1;have f2:=hR.free 2;have hs:=hR.2.2;have his:=hR.2.1;have HR:=ae hR;clear hR;unfold aP;by_cases h:i<s.size;·
  obtain⟨cb,hcb⟩:∃cb,cb=(s[i]).toNat:=⟨_,rfl⟩;have q3:decide ((i:Int)>=(s.size:Int))=false:=by simp;omega
  have q4:decide (s.size<=i)=false:=by simp;omega
  have nK:cb<256:=by rw[hcb];exact ia _
  have aaL:∀h,((s[i]'h).toNat:Int)=(cb:Int):=λh=>by rw[hcb]
  by_cases hd:48<=cb/\cb<=57;·
   have hg:Hid (dI s i 0= .ok (cb-48) (i+1)):=ae (by unfold dI;rw[iP s i h];simp only;rw[if_pos (by rw[<-hcb];omega),<-hcb]);have q5:decide ((cb:Int)<48)=false:=by simp;omega
   have q6:decide ((cb:Int)>57)=false:=by simp;omega
   have q7:decide ((57:Int)<(cb:Int))=false:=by simp;omega
   have q1:IntKind.i64.wrap ((i:Int)+1)=(i:Int)+1:=aK _ (by omega);have q2:IntKind.i64.wrap ((i:Int)+1-1)=(i:Int):=by rw[ac1];exact aK _ (by omega)
   go_enter UB,Q7;go_upto_region 1 with fail;go_quiet(fail);go_upto_region 5 with fail;obtain⟨W2,hW2⟩:∃W2,W2=(w.drewN nq).setCell (aD pb 1) (iV ((i:Int)+1)):=⟨_,rfl⟩;have hp2:bO W2 pb s (i+1) false:=by rw[hW2];exact(HR.same (Same.drewN _ _)).set (j:=i+1) h
   have hm2:Mod (λj=>j=pb) w W2:=by rw[hW2];exact(Mod.same (Same.drewN _ _)).trans (Mod.setCell _ _ _ λ_=>rfl)
   have e0:=hp2.c0;have e1:W2.cell? (aD pb 1)=some (iV ((i:Int)+1)):=hp2.c1;have Yd:=ae (aA hp2 hm2);have hsub:IntKind.u8.wrap ((cb:Int)-48)=(cb:Int)-48:=by show((cb:Int)-48)%256=_;omega
   rw[<-hW2];clear hp2 hm2 hW2 c0 c1 c2 f1 f2;have HCB:=ae hcb;clear hcb;go_quiet(fail);go_wp2_with fail;go_ret;unfold je;rw[hg];refine⟨Yd.1.same (Same.drewN _ _),Yd.2.trans (Mod.same (Same.drewN _ _)),?_⟩;have e:(cb:Int)-48=((cb-48:Nat):Int):=by omega
   rw[e];rfl
  ·have hg:Hid (dI s i 0= .fault i):=ae (by unfold dI;rw[iP s i h];simp only;rw[if_neg (by rw[<-hcb];omega)]);have LH:(decide ((cb:Int)<48)=true/\True)\/(decide ((cb:Int)<48)=false/\decide ((cb:Int)>57)=true/\decide ((57:Int)<(cb:Int))=true):=by
    by_cases h1:cb<48;·exact .inl ⟨by simp;omega,trivial⟩
    ·exact .inr ⟨by simp;omega,by simp;omega,by simp;omega⟩
   rcases LH with⟨h1,_⟩|⟨h1,h2,h3⟩;all_goals(go_enter UB,Q7;go_upto_region 1 with fail;go_quiet(fail);go_wp2_with fail;go_ret;unfold je;rw[hg];exact⟨(HR.same (Same.drewN _ _)).fail,(Mod.same (Same.drewN _ _)).trans (Mod.setCell _ _ _ λ_=>rfl),rfl⟩)
 ·have hg:Hid (dI s i 0= .fault i):=ae (by unfold dI;rw[at_end s i (by omega)]);have q3:decide ((i:Int)>=(s.size:Int))=true:=by simp;omega
  have q4:decide (s.size<=i)=true:=by simp;omega
  go_enter UB,Q7;go_upto_region 1 with fail;go_quiet(fail);go_wp2_with fail;go_ret;unfold je;rw[hg];exact⟨(HR.same (Same.drewN _ _)).fail,(Mod.same (Same.drewN _ _)).trans (Mod.setCell _ _ _ λ_=>rfl),rfl⟩
def qw(n:Nat):Bool:=n==40||n==41||n==91||n==93||n==123||n==125||n==42||n==43||n==63||n==124||n==46||n==92
theorem Cl(n:Nat)(w:ak):aX ah 253 #[.int .u8 (n:Int)] w λe w'=>e= .returned (.bool (qw n))/\Same w w':=by
 by_cases nH:n=40;·subst nH;have e:((40:Nat):Int)=40:=rfl;rw[e];go_enter gy,fR;go_wp2_with fail;go_ret;exact⟨rfl,Same.refl _⟩
 by_cases Ud:n=41;·subst Ud;have e:((41:Nat):Int)=41:=rfl;rw[e];go_enter gy,fR;go_wp2_with fail;go_ret;exact⟨rfl,Same.refl _⟩
 by_cases uN:n=91;·subst uN;have e:((91:Nat):Int)=91:=rfl;rw[e];go_enter gy,fR;go_wp2_with fail;go_ret;exact⟨rfl,Same.refl _⟩
 by_cases CE:n=93;·subst CE;have e:((93:Nat):Int)=93:=rfl;rw[e];go_enter gy,fR;go_wp2_with fail;go_ret;exact⟨rfl,Same.refl _⟩
 by_cases Aj:n=123;·subst Aj;have e:((123:Nat):Int)=123:=rfl;rw[e];go_enter gy,fR;go_wp2_with fail;go_ret;exact⟨rfl,Same.refl _⟩
 by_cases kO:n=125;·subst kO;have e:((125:Nat):Int)=125:=rfl;rw[e];go_enter gy,fR;go_wp2_with fail;go_ret;exact⟨rfl,Same.refl _⟩
 by_cases YR:n=42;·subst YR;have e:((42:Nat):Int)=42:=rfl;rw[e];go_enter gy,fR;go_wp2_with fail;go_ret;exact⟨rfl,Same.refl _⟩
 by_cases h43:n=43;·subst h43;have e:((43:Nat):Int)=43:=rfl;rw[e];go_enter gy,fR;go_wp2_with fail;go_ret;exact⟨rfl,Same.refl _⟩
 by_cases h63:n=63;·subst h63;have e:((63:Nat):Int)=63:=rfl;rw[e];go_enter gy,fR;go_wp2_with fail;go_ret;exact⟨rfl,Same.refl _⟩
 by_cases OY:n=124;·subst OY;have e:((124:Nat):Int)=124:=rfl;rw[e];go_enter gy,fR;go_wp2_with fail;go_ret;exact⟨rfl,Same.refl _⟩
 by_cases uY:n=46;·subst uY;have e:((46:Nat):Int)=46:=rfl;rw[e];go_enter gy,fR;go_wp2_with fail;go_ret;exact⟨rfl,Same.refl _⟩
 by_cases tP:n=92;·subst tP;have e:((92:Nat):Int)=92:=rfl;rw[e];go_enter gy,fR;go_wp2_with fail;go_ret;exact⟨rfl,Same.refl _⟩
 have hsp:Hid (qw n=false):=ae (by unfold qw;simp only[Bool.or_eq_false_iff,beq_eq_false_iff_ne];exact⟨⟨⟨⟨⟨⟨⟨⟨⟨⟨⟨nH,Ud⟩,uN⟩,CE⟩,Aj⟩,kO⟩,YR⟩,h43⟩,h63⟩,OY⟩,uY⟩,tP⟩);have g40:((n:Int)==40)=false:=by rw[beq_eq_false_iff_ne];omega
 have g41:((n:Int)==41)=false:=by rw[beq_eq_false_iff_ne];omega
 have g91:((n:Int)==91)=false:=by rw[beq_eq_false_iff_ne];omega
 have g93:((n:Int)==93)=false:=by rw[beq_eq_false_iff_ne];omega
 have ava:((n:Int)==123)=false:=by rw[beq_eq_false_iff_ne];omega
 have au8:((n:Int)==125)=false:=by rw[beq_eq_false_iff_ne];omega
 have g42:((n:Int)==42)=false:=by rw[beq_eq_false_iff_ne];omega
 have g43:((n:Int)==43)=false:=by rw[beq_eq_false_iff_ne];omega
 have g63:((n:Int)==63)=false:=by rw[beq_eq_false_iff_ne];omega
 have au9:((n:Int)==124)=false:=by rw[beq_eq_false_iff_ne];omega
 have g46:((n:Int)==46)=false:=by rw[beq_eq_false_iff_ne];omega
 have g92:((n:Int)==92)=false:=by rw[beq_eq_false_iff_ne];omega
 clear nH Ud uN CE Aj kO YR h43 h63 OY uY tP;go_enter gy,fR;go_wp2_with fail;go_ret;exact⟨by rw[hsp];rfl,Same.refl _⟩
/-!### The inverse of a set of bytes. -/
theorem Bq(s:bG):∀n i,n<=4->i<4->(s.Db n).word i=if i<n then 18446744073709551615^^^s.word i else s.word i
 |0,i,_,_=>by rw[if_neg (iB _)];rfl|n+1,i,hn,hi=>by
  show((s.Db n).rA n (18446744073709551615^^^(s.Db n).word n)).word i=_;rw[bG.sX _ _ _ _ (by omega) hi,Bq s n n (by omega) (by omega),if_neg (abo _),Bq s n i (by omega) hi];by_cases h:n=i;·subst h;rw[if_pos rfl,if_pos (rq _)]
  ·rw[if_neg h];by_cases h2:i<n;·rw[if_pos h2,if_pos (by omega)]
   ·rw[if_neg h2,if_neg (by omega)]
theorem ZM(s:bG)(j:Nat)(hj:j<256):s.not.has j=!s.has j:=by unfold bG.not bG.has;rw[Bq s 4 (j/64) (au _) (by omega),if_pos (by omega),Nat.testBit_xor,show(18446744073709551615:Nat)=2^64-1 from rfl,Nat.testBit_two_pow_sub_one,decide_eq_true (by omega)];simp
def agM(w:ak)(pb:Nat):Nat:=match w.cell? ⟨pb,1,none⟩with|some (.int _ z)=>z.toNat|_=>0
def agO(w:ak)(pb:Nat):Bool:=match w.cell? ⟨pb,2,none⟩with|some (.bool b)=>b|_=>true
def Ek(s:ByteArray)(pb:Nat)(w:ak):Nat:=if agO w pb then 0 else s.size-agM w pb+1
theorem bO.left{w:ak}{pb i:Nat}{s:ByteArray}{bad:Bool}(h:bO w pb s i bad):Ek s pb w=if bad then 0 else s.size-i+1:=by unfold Ek agO agM;rw[h.c1,h.c2];simp
def pP(pb nb:Nat)(s:ByteArray)(w0:ak)(o:bG)(q:Nat)(bad:Bool)(W:ak):Prop:=bO W pb s q bad/\(∃hs,bP W nb 1 hs (.pointer none) (.pointer none)/\∀c,c<256->hs.getD c false=o.has c)/\Mod (λk=>k=pb\/k=nb) w0 W
section
variable{pb nb:Nat}{s:ByteArray}{w0 W W':ak}{o:bG}{q:Nat}{bad:Bool}
theorem bO.ne{k:Nat}{hs:List Bool}{a b:ay}(h:bO W pb s q bad)(hn:bP W nb k hs a b):nb≠pb:=λe=>by subst e;have:=hn.2.symm.trans h.1;simp at this
theorem pP.same(h:pP pb nb s w0 o q bad W)(k:Same W W'):pP pb nb s w0 o q bad W':=by obtain⟨h1,⟨hs,h2,h3⟩,h4⟩:=h;exact⟨h1.same k,⟨hs,h2.same k,h3⟩,h4.trans (Mod.same k)⟩
theorem pP.step(h:pP pb nb s w0 o q bad W){q':Nat}{y9:Bool}(hp:bO W' pb s q' y9)(hm:Mod (λk=>k=pb) W W'):pP pb nb s w0 o q' y9 W':=by obtain⟨h1,⟨hs,h2,h3⟩,h4⟩:=h;exact⟨hp,⟨hs,h2.old (hm.block nb (lt_of_heap h2.2) (h1.ne h2)),h3⟩,h4.trans (hm.mono λ_ _ h=> .inl h)⟩
theorem pP.flag(h:pP pb nb s w0 o q bad W){c:Nat}(hc:c<256):pP pb nb s w0 (o.on c) q bad (W.setCell (aD nb (1+c)) (.bool true)):=by
 obtain⟨h1,⟨hs,h2,h3⟩,h4⟩:=h;refine⟨h1.old (az _ _ _ pb λe=>h1.ne h2 e.symm),⟨_,h2.set c true hc,λd hd=>?_⟩,h4.trans (Mod.setCell _ _ _ λ_=> .inr rfl)⟩;rw[tz _ _ _ _ (by rw[h2.1];exact hc),bG.Xh _ _ _ hc hd,h3 d hd];by_cases e:d=c;·simp[e]
 ·simp[e]
end
def QZ(s:ByteArray)(D:PR bG)(first:Bool)(o:bG)(q:Nat)(bad:Bool):Prop:=(bad=false/\∃f,D=fB s (f+1) first o q/\s.size<f+1+q)\/(bad=true/\first=false/\D= .fault q)
def Hx(pb nb:Nat)(s:ByteArray)(w:ak)(C:PR bG)(e:rY)(w':ak):Prop:=e= .returned (.tuple #[])/\Mod (λk=>k=pb\/k=nb) w w'/\Hu pb s w' C/\∀o j,C= .ok o j->∃hs,bP w' nb 1 hs (.pointer none) (.pointer none)/\∀c,c<256->hs.getD c false=o.has c
theorem kY{pb nb:Nat}{s:ByteArray}{w W:ak}{o:bG}{q:Nat}{C:PR bG}(hC:C= .fault q)(h:pP pb nb s w o q true W):Hx pb nb s w C (.returned (.tuple #[])) W:=⟨rfl,h.2.2,by rw[hC];exact h.1,λo j e=>by rw[hC]at e;cases e⟩
theorem O5(pb nb:Nat)(s:ByteArray)(i:Nat)(w:ak)(hR:bO w pb s i false)(hN:bP w nb 1 dW (.pointer none) (.pointer none)):aX ah 252 #[aP pb,aP nb] w (Hx pb nb s w (nW s i)):=by
 obtain⟨C,hC⟩:∃C,C=nW s i:=⟨_,rfl⟩;obtain⟨i1,hi1⟩:∃i1,i1=gL s i 94:=⟨_,rfl⟩;obtain⟨nt,hnt⟩:∃nt,nt=cH s i 94:=⟨_,rfl⟩;obtain⟨D,hD⟩:∃D,D=fB s (s.size+1) true .zero i1:=⟨_,rfl⟩;have Yn:Hid (∀p,D= .fault p->C= .fault p):=ae λp hp=>by rw[hC];unfold nW;rw[<-hi1,<-hD,hp]
 have Yp:Hid (∀o j,D= .ok o j->C= .ok (if nt then o.not else o) (j+1)):=ae λo j hp=>by rw[hC];unfold nW;rw[<-hi1,<-hD,hp,hnt]
 rw[<-hC];have hle:i1<=s.size:=by rw[hi1];exact(yZ s i 94 hR.2.1).2
 have hsz:=hR.2.2;have hcall:=rK pb s i false 94 w hR;simp only[jO,gP,jP,if_false]at hcall;rw[<-hi1,<-hnt]at hcall;have pG:=ae hcall;have HDD:=ae hD;have H0:=ae (aA hR hN);clear hC hi1 hnt hD hR hN hcall;unfold aP;go_enter Tryz.func252,Tryz.ntmps252;go_upto_region 1 with(have hcall:=pG.out;unfold aP at hcall;refine hcall.mono ?_;clear hcall;rintro e w1⟨rfl,hp1,hm1⟩;have H1:=ae (aA hp1 hm1);clear hp1 hm1);have HA:Hid (pP pb nb s w .zero i1 false w1):=ae (by have h0:pP pb nb s w .zero i false w:=⟨H0.out.1,⟨dW,H0.out.2,λc hc=>by unfold dW;rw[aw,cu,if_pos hc,J2];rfl⟩,Mod.refl _ _⟩;exact h0.step H1.out.1 H1.out.2);have HB:Hid (QZ s D true .zero i1 false):=ae (.inl ⟨rfl,s.size,HDD.out,by omega⟩);clear pG HDD H0 H1 hle;go_wp2_with fail;go_loopw[5](λv wr=>∃(first:Bool)(o:bG)(q:Nat)(bad:Bool),v= .bool first/\Hid (pP pb nb s w o q bad wr)/\Hid (QZ s D first o q bad))(λ_ wr=>Ek s pb wr);case atStart=>exact⟨true,.zero,i1,false,rfl,HA,HB⟩
 case round=>
  clear HA HB;obtain⟨first,o,q,bad,rfl,HS,HL⟩:=hrel;have vk:Hid (∀(c:UInt8)(W:ak),Same wr W->aX ah 202 #[pT pb,.int .u8 c.toNat] W λe w'=>e= .returned (.bool (!bad&&cH s q c))/\Same W w'):=ae λc W h=>rG pb s q bad c W (HS.out.1.same h);obtain⟨Wr,hWr⟩:∃Wr,Wr=wr:=⟨_,rfl⟩;subst hWr;have hleft:=HS.out.1.left;have AH:=ae hleft;clear hleft;rcases HL.out with⟨rfl,f,hD,hf⟩|⟨rfl,rfl,hD⟩;·
   have HD:=ae (aA hD hf);clear hD hf HL;obtain⟨d93,Gf⟩:∃b,cH s q 93=b:=⟨_,rfl⟩;have awk:=ae Gf;have hgo:(first=false/\d93=true)\/(first||!d93)=true:=by cases first<;>cases d93<;>simp
   rcases hgo with⟨rfl,rfl⟩|hgo;·have hcc:=Yp.out o q (HD.out.1.trans (y8 Gf));have tj:=vk.out 93 Wr (Same.refl _);rw[Gf]at tj;have Fv:=ae tj;have zo:=ae hcc;have aoA:=ae Gf;clear tj hcc Gf;go_upto_region 23 with(go_at_call 202;refine Fv.out.mono ?_;rintro e wa⟨rfl,hsa⟩;have mR:=ae (HS.out.same hsa);clear hsa);have hone:=rK pb s q false 93 wa mR.out.1;simp only[jO,gP,jP,if_false]at hone;unfold gL at hone;rw[aoA.out,if_pos rfl]at hone;have cD:=ae hone;clear hone;go_upto_region 24 with(go_at_call 160;refine cD.out.mono ?_;rintro e wb⟨rfl,hp,hm⟩;have kq:=ae (mR.out.step hp hm);clear hp hm);cases nt with
    |false=>have Xc:=zo.out;have Yr:=ae Xc;clear Xc;go_wp2_with fail;refine bodyPost_end (results_none rfl _ _ _) rfl ?_;refine⟨rfl,kq.out.2.2,by rw[Yr.out];exact kq.out.1,λo' j e=>?_⟩;rw[Yr.out]at e;cases e;exact kq.out.2.1|true=>
     have Xc:=zo.out;have Yr:=ae Xc;clear Xc;go_wp2_with fail;go_loopw[11](λcv wr=>∃cn:Nat,cn<=256/\cv= .int .i64 (cn:Int)/\Hid (bO wr pb s (q+1) false/\(∃hs,bP wr nb 1 hs (.pointer none) (.pointer none)/\∀c,c<256->hs.getD c false=if c<cn then !o.has c else o.has c)/\Mod (λk=>k=pb\/k=nb) w wr))(λcv _=>256-(intOf cv).toNat);case atStart=>exact⟨0,by omega,rfl,ae ⟨kq.out.1,by obtain⟨hs,h1,h2⟩:=kq.out.2.1;exact⟨hs,h1,λc hc=>by rw[if_neg (iB _)];exact h2 c hc⟩,kq.out.2.2⟩⟩
     case round=>
      obtain⟨cn,hcn,rfl,HI⟩:=hrel;have q2:IntKind.i64.wrap ((cn:Int)+1)=(cn:Int)+1:=aK _ (by omega);by_cases hcl:cn<256;·
       have z1:(0:Int)<=(cn:Int)/\(cn:Int)<256:=by omega
       obtain⟨hp0,⟨hs,hn0,rP⟩,hm0⟩:=HI.out;have hp:=hp0.same (Same.drew wr);have hn:=hn0.same (Same.drew wr);have hm:=hm0.trans (Mod.same (Same.drew wr));have k0:=hn.flag (c:=cn) hcl;have k1:=hn.free (1+cn);obtain⟨v,hv⟩:∃v,v=hs.getD cn false:=⟨_,rfl⟩;rw[<-hv]at k0;have wY:Hid (bO (wr.drew.setCell (aD nb (1+cn)) (.bool !v)) pb s (q+1) false/\(∃hs,bP (wr.drew.setCell (aD nb (1+cn)) (.bool !v)) nb 1 hs (.pointer none) (.pointer none)/\∀c,c<256->hs.getD c false=if c<cn+1 then !o.has c else o.has c)/\Mod (λk=>k=pb\/k=nb) w (wr.drew.setCell (aD nb (1+cn)) (.bool !v))):=ae (by
        refine⟨hp.old (az _ _ _ pb λe=>hp.ne hn e.symm),⟨_,hn.set cn (!v) hcl,λc hc=>?_⟩,hm.trans (Mod.setCell _ _ _ λ_=> .inr rfl)⟩;rw[tz _ _ _ _ (by rw[hn.1];exact hcl)];by_cases e:c=cn;·subst e;rw[if_pos rfl,if_pos (rq _),hv,rP c hc,if_neg (abo _)]
        ·rw[if_neg e,rP c hc];by_cases h:c<cn;·rw[if_pos h,if_pos (by omega)]
         ·rw[if_neg h,if_neg (by omega)]);clear hp hn rP hm hv HI hp0 hn0 hm0;go_upto_region 28 with fail;refine bB [(0,false),(1,false),(2,false),(3,false),(4,false),(5,false),(6,false),(9,false),(10,false),(7,true),(8,false),(11,false),(12,true)] 1000 (λ_=>True) (by kernel_rfl) (by kernel_rfl) trivial ?_;iterate 9(
 refine aR ?_ rfl rfl (λw' hS=>?_) ?_;rotate_left;·go_simp;try rfl
 simp only[aN,ai,aj])
       refine bg rfl rfl (by decide) (λK hK=>?_);have HK:=ae hK;clear hK;go_simp;refine HK.out _ _ trivial ?_;clear HK K;try simp only[aN,ai,aj]
       iterate 2(
 refine aR ?_ rfl rfl (λw' hS=>?_) ?_;rotate_left;·go_simp;try rfl
 simp only[aN,ai,aj])
       refine bg rfl rfl (by decide) (λK hK=>?_);have HK:=ae hK;clear hK;go_simp;refine HK.out _ _ trivial ?_;clear HK K;try simp only[aN,ai,aj]
       refine cV ?_;go_wp2_with fail;exact⟨⟨cn+1,by omega,by go_num,wY⟩,by simp[intOf];omega⟩
      ·have SY:(cn:Int)=256:=by omega
       have afx:Hid (bO wr pb s (q+1) false/\(∃hs,bP wr nb 1 hs (.pointer none) (.pointer none)/\∀c,c<256->hs.getD c false=o.not.has c)/\Mod (λk=>k=pb\/k=nb) w wr):=ae (by obtain⟨hp,⟨hs,hn,rP⟩,hm⟩:=HI.out;exact⟨hp,⟨hs,hn,λc hc=>by rw[rP c hc,if_pos (by omega),ZM o c hc]⟩,hm⟩);clear HI;rw[SY];go_wp2_with fail;refine bodyPost_end (results_none rfl _ _ _) rfl ?_;refine⟨rfl,afx.out.2.2,by rw[Yr.out];exact afx.out.1,λo' j e=>?_⟩;rw[Yr.out]at e;cases e;exact afx.out.2.1
   ·have TG:Hid (∀p,cB s o q= .fault p->C= .fault p/\D= .fault p):=ae λp hp=>by have:=HD.out.1.trans ((qd (by rw[Gf];exact hgo)).1 p hp);exact⟨Yn.out p this,this⟩
    have HDo:Hid (∀o' j,cB s o q= .ok o' j->D=fB s f false o' j):=ae λo' j hp=>HD.out.1.trans ((qd (by rw[Gf];exact hgo)).2 o' j hp);have an4:Hid (first=false->d93=false):=ae (by intro h;subst h;simpa using hgo);clear hgo;cases first;case' true=>go_upto_region 4 with fail;obtain⟨wa,oL⟩:∃wa,wa=Wr:=⟨_,rfl⟩;have JN:Hid (Same Wr wa):=ae (by rw[oL];exact Same.refl _);rw[<-oL];clear oL Gf
    case' false=>obtain rfl:=an4.out rfl;have tj:=vk.out 93 Wr (Same.refl _);rw[Gf]at tj;have Fv:=ae tj;clear tj Gf;go_upto_region 4 with(go_at_call 202;refine Fv.out.mono ?_;rintro e wa⟨rfl,hsa⟩;have JN:=ae hsa;clear hsa)
    all_goals(
 have pF:=ae (HS.out.same JN.out);have MA:Hid (∀(c:UInt8)(W:ak),Same wa W->aX ah 202 #[pT pb,.int .u8 c.toNat] W λe w'=>e= .returned (.bool (cH s q c))/\Same W w'):=ae λc W h=>by have:=vk.out c W (JN.out.trans h);simpa using this
 have c0:=pF.out.1.c0;have c1:=pF.out.1.c1;have c2:=pF.out.1.c2;have f2:=pF.out.1.free 2;clear vk HS JN;by_cases hlt:q<s.size;·
  have n1:decide (s.size<=q)=false:=by simp;omega
  have n2:decide ((q:Int)>=(s.size:Int))=false:=by simp;omega
  obtain⟨b45,LI⟩:∃b,cH s q 45=b:=⟨_,rfl⟩;obtain⟨b93,aev⟩:∃b,cH s q 93=b:=⟨_,rfl⟩;have QU:Hid (∀(z:Int)(b:Bool)(W:ak),Same wa W->((z=45/\b=b45)\/(z=93/\b=b93))->aX ah 202 #[pT pb,.int .u8 z] W λe w'=>e= .returned (.bool b)/\Same W w'):=ae (by
   rintro z b W h(⟨rfl,rfl⟩|⟨rfl,rfl⟩);·rw[<-LI];exact MA.out 45 W h
   ·rw[<-aev];exact MA.out 93 W h);clear MA;have QV:=ae (aA LI aev);clear LI aev;cases b45;·
   cases b93;·
    refine bB [(0,false),(1,false),(2,false),(3,false),(4,false),(5,false),(6,false),(7,false),(8,false),(9,false),(10,false),(11,false),(12,false),(13,false),(14,false),(15,false),(16,false),(17,false),(18,true),(19,false),(20,false),(21,false),(22,true),(23,false)] 1000 (λw'=>Same wa w') (by kernel_rfl) (by kernel_rfl) (Same.drew _) ?_;iterate 18(
 refine aR ?_ rfl rfl (λw' hS=>?_) ?_;rotate_left;·have g0:=(hS.cell _).trans c0;have g1:=(hS.cell _).trans c1;have g2:=(hS.cell _).trans c2;go_simp;try rfl
 simp only[aN,ai,aj])
    refine bg rfl rfl (by decide) (λK hK=>?_);have HK:=ae hK;clear hK;go_simp;refine(QU.out 45 _ _ (Same.drew wa) (.inl ⟨rfl,rfl⟩)).mono ?_;rintro e ws1⟨rfl,Bz⟩;have oh:=(Same.drew wa).trans Bz;refine HK.out _ _ oh ?_;clear HK K;try simp only[aN,ai,aj]
    iterate 3(
 refine aR ?_ rfl rfl (λw' hS=>?_) ?_;rotate_left;·have g0:=(hS.cell _).trans c0;have g1:=(hS.cell _).trans c1;have g2:=(hS.cell _).trans c2;go_simp;try rfl
 simp only[aN,ai,aj])
    refine bg rfl rfl (by decide) (λK hK=>?_);have HK:=ae hK;clear hK;go_simp;refine(QU.out 93 _ _ oh (.inr ⟨rfl,rfl⟩)).mono ?_;rintro e UZ⟨rfl,I5⟩;have px:=oh.trans I5;refine HK.out _ _ px ?_;clear HK K;try simp only[aN,ai,aj]
    iterate 1(
 refine aR ?_ rfl rfl (λw' hS=>?_) ?_;rotate_left;·have g0:=(hS.cell _).trans c0;have g1:=(hS.cell _).trans c1;have g2:=(hS.cell _).trans c2;go_simp;try rfl
 simp only[aN,ai,aj])
    refine cV ?_;have q9:=ae (pF.out.same px);have aij:lW s q=true:=by unfold lW;rw[decide_eq_true hlt,QV.out.1,QV.out.2];rfl
    have abh:=ae aij;have Aa:=vV pb s q UZ q9.out.1;have rC:=mO s q q9.out.1.2.1;unfold lq at Aa;obtain⟨S1,hS1⟩:∃r,cZ s q=r:=⟨_,rfl⟩;rw[hS1]at Aa rC;clear aij QU c0 c1 c2 f2 n1 n2 oh px Bz I5;cases S1 with
     |fault p=>
      have HDp:=ae (TG.out p (by unfold cB;rw[if_pos abh.out,hS1]));have Uh:Hid (aX ah 254 #[pT pb] UZ λe w'=>e= .returned (.int .u8 0)/\bO w' pb s p true/\Mod (λk=>k=pb) UZ w'):=ae (Aa.mono λe w' h=>⟨h.2.2,h.1,h.2.1⟩);clear Aa rC hS1;go_upto_region 8 with(go_at_call 254;refine Uh.out.mono ?_;rintro e wc⟨rfl,hp,hm⟩;have zl:=ae (q9.out.step hp hm);clear hp hm);have hone:=rK pb s p true 45 wc zl.out.1;have cD:=ae hone;clear hone;go_upto_region 19 with(go_at_call 160;refine cD.out.mono ?_;rintro e wd⟨rfl,hp,hm⟩;have yc:=ae (zl.out.step hp hm);clear hp hm);have e2:=yc.out.1.c2;go_wp2_with fail;go_loopw[10](λcv wr=>cv= .int .i64 0/\wd=wr)(λ_ _=>0);case atStart=>exact⟨rfl,rfl⟩
      case round=>obtain⟨rfl,rfl⟩:=hrel;go_wp2_with fail;exact⟨⟨false,o,p,true,rfl,yc,ae (.inr ⟨rfl,rfl,HDp.out.2⟩)⟩,by have h1:=yc.out.1.left;have h2:=AH.out;simp at h1 h2;omega⟩|ok lo j=>
      have acB:=ae (show q<j/\j<=s.size from rC);obtain⟨mn,aah⟩:∃mn,lo.toNat=mn:=⟨_,rfl⟩;have at6:mn<256:=by rw[<-aah];exact ia _
      have Uh:Hid (aX ah 254 #[pT pb] UZ λe w'=>e= .returned (.int .u8 (mn:Int))/\bO w' pb s j false/\Mod (λk=>k=pb) UZ w'):=ae (Aa.mono λe w' h=>⟨by rw[h.2.2,<-aah],h.1,h.2.1⟩);have HLO:=ae (aA aah hS1);clear Aa rC hS1 aah;go_upto_region 8 with(go_at_call 254;refine Uh.out.mono ?_;rintro e wc⟨rfl,hp,hm⟩;have zl:=ae (q9.out.step hp hm);clear hp hm);have hone:=rK pb s j false 45 wc zl.out.1;simp only[jO,gP,jP,if_false]at hone;obtain⟨b9,T9⟩:∃b,cH s j 45=b:=⟨_,rfl⟩;unfold gL at hone;rw[T9]at hone;have HB9:=ae T9;clear T9;cases b9 with
       |false=> have cD:=ae hone;have hdo:=HDo.out (o.add mn mn) j (by unfold cB;rw[if_pos abh.out,HLO.out.2];simp only;rw[HB9.out,if_neg (by decide),HLO.out.1]);have TE:=acB;have HDO:Hid (D=fB s (f-1+1) false (o.add mn mn) j/\s.size<f-1+1+j):=ae (by
                 have h1:=TE.out;have h2:=HD.out.2;have h3:f-1+1=f:=by omega
                 rw[h3];exact⟨hdo,by omega⟩);clear hone hdo;go_upto_region 19 with(go_at_call 160;refine cD.out.mono ?_;rintro e wd⟨rfl,hp,hm⟩;have yc:=ae (zl.out.step hp hm);clear hp hm);go_wp2_with fail;go_loopw[10](λcv wr=>∃cn:Nat,mn<=cn/\cn<=mn+1/\cv= .int .i64 (cn:Int)/\Hid (pP pb nb s w (o.addN mn (cn-mn)) j false wr))(λcv _=>mn+1-(intOf cv).toNat);case atStart=>exact⟨mn,au _,by omega,rfl,ae (by rw[mG];exact yc.out)⟩
                case round=> obtain⟨cn,amS,SH,rfl,BZ⟩:=hrel;have q2:IntKind.i64.wrap ((cn:Int)+1)=(cn:Int)+1:=aK _ (by omega);have e2:=BZ.out.1.c2;by_cases hcl:cn<=mn;·
                              have z1:(0:Int)<=(cn:Int)/\(cn:Int)<256:=by omega
                              have m1:decide (cn<=mn)=true:=by simpa using hcl
                              obtain⟨hs,hnn,_⟩:=BZ.out.2.1;have k0:=hnn.flag (c:=cn) (by omega);have k1:=hnn.free (1+cn);have afD:Hid (pP pb nb s w (o.addN mn (cn+1-mn)) j false (wr.setCell (aD nb (1+cn)) (.bool true))):=ae (by have h:=BZ.out.flag (c:=cn) (by omega);rw[show cn+1-mn=(cn-mn)+1 by omega];show pP pb nb s w ((o.addN mn (cn-mn)).on (mn+(cn-mn))) j false _;rwa[show mn+(cn-mn)=cn by omega]);clear hnn;go_wp2_with fail;exact⟨⟨cn+1,by omega,by omega,by go_num,afD⟩,by simp[intOf];omega⟩
                             ·have m1:decide (cn<=mn)=false:=by simpa using hcl
                              have Yt:Hid (pP pb nb s w (o.add mn mn) j false wr):=ae (by have h:=BZ.out;rw[show cn=mn+1 by omega]at h;exact h);go_wp2_with fail;exact⟨⟨false,o.add mn mn,j,false,rfl,Yt,ae (.inl ⟨rfl,f-1,HDO.out⟩)⟩,by have h1:=Yt.out.1.left;have h2:=AH.out;simp at h1 h2;have h3:=TE.out;omega⟩|true=>
        obtain⟨j1,hj1⟩:∃j1,j1=j+1:=⟨_,rfl⟩;have cD:Hid (aX ah 160 #[pT pb,.int .u8 45] wc λe w'=>e= .returned (.bool true)/\bO w' pb s j1 false/\Mod (λk=>k=pb) wc w'):=ae (by rw[hj1];exact hone);have HJ1:=ae hj1;clear hone hj1;go_upto_region 9 with(go_at_call 160;refine cD.out.mono ?_;rintro e wd⟨rfl,hp,hm⟩;have yc:=ae (zl.out.step hp hm);clear hp hm);have c0:=yc.out.1.c0;have c1:=yc.out.1.c1;have c2:=yc.out.1.c2;go_upto_region 10 with fail;have QQ:Hid (∀(c:UInt8)(W:ak),Same wd W->aX ah 202 #[pT pb,.int .u8 c.toNat] W λe w'=>e= .returned (.bool (cH s j1 c))/\Same W w'):=ae λc W h=>by have:=rG pb s j1 false c W (yc.out.1.same h);simp only[jO,gP]at this;exact this
        have Yg:Hid (lW s j1=false->C= .fault j1):=ae λh=>(TG.out j1 (by unfold cB;rw[if_pos abh.out,HLO.out.2];simp only;rw[HB9.out,if_pos rfl,<-HJ1.out,if_neg (by rw[h];decide)])).1;by_cases ahJ:j1<s.size;·
         have n1:decide (s.size<=j1)=false:=by simp;omega
         have n2:decide ((j1:Int)>=(s.size:Int))=false:=by simp;omega
         obtain⟨d45,aef⟩:∃b,cH s j1 45=b:=⟨_,rfl⟩;obtain⟨e93,aeb⟩:∃b,cH s j1 93=b:=⟨_,rfl⟩;have QU:Hid (∀(z:Int)(b:Bool)(W:ak),Same wd W->((z=45/\b=d45)\/(z=93/\b=e93))->aX ah 202 #[pT pb,.int .u8 z] W λe w'=>e= .returned (.bool b)/\Same W w'):=ae (by
          rintro z b W h(⟨rfl,rfl⟩|⟨rfl,rfl⟩);·rw[<-aef];exact QQ.out 45 W h
          ·rw[<-aeb];exact QQ.out 93 W h);have HBJ:=ae (aA aef aeb);clear aef aeb;cases d45;·
          cases e93;·
           refine bB [(0,false),(1,false),(2,false),(3,false),(4,false),(5,false),(6,false),(7,false),(8,false),(9,false),(10,false),(11,false),(12,true),(13,false),(14,false),(15,false),(16,true),(17,false)] 1000 (λw'=>Same wd w') (by kernel_rfl) (by kernel_rfl) (Same.drew _) ?_;iterate 12(
 refine aR ?_ rfl rfl (λw' hS=>?_) ?_;rotate_left;·have g0:=(hS.cell _).trans c0;have g1:=(hS.cell _).trans c1;have g2:=(hS.cell _).trans c2;go_simp;try rfl
 simp only[aN,ai,aj])
           refine bg rfl rfl (by decide) (λK hK=>?_);have HK:=ae hK;clear hK;go_simp;refine(QU.out 45 _ _ (Same.drew wd) (.inl ⟨rfl,rfl⟩)).mono ?_;rintro e ws1⟨rfl,Bz⟩;have oh:=(Same.drew wd).trans Bz;refine HK.out _ _ oh ?_;clear HK K;try simp only[aN,ai,aj]
           iterate 3(
 refine aR ?_ rfl rfl (λw' hS=>?_) ?_;rotate_left;·have g0:=(hS.cell _).trans c0;have g1:=(hS.cell _).trans c1;have g2:=(hS.cell _).trans c2;go_simp;try rfl
 simp only[aN,ai,aj])
           refine bg rfl rfl (by decide) (λK hK=>?_);have HK:=ae hK;clear hK;go_simp;refine(QU.out 93 _ _ oh (.inr ⟨rfl,rfl⟩)).mono ?_;rintro e UZ⟨rfl,I5⟩;have px:=oh.trans I5;refine HK.out _ _ px ?_;clear HK K;try simp only[aN,ai,aj]
           iterate 1(
 refine aR ?_ rfl rfl (λw' hS=>?_) ?_;rotate_left;·have g0:=(hS.cell _).trans c0;have g1:=(hS.cell _).trans c1;have g2:=(hS.cell _).trans c2;go_simp;try rfl
 simp only[aN,ai,aj])
           refine cV ?_;have afh:=ae (yc.out.same px);have ail:lW s j1=true:=by unfold lW;rw[decide_eq_true ahJ,HBJ.out.1,HBJ.out.2];rfl
           have aox:=ae ail;have Aa:=vV pb s j1;have rC:=mO s j1 afh.out.1.2.1;obtain⟨esc,EO⟩:∃b,cH s j1 92=b:=⟨_,rfl⟩;have Z9:=QQ.out 92 UZ px;rw[EO]at Z9;have HSE:Hid (aX ah 202 #[pT pb,.int .u8 92] UZ λe w'=>e= .returned (.bool esc)/\Same UZ w'):=ae Z9;have TF:=ae EO;obtain⟨S2,rD⟩:∃r,cZ s j1=r:=⟨_,rfl⟩;rw[rD]at rC;have YZ:Hid (∀r,(match cZ s j1 with| .fault e=>PR.fault e| .ok hi k=>if hi<lo then .fault (k-1)else .ok (o.add lo.toNat hi.toNat) k)=r->cB s o q=r):=ae λr hr=>by unfold cB;rw[if_pos abh.out,HLO.out.2];simp only;rw[HB9.out,if_pos rfl,<-HJ1.out,if_pos aox.out];exact hr
           have HG2:Hid (∀W,pP pb nb s w o j1 false W->aX ah 254 #[pT pb] W (lq pb s j1 W)):=ae λW h=>Aa W h.1;have ju:=ae rD;clear ail Z9 EO rD Aa QU c0 c1 c2 n1 n2 oh px Bz I5 QQ;go_upto_region 13 with(go_at_call 202;refine HSE.out.mono ?_;rintro e we⟨rfl,Z9⟩;have aa7:=ae (afh.out.same Z9);clear Z9);cases S2 with
            |fault p=> have HDp:=ae (TG.out p (YZ.out _ (by rw[ju.out])));have hg:=HG2.out we aa7.out;unfold lq at hg;rw[ju.out]at hg;have afg:Hid (aX ah 254 #[pT pb] we λe w'=>e= .returned (.int .u8 0)/\bO w' pb s p true/\Mod (λk=>k=pb) we w'):=ae (hg.mono λe w' h=>⟨h.2.2,h.1,h.2.1⟩);clear hg rC;go_upto_region 14 with(go_at_call 254;refine afg.out.mono ?_;rintro e wf⟨rfl,hp,hm⟩;have vo:=ae (aa7.out.step hp hm);clear hp hm);have e2:=vo.out.1.c2;by_cases hl0:mn=0;·
                        subst hl0;go_wp2_with fail;go_loopw[10](λcv wr=>cv= .int .i64 0/\wf=wr)(λ_ _=>0);case atStart=>exact⟨rfl,rfl⟩
                        case round=>obtain⟨rfl,rfl⟩:=hrel;go_wp2_with fail;exact⟨⟨false,o,p,true,rfl,vo,ae (.inr ⟨rfl,rfl,HDp.out.2⟩)⟩,by have h1:=vo.out.1.left;have h2:=AH.out;simp at h1 h2;omega⟩
                       ·have m1:decide ((mn:Int)<=0)=false:=by simp;omega
                        go_wp2_with fail;go_loopw[10](λcv wr=>cv= .int .i64 (mn:Int)/\wf=wr)(λ_ _=>0);case atStart=>exact⟨rfl,rfl⟩
                        case round=>obtain⟨rfl,rfl⟩:=hrel;go_wp2_with fail;exact⟨⟨false,o,p,true,rfl,vo,ae (.inr ⟨rfl,rfl,HDp.out.2⟩)⟩,by have h1:=vo.out.1.left;have h2:=AH.out;simp at h1 h2;omega⟩|ok hi k=>
             obtain⟨hin,aan⟩:∃hin,hi.toNat=hin:=⟨_,rfl⟩;have aul:hin<256:=by rw[<-aan];exact ia _
             have hg:=HG2.out we aa7.out;unfold lq at hg;rw[ju.out]at hg;have afg:Hid (aX ah 254 #[pT pb] we λe w'=>e= .returned (.int .u8 (hin:Int))/\bO w' pb s k false/\Mod (λk=>k=pb) we w'):=ae (hg.mono λe w' h=>⟨by rw[h.2.2,<-aan],h.1,h.2.1⟩);have TE:=ae (show q<k/\k<=s.size from by have h1:j1<k/\k<=s.size:=rC;have h2:=acB.out;have h3:=HJ1.out;omega);have HK:Hid (k=gL s j1 92+1):=ae (by
              have h:=ju.out;unfold cZ at h;split at h;·cases h
              ·cases h;rfl);have HHI:=ae aan;clear hg rC aan;go_upto_region 14 with(go_at_call 254;refine afg.out.mono ?_;rintro e wf⟨rfl,hp,hm⟩;have vo:=ae (aa7.out.step hp hm);clear hp hm);have e2:=vo.out.1.c2;have c1:=vo.out.1.c1;have f1:=vo.out.1.free 1;have f2:=vo.out.1.free 2;by_cases hh:hin<mn;·
              have m1:decide (hin<mn)=true:=by simpa using hh
              have m2:decide ((hin:Int)<(mn:Int))=true:=by simp;omega
              have hdp:=TG.out (k-1) (YZ.out _ (by rw[ju.out];simp only;rw[if_pos (by rw[YB,HHI.out,HLO.out.1];exact hh)]));have HDp:=ae hdp;have HJS:=ae afh.out.1.2.1;clear hdp;cases esc with
               |false=>
                have hk1:k-1=j1:=by have:=HK.out;unfold gL at this;rw[TF.out]at this;simp at this;omega
                have HK1:=ae hk1;clear hk1;go_upto_region 19 with fail;obtain⟨wg,hwg⟩:∃wg,wg=(wf.setCell (aD pb 2) (.bool true)).setCell (aD pb 1) (iV (j1:Int)):=⟨_,rfl⟩;have PH:Hid (pP pb nb s w o j1 true wg):=ae (by rw[hwg];exact(vo.out.step vo.out.1.fail (Mod.setCell _ _ _ λ_=>rfl)).step (vo.out.1.fail.set HJS.out) (Mod.setCell _ _ _ λ_=>rfl));have HDj:Hid (D= .fault j1):=ae (by rw[<-HK1.out];exact HDp.out.2);rw[<-hwg];clear hwg e2 c1 f1 f2;have e2:=PH.out.1.c2;have m3:decide (mn<=hin)=false:=by simp;omega
                have m4:decide ((mn:Int)<=(hin:Int))=false:=by simp;omega
                go_wp2_with fail;go_loopw[10](λcv wr=>cv= .int .i64 (mn:Int)/\wg=wr)(λ_ _=>0);case atStart=>exact⟨rfl,rfl⟩
                case round=>obtain⟨rfl,rfl⟩:=hrel;go_wp2_with fail;exact⟨⟨false,o,j1,true,rfl,PH,ae (.inr ⟨rfl,rfl,HDj.out⟩)⟩,by have h1:=PH.out.1.left;have h2:=AH.out;simp at h1 h2;omega⟩|true=>
                have hk1:k-1=j1+1:=by have:=HK.out;unfold gL at this;rw[TF.out]at this;simp at this;omega
                have HK1:=ae hk1;have ahU:j1+1<=s.size:=by have:=TE.out;omega
                have q2:IntKind.i64.wrap ((j1:Int)+1)=(j1:Int)+1:=aK _ (by omega);have HJ2:=ae ahU;clear hk1 ahU;go_upto_region 19 with fail;obtain⟨wg,hwg⟩:∃wg,wg=((wf.setCell (aD pb 2) (.bool true)).setCell (aD pb 1) (iV (j1:Int))).setCell (aD pb 1) (iV ((j1:Int)+1)):=⟨_,rfl⟩;have PH:Hid (pP pb nb s w o (j1+1) true wg):=ae (by rw[hwg];exact((vo.out.step vo.out.1.fail (Mod.setCell _ _ _ λ_=>rfl)).step (vo.out.1.fail.set HJS.out) (Mod.setCell _ _ _ λ_=>rfl)).step ((vo.out.1.fail.set HJS.out).set (j:=j1+1) HJ2.out) (Mod.setCell _ _ _ λ_=>rfl));have HDj:Hid (D= .fault (j1+1)):=ae (by rw[<-HK1.out];exact HDp.out.2);rw[<-hwg];clear hwg e2 c1 f1 f2 q2;have e2:=PH.out.1.c2;have m3:decide (mn<=hin)=false:=by simp;omega
                have m4:decide ((mn:Int)<=(hin:Int))=false:=by simp;omega
                go_wp2_with fail;go_loopw[10](λcv wr=>cv= .int .i64 (mn:Int)/\wg=wr)(λ_ _=>0);case atStart=>exact⟨rfl,rfl⟩
                case round=>obtain⟨rfl,rfl⟩:=hrel;go_wp2_with fail;exact⟨⟨false,o,j1+1,true,rfl,PH,ae (.inr ⟨rfl,rfl,HDj.out⟩)⟩,by have h1:=PH.out.1.left;have h2:=AH.out;simp at h1 h2;omega⟩
             ·have m1:decide (hin<mn)=false:=by simpa using hh
              have m2:decide ((hin:Int)<(mn:Int))=false:=by simp;omega
              have hdo:=HDo.out (o.add mn hin) k (YZ.out _ (by rw[ju.out];simp only;rw[if_neg (by rw[YB,HHI.out,HLO.out.1];exact hh),HHI.out,HLO.out.1]));have HDO:Hid (D=fB s (f-1+1) false (o.add mn hin) k/\s.size<f-1+1+k):=ae (by
               have h1:=TE.out;have h2:=HD.out.2;have h3:f-1+1=f:=by omega
               rw[h3];exact⟨hdo,by omega⟩);clear hdo c1 f1 f2;go_wp2_with fail;go_loopw[10](λcv wr=>∃cn:Nat,mn<=cn/\cn<=hin+1/\cv= .int .i64 (cn:Int)/\Hid (pP pb nb s w (o.addN mn (cn-mn)) k false wr))(λcv _=>hin+1-(intOf cv).toNat);case atStart=>exact⟨mn,au _,by omega,rfl,ae (by rw[mG];exact vo.out)⟩
              case round=> obtain⟨cn,amS,SH,rfl,BZ⟩:=hrel;have q2:IntKind.i64.wrap ((cn:Int)+1)=(cn:Int)+1:=aK _ (by omega);have e2:=BZ.out.1.c2;by_cases hcl:cn<=hin;·
                            have z1:(0:Int)<=(cn:Int)/\(cn:Int)<256:=by omega
                            have m1:decide (cn<=hin)=true:=by simpa using hcl
                            obtain⟨hs,hnn,_⟩:=BZ.out.2.1;have k0:=hnn.flag (c:=cn) (by omega);have k1:=hnn.free (1+cn);have afD:Hid (pP pb nb s w (o.addN mn (cn+1-mn)) k false (wr.setCell (aD nb (1+cn)) (.bool true))):=ae (by have h:=BZ.out.flag (c:=cn) (by omega);rw[show cn+1-mn=(cn-mn)+1 by omega];show pP pb nb s w ((o.addN mn (cn-mn)).on (mn+(cn-mn))) k false _;rwa[show mn+(cn-mn)=cn by omega]);clear hnn;go_wp2_with fail;exact⟨⟨cn+1,by omega,by omega,by go_num,afD⟩,by simp[intOf];omega⟩
                           ·have m1:decide (cn<=hin)=false:=by simpa using hcl
                            have Yt:Hid (pP pb nb s w (o.add mn hin) k false wr):=ae (by have h:=BZ.out;rw[show cn=hin+1 by omega]at h;exact h);go_wp2_with fail;exact⟨⟨false,o.add mn hin,k,false,rfl,Yt,ae (.inl ⟨rfl,f-1,HDO.out⟩)⟩,by have h1:=Yt.out.1.left;have h2:=AH.out;simp at h1 h2;have h3:=TE.out;omega⟩
          ·have He:C= .fault j1:=Yg.out (by unfold lW;rw[HBJ.out.2];simp);have TH:=ae He;clear He;refine bB [(0,false),(1,false),(2,false),(3,false),(4,false),(5,false),(6,false),(7,false),(8,false),(9,false),(10,false),(11,false),(12,true),(13,false),(14,false),(15,false),(16,true),(17,false)] 1000 (λw'=>Same wd w') (by kernel_rfl) (by kernel_rfl) (Same.drew _) ?_;iterate 12(
 refine aR ?_ rfl rfl (λw' hS=>?_) ?_;rotate_left;·have g0:=(hS.cell _).trans c0;have g1:=(hS.cell _).trans c1;have g2:=(hS.cell _).trans c2;go_simp;try rfl
 simp only[aN,ai,aj])
           refine bg rfl rfl (by decide) (λK hK=>?_);have HK:=ae hK;clear hK;go_simp;refine(QU.out 45 _ _ (Same.drew wd) (.inl ⟨rfl,rfl⟩)).mono ?_;rintro e ws1⟨rfl,Bz⟩;have oh:=(Same.drew wd).trans Bz;refine HK.out _ _ oh ?_;clear HK K;try simp only[aN,ai,aj]
           iterate 3(
 refine aR ?_ rfl rfl (λw' hS=>?_) ?_;rotate_left;·have g0:=(hS.cell _).trans c0;have g1:=(hS.cell _).trans c1;have g2:=(hS.cell _).trans c2;go_simp;try rfl
 simp only[aN,ai,aj])
           refine bg rfl rfl (by decide) (λK hK=>?_);have HK:=ae hK;clear hK;go_simp;refine(QU.out 93 _ _ oh (.inr ⟨rfl,rfl⟩)).mono ?_;rintro e UZ⟨rfl,I5⟩;have px:=oh.trans I5;refine HK.out _ _ px ?_;clear HK K;try simp only[aN,ai,aj]
           iterate 1(
 refine aR ?_ rfl rfl (λw' hS=>?_) ?_;rotate_left;·have g0:=(hS.cell _).trans c0;have g1:=(hS.cell _).trans c1;have g2:=(hS.cell _).trans c2;go_simp;try rfl
 simp only[aN,ai,aj])
           refine cV ?_;have h9:=yc.out.same px;have wW:=ae h9;have f9:=h9.1.free 2;have e9:=h9.1.c2;clear h9;go_wp2_with fail;refine bodyPost_ret (results_none rfl _ _ _) rfl ?_;exact kY TH.out (wW.out.step (q':=j1) (y9:=true) wW.out.1.fail (Mod.setCell _ _ _ λ_=>rfl))
         ·have He:C= .fault j1:=Yg.out (by unfold lW;rw[HBJ.out.1];simp);have TH:=ae He;clear He;refine bB [(0,false),(1,false),(2,false),(3,false),(4,false),(5,false),(6,false),(7,false),(8,false),(9,false),(10,false),(11,false),(12,true),(13,false),(14,false),(15,false),(16,true),(17,false)] 1000 (λw'=>Same wd w') (by kernel_rfl) (by kernel_rfl) (Same.drew _) ?_;iterate 12(
 refine aR ?_ rfl rfl (λw' hS=>?_) ?_;rotate_left;·have g0:=(hS.cell _).trans c0;have g1:=(hS.cell _).trans c1;have g2:=(hS.cell _).trans c2;go_simp;try rfl
 simp only[aN,ai,aj])
          refine bg rfl rfl (by decide) (λK hK=>?_);have HK:=ae hK;clear hK;go_simp;refine(QU.out 45 _ _ (Same.drew wd) (.inl ⟨rfl,rfl⟩)).mono ?_;rintro e ws1⟨rfl,Bz⟩;have oh:=(Same.drew wd).trans Bz;refine HK.out _ _ oh ?_;clear HK K;try simp only[aN,ai,aj]
          iterate 2(
 refine aR ?_ rfl rfl (λw' hS=>?_) ?_;rotate_left;·have g0:=(hS.cell _).trans c0;have g1:=(hS.cell _).trans c1;have g2:=(hS.cell _).trans c2;go_simp;try rfl
 simp only[aN,ai,aj])
          iterate 2(
 first|refine jn rfl rfl ?_|refine mN rfl rfl ?_
 simp only[aN,ai,aj])
          iterate 1(
 refine aR ?_ rfl rfl (λw' hS=>?_) ?_;rotate_left;·have g0:=(hS.cell _).trans c0;have g1:=(hS.cell _).trans c1;have g2:=(hS.cell _).trans c2;go_simp;try rfl
 simp only[aN,ai,aj])
          refine cV ?_;have h9:=yc.out.same oh;have wW:=ae h9;have f9:=h9.1.free 2;have e9:=h9.1.c2;clear h9;go_wp2_with fail;refine bodyPost_ret (results_none rfl _ _ _) rfl ?_;exact kY TH.out (wW.out.step (q':=j1) (y9:=true) wW.out.1.fail (Mod.setCell _ _ _ λ_=>rfl))
        ·have n1:decide (s.size<=j1)=true:=by simp;omega
         have n2:decide ((j1:Int)>=(s.size:Int))=true:=by simp;omega
         have He:C= .fault j1:=Yg.out (by unfold lW;rw[decide_eq_false ahJ];rfl);have TH:=ae He;clear He;refine bB [(0,false),(1,false),(2,false),(3,false),(4,false),(5,false),(6,false),(7,false),(8,false),(9,false),(10,false),(11,false),(12,true),(13,false),(14,false),(15,false),(16,true),(17,false)] 1000 (λw'=>Same wd w') (by kernel_rfl) (by kernel_rfl) (Same.drew _) ?_;iterate 11(
 refine aR ?_ rfl rfl (λw' hS=>?_) ?_;rotate_left;·have g0:=(hS.cell _).trans c0;have g1:=(hS.cell _).trans c1;have g2:=(hS.cell _).trans c2;go_simp;try rfl
 simp only[aN,ai,aj])
         iterate 2(
 first|refine jn rfl rfl ?_|refine mN rfl rfl ?_
 simp only[aN,ai,aj])
         iterate 2(
 refine aR ?_ rfl rfl (λw' hS=>?_) ?_;rotate_left;·have g0:=(hS.cell _).trans c0;have g1:=(hS.cell _).trans c1;have g2:=(hS.cell _).trans c2;go_simp;try rfl
 simp only[aN,ai,aj])
         iterate 2(
 first|refine jn rfl rfl ?_|refine mN rfl rfl ?_
 simp only[aN,ai,aj])
         iterate 1(
 refine aR ?_ rfl rfl (λw' hS=>?_) ?_;rotate_left;·have g0:=(hS.cell _).trans c0;have g1:=(hS.cell _).trans c1;have g2:=(hS.cell _).trans c2;go_simp;try rfl
 simp only[aN,ai,aj])
         refine cV ?_;have h9:=yc.out.same (Same.drew wd);have wW:=ae h9;have f9:=h9.1.free 2;have e9:=h9.1.c2;clear h9;go_wp2_with fail;refine bodyPost_ret (results_none rfl _ _ _) rfl ?_;exact kY TH.out (wW.out.step (q':=j1) (y9:=true) wW.out.1.fail (Mod.setCell _ _ _ λ_=>rfl))
   ·have He:C= .fault q:=(TG.out q (by unfold cB lW;rw[if_neg (by rw[QV.out.2];simp)])).1;have TH:=ae He;clear He;refine bB [(0,false),(1,false),(2,false),(3,false),(4,false),(5,false),(6,false),(7,false),(8,false),(9,false),(10,false),(11,false),(12,false),(13,false),(14,false),(15,false),(16,false),(17,false),(18,true),(19,false),(20,false),(21,false),(22,true),(23,false)] 1000 (λw'=>Same wa w') (by kernel_rfl) (by kernel_rfl) (Same.drew _) ?_;iterate 18(
 refine aR ?_ rfl rfl (λw' hS=>?_) ?_;rotate_left;·have g0:=(hS.cell _).trans c0;have g1:=(hS.cell _).trans c1;have g2:=(hS.cell _).trans c2;go_simp;try rfl
 simp only[aN,ai,aj])
    refine bg rfl rfl (by decide) (λK hK=>?_);have HK:=ae hK;clear hK;go_simp;refine(QU.out 45 _ _ (Same.drew wa) (.inl ⟨rfl,rfl⟩)).mono ?_;rintro e ws1⟨rfl,Bz⟩;have oh:=(Same.drew wa).trans Bz;refine HK.out _ _ oh ?_;clear HK K;try simp only[aN,ai,aj]
    iterate 3(
 refine aR ?_ rfl rfl (λw' hS=>?_) ?_;rotate_left;·have g0:=(hS.cell _).trans c0;have g1:=(hS.cell _).trans c1;have g2:=(hS.cell _).trans c2;go_simp;try rfl
 simp only[aN,ai,aj])
    refine bg rfl rfl (by decide) (λK hK=>?_);have HK:=ae hK;clear hK;go_simp;refine(QU.out 93 _ _ oh (.inr ⟨rfl,rfl⟩)).mono ?_;rintro e UZ⟨rfl,I5⟩;have px:=oh.trans I5;refine HK.out _ _ px ?_;clear HK K;try simp only[aN,ai,aj]
    iterate 1(
 refine aR ?_ rfl rfl (λw' hS=>?_) ?_;rotate_left;·have g0:=(hS.cell _).trans c0;have g1:=(hS.cell _).trans c1;have g2:=(hS.cell _).trans c2;go_simp;try rfl
 simp only[aN,ai,aj])
    refine cV ?_;have h9:=pF.out.same px;have wW:=ae h9;have f9:=h9.1.free 2;have e9:=h9.1.c2;clear h9;go_wp2_with fail;refine bodyPost_ret (results_none rfl _ _ _) rfl ?_;exact kY TH.out (wW.out.step (q':=q) (y9:=true) wW.out.1.fail (Mod.setCell _ _ _ λ_=>rfl))
  ·have He:C= .fault q:=(TG.out q (by unfold cB lW;rw[if_neg (by rw[QV.out.1];simp)])).1;have TH:=ae He;clear He;refine bB [(0,false),(1,false),(2,false),(3,false),(4,false),(5,false),(6,false),(7,false),(8,false),(9,false),(10,false),(11,false),(12,false),(13,false),(14,false),(15,false),(16,false),(17,false),(18,true),(19,false),(20,false),(21,false),(22,true),(23,false)] 1000 (λw'=>Same wa w') (by kernel_rfl) (by kernel_rfl) (Same.drew _) ?_;iterate 18(
 refine aR ?_ rfl rfl (λw' hS=>?_) ?_;rotate_left;·have g0:=(hS.cell _).trans c0;have g1:=(hS.cell _).trans c1;have g2:=(hS.cell _).trans c2;go_simp;try rfl
 simp only[aN,ai,aj])
   refine bg rfl rfl (by decide) (λK hK=>?_);have HK:=ae hK;clear hK;go_simp;refine(QU.out 45 _ _ (Same.drew wa) (.inl ⟨rfl,rfl⟩)).mono ?_;rintro e ws1⟨rfl,Bz⟩;have oh:=(Same.drew wa).trans Bz;refine HK.out _ _ oh ?_;clear HK K;try simp only[aN,ai,aj]
   iterate 2(
 refine aR ?_ rfl rfl (λw' hS=>?_) ?_;rotate_left;·have g0:=(hS.cell _).trans c0;have g1:=(hS.cell _).trans c1;have g2:=(hS.cell _).trans c2;go_simp;try rfl
 simp only[aN,ai,aj])
   iterate 2(
 first|refine jn rfl rfl ?_|refine mN rfl rfl ?_
 simp only[aN,ai,aj])
   iterate 1(
 refine aR ?_ rfl rfl (λw' hS=>?_) ?_;rotate_left;·have g0:=(hS.cell _).trans c0;have g1:=(hS.cell _).trans c1;have g2:=(hS.cell _).trans c2;go_simp;try rfl
 simp only[aN,ai,aj])
   refine cV ?_;have h9:=pF.out.same oh;have wW:=ae h9;have f9:=h9.1.free 2;have e9:=h9.1.c2;clear h9;go_wp2_with fail;refine bodyPost_ret (results_none rfl _ _ _) rfl ?_;exact kY TH.out (wW.out.step (q':=q) (y9:=true) wW.out.1.fail (Mod.setCell _ _ _ λ_=>rfl))
 ·have n1:decide (s.size<=q)=true:=by simp;omega
  have n2:decide ((q:Int)>=(s.size:Int))=true:=by simp;omega
  have He:C= .fault q:=(TG.out q (by unfold cB lW;rw[if_neg (by simp;omega)])).1;have TH:=ae He;have QU:Hid (∀(z:Int)(b:Bool)(W:ak),Same wa W->((z=45/\b=cH s q 45)\/(z=93/\b=cH s q 93))->aX ah 202 #[pT pb,.int .u8 z] W λe w'=>e= .returned (.bool b)/\Same W w'):=ae (by
   rintro z b W h(⟨rfl,rfl⟩|⟨rfl,rfl⟩);·exact MA.out 45 W h
   ·exact MA.out 93 W h);clear He;refine bB [(0,false),(1,false),(2,false),(3,false),(4,false),(5,false),(6,false),(7,false),(8,false),(9,false),(10,false),(11,false),(12,false),(13,false),(14,false),(15,false),(16,false),(17,false),(18,true),(19,false),(20,false),(21,false),(22,true),(23,false)] 1000 (λw'=>Same wa w') (by kernel_rfl) (by kernel_rfl) (Same.drew _) ?_;iterate 17(
 refine aR ?_ rfl rfl (λw' hS=>?_) ?_;rotate_left;·have g0:=(hS.cell _).trans c0;have g1:=(hS.cell _).trans c1;have g2:=(hS.cell _).trans c2;go_simp;try rfl
 simp only[aN,ai,aj])
  iterate 2(
 first|refine jn rfl rfl ?_|refine mN rfl rfl ?_
 simp only[aN,ai,aj])
  iterate 2(
 refine aR ?_ rfl rfl (λw' hS=>?_) ?_;rotate_left;·have g0:=(hS.cell _).trans c0;have g1:=(hS.cell _).trans c1;have g2:=(hS.cell _).trans c2;go_simp;try rfl
 simp only[aN,ai,aj])
  iterate 2(
 first|refine jn rfl rfl ?_|refine mN rfl rfl ?_
 simp only[aN,ai,aj])
  iterate 1(
 refine aR ?_ rfl rfl (λw' hS=>?_) ?_;rotate_left;·have g0:=(hS.cell _).trans c0;have g1:=(hS.cell _).trans c1;have g2:=(hS.cell _).trans c2;go_simp;try rfl
 simp only[aN,ai,aj])
  refine cV ?_;have h9:=pF.out.same (Same.drew wa);have wW:=ae h9;have f9:=h9.1.free 2;have e9:=h9.1.c2;clear h9;go_wp2_with fail;refine bodyPost_ret (results_none rfl _ _ _) rfl ?_;exact kY TH.out (wW.out.step (q':=q) (y9:=true) wW.out.1.fail (Mod.setCell _ _ _ λ_=>rfl)))
  ·have He:=Yn.out q hD;have TH:=ae He;have tj:=vk.out 93 Wr (Same.refl _);have Fv:Hid (aX ah 202 #[pT pb,.int .u8 93] Wr λe w'=>e= .returned (.bool false)/\Same Wr w'):=ae tj;clear tj He hD;go_upto_region 4 with(go_at_call 202;refine Fv.out.mono ?_;rintro e wa⟨rfl,hsa⟩;have mR:=ae (HS.out.same hsa);clear hsa);have c2:=mR.out.1.c2;have f2:=mR.out.1.free 2;go_quiet(fail);go_wp2_with fail;refine bodyPost_ret (results_none rfl _ _ _) rfl ?_;have h9:=mR.out.same (Same.drewN _ nq);exact kY TH.out (h9.step (q':=q) (y9:=true) h9.1.fail (Mod.setCell _ _ _ λ_=>rfl))
def tL(pb:Nat)(s:ByteArray)(w:ak)(C:PR bC)(e:rY)(w':ak):Prop:=∃v,e= .returned v/\Mod (λk=>k=pb) w w'/\Hu pb s w' C/\∀y j,C= .ok y j->∃nb,v=aP nb/\bu w' y nb
def Vg:PR bG->PR bC| .fault e=> .fault e| .ok o j=> .ok (.one o) j
def Dz:PR UInt8->PR bC| .fault e=> .fault e| .ok d j=> .ok (.one (wA d)) j
theorem xj{S:Nat->Prop}{a b c:ak}{nb:Nat}(h:Mod S a b)(k:Mod (λk=>S k\/k=nb) b c)(hn:a.heap.size<=nb):Mod S a c:=⟨k.os.trans h.os,k.tape.trans h.tape,k.output.trans h.output,aZ h.size k.size,λj hj hs=>(k.block j (Nat.lt_of_lt_of_le hj h.size) (λe=>e.elim hs λe=>by omega)).trans (h.block j hj hs)⟩
theorem jD{s:ByteArray}{i:Nat}{c:UInt8}(h:s.data.toList[i]?=some c)(d:UInt8):cH s i d=decide (c=d):=by unfold cH;rw[h];simp
theorem ub{pb:Nat}{s:ByteArray}{i:Nat}{c d:UInt8}(h:s.data.toList[i]?=some c)(hd:c≠d)(w:ak)(hR:bO w pb s i false):aX ah 160 #[aP pb,.int .u8 d.toNat] w λe w'=>e= .returned (.bool false)/\bO w' pb s i false/\Mod (λk=>k=pb) w w':=by
 have hb:cH s i d=false:=by rw[jD h,decide_eq_false hd]
 have:=rK pb s i false d w hR;simp only[jO,gP,jP,if_false,gL,hb]at this;exact this
theorem IM{pb:Nat}{s:ByteArray}{i:Nat}{c:UInt8}(h:s.data.toList[i]?=some c)(w:ak)(hR:bO w pb s i false):aX ah 160 #[aP pb,.int .u8 c.toNat] w λe w'=>e= .returned (.bool true)/\bO w' pb s (i+1) false/\Mod (λk=>k=pb) w w':=by
 have hb:cH s i c=true:=by rw[jD h,decide_eq_true rfl]
 have:=rK pb s i false c w hR;simp only[jO,gP,jP,if_false,gL,hb,if_true]at this;exact this
theorem Tu(pb:Nat)(s:ByteArray)(i:Nat)(w:ak)(hR:bO w pb s i false)(hi:s.size<=i):aX ah 228 #[aP pb] w (tL pb s w (.fault i)):=by
 have c0:=hR.c0;have c1:=hR.c1;have c2:=hR.c2;have f2:=hR.free 2;have HR:=ae hR;have n1:decide (s.size<=i)=true:=by simpa using hi
 have n2:decide ((i:Int)>=(s.size:Int))=true:=by simp;omega
 clear hR;unfold aP;go_enter yh,vH;go_upto_region 1 with fail;go_quiet(fail);go_wp2_with fail;go_ret;refine⟨_,rfl,?_,?_,λy j e=>by cases e⟩;·exact((Mod.same (Same.drewN _ nq)).trans (Mod.setCell (S:=λk=>k=pb) _ _ _ λ_=>rfl)).trans (Mod.alloc _ _ _)
 ·exact(HR.same (Same.drewN _ nq)).fail.below ((aB _ _).alloc (au _) _)
theorem XT(pb:Nat)(s:ByteArray)(i:Nat)(w:ak)(hR:bO w pb s i false)(hc:s.data.toList[i]?=some 46):aX ah 228 #[aP pb] w (tL pb s w (.ok (.one allB) (i+1))):=by
 have nH:(46:UInt8)≠40:=by decide
 have his:=iy hc;have c0:=hR.c0;have c1:=hR.c1;have c2:=hR.c2;have n1:decide (s.size<=i)=false:=by simp;omega
 have n2:decide ((i:Int)>=(s.size:Int))=false:=by simp;omega
 have HR:=ae hR;have AK:=ae hc;clear hR hc;unfold aP;go_enter yh,vH;go_upto_region 1 with fail;go_quiet(fail);go_upto_region 4 with fail;obtain⟨wa,oL⟩:∃wa,wa=w.drewN nq:=⟨_,rfl⟩;have mR:Hid (bO wa pb s i false/\Mod (λk=>k=pb) w wa):=ae (by rw[oL];exact⟨HR.same (Same.drewN _ _),Mod.same (Same.drewN _ _)⟩);rw[<-oL];clear oL c0 c1 c2 n1 n2;have hone:=ub AK nH wa mR.1;unfold aP at hone;have cD:Hid (aX ah 160 #[pT pb,.int .u8 40] wa λe w'=>e= .returned (.bool false)/\bO w' pb s i false/\Mod (λk=>k=pb) wa w'):=ae hone;clear hone;go_upto_region 10 with(go_at_call 160;refine cD.mono ?_;rintro e wb⟨rfl,hp,hm⟩;have kq:Hid (bO wb pb s i false/\Mod (λk=>k=pb) w wb):=ae ⟨hp,mR.2.trans hm⟩;clear hp hm);go_upto_region 11 with fail;obtain⟨W1,hW1⟩:∃W1,W1=wb.alloc (.cells (Tryz.zeroCells138.setIfInBounds 0 (iV 1)) 138):=⟨_,rfl⟩;obtain⟨nb,hnb⟩:∃nb,nb=wb.heap.size:=⟨_,rfl⟩;have kL:Hid (bO W1 pb s i false/\Mod (λk=>k=pb) w W1/\bP W1 nb 1 dW (.pointer none) (.pointer none)/\w.heap.size<=nb):=ae (by rw[hW1,hnb];exact⟨kq.1.below ((aB _ _).alloc (au _) _),kq.2.trans (Mod.alloc _ _ _),qI wb,kq.2.size⟩);rw[<-hW1,<-hnb];clear hW1 hnb kq cD mR;have hone:=IM AK W1 kL.1;unfold aP at hone;have cD:Hid (aX ah 160 #[pT pb,.int .u8 46] W1 λe w'=>e= .returned (.bool true)/\bO w' pb s (i+1) false/\Mod (λk=>k=pb) W1 w'):=ae hone;clear hone;go_upto_region 12 with(go_at_call 160;refine cD.mono ?_;rintro e W2⟨rfl,hp,hm⟩;have ju:Hid (bO W2 pb s (i+1) false/\Mod (λk=>k=pb) w W2/\bP W2 nb 1 dW (.pointer none) (.pointer none)/\w.heap.size<=nb):=ae ⟨hp,kL.2.1.trans hm,kL.2.2.1.old (hm.block nb (lt_of_heap kL.2.2.1.2) (kL.1.ne kL.2.2.1)),kL.2.2.2⟩;clear hp hm);clear cD;go_wp2_with fail;go_loopw[6](λcv wr=>∃cn:Nat,cn<=256/\cv= .int .i64 (cn:Int)/\Hid (bO wr pb s (i+1) false/\Mod (λk=>k=pb) w wr/\bP wr nb 1 (aQ cn true++aQ (256-cn) false) (.pointer none) (.pointer none)/\w.heap.size<=nb))(λcv _=>256-(intOf cv).toNat);case atStart=>exact⟨0,by omega,rfl,ju⟩
 case round=>
  clear ju;obtain⟨k,hk,rfl,HX⟩:=hrel;by_cases hk2:k<256;·
   have r2:IntKind.i64.wrap ((k:Int)+1)=(k:Int)+1:=aK _ (by omega);have k0:=HX.2.2.1.flag (c:=k) hk2;have k1:=HX.2.2.1.free (1+k);have y1:(0:Int)<=(k:Int)/\(k:Int)<256:=by omega
   have MW:Hid (bO (wr.setCell (aD nb (1+k)) (.bool true)) pb s (i+1) false/\Mod (λk=>k=pb) w (wr.setCell (aD nb (1+k)) (.bool true))/\bP (wr.setCell (aD nb (1+k)) (.bool true)) nb 1 (aQ (k+1) true++aQ (256-(k+1)) false) (.pointer none) (.pointer none)/\w.heap.size<=nb):=ae (by obtain⟨h1,h2,h3,h4⟩:=HX.out;refine⟨h1.old (az _ _ _ pb λe=>h1.ne h3 e.symm),xj h2 (Mod.setCell _ _ _ λ_=> .inr rfl) h4,?_,h4⟩;have:=h3.set k true hk2;rw[Y9,if_neg (by rw[bK];omega),bK,mG,show 256-k=(256-(k+1))+1 by omega,List.replicate_succ,aj]at this;rw[List.replicate_succ',List.append_assoc];exact this);go_wp2_with fail;exact⟨⟨k+1,by omega,by go_num,MW⟩,by simp[intOf];omega⟩
  ·have SY:(k:Int)=256:=by omega
   have HY:Hid (bO wr pb s (i+1) false/\Mod (λk=>k=pb) w wr/\bP wr nb 1 (aQ 256 true) (.pointer none) (.pointer none)):=ae (by obtain⟨h1,h2,h3,h4⟩:=HX.out;refine⟨h1,h2,?_⟩;rwa[show k=256 by omega,show 256-256=0 from rfl,List.replicate_zero,List.append_nil]at h3);clear HX;rw[SY];go_wp2_with fail;go_ret;exact⟨_,rfl,HY.2.1,HY.1,λy j e=>by cases e;exact⟨nb,rfl,Bu HY.2.2⟩⟩
theorem XR(pb:Nat)(s:ByteArray)(i:Nat)(w:ak)(hR:bO w pb s i false)(hc:s.data.toList[i]?=some 91):aX ah 228 #[aP pb] w (tL pb s w (Vg (nW s (i+1)))):=by
 have nH:(91:UInt8)≠40:=by decide
 have uY:(91:UInt8)≠46:=by decide
 have his:=iy hc;have c0:=hR.c0;have c1:=hR.c1;have c2:=hR.c2;have n1:decide (s.size<=i)=false:=by simp;omega
 have n2:decide ((i:Int)>=(s.size:Int))=false:=by simp;omega
 have HR:=ae hR;have AK:=ae hc;unfold aP;go_enter yh,vH;go_upto_region 1 with fail;go_quiet(fail);go_upto_region 4 with fail;obtain⟨wa,oL⟩:∃wa,wa=w.drewN nq:=⟨_,rfl⟩;have mR:Hid (bO wa pb s i false/\Mod (λk=>k=pb) w wa):=ae (by rw[oL];exact⟨HR.same (Same.drewN _ _),Mod.same (Same.drewN _ _)⟩);rw[<-oL];clear oL c0 c1 c2 n1 n2;have hone:=ub AK nH wa mR.1;unfold aP at hone;have cD:=ae hone;go_upto_region 10 with(go_at_call 160;refine cD.mono ?_;rintro e wb⟨rfl,hp,hm⟩;have kq:Hid (bO wb pb s i false/\Mod (λk=>k=pb) w wb):=ae ⟨hp,mR.2.trans hm⟩);go_upto_region 11 with fail;obtain⟨W1,hW1⟩:∃W1,W1=wb.alloc (.cells (Tryz.zeroCells138.setIfInBounds 0 (iV 1)) 138):=⟨_,rfl⟩;obtain⟨nb,hnb⟩:∃nb,nb=wb.heap.size:=⟨_,rfl⟩;have kL:Hid (bO W1 pb s i false/\Mod (λk=>k=pb) w W1/\bP W1 nb 1 dW (.pointer none) (.pointer none)/\w.heap.size<=nb):=ae (by rw[hW1,hnb];exact⟨kq.1.below ((aB _ _).alloc (au _) _),kq.2.trans (Mod.alloc _ _ _),qI wb,kq.2.size⟩);rw[<-hW1,<-hnb];clear hW1 hnb kq cD mR;have hone:=ub AK uY W1 kL.1;unfold aP at hone;have cD:=ae hone;go_upto_region 17 with(go_at_call 160;refine cD.mono ?_;rintro e W2⟨rfl,hp,hm⟩;have ju:Hid (bO W2 pb s i false/\Mod (λk=>k=pb) w W2/\bP W2 nb 1 dW (.pointer none) (.pointer none)/\w.heap.size<=nb):=ae ⟨hp,kL.2.1.trans hm,kL.2.2.1.old (hm.block nb (lt_of_heap kL.2.2.1.2) (kL.1.ne kL.2.2.1)),kL.2.2.2⟩);have hone:=IM AK W2 ju.1;unfold aP at hone;have cD:=ae hone;go_upto_region 18 with(go_at_call 160;refine cD.mono ?_;rintro e W3⟨rfl,hp,hm⟩;have iH:Hid (bO W3 pb s (i+1) false/\Mod (λk=>k=pb) w W3/\bP W3 nb 1 dW (.pointer none) (.pointer none)/\w.heap.size<=nb):=ae ⟨hp,ju.2.1.trans hm,ju.2.2.1.old (hm.block nb (lt_of_heap ju.2.2.1.2) (ju.1.ne ju.2.2.1)),ju.2.2.2⟩);have hcl:=O5 pb nb s (i+1) W3 iH.1 iH.2.2.1;unfold aP at hcl;have Yq:=ae hcl;go_wp2_with(go_at_call 252;refine Yq.mono ?_;rintro e W4⟨rfl,hm,hp,ho⟩;have H4:=ae (aA hm (aA hp ho)));go_ret;obtain⟨hm,hp,ho⟩:=H4.out;have hmm:=xj iH.2.1 hm iH.2.2.2;cases hS:nW s (i+1)with|fault e=>rw[hS]at hp;exact⟨_,rfl,hmm,hp,λy j e=>by cases e⟩|ok o j=>rw[hS]at hp;refine⟨_,rfl,hmm,hp,λy j' e=>?_⟩;cases e;obtain⟨hs,h1,h2⟩:=ho o j hS;exact⟨nb,rfl,hs,h1,h2⟩
def YA(pb:Nat)(s:ByteArray)(w:ak)(i:Nat)(bad:Bool)(nb:Nat)(hs:List Bool)(W:ak):Prop:=bO W pb s i bad/\Mod (λk=>k=pb) w W/\bP W nb 1 hs (.pointer none) (.pointer none)/\w.heap.size<=nb
theorem YA.step{pb i j nb:Nat}{s:ByteArray}{w W W':ak}{bad y9:Bool}{hs:List Bool}(h:YA pb s w i bad nb hs W)(hp:bO W' pb s j y9)(hm:Mod (λk=>k=pb) W W'):YA pb s w j y9 nb hs W':=⟨hp,h.2.1.trans hm,h.2.2.1.old (hm.block nb (lt_of_heap h.2.2.1.2) (h.1.ne h.2.2.1)),h.2.2.2⟩
theorem YA.same{pb i nb:Nat}{s:ByteArray}{w W W':ak}{bad:Bool}{hs:List Bool}(h:YA pb s w i bad nb hs W)(k:Same W W'):YA pb s w i bad nb hs W':=h.step (h.1.same k) (Mod.same k)
theorem YA.flag{pb i nb c:Nat}{s:ByteArray}{w W:ak}{bad v:Bool}{hs:List Bool}(h:YA pb s w i bad nb hs W)(hc:c<256):YA pb s w i bad nb (hs.set c v) (W.setCell (aD nb (1+c)) (.bool v)):=⟨h.1.old (az _ (aD nb _) _ pb λe=>h.1.ne h.2.2.1 e.symm),xj h.2.1 (Mod.setCell (S:=λk=>k=pb\/k=nb) _ _ _ λ_=> .inr rfl) h.2.2.2,h.2.2.1.set c v hc,h.2.2.2⟩
theorem Po(pb:Nat)(s:ByteArray)(i:Nat)(c:UInt8)(w:ak)(hR:bO w pb s i false)(hc:s.data.toList[i]?=some c)(nH:c≠40)(uY:c≠46)(uN:c≠91)(tP:c≠92)(hsp:qw c.toNat=true):aX ah 228 #[aP pb] w (tL pb s w (.fault i)):=by
 have his:=iy hc;have c0:=hR.c0;have c1:=hR.c1;have c2:=hR.c2;have n1:decide (s.size<=i)=false:=by simp;omega
 have n2:decide ((i:Int)>=(s.size:Int))=false:=by simp;omega
 have cD:Hid (∀(z:Int)(W:ak),(z=40\/z=46\/z=91)->bO W pb s i false->aX ah 160 #[pT pb,.int .u8 z] W λe w'=>e= .returned (.bool false)/\bO w' pb s i false/\Mod (λk=>k=pb) W w'):=ae (by
  rintro z W(rfl|rfl|rfl)hW;·exact ub hc nH W hW
  ·exact ub hc uY W hW
  ·exact ub hc uN W hW);obtain⟨cn,hcn⟩:∃cn,c.toNat=cn:=⟨_,rfl⟩;have aaL:∀h,((s[i]'h).toNat:Int)=(cn:Int):=λh=>by have h1:=iP s i h;rw[hc]at h1;rw[<-aJ h1,hcn]
 have z1:(0:Int)<=(i:Int)/\(i:Int)<(s.size:Int):=by omega
 have vk:Hid (∀W,bO W pb s i false->aX ah 202 #[pT pb,.int .u8 92] W λe w'=>e= .returned (.bool false)/\Same W w'):=ae λW h=>by have:=rG pb s i false 92 W h;rw[jD hc,decide_eq_false tP]at this;exact this
 have ajm:Hid (∀W,aX ah 253 #[.int .u8 (cn:Int)] W λe w'=>e= .returned (.bool true)/\Same W w'):=ae λW=>by have:=Cl cn W;rwa[<-hcn,hsp,hcn]at this
 have H:=ae hR;unfold aP;go_enter yh,vH;go_upto_region 11 with(first|go_quiet(fail)|(go_at_call 160;refine(cD.out 40 _ (.inl rfl) (H.same (Same.drewN _ _))).mono ?_;rintro e wb⟨rfl,hp,hm⟩;have kq:=ae (aA hp ((Mod.same (Same.drewN _ _)).trans hm))));obtain⟨W1,hW1⟩:∃W1,W1=wb.alloc (.cells (Tryz.zeroCells138.setIfInBounds 0 (iV 1)) 138):=⟨_,rfl⟩;obtain⟨nb,hnb⟩:∃nb,nb=wb.heap.size:=⟨_,rfl⟩;have HS:Hid (YA pb s w i false nb dW W1):=ae (by rw[hW1,hnb];exact⟨kq.1.below ((aB _ _).alloc (au _) _),kq.2.trans (Mod.alloc _ _ _),qI wb,kq.2.size⟩);rw[<-hW1,<-hnb];clear hW1 hnb kq n1 n2;go_wp2_with(first|go_quiet(first|(go_at_call 202;exact Bk (vk _ (HS.1.same (Same.drewN _ _))))|(go_at_call 253;exact Bk (ajm _)))|(go_at_call 160;refine(cD _ _ (by first|exact .inr (.inl rfl)|exact .inr (.inr rfl)) HS.1).mono ?_;rintro e wx⟨rfl,hp,hm⟩;have HS:=ae (HS.step hp hm);have c0:=HS.1.c0;have c1:=HS.1.c1;have c2:=HS.1.c2;have f2:=HS.1.free 2));go_ret;exact⟨_,rfl,(HS.2.1.trans (Mod.same (Same.drewN _ _))).trans (Mod.setCell (S:=λk=>k=pb) _ _ _ λ_=>rfl),(HS.1.same (Same.drewN _ _)).fail,λy j e=>by cases e⟩
theorem Ff(d92:Bool)(pb:Nat)(s:ByteArray)(i:Nat)(c:UInt8)(w:ak)(hR:bO w pb s i false)(hc:s.data.toList[i]?=some c)(nH:c≠40)(uY:c≠46)(uN:c≠91)(tP:decide (c=92)=d92)(hsp:d92=false->qw c.toNat=false):aX ah 228 #[aP pb] w (tL pb s w (Dz (cZ s i))):=by
 have his:=iy hc;have c0:=hR.c0;have c1:=hR.c1;have c2:=hR.c2;have n1:decide (s.size<=i)=false:=by simp;omega
 have n2:decide ((i:Int)>=(s.size:Int))=false:=by simp;omega
 have cD:Hid (∀(z:Int)(W:ak),(z=40\/z=46\/z=91)->bO W pb s i false->aX ah 160 #[pT pb,.int .u8 z] W λe w'=>e= .returned (.bool false)/\bO w' pb s i false/\Mod (λk=>k=pb) W w'):=ae (by
  rintro z W(rfl|rfl|rfl)hW;·exact ub hc nH W hW
  ·exact ub hc uY W hW
  ·exact ub hc uN W hW);obtain⟨cn,hcn⟩:∃cn,c.toNat=cn:=⟨_,rfl⟩;have aaL:∀h,((s[i]'h).toNat:Int)=(cn:Int):=λh=>by have h1:=iP s i h;rw[hc]at h1;rw[<-aJ h1,hcn]
 have z1:(0:Int)<=(i:Int)/\(i:Int)<(s.size:Int):=by omega
 have vk:Hid (∀W,bO W pb s i false->aX ah 202 #[pT pb,.int .u8 92] W λe w'=>e= .returned (.bool d92)/\Same W w'):=ae λW h=>by have:=rG pb s i false 92 W h;rw[jD hc,tP]at this;exact this
 have YT:Hid (d92=false->∀W,aX ah 253 #[.int .u8 (cn:Int)] W λe w'=>e= .returned (.bool false)/\Same W w'):=ae λhd W=>by have:=Cl cn W;rwa[<-hcn,hsp hd,hcn]at this
 have Aa:=vV pb s i;unfold lq at Aa;obtain⟨S1,hS1⟩:∃r,cZ s i=r:=⟨_,rfl⟩;rw[hS1]at Aa⊢;have hdn:∃(dn j:Nat)(bad:Bool),dn<256/\(∀W,bO W pb s i false->aX ah 254 #[pT pb] W λe w'=>e= .returned (.int .u8 (dn:Int))/\bO w' pb s j bad/\Mod (λk=>k=pb) W w')/\(∀W,bO W pb s j bad->Hu pb s W (Dz S1))/\∀y j',Dz S1= .ok y j'->∃d:UInt8,y= .one (wA d)/\d.toNat=dn:=by cases S1 with|fault p=>exact⟨0,p,true,by omega,λW h=>(Aa W h).mono λe w' h=>⟨h.2.2,h.1,h.2.1⟩,λ_ h=>h,λy j' e=>by cases e⟩|ok d j=>have hd:=ia d;exact⟨d.toNat,j,false,by omega,λW h=>(Aa W h).mono λe w' h=>⟨h.2.2,h.1,h.2.1⟩,λ_ h=>h,λy j' e=>by cases e;exact⟨d,rfl,rfl⟩⟩
 obtain⟨dn,j,bad,hd8,ahi,hpe,hy⟩:=hdn;have Uh:=ae ahi;have HY:=ae (aA hpe hy);have z2:(0:Int)<=(dn:Int)/\(dn:Int)<256:=by omega
 have H:=ae hR;clear hR hc hcn hsp nH uY uN tP Aa ahi hpe hy hS1;unfold aP;go_enter yh,vH;go_upto_region 11 with(first|go_quiet(fail)|(go_at_call 160;refine(cD.out 40 _ (.inl rfl) (H.same (Same.drewN _ _))).mono ?_;rintro e wb⟨rfl,hp,hm⟩;have kq:=ae (aA hp ((Mod.same (Same.drewN _ _)).trans hm));clear hp hm c0 c1 c2));obtain⟨W1,hW1⟩:∃W1,W1=wb.alloc (.cells (Tryz.zeroCells138.setIfInBounds 0 (iV 1)) 138):=⟨_,rfl⟩;obtain⟨nb,hnb⟩:∃nb,nb=wb.heap.size:=⟨_,rfl⟩;have HS:Hid (YA pb s w i false nb dW W1):=ae (by rw[hW1,hnb];exact⟨kq.1.below ((aB _ _).alloc (au _) _),kq.2.trans (Mod.alloc _ _ _),qI wb,kq.2.size⟩);rw[<-hW1,<-hnb];clear hW1 hnb kq n1 n2;cases d92;all_goals go_wp2_with(first|go_quiet(first|(go_at_call 202;exact Bk (vk _ (HS.1.same (Same.drewN _ _))))|(go_at_call 253;exact Bk (by first|exact YT rfl _|exact YT trivial _|exact YT _)))|(go_at_call 160;refine(cD _ _ (by first|exact .inr (.inl rfl)|exact .inr (.inr rfl)) HS.1).mono ?_;rintro e wx⟨rfl,hp,hm⟩;have HS:=ae (HS.step hp hm);clear hp hm;have c0:=HS.1.c0;have c1:=HS.1.c1;have c2:=HS.1.c2;have f2:=HS.1.free 2)|(go_at_call 254;refine(Uh _ (HS.1.same (Same.drewN _ _))).mono ?_;rintro e wz⟨rfl,hp,hm⟩;have HZ:=ae ((HS.same (Same.drewN _ _)).step hp hm);clear hp hm;have k0:=HZ.2.2.1.flag (c:=dn) hd8;have k1:=HZ.2.2.1.free (1+dn)));go_ret;have HF:=HZ.flag (v:=true) hd8;refine⟨aP nb,rfl,HF.2.1,HY.1 _ HF.1,λy j' e=>?_⟩;obtain⟨d,rfl,hd⟩:=HY.2 y j' e;exact⟨nb,rfl,Bt (by rw[hd];exact HF.2.2.1)⟩
theorem xI(c:UInt8)(nH:c≠40)(uY:c≠46)(uN:c≠91)(tP:c≠92):qw c.toNat=rZ c:=by
 have h:∀n:Fin 256,n.val≠40->n.val≠46->n.val≠91->n.val≠92->qw n.val=rZ (cS n.val):=by decide
 have hne:∀d:UInt8,c≠d->c.toNat≠d.toNat:=λd hd e=>hd (UInt8.toNat_inj.1 e);have:=h ⟨c.toNat,ia c⟩ (hne 40 nH) (hne 46 uY) (hne 91 uN) (hne 92 tP);rwa[UInt8.ofNat_toNat]at this
theorem Rf:rZ 92=false:=by decide
theorem Mq(A:Nat->PR bC)(pb:Nat)(s:ByteArray)(i:Nat)(w:ak)(hR:bO w pb s i false)(nH:s.data.toList[i]?≠some 40):aX ah 228 #[aP pb] w (tL pb s w (eY A s i)):=by cases hc:s.data.toList[i]? with
 |none=>
  have:s.size<=i:=by
   rcases fe i s.size with h|h;·rw[iP s i h]at hc;cases hc
   ·exact h
  have e:eY A s i= .fault i:=by unfold eY;rw[hc]
  rw[e];exact Tu pb s i w hR this|some c=>
  rw[hc]at nH;have SM:c≠40:=λe=>nH (by rw[e]);by_cases uY:c=46;·
   subst uY;have e:eY A s i= .ok (.one allB) (i+1):=by unfold eY;rw[hc];rfl
   rw[e];exact XT pb s i w hR hc
  ·by_cases uN:c=91;·
    subst uN;have e:eY A s i=Vg (nW s (i+1)):=by unfold eY;rw[hc];simp only;rw[if_neg (by decide),if_neg (by decide),if_pos trivial];cases nW s (i+1)<;>rfl
    rw[e];exact XR pb s i w hR hc
   ·have e:eY A s i=if rZ c then .fault i else Dz (cZ s i):=by
     unfold eY;rw[hc];simp only;rw[if_neg SM,if_neg uY,if_neg uN];split;·rfl
     ·cases cZ s i<;>rfl
    rw[e];by_cases tP:c=92;·subst tP;rw[Rf,if_neg (by decide)];exact Ff true pb s i 92 w hR hc SM uY uN rfl (λh=>by cases h)
    ·cases hw:rZ c with|true=>exact Po pb s i c w hR hc SM uY uN tP (by rw[xI c SM uY uN tP,hw])|false=>exact Ff false pb s i c w hR hc SM uY uN (decide_eq_false tP) λ_=>by rw[xI c SM uY uN tP,hw]
end Go.Proofs.Tl
