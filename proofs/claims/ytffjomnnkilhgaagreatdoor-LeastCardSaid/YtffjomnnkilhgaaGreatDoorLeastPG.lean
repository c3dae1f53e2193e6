/- Lemmas towards the statement Least of termsearch: walks of the program's functions and plain laws on lists (TsFind, TsUnionA, TsBuild, TsSearch, TsPlainA, TsPlain, TsCard, TsCardT, TsErrs, TsCardE, TsCardB, TlBase, TlWords, TlIndex, TlApp, TlAdd, TlBuild, TlUnion, TlTerms, TlSearch, TsErrsB, TsErrsC, TsErrsP, TsToldB, TlBox, TlPlayer, TlBuildP, TlPlainP, TlKeep, TlLooks, TlJoin, TlMarks). Conditions: those that each theorem names. -/
import Derived.Test.YtffjomnnkilhgaaGreatDoorShelfB
import Derived.Test.YtffjomnnkilhgaaGreatDoorLeastPA
import Derived.Test.YtffjomnnkilhgaaGreatDoorLeastPF
import Derived.Test.YtffjomnnkilhgaaGreatDoorLeastPB
import Derived.Test.YtffjomnnkilhgaaGreatDoorLeastPD
import Derived.Test.YtffjomnnkilhgaaGreatDoorCards
import Derived.Test.YtffjomnnkilhgaaGreatDoorTie
import Derived.WalkKit
import Derived.ProofKit
import Derived.OpenShut
import Derived.Carry
import Derived.SliceStrings
import Derived.LaidHandle
import Derived.LaidLaws
import Derived.Deep.DeepHandedRow
import Derived.Lib.LaidU8T
import Derived.PinnedBridge
import Derived.LaidEql
import Derived.Stop.Asserts
import Derived.RowKitTokens
import Derived.Deep.RegionWith
import Derived.BigQuiet
import Derived.Deep.DeepMust
set_option linter.unusedVariables false
set_option linter.unusedSimpArgs false
set_option linter.unusedSectionVars false
set_option maxRecDepth 100000
set_option maxHeartbeats 32000000
open And renaming intro->aA
open Array renaming setIfInBounds->abv
open Bool renaming eq_iff_iff->jf
open ByteArray renaming size->kR
open Classical renaming byContradiction->dP
open Go renaming Addr->jK,Calls->aX,DataW->nG,Oper->gV,Program->iX,TypeId->dx,TypeInfo->uT,Value->ay,World->ak,method->Cc
open Go.Addr renaming add->iU
open Go.Addr.mk renaming injEq->agD
open Go.Builtin renaming append_->nL,firstCells->ac4,lenOf->aoY
open Go.ByteArray renaming toList_eq->UU
open Go.Instr renaming lookup->fH,typeAssert->jJ
open Go.IntKind renaming u8->M6
open Go.IntWalk renaming i64_in->aK
open Go.KeepsOthers renaming drew->Ib
open Go.Lib renaming hid->ae
open Go.Lib.laidMet renaming reads->A9
open Go.Obj renaming row?->Y7
open Go.Op renaming bytesLess->UL
open Go.Proofs.Tryz renaming func108->UJ,func109->UI,func110->UH,func112->yi,func157->UE,func158->UD,func20->awy,func21->awx,func281->Ux,func302->Uw,func303->ar7,func304->Uv,func305->Uu,func40->Y5,func61->aww,func69->Y4,func70->awv,ntmps20->ar1,ntmps21->ar0,ntmps40->Ut,ntmps61->arZ,ntmps69->Us,ntmps70->arY,prog->ah,underlying131->acU,underlying135->acT,underlying190->DR,underlying24->sP,underlying334->acP,underlying35->ie,underlying43->afI,underlying5->ags,underlying88->rV
open Go.Result renaming andThen->fS,andThen_ok->eH
open Go.RowKit renaming Below->aI
open Go.RowKit.Below renaming heap_alloc->aC,heap_setCell->az,refl->aB
open Go.Sem renaming run_bind->dZ,run_pure->DT
open Go.Value renaming cells->Gy,int->tR,oneCell'->dN,ownBlock->gN,slice->cY,string->DM
open Go.Value.slice renaming injEq->bA
open Go.World renaming cell?_alloc_at->Y1,cell?_alloc_lt->aV,cell?_of_block->fq,cell?_setCell_same'->PV,frozen?_alloc_old->fp,frozen?_of_block->Uq,ownsRow_nil->bS,size_alloc->bM,var?_cell->ajW
open Go.World.grownBy renaming cell->dw
open Int renaming tmod_eq_emod_of_nonneg->yq
open List renaming append_assoc->kP,append_nil->gv,concat_eq_append->YF,drop_eq_getElem_cons->zt,drop_zero->Ia,eq_nil_of_length_eq_zero->iZ,eq_nil_or_concat->zr,getD_eq_getElem?_getD->aw,getElem?_drop->ac0,getElem?_eq_getElem->ar,getElem?_map->bp,getElem?_set_ne->dA,getElem?_set_self->dz,getElem?_take_of_lt->vK,getElem_mem->eu,getElem_of_mem->sQ,length_append->bh,length_cons->cI,length_map->jx,length_nil->gX,length_set->bW,length_take->iu,lt_irrefl->M5,map_append->cQ,map_cons->dM,map_nil->mg,map_toArray->UO,mem_append->jM,mem_cons->ql,mem_cons_of_mem->bq,mem_cons_self->bE,mem_of_mem_drop->Ze,mem_of_mem_take->Zd,nil_append->eZ,nodup_cons->ajZ,nodup_nil->UN,pairwise_append->Zc,set_cons_succ->ai,set_cons_zero->aj,size_toArray->mf,take_append_drop->FP,take_length->dH,take_of_length_le->vJ,take_succ_eq_append_getElem->bH,take_zero->acY
open Nat renaming decEq->agw,eq_or_lt_of_le->acX,eq_zero_or_pos->yj,le_refl->au,le_succ_of_le->jH,le_trans->aZ,lt_of_lt_of_le->bI,lt_or_ge->fe,mul_pos->awB,ne_of_gt->asu,ne_of_lt->ast,succ_le_succ->ig,succ_pos->FM,zero_add->gW,zero_le->aW
open Ne renaming symm->dB
open Option renaming map->M4
open Option.some renaming inj->aJ,injEq->vI
namespace Go.Proofs.Ts
open Go Go.RowKit
def Fq(w:ak)(sb:Nat)(D:List (List (List UInt8)))(kn:ay)(db:Nat)(R:Nat->Prop)(Λ:Nat->List fJ)(ρ:Nat->Nat)(Dd:List DS)(pv:ay)(ps:List ay):Prop:=w.heap[sb]?=some (Iu D.length db pv 0 kn)/\mM w db R Λ ρ Dd/\(Λ 0).Pairwise (λa b=>a<b)/\(∀x,x∈Λ 0↔bU D x≠[])/\(Λ 0).length<=10000/\(∀x∈Λ 0,x.length<=16)/\w.ownsRow 0 24 1 pv (Λ 0).length ps/\∀(i:Nat)v x,ps[i]?=some v->(Λ 0)[i]?=some x->w.ownsRow 0 3 1 v (bU D x).length ((bU D x).map cJ)
section
variable{w w':ak}{sb:Nat}{D:List (List (List UInt8))}{kn kn':ay}{db:Nat}{R:Nat->Prop}{Λ:Nat->List fJ}{ρ:Nat->Nat}{Dd:List DS}{pv:ay}{ps:List ay}
theorem Fq.kept(h:Fq w sb D kn db R Λ ρ Dd pv ps)(hc:Cells w w')(hs:w'.heap[sb]?=some (Iu D.length db pv 0 kn')):Fq w' sb D kn' db R Λ ρ Dd pv ps:=by obtain⟨h1,h2,h3,h4,h5,h6,h7,h8⟩:=h;exact⟨hs,h2.kept hc.2,h3,h4,h5,h6,bT h7 λk cs r hk=>hc.2 k cs _ r hk (by decide),λi v x hv hx=>bT (h8 i v x hv hx) λk cs r hk=>hc.2 k cs _ r hk (by decide)⟩
theorem Fq.below(h:Fq w sb D kn db R Λ ρ Dd pv ps)(hb:aI w.heap.size w w'):Fq w' sb D kn db R Λ ρ Dd pv ps:=h.kept (Cells.below hb) ((hb.block sb (lt_of_heap h.1)).trans h.1)
end
theorem dh{w:ak}{B e size n j:Nat}{v u:ay}{xs:List ay}(h:w.ownsRow B e size v n xs)(hj:xs[j]?=some u):∃g cap,v=sL g n cap/\w.cell? (aD g j)=some u:=by
 rcases h.2 with⟨rfl,rfl⟩|⟨g,cap,cur,rfl,_⟩;·have:=h.1;simp at this;subst this;simp at hj
 ·refine⟨g,cap,rfl,?_⟩;have h2:=h.cells (g:=g) rfl j u hj;by_cases h0:j=0;·subst h0;simpa[iU]using h2
  ·simpa[iU,h0]using h2
section
variable{w0 W W':ak}{ats out:List Nat}{ov ov':ay}
end
open Go.Shelf
attribute[local go_sem]Oper.semAt_some
def QF(a0:Option jK)(len tC B k:Nat)(u:Nat->ay):Array ay:=#[.slice a0 len tC,undef,.pointer none,.nilIface,aP (B+1),u 5,u 6,u 7,u 8,undef,undef,undef,undef,undef,.slice a0 len tC,cJ len,.bool false,undef,.map (some B),.slice a0 len tC,cJ len,cJ k,u 22,u 23,u 24,u 25,u 26,u 27,u 28,u 29,u 30,u 31,u 32,u 33,u 34,u 35,u 36,u 37,u 38,u 39,u 40,u 41,u 42,u 43,u 44,u 45,u 46,u 47,u 48,u 49,u 50,u 51,u 52,u 53,u 54,u 55,undef,undef,undef,undef,undef,undef,undef,undef,undef,undef,undef,undef,undef,undef,undef,undef,undef,undef,undef,undef,undef,undef,undef,undef,undef,undef,undef,undef,undef,undef,undef,undef,undef,undef,undef,undef,undef,undef]
theorem Mo{a0:Option jK}{len tC B k:Nat}{tm:Array ay}(h:tm=QF a0 len tC B k λi=>tm.getD i undef):∃u,tm=QF a0 len tC B k u:=⟨_,h⟩
def P5(b off len tC B ib k:Nat)(d:ByteArray)(u:Nat->ay)(x:List UInt8):Array ay:=#[.slice (some ⟨b,off,none⟩) len tC,undef,.pointer none,.nilIface,.pointer (some ⟨B+1,0,none⟩),.pointer (some ⟨ib,0,none⟩),.string d,.string ⟨x.toArray⟩,u 8,undef,undef,undef,undef,undef,.slice (some ⟨b,off,none⟩) len tC,.int .i64 len,.bool false,undef,.map (some B),.slice (some ⟨b,off,none⟩) len tC,.int .i64 len,.int .i64 k,.bool true,.int .i64 k,.pointer (some ⟨b,off+k,none⟩),.string d,.string d,.int .i64 d.size,.bool false,u 29,.string d,.func (.func 133) #[] #[.pointer (some ⟨ib+1,0,none⟩)],.string ⟨x.toArray⟩,u 33,u 34,u 35,u 36,u 37,u 38,u 39,u 40,u 41,u 42,u 43,u 44,u 45,u 46,u 47,u 48,u 49,u 50,u 51,u 52,u 53,u 54,u 55,undef,undef,undef,undef,undef,undef,undef,undef,undef,undef,undef,undef,undef,undef,undef,undef,undef,undef,undef,undef,undef,undef,undef,undef,undef,undef,undef,undef,undef,undef,undef,undef,undef,undef,undef,undef,undef,undef]
def abx(D:Nat):Deferred:={target:= .collected D,args:=#[]}
structure BI (w:ak) (Ds:List Nat) (D:List (List (List UInt8))) (ib:Option Nat) (W:ak):Prop where
 Er:∃ m,fQ (w.heap.size+2) w.heap.size W m (bU D) /\ ∀ i,ib=some i -> ∀ y v,get m y=some v->v.ownBlock≠some i
 box:W.heap[w.heap.size+1]?=some (.cells #[.map (some w.heap.size)] 190 (0,0))
 below:aI w.heap.size w W
 size:w.heap.size+2<=W.heap.size
 marks:∀ d∈Ds,W.heap[d]?=some (.deferred (some []))
 nodup:Ds.Nodup /\ ∀ d∈Ds,w.heap.size+2<=d
theorem BI.kept{w:ak}{Ds:List Nat}{D:List (List (List UInt8))}{ib:Option Nat}{W W':ak}(h:BI w Ds D ib W)(hg:W.grownBy W' none):BI w Ds D ib W':=by obtain⟨m,hp,hi⟩:=h.Er;refine⟨⟨m,hp.Dx λk hk=>hg.block k hk (by simp),hi⟩,(hg.block _ (by have:=h.size;omega) (by simp)).trans h.box,h.below.trans ⟨hg.os,hg.tape,hg.output,hg.size,λk hk=>hg.block k (bI hk h.below.size) (by simp)⟩,aZ h.size hg.size,λd hd=>(hg.block d (Array.getElem?_eq_some_iff.1 (h.marks d hd)).1 (by simp)).trans (h.marks d hd),h.nodup⟩
theorem BI.turned{w:ak}{Ds:List Nat}{D:List (List (List UInt8))}{ib:Option Nat}{W W':ak}{row:Option Nat}(h:BI w Ds D ib W)(hg:W.grownBy W' row)(hr:∀r,row=some r->w.heap.size+2<=r/\r∉Ds/\∃o:Obj,W.heap[r]?=some o/\o.isCells=false):BI w Ds D ib W':=by obtain⟨m,hp,hi⟩:=h.Er;refine⟨⟨m,hp.grown hg λr e=>⟨by have:=(hr r e).1;omega,(hr r e).2.2⟩,hi⟩,(hg.block _ (by have:=h.size;omega) λe=>?_).trans h.box,h.below.grown hg h.below.size λk e=>by have:=(hr k e).1;omega,aZ h.size hg.size,λd hd=>(hg.block d (Array.getElem?_eq_some_iff.1 (h.marks d hd)).1 λe=>(hr d e.symm).2.1 hd).trans (h.marks d hd),h.nodup⟩;have:=(hr _ e.symm).1;omega
theorem ct{w:ak}{B e size n g:Nat}{v:ay}{xs:List ay}(h:w.ownsRow B e size v n xs)(hg:v.ownBlock=some g):∃cur,w.heap[g]?=some (.cells cur e (0,0)):=by
 rcases h.2 with⟨rfl,_⟩|⟨g',cap,cur,rfl,_,hc,_⟩;·cases hg
 ·cases hg;exact⟨cur,hc⟩
theorem BJ.add{w W1 W4 W5:ak}{Ds:List Nat}{D:List (List (List UInt8))}{ib k B0:Nat}{pre:List (List UInt8)}{x:List UInt8}{m:List (List UInt8×ay)}{v4:ay}(hb:BI w Ds (D++[pre]) (some ib) W1)(hib:W1.heap[ib]?=some (.cells #[iV k] 3 (0,0)))(hp:fQ (w.heap.size+2) w.heap.size W1 m (bU (D++[pre])))(MS:∀y v,get m y=some v->v.ownBlock≠some ib)(hx:x∉pre)(hD:D.length=k)(hB0:w.heap.size<B0)(hrow4:W4.ownsRow 0 3 1 v4 ((bU (D++[pre]) x).length+1) ((bU (D++[pre]) x).map cJ++[iV k]))(cM:((W1.alloc (.cells #[iV k] 3)).drew.drew).grownBy W4 (iw m x).ownBlock)(dS:JL ((W1.alloc (.cells #[iV k] 3)).drew.drew) W4 (iw m x) v4)(hg:W4.grownBy W5 (some w.heap.size))(hmap:bV dC W5 w.heap.size (put m x v4)):KeepsFrom B0 W1 W5/\jy W1 W5/\(BI w Ds (D++[pre++[x]]) (some ib) W5/\W5.heap[ib]?=some (.cells #[iV k] 3 (0,0))):=by
 have hs2:((W1.alloc (.cells #[iV k] 3)).drew.drew).heap.size=W1.heap.size+1:=by simp
 have alk:∀j,j<W1.heap.size->((W1.alloc (.cells #[iV k] 3)).drew.drew).heap[j]?=W1.heap[j]?:=λj hj=>aC W1 _ j hj;have hmv:bL W1 (iw m x) W4 v4:=((bL.alloc W1 _ _).trans (bL.same _ ((Same.drew _).trans (Same.drew _)))).trans (bL.append cM dS);have WI:=hp.KH x;have hown:∀g,(iw m x).ownBlock=some g->∃y v,get m y=some v/\v.ownBlock=some g:=λg e=>by unfold iw at e;cases hgx:get m x with|none=>rw[hgx]at e;cases e|some v=>rw[hgx]at e;exact⟨x,v,hgx,e⟩
 have ag9:(iw m x).ownBlock≠some ib:=λe=>by obtain⟨y,v,h1,h2⟩:=hown ib e;exact MS y v h1 h2
 have mZ:∀g,(iw m x).ownBlock=some g->w.heap.size+2<=g:=λg e=>by obtain⟨y,v,h1,h2⟩:=hown g e;exact hp.past y v g h1 h2
 have amz:=(Array.getElem?_eq_some_iff.1 hib).1;obtain⟨mes,mcl,hmb,_⟩:=hp.map;have amy:ib≠w.heap.size:=λe=>by rw[e,hmb]at hib;cases hib
 have keep:∀j,j<W1.heap.size->(iw m x).ownBlock≠some j->j≠w.heap.size->W5.heap[j]?=W1.heap[j]?:=λj hj h1 h2=>(hg.block j (bI hj hmv.size) λe=>h2 (aJ e)).trans (hmv.block hj h1);have yU:aI w.heap.size w W5:=((hmv.below (λg e=>by have:=mZ g e;omega) hb.below hb.below.size)).grown hg (aZ hb.below.size hmv.size) λg e=>by cases e;exact au _
 have hadd:=hp.add (i:=k) (by have:=hb.size;omega) hmv (by rw[cQ];exact hrow4) hg hmap;refine⟨?_,?_,⟨⟨put m x v4,?_,?_⟩,?_,yU,aZ hb.size (aZ hmv.size hg.size),?_,hb.nodup⟩,?_⟩;·refine(((((KeepsOthers.alloc W1 _).trans (Ib _)).trans (Ib _)).trans (KeepsOthers.of_grownBy cM λj o e ho=>?_)).from _).trans (KeepsFrom.of_grownBy hg λj e=>by cases e;exact hB0);obtain⟨cur,qP⟩:=ct WI e;rw[alk j (Array.getElem?_eq_some_iff.1 qP).1,qP]at ho;cases ho;rfl
 ·intro j cs r hj;refine keep j (Array.getElem?_eq_some_iff.1 hj).1 (λe=>?_) (λe=>?_);·obtain⟨cur,qP⟩:=ct WI e;rw[qP]at hj;cases hj
  ·rw[e,hmb]at hj;cases hj
 ·rw[Cw _ _ _ hx,hD];exact hadd
 ·intro i e y v hv e';cases e;rw[mq]at hv;split at hv;·
   cases hv;rcases hmv.lies with h1|⟨g',h1,h2⟩;·exact ag9 (h1▸e')
   ·rw[h1]at e';have:=aJ e';omega
  ·exact MS y v hv e'
 ·exact(keep _ (by have:=hb.size;omega) (λe=>by have:=mZ _ e;omega) (by omega)).trans hb.box
 ·intro d hd;have hm:=hb.marks d hd;refine(keep d (Array.getElem?_eq_some_iff.1 hm).1 (λe=>?_) (λe=>?_)).trans hm;·obtain⟨cur,qP⟩:=ct WI e;rw[qP]at hm;cases hm
  ·rw[e,hmb]at hm;cases hm
 ·exact(keep ib amz ag9 amy).trans hib
def sliceLen:ay->Nat| .slice _ n _=>n|_=>0
structure TI (W6:ak) (mb it:Nat) (m:List (List UInt8 × ay)) (ts:List (List UInt8)) (v:ay) (W:ak):Prop where
 iter:sN dC W mb it m ts
 row:W.ownsRow 0 9 1 v ts.length (ts.map dC)
 past:kp W6.heap.size v
 mod:Mod (fun j=>j=it) W6 W
 nodup:ts.Nodup
 sub:∀ t∈ts,t∈m.map (·.1)
theorem TI.few{W6 W:ak}{mb it:Nat}{m:List (List UInt8×ay)}{ts:List (List UInt8)}{v:ay}(h:TI W6 mb it m ts v W):ts.length<=m.length:=by have:=zT ts (m.map (·.1)) h.nodup h.sub;simpa using this
theorem TI.len{W6 W:ak}{mb it:Nat}{m:List (List UInt8×ay)}{ts:List (List UInt8)}{v:ay}(h:TI W6 mb it m ts v W):sliceLen v=ts.length:=by obtain⟨a,cap,rfl⟩:=ownsRow_form h.row;rfl
theorem TI.Zu{W6 wr w2:ak}{mb it:Nat}{m:List (List UInt8×ay)}{ts:List (List UInt8)}{v:ay}(h:TI W6 mb it m ts v wr)(hit:it<W6.heap.size)(hg2:wr.grownBy w2 (some it)):w2.ownsRow 0 9 1 v ts.length (ts.map dC):=aO h.row λj e=>hg2.block j (h.row.lt j e).2 λe'=>by have:=h.past j e;have:=aJ e';omega
theorem TI.step{W6 wr w2 W4:ak}{mb it:Nat}{m:List (List UInt8×ay)}{ts:List (List UInt8)}{v v0 v4:ay}{k:List UInt8}(h:TI W6 mb it m ts v wr)(hmb:mb<W6.heap.size)(hit:it<W6.heap.size)(hk:k∉ts)(T7:(k,v0)∈m)(hg2:wr.grownBy w2 (some it))(hs2:w2.heap.size=wr.heap.size)(hi2:sN dC w2 mb it m (ts++[k]))(hrow4:W4.ownsRow 0 9 1 v4 (ts.length+1) (ts.map dC++[dC k]))(cM:(w2.alloc (.cells #[dC k] 9)).grownBy W4 v.ownBlock)(dS:JL (w2.alloc (.cells #[dC k] 9)) W4 v v4):TI W6 mb it m (ts++[k]) v4 W4:=by
 have hsz:=h.mod.size;have hs3:(w2.alloc (.cells #[dC k] 9)).heap.size=w2.heap.size+1:=by simp
 have hmv:bL w2 v W4 v4:=(bL.alloc w2 v _).trans (bL.append cM dS);have keep:∀j,j<W6.heap.size->W4.heap[j]?=w2.heap[j]?:=λj hj=>hmv.block (by omega) λe=>by have:=h.past j e;omega
 refine⟨hi2.kept (keep mb hmb) (keep it hit),by simpa using hrow4,hmv.past h.past (by omega),⟨hmv.grown.os.trans (hg2.os.trans h.mod.os),hmv.grown.tape.trans (hg2.tape.trans h.mod.tape),hmv.grown.output.trans (hg2.output.trans h.mod.output),by have:=hmv.size;omega,λj hj hne=>?_⟩,?_,?_⟩;·exact(keep j hj).trans ((hg2.block j (by omega) λe=>hne (aJ e)).trans (h.mod.block j hj hne))
 ·rw[List.nodup_append];exact⟨h.nodup,by simp,λa ha b hb=>by simp at hb;subst hb;exactλe=>hk (e▸ha)⟩
 ·intro t ht;rcases List.mem_append.1 ht with ht|ht;·exact h.sub t ht
  ·simp at ht;subst ht;exact List.mem_map.2 ⟨(t,v0),T7,rfl⟩
theorem uj{F:Fence}{n:Nat}{P:iX}{fn:Func}{tmps:Array ay}{R:Ending->ak->Prop}{v:ay}(hres:∀w,(results fn tmps).run P w= .ok v w):∀(Ds:List Nat)(w:ak),(∀d∈Ds,w.heap[d]?=some (.deferred (some [])))->Ds.Nodup->(∀w',Mod (λk=>k∈Ds) w w'->R (.returned v) w')->LeavesInM F n P fn tmps R (Ds.map abx) .returning w
 |[],w,_,_,h=>⟨v,hres w,h w (Mod.refl _ _)⟩|d::Ds,w,hm,hn,h=>by
  rw[ajZ]at hn;refine⟨by simp,.inl ⟨d,_,rfl,run_takeDeferred (hm d (by simp)),?_⟩⟩;have hg:=grownBy_putObj' w d (.deferred none);refine uj hres Ds _ (λd' hd'=>?_) hn.2 λw' hw'=>h w' ?_;·rw[hg.block d' (Array.getElem?_eq_some_iff.1 (hm d' (by simp[hd']))).1 (λe=>hn.1 (by have:=aJ e;exact this▸hd'))];exact hm d' (by simp[hd'])
  ·exact(Mod.grown (S:=λk=>k∈d::Ds) hg λk e _=>by cases e;simp).trans (hw'.mono λk _ hk=>by simp[hk])
structure RI (W9:ak) (sb n db:Nat) (vs:List ay) (W:ak):Prop where
 ex:∃ pv,W.heap[sb]?=some (.cells #[.int .i64 n,.pointer (some ⟨db,0,none⟩),pv,.int .i32 0,.int .u32 0,.map none] 168 (0,0)) /\
  W.ownsRow 0 24 1 pv vs.length vs /\ ∀ g,pv.ownBlock=some g->W9.heap.size<=g
 mod:Mod (fun j=>j=sb) W9 W
theorem RI.step{W9 wr W4:ak}{sb n db:Nat}{vs:List ay}{pv x v4:ay}(h:RI W9 sb n db vs wr)(rM:sb<W9.heap.size)(Aa:wr.heap[sb]?=some (.cells #[iV n,pT db,pv,.int .i32 0,.int .u32 0,.map none] 168 (0,0)))(hpp:∀g,pv.ownBlock=some g->W9.heap.size<=g)(hrow4:W4.ownsRow 0 24 1 v4 (vs.length+1) (vs++[x]))(cM:((wr.alloc (.cells #[x] 24)).drew).grownBy W4 pv.ownBlock)(dS:JL ((wr.alloc (.cells #[x] 24)).drew) W4 pv v4):RI W9 sb n db (vs++[x]) (W4.setCell (aD sb 2) v4):=by
 have hmv:bL wr pv W4 v4:=((bL.alloc wr _ _).trans (bL.same _ (Same.drew _))).trans (bL.append cM dS);have hz:=h.mod.size;have alR:W4.heap[sb]?=wr.heap[sb]?:=hmv.block (by omega) λe=>by have:=hpp sb e;omega
 have hp4:kp W9.heap.size v4:=hmv.past (λk e=>hpp k e) hz;refine⟨⟨v4,?_,?_,hp4⟩,⟨hmv.grown.os.trans h.mod.os,hmv.grown.tape.trans h.mod.tape,hmv.grown.output.trans h.mod.output,by have:=hmv.size;simp;omega,λk hk hne=>?_⟩⟩;·have:=heap_setCell_same W4 sb 2 _ _ v4 (alR.trans Aa);rw[this];rfl
 ·have hl:(vs++[x]).length=vs.length+1:=by simp
  rw[hl];exact aO hrow4 λk e=>az W4 _ _ k λe'=>by have:=hp4 k e;simp only at e';omega
 ·rw[az W4 _ _ k (λe'=>hne e')];exact(hmv.block (by omega) λe=>by have:=hpp k e;omega).trans (h.mod.block k hk hne)
theorem BI.start(w:ak):BI w [] [] none ((w.alloc (.map #[] 0)).alloc (.cells #[.map (some w.heap.size)] 190)):=by
 refine⟨⟨[],?_,λi e=>by cases e⟩,?_,((aB _ w).alloc (au _) _).alloc (by simp) _,by simp,(λd h=>by cases h),UN,λd h=>by cases h⟩;·exact(fQ.made (w.heap.size+2) w (by omega)).Dx λk hk=>aC _ _ k hk
 ·have:=heap_alloc_new (w.alloc (.map #[] 0)) (.cells #[.map (some w.heap.size)] 190);simpa using this
def BJ(w:ak)(Ds:List Nat)(D:List (List (List UInt8)))(ib k:Nat)(pre:List (List UInt8))(W:ak):Prop:=BI w Ds (D++[pre]) (some ib) W/\W.heap[ib]?=some (.cells #[.int .i64 k] 3 (0,0))
theorem BJ.own{w:ak}{Ds:List Nat}{D:List (List (List UInt8))}{ib k B:Nat}(hB:w.heap.size+2<=B)(hi:ib<B)(hD:∀d∈Ds,d<B):OwnFrom B (BJ w Ds D ib k):=λs A A' row hs hg hr=>⟨hs.1.turned hg λr e=>⟨aZ hB (hr r e).1,λhm=>by have:=hD r hm;have:=(hr r e).1;omega,(hr r e).2⟩,(hg.block _ (Array.getElem?_eq_some_iff.1 hs.2).1 λe=>by have:=(hr _ e.symm).1;omega).trans hs.2⟩
theorem BI.toJ{w:ak}{Ds:List Nat}{D:List (List (List UInt8))}{W:ak}{k:Nat}{s:ByteArray}(h:BI w Ds D none W):BJ w Ds D W.heap.size k [] ((W.alloc (.cells #[iV k] 3)).alloc (.cells #[.string s] 9)):=by
 obtain⟨m,hp,_⟩:=h.Er;have hk:=h.kept (W':=(W.alloc (.cells #[iV k] 3)).alloc (.cells #[.string s] 9)) ⟨rfl,rfl,rfl,by simp;omega,λj hj _=>(aC _ _ j (by simp;omega)).trans (aC _ _ j hj)⟩;refine⟨⟨⟨m,?_,λi e y v hv e'=>?_⟩,hk.box,hk.below,hk.size,hk.marks,hk.nodup⟩,?_⟩;·rw[wh];exact hp.Dx λj hj=>(aC _ _ j (by simp;omega)).trans (aC _ _ j hj)
 ·cases e;have:=((hp.row y v hv).1.lt _ e').2;omega
 ·rw[aC _ _ _ (by simp)];exact heap_alloc_new W _
theorem Tryz.Qh:(Tryz.prog.info? 9).map (λi=>(i.zero,i.size,i.bytes))=some (some (.string ⟨#[]⟩),1,16):=by kernel_rfl
theorem Tryz.Wn:(Tryz.prog.info? 24).map (λi=>(i.zero,i.size,i.bytes))=some (some (.slice none 0 0),1,24):=by kernel_rfl
theorem Tryz.info3:(Tryz.prog.info? 3).map (λi=>(i.zero,i.size,i.bytes))=some (some (.int .i64 0),1,8):=by kernel_rfl
def sG(B:Nat)(w:ak)(sb:Nat)(D:List (List (List UInt8)))(kn:ay):Prop:=∃db R Λ ρ Dd pv ps,(∀v∈ps,∀k,gN v=some k->B<=k)/\w.heap[sb]?=some (.cells #[.int .i64 D.length,.pointer (some ⟨db,0,none⟩),pv,.int .i32 0,.int .u32 0,kn] 168 (0,0))/\mM w db R Λ ρ Dd/\(Λ 0).Pairwise (λa b=>a<b)/\(∀x,x∈Λ 0↔bU D x≠[])/\(Λ 0).length<=10000/\(∀x∈Λ 0,x.length<=16)/\w.ownsRow 0 24 1 pv (Λ 0).length ps/\∀(i:Nat)v x,ps[i]?=some v->(Λ 0)[i]?=some x->w.ownsRow 0 3 1 v (bU D x).length ((bU D x).map cJ)
theorem Ti(docs:List ByteArray)(v:ay)(w:ak)(hv:jU w v docs)(h48:docs.length<=48)(mx:Nat)(hmx:mx<=docs.length)(SN:∀d∈docs.take mx,d.size<=200)(hbad:∀h:mx<docs.length,200<docs[mx].size):aX ah 61 #[v] w λe w'=>aI w.heap.size w w'/\((mx=docs.length/\∃sb,e= .returned (.tuple #[aP sb,.nilIface])/\w.heap.size<=sb/\sG w.heap.size w' sb (docs.map dc) (.map none))\/(mx<docs.length/\e= .returned (.tuple #[.pointer none,.iface 43 (iV 2)]))):=by
 obtain⟨a0,tC,rfl,hc⟩:=hv;have HC:=ae hc;have abk:=ae SN;have aoz:=ae hbad;clear hc SN hbad;have hmm:=@run_makeMap ah;refine(callsIn_wide (n:=3)).1 ?_;refine callsIn_of_wp_marks aww rfl trivial ?_ rfl;simp only[arZ,mf,cI,gX,Nat.reduceAdd,Nat.reduceSub,Array.replicate_succ,Array.replicate_zero,List.push_toArray,List.append_toArray,eZ,List.cons_append];refine wpIn_wide.2 ?_;have h48':decide ((48:Int)<(docs.length:Int))=false:=by simp;omega
 go_wp2_with fail;refine wp_loop_ghost_k (λn a W=>∃(k:Nat)(Ds:List Nat),k<=mx/\n=docs.length-k/\(∃u,a.tmps=QF a0 docs.length tC w.heap.size k u)/\a.defers=Ds.map abx/\BI w Ds ((docs.map dc).take k) none W) docs.length ?start ?round;case start=>exact⟨0,[],aW _,rfl,Mo rfl,rfl,BI.start w⟩
 case round=>
  intro n a W hI J K hJ hK;obtain⟨k,Ds,hk,rfl,⟨u,hu⟩,hds,hbi⟩:=hI;obtain⟨tm,ds⟩:=a;simp only at hu hds;subst hu hds;have CV:=ae hbi;have HJ:=ae hJ;have HK:=ae hK;clear hbi hJ hK;unfold QF aP cJ;by_cases hlt:k<docs.length;·
   obtain⟨b,off,rfl,hcell⟩:=HC.out k hlt;obtain⟨d,hd⟩:∃d,d=docs[k]:=⟨_,rfl⟩;have aej:W.cell? (aD b (off+k))=some (.string d):=by rw[hd];exact(CV.below.cell (p:=(aD b (off+k))) (lt_of_cell hcell)).trans hcell
   rcases fe k mx with T7|T7;case inr=>
    obtain rfl:k=mx:=by omega
    have hbd:200<d.size:=hd▸aoz.out hlt;clear hd hcell;go_wp2_with fail;change LeavesInM _ _ _ _ _ _ _ _ _;have hDl:∀d∈Ds,d<W.heap.size:=λd h=>(Array.getElem?_eq_some_iff.1 (CV.marks d h)).1;refine uj (v:= .tuple #[.pointer none,.iface 43 (iV 2)]) (λw'=>results_tmp2 (t:=2) (u:=3) rfl _ _ _) Ds _ (λd h=>(aC W _ d (hDl d h)).trans (CV.marks d h)) CV.nodup.1 λw' hm=>?_;exact⟨(CV.below.alloc CV.below.size _).trans (hm.toBelow (by have:=CV.below.size;simp;omega) λk hk=>by have:=CV.nodup.2 k hk;omega),.inr ⟨hlt,rfl⟩⟩
   have aqc:d.size<=200:=abk d (by rw[hd];exact List.mem_take_iff_getElem.2 ⟨k,by omega,rfl⟩);have HD:=ae hd;clear hd hcell;have au7:decide ((200:Int)<(d.size:Int))=false:=by simp;omega
   go_wp2_with(go_at_call 92;refine(Ri _ _).mono ?_;rintro e w1⟨rfl,rfl⟩);have hJ0:=CV.toJ (k:=k) (s:=d);have acd:((W.alloc (.cells #[iV k] 3)).alloc (.cells #[.string d] 9)).cell? (aD (W.heap.size+1) 0)=some (.string d):=by have:=heap_alloc_new (W.alloc (.cells #[iV k] 3)) (.cells #[.string d] 9);rw[bM]at this;rw[aq this];rfl
   have hs0:((W.alloc (.cells #[iV k] 3)).alloc (.cells #[.string d] 9)).heap.size=W.heap.size+2:=by simp
   have hWs:=CV.size;have hDs:∀d'∈Ds,d'<W.heap.size:=λd' h=>(Array.getElem?_eq_some_iff.1 (CV.marks d' h)).1;refine wpIn_wide.1 (wpIn_rangeFunc_ownG (F:=Fence.wide) (n:=3) rfl (by omega) (gf:=133) (lb:=#[pT (W.heap.size+1)]) rfl trivial (enters_of Tryz.func133 (by kernel_rfl) rfl) (J3 2 (by omega) (W.heap.size+1) d (by omega) _ (by rw[hs0];omega) acd) (λh k=>jy.trans h k) (λW' l o o' h1 h2 h3 h4=>jy.put W' l o o' h1 h2 h3 h4) (aB _ _) (λ_=>rfl) (BJ w Ds ((docs.map dc).take k) W.heap.size k) (λ_ _ _=>False) (BJ.own (by rw[hs0];omega) (by rw[hs0];omega) (λd' h=>by have:=hDs d' h;rw[hs0];omega)) (λ_ _ _ _ _ h _ _=>h) hJ0 (λx=>{tmps:=P5 b off docs.length tC w.heap.size W.heap.size k d u x,defers:=[]}) ?assign ?body ?done ?stop);case assign=>intro l x W' K' hK';unfold P5 dC at*;gi_wp2;exact hK'
   case body=>
    rintro l pre x W1⟨hb1,hib⟩hlen;obtain⟨m,hp,MS⟩:=hb1.Er;have hDl:((docs.map dc).take k).length=k:=by simp;omega
    have hc1:W1.cell? (aD (w.heap.size+1) 0)=some (.map (some w.heap.size)):=aq hb1.box;have hc2:W1.cell? (aD W.heap.size 0)=some (iV k):=aq hib;have hlk:(fH 190 (.map (some w.heap.size)) (.string ⟨x.toArray⟩) false).run ah W1= .ok (iw m x) W1:=hp.lookup x;have hrow:=hp.KH x;have jG:=ae hb1;have HIB:=ae hib;have HP:=ae hp;have HIA:=ae MS;have HDL:=ae hDl;clear hb1 hib hp MS hDl;by_cases hx:x∈pre;·
     obtain⟨ll,hll⟩:∃ll,bU ((docs.map dc).take k++[pre]) x=ll++[k]:=⟨_,by rw[gI,if_pos hx,HDL]⟩;have hpv:=hrow;rw[hll]at hpv;simp only[bh,cI,gX,gW,cQ,dM,mg]at hpv;obtain⟨g,cap,hv⟩:=bX hpv;rw[hv]at hlk;have hcl:W1.cell? (aD g ll.length)=some (iV k):=by rw[hv]at hpv;rw[hpv.cellAt _ (by simp)];simp[cJ]
     have ahM:ll.length<=48:=by have:=qD ((docs.map dc).take k++[pre]) x;rw[hll,bh,bh,HDL]at this;simp at this;omega
     have HLL:=ae hll;have HV:=ae hv;clear hll hv hpv hrow;unfold P5;gi_wp2;refine jA [(0,false),(1,false),(2,false),(3,false),(4,false),(5,false),(6,false),(7,false),(8,false),(9,false),(10,false),(11,false),(12,false)] 1000 (λw'=>w'.cell? (aD W.heap.size 0)=some (iV k)/\w'.cell? (aD g ll.length)=some (iV k)) (by kernel_rfl) (by kernel_rfl) ⟨hc2,hcl⟩ ?_;have q0:(((ll.length:Int)+1)==0)=false:=by rw[beq_eq_false_iff_ne];omega
     have q1:IntKind.i64.wrap (ll.length:Int)=(ll.length:Int):=aK _ (by omega);have q2:(0:Int)<=(ll.length:Int)/\(ll.length:Int)<(ll.length:Int)+1:=by omega
     iterate 13(
 refine aR ?_ rfl rfl (λw' hS=>?_) ?_;rotate_left;·obtain⟨f0,f1⟩:=hS;go_simp;try rfl
 simp only[aN,ai,aj])
     refine cV ?_;gi_wp2;obtain⟨m',hp',hi'⟩:=jG.Er;exact⟨(Ib _).from _,λ_ _ _ h=>rfl,⟨⟨m',by rw[Cv _ _ _ hx];exact hp'.same (Same.drew _),hi'⟩,jG.box,jG.below.trans ((Same.drew _).below _),jG.size,jG.marks,jG.nodup⟩,HIB⟩
    ·obtain⟨ll,hll⟩:∃ll,ll=bU ((docs.map dc).take k++[pre]) x:=⟨_,rfl⟩;have ad1:ll=bU ((docs.map dc).take k) x:=by rw[hll,gI,if_neg hx];simp
     have ahM:ll.length<=48:=by have:=qD ((docs.map dc).take k) x;rw[<-ad1,HDL]at this;omega
     have ahL:∀j∈ll,j<k:=λj hj=>by have:=Ep ((docs.map dc).take k) x j (ad1▸hj);rw[HDL]at this;exact this
     rw[<-hll]at hrow;obtain⟨a3,cap,hv⟩:=ownsRow_form hrow;have LH:ll=[]\/∃l2 j,ll=l2++[j]/\j<k:=by
      rcases zr ll with h|⟨l2,j,h⟩;·exact .inl h
      ·rw[YF]at h;exact .inr ⟨l2,j,h,ahL j (by rw[h];simp)⟩
     rw[hv]at hlk hrow;have HLL:=ae hll;have HV:=ae hv;have vp:=ae hrow;clear hll ad1 ahL hv hrow;unfold P5;rcases LH with h|⟨l2,j,h,hjk⟩;case' inl=>
      have hl0:ll.length=0:=by rw[h];rfl
      rw[hl0]at hlk;have HL0:=ae hl0;clear h hl0;gi_wp2;refine jA [(0,false),(1,false),(2,false),(3,false),(4,false),(5,false),(6,false),(7,false),(8,false),(9,false),(10,false),(11,false),(12,false)] 1000 (λ_=>True) (by kernel_rfl) (by kernel_rfl) trivial ?_;iterate 4(
 refine aR ?_ rfl rfl (λw' hS=>?_) ?_;rotate_left;·go_simp;try rfl
 simp only[aN,ai,aj])
      iterate 8(refine jn rfl rfl ?_;simp only[aN,ai,aj])
      refine aR ?_ rfl rfl (λw' hS=>?_) ?_;rotate_left;·go_simp;try rfl
      simp only[aN,ai,aj];refine cV ?_;gi_wp2;obtain⟨vv,hvv⟩:∃vv,vv=cY a3 0 cap:=⟨_,rfl⟩;rw[<-hvv];have HVV:Hid (iw m x=vv/\W1.ownsRow 0 3 1 vv ll.length (ll.map cJ)):=by have h1:=HV.out;have h2:=vp.out;rw[HL0,<-hvv]at h1 h2;rw[HL0];exact⟨h1,h2⟩
      clear hvv
     case' inr=>
      have JU:ll.length=l2.length+1:=by rw[h];simp
      have hrow:=vp.out;rw[JU]at hlk hrow;obtain⟨g,cap',hg⟩:=bX hrow;cases hg;have hcl:W1.cell? (aD g l2.length)=some (iV j):=by rw[hrow.cellAt _ (by omega),h];simp[cJ]
      have hl2:l2.length<=48:=by omega
      have HL1:=ae JU;clear h JU hrow;gi_wp2;refine jA [(0,false),(1,false),(2,false),(3,false),(4,false),(5,false),(6,false),(7,false),(8,false),(9,false),(10,false),(11,false),(12,false)] 1000 (λw'=>w'.cell? (aD W.heap.size 0)=some (iV k)/\w'.cell? (aD g l2.length)=some (iV j)) (by kernel_rfl) (by kernel_rfl) ⟨hc2,hcl⟩ ?_;have q0:(((l2.length:Int)+1)==0)=false:=by rw[beq_eq_false_iff_ne];omega
      have q1:IntKind.i64.wrap (l2.length:Int)=(l2.length:Int):=aK _ (by omega);have q2:(0:Int)<=(l2.length:Int)/\(l2.length:Int)<(l2.length:Int)+1:=by omega
      have q3:((j:Int)!=(k:Int))=true:=by rw[bne_iff_ne];omega
      have q4:(j==k)=false:=by rw[beq_eq_false_iff_ne];omega
      iterate 13(
 refine aR ?_ rfl rfl (λw' hS=>?_) ?_;rotate_left;·obtain⟨f0,f1⟩:=hS;go_simp;try rfl
 simp only[aN,ai,aj])
      refine cV ?_;gi_wp2;obtain⟨vv,hvv⟩:∃vv,vv=cY (some (aD g 0)) (l2.length+1) cap:=⟨_,rfl⟩;rw[<-hvv];have HVV:Hid (iw m x=vv/\W1.ownsRow 0 3 1 vv ll.length (ll.map cJ)):=by have h1:=HV.out;have h2:=vp.out;rw[HL1,<-hvv]at h1 h2;rw[HL1];exact⟨h1,h2⟩
      clear hvv q0 q1 q2 q3 q4 hcl
     all_goals
      refine jA [(0,false),(1,false),(2,false),(3,false),(4,true),(5,true),(6,true)] 6 (λw'=>w'.cell? (aD (w.heap.size+1) 0)=some (.map (some w.heap.size))/\w'.cell? (aD W.heap.size 0)=some (iV k)) (by kernel_rfl) (by kernel_rfl) ⟨hc1,hc2⟩ ?_;iterate 4(
 refine aR ?_ rfl rfl (λw' hS=>?_) ?_;rotate_left;·obtain⟨f0,f1⟩:=hS;go_simp;try rfl
 simp only[aN,ai,aj])
      refine bg rfl rfl (by decide) (λK5 xW=>?_);go_simp;obtain⟨hpv,hrow⟩:=HVV.out;have hrow2:((W1.alloc (.cells #[iV k] 3)).drew.drew).ownsRow 0 3 1 vv ll.length (ll.map cJ):=((hrow.alloc _).drew).drew;have aiq:((W1.alloc (.cells #[iV k] 3)).drew.drew).cell? (aD (w.heap.size+1) 0)=some (.map (some w.heap.size)):=(aV W1 _ _ (lt_of_cell hc1)).trans hc1;have aip:((W1.alloc (.cells #[iV k] 3)).drew.drew).cell? (aD W.heap.size 0)=some (iV k):=(aV W1 _ _ (lt_of_cell hc2)).trans hc2;have hnew:∀i u,[tR .i64 (k:Int)][i]?=some u->((W1.alloc (.cells #[iV k] 3)).drew.drew).cell? (((aD W1.heap.size 0):jK).add i)=some u:=cell_one_new W1 _ _;refine xW _ _ ⟨aiq,aip⟩ ?_;clear xW K5;refine bg rfl rfl (by decide) (λK5 xW=>?_);obtain⟨i0,hi,hz0,hz1,hz2⟩:=info_parts Tryz.info3;refine wp_append_lies _ _ 24 rfl 3 i0 (iV 0) 1 8 sP hi hz0 hz1 hz2 rfl (by decide) vv ll.length (ll.map cJ) rfl hrow2 (aD W1.heap.size 0) 1 1 [iV k] rfl rfl hnew (by simp[dN]) (by decide) (by unfold maxLen;omega) (by omega) ?_;intro v4 W4 hrow4 cM dS;have hvb:∀g,vv.ownBlock=some g->w.heap.size+2<=g/\g≠W.heap.size:=λg e=>by rw[<-hpv]at e;unfold iw at e;cases hgx:get m x with|none=>rw[hgx]at e;cases e|some v=>rw[hgx]at e;exact⟨HP.past x v g hgx e,λe'=>HIA _ rfl x v hgx (e'▸e)⟩
      have amW:W4.cell? (aD (w.heap.size+1) 0)=some (.map (some w.heap.size)):=dw cM aiq (λe=>by have:=(hvb _ e.symm).1;simp only at this;omega);have amV:W4.cell? (aD W.heap.size 0)=some (iV k):=dw cM aip (λe=>(hvb _ e.symm).2 rfl);have ab1:bV dC W4 w.heap.size m:=HP.map.of_block ((cM.block w.heap.size (by have:=HP.map.lt;simp;omega) (λe=>by have:=(hvb _ e.symm).1;omega)).trans (aC W1 _ _ HP.map.lt));have ab2:ll=bU ((docs.map dc).take k++[pre]) x:=HLL;obtain⟨W5,Ab,rO,MT,hz5⟩:=bV.update Ik ab1 x trivial (λ_ _=>trivial) DR v4;have alU:(Instr.mapUpdate 190 (.map (some w.heap.size)) (.string ⟨x.toArray⟩) v4).run ah W4= .ok () W5:=Ab;have hadd:=ae (BJ.add (B0:=((W.alloc (.cells #[iV k] 3)).alloc (.cells #[.string d] 9)).heap.size) jG HIB HP (λy v hv=>HIA _ rfl y v hv) hx HDL (by rw[hs0];omega) (by rw[<-ab2];exact hrow4) (by rw[hpv];exact cM) (by rw[hpv];exact dS) MT rO);clear Ab rO MT hz5 ab1 hrow4 cM dS ab2 hrow2 hnew;refine xW _ _ ⟨amW,amV⟩ ?_;clear xW K5;simp only[aN,ai,aj];refine cO rfl rfl (λK5 xW=>?_);go_simp;refine xW _ _ ?_;clear xW K5;gi_wp2;exact hadd
   case done=>
    rintro D ys W' hD rfl⟨hb1,hib⟩hK';have hb2:BI w (D::Ds) ((docs.map dc).take (k+1)) none W':=by
     obtain⟨m,hp,MS⟩:=hb1.Er;have e:(docs.map dc).take (k+1)=(docs.map dc).take k++[dc d]:=by rw[bH (by simpa using hlt),List.getElem_map,<-HD.out]
     rw[e];refine⟨⟨m,hp,λi e=>(by cases e)⟩,hb1.box,hb1.below,hb1.size,λd' h=>?_,List.nodup_cons.2 ⟨λh=>?_,hb1.nodup.1⟩,λd' h=>?_⟩;·
      rcases List.mem_cons.1 h with rfl|h;·exact hK'
      ·exact hb1.marks d' h
     ·have:=hDs D h;rw[hs0]at hD;omega
     ·rcases List.mem_cons.1 h with rfl|h;·rw[hs0]at hD;omega
      ·exact hb1.nodup.2 d' h
    have kN:=ae hb2;clear hb2 hb1 hib hK' hJ0 acd;go_wp2_with fail;refine HK _ _ (Handed.intro (docs.length-(k+1)) (by omega) (HJ _ _ _ ?_));exact⟨k+1,D::Ds,by omega,rfl,Mo rfl,rfl,kN⟩
   case stop=>rintro D c pre W' _ _ h _;exact h.elim
  ·obtain rfl:k=docs.length:=by omega
   have hmd:mx=docs.length:=by omega
   have abk:Hid (∀d∈docs,d.size<=200):=ae λd hd=>abk d (by rw[hmd,dH];exact hd);clear HC;obtain⟨m,hp,_⟩:=CV.Er;have hc1:W.cell? (aD (w.heap.size+1) 0)=some (.map (some w.heap.size)):=aq CV.box;obtain⟨W6,Ql,ahV,SE,F9⟩:=RG (P:=ah) hp.map DR;have HP:=ae hp;have HTI:=ae (show TI W6 w.heap.size W.heap.size m [] (.slice none 0 0) W6 from⟨ahV,bS _ _ _ _,(λk e=>by cases e),Mod.refl _ _,UN,λt h=>by cases h⟩);have HG6:=ae SE;have hmf:m.length<=10000:=by
    have h1:=zT (m.map λp:List UInt8×ay=>p.1) (docs.flatMap dc) hp.G8 λx hx=>by obtain⟨p,hpm,rfl⟩:=List.mem_map.1 hx;obtain⟨d,h1,h2⟩:=xO (hp.row p.1 p.2 (get_of_mem hp.G8 hpm)).2;exact List.mem_flatMap.2 ⟨d,h1,h2⟩
    have h2:=Ce docs abk;rw[jx]at h1;omega
   clear hp ahV SE;go_wp2_with fail;clear Ql;go_loopw[9](λv wr=>∃ts,Hid (TI W6 w.heap.size W.heap.size m ts v wr)/\sliceLen v=ts.length)(λv _=>m.length-sliceLen v);case atStart=>exact⟨[],HTI,rfl⟩
   case round=>
    obtain⟨ts,HT,hvl⟩:=hrel;have Je:=HT.few;rcases VL (P:=ah) 0 HT.iter HP.G8 with⟨hall,hN⟩|⟨x,v0,w2,hxm,hxt,hN,hi2,hE,hg2,hs2⟩;·
     have uE:=ae hall;clear hall;obtain⟨T,hT⟩:∃T,T=Cm ts:=⟨_,rfl⟩;have JV:T.length=ts.length:=by rw[hT,zD]
     have hTr:T.Pairwise λa b=>a<b:=by rw[hT];exact NA HT.nodup
     have hTm:∀x,x∈T↔bU ((docs.map dc).take docs.length) x≠[]:=λx=>by
      rw[hT,Rs];constructor;·intro hx;obtain⟨p,hp,rfl⟩:=List.mem_map.1 (HT.sub x hx);exact(HP.row p.1 p.2 (get_of_mem HP.G8 hp)).2
      ·intro hx;obtain⟨v,hv⟩:=HP.keys x hx;exact uE _ (dX hv)
     have Hv:=ae hTm;have HTR:=ae hTr;have anT:=ae hT;have aiK:∀t∈T.map (λl=>(⟨l.toArray⟩:ByteArray)),0<t.size/\t.size<=16:=λt ht=>by obtain⟨x,hx,rfl⟩:=List.mem_map.1 ht;obtain⟨d,_,h2⟩:=xO ((Hv x).1 hx);have:=D5 h2;exact⟨by simpa[kR]using this.1,by simpa[kR]using this.2⟩
     have acn:(T.map (λl=>(⟨l.toArray⟩:ByteArray))).Pairwise λa b=>a.data.toList<b.data.toList:=by rw[List.pairwise_map];exact hTr
     have ajh:=ae aiK;have ajg:=ae acn;clear hTm hTr aiK acn hT;go_wp2_with(go_at_call 93;refine(U9 u9 ts _ HT.row (by omega)).mono ?_;rintro e W7⟨rfl,mQ,hg7⟩;have YY:=ae hg7;clear hg7);have WJ:W7.ownsRow 0 9 1 u9 T.length (T.map dC):=by rw[JV,anT];exact mQ
     have QR:=ae WJ;have hts:(T.map (λl=>(⟨l.toArray⟩:ByteArray))).length<=10000:=by rw[jx,JV];omega
     refine(Xr u9 _ W7 (Nt QR) hts ajh ajg).mono ?_;rintro e W8⟨db,R,Λ,ρ,Dd,rfl,nK,aid,hΛ⟩;have MG:=ae nK;have aot:=ae aid;have HΛ:=ae hΛ;obtain⟨a9,anG,hv9⟩:=ownsRow_form QR;rw[hv9];clear mQ WJ hts nK aid hΛ;unfold aP;go_wp2_with fail;have OD:RI (W8.alloc (.cells #[iV docs.length,pT db,.slice none 0 0,.int .i32 0,.int .u32 0,.map none] 168)) W8.heap.size docs.length db [] (W8.alloc (.cells #[iV docs.length,pT db,.slice none 0 0,.int .i32 0,.int .u32 0,.map none] 168)):=⟨⟨_,heap_alloc_new _ _,bS _ _ _ _,λg e=>(by cases e)⟩,Mod.refl _ _⟩;have HRI:=ae OD;clear OD;obtain⟨W9,vG⟩:∃W9,W9=W8.alloc (.cells #[iV docs.length,pT db,.slice none 0 0,.int .i32 0,.int .u32 0,.map none] 168):=⟨_,rfl⟩;rw[<-vG]at HRI⊢;have hit:W.heap.size<W6.heap.size:=by omega
     have abR:∀k,k<W.heap.size->W8.heap[k]?=W.heap[k]?:=λk hk=>by have s1:=HG6.block k hk (by simp);have s2:=HT.mod.block k (by omega) (by omega);have z2:=HT.mod.size;have s3:=YY.block k (by omega) (λe=>by have:=HT.past k e.symm;omega);have z3:=YY.size;have s4:=MG.block k (by omega);exact s4.trans (s3.trans (s2.trans s1))
     have YP:W.heap.size<W8.heap.size:=by have:=HT.mod.size;have:=YY.size;have:=MG.size;omega
     have acA:=ae (show W8.ownsRow 0 9 1 u9 T.length (T.map dC)from aO QR λk e=>MG.block k (QR.lt k e).2);have Yh:=ae abR;have pX:W9.heap.size=W8.heap.size+1:=by rw[vG];simp
     have abQ:∀k,k<W8.heap.size->W9.heap[k]?=W8.heap[k]?:=λk hk=>by rw[vG];exact aC W8 _ k hk
     have ajw:=ae abQ;have X7:=ae vG;clear vG abR abQ;go_loopw[76](λi wr=>∃j:Nat,j<=ts.length/\i= .int .i64 j/\Hid (RI W9 W8.heap.size docs.length db ((T.take j).map (iw m)) wr))(λi _=>ts.length-(intOf i).toNat);case atStart=>exact⟨0,aW _,rfl,HRI⟩
     case round=>
      obtain⟨j,hj,rfl,HR⟩:=hrel;have SC:∀k,k<W8.heap.size->wr.heap[k]?=W8.heap[k]?:=λk hk=>(HR.mod.block k (by omega) (by omega)).trans (ajw k hk);by_cases hjl:j<ts.length;·
       obtain⟨x,hx⟩:∃x,T[j]?=some x:=⟨_,ar (by rw[JV];exact hjl)⟩;obtain⟨pv,Aa,hpr,hpp⟩:=HR.ex;have htk:((T.take j).map (iw m)).length=j:=by rw[jx,iu,JV];omega
       rw[htk]at hpr;have hrT:wr.ownsRow 0 9 1 u9 T.length (T.map dC):=aO acA λk e=>SC k (acA.lt k e).2;obtain⟨g9,ari,hg9⟩:∃g cap,u9=sL g T.length cap:=by have h1:=hrT;obtain⟨q,hq⟩:∃q,T.length=q+1:=⟨T.length-1,by rw[JV];omega⟩;rw[hq]at h1;obtain⟨g,cap,e⟩:=bX h1;exact⟨g,cap,by rw[e,hq]⟩
       rw[hv9]at hg9;cases hg9;have hcx:wr.cell? (aD g9 j)=some (.string ⟨x.toArray⟩):=by rw[hv9]at hrT;rw[hrT.cellAt j (by rw[JV];omega),bp,hx];rfl
       have hcb:wr.cell? (aD (w.heap.size+1) 0)=some (.map (some w.heap.size)):=aq ((SC _ (by have:=CV.size;omega)).trans ((Yh.out _ (lt_of_cell hc1)).trans CV.box));have hcp:wr.cell? (aD W8.heap.size 2)=some pv:=aq Aa;have hfp:wr.frozen? (aD W8.heap.size 2)=false:=aU Aa;have hmi:bV dC wr w.heap.size m:=HP.map.of_block ((SC _ (by have:=HP.map.lt;omega)).trans (Yh.out _ HP.map.lt));have HX:=ae hx;have Uh:=ae Aa;have HPP:=ae hpp;have HKP:=ae SC;have alQ:W8.heap.size<wr.heap.size:=lt_of_heap Uh;have ahN:∀W',bV dC W' w.heap.size m->(fH 190 (.map (some w.heap.size)) (.string ⟨x.toArray⟩) false).run ah W'= .ok (iw m x) W':=λW' h=>by have:=bV.lookup Ik h x trivial (λ_ _=>trivial) DR (z:= .slice none 0 0) (by kernel_rfl) false;simpa[iw,dC]using this
       have HLK:=ae ahN;obtain⟨ax,cx,hpw⟩:=ownsRow_form (HP.KH x);have HPW:=ae hpw;clear hpw;clear hx Aa hpp SC hrT htk ahN;go_wp2_with fail;refine bB [(0,false),(1,false),(2,false),(3,false),(4,false),(5,false),(6,false),(7,false),(8,true),(9,true),(10,true),(11,true),(12,true)] 12 (λw'=>w'.cell? (aD W8.heap.size 2)=some pv/\w'.cell? (aD (w.heap.size+1) 0)=some (.map (some w.heap.size))/\bV dC w' w.heap.size m) (by kernel_rfl) (by kernel_rfl) ⟨hcp,hcb,hmi.of_block rfl⟩ ?_;iterate 7(
 refine aR ?_ rfl rfl (λw' hS=>?_) ?_;rotate_left;·obtain⟨f0,f1,_⟩:=hS;go_simp;try rfl
 simp only[aN,ai,aj])
       refine aR (.slice ax (bU ((docs.map dc).take docs.length) x).length cx) rfl rfl (λw' hS=>?_) ?_;·have hl:=HLK w' hS.2.2;rw[HPW]at hl;go_simp
       simp only[aN,ai,aj];refine bg rfl rfl (by decide) (λK5 xW=>?_);go_simp;have aeh:((wr.alloc (.cells #[.slice ax (bU ((docs.map dc).take docs.length) x).length cx] 24)).drew).cell? (aD W8.heap.size 2)=some pv:=(aV wr _ _ (lt_of_cell hcp)).trans hcp;have aem:((wr.alloc (.cells #[.slice ax (bU ((docs.map dc).take docs.length) x).length cx] 24)).drew).cell? (aD (w.heap.size+1) 0)=some (.map (some w.heap.size)):=(aV wr _ _ (lt_of_cell hcb)).trans hcb;have adY:bV dC ((wr.alloc (.cells #[.slice ax (bU ((docs.map dc).take docs.length) x).length cx] 24)).drew) w.heap.size m:=hmi.of_block (aC wr _ _ hmi.lt);have ahm:((wr.alloc (.cells #[.slice ax (bU ((docs.map dc).take docs.length) x).length cx] 24)).drew).ownsRow 0 24 1 pv j ((T.take j).map (iw m)):=(hpr.alloc _).drew;refine xW _ _ ⟨aeh,aem,adY⟩ ?_;clear xW K5;refine bg rfl rfl (by decide) (λK5 xW=>?_);obtain⟨i0,hi,hz0,hz1,hz2⟩:=info_parts Tryz.Wn;refine wp_append_lies _ _ 88 rfl 24 i0 (.slice none 0 0) 1 24 rV hi hz0 hz1 hz2 rfl (by decide) pv j ((T.take j).map (iw m)) rfl ahm (aD wr.heap.size 0) 1 1 [.slice ax (bU ((docs.map dc).take docs.length) x).length cx] rfl rfl (cell_one_new wr _ _) (by simp[dN]) (by decide) (by unfold maxLen;omega) (by omega) ?_;intro v4 W4 hrow4 cM dS;obtain⟨g4,wU,rfl⟩:=bX hrow4;have htk:((T.take j).map (iw m)).length=j:=by rw[jx,iu,JV];omega
       have adG:=HR.step (by omega) Uh HPP (by rw[htk];exact hrow4) cM dS;have hnx:(T.take (j+1)).map (iw m)=(T.take j).map (iw m)++[.slice ax (bU ((docs.map dc).take docs.length) x).length cx]:=by
        have hjT:j<T.length:=by rw[JV];exact hjl
        have F8:T[j]=x:=by have h1:=HX.out;rw[ar hjT]at h1;exact aJ h1
        rw[bH hjT,cQ,F8];simp only[dM,mg,HPW.out]
       rw[<-hnx]at adG;have anW:=ae adG;have hpb:∀g,pv.ownBlock=some g->W9.heap.size<=g:=HPP;have aeg:W4.cell? (aD W8.heap.size 2)=some pv:=dw cM aeh (λe=>by have:=hpb _ e.symm;(try simp only at this);omega);have ael:W4.cell? (aD (w.heap.size+1) 0)=some (.map (some w.heap.size)):=dw cM aem (λe=>by have h0:W9.heap.size<=w.heap.size+1:=hpb _ e.symm;have:=CV.size;omega);have adX:bV dC W4 w.heap.size m:=adY.of_block (cM.block _ (by simp;have:=hmi.lt;omega) (λe=>by have:=hpb _ e.symm;have:=CV.size;omega));have aur:W4.frozen? (aD W8.heap.size 2)=false:=by have:=cM.block W8.heap.size (by simp;omega) (λe=>by have:=hpb _ e.symm;omega);rw[Uq (a:=(aD W8.heap.size 2)) this];exact aU ((aC wr _ _ alQ).trans Uh)
       clear hrow4 cM dS adG hnx htk hpb ahm adY aeh aem;refine xW _ _ ⟨aeg,ael,adX⟩ ?_;clear xW K5;simp only[aN,ai,aj];refine bg rfl rfl (by decide) (λK5 xW=>?_);go_simp;refine xW _ _ ⟨aeg,ael,adX⟩ ?_;clear xW K5;refine bg rfl rfl (by decide) (λK5 xW=>?_);go_simp;refine xW _ _ ⟨aeg,ael,adX⟩ ?_;clear xW K5;refine cO rfl rfl (λK5 xW=>?_);go_simp;refine xW _ _ ?_;clear xW K5;go_wp2_with fail;exact⟨⟨j+1,by omega,by go_num,anW⟩,by simp[intOf];omega⟩
      ·obtain rfl:j=ts.length:=by omega
       go_wp2_with fail;have Fz:(docs.map dc).take docs.length=docs.map dc:=vJ (by simp);have hTt:T.take ts.length=T:=vJ (by omega);have hwr:∀k,k<W.heap.size->wr.heap[k]?=W.heap[k]?:=λk hk=>(SC k (by omega)).trans (Yh k hk);have hDl:∀d∈Ds,d<W.heap.size:=λd h=>(Array.getElem?_eq_some_iff.1 (CV.marks d h)).1;refine uj (v:= .tuple #[pT W8.heap.size,.nilIface]) (λw'=>results_tmp2 (t:=2) (u:=3) rfl _ _ _) Ds wr (λd h=>(hwr d (hDl d h)).trans (CV.marks d h)) CV.nodup.1 λw' hm=>?_;have hcell:∀(k:Nat)cs t r,wr.heap[k]?=some (.cells cs t r)->w'.heap[k]?=wr.heap[k]?:=λk cs t r h=>hm.block k (Array.getElem?_eq_some_iff.1 h).1 λhd=>by have h1:=(hwr k (hDl k hd)).trans (CV.marks k hd);rw[h]at h1;cases h1
       obtain⟨pv,Aa,hpr,hpp⟩:=HR.ex;have hsz:w.heap.size<=wr.heap.size:=by have:=CV.size;have:=HR.mod.size;omega
       have yU:aI w.heap.size w w':=by
        have hb:=CV.below;refine⟨hm.os.trans (HR.mod.os.trans ?_),hm.tape.trans (HR.mod.tape.trans ?_),hm.output.trans (HR.mod.output.trans ?_),by have:=hm.size;omega,λk hk=>?_⟩;·rw[X7];exact MG.os.trans (YY.os.trans (HT.mod.os.trans (HG6.os.trans hb.os)))
        ·rw[X7];exact MG.tape.trans (YY.tape.trans (HT.mod.tape.trans (HG6.tape.trans hb.tape)))
        ·rw[X7];exact MG.output.trans (YY.output.trans (HT.mod.output.trans (HG6.output.trans hb.output)))
        ·have h1:=CV.size;exact(hm.block k (by omega) λhd=>by have:=CV.nodup.2 k hd;omega).trans ((hwr k (by omega)).trans (hb.block k hk))
       have hdi:mM w' db R Λ ρ Dd:=aot.kept λk cs t r h ht=>by have hk:=(Array.getElem?_eq_some_iff.1 h).1;have h1:=SC k hk;exact(hcell k cs t r (h1.trans h)).trans h1
       have Su:Λ 0=T:=by rw[HΛ];unfold kI;rw[List.map_map];exact(List.map_congr_left λa _=>rfl).trans (List.map_id _)
       refine⟨yU,.inl ⟨hmd,W8.heap.size,rfl,(by have:=CV.size;omega),db,R,Λ,ρ,Dd,pv,T.map (iw m),λv hv k hk=>?_,?_,hdi,?_,?_,?_,?_,?_,?_⟩⟩;·obtain⟨x,_,rfl⟩:=List.mem_map.1 hv;unfold iw at hk;cases hx:get m x with|none=>rw[hx]at hk;cases hk|some u=>rw[hx]at hk;have:=HP.past x u k hx hk;omega
       ·rw[jx];exact(hcell _ _ _ _ Aa).trans Aa
       ·rw[Su];exact HTR
       ·intro x;rw[Su,Hv x,Fz]
       ·rw[Su];omega
       ·intro x hx;rw[Su]at hx;have:=(ajh _ (List.mem_map.2 ⟨x,hx,rfl⟩)).2;simpa[kR]using this
       ·rw[Su];rw[hTt,jx]at hpr;exact bT hpr λk cs r h=>hcell k cs _ r h
       ·intro i v x hv hx;rw[Su]at hx;rw[bp,hx]at hv;have:=aJ hv;subst this;have hrx:=HP.KH x;rw[Fz]at hrx;have h8:wr.ownsRow 0 3 1 (iw m x) (bU (docs.map dc) x).length ((bU (docs.map dc) x).map cJ):=aO hrx λk e=>hwr k (hrx.lt k e).2;exact bT h8 λk cs r h=>hcell k cs _ r h
    ·unfold dC at hN hE;obtain⟨i0,hi,hz0,hz1,hz2⟩:=info_parts Tryz.Qh;have hrow2:=HT.Zu (by omega) hg2;have hrow3:(w2.alloc (.cells #[.string ⟨x.toArray⟩] 9)).ownsRow 0 9 1 u9 ts.length (ts.map dC):=hrow2.alloc _;have HG2:=ae hg2;have ju:=ae hs2;have Yl:=ae hi2;clear hg2 hs2 hi2 hrow2;go_wp2_with(at_builtin;refine wpList_append_lies rfl _ _ 35 rfl 9 i0 (.string ⟨#[]⟩) 1 16 ie hi hz0 hz1 hz2 rfl (by decide) u9 ts.length (ts.map dC) rfl hrow3 (aD w2.heap.size 0) 1 1 [.string ⟨x.toArray⟩] rfl rfl (cell_one_new w2 _ _) (by simp[dN]) (by decide) (by unfold maxLen;omega) (by omega) ?_;intro v4 W4 hrow4 cM dS;have PI:=ae hrow4;have HT4:=ae (HT.step (by rw[F9];have:=HP.map.lt;omega) (by omega) hxt hxm HG2.out ju.out Yl.out hrow4 cM dS);clear hrow4 cM dS;simp only[aN,ai,aj]);have Jb:=HT4.len;have hfw:=HT4.few;rw[bh,List.length_singleton]at Jb hfw;exact⟨⟨ts++[x],HT4,by rw[Jb];simp⟩,by omega⟩
theorem Kk(w:ak):aX ah 40 #[.nilIface] w λe w'=>e= .returned (.tuple #[iV 0,iV (-1)])/\aI w.heap.size w w':=by go_enter Y5,Ut;go_wp2_with fail;go_ret2;exact⟨rfl,((aB _ w).alloc (au _) _).alloc (by simp) _⟩
section
variable{P:iX}{w:ak}
theorem C5(t ty e:dx)(i:uT)(ht:P.underlying t=some (.slice e))(hi:P.info? e=some i)(a:Option jK)(c:Nat):(nL #[t,t] ty #[.slice none 0 0,.slice a 0 c]).run P w= .ok (.slice none 0 0) w:=by cases a<;>simp[nL,run_underlying ht,sizeOf,typeInfo,hi,aoY,ac4,loadCells,loadCellsFrom]
theorem C6(t ty e:dx)(i:uT)(z:ay)(size bytes:Nat)(ht:P.underlying t=some (.slice e))(hi:P.info? e=some i)(hz:i.zero=some z)(hsize:i.size=size)(hby:i.bytes=bytes)(hzs:z.cells.size=size)(hsz:0<size)(a:Option jK)(m c:Nat)(news:List ay)(hl:news.length=m*size)(hnews:∀j u,news[j]?=some u->∃b,a=some b/\w.cell? (b.add j)=some u)(h1:∀u∈news,u.oneCell'=true)(h63:m<=maxLen)(hbytes:m*bytes<=140737488355328):∃v' w',(nL #[t,t] ty #[.slice none 0 0,.slice a m c]).run P w= .ok v' w'/\w'.ownsRow 0 e size v' m news/\aI w.heap.size w w'/\kp w.heap.size v':=by cases m with
 |zero=>have hn:news=[]:=iZ (by simpa using hl);subst hn;exact⟨_,_,C5 t ty e i ht hi a c,bS _ _ _ _,aB _ _,λk e=>by cases e⟩|succ m=>
  obtain⟨u,hu⟩:∃u,news[0]?=some u:=⟨_,ar (by rw[hl];exact awB (FM _) hsz)⟩;obtain⟨b,rfl,_⟩:=hnews 0 u hu;obtain⟨v',w',hr,h2,h3,h4⟩:=run_append_lies (P:=P) t ty e i z size bytes ht hi hz hsize hby hzs hsz (.slice none 0 0) 0 [] (bS _ _ _ _) b (m+1) c news hl (λj u hj=>by obtain⟨b',e',h'⟩:=hnews j u hj;cases e';exact h') h1 (FM _) (by omega) (by rw[gW];exact hbytes);rw[gW,eZ]at h2;refine⟨v',w',hr,h2,(aB _ w).grown h3 (au _) (λk e=>by cases e),λk hk=>?_⟩;rcases h4 with⟨h5,_⟩|⟨h5,_⟩;·rw[hk]at h5;cases h5
  ·rw[hk]at h5;cases h5;exact au _
theorem yw{ops:Array gV}{rest:List gV}{o:gV}{act:Act}{Q:Exit->Act->ak->Prop}(hgd:o.guard=none)(s x:Operand)(t:dx)(ho:o.op= .call {callee:= .builtin .append,args:=#[s,x],argTypes:=#[t,t]})(e:dx)(i:uT)(z:ay)(size bytes:Nat)(ht:P.underlying t=some (.slice e))(hi:P.info? e=some i)(hz:i.zero=some z)(hsize:i.size=size)(hby:i.bytes=bytes)(hzs:z.cells.size=size)(hsz:0<size)(hs:act.eval s= .slice none 0 0)(a:Option jK)(m c:Nat)(news:List ay)(hx:act.eval x= .slice a m c)(hl:news.length=m*size)(hnews:∀j u,news[j]?=some u->∃b,a=some b/\w.cell? (b.add j)=some u)(h1:∀u∈news,u.oneCell'=true)(h63:m<=maxLen)(hbytes:m*bytes<=140737488355328)(h:∀v' w',w'.ownsRow 0 e size v' m news->aI w.heap.size w w'->kp w.heap.size v'->wpList P ops Q rest (act.put o.dst v') w'):wpList P ops Q (o::rest) act w:=by refine wpList_plain hgd λK hK=>?_;obtain⟨v',w',hr,h2,h3,h4⟩:=C6 (P:=P) t o.type e i z size bytes ht hi hz hsize hby hzs hsz a m c news hl hnews h1 h63 hbytes;unfold Oper.wp execOp;simp only[ho,resolve,invoke,builtin,dZ,DT,eH,UO,dM,mg,hs,hx,hr];exact hK _ _ (h v' w' h2 h3 h4)
end
section
variable{w w':ak}
theorem RowsIn.Il{B:Nat}{V:ay}{D:List DS}(h:RowsIn B w V D)(hk:∀(k:Nat)cs t r,w.heap[k]?=some (.cells cs t r)->t≠9->w'.heap[k]?=w.heap[k]?):RowsIn B w' V D:=by have go:∀{e size n:Nat}{v:ay}{xs:List ay},e≠9->w.ownsRow 0 e size v n xs->w'.ownsRow 0 e size v n xs:=λhe hr=>bT hr λk cs r hk'=>hk _ _ _ _ hk' he;exact⟨go (by decide) h.row,h.past,λi s hi=>go (by decide) (h.jw i s hi),h.uP,h.apart,h.lX⟩
theorem mM.Il{db:Nat}{R:Nat->Prop}{Λ:Nat->List fJ}{ρ:Nat->Nat}{D:List DS}(h:mM w db R Λ ρ D)(hk:∀(k:Nat)cs t r,w.heap[k]?=some (.cells cs t r)->t≠9->w'.heap[k]?=w.heap[k]?):mM w' db R Λ ρ D:=by obtain⟨V,h1,h2⟩:=h.mem;exact⟨⟨V,(hk _ _ _ _ h1 (by decide)).trans h1,h2.Il hk⟩,h.root,h.state⟩
end
def Own(ov:ay)(docs:List ByteArray)(w1:ak)(k:Nat)(w:ak):Prop:=Mod (λb=>ov.ownBlock=some b) w1 w/\∀og,ov.ownBlock=some og->∃cur:Array ay,w.heap[og]?=some (.cells cur 9 (0,0))/\∀j(h:j<docs.length),k<=j->cur[j]?=some (.string docs[j])
theorem Own.step{ov:ay}{docs:List ByteArray}{w1 w:ak}{k og:Nat}{v:ay}(h:Own ov docs w1 k w)(ho:ov.ownBlock=some og):Own ov docs w1 (k+1) (w.setCell (aD og k) v):=by obtain⟨h1,h2⟩:=h;refine⟨h1.trans (Mod.setCell w (aD og k) v λ_=>ho),λog' ho'=>?_⟩;obtain rfl:og=og':=aJ (ho.symm.trans ho');obtain⟨cur,h3,h4⟩:=h2 og ho;refine⟨_,heap_setCell_same w og k _ _ _ h3,λj hj hk=>?_⟩;rw[Array.getElem?_setIfInBounds_ne (by omega)];exact h4 j hj (by omega)
theorem Own.same{ov:ay}{docs:List ByteArray}{w1 w w':ak}{k:Nat}(h:Own ov docs w1 k w)(hs:Same w w'):Own ov docs w1 k w':=by obtain⟨n,rfl⟩:=hs;exact⟨h.1.trans (Mod.same (Same.drewN w n)),h.2⟩
theorem IJ{w:ak}{ov:ay}{docs:List ByteArray}(h:w.ownsRow 0 9 1 ov docs.length (docs.map DM)):jU w ov docs:=by obtain⟨a,cap,rfl⟩:=ownsRow_form h;refine⟨a,cap,rfl,λi hi=>?_⟩;obtain⟨g,cap',e,hc⟩:=dh h (j:=i) (u:= .string docs[i]) (by simp[hi]);simp only[bA,true_and]at e;obtain⟨rfl,rfl⟩:=e;exact⟨g,0,rfl,by rw[gW];exact hc⟩
end Go.Proofs.Ts
namespace Go.Proofs.YtffjomnnkilhgaaGreatDoor.card
open Go Go.ChangeShapes Go.WideShapes Go.ChangeAt Go.RowKit
theorem own:ownKnob Tryz.prog.godebug=none:=by kernel_rfl
theorem laidOut:laidOutB ah=true:=by kernel_rfl
theorem O7:Tryz.prog.cellsOf 9=1:=by kernel_rfl
def aln:nG Unit->ay| .lit (.int k n)=> .int k n|_=> .nilIface
def KH:nG Unit->List ay| .agg l=>l.map aln|_=>[]
def agN:nG Unit->List ay| .agg l=>l.flatMap KH|_=>[]
noncomputable def laidWorld (os:Os):ak :=
 let w0:=World.holding ah os ⟨#[],#[],[]⟩
 let h1:=w0.heap.modify 0 fun
   | .cells _ t frozen => .cells #[.iface 327 (.agg #[typeHandle ah 76])] t frozen
   | o=>o
 let h2:=h1.modify 4 fun
   | .cells _ t frozen => .cells (KH Rows.laid_math_bits_deBruijn64tab).toArray t frozen
   | o=>o
 let h3:=h2.modify 3 fun
   | .cells _ t frozen => .cells (agN Rows.laid_unicode_utf8_acceptRanges).toArray t frozen
   | o=>o
 let h4:=h3.modify 2 fun
   | .cells _ t frozen => .cells (KH Rows.laid_unicode_utf8_first).toArray t frozen
   | o=>o
 { w0 with heap:=h4 }
end Go.Proofs.YtffjomnnkilhgaaGreatDoor.card
namespace Go.Proofs.YtffjomnnkilhgaaGreatDoor.card
open Go Go.ChangeShapes Go.WideShapes Go.ChangeAt Go.RowKit
theorem pJ{W:ak}(hS:W.ShapedOpen ah){g:Nat}{zero:Array ay}{t:dx}(hg:g<Tryz.prog.globals.size)(h:((begin ah (λ_ _=>0) default).world.heap[g]?).bind Y7=some (zero,t)):∃cs,W.heap[g]?=some (.cells cs t (0,0)):=by obtain⟨cs,h1,_⟩:=hS.1 g zero t hg h;exact⟨cs,h1⟩
theorem zL{P:iX}{g:Nat}{t:dx}(h:(((begin P (λ_ _=>0) default).world.heap[g]?).bind Y7).map (·.2)=some t):∃zero,((begin P (λ_ _=>0) default).world.heap[g]?).bind Y7=some (zero,t):=by cases e:((begin P (λ_ _=>0) default).world.heap[g]?).bind Y7 with|none=>rw[e]at h;cases h|some r=>rw[e]at h;exact⟨r.1,by rw[<-aJ h]⟩
theorem Mw:(Rows.laid_unicode_utf8_acceptRanges:nG Unit)=Go.Lib.acceptData:=by kernel_rfl
theorem Zo{W:ak}{l:List (String×nG Unit)}(hL:laidMetH ah l W)(hS:W.ShapedOpen ah)(h1:("unicode/utf8.first",(Rows.laid_unicode_utf8_first:nG Unit))∈l.filter λx=>x.2.handleName?.isNone)(h2:("unicode/utf8.acceptRanges",(Rows.laid_unicode_utf8_acceptRanges:nG Unit))∈l.filter λx=>x.2.handleName?.isNone):Ts.Fk W:=by have hm:=(laidMetH_iff.1 hL).1;obtain⟨z1,e1⟩:=zL (P:=ah) (g:=2) (t:=412) (by kernel_rfl);obtain⟨z2,e2⟩:=zL (P:=ah) (g:=3) (t:=415) (by kernel_rfl);refine⟨pJ hS (of_decide_eq_true (by kernel_rfl)) e1,pJ hS (of_decide_eq_true (by kernel_rfl)) e2,?_⟩;have r1:=A9 hm h1;have r2:=A9 hm h2;rw[Mw]at r2;rw[show(Rows.laid_unicode_utf8_first:nG Unit)=Go.Lib.firstData from Pinned.utf8First_eq]at r1;exact utf8Tabs_of_readsT (ρ:=Tryz.lays196_ren) (U8Types.of196 Tryz.lays196) ⟨by kernel_rfl,by kernel_rfl,by kernel_rfl,by kernel_rfl,by kernel_rfl,by kernel_rfl,by kernel_rfl⟩ r1 r2
end Go.Proofs.YtffjomnnkilhgaaGreatDoor.card
namespace Go.Proofs.Ts
open Go Go.RowKit Go.Extern.Stop Go.Stop Go.Extern
/-!### closed facts on the model's entries for internal/reflectlite -/
theorem su(fu:Nat)(h:ay)(w:ak):(Cc (fu+1) 327 (.agg #[h]) "Kind").run ah w= .ok (281,h) w:=by kernel_rfl
theorem sw(fu:Nat)(h:ay)(w:ak):(Cc (fu+1) 327 (.agg #[h]) "Elem").run ah w= .ok (304, .agg #[h]) w:=by kernel_rfl
theorem lQ(fu:Nat)(h:ay)(w:ak):(Cc (fu+1) 327 (.agg #[h]) "Implements").run ah w= .ok (305, .agg #[h]) w:=by kernel_rfl
theorem lU(fu:Nat)(h:ay)(w:ak):(Cc (fu+1) 327 (.agg #[h]) "AssignableTo").run ah w= .ok (302, .agg #[h]) w:=by kernel_rfl
theorem pC(fu:Nat)(h:ay)(w:ak):(Cc (fu+1) 327 (.agg #[h]) "Comparable").run ah w= .ok (303, .agg #[h]) w:=by kernel_rfl
theorem KL(b:Nat)(w:ak):(ReflectliteValue.unpack (.iface 135 (pT b))).run ah w= .ok (.agg #[.pointer (some (aD 5 (135))),pT w.heap.size,uV 150]) (w.alloc (.cells #[pT b] 135)):=by kernel_rfl
theorem Vk(a:jK)(w:ak):(ReflectliteValue.methodAny (ReflectliteValue.valueError "reflectlite.Value.Type" 0) (λt _ _ _=>ReflectliteType.toType t) #[.agg #[.pointer (some (aD 5 (135))), .pointer (some a),uV 150]]).run ah w= .ok (.iface 327 (.agg #[.pointer (some (aD 5 (135)))])) w:=by kernel_rfl
theorem Vn(w:ak):((ReflectliteType.abiMethod λt=>(λa:Nat=>tR M6 (a:Int))<$>Rtype.kind t) #[.pointer (some (aD 5 (135)))]).run ah w= .ok (.int .u8 22) w:=by kernel_rfl
theorem Vm(w:ak):((ReflectliteType.abiMethod λt=>(λa:Nat=>tR M6 (a:Int))<$>Rtype.kind t) #[.pointer (some (aD 5 (43)))]).run ah w= .ok (.int .u8 2) w:=by kernel_rfl
theorem rlm(z:Sem ay)(f:dx->jK->Nat->Nat->Sem ay)(v:ay):ReflectliteValue.method z f #[v]=(do match<-ReflectliteValue.parts v with|none=>z|some (t,a,fl)=>f t a fl (fl%32)):=rfl
theorem GP(a:jK)(w:ak):(ReflectliteValue.parts (.agg #[.pointer (some (aD 5 (135))),.pointer (some a),uV 150])).run ah w= .ok (some (135,a,150)) w:=by kernel_rfl
theorem RA(a p:jK)(W:ak)(ha:W.cell? a=some (.pointer (some p))):(ReflectliteValue.method (ReflectliteValue.valueError "reflectlite.Value.IsNil" 0) ReflectliteValue.isNil #[.agg #[.pointer (some (aD 5 (135))), .pointer (some a),uV 150]]).run ah W= .ok (.bool false) W:=by rw[rlm];simp only[dZ,GP,fS];simp[ReflectliteValue.isNil,loadVar,isAgg,underlying,acT,ha,fS]
theorem Vo(w:ak):(ReflectliteType.method ReflectliteType.elem #[.agg #[.pointer (some (aD 5 (135)))]]).run ah w= .ok (.iface 327 (.agg #[.pointer (some (aD 5 (43)))])) w:=by kernel_rfl
theorem El(w:ak):(ReflectliteType.relation "Implements" ReflectliteType.implements_ #[.agg #[.pointer (some (aD 5 (43)))], .iface 327 (.agg #[.pointer (some (aD 5 (76)))])]).run ah w= .ok (.bool true) w:=by kernel_rfl
theorem tZ(v:ay)(w:ak):(ReflectliteType.typeOf #[.iface 43 v]).run ah w= .ok (.iface 327 (.agg #[.pointer (some (aD 5 (43)))])) w:=by kernel_rfl
theorem En(w:ak):(ReflectliteType.relation "AssignableTo" ReflectliteType.assignableTo #[.agg #[.pointer (some (aD 5 (43)))], .iface 327 (.agg #[.pointer (some (aD 5 (43)))])]).run ah w= .ok (.bool true) w:=by kernel_rfl
theorem KJ(k:Int)(w:ak):(ReflectliteValue.unpack (.iface 43 (iV k))).run ah w= .ok (.agg #[.pointer (some (aD 5 (43))),pT w.heap.size,uV 130]) (w.alloc (.cells #[iV k] 43)):=by kernel_rfl
theorem NP(w:ak):(Rtype.elem? 135).run ah w= .ok (some 43) w:=by kernel_rfl
theorem ada(p:jK)(w:ak):(ReflectliteValue.mk 43 p ReflectliteValue.flagAddr).run ah w= .ok (.agg #[.pointer (some (aD 5 (43))),.pointer (some p),uV 386]) w:=by kernel_rfl
theorem RB(a p:jK)(W:ak)(ha:W.cell? a=some (.pointer (some p))):(ReflectliteValue.method (ReflectliteValue.valueError "reflectlite.Value.Elem" 0) ReflectliteValue.elem #[.agg #[.pointer (some (aD 5 (135))), .pointer (some a),uV 150]]).run ah W= .ok (.agg #[.pointer (some (aD 5 (43))),.pointer (some p),uV 386]) W:=by rw[rlm];simp only[dZ,GP,fS];simp[ReflectliteValue.elem,loadVar,isAgg,underlying,acT,ha,fS,NP,ada]
theorem rls (v x:ay):ReflectliteValue.set #[v,x]=(do
  let (some (dst,a,fl),some (src,b,_)):=(<- ReflectliteValue.parts v,<- ReflectliteValue.parts x)
   | unsupported (.noEntry "extern/(internal/reflectlite.Value).Set.zeroValue")
  if fl / ReflectliteValue.flagAddr % 2 == 0 then unsupported (.noEntry "extern/(internal/reflectlite.Value).Set.unaddressable")
  let val <- loadVar src b
  if <- Rtype.directlyAssignable dst src then storeVar dst a val
  else if <- Rtype.implements dst src then
   if (<- Rtype.kind src) == 20 then
    match val with
    | .nilIface => unsupported (.noEntry "extern/reflectlite: a nil value of one interface type handed on as a value of another")
    | _=>storeVar dst a val
   else storeVar dst a (.iface src val)
  else panicString ("reflectlite.Set: value of type " ++ (← Rtype.spelt src) ++ " is not assignable to type " ++ (← Rtype.spelt dst))
  pure (.tuple #[])):=rfl
theorem NN(a:jK)(w:ak):(ReflectliteValue.parts (.agg #[.pointer (some (aD 5 (43))),.pointer (some a),uV 386])).run ah w= .ok (some (43,a,386)) w:=by kernel_rfl
theorem Rz(a:jK)(w:ak):(ReflectliteValue.parts (.agg #[.pointer (some (aD 5 (43))),.pointer (some a),uV 130])).run ah w= .ok (some (43,a,130)) w:=by kernel_rfl
theorem NT(w:ak):(Rtype.directlyAssignable 43 43).run ah w= .ok true w:=by kernel_rfl
theorem Zw(ta b:jK)(k:Int)(old:ay)(W:ak)(hb:W.cell? b=some (iV k))(ht:W.cell? ta=some old)(hf:W.frozen? ta=false):(ReflectliteValue.set #[.agg #[.pointer (some (aD 5 (43))),.pointer (some ta),uV 386],.agg #[.pointer (some (aD 5 (43))),.pointer (some b),uV 130]]).run ah W= .ok (.tuple #[]) (W.setCell ta (iV k)):=by rw[rls];simp only[dZ,NN,Rz,fS];simp[ReflectliteValue.flagAddr,loadVar,isAgg,underlying,afI,hb,fS,NT,storeVar,Gy,storeCells,iU];rw[run_store ah W ta _ _ (by rfl)];simp[ht,hf]
def nD(w:ak):Prop:=w.cell? ⟨0,0,none⟩=some (.iface 327 (.agg #[.pointer (some ⟨5,76,none⟩)]))
theorem nD.below{w w':ak}(h:nD w)(hb:aI w.heap.size w w'):nD w':=(hb.cell (p:=(aD (0) 0)) (lt_of_cell h)).trans h
theorem as_hit(k:Int)(b:Nat)(old:ay)(w:ak)(hg:nD w)(ht0:w.cell? (aD b 0)=some old)(hf0:w.frozen? (aD b 0)=false):aX ah 69 #[.iface 43 (iV k),.iface 135 (pT b)] w λev w'=>ev= .returned (.bool true)/\∃w1,aI w.heap.size w w1/\w'=w1.setCell (aD b 0) (iV k):=by
 have h6:=@run_callFunc_extern ah 108 _ (λargs=>ReflectliteValue.unpack (args.getD 0 (.tuple #[]))) UJ (by kernel_rfl) (by kernel_rfl) (by kernel_rfl) (by kernel_rfl);have h7:=@run_callFunc_extern ah 109 _ (ReflectliteValue.methodAny (ReflectliteValue.valueError "reflectlite.Value.Type" 0) (λt _ _ _=>ReflectliteType.toType t)) UI (by kernel_rfl) (by kernel_rfl) (by kernel_rfl) (by kernel_rfl);have h8:=@run_callFunc_extern ah 110 _ (ReflectliteValue.method (ReflectliteValue.valueError "reflectlite.Value.IsNil" 0) ReflectliteValue.isNil) UH (by kernel_rfl) (by kernel_rfl) (by kernel_rfl) (by kernel_rfl);have h27:=@run_callFunc_extern ah 281 _ (ReflectliteType.abiMethod λt=>do pure (.int .u8 (<-Rtype.kind t))) Ux (by kernel_rfl) (by kernel_rfl) (by kernel_rfl) (by kernel_rfl);have h37:=@run_callFunc_extern ah 304 _ (ReflectliteType.method ReflectliteType.elem) Uv (by kernel_rfl) (by kernel_rfl) (by kernel_rfl) (by kernel_rfl);have h38:=@run_callFunc_extern ah 305 _ (ReflectliteType.relation "Implements" ReflectliteType.implements_) Uu (by kernel_rfl) (by kernel_rfl) (by kernel_rfl) (by kernel_rfl);have h10:=@run_callFunc_extern ah 112 _ ReflectliteType.typeOf yi (by kernel_rfl) (by kernel_rfl) (by kernel_rfl) (by kernel_rfl);have h35:=@run_callFunc_extern ah 302 _ (ReflectliteType.relation "AssignableTo" ReflectliteType.assignableTo) Uw (by kernel_rfl) (by kernel_rfl) (by kernel_rfl) (by kernel_rfl);have h11:=@run_callFunc_extern ah 157 _ (ReflectliteValue.method (ReflectliteValue.valueError "reflectlite.Value.Elem" 0) ReflectliteValue.elem) UE (by kernel_rfl) (by kernel_rfl) (by kernel_rfl) (by kernel_rfl);have h12:=@run_callFunc_extern ah 158 _ ReflectliteValue.set UD (by kernel_rfl) (by kernel_rfl) (by kernel_rfl) (by kernel_rfl);have tO:=tZ;have mA:=lU;have a25:=En;have v25:=KJ;have f6:=KL;have f7:=Vk;have mK:=su;have mE:=sw;have mI:=lQ;have k27:=Vn;have k25:=Vm;have e27:=Vo;have i25:=El;have n8:=RA (aD w.heap.size 0) (aD b 0) ((w.alloc (.cells #[pT b] 135)).alloc (.cells #[.pointer (some (aD 5 (135))),pT w.heap.size,uV 150] 219)) (by simp);have hlt:0<w.heap.size:=lt_of_cell hg;unfold nD at hg;have hg2:((w.alloc (.cells #[pT b] 135)).alloc (.cells #[.pointer (some (aD 5 (135))),pT w.heap.size,uV 150] 219)).cell? (aD 0 0)=some (.iface 327 (.agg #[.pointer (some (aD 5 (76)))])):=by rw[aV _ _ (aD 0 0) (by simp),aV _ _ (aD 0 0) hlt];exact hg
 have htl:b<w.heap.size:=lt_of_cell ht0;have el:=RB (aD w.heap.size 0) (aD b 0) (((w.alloc (.cells #[pT b] 135)).alloc (.cells #[.pointer (some (aD 5 (135))),pT w.heap.size,uV 150] 219)).alloc (.cells #[.pointer (some (aD 5 (135))),pT w.heap.size,uV 150] 219)) (by rw[aV _ _ (aD w.heap.size 0) (by simp;omega)];simp);have st:=Zw (aD b 0) (aD (w.heap.size+1+1+1) 0) k old ((((w.alloc (.cells #[pT b] 135)).alloc (.cells #[.pointer (some (aD 5 (135))),pT w.heap.size,uV 150] 219)).alloc (.cells #[.pointer (some (aD 5 (135))),pT w.heap.size,uV 150] 219)).alloc (.cells #[iV k] 43)) (by rw[Y1 _ _ _ _ (by simp)];rfl) (by rw[aV _ _ (aD b 0) (by simp;omega),aV _ _ (aD b 0) (by simp;omega),aV _ _ (aD b 0) (by simp;omega),aV _ _ (aD b 0) htl];exact ht0) (by rw[fp _ _ (aD b 0) (by simp;omega),fp _ _ (aD b 0) (by simp;omega),fp _ _ (aD b 0) (by simp;omega),fp _ _ (aD b 0) (ast htl)];exact hf0);go_enter Y4,Us;go_wp2;refine wp_loop_rounds 1 ?_;rw[rounds_succ];go_wp2;go_ret;refine⟨rfl,_,?_,rfl⟩;exact((((aB _ w).alloc (au _) _).alloc (by simp) _).alloc (by simp;omega) _).alloc (by simp;omega) _
end Go.Proofs.Ts
namespace Go.Proofs.YtffjomnnkilhgaaGreatDoor.card
open Go Go.ChangeShapes Go.WideShapes Go.ChangeAt Go.RowKit
theorem Xz:Tryz.prog.globalNamed "errors.errorType"=some 0:=by kernel_rfl
theorem aeL:(Tryz.prog.cutTypes.find? (·.1== "internal/reflectlite.rtype")).map (·.2)=some 327:=by kernel_rfl
theorem aaO:((List.range Tryz.prog.types.size).filter λt=>Tryz.prog.rowNamed t [101,114,114,111,114])=[76]:=by kernel_rfl
theorem O2:typeHandle ah 76= .pointer (some ⟨5,76,none⟩):=by kernel_rfl
theorem aeM{W:ak}{l:List (String×nG Unit)}(hL:laidMetH ah l W)(h1:("errors.errorType",(Rows.laid_errors_errorType:nG Unit))∈l.filter λx=>x.2.handleName?.isSome):Ts.nD W:=by have hm:=(laidMetH_iff.1 hL).2;obtain⟨name,u,ty,e1,e2,e3,e4,e5⟩:=hm _ h1;have en:name=[101,114,114,111,114]:=(aJ e1).symm;subst en;obtain rfl:=aJ (aeL.symm.trans e2);have hm:ty∈(List.range Tryz.prog.types.size).filter λt=>Tryz.prog.rowNamed t [101,114,114,111,114]:=List.mem_filter.2 ⟨List.mem_range.2 e3,e4⟩;rw[aaO]at hm;obtain rfl:=List.mem_singleton.1 hm;rw[O2]at e5;unfold Ts.nD;simpa using ajW Xz e5 0
end Go.Proofs.YtffjomnnkilhgaaGreatDoor.card
namespace Go.Proofs.YtffjomnnkilhgaaGreatDoor.card
open Go Go.ChangeShapes Go.WideShapes Go.ChangeAt Go.RowKit
theorem Tk:Tryz.prog.globalNamed "math/bits.deBruijn64tab"=some 4:=by kernel_rfl
theorem Tj:(Tryz.prog.globals[4]?).map (·.type)=some 456:=by kernel_rfl
theorem Tm:(Rows.laid_math_bits_deBruijn64tab:nG Unit)=Go.Lib.tabData .u8 (Go.Lib.deBruijn64tab.map λ(k:Nat)=>(k:Int)):=by kernel_rfl
theorem Ph:Tryz.prog.cellsOf 5=1:=by kernel_rfl
theorem Jy:Tryz.prog.cellsOf 456=64:=by kernel_rfl
theorem aaT{W:ak}{l:List (String×nG Unit)}(hL:laidMetH ah l W)(hS:W.ShapedOpen ah)(h1:("math/bits.deBruijn64tab",(Rows.laid_math_bits_deBruijn64tab:nG Unit))∈l.filter λx=>x.2.handleName?.isNone):Ts.eN W:=by have hm:=(laidMetH_iff.1 hL).1;obtain⟨z1,e1⟩:=zL (P:=ah) (g:=4) (t:=456) (by kernel_rfl);refine⟨pJ hS (of_decide_eq_true (by kernel_rfl)) e1,λj hj=>?_⟩;have r1:=A9 hm h1;rw[Tm]at r1;obtain⟨g,t,cs,fuel,p,hg,hty,hvar,hd⟩:=r1;obtain rfl:=aJ (Tk.symm.trans hg);obtain rfl:=aJ (Tj.symm.trans hty);have hcs:=Go.Lib.cells_of_tab Tryz.underlying456 ags Ph Jy hd;have:=ajW hg hvar j;rw[this,<-Array.getElem?_toList,hcs];simp[hj,List.getD]
end Go.Proofs.YtffjomnnkilhgaaGreatDoor.card
namespace Go.Proofs.Tl
open Go Go.RowKit Go.Proofs.Ts
def Wp(x:Int):ay:= .int .i64 x
def fV(w:ak)(v:ay)(L:List Int):Prop:=w.ownsRow 0 3 1 v L.length (L.map Wp)
theorem fV.cellAt{w:ak}{v:ay}{L:List Int}(h:fV w v L){i:Nat}(hi:i<L.length):∃g cap,v=sL g L.length cap/\w.cell? (aD g i)=some (iV (L.getD i 0))/\w.frozen? (aD g i)=false:=by
 rcases h.2 with⟨_,h0⟩|⟨g,cap,cur,rfl,_,hg,_⟩;·omega
 ·refine⟨g,cap,rfl,?_,aU hg⟩;have:=h.cells (g:=g) rfl i (Wp (L.getD i 0)) (by rw[bp,ar hi,aw,ar hi];rfl);rcases yj i with rfl|h0;·simpa[iU,Wp]using this
  ·simpa[iU,asu h0,Wp]using this
theorem fV.keep{w w':ak}{v:ay}{L:List Int}(h:fV w v L)(hb:∀k,v.ownBlock=some k->w'.heap[k]?=w.heap[k]?):fV w' v L:=aO h hb
theorem fV.below{w w':ak}{v:ay}{L:List Int}(h:fV w v L)(hb:aI w.heap.size w w'):fV w' v L:=aO h λk e=>hb.block k (h.lt k e).2
structure pE (e:dx) (size:Nat) (w0 W:ak) (v:ay) (n:Nat) (xs:List ay):Prop where
 below:aI w0.heap.size w0 W
 row:W.ownsRow 0 e size v n xs
 past:kp w0.heap.size v
 nil:n=0->v = .slice none 0 0
section
variable{e:dx}{size:Nat}{w0 W W':ak}{v v':ay}{n m:Nat}{xs ys:List ay}
theorem pE.start(e:dx)(size:Nat)(w:ak):pE e size w w (.slice none 0 0) 0 []:=⟨aB _ _,bS _ _ _ _,(λk h=>by cases h),λ_=>rfl⟩
theorem pE.kept(h:pE e size w0 W v n xs)(hb:aI W.heap.size W W'):pE e size w0 W' v n xs:=⟨h.below.trans (hb.mono h.below.size),aO h.row λk e=>hb.block k (h.row.lt k e).2,h.past,h.nil⟩
theorem pE.alloc(h:pE e size w0 W v n xs)(o:Obj):pE e size w0 (W.alloc o) v n xs:=h.kept ((aB _ W).alloc (au _) o)
theorem pE.same(h:pE e size w0 W v n xs)(hs:Same W W'):pE e size w0 W' v n xs:=h.kept (hs.below _)
theorem pE.moves(h:pE e size w0 W v n xs)(hm:bL W v W' v')(hr:W'.ownsRow 0 e size v' m ys)(h0:0<m):pE e size w0 W' v' m ys:=⟨hm.below h.past h.below h.below.size,hr,hm.past h.past h.below.size,λe=>by omega⟩
end
def Ec(n p e at':Int):Bool:=n==e&&p==if e=6 then at' else-1
theorem U4(n p e at':Int)(w:ak):aX ah 19 #[iV n,iV p,iV e,iV at'] w λx w'=>x= .returned (.bool (Ec n p e at'))/\Same w w':=by
 go_enter Tryz.func19,Tryz.ntmps19;by_cases h6:e=6;·
  have hh:(e==6)=true:=by simp[h6]
  by_cases hn:n=e;·
   have hn':(n==e)=true:=by simp[hn]
   go_wp2_with fail;go_ret;exact⟨gS (by simp[Ec,h6,hn]),Same.refl _⟩
  ·have hn':(n==e)=false:=by simp[hn]
   go_wp2_with fail;go_ret;exact⟨gS (by simp[Ec,hn]),Same.refl _⟩
 ·have hh:(e==6)=false:=by simp[h6]
  by_cases hn:n=e;·
   have hn':(n==e)=true:=by simp[hn]
   go_wp2_with fail;go_ret;exact⟨gS (by simp[Ec,h6,hn]),Same.refl _⟩
  ·have hn':(n==e)=false:=by simp[hn]
   go_wp2_with fail;go_ret;exact⟨gS (by simp[Ec,hn]),Same.refl _⟩
def qE(c:Int)(n:Nat):Nat:=((if c<0 then-(c+1)else c).toNat)%n
theorem wm(c:Int){n:Nat}(hn:0<n):qE c n<n:=Nat.mod_lt _ hn
theorem wk(c:Int)(n:Nat)(w:ak)(hc:-9223372036854775808<=c/\c<=9223372036854775807)(hn:0<n/\n<=1000000):aX ah 21 #[iV c,iV n] w λe w'=>e= .returned (iV (qE c n))/\w'=w:=by
 have hn0:((n:Int)==0)=false:=by rw[beq_eq_false_iff_ne];omega
 by_cases h:c<0;·
  have hp:Hid ((qE c n:Nat)=((-(c+1)).toNat)%n):=ae (by unfold qE;rw[if_pos h]);go_enter awx,ar0;go_wp2_with fail;go_ret;refine⟨IA ?_,rfl⟩;rw[hp];obtain⟨m,hm⟩:∃m:Nat,-(c+1)=(m:Int):=⟨(-(c+1)).toNat,by omega⟩;have hc1:c+1=-(m:Int):=by omega
  rw[hm,hc1,Int.neg_tmod,Int.neg_neg];simp;rw[yq (by omega)]
 ·have hp:Hid ((qE c n:Nat)=c.toNat%n):=ae (by unfold qE;rw[if_neg h]);go_enter awx,ar0;go_wp2_with fail;go_ret;refine⟨IA ?_,rfl⟩;rw[hp];obtain⟨m,rfl⟩:∃m:Nat,c=(m:Int):=⟨c.toNat,by omega⟩;rw[Int.toNat_natCast];first|(rw[yq (by omega)];omega)|simp
theorem Iw(L:List Int)(va vb:ay)(w:ak)(ha:fV w va L)(hb:fV w vb L)(hla:L.length<=1000000):aX ah 32 #[va,vb] w λe w'=>e= .returned (.bool true)/\Same w w':=by
 obtain⟨aa,ac,rfl⟩:=ownsRow_form ha;obtain⟨ba,bc,rfl⟩:=ownsRow_form hb;have HA:=ae ha;have HB:=ae hb;clear ha hb;go_enter Tryz.func32,Tryz.ntmps32;go_wp2_with fail;go_loopw[5](λiv wr=>∃i:Nat,i<=L.length/\iv= .int .i64 (i:Int)/\Hid (Same w wr))(λiv _=>L.length-(intOf iv).toNat);case atStart=>exact⟨0,aW _,rfl,ae (Same.refl _)⟩
 case round=>
  obtain⟨i,MS,rfl,HO⟩:=hrel;have q1:IntKind.i64.wrap ((i:Int)+1)=(i:Int)+1:=aK _ (by omega);by_cases hil:i<L.length;·
   obtain⟨ga,cpa,ea,O9,_⟩:=HA.cellAt hil;simp only[bA]at ea;obtain⟨rfl,_,rfl⟩:=ea;obtain⟨gb,cpb,eb,XH,_⟩:=HB.cellAt hil;simp only[bA]at eb;obtain⟨rfl,_,rfl⟩:=eb;have ca:=(HO.cell (aD ga i)).trans O9;have cb:=(HO.cell (aD gb i)).trans XH;have zi:(0:Int)<=(i:Int)/\(i:Int)<(L.length:Int):=by omega
   clear O9 XH;generalize L.getD i 0=Av at*;go_upto_region 6 with fail;go_quiet(fail);go_wp2_with fail;go_roundw;case rel=>exact⟨i+1,by omega,by go_num,ae (HO.trans (Same.drewN _ _))⟩
   case measure=>(simp[intOf])<;>omega
  ·obtain rfl:i=L.length:=by omega
   go_wp2_with fail;go_ret;exact⟨rfl,HO⟩
theorem ux(c:UInt8)(w:ak):aX ah 95 #[.int .u8 c.toNat] w λe w'=>e= .returned (.bool (iD c))/\Same w w':=by rw[CP];go_enter Tryz.func95,Tryz.ntmps95;go_wp2;all_goals go_ret;exact⟨gS (by simp[*]),Same.refl _⟩
theorem E0(c:UInt8)(W:ak):(convert 42 9 (sL W.heap.size 1 1)).run ah (W.alloc (.cells #[.int .u8 c.toNat] 5))= .ok (.string ⟨#[c]⟩) (W.alloc (.cells #[.int .u8 c.toNat] 5)):=by
 refine run_convert_bytes_back (P:=ah) _ 42 9 5 (aD W.heap.size 0) 1 [c] Tryz.underlying42 ags Tryz.underlying9 λj hj=>?_;have hj0:j=0:=by simp at hj;omega
 subst hj0;exact cell_one_new W _ _ 0 _ rfl
def uO(L:List (List UInt8)):List (List UInt8):=(L.map iq).filter λw=>decide (w.length<=16)
theorem J4(s:ByteArray):dc s=uO (fields s.data.toList []):=rfl
theorem EW(f:List UInt8)(L:List (List UInt8)):uO (f::L)=(if f.length<=16 then[iq f]else[])++uO L:=by
 unfold uO;rw[dM,List.filter_cons];have:(iq f).length=f.length:=by simp[iq]
 rw[this];by_cases h:f.length<=16<;>simp[h]
def Ei(cur:List UInt8):List (List UInt8):=if 0<cur.length/\cur.length<=16 then[iq cur]else[]
theorem LQ{s:ByteArray}{i:Nat}(h:i<s.size)(cur:List UInt8)(hb:iD s[i]=true):uO (fields (s.data.toList.drop i) cur)=Ei cur++uO (fields (s.data.toList.drop (i+1)) []):=by
 have hd:s.data.toList.drop i=s[i]::s.data.toList.drop (i+1):=by rw[zt (by simpa using h)];rfl
 rw[hd];conv=>lhs;unfold fields
 rw[if_pos hb];unfold Ei;by_cases hc:cur=[];·simp[hc]
 ·have:0<cur.length:=List.length_pos_iff.2 hc;rw[if_neg hc,EW];simp[this]
theorem Xw{s:ByteArray}{i:Nat}(h:i<s.size)(cur:List UInt8)(hb:iD s[i]=false):uO (fields (s.data.toList.drop i) cur)=uO (fields (s.data.toList.drop (i+1)) (cur++[s[i]])):=by
 have hd:s.data.toList.drop i=s[i]::s.data.toList.drop (i+1):=by rw[zt (by simpa using h)];rfl
 rw[hd];conv=>lhs;unfold fields
 rw[if_neg (by simp[hb])]
theorem SV(s:ByteArray)(cur:List UInt8):uO (fields (s.data.toList.drop s.size) cur)=Ei cur:=by
 have:s.data.toList.drop s.size=[]:=by simp
 rw[this];unfold fields Ei;by_cases hc:cur=[];·simp[hc,uO]
 ·have:0<cur.length:=List.length_pos_iff.2 hc;rw[if_neg hc,EW];simp[this,uO]
structure QI (s:ByteArray) (i:Nat) (out:List (List UInt8)) (cur:List UInt8):Prop where
 all:dc s=out++if i<=s.size then uO (fields (s.data.toList.drop i) cur) else []
 len:cur.length<=i
 out:out.length<=i
theorem QI.start(s:ByteArray):QI s 0 [] []:=⟨by simp[J4],au _,au _⟩
theorem QI.go{s:ByteArray}{i:Nat}{out:List (List UInt8)}{cur:List UInt8}(h:QI s i out cur)(hi:i<s.size)(hb:iD s[i]=false):QI s (i+1) out (cur++[s[i]]):=by refine⟨?_,by have:=h.len;simp;omega,by have:=h.out;omega⟩;rw[h.all,if_pos (by omega),if_pos (by omega),Xw hi cur hb]
theorem Zt(cur:List UInt8):(Ei cur).length<=1:=by unfold Ei;split<;>simp
theorem QI.stop{s:ByteArray}{i:Nat}{out:List (List UInt8)}{cur:List UInt8}(h:QI s i out cur)(hi:i<=s.size)(hb:∀hl:i<s.size,iD s[i]=true):QI s (i+1) (out++Ei cur) []:=by
 have h1:=Zt cur;refine⟨?_,by simp,by have:=h.out;simp;omega⟩;rw[h.all,if_pos hi];rcases fe i s.size with hl|hl;·rw[if_pos (by omega),LQ hl cur (hb hl),kP]
 ·obtain rfl:i=s.size:=by omega
  rw[if_neg (by omega),SV,gv]
theorem QI.done{s:ByteArray}{out:List (List UInt8)}{cur:List UInt8}(h:QI s (s.size+1) out cur):out=dc s:=by have:=h.all;rw[if_neg (by omega),gv]at this;exact this.symm
abbrev JJ(w0 W:ak)(v:ay)(out:List (List UInt8)):Prop:=pE 9 1 w0 W v out.length (out.map dC)
theorem Rh(s:ByteArray)(w:ak)(hs:s.size<=1000):aX ah 62 #[.string s] w λe w'=>∃ov,e= .returned ov/\JJ w w' ov (dc s):=by
 obtain⟨i0,hi,hz0,hz1,hz2⟩:=info_parts Tryz.Qh;have HW0:=ae (QI.start s);have HR0:=ae (pE.start 9 1 w);go_enter Tryz.func62,Tryz.ntmps62;go_wp2_with fail;go_loopw[3,4,5](λov cv iv wr=>∃(i:Nat)(out:List (List UInt8))(cur:List UInt8),i<=s.size+1/\iv= .int .i64 (i:Int)/\cv= .string ⟨(iq cur).toArray⟩/\cur.length<=i/\out.length<=i/\Hid (QI s i out cur)/\Hid (JJ w wr ov out))(λ_ _ iv _=>s.size+1-(intOf iv).toNat);case atStart=>exact⟨0,[],[],by omega,rfl,rfl,au _,au _,HW0,HR0⟩
 case round=>
  obtain⟨i,out,cur,his,rfl,rfl,hcl,hol,HW,HR⟩:=hrel;have hll:(iq cur).length=cur.length:=by simp[iq]
  have q1:IntKind.i64.wrap ((i:Int)+1)=(i:Int)+1:=aK _ (by omega);by_cases MR:i<=s.size;·
   by_cases hend:i=s.size;·
    have e1:((i:Int)==(s.size:Int))=true:=by simp[hend]
    by_cases hadd:0<cur.length/\cur.length<=16;·
     have e2:0<(iq cur).length:=by omega
     have e3:((iq cur).length:Int)<=(16:Int):=by omega
     have BW:=ae (HR.alloc (.cells #[.string ⟨(iq cur).toArray⟩] 9));have hrow:=BW.row;go_wp2_with(at_builtin;refine wpList_append_lies rfl _ _ 35 rfl 9 i0 (.string ⟨#[]⟩) 1 16 ie hi hz0 hz1 hz2 rfl (by decide) u3 out.length (out.map dC) rfl hrow (aD wr.heap.size 0) 1 1 [.string ⟨(iq cur).toArray⟩] rfl rfl (cell_one_new wr _ _) (by simp[dN]) (by decide) (by unfold maxLen;omega) (by omega) ?_;intro v4 W4 hrow4 cM dS;have PI:=ae (BW.moves (bL.append cM dS) hrow4 (by omega));clear hrow4 cM dS hrow);go_roundw;case rel=>
      refine⟨i+1,out++[iq cur],[],ig MR,by go_num,rfl,aW _,by simp;exact hol,ae ?_,ae ?_⟩;·have:=HW.stop (by omega) (λhl=>by omega);unfold Ei at this;rw[if_pos hadd]at this;exact this
      ·unfold JJ;rw[cQ,bh];exact PI
     case measure=>(simp[intOf])<;>omega
    ·have hk:Hid (QI s (i+1) out []):=ae (by have:=HW.stop (by omega) (λhl=>by omega);unfold Ei at this;rw[if_neg hadd,gv]at this;exact this);by_cases hc0:0<cur.length;·
      have e2:0<(iq cur).length:=by omega
      have e3:(16:Int)<((iq cur).length:Int):=by omega
      go_wp2_with fail;go_roundw;case rel=>exact⟨i+1,out,[],ig MR,by go_num,rfl,aW _,jH hol,hk,HR⟩
      case measure=>(simp[intOf])<;>omega
     ·have e2:¬0<(iq cur).length:=by omega
      go_wp2_with fail;go_roundw;case rel=>exact⟨i+1,out,[],ig MR,by go_num,rfl,aW _,jH hol,hk,HR⟩
      case measure=>(simp[intOf])<;>omega
   ·have hil:i<s.size:=by omega
    have e1:((i:Int)==(s.size:Int))=false:=by simp;omega
    cases hb:iD s[i]with
     |true=>
      go_upto_region 7 with(go_at_call 95;refine(ux s[i] _).mono ?_;rintro e w2⟨rfl,hs2⟩;rw[hb];have HR:=ae (HR.same hs2);clear hs2);by_cases hadd:0<cur.length/\cur.length<=16;·
       have e2:0<(iq cur).length:=by omega
       have e3:((iq cur).length:Int)<=(16:Int):=by omega
       have BW:=ae (HR.alloc (.cells #[.string ⟨(iq cur).toArray⟩] 9));have hrow:=BW.row;go_wp2_with(at_builtin;refine wpList_append_lies rfl _ _ 35 rfl 9 i0 (.string ⟨#[]⟩) 1 16 ie hi hz0 hz1 hz2 rfl (by decide) u3 out.length (out.map dC) rfl hrow (aD w2.heap.size 0) 1 1 [.string ⟨(iq cur).toArray⟩] rfl rfl (cell_one_new w2 _ _) (by simp[dN]) (by decide) (by unfold maxLen;omega) (by omega) ?_;intro v4 W4 hrow4 cM dS;have PI:=ae (BW.moves (bL.append cM dS) hrow4 (by omega));clear hrow4 cM dS hrow);go_roundw;case rel=>
        refine⟨i+1,out++[iq cur],[],ig MR,by go_num,rfl,aW _,by simp;exact hol,ae ?_,ae ?_⟩;·have:=HW.stop (by omega) (λ_=>hb);unfold Ei at this;rw[if_pos hadd]at this;exact this
        ·unfold JJ;rw[cQ,bh];exact PI
       case measure=>(simp[intOf])<;>omega
      ·have hk:Hid (QI s (i+1) out []):=ae (by have:=HW.stop (by omega) (λ_=>hb);unfold Ei at this;rw[if_neg hadd,gv]at this;exact this);by_cases hc0:0<cur.length;·
        have e2:0<(iq cur).length:=by omega
        have e3:(16:Int)<((iq cur).length:Int):=by omega
        go_wp2_with fail;go_roundw;case rel=>exact⟨i+1,out,[],ig MR,by go_num,rfl,aW _,jH hol,hk,HR⟩
        case measure=>(simp[intOf])<;>omega
       ·have e2:¬0<(iq cur).length:=by omega
        go_wp2_with fail;go_roundw;case rel=>exact⟨i+1,out,[],ig MR,by go_num,rfl,aW _,jH hol,hk,HR⟩
        case measure=>(simp[intOf])<;>omega|false=>
      have vh:=ae (HW.go hil hb);have hc256:s[i].toNat<256:=(s[i]).toNat_lt;have hl:=EC s[i];have PG:Hid ((iq cur++[uX s[i]]).toArray=(iq (cur++[s[i]])).toArray):=ae (by simp[iq]);have hgl:(iq cur).length+1<=2000:=by omega
      by_cases h1:65<=s[i].toNat;·
       by_cases h2:s[i].toNat<=90;·
        have hlo:((uX s[i]).toNat:Int)=(s[i].toNat:Int)+32:=by rw[hl,if_pos ⟨h1,h2⟩]
        clear hl;have hcv:∀W:ak,(convert 42 9 (sL W.heap.size 1 1)).run ah (W.alloc (.cells #[.int .u8 ((s[i].toNat:Int)+32)] 5))= .ok (.string ⟨#[uX s[i]]⟩) (W.alloc (.cells #[.int .u8 ((s[i].toNat:Int)+32)] 5)):=λW=>by have:=E0 (uX s[i]) W;rw[hlo]at this;exact this
        go_wp2_with(go_at_call 95;refine(ux s[i] _).mono ?_;rintro e w2⟨rfl,hs2⟩;rw[hb];have HR:=ae (HR.same hs2);clear hs2);go_roundw;case rel=>exact⟨i+1,out,cur++[s[i]],ig MR,by go_num,by rw[<-PG.out];rfl,by simp;exact hcl,jH hol,vh,ae (HR.alloc _)⟩
        case measure=>(simp[intOf])<;>omega
       ·have hlo:((uX s[i]).toNat:Int)=(s[i].toNat:Int):=by rw[hl,if_neg (by omega)]
        clear hl;have hcv:∀W:ak,(convert 42 9 (sL W.heap.size 1 1)).run ah (W.alloc (.cells #[.int .u8 (s[i].toNat:Int)] 5))= .ok (.string ⟨#[uX s[i]]⟩) (W.alloc (.cells #[.int .u8 (s[i].toNat:Int)] 5)):=λW=>by have:=E0 (uX s[i]) W;rw[hlo]at this;exact this
        go_wp2_with(go_at_call 95;refine(ux s[i] _).mono ?_;rintro e w2⟨rfl,hs2⟩;rw[hb];have HR:=ae (HR.same hs2);clear hs2);go_roundw;case rel=>exact⟨i+1,out,cur++[s[i]],ig MR,by go_num,by rw[<-PG.out];rfl,by simp;exact hcl,jH hol,vh,ae (HR.alloc _)⟩
        case measure=>(simp[intOf])<;>omega
      ·have hlo:((uX s[i]).toNat:Int)=(s[i].toNat:Int):=by rw[hl,if_neg (by omega)]
       clear hl;have hcv:∀W:ak,(convert 42 9 (sL W.heap.size 1 1)).run ah (W.alloc (.cells #[.int .u8 (s[i].toNat:Int)] 5))= .ok (.string ⟨#[uX s[i]]⟩) (W.alloc (.cells #[.int .u8 (s[i].toNat:Int)] 5)):=λW=>by have:=E0 (uX s[i]) W;rw[hlo]at this;exact this
       go_wp2_with(go_at_call 95;refine(ux s[i] _).mono ?_;rintro e w2⟨rfl,hs2⟩;rw[hb];have HR:=ae (HR.same hs2);clear hs2);go_roundw;case rel=>exact⟨i+1,out,cur++[s[i]],ig MR,by go_num,by rw[<-PG.out];rfl,by simp;exact hcl,jH hol,vh,ae (HR.alloc _)⟩
       case measure=>(simp[intOf])<;>omega
  ·obtain rfl:i=s.size+1:=by omega
   go_wp2_with fail;go_ret;exact⟨_,rfl,by rw[<-HW.done];exact HR⟩
structure jk (B:Nat) (w:ak) (mb n:Nat) (T:List (List UInt8)) (L:List UInt8->List Nat):Prop where
 le:B<=mb
 ex:∃ tv pv ps,w.heap[mb]?=some (.cells #[.int .i64 n,tv,pv] 90 (0,0)) /\
  w.ownsRow 0 9 1 tv T.length (T.map dC)/\kp B tv/\w.ownsRow 0 24 1 pv T.length ps/\kp B pv /\
  (∀ (i:Nat) v x,ps[i]?=some v->T[i]?=some x->w.ownsRow 0 3 1 v (L x).length ((L x).map cJ)/\kp B v) /\
  ∀ (i j:Nat) u v g,i≠j->ps[i]?=some u->ps[j]?=some v->u.ownBlock=some g->v.ownBlock≠some g
theorem jk.start{B:Nat}(w:ak)(hB:B<=w.heap.size)(n:Nat):jk B (w.alloc (.cells #[iV n,.slice none 0 0,.slice none 0 0] 90)) w.heap.size n [] (λ_=>[]):=⟨hB,_,_,[],heap_alloc_new _ _,bS _ _ _ _,(λk e=>by cases e),bS _ _ _ _,(λk e=>by cases e),(λi v x h=>by simp at h),λi j u v g _ h=>by simp at h⟩
theorem jk.kept{B:Nat}{w w':ak}{mb n:Nat}{T:List (List UInt8)}{L:List UInt8->List Nat}(h:jk B w mb n T L)(hk:∀k,B<=k->k<w.heap.size->w'.heap[k]?=w.heap[k]?):jk B w' mb n T L:=by obtain⟨tv,pv,ps,h1,h2,h3,h4,h5,h6,h7⟩:=h.ex;exact⟨h.le,tv,pv,ps,(hk _ h.le (lt_of_heap h1)).trans h1,aO h2 λk e=>hk k (h3 k e) (h2.lt k e).2,h3,aO h4 λk e=>hk k (h5 k e) (h4.lt k e).2,h5,(λi v x hv hx=>⟨aO (h6 i v x hv hx).1 λk e=>hk k ((h6 i v x hv hx).2 k e) ((h6 i v x hv hx).1.lt k e).2,(h6 i v x hv hx).2⟩),h7⟩
theorem jk.below{B:Nat}{w w':ak}{mb n:Nat}{T:List (List UInt8)}{L:List UInt8->List Nat}(h:jk B w mb n T L)(hb:aI w.heap.size w w'):jk B w' mb n T L:=h.kept λk _ hl=>hb.block k hl
theorem Cj{w:ak}{v:ay}{T:List (List UInt8)}(h:w.ownsRow 0 9 1 v T.length (T.map dC)){i:Nat}(hi:i<T.length):∃g cap,v=sL g T.length cap/\w.cell? (aD g i)=some (.string ⟨T[i].toArray⟩):=by obtain⟨g,cap,e,hc⟩:=dh h (j:=i) (u:=dC T[i]) (by rw[bp,ar hi];rfl);exact⟨g,cap,e,hc⟩
theorem Qe(a:List UInt8)(s:ByteArray):UL a s.toList=decide (a<s.data.toList):=by rw[Go.Proofs.bytesLess_eq,UU]
def uB(T:List (List UInt8))(s:List UInt8)(k:Nat):Prop:=k<=T.length/\(∀(j:Nat)(h:j<T.length),j<k->T[j]<s)/\∀h:k<T.length,¬T[k]<s
theorem RM(s:ByteArray)(B mb n:Nat)(T:List (List UInt8))(L:List UInt8->List Nat)(w:ak)(hx:jk B w mb n T L)(hT:T.length<=1000000):aX ah 96 #[aP mb,.string s] w λe w'=>∃k:Nat,e= .returned (.tuple #[iV k,.bool (decide (T[k]?=some s.data.toList))])/\uB T s.data.toList k/\Same w w':=by
 obtain⟨tv,pv,ps,h1,h2,h3,h4,h5,h6,h7⟩:=hx.ex;obtain⟨ta,tc,rfl⟩:=ownsRow_form h2;have c1:w.cell? (aD mb 1)=some (.slice ta T.length tc):=aq h1;have H2:=ae h2;clear h1 h2 h3 h4 h5 h6 h7 hx;unfold aP;go_enter Tryz.func96,Tryz.ntmps96;go_wp2_with fail;go_loopw[6](λiv wr=>∃i:Nat,i<=T.length/\iv= .int .i64 (i:Int)/\Hid (∀(j:Nat)(h:j<T.length),j<i->T[j]<s.data.toList)/\Hid (Same w wr))(λiv _=>T.length-(intOf iv).toNat);case atStart=>exact⟨0,aW _,rfl,ae (λj _ h=>by omega),ae (Same.refl _)⟩
 case round=>
  obtain⟨i,hiT,rfl,HP,HS⟩:=hrel;have q1:IntKind.i64.wrap ((i:Int)+1)=(i:Int)+1:=aK _ (by omega);have d1:wr.cell? (aD mb 1)=some (.slice ta T.length tc):=(HS.cell _).trans c1;by_cases hil:i<T.length;·
   obtain⟨ga,cpa,ea,O9⟩:=Cj H2 hil;simp only[bA]at ea;obtain⟨rfl,_,rfl⟩:=ea;have ca:=(HS.cell (aD ga i)).trans O9;have zi:(0:Int)<=(i:Int)/\(i:Int)<(T.length:Int):=by omega
   by_cases hlt:T[i]<s.data.toList;·
    have b1:UL T[i] s.toList=true:=by rw[Qe];simpa using hlt
    have Yd:Hid (∀(j:Nat)(h:j<T.length),j<i+1->T[j]<s.data.toList):=ae λj h hj=>by
     rcases fe j i with h'|h';·exact HP j h h'
     ·obtain rfl:j=i:=by omega
      exact hlt
    clear O9 hlt;go_wp2_with fail;exact⟨⟨i+1,by omega,by go_num,Yd,HS⟩,by simp[intOf];omega⟩
   ·have b1:UL T[i] s.toList=false:=by rw[Qe];simpa using hlt
    have Yd:Hid (uB T s.data.toList i):=ae ⟨by omega,HP,λ_=>hlt⟩;have b2:(T[i]==s.toList)=decide (T[i]?=some s.data.toList):=by rw[ar hil,UU,jf];simp
    have HB:=ae b2;clear O9 hlt b2;go_upto_region 4 with fail;go_quiet(fail);go_wp2_with fail;go_ret2;exact⟨i,by rw[<-HB];rfl,Yd,HS.trans (Same.drewN _ _)⟩
  ·obtain rfl:i=T.length:=by omega
   have Yd:Hid (uB T s.data.toList T.length):=ae ⟨au _,HP,λh=>by omega⟩;go_upto_region 4 with fail;go_quiet(fail);go_wp2_with fail;go_ret2;exact⟨T.length,by simp,Yd.out,HS.trans (Same.drewN _ _)⟩
section
variable{P:iX}{w:ak}
theorem rH(t ty e:dx)(i:uT)(ht:P.underlying t=some (.slice e))(hi:P.info? e=some i)(base:Option jK)(n cap:Nat)(hle:n<=cap)(a:Option jK)(c:Nat):(nL #[t,t] ty #[.slice base n cap,.slice a 0 c]).run P w= .ok (.slice base n cap) w:=by cases a<;>cases base<;>simp[nL,run_underlying ht,sizeOf,typeInfo,hi,aoY,ac4,loadCells,loadCellsFrom,storeCells,hle]
theorem Eh(t ty e:dx)(i:uT)(z:ay)(size bytes:Nat)(ht:P.underlying t=some (.slice e))(hi:P.info? e=some i)(hz:i.zero=some z)(hsize:i.size=size)(hby:i.bytes=bytes)(hzs:z.cells.size=size)(hsz:0<size)(v:ay)(n:Nat)(xs:List ay)(hown:w.ownsRow 0 e size v n xs)(a:Option jK)(m c:Nat)(news:List ay)(hl:news.length=m*size)(hnews:∀j u,news[j]?=some u->∃b,a=some b/\w.cell? (b.add j)=some u)(h1:∀u∈news,u.oneCell'=true)(h63:n+m<=maxLen)(hbytes:(n+m)*bytes<=140737488355328):∃v' w',(nL #[t,t] ty #[v,.slice a m c]).run P w= .ok v' w'/\w'.ownsRow 0 e size v' (n+m) (xs++news)/\bL w v w' v'/\(m=0->v'=v):=by cases m with
 |zero=>
  have hn:news=[]:=iZ (by simpa using hl);subst hn;rw[gv,Nat.add_zero];rcases hown.2 with⟨rfl,rfl⟩|⟨g,cap,cur,rfl,h2,h3,h4,h5⟩;·exact⟨_,_,rH t ty e i ht hi none 0 0 (au _) a c,hown,bL.refl _ _,λ_=>rfl⟩
  ·exact⟨_,_,rH t ty e i ht hi _ n cap h4 a c,hown,bL.refl _ _,λ_=>rfl⟩|succ m=>obtain⟨u,hu⟩:∃u,news[0]?=some u:=⟨_,ar (by rw[hl];exact awB (FM _) hsz)⟩;obtain⟨b,rfl,_⟩:=hnews 0 u hu;obtain⟨v',w',hr,h2,h3,h4⟩:=run_append_lies (P:=P) t ty e i z size bytes ht hi hz hsize hby hzs hsz v n xs hown b (m+1) c news hl (λj u hj=>by obtain⟨b',e',h'⟩:=hnews j u hj;cases e';exact h') h1 (FM _) h63 hbytes;exact⟨v',w',hr,h2,bL.append h3 h4,λe=>by cases e⟩
theorem fC{ops:Array gV}{rest:List gV}{o:gV}{act:Act}{Q:Exit->Act->ak->Prop}(hgd:o.guard=none)(s x:Operand)(t:dx)(ho:o.op= .call {callee:= .builtin .append,args:=#[s,x],argTypes:=#[t,t]})(e:dx)(i:uT)(z:ay)(size bytes:Nat)(ht:P.underlying t=some (.slice e))(hi:P.info? e=some i)(hz:i.zero=some z)(hsize:i.size=size)(hby:i.bytes=bytes)(hzs:z.cells.size=size)(hsz:0<size)(v:ay)(n:Nat)(xs:List ay)(hs:act.eval s=v)(hown:w.ownsRow 0 e size v n xs)(a:Option jK)(m c:Nat)(news:List ay)(hx:act.eval x= .slice a m c)(hl:news.length=m*size)(hnews:∀j u,news[j]?=some u->∃b,a=some b/\w.cell? (b.add j)=some u)(h1:∀u∈news,u.oneCell'=true)(h63:n+m<=maxLen)(hbytes:(n+m)*bytes<=140737488355328)(h:∀v' w',w'.ownsRow 0 e size v' (n+m) (xs++news)->bL w v w' v'->(m=0->v'=v)->wpList P ops Q rest (act.put o.dst v') w'):wpList P ops Q (o::rest) act w:=by refine wpList_plain hgd λK hK=>?_;obtain⟨v',w',hr,h2,h3,h4⟩:=Eh (P:=P) t o.type e i z size bytes ht hi hz hsize hby hzs hsz v n xs hown a m c news hl hnews h1 h63 hbytes;unfold Oper.wp execOp;simp only[ho,resolve,invoke,builtin,dZ,DT,eH,UO,dM,mg,hs,hx,hr];exact hK _ _ (h v' w' h2 h3 h4)
theorem wu{e size n m c:Nat}{a:Option jK}{xs:List ay}(h:w.ownsRow 0 e size (.slice a m c) n xs):n<=c:=by
 rcases h.2 with⟨h1,h0⟩|⟨g,cap,cur,h1,_,_,h4,_⟩;·omega
 ·cases h1;exact h4
theorem oJ{e size n m c:Nat}{a:Option jK}{xs:List ay}(h:w.ownsRow 0 e size (.slice a m c) n xs):a=none\/∃g,a=some (aD g 0):=by
 rcases h.2 with⟨h1,h0⟩|⟨g,cap,cur,h1,_⟩;·cases h1;exact .inl rfl
 ·cases h1;exact .inr ⟨g,rfl⟩
theorem rJ{e size n:Nat}{v:ay}{xs:List ay}(h:w.ownsRow 0 e size v n xs)(k:Nat)(a:Option jK)(ha:∀g,v.ownBlock=some g->xs.drop k≠[]->a=some (aD g k))(m:Nat):∀(j:Nat)u,((xs.drop k).take m)[j]?=some u->∃b,a=some b/\w.cell? (b.add j)=some u:=by
 intro j u hj;have hj':(xs.drop k)[j]?=some u:=by
  have hjm:j<m:=by have:=(List.getElem?_eq_some_iff.1 hj).1;simp at this;omega
  rw[vK hjm]at hj;exact hj
 have hne:xs.drop k≠[]:=by intro h0;rw[h0]at hj';cases hj'
 rcases h.2 with⟨rfl,h0⟩|⟨g,cap,cur,rfl,_⟩;·exfalso;have:=h.1;rw[h0,Nat.zero_mul]at this;exact hne (by rw[iZ this];simp)
 ·refine⟨_,ha g rfl hne,?_⟩;rw[ac0]at hj';have:=h.cells (g:=g) rfl (k+j) u hj';have e1:((aD g k):jK).add j=(aD g (k+j)):=by unfold iU;split<;>simp_all
  have e2:((aD g 0):jK).add (k+j)=(aD g (k+j)):=by unfold iU;split<;>simp_all
  rw[e1,<-e2];exact this
theorem EZ {e n c:Nat} {a:Option jK} {xs:List ay} (h:w.ownsRow 0 e 1 (.slice a n c) n xs) (k:Nat) :
  ∀ (j:Nat) u,(xs.drop k)[j]?=some u -> ∃ b,(if c=k then a else M4 (fun x=>x.add k) a)=some b/\w.cell? (b.add j)=some u:=by
 intro j u hj
 have hcap:=wu h
 have:=rJ h k (if c=k then a else M4 (fun x=>x.add k) a) (fun g e hne=>by
  have hk:k < xs.length:=by
   rcases fe k xs.length with h1 | h1
   ·exact h1
   ·exact absurd (List.drop_of_length_le h1) hne
  have hl:=h.1
  rw [if_neg (by omega)]
  rcases oJ h with rfl | ⟨g',rfl⟩
  ·cases e
  ·cases e
   simp only [Option.map_some]
   congr 1
   unfold iU
   split <;> simp_all) ((xs.drop k).length) j u
 rw [dH] at this
 exact this hj
theorem Nn{e n c:Nat}{a:Option jK}{xs:List ay}(h:w.ownsRow 0 e 1 (.slice a n c) n xs)(k:Nat):∀(j:Nat)u,(xs.take k)[j]?=some u->∃b,a=some b/\w.cell? (b.add j)=some u:=by have:=rJ h 0 a (λg e _=>by rcases oJ h with rfl|⟨g',rfl⟩<;>simp_all[gN]) k;rw[Ia]at this;exact this
end
theorem Iy{w:ak}{B e n k:Nat}{v:ay}{xs:List ay}(h:w.ownsRow B e 1 v n xs){g:Nat}(hg:v.ownBlock=some g)(u:ay):(w.setCell (aD g k) u).ownsRow B e 1 v n (xs.set k u):=by
 rcases h.2 with⟨rfl,_⟩|⟨g',cap,cur,rfl,h2,h3,h4,h5,h6,h7⟩;·cases hg
 ·cases hg;refine⟨by rw[bW];exact h.1,.inr ⟨g',cap,_,rfl,h2,heap_setCell_same w g' k _ _ u h3,h4,h5,by simpa using h6,?_⟩⟩;rw[Array.toList_setIfInBounds,List.take_set,h7]
theorem U6{T:List (List UInt8)}:∀u∈T.map dC,u.oneCell'=true:=λu hu=>by obtain⟨t,_,rfl⟩:=List.mem_map.1 hu;rfl
theorem slice_form{w:ak}{B e size n:Nat}{v:ay}{xs:List ay}(h:w.ownsRow B e size v n xs):∃a m cap,v= .slice a m cap:=by obtain⟨a,cap,e⟩:=ownsRow_form h;exact⟨a,n,cap,e⟩
theorem Vj{W:ak}{v:ay}{T:List (List UInt8)}{x:List UInt8}{k:Nat}(hk:k<=T.length)(h:W.ownsRow 0 9 1 v (k+1+(T.length-k)) (((T.map dC).take k++[dC x])++(T.map dC).drop k)):W.ownsRow 0 9 1 v (T.take k++x::T.drop k).length ((T.take k++x::T.drop k).map dC):=by
 have e1:(T.take k++x::T.drop k).length=k+1+(T.length-k):=by simp;omega
 have e2:(T.take k++x::T.drop k).map dC=((T.map dC).take k++[dC x])++(T.map dC).drop k:=by simp
 rw[e1,e2];exact h
theorem Mod.of_below{S:Nat->Prop}{w w':ak}(h:aI w.heap.size w w'):Mod S w w':=⟨h.os,h.tape,h.output,h.size,λk hk _=>h.block k hk⟩
theorem I3{α:Type}(l:List α)(a:α)(k i:Nat)(hk:k<=l.length):(l.take k++a::l.drop k)[i]?=if i<k then l[i]? else if i=k then some a else l[i-1]?:=by
 rcases fe i k with h|h;·rw[if_pos h,List.getElem?_append_left (by rw[iu];omega),vK h]
 ·rw[if_neg (by omega),List.getElem?_append_right (by rw[iu];omega)];have hl:(l.take k).length=k:=by rw[iu];omega
  rw[hl];rcases acX h with h1|h1;·subst h1;simp
  ·rw[if_neg (by omega)];obtain⟨m,hm⟩:∃m,i-k=m+1:=⟨i-k-1,by omega⟩;rw[hm,List.getElem?_cons_succ,ac0];congr 1;omega
theorem RL{T:List (List UInt8)}{x:List UInt8}{k:Nat}(hT:T.Pairwise (λa b=>a<b))(h:uB T x k)(hn:¬T[k]?=some x):x∉T:=by
 intro hx;obtain⟨i,hi,he⟩:=sQ hx;rcases fe i k with h1|h1;·have:=h.2.1 i hi h1;rw[he]at this;exact absurd this (M5 x)
 ·have hk:k<T.length:=by omega
  rcases acX h1 with h2|h2;·subst h2;exact hn (by rw[ar hi,he])
  ·have:=List.pairwise_iff_getElem.1 hT k i hk hi h2;rw[he]at this;exact h.2.2 hk this
theorem adl(a b:List UInt8):a<b\/a=b\/b<a:=by
 by_cases h1:a<b;·exact .inl h1
 ·by_cases h2:b<a;·exact .inr (.inr h2)
  ·exact .inr (.inl (List.le_antisymm (List.not_lt.1 h2) (List.not_lt.1 h1)))
theorem Lp{T:List (List UInt8)}{x:List UInt8}{k:Nat}(hT:T.Pairwise (λa b=>a<b))(h:uB T x k)(hn:¬T[k]?=some x):(T.take k++x::T.drop k).Pairwise (λa b=>a<b):=by
 rw[Zc,List.pairwise_cons];have hsp:=hT;rw[<-FP k T,Zc]at hsp;have hlo:∀a∈T.take k,a<x:=λa ha=>by obtain⟨i,hi,he⟩:=sQ ha;rw[iu]at hi;rw[List.getElem_take]at he;rw[<-he];exact h.2.1 i (by omega) (by omega)
 have hhi:∀b∈T.drop k,x<b:=λb hb=>by
  obtain⟨i,hi,he⟩:=sQ hb;rw[List.length_drop]at hi;rw[List.getElem_drop]at he;have hk:k<T.length:=by omega
  have h1:x<T[k]:=by
   rcases adl x T[k]with h1|h1|h1;·exact h1
   ·exact absurd (by rw[ar hk,<-h1]) hn
   ·exact absurd h1 (h.2.2 hk)
  rcases yj i with h0|h0;·subst h0;rw[<-he];exact h1
  ·have:=List.pairwise_iff_getElem.1 hT k (k+i) hk (by omega) (by omega);rw[<-he];exact List.lt_trans h1 this
 exact⟨hsp.1,⟨λb hb=>hhi b hb,hsp.2.1⟩,λa ha b hb=>by
 rcases List.mem_cons.1 hb with rfl|hb;·exact hlo a ha
 ·exact hsp.2.2 a ha b hb⟩
def kJ(w w':ak):Prop:=∀(k:Nat)cs t r,w.heap[k]?=some (.cells cs t r)->t≠90->t≠24->t≠3->w'.heap[k]?=w.heap[k]?
theorem kJ.trans{a b c:ak}(h:kJ a b)(k:kJ b c):kJ a c:=λj cs t r h1 h2 h3 h4=>(k j cs t r ((h j cs t r h1 h2 h3 h4).trans h1) h2 h3 h4).trans (h j cs t r h1 h2 h3 h4)
theorem kJ.below{w w':ak}(h:aI w.heap.size w w'):kJ w w':=λk cs t r hk _ _ _=>h.block k (lt_of_heap hk)
theorem kJ.mod{w w':ak}{mb:Nat}{cs:Array ay}(hm:w.heap[mb]?=some (.cells cs 90 (0,0)))(h:Mod (λj=>j=mb) w w'):kJ w w':=λk cs t r hk h1 _ _=>h.block k (lt_of_heap hk) λe=>by subst e;rw[hm]at hk;cases hk;exact h1 rfl
theorem kJ.row{w w':ak}{B e size n:Nat}{v:ay}{xs:List ay}(h:kJ w w')(hr:w.ownsRow B e size v n xs)(h1:e≠90)(h2:e≠24)(h3:e≠3):w'.ownsRow B e size v n xs:=bT hr λk cs r hk=>h k cs e r hk h1 h2 h3
def Fi(l:List Nat)(d:Nat):List Nat:=if l.getLast?=some d then l else l++[d]
theorem aaX(x:List UInt8)(d B mb n:Nat)(T:List (List UInt8))(L:List UInt8->List Nat)(w:ak)(hx:jk B w mb n T L)(hB:B<=w.heap.size)(hT:T.length<=10000)(hL:(L x).length<=1000)(hd:d<=1000)(hn:x∉T->L x=[])(Gg:T.Pairwise (λa b=>a<b)):aX ah 63 #[aP mb,dC x,iV d] w λe w'=>e= .returned (.tuple #[])/\aI B w w'/\kJ w w'/\∃k,uB T x k/\jk B w' mb n (if T[k]?=some x then T else T.take k++x::T.drop k) (λy=>if y=x then Fi (L x) d else L y):=by
 obtain⟨i0,hi,hz0,hz1,hz2⟩:=info_parts Tryz.Qh;obtain⟨i1,hi1,hy0,hy1,hy2⟩:=info_parts Tryz.Wn;obtain⟨i2,hi2,hw0,hx1,hx2⟩:=info_parts Tryz.info3;have WM:=λW(h:jk B W mb n T L)=>RM ⟨x.toArray⟩ B mb n T L W h (by omega);have HX:=ae hx;have hx0:=hx.le;have Yx:=ae Gg;clear Gg;unfold aP dC at*;go_enter Tryz.func63,Tryz.ntmps63;go_upto_region 1 with(go_at_call 96;refine(WM w hx).mono ?_;rintro e w1⟨k,rfl,hk,hs1⟩);clear WM;obtain⟨th,hth⟩:∃th,th=decide (T[k]?=some x):=⟨_,rfl⟩;have ahd:decide (T[k]?=some (ByteArray.data ⟨x.toArray⟩).toList)=th:=by rw[hth]
 rw[ahd];have HX1:=ae (hx.below (hs1.below _));have tN:∃cs,w1.heap[mb]?=some (.cells cs 90 (0,0)):=by obtain⟨tv,pv,ps,a1,_⟩:=HX1.out.ex;exact⟨_,a1⟩
 obtain⟨mcs,tN⟩:=tN;have YX:=ae tN;clear tN;have hkT:=hk.1;have HK:=ae hk;have HTH:=ae hth;have kL:=ae hs1;clear hx hk ahd HX hs1 hth;rename_i K1 Jg;go_cut[18]from 17 to 61(λt wy=>t= .bool (!th)/\wy=w1);case first=>go_wp2_with fail;go_meet;exact⟨rfl,rfl⟩
 case rest=>
  obtain⟨rfl,rfl⟩:=hcut;refine Jg _ _ ?_;clear Jg;go_cut[]from 19 to 61(λwy=>Hid (Mod (λj=>j=mb) wc wy)/\Hid (jk B wy mb n (if T[k]?=some x then T else T.take k++x::T.drop k) L));case first=>cases th with
   |true=>
    have hin:T[k]?=some x:=by simpa using HTH.out.symm
    go_wp2_with fail;go_meet;exact⟨ae (Mod.refl _ _),by rw[if_pos hin];exact HX1⟩|false=>
    have hin:¬T[k]?=some x:=by simpa using HTH.out.symm
    obtain⟨tv,pv,ps,a1,a2,a3,a4,a5,a6,a7⟩:=HX1.out.ex;obtain⟨ta,tc,rfl⟩:=ownsRow_form a2;obtain⟨pa,pc,rfl⟩:=ownsRow_form a4;have c1:wc.cell? (aD mb 1)=some (.slice ta T.length tc):=aq a1;have xB:=lt_of_heap a1;have A1:=ae a1;have A2:=ae a2;have A3:=ae a3;have A4:=ae a4;have A5:=ae a5;have A6:=ae a6;have A7:=ae a7;have Uk:=ae hin;have hz:(0:Int)<=(k:Int)/\(k:Int)<=(T.length:Int):=by omega
    have hnil:wc.ownsRow 0 9 1 (.slice none 0 0) 0 []:=bS _ _ _ _;have htk:((T.map dC).take k).length=k*1:=by simp;omega
    have aio:(k:Int)<=(tc:Int)/\(T.length:Int)<=(tc:Int):=by have:=wu A2.out;omega
    have hpc:=rJ A2.out 0 ta (λg e _=>by rcases oJ A2.out with rfl|⟨g',rfl⟩<;>simp_all[gN]) k;rw[Ia]at hpc;have hone:∀u∈(T.map dC).take k,u.oneCell'=true:=λu hu=>by obtain⟨t,_,rfl⟩:=List.mem_map.1 (Zd hu);rfl
    have HPC:=ae hpc;have cD:=ae hone;clear a1 a2 a3 a4 a5 a6 a7 hin hpc hone HX1;go_upto_region 3 with(at_builtin;refine fC rfl _ _ 35 rfl 9 i0 (.string ⟨#[]⟩) 1 16 ie hi hz0 hz1 hz2 rfl (by decide) (.slice none 0 0) 0 [] rfl hnil ta k tc ((T.map dC).take k) rfl htk HPC.out cD.out (by unfold maxLen;omega) (by omega) ?_;intro v1 W1 oX LA _;rw[gW,eZ]at oX;have BW:=ae oX;have YX:=ae LA;clear oX LA);have Wy:[dC x].length=1*1:=rfl;go_upto_region 4 with(at_builtin;refine fC rfl _ _ 35 rfl 9 i0 (.string ⟨#[]⟩) 1 16 ie hi hz0 hz1 hz2 rfl (by decide) v1 k ((T.map dC).take k) rfl (BW.out.alloc _) (some (aD W1.heap.size 0)) 1 1 [dC x] rfl rfl (λj u hj=>⟨_,rfl,cell_one_new W1 _ _ j u hj⟩) (λu hu=>by rw[List.mem_singleton.1 hu];rfl) (by unfold maxLen;omega) (by omega) ?_;intro v2 W2 hrow2 Lx _;have tI:=ae hrow2;have MD:=ae (YX.out.trans ((bL.alloc W1 v1 _).trans Lx));clear hrow2 Lx BW YX);have hb2:=MD.out.below (λk e=>by cases e) (aB _ _) (au _);have c2:=(hb2.cell (p:=(aD mb 1)) xB).trans c1;have kN:=ae hb2;clear c1 hb2 Wy;have Fz:((T.map dC).drop k).length=(T.length-k)*1:=by simp
    have YO:=EZ (aO A2.out λj e=>kN.out.block j (A2.out.lt j e).2) k;obtain⟨ad,hde⟩:∃ad,(if tc=k then ta else M4 (λx=>x.add k) ta)=ad:=⟨_,rfl⟩;rw[hde]at YO;have HDC:=ae YO;clear YO;have hfz:W2.frozen? (aD mb 1)=false:=aU ((kN.out.block mb xB).trans A1.out);go_upto_region 5 with(at_builtin;refine fC rfl _ _ 35 rfl 9 i0 (.string ⟨#[]⟩) 1 16 ie hi hz0 hz1 hz2 rfl (by decide) v2 (k+1) ((T.map dC).take k++[dC x]) rfl tI.out _ (T.length-k) (tc-k) ((T.map dC).drop k) rfl Fz HDC.out (λu hu=>U6 u (Ze hu)) (by unfold maxLen;omega) (by omega) ?_;intro v3 W3 hrow3 abW _;have M0:=ae (MD.out.trans abW);have hb3:aI wc.heap.size wc W3:=M0.out.below (λk e=>by cases e) (aB _ _) (au _);have amI:W3.frozen? (aD mb 1)=false:=aU ((hb3.block mb xB).trans A1.out);have d3:W3.cell? (aD mb 1)=some (.slice ta T.length tc):=aq ((hb3.block mb xB).trans A1.out);have Ui:=ae (Vj hkT hrow3);obtain⟨a3,n3,c3,rfl⟩:=slice_form hrow3;have Dq:=ae hb3;clear hrow3 abW MD tI HDC hb3);clear hfz amI d3 Fz c2 htk hde;obtain⟨T',hT'⟩:∃T',T'=T.take k++x::T.drop k:=⟨_,rfl⟩;have JV:T'.length=T.length+1:=by rw[hT'];simp;omega
    rw[<-hT']at Ui;obtain⟨nv,hnv⟩:∃nv,nv=cY a3 n3 c3:=⟨_,rfl⟩;rw[<-hnv]at M0 Ui⊢;have h4m:=heap_setCell_same W3 mb 1 _ _ nv ((Dq.out.block mb xB).trans A1.out);have aaf:Mod (λj=>j=mb) wc (W3.setCell (aD mb 1) nv):=(Mod.of_below Dq.out).trans (Mod.setCell _ (aD mb 1) nv λ_=>rfl);have alN:=aaf.size;have hR4:(W3.setCell (aD mb 1) nv).ownsRow 0 9 1 nv T'.length (T'.map dC):=aO Ui.out λj e=>az _ _ _ _ (λe'=>by have:=M0.out.past (B:=wc.heap.size) (λk e=>by cases e) (au _) j e;simp only at e';omega);have hP4:=M0.out.past (λk e=>by cases e) (au _);simp only[abv,mf,cI,gX]at h4m;generalize W3.setCell (aD mb 1) nv=W4 at*;have hA4:W4.ownsRow 0 24 1 (.slice pa T.length pc) T.length ps:=aO A4.out λj e=>aaf.block j (A4.out.lt j e).2 λe'=>by subst e';have hg:=ct A4.out e;obtain⟨cur,hg⟩:=hg;rw[A1.out]at hg;cases hg
    have aob:=ae aaf;have PI:=ae hR4;have PK:=ae hP4;have HA4:=ae hA4;have d2:W4.cell? (aD mb 2)=some (.slice pa T.length pc):=aq h4m;have H4M:=ae h4m;have aqe:(k:Int)<=(pc:Int)/\(T.length:Int)<=(pc:Int):=by have:=wu A4.out;omega
    have hone:∀u∈ps,u.oneCell'=true:=λu hu=>by
     obtain⟨i,hi,he⟩:=sQ hu;have hpl:ps.length=T.length:=by have:=A4.out.1;omega
     obtain⟨h1,_⟩:=A6.out i u T[i] (by rw[ar hi,he]) (ar (by omega));obtain⟨a,c,rfl⟩:=ownsRow_form h1;rfl
    have hpl:ps.length=T.length:=by have:=A4.out.1;omega
    have cD:=ae hone;have hlk:(ps.take k).length=k*1:=by simp;omega
    have ami:(ps.drop k).length=(T.length-k)*1:=by simp[hpl]
    have aht:W4.ownsRow 0 24 1 (.slice none 0 0) 0 []:=bS _ _ _ _;have HPC:=ae (Nn HA4.out k);clear aaf hR4 hP4 hA4 h4m hone Dq M0 Ui hnil kN aio;go_upto_region 6 with(at_builtin;refine fC rfl _ _ 88 rfl 24 i1 (.slice none 0 0) 1 24 rV hi1 hy0 hy1 hy2 rfl (by decide) (.slice none 0 0) 0 [] rfl aht pa k pc (ps.take k) rfl hlk HPC.out (λu hu=>cD.out u (Zd hu)) (by unfold maxLen;omega) (by omega) ?_;intro v5 W5 lN abV _;rw[gW,eZ]at lN;have YV:=ae lN;have HM5:=ae abV;clear lN abV);go_upto_region 7 with(at_builtin;refine fC rfl _ _ 88 rfl 24 i1 (.slice none 0 0) 1 24 rV hi1 hy0 hy1 hy2 rfl (by decide) v5 k (ps.take k) rfl (YV.out.alloc _) (some (aD W5.heap.size 0)) 1 1 [.slice none 0 0] rfl rfl (λj u hj=>⟨_,rfl,cell_one_new W5 _ _ j u hj⟩) (λu hu=>by rw[List.mem_singleton.1 hu];rfl) (by unfold maxLen;omega) (by omega) ?_;intro v6 W6 xV abU _;have HR6:=ae xV;have YW:=ae (HM5.out.trans ((bL.alloc W5 v5 _).trans abU));clear xV abU YV HM5);have oY:=YW.out.below (λk e=>by cases e) (aB _ _) (au _);have Qo:=lt_of_heap H4M.out;have c2:=(oY.cell (p:=(aD mb 2)) Qo).trans d2;have YO:=EZ (aO HA4.out λj e=>oY.block j (HA4.out.lt j e).2) k;obtain⟨ad,hde⟩:∃ad,(if pc=k then pa else M4 (λx=>x.add k) pa)=ad:=⟨_,rfl⟩;rw[hde]at YO;have HDC:=ae YO;clear YO d2;go_upto_region 8 with(at_builtin;refine fC rfl _ _ 88 rfl 24 i1 (.slice none 0 0) 1 24 rV hi1 hy0 hy1 hy2 rfl (by decide) v6 (k+1) (ps.take k++[.slice none 0 0]) rfl HR6.out _ (T.length-k) (pc-k) (ps.drop k) rfl ami HDC.out (λu hu=>cD.out u (Ze hu)) (by unfold maxLen;omega) (by omega) ?_;intro v7 W7 mQ abT _;have HM7:=ae (YW.out.trans abT);have lC:aI W4.heap.size W4 W7:=HM7.out.below (λk e=>by cases e) (aB _ _) (au _);have auq:W7.frozen? (aD mb 2)=false:=aU ((lC.block mb Qo).trans H4M.out);have d7:W7.cell? (aD mb 2)=some (.slice pa T.length pc):=aq ((lC.block mb Qo).trans H4M.out);have HR7:=ae mQ;obtain⟨a7,n7,c7,rfl⟩:=slice_form mQ;have HB7:=ae lC;clear mQ abT YW HR6 HDC lC);go_meet;obtain⟨qv,hqv⟩:∃qv,qv=cY a7 n7 c7:=⟨_,rfl⟩;rw[<-hqv]at HM7 HR7⊢;have h8m:=heap_setCell_same W7 mb 2 _ _ qv ((HB7.out.block mb Qo).trans H4M.out);simp only[abv,mf,cI,gX]at h8m;have ahB:=aob.out.trans ((Mod.of_below HB7.out).trans (Mod.setCell _ (aD mb 2) qv λ_=>rfl));have hP7:=HM7.out.past (λk e=>by cases e) (au _);have hBw:B<=wc.heap.size:=aZ hB (kL.out.below 0).size;have ame:B<=mb:=hx0;have iO:∀{e size m:Nat}{v:ay}{xs:List ay},e≠90->wc.ownsRow 0 e size v m xs->(W7.setCell (aD mb 2) qv).ownsRow 0 e size v m xs:=λhe hr=>aO hr λj ej=>ahB.block j (hr.lt j ej).2 λe'=>by subst e';obtain⟨cur,hg⟩:=ct hr ej;rw[A1.out]at hg;cases hg;exact he rfl
    refine⟨ae ahB,ae ?_⟩;rw[if_neg Uk.out,<-hT'];refine⟨ame,nv,qv,ps.take k++ .slice none 0 0::ps.drop k,h8m,?_,λj e=>aZ hBw (PK.out j e),?_,λj e=>aZ (aZ hBw alN) (hP7 j e),?_,?_⟩;·refine aO PI.out λj e=>(az _ _ _ _ λe'=>?_).trans (HB7.out.block j (PI.out.lt j e).2);have:=PK.out j e;simp only at e';omega
    ·have e1:T'.length=k+1+(T.length-k):=by omega
     rw[e1];have:=HR7.out;rw[kP]at this;refine aO this λj e=>az _ _ _ _ λe'=>?_;have:=hP7 j e;simp only at e';omega
    ·intro i v y hv hy;rw[I3 _ _ _ _ (by omega)]at hv;rw[hT',I3 _ _ _ _ hkT]at hy;split at hv;·rename_i h1;rw[if_pos h1]at hy;exact⟨iO (by decide) (A6.out i v y hv hy).1,(A6.out i v y hv hy).2⟩
     ·rename_i h1;rw[if_neg h1]at hy;split at hv;·rename_i h2;rw[if_pos h2]at hy;cases hv;cases hy;rw[hn (RL Yx.out HK.out Uk.out)];exact⟨bS _ _ _ _,λj e=>by cases e⟩
      ·rename_i h2;rw[if_neg h2]at hy;exact⟨iO (by decide) (A6.out (i-1) v y hv hy).1,(A6.out (i-1) v y hv hy).2⟩
    ·intro i j u v g hij hu hv;rw[I3 _ _ _ _ (by omega)]at hu hv;split at hu;·
      split at hv;·exact A7.out i j u v g hij hu hv
      ·split at hv;·cases hv;intro _ h;cases h
       ·exact A7.out i (j-1) u v g (by omega) hu hv
     ·split at hu;·cases hu;intro h;cases h
      ·split at hv;·exact A7.out (i-1) j u v g (by omega) hu hv
       ·split at hv;·cases hv;intro _ h;cases h
        ·exact A7.out (i-1) (j-1) u v g (by omega) hu hv
  case rest=>
   obtain⟨HB,MW⟩:=hcut;clear hkT;obtain⟨T2,hT2⟩:∃T2,T2=if T[k]?=some x then T else T.take k++x::T.drop k:=⟨_,rfl⟩;have hxk:T2[k]?=some x:=by
    rw[hT2];split;·assumption
    ·rw[I3 _ _ _ _ HK.out.1,if_neg (by omega),if_pos rfl]
   have auL:T2.length<=10001:=by
    rw[hT2];split;·omega
    ·simp;omega
   rw[<-hT2]at MW;have hnd:∀(i j:Nat)y,T2[i]?=some y->T2[j]?=some y->i=j:=by
    have hp:T2.Pairwise (λa b=>a<b):=by
     rw[hT2];split;·exact Yx.out
     ·rename_i hne;exact Lp Yx.out HK.out hne
    intro i j y hi hj;obtain⟨h1,e1⟩:=List.getElem?_eq_some_iff.1 hi;obtain⟨h2,e2⟩:=List.getElem?_eq_some_iff.1 hj;rcases Nat.lt_trichotomy i j with h|h|h;·have:=List.pairwise_iff_getElem.1 hp i j h1 h2 h;rw[e1,e2]at this;exact absurd this (M5 y)
    ·exact h
    ·have:=List.pairwise_iff_getElem.1 hp j i h2 h1 h;rw[e1,e2]at this;exact absurd this (M5 y)
   have afk:=ae hnd;clear hnd;have HT2:=ae hT2;clear hT2 HTH HX1;obtain⟨tv,pv,ps,b1,b2,b3,b4,b5,b6,b7⟩:=MW.out.ex;have hkl:k<T2.length:=(List.getElem?_eq_some_iff.1 hxk).1;have atO:ps.length=T2.length:=by have:=b4.1;omega
   obtain⟨v,hv⟩:∃v,ps[k]?=some v:=⟨_,ar (by omega)⟩;obtain⟨gp,pc,rfl,hcv⟩:=dh b4 hv;obtain⟨hrow,mZ⟩:=b6 k v x hv hxk;have d1:wc.cell? (aD mb 2)=some (sL gp T2.length pc):=aq b1;obtain⟨va,vc,rfl⟩:=ownsRow_form hrow;have z1:(0:Int)<=(k:Int)/\(k:Int)<(T2.length:Int):=by omega
   have B1:=ae b1;have B2:=ae b2;have B3:=ae b3;have B4:=ae b4;have B5:=ae b5;have B6:=ae b6;have B7:=ae b7;have HV:=ae hv;have vp:=ae hrow;have QS:=ae mZ;have HXK:=ae hxk;clear b1 b2 b3 b4 b5 b6 b7 hv hrow mZ hxk;obtain⟨l,hl⟩:∃l,l=L x:=⟨_,rfl⟩;rw[<-hl]at hL vp hcv QS HV;have HLL:=ae hl;clear hl;go_upto_region 9 with fail;obtain⟨q,hq⟩:∃q,q=decide (¬l.getLast?=some d):=⟨_,rfl⟩;have HQ:=ae hq;clear hq;obtain⟨m,hm⟩:∃m,m=l.length:=⟨_,rfl⟩;rw[<-hm]at hL vp hcv QS HV⊢;have HML:=ae hm;clear hm;rename_i K1 Jg;go_cut[86]from 70 to 102(λt wy=>t= .bool q/\wy=wc);case first=>
    rcases zr l with h0|⟨l2,j,h0⟩;·
     have hlen:m=0:=by rw[HML.out,h0];rfl
     have hqt:q=true:=by rw[HQ.out,h0];simp
     subst hlen;subst hqt;clear hcv;go_wp2_with fail;go_meet;exact⟨rfl,rfl⟩
    ·rw[YF]at h0;have hlen:m=l2.length+1:=by rw[HML.out,h0];simp
     subst hlen;have hrow:=vp.out;obtain⟨gl,cl,hg⟩:=bX hrow;cases hg;have hcl:wc.cell? (aD gl l2.length)=some (iV j):=by rw[hrow.cellAt _ (by omega),h0];simp[cJ]
     have q0:(((l2.length:Int)+1)==0)=false:=by rw[beq_eq_false_iff_ne];omega
     have q1:IntKind.i64.wrap (l2.length:Int)=(l2.length:Int):=aK _ (by omega);have q2:(0:Int)<=(l2.length:Int)/\(l2.length:Int)<(l2.length:Int)+1:=by omega
     have hqv:q=!(j==d):=by rw[HQ.out,h0,jf];simp
     have q3:((j:Int)!=(d:Int))=q:=by rw[hqv,jf];simp;omega
     clear hrow vp h0 hqv;go_wp2_with fail;go_meet;exact⟨rfl,rfl⟩
   case rest=>obtain⟨rfl,rfl⟩:=hcut;refine Jg _ _ ?_;clear Jg;have Ul:Hid (aI B w wc):=ae (((kL.out.below B)).trans (HB.out.toBelow (aZ hB (kL.out.below 0).size) λj e=>by rw[e];exact hx0));have HKW:Hid (kJ w wc):=ae ((kJ.below (kL.out.below _)).trans (kJ.mod YX.out HB.out));clear HB kL YX;cases q with
    |false=>
     go_wp2_with fail;refine bodyPost_end (results_none rfl _ _ _) rfl ?_;refine⟨rfl,Ul.out,HKW.out,k,HK.out,?_⟩;rw[<-HT2.out];have hg:(λy=>if y=x then Fi (L x) d else L y)=L:=funext λy=>by
      split;·rename_i e;subst e;rw[<-HLL.out];unfold Fi;rw[if_pos (by simpa using HQ.out.symm)]
      ·rfl
     rw[hg];exact MW.out|true=>
     have hadd:Fi (L x) d=l++[d]:=by rw[<-HLL.out];unfold Fi;rw[if_neg (by simpa using HQ.out.symm)]
     have TL:=ae hadd;clear hadd HQ;go_upto_region 10 with fail;refine bB [(0,false),(1,false),(2,false),(3,false),(4,false),(5,false),(6,false),(7,false),(8,false),(9,false),(10,false),(11,false),(12,false),(13,true),(14,true),(15,false),(16,true)] 16 (λw'=>w'.cell? (aD mb 2)=some (sL gp T2.length pc)/\w'.cell? (aD gp k)=some (.slice va m vc)) (by kernel_rfl) (by kernel_rfl) ⟨d1,hcv⟩ ?_;iterate 13(
 refine aR ?_ rfl rfl (λw' hS=>?_) ?_;rotate_left;·obtain⟨f0,f1⟩:=hS;go_simp;try rfl
 simp only[aN,ai,aj])
     have xB:=lt_of_cell d1;have aao:=lt_of_cell hcv;have xB:mb<wc.heap.size:=xB;have aao:gp<wc.heap.size:=aao;refine bg rfl rfl (by decide) (λK5 xW=>?_);go_simp;refine xW _ _ ⟨(aV wc.drew _ _ xB).trans d1,(aV wc.drew _ _ aao).trans hcv⟩ ?_;clear xW K5;try simp only[aN,ai,aj]
     refine bg rfl rfl (by decide) (λK5 xW=>?_);have oX:((wc.drew).alloc (.cells #[iV d] 3)).ownsRow 0 3 1 (.slice va m vc) m (l.map cJ):=vp.out.drew.alloc _;refine wp_append_lies _ _ 24 rfl 3 i2 (iV 0) 1 8 sP hi2 hw0 hx1 hx2 rfl (by decide) (.slice va m vc) m (l.map cJ) rfl oX (aD wc.heap.size 0) 1 1 [iV d] rfl rfl (cell_one_new wc.drew _ _) (by simp[dN]) (by decide) (by unfold maxLen;omega) (by omega) ?_;intro v4 W4 hrow4 cM dS;have Z0:∀g,(cY va m vc).ownBlock=some g->g≠mb/\g≠gp:=λg e=>by
      obtain⟨c1,e1⟩:=ct vp.out e;obtain⟨c2,e2⟩:=ct B4.out (g:=gp) rfl;refine⟨λh=>?_,λh=>?_⟩;·rw[h,B1.out]at e1;cases e1
      ·rw[h,e2]at e1;cases e1
     have hW3:aI wc.heap.size wc ((wc.drew).alloc (.cells #[iV d] 3)):=((Same.drew wc).below _).alloc (au _) _;have hmv:bL wc (.slice va m vc) W4 v4:=((bL.same _ (Same.drew wc)).trans (bL.alloc _ _ _)).trans (bL.append cM dS);have Hd:∀j,j<wc.heap.size->(cY va m vc).ownBlock≠some j->W4.heap[j]?=wc.heap[j]?:=λj hj hn=>hmv.block hj hn;have kmb:W4.heap[mb]?=wc.heap[mb]?:=Hd mb xB λe=>(Z0 mb e).1 rfl;have kgp:W4.heap[gp]?=wc.heap[gp]?:=Hd gp aao λe=>(Z0 gp e).2 rfl;have f4:W4.cell? (aD mb 2)=some (sL gp T2.length pc):=(fq (a:=(aD mb 2)) kmb).trans d1;have f5:W4.cell? (aD gp k)=some (.slice va m vc):=(fq (a:=(aD gp k)) kgp).trans hcv;have f6:W4.frozen? (aD gp k)=false:=by obtain⟨c2,e2⟩:=ct B4.out (g:=gp) rfl;exact aU (kgp.trans e2)
     refine xW _ _ ⟨f4,f5⟩ ?_;clear xW K5;obtain⟨a4,n4,c4,rfl⟩:=slice_form hrow4;simp only[aN,ai,aj];refine aR ?_ rfl rfl (λw' hS=>?_) ?_;rotate_left;·obtain⟨f0,f1⟩:=hS;go_simp;try rfl
     simp only[aN,ai,aj];refine cO rfl rfl (λK5 xW=>?_);have HK5:=ae xW;have HMV:=ae hmv;have PI:=ae hrow4;clear xW hmv hrow4 cM dS Hd Z0 hW3 oX;go_simp;refine HK5.out _ _ ?_;clear HK5 K5;go_wp2_with fail;refine bodyPost_end (results_none rfl _ _ _) rfl ?_;obtain⟨nv,hnv⟩:∃nv,nv=cY a4 n4 c4:=⟨_,rfl⟩;rw[<-hnv]at HMV PI⊢;have hBw:B<=wc.heap.size:=aZ hB Ul.out.size;have amF:B<=gp:=B5.out gp rfl;have hgr:aI B wc (W4.setCell (aD gp k) nv):=(HMV.out.below QS.out (aB _ _) hBw).setCell (p:=(aD gp k)) amF _;have hnp:kp B nv:=HMV.out.past QS.out hBw;have hvg:nv.ownBlock≠some gp:=λe=>by obtain⟨c1,e1⟩:=ct PI.out e;obtain⟨c2,e2⟩:=ct B4.out (g:=gp) rfl;rw[kgp,e2]at e1;cases e1
     have iO:∀{e size z:Nat}{v:ay}{xs:List ay},wc.ownsRow 0 e size v z xs->(∀g,v.ownBlock=some g->(cY va m vc).ownBlock≠some g/\g≠gp)->(W4.setCell (aD gp k) nv).ownsRow 0 e size v z xs:=λhr hn=>aO hr λj ej=>(az _ _ _ _ (hn j ej).2).trans (HMV.out.block (hr.lt j ej).2 (hn j ej).1);have alJ:∀{e size z:Nat}{v:ay}{xs:List ay},e≠3->e≠24->wc.ownsRow 0 e size v z xs->∀g,v.ownBlock=some g->(cY va m vc).ownBlock≠some g/\g≠gp:=λh1 h2 hr g eg=>by
      obtain⟨c0,e0⟩:=ct hr eg;obtain⟨c2,e2⟩:=ct B4.out (g:=gp) rfl;refine⟨λe=>?_,λe=>?_⟩;·obtain⟨c1,e1⟩:=ct vp.out e;rw[e0]at e1;cases e1;exact h1 rfl
      ·subst e;rw[e0]at e2;cases e2;exact h2 rfl
     refine⟨rfl,Ul.out.trans hgr,HKW.out.trans (λj cs t r hj h1 h2 h3=>(az _ _ _ _ λe=>?_).trans (HMV.out.block (lt_of_heap hj) λe=>?_)),k,HK.out,?_⟩;·have e:j=gp:=e;obtain⟨c2,e2⟩:=ct B4.out (g:=gp) rfl;rw[e,e2]at hj;cases hj;exact h2 rfl
     ·obtain⟨c1,e1⟩:=ct vp.out e;rw[e1]at hj;cases hj;exact h3 rfl
     rw[<-HT2.out];have kD:(W4.setCell (aD gp k) nv).ownsRow 0 24 1 (sL gp T2.length pc) T2.length (ps.set k nv):=Iy (aO B4.out λj ej=>by cases ej;exact kgp) rfl nv;refine⟨hx0,tv,_,ps.set k nv,?_,iO B2.out (alJ (by decide) (by decide) B2.out),B3.out,kD,B5.out,?_,?_⟩;·exact(az _ _ _ _ λe=>by have e:mb=gp:=e;obtain⟨c2,e2⟩:=ct B4.out (g:=gp) rfl;rw[<-e,B1.out]at e2;cases e2).trans (kmb.trans B1.out)
     ·intro i v y hv hy;rcases agw i k with hik|hik;·
       rw[dA (dB hik)]at hv;have hne:y≠x:=λe=>by subst e;exact hik (afk.out i k y hy HXK.out)
       obtain⟨g1,g2⟩:=B6.out i v y hv hy;rw[if_neg hne];refine⟨iO g1 λg eg=>⟨λe=>B7.out i k v _ g hik hv HV.out eg e,λe=>?_⟩,g2⟩;obtain⟨c0,e0⟩:=ct g1 eg;obtain⟨c2,e2⟩:=ct B4.out (g:=gp) rfl;rw[e,e2]at e0;cases e0
      ·subst hik;rw[dz (by omega)]at hv;cases hv;have hyx:y=x:=by have:=HXK.out;rw[hy]at this;exact aJ this
       subst hyx;rw[if_pos rfl,TL.out];have:=PI.out;refine⟨aO (w:=W4) ?_ λj ej=>az _ _ _ _ λe=>hvg (ej.trans (congrArg some e)),hnp⟩;rw[bh,cQ,<-HML.out];exact this
     ·intro i j u v g hij hu hv hug;rcases agw i k with hik|hik;·
       rw[dA (dB hik)]at hu;rcases agw j k with hjk|hjk;·rw[dA (dB hjk)]at hv;exact B7.out i j u v g hij hu hv hug
       ·subst hjk;rw[dz (by omega)]at hv;cases hv;intro e;rcases HMV.out.lies with h|⟨g',h,hg'⟩;·exact B7.out i j u _ g hij hu HV.out hug (h▸e)
        ·rw[h]at e;cases e;have hyi:∃y,T2[i]?=some y:=⟨_,ar (by have:=(List.getElem?_eq_some_iff.1 hu).1;omega)⟩;obtain⟨y,hy⟩:=hyi;have:=((B6.out i u y hu hy).1.lt g hug).2;omega
      ·subst hik;rw[dz (by omega)]at hu;cases hu;rw[dA hij]at hv;intro e;rcases HMV.out.lies with h|⟨g',h,hg'⟩;·exact B7.out i j _ v g hij HV.out hv (h▸hug) e
       ·rw[h]at hug;cases hug;obtain⟨y,hy⟩:∃y,T2[j]?=some y:=⟨_,ar (by have:=(List.getElem?_eq_some_iff.1 hv).1;omega)⟩;have:=((B6.out j v y hv hy).1.lt g e).2;omega
structure pN(T:List (List UInt8))(L:List UInt8->List Nat):Prop where adb:T.Pairwise (λa b=>a<b)mem:∀y,y∈T↔L y≠[]
theorem pN.start:pN [] (λ_=>[]):=⟨List.Pairwise.nil,λy=>by simp⟩
theorem pN.add{T:List (List UInt8)}{L:List UInt8->List Nat}(h:pN T L){x:List UInt8}{k d:Nat}(hk:uB T x k):pN (if T[k]?=some x then T else T.take k++x::T.drop k) (λy=>if y=x then Fi (L x) d else L y):=by
 have hadd:Fi (L x) d≠[]:=by
  unfold Fi;split;·rename_i h1;intro h2;rw[h2]at h1;cases h1
  ·simp
 split;·
  rename_i hx;have hm:x∈T:=List.mem_of_getElem? hx;refine⟨h.adb,λy=>?_⟩;split;·rename_i e;subst e;exact⟨λ_=>hadd,λ_=>hm⟩
  ·exact h.mem y
 ·rename_i hx;refine⟨Lp h.adb hk hx,λy=>?_⟩;have amv:y∈T.take k++x::T.drop k↔y∈T\/y=x:=by
   conv=>rhs;rw[<-FP k T]
   rw[jM,ql,jM];constructor;·
    rintro(h|h|h);·exact .inl (.inl h)
    ·exact .inr h
    ·exact .inl (.inr h)
   ·rintro((h|h)|h);·exact .inl h
    ·exact .inr (.inr h)
    ·exact .inr (.inl h)
  rw[amv];split;·rename_i e;exact⟨λ_=>hadd,λ_=> .inr e⟩
  ·rename_i e;rw[<-h.mem y];exact⟨λh=>h.resolve_right e,.inl⟩
theorem PB(D:List (List (List UInt8)))(pre:List (List UInt8))(x:List UInt8):(λy=>if y=x then Fi (bU (D++[pre]) x) D.length else bU (D++[pre]) y)=bU (D++[pre++[x]]):=by
 by_cases hx:x∈pre;·
  rw[Cv D pre x hx];funext y;split;·rename_i e;subst e;unfold Fi;rw[if_pos (by rw[gI,if_pos hx];simp)]
  ·rfl
 ·rw[Cw D pre x hx];funext y;split;·unfold Fi;rw[if_neg];intro h;have hm:=List.mem_of_getLast? h;rw[gI,if_neg hx,gv]at hm;have:=Ep _ _ _ hm;omega
  ·rfl
theorem PA{T:List (List UInt8)}{x:List UInt8}{k:Nat}(hk:k<=T.length):(if T[k]?=some x then T else T.take k++x::T.drop k).length<=T.length+1:=by
 split;·omega
 ·simp;omega
def eX(docs:List ByteArray):Int:=if 48<docs.length then 1 else if∃d∈docs,200<d.size then 2 else 0
def uD(B:Nat)(w:ak)(mb:Nat)(D:List (List (List UInt8))):Prop:=∃T,pN T (bU D)/\T.length<=10000/\jk B w mb D.length T (bU D)
theorem ID(docs:List ByteArray)(v:ay)(w:ak)(hv:jU w v docs)(hl:docs.length<=1000000):aX ah 35 #[v] w λe w'=>aI w.heap.size w w'/\((eX docs≠0/\e= .returned (.tuple #[.pointer none,iV (eX docs)]))\/(eX docs=0/\∃mb,e= .returned (.tuple #[aP mb,iV 0])/\uD w.heap.size w' mb (docs.map dc))):=by
 obtain⟨a0,tC,rfl,hc⟩:=hv;have HC:=ae hc;clear hc;go_enter Tryz.func35,Tryz.ntmps35;by_cases h48:48<docs.length;·
  have hb:eX docs=1:=by unfold eX;rw[if_pos h48]
  rw[hb];go_wp2_with fail;go_ret2;exact⟨aB _ _,.inl ⟨by decide,rfl⟩⟩
 ·have h48':decide ((48:Int)<(docs.length:Int))=false:=by simp;omega
  have HN:Hid (eX docs=if∃d∈docs,200<d.size then 2 else 0):=ae (by unfold eX;rw[if_neg h48]);have HX0:=ae (λW(hW:w.heap.size<=W.heap.size)=>jk.start W hW docs.length);go_wp2_with fail;go_loopw[4](λi wr=>∃k:Nat,k<=docs.length/\i= .int .i64 k/\Hid (∀d∈docs.take k,d.size<=200)/\w=wr)(λi _=>docs.length-(intOf i).toNat);case atStart=>exact⟨0,aW _,rfl,ae (λd h=>by simp at h),rfl⟩
  case round=>
   obtain⟨k,hk,rfl,HA,rfl⟩:=hrel;by_cases hlt:k<docs.length;·
    obtain⟨b,off,rfl,hcell⟩:=HC.out k hlt;have q1:IntKind.i64.wrap ((k:Int)+1)=(k:Int)+1:=aK _ (by omega);by_cases SN:docs[k].size<=200;·
     have HA2:Hid (∀d∈docs.take (k+1),d.size<=200):=ae λd hd=>by
      rw[bH hlt]at hd;rcases List.mem_append.1 hd with hd|hd;·exact HA d hd
      ·rw[List.mem_singleton.1 hd];exact SN
     go_wp2_with fail;exact⟨⟨k+1,by omega,by go_num,HA2,trivial⟩,by simp[intOf];omega⟩
    ·have Um:=ae (show eX docs=2 by rw[HN,if_pos ⟨docs[k],eu hlt,by omega⟩]);go_wp2_with fail;go_ret2;exact⟨aB _ _,.inl ⟨by rw[Um];decide,by rw[Um];rfl⟩⟩
   ·obtain rfl:k=docs.length:=by omega
    have hall:∀d∈docs,d.size<=200:=λd hd=>HA d (by rw[dH];exact hd);have hb:eX docs=0:=by rw[HN,if_neg];rintro⟨d,hd,h⟩;have:=hall d hd;omega
    have Um:=ae hb;have uE:=ae hall;clear hb hall HA HN;obtain⟨D,hD⟩:∃D,D=docs.map dc:=⟨_,rfl⟩;have hDl:D.length=docs.length:=by rw[hD];simp
    have aiV:∀(i:Nat)(h:i<docs.length),D[i]?=some (dc docs[i]):=λi h=>by rw[hD];simp[h]
    have HDD:=ae hD;have abg:=ae aiV;clear hD aiV;go_wp2_with fail;have HX1:=ae (HX0 w (au _));have jG:Hid (aI w.heap.size w (w.alloc (.cells #[iV docs.length,.slice none 0 0,.slice none 0 0] 90))):=ae ((aB _ w).alloc (au _) _);have hz1:w.heap.size<(w.alloc (.cells #[iV docs.length,.slice none 0 0,.slice none 0 0] 90)).heap.size:=by simp
    obtain⟨W1,hW1⟩:∃W1,W1=(w.alloc (.cells #[iV docs.length,.slice none 0 0,.slice none 0 0] 90)):=⟨_,rfl⟩;rw[<-hW1]at HX1 jG hz1⊢;clear hW1 HX0;obtain⟨B,hBw⟩:∃B,B=w.heap.size:=⟨_,rfl⟩;rw[<-hBw]at HX1 jG hz1⊢;have Ul:=ae hBw;clear hBw;go_loopw[6](λi wr=>∃(k:Nat)(T:List (List UInt8)),k<=docs.length/\i= .int .i64 k/\Hid (pN T (bU (D.take k)))/\T.length<=201*k/\Hid (jk B wr B docs.length T (bU (D.take k)))/\Hid (aI B w wr)/\B<=wr.heap.size)(λi _=>docs.length-(intOf i).toNat);case atStart=>exact⟨0,[],aW _,rfl,ae pN.start,by simp,HX1,jG,by omega⟩
    case round=>
     obtain⟨k,T,hk,rfl,HT,JV,HX,HB,hBr⟩:=hrel;have q1:IntKind.i64.wrap ((k:Int)+1)=(k:Int)+1:=aK _ (by omega);by_cases hlt:k<docs.length;·
      obtain⟨b,off,rfl,OQ⟩:=HC.out k hlt;have hcell:wr.cell? (aD b (off+k))=some (.string docs[k]):=(HB.cell (p:=(aD b (off+k))) (by rw[Ul];exact lt_of_cell OQ)).trans OQ;have SN:=uE docs[k] (eu hlt);have hwl:(dc docs[k]).length<=201:=by have:=xK docs[k];omega
      have ZY:∀t∈dc docs[k],t.length<=16:=λt ht=>(D5 ht).2;have hdk:=abg k hlt;obtain⟨s,hs⟩:∃s,s=docs[k]:=⟨_,rfl⟩;rw[<-hs]at hcell SN hwl ZY hdk;obtain⟨ws,hws⟩:∃ws,ws=dc s:=⟨_,rfl⟩;have OA:=λW=>Rh s W (by omega);rw[<-hws]at hwl ZY hdk OA;have HDK:=ae hdk;have anP:=ae ZY;have X6:=ae OA;clear hs hws hdk ZY OA OQ;go_upto_region 13 with(go_at_call 62;refine(X6 wr).mono ?_;rintro e w2⟨ov,rfl,hst⟩;have HST:=ae hst;clear hst);have hb2:=HST.below;have hr2:=HST.row;have MW:=ae (HX.below hb2);have kN:=ae (HB.trans (hb2.mono hBr));have SL:=aZ hBr hb2.size;have tI:=ae hr2;obtain⟨oa,oc,rfl⟩:=ownsRow_form hr2;have HDT:Hid (D.take (k+1)=D.take k++[ws]):=ae (by rw[bH (by omega)];congr 2;have:=HDK.out;rw[ar (by omega)]at this;exact aJ this);have YQ:(D.take k).length=k:=by rw[iu];omega
      obtain⟨Dk,hDD⟩:∃Dk,Dk=D.take k:=⟨_,rfl⟩;rw[<-hDD]at HT MW HDT YQ;clear hDD HX HB HST hb2 hr2 X6 hcell;go_wp2_with fail;go_loopw[8](λi wx=>∃(j:Nat)(T:List (List UInt8)),j<=ws.length/\i= .int .i64 j/\Hid (pN T (bU (Dk++[ws.take j])))/\T.length<=201*k+j/\Hid (jk B wx B docs.length T (bU (Dk++[ws.take j])))/\Hid (aI B w wx)/\B<=wx.heap.size/\Hid (wx.ownsRow 0 9 1 (.slice oa ws.length oc) ws.length (ws.map dC)))(λi _=>ws.length-(intOf i).toNat);case atStart=>exact⟨0,T,aW _,rfl,by rw[acY,wh];exact HT,by omega,by rw[acY,wh];exact MW,kN,SL,tI⟩
      case round=>
       clear MW kN SL tI HT JV;obtain⟨j,T3,hj,rfl,HT,JV,MW,kN,SL,tI⟩:=hrel;have q2:IntKind.i64.wrap ((j:Int)+1)=(j:Int)+1:=aK _ (by omega);by_cases hjl:j<ws.length;·
        obtain⟨g,cap,e1,hc⟩:=Cj tI hjl;simp only[bA,true_and]at e1;obtain⟨rfl,rfl⟩:=e1;have z1:(0:Int)<=(j:Int)/\(j:Int)<(ws.length:Int):=by omega
        have Ue:=anP ws[j] (eu hjl);have HTK:=ae (bH hjl);have hadd:=aaX ws[j] k B B docs.length T3 (bU (Dk++[ws.take j])) wr MW.out SL (by omega) (by have:=qD (Dk++[ws.take j]) ws[j];simp at this;omega) (by omega) (λhn=>by
         rcases zr (bU (Dk++[ws.take j]) ws[j])with h0|⟨l2,z,h0⟩;·exact h0
         ·exact absurd ((HT.mem _).2 (by rw[h0];simp)) hn) HT.adb;generalize ws[j]=x at*;unfold aP dC at hadd;have TL:=ae hadd;clear hadd;go_upto_region 15 with(go_at_call 63;refine TL.mono ?_;rintro e w4⟨rfl,hb4,hk4,kk,hpl,hx4⟩;have H4:=ae (aA hb4 (aA hk4 (aA hpl hx4)));clear hb4 hk4 hpl hx4);go_wp2_with fail;go_roundw;case rel=>obtain⟨hb4,hk4,hpl,hx4⟩:=H4.out;have hp4:=PB Dk (ws.take j) x;rw[YQ,<-HTK]at hp4;rw[hp4]at hx4;have ht4:=HT.add (d:=k) hpl;rw[hp4]at ht4;exact⟨j+1,_,by omega,by go_num,ae ht4,by have:=PA (x:=x) (T:=T3) hpl.1;omega,ae hx4,ae (kN.trans hb4),aZ SL hb4.size,ae (hk4.row tI.out (by decide) (by decide) (by decide))⟩
        case measure=>(simp[intOf])<;>omega
       ·obtain rfl:j=ws.length:=by omega
        go_wp2_with fail;refine⟨⟨k+1,T3,by omega,by go_num,?_,by omega,?_,kN,SL⟩,by simp[intOf];omega⟩;·rw[HDT];have:=HT;rw[dH]at this;exact this
        ·rw[HDT];have:=MW;rw[dH]at this;exact this
     ·obtain rfl:k=docs.length:=by omega
      go_wp2_with fail;go_ret2;refine⟨by rw[<-Ul];exact HB,.inr ⟨Um,B,rfl,?_⟩⟩;rw[<-Ul,<-HDD];have e1:D.take docs.length=D:=by rw[<-hDl,dH]
      have h1:=HT.out;have h2:=HX.out;rw[e1]at h1 h2;exact⟨T,h1,by omega,by rw[hDl];exact h2⟩
def dE(w:ak)(v:ay)(l:List Nat):Prop:=w.ownsRow 0 3 1 v l.length (l.map cJ)
theorem dE.cell{w:ak}{v:ay}{l:List Nat}(h:dE w v l){i:Nat}(hi:i<l.length):∃g cap,v=sL g l.length cap/\w.cell? (aD g i)=some (iV ((l[i]:Nat):Int)):=by obtain⟨g,cap,e,hc⟩:=dh h (j:=i) (u:=cJ l[i]) (by rw[bp,ar hi];rfl);exact⟨g,cap,e,hc⟩
theorem dE.below{w w':ak}{v:ay}{l:List Nat}(h:dE w v l)(hb:aI w.heap.size w w'):dE w' v l:=aO h λk e=>hb.block k (h.lt k e).2
theorem Hs(l:List Nat)(d:Nat)(v:ay)(w:ak)(hv:dE w v l)(hl:l.length<=1000000):aX ah 76 #[v,iV d] w λe w'=>e= .returned (.bool (decide (d∈l)))/\Same w w':=by
 obtain⟨va,vc,rfl⟩:=ownsRow_form hv;have HV:=ae hv;clear hv;go_enter Tryz.func76,Tryz.ntmps76;go_wp2_with fail;go_loopw[5](λiv wr=>∃i:Nat,i<=l.length/\iv= .int .i64 (i:Int)/\Hid (d∉l.take i)/\w=wr)(λiv _=>l.length-(intOf iv).toNat);case atStart=>exact⟨0,aW _,rfl,ae (by simp),rfl⟩
 case round=>
  obtain⟨i,hil,rfl,HN,rfl⟩:=hrel;have q1:IntKind.i64.wrap ((i:Int)+1)=(i:Int)+1:=aK _ (by omega);by_cases hlt:i<l.length;·
   obtain⟨g,cap,e1,hc⟩:=HV.cell hlt;simp only[bA,true_and]at e1;obtain⟨rfl,rfl⟩:=e1;have z1:(0:Int)<=(i:Int)/\(i:Int)<(l.length:Int):=by omega
   have HTK:=ae (show l.take (i+1)=l.take i++[l[i]]from bH hlt);have HM:=ae (show l[i]∈l from eu hlt);generalize l[i]=x at*;by_cases hx:x=d;·
    have e2:((x:Int)==(d:Int))=true:=by simp[hx]
    have hd:decide (d∈l)=true:=by rw[<-hx];simpa using HM.out
    have HD:=ae hd;clear hd;go_wp2_with fail;go_ret;exact⟨gS HD.symm,Same.refl _⟩
   ·have e2:((x:Int)==(d:Int))=false:=by rw[beq_eq_false_iff_ne];omega
    have HN2:Hid (d∉l.take (i+1)):=ae (by
     rw[HTK,jM,List.mem_singleton];rintro(h|h);·exact HN h
     ·exact hx h.symm);go_wp2_with fail;exact⟨⟨i+1,by omega,by go_num,HN2,trivial⟩,by simp[intOf];omega⟩
  ·obtain rfl:i=l.length:=by omega
   have hd:decide (d∈l)=false:=by have:=HN.out;rw[dH]at this;simpa using this
   have HD:=ae hd;clear hd;go_wp2_with fail;go_ret;exact⟨gS HD.symm,Same.refl _⟩
def aa2(w:ak)(q:nN)(nv:ay)(acc:List UInt8->Bool):Prop:=∀W,aI w.heap.size w W->∀t,t.length<=16->aX ah 121 #[xD q,nv,dC t] W λe w'=>e= .returned (.bool (acc t))/\aI W.heap.size W w'
inductive Ans where|err(n p:Int)|ok(acc:List UInt8->Bool)
def TP(w:ak)(q:nN)(st:Int)(r:Ans):Prop:=∀W,aI w.heap.size w W->aX ah 41 #[xD q,.int .i64 st] W λe w'=>aI W.heap.size W w'/\match r with| .err n p=>n≠0/\e= .returned (.tuple #[.pointer none,.int .i64 n,.int .i64 p])| .ok acc=>∃nb,e= .returned (.tuple #[aP nb,.int .i64 0,.int .i64 0])/\aa2 w' q (aP nb) acc
def TN(w:ak)(q:nN)(st:Int)(r:Ans):Prop:=1<=st/\st<=400->TP w q st r
end Go.Proofs.Tl
namespace Go.Proofs.Ts
open Go Go.RowKit Go.Extern.Stop Go.Stop Go.Extern
theorem Cu(b:Nat)(w:ak):(ReflectliteValue.unpack (.iface 131 (pT b))).run ah w= .ok (.agg #[.pointer (some (aD 5 (131))),pT w.heap.size,uV 150]) (w.alloc (.cells #[pT b] 131)):=by kernel_rfl
theorem KM(a:jK)(w:ak):(ReflectliteValue.methodAny (ReflectliteValue.valueError "reflectlite.Value.Type" 0) (λt _ _ _=>ReflectliteType.toType t) #[.agg #[.pointer (some (aD 5 (131))), .pointer (some a),uV 150]]).run ah w= .ok (.iface 327 (.agg #[.pointer (some (aD 5 (131)))])) w:=by kernel_rfl
theorem KP(w:ak):((ReflectliteType.abiMethod λt=>(λa:Nat=>tR M6 (a:Int))<$>Rtype.kind t) #[.pointer (some (aD 5 (131)))]).run ah w= .ok (.int .u8 22) w:=by kernel_rfl
theorem KO(w:ak):((ReflectliteType.abiMethod λt=>(λa:Nat=>tR M6 (a:Int))<$>Rtype.kind t) #[.pointer (some (aD 5 (129)))]).run ah w= .ok (.int .u8 22) w:=by kernel_rfl
theorem GQ(a:jK)(w:ak):(ReflectliteValue.parts (.agg #[.pointer (some (aD 5 (131))),.pointer (some a),uV 150])).run ah w= .ok (some (131,a,150)) w:=by kernel_rfl
theorem GR(a p:jK)(W:ak)(ha:W.cell? a=some (.pointer (some p))):(ReflectliteValue.method (ReflectliteValue.valueError "reflectlite.Value.IsNil" 0) ReflectliteValue.isNil #[.agg #[.pointer (some (aD 5 (131))), .pointer (some a),uV 150]]).run ah W= .ok (.bool false) W:=by rw[rlm];simp only[dZ,GQ,fS];simp[ReflectliteValue.isNil,loadVar,isAgg,underlying,acU,ha,fS]
theorem KR(w:ak):(ReflectliteType.method ReflectliteType.elem #[.agg #[.pointer (some (aD 5 (131)))]]).run ah w= .ok (.iface 327 (.agg #[.pointer (some (aD 5 (129)))])) w:=by kernel_rfl
theorem vX(w:ak):(ReflectliteType.relation "Implements" ReflectliteType.implements_ #[.agg #[.pointer (some (aD 5 (129)))], .iface 327 (.agg #[.pointer (some (aD 5 (76)))])]).run ah w= .ok (.bool true) w:=by kernel_rfl
theorem Em(w:ak):(ReflectliteType.relation "AssignableTo" ReflectliteType.assignableTo #[.agg #[.pointer (some (aD 5 (43)))], .iface 327 (.agg #[.pointer (some (aD 5 (129)))])]).run ah w= .ok (.bool false) w:=by kernel_rfl
theorem Zx(v:ay)(xT:dx)(w:ak):(jJ (.iface 43 v) xT 331 true).run ah w= .ok (.tuple #[.nilIface,.bool false]) w:=run_typeAssert_lacksB Tryz.underlying331 (by kernel_rfl) (by kernel_rfl) v xT w
theorem KN(v:ay)(xT:dx)(w:ak):(jJ (.iface 43 v) xT 334 true).run ah w= .ok (.tuple #[.nilIface,.bool false]) w:=run_typeAssert_lacksB acP (by kernel_rfl) (by kernel_rfl) v xT w
theorem Iz(v:ay)(xT:dx)(w:ak):(jJ (.iface 43 v) xT 336 true).run ah w= .ok (.tuple #[.nilIface,.bool false]) w:=run_typeAssert_lacksB Tryz.underlying336 (by kernel_rfl) (by kernel_rfl) v xT w
theorem aeX(k:Int)(b:Nat)(w:ak)(hg:nD w):aX ah 69 #[.iface 43 (iV k),.iface 131 (pT b)] w λev w'=>ev= .returned (.bool false)/\aI w.heap.size w w':=by
 have h6:=@run_callFunc_extern ah 108 _ (λargs=>ReflectliteValue.unpack (args.getD 0 (.tuple #[]))) UJ (by kernel_rfl) (by kernel_rfl) (by kernel_rfl) (by kernel_rfl);have h7:=@run_callFunc_extern ah 109 _ (ReflectliteValue.methodAny (ReflectliteValue.valueError "reflectlite.Value.Type" 0) (λt _ _ _=>ReflectliteType.toType t)) UI (by kernel_rfl) (by kernel_rfl) (by kernel_rfl) (by kernel_rfl);have h8:=@run_callFunc_extern ah 110 _ (ReflectliteValue.method (ReflectliteValue.valueError "reflectlite.Value.IsNil" 0) ReflectliteValue.isNil) UH (by kernel_rfl) (by kernel_rfl) (by kernel_rfl) (by kernel_rfl);have h27:=@run_callFunc_extern ah 281 _ (ReflectliteType.abiMethod λt=>do pure (.int .u8 (<-Rtype.kind t))) Ux (by kernel_rfl) (by kernel_rfl) (by kernel_rfl) (by kernel_rfl);have h37:=@run_callFunc_extern ah 304 _ (ReflectliteType.method ReflectliteType.elem) Uv (by kernel_rfl) (by kernel_rfl) (by kernel_rfl) (by kernel_rfl);have h38:=@run_callFunc_extern ah 305 _ (ReflectliteType.relation "Implements" ReflectliteType.implements_) Uu (by kernel_rfl) (by kernel_rfl) (by kernel_rfl) (by kernel_rfl);have h10:=@run_callFunc_extern ah 112 _ ReflectliteType.typeOf yi (by kernel_rfl) (by kernel_rfl) (by kernel_rfl) (by kernel_rfl);have h35:=@run_callFunc_extern ah 302 _ (ReflectliteType.relation "AssignableTo" ReflectliteType.assignableTo) Uw (by kernel_rfl) (by kernel_rfl) (by kernel_rfl) (by kernel_rfl);have h11:=@run_callFunc_extern ah 157 _ (ReflectliteValue.method (ReflectliteValue.valueError "reflectlite.Value.Elem" 0) ReflectliteValue.elem) UE (by kernel_rfl) (by kernel_rfl) (by kernel_rfl) (by kernel_rfl);have h12:=@run_callFunc_extern ah 158 _ ReflectliteValue.set UD (by kernel_rfl) (by kernel_rfl) (by kernel_rfl) (by kernel_rfl);have tO:=tZ;have mA:=lU;have a25:=Em;have f6:=Cu;have f7:=KM;have mK:=su;have mE:=sw;have mI:=lQ;have k27:=KP;have k25:=KO;have e27:=KR;have i25:=vX;have n8:=GR (aD w.heap.size 0) (aD b 0) ((w.alloc (.cells #[pT b] 131)).alloc (.cells #[.pointer (some (aD 5 (131))),pT w.heap.size,uV 150] 219)) (by simp);have hlt:0<w.heap.size:=lt_of_cell hg;unfold nD at hg;have hg2:((w.alloc (.cells #[pT b] 131)).alloc (.cells #[.pointer (some (aD 5 (131))),pT w.heap.size,uV 150] 219)).cell? (aD 0 0)=some (.iface 327 (.agg #[.pointer (some (aD 5 (76)))])):=by rw[aV _ _ (aD 0 0) (by simp),aV _ _ (aD 0 0) hlt];exact hg
 have n1:=Zx;have n2:=KN;have n3:=Iz;go_enter Y4,Us;go_wp2;refine wp_loop_rounds 1 ?_;rw[rounds_succ];go_wp2;go_ret;exact⟨rfl,(((aB _ w).alloc (au _) _).alloc (by simp) _).alloc (by simp;omega) _⟩
theorem vY(w:ak):(ReflectliteType.method (λt=>do Rtype.noPackHeld "Comparable" t;(λa=>Value.bool a.comparable)<$>typeInfo t) #[.agg #[.pointer (some (aD 5 (43)))]]).run ah w= .ok (.bool true) w:=by kernel_rfl
theorem BG:(Tryz.prog.info? 43).map (·.comparable)=some true:=by kernel_rfl
theorem zK{P:iX}{ti tp:dx}{ms:Array (String×dx)}{i:uT}{kk:IntKind}(k:Int)(w:ak)(hi:P.underlying ti=some (.interface ms))(hp:P.underlying tp=some (.int kk))(hinfo:P.info? tp=some i)(aii:i.comparable=true):(binOp .eql ti (.iface tp (iV k)) (.iface tp (iV k))).run P w= .ok (.bool true) w:=by
 have h:∀d:Nat,(Op.equalIn (d+2) ti (.iface tp (iV k)) (.iface tp (iV k))).run P w= .ok true w:=λd=>by simp[Op.equalIn,run_underlying hi,run_underlying hp,typeInfo,hinfo,aii]
 simp only[binOp];simp[Op.equal,Op.maxDepth,h 9998]
theorem LS(k:Int)(w:ak):(binOp BinOp.eql 76 (.iface 43 (iV k)) (.iface 43 (iV k))).run ah w= .ok (.bool true) w:=by obtain⟨i,hi,hc⟩:=Option.map_eq_some_iff.1 BG;exact zK k w Tryz.underlying76 afI hi hc
theorem ZO(k:Int)(w:ak):aX ah 70 #[.iface 43 (iV k),.iface 43 (iV k)] w λev w'=>ev= .returned (.bool true)/\aI w.heap.size w w':=by have h10:=@run_callFunc_extern ah 112 _ ReflectliteType.typeOf yi (by kernel_rfl) (by kernel_rfl) (by kernel_rfl) (by kernel_rfl);have h35:=@run_callFunc_extern ah 303 _ (ReflectliteType.method (λt=>do Rtype.noPackHeld "Comparable" t;pure (.bool (←typeInfo t).comparable))) ar7 (by kernel_rfl) (by kernel_rfl) (by kernel_rfl) (by kernel_rfl);have tO:=tZ;have mC:=pC;have cN:=vY;have eE:=LS;go_enter awv,arY;go_wp2;refine wp_loop_rounds 1 ?_;rw[rounds_succ];go_wp2;go_ret;exact⟨rfl,aB _ _⟩
theorem yB(k:Int)(w:ak)(hg:nD w):aX ah 40 #[.iface 43 (iV k)] w λe w'=>e= .returned (.tuple #[iV k,iV (-1)])/\aI w.heap.size w w':=by have HG:=ae hg;clear hg;go_enter Y5,Ut;go_upto_region 5 with fail;have PO:=ae (show aI w.heap.size w ((w.alloc (.cells #[.pointer none] 129)).alloc (.cells #[iV 0] 43))from((aB _ w).alloc (au _) _).alloc (by simp) _);have hb5:=heap_alloc_new (w.alloc (.cells #[.pointer none] 129)) (.cells #[iV 0] 43);rw[bM]at hb5;generalize((w.alloc (.cells #[.pointer none] 129)).alloc (.cells #[iV 0] 43))=W at*;have Y0:=ae hb5;clear hb5;go_upto_region 7 with(go_at_call 69;refine(aeX k w.heap.size W (HG.below PO)).mono ?_;rintro e w1⟨rfl,hb1⟩);have aaB:=(hb1.block _ (lt_of_heap Y0)).trans Y0;have aeq:aI w.heap.size w w1:=PO.trans (hb1.mono PO.size);have HIT:=ae (as_hit k (w.heap.size+1) _ w1 (HG.below aeq) (aq (i:=0) aaB) (aU aaB));have ajO:=ae aeq;have ajQ:=ae aaB;clear aeq hb1 aaB;go_wp2_with(first|(go_at_call 69;refine HIT.mono ?_;rintro e w2⟨rfl,w3,hb3,rfl⟩;have aiB:=(hb3.block _ (lt_of_heap ajQ)).trans ajQ;have cE:(w3.setCell (aD (w.heap.size+1) 0) (iV k)).cell? (aD (w.heap.size+1) 0)=some (iV k):=PV _ _ _ (by rw[aq aiB];rfl);have Dq:=ae hb3;clear hb3 aiB)|(go_at_call 70;refine(ZO k _).mono ?_;rintro e w4⟨rfl,hb4⟩;have cE4:=(hb4.cell (p:=(aD (w.heap.size+1) 0)) (lt_of_cell cE)).trans cE;have TK:=ae hb4;clear hb4));go_ret2;have h1:aI w.heap.size w w3:=ajO.trans (Dq.mono ajO.size);have h2:aI w.heap.size w (w3.setCell (aD (w.heap.size+1) 0) (iV k)):=h1.setCell (p:=(aD (w.heap.size+1) 0)) (by simp) _;exact⟨rfl,h2.trans (TK.mono h2.size)⟩
theorem NL(v:ay)(w:ak):(ReflectliteType.typeOf #[.iface 129 v]).run ah w= .ok (.iface 327 (.agg #[.pointer (some (aD 5 (129)))])) w:=by kernel_rfl
theorem C8(w:ak):(ReflectliteType.relation "AssignableTo" ReflectliteType.assignableTo #[.agg #[.pointer (some (aD 5 (129)))], .iface 327 (.agg #[.pointer (some (aD 5 (129)))])]).run ah w= .ok (.bool true) w:=by kernel_rfl
theorem KI(p:jK)(w:ak):(ReflectliteValue.unpack (.iface 129 (.pointer (some p)))).run ah w= .ok (.agg #[.pointer (some (aD 5 (129))),pT w.heap.size,uV 150]) (w.alloc (.cells #[.pointer (some p)] 129)):=by kernel_rfl
theorem NQ(w:ak):(Rtype.elem? 131).run ah w= .ok (some 129) w:=by kernel_rfl
theorem ac9(p:jK)(w:ak):(ReflectliteValue.mk 129 p ReflectliteValue.flagAddr).run ah w= .ok (.agg #[.pointer (some (aD 5 (129))),.pointer (some p),uV 406]) w:=by kernel_rfl
theorem RD(a p:jK)(W:ak)(ha:W.cell? a=some (.pointer (some p))):(ReflectliteValue.method (ReflectliteValue.valueError "reflectlite.Value.Elem" 0) ReflectliteValue.elem #[.agg #[.pointer (some (aD 5 (131))), .pointer (some a),uV 150]]).run ah W= .ok (.agg #[.pointer (some (aD 5 (129))),.pointer (some p),uV 406]) W:=by rw[rlm];simp only[dZ,GQ,fS];simp[ReflectliteValue.elem,loadVar,isAgg,underlying,acU,ha,fS,NQ,ac9]
theorem NM(a:jK)(w:ak):(ReflectliteValue.parts (.agg #[.pointer (some (aD 5 (129))),.pointer (some a),uV 406])).run ah w= .ok (some (129,a,406)) w:=by kernel_rfl
theorem Ry(a:jK)(w:ak):(ReflectliteValue.parts (.agg #[.pointer (some (aD 5 (129))),.pointer (some a),uV 150])).run ah w= .ok (some (129,a,150)) w:=by kernel_rfl
theorem NR(w:ak):(Rtype.directlyAssignable 129 129).run ah w= .ok true w:=by kernel_rfl
theorem Zv(ta b:jK)(p:jK)(old:ay)(W:ak)(hb:W.cell? b=some (.pointer (some p)))(ht:W.cell? ta=some old)(hf:W.frozen? ta=false):(ReflectliteValue.set #[.agg #[.pointer (some (aD 5 (129))),.pointer (some ta),uV 406],.agg #[.pointer (some (aD 5 (129))),.pointer (some b),uV 150]]).run ah W= .ok (.tuple #[]) (W.setCell ta (.pointer (some p))):=by rw[rls];simp only[dZ,NM,Ry,fS];simp[ReflectliteValue.flagAddr,loadVar,isAgg,underlying,Tryz.underlying129,hb,fS,NR,storeVar,Gy,storeCells,iU];rw[run_store ah W ta _ _ (by rfl)];simp[ht,hf]
theorem aaW(p:jK)(b:Nat)(old:ay)(w:ak)(hg:nD w)(ht0:w.cell? (aD b 0)=some old)(hf0:w.frozen? (aD b 0)=false):aX ah 69 #[.iface 129 (.pointer (some p)),.iface 131 (pT b)] w λev w'=>ev= .returned (.bool true)/\∃w1,aI w.heap.size w w1/\w'=w1.setCell (aD b 0) (.pointer (some p)):=by
 have h6:=@run_callFunc_extern ah 108 _ (λargs=>ReflectliteValue.unpack (args.getD 0 (.tuple #[]))) UJ (by kernel_rfl) (by kernel_rfl) (by kernel_rfl) (by kernel_rfl);have h7:=@run_callFunc_extern ah 109 _ (ReflectliteValue.methodAny (ReflectliteValue.valueError "reflectlite.Value.Type" 0) (λt _ _ _=>ReflectliteType.toType t)) UI (by kernel_rfl) (by kernel_rfl) (by kernel_rfl) (by kernel_rfl);have h8:=@run_callFunc_extern ah 110 _ (ReflectliteValue.method (ReflectliteValue.valueError "reflectlite.Value.IsNil" 0) ReflectliteValue.isNil) UH (by kernel_rfl) (by kernel_rfl) (by kernel_rfl) (by kernel_rfl);have h27:=@run_callFunc_extern ah 281 _ (ReflectliteType.abiMethod λt=>do pure (.int .u8 (<-Rtype.kind t))) Ux (by kernel_rfl) (by kernel_rfl) (by kernel_rfl) (by kernel_rfl);have h37:=@run_callFunc_extern ah 304 _ (ReflectliteType.method ReflectliteType.elem) Uv (by kernel_rfl) (by kernel_rfl) (by kernel_rfl) (by kernel_rfl);have h38:=@run_callFunc_extern ah 305 _ (ReflectliteType.relation "Implements" ReflectliteType.implements_) Uu (by kernel_rfl) (by kernel_rfl) (by kernel_rfl) (by kernel_rfl);have h10:=@run_callFunc_extern ah 112 _ ReflectliteType.typeOf yi (by kernel_rfl) (by kernel_rfl) (by kernel_rfl) (by kernel_rfl);have h35:=@run_callFunc_extern ah 302 _ (ReflectliteType.relation "AssignableTo" ReflectliteType.assignableTo) Uw (by kernel_rfl) (by kernel_rfl) (by kernel_rfl) (by kernel_rfl);have h11:=@run_callFunc_extern ah 157 _ (ReflectliteValue.method (ReflectliteValue.valueError "reflectlite.Value.Elem" 0) ReflectliteValue.elem) UE (by kernel_rfl) (by kernel_rfl) (by kernel_rfl) (by kernel_rfl);have h12:=@run_callFunc_extern ah 158 _ ReflectliteValue.set UD (by kernel_rfl) (by kernel_rfl) (by kernel_rfl) (by kernel_rfl);have tO:=NL;have mA:=lU;have a25:=C8;have v25:=KI;have f6:=Cu;have f7:=KM;have mK:=su;have mE:=sw;have mI:=lQ;have k27:=KP;have k25:=KO;have e27:=KR;have i25:=vX;have n8:=GR (aD w.heap.size 0) (aD b 0) ((w.alloc (.cells #[pT b] 131)).alloc (.cells #[.pointer (some (aD 5 (131))),pT w.heap.size,uV 150] 219)) (by simp);have hlt:0<w.heap.size:=lt_of_cell hg;unfold nD at hg;have hg2:((w.alloc (.cells #[pT b] 131)).alloc (.cells #[.pointer (some (aD 5 (131))),pT w.heap.size,uV 150] 219)).cell? (aD 0 0)=some (.iface 327 (.agg #[.pointer (some (aD 5 (76)))])):=by rw[aV _ _ (aD 0 0) (by simp),aV _ _ (aD 0 0) hlt];exact hg
 have htl:b<w.heap.size:=lt_of_cell ht0;have el:=RD (aD w.heap.size 0) (aD b 0) (((w.alloc (.cells #[pT b] 131)).alloc (.cells #[.pointer (some (aD 5 (131))),pT w.heap.size,uV 150] 219)).alloc (.cells #[.pointer (some (aD 5 (131))),pT w.heap.size,uV 150] 219)) (by rw[aV _ _ (aD w.heap.size 0) (by simp;omega)];simp);have st:=Zv (aD b 0) (aD (w.heap.size+1+1+1) 0) p old ((((w.alloc (.cells #[pT b] 131)).alloc (.cells #[.pointer (some (aD 5 (131))),pT w.heap.size,uV 150] 219)).alloc (.cells #[.pointer (some (aD 5 (131))),pT w.heap.size,uV 150] 219)).alloc (.cells #[.pointer (some p)] 129)) (by rw[Y1 _ _ _ _ (by simp)];rfl) (by rw[aV _ _ (aD b 0) (by simp;omega),aV _ _ (aD b 0) (by simp;omega),aV _ _ (aD b 0) (by simp;omega),aV _ _ (aD b 0) htl];exact ht0) (by rw[fp _ _ (aD b 0) (by simp;omega),fp _ _ (aD b 0) (by simp;omega),fp _ _ (aD b 0) (by simp;omega),fp _ _ (aD b 0) (ast htl)];exact hf0);go_enter Y4,Us;go_wp2;refine wp_loop_rounds 1 ?_;rw[rounds_succ];go_wp2;go_ret;refine⟨rfl,_,?_,rfl⟩;exact((((aB _ w).alloc (au _) _).alloc (by simp) _).alloc (by simp;omega) _).alloc (by simp;omega) _
theorem C7(fu:Nat)(v:ay)(w:ak):(Cc (fu+1) 129 v "Unwrap").run ah w= .ok (286,v) w:=by kernel_rfl
theorem Vl(v:ay)(xT:dx)(w:ak):(jJ (.iface 129 v) xT 339 true).run ah w= .ok (.tuple #[.nilIface,.bool false]) w:=run_typeAssert_lacksB Tryz.underlying339 (by kernel_rfl) (by kernel_rfl) v xT w
theorem FY(v:ay)(xT:dx)(w:ak):(jJ (.iface 129 v) xT 334 true).run ah w= .ok (.tuple #[.iface 129 v,.bool true]) w:=run_typeAssert_hasB acP (by kernel_rfl) v xT w
theorem aeN(v:ay)(k:Int)(w:ak):(binOp BinOp.eql 76 (.iface 129 v) (.iface 43 (iV k))).run ah w= .ok (.bool false) w:=by kernel_rfl
theorem adr(k t:Int)(b:Nat)(w:ak)(hb:w.heap[b]?=some (.cells #[iV k,iV t] 134 (0,0))):aX ah 70 #[.iface 129 (pT b),.iface 43 (iV k)] w λev w'=>ev= .returned (.bool true)/\aI w.heap.size w w':=by have h10:=@run_callFunc_extern ah 112 _ ReflectliteType.typeOf yi (by kernel_rfl) (by kernel_rfl) (by kernel_rfl) (by kernel_rfl);have h35:=@run_callFunc_extern ah 303 _ (ReflectliteType.method (λt=>do Rtype.noPackHeld "Comparable" t;pure (.bool (←typeInfo t).comparable))) ar7 (by kernel_rfl) (by kernel_rfl) (by kernel_rfl) (by kernel_rfl);have c0:w.cell? (aD b 0)=some (iV k):=aq hb;have tO:=tZ;have mC:=pC;have cN:=vY;have eE:=LS;have eB:=aeN;have n1:=Vl;have n2:=FY;have mU:=C7;clear hb;go_enter awv,arY;go_wp2;refine wp_loop_rounds 2 ?_;rw[rounds_succ];go_wp2;rw[rounds_succ];go_wp2;go_ret;exact⟨rfl,aB _ _⟩
theorem U5(k t:Int)(b:Nat)(w:ak)(hg:nD w)(hb:w.heap[b]?=some (.cells #[iV k,iV t] 134 (0,0))):aX ah 40 #[.iface 129 (pT b)] w λe w'=>e= .returned (.tuple #[iV k,iV t])/\aI w.heap.size w w':=by have HG:=ae hg;have HB:=ae hb;clear hg hb;go_enter Y5,Ut;go_upto_region 5 with fail;have Xe:aI w.heap.size w ((w.alloc (.cells #[.pointer none] 129)).alloc (.cells #[iV 0] 43)):=((aB _ w).alloc (au _) _).alloc (by simp) _;have hb4:((w.alloc (.cells #[.pointer none] 129)).alloc (.cells #[iV 0] 43)).heap[w.heap.size]?=some (.cells #[.pointer none] 129 (0,0)):=(((aB _ _).alloc (au _) (.cells #[iV 0] 43)).block _ (by simp)).trans (heap_alloc_new w (.cells #[.pointer none] 129));generalize((w.alloc (.cells #[.pointer none] 129)).alloc (.cells #[iV 0] 43))=W at*;have HIT:=ae (aaW (aD b 0) w.heap.size _ W (HG.below Xe) (aq (i:=0) hb4) (aU hb4));have PO:=ae Xe;have TK:=ae hb4;clear Xe hb4;go_upto_region 6 with(first|(go_at_call 69;refine HIT.mono ?_;rintro e w2⟨rfl,w3,hb3,rfl⟩;have h34:=(hb3.block _ (lt_of_heap TK)).trans TK;have hw3:aI w.heap.size w (w3.setCell (aD w.heap.size 0) (pT b)):=(PO.trans (hb3.mono PO.size)).setCell (p:=(aD w.heap.size 0)) (au _) _;have hbb:=(hw3.block _ (lt_of_heap HB)).trans HB;have cP:(w3.setCell (aD w.heap.size 0) (pT b)).cell? (aD w.heap.size 0)=some (pT b):=PV _ _ _ (by rw[aq h34];rfl);have cK:(w3.setCell (aD w.heap.size 0) (pT b)).cell? (aD b 0)=some (iV k):=aq hbb;have CU:=ae (aA hw3 hbb);clear hb3 h34 hw3 hbb;generalize w3.setCell (aD w.heap.size 0) (pT b)=W5 at*)|(go_at_call 70;refine(adr k t b _ CU.2).mono ?_;rintro e w4⟨rfl,hb4⟩;have hP:=(hb4.cell (p:=(aD w.heap.size 0)) (lt_of_cell cP)).trans cP;have hbb:=(hb4.block _ (lt_of_heap CU.2)).trans CU.2;have HW4:=ae (aA (CU.1.trans (hb4.mono CU.1.size)) hbb);clear hb4 cP cK;have cP:=hP;have cK:w4.cell? (aD b 0)=some (iV k):=aq hbb;have cT:w4.cell? (aD b 1)=some (iV t):=aq hbb;clear hP hbb));go_quiet(fail);go_wp2_with fail;go_ret2;exact⟨rfl,HW4.1.trans ((Same.drewN _ _).below _)⟩
end Go.Proofs.Ts
namespace Go.Proofs.Tl
open Go Go.RowKit Go.Proofs.Ts
structure iOq (w w':ak):Prop where
 os:w'.os=w.os
 tape:w'.tape=w.tape
 output:w'.output=w.output
theorem iOq.refl(w:ak):iOq w w:=⟨rfl,rfl,rfl⟩
theorem iOq.trans{a b c:ak}(h:iOq a b)(k:iOq b c):iOq a c:=⟨k.os.trans h.os,k.tape.trans h.tape,k.output.trans h.output⟩
theorem iOq.below{B:Nat}{a b:ak}(h:aI B a b):iOq a b:=⟨h.os,h.tape,h.output⟩
theorem iOq.mod{S:Nat->Prop}{a b:ak}(h:Mod S a b):iOq a b:=⟨h.os,h.tape,h.output⟩
structure q8 (M:Nat->Prop) (w w':ak):Prop where
 io:iOq w w'
 size:w.heap.size<=w'.heap.size
 block:∀ k,k < w.heap.size -> ¬ M k->w'.heap[k]?=w.heap[k]?
theorem q8.refl(M:Nat->Prop)(w:ak):q8 M w w:=⟨iOq.refl _,au _,λ_ _ _=>rfl⟩
def TQ(M:Nat->Prop)(X:ak->Prop)(w:ak):Prop:=∀w',q8 M w w'->X w'
section
variable{M M':Nat->Prop}{X Y:ak->Prop}{w w':ak}
theorem TQ.out(h:TQ M X w):X w:=h w (q8.refl _ _)
theorem TQ.wider(h:TQ M X w)(hk:q8 M w w')(hM:∀k,k<w.heap.size->M' k->M k):TQ M' X w':=λw2 h2=>h w2 ⟨hk.io.trans h2.io,aZ hk.size h2.size,λk hl hn=>(h2.block k (bI hl hk.size) λhm=>hn (hM k hl hm)).trans (hk.block k hl hn)⟩
theorem TQ.mono(h:TQ M X w)(f:∀w,X w->Y w):TQ M Y w:=λw2 h2=>f w2 (h w2 h2)
end
inductive Tag where|uK|xs|ms|ns|bs|seg(i:Nat)|known(i:Nat)|real(i:Nat)|want(i:Nat)|QE(i:Nat)|QD(i:Nat)deriving DecidableEq
def Mut(own:Nat->Option Tag)(k:Nat):Prop:=own k≠none
def Fix(ty:Nat):Prop:=Still ty\/ty=24
instance(t:Nat):Decidable (Fix t):=inferInstanceAs(Decidable (_\/_))
def pz(w:ak)(k:Nat):Prop:=∀cs ty r,w.heap[k]?=some (.cells cs ty r)->¬Fix ty
theorem pz.of_block{w w':ak}{k:Nat}(h:pz w k)(hb:w'.heap[k]?=w.heap[k]?):pz w' k:=λcs ty r e=>h cs ty r (hb.symm.trans e)
theorem pz.cells{w:ak}{k:Nat}{cs:Array ay}{ty:dx}{r:Nat×Nat}(h:w.heap[k]?=some (.cells cs ty r))(ht:¬Fix ty):pz w k:=λcs' ty' r' e=>by rw[h]at e;cases e;exact ht
theorem pz.row{w:ak}{B e size n:Nat}{v:ay}{xs:List ay}(h:w.ownsRow B e size v n xs)(he:¬Fix e){k:Nat}(hk:v.ownBlock=some k):pz w k:=by
 rcases h.2 with⟨rfl,_⟩|⟨g,cap,cur,rfl,_,hg,_⟩;·cases hk
 ·cases hk;exact pz.cells hg he
open Classical in noncomputable def drop(T:Tag->Prop)(own:Nat->Option Tag)(k:Nat):Option Tag:=match own k with|some t=>if T t then none else some t|none=>none
theorem BK{T:Tag->Prop}{own:Nat->Option Tag}{k:Nat}(h:own k=none):drop T own k=none:=by unfold drop;rw[h]
theorem XB{T:Tag->Prop}{own:Nat->Option Tag}{k:Nat}{t:Tag}(h:own k=some t)(ht:T t):drop T own k=none:=by unfold drop;rw[h];exact if_pos ht
theorem Qy{T:Tag->Prop}{own:Nat->Option Tag}{k:Nat}{t:Tag}(h:own k=some t)(ht:¬T t):drop T own k=some t:=by unfold drop;rw[h];exact if_neg ht
theorem BH{T:Tag->Prop}{own:Nat->Option Tag}{k:Nat}{t:Tag}(h:drop T own k=some t):own k=some t/\¬T t:=by cases ho:own k with
 |none=>rw[BK ho]at h;cases h|some s=>
  by_cases hs:T s;·rw[XB ho hs]at h;cases h
  ·rw[Qy ho hs]at h;cases h;exact⟨rfl,hs⟩
structure Step (T:Tag->Prop) (w:ak) (own:Nat->Option Tag) (w':ak) (fF:Nat->Option Tag):Prop where
 io:iOq w w'
 size:w.heap.size<=w'.heap.size
 keep:∀ k t,own k=some t -> ¬ T t->fF k=some t/\w'.heap[k]?=w.heap[k]?
 rest:∀ k,k < w.heap.size->own k=none->w'.heap[k]?=w.heap[k]?/\fF k=none
 dom:∀ k,fF k≠none->k < w'.heap.size
 soft:∀ k t,fF k=some t->(own k=some t /\ ¬ T t)\/pz w' k
section
variable{T:Tag->Prop}{w w':ak}{own fF:Nat->Option Tag}
theorem Step.base(hd:∀k,own k≠none->k<w.heap.size)(hs:w.heap.size<=w'.heap.size)(hio:iOq w w')(hk:∀k,k<w.heap.size->(∀t,own k=some t->¬T t)->w'.heap[k]?=w.heap[k]?):Step T w own w' (drop T own):=by refine⟨hio,hs,λk t h ht=>⟨Qy h ht,hk k (hd k (by rw[h];simp)) λs h'=>by rw[h]at h';cases h';exact ht⟩,λk hl h=>⟨hk k hl (λs h'=>by rw[h]at h';cases h'),BK h⟩,λk h=>?_,λk t h=> .inl (BH h)⟩;cases ho:drop T own k with|none=>exact absurd ho h|some t=>exact bI (hd k (by rw[(BH ho).1];simp)) hs
def tagged(own:Nat->Option Tag)(t:Tag)(b:Option Nat)(k:Nat):Option Tag:=if b=some k then some t else own k
theorem Rn{t:Tag}{b:Option Nat}{k:Nat}(h:b=some k):tagged own t b k=some t:=if_pos h
theorem nV{t:Tag}{b:Option Nat}{k:Nat}(h:b≠some k):tagged own t b k=own k:=if_neg h
theorem Step.tag(h:Step T w own w' fF)(t:Tag)(b:Option Nat)(hb:∀k,b=some k->(w.heap.size<=k\/own k=some t)/\k<w'.heap.size/\fF k=none/\pz w' k):Step T w own w' (tagged fF t b):=by
 refine⟨h.io,h.size,λk s hk hs=>?_,λk hl hk=>?_,λk hk=>?_,λk s hk=>?_⟩;·have h1:=h.keep k s hk hs;refine⟨?_,h1.2⟩;rw[nV,h1.1];intro e;have:=(hb k e).2.2.1;rw[h1.1]at this;cases this
 ·have h1:=h.rest k hl hk;refine⟨h1.1,?_⟩;rw[nV,h1.2];intro e;rcases(hb k e).1 with h2|h2;·omega
  ·rw[hk]at h2;cases h2
 ·by_cases e:b=some k;·exact(hb k e).2.1
  ·rw[nV e]at hk;exact h.dom k hk
 ·by_cases e:b=some k;·exact .inr (hb k e).2.2.2
  ·rw[nV e]at hk;exact h.soft k s hk
theorem Step.keeps(h:Step T w own w' fF):q8 (Mut own) w w':=⟨h.io,h.size,λk hl hn=>(h.rest k hl (Classical.not_not.1 hn)).1⟩
theorem Step.box{X:ak->Prop}(h:Step T w own w' fF)(hx:TQ (Mut own) X w):TQ (Mut fF) X w':=hx.wider h.keeps λk hl hm he=>hm (h.rest k hl he).2
theorem Step.still(h:Step T w own w' fF)(hs:∀k,own k≠none->pz w k):tF w w':=λk cs t r hk ht=>(h.rest k (lt_of_heap hk) (dP λhn=>hs k hn cs t r hk (.inl ht))).1
theorem Step.Ky(h:Step T w own w' fF)(hs:∀k,own k≠none->pz w k):∀k,fF k≠none->pz w' k:=λk hk=>by
 obtain⟨t,ht⟩:=Option.ne_none_iff_exists'.1 hk;rcases h.soft k t ht with⟨h1,h2⟩|h1;·exact(hs k (by rw[h1];simp)).of_block (h.keep k t h1 h2).2
 ·exact h1
end
def Zl(w:ak)(k:Nat):Nat:=match w.heap[k]? with|some (.cells _ t _)=>t+1|_=>0
theorem yA{w:ak}{k:Nat}{cs:Array ay}{t:dx}{r:Nat×Nat}(h:w.heap[k]?=some (.cells cs t r)):Zl w k=t+1:=by unfold Zl;rw[h]
theorem Ki{w:ak}{B e size n k:Nat}{v:ay}{xs:List ay}(h:w.ownsRow B e size v n xs)(hk:v.ownBlock=some k):Zl w k=e+1:=by
 rcases h.2 with⟨rfl,_⟩|⟨g,cap,cur,rfl,_,hg,_⟩;·cases hk
 ·cases hk;exact yA hg
theorem Step.make{T:Tag->Prop}{w w':ak}{own:Nat->Option Tag}(hd:∀k,own k≠none->k<w.heap.size)(hs:w.heap.size<=w'.heap.size)(hio:iOq w w')(hk:∀k,k<w.heap.size->(∀t,own k=some t->¬T t)->w'.heap[k]?=w.heap[k]?)(c:Nat->Nat):∀(l:List (Tag×Option Nat×Nat)),(∀p∈l,∀k,p.2.1=some k->(w.heap.size<=k\/(own k=some p.1/\T p.1))/\k<w'.heap.size/\pz w' k/\c k=p.2.2)->(l.map (·.2.2)).Nodup->∃fF,Step T w own w' fF/\(∀p∈l,∀k,p.2.1=some k->fF k=some p.1)/\∀k,fF k≠none->(∃t,own k=some t/\¬T t)\/∃p∈l,p.2.1=some k
 |[],_,_=>⟨_,Step.base hd hs hio hk,(λp hp=>by cases hp),λk h=>by obtain⟨t,ht⟩:=Option.ne_none_iff_exists'.1 h;exact .inl ⟨t,BH ht⟩⟩|p::l,hl,hn=>by
  rw[dM,ajZ]at hn;obtain⟨agP,h1,h2,h3⟩:=Step.make hd hs hio hk c l (λq hq=>hl q (bq _ hq)) hn.2;have hoff:∀k,p.2.1=some k->agP k=none:=λk e=>by
   obtain⟨a1,a2,a3,a4⟩:=hl p bE k e;refine dP λhc=>?_;rcases h3 k hc with⟨t,h4,h5⟩|⟨q,hq,h4⟩;·
    rcases a1 with a1|⟨a1,a5⟩;·have:=hd k (by rw[h4];simp);omega
    ·rw[h4]at a1;cases a1;exact h5 a5
   ·have:=(hl q (bq _ hq) k h4).2.2.2;rw[a4]at this;exact hn.1 (by rw[this];exact List.mem_map.2 ⟨q,hq,rfl⟩)
  refine⟨_,h1.tag p.1 p.2.1 λk e=>?_,λq hq k e=>?_,λk e=>?_⟩;·obtain⟨a1,a2,a3,a4⟩:=hl p bE k e;exact⟨a1.imp id (·.1),a2,hoff k e,a3⟩
  ·rcases List.mem_cons.1 hq with rfl|hq;·exact Rn e
   ·by_cases hp:p.2.1=some k;·have:=hoff k hp;rw[h2 q hq k e]at this;cases this
    ·rw[nV hp];exact h2 q hq k e
  ·by_cases hp:p.2.1=some k;·exact .inr ⟨p,bE,hp⟩
   ·rw[nV hp]at e;rcases h3 k e with h|⟨q,hq,h⟩;·exact .inl h
    ·exact .inr ⟨q,bq _ hq,h⟩
structure Fp where
 sb:Nat
 mb:Nat
 D:List (List (List UInt8))
 kn:ay
structure vg where
 real:ay
 want:ay
 L:List Int
structure vq where
 real:ay
 want:ay
 L:List Int
def aa0(w:ak)(D:List (List (List UInt8)))(db:Nat)(R:Nat->Prop)(Λ:Nat->List fJ)(ρ:Nat->Nat)(Dd:List DS)(pv:ay)(ps:List ay):Prop:=mM w db R Λ ρ Dd/\(Λ 0).Pairwise (λa b=>a<b)/\(∀x,x∈Λ 0↔bU D x≠[])/\(Λ 0).length<=10000/\(∀x∈Λ 0,x.length<=16)/\w.ownsRow 0 24 1 pv (Λ 0).length ps/\∀(i:Nat)v x,ps[i]?=some v->(Λ 0)[i]?=some x->w.ownsRow 0 3 1 v (bU D x).length ((bU D x).map cJ)
def PD(w:ak)(own:Nat->Option Tag)(t:Tag)(e size n:Nat)(v:ay)(xs:List ay):Prop:=w.ownsRow 0 e size v n xs/\∀k,v.ownBlock=some k->own k=some t
theorem PD.step{T:Tag->Prop}{w w':ak}{own fF:Nat->Option Tag}{t:Tag}{e size n:Nat}{v:ay}{xs:List ay}(h:PD w own t e size n v xs)(hs:Step T w own w' fF)(ht:¬T t):PD w' fF t e size n v xs:=⟨aO h.1 λk hk=>(hs.keep k t (h.2 k hk) ht).2,λk hk=>(hs.keep k t (h.2 k hk) ht).1⟩
structure QK (w:ak) (own:Nat->Option Tag) (i:Nat) (e:Fp):Prop where
 ex:∃ db R Λ ρ Dd pv ps,w.heap[e.sb]?=some (Iu e.D.length db pv 0 e.kn)/\TQ (Mut own) (fun w=>aa0 w e.D db R Λ ρ Dd pv ps) w
 tag:own e.sb=some (.seg i)
 agX:∀ k,e.kn = .map (some k)->own k=some (.known i)
 known:JM 0 w e.kn
 index:TQ (Mut own) (fun w=>uD 0 w e.mb e.D) w
 few:e.D.length<=48
theorem Ov{B:Nat}{w w':ak}{kn:ay}(h:JM B w kn)(hs:tF w w')(hm:∀km,kn= .map (some km)->w'.heap[km]?=w.heap[km]?):JM B w' kn:=by
 rcases h with h|⟨km,m,h1,hB,h2,h3,h4⟩;·exact .inl h
 ·exact .inr ⟨km,m,h1,hB,h2.of_block (hm km h1),h3,λq v hv=>by obtain⟨pb,e,hp⟩:=h4 q v hv;exact⟨pb,e,hp.still hs⟩⟩
theorem QK.step{T:Tag->Prop}{w w':ak}{own fF:Nat->Option Tag}{i:Nat}{e:Fp}(h:QK w own i e)(hs:Step T w own w' fF)(hf:∀k,own k≠none->pz w k)(h1:¬T (.seg i))(h2:¬T (.known i)):QK w' fF i e:=by obtain⟨db,R,Λ,ρ,Dd,pv,ps,hb,hr⟩:=h.ex;exact⟨⟨db,R,Λ,ρ,Dd,pv,ps,(hs.keep _ _ h.tag h1).2.trans hb,hs.box hr⟩,(hs.keep _ _ h.tag h1).1,λk hk=>(hs.keep _ _ (h.agX k hk) h2).1,Ov h.known (hs.still hf) λk hk=>(hs.keep _ _ (h.agX k hk) h2).2,hs.box h.index,h.few⟩
structure QM (w:ak) (own:Nat->Option Tag) (i:Nat) (e:vg):Prop where
 real:fV w e.real e.L
 want:fV w e.want e.L
 Ej:∀ k,e.real.ownBlock=some k->own k=some (.real i)
 Bc:∀ k,e.want.ownBlock=some k->own k=some (.want i)
 few:e.L.length<=1000
theorem QM.step{T:Tag->Prop}{w w':ak}{own fF:Nat->Option Tag}{i:Nat}{e:vg}(h:QM w own i e)(hs:Step T w own w' fF)(h1:¬T (.real i))(h2:¬T (.want i)):QM w' fF i e:=⟨h.real.keep λk hk=>(hs.keep _ _ (h.Ej k hk) h1).2,h.want.keep λk hk=>(hs.keep _ _ (h.Bc k hk) h2).2,λk hk=>(hs.keep _ _ (h.Ej k hk) h1).1,λk hk=>(hs.keep _ _ (h.Bc k hk) h2).1,h.few⟩
def u8V(x:Int):ay:= .int .u8 x
def gh(w:ak)(v:ay)(L:List Int):Prop:=w.ownsRow 0 5 1 v L.length (L.map u8V)
structure Q0 (w:ak) (own:Nat->Option Tag) (i:Nat) (e:vq):Prop where
 real:gh w e.real e.L
 want:gh w e.want e.L
 Ej:∀ k,e.real.ownBlock=some k->own k=some (.QE i)
 Bc:∀ k,e.want.ownBlock=some k->own k=some (.QD i)
 few:e.L.length<=1000000
theorem Q0.step{T:Tag->Prop}{w w':ak}{own fF:Nat->Option Tag}{i:Nat}{e:vq}(h:Q0 w own i e)(hs:Step T w own w' fF)(h1:¬T (.QE i))(h2:¬T (.QD i)):Q0 w' fF i e:=⟨aO h.real λk hk=>(hs.keep _ _ (h.Ej k hk) h1).2,aO h.want λk hk=>(hs.keep _ _ (h.Bc k hk) h2).2,λk hk=>(hs.keep _ _ (h.Ej k hk) h1).1,λk hk=>(hs.keep _ _ (h.Bc k hk) h2).1,h.few⟩
def numCells(N:List vg):List ay:=N.flatMap λe=>[e.real,e.want]
def tD(N:List vq):List ay:=N.flatMap λe=>[e.real,e.want]
theorem Bo{α:Type}(f g:α->ay):∀(N:List α)(i:Nat)(e:α),N[i]?=some e->(N.flatMap λe=>[f e,g e])[2*i]?=some (f e)/\(N.flatMap λe=>[f e,g e])[2*i+1]?=some (g e)
 |[],i,e,h=>by simp at h|a::N,0,e,h=>by simp at h;subst h;simp|a::N,i+1,e,h=>by
  have ih:=Bo f g N i e (by simpa using h);have e1:2*(i+1)=2*i+1+1:=by omega
  rw[List.flatMap_cons,e1];simpa using ih
structure lu (w:ak) (own:Nat->Option Tag) (wb:Nat) (S:List Fp) (N:List vg) (Bs:List vq) (Env:ak->Prop):Prop where
 dom:∀ k,own k≠none->k < w.heap.size
 soft:∀ k,own k≠none->pz w k
 env:TQ (Mut own) Env w
 tag:own wb=some .uK
 uK:∃ xv mv nv bv,w.heap[wb]?=some (.cells #[xv,mv,nv,bv] 32 (0,0)) /\
  PD w own .xs 49 1 S.length xv (S.map fun e=>aP e.sb)/\PD w own .ms 50 1 S.length mv (S.map fun e=>aP e.mb) /\
  PD w own .ns 64 2 N.length nv (numCells N)/\PD w own .bs 67 2 Bs.length bv (tD Bs)
 NJ:∀ i e,S[i]?=some e->QK w own i e
 nums:∀ i e,N[i]?=some e->QM w own i e
 Gp:∀ i e,Bs[i]?=some e->Q0 w own i e
theorem lu.below{w w':ak}{own:Nat->Option Tag}{wb:Nat}{S:List Fp}{N:List vg}{Bs:List vq}{Env:ak->Prop}(h:lu w own wb S N Bs Env)(hb:aI w.heap.size w w'):∃fF,lu w' fF wb S N Bs Env:=by have hs:=Step.base (T:=λ_=>False) h.dom hb.size (iOq.below hb) λk hk _=>hb.block k hk;obtain⟨xv,mv,nv,bv,h1,h2,h3,h4,h5⟩:=h.uK;exact⟨_,hs.dom,hs.Ky h.soft,hs.box h.env,(hs.keep _ _ h.tag id).1,⟨xv,mv,nv,bv,(hs.keep _ _ h.tag id).2.trans h1,h2.step hs id,h3.step hs id,h4.step hs id,h5.step hs id⟩,λi e he=>(h.NJ i e he).step hs h.soft id id,λi e he=>(h.nums i e he).step hs id id,λi e he=>(h.Gp i e he).step hs id id⟩
def gw(n:Nat)(w:ak)(wb:Nat)(Env:ak->Prop):Prop:=∃own S N Bs,S.length<=n/\N.length<=n/\Bs.length<=n/\lu w own wb S N Bs Env
theorem gw.below{n:Nat}{w w':ak}{wb:Nat}{Env:ak->Prop}(h:gw n w wb Env)(hb:aI w.heap.size w w'):gw n w' wb Env:=by obtain⟨own,S,N,Bs,h1,h2,h3,h4⟩:=h;obtain⟨fF,h5⟩:=h4.below hb;exact⟨fF,S,N,Bs,h1,h2,h3,h5⟩
theorem gw.mono{n m:Nat}{w:ak}{wb:Nat}{Env:ak->Prop}(h:gw n w wb Env)(hm:n<=m):gw m w wb Env:=by obtain⟨own,S,N,Bs,h1,h2,h3,h4⟩:=h;exact⟨own,S,N,Bs,by omega,by omega,by omega,h4⟩
theorem gw.env{n:Nat}{w:ak}{wb:Nat}{Env:ak->Prop}(h:gw n w wb Env):Env w:=by obtain⟨own,S,N,Bs,h1,h2,h3,h4⟩:=h;exact h4.env.out
theorem SX{B:Nat}{w w':ak}{sb:Nat}{D:List (List (List UInt8))}{kn:ay}(h:sG B w sb D kn)(hb:aI w.heap.size w w'):sG B w' sb D kn:=by obtain⟨db,R,Λ,ρ,Dd,pv,ps,h1,h2⟩:=h;have hat:Fq w sb D kn db R Λ ρ Dd pv ps:=h2;exact⟨db,R,Λ,ρ,Dd,pv,ps,h1,hat.below hb⟩
theorem Xx{B C:Nat}{w:ak}{sb:Nat}{D:List (List (List UInt8))}{kn:ay}(h:sG B w sb D kn)(hb:C<=B):sG C w sb D kn:=by obtain⟨db,R,Λ,ρ,Dd,pv,ps,h1,h2⟩:=h;exact⟨db,R,Λ,ρ,Dd,pv,ps,λv hv k hk=>aZ hb (h1 v hv k hk),h2⟩
theorem LR{B:Nat}{w w':ak}{sb:Nat}{D:List (List (List UInt8))}{kn:ay}(h:sG B w sb D kn)(hk:∀(k:Nat)cs t r,w.heap[k]?=some (.cells cs t r)->t≠9->w'.heap[k]?=w.heap[k]?):sG B w' sb D kn:=by obtain⟨db,R,Λ,ρ,Dd,pv,ps,h0,h1,h2,h3,h4,h5,h6,h7,h8⟩:=h;exact⟨db,R,Λ,ρ,Dd,pv,ps,h0,(hk _ _ _ _ h1 (by decide)).trans h1,h2.Il hk,h3,h4,h5,h6,bT h7 λk cs r hk'=>hk k cs _ r hk' (by decide),λi v x hv hx=>bT (h8 i v x hv hx) λk cs r hk'=>hk k cs _ r hk' (by decide)⟩
def acN(docs:List ByteArray)(w w':ak)(sv ev:ay):Prop:=(eX docs≠0/\sv= .pointer none/\ev=Xy (eX docs))\/(eX docs=0/\ev= .nilIface/\∃sb,sv=aP sb/\w.heap.size<=sb/\sG w.heap.size w' sb (docs.map dc) (.map none))
theorem Hi:∀(docs:List ByteArray),∃m,m<=docs.length/\(∀d∈docs.take m,d.size<=200)/\∀h:m<docs.length,200<docs[m].size
 |[]=>⟨0,au _,by simp,λh=>by simp at h⟩|d::ds=>by
  by_cases h:200<d.size;·exact⟨0,aW _,by simp,λ_=>h⟩
  ·obtain⟨m,h1,h2,h3⟩:=Hi ds;refine⟨m+1,by simp;omega,λx hx=>?_,λhm=>h3 (by simpa using hm)⟩;rw[List.take_succ_cons,ql]at hx;rcases hx with rfl|hx;·omega
   ·exact h2 x hx
theorem Th(docs:List ByteArray)(v:ay)(w:ak)(hv:jU w v docs):aX ah 61 #[v] w λe w'=>aI w.heap.size w w'/\∃sv ev,e= .returned (.tuple #[sv,ev])/\acN docs w w' sv ev:=by
 by_cases h48:48<docs.length;·
  have hn:eX docs=1:=by unfold eX;rw[if_pos h48]
  obtain⟨a0,tC,rfl,hc⟩:=hv;clear hc;go_enter aww,arZ;go_wp2_with fail;go_ret2;exact⟨aB _ _,_,_,rfl,.inl ⟨by rw[hn];decide,rfl,by rw[hn];rfl⟩⟩
 ·obtain⟨m,hm,h1,h2⟩:=Hi docs;refine(Ti docs v w hv (by omega) m hm h1 h2).mono ?_;rintro e w'⟨hb,⟨he,sb,rfl,h3,h4⟩|⟨hlt,rfl⟩⟩;·
   have hall:∀d∈docs,d.size<=200:=by rw[he,dH]at h1;exact h1
   have hn:eX docs=0:=by unfold eX;rw[if_neg h48,if_neg];rintro⟨d,hd,h⟩;have:=hall d hd;omega
   exact⟨hb,_,_,rfl,.inr ⟨hn,rfl,sb,rfl,h3,h4⟩⟩
  ·have hn:eX docs=2:=by unfold eX;rw[if_neg h48,if_pos ⟨docs[m],eu hlt,h2 hlt⟩]
   exact⟨hb,_,_,rfl,.inl ⟨by rw[hn];decide,rfl,by rw[hn];rfl⟩⟩
theorem Es(docs:List ByteArray)(v:ay)(w:ak)(hv:jU w v docs)(hl:docs.length<=1000000)(hg:nD w):aX ah 34 #[v] w λe w'=>aI w.heap.size w w'/\∃sv ev,e= .returned (.tuple #[sv,iV (eX docs),.bool true])/\acN docs w w' sv ev:=by
 obtain⟨a,cap,rfl,hc⟩:=hv;obtain⟨i0,hi,hz0,hz1,hz2⟩:=info_parts Tryz.Qh;have HC:=ae hc;have HG:=ae hg;obtain⟨bn,hbn⟩:∃bn,bn=eX docs:=⟨_,rfl⟩;rw[<-hbn];have Um:=ae hbn;clear hc hg hbn;go_enter Tryz.func34,Tryz.ntmps34;go_wp2_with(at_builtin;refine yw rfl _ _ 35 rfl 9 i0 (.string ⟨#[]⟩) 1 16 ie hi hz0 hz1 hz2 rfl (by decide) rfl a docs.length cap (docs.map DM) rfl (by simp) ?c1 (by simp[dN]) (by unfold maxLen;omega) (by omega) ?_);case c1=>
  intro j u hj;rw[bp]at hj;obtain⟨d,hd,rfl⟩:=Option.map_eq_some_iff.1 hj;obtain⟨hjl,hd⟩:=List.getElem?_eq_some_iff.1 hd;obtain⟨b,off,rfl,hcell⟩:=HC.out j hjl;refine⟨_,rfl,?_⟩;rw[<-hd];by_cases h0:j=0;·subst h0;simpa[iU]using hcell
  ·simpa[iU,h0]using hcell
 intro ov w1 hrow hb1 mZ;have hs1:=IJ hrow;obtain⟨oa,oc,rfl⟩:=ownsRow_form hrow;have vp:=ae hrow;have jG:=ae hb1;have HP:=ae mZ;clear hrow hb1 mZ hi hz0 hz1 hz2;go_wp2_with fail;refine(Th docs _ w1 hs1).mono ?_;rintro e w2⟨hb2,sv,ev,rfl,WG⟩;have kN:=ae hb2;have ju:=ae WG;have htold:aX ah 40 #[ev] w2 λe w'=>e= .returned (.tuple #[iV (eX docs),iV (-1)])/\aI w2.heap.size w2 w':=by
  rcases WG with⟨h1,_,rfl⟩|⟨h1,rfl,_⟩;·exact yB _ w2 ((HG.below jG).below kN)
  ·rw[h1];exact Kk w2
 have acx:=ae htold;clear hs1 hb2 WG htold;rw[<-Um]at acx;go_wp2_with fail;refine acx.mono ?_;rintro e w3⟨rfl,hb3⟩;have Dq:=ae hb3;clear hb3;go_wp2_with fail;have aex:aI w1.heap.size w1 w3:=kN.trans (Dq.mono kN.size);have hown:Ts.Own (.slice oa docs.length oc) docs w3 0 w3:=⟨Mod.refl _ _,λog ho=>by
 rcases vp.2 with⟨h,_⟩|⟨g,cap',cur,h,_,hg,_,_,hcs,htake⟩;·rw[h]at ho;cases ho
 ·rw[h]at ho;cases ho;refine⟨cur,(aex.block _ (lt_of_heap hg)).trans hg,λj hj _=>?_⟩;have h1:(docs.map DM)[j]?=some (.string docs[j]):=by simp[hj]
  rw[<-htake]at h1;rw[vK (by simp;omega)]at h1;simpa using h1⟩;have HOWN:=ae hown;have Yv:=ae aex;clear hown aex;go_loopw[10,26](λsm i wr=>∃k:Nat,k<=docs.length/\i= .int .i64 k/\sm= .bool true/\Hid (Ts.Own (.slice oa docs.length oc) docs w3 k wr))(λ_ i _=>docs.length-(intOf i).toNat);case atStart=>exact⟨0,aW _,rfl,rfl,HOWN⟩
 case round=>
  obtain⟨k,hk,rfl,rfl,HO⟩:=hrel;by_cases hlt:k<docs.length;·
   obtain⟨b,off,rfl,hcell⟩:=HC.out k hlt;obtain⟨g,cap',e,_⟩:=dh vp.out (j:=k) (u:= .string docs[k]) (by simp[hlt]);simp only[bA,true_and]at e;obtain⟨rfl,rfl⟩:=e;have hgw:w.heap.size<=g:=HP g rfl;have hbl:=lt_of_cell hcell;have hs1:=jG.size;have hs3:=Yv.size;obtain⟨cur,qP,hrest⟩:=HO.2 g rfl;have c1:wr.cell? (aD b (off+k))=some (.string docs[k]):=by have h1:=(jG.cell (p:=(aD b (off+k))) hbl).trans hcell;have h2:=(Yv.cell (p:=(aD b (off+k))) (by simp only;omega)).trans h1;exact(HO.1.cell (p:=(aD b (off+k))) (by simp only;omega) (λh=>by have h9:g=b:=aJ h;omega)).trans h2
   have c2:wr.cell? (aD g k)=some (.string docs[k]):=(aq qP).trans (hrest k hlt (au _));have c3:wr.frozen? (aD g k)=false:=aU qP;have q1:(docs[k]==docs[k])=true:=by rw[beq_toListBytes];simp
   clear hcell hrest;go_wp2_with fail;go_quiet(fail);go_wp2_with fail;exact⟨⟨k+1,by omega,by go_num,rfl,(HO.same (Same.drewN _ _)).step rfl⟩,by simp[intOf];omega⟩
  ·obtain rfl:k=docs.length:=by omega
   go_wp2_with fail;go_ret3;have hs1:=jG.size;have hs3:=Yv.size;have hmod:=HO.1;refine⟨(jG.trans (Yv.mono hs1)).trans (hmod.toBelow (by omega) λk h=>HP k h),sv,ev,rfl,?_⟩;rcases ju.out with⟨h1,h2,h3⟩|⟨h1,h2,sb,h3,h4,h5⟩;·exact .inl ⟨h1,h2,h3⟩
   ·refine .inr ⟨h1,h2,sb,h3,by omega,LR (SX (Xx h5 hs1) Dq) λk cs t r h ht=>hmod.block k (lt_of_heap h) λho=>ht ?_⟩;obtain⟨cur,qP⟩:=Ev vp ho;have aca:=(Yv.block _ (lt_of_heap qP)).trans qP;rw[h]at aca;cases aca;rfl
def ErrAt(w:ak):Prop:=nD w/\∃cs t r,w.heap[0]?=some (.cells cs t r)/\t≠168
theorem ErrAt.kept{w w':ak}(h:ErrAt w)(hb:w'.heap[0]?=w.heap[0]?):ErrAt w':=by obtain⟨h1,cs,t,r,h2,h3⟩:=h;exact⟨(fq (a:=(aD (0) 0)) hb).trans h1,cs,t,r,hb.trans h2,h3⟩
theorem cz{w:ak}{B e size n k:Nat}{v:ay}{xs:List ay}(h:w.ownsRow B e size v n xs)(hk:v.ownBlock=some k){cs:Array ay}{t:dx}{r:Nat×Nat}(hc:w.heap[k]?=some (.cells cs t r)):t=e:=by
 rcases h.2 with⟨rfl,_⟩|⟨g,cap,cur,rfl,_,hg,_⟩;·cases hk
 ·cases hk;rw[hg]at hc;cases hc;rfl
theorem Tryz.adw:(Tryz.prog.info? 49).map (λi=>(i.zero,i.size,i.bytes))=some (some (.pointer none),1,8):=by kernel_rfl
theorem Tryz.adu:(Tryz.prog.info? 50).map (λi=>(i.zero,i.size,i.bytes))=some (some (.pointer none),1,8):=by kernel_rfl
theorem gh.cellAt{w:ak}{v:ay}{L:List Int}(h:gh w v L){i:Nat}(hi:i<L.length):∃g cap,v=sL g L.length cap/\w.cell? (aD g i)=some (.int .u8 (L.getD i 0))/\w.frozen? (aD g i)=false:=by
 rcases h.2 with⟨_,h0⟩|⟨g,cap,cur,rfl,_,hg,_⟩;·omega
 ·refine⟨g,cap,rfl,?_,aU hg⟩;have:=h.cells (g:=g) rfl i (u8V (L.getD i 0)) (by rw[bp,ar hi,aw,ar hi];rfl);rcases yj i with rfl|h0;·simpa[iU,u8V]using this
  ·simpa[iU,asu h0,u8V]using this
theorem FX(L:List Int)(va vb:ay)(w:ak)(ha:gh w va L)(hb:gh w vb L)(hla:L.length<=1000000):aX ah 33 #[va,vb] w λe w'=>e= .returned (.bool true)/\Same w w':=by
 obtain⟨aa,ac,rfl⟩:=ownsRow_form ha;obtain⟨ba,bc,rfl⟩:=ownsRow_form hb;have HA:=ae ha;have HB:=ae hb;clear ha hb;go_enter Tryz.func33,Tryz.ntmps33;go_wp2_with fail;go_loopw[5](λiv wr=>∃i:Nat,i<=L.length/\iv= .int .i64 (i:Int)/\Hid (Same w wr))(λiv _=>L.length-(intOf iv).toNat);case atStart=>exact⟨0,aW _,rfl,ae (Same.refl _)⟩
 case round=>
  obtain⟨i,MS,rfl,HO⟩:=hrel;have q1:IntKind.i64.wrap ((i:Int)+1)=(i:Int)+1:=aK _ (by omega);by_cases hil:i<L.length;·
   obtain⟨ga,cpa,ea,O9,_⟩:=HA.cellAt hil;simp only[bA]at ea;obtain⟨rfl,_,rfl⟩:=ea;obtain⟨gb,cpb,eb,XH,_⟩:=HB.cellAt hil;simp only[bA]at eb;obtain⟨rfl,_,rfl⟩:=eb;have ca:=(HO.cell (aD ga i)).trans O9;have cb:=(HO.cell (aD gb i)).trans XH;have zi:(0:Int)<=(i:Int)/\(i:Int)<(L.length:Int):=by omega
   clear O9 XH;generalize L.getD i 0=Av at*;go_upto_region 6 with fail;go_quiet(fail);go_wp2_with fail;go_roundw;case rel=>exact⟨i+1,by omega,by go_num,ae (HO.trans (Same.drewN _ _))⟩
   case measure=>(simp[intOf])<;>omega
  ·obtain rfl:i=L.length:=by omega
   go_wp2_with fail;go_ret;exact⟨rfl,HO⟩
theorem Ex{w:ak}{nv:ay}{N:List vg}(h:w.ownsRow 0 64 2 nv N.length (numCells N)){i:Nat}{e:vg}(he:N[i]?=some e):∃g cap,nv=sL g N.length cap/\w.cell? (aD g (2*i))=some e.real/\w.cell? (aD g (2*i+1))=some e.want:=by obtain⟨p1,p2⟩:=Bo vg.real vg.want N i e he;obtain⟨g,cap,e1,c1⟩:=dh h (j:=2*i) p1;obtain⟨g',cap',e2,c2⟩:=dh h (j:=2*i+1) p2;rw[e1]at e2;simp only[bA,vI,agD,and_true,true_and]at e2;obtain⟨rfl,rfl⟩:=e2;exact⟨g,cap,e1,c1,c2⟩
theorem Fb{w:ak}{nv:ay}{N:List vq}(h:w.ownsRow 0 67 2 nv N.length (tD N)){i:Nat}{e:vq}(he:N[i]?=some e):∃g cap,nv=sL g N.length cap/\w.cell? (aD g (2*i))=some e.real/\w.cell? (aD g (2*i+1))=some e.want:=by obtain⟨p1,p2⟩:=Bo vq.real vq.want N i e he;obtain⟨g,cap,e1,c1⟩:=dh h (j:=2*i) p1;obtain⟨g',cap',e2,c2⟩:=dh h (j:=2*i+1) p2;rw[e1]at e2;simp only[bA,vI,agD,and_true,true_and]at e2;obtain⟨rfl,rfl⟩:=e2;exact⟨g,cap,e1,c1,c2⟩
theorem R7(own:Nat->Option Tag)(wb:Nat)(S:List Fp)(N:List vg)(Bs:List vq)(Env:ak->Prop)(w:ak)(hp:lu w own wb S N Bs Env)(hN:N.length<=1000000)(hB:Bs.length<=1000000):aX ah 14 #[aP wb] w λe w'=>e= .returned (.bool true)/\Same w w':=by
 obtain⟨xv,mv,nv,bv,h1,_,_,h4,h5⟩:=hp.uK;obtain⟨na,nc,rfl⟩:=ownsRow_form h4.1;obtain⟨ba,bc,rfl⟩:=ownsRow_form h5.1;have c2:w.cell? (aD wb 2)=some (.slice na N.length nc):=aq h1;have c3:w.cell? (aD wb 3)=some (.slice ba Bs.length bc):=aq h1;have HN:=ae h4.1;have HBY:=ae h5.1;have HNU:=ae hp.nums;have QV:=ae hp.Gp;clear h1 h4 h5 hp;unfold aP;go_enter Tryz.func14,Tryz.ntmps14;go_wp2_with fail;go_loopw[3](λiv wr=>∃i:Nat,i<=N.length/\iv= .int .i64 (i:Int)/\Hid (Same w wr))(λiv _=>N.length-(intOf iv).toNat);case atStart=>exact⟨0,aW _,rfl,ae (Same.refl _)⟩
 case round=>
  obtain⟨i,MS,rfl,HO⟩:=hrel;have q1:IntKind.i64.wrap ((i:Int)+1)=(i:Int)+1:=aK _ (by omega);have d2:=(HO.cell (aD wb 2)).trans c2;have d3:=(HO.cell (aD wb 3)).trans c3;by_cases hil:i<N.length;·
   obtain⟨e,he⟩:∃e,N[i]?=some e:=⟨_,ar hil⟩;obtain⟨g,cap,e1,k1,k2⟩:=Ex HN.out he;simp only[bA,true_and]at e1;obtain⟨rfl,rfl⟩:=e1;have zi:(0:Int)<=(i:Int)/\(i:Int)<(N.length:Int):=by omega
   have z2:i*2=2*i:=by omega
   have d4:=(HO.cell (aD g (2*i))).trans k1;have d5:=(HO.cell (aD g (2*i+1))).trans k2;have hok:=HNU i e he;have hsame:=λW(hW:Same w W)=>Iw e.L e.real e.want W (hok.real.keep λk _=>by rw[hW.heap]) (hok.want.keep λk _=>by rw[hW.heap]) (by have:=hok.few;omega);obtain⟨ra,rc,YJ⟩:=ownsRow_form hok.real;obtain⟨va,vc,Z0⟩:=ownsRow_form hok.want;rw[YJ]at d4 hsame;rw[Z0]at d5 hsame;have X8:=ae hsame;clear hok hsame YJ Z0 k1 k2 he;go_upto_region 4 with fail;go_quiet((go_at_call 32;exact Bk (X8 _ (HO.trans (Same.drewN _ _)))));go_wp2_with fail;go_roundw;case rel=>exact⟨i+1,by omega,by go_num,ae (HO.trans (Same.drewN _ _))⟩
   case measure=>(simp[intOf])<;>omega
  ·obtain rfl:i=N.length:=by omega
   go_wp2_with fail;go_loopw[5](λiv wr=>∃i:Nat,i<=Bs.length/\iv= .int .i64 (i:Int)/\Hid (Same w wr))(λiv _=>Bs.length-(intOf iv).toNat);case atStart=>exact⟨0,aW _,rfl,HO⟩
   case round=>
    obtain⟨i,MS,rfl,HO⟩:=hrel;have q1:IntKind.i64.wrap ((i:Int)+1)=(i:Int)+1:=aK _ (by omega);have d3:=(HO.cell (aD wb 3)).trans c3;by_cases hil:i<Bs.length;·
     obtain⟨e,he⟩:∃e,Bs[i]?=some e:=⟨_,ar hil⟩;obtain⟨g,cap,e1,k1,k2⟩:=Fb HBY.out he;simp only[bA,true_and]at e1;obtain⟨rfl,rfl⟩:=e1;have zi:(0:Int)<=(i:Int)/\(i:Int)<(Bs.length:Int):=by omega
     have z2:i*2=2*i:=by omega
     have d4:=(HO.cell (aD g (2*i))).trans k1;have d5:=(HO.cell (aD g (2*i+1))).trans k2;have hok:=QV i e he;have hsame:=λW(hW:Same w W)=>FX e.L e.real e.want W (aO hok.real λk _=>by rw[hW.heap]) (aO hok.want λk _=>by rw[hW.heap]) (by have:=hok.few;omega);obtain⟨ra,rc,YJ⟩:=ownsRow_form hok.real;obtain⟨va,vc,Z0⟩:=ownsRow_form hok.want;rw[YJ]at d4 hsame;rw[Z0]at d5 hsame;have X8:=ae hsame;clear hok hsame YJ Z0 k1 k2 he;go_upto_region 10 with fail;go_quiet((go_at_call 33;go_must(exact Bk (X8 _ (HO.trans (Same.drewN _ _))))));go_wp2_with fail;go_roundw;case rel=>exact⟨i+1,by omega,by go_num,ae (HO.trans (Same.drewN _ _))⟩
     case measure=>(simp[intOf])<;>omega
    ·obtain rfl:i=Bs.length:=by omega
     go_wp2_with fail;go_ret;exact⟨rfl,HO⟩
theorem G6{w w0 w':ak}{v v':ay}(h:JL w w' v v')(hs:w0.heap.size<=w.heap.size):∀k,v'.ownBlock=some k->v.ownBlock=some k\/w0.heap.size<=k:=λk hk=>by
 rcases h with⟨h1,_⟩|⟨h1,_⟩;·exact .inl (h1.symm.trans hk)
 ·rw[hk]at h1;have:=aJ h1;right;omega
theorem Wd(sb mb wb n:Nat)(xv mv nv bv:ay)(xs ms:List ay)(w:ak)(hn:n<=1000000)(uK:w.heap[wb]?=some (.cells #[xv,mv,nv,bv] 32 (0,0)))(hx:w.ownsRow 0 49 1 xv n xs)(hm:w.ownsRow 0 50 1 mv n ms):aX ah 36 #[aP wb,aP sb,aP mb] w λe w'=>e= .returned (.tuple #[])/\∃TU TW,w'.heap[wb]?=some (.cells #[TU,TW,nv,bv] 32 (0,0))/\w'.ownsRow 0 49 1 TU (n+1) (xs++[aP sb])/\(∀k,TU.ownBlock=some k->xv.ownBlock=some k\/w.heap.size<=k)/\w'.ownsRow 0 50 1 TW (n+1) (ms++[aP mb])/\(∀k,TW.ownBlock=some k->mv.ownBlock=some k\/w.heap.size<=k)/\Mod (λk=>k=wb\/xv.ownBlock=some k\/mv.ownBlock=some k) w w':=by
 obtain⟨i0,hi,hz0,hz1,hz2⟩:=info_parts Tryz.adw;obtain⟨i1,hi1,hw0,hw1,hw2⟩:=info_parts Tryz.adu;obtain⟨xa,xc,rfl⟩:=ownsRow_form hx;obtain⟨ma,mc,rfl⟩:=ownsRow_form hm;have HX:=ae hx;have HM:=ae hm;have HUB:=ae uK;have c0:w.cell? (aD wb 0)=some (.slice xa n xc):=aq uK;have YU:=ae (hx.alloc (.cells #[aP sb] 49));have HUA:Hid ((w.alloc (.cells #[aP sb] 49)).heap[wb]?=some (.cells #[.slice xa n xc,.slice ma n mc,nv,bv] 32 (0,0))):=ae ((aC w _ wb (lt_of_heap uK)).trans uK);unfold aP at*;go_enter Tryz.func36,Tryz.ntmps36;go_upto_region 1 with(at_builtin;refine wpList_append_lies rfl _ _ 27 rfl 49 i0 (.pointer none) 1 8 Tryz.underlying27 hi hz0 hz1 hz2 rfl (by decide) (.slice xa n xc) n xs rfl YU.out (aD w.heap.size 0) 1 1 [pT sb] rfl rfl (cell_one_new w _ _) (by simp[dN]) (by decide) (by unfold maxLen;omega) (by omega) ?_;intro nv5 w5 lN MT hl5;obtain⟨g5,vd,rfl⟩:=bX lN;have YV:=ae lN;have HG5:=ae MT;have HL5:=ae hl5;have adE:=(HG5.block wb (lt_of_heap HUA.out) (λe=>by have:=cz YU.out e.symm HUA.out;revert this;decide)).trans HUA.out;have f5:w5.frozen? (aD wb 0)=false:=aU adE;have c5:w5.cell? (aD wb 0)=some (.slice xa n xc):=aq adE;have ajf:=ae adE);have alH:=heap_setCell_same w5 wb 0 _ _ (sL g5 (n+1) vd) ajf;have hne:g5≠wb:=λe=>by subst e;have:=cz YV rfl ajf;revert this;decide
 have Ga:(w5.setCell (aD wb 0) (sL g5 (n+1) vd)).ownsRow 0 49 1 (sL g5 (n+1) vd) (n+1) (xs++[pT sb]):=aO YV λk e=>az w5 _ _ k λe'=>hne ((aJ e).trans e');have Dg:(w5.setCell (aD wb 0) (sL g5 (n+1) vd)).ownsRow 0 50 1 (.slice ma n mc) n ms:=aO HM λk hk=>by
  obtain⟨_,hkl⟩:=HM.lt k hk;have hk1:k≠wb:=λe=>by subst e;have:=cz HM hk HUB;revert this;decide
  rw[az w5 _ _ k hk1,HG5.block k (by simp;omega) (λe=>by obtain⟨cur,qP⟩:=ct HX e.symm;have:=cz HM hk qP;revert this;decide),aC w _ k hkl]
 have HMO:Hid (Mod (λk=>k=wb\/(cY xa n xc).ownBlock=some k\/(cY ma n mc).ownBlock=some k) w (w5.setCell (aD wb 0) (sL g5 (n+1) vd))):=ae ((fo ((aB w.heap.size w).alloc (au _) _)).trans ((Mod.grown HG5 λk e _=> .inr (.inl e)).trans (Mod.setCell w5 _ _ λ_=> .inl rfl)));have HPX:=ae (G6 (w0:=w) HL5.out (by simp));have alM:=HMO.size;have aa6:=ae alH;have HR6:=ae Ga;have YW:=ae Dg;generalize(w5.setCell (aD wb 0) (sL g5 (n+1) vd))=w6 at*;have c1:w6.cell? (aD wb 1)=some (.slice ma n mc):=aq aa6;have YU:=ae (YW.alloc (.cells #[pT mb] 50));have hua:(w6.alloc (.cells #[pT mb] 50)).heap[wb]?=some (.cells #[sL g5 (n+1) vd,.slice ma n mc,nv,bv] 32 (0,0)):=(aC w6 _ wb (lt_of_heap aa6)).trans aa6;have HUA:=ae hua;go_wp2_with(at_builtin;refine wpList_append_lies rfl _ _ 28 rfl 50 i1 (.pointer none) 1 8 Tryz.underlying28 hi1 hw0 hw1 hw2 rfl (by decide) (.slice ma n mc) n ms rfl YU.out (aD w6.heap.size 0) 1 1 [pT mb] rfl rfl (cell_one_new w6 _ _) (by simp[dN]) (by decide) (by unfold maxLen;omega) (by omega) ?_;intro nv7 w7 mQ hg7 hl7;obtain⟨g7,Mb,rfl⟩:=bX mQ;have HR7:=ae mQ;have YY:=ae hg7;have HL7:=ae hl7;have adD:=(YY.block wb (lt_of_heap HUA.out) (λe=>by have:=cz YU.out e.symm HUA.out;revert this;decide)).trans HUA.out;have f7:w7.frozen? (aD wb 1)=false:=aU adD;have c7:w7.cell? (aD wb 1)=some (.slice ma n mc):=aq adD;have aje:=ae adD);refine bodyPost_end (results_none rfl _ _ _) rfl ?_;have alG:=heap_setCell_same w7 wb 1 _ _ (sL g7 (n+1) Mb) aje;have hne:g7≠wb:=λe=>by subst e;have:=cz HR7 rfl aje;revert this;decide
 refine⟨rfl,sL g5 (n+1) vd,sL g7 (n+1) Mb,alG,?_,HPX,aO HR7 λk e=>az w7 _ _ k λe'=>hne ((aJ e).trans e'),λk hk=>?_,?_⟩;·
  refine aO HR6 λk hk=>?_;obtain⟨_,hkl⟩:=HR6.lt k hk;have hk1:k≠wb:=λe=>by subst e;have:=cz HR6 hk aa6;revert this;decide
  rw[az w7 _ _ k hk1,YY.block k (by simp;omega) (λe=>by obtain⟨cur,qP⟩:=ct YW e.symm;have:=cz HR6 hk qP;revert this;decide),aC w6 _ k hkl]
 ·exact G6 HL7.out (by simp;omega) k hk
 ·exact HMO.trans ((fo ((aB w6.heap.size w6).alloc (au _) _)).trans ((Mod.grown YY λk e _=> .inr (.inr e)).trans (Mod.setCell w7 _ _ λ_=> .inl rfl)))
structure qf where
 kind:Int
 a:Int
 b:Int
 c:Int
 qk:Int
 qa:List UInt8
 qb:List UInt8
 qn:Int
 dv:ay
 docs:List ByteArray
 s:List UInt8
def qf.cells(o:qf):Array ay:=#[.int .i64 o.kind,.int .i64 o.a,.int .i64 o.b,.int .i64 o.c,.int .i64 o.qk,dC o.qa,dC o.qb,.int .i64 o.qn,o.dv,dC o.s]
def MO(o:qf):ay:= .agg o.cells
def I64(x:Int):Prop:=-9223372036854775808<=x/\x<=9223372036854775807
structure qf.Fits (o:qf):Prop where
 kind:I64 o.kind
 a:I64 o.a
 b:I64 o.b
 c:I64 o.c
 qk:I64 o.qk
 qn:I64 o.qn
theorem Og(o:qf)(wb:Nat)(w:ak)(N Bs:Nat)(xv mv:ay)(na ba:Option jK)(nc bc:Nat)(uK:w.heap[wb]?=some (.cells #[xv,mv,.slice na N nc,.slice ba Bs bc] 32 (0,0)))(h1:o.kind=10->N=0)(h2:o.kind=11->Bs=0):aX ah 20 #[aP wb,MO o] w λe w'=>e= .returned (.tuple #[])/\aI w.heap.size w w':=by
 obtain⟨kd,oa,ob,oc,qk,qa,qb,qn,dv,docs,os⟩:=o;simp only at h1 h2;have HB:=ae ((aB w.heap.size w).alloc (au _) (.cells (qf.mk kd oa ob oc qk qa qb qn dv docs os).cells 37));have EF:(w.alloc (.cells (qf.mk kd oa ob oc qk qa qb qn dv docs os).cells 37)).heap[wb]?=some (.cells #[xv,mv,.slice na N nc,.slice ba Bs bc] 32 (0,0)):=(aC w _ wb (lt_of_heap uK)).trans uK;have c2:(w.alloc (.cells (qf.mk kd oa ob oc qk qa qb qn dv docs os).cells 37)).cell? (aD wb 2)=some (.slice na N nc):=aq EF;have c3:(w.alloc (.cells (qf.mk kd oa ob oc qk qa qb qn dv docs os).cells 37)).cell? (aD wb 3)=some (.slice ba Bs bc):=aq EF;clear uK EF;unfold aP MO qf.cells dC at*;simp only at c2 c3 HB⊢;go_enter awy,ar1;by_cases k10:kd=10;·subst k10;obtain rfl:=h1 rfl;go_wp2_with fail;refine bodyPost_end (results_none rfl _ _ _) rfl ?_;exact⟨rfl,HB⟩
 ·have e1:(kd==10)=false:=by simp[k10]
  by_cases k11:kd=11;·subst k11;obtain rfl:=h2 rfl;go_wp2_with fail;refine bodyPost_end (results_none rfl _ _ _) rfl ?_;exact⟨rfl,HB⟩
  ·have e2:(kd==11)=false:=by simp[k11]
   go_wp2_with fail;refine bodyPost_end (results_none rfl _ _ _) rfl ?_;exact⟨rfl,HB⟩
theorem ints_set{w:ak}{v:ay}{L:List Int}(h:fV w v L){g i:Nat}(hg:v.ownBlock=some g)(c:Int):fV (w.setCell (aD g i) (iV c)) v (L.set i c):=by have:=Iy (k:=i) h hg (iV c);unfold fV;rw[bW,List.map_set];exact this
theorem RX(o:qf)(hf:o.Fits)(wb:Nat)(w:ak)(N:List vg)(xv mv nv bv:ay)(uK:w.heap[wb]?=some (.cells #[xv,mv,nv,bv] 32 (0,0)))(hrow:w.ownsRow 0 64 2 nv N.length (numCells N))(hk:o.kind=10)(hN:0<N.length)(OV:N.length<=1000000)(e:vg)(he:N[qE o.a N.length]?=some e)(hr:fV w e.real e.L)(hw:fV w e.want e.L)(hne:∀k,e.real.ownBlock=some k->e.want.ownBlock≠some k)(hl:e.L.length<=1000):aX ah 20 #[aP wb,MO o] w λe' w'=>e'= .returned (.tuple #[])/\∃L',L'.length=e.L.length/\fV w' e.real L'/\fV w' e.want L'/\Mod (λk=>e.real.ownBlock=some k\/e.want.ownBlock=some k) w w':=by
 obtain⟨kd,oa,ob,oc,qk,qa,qb,qn,dv,docs,os⟩:=o;simp only at hk he;subst hk;obtain⟨g,cap,rfl,c1,c2⟩:=Ex hrow he;obtain⟨rv,wv,L⟩:=e;simp only at c1 c2 hr hw hne hl⊢;obtain⟨ra,rc,rfl⟩:=ownsRow_form hr;obtain⟨va,vc,rfl⟩:=ownsRow_form hw;obtain⟨k,hk0⟩:∃k,k=qE oa N.length:=⟨_,rfl⟩;rw[<-hk0]at he c1 c2;have hkl:=(List.getElem?_eq_some_iff.1 he).1;have hpick:=λW=>wk oa N.length W hf.a ⟨hN,OV⟩;rw[<-hk0]at hpick;have MB:=ae hpick;obtain⟨W,hW⟩:∃W,W=w.alloc (.cells (qf.mk 10 oa ob oc qk qa qb qn dv docs os).cells 37):=⟨_,rfl⟩;have hB:aI w.heap.size w W:=by rw[hW];exact(aB w.heap.size w).alloc (au _) _
 have hop:W.heap[w.heap.size]?=some (.cells (qf.mk 10 oa ob oc qk qa qb qn dv docs os).cells 37 (0,0)):=by rw[hW];exact heap_alloc_new w _
 have EF:=(hB.block wb (lt_of_heap uK)).trans uK;have d1:=(hB.cell (p:=(aD g (2*k))) (lt_of_cell c1)).trans c1;have d2:=(hB.cell (p:=(aD g (2*k+1))) (lt_of_cell c2)).trans c2;have BW:=ae (hr.below hB);have tH:=ae (hw.below hB);have z2:k*2=2*k:=by omega
 have zi:(0:Int)<=(k:Int)/\(k:Int)<(N.length:Int):=by omega
 have h2:W.cell? (aD wb 2)=some (sL g N.length cap):=aq EF;have p0:W.cell? (aD w.heap.size 0)=some (iV 10):=aq hop;have p1:W.cell? (aD w.heap.size 1)=some (iV oa):=aq hop;have p2:W.cell? (aD w.heap.size 2)=some (iV ob):=aq hop;have p3:W.cell? (aD w.heap.size 3)=some (iV oc):=aq hop;have hgN:decide ((0:Int)<(N.length:Int))=true:=decide_eq_true (by omega);have HB:=ae hB;have JO:=ae hne;have afa:=ae EF;have Yc:=ae (aO hrow λk e=>hB.block k (hrow.lt k e).2);have HOP:=ae hop;have HF:=ae hf;clear uK EF hrow hr hw hne hop hB c1 c2 hk0 hpick he hf;unfold aP MO qf.cells dC at*;simp only at hW HF⊢;go_enter awy,ar1;go_upto_region 1 with fail;rw[<-hW];clear hW;go_upto_region 2 with fail;go_quiet((go_at_call 21;exact Calls.quiet_of_same (MB _)));have HS:=ae (Same.drewN W nq);by_cases hl0:L.length=0;·rw[hl0]at d1 d2;go_wp2_with fail;refine bodyPost_end (results_none rfl _ _ _) rfl ?_;obtain rfl:L=[]:=iZ hl0;exact⟨rfl,BW.keep (λk _=>rfl),tH.keep (λk _=>rfl),(fo HB).trans (Mod.same HS)⟩
 ·have hgL:=decide_eq_true (by omega);obtain⟨i,hi0⟩:∃i,i=qE ob L.length:=⟨_,rfl⟩;have hil:i<L.length:=by rw[hi0];exact wm _ (by omega)
  have yR:=λW=>wk ob L.length W HF.b ⟨by omega,by omega⟩;rw[<-hi0]at yR;have PJ:=ae yR;clear yR hi0;obtain⟨ga,cpa,ea,O9,fa0⟩:=BW.cellAt hil;simp only[bA]at ea;obtain⟨rfl,_,rfl⟩:=ea;obtain⟨gb,cpb,eb,XH,fb0⟩:=tH.cellAt hil;simp only[bA]at eb;obtain⟨rfl,_,rfl⟩:=eb;have zj:(0:Int)<=(i:Int)/\(i:Int)<(L.length:Int):=by omega
  have T8:ga≠gb:=λh=>JO ga rfl (by rw[h];rfl);generalize L.getD i 0=Av at*;go_upto_region 6 with(go_at_call 21;refine(PJ _).mono ?_;rintro e w'⟨rfl,rfl⟩);have tI:Hid (fV (W.drewN nq) (sL ga L.length rc) L):=ae (BW.keep λk _=>rfl);have vh:Hid (fV (W.drewN nq) (sL gb L.length vc) L):=ae (tH.keep λk _=>rfl);have MD:Hid (Mod (λk=>(cY (some (aD ga 0)) L.length rc).ownBlock=some k\/(cY (some (aD gb 0)) L.length vc).ownBlock=some k) w (W.drewN nq)):=ae ((fo HB).trans (Mod.same HS));have HH2:Hid ((W.drewN nq).heap=W.heap):=ae rfl;have k0:(W.drewN nq).cell? (aD wb 2)=some (sL g N.length cap):=h2;have k1:(W.drewN nq).cell? (aD g (2*k))=some (sL ga L.length rc):=d1;have k2:(W.drewN nq).cell? (aD w.heap.size 3)=some (iV oc):=p3;have k3:(W.drewN nq).cell? (aD ga i)=some (iV Av):=O9;have k4:(W.drewN nq).frozen? (aD ga i)=false:=fa0;have k5:(W.drewN nq).cell? (aD g (2*k+1))=some (sL gb L.length vc):=d2;have k6:(W.drewN nq).cell? (aD gb i)=some (iV Av):=XH;have k7:(W.drewN nq).frozen? (aD gb i)=false:=fb0;have t1:ga≠wb:=λh=>by subst h;have:=cz BW rfl afa;revert this;decide
  have t2:ga≠w.heap.size:=λh=>by subst h;have:=cz BW rfl HOP;revert this;decide
  have t4:gb≠w.heap.size:=λh=>by subst h;have:=cz tH rfl HOP;revert this;decide
  have k8:(W.drewN nq).cell? (aD w.heap.size 0)=some (iV 10):=p0;have t3:ga≠g:=λh=>by subst h;obtain⟨cur,qP⟩:=ct Yc rfl;have:=cz BW rfl qP;revert this;decide
  generalize W.drewN nq=W2 at*;clear h2 d1 d2 p0 p1 p2 p3 O9 XH fa0 fb0;refine bB [(0,false),(1,false),(2,false),(3,false),(4,false),(5,false),(6,false),(7,false),(8,false),(9,false),(10,false),(11,false),(12,true)] 12 (λw'=>w'.cell? (aD wb 2)=some (sL g N.length cap)/\w'.cell? (aD g (2*k))=some (sL ga L.length rc)/\w'.cell? (aD w.heap.size 3)=some (iV oc)) (by kernel_rfl) (by kernel_rfl) ⟨k0,k1,k2⟩ ?_;iterate 12(
 refine aR ?_ rfl rfl (λw' hS=>?_) ?_;rotate_left;·obtain⟨f0,f1,f2⟩:=hS;go_simp;try rfl
 simp only[aN,ai,aj])
  refine cO rfl rfl (λK hK=>?_);have HK:=ae hK;clear hK;go_simp;refine HK _ _ ?_;clear HK K;have M0:=ae ((MD.trans (Mod.setCell W2 (aD ga i) (iV oc) λ_=> .inl rfl)).trans (Mod.same (Same.drew (W2.setCell (aD ga i) (iV oc)))));have hr3:fV (W2.setCell (aD ga i) (iV oc)).drew (sL ga L.length rc) (L.set i oc):=by have:=ints_set (i:=i) tI (g:=ga) rfl oc;exact this.keep λk _=>rfl
  have iO:∀(b j:Nat),b≠ga->(W2.setCell (aD ga i) (iV oc)).drew.heap[b]?=W2.heap[b]?:=λb j hb=>az W2 _ _ b hb;have CU:=ae (vh.keep λk e=>iO k 0 (λh=>T8 ((aJ e).trans h).symm));have tA:∀b j v,b≠ga->W2.cell? (aD b j)=some v->(W2.setCell (aD ga i) (iV oc)).drew.cell? (aD b j)=some v:=λb j v hb hv=>(fq (a:=(aD b j)) (iO b j hb)).trans hv;have l0:=tA _ _ _ (dB t1) k0;have l2:=tA _ _ _ (dB t2) k2;have l8:=tA _ _ _ (dB t2) k8;have l5:=tA _ _ _ (dB t3) k5;have l6:=tA _ _ _ (dB T8) k6;have l7:(W2.setCell (aD ga i) (iV oc)).drew.frozen? (aD gb i)=false:=(Uq (a:=(aD gb i)) (iO gb i (dB T8))).trans k7;have Ui:=ae hr3;clear hr3 iO tA k8 k0 k1 k2 k3 k4 k5 k6 k7 tI vh MD HH2;generalize(W2.setCell (aD ga i) (iV oc)).drew=W3 at*;go_upto_region 7 with fail;refine bB [(0,false),(1,false),(2,false),(3,false),(4,false),(5,false),(6,false),(7,false),(8,false),(9,false),(10,false),(11,false),(12,true)] 12 (λw'=>w'.cell? (aD wb 2)=some (sL g N.length cap)/\w'.cell? (aD g (2*k+1))=some (sL gb L.length vc)/\w'.cell? (aD w.heap.size 3)=some (iV oc)) (by kernel_rfl) (by kernel_rfl) ⟨l0,l5,l2⟩ ?_;iterate 12(
 refine aR ?_ rfl rfl (λw' hS=>?_) ?_;rotate_left;·obtain⟨f0,f1,f2⟩:=hS;go_simp;try rfl
 simp only[aN,ai,aj])
  refine cO rfl rfl (λK hK=>?_);have HK:=ae hK;clear hK;go_simp;refine HK _ _ ?_;clear HK K;have HM4:=ae (show Mod (λk=>(cY (some (aD ga 0)) L.length rc).ownBlock=some k\/(cY (some (aD gb 0)) L.length vc).ownBlock=some k) w (W3.setCell (aD gb i) (iV oc)).drew from(M0.trans (Mod.setCell W3 (aD gb i) (iV oc) λ_=> .inr rfl)).trans (Mod.same (Same.drew (W3.setCell (aD gb i) (iV oc)))));have hw4:fV (W3.setCell (aD gb i) (iV oc)).drew (sL gb L.length vc) (L.set i oc):=by have:=ints_set (i:=i) CU (g:=gb) rfl oc;exact this.keep λk _=>rfl
  have hr4:fV (W3.setCell (aD gb i) (iV oc)).drew (sL ga L.length rc) (L.set i oc):=by have hll:(cY (some (aD ga 0)) L.length rc).ownBlock=some ga:=rfl;exact Ui.keep λk e=>(az W3 _ _ k (λh=>T8 ((aJ (hll.symm.trans e)).trans h)))
  have l8:(W3.setCell (aD gb i) (iV oc)).drew.cell? (aD w.heap.size 0)=some (iV 10):=(fq (a:=(aD w.heap.size 0)) (az W3 (aD gb i) _ _ (dB t4))).trans l8;have PI:=ae hr4;have HW4:=ae hw4;clear hr4 hw4 l0 l2 l5 l6 l7 M0 Ui CU;generalize(W3.setCell (aD gb i) (iV oc)).drew=W4 at*;go_wp2_with fail;refine bodyPost_end (results_none rfl _ _ _) rfl ?_;exact⟨rfl,L.set i oc,by simp,PI.out,HW4.out,HM4.out⟩
end Go.Proofs.Tl
