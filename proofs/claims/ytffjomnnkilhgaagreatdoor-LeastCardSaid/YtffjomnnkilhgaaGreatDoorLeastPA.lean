/- Lemmas towards the statement Least of termsearch: walks of the program's functions and plain laws on lists (TsAbb, TsMap, TsBase, TsKeys, TsRow, TsPut, TsNodes, TsOrd, TsSettleB, TsSettle, TsCode, TsGraph, TsHits, TsWords, TsKeep1, TsKeep2, TsAutA). Conditions: those that each theorem names. -/
import Derived.WalkKit
import Derived.LaidEql
import Derived.MapKept
import Derived.WalkLawsBesides
import Derived.WalkSpells
import Derived.Deep.QuietTactic
import Derived.BigQuiet
import Derived.Deep.LoopGhost
import Derived.Lib.Hide
import Derived.Test.YtffjomnnkilhgaaGreatDoorProg
import Derived.Laws.StructEq
import Derived.Maps.AppendAt
import Derived.OrdersHeld
import Derived.Deep.RegionHeld3
import Derived.Lib.BufferRead
import Derived.Lib.FieldsP
set_option linter.unusedVariables false
set_option linter.unusedSimpArgs false
set_option linter.unusedSectionVars false
set_option maxRecDepth 100000
set_option maxHeartbeats 32000000
open Array renaming replicate->fh,toList_push->FT
open Bool renaming and_eq_true->cR,eq_iff_iff->jf
open Go renaming Addr->jK,Calls->aX,Good->mS,MapEntry->FO,NoPanic->pR,Oper->gV,Program->iX,TypeId->dx,TypeInfo->uT,Value->ay,World->ak
open Go.Builtin renaming len_->C2
open Go.Code renaming region->AR
open Go.Ending renaming returned->kG
open Go.Instr renaming checkKey->yr,findAsking->agA,findKey->aoX,findNow->Re,keyThatStays->ac2,lookup->fH,mapUpdate->iC,sameBits->rX,sameNow->aoW
open Go.Lib renaming hid->ae
open Go.Op renaming equal->Q9,maxDepth->YC
open Go.Oper renaming wp->ak8
open Go.Proofs.Tryz renaming func139->aso,ntmps139->aoR,prog->ah,underlying275->acR,underlying276->mD,underlying374->acO,underlying42->vr,underlying9->oM
open Go.Region renaming binds->mF,noSelect->fK,noSelect_spec->Hy,ready->bZ,wanted->gj
open Go.Result renaming andThen_ok->eH
open Go.RowKit renaming Below->aI
open Go.RowKit.Below renaming heap_alloc->aC,heap_setCell->az,refl->aB
open Go.Sem renaming run_bind->dZ,run_pure->DT
open Go.Value renaming oneCell'->dN,ownBlock->gN
open Go.World.grownBy renaming cell->dw
open List renaming append_assoc->kP,cons_append->iT,eq_nil_of_length_eq_zero->iZ,ext_getElem?->AP,flatMap_def->tU,getD_eq_getElem?_getD->aw,getElem?_append_right->gA,getElem?_cons_succ->TT,getElem?_eq_getElem->ar,getElem?_map->bp,getElem?_of_mem->nR,getElem?_set->fD,getElem_mem->eu,length_append->bh,length_cons->cI,length_drop->C0,length_nil->gX,length_take->iu,map_append->cQ,map_congr_left->rW,map_cons->dM,map_nil->mg,map_set->CZ,map_toArray->UO,mem_cons->ql,mem_cons_of_mem->bq,mem_cons_self->bE,mem_of_getElem?->aS,nil_append->eZ,nodup_append->afL,pairwise_singleton->TS,set_cons_succ->ai,set_cons_zero->aj,size_toArray->mf,take_left->ala,take_succ_eq_append_getElem->bH
open List.Pairwise renaming nil->afN
open List.cons renaming injEq->fL
open Nat renaming add_mul->Y8,le_refl->au,le_trans->aZ,lt_of_lt_of_le->bI,lt_or_ge->fe,zero_add->gW,zero_le->aW
open Ne renaming symm->dB
open Option renaming getD_some->fT,map_some->Y6
open Option.some renaming inj->aJ
open Prod.mk renaming injEq->ML
open UInt8 renaming le_iff_toNat_le->pQ,ofNat->cS,toNat->JQ,toNat_ofNat'->M3
namespace Go.Proofs.Ts
open Go
abbrev aD(b i:Nat):jK:=⟨b,i,none⟩
abbrev pT(b:Nat):ay:= .pointer (some ⟨b,0,none⟩)
abbrev sL(b n c:Nat):ay:= .slice (some ⟨b,0,none⟩) n c
abbrev iV(z:Int):ay:= .int .i64 z
abbrev uV(z:Int):ay:= .int .u64 z
def get{α β:Type}[DecidableEq α]:List (α×β)->α->Option β|[],_=>none|p::r,k=>if p.1=k then some p.2 else get r k
def put{α β:Type}[DecidableEq α]:List (α×β)->α->β->List (α×β)|[],k,v=>[(k,v)]|p::r,k,v=>if p.1=k then(k,v)::r else p::put r k v
section
variable{α β:Type}[DecidableEq α]
theorem mq(m:List (α×β))(k k':α)(v:β):get (put m k v) k'=if k=k' then some v else get m k':=by induction m with
 |nil=>simp[put,get]|cons p r ih=>
  unfold put;by_cases h:p.1=k;·
   by_cases h':k=k';·simp[h,get,h']
   ·have h2:¬p.1=k':=λe=>h' (h.symm.trans e);simp[h,get,h']
  ·by_cases h':k=k';·subst h';simp[h,get,ih]
   ·simp[h,get,ih,h']
theorem dX{m:List (α×β)}{k:α}{v:β}(h:get m k=some v):(k,v)∈m:=by induction m with
 |nil=>simp[get]at h|cons p r ih=>
  unfold get at h;split at h;·rename_i e;cases h;subst e;simp
  ·exact bq _ (ih h)
theorem get_none{m:List (α×β)}{k:α}:get m k=none↔∀p∈m,p.1≠k:=by induction m with
 |nil=>simp[get]|cons p r ih=>
  unfold get;by_cases h:p.1=k;·simp[h]
  ·simp[h,ih]
theorem xR(m:List (α×β))(k:α)(v:β):(put m k v).length<=m.length+1:=by induction m with
 |nil=>simp[put]|cons p r ih=>
  unfold put;split;·simp
  ·simp;omega
theorem eJ{m:List (α×β)}{k:α}(v:β)(h:get m k=none):put m k v=m++[(k,v)]:=by induction m with
 |nil=>rfl|cons p r ih=>
  unfold get at h;split at h;·cases h
  ·rename_i e;unfold put;rw[if_neg e,ih h];rfl
theorem zV{m:List (α×β)}{k:α}{v:β}{p:α×β}(h:p∈put m k v):p=(k,v)\/p∈m:=by induction m with
 |nil=>simp[put]at h;exact .inl h|cons q r ih=>
  unfold put at h;split at h;·
   rcases List.mem_cons.1 h with h|h;·exact .inl h
   ·exact .inr (bq _ h)
  ·rcases List.mem_cons.1 h with h|h;·exact .inr (h▸bE)
   ·rcases ih h with h|h;·exact .inl h
    ·exact .inr (bq _ h)
theorem xS{m:List (α×β)}{k:α}{v u:β}(h:get m k=some u):(put m k v).map (·.1)=m.map (·.1):=by induction m with
 |nil=>cases h|cons p r ih=>
  unfold get at h;unfold put;split at h;·rename_i e;rw[if_pos e];simp[e]
  ·rename_i e;rw[if_neg e];simp[ih h]
def Apart(m:List (α×β)):Prop:=(m.map (·.1)).Nodup
theorem Apart.put{m:List (α×β)}(h:Apart m)(k:α)(v:β):Apart (put m k v):=by unfold Apart at*;cases hg:get m k with|some u=>rw[xS hg];exact h|none=>rw[eJ v hg,cQ];rw[afL];refine⟨h,by simp,?_⟩;intro a ha b hb;simp at hb;subst hb;rw[get_none]at hg;obtain⟨p,hp,rfl⟩:=List.mem_map.1 ha;exact hg p hp
theorem get_of_mem{m:List (α×β)}(h:Apart m){k:α}{v:β}(hm:(k,v)∈m):get m k=some v:=by induction m with
 |nil=>cases hm|cons p r ih=>
  unfold Apart at h;simp only[dM,List.nodup_cons]at h;unfold get;rcases List.mem_cons.1 hm with e|hm;·rw[<-e];simp
  ·have:¬p.1=k:=λe=>h.1 (e▸List.mem_map.2 ⟨(k,v),hm,rfl⟩);rw[if_neg this];exact ih h.2 hm
end
structure KeyLaw (P:iX) (K:dx) {α:Type} [DecidableEq α] (enc:α->ay) (ok:ak->α->Prop):Prop where
 now:∀ d,P.underlying K=some d -> ∀ a b,aoW d (enc a) (enc b)=none\/aoW d (enc a) (enc b)=some (decide (a=b))
 und:∃ d,P.underlying K=some d
 eq:∀ w a b,ok w a->ok w b->(Q9 K (enc a) (enc b)).run P w = .ok (decide (a=b)) w
 chk:∀ w e a,ok w a->(yr e 10000 K (enc a)).run P w = .ok () w
 same:∀ a,rX 10000 (enc a) (enc a)=true
section
variable{P:iX}{K:dx}{α:Type}[DecidableEq α]{enc:α->ay}{ok:ak->α->Prop}
def find(m:List (α×ay))(k:α)(i:Nat):Option (Nat×ay):=match m with|[]=>none|p::r=>if k=p.1 then some (i,p.2)else find r k (i+1)
def pairs(enc:α->ay)(es:List FO)(m:List (α×ay)):Prop:=es.map (λe=>(e.key,e.val))=m.map (λp=>(enc p.1,p.2))
theorem wQ(L:KeyLaw P K enc ok)(w:ak)(k:α)(hk:ok w k):∀(es:List FO)(m:List (α×ay))(i:Nat),pairs enc es m->(∀p∈m,ok w p.1)->(agA K (enc k) es i).run P w= .ok (find m k i) w
 |[],[],i,_,_=>rfl|[],p::r,i,h,_=>by simp[pairs]at h|e::es,[],i,h,_=>by simp[pairs]at h|e::es,p::r,i,h,hm=>by
  simp only[pairs,dM,fL,ML]at h;obtain⟨⟨h1,h2⟩,h3⟩:=h;have ih:=wQ L w k hk es r (i+1) h3 (λq hq=>hm q (bq _ hq));have he:=L.eq w k p.1 hk (hm p bE);unfold agA find;rw[h1];simp only[dZ,he,eH];by_cases SC:k=p.1;·simp[SC,h2]
  ·simp[SC,ih]
theorem CG(L:KeyLaw P K enc ok){d:TypeDesc}(hd:P.underlying K=some d)(k:α):∀(es:List FO)(m:List (α×ay))(i:Nat),pairs enc es m->Re d (enc k) es i=none\/Re d (enc k) es i=some (find m k i)
 |[],[],i,_=> .inr rfl|[],p::r,i,h=>by simp[pairs]at h|e::es,[],i,h=>by simp[pairs]at h|e::es,p::r,i,h=>by
  simp only[pairs,dM,fL,ML]at h;obtain⟨⟨h1,h2⟩,h3⟩:=h;have ih:=CG L hd k es r (i+1) h3;unfold Re find;rw[h1];rcases L.now d hd k p.1 with hn|hn;·rw[hn];exact .inl rfl
  ·rw[hn];by_cases SC:k=p.1;·simp[SC,h2]
   ·simp only[SC,decide_false,if_false];exact ih
theorem CH(L:KeyLaw P K enc ok)(w:ak)(k:α)(hk:ok w k)(es:List FO)(m:List (α×ay))(h:pairs enc es m)(hm:∀p∈m,ok w p.1):(aoX K (enc k) es).run P w= .ok (find m k 0) w:=by
 obtain⟨d,hd⟩:=L.und;have ha:=wQ L w k hk es m 0 h hm;unfold aoX;simp only[dZ,run_underlying hd,eH];rcases CG L hd k es m 0 h with hn|hn;·rw[hn];exact ha
 ·rw[hn];rfl
theorem LP(m:List (α×ay))(k:α):∀i,(find m k i).map (·.2)=get m k:=by induction m with
 |nil=>intro i;rfl|cons p r ih=>
  intro i;unfold find get;by_cases h:k=p.1;·simp[h]
  ·simp[h,dB h,ih]
theorem O1(m:List (α×ay))(k:α):∀i j v,find m k i=some (j,v)->i<=j/\m[j-i]?=some (k,v)/\∀u,put m k u=m.set (j-i) (k,u):=by induction m with
 |nil=>intro i j v h;cases h|cons p r ih=>
  intro i j v h;unfold find at h;by_cases hk:k=p.1;·rw[if_pos hk]at h;cases h;refine⟨au _,by simp[hk],λu=>?_⟩;unfold put;simp[hk]
  ·rw[if_neg hk]at h;obtain⟨h1,h2,h3⟩:=ih (i+1) j v h;have e:j-i=(j-(i+1))+1:=by omega
   refine⟨by omega,by rw[e];simpa using h2,λu=>?_⟩;unfold put;rw[if_neg (dB hk),h3 u,e];rfl
def bV(enc:α->ay)(w:ak)(b:Nat)(m:List (α×ay)):Prop:=∃es clock,w.heap[b]?=some (.map es clock)/\pairs enc es.toList m/\(∀e∈es.toList,e.born<clock)/\(es.toList.map (·.born)).Nodup
theorem bV.made(enc:α->ay)(w:ak):bV enc (w.alloc (.map #[] 0)) w.heap.size []:=⟨#[],0,heap_alloc_new w _,by simp[pairs],by simp,by simp⟩
theorem bV.lt{enc:α->ay}{w:ak}{b:Nat}{m:List (α×ay)}(h:bV enc w b m):b<w.heap.size:=by obtain⟨es,c,hb,_⟩:=h;exact(Array.getElem?_eq_some_iff.1 hb).1
theorem bV.of_block{enc:α->ay}{w w':ak}{b:Nat}{m:List (α×ay)}(h:bV enc w b m)(hb:w'.heap[b]?=w.heap[b]?):bV enc w' b m:=by obtain⟨es,c,h1,h2⟩:=h;exact⟨es,c,hb.trans h1,h2⟩
theorem bV.len{enc:α->ay}{w:ak}{b:Nat}{m:List (α×ay)}{es:Array FO}{c:Nat}(hb:w.heap[b]?=some (.map es c))(h:bV enc w b m):es.size=m.length:=by obtain⟨es',c',h1,h2,_⟩:=h;rw[hb]at h1;cases h1;have:=congrArg List.length h2;simpa using this
theorem om{w:ak}{b:Nat}{es:Array FO}{c:Nat}(hb:w.heap[b]?=some (.map es c)):(getObj b).run P w= .ok (.map es c) w:=by simp[getObj,Sem.run,hb]
theorem bV.lookup(L:KeyLaw P K enc ok){w:ak}{b:Nat}{m:List (α×ay)}(h:bV enc w b m)(k:α)(hk:ok w k)(hm:∀p∈m,ok w p.1){T E:dx}(hT:P.underlying T=some (.map K E)){z:ay}(hz:(zeroValue E).run P w= .ok z w)(ok?:Bool):(fH T (.map (some b)) (enc k) ok?).run P w= .ok (if ok? then .tuple #[(get m k).getD z,.bool (get m k).isSome]else(get m k).getD z) w:=by obtain⟨es,c,hb,hp,_⟩:=h;have hf:=CH L w k hk es.toList m hp hm;have hc:=L.chk w es.isEmpty k hk;rw[<-LP m k 0];unfold fH;simp only[dZ,run_underlying hT,eH,om hb,DT,hc,hf];cases hfk:find m k 0 with|none=>cases ok?<;>simp[hz]|some jv=>cases ok?<;>simp
theorem bV.update(L:KeyLaw P K enc ok){w:ak}{b:Nat}{m:List (α×ay)}(h:bV enc w b m)(k:α)(hk:ok w k)(hm:∀p∈m,ok w p.1){T E:dx}(hT:P.underlying T=some (.map K E))(v:ay):∃w',(iC T (.map (some b)) (enc k) v).run P w= .ok () w'/\bV enc w' b (put m k v)/\w.grownBy w' (some b)/\w'.heap.size=w.heap.size:=by
 obtain⟨es,c,hb,hp,hl,hn⟩:=h;have hf:=CH L w k hk es.toList m hp hm;have hc:=L.chk w false k hk;have hlt:b<w.heap.size:=(Array.getElem?_eq_some_iff.1 hb).1;have kD:∀o:Obj,({w with heap:=w.heap.setIfInBounds b o}:ak).heap[b]?=some o:=λo=>by simp[Array.getElem?_setIfInBounds,hlt]
 have hgr:∀o:Obj,w.grownBy {w with heap:=w.heap.setIfInBounds b o} (some b):=λo=>⟨rfl,rfl,rfl,by simp,λj _ hj=>by have:b≠j:=λe=>hj (by rw[e]);simp[this]⟩;have WA:∀o:Obj,(setObj b o).run P w= .ok () {w with heap:=w.heap.setIfInBounds b o}:=λo=>by simp[setObj,Sem.run,hb]
 cases hfk:find m k 0 with
  |none=>
   rw[hfk]at hf;refine⟨_,?_,⟨es.push {key:=enc k,val:=v,born:=c},c+1,kD _,?_,?_,?_⟩,hgr _,by simp⟩;·unfold iC;simp only[dZ,run_underlying hT,eH,om hb,hc,hf];exact WA _
   ·have hg:get m k=none:=by rw[<-LP m k 0,hfk];rfl
    rw[eJ v hg];simp only[pairs,FT,cQ,dM,mg];rw[hp]
   ·intro e he;simp only[FT,List.mem_append,List.mem_singleton]at he;rcases he with he|he;·exact Nat.lt_succ_of_lt (hl e he)
    ·subst he;exact Nat.lt_succ_self _
   ·simp only[FT,cQ,dM,mg];rw[afL];refine⟨hn,by simp,?_⟩;intro a ha x hx;simp at hx;subst hx;obtain⟨e,he,rfl⟩:=List.mem_map.1 ha;have:=hl e he;omega|some jv=>
   obtain⟨j,v0⟩:=jv;rw[hfk]at hf;obtain⟨_,hj,hput⟩:=O1 m k 0 j v0 hfk;rw[Nat.sub_zero]at hj hput;have hpj:(es.toList.map (λe=>(e.key,e.val)))[j]?=some (enc k,v0):=by rw[hp,bp,hj];rfl
   rw[bp,Option.map_eq_some_iff]at hpj;obtain⟨e0,he0,hek⟩:=hpj;simp only[ML]at hek;have hes:es[j]?=some e0:=by simpa using he0
   have hjl:j<es.size:=(Array.getElem?_eq_some_iff.1 hes).1;have hej:es[j]=e0:=(Array.getElem?_eq_some_iff.1 hes).2;have hst:(ac2 (enc k) (enc k)).run P w= .ok (enc k) w:=by unfold ac2;rw[L.same k];rfl
   have hmod:(es.modify j λe=>{e with key:=enc k,val:=v}).toList=es.toList.set j {e0 with key:=enc k,val:=v}:=by
    rw[Array.toList_modify];apply AP;intro i;rw[List.getElem?_modify,fD];by_cases hij:j=i;·subst hij;simp[hej,hjl]
    ·simp[hij]
   refine⟨_,?_,⟨es.modify j λe=>{e with key:=enc k,val:=v},c,kD _,?_,?_,?_⟩,hgr _,by simp⟩;·unfold iC;simp only[dZ,run_underlying hT,eH,om hb,hc,hf];simp only[hes,Y6,fT,hek.1,hst,eH];exact WA _
   ·rw[hput v];simp only[pairs,hmod,CZ];rw[hp]
   ·intro e he;rw[hmod]at he;rcases List.mem_or_eq_of_mem_set he with he|he;·exact hl e he
    ·subst he;exact hl e0 (aS he0)
   ·rw[hmod];simp only[CZ];have:(es.toList.map (·.born)).set j e0.born=es.toList.map (·.born):=by
     apply AP;intro i;rw[fD];by_cases hij:j=i;·subst hij;simp[hej,hjl]
     ·simp[hij]
    rw[this];exact hn
end
open Go.RowKit
def Same(w w':ak):Prop:=∃n,w'=w.drewN n
theorem Same.refl(w:ak):Same w w:=⟨0,rfl⟩
theorem Same.trans{a b c:ak}(h:Same a b)(k:Same b c):Same a c:=by obtain⟨n,rfl⟩:=h;obtain⟨m,rfl⟩:=k;exact⟨n+m,by simp⟩
theorem Same.drewN(w:ak)(n:Nat):Same w (w.drewN n):=⟨n,rfl⟩
theorem Same.drew(w:ak):Same w w.drew:=⟨1,rfl⟩
theorem Same.heap{w w':ak}(h:Same w w'):w'.heap=w.heap:=by obtain⟨n,rfl⟩:=h;rfl
theorem Same.cell{w w':ak}(h:Same w w')(a:jK):w'.cell? a=w.cell? a:=by obtain⟨n,rfl⟩:=h;rfl
theorem Same.frozen{w w':ak}(h:Same w w')(a:jK):w'.frozen? a=w.frozen? a:=by obtain⟨n,rfl⟩:=h;rfl
theorem Same.below{w w':ak}(h:Same w w')(B:Nat):aI B w w':=by obtain⟨n,rfl⟩:=h;exact⟨rfl,rfl,rfl,au _,λ_ _=>rfl⟩
theorem Bk{P:iX}{f:FuncId}{args:Array ay}{w:ak}{n:Nat}{v:ay}(h:aX P f args (w.drewN n) λe w'=>e= .returned v/\Same (w.drewN n) w'):aX P f args (w.drewN n) λe w''=>e= .returned v/\∃m,w''=w.drewN m:=h.mono λ_ _⟨he,m,hm⟩=>⟨he,n+m,by rw[hm,World.drewN_drewN]⟩
structure Mod (S:Nat->Prop) (w w':ak):Prop where
 os:w'.os=w.os
 tape:w'.tape=w.tape
 output:w'.output=w.output
 size:w.heap.size<=w'.heap.size
 block:∀ k,k < w.heap.size -> ¬ S k->w'.heap[k]?=w.heap[k]?
theorem Mod.refl(S:Nat->Prop)(w:ak):Mod S w w:=⟨rfl,rfl,rfl,au _,λ_ _ _=>rfl⟩
theorem Mod.trans{S:Nat->Prop}{a b c:ak}(h:Mod S a b)(k:Mod S b c):Mod S a c:=⟨k.os.trans h.os,k.tape.trans h.tape,k.output.trans h.output,aZ h.size k.size,λj hj hn=>(k.block j (bI hj h.size) hn).trans (h.block j hj hn)⟩
theorem Mod.mono{S T:Nat->Prop}{a b:ak}(h:Mod S a b)(hST:∀k,k<a.heap.size->S k->T k):Mod T a b:=⟨h.os,h.tape,h.output,h.size,λj hj hn=>h.block j hj λhs=>hn (hST j hj hs)⟩
theorem Mod.same{S:Nat->Prop}{a b:ak}(h:Same a b):Mod S a b:=by obtain⟨n,rfl⟩:=h;exact⟨rfl,rfl,rfl,au _,λ_ _ _=>rfl⟩
theorem Mod.toBelow{S:Nat->Prop}{B:Nat}{a b:ak}(h:Mod S a b)(hB:B<=a.heap.size)(hS:∀k,S k->B<=k):aI B a b:=⟨h.os,h.tape,h.output,h.size,λj hj=>h.block j (by omega) λhs=>by have:=hS j hs;omega⟩
theorem Mod.grown{S:Nat->Prop}{a b:ak}{row:Option Nat}(h:a.grownBy b row)(hr:∀k,row=some k->k<a.heap.size->S k):Mod S a b:=⟨h.os,h.tape,h.output,h.size,λj hj hn=>h.block j hj λe=>hn (hr j e.symm hj)⟩
theorem Mod.alloc(S:Nat->Prop)(w:ak)(o:Obj):Mod S w (w.alloc o):=⟨rfl,rfl,rfl,by simp,λj hj _=>aC w o j hj⟩
theorem Mod.setCell{S:Nat->Prop}(w:ak)(a:jK)(v:ay)(h:a.block<w.heap.size->S a.block):Mod S w (w.setCell a v):=⟨rfl,rfl,rfl,by simp,λj hj hn=>az w a v j λe=>hn (e▸h (e▸hj))⟩
theorem Mod.cell{S:Nat->Prop}{w w':ak}(h:Mod S w w'){p:jK}(hp:p.block<w.heap.size)(hn:¬S p.block):w'.cell? p=w.cell? p:=World.cell?_of_block (w:=w) (h.block p.block hp hn)
theorem gS{a b:Bool}(h:a=b):kG (.bool a)= .returned (.bool b):=by rw[h]
theorem IA{k:IntKind}{a b:Int}(h:a=b):kG (.int k a)= .returned (.int k b):=by rw[h]
theorem Qj(s:ByteArray)(k:Nat)(h:k<s.size):s.data.toList[k]'(by simpa using h)=s[k]:=by rw[Array.getElem_toList];rfl
theorem xM(s:ByteArray)(k:Nat)(h:k<s.size):s.data.toList.take (k+1)=s.data.toList.take k++[s[k]]:=by rw[bH (by simpa using h),Qj s k h]
abbrev Shape:=Bool×List UInt8
def dC(l:List UInt8):ay:= .string ⟨l.toArray⟩
def yF(s:Shape):ay:= .agg #[.bool s.1,dC s.2]
def aP(b:Nat):ay:= .pointer (some ⟨b,0,none⟩)
theorem js(P:iX)(e:Bool)(n:Nat)(t:dx)(v:ay)(w:ak){d:TypeDesc}(ht:P.underlying t=some d)(h:(match d with| .interface _| .array _ _| .struct _=>false|_=>true)=true):(yr e (n+1) t v).run P w= .ok () w:=by unfold yr;simp only[dZ,run_underlying ht,eH];cases d<;>first|(simp at h;done)|(cases v<;>rfl)
theorem GL:KeyLaw ah 374 yF (fun _ _=>True) where
 now:=fun d hd a b=>by
  left
  rw [acO] at hd
  cases hd
  rfl
 und:=⟨_,acO⟩
 eq:=fun w a b _ _=>by
  obtain ⟨f,s⟩:=a
  obtain ⟨g,t⟩:=b
  unfold yF dC
  simp [go_sem,Q9,YC]
  by_cases h1:f=g <;> by_cases h2:s=t <;> simp [h1,h2]
 chk:=fun w e a _=>by
  unfold yF dC
  rw [show (10000:Nat)=9999+1 from rfl]
  unfold yr
  simp [go_sem,js ah e 9998 4 _ _ Tryz.underlying4 rfl,js ah e 9998 9 _ _ oM rfl]
 same:=fun a=>by
  unfold yF dC
  have h:(({ data:=a.snd.toArray }:ByteArray) == { data:=a.snd.toArray })=true:=by rw [beq_toListBytes]; simp
  simp [rX,h]
def jT(w:ak)(b:Nat):Prop:=∃cs t,w.heap[b]?=some (.cells cs t (0,0))
theorem ZF {K E:dx} {j:uT} (hK:Tryz.prog.underlying K=some (.pointer E)) (hE:Tryz.prog.info? E=some j) (hj:j.size≠0):KeyLaw ah K aP jT where
 now:=fun d hd a b=>by
  left
  rw [hK] at hd
  cases hd
  rfl
 und:=⟨_,hK⟩
 eq:=fun w a b ha hb=>by
  obtain ⟨ca,ta,ha⟩:=ha
  obtain ⟨cb,tb,hb⟩:=hb
  unfold aP
  have hne:∀ (a b:Nat),a≠b->((aD a 0):jK)≠(aD b 0):=fun a b h e=>h (congrArg Addr.block e)
  have step:∀ (x y:jK),(Op.equalIn (9999+1) K (.pointer (some x)) (.pointer (some y))).run ah w=(sameAddr x y).run ah w:=fun x y=>by
   rw [Op.equalIn]
   simp only [dZ,run_underlying hK,eH,sizeOf,typeInfo,run_program,hE,DT,Sem.run_map]
   simp [hj]
  have eq1:∀ (x y:jK),(Q9 K (.pointer (some x)) (.pointer (some y))).run ah w=(sameAddr x y).run ah w:=fun x y=>step x y
  rw [eq1]
  by_cases h:a=b
  ·subst h
   rw [run_sameAddr_same]
   simp
  ·rw [run_sameAddr_other w (hne a b h) ha hb]
   simp [h]
 chk:=fun w e a _=>js _ e 9999 K _ w hK rfl
 same:=fun a=>by simp [aP,rX]
theorem Tryz.ZR:(Tryz.prog.info? 282).map (λi=>(i.zero,i.size,i.bytes))=some (some (.agg #[.bool false,.slice none 0 0]),2,32):=by kernel_rfl
theorem wE:KeyLaw ah 279 aP jT:=by obtain⟨i,hi,_,hs,_⟩:=info_parts Tryz.ZR;exact ZF Tryz.underlying279 hi (by rw[hs];decide)
theorem Ik:KeyLaw ah 9 dC (fun _ _=>True) where
 now:=fun d hd a b=>by
  right
  rw [oM] at hd
  cases hd
  unfold dC
  show some (_ == _)=_
  rw [beq_toListBytes]
  congr 1
  rw [jf]
  simp
 und:=⟨_,oM⟩
 eq:=fun w a b _ _=>by
  unfold dC
  simp [go_sem,Q9,YC]
  rw [jf]
  simp
 chk:=fun w e a _=>js _ e 9999 _ _ w oM rfl
 same:=fun a=>by
  unfold dC
  have h:(({ data:=a.toArray }:ByteArray) == { data:=a.toArray })=true:=by rw [beq_toListBytes]; simp
  simp [rX,h]
def JL(w w':ak)(v v':ay):Prop:=(v'.ownBlock=v.ownBlock/\w'.heap.size=w.heap.size)\/(v'.ownBlock=some w.heap.size/\w.grownBy w' none/\w'.heap.size=w.heap.size+1)
section
variable{P:iX}{w:ak}
theorem run_append_lies(t ty e:dx)(i:uT)(z:ay)(size bytes:Nat)(ht:P.underlying t=some (.slice e))(hi:P.info? e=some i)(hz:i.zero=some z)(hsize:i.size=size)(hby:i.bytes=bytes)(hzs:z.cells.size=size)(hsz:0<size)(v:ay)(n:Nat)(xs:List ay)(hown:w.ownsRow 0 e size v n xs)(a:jK)(m c:Nat)(news:List ay)(hl:news.length=m*size)(hnews:∀j u,news[j]?=some u->w.cell? (a.add j)=some u)(h1:∀u∈news,u.oneCell'=true)(hm:0<m)(h63:n+m<=maxLen)(hbytes:(n+m)*bytes<=140737488355328):∃v' w',(Builtin.append_ #[t,t] ty #[v,.slice (some a) m c]).run P w= .ok v' w'/\w'.ownsRow 0 e size v' (n+m) (xs++news)/\w.grownBy w' v.ownBlock/\JL w w' v v':=by
 subst hsize;subst hby;have hsmall:n+m<=9223372036854775807:=by simp only[maxLen]at h63;omega
 have hlen:(xs++news).length=(n+m)*i.size:=by rw[bh,hown.1,hl,Y8]
 have grown:∀(old:Nat),old<n+m->(w.drew.alloc (.cells (xs.toArray++news.toArray++Builtin.zeroCells z.cells (grownCap w (n+m) old e-(n+m))) e)).ownsRow 0 e i.size (sL w.heap.size (n+m) (grownCap w (n+m) old e)) (n+m) (xs++news):=by
  intro old ho;have hge:=grownCap_ge w (n+m) old e;have hcm:grownCap w (n+m) old e<=maxLen:=grownCap_le_maxLen w (n+m) old e h63;refine⟨hlen,.inr ⟨w.heap.size,_,_,rfl,aW _,heap_alloc_new w.drew _,hge,hcm,?_,?_⟩⟩;·simp only[Array.size_append,mf,size_zeroCells,hzs,hown.1,hl,<-Y8];congr 1;omega
  ·simp only[Array.toList_append,kP];rw[<-kP,<-hlen];exact ala
 have gb:∀(o:Obj)(row:Option Nat),w.grownBy (w.drew.alloc o) row:=λo row=>⟨rfl,rfl,rfl,by simp,λk hk _=>aC w.drew _ k hk⟩;rcases hown.2 with⟨rfl,rfl⟩|⟨g,cap,cur,rfl,hbg,hg,hnc,hcm,hcs,htake⟩;·have hx:xs=[]:=iZ (by simpa using hown.1);subst hx;have hr:=run_append_nil (P:=P) w t ty e i z ht hi hz a m c news hl hnews (by omega) (by omega) (by have hb:=hbytes;simp only[gW]at hb;omega);have hgr:=grown 0 (by omega);simp only[gW,eZ,Array.empty_append]at hgr⊢;exact⟨_,_,hr,hgr,gb _ _,.inr ⟨rfl,gb _ _,by simp⟩⟩
 ·by_cases hroom:n+m<=cap;·
   have hfit:n*i.size+news.length<=cur.size:=by rw[hl,hcs,<-Y8];exact Nat.mul_le_mul_right _ hroom
   have hr:=run_append_room (P:=P) w t ty e i ht hi g n cap cur hg a m c news hl hnews h1 hroom hfit;refine⟨_,_,hr,⟨hlen,.inr ⟨g,cap,_,rfl,hbg,setRow_heap w g cur _ e _ hg,hroom,hcm,?_,?_⟩⟩,⟨rfl,rfl,rfl,by simp,λk _ hk=>setRow_other w g k _ (λe=>hk (by simp[gN,e]))⟩,.inl ⟨rfl,by simp⟩⟩;·simp only[mf,bh,iu,C0,Array.length_toList];omega
   ·rw[htake,<-hlen];exact ala
  ·have holds:∀j u,xs[j]?=some u->w.cell? (((aD g 0):jK).add j)=some u:=hown.cells (g:=g) rfl;have hr:=run_append_grow (P:=P) w t ty e i z ht hi hz (aD g 0) n cap xs hown.1 holds a m c news hl hnews (by omega) (by omega) (growslice_fits (by omega) hbytes);exact⟨_,_,hr,grown cap (by omega),gb _ _,.inr ⟨rfl,gb _ _,by simp⟩⟩
theorem wpList_append_lies{ops:Array gV}{rest:List gV}{o:gV}{a:Act}{Q:Exit->Act->ak->Prop}(hgd:o.guard=none)(s x:Operand)(t:dx)(ho:o.op= .call {callee:= .builtin .append,args:=#[s,x],argTypes:=#[t,t]})(e:dx)(i:uT)(z:ay)(size bytes:Nat)(ht:P.underlying t=some (.slice e))(hi:P.info? e=some i)(hz:i.zero=some z)(hsize:i.size=size)(hby:i.bytes=bytes)(hzs:z.cells.size=size)(hsz:0<size)(v:ay)(n:Nat)(xs:List ay)(hs:a.eval s=v)(hown:w.ownsRow 0 e size v n xs)(ad:jK)(m c:Nat)(news:List ay)(hx:a.eval x= .slice (some ad) m c)(hl:news.length=m*size)(hnews:∀j u,news[j]?=some u->w.cell? (ad.add j)=some u)(h1:∀u∈news,u.oneCell'=true)(hm:0<m)(h63:n+m<=maxLen)(hbytes:(n+m)*bytes<=140737488355328)(h:∀v' w',w'.ownsRow 0 e size v' (n+m) (xs++news)->w.grownBy w' v.ownBlock->JL w w' v v'->wpList P ops Q rest (a.put o.dst v') w'):wpList P ops Q (o::rest) a w:=by refine wpList_plain hgd λK hK=>?_;obtain⟨v',w',hr,h2,h3,h4⟩:=run_append_lies (P:=P) t o.type e i z size bytes ht hi hz hsize hby hzs hsz v n xs hown ad m c news hl hnews h1 hm h63 hbytes;unfold ak8 execOp;simp only[ho,resolve,invoke,builtin,dZ,DT,eH,UO,dM,mg,hs,hx,hr];exact hK _ _ (h v' w' h2 h3 h4)
end
theorem wp_append_lies{P:iX}{w:ak}{o:gV}{a:Act}{K:Act->ak->Prop}{Q:Exit->Act->ak->Prop}(s x:Operand)(t:dx)(ho:o.op= .call {callee:= .builtin .append,args:=#[s,x],argTypes:=#[t,t]})(e:dx)(i:uT)(z:ay)(size bytes:Nat)(ht:P.underlying t=some (.slice e))(hi:P.info? e=some i)(hz:i.zero=some z)(hsize:i.size=size)(hby:i.bytes=bytes)(hzs:z.cells.size=size)(hsz:0<size)(v:ay)(n:Nat)(xs:List ay)(hs:a.eval s=v)(hown:w.ownsRow 0 e size v n xs)(ad:jK)(m c:Nat)(news:List ay)(hx:a.eval x= .slice (some ad) m c)(hl:news.length=m*size)(hnews:∀j u,news[j]?=some u->w.cell? (ad.add j)=some u)(h1:∀u∈news,u.oneCell'=true)(hm:0<m)(h63:n+m<=maxLen)(hbytes:(n+m)*bytes<=140737488355328)(h:∀v' w',w'.ownsRow 0 e size v' (n+m) (xs++news)->w.grownBy w' v.ownBlock->JL w w' v v'->K (a.put o.dst v') w'):o.wp P a w K Q:=by obtain⟨v',w',hr,h2,h3,h4⟩:=run_append_lies (P:=P) t o.type e i z size bytes ht hi hz hsize hby hzs hsz v n xs hown ad m c news hl hnews h1 hm h63 hbytes;unfold ak8 execOp;simp only[ho,resolve,invoke,builtin,dZ,DT,eH,UO,dM,mg,hs,hx,hr];exact h v' w' h2 h3 h4
structure bL (w:ak) (v:ay) (w':ak) (v':ay):Prop where
 grown:w.grownBy w' v.ownBlock
 lies:v'.ownBlock=v.ownBlock \/ ∃ g,v'.ownBlock=some g/\w.heap.size<=g
theorem bL.refl(w:ak)(v:ay):bL w v w v:=⟨World.grownBy.refl _ _,.inl rfl⟩
theorem bL.alloc(w:ak)(v:ay)(o:Obj):bL w v (w.alloc o) v:=⟨World.grownBy_alloc _ _ _,.inl rfl⟩
theorem bL.same{w w':ak}(v:ay)(h:Same w w'):bL w v w' v:=by obtain⟨n,rfl⟩:=h;exact⟨⟨rfl,rfl,rfl,au _,λ_ _ _=>rfl⟩,.inl rfl⟩
theorem bL.append{w w':ak}{v v':ay}(h:w.grownBy w' v.ownBlock)(hl:JL w w' v v'):bL w v w' v':=by
 refine⟨h,?_⟩;rcases hl with⟨h1,_⟩|⟨h1,_⟩;·exact .inl h1
 ·exact .inr ⟨_,h1,au _⟩
theorem bL.trans{a b c:ak}{u v x:ay}(h:bL a u b v)(k:bL b v c x):bL a u c x:=by
 obtain⟨g1,l1⟩:=h;obtain⟨g2,l2⟩:=k;refine⟨⟨g2.os.trans g1.os,g2.tape.trans g1.tape,g2.output.trans g1.output,aZ g1.size g2.size,λj hj hn=>?_⟩,?_⟩;·
  refine(g2.block j (bI hj g1.size) ?_).trans (g1.block j hj hn);rcases l1 with l1|⟨g,l1,hg⟩;·rw[l1];exact hn
  ·rw[l1];intro e;cases e;omega
 ·rcases l2 with l2|⟨g,l2,hg⟩;·rw[l2];exact l1
  ·exact .inr ⟨g,l2,aZ g1.size hg⟩
theorem bL.block{a b:ak}{u v:ay}(h:bL a u b v){j:Nat}(hj:j<a.heap.size)(hn:u.ownBlock≠some j):b.heap[j]?=a.heap[j]?:=h.grown.block j hj (dB hn)
theorem bL.size{a b:ak}{u v:ay}(h:bL a u b v):a.heap.size<=b.heap.size:=h.grown.size
def kp(B:Nat)(v:ay):Prop:=∀k,v.ownBlock=some k->B<=k
theorem bL.past{B:Nat}{a b:ak}{u v:ay}(h:bL a u b v)(hp:kp B u)(hB:B<=a.heap.size):kp B v:=by
 intro k hk;rcases h.lies with h1|⟨g,h1,hg⟩;·exact hp k (h1▸hk)
 ·rw[h1]at hk;cases hk;omega
theorem bL.below{B:Nat}{z a b:ak}{u v:ay}(h:bL a u b v)(hp:kp B u)(hb:aI B z a)(hB:B<=a.heap.size):aI B z b:=hb.grown h.grown hB hp
theorem bX{w:ak}{B e size n:Nat}{v:ay}{xs:List ay}(h:w.ownsRow B e size v (n+1) xs):∃g cap,v=sL g (n+1) cap:=by
 rcases h.2 with⟨_,h0⟩|⟨g,cap,cur,rfl,_⟩;·cases h0
 ·exact⟨g,cap,rfl⟩
theorem ownsRow_form{w:ak}{B e size n:Nat}{v:ay}{xs:List ay}(h:w.ownsRow B e size v n xs):∃a cap,v= .slice a n cap:=by
 rcases h.2 with⟨rfl,rfl⟩|⟨g,cap,cur,rfl,_⟩;·exact⟨_,_,rfl⟩
 ·exact⟨_,cap,rfl⟩
theorem II{w:ak}{B e size n:Nat}{v:ay}{xs:List ay}(h:w.ownsRow B e size v n xs):w.ownsRow 0 e size v n xs:=by
 refine⟨h.1,?_⟩;rcases h.2 with h0|⟨g,cap,cur,h1,_,h2⟩;·exact .inl h0
 ·exact .inr ⟨g,cap,cur,h1,aW _,h2⟩
theorem aO{w w':ak}{B e size n:Nat}{v:ay}{xs:List ay}(h:w.ownsRow B e size v n xs)(hb:∀k,v.ownBlock=some k->w'.heap[k]?=w.heap[k]?):w'.ownsRow B e size v n xs:=by
 refine⟨h.1,?_⟩;rcases h.2 with h0|⟨g,cap,cur,h1,h2,h3,h4⟩;·exact .inl h0
 ·subst h1;exact .inr ⟨g,cap,cur,rfl,h2,(hb g rfl).trans h3,h4⟩
def zx:Nat->Nat->List Nat|0,n=>[n%256]|f+1,n=>if 128<=n then(n%128+128)::zx f (n/128)else[n]
def oN(n:Nat):List Nat:=zx n n
def CM(b:Nat):ay:= .int .u8 (b:Int)
theorem D9:∀(f g n:Nat),n<=f->n<=g->zx f n=zx g n
 |0,0,_,_,_=>rfl|0,g+1,n,h,_=>by
  obtain rfl:n=0:=by omega
  simp[zx]|f+1,0,n,_,h=>by
  obtain rfl:n=0:=by omega
  simp[zx]|f+1,g+1,n,h1,h2=>by
  unfold zx;split;·rw[D9 f g (n/128) (by omega) (by omega)]
  ·rfl
theorem vQ{n:Nat}(h:128<=n):oN n=(n%128+128)::oN (n/128):=by
 unfold oN;obtain⟨m,rfl⟩:∃m,n=m+1:=⟨n-1,by omega⟩;conv=>lhs;unfold zx
 rw[if_pos h,D9 m ((m+1)/128) _ (by omega) (au _)]
theorem nT{n:Nat}(h:n<128):oN n=[n]:=by unfold oN;cases n with|zero=>rfl|succ m=>unfold zx;rw[if_neg (by omega)]
theorem Tryz.PX:(Tryz.prog.info? 5).map (λi=>(i.zero,i.size,i.bytes))=some (some (.int .u8 0),1,1):=by kernel_rfl
theorem agQ:∀x:Fin 256,x.val|||128=x.val%128+128:=by decide+kernel
theorem aaR(m:Nat):bits BinOp.or IntKind.u8 ((m:Int)%256) 128=((m%128+128:Nat):Int):=by
 have h:=u8_or_nat (m%256) 128 (by omega) (by omega);have e:((m%256:Nat):Int)=(m:Int)%256:=by omega
 rw[e]at h;rw[show((128:Nat):Int)=128 from rfl]at h;rw[h,agQ ⟨m%256,by omega⟩];show((m%256%128+128:Nat):Int)=_;rw[Nat.mod_mod_of_dvd m (by decide:128∣256)]
theorem ZA(v:ay)(l:Nat)(xs:List ay)(n:Nat)(w:ak)(hn:n<1000000)(hl:l<=1000000)(hown:w.ownsRow 0 5 1 v l xs):aX ah 79 #[v,iV n] w λe w'=>∃v',e= .returned v'/\w'.ownsRow 0 5 1 v' (l+(oN n).length) (xs++(oN n).map CM)/\bL w v w' v':=by
 obtain⟨i0,hi,hz0,hz1,hz2⟩:=info_parts Tryz.PX;go_enter Tryz.func79,Tryz.ntmps79;go_wp2;go_loopw[0,1](λs i wr=>∃(m k:Nat)(ys:List ay),m<1000000/\m+k<=n/\i= .int .i64 m/\Hid (ys++(oN m).map CM=xs++(oN n).map CM/\k+(oN m).length=(oN n).length)/\wr.ownsRow 0 5 1 s (l+k) ys/\bL w v wr s)(λ_ i _=>(intOf i).toNat);case atStart=>exact⟨n,0,xs,hn,by omega,rfl,⟨rfl,by omega⟩,hown,bL.refl _ _⟩
 case round=>
  obtain⟨m,k,ys,hm,hmk,rfl,HE,hrow,hmv⟩:=hrel;have hmax:l+k+1<=maxLen:=by unfold maxLen;omega
  have hbytes:(l+k+1)*1<=140737488355328:=by omega
  by_cases anm:128<=m;·
   have HV:=ae (vQ anm);have HO:=ae (aaR m);go_wp2_with(at_builtin;refine wpList_append_lies rfl _ _ 42 rfl 5 i0 (.int .u8 0) 1 1 vr hi hz0 hz1 hz2 rfl (by decide) _ _ _ rfl (hrow.alloc _) (aD wr.heap.size 0) 1 1 [.int .u8 (bits BinOp.or IntKind.u8 ((m:Int)%256) 128)] rfl rfl ?c1 ?c2 (by decide) hmax hbytes ?_);case c1=>exact cell_one_new _ _ _
   case c2=>simp[dN]
   intro v' w1 hown' hgrow hlies;have adV:=hmv.trans ((bL.alloc wr _ _).trans (bL.append hgrow hlies));clear hlies hgrow;go_wp2;refine⟨⟨m/128,k+1,_,by omega,by omega,by go_num,?_,hown',adV⟩,by simp[intOf];omega⟩;refine⟨?_,?_⟩;·have h1:=HE.1;rw[HV]at h1;rw[<-h1,HO];simp[CM]
   ·have h2:=HE.2;rw[HV,cI]at h2;omega
  ·have HV:=ae (nT (by omega:m<128));go_wp2_with(at_builtin;refine wpList_append_lies rfl _ _ 42 rfl 5 i0 (.int .u8 0) 1 1 vr hi hz0 hz1 hz2 rfl (by decide) _ _ _ rfl (hrow.alloc _) (aD wr.heap.size 0) 1 1 [.int .u8 (m:Int)] rfl rfl ?c3 ?c4 (by decide) hmax hbytes ?_);case c3=>exact cell_one_new _ _ _
   case c4=>simp[dN]
   intro v' w1 hown' hgrow hlies;have adV:=hmv.trans ((bL.alloc wr _ _).trans (bL.append hgrow hlies));clear hlies hgrow;go_wp2;go_ret;obtain⟨h1,h2⟩:=HE.out;rw[HV]at h1 h2;refine⟨v',rfl,?_,adV⟩;have e1:ys++[Value.int .u8 (m:Int)]=xs++(oN n).map CM:=h1;rw[e1,show l+k+1=l+(oN n).length by simp at h2;omega]at hown';exact hown'
theorem Ke{n:Nat}(h:n<1000000):(oN n).length<=3:=by
 rcases fe n 128 with h1|h1;·rw[nT h1];simp
 ·rw[vQ h1,cI];rcases fe (n/128) 128 with h2|h2;·rw[nT h2];simp
  ·rw[vQ h2,cI,nT (by omega)];simp
theorem Zh{n:Nat}(h:n<1000000):∀b∈oN n,b<256:=by
 have small:∀m,m<128->∀b∈oN m,b<256:=λm hm b hb=>by rw[nT hm]at hb;simp at hb;omega
 have big:∀m,128<=m->(∀b∈oN (m/128),b<256)->∀b∈oN m,b<256:=λm hm ih b hb=>by
  rw[vQ hm]at hb;rcases List.mem_cons.1 hb with rfl|hb;·omega
  ·exact ih b hb
 rcases fe n 128 with h1|h1;·exact small n h1
 ·refine big n h1 ?_;rcases fe (n/128) 128 with h2|h2;·exact small _ h2
  ·exact big _ h2 (small _ (by omega))
structure Nd where
 final:Bool
 aY:List (UInt8 × Nat)
 v:ay
def dt(es:List (UInt8×Nat)):List ay:=es.flatMap λp=>[.int .u8 p.1.toNat,aP p.2]
theorem iJ(es:List (UInt8×Nat)):(dt es).length=es.length*2:=by induction es with|nil=>rfl|cons p r ih=>simp[dt,List.flatMap_cons]at ih⊢;omega
theorem jE(a b:List (UInt8×Nat)):dt (a++b)=dt a++dt b:=by simp[dt]
theorem Am:∀(es:List (UInt8×Nat))(i:Nat)(p:UInt8×Nat),es[i]?=some p->(dt es)[i*2]?=some (.int .u8 p.1.toNat)/\(dt es)[i*2+1]?=some (aP p.2)
 |[],i,p,h=>by simp at h|y::t,0,p,h=>by simp at h;subst h;simp[dt]|y::t,i+1,p,h=>by
  have ih:=Am t i p (by simpa using h);have e:dt (y::t)= .int .u8 y.1.toNat::aP y.2::dt t:=by simp[dt]
  rw[e,show(i+1)*2=i*2+1+1 by omega,show i*2+1+1+1=(i*2+1)+1+1 by omega];simpa using ih
abbrev rU:=Nat->Option Nd
def upd(G:rU)(b:Nat)(nd:Nd):rU:=λk=>if k=b then some nd else G k
structure DJ (B:Nat) (w:ak) (G:rU):Prop where
 ge:∀ b nd,G b=some nd->B<=b/\kp B nd.v
 node:∀ b nd,G b=some nd->w.heap[b]?=some (.cells #[.bool nd.final,nd.v] 282 (0,0))
 row:∀ b nd,G b=some nd->w.ownsRow 0 284 2 nd.v nd.aY.length (dt nd.aY)
 apart:∀ b b' nd qJ g,b≠b'->G b=some nd->G b'=some qJ->nd.v.ownBlock=some g->qJ.v.ownBlock≠some g
structure St where
 G:rU
 kn:List (Shape × Nat)
 ids:List (Nat × Nat)
def cJ(n:Nat):ay:= .int .i64 n
def vals{α β:Type}(f:β->ay)(m:List (α×β)):List (α×ay):=m.map λp=>(p.1,f p.2)
theorem np{α β:Type}[DecidableEq α](f:β->ay)(m:List (α×β))(k:α):get (vals f m) k=(get m k).map f:=by induction m with
 |nil=>rfl|cons p r ih=>
  unfold vals at*;simp only[dM,get];split;·rfl
  ·exact ih
theorem qC{α β:Type}[DecidableEq α](f:β->ay)(m:List (α×β))(k:α)(v:β):put (vals f m) k (f v)=vals f (put m k v):=by induction m with
 |nil=>rfl|cons p r ih=>
  unfold vals at*;simp only[dM,put];split;·rfl
  ·rw[ih];rfl
structure fZ (B bb kb ib:Nat) (w:ak) (s:St):Prop where
 nodes:DJ B w s.G
 Fe:B<=bb
 Cy:B<=kb
 CA:B<=ib
 ne:kb≠ib
 FB:w.heap[bb]?=some (.cells #[.map (some kb),.map (some ib)] 278 (0,0))
 kn:bV yF w kb (vals aP s.kn)
 ids:bV aP w ib (vals cJ s.ids)
 zY:∀ p∈s.ids,(s.G p.1).isSome
 Lj:∀ p∈s.kn,(s.G p.2).isSome
 FV:∀ b nd,s.G b=some nd -> ∀ p∈nd.aY,(s.G p.2).isSome
def kC(ids:List (Nat×Nat))(t:Nat):Nat:=(get ids t).getD 0
def cC(ids:List (Nat×Nat))(es:List (UInt8×Nat)):List UInt8:=es.flatMap λp=>p.1::(oN (kC ids p.2)).map cS
def shapeOf(ids:List (Nat×Nat))(nd:Nd):Shape:=(nd.final,cC ids nd.aY)
def sD(s:St)(n t:Nat)(zU sU:Nd):St:=match get s.kn (shapeOf s.ids sU)with|some m=>{s with G:=upd s.G n {zU with aY:=zU.aY.dropLast++[((zU.aY.getLast?.map (·.1)).getD 0,m)]}}|none=>{s with kn:=put s.kn (shapeOf s.ids sU) t,ids:=put s.ids t s.ids.length}
def cX:List Nat->St->Nat->St|[],s,_=>s|t::ts,s,n=>match(cX ts s t).G t,(cX ts s t).G n with|some sU,some zU=>sD (cX ts s t) n t zU sU|_,_=>cX ts s t
theorem OE{s:St}{n t k:Nat}{zU sU:Nd}(h:k≠n):(sD s n t zU sU).G k=s.G k:=by
 unfold sD;split;·simp[upd,h]
 ·rfl
theorem WO{s:St}{n t k:Nat}{zU sU:Nd}(h:(s.G k).isSome):((sD s n t zU sU).G k).isSome:=by
 unfold sD;split;·
  simp only[upd];split;·rfl
  ·exact h
 ·exact h
theorem zF{ts:List Nat}{s:St}{n t:Nat}{zU sU:Nd}(h1:(cX ts s t).G t=some sU)(h2:(cX ts s t).G n=some zU):cX (t::ts) s n=sD (cX ts s t) n t zU sU:=by
 conv=>lhs;unfold cX
 rw[h1,h2]
theorem oH:∀(ts:List Nat)(s:St)(t n:Nat),n≠t->¬n∈ts->(cX ts s t).G n=s.G n
 |[],s,t,n,_,_=>rfl|u::us,s,t,n,h1,h2=>by
  simp only[ql,not_or]at h2;have ih:=oH us s u n h2.1 h2.2;unfold cX;split;·rw[OE h1];exact ih
  ·exact ih
theorem Cn:∀(ts:List Nat)(s:St)(t k:Nat),(s.G k).isSome->((cX ts s t).G k).isSome
 |[],s,t,k,h=>h|u::us,s,t,k,h=>by
  have ih:=Cn us s u k h;unfold cX;split;·exact WO ih
  ·exact ih
def Way(s:St):Nat->List Nat->Prop|n,[]=>∃nd,s.G n=some nd/\nd.aY=[]|n,t::ts=>(∃nd c es,s.G n=some nd/\nd.aY=es++[(c,t)])/\get s.ids t=none/\t≠n/\¬n∈ts/\Way s t ts
section
variable{P:iX}{ops:Array gV}{S:ak->Prop}{Q:Exit->Act->ak->Prop}
def fM (P:iX) (l:List gV) (S:ak->Prop) (x:Nat) (Q:Act->ak->Prop):List (Nat × Bool)->Act->ak->Prop
 | [],a,w=>Q a w
 | (i,true) :: rest,a,w =>
  match l[i]? with
  | none=>False
  | some o=>if gj o (yielded l.toArray a.tmps) then o.wp P a w (fun a' w'=>(i≠x->S w')/\((i=x->rest=[])/\fM P l S x Q rest a' w')) (pR fun _ _ _=>False) else fM P l S x Q rest (a.put o.dst undef) w
 | (i,false) :: rest,a,w =>
  match l[i]? with
  | none=>False
  | some o=>∃ v,YieldsIf P l.toArray S o v a/\fM P l S x Q rest (a.put o.dst v) w
def pL(ops:Array gV):List (Nat×Bool)->Array Bool->Bool|[],listed=>bZ .any ops listed==[]|(i,true)::rest,listed=>bZ .any ops listed==[i]&&pL ops rest (listed.setIfInBounds i true)|(i,false)::rest,listed=>(bZ .any ops listed).contains i&&Region.free .any ops listed i&&pL ops rest (listed.setIfInBounds i true)
def pq(ops:Array gV)(x i:Nat):Bool:=match ops[x]? with|none=>true|some o=>o.after.any λe=>mF .any e&&e.on==i
def BO(P:iX)(ops:Array gV)(Q:Exit->Act->ak->Prop)(S:ak->Prop)(x:Nat):Nat->Array Bool->Act->ak->Prop|0,listed,a,w=>bZ .any ops listed=[]/\Q .normal a w|n+1,listed,a,w=>(bZ .any ops listed=[]->Q .normal a w)/\∀i∈bZ .any ops listed,wpOp P ops Q i (λa' w'=>(i≠x->S w')/\BO P ops Q S x n (listed.setIfInBounds i true) a' w') a w
theorem jq{x:Nat}:∀(n:Nat)(listed:Array Bool)(a:Act)(w:ak),BO P ops Q S x n listed a w->wpAny P .any ops Q n listed a w|0,_,_,_,h=>h|n+1,_,_,_,h=>⟨h.1,λi hi=>wpOp_mono (λa' w' h'=>jq n _ a' w' h'.2) (h.2 i hi)⟩
theorem iF{x i:Nat}(h:pq ops x i=true){listed:Array Bool}(hx:x∈bZ .any ops listed):listed.getD i false=true:=by obtain⟨_,o,ho,hall⟩:=mem_ready.1 hx;unfold pq at h;rw[ho]at h;obtain⟨e,he,hb⟩:=Array.any_eq_true'.1 h;simp only[cR,beq_iff_eq]at hb;rw[<-hb.2];exact hall e he hb.1
theorem dK{i:Nat}{listed:Array Bool}(h:i∈bZ .any ops listed):listed.getD i false=false:=by
 have:=(mem_ready.1 h).1;rcases fe i listed.size with h'|h';·simp[h']at this⊢;exact this
 ·simp[Array.getElem?_eq_none h']at this
theorem Fh{x i:Nat}{oi:gV}{v:ay}(hx:pq ops x i=true)(hi:ops[i]?=some oi)(WE:fK ops=true)(hQ:∀c a w,Q (.panic c) (a.put oi.dst v) w->Q (.panic c) a w):∀(n:Nat)(listed:Array Bool)(a:Act)(w:ak),(∀j oj,ops[j]?=some oj->j≠i->listed.getD j true=false->(∀e∈oj.after,mF .any e=true->e.on≠i)->oi.apart ops oj=true)->i∈bZ .any ops listed->YieldsIf P ops S oi v a->S w->BO P ops Q S x n (listed.setIfInBounds i true) (a.put oi.dst v) w->BO P ops Q S x (n+1) listed a w:=by intro n;induction n with
 |zero=>
  intro listed a w _ hr hy hS H;refine⟨λh=>(by rw[h]at hr;cases hr),λj hj=>?_⟩;by_cases Jc:j=i;·subst Jc;exact hy.wpOp hi hS ⟨λ_=>hS,H⟩
  ·have hc:=ready_mono hj Jc;rw[H.1]at hc;cases hc|succ n ih=>
  intro listed a w hfree hr hy hS H;refine⟨λh=>(by rw[h]at hr;cases hr),λj hj=>?_⟩;by_cases Jc:j=i;·subst Jc;exact hy.wpOp hi hS ⟨λ_=>hS,H⟩
  ·have MQ:j≠x:=by rintro rfl;have h1:=iF hx hj;rw[dK hr]at h1;cases h1
   have h1:=H.2 j (ready_mono hj Jc);obtain⟨WX,oj,hoj,hall⟩:=mem_ready.1 hj;have aae:∀e∈oj.after,mF .any e=true->e.on≠i:=λe he hb heq=>by have h2:=hall e he hb;rw[heq,dK hr]at h2;cases h2
   have h2:=wpOp_putIf hoj (hfree j oj hoj Jc WX aae) (λcs b=>Hy WE i oi cs b hi) (λcs b=>Hy WE j oj cs b hoj) hQ hy h1;have OL:∀k ok,ops[k]?=some ok->k≠i->(listed.setIfInBounds j true).getD k true=false->(∀e∈ok.after,mF .any e=true->e.on≠i)->oi.apart ops ok=true:=λk ok hk hki hun hno=>by
    refine hfree k ok hk hki ?_ hno;by_cases hjk:j=k;·subst hjk;exact WX
    ·rw[getD_set_ne true hjk]at hun;exact hun
   refine wpOp_mono (λa' w' h3=>⟨λ_=>h3.2.1 MQ,ih (listed.setIfInBounds j true) a' w' OL (ready_mono hr (dB Jc)) h3.1 (h3.2.1 MQ) ?_⟩) h2;rw[Array.setIfInBounds_comm _ _ Jc];exact h3.2.2
theorem rR{lo:List gV}{x:Nat}(hs:fK lo.toArray=true){Q':Exit->Act->ak->Prop}(hQ:∀a w,Q .normal a w->Q' .normal a w)(hp:∀c a w,¬Q' (.panic c) a w):∀(l:List (Nat×Bool))(listed:Array Bool)(a:Act)(w:ak),(∀q∈l,q.2=false->pq lo.toArray x q.1=true)->pL lo.toArray l listed=true->S w->fM P lo S x (Q .normal) l a w->BO P lo.toArray Q' S x l.length listed a w
 |[],listed,a,w,_,hB,_,h=>by simp only[pL,beq_iff_eq]at hB;exact⟨hB,hQ _ _ h⟩|(i,true)::rest,listed,a,w,hl,hB,hS,h=>by
  simp only[pL,cR,beq_iff_eq]at hB;obtain⟨hr,hB'⟩:=hB;have ih:=rR (x:=x) hs hQ hp rest (listed.setIfInBounds i true);refine⟨λh0=>(by rw[hr]at h0;cases h0),λj hj=>?_⟩;rw[hr]at hj;obtain rfl:j=i:=by simpa using hj
  unfold fM at h;unfold wpOp;split at h;·exact h.elim
  ·rename_i o ho;have ho':lo.toArray[j]?=some o:=by simpa using ho
   simp only[ho'];split;·
    rename_i hw;rw[if_pos hw]at h;refine .inl ?_;refine Oper.wp_mono (K:=λa' w'=>(j≠x->S w')/\((j=x->rest=[])/\fM P lo S x (Q .normal) rest a' w')) (λa' w' hh=>⟨hh.1,?_⟩) ?_;·
     by_cases MQ:j=x;·have:=hh.2.1 MQ;subst this;simp only[pL,beq_iff_eq]at hB';exact⟨hB',hQ _ _ hh.2.2⟩
     ·exact ih a' w' (λq hq=>hl q (bq _ hq)) hB' (hh.1 MQ) hh.2.2
    ·unfold ak8 at h⊢;generalize(execOp a.eval o).run P w=r at*;cases r with
     |ok n w'=>
      cases n<;>simp only[Oper.upon]at h⊢;case value=>exact h
      case skip=>exact h
      case defer=>exact h
      case row=>exact h
      case enter f args=>refine Calls.mono h λe w'' he=>?_;cases e with|returned v=>exact he|panicked c=>exact he.elim|outgrown=>obtain⟨_,_,hx⟩:=he;exact hx.elim
      all_goals exact h|halt x w'=>cases x<;>simp only[Oper.upon]at h⊢;all_goals exact h.elim
   ·rename_i hw;rw[if_neg hw]at h;exact⟨λ_=>hS,ih _ _ (λq hq=>hl q (bq _ hq)) hB' hS h⟩|(i,false)::rest,listed,a,w,hl,hB,hS,h=>by
  simp only[pL,cR]at hB;obtain⟨⟨hr,hf⟩,hB'⟩:=hB;have ih:=rR (x:=x) hs hQ hp rest (listed.setIfInBounds i true);unfold fM at h;split at h;·exact h.elim
  ·rename_i o ho;obtain⟨v,hy,hk⟩:=h;have ho':lo.toArray[i]?=some o:=by simpa using ho
   exact Fh (hl (i,false) bE rfl) ho' hs (λc a w hq=>(hp _ _ _ hq).elim) rest.length listed a w (Region.free_spec ho' hf) (by simpa using hr) hy hS (ih _ _ (λq hq=>hl q (bq _ hq)) hB' hS hk)
theorem bB{id:Nat}{a:Act}{w:ak}{l:List gV}(order:List (Nat×Bool))(x:Nat)(S:ak->Prop)(hm:P.follows .mixedOrders=true)(hs:(fK l.toArray&&(order.all λq=>q.2||pq l.toArray x q.1)&&(order.length==l.length)&&pL l.toArray order (fh l.length false))=true)(hS:S w.drew)(h:fM P l S x (Q .normal) order a w.drew):(AR id l.toArray true).wp P Q a w:=by
 simp only[cR,beq_iff_eq]at hs;obtain⟨⟨⟨h1,h3⟩,h4⟩,h5⟩:=hs;have h3':∀q∈order,q.2=false->pq l.toArray x q.1=true:=λq hq hf=>by have:=List.all_eq_true.1 h3 q hq;rw[hf]at this;simpa using this
 refine wp_region_noPanic (wp_region_any hm (jq (S:=S) (x:=x) _ _ _ _ ?_));have:=rR (Q:=Q) (Q':=pR Q) h1 (λ_ _ h=>h) (λ_ _ _ h=>h) order (fh l.length false) a w.drew h3' h5 hS h;rw[h4]at this;simpa using this
theorem mh{id:Nat}{a:Act}{w:ak}{l:List gV}(order:List (Nat×Bool))(S:ak->Prop)(hm:P.follows .mixedOrders=true)(hs:(fK l.toArray&&(order.all λq=>q.2||pq l.toArray 1000 q.1)&&(order.length==l.length)&&pL l.toArray order (fh l.length false))=true)(hS:S w.drew)(h:fM P l S 1000 (Q .normal) order a w.drew):(AR id l.toArray true).wp P Q a w:=bB order 1000 S hm hs hS h
theorem cV{l:List gV}{x:Nat}{Q:Act->ak->Prop}{a:Act}{w:ak}(h:Q a w):fM P l S x Q [] a w:=h
theorem aR{l:List gV}{x:Nat}{Q:Act->ak->Prop}{i:Nat}{rest:List (Nat×Bool)}{a:Act}{w:ak}{o:gV}(v:ay)(ho:l[i]?=some o)(hw:gj o (yielded l.toArray a.tmps)=true)(hv:∀w',S w'->(execOp a.eval o).run P w'= .ok (.value v) w')(h:fM P l S x Q rest (a.put o.dst v) w):fM P l S x Q ((i,false)::rest) a w:=by unfold fM;rw[ho];exact⟨v,.inl ⟨hw,hv⟩,h⟩
theorem jn{l:List gV}{x:Nat}{Q:Act->ak->Prop}{i:Nat}{rest:List (Nat×Bool)}{a:Act}{w:ak}{o:gV}(ho:l[i]?=some o)(hw:gj o (yielded l.toArray a.tmps)=false)(h:fM P l S x Q rest (a.put o.dst undef) w):fM P l S x Q ((i,false)::rest) a w:=by unfold fM;rw[ho];exact⟨undef,.inr ⟨hw,rfl⟩,h⟩
theorem bg{l:List gV}{x:Nat}{Q:Act->ak->Prop}{i:Nat}{rest:List (Nat×Bool)}{a:Act}{w:ak}{o:gV}(ho:l[i]?=some o)(hw:gj o (yielded l.toArray a.tmps)=true)(hx:i≠x)(h:∀K:Act->ak->Prop,(∀a' w',S w'->fM P l S x Q rest a' w'->K a' w')->o.wp P a w K (pR λ_ _ _=>False)):fM P l S x Q ((i,true)::rest) a w:=by unfold fM;rw[ho];simp only[hw,if_true];exact h _ λa' w' h1 h2=>⟨λ_=>h1,λe=>absurd e hx,h2⟩
theorem cO{l:List gV}{x:Nat}{Q:Act->ak->Prop}{a:Act}{w:ak}{o:gV}(ho:l[x]?=some o)(hw:gj o (yielded l.toArray a.tmps)=true)(h:∀K:Act->ak->Prop,(∀a' w',Q a' w'->K a' w')->o.wp P a w K (pR λ_ _ _=>False)):fM P l S x Q [(x,true)] a w:=by unfold fM;rw[ho];simp only[hw,if_true];exact h _ λa' w' h2=>⟨λe=>absurd rfl e,by simp,h2⟩
theorem aN(xs:List ay)(ds:List Deferred)(d:Nat)(v:ay):({tmps:=xs.toArray,defers:=ds}:Act).put (some d) v={tmps:=(xs.set d v).toArray,defers:=ds}:=by simp[Act.put]
end
theorem fZ.xh{B bb kb ib:Nat}{w:ak}{s:St}(h:fZ B bb kb ib w s){b:Nat}{nd:Nd}(hG:s.G b=some nd):b≠bb/\b≠kb/\b≠ib:=by
 have hb:=h.nodes.node b nd hG;refine⟨?_,?_,?_⟩;·rintro rfl;rw[h.FB]at hb;simp at hb
 ·rintro rfl;obtain⟨es,c,hk,_⟩:=h.kn;rw[hk]at hb;cases hb
 ·rintro rfl;obtain⟨es,c,hk,_⟩:=h.ids;rw[hk]at hb;cases hb
theorem fZ.jW{B bb kb ib:Nat}{w:ak}{s:St}(h:fZ B bb kb ib w s){b:Nat}{nd:Nd}(hG:s.G b=some nd){g:Nat}(hg:nd.v.ownBlock=some g):g≠bb/\g≠kb/\g≠ib/\∀b' qJ,s.G b'=some qJ->g≠b':=by
 have hrow:=h.nodes.row b nd hG;have hh:∃cur,w.heap[g]?=some (.cells cur 284 (0,0)):=by
  rcases hrow.2 with⟨h1,_⟩|⟨g',cap,cur,h1,_,h2,_⟩;·rw[h1]at hg;cases hg
  ·rw[h1]at hg;cases hg;exact⟨cur,h2⟩
 obtain⟨cur,hh⟩:=hh;refine⟨?_,?_,?_,?_⟩;·rintro rfl;rw[h.FB]at hh;simp at hh
 ·rintro rfl;obtain⟨es,c,hk,_⟩:=h.kn;rw[hk]at hh;cases hh
 ·rintro rfl;obtain⟨es,c,hk,_⟩:=h.ids;rw[hk]at hh;cases hh
 ·rintro b' qJ SK rfl;rw[h.nodes.node g qJ SK]at hh;simp at hh
theorem fZ.xk{B bb kb ib:Nat}{w:ak}{s:St}(h:fZ B bb kb ib w s):bb≠kb/\bb≠ib:=by
 refine⟨?_,?_⟩;·rintro rfl;obtain⟨es,c,hk,_⟩:=h.kn;rw[h.FB]at hk;cases hk
 ·rintro rfl;obtain⟨es,c,hk,_⟩:=h.ids;rw[h.FB]at hk;cases hk
theorem Gj(es:List (UInt8×Nat))(c:UInt8)(t m:Nat):(dt (es++[(c,t)])).set (es.length*2+1) (aP m)=dt (es++[(c,m)]):=by rw[jE,jE,List.set_append_right _ _ (by rw[iJ];omega),iJ];simp[dt]
theorem fZ.ade{B bb kb ib:Nat}{w:ak}{s:St}(h:fZ B bb kb ib w s){n g cap t m:Nat}{c:UInt8}{es:List (UInt8×Nat)}{nd:Nd}(hG:s.G n=some nd)(he:nd.aY=es++[(c,t)])(hv:nd.v=sL g (es.length+1) cap)(hm:(s.G m).isSome):fZ B bb kb ib (w.setCell (aD g (es.length*2+1)) (aP m)) {s with G:=upd s.G n {nd with aY:=es++[(c,m)]}}:=by
 have hgo:nd.v.ownBlock=some g:=by rw[hv];rfl
 obtain⟨n1,n2,n3,n4⟩:=h.jW hG hgo;have hsame:∀k,k≠g->(w.setCell (aD g (es.length*2+1)) (aP m)).heap[k]?=w.heap[k]?:=λk hk=>az w _ _ k hk;have hdom:∀k,(s.G k).isSome->((upd s.G n {nd with aY:=es++[(c,m)]}) k).isSome:=λk hk=>by
  unfold upd;split;·rfl
  ·exact hk
 refine⟨⟨λb qJ hb=>?_,λb qJ hb=>?_,λb qJ hb=>?_,λb b' x x' g' hne hb hb' hx=>?_⟩,h.Fe,h.Cy,h.CA,h.ne,(hsame bb (dB n1)).trans h.FB,h.kn.of_block (hsame kb (dB n2)),h.ids.of_block (hsame ib (dB n3)),λp hp=>hdom _ (h.zY p hp),λp hp=>hdom _ (h.Lj p hp),λb qJ hb p hp=>?_⟩;·
  simp only[upd]at hb;split at hb;·rename_i e;cases hb;exact h.nodes.ge n nd hG|>λx=>by rw[e];exact x
  ·exact h.nodes.ge b qJ hb
 ·simp only[upd]at hb;split at hb;·rename_i e;cases hb;rw[hsame b (by rw[e];exact dB (n4 n nd hG)),e];exact h.nodes.node n nd hG
  ·rw[hsame b (dB (n4 b qJ hb))];exact h.nodes.node b qJ hb
 ·simp only[upd]at hb;split at hb;·rename_i e;cases hb;have hr:=h.nodes.row n nd hG;rw[he,hv]at hr;simp only[bh,cI,gX,gW]at hr⊢;have:=(hr.stored (es.length*2+1) (aP m)).1;rw[Gj]at this;rw[hv];exact this
  ·rename_i e;refine aO (h.nodes.row b qJ hb) λk hk=>hsame k ?_;rintro rfl;exact h.nodes.apart n b nd qJ k (dB e) hG hb hgo hk
 ·simp only[upd]at hb hb';split at hb<;>split at hb';·rename_i e1 e2;exact absurd (e1.trans e2.symm) hne
  ·rename_i e1 e2;cases hb;exact h.nodes.apart n b' nd x' g' (by rw[<-e1];exact hne) hG hb' hx
  ·rename_i e1 e2;cases hb';exact h.nodes.apart b n x nd g' (by rw[<-e2];exact hne) hb hG hx
  ·exact h.nodes.apart b b' x x' g' hne hb hb' hx
 ·refine hdom _ ?_;simp only[upd]at hb;split at hb;·
   cases hb;rcases List.mem_append.1 hp with hp|hp;·exact h.FV n nd hG p (by rw[he];exact List.mem_append_left _ hp)
   ·simp at hp;subst hp;exact hm
  ·exact h.FV b qJ hb p hp
theorem fZ.learn{B bb kb ib:Nat}{w w':ak}{s:St}(h:fZ B bb kb ib w s){k:Shape}{t:Nat}(ht:(s.G t).isSome)(hg:w.grownBy w' (some kb))(hm:bV yF w' kb (put (vals aP s.kn) k (aP t))):fZ B bb kb ib w' {s with kn:=put s.kn k t}:=by
 obtain⟨a1,a2⟩:=h.xk;rw[qC]at hm;have lt:∀{x:Nat}{o:Obj},w.heap[x]?=some o->x<w.heap.size:=λhx=>(Array.getElem?_eq_some_iff.1 hx).1;refine⟨⟨h.nodes.ge,λb nd hb=>?_,λb nd hb=>?_,h.nodes.apart⟩,h.Fe,h.Cy,h.CA,h.ne,?_,hm,h.ids.of_block (hg.block ib h.ids.lt (λe=>h.ne (aJ e).symm)),h.zY,λp hp=>?_,h.FV⟩;·exact(hg.block b (lt (h.nodes.node b nd hb)) (λe=>(h.xh hb).2.1 (aJ e))).trans (h.nodes.node b nd hb)
 ·exact aO (h.nodes.row b nd hb) λg hgo=>hg.block g ((h.nodes.row b nd hb).lt g hgo).2 (λe=>(h.jW hb hgo).2.1 (aJ e))
 ·exact(hg.block bb (lt h.FB) (λe=>a1 (aJ e))).trans h.FB
 ·rcases zV hp with rfl|hp;·exact ht
  ·exact h.Lj p hp
theorem fZ.count{B bb kb ib:Nat}{w w':ak}{s:St}(h:fZ B bb kb ib w s){t x:Nat}(ht:(s.G t).isSome)(hg:w.grownBy w' (some ib))(hm:bV aP w' ib (put (vals cJ s.ids) t (cJ x))):fZ B bb kb ib w' {s with ids:=put s.ids t x}:=by
 obtain⟨a1,a2⟩:=h.xk;rw[qC]at hm;have lt:∀{x:Nat}{o:Obj},w.heap[x]?=some o->x<w.heap.size:=λhx=>(Array.getElem?_eq_some_iff.1 hx).1;refine⟨⟨h.nodes.ge,λb nd hb=>?_,λb nd hb=>?_,h.nodes.apart⟩,h.Fe,h.Cy,h.CA,h.ne,?_,h.kn.of_block (hg.block kb h.kn.lt (λe=>h.ne (aJ e))),hm,λp hp=>?_,h.Lj,h.FV⟩;·exact(hg.block b (lt (h.nodes.node b nd hb)) (λe=>(h.xh hb).2.2 (aJ e))).trans (h.nodes.node b nd hb)
 ·exact aO (h.nodes.row b nd hb) λg hgo=>hg.block g ((h.nodes.row b nd hb).lt g hgo).2 (λe=>(h.jW hb hgo).2.2.1 (aJ e))
 ·exact(hg.block bb (lt h.FB) (λe=>a2 (aJ e))).trans h.FB
 ·rcases zV hp with rfl|hp;·exact ht
  ·exact h.zY p hp
theorem aq{w:ak}{b i:Nat}{cs:Array ay}{t:dx}(h:w.heap[b]?=some (.cells cs t (0,0))):w.cell? (aD b i)=cs[i]?:=by simp[World.cell?,h]
theorem aU{w:ak}{b i:Nat}{cs:Array ay}{t:dx}(h:w.heap[b]?=some (.cells cs t (0,0))):w.frozen? (aD b i)=false:=by simp[World.frozen?,h]
theorem lt_of_cell{w:ak}{b i:Nat}{v:ay}(h:w.cell? (aD b i)=some v):b<w.heap.size:=World.block_lt_of_cell? w _ h
theorem lt_of_heap{w:ak}{b:Nat}{o:Obj}(h:w.heap[b]?=some o):b<w.heap.size:=(Array.getElem?_eq_some_iff.1 h).1
structure Small (s:St):Prop where
 aY:∀ b nd,s.G b=some nd->nd.aY.length<=300
 ids:∀ p∈s.ids,p.2 < 1000000
 len:s.ids.length < 1000000
theorem Small.sD{s:St}{n t:Nat}{zU sU:Nd}(h:Small s)(hn:s.G n=some zU)(hl:s.ids.length+1<1000000):Small (sD s n t zU sU)/\(Ts.sD s n t zU sU).ids.length<=s.ids.length+1:=by
 unfold Ts.sD;split;·
  refine⟨⟨λb nd hb=>?_,h.ids,h.len⟩,Nat.le_succ _⟩;simp only[upd]at hb;split at hb;·cases hb;have:=h.aY n zU hn;simp;omega
  ·exact h.aY b nd hb
 ·refine⟨⟨h.aY,λp hp=>?_,?_⟩,?_⟩;·
   rcases zV hp with rfl|hp;·exact h.len
   ·exact h.ids p hp
  ·have:=xR s.ids t s.ids.length;simp only;omega
  ·exact xR s.ids t s.ids.length
theorem Small.cX:∀(ts:List Nat)(s:St)(t:Nat),Small s->s.ids.length+ts.length<1000000->Small (cX ts s t)/\(Ts.cX ts s t).ids.length<=s.ids.length+ts.length
 |[],s,t,h,hl=>⟨h,au _⟩|u::us,s,t,h,hl=>by
  simp only[cI]at hl;obtain⟨h1,h2⟩:=Small.cX us s u h (by omega);unfold Ts.cX;split;·rename_i sU zU e1 e2;obtain⟨h3,h4⟩:=h1.sD (t:=u) (sU:=sU) e2 (by omega);exact⟨h3,by simp only[cI];omega⟩
  ·exact⟨h1,by simp only[cI];omega⟩
theorem Small.kC{s:St}(h:Small s)(t:Nat):kC s.ids t<1000000:=by unfold Ts.kC;cases hg:get s.ids t with|none=>simp|some x=>exact h.ids _ (dX hg)
theorem Dl(ids:List (Nat×Nat))(a b:List (UInt8×Nat)):cC ids (a++b)=cC ids a++cC ids b:=by simp[cC]
theorem Jl(ids:List (Nat×Nat))(c:UInt8)(t:Nat):cC ids [(c,t)]=c::(oN (kC ids t)).map cS:=by simp[cC]
theorem Dj{s:St}(h:Small s)(es:List (UInt8×Nat)):(cC s.ids es).length<=es.length*4:=by induction es with
 |nil=>simp[cC]|cons p r ih=>
  have e:cC s.ids (p::r)=(p.1::(oN (Ts.kC s.ids p.2)).map cS)++cC s.ids r:=by simp[cC]
  rw[e,bh,cI,List.length_map,cI];have:=Ke (h.kC p.2);omega
def CN(b:UInt8):ay:= .int .u8 b.toNat
theorem Pc{n:Nat}(h:n<1000000):((oN n).map cS).map CN=(oN n).map CM:=by rw[List.map_map];apply rW;intro b hb;have:=Zh h b hb;simp only[Function.comp,CN,CM,M3];rw[Nat.mod_eq_of_lt (by omega)]
theorem Gi{s:St}(h:Small s){es:List (UInt8×Nat)}{k:Nat}{c:UInt8}{t:Nat}(hk:es[k]?=some (c,t)):(cC s.ids (es.take (k+1))).map CN=(cC s.ids (es.take k)).map CN++[.int .u8 c.toNat]++(oN (Ts.kC s.ids t)).map CM/\(cC s.ids (es.take (k+1))).length=(cC s.ids (es.take k)).length+1+(oN (Ts.kC s.ids t)).length:=by
 obtain⟨hlt,he⟩:=List.getElem?_eq_some_iff.1 hk;rw[bH hlt,he,Dl,Jl];refine⟨?_,?_⟩;·rw[cQ,dM,Pc (h.kC t),kP];rfl
 ·simp;omega
theorem XD{P:iX}{src dst e:dx}(hs:P.underlying src=some (.slice e))(he:P.underlying e=some (.int .u8))(hd:P.underlying dst=some .string){w:ak}{v:ay}{l:List UInt8}{B n:Nat}(hn:n=l.length)(h:w.ownsRow B e 1 v n (l.map CN)):(convert src dst v).run P w= .ok (.string ⟨l.toArray⟩) w:=by
 subst hn;rcases h.2 with⟨rfl,h0⟩|⟨g,cap,cur,rfl,_⟩;·have:l=[]:=iZ h0;subst this;exact Lib.run_convert_nil_bytes w src dst e 0 hs he hd
 ·refine run_convert_bytes_back w src dst e (aD g 0) cap l hs he hd λj hj=>?_;have hc:=h.cellAt j (by omega);rw[bp,ar hj]at hc;simpa[Addr.add_lit,CN]using hc
theorem KB(B bb kb ib:Nat)(s:St)(n:Nat)(w:ak)(hs:fZ B bb kb ib w s)(hw:Way s n []):aX ah 139 #[aP bb,aP n] w λe w'=>e= .returned (.tuple #[])/\fZ B bb kb ib w' s/\aI B w w':=by obtain⟨nd,hG,hnil⟩:=hw;have hrow:=hs.nodes.row n nd hG;have hb:=hs.nodes.node n nd hG;rw[hnil]at hrow;obtain⟨a,cap,hv⟩:=ownsRow_form hrow;rw[hv]at hb;have c1:w.cell? (aD n 1)=some (.slice a 0 cap):=aq hb;clear hb hrow hv hnil;unfold aP;go_enter aso,aoR;go_wp2;refine bodyPost_ret (results_none rfl _ _ _) rfl ?_;exact⟨rfl,hs,aB _ _⟩
theorem DJ.same{B:Nat}{w w':ak}{G:rU}(h:DJ B w G)(hS:Same w w'):DJ B w' G:=by obtain⟨n,rfl⟩:=hS;exact⟨h.ge,h.node,h.row,h.apart⟩
theorem fZ.same{B bb kb ib:Nat}{w w':ak}{s:St}(h:fZ B bb kb ib w s)(hS:Same w w'):fZ B bb kb ib w' s:=by obtain⟨n,rfl⟩:=hS;exact⟨h.nodes.same (Same.drewN w n),h.Fe,h.Cy,h.CA,h.ne,h.FB,h.kn,h.ids,h.zY,h.Lj,h.FV⟩
def Within(H:Nat)(s:St)(bb kb ib:Nat):Prop:=bb<H/\kb<H/\ib<H/\∀b nd,s.G b=some nd->b<H/\∀g,nd.v.ownBlock=some g->g<H
theorem fZ.within{B bb kb ib:Nat}{w:ak}{s:St}(h:fZ B bb kb ib w s):Within w.heap.size s bb kb ib:=⟨lt_of_heap h.FB,h.kn.lt,h.ids.lt,λb nd hb=>⟨lt_of_heap (h.nodes.node b nd hb),λg hg=>((h.nodes.row b nd hb).lt g hg).2⟩⟩
theorem fZ.below{B bb kb ib:Nat}{w w':ak}{s:St}(h:fZ B bb kb ib w s)(hb:aI w.heap.size w w'):fZ B bb kb ib w' s:=by obtain⟨w1,w2,w3,w4⟩:=h.within;refine⟨⟨h.nodes.ge,λb nd hG=>(hb.block b (w4 b nd hG).1).trans (h.nodes.node b nd hG),λb nd hG=>aO (h.nodes.row b nd hG) (λk hk=>hb.block k ((w4 b nd hG).2 k hk)),h.nodes.apart⟩,h.Fe,h.Cy,h.CA,h.ne,(hb.block bb w1).trans h.FB,h.kn.of_block (hb.block kb w2),h.ids.of_block (hb.block ib w3),h.zY,h.Lj,h.FV⟩
theorem fZ.fN{B bb kb ib:Nat}{w:ak}{s:St}(h:fZ B bb kb ib w s){b:Nat}{nd:Nd}(hG:s.G b=some nd):w.cell? (aD b 0)=some (.bool nd.final)/\∃a cap,nd.v= .slice a nd.aY.length cap/\w.cell? (aD b 1)=some (.slice a nd.aY.length cap):=by have hb:=h.nodes.node b nd hG;obtain⟨a,cap,hv⟩:=ownsRow_form (h.nodes.row b nd hG);refine⟨aq hb,a,cap,hv,?_⟩;rw[<-hv];exact aq hb
theorem fZ.dt{B bb kb ib:Nat}{w:ak}{s:St}(h:fZ B bb kb ib w s){b:Nat}{nd:Nd}(hG:s.G b=some nd){i:Nat}{c:UInt8}{t:Nat}(hi:nd.aY[i]?=some (c,t)):∃g cap,nd.v=sL g nd.aY.length cap/\w.cell? (aD g (i*2))=some (.int .u8 c.toNat)/\w.cell? (aD g (i*2+1))=some (aP t):=by have hrow:=h.nodes.row b nd hG;have hlt:=(List.getElem?_eq_some_iff.1 hi).1;obtain⟨m,hm⟩:∃m,nd.aY.length=m+1:=⟨nd.aY.length-1,by omega⟩;rw[hm]at hrow;obtain⟨g,cap,hv⟩:=bX hrow;rw[hv]at hrow;obtain⟨e1,e2⟩:=Am nd.aY i (c,t) hi;exact⟨g,cap,by rw[hm];exact hv,(hrow.cellAt _ (by omega)).trans e1,(hrow.cellAt _ (by omega)).trans e2⟩
theorem fZ.jT{B bb kb ib:Nat}{w:ak}{s:St}(h:fZ B bb kb ib w s){b:Nat}(hb:(s.G b).isSome):jT w b:=by obtain⟨nd,hnd⟩:=Option.isSome_iff_exists.1 hb;exact⟨_,_,h.nodes.node b nd hnd⟩
theorem fZ.zZ{B bb kb ib:Nat}{w:ak}{s:St}(h:fZ B bb kb ib w s):∀p∈vals cJ s.ids,Ts.jT w p.1:=λp hp=>by obtain⟨q,hq,rfl⟩:=List.mem_map.1 hp;exact h.jT (h.zY q hq)
theorem fZ.ado{B bb kb ib:Nat}{w:ak}{s:St}(h:fZ B bb kb ib w s){t:Nat}(ht:(s.G t).isSome):(fH 276 (.map (some ib)) (pT t) false).run ah w= .ok (iV (kC s.ids t)) w:=by have e:=bV.lookup wE h.ids t (h.jT ht) h.zZ mD (z:=iV 0) (by kernel_rfl) false;rw[np]at e;unfold kC;cases hg:get s.ids t with|none=>rw[hg]at e;exact e|some x=>rw[hg]at e;exact e
theorem fZ.VS{B bb kb ib:Nat}{w:ak}{s:St}(h:fZ B bb kb ib w s){t:Nat}(ht:(s.G t).isSome)(hn:get s.ids t=none):(fH 276 (.map (some ib)) (pT t) true).run ah w= .ok (.tuple #[iV 0,.bool false]) w:=by have e:=bV.lookup wE h.ids t (h.jT ht) h.zZ mD (z:=iV 0) (by kernel_rfl) true;rw[np,hn]at e;exact e
theorem fZ.R9{B bb kb ib:Nat}{w:ak}{s:St}(h:fZ B bb kb ib w s)(k:Shape):(fH 275 (.map (some kb)) (.agg #[.bool k.1,.string ⟨k.2.toArray⟩]) true).run ah w= .ok (.tuple #[((get s.kn k).map aP).getD (.pointer none),.bool (get s.kn k).isSome]) w:=by have e:=bV.lookup GL h.kn k trivial (λ_ _=>trivial) acR (z:= .pointer none) (by kernel_rfl) true;rw[np]at e;rw[Option.isSome_map]at e;exact e
theorem KA(B bb kb ib:Nat)(t:Nat)(ts:List Nat)(ih:∀(s:St)(w:ak),fZ B bb kb ib w s->Way s t ts->Small s->s.ids.length+ts.length<1000000->aX ah 139 #[aP bb,aP t] w λe w'=>e= .returned (.tuple #[])/\fZ B bb kb ib w' (cX ts s t)/\aI B w w')(s:St)(n:Nat)(w:ak)(hs:fZ B bb kb ib w s)(hw:Way s n (t::ts))(hsm:Small s)(hlen:s.ids.length+(t::ts).length<1000000):aX ah 139 #[aP bb,aP n] w λe w'=>e= .returned (.tuple #[])/\fZ B bb kb ib w' (cX (t::ts) s n)/\aI B w w':=by
 obtain⟨⟨nd,c,es,hG,wN⟩,hid,htn,al4,ZX⟩:=hw;have hrow:=hs.nodes.row n nd hG;have hb:=hs.nodes.node n nd hG;rw[wN]at hrow;simp only[bh,cI,gX,gW]at hrow;obtain⟨g,cap,hv⟩:=bX hrow;rw[hv]at hb hrow;have c1:w.cell? (aD n 1)=some (sL g (es.length+1) cap):=aq hb;have ce0:w.cell? (aD g (es.length*2))=some (.int .u8 c.toNat):=by rw[hrow.cellAt _ (by omega),jE,gA (by rw[iJ];omega),iJ];simp[dt]
 have ce1:w.cell? (aD g (es.length*2+1))=some (aP t):=by rw[hrow.cellAt _ (by omega),jE,gA (by rw[iJ];omega),iJ];simp[dt]
 have b0:w.cell? (aD bb 0)=some (.map (some kb)):=aq hs.FB;have b1:w.cell? (aD bb 1)=some (.map (some ib)):=aq hs.FB;have at7:es.length<=300:=by have:=hsm.aY n nd hG;rw[wN]at this;simp at this;omega
 clear hb hrow;have hlen':s.ids.length+ts.length<1000000:=by simp only[cI]at hlen;omega
 have HV:=ae hv;clear hv;have agH:∃sU,s.G t=some sU:=by cases ts with|nil=>obtain⟨x,hx,_⟩:=ZX;exact⟨x,hx⟩|cons u us=>obtain⟨⟨x,_,_,hx,_⟩,_⟩:=ZX;exact⟨x,hx⟩
 obtain⟨sU,hGt⟩:=agH;have JU:∀m,(fH 276 (.map (some ib)) (pT t) true).run ah (w.drewN m)= .ok (.tuple #[iV 0,.bool false]) (w.drewN m):=λm=>(hs.same (Same.drewN w m)).VS (by rw[hGt];rfl) hid;unfold aP at ce1⊢;go_enter aso,aoR;go_wp2_with fail;have q1:IntKind.i64.wrap ((es.length:Int)+1-1)=(es.length:Int):=by rw[IntWalk.i64_in _ (by omega)];omega
 have q2:(0:Int)<=(es.length:Int)/\(es.length:Int)<(es.length:Int)+1:=by omega
 go_quiet(fail);clear q1 q2;go_wp2_with fail;go_quiet(fail);go_wp2_with fail;refine(ih s _ (hs.same (Same.drewN _ _)) ZX hsm hlen').mono ?_;rintro e w1⟨rfl,hs1,hb1⟩;have wP:=(oH ts s t n (dB htn) al4).trans hG;obtain⟨ug,OW⟩:=Option.isSome_iff_exists.1 (Cn ts s t t (by rw[hGt];rfl));have HP:=ae (zF OW wP);have Z7:=(hsm.cX ts s t hlen').1;generalize cX ts s t=s1 at*;clear JU c1 ce0 ce1 b0 b1 ZX hid;have uq:=ae hs1;obtain⟨ct0,a1,Mc,hv1,ct1⟩:=hs1.fN OW;obtain⟨cn0,_⟩:=hs1.fN wP;have ce1:w1.cell? (aD g (es.length*2+1))=some (pT t):=by obtain⟨g',cap',e1,_,e3⟩:=hs1.dt wP (i:=es.length) (c:=c) (t:=t) (by rw[wN];simp);have eb:=congrArg gN (HV.symm.trans e1);simp[gN]at eb;subst eb;exact e3
 have b0:w1.cell? (aD bb 0)=some (.map (some kb)):=aq hs1.FB;have b1:w1.cell? (aD bb 1)=some (.map (some ib)):=aq hs1.FB;have Wv:=ae hv1;clear hs1 hv1;have apM:=Z7.aY t ug OW;go_wp2_with fail;go_loopw[7,57](λsv i wr=>∃k:Nat,k<=ug.aY.length/\i= .int .i64 k/\wr.ownsRow 0 5 1 sv (cC s1.ids (ug.aY.take k)).length ((cC s1.ids (ug.aY.take k)).map CN)/\kp w1.heap.size sv/\aI w1.heap.size w1 wr)(λ_ i _=>ug.aY.length-(intOf i).toNat);case atStart=>exact⟨0,aW _,rfl,World.ownsRow_nil _ _ _ _,(λk hk=>by cases hk),aB _ _⟩
 case round=>
  obtain⟨k,hk,rfl,hrow,mZ,hbl⟩:=hrel;by_cases hlt:k<ug.aY.length;·
   obtain⟨c',t',hct⟩:∃c' t',ug.aY[k]?=some (c',t'):=⟨_,_,ar hlt⟩;obtain⟨g1,XI,e1,ek0,ek1⟩:=(uq.below hbl).dt OW hct;rw[Wv]at e1;simp only[Value.slice.injEq,true_and]at e1;obtain⟨rfl,rfl⟩:=e1;unfold aP at ek1;have hW:=uq.below hbl;have htl:(cC s1.ids (ug.aY.take k)).length<=1200:=by have:=Dj Z7 (ug.aY.take k);rw[iu]at this;omega
   have amx:=Z7.kC t';have hstep:=ae (Gi Z7 hct);go_wp2_with fail;refine mh [(0,false),(1,false),(2,false),(5,false),(6,false),(7,false),(8,false),(9,false),(10,false),(11,false),(3,true),(4,true),(12,true),(13,false)] (λw'=>aI w1.heap.size w1 w'/\w'.heap[wr.heap.size]?=some (.cells #[.int .u8 c'.toNat,pT t'] 284 (0,0))) (by kernel_rfl) (by kernel_rfl) ?_ ?_;·exact⟨(hbl.alloc hbl.size _).drew,heap_alloc_new _ _⟩
   have hpW:∀W,aI w1.heap.size w1 W->(fH 276 (.map (some ib)) (pT t') false).run ah W= .ok (iV (kC s1.ids t')) W:=λW hB=>(uq.below hB).ado (uq.FV t ug OW (c',t') (aS hct));have HpW:=ae hpW;clear hpW;iterate 10(
 refine aR ?_ rfl rfl (λw' hS=>?_) ?_;rotate_left;·have hS1:=hS.1;have rD:=hS.2;have f0:w'.cell? (aD wr.heap.size 0)=some (.int .u8 c'.toNat):=aq rD;have f1:w'.cell? (aD wr.heap.size 1)=some (pT t'):=aq rD;have f2:w'.cell? (aD bb 1)=some (.map (some ib)):=aq (uq.below hS1).FB;have f3:=HpW w' hS1;clear hS hS1 rD;go_simp;try rfl
 simp only[aN,ai,aj])
   refine bg rfl rfl (by decide) (λK hK=>?_);go_simp;have hB3:aI w1.heap.size w1 ((wr.alloc (.cells #[.int .u8 c'.toNat,pT t'] 284)).alloc (.cells #[.int .u8 c'.toNat] 5)).drew:=((hbl.alloc hbl.size _).alloc (by have:=hbl.size;simp;omega) _).drew;have hF3:((wr.alloc (.cells #[.int .u8 c'.toNat,pT t'] 284)).alloc (.cells #[.int .u8 c'.toNat] 5)).drew.heap[wr.heap.size]?=some (.cells #[.int .u8 c'.toNat,pT t'] 284 (0,0)):=heap_alloc2_old _ _ _;have hrow3:((wr.alloc (.cells #[.int .u8 c'.toNat,pT t'] 284)).alloc (.cells #[.int .u8 c'.toNat] 5)).drew.ownsRow 0 5 1 u7 (cC s1.ids (ug.aY.take k)).length ((cC s1.ids (ug.aY.take k)).map CN):=((hrow.alloc _).alloc _).drew;have hc3:∀j u,[Value.int .u8 c'.toNat][j]?=some u->((wr.alloc (.cells #[.int .u8 c'.toNat,pT t'] 284)).alloc (.cells #[.int .u8 c'.toNat] 5)).drew.cell? (((aD (wr.heap.size+1) 0):jK).add j)=some u:=by have:=cell_one_new (wr.alloc (.cells #[.int .u8 c'.toNat,pT t'] 284)) (.int .u8 c'.toNat) 5;simpa using this
   have Z6:((wr.alloc (.cells #[.int .u8 c'.toNat,pT t'] 284)).alloc (.cells #[.int .u8 c'.toNat] 5)).drew.heap.size=wr.heap.size+2:=by simp
   generalize((wr.alloc (.cells #[.int .u8 c'.toNat,pT t'] 284)).alloc (.cells #[.int .u8 c'.toNat] 5)).drew=W3 at*;refine hK _ _ ⟨hB3,hF3⟩ ?_;clear hK K;refine bg rfl rfl (by decide) (λK hK=>?_);obtain⟨i0,hi,hz0,hz1,hz2⟩:=info_parts Tryz.PX;refine wp_append_lies _ _ 42 rfl 5 i0 (.int .u8 0) 1 1 vr hi hz0 hz1 hz2 rfl (by decide) _ _ _ rfl hrow3 (aD (wr.heap.size+1) 0) 1 1 [.int .u8 c'.toNat] rfl rfl hc3 (by simp[dN]) (by decide) (by unfold maxLen;omega) (by omega) ?_;intro v4 W4 hrow4 cM dS;have WN:kp w1.heap.size v4:=(bL.append cM dS).past mZ (by have:=hB3.size;omega);have hB4:aI w1.heap.size w1 W4:=hB3.grown cM (by have:=hB3.size;omega) mZ;have aiS:u7.ownBlock≠some wr.heap.size:=λe=>by have:=(hrow.lt _ e).2;omega
   have hF4:W4.heap[wr.heap.size]?=some (.cells #[.int .u8 c'.toNat,pT t'] 284 (0,0)):=(cM.block _ (by omega) (dB aiS)).trans hF3;have Ae:=bL.append cM dS;clear cM dS;refine hK _ _ ⟨hB4,hF4⟩ ?_;clear hK K;simp only[aN,ai,aj];refine bg rfl rfl (by decide) (λK hK=>?_);go_simp;refine(ZA v4 _ _ (kC s1.ids t') W4 amx (by omega) hrow4).mono ?_;rintro e W5⟨v5,rfl,lN,adU⟩;have hB5:=adU.below WN hB4 hB4.size;have hF5:W5.heap[wr.heap.size]?=some (.cells #[.int .u8 c'.toNat,pT t'] 284 (0,0)):=by
    refine(adU.block (by have:=Ae.size;omega) ?_).trans hF4;rcases Ae.lies with h|⟨g',h,hg'⟩;·rw[h];exact aiS
    ·rw[h];intro e;cases e;omega
   have adO:=adU.past WN hB4.size;refine hK _ _ ⟨hB5,hF5⟩ ?_;clear hK K;refine aR ?_ rfl rfl (λw' hS=>?_) ?_;rotate_left;·go_simp;try rfl
   refine cV ?_;rw[<-hstep.1,<-hstep.2]at lN;go_wp2;exact⟨⟨k+1,by omega,by go_num,lN,adO,hB5⟩,by simp[intOf];omega⟩
  ·obtain rfl:k=ug.aY.length:=by omega
   rw[List.take_length]at hrow;have hW:=ae (uq.below hbl);have hcv:∀W,aI wr.heap.size wr W->(convert 42 9 u7).run ah W= .ok (.string ⟨(cC s1.ids ug.aY).toArray⟩) W:=λW hB=>XD vr Tryz.underlying5 oM rfl (aO hrow λk hk=>hB.block k (hrow.lt k hk).2);have HCV:=ae hcv;clear hcv;have dt0:=(hW.fN OW).1;have de1:wr.cell? (aD g (es.length*2+1))=some (pT t):=by rw[hbl.cell (by exact lt_of_cell ce1)];exact ce1
   have lg:=lt_of_cell de1;have lt':=lt_of_cell dt0;go_wp2_with fail;refine mh [(0,false),(1,false),(2,false),(3,false),(4,false),(5,false),(6,false),(7,false),(8,false),(9,false),(10,true),(11,true)] (λw'=>aI wr.heap.size wr w') (by kernel_rfl) (by kernel_rfl) ?_ ?_;·exact(aB _ wr).drew
   iterate 10(
 refine aR ?_ rfl rfl (λw' hS=>?_) ?_;rotate_left;·have f0:=(hS.cell (p:=(aD t 0)) lt').trans dt0;have f1:=(hS.cell (p:=(aD g _)) lg).trans de1;have f3:=HCV w' hS;clear hS;go_simp;try rfl
 simp only[aN,ai,aj])
   refine bg rfl rfl (by decide) (λK hK=>?_);go_simp;refine hK _ _ ?_ ?_;·exact((aB _ wr).alloc (au _) _).drew
   clear hK K;refine bg rfl rfl (by decide) (λK hK=>?_);go_simp;refine hK _ _ ?_ ?_;·exact((aB _ wr).alloc (au _) _).drew
   clear hK K;refine cV ?_;go_wp2_with fail;have hBk:aI wr.heap.size wr (wr.alloc (.cells #[.bool ug.final,.string ⟨(cC s1.ids ug.aY).toArray⟩] 374)).drew:=((aB _ wr).alloc (au _) _).drew;have hKk:(wr.alloc (.cells #[.bool ug.final,.string ⟨(cC s1.ids ug.aY).toArray⟩] 374)).drew.heap[wr.heap.size]?=some (.cells #[.bool ug.final,.string ⟨(cC s1.ids ug.aY).toArray⟩] 374 (0,0)):=heap_alloc_new _ _;generalize(wr.alloc (.cells #[.bool ug.final,.string ⟨(cC s1.ids ug.aY).toArray⟩] 374)).drew=Wk at*;have hSk:=hW.below hBk;have k0:Wk.cell? (aD wr.heap.size 0)=some (.bool ug.final):=aq hKk;have k1:Wk.cell? (aD wr.heap.size 1)=some (.string ⟨(cC s1.ids ug.aY).toArray⟩):=aq hKk;have kb0:Wk.cell? (aD bb 0)=some (.map (some kb)):=aq hSk.FB;have kb1:Wk.cell? (aD bb 1)=some (.map (some ib)):=aq hSk.FB;have hlk:∀m,(fH 275 (.map (some kb)) (.agg #[.bool ug.final,.string ⟨(cC s1.ids ug.aY).toArray⟩]) true).run ah (Wk.drewN m)= .ok (.tuple #[((get s1.kn (shapeOf s1.ids ug)).map aP).getD (.pointer none),.bool (get s1.kn (shapeOf s1.ids ug)).isSome]) (Wk.drewN m):=λm=>(hSk.same (Same.drewN Wk m)).R9 (shapeOf s1.ids ug);clear ct0 cn0 ce1 b0 b1 dt0 de1 lg lt' HCV;have HKk:=ae hKk;clear hKk;unfold sD at HP;have Ug:=ae hSk;have hmg:∀m,get s1.kn (shapeOf s1.ids ug)=some m->(s1.G m).isSome:=λm h=>uq.Lj _ (dX h);have hBB:aI B w Wk:=by have x1:=(Same.drewN w _).below B|>.trans hb1;have x2:aI B w1 wr:=hbl.mono (by have:=hb1.size;have:=(uq.nodes.ge n nd wP).1;have:=lt_of_heap (uq.nodes.node n nd wP);omega);have x3:aI B wr Wk:=hBk.mono (by have:=hbl.size;have:=(uq.nodes.ge n nd wP).1;have:=lt_of_heap (uq.nodes.node n nd wP);omega);exact x1.trans (x2.trans x3)
   clear hSk hBk hW;cases hget:get s1.kn (shapeOf s1.ids ug)with
    |some m=>
     have hmG:=hmg m hget;rw[hget]at hlk HP;clear hmg hget;simp only[Y6,fT,Option.isSome_some,aP]at hlk;have hrel:=ae (Ug.ade wP wN HV hmG);have cg:Wk.cell? (aD g (es.length*2+1))=some (pT t):=by obtain⟨g',cap',e1,_,e3⟩:=Ug.dt wP (i:=es.length) (c:=c) (t:=t) (by rw[wN];simp);have eb:=congrArg gN (HV.symm.trans e1);simp[gN]at eb;subst eb;exact e3
     have fg:Wk.frozen? (aD g (es.length*2+1))=false:=by have hr:=Ug.nodes.row n nd wP;rw[wN,HV]at hr;simp only[bh,cI,gX,gW]at hr;exact hr.frozenAt _
     have hgB:B<=g:=(Ug.nodes.ge n nd wP).2 g (by rw[HV];rfl);go_quiet(fail);go_wp2_with fail;refine bodyPost_ret (results_none rfl _ _ _) rfl ?_;refine⟨rfl,?_,?_⟩;·
      rw[HP];have e1:nd.aY.dropLast++[((nd.aY.getLast?.map (·.1)).getD 0,m)]=es++[(c,m)]:=by rw[wN];simp
      rw[e1];exact hrel.same (Same.drewN _ _)
     ·exact(hBB.setCell (p:=(aD g _)) hgB _).trans ((Same.drewN _ _).below B)|none=>
     rw[hget]at hlk HP;clear hmg hget;simp only[Option.map_none,Option.getD_none,Option.isSome_none]at hlk;have htG:(s1.G t).isSome:=by rw[OW];rfl
     have e1:∀W,Same Wk W->W.cell? (aD g (es.length*2+1))=some (pT t):=λW hS=>by obtain⟨g',cap',e1,_,e3⟩:=(Ug.same hS).dt wP (i:=es.length) (c:=c) (t:=t) (by rw[wN];simp);have eb:=congrArg gN (HV.symm.trans e1);simp[gN]at eb;subst eb;exact e3
     have E1:=ae e1;clear e1;go_quiet(fail);go_wp2_with fail;obtain⟨Wl,hSl,rfl⟩:∃Wl,Same Wk Wl/\Wl=Wk.drewN nq:=⟨_,Same.drewN _ _,rfl⟩;generalize Wk.drewN nq=Wl at*;have cl0:=(hSl.cell _).trans k0;have cl1:=(hSl.cell _).trans k1;have cl2:=(hSl.cell _).trans kb0;have cl3:=(hSl.cell _).trans kb1;have cl4:=E1 Wl hSl;have hSL:=ae (Ug.same hSl);clear k0 k1 kb0 kb1 hlk;have nk:wr.heap.size≠kb:=by have:=(uq.kn.lt);have:=hbl.size;omega
     have ni:wr.heap.size≠ib:=by have:=(uq.ids.lt);have:=hbl.size;omega
     obtain⟨nbk,nbi⟩:=uq.xk;obtain⟨_,ngk,ngi,_⟩:=uq.jW wP (g:=g) (by rw[HV];rfl);refine mh [(0,false),(1,false),(2,false),(3,false),(4,false),(5,false),(6,false),(7,false),(8,false),(9,true)] (λw'=>w'.cell? (aD wr.heap.size 0)=some (.bool ug.final)/\w'.cell? (aD wr.heap.size 1)=some (.string ⟨(cC s1.ids ug.aY).toArray⟩)/\w'.cell? (aD bb 0)=some (.map (some kb))/\w'.cell? (aD bb 1)=some (.map (some ib))/\w'.cell? (aD g (es.length*2+1))=some (pT t)) (by kernel_rfl) (by kernel_rfl) ?_ ?_;·exact⟨cl0,cl1,cl2,cl3,cl4⟩
     iterate 9(
 refine aR ?_ rfl rfl (λw' hS=>?_) ?_;rotate_left;·obtain⟨f0,f1,f2,f3,f4⟩:=hS;go_simp;try rfl
 simp only[aN,ai,aj])
     refine bg rfl rfl (by decide) (λK hK=>?_);have aeD:=hSL.same (Same.drew Wl);obtain⟨W2,abL,hmap2,hg2,hz2⟩:=bV.update GL aeD.kn (shapeOf s1.ids ug) trivial (λ_ _=>trivial) acR (aP t);have adK:(iC 275 (.map (some kb)) (.agg #[.bool ug.final,.string ⟨(cC s1.ids ug.aY).toArray⟩]) (pT t)).run ah Wl.drew= .ok () W2:=abL;clear abL;go_simp;have ju:=ae (aeD.learn htG hg2 hmap2);have cm0:W2.cell? (aD wr.heap.size 0)=some (.bool ug.final):=dw hg2 cl0 (λe=>nk (aJ e));have cm1:W2.cell? (aD wr.heap.size 1)=some (.string ⟨(cC s1.ids ug.aY).toArray⟩):=dw hg2 cl1 (λe=>nk (aJ e));have cm2:W2.cell? (aD bb 0)=some (.map (some kb)):=dw hg2 cl2 (λe=>nbk (aJ e));have cm3:W2.cell? (aD bb 1)=some (.map (some ib)):=dw hg2 cl3 (λe=>nbk (aJ e));have cm4:W2.cell? (aD g (es.length*2+1))=some (pT t):=dw hg2 cl4 (λe=>ngk (aJ e));have hB2:aI B w W2:=(hBB.trans (hSl.below B)).drew.grown hg2 (by have:=(uq.nodes.ge n nd wP).1;have:=lt_of_heap (aeD.nodes.node n nd wP);omega) (λk hk=>by cases hk;exact uq.Cy);refine hK _ _ ⟨cm0,cm1,cm2,cm3,cm4⟩ ?_;clear hK K adK hmap2 hg2 cl0 cl1 cl2 cl3 cl4;refine cV ?_;go_wp2_with fail;have tc:∀W,Same W2 W->(∀p∈vals cJ s1.ids,jT W p.1)/\jT W t:=λW hS=>⟨(ju.same hS).zZ,(ju.same hS).jT htG⟩;refine mh [(0,false),(1,false),(2,false),(3,false),(4,false),(5,false),(6,false),(7,false),(8,false),(9,false),(10,false),(11,false),(12,true),(13,true)] (λw'=>w'.cell? (aD bb 1)=some (.map (some ib))/\w'.cell? (aD g (es.length*2+1))=some (pT t)) (by kernel_rfl) (by kernel_rfl) ?_ ?_;·exact⟨cm3,cm4⟩
     iterate 12(
 refine aR ?_ rfl rfl (λw' hS=>?_) ?_;rotate_left;·obtain⟨f0,f1⟩:=hS;go_simp;try rfl
 simp only[aN,ai,aj])
     refine bg rfl rfl (by decide) (λK hK=>?_);obtain⟨ies,ic,hib,_⟩:=ju.ids;have aak:ies.size=s1.ids.length:=by rw[bV.len hib ju.ids];simp[vals]
     have abK:(C2 #[276] 3 #[.map (some ib)]).run ah W2.drew= .ok (iV s1.ids.length) W2.drew:=by rw[<-aak];unfold C2;simp only[dZ,List.getElem?_toArray,List.getElem?_cons_zero,run_underlying mD,eH];rw[om (w:=W2.drew) hib];rfl
     clear hib aak;go_simp;refine hK _ _ ⟨cm3,cm4⟩ ?_;clear hK K abK;refine bg rfl rfl (by decide) (λK hK=>?_);have rD:=ju.same (Same.drew W2);obtain⟨W3,Lt,Ha,hg3,hz3⟩:=bV.update wE rD.ids t (rD.jT htG) rD.zZ mD (cJ s1.ids.length);have WH:(iC 276 (.map (some ib)) (pT t) (iV s1.ids.length)).run ah W2.drew= .ok () W3:=Lt;clear Lt;go_simp;have cn3:W3.cell? (aD bb 1)=some (.map (some ib)):=dw hg3 cm3 (λe=>nbi (aJ e));have cn4:W3.cell? (aD g (es.length*2+1))=some (pT t):=dw hg3 cm4 (λe=>ngi (aJ e));have hS3:=rD.count htG hg3 Ha;have hB3:aI B w W3:=hB2.drew.grown hg3 (by have:=hB2.size;have:=(uq.nodes.ge n nd wP).1;have:=lt_of_heap (rD.nodes.node n nd wP);simp at this;simp;omega) (λk hk=>by cases hk;exact uq.CA);refine hK _ _ ⟨cn3,cn4⟩ ?_;clear hK K WH Ha hg3 cm0 cm1 cm2 cm3 cm4;refine cV ?_;go_wp2_with fail;refine bodyPost_end (results_none rfl _ _ _) rfl ?_;refine⟨rfl,?_,hB3⟩;rw[HP];exact hS3
theorem yG(B bb kb ib:Nat):∀(ts:List Nat)(s:St)(n:Nat)(w:ak),fZ B bb kb ib w s->Way s n ts->Small s->s.ids.length+ts.length<1000000->aX ah 139 #[aP bb,aP n] w λe w'=>e= .returned (.tuple #[])/\fZ B bb kb ib w' (cX ts s n)/\aI B w w'|[],s,n,w,hs,hw,_,_=>KB B bb kb ib s n w hs hw|t::ts,s,n,w,hs,hw,hsm,hl=>KA B bb kb ib t ts (λs w=>yG B bb kb ib ts s t w) s n w hs hw hsm hl
def sf(n:Nat):List UInt8:=(oN n).map cS
theorem pI{n:Nat}(h:n<128):sf n=[cS n]:=by simp[sf,nT h]
theorem tW{n:Nat}(h:128<=n):sf n=cS (n%128+128)::sf (n/128):=by simp[sf,vQ h]
theorem ofNat_lt{a:Nat}(h:a<256):(cS a).toNat=a:=by simp[M3];omega
theorem Ng:∀(a b:Nat)(x y:List UInt8),sf a++x=sf b++y->a=b/\x=y:=by intro a;induction a using Nat.strongRecOn with
 |_ a ih=>
  intro b x y h;by_cases ha:a<128;·
   by_cases hb:b<128;·rw[pI ha,pI hb]at h;simp only[iT,eZ,fL]at h;have:=congrArg JQ h.1;rw[ofNat_lt (by omega),ofNat_lt (by omega)]at this;exact⟨this,h.2⟩
   ·rw[pI ha,tW (show 128<=b by omega)]at h;simp only[iT,eZ,fL]at h;have:=congrArg JQ h.1;rw[ofNat_lt (by omega),ofNat_lt (by omega)]at this;omega
  ·by_cases hb:b<128;·rw[tW (show 128<=a by omega),pI hb]at h;simp only[iT,eZ,fL]at h;have:=congrArg JQ h.1;rw[ofNat_lt (by omega),ofNat_lt (by omega)]at this;omega
   ·rw[tW (show 128<=a by omega),tW (show 128<=b by omega)]at h;simp only[iT,eZ,fL]at h;have h1:=congrArg JQ h.1;rw[ofNat_lt (by omega),ofNat_lt (by omega)]at h1;obtain⟨h2,h3⟩:=ih (a/128) (by omega) (b/128) x y h.2;exact⟨by omega,h3⟩
theorem Al{ids:List (Nat×Nat)}(hinj:∀a b,(get ids a).isSome->(get ids b).isSome->kC ids a=kC ids b->a=b):∀(es fs:List (UInt8×Nat)),(∀e∈es,(get ids e.2).isSome)->(∀e∈fs,(get ids e.2).isSome)->cC ids es=cC ids fs->es=fs
 |[],[],_,_,_=>rfl|[],f::fs,_,_,h=>by simp[cC]at h|e::es,[],_,_,h=>by simp[cC]at h|e::es,f::fs,he,hf,h=>by
  have h':e.1::(sf (kC ids e.2)++cC ids es)=f.1::(sf (kC ids f.2)++cC ids fs):=by simpa[cC,sf]using h
  simp only[fL]at h';obtain⟨h1,h2⟩:=Ng _ _ _ _ h'.2;have h3:=hinj _ _ (he e bE) (hf f bE) h1;have h4:=Al hinj es fs (λx hx=>he x (bq _ hx)) (λx hx=>hf x (bq _ hx)) h2;rw[h4];congr 1;exact Prod.ext h'.1 h3
abbrev fJ:=List UInt8
def fG(f:Bool)(es:List (UInt8×Nat))(L:Nat->List fJ):List fJ:=(if f then[[]]else[])++es.flatMap λp=>(L p.2).map (p.1::·)
def di(s:St)(n:Nat):Prop:=(get s.ids n).isSome
def Asc(es:List (UInt8×Nat)):Prop:=es.Pairwise λp q=>p.1<q.1
structure iz (s:St) (L:Nat->List fJ):Prop where
 apart:Apart s.ids
 nums:∀ (i:Nat) (p:Nat × Nat),s.ids[i]?=some p->p.2=i
 node:∀ n,di s n -> ∃ nd,s.G n=some nd/\Asc nd.aY/\(∀ p∈nd.aY,di s p.2/\kC s.ids p.2 < kC s.ids n)/\L n=fG nd.final nd.aY L
 known:∀ p∈s.kn,di s p.2 /\ ∃ nd,s.G p.2=some nd/\shapeOf s.ids nd=p.1
def Sp(s:St)(L:Nat->List fJ):Nat->List UInt8->List Nat->List fJ->Prop|n,[],[],W=>∃nd,s.G n=some nd/\get s.ids n=none/\Asc nd.aY/\(∀p∈nd.aY,di s p.2)/\W=fG nd.final nd.aY L|n,c::u,m::ns,W=>∃nd es V,s.G n=some nd/\get s.ids n=none/\Asc nd.aY/\nd.aY=es++[(c,m)]/\(∀p∈es,di s p.2)/\¬n∈m::ns/\Sp s L m u ns V/\W=fG nd.final es L++V.map (c::·)|_,_,_,_=>False
def FI(s:St)(root:Nat)(u:List UInt8)(ns:List Nat)(W:List fJ):Prop:=∃L,iz s L/\Sp s L root u ns W
def nodeAt(root:Nat)(ns:List Nat)(p:Nat):Nat:=(root::ns).getD p 0
theorem Sp.len{s:St}{L:Nat->List fJ}:∀(u:List UInt8)(ns:List Nat)(n:Nat)(W:List fJ),Sp s L n u ns W->ns.length=u.length|[],[],_,_,_=>rfl|c::u,m::ns,n,W,h=>by obtain⟨nd,es,V,_,_,_,_,_,_,h2,_⟩:=h;simp[Sp.len u ns m V h2]|[],_::_,_,_,h=>h.elim|_::_,[],_,_,h=>h.elim
theorem Sp.step {s:St} {L:Nat->List fJ}:∀ (u:List UInt8) (ns:List Nat) (n:Nat) (W:List fJ),Sp s L n u ns W -> ∀ i,i < u.length -> ∃ nd es,s.G (nodeAt n ns i)=some nd/\nd.aY=es++[(u.getD i 0,nodeAt n ns (i+1))]
 | [],[],_,_,_,i,hi=>by simp at hi
 | c :: u,m :: ns,n,W,h,i,hi=>by
  obtain ⟨nd,es,V,h1,_,_,h3,_,_,h2,_⟩:=h
  cases i with
  | zero=>exact ⟨nd,es,h1,h3⟩
  | succ i =>
   obtain ⟨qJ,es',e1,e2⟩:=Sp.step u ns m V h2 i (by simpa using hi)
   exact ⟨qJ,es',e1,by simpa [nodeAt] using e2⟩
 | [],_ :: _,_,_,h,_,_=>h.elim
 | _ :: _,[],_,_,h,_,_=>h.elim
theorem Sp.leaf{s:St}{L:Nat->List fJ}:∀(u:List UInt8)(ns:List Nat)(n:Nat)(W:List fJ),Sp s L n u ns W->∃nd,s.G (nodeAt n ns u.length)=some nd/\Asc nd.aY|[],[],n,_,h=>by obtain⟨nd,h1,_,h2,_⟩:=h;exact⟨nd,h1,h2⟩|c::u,m::ns,n,W,h=>by obtain⟨nd,es,V,_,_,_,_,_,_,h2,_⟩:=h;exact Sp.leaf u ns m V h2|[],_::_,_,_,h=>h.elim|_::_,[],_,_,h=>h.elim
theorem FI.len{s:St}{root:Nat}{u:List UInt8}{ns:List Nat}{W:List fJ}(h:FI s root u ns W):ns.length=u.length:=by obtain⟨L,_,hs⟩:=h;exact Sp.len _ _ _ _ hs
theorem FI.step{s:St}{root:Nat}{u:List UInt8}{ns:List Nat}{W:List fJ}(h:FI s root u ns W){i:Nat}(hi:i<u.length):∃nd es,s.G (nodeAt root ns i)=some nd/\nd.aY=es++[(u.getD i 0,nodeAt root ns (i+1))]:=by obtain⟨L,_,hs⟩:=h;exact Sp.step _ _ _ _ hs i hi
theorem FI.leaf{s:St}{root:Nat}{u:List UInt8}{ns:List Nat}{W:List fJ}(h:FI s root u ns W):∃nd,s.G (nodeAt root ns u.length)=some nd/\Asc nd.aY:=by obtain⟨L,_,hs⟩:=h;exact Sp.leaf _ _ _ _ hs
def abn(s:St)(root:Nat)(u:List UInt8)(ns:List Nat):Prop:=∀nd,s.G (nodeAt root ns u.length)=some nd->nd.aY=[]
theorem Sp.head{s:St}{L:Nat->List fJ}:∀(u:List UInt8)(ns:List Nat)(n:Nat)(W:List fJ),Sp s L n u ns W->get s.ids n=none|[],[],n,_,h=>by obtain⟨nd,_,h2,_⟩:=h;exact h2|c::u,m::ns,n,W,h=>by obtain⟨nd,es,V,_,h2,_⟩:=h;exact h2|[],_::_,_,_,h=>h.elim|_::_,[],_,_,h=>h.elim
theorem Sp.way{s:St}{L:Nat->List fJ}:∀(u:List UInt8)(ns:List Nat)(n:Nat)(W:List fJ),Sp s L n u ns W->(∀nd,s.G (nodeAt n ns u.length)=some nd->nd.aY=[])->Way s n ns|[],[],n,_,h,he=>by obtain⟨nd,h1,_⟩:=h;exact⟨nd,h1,he nd h1⟩|c::u,m::ns,n,W,h,he=>by obtain⟨nd,es,V,h1,h2,h3,h4,h5,h6,h7,_⟩:=h;have hw:=Sp.way u ns m V h7 he;refine⟨⟨nd,c,es,h1,h4⟩,Sp.head u ns m V h7,λe=>h6 (by rw[e];exact bE),λhm=>h6 (bq _ hm),hw⟩|[],_::_,_,_,h,_=>h.elim|_::_,[],_,_,h,_=>h.elim
theorem Sp.drop{s:St}{L:Nat->List fJ}:∀(u:List UInt8)(ns:List Nat)(n:Nat)(W:List fJ)(p:Nat),Sp s L n u ns W->p<=u.length->∃V,Sp s L (nodeAt n ns p) (u.drop p) (ns.drop p) V|u,ns,n,W,0,h,_=>⟨W,h⟩|[],[],n,_,p+1,h,hp=>by simp at hp|c::u,m::ns,n,W,p+1,h,hp=>by obtain⟨nd,es,V,_,_,_,_,_,_,h7,_⟩:=h;obtain⟨V',hV⟩:=Sp.drop u ns m V p h7 (by simpa using hp);exact⟨V',by simpa[nodeAt]using hV⟩|[],_::_,_,_,_+1,h,_=>h.elim|_::_,[],_,_,_+1,h,_=>h.elim
theorem Lb(n:Nat)(ns:List Nat)(p i:Nat)(hp:p<=ns.length):nodeAt (nodeAt n ns p) (ns.drop p) i=nodeAt n ns (p+i):=by unfold nodeAt;cases i with|zero=>simp|succ i=>simp only[aw,TT,List.getElem?_drop];rw[show p+(i+1)=(p+i)+1 by omega,TT]
theorem FI.way{s:St}{root:Nat}{u:List UInt8}{ns:List Nat}{W:List fJ}(h:FI s root u ns W)(he:abn s root u ns){p:Nat}(hp:p<=u.length):Way s (nodeAt root ns p) (ns.drop p):=by have hl:=h.len;obtain⟨L,_,hs⟩:=h;obtain⟨V,hV⟩:=Sp.drop _ _ _ _ p hs hp;refine Sp.way _ _ _ _ hV λnd hnd=>he nd ?_;rw[Lb _ _ _ _ (by omega),C0,show p+(u.length-p)=u.length by omega]at hnd;exact hnd
theorem iz.turn{s s':St}{L:Nat->List fJ}(h:iz s L)(hi:s'.ids=s.ids)(hk:s'.kn=s.kn)(hG:∀n,di s n->s'.G n=s.G n):iz s' L:=by
 refine⟨hi▸h.apart,λi p hp=>h.nums i p (hi▸hp),λn hn=>?_,λp hp=>?_⟩;·
  have hn':di s n:=by unfold di at hn⊢;rw[hi]at hn;exact hn
  obtain⟨nd,h1,h2,h3,h4⟩:=h.node n hn';refine⟨nd,(hG n hn').trans h1,h2,λp hp=>?_,h4⟩;unfold di;rw[hi];exact h3 p hp
 ·rw[hk]at hp;obtain⟨h1,nd,h2,h3⟩:=h.known p hp;refine⟨by unfold di;rw[hi];exact h1,nd,(hG _ h1).trans h2,by rw[hi];exact h3⟩
theorem iz.inj{s:St}{L:Nat->List fJ}(h:iz s L)(a b:Nat)(ha:(get s.ids a).isSome)(hb:(get s.ids b).isSome)(e:kC s.ids a=kC s.ids b):a=b:=by obtain⟨x,hx⟩:=Option.isSome_iff_exists.1 ha;obtain⟨y,hy⟩:=Option.isSome_iff_exists.1 hb;unfold kC at e;rw[hx,hy]at e;simp only[fT]at e;subst e;obtain⟨i,hi⟩:=nR (dX hx);obtain⟨j,hj⟩:=nR (dX hy);have h1:=h.nums i _ hi;have h2:=h.nums j _ hj;simp only at h1 h2;subst h1;subst h2;rw[hi]at hj;exact congrArg Prod.fst (aJ hj)
theorem iz.lt{s:St}{L:Nat->List fJ}(h:iz s L){a:Nat}(ha:di s a):kC s.ids a<s.ids.length:=by obtain⟨x,hx⟩:=Option.isSome_iff_exists.1 ha;unfold kC;rw[hx];obtain⟨i,hi⟩:=nR (dX hx);have h1:=h.nums i _ hi;simp only at h1;subst h1;exact(List.getElem?_eq_some_iff.1 hi).1
theorem EY(ids ag5:List (Nat×Nat))(es:List (UInt8×Nat))(h:∀e∈es,kC ag5 e.2=kC ids e.2):cC ag5 es=cC ids es:=by unfold cC;rw[tU,tU];congr 1;exact rW λe he=>by rw[h e he]
theorem ku(f:Bool)(es:List (UInt8×Nat))(L Λ:Nat->List fJ)(h:∀e∈es,Λ e.2=L e.2):fG f es Λ=fG f es L:=by unfold fG;rw[tU,tU];congr 2;exact rW λe he=>by rw[h e he]
theorem iz.sD{s:St}{L:Nat->List fJ}(h:iz s L){n t:Nat}{c:UInt8}{es:List (UInt8×Nat)}{zU sU:Nd}(hn:s.G n=some zU)(ht:s.G t=some sU)(hne:t≠n)(in_:get s.ids n=none)(it:get s.ids t=none)(he:zU.aY=es++[(c,t)])(wL:Asc sU.aY)(hts:∀e∈sU.aY,di s e.2):∃L',iz (Ts.sD s n t zU sU) L'/\(∀x,di s x->di (Ts.sD s n t zU sU) x/\L' x=L x)/\(∀x,x≠t->get (Ts.sD s n t zU sU).ids x=get s.ids x)/\∃m qJ,(Ts.sD s n t zU sU).G n=some qJ/\qJ.final=zU.final/\qJ.aY=es++[(c,m)]/\di (Ts.sD s n t zU sU) m/\L' m=fG sU.final sU.aY L:=by unfold Ts.sD;cases hk:get s.kn (shapeOf s.ids sU)with
 |some m=>
  simp only;obtain⟨h1,ndm,h2,h3⟩:=h.known _ (dX hk);simp only at h1 h2 h3;obtain⟨asX,g1,g2,g3,g4⟩:=h.node m h1;rw[h2]at g1;cases g1;unfold shapeOf at h3;have hf:=congrArg Prod.fst h3;have hx:=congrArg Prod.snd h3;simp only at hf hx;have Xa:=Al h.inj ndm.aY sU.aY (λe he=>(g3 e he).1) hts hx;refine⟨L,h.turn rfl rfl λx hxs=>?_,λx hx=>⟨hx,rfl⟩,λx _=>trivial,m,{zU with aY:=es++[(c,m)]},by simp[upd,he],rfl,rfl,h1,by rw[g4,hf,Xa]⟩;have:x≠n:=λe=>by unfold di at hxs;rw[e,in_]at hxs;cases hxs
  simp[upd,this]|none=>
  simp only;have gp:∀x,get (put s.ids t s.ids.length) x=if t=x then some s.ids.length else get s.ids x:=λx=>mq _ _ _ _;have hst:¬di s t:=by unfold di;rw[it];simp
  have sne:∀x,di s x->t≠x:=λx hx e=>hst (e▸hx);have ido:∀x,di s x->kC (put s.ids t s.ids.length) x=kC s.ids x:=λx hx=>by unfold kC;rw[gp,if_neg (sne x hx)]
  have idt:kC (put s.ids t s.ids.length) t=s.ids.length:=by unfold kC;rw[gp,if_pos rfl];rfl
  have hS:∀x,di s x->(get (put s.ids t s.ids.length) x).isSome:=λx hx=>by rw[gp,if_neg (sne x hx)];exact hx
  have hLe:∀x,di s x->(if x=t then fG sU.final sU.aY L else L x)=L x:=λx hx=>if_neg (dB (sne x hx));have shp:∀nd:Nd,(∀e∈nd.aY,di s e.2)->shapeOf (put s.ids t s.ids.length) nd=shapeOf s.ids nd:=λnd hs=>by unfold shapeOf;rw[EY _ _ _ λe he=>ido _ (hs e he)]
  refine⟨λx=>if x=t then fG sU.final sU.aY L else L x,⟨h.apart.put _ _,λi p hp=>?_,λx hx=>?_,λp hp=>?_⟩,λx hx=>⟨hS x hx,hLe x hx⟩,λx hx=>by rw[gp,if_neg (dB hx)],t,zU,hn,rfl,he,by unfold di;simp only;rw[gp,if_pos rfl];rfl,by simp⟩;·
   simp only at hp;rw[eJ _ it]at hp;by_cases hi:i<s.ids.length;·rw[List.getElem?_append_left hi]at hp;exact h.nums i p hp
   ·have hi2:i=s.ids.length:=by have:=(List.getElem?_eq_some_iff.1 hp).1;simp at this;omega
    subst hi2;simp at hp;subst hp;rfl
  ·by_cases hxt:x=t;·
    subst hxt;refine⟨sU,ht,wL,λp hp=>⟨hS _ (hts p hp),?_⟩,?_⟩;·simp only;rw[ido _ (hts p hp),idt];exact h.lt (hts p hp)
    ·simp only[if_pos];exact(ku _ _ L _ λe he=>hLe _ (hts e he)).symm
   ·have hxs:di s x:=by unfold di at hx;simp only at hx;rw[gp,if_neg (dB hxt)]at hx;exact hx
    obtain⟨nd,h1,h2,h3,h4⟩:=h.node x hxs;refine⟨nd,h1,h2,λp hp=>⟨hS _ (h3 p hp).1,?_⟩,?_⟩;·simp only;rw[ido _ (h3 p hp).1,ido _ hxs];exact(h3 p hp).2
    ·rw[hLe x hxs,h4];exact(ku _ _ L _ λe he=>hLe _ (h3 e he).1).symm
  ·simp only at hp;rcases zV hp with rfl|hp;·exact⟨by unfold di;simp only;rw[gp,if_pos rfl];rfl,sU,ht,shp sU hts⟩
   ·obtain⟨h1,nd,h2,h3⟩:=h.known p hp;obtain⟨qJ,g1,_,g3,_⟩:=h.node _ h1;rw[h2]at g1;cases g1;exact⟨hS _ h1,nd,h2,by simp only;rw[shp nd λe he=>(g3 e he).1];exact h3⟩
theorem Ie(f:Bool)(es:List (UInt8×Nat))(c:UInt8)(m:Nat)(L:Nat->List fJ):fG f (es++[(c,m)]) L=fG f es L++(L m).map (c::·):=by simp[fG]
theorem Sp.fresh{s:St}{L:Nat->List fJ}:∀(u:List UInt8)(ns:List Nat)(n:Nat)(W:List fJ),Sp s L n u ns W->¬n∈ns|[],[],n,W,h=>by simp|c::u,m::ns,n,W,h=>by obtain⟨nd,es,V,_,_,_,_,_,h6,_⟩:=h;exact h6|[],_::_,_,_,h=>h.elim|_::_,[],_,_,h=>h.elim
theorem Oc(n:Nat)(ns:List Nat)(p:Nat)(hp:p<=ns.length):nodeAt n ns p∈n::ns:=by unfold nodeAt;rw[aw,ar (by simp;omega),fT];exact eu _
theorem Sp.settle:∀(u:List UInt8)(ns:List Nat)(n:Nat)(W:List fJ)(s:St)(L:Nat->List fJ),iz s L->Sp s L n u ns W->(∀nd,s.G (nodeAt n ns u.length)=some nd->nd.aY=[])->∃L' qJ,iz (cX ns s n) L'/\(∀x,di s x->di (cX ns s n) x/\L' x=L x)/\(∀x,¬x∈ns->get (cX ns s n).ids x=get s.ids x)/\(cX ns s n).G n=some qJ/\Asc qJ.aY/\(∀e∈qJ.aY,di (cX ns s n) e.2)/\W=fG qJ.final qJ.aY L'/\∀e∈qJ.aY,0<u.length/\e.1<=u.getD 0 0
 |[],[],n,W,s,L,hN,h,hb=>by obtain⟨nd,h1,h2,h3,h4,h5⟩:=h;have he:=hb nd h1;exact⟨L,nd,hN,λx hx=>⟨hx,rfl⟩,λx _=>rfl,h1,h3,h4,h5,λe hx=>by rw[he]at hx;cases hx⟩|c::u,t::ns,n,W,s,L,hN,h,hb=>by
  obtain⟨nd,es,V,h1,h2,h3,h4,h5,h6,h7,h8⟩:=h;obtain⟨L1,sU,hN1,m1,i1,g1,a1,s1,w1,_⟩:=Sp.settle u ns t V s L hN h7 hb;simp only[ql,not_or]at h6;have FA:(cX ns s t).G n=some nd:=(oH ns s t n h6.1 h6.2).trans h1;have hin:get (cX ns s t).ids n=none:=(i1 n h6.2).trans h2;have hit:get (cX ns s t).ids t=none:=(i1 t (Sp.fresh u ns t V h7)).trans (Sp.head u ns t V h7);rw[zF g1 FA];obtain⟨L2,OV,m2,i2,m,qJ,g2,f2,e2,st2,l2⟩:=hN1.sD FA g1 (dB h6.1) hin hit h4 a1 s1;have Gg:Asc qJ.aY:=by rw[e2];rw[h4]at h3;have h3':=List.pairwise_append.1 h3;refine List.pairwise_append.2 ⟨h3'.1,TS _ _,λa ha b hb=>?_⟩;simp at hb;subst hb;exact h3'.2.2 a ha (c,t) (by simp)
  have Z9:∀e∈es,di (Ts.sD (cX ns s t) n t nd sU) e.2/\L2 e.2=L e.2:=λe he=>by have x1:=m1 e.2 (h5 e he);have x2:=m2 e.2 x1.1;exact⟨x2.1,x2.2.trans x1.2⟩
  refine⟨L2,qJ,OV,λx hx=>?_,λx hx=>?_,g2,Gg,λe he=>?_,?_,λe he=>⟨by simp,?_⟩⟩;·have x1:=m1 x hx;have x2:=m2 x x1.1;exact⟨x2.1,x2.2.trans x1.2⟩
  ·simp only[ql,not_or]at hx;exact(i2 x hx.1).trans (i1 x hx.2)
  ·rw[e2]at he;rcases List.mem_append.1 he with he|he;·exact(Z9 e he).1
   ·simp at he;subst he;exact st2
  ·rw[h8,e2,Ie,f2,l2,<-w1,ku nd.final es L L2 λe he=>(Z9 e he).2]
  ·rw[e2]at he Gg;rcases List.mem_append.1 he with he|he;·have:=(List.pairwise_append.1 Gg).2.2 e he (c,m) (by simp);exact UInt8.le_of_lt this
   ·simp at he;subst he;exact UInt8.le_refl _|[],_::_,_,_,_,_,_,h,_=>h.elim|_::_,[],_,_,_,_,_,h,_=>h.elim
theorem Sp.KC:∀(p:Nat)(u:List UInt8)(ns:List Nat)(n:Nat)(W:List fJ)(s:St)(L:Nat->List fJ),iz s L->Sp s L n u ns W->(∀nd,s.G (nodeAt n ns u.length)=some nd->nd.aY=[])->p<=u.length->∃L',iz (cX (ns.drop p) s (nodeAt n ns p)) L'/\(∀x,di s x->di (cX (ns.drop p) s (nodeAt n ns p)) x/\L' x=L x)/\(∀x,¬x∈ns.drop p->get (cX (ns.drop p) s (nodeAt n ns p)).ids x=get s.ids x)/\Sp (cX (ns.drop p) s (nodeAt n ns p)) L' n (u.take p) (ns.take p) W/\∀nd,(cX (ns.drop p) s (nodeAt n ns p)).G (nodeAt n ns p)=some nd->∀e∈nd.aY,p<u.length/\e.1<=u.getD p 0
 |0,u,ns,n,W,s,L,hN,h,hb,_=>by obtain⟨L',qJ,h1,h2,h3,h4,h5,h6,h7,h8⟩:=Sp.settle u ns n W s L hN h hb;refine⟨L',h1,h2,h3,⟨qJ,h4,(h3 n (Sp.fresh u ns n W h)).trans (Sp.head u ns n W h),h5,h6,h7⟩,λnd hnd e he=>?_⟩;have hnd':(cX ns s n).G n=some nd:=hnd;rw[h4]at hnd';cases hnd';exact h8 e he|p+1,c::u,t::ns,n,W,s,L,hN,h,hb,hp=>by
  obtain⟨nd,es,V,h1,h2,h3,h4,h5,h6,h7,h8⟩:=h;have hp':p<=u.length:=by simpa using hp
  have hl:=Sp.len u ns t V h7;obtain⟨L',g1,g2,g3,g4,g5⟩:=Sp.KC p u ns t V s L hN h7 hb hp';have hna:nodeAt n (t::ns) (p+1)=nodeAt t ns p:=rfl;rw[hna];show∃L',iz (cX (ns.drop p) s (nodeAt t ns p)) L'/\_;have hnd:¬n∈ns.drop p:=λh=>h6 (bq _ (List.mem_of_mem_drop h));have hnn:n≠nodeAt t ns p:=λe=>h6 (e▸Oc t ns p (by omega));refine⟨L',g1,g2,g3,⟨nd,es,V,(oH _ _ _ _ hnn hnd).trans h1,(g3 n hnd).trans h2,h3,h4,λe he=>(g2 _ (h5 e he)).1,?_,g4,?_⟩,λnd hnd e he=>?_⟩;·
   intro hm;refine h6 ?_;rcases List.mem_cons.1 hm with e|hm;·rw[e];exact bE
   ·exact bq _ (List.mem_of_mem_take hm)
  ·rw[h8,ku nd.final es L L' λe he=>(g2 _ (h5 e he)).2]
  ·obtain⟨x1,x2⟩:=g5 nd hnd e he;exact⟨by simp;omega,by simpa using x2⟩|p+1,[],_,_,_,_,_,_,h,_,hp=>absurd hp (by simp)|p+1,_::_,[],_,_,_,_,_,h,_,_=>h.elim
theorem FI.settle{s:St}{root:Nat}{u:List UInt8}{ns:List Nat}{W:List fJ}(h:FI s root u ns W)(he:abn s root u ns){p:Nat}(hp:p<=u.length):FI (cX (ns.drop p) s (nodeAt root ns p)) root (u.take p) (ns.take p) W/\(∀nd,(cX (ns.drop p) s (nodeAt root ns p)).G (nodeAt root ns p)=some nd->∀e∈nd.aY,p<u.length/\e.1<=u.getD p 0):=by obtain⟨L,hn,hs⟩:=h;obtain⟨L',h1,_,_,h4,h5⟩:=Sp.KC p u ns root W s L hn hs he hp;exact⟨⟨L',h1,h4⟩,h5⟩
def pD(s:St)(n m:Nat)(c:UInt8)(nd:Nd)(v:ay):St:={s with G:=upd (upd s.G m ⟨false,[],.slice none 0 0⟩) n {nd with aY:=nd.aY++[(c,m)],v:=v}}
theorem Sp.grow{s:St}{L:Nat->List fJ}{m:Nat}{c:UInt8}{nd:Nd}{v:ay}(hm:s.G m=none)(hi:get s.ids m=none)(hc:∀e∈nd.aY,e.1<c):∀(u:List UInt8)(ns:List Nat)(n:Nat)(W:List fJ),Sp s L n u ns W->s.G (nodeAt n ns u.length)=some nd->Sp (pD s (nodeAt n ns u.length) m c nd v) L n (u++[c]) (ns++[m]) W
 |[],[],n,W,h,hG=>by
  obtain⟨qJ,h1,h2,h3,h4,h5⟩:=h;have SK:s.G n=some nd:=hG;rw[h1]at SK;cases SK;have hnm:n≠m:=λe=>by rw[e,hm]at h1;cases h1
  refine⟨{nd with aY:=nd.aY++[(c,m)],v:=v},nd.aY,[],by simp[pD,upd,nodeAt],h2,?_,rfl,h4,by simpa using hnm,⟨⟨false,[],.slice none 0 0⟩,by simp[pD,upd,nodeAt,hnm.symm],hi,afN,(λp hp=>by cases hp),rfl⟩,by simp[h5]⟩;refine List.pairwise_append.2 ⟨h3,TS _ _,λa ha b hb=>?_⟩;simp at hb;subst hb;exact hc a ha|d::u,x::ns,n,W,h,hG=>by
  obtain⟨qJ,es,V,h1,h2,h3,h4,h5,h6,h7,h8⟩:=h;have hl:=Sp.len u ns x V h7;have WW:nodeAt n (x::ns) (d::u).length∈x::ns:=by have:nodeAt n (x::ns) (d::u).length=(x::ns).getD u.length 0:=rfl;rw[this,aw,ar (by simp;omega),fT];exact eu _
  have hn1:n≠nodeAt n (x::ns) (d::u).length:=λe=>h6 (e▸WW);have hnm:n≠m:=λe=>by rw[e,hm]at h1;cases h1
  refine⟨qJ,es,V,by simp only[pD,upd];rw[if_neg hn1,if_neg hnm];exact h1,h2,h3,h4,h5,?_,Sp.grow hm hi hc u ns x V h7 hG,h8⟩;intro hmem;have:n∈(x::ns)++[m]:=hmem;rcases List.mem_append.1 this with h|h;·exact h6 h
  ·simp at h;exact hnm h|[],_::_,_,_,h,_=>h.elim|_::_,[],_,_,h,_=>h.elim
theorem Sp.last{s:St}{L:Nat->List fJ}:∀(u:List UInt8)(ns:List Nat)(n:Nat)(W:List fJ),Sp s L n u ns W->get s.ids (nodeAt n ns u.length)=none|[],[],n,W,h=>Sp.head [] [] n W h|c::u,m::ns,n,W,h=>by obtain⟨nd,es,V,_,_,_,_,_,_,h7,_⟩:=h;exact Sp.last u ns m V h7|[],_::_,_,_,h=>h.elim|_::_,[],_,_,h=>h.elim
theorem FI.grow{s:St}{root:Nat}{u:List UInt8}{ns:List Nat}{W:List fJ}(h:FI s root u ns W){m:Nat}{c:UInt8}{nd:Nd}{v:ay}(hG:s.G (nodeAt root ns u.length)=some nd)(hm:s.G m=none)(hi:get s.ids m=none)(hc:∀e∈nd.aY,e.1<c):FI (pD s (nodeAt root ns u.length) m c nd v) root (u++[c]) (ns++[m]) W:=by
 obtain⟨L,hn,hs⟩:=h;refine⟨L,hn.turn rfl rfl λn hn'=>?_,Sp.grow hm hi hc _ _ _ _ hs hG⟩;have h1:n≠nodeAt root ns u.length:=λe=>by unfold di at hn';rw[e,Sp.last _ _ _ _ hs]at hn';cases hn'
 have h2:n≠m:=λe=>by unfold di at hn';rw[e,hi]at hn';cases hn'
 simp only[pD,upd];rw[if_neg h1,if_neg h2]
def ou(s:St)(n:Nat)(nd:Nd):St:={s with G:=upd s.G n {nd with final:=true}}
theorem Sp.close{s:St}{L:Nat->List fJ}{nd:Nd}(he:nd.aY=[])(hf:nd.final=false):∀(u:List UInt8)(ns:List Nat)(n:Nat)(W:List fJ),Sp s L n u ns W->s.G (nodeAt n ns u.length)=some nd->Sp (ou s (nodeAt n ns u.length) nd) L n u ns (W++[u])
 |[],[],n,W,h,hG=>by obtain⟨qJ,h1,h2,h3,h4,h5⟩:=h;have SK:s.G n=some nd:=hG;rw[h1]at SK;cases SK;refine⟨{nd with final:=true},by simp[ou,upd,nodeAt],h2,h3,h4,?_⟩;rw[h5,he,hf];rfl|d::u,x::ns,n,W,h,hG=>by
  obtain⟨qJ,es,V,h1,h2,h3,h4,h5,h6,h7,h8⟩:=h;have hl:=Sp.len u ns x V h7;have WW:nodeAt n (x::ns) (d::u).length∈x::ns:=by have:nodeAt n (x::ns) (d::u).length=(x::ns).getD u.length 0:=rfl;rw[this,aw,ar (by simp;omega),fT];exact eu _
  have hn1:n≠nodeAt n (x::ns) (d::u).length:=λe=>h6 (e▸WW);refine⟨qJ,es,V++[u],by simp only[ou,upd];rw[if_neg hn1];exact h1,h2,h3,h4,h5,h6,Sp.close he hf u ns x V h7 hG,?_⟩;rw[h8];simp|[],_::_,_,_,h,_=>h.elim|_::_,[],_,_,h,_=>h.elim
theorem FI.close{s:St}{root:Nat}{u:List UInt8}{ns:List Nat}{W:List fJ}(h:FI s root u ns W){nd:Nd}(hG:s.G (nodeAt root ns u.length)=some nd)(he:nd.aY=[])(hf:nd.final=false):FI (ou s (nodeAt root ns u.length) nd) root u ns (W++[u]):=by
 obtain⟨L,hn,hs⟩:=h;refine⟨L,hn.turn rfl rfl λn hn'=>?_,Sp.close he hf _ _ _ _ hs hG⟩;have h1:n≠nodeAt root ns u.length:=λe=>by unfold di at hn';rw[e,Sp.last _ _ _ _ hs]at hn';cases hn'
 simp only[ou,upd];rw[if_neg h1]
def start(root:Nat):St:={G:=upd (λ_=>none) root ⟨false,[],.slice none 0 0⟩,kn:=[],ids:=[]}
theorem FI.start(root:Nat):FI (start root) root [] [] []:=by refine⟨λ_=>[],⟨List.nodup_nil,(λi p h=>by simp[Ts.start]at h),(λn h=>by simp[di,Ts.start,get]at h),(λp h=>by simp[Ts.start]at h)⟩,⟨false,[],.slice none 0 0⟩,by simp[Ts.start,upd],rfl,afN,(λp h=>by cases h),rfl⟩
inductive Reach(G:rU)(root:Nat):Nat->Prop|here:Reach G root root|there{n:Nat}{nd:Nd}{e:UInt8×Nat}:Reach G root n->G n=some nd->e∈nd.aY->Reach G root e.2
theorem Nc(f:Bool)(es:List (UInt8×Nat))(L:Nat->List fJ){e:UInt8×Nat}(he:e∈es):(L e.2).length<=(fG f es L).length:=by unfold fG;obtain⟨a,b,rfl⟩:=List.append_of_mem he;simp;omega
theorem FI.number{s:St}{root:Nat}{W:List fJ}(h:FI s root [] [] W)(hsm:Small s)(hW:W.length<=1000000)(aui:s.ids.length<1000000):∃(mS:Nat->Prop)(ρ:Nat->Nat)(L:Nat->List fJ),mS root/\(∀n,mS n->∃nd,s.G n=some nd/\nd.aY.length<=300/\∀e∈nd.aY,mS e.2/\ρ e.2<ρ n)/\(∀M:List (Nat×Nat),Apart M->(∀p∈M,mS p.1)->M.length<=1000000)/\(∀n nd,mS n->s.G n=some nd->Asc nd.aY/\L n=fG nd.final nd.aY L/\(L n).length<=1000000)/\L root=W/\ρ root<=1000000:=by
 obtain⟨L,hn,nd0,r1,r2,r3,r4,r5⟩:=h;have hroot:¬di s root:=by unfold di;rw[r2];simp
 have kD:∀n,Reach s.G root n->n=root\/di s n:=λn h=>by induction h with
  |here=>exact .inl rfl|there hr hG he ih=>
   right;rcases ih with rfl|ih;·rw[r1]at hG;cases hG;exact r4 _ he
   ·obtain⟨qJ,h1,_,h3,_⟩:=hn.node _ ih;rw[h1]at hG;cases hG;exact(h3 _ he).1
 have hne:∀n,di s n->n≠root:=λn h e=>hroot (e▸h);have hLs:∀n,di s n->(if n=root then W else L n)=L n:=λn h=>if_neg (hne n h);have EL:∀n nd,Reach s.G root n->s.G n=some nd->Asc nd.aY/\(∀e∈nd.aY,di s e.2/\kC s.ids e.2<if n=root then 1000000 else kC s.ids n)/\(if n=root then W else L n)=fG nd.final nd.aY (λn=>if n=root then W else L n):=λn nd hr hG=>by
  rcases kD n hr with rfl|hs;·rw[r1]at hG;cases hG;refine⟨r3,λe he=>⟨r4 e he,by rw[if_pos rfl];exact hsm.kC _⟩,?_⟩;rw[if_pos rfl,ku _ _ L _ λe he=>hLs _ (r4 e he)];exact r5
  ·obtain⟨qJ,h1,h2,h3,h4⟩:=hn.node n hs;rw[h1]at hG;cases hG;refine⟨h2,λe he=>⟨(h3 e he).1,by rw[if_neg (hne n hs)];exact(h3 e he).2⟩,?_⟩;rw[hLs n hs,ku _ _ L _ λe he=>hLs _ (h3 e he).1];exact h4
 have ahP:∀n,Reach s.G root n->(if n=root then W else L n).length<=W.length:=λn h=>by induction h with|here=>rw[if_pos rfl];exact au _|there hr hG he ih=>rw[(EL _ _ hr hG).2.2]at ih;exact aZ (Nc _ _ (λn=>if n=root then W else L n) he) ih
 refine⟨Reach s.G root,λn=>if n=root then 1000000 else kC s.ids n,λn=>if n=root then W else L n,.here,λn hr=>?_,λM hM hg=>?_,λn nd hr hG=>⟨(EL n nd hr hG).1,(EL n nd hr hG).2.2,aZ (ahP n hr) hW⟩,if_pos rfl,by simp⟩;·
  have:∃nd,s.G n=some nd:=by
   rcases kD n hr with rfl|hs;·exact⟨_,r1⟩
   ·obtain⟨nd,h1,_⟩:=hn.node n hs;exact⟨nd,h1⟩
  obtain⟨nd,hG⟩:=this;refine⟨nd,hG,hsm.aY n nd hG,λe he=>⟨.there hr hG he,?_⟩⟩;obtain⟨h1,h2⟩:=(EL n nd hr hG).2.1 e he;simp only;rw[if_neg (hne _ h1)];exact h2
 ·have hsub:M.map (·.1)⊆root::s.ids.map (·.1):=λx hx=>by
   obtain⟨p,hp,rfl⟩:=List.mem_map.1 hx;rcases kD _ (hg p hp)with e|hs;·rw[e];exact bE
   ·obtain⟨y,hy⟩:=Option.isSome_iff_exists.1 hs;exact bq _ (List.mem_map.2 ⟨_,dX hy,rfl⟩)
  have hl:=List.Nodup.length_le_of_subset hM hsub;simp at hl;omega
section
variable{σ:Type}(step:σ->UInt8->Option σ)(ends:σ->Bool)
def ae1:σ->List UInt8->Bool|s,[]=>ends s|s,c::u=>match step s c with|none=>false|some t=>ae1 t u
end
def hits(f:List UInt8->Bool)(ws:List (List UInt8))(n:Nat):List (List UInt8×Nat):=(ws.zipIdx n).filter λp=>f p.1
section
variable{σ:Type}{step:σ->UInt8->Option σ}{ends:σ->Bool}
end
def iD(c:UInt8):Bool:=c==32||c==9||c==10
def uX(c:UInt8):UInt8:=if 65<=c/\c<=90 then c+32 else c
def iq(l:List UInt8):List UInt8:=l.map uX
def fields:List UInt8->List UInt8->List (List UInt8)|[],cur=>if cur=[]then[]else[cur]|c::r,cur=>if iD c=true then(if cur=[]then fields r []else cur::fields r [])else fields r (cur++[c])
theorem uu:∀(l cur:List UInt8),(∀c∈cur,iD c=false)->∀f∈fields l cur,f≠[]/\∀c∈f,iD c=false
 |[],cur,hc,f,hf=>by
  unfold fields at hf;split at hf;·cases hf
  ·rename_i h;simp at hf;subst hf;exact⟨h,hc⟩|c::r,cur,hc,f,hf=>by
  unfold fields at hf;split at hf;·
   split at hf;·exact uu r [] (by simp) f hf
   ·rename_i h;rcases List.mem_cons.1 hf with rfl|hf;·exact⟨h,hc⟩
    ·exact uu r [] (by simp) f hf
  ·rename_i hb;refine uu r (cur++[c]) ?_ f hf;intro x hx;rcases List.mem_append.1 hx with hx|hx;·exact hc x hx
   ·simp at hx;subst hx;simpa using hb
theorem CP(c:UInt8):iD c=(((c.toNat:Int)==32)||((c.toNat:Int)==9)||((c.toNat:Int)==10)):=by unfold iD;rw[jf];simp[<-UInt8.toNat_inj];omega
theorem EC(c:UInt8):((uX c).toNat:Int)=if 65<=c.toNat/\c.toNat<=90 then(c.toNat:Int)+32 else c.toNat:=by
 unfold uX;by_cases h:65<=c/\c<=90;·
  have h1:65<=c.toNat:=by simpa[pQ]using h.1
  have h2:c.toNat<=90:=by simpa[pQ]using h.2
  rw[if_pos h,if_pos ⟨h1,h2⟩,UInt8.toNat_add];simp;omega
 ·have h':¬(65<=c.toNat/\c.toNat<=90):=λx=>h ⟨by simpa[pQ]using x.1,by simpa[pQ]using x.2⟩;rw[if_neg h,if_neg h']
theorem Xp(s:ByteArray)(k:Nat)(h:k<s.size):s.data.toList.getD k 0=s[k]:=by rw[aw,ar (by simpa using h),fT,Qj s k h]
theorem Qw(a b:UInt8):((a.toNat:Int)==(b.toNat:Int))=decide (a=b):=by
 rw[jf,beq_iff_eq,decide_eq_true_eq];constructor;·intro h;exact UInt8.toNat_inj.1 (by omega)
 ·rintro rfl;rfl
end Go.Proofs.Ts
