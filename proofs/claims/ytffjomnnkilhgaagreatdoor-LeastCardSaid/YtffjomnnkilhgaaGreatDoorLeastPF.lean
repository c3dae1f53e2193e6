/- Lemmas towards the statement Least of termsearch: walks of the program's functions and plain laws on lists (TsTabP, TsLeastP, TsKeyS, TsTabM, TsLeastA, TsLeastB, TsLeastC, TsLeastF, TsTabA, TsTabB, TsLeastD, TsLeastG, TsLeastE, TsLang, TsLangB, TsMachP, TsMachine, TsEsc, TsWildP, TsBetP, TsGoes, TsPlan). Conditions: those that each theorem names. -/
import Derived.Test.YtffjomnnkilhgaaGreatDoorLeastPE
import Derived.Test.YtffjomnnkilhgaaGreatDoorLeastPD
import Derived.Test.YtffjomnnkilhgaaGreatDoorLeastPA
import Derived.Test.YtffjomnnkilhgaaGreatDoorLocks
import Derived.Conc.MuLone
set_option linter.unusedVariables false
set_option linter.unusedSimpArgs false
set_option linter.unusedSectionVars false
set_option maxRecDepth 100000
set_option maxHeartbeats 32000000
open And renaming intro->aA
open Bool renaming and_eq_true->cR,eq_iff_iff->jf,or_eq_true->eU,or_false->agC
open Classical renaming byContradiction->dP
open Go renaming Calls->aX,TypeId->dx,Value->ay,World->ak
open Go.Addr renaming add->iU
open Go.Builtin renaming len_->C2
open Go.Instr renaming checkKey->yr,lookup->fH,makeSlice->zg,mapUpdate->iC,sameBits->rX
open Go.IntKind renaming i64->awE
open Go.IntWalk renaming i64_in->aK
open Go.Lib renaming hid->ae
open Go.Op renaming equal->Q9,maxDepth->YC
open Go.Proofs.Tryz renaming func155->asl,ntmps155->aoO,prog->ah,underlying24->sP,underlying254->DN,underlying3->qh,underlying306->iK,underlying316->nP,underlying324->acQ,underlying325->nO,underlying88->rV
open Go.Region renaming ready->bZ
open Go.Result renaming andThen_ok->eH
open Go.RowKit renaming Below->aI
open Go.RowKit.Below renaming heap_alloc->aC,heap_setCell->az,refl->aB
open Go.Sem renaming run_bind->dZ
open Go.Value renaming bool->mz,cells->Gy,int->tR,oneCell'->dN,slice->cY
open Go.World renaming cell?_alloc_lt->aV,ownsRow_nil->bS,size_alloc->bM,size_setCell->mr
open Int renaming le_refl->AQ
open List renaming cons_append->iT,eq_of_mem_replicate->iR,filter_cons->xx,foldl_cons->aj0,getD_eq_getElem?_getD->aw,getElem?_append_left->dF,getElem?_concat_length->eG,getElem?_eq_getElem->ar,getElem?_eq_none->iI,getElem?_map->bp,getElem?_replicate->cu,getElem?_set->fD,getElem?_set_ne->dA,getElem?_set_self->dz,getElem?_zip_eq_some->PW,getElem_mem->eu,length_append->bh,length_cons->cI,length_erase_of_mem->Rb,length_map->jx,length_pos_of_mem->po,length_replicate->bK,length_set->bW,map_append->cQ,map_set->CZ,mem_cons->ql,mem_cons_of_mem->bq,mem_cons_self->bE,mem_erase_of_ne->AX,mem_of_getElem?->aS,mem_singleton->iL,mem_zipIdx_iff_getElem?->JZ,nodup_nil->UN,prefix_append->jm,replicate->aQ,set_cons_succ->ai,set_cons_zero->aj
open Nat renaming add_zero->FN,le_refl->au,le_trans->aZ,lt_of_lt_of_le->bI,lt_or_ge->fe,lt_succ_of_lt->afK,zero_le->aW
open Ne renaming symm->dB
open Option renaming some->JS
open Option.some renaming inj->aJ
open UInt8 renaming ofNat->cS
namespace Go.Proofs.Ts
open Go Go.RowKit
def PM.za(M:PM)(c:Nat):aH:=M.at'.getD c .zero
def PM.fP(M:PM):Nat->List (aH×Nat)|0=>[]|c+1=>if(get (M.fP c) (M.za c)).isSome then M.fP c else M.fP c++[(M.za c,c)]
def PM.dD(M:PM)(c:Nat):List Nat:=(M.fP c).map (·.2)
def PM.kinds(M:PM):List Nat:=M.dD 256
theorem Ht(M:PM):∀c,(M.fP c).length<=c
 |0=>au _|c+1=>by
  have ih:=Ht M c;unfold PM.fP;split;·omega
  ·simp;omega
theorem tE(M:PM):∀c,∀p∈M.fP c,p.1=M.za p.2/\p.2<c
 |0,p,h=>by cases h|c+1,p,h=>by
  have ih:=tE M c;unfold PM.fP at h;split at h;·exact⟨(ih p h).1,afK (ih p h).2⟩
  ·rcases List.mem_append.1 h with h|h;·exact⟨(ih p h).1,afK (ih p h).2⟩
   ·simp at h;subst h;exact⟨rfl,Nat.lt_succ_self _⟩
theorem LK{α β:Type}[DecidableEq α]{M M':List (α×β)}{n:α}{x:β}(h:get M n=some x):get (M++M') n=some x:=by induction M with
 |nil=>cases h|cons p r ih=>
  simp only[iT,get]at h⊢;split;·rename_i e;rw[if_pos e]at h;exact h
  ·rename_i e;rw[if_neg e]at h;exact ih h
theorem SR{α β:Type}[DecidableEq α]{M:List (α×β)}{n:α}(x:β)(h:get M n=none):get (M++[(n,x)]) n=some x:=by rw[<-eJ x h,mq,if_pos rfl]
theorem BR(M:PM):∀c d,d<c->∃k,get (M.fP c) (M.za d)=some k
 |0,d,h=>by omega|c+1,d,h=>by
  have ih:=BR M c;unfold PM.fP;split;·
   rename_i hs;by_cases hd:d=c;·subst hd;exact Option.isSome_iff_exists.1 hs
   ·exact ih d (by omega)
  ·rename_i hs;by_cases hd:d=c;·subst hd;exact⟨d,SR _ (by simpa using hs)⟩
   ·obtain⟨k,hk⟩:=ih d (by omega);exact⟨k,LK hk⟩
theorem xp(M:PM)(d:Nat)(h:d<256):∃k,k∈M.kinds/\k<256/\M.za k=M.za d:=by obtain⟨k,hk⟩:=BR M 256 d h;have hm:=dX hk;have:=tE M 256 _ hm;exact⟨k,List.mem_map.2 ⟨_,hm,rfl⟩,this.2,this.1.symm⟩
theorem wI(M:PM)(c:Nat){k:Nat}(h:k∈M.dD c):k<c:=by obtain⟨p,hp,rfl⟩:=List.mem_map.1 h;exact(tE M c p hp).2
theorem pW(M:PM)(c:Nat):(M.dD c).length<=c:=by unfold PM.dD;rw[jx];exact Ht M c
theorem GI(M:PM)(s:aH){c d:Nat}(h:M.za c=M.za d):M.step s c=M.step s d:=by unfold PM.step;unfold PM.za at h;rw[h]
inductive sI(M:PM):aH->Prop|start:sI M bN|step(s:aH)(c:Nat):sI M s->c<256->M.step s c≠aH.zero->sI M (M.step s c)
theorem sI.ok{M:PM}(hM:M.ok)(hF:M.fit){s:aH}(h:sI M s):s.ok/\s.fits:=by induction h with|start=>exact⟨CR,Gs⟩|step s c _ _ _ ih=>exact⟨PM.IP hM s c,aH.Xt (hF c)⟩
def x8(M:PM)(sets:List aH)(s:aH)(c:Nat)(z:Int):Prop:=(M.step s c=aH.zero/\z=-1)\/(M.step s c≠aH.zero/\∃id:Nat,z=(id:Int)/\sets[id]?=some (M.step s c))
theorem x8.mono{M:PM}{sets dm:List aH}{s:aH}{c:Nat}{z:Int}(h:x8 M sets s c z)(hp:sets<+:dm):x8 M dm s c z:=by
 rcases h with h|⟨h1,id,h2,h3⟩;·exact .inl h
 ·exact .inr ⟨h1,id,h2,jd hp h3⟩
structure X0 (M:PM) (kinds:List Nat) (sets:List aH) (s:aH) (r:List Int):Prop where
 len:r.length=kinds.length
 cell:∀ (k c:Nat),kinds[k]?=some c -> ∃ z:Int,r[k]?=some z/\x8 M sets s c z
structure fY (M:PM) (kinds:List Nat) (sets:List aH) (rows:List (List Int)):Prop where
 first:sets[0]?=some bN
 nodup:sets.Nodup
 reach:∀ s∈sets,sI M s
 le:rows.length<=sets.length
 row:∀ (j:Nat) (r:List Int) (s:aH),rows[j]?=some r->sets[j]?=some s->X0 M kinds sets s r
theorem fY.start (M:PM) (kinds:List Nat):fY M kinds [bN] [] where
 first:=rfl
 nodup:=by simp
 reach:=fun s h=>by simp at h; subst h; exact .start
 le:=by simp
 row:=fun j r s h=>by simp at h
theorem fY.push {M:PM} {kinds:List Nat} {sets:List aH} {rows:List (List Int)} (h:fY M kinds sets rows) {s:aH} (hs:s ∉ sets) (hr:sI M s):fY M kinds (sets++[s]) rows where
 first:=jd (jm _ _) h.first
 nodup:=by
  rw [List.nodup_append]
  exact ⟨h.nodup,by simp,fun a ha b hb e=>by simp at hb; subst hb; subst e; exact hs ha⟩
 reach:=fun t ht=>by
  rcases List.mem_append.1 ht with ht | ht
  ·exact h.reach t ht
  ·simp at ht; subst ht; exact hr
 le:=by have:=h.le; simp; omega
 row:=fun j r t hj ht=>by
  have hl:=(List.getElem?_eq_some_iff.1 hj).1
  have:=h.le
  have ht':sets[j]?=some t:=by rw [dF (by omega)] at ht; exact ht
  have:=h.row j r t hj ht'
  exact ⟨this.len,fun k c hk=>by
   obtain ⟨z,h1,h2⟩:=this.cell k c hk
   exact ⟨z,h1,h2.mono (jm _ _)⟩⟩
theorem fY.KG {M:PM} {kinds:List Nat} {sets:List aH} {rows:List (List Int)} (h:fY M kinds sets rows) {s:aH} {r:List Int} (hs:sets[rows.length]?=some s) (hr:X0 M kinds sets s r):fY M kinds sets (rows++[r]) where
 first:=h.first
 nodup:=h.nodup
 reach:=h.reach
 le:=by have:=(List.getElem?_eq_some_iff.1 hs).1; simp; omega
 row:=fun j r' t hj ht=>by
  by_cases hl:j < rows.length
  ·rw [dF hl] at hj
   exact h.row j r' t hj ht
  ·have:=(List.getElem?_eq_some_iff.1 hj).1
   simp at this
   obtain rfl:j=rows.length:=by omega
   rw [eG] at hj
   rw [hs] at ht
   cases hj
   cases ht
   exact hr
theorem fY.all{M:PM}{sets:List aH}{rows:List (List Int)}(h:fY M M.kinds sets rows)(hall:rows.length=sets.length){s:aH}(hs:sI M s):s∈sets:=by induction hs with
 |start=>exact aS h.first|step s c _ hc hz ih=>
  obtain⟨j,hj⟩:=List.mem_iff_getElem?.1 ih;have hl:=(List.getElem?_eq_some_iff.1 hj).1;obtain⟨r,hr⟩:∃r,rows[j]?=some r:=⟨_,ar (by omega)⟩;have hrow:=h.row j r s hr hj;obtain⟨k,hk,_,hat⟩:=xp M c hc;obtain⟨i,hi⟩:=List.mem_iff_getElem?.1 hk;obtain⟨z,_,hcell⟩:=hrow.cell i k hi;rw[<-GI M s hat]at hz⊢;rcases hcell with h1|⟨_,id,_,h3⟩;·exact absurd h1.1 hz
  ·exact aS h3
/-!### All places at a byte lie below 128. -/
def PM.small(M:PM):Prop:=∀s∈M.at',s.under M.n
theorem PM.Ed{M:PM}(h:M.small)(l:List Nat)(t:aH):(M.link l t).small:=by
 have e:(M.link l t).at'=M.at':=by unfold PM.link;induction l generalizing M with|nil=>rfl|cons k l ih=>rw[aj0,ih (by exact h)];rfl
 unfold PM.small;rw[e,PM.yN];exact h
theorem NC(e:bC):∀(M:PM),M.ok->M.n+e.count<=128->M.small->(PM.part e M).1.small:=by induction e with
 |empty=>exactλM _ _ h=>h|iW=>exactλM _ _ h=>h|one s=>
  intro M hM hn h t ht;have hn':M.n+1<=128:=hn;obtain⟨q,hq,rfl⟩:=List.mem_map.1 ht;have hm:q.1∈M.at':=by obtain⟨h1,h2,h3⟩:=List.mem_zipIdx hq;rw[h3];exact eu _
  show(if s.has q.2 then q.1.on M.n else q.1).under (M.n+1);split;·
   intro j hj;rw[aH.fO]at hj;have hj2:=hj.2;rw[aH.wG _ _ _ (by omega) hj.1,eU,decide_eq_true_iff]at hj2;rcases hj2 with h1|h1;·omega
   ·have:=h q.1 hm j ((aH.fO _ _).2 ⟨hj.1,h1⟩);omega
  ·exact(h q.1 hm).mono (by omega)|or a b uo um=>intro M hM hn h;have hn':M.n+(a.count+b.count)<=128:=hn;have ha:=jR a M hM (by omega);exact um _ ha.jZ (by rw[ha.n];omega) (uo M hM (by omega) h)|seq a b uo um=>intro M hM hn h;have hn':M.n+(a.count+b.count)<=128:=hn;have ha:=jR a M hM (by omega);exact PM.Ed (um _ ha.jZ (by rw[ha.n];omega) (uo M hM (by omega) h)) _ _|many a sm ih=>exactλM hM hn h=>PM.Ed (ih M hM hn h) _ _|maybe a ih=>exactλM hM hn h=>ih M hM hn h
theorem NB:PM.zero.small:=λs hs=>by have h:=iR (show s∈aQ 256 aH.zero from hs);rw[h];exact aH.nU _
theorem o7(e:bC)(hn:e.count<=128):(PM.compile e).fit:=by
 have h:=NC e PM.zero PM.dL (by show 0+e.count<=128;omega) NB;have hk:=jR e PM.zero PM.dL (by show 0+e.count<=128;omega);have hnn:(PM.part e PM.zero).1.n<=128:=by rw[hk.n];show 0+e.count<=128;omega
 intro c;show((PM.part e PM.zero).1.at'.getD c aH.zero).fits;rw[aw];cases hc:(PM.part e PM.zero).1.at'[c]? with|none=>exact(aH.nU 0).fits (by omega)|some s=>exact(h s (aS hc)).fits hnn
theorem ot(e:bC)(hn:e.count<=128):(PM.compile e).ok:=by
 have hk:=jR e PM.zero PM.dL (by show 0+e.count<=128;omega);refine PM.yI (PM.pM hk.jZ _ hk.part.f) ?_;split;·exact aH.xP hk.part.l _
 ·exact hk.part.l
def PM.reads(M:PM)(s:aH):List UInt8->Bool|[]=>M.ends s|c::t=>if M.step s c.toNat=aH.zero then false else M.reads (M.step s c.toNat) t
def PM.live(M:PM)(s:aH):Prop:=∃t,M.reads s t=true
def lM(M:PM)(n:Nat):Prop:=∃s6:List aH,s6.length=n/\(∀s∈s6,sI M s/\M.live s)/\s6.Pairwise (λa b=>M.reads a≠M.reads b)/\∀s,sI M s->M.live s->∃r∈s6,M.reads s=M.reads r
def goes(rows:List (List Int))(i k:Nat):Option Nat:=match rows[i]? with|none=>none|some r=>match r[k]? with|none=>none|some z=>if 0<=z then some z.toNat else none
theorem pZ{M:PM}{sets:List aH}{rows:List (List Int)}{i k c:Nat}{s:aH}(h:fY M M.kinds sets rows)(hall:rows.length=sets.length)(hs:sets[i]?=some s)(hk:M.kinds[k]?=some c):(M.step s c=aH.zero/\goes rows i k=none)\/(M.step s c≠aH.zero/\∃j,goes rows i k=some j/\sets[j]?=some (M.step s c)):=by
 have hl:=(List.getElem?_eq_some_iff.1 hs).1;obtain⟨r,hr⟩:∃r,rows[i]?=some r:=⟨_,ar (by omega)⟩;obtain⟨z,hz,hc⟩:=(h.row i r s hr hs).cell k c hk;unfold goes;rw[hr];simp only[hz];rcases hc with⟨h1,rfl⟩|⟨h1,id,rfl,h3⟩;·exact .inl ⟨h1,by decide⟩
 ·refine .inr ⟨h1,id,?_,h3⟩;rw[if_pos (by omega)];simp
theorem Hq(M:PM)(c:UInt8):∃(k d:Nat),M.kinds[k]?=some d/\∀s,M.step s c.toNat=M.step s d:=by obtain⟨d,hd,_,hat⟩:=xp M c.toNat c.toNat_lt;obtain⟨k,hk⟩:=List.mem_iff_getElem?.1 hd;exact⟨k,d,hk,λs=>(GI M s hat).symm⟩
inductive o9(M:PM)(sets:List aH)(rows:List (List Int)):Nat->Prop|here(i:Nat)(s:aH):sets[i]?=some s->M.ends s=true->o9 M sets rows i|on(i k j:Nat):goes rows i k=some j->o9 M sets rows j->o9 M sets rows i
theorem oW{M:PM}{sets:List aH}{rows:List (List Int)}(h:fY M M.kinds sets rows)(hall:rows.length=sets.length){i:Nat}{s:aH}(hs:sets[i]?=some s):o9 M sets rows i↔M.live s:=by
 constructor;·intro he;induction he generalizing s with
  |here i s' hs' hen=>rw[hs]at hs';cases hs';exact⟨[],hen⟩|on i k j hg _ ih=>
   have hkl:∃c,M.kinds[k]?=some c:=by
    unfold goes at hg;split at hg;·cases hg
    ·rename_i r hr;split at hg;·cases hg
     ·rename_i z hz;have:=(List.getElem?_eq_some_iff.1 hz).1;rw[(h.row i r s hr hs).len]at this;exact⟨_,ar this⟩
   obtain⟨c,hc⟩:=hkl;rcases pZ h hall hs hc with⟨_,h2⟩|⟨h1,j',h2,h3⟩;·rw[h2]at hg;cases hg
   ·rw[h2]at hg;cases hg;obtain⟨t,ht⟩:=ih h3;have hc256:c<256:=wI M 256 (aS hc);have e:(cS c).toNat=c:=by simp;omega
    refine⟨cS c::t,?_⟩;unfold PM.reads;rw[e,if_neg h1];exact ht
 ·rintro⟨t,ht⟩;induction t generalizing i s with
  |nil=>exact .here i s hs ht|cons c t ih=>
   unfold PM.reads at ht;split at ht;·cases ht
   ·rename_i hz;obtain⟨k,d,hk,hd⟩:=Hq M c;rw[hd]at ht hz;rcases pZ h hall hs hk with⟨h1,_⟩|⟨_,j,h2,h3⟩;·exact absurd h1 hz
    ·exact .on i k j h2 (ih h3 ht)
def blk(b:List Nat)(i:Nat):Nat:=b.getD i 0
def dest(rows:List (List Int))(b:List Nat)(i k:Nat):Nat:=match goes rows i k with|none=>0|some j=>blk b j
structure ml (M:PM) (sets:List aH) (rows:List (List Int)) (b:List Nat):Prop where
 len:b.length=sets.length
 live:∀ i,i < sets.length->(blk b i≠0↔o9 M sets rows i)
 ends:∀ i j s t,sets[i]?=some s->sets[j]?=some t->blk b i≠0->blk b i=blk b j->M.ends s=M.ends t
 same:∀ i j s t,sets[i]?=some s->sets[j]?=some t->blk b i≠0->M.reads s=M.reads t->blk b i=blk b j
structure Splits (rows:List (List Int)) (n m:Nat) (b b':List Nat):Prop where
 len:b'.length=b.length
 zero:∀ i,i < b.length->(blk b' i≠0↔blk b i≠0)
 iff:∀ i j,i < b.length->j < b.length->blk b i≠0->blk b j≠0->(blk b' i=blk b' j↔blk b i=blk b j /\ ∀ k,k < m->dest rows b i k=dest rows b j k)
/-!### Rounds. -/
theorem s9:∀(D L:List Nat),D.Nodup->(∀x∈D,x∈L)->D.length<=L.length
 |[],L,_,_=>aW _|a::D,L,hn,h=>by
  have ha:=h a bE;have hn':=List.nodup_cons.1 hn;have ih:=s9 D (L.erase a) hn'.2 λx hx=>by have hne:x≠a:=λe=>hn'.1 (e▸hx);exact(AX hne).2 (h x (bq _ hx))
  rw[Rb ha]at ih;have:=po ha;simp only[cI];omega
def xd(b:List Nat)(n:Nat):Prop:=∃l:List Nat,l.Nodup/\(∀x,x∈l↔∃i,i<b.length/\blk b i=x/\x≠0)/\l.length=n
section
variable{M:PM}{sets:List aH}{rows:List (List Int)}{b b':List Nat}{n m:Nat}
theorem E2{l l':List Nat}(hS:Splits rows n m b b')(hl:l.Nodup)(h:∀x,x∈l↔∃i,i<b.length/\blk b i=x/\x≠0)(h':∀x,x∈l'↔∃i,i<b'.length/\blk b' i=x/\x≠0):∃φ:Nat->Nat,(∀i,i<b.length->blk b i≠0->φ (blk b' i)=blk b i)/\∀x∈l,x∈l'.map φ:=by
 have hφ:∃φ:Nat->Nat,∀i,i<b.length->blk b i≠0->φ (blk b' i)=blk b i:=by
  refine⟨λy=>match(List.range b.length).find? (λi=>blk b' i==y&&blk b i !=0)with|some i=>blk b i|none=>0,λi hi h0=>?_⟩;have hf:((List.range b.length).find? (λj=>blk b' j==blk b' i&&blk b j !=0)).isSome:=by rw[List.find?_isSome];exact⟨i,List.mem_range.2 hi,by simp[h0]⟩
  obtain⟨j,hj⟩:=Option.isSome_iff_exists.1 hf;simp only[hj];have hp:=List.find?_some hj;have hm:=List.mem_range.1 (List.mem_of_find?_eq_some hj);simp only[cR,beq_iff_eq,bne_iff_ne]at hp;exact((hS.iff j i hm hi hp.2 h0).1 hp.1).1
 obtain⟨φ,hφ⟩:=hφ;refine⟨φ,hφ,λx hx=>?_⟩;obtain⟨i,hi,rfl,h0⟩:=(h x).1 hx;exact List.mem_map.2 ⟨blk b' i,(h' _).2 ⟨i,by rw[hS.len];exact hi,rfl,(hS.zero i hi).2 h0⟩,hφ i hi h0⟩
theorem Splits.mono(hS:Splits rows n m b b'){c c':Nat}(h:xd b c)(h':xd b' c'):c<=c':=by obtain⟨l,hn,hl,rfl⟩:=h;obtain⟨l',hn',hl',rfl⟩:=h';obtain⟨φ,_,hsub⟩:=E2 hS hn hl hl';have:=s9 l (l'.map φ) hn hsub;simpa using this
theorem Splits.ac6(hS:Splits rows n m b b'){c:Nat}(h:xd b c)(h':xd b' c){i j:Nat}(hi:i<b.length)(hj:j<b.length)(h0:blk b i≠0)(he:blk b i=blk b j):blk b' i=blk b' j:=by
 obtain⟨l,hn,hl,rfl⟩:=h;obtain⟨l',hn',hl',hlen⟩:=h';obtain⟨φ,hφ,hsub⟩:=E2 hS hn hl hl';have hj0:blk b j≠0:=he▸h0;apply dP;intro hne;have hi':blk b' i∈l':=(hl' _).2 ⟨i,by rw[hS.len];exact hi,rfl,(hS.zero i hi).2 h0⟩;have hj':blk b' j∈l':=(hl' _).2 ⟨j,by rw[hS.len];exact hj,rfl,(hS.zero j hj).2 hj0⟩;have hlt:=s9 l ((l'.erase (blk b' i)).map φ) hn λx hx=>by
  obtain⟨y,hy,rfl⟩:=List.mem_map.1 (hsub x hx);by_cases e:y=blk b' i;·subst e;rw[hφ i hi h0,he,<-hφ j hj hj0];exact List.mem_map.2 ⟨blk b' j,(AX (dB hne)).2 hj',rfl⟩
  ·exact List.mem_map.2 ⟨y,(AX e).2 hy,rfl⟩
 rw[jx,Rb hi']at hlt;have:=po hi';omega
theorem XK{b:List Nat}{i:Nat}(h:blk b i≠0):i<b.length:=by
 rcases fe i b.length with h'|h';·exact h'
 ·unfold blk at h;rw[aw,iI h']at h;exact absurd rfl h
theorem jQ{s:aH}(c:UInt8)(t:List UInt8):M.reads s (c::t)=if M.step s c.toNat=aH.zero then false else M.reads (M.step s c.toNat) t:=rfl
theorem Rx{s t:aH}{c:UInt8}(h:M.reads s=M.reads t)(hs:M.step s c.toNat≠aH.zero)(ht:M.step t c.toNat≠aH.zero):M.reads (M.step s c.toNat)=M.reads (M.step t c.toNat):=by funext x;have:=congrFun h (c::x);rw[jQ,jQ,if_neg hs,if_neg ht]at this;exact this
theorem S3{s t:aH}{c:UInt8}(h:M.reads s=M.reads t)(hs:M.step s c.toNat=aH.zero)(ht:M.step t c.toNat≠aH.zero):¬M.live (M.step t c.toNat):=by rintro⟨x,hx⟩;have:=congrFun h (c::x);rw[jQ,jQ,if_pos hs,if_neg ht,hx]at this;cases this
theorem Sl{k d:Nat}(hk:M.kinds[k]?=some d):∃c:UInt8,c.toNat=d:=⟨cS d,by have:=wI M 256 (aS hk);simp;omega⟩
theorem ml.SZ(h:fY M M.kinds sets rows)(hall:rows.length=sets.length)(hb:ml M sets rows b){i j:Nat}{s t:aH}(hs:sets[i]?=some s)(ht:sets[j]?=some t)(he:M.reads s=M.reads t){k:Nat}(hk:k<M.kinds.length):dest rows b i k=dest rows b j k:=by
 obtain⟨d,hd⟩:∃d,M.kinds[k]?=some d:=⟨_,ar hk⟩;obtain⟨c,hc⟩:=Sl hd;have dead:∀(s t:aH)(i j x:Nat),sets[i]?=some s->sets[j]?=some t->M.reads s=M.reads t->M.step s c.toNat=aH.zero->M.step t c.toNat≠aH.zero->sets[x]?=some (M.step t c.toNat)->blk b x=0:=λs t i j x _ _ he' hz hz' hx=>by apply dP;intro h0;exact S3 he' hz hz' ((oW h hall hx).1 ((hb.live x (List.getElem?_eq_some_iff.1 hx).1).1 h0))
 unfold dest;rcases pZ h hall hs hd with⟨a1,a2⟩|⟨a1,x,a2,a3⟩<;>rcases pZ h hall ht hd with⟨b1,b2⟩|⟨b1,y,b2,b3⟩;·rw[a2,b2]
 ·rw[a2,b2];rw[<-hc]at a1 b1 b3;exact(dead s t i j y hs ht he a1 b1 b3).symm
 ·rw[a2,b2];rw[<-hc]at a1 b1 a3;exact dead t s j i x ht hs he.symm b1 a1 a3
 ·rw[a2,b2];rw[<-hc]at a1 b1 a3 b3;have hsame:=Rx he a1 b1;show blk b x=blk b y;by_cases h0:blk b x=0;·apply dP;intro hne;have hy0:blk b y≠0:=λe=>hne (h0.trans e.symm);exact hne (hb.same y x _ _ b3 a3 hy0 hsame.symm).symm
  ·exact hb.same x y _ _ a3 b3 h0 hsame
theorem ml.round (h:fY M M.kinds sets rows) (hall:rows.length=sets.length) (hb:ml M sets rows b) (hS:Splits rows n M.kinds.length b b'):ml M sets rows b' where
 len:=hS.len.trans hb.len
 live:=fun i hi=>by rw [hS.zero i (by rw [hb.len]; exact hi)]; exact hb.live i hi
 ends:=fun i j s t hs ht h0 he=>by
  have hi:i < b.length:=by rw [hb.len]; exact (List.getElem?_eq_some_iff.1 hs).1
  have hj:j < b.length:=by rw [hb.len]; exact (List.getElem?_eq_some_iff.1 ht).1
  have h0':=(hS.zero i hi).1 h0
  have hj0:=(hS.zero j hj).1 (he ▸ h0)
  exact hb.ends i j s t hs ht h0' ((hS.iff i j hi hj h0' hj0).1 he).1
 same:=fun i j s t hs ht h0 he=>by
  have hi:i < b.length:=by rw [hb.len]; exact (List.getElem?_eq_some_iff.1 hs).1
  have hj:j < b.length:=by rw [hb.len]; exact (List.getElem?_eq_some_iff.1 ht).1
  have h0':=(hS.zero i hi).1 h0
  have hsame:=hb.same i j s t hs ht h0' he
  exact (hS.iff i j hi hj h0' (hsame ▸ h0')).2 ⟨hsame,fun k hk=>hb.SZ h hall hs ht he hk⟩
theorem ml.fine(h:fY M M.kinds sets rows)(hall:rows.length=sets.length)(hb:ml M sets rows b)(hst:∀i j,i<b.length->j<b.length->blk b i≠0->blk b i=blk b j->∀k,k<M.kinds.length->dest rows b i k=dest rows b j k):∀(x:List UInt8)(i j:Nat)(s t:aH),sets[i]?=some s->sets[j]?=some t->blk b i≠0->blk b i=blk b j->M.reads s x=M.reads t x
 |[],i,j,s,t,hs,ht,h0,he=>hb.ends i j s t hs ht h0 he|c::x,i,j,s,t,hs,ht,h0,he=>by
  have hi:=XK h0;have hj:=XK (he▸h0);obtain⟨k,d,hk,hd⟩:=Hq M c;have EP:=hst i j hi hj h0 he k (List.getElem?_eq_some_iff.1 hk).1;rw[jQ,jQ,hd s,hd t];have dead:∀y u,sets[y]?=some u->blk b y=0->M.reads u x=false:=λy u hy h0'=>by cases hr:M.reads u x with|false=>rfl|true=>exact absurd h0' ((hb.live y (List.getElem?_eq_some_iff.1 hy).1).2 ((oW h hall hy).2 ⟨x,hr⟩))
  unfold dest at EP;rcases pZ h hall hs hk with⟨a1,a2⟩|⟨a1,y,a2,a3⟩<;>rcases pZ h hall ht hk with⟨b1,b2⟩|⟨b1,z,b2,b3⟩;·rw[if_pos a1,if_pos b1]
  ·rw[a2,b2]at EP;rw[if_pos a1,if_neg b1];exact(dead z _ b3 EP.symm).symm
  ·rw[a2,b2]at EP;rw[if_neg a1,if_pos b1];exact dead y _ a3 EP
  ·rw[a2,b2]at EP;rw[if_neg a1,if_neg b1];have hd':blk b y=blk b z:=EP;by_cases hy0:blk b y=0;·rw[dead y _ a3 hy0,dead z _ b3 (hd'▸hy0)]
   ·exact ml.fine h hall hb hst x y z _ _ a3 b3 hy0 hd'
theorem ml.least(h:fY M M.kinds sets rows)(hall:rows.length=sets.length)(hb:ml M sets rows b)(hS:Splits rows n M.kinds.length b b'){c:Nat}(h1:xd b c)(h2:xd b' c):lM M c:=by
 have ah4:∀i j s t,sets[i]?=some s->sets[j]?=some t->blk b i≠0->blk b i=blk b j->M.reads s=M.reads t:=λi j s t hs ht h0 he=>by funext x;refine ml.fine h hall hb (λi j hi hj h0 he=>?_) x i j s t hs ht h0 he;exact((hS.iff i j hi hj h0 (he▸h0)).1 (hS.ac6 h1 h2 hi hj h0 he)).2
 obtain⟨l,hn,hl,rfl⟩:=h1;have EK:∀x∈l,∃s,∃i,sets[i]?=some s/\blk b i=x/\x≠0:=λx hx=>by obtain⟨i,hi,h3,h4⟩:=(hl x).1 hx;exact⟨_,i,ar (by rw[<-hb.len];exact hi),h3,h4⟩
 have hmk:∀l':List Nat,l'.Nodup->(∀x∈l',∃s,∃i,sets[i]?=some s/\blk b i=x/\x≠0)->∃s6:List aH,s6.length=l'.length/\(∀s∈s6,∃x∈l',∃i,sets[i]?=some s/\blk b i=x/\x≠0)/\s6.Pairwise (λa c=>M.reads a≠M.reads c)/\∀x∈l',∃s∈s6,∃i,sets[i]?=some s/\blk b i=x:=by intro l';induction l' with
  |nil=>exactλ_ _=>⟨[],rfl,λs hs=>(by cases hs),.nil,λx hx=>(by cases hx)⟩|cons a l' ih=>
   intro hn' hr;obtain⟨hna,ama⟩:=List.nodup_cons.1 hn';obtain⟨s6,r1,r2,r3,r4⟩:=ih ama λx hx=>hr x (bq _ hx);obtain⟨s,i,hs,hi,h0⟩:=hr a bE;refine⟨s::s6,by simp[r1],λt ht=>?_,.cons (λt ht e=>?_) r3,λx hx=>?_⟩;·
    rcases List.mem_cons.1 ht with rfl|ht;·exact⟨a,bE,i,hs,hi,h0⟩
    ·obtain⟨x,hx,h5⟩:=r2 t ht;exact⟨x,bq _ hx,h5⟩
   ·obtain⟨x,hx,j,hj,hj',hx0⟩:=r2 t ht;have:=hb.same i j s t hs hj (by rw[hi];exact h0) e;rw[hi,hj']at this;exact hna (this▸hx)
   ·rcases List.mem_cons.1 hx with rfl|hx;·exact⟨s,bE,i,hs,hi⟩
    ·obtain⟨t,ht,h5⟩:=r4 x hx;exact⟨t,bq _ ht,h5⟩
 obtain⟨s6,r1,r2,r3,r4⟩:=hmk l hn EK;refine⟨s6,r1,λs hs=>?_,r3,λs hm hlv=>?_⟩;·obtain⟨x,hx,i,hi,hix,h0⟩:=r2 s hs;exact⟨h.reach s (aS hi),(oW h hall hi).1 ((hb.live i (List.getElem?_eq_some_iff.1 hi).1).1 (by rw[hix];exact h0))⟩
 ·obtain⟨i,hi⟩:=List.mem_iff_getElem?.1 (h.all hall hm);have hil:=(List.getElem?_eq_some_iff.1 hi).1;have h0:=(hb.live i hil).2 ((oW h hall hi).2 hlv);obtain⟨r,hr,j,hj,MQ⟩:=r4 (blk b i) ((hl _).2 ⟨i,by rw[hb.len];exact hil,rfl,h0⟩);exact⟨r,hr,ah4 i j s r hi hj h0 MQ.symm⟩
end
theorem zG:KeyLaw ah 306 aH.val (fun _ _=>True) where
 now:=fun d hd a b=>by
  left
  rw [iK] at hd
  cases hd
  rfl
 und:=⟨_,iK⟩
 eq:=fun w a b _ _=>by
  have h:=Co 9998 a b w
  unfold Q9
  simpa [YC] using h
 chk:=fun w e a _=>by
  unfold aH.val aH.cells
  rw [show (10000:Nat)=9999+1 from rfl]
  unfold yr
  have MS:∀ W,(isAgg 297).run ah W = .ok false W:=fun W=>by kernel_rfl
  have hn:∀ W,(Go.sizeOf 297).run ah W = .ok 1 W:=fun W=>by kernel_rfl
  simp only [dZ,run_underlying iK,eH,hn]
  simp [go_sem,show List.range' 0 3=[0,1,2] from rfl,dZ,MS,hn,Go.part,js ah e 9998 297 _ _ Tryz.underlying297 rfl]
 same:=fun a=>by
  unfold aH.val aH.cells
  simp [rX]
theorem Qg:KeyLaw ah 3 (fun n:Nat=>tR .i64 n) (fun _ _=>True) where
 now:=fun d hd a b=>by
  right
  rw [qh] at hd
  cases hd
  show (if awE=awE then some (((a:Int)) == (b:Int)) else none)=_
  rw [if_pos rfl]
  congr 1
  rw [jf]
  simp
  omega
 und:=⟨_,qh⟩
 eq:=fun w a b _ _=>by
  have e:((a:Int) == (b:Int))=decide (a=b):=by
   rw [jf,beq_iff_eq,decide_eq_true_iff]
   omega
  have:=run_equalIn_int (P:=ah) (w:=w) 9999 3 .i64 .i64 a b qh
  rw [e] at this
  unfold Q9
  simpa [YC] using this
 chk:=fun w e a _=>js _ e 9999 _ _ w qh rfl
 same:=fun a=>by simp [rX]
def qx(s:Nat×Nat):ay:= .agg #[.int .i64 s.1,.int .i64 s.2]
theorem zE:KeyLaw ah 324 qx (fun _ _=>True) where
 now:=fun d hd a b=>by
  left
  rw [acQ] at hd
  cases hd
  rfl
 und:=⟨_,acQ⟩
 eq:=fun w a b _ _=>by
  obtain ⟨f,s⟩:=a
  obtain ⟨g,t⟩:=b
  unfold qx
  simp [go_sem,Q9,YC]
  by_cases h1:f=g <;> by_cases h2:s=t <;> simp [h1,h2] <;> omega
 chk:=fun w e a _=>by
  unfold qx
  rw [show (10000:Nat)=9999+1 from rfl]
  unfold yr
  simp [go_sem,js ah e 9998 3 _ _ qh rfl]
 same:=fun a=>by
  unfold qx
  simp [rX]
def td(sets:List aH):List (aH×Nat):=sets.zipIdx
def tY(b n:Nat):ay:= .slice (some ⟨b,0,none⟩) n n
def ki(r:List Int):List ay:=r.map (tR .i64)
def Lm(c:Nat):ay:= .int .u8 c
theorem I4(sets:List aH)(s:aH):td (sets++[s])=td sets++[(s,sets.length)]:=by unfold td;rw[List.zipIdx_append];simp
theorem Ss{sets:List aH}{s:aH}{i:Nat}(h:get (td sets) s=some i):sets[i]?=some s:=by have hm:=dX h;unfold td at hm;rw[JZ]at hm;exact hm
theorem Oy{sets:List aH}{s:aH}(h:get (td sets) s=none):s∉sets:=λhs=>by obtain⟨i,hi⟩:=List.mem_iff_getElem?.1 hs;rw[get_none]at h;exact h (s,i) (by unfold td;rw[JZ];exact hi) rfl
structure gU (B:Nat) (L:Nat->Nat) (tb ib:Nat) (sv ov kv:ay) (oI:List Nat) (sets:List aH) (rows:List (List Int)) (kinds:List Nat) (w:ak):Prop where
 head:w.heap[tb]?=some (.cells #[.map (some ib),sv,ov,kv] 319 (0,0))
 ids:bV aH.val w ib (vals cJ (td sets))
 fx:w.ownsRow 0 306 3 sv sets.length (setCells sets)
 F6:w.ownsRow 0 24 1 ov rows.length ((oI.zip rows).map fun q=>tY q.1 q.2.length)
 lV:w.ownsRow 0 5 1 kv kinds.length (kinds.map Lm)
 si:oI.length=rows.length
 KT:∀ (j:Nat) b r,oI[j]?=some b->rows[j]?=some r->w.heap[b]?=some (.cells (ki r).toArray 3 (0,0))
 lT:L tb=1
 lI:L ib=2
 lS:∀ b,sv.ownBlock=some b->L b=3
 lO:∀ b,ov.ownBlock=some b->L b=4
 lK:∀ b,kv.ownBlock=some b->L b=5
 lR:∀ b∈oI,L b=6
 past:∀ b,L b≠0->B<=b/\b < w.heap.size
theorem rL{B lab:Nat}{L:Nat->Nat}{w W:ak}{v v2:ay}(hm:bL w v W v2)(hl:∀b,v.ownBlock=some b->L b=lab)(hp:∀b,L b≠0->B<=b/\b<w.heap.size)(hB:B<=w.heap.size)(hlt:∀b,v2.ownBlock=some b->b<W.heap.size):∃L':Nat->Nat,(∀b,b<w.heap.size->L' b=L b)/\(∀b,v2.ownBlock=some b->L' b=lab)/\∀b,L' b≠0->B<=b/\b<W.heap.size:=by
 rcases hm.lies with h|⟨g,h,hg⟩;·exact⟨L,λ_ _=>rfl,λb hb=>hl b (h▸hb),λb hb=>⟨(hp b hb).1,bI (hp b hb).2 hm.size⟩⟩
 ·refine⟨λb=>if b=g then lab else L b,λb hb=>if_neg (by omega),λb hb=>?_,λb hb=>?_⟩;·rw[h]at hb;cases hb;exact if_pos rfl
  ·by_cases e:b=g;·subst e;exact⟨by omega,hlt _ h⟩
   ·simp only[if_neg e]at hb;exact⟨(hp b hb).1,bI (hp b hb).2 hm.size⟩
section
variable{B:Nat}{L:Nat->Nat}{tb ib:Nat}{sv ov kv:ay}{oI:List Nat}{sets:List aH}{rows:List (List Int)}{kinds:List Nat}{w:ak}
theorem gU.kept {w':ak} (h:gU B L tb ib sv ov kv oI sets rows kinds w) (hs:w.heap.size<=w'.heap.size) (hk:∀ b,L b≠0->L b<=6->w'.heap[b]?=w.heap[b]?):gU B L tb ib sv ov kv oI sets rows kinds w' where
 head:=(hk tb (by rw [h.lT]; decide) (by rw [h.lT]; decide)).trans h.head
 ids:=h.ids.of_block (hk ib (by rw [h.lI]; decide) (by rw [h.lI]; decide))
 fx:=aO h.fx fun b e=>hk b (by rw [h.lS b e]; decide) (by rw [h.lS b e]; decide)
 F6:=aO h.F6 fun b e=>hk b (by rw [h.lO b e]; decide) (by rw [h.lO b e]; decide)
 lV:=aO h.lV fun b e=>hk b (by rw [h.lK b e]; decide) (by rw [h.lK b e]; decide)
 si:=h.si
 KT:=fun j b r hb hr=>by
  have hl:=h.lR b (aS hb)
  exact (hk b (by rw [hl]; decide) (by rw [hl]; decide)).trans (h.KT j b r hb hr)
 lT:=h.lT
 lI:=h.lI
 lS:=h.lS
 lO:=h.lO
 lK:=h.lK
 lR:=h.lR
 past:=fun b hb=>⟨(h.past b hb).1,bI (h.past b hb).2 hs⟩
theorem gU.below{w':ak}(h:gU B L tb ib sv ov kv oI sets rows kinds w)(hb:aI w.heap.size w w'):gU B L tb ib sv ov kv oI sets rows kinds w':=h.kept hb.size λb hn _=>hb.block b (h.past b hn).2
theorem gU.lt(h:gU B L tb ib sv ov kv oI sets rows kinds w){b:Nat}(hb:L b≠0):b<w.heap.size:=(h.past b hb).2
theorem gU.mark{w':ak}{rb:Nat}(h:gU B L tb ib sv ov kv oI sets rows kinds w)(hb:aI w.heap.size w w')(h0:L rb=0)(h1:B<=rb)(h2:rb<w'.heap.size):gU B (λb=>if b=rb then 7 else L b) tb ib sv ov kv oI sets rows kinds w':=by
 have k:=h.below hb;have hne:∀b,L b≠0->b≠rb:=λb hb e=>hb (e▸h0);have hl:∀b n,L b=n->n≠0->(if b=rb then 7 else L b)=n:=λb n hn h0'=>by rw[if_neg (hne b (by rw[hn];exact h0'))];exact hn
 exact⟨k.head,k.ids,k.fx,k.F6,k.lV,k.si,k.KT,hl _ _ h.lT (by decide),hl _ _ h.lI (by decide),λb e=>hl _ _ (h.lS b e) (by decide),λb e=>hl _ _ (h.lO b e) (by decide),λb e=>hl _ _ (h.lK b e) (by decide),λb e=>hl _ _ (h.lR b e) (by decide),λb hb=>by
 by_cases e:b=rb;·rw[e];exact⟨h1,h2⟩
 ·simp only[if_neg e]at hb;exact k.past b hb⟩
theorem gU.aaY{W:ak}{kv2:ay}{c:Nat}(h:gU B L tb ib sv ov kv oI sets rows kinds w)(hm:bL w kv W kv2)(hB:B<=w.heap.size)(hrow:W.ownsRow 0 5 1 kv2 (kinds.length+1) ((kinds++[c]).map Lm)):∃L':Nat->Nat,(∀b,b<w.heap.size->L' b=L b)/\gU B L' tb ib sv ov kv2 oI sets rows (kinds++[c]) (W.setCell (aD tb 3) kv2):=by
 obtain⟨L',h1,h2,h3⟩:=rL hm h.lK h.past hB (λb hb=>(hrow.lt b hb).2);have old:∀b,L b≠0->L b≠1->L b≠5->(W.setCell (aD tb 3) kv2).heap[b]?=w.heap[b]?:=λb n0 n1 n5=>by refine(az W (aD tb 3) _ b (λe=>n1 ?_)).trans (hm.block (h.lt n0) λe=>n5 (h.lK b e));rw[show b=tb from e];exact h.lT
 have hne:kv2.ownBlock≠some tb:=λe=>by have:=h2 tb e;rw[h1 tb (h.lt (by rw[h.lT];decide)),h.lT]at this;cases this
 have YL:=λb(e:sv.ownBlock=some b)=>h.lS b e;have YK:=λb(e:ov.ownBlock=some b)=>h.lO b e;refine⟨L',h1,?_,h.ids.of_block (old ib ?_ ?_ ?_),aO h.fx λb e=>old b ?_ ?_ ?_,aO h.F6 λb e=>old b ?_ ?_ ?_,?_,h.si,λj b r hb hr=>(old b ?_ ?_ ?_).trans (h.KT j b r hb hr),?_,?_,λb e=>?_,λb e=>?_,h2,λb e=>?_,λb hb=>?_⟩;·have hh:W.heap[tb]?=some (.cells #[.map (some ib),sv,ov,kv] 319 (0,0)):=(hm.block (h.lt (by rw[h.lT];decide)) λe=>by have:=h.lK tb e;rw[h.lT]at this;cases this).trans h.head;have:=heap_setCell_same W tb 3 _ _ kv2 hh;simpa using this
 all_goals first|(rw[h.lI];decide)|(rw[YL b e];decide)|(rw[YK b e];decide)|(rw[h.lR b (aS hb)];decide)|skip
 ·have:=aO (w':=W.setCell (aD tb 3) kv2) hrow λb e=>az W (aD tb 3) _ b λe'=>hne (by rw[e,show b=tb from e']);simpa using this
 ·rw[h1 tb (h.lt (by rw[h.lT];decide))];exact h.lT
 ·rw[h1 ib (h.lt (by rw[h.lI];decide))];exact h.lI
 ·rw[h1 b (h.lt (by rw[YL b e];decide))];exact YL b e
 ·rw[h1 b (h.lt (by rw[YK b e];decide))];exact YK b e
 ·have:=h.lR b e;rw[h1 b (h.lt (by rw[this];decide))];exact this
 ·have:=h3 b hb;rw[mr];exact this
theorem gU.aeZ{w1 W:ak}{Np:ay}{s:aH}(h:gU B L tb ib sv ov kv oI sets rows kinds w)(hg:w.grownBy w1 (some ib))(hmp:bV aH.val w1 ib (put (vals cJ (td sets)) s (cJ sets.length)))(hnone:get (td sets) s=none)(hm:bL w1 sv W Np)(hB:B<=w.heap.size)(hrow:W.ownsRow 0 306 3 Np (sets.length+1) (setCells (sets++[s]))):∃L':Nat->Nat,(∀b,b<w.heap.size->L' b=L b)/\gU B L' tb ib Np ov kv oI (sets++[s]) rows kinds (W.setCell (aD tb 1) Np):=by
 have hs1:=hg.size;obtain⟨L',h1',h2,h3⟩:=rL hm h.lS (λb hb=>⟨(h.past b hb).1,bI (h.past b hb).2 hs1⟩) (aZ hB hs1) (λb hb=>(hrow.lt b hb).2);have h1:∀b,b<w.heap.size->L' b=L b:=λb hb=>h1' b (bI hb hs1);have old:∀b,L b≠0->L b≠1->L b≠2->L b≠3->(W.setCell (aD tb 1) Np).heap[b]?=w.heap[b]?:=λb n0 n1 n2 n3=>by
  refine(az W (aD tb 1) _ b (λe=>n1 ?_)).trans ((hm.block (bI (h.lt n0) hs1) λe=>n3 (h.lS b e)).trans (hg.block b (h.lt n0) λe=>n2 ?_));·rw[show b=tb from e];exact h.lT
  ·have e':=aJ e;subst e';exact h.lI
 have hne:Np.ownBlock≠some tb:=λe=>by have:=h2 tb e;rw[h1 tb (h.lt (by rw[h.lT];decide)),h.lT]at this;cases this
 have YK:=λb(e:ov.ownBlock=some b)=>h.lO b e;have WT:=λb(e:kv.ownBlock=some b)=>h.lK b e;refine⟨L',h1,?_,?_,?_,aO h.F6 λb e=>old b ?_ ?_ ?_ ?_,aO h.lV λb e=>old b ?_ ?_ ?_ ?_,h.si,λj b r hb hr=>(old b ?_ ?_ ?_ ?_).trans (h.KT j b r hb hr),?_,?_,h2,λb e=>?_,λb e=>?_,λb e=>?_,λb hb=>?_⟩;·have hh:W.heap[tb]?=some (.cells #[.map (some ib),sv,ov,kv] 319 (0,0)):=(hm.block (bI (h.lt (by rw[h.lT];decide)) hs1) λe=>by have:=h.lS tb e;rw[h.lT]at this;cases this).trans ((hg.block tb (h.lt (by rw[h.lT];decide)) λe=>by have e':=aJ e;subst e';have:=h.lI;rw[h.lT]at this;cases this).trans h.head);have:=heap_setCell_same W tb 1 _ _ Np hh;simpa using this
 ·have hW:(W.setCell (aD tb 1) Np).heap[ib]?=w1.heap[ib]?:=by
   refine(az W (aD tb 1) _ ib (λe=>?_)).trans (hm.block (bI (h.lt (by rw[h.lI];decide)) hs1) λe=>?_);·have:=h.lI;rw[show ib=tb from e,h.lT]at this;cases this
   ·have:=h.lS ib e;rw[h.lI]at this;cases this
  have:=hmp.of_block hW;rw[qC,eJ _ hnone,<-I4]at this;exact this
 ·have:=aO (w':=W.setCell (aD tb 1) Np) hrow λb e=>az W (aD tb 1) _ b λe'=>hne (by rw[e,show b=tb from e']);simpa using this
 all_goals first|(rw[WT b e];decide)|(rw[YK b e];decide)|(rw[h.lR b (aS hb)];decide)|skip
 ·rw[h1 tb (h.lt (by rw[h.lT];decide))];exact h.lT
 ·rw[h1 ib (h.lt (by rw[h.lI];decide))];exact h.lI
 ·rw[h1 b (h.lt (by rw[YK b e];decide))];exact YK b e
 ·rw[h1 b (h.lt (by rw[WT b e];decide))];exact WT b e
 ·have:=h.lR b e;rw[h1 b (h.lt (by rw[this];decide))];exact this
 ·have:=h3 b hb;rw[mr];exact this
theorem gU.ae0{W:ak}{TV:ay}{rb:Nat}{r:List Int}(h:gU B L tb ib sv ov kv oI sets rows kinds w)(hL:6<L rb)(hr:w.heap[rb]?=some (.cells (ki r).toArray 3 (0,0)))(hm:bL w ov W TV)(hB:B<=w.heap.size)(hrow:W.ownsRow 0 24 1 TV (rows.length+1) ((oI.zip rows).map (λq=>tY q.1 q.2.length)++[tY rb r.length])):∃L':Nat->Nat,gU B L' tb ib sv TV kv (oI++[rb]) sets (rows++[r]) kinds (W.setCell (aD tb 2) TV):=by
 obtain⟨L1,h1,h2,h3⟩:=rL hm h.lO h.past hB (λb hb=>(hrow.lt b hb).2);have old:∀b,L b≠0->L b≠1->L b≠4->(W.setCell (aD tb 2) TV).heap[b]?=w.heap[b]?:=λb n0 n1 n4=>by refine(az W (aD tb 2) _ b (λe=>n1 ?_)).trans (hm.block (h.lt n0) λe=>n4 (h.lO b e));rw[show b=tb from e];exact h.lT
 have rN:=lt_of_heap hr;have hne:TV.ownBlock≠some tb:=λe=>by have:=h2 tb e;rw[h1 tb (h.lt (by rw[h.lT];decide)),h.lT]at this;cases this
 have hnr:∀b,L1 b<=6->b≠rb:=λb hb e=>by rw[e,h1 rb rN]at hb;omega
 have YL:=λb(e:sv.ownBlock=some b)=>h.lS b e;have WT:=λb(e:kv.ownBlock=some b)=>h.lK b e;have eT:L1 tb=1:=by rw[h1 tb (h.lt (by rw[h.lT];decide))];exact h.lT
 have eI:L1 ib=2:=by rw[h1 ib (h.lt (by rw[h.lI];decide))];exact h.lI
 have eS:∀b,sv.ownBlock=some b->L1 b=3:=λb e=>by rw[h1 b (h.lt (by rw[YL b e];decide))];exact YL b e
 have eK:∀b,kv.ownBlock=some b->L1 b=5:=λb e=>by rw[h1 b (h.lt (by rw[WT b e];decide))];exact WT b e
 have eR:∀b∈oI,L1 b=6:=λb e=>by have:=h.lR b e;rw[h1 b (h.lt (by rw[this];decide))];exact this
 refine⟨λb=>if b=rb then 6 else L1 b,?_,h.ids.of_block (old ib ?_ ?_ ?_),aO h.fx λb e=>old b ?_ ?_ ?_,?_,aO h.lV λb e=>old b ?_ ?_ ?_,by simp[h.si],λj b r' hb hr'=>?_,?_,?_,λb e=>?_,λb e=>?_,λb e=>?_,λb e=>?_,λb hb=>?_⟩;·have hh:W.heap[tb]?=some (.cells #[.map (some ib),sv,ov,kv] 319 (0,0)):=(hm.block (h.lt (by rw[h.lT];decide)) λe=>by have:=h.lO tb e;rw[h.lT]at this;cases this).trans h.head;have:=heap_setCell_same W tb 2 _ _ TV hh;simpa using this
 all_goals first|(rw[h.lI];decide)|(rw[YL b e];decide)|(rw[WT b e];decide)|skip
 ·have:=aO (w':=W.setCell (aD tb 2) TV) hrow λb e=>az W (aD tb 2) _ b λe'=>hne (by rw[e,show b=tb from e']);rw[List.zip_append h.si,cQ];simpa using this
 ·have hlt:=(List.getElem?_eq_some_iff.1 hb).1;by_cases hj:j<oI.length;·rw[dF hj]at hb;rw[dF (by rw[<-h.si];exact hj)]at hr';have hl:=h.lR b (aS hb);exact(old b (by rw[hl];decide) (by rw[hl];decide) (by rw[hl];decide)).trans (h.KT j b r' hb hr')
  ·simp at hlt;obtain rfl:j=oI.length:=by omega
   rw[eG]at hb;rw[h.si,eG]at hr';cases hb;cases hr';exact(old rb (by omega) (by omega) (by omega)).trans hr
 ·rw[if_neg (hnr tb (by rw[eT];decide))];exact eT
 ·rw[if_neg (hnr ib (by rw[eI];decide))];exact eI
 ·rw[if_neg (hnr b (by rw[eS b e];decide))];exact eS b e
 ·rw[if_neg (hnr b (by rw[h2 b e];decide))];exact h2 b e
 ·rw[if_neg (hnr b (by rw[eK b e];decide))];exact eK b e
 ·rcases List.mem_append.1 e with e|e;·rw[if_neg (hnr b (by rw[eR b e];decide))];exact eR b e
  ·simp at e;rw[if_pos e]
 ·rw[mr];by_cases e:b=rb;·rw[e];exact⟨(h.past rb (by omega)).1,bI rN hm.size⟩
  ·simp only[if_neg e]at hb;exact h3 b hb
end
theorem gJ{w:ak}{B e size n g cap:Nat}{xs:List ay}(h:w.ownsRow B e size (sL g n cap) n xs){j:Nat}{u:ay}(hj:xs[j]?=some u):w.cell? (aD g j)=some u:=by
 have:=h.cells (g:=g) rfl j u hj;unfold iU at this;by_cases e:j=0;·subst e;simpa using this
 ·simpa[e]using this
theorem jr{w:ak}{B e size n:Nat}{v:ay}{xs:List ay}(h:w.ownsRow B e size v n xs)(hn:0<n):∃g cap,v=sL g n cap:=by obtain⟨k,rfl⟩:∃k,n=k+1:=⟨n-1,by omega⟩;exact bX h
theorem pB{P:Program}{w:ak}{ops:Array Oper}{rest:List Oper}{o:Oper}{a:Act}{Q:Exit->Act->ak->Prop}(hgd:o.guard=none)(s x:Operand)(t:dx)(ho:o.op= .call {callee:= .builtin .append,args:=#[s,x],argTypes:=#[t,t]})(e:dx)(i:TypeInfo)(z:ay)(size bytes:Nat)(ht:P.underlying t=some (.slice e))(hi:P.info? e=some i)(hz:i.zero=some z)(hsize:i.size=size)(hby:i.bytes=bytes)(hzs:z.cells.size=size)(hsz:0<size)(v:ay)(n:Nat)(xs:List ay)(hs:a.eval s=v)(hown:w.ownsRow 0 e size v n xs)(ad:Addr)(m c:Nat)(news:List ay)(hx:a.eval x= .slice (some ad) m c)(hl:news.length=m*size)(hnews:∀j u,news[j]?=some u->w.cell? (ad.add j)=some u)(h1:∀u∈news,u.oneCell'=true)(hm:0<m)(h63:n+m<=maxLen)(hbytes:(n+m)*bytes<=140737488355328)(h:∀g cap w',w'.ownsRow 0 e size (sL g (n+m) cap) (n+m) (xs++news)->w.grownBy w' v.ownBlock->JL w w' v (sL g (n+m) cap)->wpList P ops Q rest (a.put o.dst (sL g (n+m) cap)) w'):wpList P ops Q (o::rest) a w:=by
 refine wpList_append_lies hgd s x t ho e i z size bytes ht hi hz hsize hby hzs hsz v n xs hs hown ad m c news hx hl hnews h1 hm h63 hbytes ?_;intro v' w' h2 h3 h4;have hf:∃g cap,v'=sL g (n+m) cap:=by obtain⟨k,hk⟩:∃k,n+m=k+1:=⟨n+m-1,by omega⟩;rw[hk]at h2⊢;exact bX h2
 obtain⟨g,cap,rfl⟩:=hf;exact h g cap w' h2 h3 h4
structure uR (B most:Nat) (M:PM) (ks:List Nat) (tb ib rb:Nat) (ov kv:ay) (oI:List Nat) (rows:List (List Int)) (s:aH) (k:Nat) (sets:List aH) (L:Nat->Nat) (sv:ay) (cur:List Int) (w:ak):Prop where
 ok:fY M ks sets rows
 few:sets.length<=most
 own:sets[rows.length]?=some s
 mem:gU B L tb ib sv ov kv oI sets rows ks w
 lab:L rb=7
 row:w.heap[rb]?=some (.cells (ki cur).toArray 3 (0,0))
 len:cur.length=ks.length
 done:∀ (j c:Nat),j < k->ks[j]?=some c -> ∃ z:Int,cur[j]?=some z/\x8 M sets s c z
section
variable{B most:Nat}{M:PM}{ks:List Nat}{tb ib rb:Nat}{ov kv:ay}{oI:List Nat}{rows:List (List Int)}{s:aH}{k:Nat}{sets:List aH}{L:Nat->Nat}{sv:ay}{cur:List Int}{w w':ak}
theorem uR.below(h:uR B most M ks tb ib rb ov kv oI rows s k sets L sv cur w)(hb:aI w.heap.size w w'):uR B most M ks tb ib rb ov kv oI rows s k sets L sv cur w':=⟨h.ok,h.few,h.own,h.mem.below hb,h.lab,(hb.block _ (lt_of_heap h.row)).trans h.row,h.len,h.done⟩
theorem Sq(cur:List Int)(k:Nat)(z:Int):(ki cur).toArray.setIfInBounds k (iV z)=(ki (cur.set k z)).toArray:=by simp[ki,CZ]
theorem uR.put(h:uR B most M ks tb ib rb ov kv oI rows s k sets L sv cur w)(z:Int):uR B most M ks tb ib rb ov kv oI rows s k sets L sv (cur.set k z) (w.setCell (aD rb k) (iV z)):=by
 refine⟨h.ok,h.few,h.own,h.mem.kept (by simp) λb h0 h6=>az w (aD rb k) _ b λe=>?_,h.lab,?_,by rw[bW];exact h.len,λj c hj hc=>?_⟩;·have:=h.lab;rw[<-show b=rb from e]at this;omega
 ·rw[heap_setCell_same w rb k _ _ _ h.row,Sq]
 ·obtain⟨y,h1,h2⟩:=h.done j c hj hc;exact⟨y,by rw[dA (by omega)];exact h1,h2⟩
theorem uR.next(h:uR B most M ks tb ib rb ov kv oI rows s k sets L sv cur w){c:Nat}{z:Int}(hc:ks[k]?=some c)(hz:cur[k]?=some z)(hT:x8 M sets s c z):uR B most M ks tb ib rb ov kv oI rows s (k+1) sets L sv cur w:=⟨h.ok,h.few,h.own,h.mem,h.lab,h.row,h.len,λj c' hj hc'=>by
 by_cases e:j=k;·subst e;rw[hc]at hc';cases hc';exact⟨z,hz,hT⟩
 ·exact h.done j c' (by omega) hc'⟩
end
inductive AE(fr:List (List Nat)):Nat->Nat->Prop|here(i:Nat):AE fr i i|on(x y i:Nat):x∈fr.getD y []->AE fr y i->AE fr x i
theorem Li{fr:List (List Nat)}{x y i:Nat}(h:AE fr x y)(k:AE fr y i):AE fr x i:=by induction h with|here _=>exact k|on a b c hab _ ih=>exact .on a b i hab (ih k)
structure Marks (fr:List (List Nat)) (lv:List Bool) (i:Nat) (oK:List Bool):Prop where
 len:oK.length=lv.length
 mono:∀ x,lv.getD x false=true->oK.getD x false=true
 has:oK.getD i false=true
 shut:∀ x,oK.getD x false=true->lv.getD x false=false -> ∀ y∈fr.getD x [],oK.getD y false=true
 leads:∀ x,oK.getD x false=true->lv.getD x false=false->AE fr x i
def XP(c5 c6 c11:Nat):ay:= .func (.func 155) #[] #[aP c5,aP c6,aP c11]
structure nE (c5 c6 c11 lb fb:Nat) (sV:List ay) (fr:List (List Nat)) (lv:List Bool) (w:ak):Prop where
 cl:w.heap[c5]?=some (.cells #[.slice (some ⟨lb,0,none⟩) lv.length lv.length] 151 (0,0))
 cf:w.heap[c6]?=some (.cells #[.slice (some ⟨fb,0,none⟩) lv.length lv.length] 88 (0,0))
 cb:w.heap[c11]?=some (.cells #[XP c5 c6 c11] 314 (0,0))
 live:w.heap[lb]?=some (.cells (lv.map mz).toArray 4 (0,0))
 Qs:w.heap[fb]?=some (.cells sV.toArray 24 (0,0))
 Jj:sV.length=lv.length
 si:fr.length=lv.length
 rows:∀ (j:Nat) v l,sV[j]?=some v->fr[j]?=some l->w.ownsRow 0 3 1 v l.length (l.map cJ)/\v.ownBlock≠some lb
 lt:∀ l∈fr,∀ x∈l,x < lv.length
 few:∀ l∈fr,l.length<=1000000
 n5:c5≠lb
 n6:c6≠lb
 n11:c11≠lb
 nf:fb≠lb
theorem nE.kept {c5 c6 c11 lb fb:Nat} {sV:List ay} {fr:List (List Nat)} {lv oK:List Bool} {w w':ak} (h:nE c5 c6 c11 lb fb sV fr lv w) (hm:Mod (fun j=>j=lb) w w') (hl:oK.length=lv.length) (hlb:w'.heap[lb]?=some (.cells (oK.map mz).toArray 4 (0,0))):nE c5 c6 c11 lb fb sV fr oK w' where
 cl:=by rw [hl]; exact (hm.block _ (lt_of_heap h.cl) h.n5).trans h.cl
 cf:=by rw [hl]; exact (hm.block _ (lt_of_heap h.cf) h.n6).trans h.cf
 cb:=(hm.block _ (lt_of_heap h.cb) h.n11).trans h.cb
 live:=hlb
 Qs:=(hm.block _ (lt_of_heap h.Qs) h.nf).trans h.Qs
 Jj:=h.Jj.trans hl.symm
 si:=h.si.trans hl.symm
 rows:=fun j v l hv hlj=>⟨aO (h.rows j v l hv hlj).1 fun b e=>hm.block b ((h.rows j v l hv hlj).1.lt b e).2 fun e'=>(h.rows j v l hv hlj).2 (e' ▸ e),(h.rows j v l hv hlj).2⟩
 lt:=fun l hlm x hx=>by rw [hl]; exact h.lt l hlm x hx
 few:=h.few
 n5:=h.n5
 n6:=h.n6
 n11:=h.n11
 nf:=h.nf
def jV(lv:List Bool):Nat:=(lv.filter λx=>!x).length
theorem zy{lv:List Bool}{i:Nat}(hi:i<lv.length)(h:lv.getD i false=false):jV (lv.set i true)<jV lv:=by induction lv generalizing i with|nil=>simp at hi|cons a l ih=>cases i with|zero=>simp at h;subst h;simp[jV]|succ i=>have:=ih (i:=i) (by simpa using hi) (by simpa using h);unfold jV at this⊢;rw[ai,xx,xx];split<;>simp<;>omega
theorem tu(lv:List Bool)(i x:Nat)(hi:i<lv.length):(lv.set i true).getD x false=if x=i then true else lv.getD x false:=by
 rw[aw,fD,aw];by_cases e:i=x;·subst e;simp[hi]
 ·simp[e,dB e]
theorem Kg {lv oK:List Bool} (hl:oK.length=lv.length) (h:∀ x,lv.getD x false=true->oK.getD x false=true):jV oK<=jV lv:=by
 induction lv generalizing oK with
 | nil=>cases oK with
  | nil=>exact au _
  | cons a l=>simp at hl
 | cons a l ih =>
  cases oK with
  | nil=>simp at hl
  | cons b m =>
   have h1:=ih (oK:=m) (by simpa using hl) fun x hx=>by simpa using h (x+1) (by simpa using hx)
   have h2:=h 0
   simp at h2
   unfold jV at h1 ⊢
   rw [xx,xx]
   cases a <;> cases b <;> simp at h2 ⊢ <;> omega
structure pO (fr:List (List Nat)) (lv:List Bool) (i j:Nat) (oK:List Bool):Prop where
 len:oK.length=lv.length
 mono:∀ x,lv.getD x false=true->oK.getD x false=true
 has:oK.getD i false=true
 part:∀ y∈(fr.getD i []).take j,oK.getD y false=true
 shut:∀ x,x≠i->oK.getD x false=true->lv.getD x false=false -> ∀ y∈fr.getD x [],oK.getD y false=true
 leads:∀ x,oK.getD x false=true->lv.getD x false=false->AE fr x i
theorem pO.start {fr:List (List Nat)} {lv:List Bool} {i:Nat} (hi:i < lv.length):pO fr lv i 0 (lv.set i true) where
 len:=bW
 mono:=fun x hx=>by rw [tu lv i x hi]; split <;> first | rfl | exact hx
 has:=by rw [tu lv i i hi,if_pos rfl]
 part:=fun y hy=>by simp at hy
 shut:=fun x hne hx h0=>by rw [tu lv i x hi,if_neg hne,h0] at hx; cases hx
 leads:=fun x hx h0=>by
  rw [tu lv i x hi] at hx
  split at hx
  ·rename_i e; rw [e]; exact .here i
  ·rw [h0] at hx; cases hx
theorem pO.step {fr:List (List Nat)} {lv oK lv2:List Bool} {i j y:Nat} (h:pO fr lv i j oK) (hy:(fr.getD i [])[j]?=some y) (hm:Marks fr oK y lv2):pO fr lv i (j+1) lv2 where
 len:=hm.len.trans h.len
 mono:=fun x hx=>hm.mono x (h.mono x hx)
 has:=hm.mono i h.has
 part:=fun z hz=>by
  have hlt:=(List.getElem?_eq_some_iff.1 hy).1
  rw [List.take_succ_eq_append_getElem hlt] at hz
  rcases List.mem_append.1 hz with hz | hz
  ·exact hm.mono z (h.part z hz)
  ·have e:(fr.getD i [])[j]=y:=aJ ((ar hlt).symm.trans hy)
   rw [e,iL] at hz
   rw [hz]
   exact hm.has
 shut:=fun x hne hx h0 z hz=>by
  cases h1:oK.getD x false with
  | true=>exact hm.mono z (h.shut x hne h1 h0 z hz)
  | false=>exact hm.shut x hx h1 z hz
 leads:=fun x hx h0=>by
  cases h1:oK.getD x false with
  | true=>exact h.leads x h1 h0
  | false =>
   have h2:=hm.leads x hx h1
   exact Li h2 (.on y i i (aS hy) (.here i))
theorem pO.close {fr:List (List Nat)} {lv oK:List Bool} {i:Nat} (h:pO fr lv i (fr.getD i []).length oK):Marks fr lv i oK where
 len:=h.len
 mono:=h.mono
 has:=h.has
 shut:=fun x hx h0 y hy=>by
  by_cases e:x=i
  ·subst e
   exact h.part y (by rw [List.take_length]; exact hy)
  ·exact h.shut x e hx h0 y hy
 leads:=h.leads
theorem Mn(c5 c6 c11 lb fb:Nat)(sV:List ay)(fr:List (List Nat))(lv:List Bool)(i:Nat)(w:ak)(LJ:lv.length<=1000)(hi:i<lv.length)(hg:lv.getD i false=true)(hB:nE c5 c6 c11 lb fb sV fr lv w):aX ah 155 #[iV i,aP c5,aP c6,aP c11] w λe w'=>e= .returned (.tuple #[])/\∃oK,Marks fr lv i oK/\nE c5 c6 c11 lb fb sV fr oK w'/\Mod (λj=>j=lb) w w':=by
 have k5:w.cell? (aD c5 0)=some (sL lb lv.length lv.length):=aq hB.cl;have hiz:(i:Int)<(lv.length:Int):=by omega
 have hlz:(lv.length:Int)<=1000:=by omega
 have kl:w.cell? (aD lb i)=some (.bool true):=by
  rw[aq hB.live];have:lv[i]?=some true:=by rw[aw]at hg;rw[ar hi]at hg⊢;simpa using hg
  simp[this]
 have HB:=ae (show _/\_ from⟨hB,hg⟩);clear hB hg;unfold aP;go_enter asl,aoO;go_wp2_with fail;go_end0;exact⟨rfl,lv,⟨rfl,λ_ h=>h,HB.2,λx h h0=>(by rw[h0]at h;cases h),λx h h0=>(by rw[h0]at h;cases h)⟩,HB.1,Mod.refl _ _⟩
theorem Ih{lv:List Bool}{i:Nat}(hi:i<lv.length)(h:lv.getD i false=false):0<jV lv:=Nat.lt_of_le_of_lt (aW _) (zy hi h)
theorem XO (c5 c6 c11 lb fb:Nat) (sV:List ay) (fr:List (List Nat)):∀ (r:Nat) (lv:List Bool) (i:Nat) (w:ak),jV lv<=r->lv.length<=1000->i < lv.length->nE c5 c6 c11 lb fb sV fr lv w ->
  aX ah 155 #[iV i,aP c5,aP c6,aP c11] w fun e w'=>e = .returned (.tuple #[]) /\ ∃ oK,Marks fr lv i oK/\nE c5 c6 c11 lb fb sV fr oK w'/\Mod (fun j=>j=lb) w w':=by
 intro r
 induction r with
 | zero =>
  intro lv i w hr LJ hi hB
  refine Mn c5 c6 c11 lb fb sV fr lv i w LJ hi ?_ hB
  cases h:lv.getD i false with
  | true=>rfl
  | false=>have:=Ih hi h; omega
 | succ r ih =>
  intro lv i w hr LJ hi hB
  have IH:=ae ih
  clear ih
  have k5:w.cell? (aD c5 0)=some (sL lb lv.length lv.length):=aq hB.cl
  have k6:w.cell? (aD c6 0)=some (sL fb lv.length lv.length):=aq hB.cf
  have hiz:(i:Int) < (lv.length:Int):=by omega
  have hlz:(lv.length:Int)<=1000:=by omega
  obtain ⟨b,hb⟩:∃ b,lv[i]?=some b:=⟨_,ar hi⟩
  have kl:w.cell? (aD lb i)=some (.bool b):=by
   rw [aq hB.live]
   simp [hb]
  have kf:w.frozen? (aD lb i)=false:=aU hB.live
  have hgb:lv.getD i false=b:=by rw [aw,hb]; rfl
  have HB:=ae (show _/\_/\_/\_ from ⟨hB,hgb,hr,hb⟩)
  clear hB hgb hr hb
  cases b with
  | true=>exact Mn c5 c6 c11 lb fb sV fr lv i w LJ hi HB.2.1 HB.1
  | false =>
   unfold aP
   obtain ⟨fv,hfv⟩:∃ fv,sV[i]?=some fv:=⟨_,ar (by rw [HB.1.Jj]; exact hi)⟩
   obtain ⟨fl,hfl⟩:∃ fl,fr[i]?=some fl:=⟨_,ar (by rw [HB.1.si]; exact hi)⟩
   have hst:=pO.start (fr:=fr) hi
   have Qp:(w.setCell (aD lb i) (.bool true)).heap[lb]?=some (.cells ((lv.set i true).map mz).toArray 4 (0,0)):=by
    rw [heap_setCell_same w lb i _ _ (.bool true) HB.1.live]
    simp [CZ]
   have hm1:Mod (fun j=>j=lb) w (w.setCell (aD lb i) (.bool true)):=Mod.setCell w (aD lb i) _ fun _=>rfl
   have hB1:=HB.1.kept hm1 bW Qp
   obtain ⟨hrow,hnb⟩:=hB1.rows i fv fl hfv hfl
   obtain ⟨fa,fc,hfo⟩:=ownsRow_form hrow
   have q6:(w.setCell (aD lb i) (.bool true)).cell? (aD c6 0)=some (sL fb lv.length lv.length):=by
    have:=aq (i:=0) hB1.cf
    rw [bW] at this
    exact this
   have q7:(w.setCell (aD lb i) (.bool true)).cell? (aD fb i)=some (.slice fa fl.length fc):=by
    rw [aq hB1.Qs]
    simp [hfv,hfo]
   have Je:fl.length<=1000000:=hB1.few fl (aS hfl)
   have hgd:fr.getD i []=fl:=by rw [aw,hfl]; rfl
   have hun:jV (lv.set i true) < jV lv:=zy hi HB.2.1
   have H1:=ae (show _/\_/\_/\_/\_/\_/\_ from ⟨hst,hB1,hm1,hgd,hun,hfo,hfv⟩)
   have HFL:=ae hfl
   clear hst hB1 hm1 hgd hun hrow hnb Qp hfv hfl hfo
   go_enter asl,aoO
   go_wp2_with fail
   obtain ⟨w1,hw1⟩:∃ w1,w1=w.setCell (aD lb i) (.bool true):=⟨_,rfl⟩
   rw [<- hw1] at H1 ⊢
   clear hw1 q6 q7 kl kf
   go_loopw [20] (fun iv wr=>∃ (j:Nat) (oK:List Bool),j<=fl.length/\iv = .int .i64 j/\Hid (pO fr lv i j oK/\nE c5 c6 c11 lb fb sV fr oK wr/\Mod (fun j=>j=lb) w wr)) (fun iv _=>fl.length - (intOf iv).toNat)
   case atStart=>exact ⟨0,_,by omega,rfl,H1.1,H1.2.1,H1.2.2.1⟩
   case round =>
    obtain ⟨j,oK,hj,rfl,HR⟩:=hrel
    by_cases hjl:j < fl.length
    ·obtain ⟨y,hy⟩:∃ y,fl[j]?=some y:=⟨_,ar hjl⟩
     obtain ⟨hrow,_⟩:=HR.2.1.rows i fv fl H1.2.2.2.2.2.2 HFL
     rw [H1.2.2.2.2.2.1] at hrow
     obtain ⟨fg,aaN,hform⟩:=jr hrow (by omega)
     simp only [Value.slice.injEq,true_and] at hform
     obtain ⟨rfl,rfl⟩:=hform
     have ky:wr.cell? (aD fg j)=some (iV y):=gJ hrow (by rw [bp,hy]; rfl)
     have k11:wr.cell? (aD c11 0)=some (.func (.func 155) #[] #[pT c5,pT c6,pT c11]):=aq HR.2.1.cb
     have ag7:y < oK.length:=by
      have:=HR.2.1.lt fl (aS HFL) y (aS hy)
      exact this
     have hle:=Kg (lv:=lv.set i true) (oK:=oK) (by rw [HR.1.len,bW]) fun x hx=>by
      rw [tu lv i x hi] at hx
      split at hx
      ·rename_i e; rw [e]; exact HR.1.has
      ·exact HR.1.mono x hx
     have hcall:=IH.out oK y wr (by have:=H1.2.2.2.2.1; have:=HB.2.2.1; omega) (by rw [HR.1.len]; exact LJ) ag7 HR.2.1
     have pG:=ae (aA hcall hy)
     have hjz:(j:Int) < (fl.length:Int):=by omega
     have amq:(0:Int)<=(j:Int):=by omega
     clear hcall hrow hle ag7 hy
     go_wp2_with fail
     have hcall:=pG.1
     unfold aP at hcall
     refine hcall.mono ?_
     clear hcall
     rintro en w2 ⟨rfl,lv2,hm2,hB2,kU⟩
     have hs:=HR.1.step (by rw [H1.2.2.2.1]; exact pG.2) hm2
     have HN:=ae (show _/\_/\_ from ⟨hs,hB2,HR.2.2.trans kU⟩)
     clear hs hm2 hB2 kU ky k11
     go_wp2_with fail
     exact ⟨⟨j+1,lv2,by omega,by go_num,HN⟩,by simp [intOf]; omega⟩
    ·obtain rfl:j=fl.length:=by omega
     go_wp2_with fail
     go_end0
     have hc:=HR.1
     rw [<- H1.2.2.2.1] at hc
     exact ⟨rfl,oK,hc.close,HR.2.1,HR.2.2⟩
structure tJ (rows:List (List Int)) (n i k:Nat) (fr:List (List Nat)):Prop where
 len:fr.length=n
 iff:∀ y,y < n -> ∀ x,x∈fr.getD y []↔(x < i /\ ∃ q,goes rows x q=some y)\/(x=i /\ ∃ q,q < k/\goes rows i q=some y)
 few:∀ l∈fr,l.length<=i * 256+k
theorem tJ.start (rows:List (List Int)) (n:Nat):tJ rows n 0 0 (aQ n []) where
 len:=bK
 iff:=fun y hy x=>by
  have e:(aQ n ([]:List Nat)).getD y []=[]:=by
   rw [aw,cu]
   split <;> rfl
  rw [e]
  simp
 few:=fun l hl=>by rw [iR hl]; simp
theorem Qr{rows:List (List Int)}{i k:Nat}{r:List Int}{z:Int}(hr:rows[i]?=some r)(hz:r[k]?=some z):goes rows i k=if 0<=z then some z.toNat else none:=by unfold goes;rw[hr];simp only[hz]
theorem SQ{rows:List (List Int)}{i k:Nat}{r:List Int}(hr:rows[i]?=some r)(hk:r.length<=k):goes rows i k=none:=by unfold goes;rw[hr];simp only[iI hk]
theorem tJ.skip {rows:List (List Int)} {n i k:Nat} {fr:List (List Nat)} (h:tJ rows n i k fr) (hg:goes rows i k=none):tJ rows n i (k+1) fr where
 len:=h.len
 iff:=fun y hy x=>by
  rw [h.iff y hy x]
  constructor
  ·rintro (h1 | ⟨h1,q,hq,h2⟩)
   ·exact .inl h1
   ·exact .inr ⟨h1,q,by omega,h2⟩
  ·rintro (h1 | ⟨h1,q,hq,h2⟩)
   ·exact .inl h1
   ·by_cases e:q=k
    ·rw [e,hg] at h2; cases h2
    ·exact .inr ⟨h1,q,by omega,h2⟩
 few:=fun l hl=>by have:=h.few l hl; omega
theorem tJ.add {rows:List (List Int)} {n i k y:Nat} {fr:List (List Nat)} {l:List Nat} (h:tJ rows n i k fr) (hg:goes rows i k=some y) (hy:fr[y]?=some l):tJ rows n i (k+1) (fr.set y (l++[i])) where
 len:=by rw [bW]; exact h.len
 iff:=fun z hz x=>by
  have Oz:=(List.getElem?_eq_some_iff.1 hy).1
  have e:(fr.set y (l++[i])).getD z []=if y=z then l++[i] else fr.getD z []:=by
   rw [aw,fD,aw]
   by_cases e:y=z
   ·subst e; simp [Oz]
   ·simp [e]
  rw [e]
  by_cases e2:y=z
  ·subst e2
   rw [if_pos rfl,List.mem_append,iL]
   have h1:=h.iff y hz x
   have h2:fr.getD y []=l:=by rw [aw,hy]; rfl
   rw [h2] at h1
   rw [h1]
   constructor
   ·rintro ((h3 | ⟨h3,q,hq,h4⟩) | h3)
    ·exact .inl h3
    ·exact .inr ⟨h3,q,by omega,h4⟩
    ·exact .inr ⟨h3,k,by omega,hg⟩
   ·rintro (h3 | ⟨h3,q,hq,h4⟩)
    ·exact .inl (.inl h3)
    ·exact .inr h3
  ·rw [if_neg e2,h.iff z hz x]
   constructor
   ·rintro (h3 | ⟨h3,q,hq,h4⟩)
    ·exact .inl h3
    ·exact .inr ⟨h3,q,by omega,h4⟩
   ·rintro (h3 | ⟨h3,q,hq,h4⟩)
    ·exact .inl h3
    ·by_cases e:q=k
     ·rw [e,hg] at h4; exact absurd (aJ h4) e2
     ·exact .inr ⟨h3,q,by omega,h4⟩
 few:=fun m hm=>by
  rcases List.mem_or_eq_of_mem_set hm with h1 | h1
  ·have:=h.few m h1; omega
  ·rw [h1,bh]
   have:=h.few l (aS hy)
   simp; omega
theorem tJ.row {rows:List (List Int)} {n i:Nat} {fr:List (List Nat)} {r:List Int} (h:tJ rows n i r.length fr) (hr:rows[i]?=some r) (aaI:r.length<=256):tJ rows n (i+1) 0 fr where
 len:=h.len
 iff:=fun y hy x=>by
  rw [h.iff y hy x]
  constructor
  ·rintro (⟨h1,h2⟩ | ⟨h1,q,hq,h2⟩)
   ·exact .inl ⟨by omega,h2⟩
   ·subst h1; exact .inl ⟨by omega,q,h2⟩
  ·rintro (⟨h1,q,h2⟩ | ⟨_,q,hq,_⟩)
   ·by_cases e:x=i
    ·subst e
     refine .inr ⟨rfl,q,?_,h2⟩
     apply dP
     intro hn
     rw [SQ hr (by omega)] at h2
     cases h2
    ·exact .inl ⟨by omega,q,h2⟩
   ·omega
 few:=fun l hl=>by
  have:=h.few l hl
  rw [FN,Nat.succ_mul]
  exact aZ this (Nat.add_le_add_left aaI _)
theorem Ou{M:PM}{sets:List aH}{rows:List (List Int)}{n i:Nat}{fr:List (List Nat)}(h:tJ rows n n 0 fr)(hall:rows.length=n){x y:Nat}(hl:AE fr x y)(hy:o9 M sets rows y):o9 M sets rows x:=by induction hl with
 |here _=>exact hy|on a b c hab _ ih=>
  have hb:b<n:=by
   rcases fe b n with h'|h';·exact h'
   ·rw[aw,iI (by rw[h.len];exact h')]at hab;cases hab
  rcases(h.iff b hb a).1 hab with⟨_,q,hq⟩|⟨_,q,hq,_⟩;·exact .on a q b hq (ih hy)
  ·omega
structure mL (M:PM) (sets:List aH) (rows:List (List Int)) (fr:List (List Nat)) (i:Nat) (lv:List Bool):Prop where
 len:lv.length=sets.length
 sound:∀ x,lv.getD x false=true->o9 M sets rows x
 shut:∀ x,lv.getD x false=true -> ∀ y∈fr.getD x [],lv.getD y false=true
 ends:∀ j s,j < i->sets[j]?=some s->M.ends s=true->lv.getD j false=true
theorem mL.start(M:PM)(sets:List aH)(rows:List (List Int))(fr:List (List Nat)):mL M sets rows fr 0 (aQ sets.length false):=by
 have e:∀x,(aQ sets.length false).getD x false=false:=λx=>by rw[aw,cu];split<;>rfl
 exact⟨bK,λx h=>(by rw[e]at h;cases h),λx h=>(by rw[e]at h;cases h),λj s hj=>(by omega)⟩
theorem mL.skip{M:PM}{sets:List aH}{rows:List (List Int)}{fr:List (List Nat)}{i:Nat}{lv:List Bool}{s:aH}(h:mL M sets rows fr i lv)(hs:sets[i]?=some s)(he:M.ends s=false):mL M sets rows fr (i+1) lv:=⟨h.len,h.sound,h.shut,λj t hj ht he'=>by
 by_cases e:j=i;·subst e;rw[hs]at ht;cases ht;rw[he]at he';cases he'
 ·exact h.ends j t (by omega) ht he'⟩
theorem mL.mark{M:PM}{sets:List aH}{rows:List (List Int)}{fr:List (List Nat)}{i:Nat}{lv oK:List Bool}{s:aH}(h:mL M sets rows fr i lv)(hf:tJ rows sets.length sets.length 0 fr)(hall:rows.length=sets.length)(hs:sets[i]?=some s)(he:M.ends s=true)(hm:Marks fr lv i oK):mL M sets rows fr (i+1) oK:=⟨hm.len.trans h.len,λx hx=>by cases h0:lv.getD x false with|true=>exact h.sound x h0|false=>exact Ou (i:=i) hf hall (hm.leads x hx h0) (.here i s hs he),λx hx y hy=>by cases h0:lv.getD x false with|true=>exact hm.mono y (h.shut x h0 y hy)|false=>exact hm.shut x hx h0 y hy,λj t hj ht he'=>by
 by_cases e:j=i;·subst e;exact hm.has
 ·exact hm.mono j (h.ends j t (by omega) ht he')⟩
theorem mL.all{M:PM}{sets:List aH}{rows:List (List Int)}{fr:List (List Nat)}{lv:List Bool}(h:mL M sets rows fr sets.length lv)(hf:tJ rows sets.length sets.length 0 fr)(hall:rows.length=sets.length)(hok:fY M M.kinds sets rows){x:Nat}(hx:o9 M sets rows x):lv.getD x false=true:=by induction hx with
 |here i s hs he=>exact h.ends i s (List.getElem?_eq_some_iff.1 hs).1 hs he|on i k j hg _ ih=>
  have hi:i<rows.length:=by
   rcases fe i rows.length with h'|h';·exact h'
   ·unfold goes at hg;rw[iI h']at hg;cases hg
  have hj:j<sets.length:=by
   rcases fe j sets.length with h'|h';·exact h'
   ·rw[aw,iI (by rw[h.len];exact h')]at ih;cases ih
  exact h.shut j ih i ((hf.iff j hj i).2 (.inl ⟨by omega,k,hg⟩))
theorem DC(b:List Nat)(i v j:Nat)(hi:i<b.length):blk (b.set i v) j=if j=i then v else blk b j:=by
 unfold blk;rw[aw,fD,aw];by_cases e:i=j;·subst e;simp[hi]
 ·simp[e,dB e]
def Cz(M:PM)(lv:List Bool)(j:Nat)(s:aH):Nat:=if lv.getD j false then(if M.ends s then 2 else 1)else 0
structure oC (M:PM) (sets:List aH) (lv:List Bool) (i:Nat) (b:List Nat):Prop where
 len:b.length=sets.length
 done:∀ j s,j < i->sets[j]?=some s->blk b j=Cz M lv j s
 rest:∀ j,i<=j->blk b j=0
theorem oC.start (M:PM) (sets:List aH) (lv:List Bool):oC M sets lv 0 (aQ sets.length 0) where
 len:=bK
 done:=fun j s h=>by omega
 rest:=fun j _=>by
  unfold blk
  rw [aw,cu]
  split <;> rfl
section
variable{M:PM}{sets:List aH}{rows:List (List Int)}{fr:List (List Nat)}{lv:List Bool}{b c d:List Nat}{i k:Nat}{s:aH}
theorem oC.put(h:oC M sets lv i b)(hs:sets[i]?=some s):oC M sets lv (i+1) (b.set i (Cz M lv i s)):=by
 have hi:i<b.length:=by rw[h.len];exact(List.getElem?_eq_some_iff.1 hs).1
 refine⟨by rw[bW];exact h.len,λj t hj ht=>?_,λj hj=>?_⟩;·
  rw[DC b i _ j hi];by_cases e:j=i;·subst e;rw[hs]at ht;cases ht;rw[if_pos rfl]
  ·rw[if_neg e];exact h.done j t (by omega) ht
 ·rw[DC b i _ j hi,if_neg (by omega)];exact h.rest j (by omega)
theorem oC.skip(h:oC M sets lv i b)(hl:lv.getD i false=false):oC M sets lv (i+1) b:=⟨h.len,λj t hj ht=>by
 by_cases e:j=i;·subst e;rw[h.rest j (au _)];unfold Cz;rw[hl];rfl
 ·exact h.done j t (by omega) ht,λj hj=>h.rest j (by omega)⟩
theorem ml.mark(hb:ml M sets rows b)(hL:mL M sets rows fr sets.length lv)(hf:tJ rows sets.length sets.length 0 fr)(hall:rows.length=sets.length)(hok:fY M M.kinds sets rows){y:Nat}(hy:y<sets.length):blk b y≠0↔lv.getD y false=true:=(hb.live y hy).trans ⟨λhx=>hL.all hf hall hok hx,hL.sound y⟩
theorem oC.ok(h:oC M sets lv sets.length b)(hL:mL M sets rows fr sets.length lv)(hf:tJ rows sets.length sets.length 0 fr)(hall:rows.length=sets.length)(hok:fY M M.kinds sets rows):ml M sets rows b:=by
 have hlv:∀j,j<sets.length->(lv.getD j false=true↔o9 M sets rows j):=λj hj=>⟨hL.sound j,λhx=>hL.all hf hall hok hx⟩;have hget:∀j,j<sets.length->∃t,sets[j]?=some t:=λj hj=>⟨_,ar hj⟩;have h0:∀j,j<sets.length->(blk b j≠0↔lv.getD j false=true):=λj hj=>by obtain⟨t,ht⟩:=hget j hj;rw[h.done j t hj ht];unfold Cz;cases lv.getD j false with|true=>cases M.ends t<;>simp|false=>simp
 refine⟨h.len,λj hj=>(h0 j hj).trans (hlv j hj),λi j s t hs ht hn he=>?_,λi j s t hs ht hn he=>?_⟩;·have hi:=(List.getElem?_eq_some_iff.1 hs).1;have hj:=(List.getElem?_eq_some_iff.1 ht).1;have l1:=(h0 i hi).1 hn;have l2:=(h0 j hj).1 (he▸hn);rw[h.done i s hi hs,h.done j t hj ht]at he;unfold Cz at he;rw[l1,l2]at he;simp only[if_true]at he;cases h1:M.ends s<;>cases h2:M.ends t<;>rw[h1,h2]at he<;>simp at he⊢
 ·have hi:=(List.getElem?_eq_some_iff.1 hs).1;have hj:=(List.getElem?_eq_some_iff.1 ht).1;have l1:=(h0 i hi).1 hn;have l2:lv.getD j false=true:=by rw[hlv j hj,oW hok hall ht];obtain⟨x,hx⟩:=(oW hok hall hs).1 ((hlv i hi).1 l1);exact⟨x,by rw[<-he];exact hx⟩
  have he0:M.ends s=M.ends t:=congrFun he [];rw[h.done i s hi hs,h.done j t hj ht];unfold Cz;rw[l1,l2,he0]
/-!### One kind. -/
theorem Splits.start(rows:List (List Int))(b:List Nat):Splits rows 0 0 b b:=⟨rfl,λ_ _=>Iff.rfl,λi j _ _ _ _=>⟨λh=>⟨h,λk hk=>by omega⟩,λh=>h.1⟩⟩
def mW(rows:List (List Int))(b c:List Nat)(k j:Nat):Nat×Nat:=if blk c j=0 then(0,0)else(blk c j,dest rows b j k)
structure lJ (rows:List (List Int)) (b c:List Nat) (k i:Nat) (ids:List ((Nat × Nat) × Nat)) (d:List Nat):Prop where
 len:d.length=c.length
 inj:∀ s t x,get ids s=some x->get ids t=some x->s=t
 lt:∀ s x,get ids s=some x->x < ids.length
 zero:get ids (0,0)=some 0
 done:∀ j,j < i->get ids (mW rows b c k j)=some (blk d j)
 few:ids.length<=i+1
theorem lJ.start (rows:List (List Int)) (b c:List Nat) (k:Nat):lJ rows b c k 0 [((0,0),0)] (aQ c.length 0) where
 len:=bK
 inj:=fun s t x hs ht=>by
  have e:∀ s x,get [(((0,0):Nat × Nat),0)] s=some x->s=(0,0):=fun s x h=>by
   unfold get at h
   split at h
   ·rename_i e; exact e.symm
   ·cases h
  rw [e s x hs,e t x ht]
 lt:=fun s x h=>by
  have:=dX h
  simp at this
  simp [this.2]
 zero:=rfl
 done:=fun j h=>by omega
 few:=by simp
theorem lJ.old{ids:List ((Nat×Nat)×Nat)}{x:Nat}(h:lJ rows b c k i ids d)(hi:i<c.length)(hx:get ids (mW rows b c k i)=some x):lJ rows b c k (i+1) ids (d.set i x):=by
 have hid:i<d.length:=by rw[h.len];exact hi
 refine⟨by rw[bW];exact h.len,h.inj,h.lt,h.zero,λj hj=>?_,by have:=h.few;omega⟩;rw[DC d i x j hid];by_cases e:j=i;·subst e;rw[if_pos rfl];exact hx
 ·rw[if_neg e];exact h.done j (by omega)
theorem lJ.new{ids:List ((Nat×Nat)×Nat)}(h:lJ rows b c k i ids d)(hi:i<c.length)(hx:get ids (mW rows b c k i)=none):lJ rows b c k (i+1) (put ids (mW rows b c k i) ids.length) (d.set i ids.length):=by
 have hid:i<d.length:=by rw[h.len];exact hi
 have hlen:(put ids (mW rows b c k i) ids.length).length=ids.length+1:=by rw[eJ _ hx];simp
 refine⟨by rw[bW];exact h.len,λs t x hs ht=>?_,λs x hs=>?_,?_,λj hj=>?_,by rw[hlen];have:=h.few;omega⟩;·
  rw[mq]at hs ht;split at hs;·
   cases hs;split at ht;·rename_i e1 e2;rw[<-e1,<-e2]
   ·have:=h.lt _ _ ht;omega
  ·split at ht;·cases ht;have:=h.lt _ _ hs;omega
   ·exact h.inj s t x hs ht
 ·rw[hlen];rw[mq]at hs;split at hs;·cases hs;omega
  ·have:=h.lt _ _ hs;omega
 ·rw[mq,if_neg (λe=>by rw[e,h.zero]at hx;cases hx)];exact h.zero
 ·rw[DC d i _ j hid,mq];by_cases e:j=i;·subst e;rw[if_pos rfl,if_pos rfl]
  ·rw[if_neg e];have:=h.done j (by omega);rw[if_neg (λe2=>by rw[<-e2,hx]at this;cases this)];exact this
theorem lJ.splits{ids:List ((Nat×Nat)×Nat)}(h:lJ rows b c k c.length ids d)(hS:Splits rows 0 k b c):Splits rows 0 (k+1) b d:=by
 have h0:∀j,j<c.length->(blk d j≠0↔blk c j≠0):=λj hj=>by
  have hd:=h.done j hj;constructor;·intro hn e;unfold mW at hd;rw[if_pos e,h.zero]at hd;exact hn (aJ hd).symm
  ·intro hn e;rw[e]at hd;have:=h.inj _ _ _ hd h.zero;unfold mW at this;rw[if_neg hn]at this;exact hn (congrArg Prod.fst this)
 refine⟨h.len.trans hS.len,λj hj=>(h0 j (by rw[hS.len];exact hj)).trans (hS.zero j hj),λi j hi hj hi0 hj0=>?_⟩;have hic:i<c.length:=by rw[hS.len];exact hi
 have hjc:j<c.length:=by rw[hS.len];exact hj
 have hci:=(hS.zero i hi).2 hi0;have hcj:=(hS.zero j hj).2 hj0;have e1:=h.done i hic;have e2:=h.done j hjc;have hd:blk d i=blk d j↔mW rows b c k i=mW rows b c k j:=by
  constructor;·intro e;rw[e]at e1;exact h.inj _ _ _ e1 e2
  ·intro e;rw[e,e2]at e1;exact(aJ e1).symm
 rw[hd];unfold mW;rw[if_neg hci,if_neg hcj,Prod.mk.injEq,hS.iff i j hi hj hi0 hj0];constructor;·
  rintro⟨⟨h1,h2⟩,h3⟩;refine⟨h1,λq hq=>?_⟩;by_cases e:q=k;·subst e;exact h3
  ·exact h2 q (by omega)
 ·rintro⟨h1,h2⟩;exact⟨⟨h1,λq hq=>h2 q (by omega)⟩,h2 k (by omega)⟩
/-!### Blocks counted. -/
structure nB (c:List Nat) (i:Nat) (seen:List (Nat × Nat)):Prop where
 apart:Apart seen
 keys:∀ x,x∈seen.map (·.1) ↔ ∃ j,j < i/\j < c.length/\blk c j=x/\x≠0
 few:∀ p∈seen,p.2<=i
theorem nB.start(c:List Nat):nB c 0 []:=⟨UN,λx=>by simp,λp h=>by cases h⟩
theorem nB.skip{seen:List (Nat×Nat)}(h:nB c i seen)(hz:blk c i=0):nB c (i+1) seen:=⟨h.apart,λx=>(h.keys x).trans ⟨λ⟨j,h1,h2⟩=>⟨j,by omega,h2⟩,λ⟨j,h1,h2,h3,h4⟩=>⟨j,by
 by_cases e:j=i;·subst e;rw[hz]at h3;exact absurd h3.symm h4
 ·omega,h2,h3,h4⟩⟩,λp hp=>by have:=h.few p hp;omega⟩
theorem nB.add{seen:List (Nat×Nat)}{v:Nat}(h:nB c i seen)(hi:i<c.length)(hz:blk c i≠0)(hv:v<=i+1):nB c (i+1) (put seen (blk c i) v):=by
 have hk:∀x,x∈(put seen (blk c i) v).map (·.1)↔x=blk c i\/x∈seen.map (·.1):=λx=>by cases hg:get seen (blk c i)with
  |some u=>
   rw[xS hg];constructor;·exact .inr
   ·rintro(rfl|h');·exact List.mem_map.2 ⟨_,dX hg,rfl⟩
    ·exact h'|none=>rw[eJ _ hg];simp[or_comm]
 refine⟨h.apart.put _ _,λx=>?_,λp hp=>?_⟩;·
  rw[hk,h.keys];constructor;·
   rintro(rfl|⟨j,h1,h2⟩);·exact⟨i,by omega,hi,rfl,hz⟩
   ·exact⟨j,by omega,h2⟩
  ·rintro⟨j,h1,h2,h3,h4⟩;by_cases e:j=i;·subst e;exact .inl h3.symm
   ·exact .inr ⟨j,by omega,h2,h3,h4⟩
 ·rcases zV hp with rfl|hp;·exact hv
  ·have:=h.few p hp;omega
theorem nB.cnt{seen:List (Nat×Nat)}(h:nB c c.length seen):xd c seen.length:=by refine⟨seen.map (λp:Nat×Nat=>p.1),h.apart,λx=>?_,by simp⟩;rw[h.keys x];exact⟨λ⟨j,h1,_,h2⟩=>⟨j,h1,h2⟩,λ⟨j,h1,h2⟩=>⟨j,h1,h1,h2⟩⟩
theorem xd.le{n:Nat}(h:xd b n):n<=b.length:=by obtain⟨l,h1,h2,rfl⟩:=h;refine s9 l b h1 λx hx=>?_;obtain⟨i,hi,rfl,_⟩:=(h2 x).1 hx;unfold blk;rw[aw,ar hi];exact eu _
theorem xd.none{b':List Nat}{n m:Nat}(hS:Splits rows n m b b')(h:xd b' 0):xd b 0:=by obtain⟨l,_,h2,h3⟩:=h;obtain rfl:=List.eq_nil_of_length_eq_zero h3;refine⟨[],UN,λx=>?_,rfl⟩;refine⟨λh=>(by cases h),?_⟩;rintro⟨i,hi,rfl,h0⟩;have:=(h2 (blk b' i)).2 ⟨i,by rw[hS.len];exact hi,rfl,(hS.zero i hi).2 h0⟩;cases this
end
structure ft (w0:ak) (l:Array Bool) (v1 v2 v3 v4 v5:ay) (g h:Nat) (w:ak):Prop where
 below:aI w0.heap.size w0 w
 m0:l.getD 0 false=true->v1 = .map (some g)/\w0.heap.size<=g/\bV aH.val w g (if l.getD 3 false then [(bN,cJ 0)] else [])
 c1:l.getD 2 false=true->v2=bN.val
 m1:l.getD 4 false=true->v3 = .map (some g)
 c2:l.getD 6 false=true->v4=bN.val
 s1:l.getD 7 false=true->v5 = .slice (some ⟨h,0,none⟩) 1 1/\w0.heap.size<=h/\w.heap[h]?=some (.cells bN.cells.toArray 306 (0,0))
 ne:l.getD 0 false=true->l.getD 7 false=true->g≠h
 ord:l.getD 3 false=true->l.getD 0 false=true/\l.getD 2 false=true
 VB:l.getD 4 false=true->l.getD 3 false=true
section
variable{ops:Array Oper}{w0 w w':ak}{l:Array Bool}{v1 v2 v3 v4 v5:ay}{g h:Nat}
theorem IZ{enc:aH->ay}{w:ak}{g h:Nat}{m:List (aH×ay)}{cs:Array ay}{T:dx}{r:Nat×Nat}(hm:bV enc w g m)(hh:w.heap[h]?=some (.cells cs T r)):g≠h:=λe=>by obtain⟨es,c,h1,_⟩:=hm;rw[e,hh]at h1;cases h1
theorem ft.kept(hT:ft w0 l v1 v2 v3 v4 v5 g h w)(hb:aI w0.heap.size w w')(hk:∀b,w0.heap.size<=b->b<w.heap.size->w'.heap[b]?=w.heap[b]?):ft w0 l v1 v2 v3 v4 v5 g h w':=⟨hT.below.trans hb,λe=>⟨(hT.m0 e).1,(hT.m0 e).2.1,(hT.m0 e).2.2.of_block (hk _ (hT.m0 e).2.1 (hT.m0 e).2.2.lt)⟩,hT.c1,hT.m1,hT.c2,λe=>⟨(hT.s1 e).1,(hT.s1 e).2.1,(hk _ (hT.s1 e).2.1 (lt_of_heap (hT.s1 e).2.2)).trans (hT.s1 e).2.2⟩,hT.ne,hT.ord,hT.VB⟩
theorem ft.make(hT:ft w0 l v1 v2 v3 v4 v5 g h w)(hr:0∈bZ .any ops l):ft w0 (l.setIfInBounds 0 true) (.map (some w.heap.size)) v2 v3 v4 v5 w.heap.size h (w.alloc (.map #[] 0)):=by
 have hs:=jc hr;have hun:=dK hr;have h3:l.getD 3 false=false:=by cases h3:l.getD 3 false with|false=>rfl|true=>rw[(hT.ord h3).1]at hun;cases hun
 have h4:l.getD 4 false=false:=by cases h4:l.getD 4 false with|false=>rfl|true=>rw[hT.VB h4]at h3;cases h3
 have h1:=hT.kept (w':=w.alloc (.map #[] 0)) ((aB _ w).alloc hT.below.size _) λb _ hb=>aC w _ b hb;refine⟨h1.below,λ_=>⟨rfl,hT.below.size,?_⟩,?_,?_,?_,?_,?_,?_,?_⟩;·rw[hs 3,if_neg (show¬(3=0)by decide),h3];exact bV.made _ _
 ·rw[hs 2,if_neg (show¬(2=0)by decide)];exact h1.c1
 ·rw[hs 4,if_neg (show¬(4=0)by decide),h4];exactλe=>by cases e
 ·rw[hs 6,if_neg (show¬(6=0)by decide)];exact h1.c2
 ·rw[hs 7,if_neg (show¬(7=0)by decide)];exact h1.s1
 ·rw[hs 7,if_neg (show¬(7=0)by decide)];intro _ e;have:=lt_of_heap (hT.s1 e).2.2;omega
 ·rw[hs 0,if_pos (show 0=0 from rfl),hs 2,if_neg (show¬(2=0)by decide),hs 3,if_neg (show¬(3=0)by decide),h3];exactλe=>by cases e
 ·rw[hs 4,if_neg (show¬(4=0)by decide),h4];exactλe=>by cases e
theorem ft.call(hT:ft w0 l v1 v2 v3 v4 v5 g h w)(hr:2∈bZ .any ops l)(hb:aI w.heap.size w w'):ft w0 (l.setIfInBounds 2 true) v1 bN.val v3 v4 v5 g h w':=by
 have hs:=jc hr;have h1:=hT.kept (hb.mono hT.below.size) λb _ hl=>hb.block b hl;refine⟨h1.below,?_,λ_=>rfl,?_,?_,?_,?_,?_,?_⟩;·rw[hs 0,if_neg (show¬(0=2)by decide),hs 3,if_neg (show¬(3=2)by decide)];exact h1.m0
 ·rw[hs 4,if_neg (show¬(4=2)by decide)];exact h1.m1
 ·rw[hs 6,if_neg (show¬(6=2)by decide)];exact h1.c2
 ·rw[hs 7,if_neg (show¬(7=2)by decide)];exact h1.s1
 ·rw[hs 0,if_neg (show¬(0=2)by decide),hs 7,if_neg (show¬(7=2)by decide)];exact h1.ne
 ·rw[hs 0,if_neg (show¬(0=2)by decide),hs 2,if_pos (show 2=2 from rfl),hs 3,if_neg (show¬(3=2)by decide)];exactλe=>⟨(h1.ord e).1,rfl⟩
 ·rw[hs 4,if_neg (show¬(4=2)by decide),hs 3,if_neg (show¬(3=2)by decide)];exact h1.VB
theorem ft.insert(hT:ft w0 l v1 v2 v3 v4 v5 g h w)(hr:3∈bZ .any ops l)(h0:l.getD 0 false=true)(h2:l.getD 2 false=true)(hg:w.grownBy w' (some g))(hmp:bV aH.val w' g [(bN,cJ 0)]):ft w0 (l.setIfInBounds 3 true) v1 v2 v3 v4 v5 g h w':=by
 have hs:=jc hr;have hb:aI w0.heap.size w0 w':=hT.below.grown hg hT.below.size λb e=>by have e':=aJ e;subst e';exact(hT.m0 h0).2.1
 refine⟨hb,?_,?_,?_,?_,?_,?_,?_,?_⟩;·rw[hs 0,if_neg (show¬(0=3)by decide),hs 3,if_pos (show 3=3 from rfl)];exactλe=>⟨(hT.m0 e).1,(hT.m0 e).2.1,hmp⟩
 ·rw[hs 2,if_neg (show¬(2=3)by decide)];exact hT.c1
 ·rw[hs 4,if_neg (show¬(4=3)by decide)];exact hT.m1
 ·rw[hs 6,if_neg (show¬(6=3)by decide)];exact hT.c2
 ·rw[hs 7,if_neg (show¬(7=3)by decide)];exactλe=>⟨(hT.s1 e).1,(hT.s1 e).2.1,(hg.block h (lt_of_heap (hT.s1 e).2.2) λe'=>hT.ne h0 e (aJ e'.symm)).trans (hT.s1 e).2.2⟩
 ·rw[hs 0,if_neg (show¬(0=3)by decide),hs 7,if_neg (show¬(7=3)by decide)];exact hT.ne
 ·rw[hs 0,if_neg (show¬(0=3)by decide),hs 2,if_neg (show¬(2=3)by decide)];exactλ_=>⟨h0,h2⟩
 ·rw[hs 3,if_pos (show 3=3 from rfl)];exactλ_=>rfl
theorem ft.move(hT:ft w0 l v1 v2 v3 v4 v5 g h w)(hr:4∈bZ .any ops l)(h0:l.getD 0 false=true)(h3:l.getD 3 false=true):ft w0 (l.setIfInBounds 4 true) v1 v2 v1 v4 v5 g h w:=by
 have hs:=jc hr;refine⟨hT.below,?_,?_,λ_=>(hT.m0 h0).1,?_,?_,?_,?_,?_⟩;·rw[hs 0,if_neg (show¬(0=4)by decide),hs 3,if_neg (show¬(3=4)by decide)];exact hT.m0
 ·rw[hs 2,if_neg (show¬(2=4)by decide)];exact hT.c1
 ·rw[hs 6,if_neg (show¬(6=4)by decide)];exact hT.c2
 ·rw[hs 7,if_neg (show¬(7=4)by decide)];exact hT.s1
 ·rw[hs 0,if_neg (show¬(0=4)by decide),hs 7,if_neg (show¬(7=4)by decide)];exact hT.ne
 ·rw[hs 0,if_neg (show¬(0=4)by decide),hs 2,if_neg (show¬(2=4)by decide),hs 3,if_neg (show¬(3=4)by decide)];exact hT.ord
 ·rw[hs 3,if_neg (show¬(3=4)by decide)];exactλ_=>h3
theorem ft.call2(hT:ft w0 l v1 v2 v3 v4 v5 g h w)(hr:6∈bZ .any ops l)(hb:aI w.heap.size w w'):ft w0 (l.setIfInBounds 6 true) v1 v2 v3 bN.val v5 g h w':=by
 have hs:=jc hr;have h1:=hT.kept (hb.mono hT.below.size) λb _ hl=>hb.block b hl;refine⟨h1.below,?_,?_,?_,λ_=>rfl,?_,?_,?_,?_⟩;·rw[hs 0,if_neg (show¬(0=6)by decide),hs 3,if_neg (show¬(3=6)by decide)];exact h1.m0
 ·rw[hs 2,if_neg (show¬(2=6)by decide)];exact h1.c1
 ·rw[hs 4,if_neg (show¬(4=6)by decide)];exact h1.m1
 ·rw[hs 7,if_neg (show¬(7=6)by decide)];exact h1.s1
 ·rw[hs 0,if_neg (show¬(0=6)by decide),hs 7,if_neg (show¬(7=6)by decide)];exact h1.ne
 ·rw[hs 0,if_neg (show¬(0=6)by decide),hs 2,if_neg (show¬(2=6)by decide),hs 3,if_neg (show¬(3=6)by decide)];exact h1.ord
 ·rw[hs 4,if_neg (show¬(4=6)by decide),hs 3,if_neg (show¬(3=6)by decide)];exact h1.VB
theorem ft.slice(hT:ft w0 l v1 v2 v3 v4 v5 g h w)(hr:7∈bZ .any ops l):ft w0 (l.setIfInBounds 7 true) v1 v2 v3 v4 (sL w.heap.size 1 1) g w.heap.size (w.alloc (.cells bN.cells.toArray 306)):=by
 have hs:=jc hr;have h1:=hT.kept (w':=w.alloc (.cells bN.cells.toArray 306)) ((aB _ w).alloc hT.below.size _) λb _ hb=>aC w _ b hb;refine⟨h1.below,?_,?_,?_,?_,λ_=>⟨rfl,hT.below.size,heap_alloc_new w _⟩,?_,?_,?_⟩;·rw[hs 0,if_neg (show¬(0=7)by decide),hs 3,if_neg (show¬(3=7)by decide)];exact h1.m0
 ·rw[hs 2,if_neg (show¬(2=7)by decide)];exact h1.c1
 ·rw[hs 4,if_neg (show¬(4=7)by decide)];exact h1.m1
 ·rw[hs 6,if_neg (show¬(6=7)by decide)];exact h1.c2
 ·rw[hs 0,if_neg (show¬(0=7)by decide)];intro e _;have:=(hT.m0 e).2.2.lt;omega
 ·rw[hs 0,if_neg (show¬(0=7)by decide),hs 2,if_neg (show¬(2=7)by decide),hs 3,if_neg (show¬(3=7)by decide)];exact h1.ord
 ·rw[hs 4,if_neg (show¬(4=7)by decide),hs 3,if_neg (show¬(3=7)by decide)];exact h1.VB
end
theorem Tryz.adv:(Tryz.prog.info? 5).map (λi=>(i.zero,i.size,i.bytes))=some (some (.int .u8 0),1,1):=by kernel_rfl
theorem Tryz.info3':(Tryz.prog.info? 3).map (λi=>(i.zero,i.size,i.bytes))=some (some (.int .i64 0),1,8):=by kernel_rfl
theorem Oh(n:Nat):madeCells #[iV 0] n=(ki (aQ n 0)).toArray:=by apply Array.toList_inj.1;rw[toList_madeCells_one];simp[ki]
theorem Tryz.Wm:(Tryz.prog.info? 306).map (λi=>(i.zero,i.size,i.bytes))=some (some (.agg #[.int .u64 0,.int .u64 0,.int .u64 0]),3,24):=by kernel_rfl
theorem Tryz.Qi:(Tryz.prog.info? 24).map (λi=>(i.zero,i.size,i.bytes))=some (some (.slice none 0 0),1,24):=by kernel_rfl
theorem bQ.atv{w:ak}{mb:Nat}{M:PM}(h:bQ w mb M){c:Nat}(hc:c<256):(w.cell? (aD mb (c*3))=some (uV (M.za c).a)/\w.cell? (aD mb (c*3+1))=some (uV (M.za c).b)/\w.cell? (aD mb (c*3+2))=some (uV (M.za c).c)):=by
 have hl:c<M.at'.length:=by rw[h.1.la];exact hc
 have hget:M.at'[c]?=some (M.za c):=by unfold PM.za;rw[aw,ar hl];rfl
 have:=h.atC hget;exact⟨(this 0 (by decide)).1,(this 1 (by decide)).1,(this 2 (by decide)).1⟩
structure QP (w:ak) (mb:Nat) (M:PM) (tb ib ab:Nat) (sv kv:ay) (L:Nat->Nat) (c:Nat) (wr:ak):Prop where
 tab:gU w.heap.size L tb ib sv (.slice none 0 0) kv [] [bN] [] (M.dD c) wr
 map:bV aH.val wr ab (vals cJ (M.fP c))
 lab:L ab=8
 below:aI w.heap.size w wr
theorem Sj{M:PM}{c:Nat}(h:(get (M.fP c) (M.za c)).isSome=true):M.fP (c+1)=M.fP c:=by show(if(get (M.fP c) (M.za c)).isSome then _ else _)=_;rw[if_pos h]
theorem V4{M:PM}{c:Nat}(h:get (M.fP c) (M.za c)=none):M.fP (c+1)=M.fP c++[(M.za c,c)]:=by show(if(get (M.fP c) (M.za c)).isSome then _ else _)=_;rw[if_neg (by rw[h];decide)]
def XY(M:PM)(most:Nat)(w:ak)(en:Ending)(w':ak):Prop:=aI w.heap.size w w'/\((en= .returned (.pointer none)/\∃l:List aH,l.Nodup/\(∀s∈l,sI M s)/\most<l.length)\/∃tb L ib sv ov kv oI sets rows,en= .returned (aP tb)/\fY M M.kinds sets rows/\rows.length=sets.length/\sets.length<=most/\gU w.heap.size L tb ib sv ov kv oI sets rows M.kinds w')
theorem GG(mb most:Nat)(M:PM)(w:ak)(hM:bQ w mb M)(hF:M.fit)(hT:eN w)(hm1:1<=most)(hm4:most<=400):aX ah 106 #[aP mb,iV most] w (XY M most w):=by
 have hmm:=@run_makeMap ah;have HC:=ae (show∀W:ak,aX ah 153 #[aP mb] W λe w'=>e= .returned bN.val/\aI W.heap.size W w' fromλW=>F7 (aP mb) W);have HM:=ae (show _/\_/\_ from⟨hM,hF,hT⟩);clear hM hF hT;unfold aP;go_enter Tryz.func106,Tryz.ntmps106;go_wp2_with fail;refine kS [1,5] [0,2,3,4,6,7] 6 [(8,false),(9,true),(10,false)] #[false,true,false,false,false,true,false,false,false,false,false] #[true,true,true,true,true,true,true,true,false,false,false] 1000 (λ_=>True) (by kernel_rfl) (by kernel_rfl) trivial ?_;simp only[List.map_cons,List.map_nil];iterate 2(
 refine aR ?_ rfl rfl (λw' hS=>?_) ?_;rotate_left;·go_simp;try rfl
 simp only[aN,ai,aj])
 refine cV ?_;rintro-;refine ads [18,20,21,23,24] [undef,undef,undef,undef,undef] (λl vs w'=>∃v1 v2 v3 v4 v5 g h,vs=[v1,v2,v3,v4,v5]/\ft w.drew l v1 v2 v3 v4 v5 g h w') (by unfold jX;simp only[jX,aN,ai,aj]) ?_ ?_ ?_ ?_;·exact⟨_,_,_,_,_,0,0,rfl,aB _ _,λh=>absurd h (by decide),λh=>absurd h (by decide),λh=>absurd h (by decide),λh=>absurd h (by decide),λh=>absurd h (by decide),λh=>absurd h (by decide),λh=>absurd h (by decide),λh=>absurd h (by decide)⟩
 ·rintro l vs w' i⟨v1,v2,v3,v4,v5,g,h,rfl,Xl⟩hi hr G HG;simp only[ql,List.not_mem_nil,or_false]at hi;have HT:=ae (aA Xl hr);clear Xl hr;rcases hi with rfl|rfl|rfl|rfl|rfl|rfl;·refine HG ?_;simp only[jX,aN,ai,aj];refine eO rfl rfl (λK hK=>?_);go_simp;exact hK _ _ ⟨λ_=>trivial,[_,_,_,_,_],rfl,_,_,_,_,_,_,_,rfl,HT.1.make HT.2⟩
  ·refine HG ?_;simp only[jX,aN,ai,aj];refine eO rfl rfl (λK hK=>?_);go_simp;refine(HC _).mono ?_;rintro en w''⟨rfl,hb⟩;exact hK _ _ ⟨λ_=>trivial,[_,_,_,_,_],rfl,_,_,_,_,_,_,_,rfl,HT.1.call HT.2 hb⟩
  ·have h0:=iF (x:=3) (i:=0) (by kernel_rfl) HT.2;have h2:=iF (x:=3) (i:=2) (by kernel_rfl) HT.2;have h3:=dK HT.2;obtain⟨rfl,hg,hmp⟩:=HT.1.m0 h0;obtain rfl:=HT.1.c1 h2;rw[h3]at hmp;obtain⟨W1,EI,CC,hg1,hz1⟩:=bV.update zG hmp bN trivial (λ_ _=>trivial) nP (cJ 0);have OB:(iC 316 (.map (some g)) bN.val (iV 0)).run ah w'= .ok () W1:=EI;have HX:=ae (show _/\_/\_/\_ from⟨h0,h2,hg1,CC⟩);clear EI h0 h2 hg1 CC hz1 hmp h3 hg;refine HG ?_;simp only[jX,aN,ai,aj];refine eO rfl rfl (λK hK=>?_);go_simp;exact hK _ _ ⟨λ_=>trivial,[_,_,_,_,_],rfl,_,_,_,_,_,_,_,rfl,HT.1.insert HT.2 HX.1 HX.2.1 HX.2.2.1 HX.2.2.2⟩
  ·have h3:=iF (x:=4) (i:=3) (by kernel_rfl) HT.2;have h0:=iF (x:=4) (i:=0) (by kernel_rfl) HT.2;have HX:=ae (show _/\_ from⟨h0,h3⟩);clear h0 h3;refine HG ?_;simp only[jX,aN,ai,aj];refine eO rfl rfl (λK hK=>?_);go_simp;exact hK _ _ ⟨λ_=>trivial,[_,_,_,_,_],rfl,_,_,_,_,_,_,_,rfl,HT.1.move HT.2 HX.1 HX.2⟩
  ·refine HG ?_;simp only[jX,aN,ai,aj];refine eO rfl rfl (λK hK=>?_);go_simp;refine(HC _).mono ?_;rintro en w''⟨rfl,hb⟩;exact hK _ _ ⟨λ_=>trivial,[_,_,_,_,_],rfl,_,_,_,_,_,_,_,rfl,HT.1.call2 HT.2 hb⟩
  ·have h6:=iF (x:=7) (i:=6) (by kernel_rfl) HT.2;have h4:=HT.1.c2 h6;obtain⟨bs,hbs⟩:∃bs,bs=bN:=⟨_,rfl⟩;have hst:=HT.1.slice HT.2;rw[<-hbs]at hst h4;subst h4;have HX:=ae hst;clear h6 hst hbs;refine HG ?_;simp only[jX,aN,ai,aj];unfold aH.val aH.cells;refine eO rfl rfl (λK hK=>?_);go_simp;exact hK _ _ ⟨λ_=>trivial,[_,_,_,_,_],rfl,_,_,_,_,_,_,_,rfl,HX⟩
 ·exactλ_ _ _=>trivial
 ·rintro vs w'⟨v1,v2,v3,v4,v5,g,h,rfl,Xl⟩G HG;obtain⟨rfl,hg,hmp⟩:=Xl.m0 (by decide);obtain rfl:=Xl.c1 (by decide);obtain rfl:=Xl.m1 (by decide);obtain rfl:=Xl.c2 (by decide);obtain⟨rfl,hh,hhb⟩:=Xl.s1 (by decide);have hne:=Xl.ne (by decide) (by decide);rw[if_pos (by decide)]at hmp;have yU:=Xl.below;clear Xl;have xB:=lt_of_heap HM.1.2;have hgl:=hmp.lt;have hhl:=lt_of_heap hhb;have hg':w.heap.size<=g:=hg;have hh':w.heap.size<=h:=hh;have pY:aI w.heap.size w w':=(Same.drew w|>.below _).trans yU;have hsw:=pY.size;obtain⟨W2,hW2⟩:∃W2,W2=(w'.alloc (.cells #[.map (some g),sL h 1 1,.slice none 0 0,.slice none 0 0] 319)).alloc (.map #[] 0):=⟨_,rfl⟩;have hb2:aI w.heap.size w W2:=by rw[hW2];exact(pY.alloc hsw _).alloc (by simp;omega) _
  have old:∀b,b<w'.heap.size->W2.heap[b]?=w'.heap[b]?:=λb hb=>by rw[hW2,aC _ _ _ (by simp;omega),aC _ _ _ hb]
  have hz2:W2.heap.size=w'.heap.size+2:=by rw[hW2];simp
  have hst:QP w mb M w'.heap.size g (w'.heap.size+1) (sL h 1 1) (.slice none 0 0) (λb=>if b=w'.heap.size then 1 else if b=g then 2 else if b=h then 3 else if b=w'.heap.size+1 then 8 else 0) 0 W2:=by
   refine⟨⟨?_,hmp.of_block (old g hgl),?_,bS _ _ _ _,bS _ _ _ _,rfl,λj b r hb=>(by cases hb),if_pos rfl,?_,λb e=>?_,λb e=>(by cases e),λb e=>(by cases e),λb e=>(by cases e),λb hb=>?_⟩,?_,?_,hb2⟩;·rw[hW2,aC _ _ _ (by simp)];exact heap_alloc_new w' _
   ·exact⟨rfl,.inr ⟨h,1,bN.cells.toArray,rfl,aW _,(old h hhl).trans hhb,au _,by unfold maxLen;omega,rfl,rfl⟩⟩
   ·rw[if_neg (by omega),if_pos rfl]
   ·obtain rfl:h=b:=by cases e;rfl
    rw[if_neg (by omega),if_neg (λe=>hne e.symm),if_pos rfl]
   ·rw[hz2];by_cases e1:b=w'.heap.size;·omega
    ·by_cases e2:b=g;·omega
     ·by_cases e3:b=h;·omega
      ·by_cases e4:b=w'.heap.size+1;·omega
       ·simp only[e1,e2,e3,e4,if_false]at hb;exact absurd rfl hb
   ·rw[hW2];have:=bV.made aH.val (w'.alloc (.cells #[.map (some g),sL h 1 1,.slice none 0 0,.slice none 0 0] 319));rw[bM]at this;exact this
   ·rw[if_neg (by omega),if_neg (by omega),if_neg (by omega),if_pos rfl]
  have HST:=ae hst;have vh:=ae hW2;have DK:=ae (show _/\_/\_/\_ from⟨hsw,hg',hh',xB⟩);clear hst hW2 old hb2 pY yU hmp hhb hgl hhl hg hh hg' hh' hne hmm hz2 hsw xB;refine HG ?_;simp only[jX,aN,ai,aj];refine aR (.agg #[.map (some g),sL h 1 1,.slice none 0 0,.slice none 0 0]) rfl rfl (λw' hS=>?_) ?_;·go_simp;try rfl
  simp only[aN,ai,aj];refine bg rfl rfl (by decide) (λK hK=>?_);go_simp;refine hK _ _ trivial ?_;clear hK K;refine aR ?_ rfl rfl (λw' hS=>?_) ?_;rotate_left;·go_simp;try rfl
  simp only[aN,ai,aj];refine cV ?_;have hmm:=@run_makeMap ah;go_wp2_with fail;rw[<-vh];clear hmm;obtain⟨tb,xU⟩:∃tb,tb=w'.heap.size:=⟨_,rfl⟩;have hsz:=DK.out;rw[<-xU]at hsz HST⊢;obtain⟨hsw,hg',hh',xB⟩:=hsz;clear xU DK vh;generalize W2=w2 at*;obtain⟨i0,hi,hz0,hz1,hz2⟩:=info_parts Tryz.adv;obtain⟨sv,EG⟩:∃sv,sv=sL h 1 1:=⟨_,rfl⟩;rw[<-EG]at HST;clear EG;go_loopw[28](λi wr=>∃(c:Nat)(L:Nat->Nat)(kv:ay),c<=256/\i= .int .i64 c/\Hid (QP w mb M tb g (tb+1) sv kv L c wr))(λi _=>256-(intOf i).toNat);case atStart=>exact⟨0,_,_,by omega,rfl,HST⟩
  case round=>
   clear HST;obtain⟨c,L,kv,hc,rfl,HK⟩:=hrel;by_cases hlt:c<256;·
    have hMr:bQ wr mb M:=⟨HM.1.1,(HK.below.block mb xB).trans HM.1.2⟩;obtain⟨e0,e1,e2⟩:=hMr.atv hlt;have hlk:=bV.lookup zG HK.map (M.za c) trivial (λ_ _=>trivial) nP (z:=iV 0) (by kernel_rfl) true;rw[np]at hlk;obtain⟨s,hs⟩:∃s,s=M.za c:=⟨_,rfl⟩;rw[<-hs]at e0 e1 e2 hlk;have HS:=ae hs;have hlz:(c:Int)<256:=by omega
    have hgz:(0:Int)<=c:=by omega
    clear hMr hs;cases hget:get (M.fP c) s with
     |some k=>
      rw[hget]at hlk;have ad2:(fH 316 (.map (some (tb+1))) (.agg #[uV s.a,uV s.b,uV s.c]) true).run ah wr= .ok (.tuple #[iV k,.bool true]) wr:=hlk;clear hlk;go_wp2_with fail;go_roundw;case rel=>refine⟨c+1,L,kv,by omega,by go_num,?_⟩;have he:=Sj (M:=M) (c:=c) (by rw[<-HS,hget];rfl);exact⟨by unfold PM.dD;rw[he];exact HK.tab,by rw[he];exact HK.map,HK.lab,HK.below⟩
      case measure=>simp[intOf];omega|none=>
      rw[hget]at hlk;have ad2:(fH 316 (.map (some (tb+1))) (.agg #[uV s.a,uV s.b,uV s.c]) true).run ah wr= .ok (.tuple #[iV 0,.bool false]) wr:=hlk;clear hlk;obtain⟨W3,Lt,Ha,hg3,hz3⟩:=bV.update zG HK.map s trivial (λ_ _=>trivial) nP (cJ c);have WH:(iC 316 (.map (some (tb+1))) (.agg #[uV s.a,uV s.b,uV s.c]) (iV c)).run ah wr= .ok () W3:=Lt;have hab:∀b,L b≠0->L b<=6->W3.heap[b]?=wr.heap[b]?:=λb h0 h6=>hg3.block b (HK.tab.lt h0) λe=>by have e':=aJ e;have:=HK.lab;rw[<-e']at this;omega
      have Lr:=HK.tab.kept hg3.size hab;have ach:aI w.heap.size w W3:=HK.below.grown hg3 HK.below.size λb e=>by have e':=aJ e;omega
      have hkr:=Lr.lV;obtain⟨ka,kc,T6⟩:=ownsRow_form hkr;have t3:W3.cell? (aD tb 3)=some kv:=aq Lr.head;have hwr:IntKind.u8.wrap (c:Int)=(c:Int):=IntWalk.u8_in _ (by omega);have hkl:=pW M c;rw[qC,eJ _ hget]at Ha;have H3:=ae (show _/\_/\_/\_ from⟨Lr,ach,Ha,hget⟩);have HK0:=ae HK.lab;have Wx:tb<W3.heap.size:=lt_of_heap Lr.head;have hrow4:(W3.alloc (.cells #[.int .u8 c] 5)).ownsRow 0 5 1 kv (M.dD c).length ((M.dD c).map Lm):=hkr.alloc _;have hnew:∀j u,[tR .u8 (c:Int)][j]?=some u->(W3.alloc (.cells #[.int .u8 c] 5)).cell? (((aD W3.heap.size 0):Addr).add j)=some u:=by intro j u hj;match j,hj with|0,hj=>simp at hj;subst hj;simp[iU]|j+1,hj=>simp at hj
      have t4:(W3.alloc (.cells #[.int .u8 c] 5)).cell? (aD tb 3)=some kv:=(aV _ _ _ (by show tb<_;omega)).trans t3;clear Lt hab Lr ach hkr Ha hg3 hz3 HK;subst T6;have hbt:(W3.alloc (.cells #[.int .u8 c] 5)).heap[tb]?=some (.cells #[.map (some g),sv,.slice none 0 0,.slice ka (M.dD c).length kc] 319 (0,0)):=(aC W3 _ _ Wx).trans H3.1.head;have hkt:(cY ka (M.dD c).length kc).ownBlock≠some tb:=λe=>by have:=H3.1.lK tb e;rw[H3.1.lT]at this;cases this
      have HBT:=ae (aA hbt hkt);clear hbt hkt;go_wp2_with(at_builtin;refine pB rfl _ _ 42 rfl 5 i0 (.int .u8 0) 1 1 Tryz.underlying42 hi hz0 hz1 hz2 rfl (by decide) (.slice ka (M.dD c).length kc) (M.dD c).length ((M.dD c).map Lm) rfl hrow4 (aD W3.heap.size 0) 1 1 [.int .u8 (c:Int)] rfl rfl hnew (by simp[dN]) (by decide) (by unfold maxLen;omega) (by omega) ?_;intro g4 wU W4 lN ng py;simp only[aN,ai,aj];have hb5:=(ng.block tb (lt_of_heap HBT.1) (λe=>HBT.2 e.symm)).trans HBT.1;have t5:W4.cell? (aD tb 3)=some (.slice ka (M.dD c).length kc):=aq hb5;have f5:W4.frozen? (aD tb 3)=false:=aU hb5;have YV:=ae lN;have HM5:=ae ((bL.alloc W3 (.slice ka (M.dD c).length kc) _).trans (bL.append ng py));clear lN ng py hb5);have xV:W4.ownsRow 0 5 1 (sL g4 ((M.dD c).length+1) wU) ((M.dD c).length+1) ((M.dD c++[c]).map Lm):=by rw[cQ];exact YV
      have hB3:w.heap.size<=W3.heap.size:=H3.2.1.size;obtain⟨L',hL',htab⟩:=H3.1.aaY HM5 hB3 xV;have hab:=H3.2.2.1.lt;have al5:(cY ka (M.dD c).length kc).ownBlock≠some (tb+1):=λe=>by have:=H3.1.lK (tb+1) e;rw[HK0]at this;cases this
      have ahA:bV aH.val (W4.setCell (aD tb 3) (sL g4 ((M.dD c).length+1) wU)) (tb+1) (vals cJ (M.fP c++[(s,c)])):=by exact H3.2.2.1.of_block ((az W4 (aD tb 3) (sL g4 ((M.dD c).length+1) wU) (tb+1) (by show tb+1≠tb;omega)).trans (HM5.block hab al5))
      have Hf:aI w.heap.size w (W4.setCell (aD tb 3) (sL g4 ((M.dD c).length+1) wU)):=(HM5.below (λb e=>(H3.1.past b (by rw[H3.1.lK b e];decide)).1) H3.2.1 hB3).setCell (p:=(aD tb 3)) (by show w.heap.size<=tb;omega) _;have he:=V4 (M:=M) (c:=c) (by rw[<-HS];exact H3.2.2.2);rw[<-HS]at he;have hk1:M.dD (c+1)=M.dD c++[c]:=by unfold PM.dD;rw[he,cQ];rfl
      rw[<-hk1]at htab;rw[<-he]at ahA;exact⟨⟨c+1,L',_,by omega,by go_num,⟨htab,ahA,by rw[hL' _ hab];exact HK0.out,Hf⟩⟩,by simp[intOf];omega⟩
   ·obtain rfl:c=256:=by omega
    clear hlt hc;have hkn:(M.dD 256).length<=256:=pW M 256;obtain⟨ks,hks⟩:∃ks,ks=M.kinds:=⟨_,rfl⟩;have ahR:M.dD 256=ks:=hks.symm;have htab:=HK.tab;rw[ahR]at htab hkn;have xE:=ae (show _/\_/\_ from⟨htab,HK.below,hks⟩);clear htab hks ahR HK hi hz0 hz1 hz2;rw[show((256:Nat):Int)=(256:Int)from rfl];go_wp2_with fail;go_loopw[10](λi wx=>∃(sets:List aH)(rows:List (List Int))(oI:List Nat)(L:Nat->Nat)(sv ov:ay),i= .int .i64 (rows.length:Nat)/\rows.length<=sets.length/\sets.length<=most/\Hid (fY M ks sets rows)/\Hid (gU w.heap.size L tb g sv ov kv oI sets rows ks wx)/\Hid (aI w.heap.size w wx))(λi _=>most+1-(intOf i).toNat);case atStart=>exact⟨[bN],[],[],L,sv,.slice none 0 0,rfl,by decide,by simpa using hm1,ae (fY.start M ks),ae xE.1,ae xE.2.1⟩
    case round=>
     have HKS:=ae xE.2.2;clear xE;obtain⟨sets,rows,oI,L2,Np,ov,rfl,hle,abX,PL,Hv,PO⟩:=hrel;have hk0:0<ks.length:=by obtain⟨k,hk,_⟩:=xp M 0 (by decide);rw[HKS];exact po hk
     have hs0:0<sets.length:=(List.getElem?_eq_some_iff.1 PL.first).1;obtain⟨kg,kc,T6⟩:=jr Hv.lV hk0;obtain⟨sg,sc,EG⟩:=jr Hv.fx hs0;have t1:wr.cell? (aD tb 1)=some Np:=aq Hv.head;have t3:wr.cell? (aD tb 3)=some kv:=aq Hv.head;rw[EG]at t1;rw[T6]at t3;have HKV:=ae T6;have HSV:=ae EG;clear T6 EG;have hlz:(0:Int)<=(rows.length:Int):=by omega
     have hrz:(rows.length:Int)<=400:=by omega
     by_cases hlt:rows.length<sets.length;·
      obtain⟨s,hs⟩:∃s,sets[rows.length]?=some s:=⟨_,ar hlt⟩;obtain⟨i1,hi,hz0,hz1,hz2⟩:=info_parts Tryz.info3';have hmk:∀W:ak,(zg 24 (iV ks.length) (iV ks.length)).run ah W= .ok (sL W.heap.size ks.length ks.length) (W.alloc (.cells (madeCells #[iV 0] ks.length) 3)):=λW=>by have:=run_make (P:=ah) W 24 3 i1 (iV 0) sP hi hz0 .i64 .i64 ks.length ks.length (by omega) (AQ _) (by rw[hz2];omega) (by omega);rw[hz1]at this;simpa[Gy]using this
      clear hi hz0 hz1 hz2;have htl:=lt_of_heap Hv.head;have t3':(wr.alloc (.cells (madeCells #[iV 0] ks.length) 3)).cell? (aD tb 3)=some (sL kg ks.length kc):=(aV _ _ _ htl).trans t3;go_wp2_with fail;clear hmk t3 t3' t1;have hrl:wr.heap.size<(wr.alloc (.cells (madeCells #[iV 0] ks.length) 3)).heap.size:=by simp
      have hL0:L2 wr.heap.size=0:=by
       rcases Nat.eq_zero_or_pos (L2 wr.heap.size)with h0|h0;·exact h0
       ·have:=Hv.lt (b:=wr.heap.size) (by omega);omega
      have hin:uR w.heap.size most M ks tb g wr.heap.size ov kv oI rows s 0 sets (λb=>if b=wr.heap.size then 7 else L2 b) Np (aQ ks.length 0) (wr.alloc (.cells (madeCells #[iV 0] ks.length) 3)):=⟨PL,abX,hs,Hv.mark ((aB _ wr).alloc (au _) _) hL0 PO.size hrl,if_pos rfl,by rw[Oh];exact heap_alloc_new wr _,bK,λj c hj=>absurd hj (by omega)⟩;have aiw:aI w.heap.size w (wr.alloc (.cells (madeCells #[iV 0] ks.length) 3)):=PO.alloc PO.size _;have Uk:=ae (aA hin aiw);clear hin aiw hL0;obtain⟨rb,rN⟩:∃rb,rb=wr.heap.size:=⟨_,rfl⟩;rw[<-rN]at Uk⊢;have adL:w.heap.size<=rb:=by rw[rN];exact PO.size
      clear Hv PO hs0 HSV hrl;generalize wr.alloc (.cells (madeCells #[iV 0] ks.length) 3)=w3 at*;go_loopw[84](λi wx=>∃(k:Nat)(dm:List aH)(L':Nat->Nat)(Ij:ay)(cur:List Int),k<=ks.length/\i= .int .i64 k/\Hid (uR w.heap.size most M ks tb g rb ov kv oI rows s k dm L' Ij cur wx/\aI w.heap.size w wx))(λi _=>ks.length-(intOf i).toNat);case atStart=>exact⟨0,sets,_,Np,_,by omega,rfl,Uk⟩
      case round=>
       clear Uk rN;obtain⟨k,dm,L',Ij,cur,hk,rfl,HI⟩:=hrel;by_cases hkl:k<ks.length;·
        obtain⟨c,hc⟩:∃c,ks[k]?=some c:=⟨_,ar hkl⟩;have hc256:c<256:=by have:=aS hc;rw[HKS]at this;exact wI M 256 this
        have hs0:0<dm.length:=(List.getElem?_eq_some_iff.1 HI.1.ok.first).1;obtain⟨sg,sc,EG⟩:=jr HI.1.mem.fx hs0;have hkc:wr.cell? (aD kg k)=some (.int .u8 c):=by have hkr:=HI.1.mem.lV;rw[HKV]at hkr;exact gJ hkr (by rw[bp,hc];rfl)
        have t1:wr.cell? (aD tb 1)=some Ij:=aq HI.1.mem.head;rw[EG]at t1;have hcl:=HI.1.len;obtain⟨z0,hz0⟩:∃z0,cur[k]?=some z0:=⟨_,ar (by omega)⟩;have r0:wr.cell? (aD rb k)=some (iV z0):=by rw[aq HI.1.row];simp[ki,hz0]
        have rf:wr.frozen? (aD rb k)=false:=aU HI.1.row;have hi1:=HI.1.put (-1);have hb1:aI w.heap.size w (wr.setCell (aD rb k) (iV (-1))):=HI.2.setCell (p:=(aD rb k)) adL _;have TX:=hi1.mem.fx;rw[EG]at TX;have hown:=hi1.own;have s0:(wr.setCell (aD rb k) (iV (-1))).cell? (aD sg (rows.length*3))=some (uV s.a):=gJ TX (by rw[<-FN (rows.length*3)];exact iG _ _ _ hown 0 (by decide));have s1:(wr.setCell (aD rb k) (iV (-1))).cell? (aD sg (rows.length*3+1))=some (uV s.b):=gJ TX (iG _ _ _ hown 1 (by decide));have s2:(wr.setCell (aD rb k) (iV (-1))).cell? (aD sg (rows.length*3+2))=some (uV s.c):=gJ TX (iG _ _ _ hown 2 (by decide));have t2:(wr.setCell (aD rb k) (iV (-1))).cell? (aD tb 1)=some (sL sg dm.length sc):=by rw[<-EG];exact aq hi1.mem.head
        have atI:rows.length<dm.length:=(List.getElem?_eq_some_iff.1 hown).1;have tN:bQ (wr.setCell (aD rb k) (iV (-1))) mb M:=⟨HM.1.1,(hb1.block mb xB).trans HM.1.2⟩;have hT1:eN (wr.setCell (aD rb k) (iV (-1))):=HM.2.2.below hb1;have hreach:=(PL.reach s (aS hs));have I6:=hreach.ok HM.1.1 HM.2.1;obtain⟨c8,hc8⟩:∃c8:UInt8,c8.toNat=c:=⟨cS c,by simp;omega⟩;have hcall:=I0 mb M s c8 _ I6.1 I6.2 tN hT1;rw[hc8]at hcall;obtain⟨t,ht⟩:∃t,t=M.step s c:=⟨_,rfl⟩;rw[<-ht]at hcall;obtain⟨bz,hbz⟩:∃bz,bz=!decide (t=aH.zero):=⟨_,rfl⟩;rw[<-hbz]at hcall;have akp:dm.length<=400:=aZ HI.1.few hm4;have H1:=ae (show _/\_/\_/\_/\_/\_/\_/\_ from⟨hcall,hi1,hb1,hreach,ht,hbz,hc,EG⟩);clear hcall hi1 hb1 hreach ht hbz I6 tN hT1 hown TX hc8 hc EG hz0 hs0;have hkz:(k:Int)<(ks.length:Int):=by omega
        have ad4:(0:Int)<=(k:Int):=by omega
        have atH:(rows.length:Int)<(dm.length:Int):=by omega
        go_wp2_with fail;have hcall:=H1.1;unfold aP aH.val aH.cells at hcall;refine hcall.mono ?_;clear hcall;rintro en w4⟨rfl,hb4⟩;have hbA:=hb4.trans ((aB _ w4).alloc hb4.size (.cells t.cells.toArray 306));have hi4:=H1.2.1.below hbA;have aep:aI w.heap.size w (w4.alloc (.cells t.cells.toArray 306)):=H1.2.2.1.trans (hbA.mono H1.2.2.1.size);have WS:=heap_alloc_new w4 (.cells t.cells.toArray 306);obtain⟨W5,uM⟩:∃W5,W5=w4.alloc (.cells t.cells.toArray 306):=⟨_,rfl⟩;rw[<-uM]at hi4 aep WS;have auy:cur.length=ks.length:=hcl;have hz5:W5.heap.size=w4.heap.size+1:=by rw[uM];simp
        have hw4:=hb4.size;have H4:=ae (show _/\_/\_/\_/\_ from⟨hi4,aep,WS,hz5,hw4⟩);clear hw4;unfold aH.cells at uM;have HW5:=ae uM;clear hb4 hbA hi4 aep WS uM hz5 hcl hkc t1 r0 rf s0 s1 s2 t2;cases bz;·go_wp2_with fail;rw[<-HW5];refine⟨⟨k+1,dm,L',Ij,cur.set k (-1),by omega,by go_num,H4.1.next H1.2.2.2.2.2.2.1 (by rw[dz (by omega)]) (.inl ⟨?_,rfl⟩),H4.2.1⟩,by simp[intOf];omega⟩;rw[<-H1.2.2.2.2.1];have:=H1.2.2.2.2.2.1;simpa using this
        ·have htz:t≠aH.zero:=by have:=H1.2.2.2.2.2.1;simpa using this
         have hlk:=bV.lookup (w:=W5.drew) zG (H4.1.mem.ids.of_block rfl) t trivial (λ_ _=>trivial) nP (z:=iV 0) (by kernel_rfl) true;rw[np]at hlk;have x0:W5.cell? (aD w4.heap.size 0)=some (uV t.a):=aq H4.2.2.1;have x1:W5.cell? (aD w4.heap.size 1)=some (uV t.b):=aq H4.2.2.1;have x2:W5.cell? (aD w4.heap.size 2)=some (uV t.c):=aq H4.2.2.1;have x3:W5.cell? (aD tb 0)=some (.map (some g)):=aq H4.1.mem.head;have z5:W5.cell? (aD rb k)=some (iV (-1)):=by
          have hl:k<cur.length:=by omega
          rw[aq H4.1.row];simp[ki,hl]
         have zf:W5.frozen? (aD rb k)=false:=aU H4.1.row;obtain⟨TV,adP⟩:∃r:ay,r=(.tuple #[((get (td dm) t).map cJ).getD (iV 0),.bool ((get (td dm) t).map cJ).isSome]):=⟨_,rfl⟩;have hlk2:(fH 316 (.map (some g)) (.agg #[uV t.a,uV t.b,uV t.c]) true).run ah W5.drew= .ok TV W5.drew:=by rw[adP];exact hlk
         have HOV:=ae adP;clear hlk adP;cases hget:get (td dm) t with
          |some id=>
           have hov:=HOV.out;rw[hget]at hov;have adQ:TV= .tuple #[iV id,.bool true]:=hov;subst adQ;clear HOV hov;have hid:=Ss hget;have amw:=(List.getElem?_eq_some_iff.1 hid).1;have HID:=ae hid;clear hget hid;go_wp2_with fail;rw[<-HW5];refine bB [(0,false),(1,false),(2,false),(3,false),(4,false),(5,false),(6,false),(7,false),(8,false),(9,false),(10,false)] 1000 (λW'=>(W'.cell? (aD w4.heap.size 0)=some (uV t.a)/\W'.cell? (aD w4.heap.size 1)=some (uV t.b)/\W'.cell? (aD w4.heap.size 2)=some (uV t.c))/\W'.cell? (aD tb 0)=some (.map (some g))/\(fH 316 (.map (some g)) (.agg #[uV t.a,uV t.b,uV t.c]) true).run ah W'= .ok (.tuple #[iV id,.bool true]) W') (by kernel_rfl) (by kernel_rfl) ⟨⟨x0,x1,x2⟩,x3,hlk2⟩ ?_;iterate 11(
 refine aR ?_ rfl rfl (λw' hS=>?_) ?_;rotate_left;·obtain⟨⟨q0,q1,q2⟩,q3,q4⟩:=hS;go_simp;try rfl
 simp only[aN,ai,aj])
           refine cV ?_;have hi6:=(H4.1.put (id:Int)).below (Same.drew _|>.below _);have oY:aI w.heap.size w (W5.setCell (aD rb k) (iV id)).drew:=(H4.2.1.setCell (p:=(aD rb k)) adL _).trans (Same.drew _|>.below _);clear hlk2 x0 x1 x2 x3;have HI6:=ae (aA hi6 oY);clear hi6 oY;go_wp2_with fail;refine⟨⟨k+1,dm,L',Ij,_,by omega,by go_num,HI6.1.next H1.2.2.2.2.2.2.1 (by rw[dz (by rw[bW];omega)]) (.inr ⟨?_,id,rfl,?_⟩),HI6.2⟩,by simp[intOf];omega⟩;·rw[<-H1.2.2.2.2.1];exact htz
           ·rw[<-H1.2.2.2.2.1];exact HID|none=>
           have hov:=HOV.out;rw[hget]at hov;have adQ:TV= .tuple #[iV 0,.bool false]:=hov;subst adQ;clear HOV hov;have WR:=Oy hget;have x4:W5.cell? (aD tb 1)=some Ij:=aq H4.1.mem.head;rw[H1.2.2.2.2.2.2.2]at x4;obtain⟨W6,Ql,ab0,SE,hz6⟩:=bV.update (w:=W5.drew.drew) zG (H4.1.mem.ids.of_block rfl) t trivial (λ_ _=>trivial) nP (cJ dm.length);have adJ:(iC 316 (.map (some g)) (.agg #[uV t.a,uV t.b,uV t.c]) (iV dm.length)).run ah W5.drew.drew= .ok () W6:=Ql;have H6:=ae (show _/\_/\_/\_ from⟨ab0,SE,WR,hget⟩);clear Ql ab0 WR hget SE hz6;go_wp2_with fail;rw[<-HW5];refine bB [(0,false),(1,false),(2,false),(3,false),(4,false),(5,false),(6,false),(7,false),(8,false),(9,false),(10,false)] 1000 (λW'=>(W'.cell? (aD w4.heap.size 0)=some (uV t.a)/\W'.cell? (aD w4.heap.size 1)=some (uV t.b)/\W'.cell? (aD w4.heap.size 2)=some (uV t.c))/\W'.cell? (aD tb 0)=some (.map (some g))/\(fH 316 (.map (some g)) (.agg #[uV t.a,uV t.b,uV t.c]) true).run ah W'= .ok (.tuple #[iV 0,.bool false]) W') (by kernel_rfl) (by kernel_rfl) ⟨⟨x0,x1,x2⟩,x3,hlk2⟩ ?_;iterate 11(
 refine aR ?_ rfl rfl (λw' hS=>?_) ?_;rotate_left;·obtain⟨⟨q0,q1,q2⟩,q3,q4⟩:=hS;go_simp;try rfl
 simp only[aN,ai,aj])
           refine cV ?_;clear hlk2;go_wp2_with fail;refine jz [(0,false),(1,false),(2,false),(3,false),(4,false),(5,false),(6,true)] 6 (λW'=>(W'.cell? (aD w4.heap.size 0)=some (uV t.a)/\W'.cell? (aD w4.heap.size 1)=some (uV t.b)/\W'.cell? (aD w4.heap.size 2)=some (uV t.c))/\W'.cell? (aD tb 0)=some (.map (some g))) (by kernel_rfl) (by kernel_rfl) ⟨⟨x0,x1,x2⟩,x3⟩ ?_;iterate 6(
 refine aR ?_ rfl rfl (λw' hS=>?_) ?_;rotate_left;·obtain⟨⟨q0,q1,q2⟩,q3⟩:=hS;go_simp;try rfl
 simp only[aN,ai,aj])
           refine cO rfl rfl (λK hK=>?_);have HK7:=ae hK;clear hK;go_simp;refine HK7 _ _ ?_;clear HK7 K adJ;have SE:W5.grownBy W6 (some g):=⟨H6.2.1.os,H6.2.1.tape,H6.2.1.output,H6.2.1.size,λb hb hn=>H6.2.1.block b hb hn⟩;have amG:=H4.1.mem.ids.lt;have htg:tb≠g:=λe=>by have:=H4.1.mem.lT;rw[e,H4.1.mem.lI]at this;cases this
           have hrg:rb≠g:=λe=>by have:=H4.1.lab;rw[e,H4.1.mem.lI]at this;cases this
           have hxg:w4.heap.size≠g:=λe=>IZ H4.1.mem.ids H4.2.2.1 e.symm;have aay:=(SE.block tb (lt_of_heap H4.1.mem.head) (λe=>htg (aJ e))).trans H4.1.mem.head;have SI:=(SE.block w4.heap.size (lt_of_heap H4.2.2.1) (λe=>hxg (aJ e))).trans H4.2.2.1;have aes:=(SE.block rb (lt_of_heap H4.1.row) (λe=>hrg (aJ e))).trans H4.1.row;have ahf:W6.ownsRow 0 306 3 Ij dm.length (setCells dm):=aO H4.1.mem.fx λb e=>SE.block b (H4.1.mem.fx.lt b e).2 λe'=>by have h1:=H4.1.mem.lS b e;rw[aJ e',H4.1.mem.lI]at h1;cases h1
           have Hf:aI w.heap.size w W6:=H4.2.1.grown SE H4.2.1.size λb e=>by have e':=aJ e;omega
           have ahc:=lt_of_heap aay;have ZW:=lt_of_heap SI;have Sz:=lt_of_heap aes;have y0:W6.cell? (aD w4.heap.size 0)=some (uV t.a):=aq SI;have y1:W6.cell? (aD w4.heap.size 1)=some (uV t.b):=aq SI;have y2:W6.cell? (aD w4.heap.size 2)=some (uV t.c):=aq SI;have y4:W6.cell? (aD tb 1)=some Ij:=aq aay;rw[H1.2.2.2.2.2.2.2]at y4;have H7:=ae (show _/\_/\_/\_/\_/\_ from⟨SE,aay,SI,aes,ahf,Hf⟩);clear SE aay SI aes ahf Hf amG htg hrg hxg x0 x1 x2 x3 x4 z5 zf;go_wp2_with fail;obtain⟨i2,hi,hz0,hz1,hz2⟩:=info_parts Tryz.Wm;refine jz [(0,false),(1,false),(2,false),(3,false),(4,false),(5,false),(6,true),(7,true),(8,false),(9,false),(10,true)] 10 (λW'=>(W'.cell? (aD w4.heap.size 0)=some (uV t.a)/\W'.cell? (aD w4.heap.size 1)=some (uV t.b)/\W'.cell? (aD w4.heap.size 2)=some (uV t.c))/\W'.cell? (aD tb 1)=some (sL sg dm.length sc)) (by kernel_rfl) (by kernel_rfl) ⟨⟨y0,y1,y2⟩,y4⟩ ?_;iterate 6(
 refine aR ?_ rfl rfl (λw' hS=>?_) ?_;rotate_left;·obtain⟨⟨q0,q1,q2⟩,q3⟩:=hS;go_simp;try rfl
 simp only[aN,ai,aj])
           have mQ:(W6.alloc (.cells #[uV t.a,uV t.b,uV t.c] 306)).drew.ownsRow 0 306 3 (sL sg dm.length sc) dm.length (setCells dm):=by have:=H7.2.2.2.2.1;rw[H1.2.2.2.2.2.2.2]at this;exact(this.alloc _).drew
           have hc7:∀j u,[tR .u64 t.a,uV t.b,uV t.c][j]?=some u->(W6.alloc (.cells #[uV t.a,uV t.b,uV t.c] 306)).drew.cell? (((aD W6.heap.size 0):Addr).add j)=some u:=by have:=wT W6 (uV t.a) (uV t.b) (uV t.c) 306;simpa using this
           have hS7:((W6.alloc (.cells #[uV t.a,uV t.b,uV t.c] 306)).drew.cell? (aD w4.heap.size 0)=some (uV t.a)/\(W6.alloc (.cells #[uV t.a,uV t.b,uV t.c] 306)).drew.cell? (aD w4.heap.size 1)=some (uV t.b)/\(W6.alloc (.cells #[uV t.a,uV t.b,uV t.c] 306)).drew.cell? (aD w4.heap.size 2)=some (uV t.c))/\(W6.alloc (.cells #[uV t.a,uV t.b,uV t.c] 306)).drew.cell? (aD tb 1)=some (sL sg dm.length sc):=⟨⟨(aV _ _ _ ZW).trans y0,(aV _ _ _ ZW).trans y1,(aV _ _ _ ZW).trans y2⟩,(aV _ _ _ ahc).trans y4⟩;have ahz:bL W6 (sL sg dm.length sc) (W6.alloc (.cells #[uV t.a,uV t.b,uV t.c] 306)).drew (sL sg dm.length sc):=(bL.alloc W6 _ _).trans (bL.same _ (Same.drew _));refine bg rfl rfl (by decide) (λK hK=>?_);have HK8:=ae hK;clear hK;go_simp;refine HK8 _ _ hS7 ?_;clear HK8 K;have HC7:=ae (show _/\_ from⟨hS7,ahz⟩);clear hS7 ahz y0 y1 y2 y4;refine bg rfl rfl (by decide) (λK hK=>?_);have HK9:=ae hK;clear hK;refine wp_append_lies _ _ 317 rfl 306 i2 (.agg #[uV 0,uV 0,uV 0]) 3 24 Tryz.underlying317 hi hz0 hz1 hz2 rfl (by decide) _ _ _ rfl mQ (aD W6.heap.size 0) 1 1 [uV t.a,uV t.b,uV t.c] rfl rfl hc7 (by simp[dN]) (by decide) (by unfold maxLen;omega) (by omega) ?_;intro v8 W8 EJ EN EM;have yQ:W8.ownsRow 0 306 3 v8 (dm.length+1) (setCells (dm++[t])):=by
            have e:setCells (dm++[t])=setCells dm++[uV t.a,uV t.b,uV t.c]:=by simp[setCells,aH.cells]
            rw[e];exact EJ
           obtain⟨g8,aaQ,hv8⟩:=bX yQ;have Dc:=HC7.2.trans (bL.append EN EM);have WA:∀b,(sL sg dm.length sc).ownBlock=some b->L' b=3:=λb e=>H4.1.mem.lS b (by rw[H1.2.2.2.2.2.2.2];exact e);have hnt:(sL sg dm.length sc).ownBlock≠some tb:=λe=>by have:=WA tb e;rw[H4.1.mem.lT]at this;cases this
           have hnr:(sL sg dm.length sc).ownBlock≠some rb:=λe=>by have:=WA rb e;rw[H4.1.lab]at this;cases this
           have hnx:(sL sg dm.length sc).ownBlock≠some w4.heap.size:=λe=>by have h1:=WA _ e;have h2:=H1.2.1.mem.lt (b:=w4.heap.size) (by rw[h1];decide);have h3:=H4.2.2.2.2;omega
           have aer:=(Dc.block ahc hnt).trans H7.2.1;have aiv:=(Dc.block Sz hnr).trans H7.2.2.2.1;have aaw:=(Dc.block ZW hnx).trans H7.2.2.1;have hS8:(W8.cell? (aD w4.heap.size 0)=some (uV t.a)/\W8.cell? (aD w4.heap.size 1)=some (uV t.b)/\W8.cell? (aD w4.heap.size 2)=some (uV t.c))/\W8.cell? (aD tb 1)=some (sL sg dm.length sc):=by have q3:W8.cell? (aD tb 1)=some Ij:=aq aer;rw[H1.2.2.2.2.2.2.2]at q3;exact⟨⟨aq aaw,aq aaw,aq aaw⟩,q3⟩
           have hadd:=H4.1.mem.aeZ H7.1 H6.1 H6.2.2.2 (Np:=v8) (W:=W8) (by rw[H1.2.2.2.2.2.2.2];exact Dc) H4.2.1.size yQ;obtain⟨L8,hL8,ahb⟩:=hadd;have Ac:(W8.setCell (aD tb 1) v8).heap[rb]?=some (.cells (ki (cur.set k (-1))).toArray 3 (0,0)):=(az W8 (aD tb 1) _ rb (λe=>by have:=H4.1.lab;rw[show rb=tb from e,H4.1.mem.lT]at this;cases this)).trans aiv;have ahH:=lt_of_heap H4.1.row;have acg:aI w.heap.size w (W8.setCell (aD tb 1) v8):=(Dc.below (λb e=>(H4.1.mem.past b (by rw[WA b e];decide)).1) H7.2.2.2.2.2 H7.2.2.2.2.2.size).setCell (p:=(aD tb 1)) hsw _;have abH:fY M ks (dm++[t]) rows:=H4.1.ok.push H6.2.2.1 (by rw[H1.2.2.2.2.1]at htz⊢;exact .step s c H1.2.2.2.1 hc256 htz);have amK:W8.frozen? (aD tb 1)=false:=aU aer;have H9:=ae (show _/\_/\_/\_/\_ from⟨hL8 rb ahH,ahb,Ac,acg,abH⟩);subst hv8;clear EJ yQ EN EM Dc WA hnt hnr hnx aer aiv aaw hL8 ahb Ac acg abH ahH mQ hc7 HC7 hi hz0 hz1 hz2;refine HK9 _ _ hS8 ?_;clear HK9 K;simp only[aN,ai,aj];iterate 2(
 refine aR ?_ rfl rfl (λw' hS=>?_) ?_;rotate_left;·obtain⟨⟨q0,q1,q2⟩,q3⟩:=hS;go_simp;try rfl
 simp only[aN,ai,aj])
           obtain⟨⟨q0,q1,q2⟩,q3⟩:=hS8;refine cO rfl rfl (λK hK=>?_);have ajB:=ae hK;clear hK;go_simp;refine ajB _ _ ?_;clear ajB K q0 q1 q2 q3 amK;obtain⟨W9,vG⟩:∃W9,W9=W8.setCell (aD tb 1) (sL g8 (dm.length+1) aaQ):=⟨_,rfl⟩;rw[<-vG]at H9⊢;clear vG;have aml:k<cur.length:=by omega
           have z9:W9.cell? (aD rb k)=some (iV (-1)):=by rw[aq H9.2.2.1];simp[ki,aml]
           have zf9:W9.frozen? (aD rb k)=false:=aU H9.2.2.1;have t9:W9.cell? (aD tb 1)=some (sL g8 (dm.length+1) aaQ):=aq H9.2.1.head;have hmz:(most:Int)<=400:=by omega
           have at1:(dm.length:Int)<=400:=by omega
           have HNL:=ae (show((dm.length+1:Nat):Int)=(dm.length:Int)+1 by omega);by_cases hmo:most<dm.length+1;·go_wp2_with fail;go_ret;refine⟨H9.2.2.2.1,.inl ⟨rfl,dm++[t],H9.2.2.2.2.nodup,H9.2.2.2.2.reach,by simp;omega⟩⟩
           ·have amb:dm.length+1<=most:=by omega
            have ahW:uR w.heap.size most M ks tb g rb ov kv oI rows s k (dm++[t]) L8 (sL g8 (dm.length+1) aaQ) (cur.set k (-1)) W9:=⟨H9.2.2.2.2,by simpa using amb,jd (jm _ _) H4.1.own,H9.2.1,by rw[H9.1];exact H4.1.lab,H9.2.2.1,by rw[bW];omega,λj c' hj hc'=>by obtain⟨z,h1,h2⟩:=H4.1.done j c' hj hc';exact⟨z,h1,h2.mono (jm _ _)⟩⟩;have ab6:=ahW.put (dm.length:Int);have Ah:aI w.heap.size w (W9.setCell (aD rb k) (iV (dm.length:Nat))):=H9.2.2.2.1.setCell (p:=(aD rb k)) adL _;have H10:=ae (aA ab6 Ah);clear ahW ab6 Ah;go_wp2_with fail;refine⟨⟨k+1,dm++[t],L8,_,_,by omega,by go_num,H10.1.next H1.2.2.2.2.2.2.1 (by rw[dz (by rw[bW];omega)]) (.inr ⟨?_,dm.length,rfl,?_⟩),H10.2⟩,by simp[intOf];omega⟩;·rw[<-H1.2.2.2.2.1];exact htz
            ·rw[<-H1.2.2.2.2.1,eG]
       ·obtain rfl:k=ks.length:=by omega
        clear hkl hk;obtain⟨i3,hi,hz0,hz1,hz2⟩:=info_parts Tryz.Qi;obtain⟨oa,oc,hov⟩:=ownsRow_form HI.1.mem.F6;have htl:=lt_of_heap HI.1.mem.head;have o2:wr.cell? (aD tb 2)=some ov:=aq HI.1.mem.head;rw[hov]at o2;have o2':(wr.alloc (.cells #[sL rb ks.length ks.length] 24)).cell? (aD tb 2)=some (.slice oa rows.length oc):=(aV _ _ _ htl).trans o2;have Lv:=HI.1.mem.F6;rw[hov]at Lv;have hrow4:(wr.alloc (.cells #[sL rb ks.length ks.length] 24)).ownsRow 0 24 1 (.slice oa rows.length oc) rows.length ((oI.zip rows).map λq=>tY q.1 q.2.length):=Lv.alloc _;have hnew:∀j u,[sL rb ks.length ks.length][j]?=some u->(wr.alloc (.cells #[sL rb ks.length ks.length] 24)).cell? (((aD wr.heap.size 0):Addr).add j)=some u:=by intro j u hj;match j,hj with|0,hj=>simp at hj;subst hj;simp[iU]|j+1,hj=>simp at hj
        have hbt:(wr.alloc (.cells #[sL rb ks.length ks.length] 24)).heap[tb]?=some (.cells #[.map (some g),Ij,ov,kv] 319 (0,0)):=(aC wr _ _ htl).trans HI.1.mem.head;have hno:(cY oa rows.length oc).ownBlock≠some tb:=λe=>by have:=HI.1.mem.lO tb (by rw[hov];exact e);rw[HI.1.mem.lT]at this;cases this
        have HBT:=ae (show _/\_/\_ from⟨hbt,hno,hov⟩);clear hbt hno Lv hov;go_wp2_with(at_builtin;refine pB rfl _ _ 88 rfl 24 i3 (.slice none 0 0) 1 24 rV hi hz0 hz1 hz2 rfl (by decide) (.slice oa rows.length oc) rows.length ((oI.zip rows).map λq=>tY q.1 q.2.length) rfl hrow4 (aD wr.heap.size 0) 1 1 [sL rb ks.length ks.length] rfl rfl hnew (by simp[dN]) (by decide) (by unfold maxLen;omega) (by omega) ?_;intro g4 wU W4 lN ng py;simp only[aN,ai,aj];have hb5:=(ng.block tb (lt_of_heap HBT.1) (λe=>HBT.2.1 e.symm)).trans HBT.1;have t5:W4.cell? (aD tb 2)=some ov:=aq hb5;have f5:W4.frozen? (aD tb 2)=false:=aU hb5;have YV:=ae lN;have HM5:=ae ((bL.alloc wr (.slice oa rows.length oc) _).trans (bL.append ng py));clear lN ng py hb5);have hmv:bL wr ov W4 (sL g4 (rows.length+1) wU):=by rw[HBT.2.2];exact HM5
        have xV:W4.ownsRow 0 24 1 (sL g4 (rows.length+1) wU) (rows.length+1) ((oI.zip rows).map (λq=>tY q.1 q.2.length)++[tY rb cur.length]):=by have:=YV.out;rw[HI.1.len];exact this
        obtain⟨L6,alK⟩:=HI.1.mem.ae0 (by rw[HI.1.lab];decide) HI.1.row hmv HI.2.size xV;have Hf:aI w.heap.size w (W4.setCell (aD tb 2) (sL g4 (rows.length+1) wU)):=(hmv.below (λb e=>(HI.1.mem.past b (by rw[HI.1.mem.lO b e];decide)).1) HI.2 HI.2.size).setCell (p:=(aD tb 2)) hsw _;have ahr:fY M ks dm (rows++[cur]):=HI.1.ok.KG HI.1.own ⟨HI.1.len,λj c hc=>HI.1.done j c (List.getElem?_eq_some_iff.1 hc).1 hc⟩;have ad3:=ahr.le;refine⟨⟨dm,rows++[cur],oI++[rb],L6,_,_,?_,ad3,HI.1.few,ae ahr,ae alK,ae Hf⟩,?_⟩;·rw[bh];go_num
        ·have:=HI.1.few;rw[bh]at ad3;simp at ad3;simp[intOf];omega
     ·have hall:rows.length=sets.length:=by omega
      go_wp2_with fail;go_ret;exact⟨PO,.inr ⟨tb,L2,g,Np,ov,kv,oI,sets,rows,rfl,by rw[<-HKS];exact PL,hall,abX,by rw[<-HKS];exact Hv⟩⟩
structure uG (w0:ak) (n:Nat) (L:Nat->Nat) (sV:List ay) (fr:List (List Nat)) (w:ak):Prop where
 lb:w.heap[w0.heap.size]?=some (.cells ((aQ n false).map mz).toArray 4 (0,0))
 c5:w.heap[w0.heap.size+1]?=some (.cells #[.slice (some ⟨w0.heap.size,0,none⟩) n n] 151 (0,0))
 fb:w.heap[w0.heap.size+2]?=some (.cells sV.toArray 24 (0,0))
 c6:w.heap[w0.heap.size+3]?=some (.cells #[.slice (some ⟨w0.heap.size+2,0,none⟩) n n] 88 (0,0))
 Jj:sV.length=n
 si:fr.length=n
 rows:∀ (j:Nat) v l,sV[j]?=some v->fr[j]?=some l->w.ownsRow 0 3 1 v l.length (l.map cJ)
 lab:∀ (j:Nat) v b,sV[j]?=some v->v.ownBlock=some b->L b=j+1
 past:∀ b,L b≠0->w0.heap.size+4<=b/\b < w.heap.size
 below:aI w0.heap.size w0 w
theorem uG.under{w0:ak}{n:Nat}{L:Nat->Nat}{sV:List ay}{fr:List (List Nat)}{w w':ak}(h:uG w0 n L sV fr w)(hb:aI w.heap.size w w'):uG w0 n L sV fr w':=⟨(hb.block _ (lt_of_heap h.lb)).trans h.lb,(hb.block _ (lt_of_heap h.c5)).trans h.c5,(hb.block _ (lt_of_heap h.fb)).trans h.fb,(hb.block _ (lt_of_heap h.c6)).trans h.c6,h.Jj,h.si,λj v l hv hl=>aO (h.rows j v l hv hl) λb e=>hb.block b ((h.rows j v l hv hl).lt b e).2,h.lab,λb hb'=>⟨(h.past b hb').1,bI (h.past b hb').2 hb.size⟩,h.below.trans (hb.mono h.below.size)⟩
theorem uG.add{w0:ak}{n y i:Nat}{L:Nat->Nat}{sV:List ay}{fr:List (List Nat)}{w W:ak}{v v2:ay}{l:List Nat}(h:uG w0 n L sV fr w)(hv:sV[y]?=some v)(hl:fr[y]?=some l)(hm:bL w v W v2)(hrow:W.ownsRow 0 3 1 v2 (l.length+1) ((l++[i]).map cJ)):∃L',uG w0 n L' (sV.set y v2) (fr.set y (l++[i])) (W.setCell (aD (w0.heap.size+2) y) v2):=by
 have hB:w0.heap.size+4<=w.heap.size:=by have:=lt_of_heap h.c6;omega
 obtain⟨L',h1,h2,h3⟩:=rL hm (λb e=>h.lab y v b hv e) h.past hB (λb hb=>(hrow.lt b hb).2);have hvp:∀b,v.ownBlock=some b->w0.heap.size+4<=b:=λb e=>(h.past b (by rw[h.lab y v b hv e];omega)).1;have old:∀b,b<w0.heap.size+4->b≠w0.heap.size+2->(W.setCell (aD (w0.heap.size+2) y) v2).heap[b]?=w.heap[b]?:=λb hb hn=>(az W (aD (w0.heap.size+2) y) _ b hn).trans (hm.block (by omega) λe=>by have:=hvp b e;omega);have Oz:=(List.getElem?_eq_some_iff.1 hv).1;refine⟨L',(old _ (by omega) (by omega)).trans h.lb,(old _ (by omega) (by omega)).trans h.c5,?_,(old _ (by omega) (by omega)).trans h.c6,by rw[bW];exact h.Jj,by rw[bW];exact h.si,λj u m hu hm'=>?_,λj u b hu hb=>?_,λb hb=>?_,?_⟩;·have hf:=(hm.block (lt_of_heap h.fb) λe=>by have:=hvp _ e;omega).trans h.fb;rw[heap_setCell_same W (w0.heap.size+2) y _ _ v2 hf];simp
 ·by_cases e:j=y;·
   subst e;rw[dz Oz]at hu;rw[dz (by rw[h.si,<-h.Jj];exact Oz)]at hm';cases hu;cases hm';have:=aO (w':=W.setCell (aD (w0.heap.size+2) j) v2) hrow λb e=>az W (aD (w0.heap.size+2) j) _ b λe'=>by have h4:=h3 b (by rw[h2 b e];omega);rw[show b=w0.heap.size+2 from e']at h4;omega
   simpa using this
  ·rw[dA (dB e)]at hu hm';have hr:=h.rows j u m hu hm';refine aO hr λb eb=>?_;have hlb:=h.lab j u b hu eb;have hp:=h.past b (by rw[hlb];omega);refine(az W (aD (w0.heap.size+2) y) _ b (by show b≠w0.heap.size+2;omega)).trans (hm.block hp.2 λe2=>?_);have:=h.lab y v b hv e2;omega
 ·by_cases e:j=y;·subst e;rw[dz Oz]at hu;cases hu;exact h2 b hb
  ·rw[dA (dB e)]at hu;have hlb:=h.lab j u b hu hb;rw[h1 b (h.past b (by rw[hlb];omega)).2];exact hlb
 ·have:=h3 b hb;rw[mr];exact this
 ·exact(hm.below (λb e=>by have:=hvp b e;omega) h.below h.below.size).setCell (p:=(aD (w0.heap.size+2) y)) (by show w0.heap.size<=w0.heap.size+2;omega) _
theorem nE.under{c5 c6 c11 lb fb:Nat}{sV:List ay}{fr:List (List Nat)}{lv:List Bool}{w w':ak}(h:nE c5 c6 c11 lb fb sV fr lv w)(hb:aI w.heap.size w w'):nE c5 c6 c11 lb fb sV fr lv w':=h.kept ⟨hb.os,hb.tape,hb.output,hb.size,λj hj _=>hb.block j hj⟩ rfl ((hb.block _ (lt_of_heap h.live)).trans h.live)
structure My (w:ak) (mb tb c5 sg sc og oc kg kc lb n m:Nat) (M:PM) (sets:List aH) (rows:List (List Int)) (lv:List Bool):Prop where
 jZ:bQ w mb M
 t1:w.cell? ⟨tb,1,none⟩=some (.slice (some ⟨sg,0,none⟩) n sc)
 t2:w.cell? ⟨tb,2,none⟩=some (.slice (some ⟨og,0,none⟩) n oc)
 t3:w.cell? ⟨tb,3,none⟩=some (.slice (some ⟨kg,0,none⟩) m kc)
 cl:w.cell? ⟨c5,0,none⟩=some (.slice (some ⟨lb,0,none⟩) n n)
 lvc:∀ j,j < n->w.cell? ⟨lb,j,none⟩=some (.bool (lv.getD j false))
 set':∀ (j:Nat) s,sets[j]?=some s -> ∀ q,q < 3->w.cell? ⟨sg,j * 3+q,none⟩=some (.int .u64 (s.word q))
 row:∀ (i:Nat) r,rows[i]?=some r -> ∃ rb,w.cell? ⟨og,i,none⟩=some (.slice (some ⟨rb,0,none⟩) m m) /\ ∀ (k:Nat) z,r[k]?=some z->w.cell? ⟨rb,k,none⟩=some (.int .i64 z)
theorem My.below{w w':ak}{mb tb c5 sg sc og oc kg kc lb n m:Nat}{M:PM}{sets:List aH}{rows:List (List Int)}{lv:List Bool}(h:My w mb tb c5 sg sc og oc kg kc lb n m M sets rows lv)(hb:aI w.heap.size w w'):My w' mb tb c5 sg sc og oc kg kc lb n m M sets rows lv:=by have c:∀(b i:Nat)v,w.cell? (aD b i)=some v->w'.cell? (aD b i)=some v:=λb i v hp=>(hb.cell (p:=(aD b i)) (lt_of_cell hp)).trans hp;exact⟨h.jZ.below hb,c _ _ _ h.t1,c _ _ _ h.t2,c _ _ _ h.t3,c _ _ _ h.cl,λj hj=>c _ _ _ (h.lvc j hj),λj s hs q hq=>c _ _ _ (h.set' j s hs q hq),λi r hr=>by obtain⟨rb,h1,h2⟩:=h.row i r hr;exact⟨rb,c _ _ _ h1,λk z hz=>c _ _ _ (h2 k z hz)⟩⟩
theorem My.of{w0 w:ak}{mb tb ib B cb n m:Nat}{M:PM}{L:Nat->Nat}{sv ov kv:ay}{oI:List Nat}{sets:List aH}{rows:List (List Int)}{sV:List ay}{fr:List (List Nat)}{lv:List Bool}{sg sc og oc kg kc:Nat}(hM:bQ w0 mb M)(hok:fY M M.kinds sets rows)(hT:gU B L tb ib sv ov kv oI sets rows M.kinds w0)(hn:n=sets.length)(hm:m=M.kinds.length)(hall:rows.length=n)(EG:sv=sL sg sets.length sc)(hov:ov=sL og rows.length oc)(T6:kv=sL kg M.kinds.length kc)(hlv:lv.length=n)(hB:nE (w0.heap.size+1) (w0.heap.size+3) cb w0.heap.size (w0.heap.size+2) sV fr lv w)(hb:aI w0.heap.size w0 w):My w mb tb (w0.heap.size+1) sg sc og oc kg kc w0.heap.size n m M sets rows lv:=by
 have c:∀(b i:Nat)v,w0.cell? (aD b i)=some v->w.cell? (aD b i)=some v:=λb i v hp=>(hb.cell (p:=(aD b i)) (lt_of_cell hp)).trans hp;have t1:w0.cell? (aD tb 1)=some sv:=aq hT.head;have t2:w0.cell? (aD tb 2)=some ov:=aq hT.head;have t3:w0.cell? (aD tb 3)=some kv:=aq hT.head;rw[EG,<-hn]at t1;rw[hov,hall]at t2;rw[T6,<-hm]at t3;refine⟨hM.below hb,c _ _ _ t1,c _ _ _ t2,c _ _ _ t3,?_,λj hj=>?_,λj s hs q hq=>?_,λi r hr=>?_⟩;·have:=aq (i:=0) hB.cl;rw[hlv]at this;exact this
 ·rw[aq hB.live];have hj':j<lv.length:=by omega
  simp[ar hj',aw]
 ·have TX:=hT.fx;rw[EG]at TX;exact c _ _ _ (gJ TX (iG _ _ _ hs q hq))
 ·have hil:=(List.getElem?_eq_some_iff.1 hr).1;obtain⟨rb,rN⟩:∃rb,oI[i]?=some rb:=⟨_,ar (by rw[hT.si];exact hil)⟩;obtain⟨s,hs⟩:∃s,sets[i]?=some s:=⟨_,ar (by omega)⟩;have hrl:=(hok.row i r s hr hs).len;refine⟨rb,c _ _ _ ?_,λk z hz=>c _ _ _ ?_⟩;·have h1:=hT.F6;rw[hov]at h1;have h2:=gJ h1 (j:=i) (u:=tY rb r.length) (by rw[bp,(PW (z:=(rb,r))).2 ⟨rN,hr⟩];rfl);rw[hrl,<-hm]at h2;exact h2
  ·have kb:=hT.KT i rb r rN hr;rw[aq kb];simp[ki,hz]
def fW(w:ak)(b:Nat)(l:List Nat):Prop:=w.heap[b]?=some (.cells (l.map cJ).toArray 3 (0,0))
section
variable{w w':ak}{b:Nat}{l:List Nat}
theorem fW.lt(h:fW w b l):b<w.heap.size:=lt_of_heap h
theorem fW.cell(h:fW w b l){i:Nat}(hi:i<l.length):w.cell? (aD b i)=some (iV (blk l i:Nat)):=by rw[aq h];unfold blk;simp[ar hi,aw,cJ]
theorem fW.free(h:fW w b l)(i:Nat):w.frozen? (aD b i)=false:=aU h
theorem fW.set(h:fW w b l)(i v:Nat):fW (w.setCell (aD b i) (iV v)) b (l.set i v):=by unfold fW;rw[heap_setCell_same w b i _ _ _ h];simp[cJ,CZ]
theorem fW.old(h:fW w b l)(hb:w'.heap[b]?=w.heap[b]?):fW w' b l:=hb.trans h
end
def Kept(P:ak->Prop)(F:Nat)(w:ak):Prop:=∃wF:ak,F=wF.heap.size/\P wF/\aI F wF w
def JK(P:ak->Prop):Prop:=∀w w',P w->aI w.heap.size w w'->P w'
section
variable{P:ak->Prop}{F:Nat}{w w':ak}
theorem Kept.now(h:Kept P F w)(hs:JK P):P w:=by obtain⟨wF,rfl,hp,hb⟩:=h;exact hs _ _ hp hb
theorem Kept.on(h:Kept P F w)(hb:aI F w w'):Kept P F w':=by obtain⟨wF,rfl,hp,hb0⟩:=h;exact⟨wF,rfl,hp,hb0.trans hb⟩
theorem Kept.size(h:Kept P F w):F<=w.heap.size:=by obtain⟨wF,rfl,hp,hb0⟩:=h;exact hb0.size
theorem Kept.start(h:P w):Kept P w.heap.size w:=⟨w,rfl,h,aB _ _⟩
end
theorem yL(n:Nat):madeCells #[iV 0] n=((aQ n 0).map cJ).toArray:=by apply Array.toList_inj.1;rw[toList_madeCells_one];simp[cJ]
theorem bV.VW{α:Type}[DecidableEq α]{P:Program}{enc:α->ay}{w:ak}{b:Nat}{m:List (α×ay)}(h:bV enc w b m){T K E I:dx}(hT:P.underlying T=some (.map K E)):(C2 #[T] I #[.map (some b)]).run P w= .ok (iV m.length) w:=by obtain⟨es,c,hb,hp,h1,h2⟩:=h;have hl:es.size=m.length:=bV.len hb ⟨es,c,hb,hp,h1,h2⟩;unfold C2;simp only[dZ,List.getElem?_toArray,List.getElem?_cons_zero,run_underlying hT,eH];rw[om hb,<-hl];rfl
section
variable{w:ak}{g k1 k2:Nat}{ids:List ((Nat×Nat)×Nat)}
theorem Ru(h:bV qx w g (vals cJ ids)){y:Nat}(hy:get ids (k1,k2)=some y):(fH 325 (.map (some g)) (.agg #[iV k1,iV k2]) true).run ah w= .ok (.tuple #[iV y,.bool true]) w:=by have hlk:=bV.lookup zE h (k1,k2) trivial (λ_ _=>trivial) nO (z:=iV 0) (by kernel_rfl) true;rw[np,hy]at hlk;exact hlk
theorem Rv(h:bV qx w g (vals cJ ids))(hy:get ids (k1,k2)=none):(fH 325 (.map (some g)) (.agg #[iV k1,iV k2]) true).run ah w= .ok (.tuple #[iV 0,.bool false]) w:=by have hlk:=bV.lookup zE h (k1,k2) trivial (λ_ _=>trivial) nO (z:=iV 0) (by kernel_rfl) true;rw[np,hy]at hlk;exact hlk
theorem Vc(h:bV qx w g (vals cJ ids)):(C2 #[325] 3 #[.map (some g)]).run ah w= .ok (iV ids.length) w:=by have Jb:=bV.VW (P:=ah) (I:=3) h nO;rw[show(vals cJ ids).length=ids.length from by unfold vals;simp]at Jb;exact Jb
theorem Vb(h:bV qx w g (vals cJ ids))(k1 k2 v:Nat):∃W5:ak,(iC 325 (.map (some g)) (.agg #[iV k1,iV k2]) (iV v)).run ah w= .ok () W5/\bV qx W5 g (vals cJ (put ids (k1,k2) v))/\w.grownBy W5 (some g):=by obtain⟨W5,Ab,rO,MT,hz5⟩:=bV.update zE h (k1,k2) trivial (λ_ _=>trivial) nO (cJ v);rw[qC]at rO;exact⟨W5,Ab,rO,MT⟩
end
theorem RT{α:Type}{G:Prop}(o:Option α)(h0:o=none->G)(h1:∀y,o=some y->G):G:=by cases o with|none=>exact h0 rfl|some y=>exact h1 y rfl
section
variable{w:ak}{g x:Nat}{seen:List (Nat×Nat)}
def Ob(n:Nat):ay:= .int .i64 n
theorem VK(h:bV Ob w g (vals cJ seen)):(fH 254 (.map (some g)) (iV x) false).run ah w= .ok (iV ((get seen x).getD 0:Nat)) w:=by have hlk:=bV.lookup Qg h x trivial (λ_ _=>trivial) DN (z:=iV 0) (by kernel_rfl) false;rw[np]at hlk;cases hy:get seen x with|none=>rw[hy]at hlk;exact hlk|some v=>rw[hy]at hlk;exact hlk
theorem ZL(h:bV Ob w g (vals cJ seen)):(C2 #[254] 3 #[.map (some g)]).run ah w= .ok (iV seen.length) w:=by have Jb:=bV.VW (P:=ah) (I:=3) h DN;rw[show(vals cJ seen).length=seen.length from by unfold vals;simp]at Jb;exact Jb
theorem ZK(h:bV Ob w g (vals cJ seen))(x v:Nat):∃W5:ak,(iC 254 (.map (some g)) (iV x) (iV v)).run ah w= .ok () W5/\bV Ob W5 g (vals cJ (put seen x v))/\w.grownBy W5 (some g):=by obtain⟨W5,Ab,rO,MT,hz5⟩:=bV.update Qg h x trivial (λ_ _=>trivial) DN (cJ v);rw[qC]at rO;exact⟨W5,Ab,rO,MT⟩
theorem nB.val{c:List Nat}{i:Nat}(h:nB c i seen)(x:Nat):(get seen x).getD 0<=i:=by cases hy:get seen x with|none=>exact aW _|some v=>exact h.few _ (dX hy)
end
theorem Tryz.adx:(Tryz.prog.info? 4).map (λi=>(i.zero,i.size,i.bytes))=some (some (.bool false),1,1):=by kernel_rfl
theorem Lh(n:Nat):madeCells #[.bool false] n=((aQ n false).map mz).toArray:=by apply Array.toList_inj.1;rw[toList_madeCells_one];simp
theorem VR(n:Nat):madeCells #[.slice none 0 0] n=(aQ n (.slice none 0 0)).toArray:=by apply Array.toList_inj.1;rw[toList_madeCells_one]
theorem xm(mb tb ib B:Nat)(M:PM)(L:Nat->Nat)(sv ov kv:ay)(oI:List Nat)(sets:List aH)(rows:List (List Int))(w:ak)(hM:bQ w mb M)(hF:M.fit)(hok:fY M M.kinds sets rows)(hall:rows.length=sets.length)(Je:sets.length<=400)(hT:gU B L tb ib sv ov kv oI sets rows M.kinds w):aX ah 107 #[aP mb,aP tb] w λe w'=>∃c:Nat,e= .returned (iV c)/\lM M c/\aI w.heap.size w w':=by
 have hs0:=(List.getElem?_eq_some_iff.1 hok.first).1;obtain⟨sg,sc,EG⟩:=jr hT.fx hs0;obtain⟨og,oc,hov⟩:=jr hT.F6 (by omega);have hkl:M.kinds.length<=256:=pW M 256;have hk0:0<M.kinds.length:=by obtain⟨k,hk,_⟩:=xp M 0 (by decide);exact po hk
 obtain⟨kg,kc,T6⟩:=jr hT.lV hk0;have t1:w.cell? (aD tb 1)=some sv:=aq hT.head;have t2:w.cell? (aD tb 2)=some ov:=aq hT.head;rw[EG]at t1;rw[hov]at t2;obtain⟨n,hn⟩:∃n,n=sets.length:=⟨_,rfl⟩;rw[<-hn]at t1 Je hs0 hall;rw[hall]at t2;obtain⟨i0,hi,hz0,hz1,hz2⟩:=info_parts Tryz.adx;have hmk:∀W:ak,(zg 151 (iV n) (iV n)).run ah W= .ok (sL W.heap.size n n) (W.alloc (.cells (madeCells #[.bool false] n) 4)):=λW=>by have:=run_make (P:=ah) W 151 4 i0 (.bool false) Tryz.underlying151 hi hz0 .i64 .i64 n n (by omega) (AQ _) (by rw[hz2];omega) (by omega);rw[hz1]at this;simpa[Gy]using this
 clear hi hz0 hz1 hz2 i0;obtain⟨i0,hi,hz0,hz1,hz2⟩:=info_parts Tryz.Qi;have amd:∀W:ak,(zg 88 (iV n) (iV n)).run ah W= .ok (sL W.heap.size n n) (W.alloc (.cells (madeCells #[.slice none 0 0] n) 24)):=λW=>by have:=run_make (P:=ah) W 88 24 i0 (.slice none 0 0) rV hi hz0 .i64 .i64 n n (by omega) (AQ _) (by rw[hz2];omega) (by omega);rw[hz1]at this;simpa[Gy]using this
 have hH:=ae (show _/\_/\_/\_ from⟨hM,hF,hok,hT⟩);have HV:=ae (show _/\_/\_/\_ from⟨EG,hov,T6,hn⟩);clear hM hF hok hT EG hov T6 hn hi hz0 hz1 hz2;have htl:=lt_of_heap hH.2.2.2.head;have uE:=ae hall;clear hall;obtain⟨W2,hW2⟩:∃W2,W2=(w.alloc (.cells (madeCells #[.bool false] n) 4)).alloc (.cells #[sL w.heap.size n n] 151):=⟨_,rfl⟩;have hb2:aI w.heap.size w W2:=by rw[hW2];exact((aB _ w).alloc (au _) _).alloc (by simp) _
 have t1':=(hb2.cell (p:=(aD tb 1)) htl).trans t1;have t2':=(hb2.cell (p:=(aD tb 2)) htl).trans t2;have hz2:W2.heap.size=w.heap.size+2:=by rw[hW2];simp
 have vh:=ae (show _/\_/\_ from⟨hW2,hb2,hz2⟩);clear hW2 hb2 hz2;unfold aP;go_enter Tryz.func107,Tryz.ntmps107;go_upto_region 2 with(fail);rw[<-vh.1];go_upto_region 3 with(fail);obtain⟨W4,tM⟩:∃W4,W4=(W2.alloc (.cells (madeCells #[.slice none 0 0] n) 24)).alloc (.cells #[sL W2.heap.size n n] 88):=⟨_,rfl⟩;rw[<-tM];have hfa:uG w n (λ_=>0) (aQ n (.slice none 0 0)) (aQ n []) W4:=by
  obtain⟨e2,hb2,hz2⟩:=vh.out;have o4:∀b,b<W2.heap.size->W4.heap[b]?=W2.heap[b]?:=λb hb=>by rw[tM,aC _ _ _ (by simp;omega),aC _ _ _ hb]
  refine⟨?_,?_,?_,?_,bK,bK,λj v l hv hl=>?_,λj v b hv hb=>?_,λb hb=>absurd rfl hb,?_⟩;·rw[o4 _ (by omega),e2,aC _ _ _ (by simp),<-Lh];exact heap_alloc_new w _
  ·rw[o4 _ (by omega),e2];have:=heap_alloc_new (w.alloc (.cells (madeCells #[.bool false] n) 4)) (.cells #[sL w.heap.size n n] 151);rw[bM]at this;exact this
  ·rw[tM,aC _ _ _ (by simp;omega),<-hz2,<-VR];exact heap_alloc_new W2 _
  ·rw[tM,<-hz2];have:=heap_alloc_new (W2.alloc (.cells (madeCells #[.slice none 0 0] n) 24)) (.cells #[sL W2.heap.size n n] 88);rw[bM,hz2]at this;rw[hz2];exact this
  ·have h1:=iR (aS hv);have h2:=iR (aS hl);rw[h1,h2];exact bS _ _ _ _
  ·rw[iR (aS hv)]at hb;cases hb
  ·rw[tM];exact(hb2.alloc hb2.size _).alloc (by simp;have:=hb2.size;omega) _
 have t2':W4.cell? (aD tb 2)=some (sL og n oc):=(hfa.below.cell (p:=(aD tb 2)) htl).trans t2;have HFA:=ae hfa;have hz2:=vh.2.2;rw[hz2];clear hz2 hfa tM hmk amd vh t1';rw[show w.heap.size+2+1=w.heap.size+3 from rfl];go_wp2_with fail;obtain⟨i3,hi,hz0,hz1,hz2⟩:=info_parts Tryz.info3';have hnz:(n:Int)<=400:=by omega
 go_loopw[48](λiv wr=>∃(i:Nat)(L':Nat->Nat)(sV:List ay)(fr:List (List Nat)),i<=n/\iv= .int .i64 i/\Hid (uG w n L' sV fr wr/\tJ rows n i 0 fr))(λiv _=>n-(intOf iv).toNat);case atStart=>exact⟨0,_,_,_,by omega,rfl,HFA,tJ.start rows n⟩
 case round=>
  obtain⟨i,L',sV,fr,hi',rfl,HR⟩:=hrel;by_cases hlt:i<n;·
   have hall:=uE.out;obtain⟨r,hr⟩:∃r,rows[i]?=some r:=⟨_,ar (by omega)⟩;obtain⟨rb,rN⟩:∃rb,oI[i]?=some rb:=⟨_,ar (by rw[hH.2.2.2.si];omega)⟩;obtain⟨s,hs⟩:∃s,sets[i]?=some s:=⟨_,ar (by rw[<-HV.2.2.2];exact hlt)⟩;have hrow:=hH.2.2.1.row i r s hr hs;have hrl:=hrow.len;obtain⟨m,hm⟩:∃m,m=M.kinds.length:=⟨_,rfl⟩;rw[<-hm]at hrl hkl hk0;have kr:wr.cell? (aD og i)=some (sL rb m m):=by have h1:=hH.2.2.2.F6;rw[HV.2.1]at h1;have h2:=gJ h1 (j:=i) (u:=tY rb r.length) (by rw[bp,(PW (z:=(rb,r))).2 ⟨rN,hr⟩];rfl);rw[hrl]at h2;exact(HR.1.below.cell (p:=(aD og i)) (lt_of_cell h2)).trans h2
   have kb:=hH.2.2.2.KT i rb r rN hr;have kbw:=(HR.1.below.block rb (lt_of_heap kb)).trans kb;have H1:=ae (show _/\_/\_/\_/\_/\_ from⟨hr,hrow,hrl,kb,hs,hm⟩);have hiz:(i:Int)<(n:Int):=by omega
   have amr:(0:Int)<=(i:Int):=by omega
   clear hall hr rN hs hrow hrl hm kb kbw;go_wp2_with fail;clear kr;go_loopw[55](λkv wr=>∃(k:Nat)(L':Nat->Nat)(sV:List ay)(fr:List (List Nat)),k<=m/\kv= .int .i64 k/\Hid (uG w n L' sV fr wr/\tJ rows n i k fr))(λkv _=>m-(intOf kv).toNat);case atStart=>exact⟨0,L',sV,fr,by omega,rfl,HR⟩
   case round=>
    clear HR;obtain⟨k,L2,fv2,fr2,hk,rfl,tI⟩:=hrel;by_cases ahS:k<m;·
     obtain⟨z,hz⟩:∃z,r[k]?=some z:=⟨_,ar (by rw[H1.2.2.1];exact ahS)⟩;have kz:wr.cell? (aD rb k)=some (iV z):=by
      have h2:w.cell? (aD rb k)=some (iV z):=by rw[aq H1.2.2.2.1];simp[ki,hz]
      exact(tI.1.below.cell (p:=(aD rb k)) (lt_of_cell h2)).trans h2
     have hgo:=Qr H1.1 hz;obtain⟨c,hc⟩:∃c,M.kinds[k]?=some c:=⟨_,ar (by rw[<-H1.2.2.2.2.2];exact ahS)⟩;obtain⟨z',hz',hcell⟩:=H1.2.1.cell k c hc;rw[hz]at hz';obtain rfl:=aJ hz';have hkz:(k:Int)<(m:Int):=by omega
     have ad4:(0:Int)<=(k:Int):=by omega
     rcases hcell with⟨_,rfl⟩|⟨_,y,rfl,hy⟩;·have hsk:=tI.2.skip (by rw[hgo];decide);have HN:=ae (aA tI.1 hsk);clear hsk hgo hz hc hz';go_wp2_with fail;exact⟨⟨k+1,L2,fv2,fr2,by omega,by go_num,HN⟩,by simp[intOf];omega⟩
     ·have hyn:y<n:=by rw[HV.2.2.2];exact(List.getElem?_eq_some_iff.1 hy).1
      obtain⟨v,hv⟩:∃v,fv2[y]?=some v:=⟨_,ar (by rw[tI.1.Jj];exact hyn)⟩;obtain⟨l,hl⟩:∃l,fr2[y]?=some l:=⟨_,ar (by rw[tI.1.si];exact hyn)⟩;have hrow:=tI.1.rows y v l hv hl;obtain⟨va,vc,ZZ⟩:=ownsRow_form hrow;have hlf:l.length<=110000:=by have:=tI.2.few l (aS hl);omega
      have c6:wr.cell? (aD (w.heap.size+3) 0)=some (sL (w.heap.size+2) n n):=aq tI.1.c6;have cy:wr.cell? (aD (w.heap.size+2) y)=some (.slice va l.length vc):=by rw[aq tI.1.fb];simp[hv,ZZ]
      have hyz:(y:Int)<(n:Int):=by omega
      have alv:(0:Int)<=(y:Int):=by omega
      have hl6:=lt_of_heap tI.1.c6;have hlb:=lt_of_heap tI.1.fb;have hgk:goes rows i k=some y:=by rw[hgo,if_pos alv];simp
      rw[ZZ]at hrow;have H2:=ae (show _/\_/\_/\_ from⟨hv,hl,ZZ,hgk⟩);clear hgo hz hc hz' hy hv hl ZZ hgk;go_wp2_with fail;refine jz [(0,false),(1,false),(2,false),(3,false),(4,false),(5,false),(6,false),(7,true),(8,true),(9,false),(10,true)] 10 (λW'=>W'.cell? (aD (w.heap.size+3) 0)=some (sL (w.heap.size+2) n n)/\W'.cell? (aD (w.heap.size+2) y)=some (.slice va l.length vc)) (by kernel_rfl) (by kernel_rfl) ⟨c6,cy⟩ ?_;iterate 7(
 refine aR ?_ rfl rfl (λw' hS=>?_) ?_;rotate_left;·obtain⟨q0,q1⟩:=hS;go_simp;try rfl
 simp only[aN,ai,aj])
      have hrow3:(wr.alloc (.cells #[iV i] 3)).drew.ownsRow 0 3 1 (.slice va l.length vc) l.length (l.map cJ):=(hrow.alloc _).drew;have hc3:∀j u,[tR .i64 i][j]?=some u->(wr.alloc (.cells #[iV i] 3)).drew.cell? (((aD wr.heap.size 0):Addr).add j)=some u:=by intro j u hj;match j,hj with|0,hj=>simp at hj;subst hj;simp[iU]|j+1,hj=>simp at hj
      have hS3:(wr.alloc (.cells #[iV i] 3)).drew.cell? (aD (w.heap.size+3) 0)=some (sL (w.heap.size+2) n n)/\(wr.alloc (.cells #[iV i] 3)).drew.cell? (aD (w.heap.size+2) y)=some (.slice va l.length vc):=⟨(aV _ _ _ hl6).trans c6,(aV _ _ _ hlb).trans cy⟩;have De:bL wr (.slice va l.length vc) (wr.alloc (.cells #[iV i] 3)).drew (.slice va l.length vc):=(bL.alloc wr _ _).trans (bL.same _ (Same.drew _));have M0:=ae (aA De hS3);clear De c6 cy;refine bg rfl rfl (by decide) (λK hK=>?_);have HK:=ae hK;clear hK;go_simp;refine HK _ _ hS3 ?_;clear HK K hS3;refine bg rfl rfl (by decide) (λK hK=>?_);have HK:=ae hK;clear hK;refine wp_append_lies _ _ 24 rfl 3 i3 (iV 0) 1 8 sP hi hz0 hz1 hz2 rfl (by decide) _ _ _ rfl hrow3 (aD wr.heap.size 0) 1 1 [iV i] rfl rfl hc3 (by simp[dN]) (by decide) (by unfold maxLen;omega) (by omega) ?_;intro v8 W8 EJ EN EM;have yQ:W8.ownsRow 0 3 1 v8 (l.length+1) ((l++[i]).map cJ):=by rw[cQ];exact EJ
      obtain⟨g8,aaQ,hv8⟩:=bX yQ;have Dc:=M0.1.trans (bL.append EN EM);rw[<-H2.2.2.1]at Dc;obtain⟨L3,ah5⟩:=tI.1.add H2.1 H2.2.1 Dc yQ;have hfr3:=tI.2.add H2.2.2.2 H2.2.1;have hnb:∀b,v.ownBlock=some b->w.heap.size+4<=b:=λb e=>(tI.1.past b (by rw[tI.1.lab y v b H2.1 e];omega)).1;have oY:=(Dc.block hl6 λe=>by have:=hnb _ e;omega).trans tI.1.c6;have hbf:=(Dc.block hlb λe=>by have:=hnb _ e;omega).trans tI.1.fb;have hS8:W8.cell? (aD (w.heap.size+3) 0)=some (sL (w.heap.size+2) n n)/\W8.cell? (aD (w.heap.size+2) y)=some (.slice va l.length vc):=by refine⟨aq oY,?_⟩;rw[aq hbf,<-H2.2.2.1];have:=H2.1;simp[this]
      have hf8:W8.frozen? (aD (w.heap.size+2) y)=false:=aU hbf;have HN:=ae (aA ah5 hfr3);subst hv8;clear EJ yQ EN EM Dc ah5 hfr3 hnb oY hbf hrow3 hc3 M0;refine HK _ _ hS8 ?_;clear HK K;simp only[aN,ai,aj];refine aR ?_ rfl rfl (λw' hS=>?_) ?_;rotate_left;·obtain⟨q0,q1⟩:=hS;go_simp;try rfl
      simp only[aN,ai,aj];obtain⟨q0,q1⟩:=hS8;refine cO rfl rfl (λK hK=>?_);have HK:=ae hK;clear hK;go_simp;refine HK _ _ ?_;clear HK K q0 q1 hf8;go_wp2_with fail;exact⟨⟨k+1,L3,_,_,by omega,by go_num,HN⟩,by simp[intOf];omega⟩
    ·obtain rfl:k=m:=by omega
     go_wp2_with fail;have hrw:=tI.2;rw[<-H1.2.2.1]at hrw;refine⟨⟨i+1,L2,fv2,fr2,by omega,by go_num,tI.1,hrw.row H1.1 (by rw[H1.2.2.1];exact hkl)⟩,by simp[intOf];omega⟩
  ·obtain rfl:i=n:=by omega
   have hmf:∀(fn:Fn)(first cap:Array ay)(w:ak),(Instr.makeFunc fn first cap).run ah w= .ok (.func fn first cap) w:=λ_ _ _ _=>rfl;obtain⟨cb,hcb⟩:∃cb,cb=wr.heap.size:=⟨_,rfl⟩;have amj:=lt_of_heap HR.1.c6;obtain⟨W5,uM⟩:∃W5,W5=wr.alloc (.cells #[.func (.func 155) #[] #[pT (w.heap.size+1),pT (w.heap.size+3),pT wr.heap.size]] 314):=⟨_,rfl⟩;have hb5:aI wr.heap.size wr W5:=by rw[uM];exact(aB _ wr).alloc (au _) _
   have Dh:=HR.1.under hb5;have aek:W5.heap[cb]?=some (.cells #[XP (w.heap.size+1) (w.heap.size+3) cb] 314 (0,0)):=by rw[uM,hcb];exact heap_alloc_new wr _
   have Hg:nE (w.heap.size+1) (w.heap.size+3) cb w.heap.size (w.heap.size+2) sV fr (aQ i false) W5:=by
    have hrl:(aQ i false).length=i:=bK;refine⟨by rw[hrl];exact Dh.c5,by rw[hrl];exact Dh.c6,aek,Dh.lb,Dh.fb,by rw[hrl];exact Dh.Jj,by rw[hrl];exact Dh.si,λj v l hv hl=>⟨Dh.rows j v l hv hl,λe=>?_⟩,λl hl x hx=>?_,λl hl=>?_,by omega,by omega,by omega,by omega⟩;·have h1:=Dh.lab j v _ hv e;have:=Dh.past w.heap.size (by rw[h1];omega);omega
    ·rw[hrl];obtain⟨y,hy⟩:=List.mem_iff_getElem?.1 hl;have hyn:y<i:=by rw[<-HR.2.len];exact(List.getElem?_eq_some_iff.1 hy).1
     have hg:fr.getD y []=l:=by rw[aw,hy];rfl
     rcases(HR.2.iff y hyn x).1 (by rw[hg];exact hx)with⟨h1,_⟩|⟨_,q,hq,_⟩;·exact h1
     ·omega
    ·have:=HR.2.few l hl;omega
   have t15:W5.cell? (aD tb 1)=some (sL sg i sc):=(Dh.below.cell (p:=(aD tb 1)) htl).trans t1;have H5:=ae (show _/\_/\_/\_ from⟨Hg,Dh.below,HR.2,aek⟩);have HW5:=ae (aA uM hcb);have amU:w.heap.size+4<=cb:=by omega
   clear Hg Dh hb5 uM hcb aek hlt;go_upto_region 15 with(fail);rw[<-HW5.1];rw[<-HW5.2];clear hmf;go_wp2_with fail;clear t15;go_loopw[79](λjv wx=>∃(j:Nat)(lv:List Bool),j<=i/\jv= .int .i64 j/\Hid (mL M sets rows fr j lv/\nE (w.heap.size+1) (w.heap.size+3) cb w.heap.size (w.heap.size+2) sV fr lv wx/\aI w.heap.size w wx))(λjv _=>i-(intOf jv).toNat);case atStart=>refine⟨0,aQ i false,by omega,rfl,?_,H5.1,H5.2.1⟩;rw[HV.2.2.2];exact mL.start M sets rows fr
   case round=>
    obtain⟨j,lv,hj,rfl,HJ⟩:=hrel;by_cases hjl:j<i;·
     obtain⟨s,hs⟩:∃s,sets[j]?=some s:=⟨_,ar (by rw[<-HV.2.2.2];exact hjl)⟩;have TX:=hH.2.2.2.fx;rw[HV.1]at TX;have k0:∀q u,(setCells sets)[j*3+q]?=some u->wr.cell? (aD sg (j*3+q))=some u:=λq u hu=>by have h2:=gJ TX hu;exact(HJ.2.2.cell (p:=(aD sg (j*3+q))) (lt_of_cell h2)).trans h2
     have s0:wr.cell? (aD sg (j*3))=some (uV s.a):=k0 0 _ (iG _ _ _ hs 0 (by decide));have s1:wr.cell? (aD sg (j*3+1))=some (uV s.b):=k0 1 _ (iG _ _ _ hs 1 (by decide));have s2:wr.cell? (aD sg (j*3+2))=some (uV s.c):=k0 2 _ (iG _ _ _ hs 2 (by decide));have I6:=((hH.2.2.1.reach s (aS hs)).ok hH.1.1 hH.2.1).1;obtain⟨W6,hW6⟩:∃W6,W6=wr.alloc (.cells #[uV s.a,uV s.b,uV s.c] 306):=⟨_,rfl⟩;have oY:aI wr.heap.size wr W6:=by rw[hW6];exact(aB _ wr).alloc (au _) _
     have aeo:=HJ.2.2.trans (oY.mono HJ.2.2.size);have hM6:bQ W6 mb M:=⟨hH.1.1,(aeo.block mb (lt_of_heap hH.1.2)).trans hH.1.2⟩;have hcall:=zX mb M s W6 I6 hM6;obtain⟨en,hen⟩:∃en,en=M.ends s:=⟨_,rfl⟩;rw[<-hen]at hcall;have HC:=ae (show _/\_/\_/\_/\_ from⟨hcall,hs,hen,oY,aeo⟩);have HW6:=ae hW6;have hjz:(j:Int)<(i:Int):=by omega
     have amq:(0:Int)<=(j:Int):=by omega
     clear TX k0 I6 hM6 oY aeo hcall hs hen hW6;go_wp2_with fail;rw[<-HW6];have hcall:=HC.1;unfold aP aH.val aH.cells at hcall;refine hcall.mono ?_;clear hcall;rintro en7 w7⟨rfl,lC⟩;have SJ:=HC.2.2.2.1.trans (lC.mono HC.2.2.2.1.size);have aiz:=HJ.2.1.under SJ;have ait:=HC.2.2.2.2.trans (lC.mono HC.2.2.2.2.size);have H7:=ae (aA aiz ait);clear SJ aiz ait lC s0 s1 s2;cases en;·have HN:=ae (HJ.1.skip HC.2.1 HC.2.2.1.symm);go_wp2_with fail;exact⟨⟨j+1,lv,by omega,by go_num,HN.out,H7.1,H7.2⟩,by simp[intOf];omega⟩
     ·have k11:w7.cell? (aD cb 0)=some (.func (.func 155) #[] #[pT (w.heap.size+1),pT (w.heap.size+3),pT cb]):=aq H7.1.cb;have aag:lv.length=i:=by rw[HJ.1.len,<-HV.2.2.2]
      have HC8:=ae (XO (w.heap.size+1) (w.heap.size+3) cb w.heap.size (w.heap.size+2) sV fr (jV lv) lv j w7 (au _) (by omega) (by omega) H7.1);clear aag;go_wp2_with fail;have hcall:=HC8.out;unfold aP at hcall;refine hcall.mono ?_;clear hcall;rintro en8 w8⟨rfl,oK,ahC,aiy,abY⟩;have hfr:=H5.2.2.1;have hall:=uE.out;rw[HV.2.2.2]at hfr hall;have ahG:=HJ.1.mark hfr hall HC.2.1 HC.2.2.1.symm ahC;have ais:aI w.heap.size w w8:=H7.2.trans (abY.toBelow H7.2.size (λk e=>by omega));have HN:=ae (show _/\_/\_ from⟨ahG,aiy,ais⟩);clear hfr hall ahG ais ahC aiy abY k11;go_wp2_with fail;exact⟨⟨j+1,oK,by omega,by go_num,HN⟩,by simp[intOf];omega⟩
    ·obtain rfl:j=i:=by omega
     have aag:lv.length=j:=by rw[HJ.1.len,<-HV.2.2.2]
     have Ge:=My.of hH.1 hH.2.2.1 hH.2.2.2 HV.2.2.2 rfl uE HV.1 HV.2.1 HV.2.2.1 aag HJ.2.1 HJ.2.2;obtain⟨m,hm⟩:∃m,m=M.kinds.length:=⟨_,rfl⟩;rw[<-hm]at Ge;obtain⟨P,hPd⟩:∃P:ak->Prop,P=λw'=>My w' mb tb (w.heap.size+1) sg sc og oc kg kc w.heap.size j m M sets rows lv/\aI w.heap.size w w':=⟨_,rfl⟩;have hP:P wr:=by rw[hPd];exact⟨Ge,HJ.2.2⟩
     have MZ:Hid (JK P):=ae (by rw[hPd];exactλw1 w2 h hb=>⟨h.1.below hb,h.2.trans (hb.mono h.2.size)⟩);have HPI:Hid (∀w',P w'->My w' mb tb (w.heap.size+1) sg sc og oc kg kc w.heap.size j m M sets rows lv/\aI w.heap.size w w'):=ae (λw' h=>by rw[hPd]at h;exact h);have HLV:Hid (mL M sets rows fr sets.length lv/\tJ rows sets.length sets.length 0 fr):=ae (by have h1:=HJ.1;have h2:=H5.2.2.1;rw[HV.2.2.2]at h1 h2;exact⟨h1,h2⟩);have HM:=ae hm;have hmk:∀W:ak,(zg 24 (iV j) (iV j)).run ah W= .ok (sL W.heap.size j j) (W.alloc (.cells (madeCells #[iV 0] j) 3)):=λW=>by have:=run_make (P:=ah) W 24 3 i3 (iV 0) sP hi hz0 .i64 .i64 j j (by omega) (AQ _) (by rw[hz2];omega) (by omega);rw[hz1]at this;simpa[Gy]using this
     have t1:=Ge.t1;have HWR:=ae hP;clear Ge hPd hP aag hm hjl hi hz0 hz1 hz2;go_upto_region 22 with(fail);obtain⟨F,hF⟩:∃F,F=wr.heap.size:=⟨_,rfl⟩;obtain⟨W8,YP⟩:∃W8,W8=wr.alloc (.cells (madeCells #[iV 0] j) 3):=⟨_,rfl⟩;have hst:Hid (fW W8 F (aQ j 0)/\Kept P F W8):=ae (by rw[hF,YP,yL];exact⟨heap_alloc_new wr _,(Kept.start HWR).on ((aB _ wr).alloc (au _) _)⟩);have HI0:Hid (oC M sets lv 0 (aQ j 0)):=ae (by rw[HV.2.2.2];exact oC.start M sets lv);rw[<-hF,<-YP];have HMK:=ae hmk;clear hF YP t1 HWR HJ hmk;have t1:=(HPI _ (hst.2.now MZ)).1.t1;go_wp2_with fail;clear t1;go_loopw[102](λiv wx=>∃(i:Nat)(b:List Nat),i<=j/\iv= .int .i64 i/\Hid (oC M sets lv i b/\fW wx F b/\Kept P F wx))(λiv _=>j-(intOf iv).toNat);case atStart=>exact⟨0,_,by omega,rfl,HI0,hst.1,hst.2⟩
     case round=>
      clear hst HI0;obtain⟨i,b,hi,rfl,HI⟩:=hrel;by_cases hil:i<j;·
       obtain⟨s,hs⟩:∃s,sets[i]?=some s:=⟨_,ar (by rw[<-HV.2.2.2];exact hil)⟩;have MU:=HPI _ (HI.2.2.now MZ);have s0:=MU.1.set' i s hs 0 (by decide);have s1:=MU.1.set' i s hs 1 (by decide);have s2:=MU.1.set' i s hs 2 (by decide);have e0:s.word 0=s.a:=rfl;have e1:s.word 1=s.b:=rfl;have e2:s.word 2=s.c:=rfl;rw[FN,e0]at s0;rw[e1]at s1;rw[e2]at s2;have I6:=((hH.2.2.1.reach s (aS hs)).ok hH.1.1 hH.2.1).1;obtain⟨W6,hW6⟩:∃W6,W6=wr.alloc (.cells #[uV s.a,uV s.b,uV s.c] 306):=⟨_,rfl⟩;have oY:aI wr.heap.size wr W6:=by rw[hW6];exact(aB _ wr).alloc (au _) _
       have hk6:=HI.2.2.on (oY.mono HI.2.2.size);have Ga:=HI.2.1.old (oY.block F HI.2.1.lt);have aaq:=(HPI _ (hk6.now MZ)).1;have cl6:=aaq.cl;have cv6:=aaq.lvc i hil;have hcall:=zX mb M s W6 I6 aaq.jZ;obtain⟨en,hen⟩:∃en,en=M.ends s:=⟨_,rfl⟩;obtain⟨l,hl⟩:∃l,l=lv.getD i false:=⟨_,rfl⟩;rw[<-hen]at hcall;rw[<-hl]at cv6;rw[hW6]at cl6 cv6;have HC:=ae (show _/\_/\_/\_/\_/\_ from⟨hcall,hs,hen,hl,Ga,hk6⟩);have HW6:=ae hW6;have hiz:(i:Int)<(j:Int):=by omega
       have amr:(0:Int)<=(i:Int):=by omega
       clear MU e0 e1 e2 I6 oY hk6 Ga aaq hcall hs hen hl hW6;cases l;·have HN:=ae (HI.1.skip HC.2.2.2.1.symm);go_wp2_with fail;rw[<-HW6];exact⟨⟨i+1,b,by omega,by go_num,HN.out,HC.2.2.2.2.1,HC.2.2.2.2.2⟩,by simp[intOf];omega⟩
       ·go_wp2_with fail;rw[<-HW6];have hcall:=HC.1;unfold aP aH.val aH.cells at hcall;refine hcall.mono ?_;clear hcall;rintro en7 w7⟨rfl,lC⟩;have hr7:=HC.2.2.2.2.1.old (lC.block F HC.2.2.2.2.1.lt);have hk7:=HC.2.2.2.2.2.on (lC.mono HC.2.2.2.2.2.size);have hlen:i<b.length:=by rw[HI.1.len,<-HV.2.2.2];exact hil
        have c7:=hr7.cell hlen;have f7:=hr7.free i;have hput:=HI.1.put HC.2.1;have hiv:Cz M lv i s=if en then 2 else 1:=by unfold Cz;rw[<-HC.2.2.2.1,<-HC.2.2.1];rfl
        rw[hiv]at hput;have H7:=ae (show _/\_/\_ from⟨hr7,hk7,hput⟩);clear hr7 hk7 hlen hput hiv lC s0 s1 s2 cl6 cv6;cases en;·go_wp2_with fail;exact⟨⟨i+1,_,by omega,by go_num,H7.2.2,H7.1.set i 1,H7.2.1.on ((aB _ _).setCell (p:=(aD F i)) (au _) _)⟩,by simp[intOf];omega⟩
        ·go_wp2_with fail;exact⟨⟨i+1,_,by omega,by go_num,H7.2.2,H7.1.set i 2,H7.2.1.on ((aB _ _).setCell (p:=(aD F i)) (au _) _)⟩,by simp[intOf];omega⟩
      ·obtain rfl:j=i:=by omega
       have AL:Hid (ml M sets rows b):=ae (by have h:=HI.1;rw[HV.2.2.2]at h;exact h.ok HLV.1 HLV.2 (uE.trans HV.2.2.2) hH.2.2.1);have HIR:=ae (show fW wr F b/\P wr from⟨HI.2.1,HI.2.2.now MZ⟩);clear HI hil hi;have SB:m<=256:=by rw[HM];exact hkl
       go_wp2_with fail;go_loopw[14,17](λbv nv wx=>∃(B0 cnt:Nat)(b:List Nat),bv=sL B0 j j/\nv= .int .i64 cnt/\cnt<=j/\Hid (ml M sets rows b/\(cnt=0\/xd b cnt)/\fW wx B0 b/\P wx))(λ_ nv _=>j-(intOf nv).toNat);case atStart=>exact⟨F,0,b,rfl,rfl,by omega,AL,.inl rfl,HIR⟩
       case round=>
        clear AL HIR b;obtain⟨B0,cnt,b,rfl,rfl,hcj,HB⟩:=hrel;have t3:=(HPI _ HB.2.2.2).1.t3;go_wp2_with fail;clear t3;go_loopw[18,130](λnv kv wx=>∃(k nb:Nat)(c:List Nat),k<=m/\kv= .int .i64 k/\nv=sL nb j j/\Hid (Splits rows 0 k b c/\fW wx B0 b/\fW wx nb c/\P wx))(λ_ kv _=>m-(intOf kv).toNat);case atStart=>exact⟨0,B0,b,by omega,rfl,rfl,Splits.start rows b,HB.2.2.1,HB.2.2.1,HB.2.2.2⟩
        case round=>
         obtain⟨k,nb,c,hk,rfl,rfl,HK⟩:=hrel;by_cases T7:k<m;·
          have hmm:=@run_makeMap ah;obtain⟨W1,EI,CC,hg1,hz1⟩:=bV.update zE (bV.made qx wr) (0,0) trivial (λ_ _=>trivial) nO (cJ 0);have OB:(iC 325 (.map (some wr.heap.size)) (.agg #[iV 0,iV 0]) (iV 0)).run ah (wr.alloc (.map #[] 0))= .ok () W1:=EI;have WV:bV qx W1 wr.heap.size (vals cJ [((0,0),0)]):=CC;obtain⟨g,hg⟩:∃g,g=wr.heap.size:=⟨_,rfl⟩;have hz:W1.heap.size=g+1:=by rw[hz1,hg];simp
          obtain⟨W2,hW2⟩:∃W2,W2=W1.alloc (.cells (madeCells #[iV 0] j) 3):=⟨_,rfl⟩;obtain⟨PR,hPR⟩:∃PR:ak->Prop,PR=λw'=>P w'/\fW w' B0 b/\fW w' nb c:=⟨_,rfl⟩;have zm:Hid (JK PR):=ae (by rw[hPR];exactλw1 w2 h hb=>⟨MZ _ _ h.1 hb,h.2.1.old (hb.block _ h.2.1.lt),h.2.2.old (hb.block _ h.2.2.lt)⟩);have HRI:Hid (∀w',PR w'->P w'/\fW w' B0 b/\fW w' nb c):=ae (λw' h=>by rw[hPR]at h;exact h);have hb1:aI g wr W1:=by have h0:aI wr.heap.size wr (wr.alloc (.map #[] 0)):=(aB _ wr).alloc (au _) _;rw[hg];exact h0.grown hg1 h0.size λb e=>by have:=aJ e;omega
          have hk2:Kept PR g W2:=by
           have h0:PR wr:=by rw[hPR];exact⟨HK.2.2.2,HK.2.1,HK.2.2.1⟩
           have h1:=Kept.start h0;rw[<-hg]at h1;rw[hW2];exact h1.on (hb1.alloc (by omega) _)
          have hmap2:bV qx W2 g (vals cJ [((0,0),0)]):=by rw[hW2,hg];exact WV.of_block (aC W1 _ _ (by omega))
          have hrow2:fW W2 (g+1) (aQ j 0):=by rw[hW2,<-hz,yL];unfold fW;rw[<-yL];exact heap_alloc_new W1 _
          have hcl:c.length=j:=by rw[HK.1.len,HB.1.len,<-HV.2.2.2]
          have ahg:lJ rows b c k 0 [((0,0),0)] (aQ j 0):=by have:=lJ.start rows b c k;rw[hcl]at this;exact this
          have H2:=ae (show _/\_/\_/\_ from⟨ahg,hmap2,hrow2,hk2⟩);have vh:=ae (aA hW2 (aA hg hz));have hmk:=HMK.out;have Yq:=ae hcl;have hkz:(k:Int)<(m:Int):=by omega
          have ad4:(0:Int)<=(k:Int):=by omega
          clear EI CC WV hz1 hg1 hb1 hk2 hmap2 hrow2 ahg hPR hW2 hg hz hcl;go_wp2_with fail;rw[<-vh.1,<-vh.2.1,vh.2.2];clear hmk hmm OB vh;go_loopw[141](λiv wx=>∃(i:Nat)(ids:List ((Nat×Nat)×Nat))(d:List Nat),i<=j/\iv= .int .i64 i/\Hid (lJ rows b c k i ids d/\bV qx wx g (vals cJ ids)/\fW wx (g+1) d/\Kept PR g wx))(λiv _=>j-(intOf iv).toNat);case atStart=>exact⟨0,_,_,by omega,rfl,H2⟩
          case round=>
           clear H2;obtain⟨i,ids,d,hi,rfl,HI⟩:=hrel;by_cases hil:i<j;·
            obtain⟨hp,rN,hrc⟩:=HRI.out _ (HI.2.2.2.now zm);have MU:=(HPI _ hp).1;obtain⟨r,hr⟩:∃r,rows[i]?=some r:=⟨_,ar (by rw[uE];exact hil)⟩;obtain⟨s,hs⟩:∃s,sets[i]?=some s:=⟨_,ar (by rw[<-HV.2.2.2];exact hil)⟩;obtain⟨kc',hkc⟩:∃c,M.kinds[k]?=some c:=⟨_,ar (by rw[<-HM];exact T7)⟩;obtain⟨z,hz,hcell⟩:=(hH.2.2.1.row i r s hr hs).cell k kc' hkc;obtain⟨rb,hrw,hrz⟩:=MU.row i r hr;have kz:=hrz k z hz;have t2:=MU.t2;have hgo:=Qr hr hz;obtain⟨t,ht⟩:∃t,t=dest rows b i k:=⟨_,rfl⟩;have HT:=ae ht;have BX:=ae (show _/\_/\_ from⟨hp,rN,hrc⟩);have hcl:wr.cell? (aD (w.heap.size+1) 0)=some (sL w.heap.size j j):=MU.cl;have ah0:(0:Int)<=(i:Int):=by omega
            have ahZ:(i:Int)<(j:Int):=by omega
            have HRC:=ae hrc;clear hp rN hrc hr hs hkc hrz hz ht;go_upto_region 41 with(fail);rename_i K1 Jg;go_cut[24]from 143 to 194(λjv wy=>jv= .int .i64 z/\wy=wr);case first=>go_wp2_with fail;go_meet;exact⟨rfl,rfl⟩
            case rest=> obtain⟨rfl,rfl⟩:=hcut;refine Jg _ _ ?_;clear Jg K1;go_cut[23]from 143 to 194(λtv wy=>tv= .int .i64 t/\wy=wc);case first=>
                         rcases hcell with⟨_,rfl⟩|⟨_,y,rfl,hy⟩;·have HT0:Hid (t=0):=ae (by rw[HT];unfold dest;rw[hgo,if_neg (by decide)]);clear hgo MU;go_wp2_with fail;go_meet;exact⟨by rw[HT0];rfl,rfl⟩
                         ·have hyj:y<j:=by rw[HV.2.2.2];exact(List.getElem?_eq_some_iff.1 hy).1
                          have hdt:t=blk b y:=by rw[HT];unfold dest;rw[hgo,if_pos (by omega)];simp
                          have cv:=MU.lvc y hyj;have hmk:=HB.1.mark HLV.1 HLV.2 (uE.trans HV.2.2.2) hH.2.2.1 (y:=y) (by rw[<-HV.2.2.2];exact hyj);have cb:=BX.2.1.cell (i:=y) (by rw[HB.1.len,<-HV.2.2.2];exact hyj);rw[<-hdt]at hmk cb;obtain⟨ly,hly⟩:∃ly,ly=lv.getD y false:=⟨_,rfl⟩;rw[<-hly]at cv hmk;have aod:=ae hmk;have hy0:(0:Int)<=(y:Int):=by omega
                          have hyz:(y:Int)<(j:Int):=by omega
                          clear hgo MU hdt hmk hly hy;cases ly;·have HT0:Hid (t=0):=ae (by have:=aod.out;exact dP λe=>by have:=this.1 e;cases this);go_wp2_with fail;go_meet;exact⟨by rw[HT0];rfl,rfl⟩
                          ·go_wp2_with fail;go_meet;exact⟨rfl,rfl⟩
                        case rest=>
                         obtain⟨rfl,rfl⟩:=hcut;clear hcell kz t2 hgo hrw hcl;have cx:=HRC.cell (i:=i) (by rw[Yq];exact hil);have hmk:=HB.1.mark HLV.1 HLV.2 (uE.trans HV.2.2.2) hH.2.2.1 (y:=i) (by rw[<-HV.2.2.2];exact hil);have Ws:=HK.1.zero i (by rw[HB.1.len,<-HV.2.2.2];exact hil);rw[hmk]at Ws;obtain⟨k1,hk1⟩:∃k1,k1=(mW rows b c k i).1:=⟨_,rfl⟩;obtain⟨k2,hk2⟩:∃k2,k2=(mW rows b c k i).2:=⟨_,rfl⟩;have HKEY:Hid (mW rows b c k i=(k1,k2)):=ae (by rw[hk1,hk2]);unfold mW at hk1 hk2;rw[<-HT]at hk1 hk2;obtain⟨x,hx⟩:∃x,x=blk c i:=⟨_,rfl⟩;obtain⟨l,hl⟩:∃l,l=lv.getD i false:=⟨_,rfl⟩;rw[<-hx]at cx Ws hk1 hk2;rw[<-hl]at Ws;obtain⟨Kz,I7⟩:∃q,q=wc.heap.size:=⟨_,rfl⟩;obtain⟨W3,hW3⟩:∃W3,W3=wc.alloc (.cells #[iV x,iV t] 324):=⟨_,rfl⟩;have hb3:aI Kz wc W3:=by rw[hW3,I7];exact(aB _ wc).alloc (au _) _
                         have hgs:g<=Kz:=by rw[I7];exact HI.2.2.2.size
                         have hk3:=HI.2.2.2.on (hb3.mono hgs);have ad8:=(HPI _ (HRI _ (hk3.now zm)).1).1;have cl3:=ad8.cl;have cv3:=ad8.lvc i hil;have hs3:W3.heap[Kz]?=some (.cells #[iV x,iV t] 324 (0,0)):=by rw[hW3,I7];exact heap_alloc_new wc _
                         have ur:bV qx W3 g (vals cJ ids):=HI.2.1.of_block (hb3.block g (by rw[I7];exact HI.2.1.lt));have hr3:=HI.2.2.1.old (hb3.block (g+1) (by rw[I7];exact HI.2.2.1.lt));rw[<-hl]at cv3;have H3:=ae (show _/\_/\_/\_/\_ from⟨hk3,ur,hr3,hs3,hgs⟩);have QW:Hid (g<Kz/\g+1<Kz):=ae ⟨by rw[I7];exact HI.2.1.lt,by rw[I7];exact HI.2.2.1.lt⟩;have ajA:=ae (aA hk1 hk2);have HX:=ae Ws;have YT:=ae HI.1;have HWS:=ae (aA hW3 I7);clear hmk Ws hk1 hk2 hx hl hb3 hk3 ad8 hs3 ur hr3 hgs HI BX MU hW3 I7;go_upto_region 45 with(fail);rw[<-HWS.1];rw[<-HWS.2];rename_i K1 Jg;clear HWS;go_cut[176]from 143 to 194(λv wy=>v= .bool (!l)/\wy=W3);case first=>go_wp2_with fail;go_meet;exact⟨rfl,rfl⟩
                         case rest=> obtain⟨rfl,hwe⟩:=hcut;rw[hwe];clear hwe;refine Jg _ _ ?_;clear Jg K1 cl3 cv3 cx;go_cut[]from 143 to 194(λwy=>Hid (wy.heap[Kz]?=some (.cells #[.int .i64 k1,.int .i64 k2] 324 (0,0))/\aI Kz W3 wy));case first=>
                                      have c0:W3.cell? (aD Kz 0)=some (iV x):=aq H3.2.2.2.1;have c1:W3.cell? (aD Kz 1)=some (iV t):=aq H3.2.2.2.1;have f0:W3.frozen? (aD Kz 0)=false:=aU H3.2.2.2.1;have f1:W3.frozen? (aD Kz 1)=false:=aU H3.2.2.2.1;clear t1 t2 t2' hnz hi' hj SB hcj hk T7 hkz ad4 hi hil ah0 ahZ hkl hk0 htl amj amU hs0 Je;cases l;·have hx0:x=0:=dP λe=>absurd (HX.1 e) (by decide);have hkk:Hid (k1=0/\k2=0):=ae (by obtain⟨h1,h2⟩:=ajA.out;rw[if_pos hx0]at h1 h2;exact⟨h1,h2⟩);clear hx0;go_wp2_with fail;go_meet;have g1:=heap_setCell_same W3 Kz 0 _ _ (iV 0) H3.2.2.2.1;have g2:=heap_setCell_same _ Kz 1 _ _ (iV 0) g1;refine ae ⟨?_,((aB _ W3).setCell (p:=(aD Kz 0)) (au _) _).setCell (p:=(aD Kz 1)) (au _) _⟩;rw[hkk.1,hkk.2];exact g2
                                      ·have hx0:x≠0:=HX.2 rfl;have hkk:Hid (k1=x/\k2=t):=ae (by obtain⟨h1,h2⟩:=ajA.out;rw[if_neg hx0]at h1 h2;exact⟨h1,h2⟩);clear hx0;go_wp2_with fail;go_meet;refine ae ⟨?_,aB _ _⟩;rw[hkk.1,hkk.2];exact H3.2.2.2.1
                                     case rest=> have HIL:=ae hil;have hk4:=H3.1.on (hcut.2.mono H3.2.2.2.2);have hm4:bV qx wc g (vals cJ ids):=H3.2.1.of_block (hcut.2.block g QW.1);have hr4:fW wc (g+1) d:=H3.2.2.1.old (hcut.2.block (g+1) QW.2);have c0:wc.cell? (aD Kz 0)=some (iV k1):=aq hcut.1;have c1:wc.cell? (aD Kz 1)=some (iV k2):=aq hcut.1;have hic:i<c.length:=by rw[Yq];exact HIL
                                                 have hid:i<d.length:=by rw[YT.len];exact hic
                                                 refine RT (get ids (k1,k2)) (λhget=>?_) (λy hget=>?_);·have hlk:=Rv hm4 hget;have Jb:=Vc hm4;obtain⟨il,ad5⟩:∃il,il=ids.length:=⟨_,rfl⟩;rw[<-ad5]at Jb;obtain⟨W5,Ab,rO,MT⟩:=Vb hm4 k1 k2 il;have hsp:=YT.new hic (by rw[HKEY];exact hget);rw[HKEY,<-ad5]at hsp;have BA:fW W5 (g+1) d:=hr4.old (MT.block (g+1) hr4.lt (λe=>by have:=aJ e;omega));have hk5:Kept PR g W5:=hk4.on (by have h0:aI g wc wc:=aB _ _;exact h0.grown MT hk4.size λb e=>by have:=aJ e;omega);have c7:=BA.cell hid;have f7:=BA.free i;have HN:=ae (show _/\_/\_/\_ from⟨hsp,rO,BA,hk5⟩);clear hget hsp hm4 hr4 hk4 hic hid rO BA hk5 MT ad5;go_wp2_with fail;exact⟨⟨i+1,_,_,by have:=HIL.out;omega,by go_num,HN.1,HN.2.1.of_block (az W5 (aD (g+1) i) (.int .i64 il) g (by show g≠g+1;omega)),HN.2.2.1.set i il,HN.2.2.2.on ((aB _ _).setCell (p:=(aD (g+1) i)) (by show g<=g+1;omega) _)⟩,by have:=HIL.out;simp[intOf];omega⟩
                                                 ·have hlk:=Ru hm4 hget;have hsp:=YT.old hic (by rw[HKEY];exact hget);have c7:=hr4.cell hid;have f7:=hr4.free i;have HN:=ae (show _/\_/\_/\_ from⟨hsp,hm4,hr4,hk4⟩);clear hget hsp hm4 hr4 hk4 hic hid;go_wp2_with fail;exact⟨⟨i+1,ids,_,by have:=HIL.out;omega,by go_num,HN.1,HN.2.1.of_block (az wc (aD (g+1) i) (.int .i64 y) g (by show g≠g+1;omega)),HN.2.2.1.set i y,HN.2.2.2.on ((aB _ _).setCell (p:=(aD (g+1) i)) (by show g<=g+1;omega) _)⟩,by have:=HIL.out;simp[intOf];omega⟩
           ·obtain rfl:j=i:=by omega
            obtain⟨hp,rN,hrc⟩:=HRI.out _ (HI.2.2.2.now zm);have hsp:=HI.1;rw[<-Yq]at hsp;have HN:=ae (show _/\_/\_/\_ from⟨hsp.splits HK.1,rN,HI.2.2.1,hp⟩);clear hp rN hrc hsp;go_wp2_with fail;exact⟨⟨k+1,g+1,d,by omega,by go_num,rfl,HN⟩,by simp[intOf];omega⟩
         ·obtain rfl:m=k:=by omega
          have hmm:=@run_makeMap ah;have Yq:=ae (show c.length=j by rw[HK.1.len,HB.1.len,<-HV.2.2.2]);obtain⟨g,hg⟩:∃g,g=wr.heap.size:=⟨_,rfl⟩;obtain⟨PR,hPR⟩:∃PR:ak->Prop,PR=λw'=>P w'/\fW w' nb c:=⟨_,rfl⟩;have zm:Hid (JK PR):=ae (by rw[hPR];exactλw1 w2 h hb=>⟨MZ _ _ h.1 hb,h.2.old (hb.block _ h.2.lt)⟩);have HRI:Hid (∀w',PR w'->P w'/\fW w' nb c):=ae (λw' h=>by rw[hPR]at h;exact h);obtain⟨W2,hW2⟩:∃W2,W2=wr.alloc (.map #[] 0):=⟨_,rfl⟩;have hk2:Kept PR g W2:=by
           have h0:PR wr:=by rw[hPR];exact⟨HK.2.2.2,HK.2.2.1⟩
           have h1:=Kept.start h0;rw[<-hg]at h1;rw[hW2];exact h1.on ((aB _ wr).alloc (by omega) _)
          have hmap2:bV Ob W2 g (vals cJ ([]:List (Nat×Nat))):=by rw[hW2,hg];exact bV.made Ob wr
          have H2:=ae (show _/\_/\_ from⟨nB.start c,hmap2,hk2⟩);have vh:=ae (aA hW2 hg);clear hPR hW2 hk2 hmap2 hg;go_wp2_with fail;rw[<-vh.1,<-vh.2];clear vh hmm;go_loopw[201](λiv wx=>∃(i:Nat)(seen:List (Nat×Nat)),i<=j/\iv= .int .i64 i/\Hid (nB c i seen/\bV Ob wx g (vals cJ seen)/\Kept PR g wx))(λiv _=>j-(intOf iv).toNat);case atStart=>exact⟨0,[],by omega,rfl,H2⟩
          case round=>
           clear H2;obtain⟨i,seen,hi,rfl,HI⟩:=hrel;by_cases hil:i<j;·
            obtain⟨hp,hrc⟩:=HRI.out _ (HI.2.2.now zm);have MU:=(HPI _ hp).1;have hcl:=MU.cl;have hcv:=MU.lvc i hil;have hic:i<c.length:=by rw[Yq];exact hil
            have cx:=hrc.cell hic;have hmk:=HB.1.mark HLV.1 HLV.2 (uE.trans HV.2.2.2) hH.2.2.1 (y:=i) (by rw[<-HV.2.2.2];exact hil);have Ws:=HK.1.zero i (by rw[HB.1.len,<-HV.2.2.2];exact hil);rw[hmk]at Ws;obtain⟨l,hl⟩:∃l,l=lv.getD i false:=⟨_,rfl⟩;obtain⟨x,hx⟩:∃x,x=blk c i:=⟨_,rfl⟩;rw[<-hl]at Ws hcv;rw[<-hx]at Ws cx;have HZR:=ae Ws;have HXC:=ae (aA hx hic);have ah0:(0:Int)<=(i:Int):=by omega
            have ahZ:(i:Int)<(j:Int):=by omega
            clear hp hrc MU hmk Ws hl hx hic;cases l;·have hsk:=HI.1.skip (show blk c i=0 from dP λe=>absurd (HZR.1 (by rw[HXC.1];exact e)) (by decide));have HN:=ae hsk;clear hsk;go_wp2_with fail;exact⟨⟨i+1,seen,by omega,by go_num,HN.out,HI.2⟩,by simp[intOf];omega⟩
            ·have hlk:=VK (x:=x) HI.2.1;obtain⟨v,hv⟩:∃v,v=(get seen x).getD 0:=⟨_,rfl⟩;have hvi:v<=400:=by have:=HI.1.val x;omega
             rw[<-hv]at hlk;obtain⟨W5,Ab,rO,MT⟩:=ZK HI.2.1 x (v+1);have e1:((v+1:Nat):Int)=(v:Int)+1:=by omega
             rw[e1]at Ab;have hadd:=HI.1.add (v:=v+1) HXC.2 (by rw[<-HXC.1];exact HZR.2 rfl) (by have:=HI.1.val x;omega);rw[<-HXC.1]at hadd;have hk5:Kept PR g W5:=HI.2.2.on (by have h0:aI g wr wr:=aB _ _;exact h0.grown MT HI.2.2.size λb e=>by have:=aJ e;omega);have HN:=ae (show _/\_/\_ from⟨hadd,rO,hk5⟩);clear hv rO MT e1 hadd hk5;go_wp2_with fail;exact⟨⟨i+1,_,by omega,by go_num,HN.out⟩,by simp[intOf];omega⟩
           ·obtain rfl:j=i:=by omega
            obtain⟨hp,hrc⟩:=HRI.out _ (HI.2.2.now zm);have Jb:=ZL HI.2.1;have hsn:=HI.1;rw[<-Yq]at hsn;have hb2:=hsn.cnt;obtain⟨n2,hn2⟩:∃n2,n2=seen.length:=⟨_,rfl⟩;rw[<-hn2]at Jb hb2;have adT:n2<=j:=by have:=hb2.le;rw[Yq]at this;exact this
            have HN:=ae (show _/\_/\_/\_ from⟨hb2,hrc,hp,adT⟩);have acK:=ae (uE.trans HV.2.2.2);clear hb2 hrc hp hsn hn2 hil hi;by_cases hcc:n2=cnt;·
             have zo:=ae hcc;have g1:((n2:Int)==(cnt:Int))=true:=by rw[hcc];simp
             clear hcc adT;go_wp2_with fail;go_ret;refine⟨cnt,rfl,?_,(HPI _ HN.2.2.1).2⟩;have hb2:=HN.1;rw[zo]at hb2;have hb1:xd b cnt:=by
              rcases HB.2.1 with h0|h0;·subst h0;exact xd.none HK.1 hb2
              ·exact h0
             have hS:=HK.1;rw[HM]at hS;exact HB.1.least hH.2.2.1 acK hS hb1 hb2
            ·have zo:=ae hcc;have g1:((n2:Int)==(cnt:Int))=false:=by simp only[beq_eq_false_iff_ne,ne_eq];omega
             have hlt:cnt<n2:=by
              rcases HB.2.1 with h0|h0;·omega
              ·have:=HK.1.mono h0 HN.1;omega
             have HLT:=ae hlt;have hrd:ml M sets rows c:=by have hS:=HK.1;rw[HM]at hS;exact HB.1.round hH.2.2.1 acK hS
             have MX:=ae hrd;clear hcc hlt hrd adT;go_wp2_with fail;exact⟨⟨nb,n2,c,rfl,rfl,HN.2.2.2,MX.out,.inr HN.1,HN.2.1,HN.2.2.1⟩,by have:=HLT.out;have:=HN.2.2.2;simp[intOf];omega⟩
def bC.rB:bC->List UInt8->Prop| .empty,t=>t=[]| .iW,t=>t=[]| .one s,t=>∃c:UInt8,t=[c]/\s.has c.toNat=true| .seq a b,t=>∃u v,t=u++v/\a.rB u/\b.rB v| .or a b,t=>a.rB t\/b.rB t| .many a sm,t=>∃l:List (List UInt8),t=l.flatten/\(∀u∈l,a.rB u)/\(sm=true->l≠[])| .maybe a,t=>t=[]\/a.rB t
def bC.qH:bC->Bool| .empty| .iW| .maybe _=>true| .one _=>false| .seq a b=>a.qH&&b.qH| .or a b=>a.qH||b.qH| .many a sm=>a.qH||!sm
/-!### What is read, place by place. -/
def PM.Ak(M:PM)(k k':Nat):Prop:=(M.follow.getD k aH.zero).mem k'=true
def PM.takes(M:PM)(k:Nat)(c:UInt8):Prop:=(M.za c.toNat).mem k=true
def PM.run(M:PM):List UInt8->Nat->Prop|[],k=>M.last.mem k=true|c::t,k=>∃k',k'<192/\M.Ak k k'/\M.takes k' c/\M.run t k'
def PM.via(M:PM)(P:Nat->Prop)(t:List UInt8):Prop:=∃c t' k,t=c::t'/\k<192/\P k/\M.takes k c/\M.run t' k
theorem aH.zero_or{s:aH}(h:s.ok):s= .zero\/∃k,k<192/\s.mem k=true:=by
 by_cases e:∃k,k<192/\s.mem k=true;·exact .inr e
 ·refine .inl (aH.ext h aH.dL λk hk=>?_);rw[aH.jC];cases hm:s.mem k with|false=>rfl|true=>exact absurd ⟨k,hk,hm⟩ e
theorem PM.VO(M:PM)(l:List Nat)(k':Nat):(M.next l).mem k'=true↔∃k∈l,M.Ak k k':=by
 unfold PM.next PM.Ak;have:∀(l:List Nat)(t:aH),(l.foldl (λt k=>t.or (M.follow.getD k aH.zero)) t).mem k'=true↔t.mem k'=true\/∃k∈l,(M.follow.getD k aH.zero).mem k'=true:=λl=>by induction l with|nil=>exactλt=>by simp|cons a l ih=>intro t;rw[aj0,ih,aH.yJ,eU];simp[or_assoc]
 rw[this,aH.jC];simp
theorem PM.VN(M:PM)(s:aH)(c:UInt8)(k':Nat):(M.step s c.toNat).mem k'=true↔(∃k∈s.elems,M.Ak k k')/\M.takes k' c:=by unfold PM.step PM.takes PM.za;rw[aH.Dw,cR,PM.VO]
/-!### First and last places, and links, of a pattern whose places begin at n. -/
def bC.fst:bC->Nat->Nat->Prop| .empty,_,_| .iW,_,_=>False| .one _,n,k=>k=n| .seq a b,n,k=>a.fst n k\/(a.qH=true/\b.fst (n+a.count) k)| .or a b,n,k=>a.fst n k\/b.fst (n+a.count) k| .many a _,n,k| .maybe a,n,k=>a.fst n k
def bC.uh:bC->Nat->Nat->Prop| .empty,_,_| .iW,_,_=>False| .one _,n,k=>k=n| .seq a b,n,k=>b.uh (n+a.count) k\/(b.qH=true/\a.uh n k)| .or a b,n,k=>a.uh n k\/b.uh (n+a.count) k| .many a _,n,k| .maybe a,n,k=>a.uh n k
def bC.xA:bC->Nat->Nat->Nat->Prop| .empty,_,_,_| .iW,_,_,_| .one _,_,_,_=>False| .seq a b,n,k,k'=>a.xA n k k'\/b.xA (n+a.count) k k'\/(a.uh n k/\b.fst (n+a.count) k')| .or a b,n,k,k'=>a.xA n k k'\/b.xA (n+a.count) k k'| .many a _,n,k,k'=>a.xA n k k'\/(a.uh n k/\a.fst n k')| .maybe a,n,k,k'=>a.xA n k k'
def bC.yD:bC->Nat->Nat->UInt8->Prop| .empty,_,_,_| .iW,_,_,_=>False| .one s,n,k,c=>k=n/\s.has c.toNat=true| .seq a b,n,k,c| .or a b,n,k,c=>a.yD n k c\/b.yD (n+a.count) k c| .many a _,n,k,c| .maybe a,n,k,c=>a.yD n k c
theorem bC.yM(e:bC):∀{n k:Nat},e.uh n k->n<=k/\k<n+e.count:=by induction e with
 |empty=>exactλh=>h.elim|iW=>exactλh=>h.elim|one s=>intro n k h;have h':k=n:=h;show n<=k/\k<n+1;omega|seq a b uo um=>
  intro n k h;show n<=k/\k<n+(a.count+b.count);rcases h with h|⟨_,h⟩;·have:=um h;omega
  ·have:=uo h;omega|or a b uo um=>
  intro n k h;show n<=k/\k<n+(a.count+b.count);rcases h with h|h;·have:=uo h;omega
  ·have:=um h;omega|many a sm ih=>exactλh=>ih h|maybe a ih=>exactλh=>ih h
theorem bC.Xq(e:bC):∀{n k:Nat},e.fst n k->n<=k/\k<n+e.count:=by induction e with
 |empty=>exactλh=>h.elim|iW=>exactλh=>h.elim|one s=>intro n k h;have h':k=n:=h;show n<=k/\k<n+1;omega|seq a b uo um=>
  intro n k h;show n<=k/\k<n+(a.count+b.count);rcases h with h|⟨_,h⟩;·have:=uo h;omega
  ·have:=um h;omega|or a b uo um=>
  intro n k h;show n<=k/\k<n+(a.count+b.count);rcases h with h|h;·have:=uo h;omega
  ·have:=um h;omega|many a sm ih=>exactλh=>ih h|maybe a ih=>exactλh=>ih h
theorem bC.adq(e:bC):∀{n k k':Nat},e.xA n k k'->n<=k/\k<n+e.count:=by induction e with
 |empty=>exactλh=>h.elim|iW=>exactλh=>h.elim|one s=>exactλh=>h.elim|seq a b uo um=>
  intro n k k' h;show n<=k/\k<n+(a.count+b.count);rcases h with h|h|⟨h,_⟩;·have:=uo h;omega
  ·have:=um h;omega
  ·have:=a.yM h;omega|or a b uo um=>
  intro n k k' h;show n<=k/\k<n+(a.count+b.count);rcases h with h|h;·have:=uo h;omega
  ·have:=um h;omega|many a sm ih=>
  intro n k k' h;rcases h with h|⟨h,_⟩;·exact ih h
  ·exact a.yM h|maybe a ih=>exactλh=>ih h
theorem bC.Be(e:bC):∀{n k:Nat}{c:UInt8},e.yD n k c->n<=k/\k<n+e.count:=by induction e with
 |empty=>exactλh=>h.elim|iW=>exactλh=>h.elim|one s=>intro n k c h;have h':k=n:=h.1;show n<=k/\k<n+1;omega|seq a b uo um=>
  intro n k c h;show n<=k/\k<n+(a.count+b.count);rcases h with h|h;·have:=uo h;omega
  ·have:=um h;omega|or a b uo um=>
  intro n k c h;show n<=k/\k<n+(a.count+b.count);rcases h with h|h;·have:=uo h;omega
  ·have:=um h;omega|many a sm ih=>exactλh=>ih h|maybe a ih=>exactλh=>ih h
def PM.tail(N:PM)(F:Nat->Prop)(acc:Prop)(t:List UInt8):Prop:=(t=[]/\acc)\/N.via F t
/-!### What a part adds to a machine. -/
structure aoF (e:bC) (M N:PM) (p:Part):Prop where
 first:∀ k,k < 192->(p.first.mem k=true↔e.fst M.n k)
 last:∀ k,k < 192->(p.last.mem k=true↔e.uh M.n k)
 none:p.none=e.qH
 Ak:∀ k k',k' < 192->(N.Ak k k'↔M.Ak k k'\/e.xA M.n k k')
 takes:∀ k c,k < 192->(N.takes k c↔M.takes k c\/e.yD M.n k c)
theorem PM.Qu{M:PM}{k:Nat}{s:aH}(hk:k<M.follow.length)(j k':Nat):(M.gB k s).Ak j k'↔if j=k then s.mem k'=true else M.Ak j k':=by
 unfold PM.Ak;show((M.follow.set k s).getD j aH.zero).mem k'=true↔_;rw[aw,fD,aw];by_cases e:j=k;·subst e;simp[hk]
 ·simp[e,dB e]
theorem PM.EU(t:aH)(k k':Nat):∀(l:List Nat)(M:PM),(∀x∈l,x<M.follow.length)->((M.link l t).Ak k k'↔M.Ak k k'\/(k∈l/\t.mem k'=true))
 |[],M,_=>by simp[PM.link]|x::l,M,h=>by
  have hx:=h x bE;have ih:=PM.EU t k k' l (M.mY t x) λy hy=>by show y<(M.follow.set x _).length;rw[bW];exact h y (bq _ hy)
  show((M.mY t x).link l t).Ak k k'↔_;rw[ih];unfold PM.mY;rw[PM.Qu hx];by_cases e:k=x;·
   subst e;rw[if_pos rfl,aH.yJ,eU];simp only[ql,true_or,true_and];constructor;·
    rintro((h1|h1)|h1);·exact .inl h1
    ·exact .inr h1
    ·exact .inr h1.2
   ·rintro(h1|h1);·exact .inl (.inl h1)
    ·exact .inl (.inr h1)
  ·rw[if_neg e];simp[e]
theorem PM.yC(t:aH)(k:Nat)(c:UInt8):∀(l:List Nat)(M:PM),((M.link l t).takes k c↔M.takes k c)|[],M=>Iff.rfl|x::l,M=>PM.yC t k c l (M.mY t x)
theorem PM.Rm{M:PM}(hM:M.ok)(hn:M.n<192)(s:bG){k:Nat}(hk:k<192)(c:UInt8):(M.mi s).takes k c↔M.takes k c\/(k=M.n/\s.has c.toNat=true):=by
 unfold PM.takes PM.za;show(((M.at'.zipIdx).map λq=>if s.has q.2 then q.1.on M.n else q.1).getD c.toNat aH.zero).mem k=true↔_;have hc:c.toNat<M.at'.length:=by rw[hM.la];exact c.toNat_lt
 rw[aw,bp,List.getElem?_zipIdx,aw,ar hc];simp only[Option.map_some,Option.getD_some,Nat.zero_add];cases s.has c.toNat with|true=>simp only[if_true];rw[aH.wG _ _ _ hn hk,eU,decide_eq_true_iff];simp[or_comm]|false=>simp
theorem Qf{M N:PM}{p:Part}{c:Nat}(h:lY M N p c)(hn:M.n+c<=128)(L:PM)(hL:L.ok):∀x∈p.last.elems,x<L.follow.length:=λx hx=>by rw[hL.lf];have:=h.ul x hx;rw[h.n]at this;omega
theorem Lf{p:Part}{P:Nat->Prop}(h:∀k,k<192->(p.last.mem k=true↔P k))(hin:∀k,P k->k<192)(k:Nat):k∈p.last.elems↔P k:=by
 rw[aH.fO];constructor;·exactλhk=>(h k hk.1).1 hk.2
 ·exactλhk=>⟨hin k hk,(h k (hin k hk)).2 hk⟩
theorem Bl(e:bC):∀(M:PM),M.ok->M.n+e.count<=128->aoF e M (PM.part e M).1 (PM.part e M).2:=by
 have z:∀k,aH.zero.mem k=true↔False:=λk=>by rw[aH.jC];simp
 induction e with
  |empty=>exactλM h _=>⟨λk _=>z k,λk _=>z k,rfl,λk k' _=>by simp[PM.part,bC.xA],λk c _=>by simp[PM.part,bC.yD]⟩|iW=>exactλM h _=>⟨λk _=>z k,λk _=>z k,rfl,λk k' _=>by simp[PM.part,bC.xA],λk c _=>by simp[PM.part,bC.yD]⟩|one s=>
   intro M hM hn;have hn':M.n+1<=128:=hn;have rC:∀k,k<192->((aH.zero.on M.n).mem k=true↔k=M.n):=λk hk=>by rw[aH.wG _ _ _ (by omega) hk,aH.jC,agC,decide_eq_true_iff]
   exact⟨rC,rC,rfl,λk k' _=>by simp[PM.part,bC.xA];rfl,λk c hk=>PM.Rm hM (by omega) s hk c⟩|or a b uo um=>
   intro M hM hn;have hn':M.n+(a.count+b.count)<=128:=hn;have ka:=jR a M hM (by omega);have ha:=uo M hM (by omega);have hb:=um _ ka.jZ (by rw[ka.n];omega);rw[show(PM.part (bC.or a b) M)=((PM.part b (PM.part a M).1).1,(PM.part a M).2.or (PM.part b (PM.part a M).1).2)from rfl];obtain⟨N,p,hNp⟩:∃N p,PM.part a M=(N,p):=⟨_,_,rfl⟩;rw[hNp]at ka ha hb⊢;dsimp only at ka ha hb⊢;obtain⟨L,q,hLq⟩:∃L q,PM.part b N=(L,q):=⟨_,_,rfl⟩;rw[hLq]at hb⊢;dsimp only at hb⊢;refine⟨λk hk=>?_,λk hk=>?_,?_,λk k' hk=>?_,λk c hk=>?_⟩;·show(p.first.or q.first).mem k=true↔_;rw[aH.yJ,eU,ha.first k hk,show q.first.mem k=true↔b.fst (M.n+a.count) k by have:=hb.first k hk;rwa[ka.n]at this];rfl
   ·show(p.last.or q.last).mem k=true↔_;rw[aH.yJ,eU,ha.last k hk,show q.last.mem k=true↔b.uh (M.n+a.count) k by have:=hb.last k hk;rwa[ka.n]at this];rfl
   ·show(p.none||q.none)=(a.qH||b.qH);rw[ha.none,hb.none]
   ·rw[hb.Ak k k' hk,ha.Ak k k' hk,ka.n];exact or_assoc
   ·rw[hb.takes k c hk,ha.takes k c hk,ka.n];exact or_assoc|seq a b uo um=>
   intro M hM hn;have hn':M.n+(a.count+b.count)<=128:=hn;have ka:=jR a M hM (by omega);have kb:=jR b _ ka.jZ (by rw[ka.n];omega);have ha:=uo M hM (by omega);have hb:=um _ ka.jZ (by rw[ka.n];omega);have hlt:=Qf ka (by omega) _ kb.jZ;rw[show(PM.part (bC.seq a b) M)=((PM.part b (PM.part a M).1).1.link (PM.part a M).2.last.elems (PM.part b (PM.part a M).1).2.first,(PM.part a M).2.seq (PM.part b (PM.part a M).1).2)from rfl];obtain⟨N,p,hNp⟩:∃N p,PM.part a M=(N,p):=⟨_,_,rfl⟩;rw[hNp]at ka kb ha hb hlt⊢;dsimp only at ka kb ha hb hlt⊢;obtain⟨L,q,hLq⟩:∃L q,PM.part b N=(L,q):=⟨_,_,rfl⟩;rw[hLq]at kb hb hlt⊢;dsimp only at kb hb hlt⊢;have bf:∀k,k<192->(q.first.mem k=true↔b.fst (M.n+a.count) k):=λk hk=>by have:=hb.first k hk;rwa[ka.n]at this
   have bl:∀k,k<192->(q.last.mem k=true↔b.uh (M.n+a.count) k):=λk hk=>by have:=hb.last k hk;rwa[ka.n]at this
   have SB:=Lf ha.last λk h=>by have:=a.yM h;omega
   refine⟨λk hk=>?_,λk hk=>?_,?_,λk k' hk=>?_,λk c hk=>?_⟩;·show(if p.none then p.first.or q.first else p.first).mem k=true↔a.fst M.n k\/(a.qH=true/\b.fst (M.n+a.count) k);rw[ha.none];cases a.qH with|true=>simp only[if_true,aH.yJ,eU,ha.first k hk,bf k hk,true_and]|false=>simpa using ha.first k hk
   ·show(if q.none then q.last.or p.last else q.last).mem k=true↔b.uh (M.n+a.count) k\/(b.qH=true/\a.uh M.n k);rw[hb.none];cases b.qH with|true=>simp only[if_true,aH.yJ,eU,ha.last k hk,bl k hk,true_and]|false=>simpa using bl k hk
   ·show(p.none&&q.none)=(a.qH&&b.qH);rw[ha.none,hb.none]
   ·rw[PM.EU _ _ _ _ _ hlt,hb.Ak k k' hk,ha.Ak k k' hk,ka.n,SB,bf k' hk];show _↔M.Ak k k'\/a.xA M.n k k'\/b.xA (M.n+a.count) k k'\/(a.uh M.n k/\b.fst (M.n+a.count) k');simp only[or_assoc]
   ·rw[PM.yC,hb.takes k c hk,ha.takes k c hk,ka.n];exact or_assoc|many a sm ih=>
   intro M hM hn;have ka:=jR a M hM hn;have ha:=ih M hM hn;have hlt:=Qf ka hn _ ka.jZ;have hn':M.n+a.count<=128:=hn;have SB:=Lf ha.last λk h=>by have:=a.yM h;omega
   refine⟨ha.first,ha.last,?_,λk k' hk=>?_,λk c hk=>?_⟩;·show((PM.part a M).2.none||!sm)=(a.qH||!sm);rw[ha.none]
   ·show((PM.part a M).1.link _ _).Ak k k'↔_;rw[PM.EU _ _ _ _ _ hlt,ha.Ak k k' hk,SB,ha.first k' hk];exact or_assoc
   ·show((PM.part a M).1.link _ _).takes k c↔_;rw[PM.yC];exact ha.takes k c hk|maybe a ih=>intro M hM hn;have ha:=ih M hM hn;exact⟨ha.first,ha.last,rfl,ha.Ak,ha.takes⟩
/-!### The whole machine. -/
theorem UY(k k':Nat):¬PM.zero.Ak k k':=by
 unfold PM.Ak;have:PM.zero.follow.getD k aH.zero=aH.zero:=by show(aQ 129 aH.zero).getD k aH.zero=aH.zero;rw[aw,cu];split<;>rfl
 rw[this,aH.jC];simp
theorem M9(k:Nat)(c:UInt8):¬PM.zero.takes k c:=by
 unfold PM.takes PM.za;have:PM.zero.at'.getD c.toNat aH.zero=aH.zero:=by show(aQ 256 aH.zero).getD c.toNat aH.zero=aH.zero;rw[aw,cu];split<;>rfl
 rw[this,aH.jC];simp
theorem Mm(k:Nat):k∈bN.elems↔k=128:=by
 rw[aH.fO];unfold bN;constructor;·rintro⟨h1,h2⟩;rw[aH.wG _ _ _ (by decide) h1,aH.jC,agC,decide_eq_true_iff]at h2;exact h2
 ·rintro rfl;refine⟨by decide,?_⟩;rw[aH.wG _ _ _ (by decide) (by decide)];simp
/-!### The least number of states, by the language. -/
def rT(L:List UInt8->Prop)(n:Nat):Prop:=∃us:List (List UInt8),us.length=n/\(∀u∈us,∃t,L (u++t))/\us.Pairwise (λu v=>¬∀t,L (u++t)↔L (v++t))/\∀u,(∃t,L (u++t))->∃v∈us,∀t,L (u++t)↔L (v++t)
theorem GW{α:Type}(R:α->α->Prop)(hs:∀a b,R a b->R b a)(ht:∀a b c,R a b->R b c->R a c):∀(us vs:List α),us.Pairwise (λa b=>¬R a b)->(∀u∈us,∃v∈vs,R u v)->us.length<=vs.length
 |[],vs,_,_=>aW _|u::us,vs,hp,h=>by
  obtain⟨v,hv,huv⟩:=h u bE;obtain⟨l1,l2,rfl⟩:=List.append_of_mem hv;obtain⟨hp1,hp2⟩:=List.pairwise_cons.1 hp;have ih:=GW R hs ht us (l1++l2) hp2 λx hx=>by
   obtain⟨y,hy,hxy⟩:=h x (bq _ hx);refine⟨y,?_,hxy⟩;rcases List.mem_append.1 hy with hy|hy;·exact List.mem_append_left _ hy
   ·rcases List.mem_cons.1 hy with rfl|hy;·exact absurd (ht _ _ _ huv (hs _ _ hxy)) (hp1 x hx)
    ·exact List.mem_append_right _ hy
  simp only[bh,cI]at ih⊢;omega
theorem rT.le{L:List UInt8->Prop}{n m:Nat}(h:rT L n)(k:rT L m):n<=m:=by obtain⟨us,rfl,h1,h2,_⟩:=h;obtain⟨vs,rfl,_,_,k3⟩:=k;exact GW (λu v=>∀t,L (u++t)↔L (v++t)) (λ_ _ h t=>(h t).symm) (λ_ _ _ h k t=>(h t).trans (k t)) us vs h2 λu hu=>k3 u (h1 u hu)
theorem rT.unique{L:List UInt8->Prop}{n m:Nat}(h:rT L n)(k:rT L m):n=m:=Nat.le_antisymm (h.le k) (k.le h)
def PM.aaK(M:PM):aH->List UInt8->aH|s,[]=>s|s,c::t=>M.aaK (M.step s c.toNat) t
theorem PM.KS{M:PM}:∀(u:List UInt8)(s:aH),(∃t,M.reads s (u++t)=true)->sI M s->sI M (M.aaK s u)/\∀t,M.reads s (u++t)=M.reads (M.aaK s u) t
 |[],s,_,hm=>⟨hm,λt=>rfl⟩|c::u,s,⟨t,ht⟩,hm=>by
  rw[iT,jQ]at ht;split at ht;·cases ht
  ·rename_i hz;obtain⟨h1,h2⟩:=PM.KS u (M.step s c.toNat) ⟨t,ht⟩ (.step s c.toNat hm c.toNat_lt hz);refine⟨h1,λx=>?_⟩;rw[iT,jQ,if_neg hz];exact h2 x
theorem sI.word{M:PM}{s:aH}(h:sI M s)(hl:M.live s):∃u,(∀t,M.reads bN (u++t)=M.reads s t):=by induction h with
 |start=>exact⟨[],λt=>rfl⟩|step s c hm hc hz ih=>
  have e:(cS c).toNat=c:=by simp;omega
  have hst:∀t,M.reads s (cS c::t)=M.reads (M.step s c) t:=λt=>by rw[jQ,e,if_neg hz]
  obtain⟨t,ht⟩:=hl;obtain⟨u,hu⟩:=ih ⟨cS c::t,by rw[hst];exact ht⟩;refine⟨u++[cS c],λx=>?_⟩;rw[List.append_assoc,hu];exact hst x
theorem lM.rB{M:PM}{n:Nat}(h:lM M n):rT (λt=>M.reads bN t=true) n:=by
 obtain⟨s6,rfl,h1,h2,h3⟩:=h;have hw:∀l:List aH,(∀s∈l,sI M s/\M.live s)->∃us:List (List UInt8),us.length=l.length/\∀(i:Nat)u s,us[i]?=some u->l[i]?=some s->∀t,M.reads bN (u++t)=M.reads s t:=λl=>by induction l with|nil=>exactλ_=>⟨[],rfl,λi u s h=>by simp at h⟩|cons a l ih=>intro h;obtain⟨us,e,hu⟩:=ih λs hs=>h s (bq _ hs);obtain⟨u,hu'⟩:=(h a bE).1.word (h a bE).2;refine⟨u::us,by simp[e],λi v s hv hs=>?_⟩;cases i with|zero=>simp at hv hs;subst hv hs;exact hu'|succ i=>exact hu i v s (by simpa using hv) (by simpa using hs)
 obtain⟨us,hl,hu⟩:=hw s6 h1;have hget:∀u∈us,∃s∈s6,∀t,M.reads bN (u++t)=M.reads s t:=λu hum=>by obtain⟨i,hi⟩:=List.mem_iff_getElem?.1 hum;have hil:=(List.getElem?_eq_some_iff.1 hi).1;have hs:s6[i]?=some s6[i]:=ar (by omega);exact⟨_,aS hs,hu i u _ hi hs⟩
 refine⟨us,hl,λu hum=>?_,?_,λu hlv=>?_⟩;·obtain⟨s,hs,he⟩:=hget u hum;obtain⟨t,ht⟩:=(h1 s hs).2;exact⟨t,(he t).trans ht⟩
 ·rw[List.pairwise_iff_getElem]at h2⊢;intro i j hi hj hij hall;refine h2 i j (by omega) (by omega) hij (funext λt=>?_);have e1:=hu i us[i] s6[i] (ar hi) (ar (by omega)) t;have e2:=hu j us[j] s6[j] (ar hj) (ar (by omega)) t;rw[<-e1,<-e2,jf];exact hall t
 ·obtain⟨hm,he⟩:=PM.KS u bN hlv .start;have Qp:M.live (M.aaK bN u):=by obtain⟨t,ht⟩:=hlv;exact⟨t,by rw[<-he];exact ht⟩
  obtain⟨r,hr,Sy⟩:=h3 _ hm Qp;obtain⟨i,hi⟩:=List.mem_iff_getElem?.1 hr;have hil:=(List.getElem?_eq_some_iff.1 hi).1;have hui:us[i]?=some us[i]:=ar (by omega);refine⟨_,aS hui,λt=>?_⟩;show(M.reads bN (u++t)=true)↔(M.reads bN (us[i]++t)=true);rw[he,hu i _ r hui hi,Sy]
def PM.wide(M:PM)(most:Nat):Prop:=∃l:List aH,l.Nodup/\(∀s∈l,sI M s)/\most<l.length
def PM.agI(M:PM)(most:Nat):Prop:=∃l:List aH,(∀s,sI M s->s∈l)/\l.length<=most
theorem PM.GK{M:PM}{most:Nat}(h:M.agI most)(k:M.wide most):False:=by obtain⟨l,h1,h2⟩:=h;obtain⟨l',k1,k2,k3⟩:=k;have:=zT l' l k1 λs hs=>h1 s (k2 s hs);omega
inductive Gw where|fault(i:Nat)|big|ok(x:bC)(c:Nat)
def X5(P:kE)(most:Nat):Gw->Prop| .fault i=>P= .fault i| .big=>P= .big\/∃x,P= .ok x/\(PM.compile x).wide most| .ok x c=>P= .ok x/\(PM.compile x).agI most/\lM (PM.compile x) c
def Gw.num:Gw->Int| .ok _ c=>c|_=>0
def Gw.err:Gw->Int| .fault _=>6| .big=>9| .ok _ _=>0
def Gw.place:Gw->Int| .fault i=>i|_=>-1
def QN(w w':ak)(ev:ay):Gw->Prop| .fault i=>∃b,w.heap.size<=b/\ev= .iface 129 (aP b)/\w'.heap[b]?=some (.cells #[.int .i64 6,.int .i64 i] 134 (0,0))| .big=>ev= .iface 43 (.int .i64 9)| .ok _ _=>ev= .nilIface
def QO(w:ak)(P:kE)(most:Nat)(e:Ending)(w':ak):Prop:=aI w.heap.size w w'/\∃r mv n ev,X5 P most r/\e= .returned (.tuple #[mv,.int .i64 n,ev])/\QN w w' ev r/\((∃x c,r= .ok x c/\n=(c:Int)/\∃mb,w.heap.size<=mb/\mv=aP mb/\bQ w' mb (PM.compile x))\/((∀x c,r≠ .ok x c)/\n=0/\mv= .pointer none))
theorem Om(a b:ByteArray)(n:Int)(most:Nat)(w:ak)(ha:a.size<=1000000)(hT:eN w)(h1:1<=most)(h4:most<=400):aX ah 68 #[.agg #[iV 5,.string a,.string b,iV n],iV most] w (QO w (gD a) most):=by
 obtain⟨P,hP⟩:∃P,P=gD a:=⟨_,rfl⟩;have HP:=ae hP;have HT:=ae hT;rw[<-hP];clear hP hT;go_enter Tryz.func68,Tryz.ntmps68;go_wp2_with fail;obtain⟨W,hW⟩:∃W,W=w.alloc (.cells #[iV 5,.string a,.string b,iV n] 34):=⟨_,rfl⟩;have hbW:aI w.heap.size w W:=by rw[hW];exact(aB _ w).alloc (au _) _
 rw[<-hW];have HW:=ae hbW;clear hW hbW;refine(RP a W ha).mono ?_;rw[<-HP];rintro e w2⟨hb2,CD⟩;have H2:=ae (HW.trans (hb2.mono HW.size));clear hb2;cases P with
  |fault i=>obtain⟨b2,hbl,rfl,hbb⟩:=CD;have QV:=ae (aA (aZ HW.size hbl) hbb);clear hbl hbb;unfold aP;go_wp2_with fail;go_ret3;exact⟨H2,.fault i,_,_,_,rfl,rfl,⟨b2,QV.1,rfl,QV.2⟩,.inr ⟨λ_ _ h=>(by cases h),rfl,rfl⟩⟩|big=>have OO:e=_:=CD;subst OO;go_wp2_with fail;go_ret3;exact⟨H2,.big,_,_,_,.inl rfl,rfl,rfl,.inr ⟨λ_ _ h=>(by cases h),rfl,rfl⟩⟩|ok x=>
   have OO:e=_:=CD;subst OO;have hxo:=N5 HP.symm;have hxc:=IG HP.symm;have HX:=ae (aA hxo hxc);clear hxo hxc;obtain⟨xv,hxv⟩:∃xv,xv=x.val:=⟨_,rfl⟩;rw[<-hxv];have HXV:=ae hxv;clear hxv;go_wp2_with fail;rw[HXV];refine(Aq x HX.1 HX.2 w2 (HT.below H2)).mono ?_;rintro e w3⟨rfl,ur,hb3⟩;have H3:=ae (aA ur (H2.trans (hb3.mono H2.size)));obtain⟨mb,hmb⟩:∃mb,mb=w2.heap.size:=⟨_,rfl⟩;rw[<-hmb]at H3⊢;have rh:=ae (show w.heap.size<=mb by rw[hmb];exact H2.size);clear ur hb3 hmb;unfold aP;go_wp2_with fail;have hcall:=GG mb most (PM.compile x) w3 H3.1 (o7 x HX.2) (HT.below H3.2) h1 h4;unfold aP at hcall;refine hcall.mono ?_;clear hcall;rintro e w4⟨hb4,hres⟩;have H4:=ae (aA (H3.1.below hb4) (H3.2.trans (hb4.mono H3.2.size)));clear hb4;rcases hres with⟨rfl,wK⟩|⟨tb,L,ib,sv,ov,kv,oI,sets,rows,rfl,hok,hall,hlen,hmem⟩;·go_wp2_with fail;go_ret3;exact⟨H4.2,.big,_,_,_,.inr ⟨x,rfl,wK⟩,rfl,rfl,.inr ⟨λ_ _ h=>(by cases h),rfl,rfl⟩⟩
   ·have xE:=ae (aA hok (aA hall (aA hlen hmem)));clear hok hall hlen hmem;unfold aP;go_wp2_with fail;have hcall:=xm mb tb ib w3.heap.size (PM.compile x) L sv ov kv oI sets rows w4 H4.1 (o7 x HX.2) xE.1 xE.2.1 (aZ xE.2.2.1 h4) xE.2.2.2;unfold aP at hcall;refine hcall.mono ?_;clear hcall;rintro e w5⟨c,rfl,hl,hb5⟩;have H5:=ae (aA hl (aA (H4.1.below hb5) (H4.2.trans (hb5.mono H4.2.size))));clear hl hb5;go_wp2_with fail;go_ret3;refine⟨H5.2.2,.ok x c,_,_,_,⟨rfl,⟨sets,λs hs=>xE.1.all xE.2.1 hs,xE.2.2.1⟩,H5.1⟩,rfl,rfl,.inl ⟨x,c,rfl,rfl,mb,rh,rfl,H5.2.1⟩⟩
def trail(l:List UInt8):Nat->Nat|0=>0|m+1=>if l[m]?=some 92 then trail l m+1 else 0
theorem Qv(s:ByteArray)(w:ak)(hs:s.size<=1000000):aX ah 149 #[.string s] w λe w'=>e= .returned (.bool (decide (trail s.data.toList s.size%2=0)))/\Same w w':=by
 go_enter Tryz.func149,Tryz.ntmps149;go_wp2;go_loopw[3](λi wr=>∃k:Nat,k<=s.size/\i= .int .i64 k/\Hid (trail s.data.toList s.size=k+trail s.data.toList (s.size-k))/\Same w wr)(λi _=>s.size-(intOf i).toNat);case atStart=>exact⟨0,aW _,rfl,ae (by simp),Same.refl _⟩
 case round=>
  obtain⟨k,hk,rfl,HT,hS⟩:=hrel;have hend:trail s.data.toList (s.size-k)=0->decide (trail s.data.toList s.size%2=0)=((k:Int)%2==0):=λh=>by rw[HT,h,FN,jf,decide_eq_true_eq,beq_iff_eq];omega
  by_cases hlt:k<s.size;·
   have q1:IntKind.i64.wrap ((s.size:Int)-1)=((s.size-1:Nat):Int):=by rw[aK _ (by omega)];omega
   have q2:IntKind.i64.wrap (((s.size-1:Nat):Int)-(k:Int))=((s.size-1-k:Nat):Int):=by rw[aK _ (by omega)];omega
   have q3:s.size-1-k<s.size:=by omega
   have hat:=iP s (s.size-1-k) q3;have e1:s.size-k=(s.size-1-k)+1:=by omega
   by_cases tP:s[s.size-1-k]=92;·
    have q5:((s[s.size-1-k]).toNat:Int)=92:=by rw[tP];rfl
    have hn:Hid (trail s.data.toList s.size=(k+1)+trail s.data.toList (s.size-(k+1))):=ae (by
     rw[HT,e1];show k+(if s.data.toList[s.size-1-k]?=some 92 then _ else _)=_;rw[hat,if_pos (by rw[tP])];have e2:s.size-(k+1)=s.size-1-k:=by omega
     rw[e2];omega);clear hat hend;go_wp2;exact⟨⟨k+1,by omega,by go_num,hn,hS⟩,by simp[intOf];omega⟩
   ·have q5:(((s[s.size-1-k]).toNat:Int)==92)=false:=beq_eq_false_iff_ne.2 λh=>tP (UInt8.toNat_inj.1 (by show _=92;omega));have hn:trail s.data.toList (s.size-k)=0:=by rw[e1];show(if s.data.toList[s.size-1-k]?=some 92 then _ else _)=_;rw[hat,if_neg (λh=>tP (aJ h))]
    have hn':=ae (hend hn);clear hat hend hn;go_wp2;go_ret;exact⟨gS hn'.symm,hS⟩
  ·obtain rfl:k=s.size:=by omega
   have hn:trail s.data.toList (s.size-s.size)=0:=by rw[Nat.sub_self];rfl
   have hn':=ae (hend hn);clear hend hn;go_wp2;go_ret;exact⟨gS hn'.symm,hS⟩
def allB:bG:=bG.zero.add 0 255
def wA(c:UInt8):bG:=bG.zero.add c.toNat c.toNat
def ey(s:ByteArray):Nat->bC->Nat->kE|0,x,_=> .ok x|f+1,x,i=>match s.data.toList[i]? with|none=> .ok x|some c=>if c=42 then ey s f (x.join (.many (.one allB) false)) (i+1)else if c=63 then ey s f (x.join (.one allB)) (i+1)else if c=92 then match s.data.toList[i+1]? with|none=> .fault (i+1)|some d=>ey s f (x.join (.one (wA d))) (i+2)else ey s f (x.join (.one (wA c))) (i+1)
def qo(s:ByteArray):kE:=ey s (s.size+1) .empty 0
section
variable{s:ByteArray}{f i:Nat}{x:bC}{c d:UInt8}
theorem Kb(h:s.data.toList[i]?=none):ey s (f+1) x i= .ok x:=by simp only[ey,h]
theorem xe(h:s.data.toList[i]?=some c)(hc:c=42):ey s (f+1) x i=ey s f (x.join (.many (.one allB) false)) (i+1):=by simp only[ey,h,if_pos hc]
theorem GD(h:s.data.toList[i]?=some c)(h1:¬c=42)(hc:c=63):ey s (f+1) x i=ey s f (x.join (.one allB)) (i+1):=by simp only[ey,h,if_neg h1,if_pos hc]
theorem Kc(h:s.data.toList[i]?=some c)(h1:¬c=42)(h2:¬c=63)(hc:c=92)(hd:s.data.toList[i+1]?=none):ey s (f+1) x i= .fault (i+1):=by simp only[ey,h,if_neg h1,if_neg h2,if_pos hc,hd]
theorem D7(h:s.data.toList[i]?=some c)(h1:¬c=42)(h2:¬c=63)(hc:c=92)(hd:s.data.toList[i+1]?=some d):ey s (f+1) x i=ey s f (x.join (.one (wA d))) (i+2):=by simp only[ey,h,if_neg h1,if_neg h2,if_pos hc,hd]
theorem Ka(h:s.data.toList[i]?=some c)(h1:¬c=42)(h2:¬c=63)(h3:¬c=92):ey s (f+1) x i=ey s f (x.join (.one (wA c))) (i+1):=by simp only[ey,h,if_neg h1,if_neg h2,if_neg h3]
end
/-!### What is read is a pattern of few places. -/
theorem uk(a b:bC):(a.join b).count=a.count+b.count:=by cases a<;>cases b<;>simp[bC.join,bC.count]
theorem vP(s:ByteArray):∀(f:Nat)(x:bC)(i:Nat)(y:bC),x.ok->ey s f x i= .ok y->y.ok/\y.count<=x.count+f
 |0,x,i,y,hx,h=>by cases h;exact⟨hx,au _⟩|f+1,x,i,y,hx,h=>by
  have hone:∀(z:bG)(j:Nat),z.ok->ey s f (x.join (.one z)) j= .ok y->y.ok/\y.count<=x.count+(f+1):=λz j hz hw=>by obtain⟨h1,h2⟩:=vP s f _ j y (bC.zR hx (show(bC.one z).ok from hz)) hw;rw[uk]at h2;exact⟨h1,by have:(bC.one z).count=1:=rfl;omega⟩
  have hob:∀c:UInt8,(wA c).ok:=λc=>bG.Bp bG.dL _ _;have hal:allB.ok:=bG.Bp bG.dL _ _;unfold ey at h;split at h;·cases h;exact⟨hx,by omega⟩
  ·split at h;·obtain⟨h1,h2⟩:=vP s f _ _ y (bC.zR hx (show(bC.many (.one allB) false).ok from hal)) h;rw[uk]at h2;exact⟨h1,by have:(bC.many (.one allB) false).count=1:=rfl;omega⟩
   ·split at h;·exact hone _ _ hal h
    ·split at h;·
      split at h;·cases h
      ·exact hone _ _ (hob _) h
     ·exact hone _ _ (hob _) h
theorem D8{s:ByteArray}{y:bC}(h:qo s= .ok y):y.ok/\y.count<=s.size+1:=by have:=vP s (s.size+1) .empty 0 y wB h;exact⟨this.1,by have:=this.2;have e:bC.empty.count=0:=rfl;omega⟩
theorem oO{l:List UInt8}{i:Nat}{c:UInt8}(h:l[i]?=some c)(hc:c≠92):trail l (i+1)=0:=by show(if l[i]?=some 92 then _ else _)=_;rw[if_neg (by rw[h];exactλe=>hc (aJ e))]
theorem Eb{l:List UInt8}{i:Nat}(h:l[i]?=some 92):trail l (i+1)=trail l i+1:=by show(if l[i]?=some 92 then _ else _)=_;rw[if_pos h]
theorem Ea(l:List UInt8)(n:Nat):∀i,i<=n->trail (l.take n) i=trail l i|0,_=>rfl|m+1,h=>by show(if(l.take n)[m]?=some 92 then _ else _)=(if l[m]?=some 92 then _ else _);rw[List.getElem?_take_of_lt (by omega),Ea l n m (by omega)]
theorem GF(s:ByteArray)(i:Nat)(h:i<=s.size):trail (s.extract 0 i).data.toList (s.extract 0 i).size=trail s.data.toList i:=by
 have e1:(s.extract 0 i).data.toList=s.data.toList.take i:=by simp[ByteArray.data_extract]
 have e2:(s.extract 0 i).size=i:=by rw[ByteArray.size_extract];omega
 rw[e1,e2,Ea _ _ _ (au _)]
structure BSt where
 l:Option Nat
 h:Option Nat
def adp(lo:List UInt8):Option Nat->UInt8->Option (Option Nat)|none,_=>some none|some k,c=>match lo[k]? with|none=>some none|some b=>if b<c then some none else if c<b then none else some (some (k+1))
def ad6(hi:List UInt8):Option Nat->UInt8->Option (Option Nat)|none,_=>some none|some k,c=>match hi[k]? with|none=>none|some b=>if b<c then none else if c<b then some none else some (some (k+1))
section
variable{lo hi:List UInt8}{k:Nat}{c b:UInt8}
end
def aaU(lo hi:List UInt8)(s:BSt)(c:UInt8):Option BSt:=match adp lo s.l c with|none=>none|some l=>match ad6 hi s.h c with|none=>none|some h=>some ⟨l,h⟩
def aaV(lo:List UInt8)(s:BSt):Bool:=match s.l with|none=>true|some k=>decide (k=lo.length)
def XM(hi:List UInt8):BSt:=⟨some 0,if hi=[]then none else some 0⟩
def Cells(w w':ak):Prop:=w.heap.size<=w'.heap.size/\∀(k:Nat)cs t r,w.heap[k]?=some (.cells cs t r)->t≠168->w'.heap[k]?=w.heap[k]?
theorem Cells.below{w w':ak}(h:aI w.heap.size w w'):Cells w w':=⟨h.size,λk cs t r hk _=>h.block k (Array.getElem?_eq_some_iff.1 hk).1⟩
def U7:List Nat:=[436,352,447,440,412,415,456,21,310,248,134,207,242,172]
def Still(t:Nat):Prop:=t∈U7
instance(t:Nat):Decidable (Still t):=inferInstanceAs(Decidable (t∈U7))
def tF(w w':ak):Prop:=∀(k:Nat)cs t r,w.heap[k]?=some (.cells cs t r)->Still t->w'.heap[k]?=w.heap[k]?
def Q3(w:ak)(q:Nat×Array ay×dx):Prop:=w.heap[q.1]?=some (.cells q.2.1 q.2.2 (0,0))
structure Goes(w:ak)(fv:ay)(acc:List UInt8->Bool):Prop where ex:∃(f ab:Nat)(bl:List (Nat×Array ay×dx)),fv= .func (.func f) #[] #[aP ab]/\(∀q∈bl,Q3 w q/\(q.2.2≠168/\Still q.2.2))/\(∀args w,(callFunc f args).run ah w= .ok (.enter f args) w)/\∀w1,(∀q∈bl,Q3 w1 q)->∀(db:Nat)(R:Nat->Prop)(Λ:Nat->List fJ)(ρ:Nat->Nat)(D:List DS)(g:Nat)(lb:Array ay),(∀args w,(callFunc g args).run ah w= .ok (.enter g args) w)->mM w1 db R Λ ρ D->(Λ 0).length<=1000000->∀J Jx:List (List UInt8×Nat)->ak->Prop,(∀ys wa wb,J ys wa->ae3 w1.heap.size wa wb->J ys wb)->(∀ys t i wa,J ys wa->ys++[(t,i)]<+:hits acc (Λ 0) 0->aX ah g (#[dC t,cJ i]++lb) wa λe wb=>acv wa wb/\((e= .returned (.bool true)/\J (ys++[(t,i)]) wb)\/(e= .returned (.bool false)/\Jx (ys++[(t,i)]) wb)))->J [] w1->aX ah f #[aP db,.func (.func g) #[] lb,aP ab] w1 λe w'=>e= .returned (.tuple #[])/\acv w1 w'/\(J (hits acc (Λ 0) 0) w'\/∃zs,zs<+:hits acc (Λ 0) 0/\Jx zs w')
theorem Goes.still{w w':ak}{fv:ay}{acc:List UInt8->Bool}(h:Goes w fv acc)(hk:tF w w'):Goes w' fv acc:=by obtain⟨f,ab,bl,h1,h2,h3,h4⟩:=h.ex;exact⟨f,ab,bl,h1,λq hq=>⟨(hk _ _ _ _ (h2 q hq).1 (h2 q hq).2.2).trans (h2 q hq).1,(h2 q hq).2⟩,h3,h4⟩
inductive EV where|no(k:Int)|bad(k i:Int)
def QY(w:ak)(ev:ay):EV->Prop| .no k=>ev=Xy k| .bad k i=>∃b,ev= .iface 129 (aP b)/\w.heap[b]?=some (.cells #[.int .i64 k,.int .i64 i] 134 (0,0))
open Classical in noncomputable def Vv(P:kE)(st:Nat):Option (List UInt8->Bool):=match P with| .ok x=>if(PM.compile x).wide st then none else JS λu=>(PM.compile x).reads bN u|_=>none
open Classical in noncomputable def Vu(P:kE)(st:Nat):Option EV:=match P with| .fault i=>JS (.bad 6 i)| .big=>JS (.no 9)| .ok x=>if(PM.compile x).wide st then JS (.no 9)else none
noncomputable def ai8(q:nN):Option (List UInt8->Bool):=if q.a.length<=40 then(if q.kind=1 then some (λu=>decide (u=q.a))else if q.kind=2 then some (λu=>decide (q.a<+:u))else if q.kind=6/\Qb ⟨q.a.toArray⟩ q.n=none then some (ae1 (agT (Vi ⟨q.a.toArray⟩) q.n.toNat) (agV (Vi ⟨q.a.toArray⟩) q.n.toNat) adj)else if q.kind=5 then Vv (gD ⟨q.a.toArray⟩) q.states.toNat else if q.kind=4 then Vv (qo ⟨q.a.toArray⟩) q.states.toNat else if q.kind=3/\q.b.length<=40 then some (λu=>ae1 (aaU q.a q.b) (aaV q.a) (XM q.b) u)else none)else none
noncomputable def aiZ(q:nN):Option EV:=if q.a.length<=40 then(if q.kind=6 then(Qb ⟨q.a.toArray⟩ q.n).map EV.no else if q.kind=5 then Vu (gD ⟨q.a.toArray⟩) q.states.toNat else if q.kind=4 then Vu (qo ⟨q.a.toArray⟩) q.states.toNat else if q.kind=3/\40<q.b.length then some (.no 2)else none)else if 1<=q.kind/\q.kind<=6 then some (.no 2)else none
theorem QY.still{w w':ak}{ev:ay}{e:EV}(h:QY w ev e)(hk:tF w w'):QY w' ev e:=by cases e with|no k=>exact h|bad k i=>obtain⟨b,h1,h2⟩:=h;exact⟨b,h1,(hk _ _ _ _ h2 (by decide)).trans h2⟩
structure DI (w:ak) (q:nN) (pb:Nat):Prop where
 goes:∀ acc,ai8 q=some acc -> ∃ fv,w.heap[pb]?=some (.cells #[fv,.nilIface] 248 (0,0))/\Goes w fv acc
 errs:∀ k,aiZ q=some k -> ∃ fv ev,w.heap[pb]?=some (.cells #[fv,ev] 248 (0,0))/\QY w ev k
theorem DI.still{w w':ak}{q:nN}{pb:Nat}(h:DI w q pb)(hk:tF w w'):DI w' q pb:=⟨λacc ha=>by obtain⟨fv,h1,h2⟩:=h.goes acc ha;exact⟨fv,(hk _ _ _ _ h1 (by decide)).trans h1,h2.still hk⟩,λk he=>by obtain⟨fv,ev,h1,h2⟩:=h.errs k he;exact⟨fv,ev,(hk _ _ _ _ h1 (by decide)).trans h1,h2.still hk⟩⟩
def xD(q:nN):ay:= .agg #[.int .i64 q.kind,dC q.a,dC q.b,.int .i64 q.n]
open Go.MuLone
def JM(B:Nat)(w:ak)(kn:ay):Prop:=kn= .map none\/∃(km:Nat)(m:List (nN×ay)),kn= .map (some km)/\B<=km/\bV aeW w km m/\Apart m/\∀q v,get m q=some v->∃pb,v=aP pb/\DI w q pb
def Iu(nd db:Nat)(pv:ay)(l:Int)(kn:ay):Obj:= .cells #[.int .i64 nd,.pointer (some ⟨db,0,none⟩),pv,.int .i32 l,.int .u32 0,kn] 168 (0,0)
end Go.Proofs.Ts
