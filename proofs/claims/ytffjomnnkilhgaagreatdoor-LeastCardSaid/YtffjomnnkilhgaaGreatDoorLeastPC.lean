/- Lemmas towards the statement Least of termsearch: walks of the program's functions and plain laws on lists (TsDict, TsNumber, TsCount). Conditions: those that each theorem names. -/
import Derived.Test.YtffjomnnkilhgaaGreatDoorLeastPA
import Derived.Maps.AppendAt
import Derived.Deep.CutBlock
import Derived.Deep.DeepCutAuto
set_option linter.unusedVariables false
set_option linter.unusedSimpArgs false
set_option linter.unusedSectionVars false
set_option maxRecDepth 100000
set_option maxHeartbeats 32000000
open Go renaming Good->mS,Value->ay,World->ak
open Go.Addr renaming add->iU
open Go.Builtin renaming len_->C2
open Go.Instr renaming lookup->fH
open Go.Lib renaming hid->ae
open Go.Proofs.Tryz renaming func187->ash,func192->asg,ntmps187->aoL,ntmps192->aoK,prog->ah,underlying276->mD
open Go.RowKit renaming Below->aI
open Go.RowKit.Below renaming heap_alloc->aC,heap_setCell->az
open Go.Value renaming oneCell'->dN,ownBlock->gN
open Go.Value.slice renaming injEq->bA
open Go.World renaming cell?_alloc_lt->aV,ownsRow_nil->bS
open Go.World.grownBy renaming cell->dw
open List renaming getElem?_append_left->dF,getElem?_eq_getElem->ar,getElem?_set->fD,getElem?_set_ne->dA,getElem?_set_self->dz,map_append->cQ,map_congr_left->rW,mem_of_getElem?->aS,prefix_append->jm,prefix_refl->tS,set_cons_succ->ai,set_cons_zero->aj,take_length->dH,take_succ_eq_append_getElem->bH
open Nat renaming le_refl->au,le_trans->aZ,lt_irrefl->abo,lt_of_le_of_lt->qj,lt_of_lt_of_le->bI,zero_le->aW
open Ne renaming symm->dB
open Option.some renaming inj->aJ
namespace Go.Proofs.Ts
open Go Go.RowKit
structure DS where
 final:Bool
 aY:List (UInt8 × Nat)
 v:ay
 below:Nat
def fA(es:List (UInt8×Nat)):List ay:=es.flatMap λp=>[.int .u8 p.1.toNat,cJ p.2]
theorem Ap(a b:List (UInt8×Nat)):fA (a++b)=fA a++fA b:=by simp[fA]
theorem xX:∀(es:List (UInt8×Nat))(i:Nat)(p:UInt8×Nat),es[i]?=some p->(fA es)[i*2]?=some (.int .u8 p.1.toNat)/\(fA es)[i*2+1]?=some (cJ p.2)
 |[],i,p,h=>by simp at h|y::t,0,p,h=>by simp at h;subst h;simp[fA]|y::t,i+1,p,h=>by
  have ih:=xX t i p (by simpa using h);have e:fA (y::t)= .int .u8 y.1.toNat::cJ y.2::fA t:=by simp[fA]
  rw[e,show(i+1)*2=i*2+1+1 by omega,show i*2+1+1+1=(i*2+1)+1+1 by omega];simpa using ih
def dO(D:List DS):List ay:=D.flatMap λs=>[.bool s.final,s.v,cJ s.below]
theorem im(s:DS)(D:List DS):dO (s::D)= .bool s.final::s.v::cJ s.below::dO D:=by simp[dO]
theorem zC(a b:List DS):dO (a++b)=dO a++dO b:=by simp[dO]
theorem xN:∀(D:List DS)(i:Nat)(s:DS),D[i]?=some s->(dO D)[i*3]?=some (.bool s.final)/\(dO D)[i*3+1]?=some s.v/\(dO D)[i*3+2]?=some (cJ s.below)|[],i,p,h=>by simp at h|y::t,0,p,h=>by simp at h;subst h;simp[dO]|y::t,i+1,p,h=>by have ih:=xN t i p (by simpa using h);rw[im,show(i+1)*3=i*3+1+1+1 by omega,show i*3+1+1+1+1=(i*3+1)+1+1+1 by omega,show i*3+1+1+1+2=(i*3+2)+1+1+1 by omega];simpa using ih
theorem sY:∀(D:List DS)(i:Nat)(s:DS)(v:ay),D[i]?=some s->(es:List (UInt8×Nat))->(dO D).set (i*3+1) v=dO (D.set i {s with v:=v,aY:=es})|[],i,s,v,h,es=>by simp at h|y::t,0,s,v,h,es=>by simp at h;subst h;simp[im]|y::t,i+1,s,v,h,es=>by have ih:=sY t i s v (by simpa using h) es;rw[ai,im,im,show(i+1)*3+1=(i*3+1)+1+1+1 by omega];simp[ih]
theorem oP:∀(D:List DS)(i:Nat)(s:DS)(b:Nat),D[i]?=some s->(dO D).set (i*3+2) (cJ b)=dO (D.set i {s with below:=b})|[],i,s,v,h=>by simp at h|y::t,0,s,v,h=>by simp at h;subst h;simp[im]|y::t,i+1,s,v,h=>by have ih:=oP t i s v (by simpa using h);rw[ai,im,im,show(i+1)*3+2=(i*3+2)+1+1+1 by omega];simp[ih]
structure RowsIn (B:Nat) (w:ak) (V:ay) (D:List DS):Prop where
 row:w.ownsRow 0 207 3 V D.length (dO D)
 past:kp B V
 jw:∀ (i:Nat) s,D[i]?=some s->w.ownsRow 0 242 2 s.v s.aY.length (fA s.aY)
 uP:∀ (i:Nat) s,D[i]?=some s->kp B s.v
 apart:∀ (i j:Nat) s t g,i≠j->D[i]?=some s->D[j]?=some t->s.v.ownBlock=some g->t.v.ownBlock≠some g
 lX:∀ (i:Nat) s g,D[i]?=some s->s.v.ownBlock=some g->V.ownBlock≠some g
theorem RowsIn.empty(B:Nat)(w:ak):RowsIn B w (.slice none 0 0) []:=⟨bS _ _ _ _,(λk h=>by cases h),(λi s h=>by simp at h),(λi s h=>by simp at h),(λi j s t g _ h=>by simp at h),(λi s g h=>by simp at h)⟩
theorem RowsIn.kept{B:Nat}{w w':ak}{V:ay}{D:List DS}(h:RowsIn B w V D)(hk:∀k,B<=k->k<w.heap.size->w'.heap[k]?=w.heap[k]?):RowsIn B w' V D:=⟨aO h.row λk e=>hk k (h.past k e) (h.row.lt k e).2,h.past,λi s hi=>aO (h.jw i s hi) λk e=>hk k (h.uP i s hi k e) ((h.jw i s hi).lt k e).2,h.uP,h.apart,h.lX⟩
theorem RowsIn.agY{B:Nat}{w:ak}{V:ay}{D:List DS}(h:RowsIn B w V D):RowsIn 0 w V D:=⟨h.row,λ_ _=>aW _,h.jw,λ_ _ _ _ _=>aW _,h.apart,h.lX⟩
theorem RowsIn.cells{B:Nat}{w:ak}{V:ay}{D:List DS}(h:RowsIn B w V D){i:Nat}{s:DS}(hi:D[i]?=some s):∃g cap,V=sL g D.length cap/\w.cell? (aD g (i*3))=some (.bool s.final)/\w.cell? (aD g (i*3+1))=some s.v/\w.cell? (aD g (i*3+2))=some (cJ s.below)/\w.frozen? (aD g (i*3+1))=false/\w.frozen? (aD g (i*3+2))=false:=by have hrow:=h.row;have hlt:=(List.getElem?_eq_some_iff.1 hi).1;obtain⟨m,hm⟩:∃m,D.length=m+1:=⟨D.length-1,by omega⟩;rw[hm]at hrow;obtain⟨g,cap,hv⟩:=bX hrow;rw[hv]at hrow;obtain⟨e1,e2,e3⟩:=xN D i s hi;exact⟨g,cap,by rw[hm];exact hv,(hrow.cellAt _ (by omega)).trans e1,(hrow.cellAt _ (by omega)).trans e2,(hrow.cellAt _ (by omega)).trans e3,hrow.frozenAt _,hrow.frozenAt _⟩
theorem RowsIn.dt{B:Nat}{w:ak}{V:ay}{D:List DS}(h:RowsIn B w V D){i:Nat}{s:DS}(hi:D[i]?=some s){j:Nat}{p:UInt8×Nat}(hj:s.aY[j]?=some p):∃g cap,s.v=sL g s.aY.length cap/\w.cell? (aD g (j*2))=some (.int .u8 p.1.toNat)/\w.cell? (aD g (j*2+1))=some (cJ p.2):=by have hrow:=h.jw i s hi;have hlt:=(List.getElem?_eq_some_iff.1 hj).1;obtain⟨m,hm⟩:∃m,s.aY.length=m+1:=⟨s.aY.length-1,by omega⟩;rw[hm]at hrow;obtain⟨g,cap,hv⟩:=bX hrow;rw[hv]at hrow;obtain⟨e1,e2⟩:=xX s.aY j p hj;exact⟨g,cap,by rw[hm];exact hv,(hrow.cellAt _ (by omega)).trans e1,(hrow.cellAt _ (by omega)).trans e2⟩
theorem RowsIn.push{B:Nat}{w w':ak}{V V':ay}{D:List DS}(h:RowsIn B w V D)(hB:B<=w.heap.size)(hm:bL w V w' V'){f:Bool}(hrow:w'.ownsRow 0 207 3 V' (D.length+1) (dO (D++[⟨f,[],.slice none 0 0,0⟩]))):RowsIn B w' V' (D++[⟨f,[],.slice none 0 0,0⟩]):=by
 have uZ:∀(i:Nat)s,(D++[(⟨f,[],.slice none 0 0,0⟩:DS)])[i]?=some s->D[i]?=some s\/s=⟨f,[],.slice none 0 0,0⟩:=λi s hi=>by
  by_cases h1:i<D.length;·rw[dF h1]at hi;exact .inl hi
  ·rw[List.getElem?_append_right (by omega)]at hi;right;have:=aS hi;simpa using this
 refine⟨by simpa using hrow,hm.past h.past hB,λi s hi=>?_,λi s hi=>?_,λi j s t g hne hi hj hg=>?_,λi s g hi hg=>?_⟩;·
  rcases uZ i s hi with hi|rfl;·exact aO (h.jw i s hi) λk e=>hm.block ((h.jw i s hi).lt k e).2 (h.lX i s k hi e)
  ·exact bS _ _ _ _
 ·rcases uZ i s hi with hi|rfl;·exact h.uP i s hi
  ·exactλk e=>by cases e
 ·rcases uZ i s hi with hi|rfl;·
   rcases uZ j t hj with hj|rfl;·exact h.apart i j s t g hne hi hj hg
   ·intro e;cases e
  ·cases hg
 ·rcases uZ i s hi with hi|rfl;·
   intro e;rcases hm.lies with h1|⟨g',h1,h2⟩;·exact h.lX i s g hi hg (h1▸e)
   ·rw[h1]at e;have:=((h.jw i s hi).lt g hg).2;have:=aJ e;omega
  ·cases hg
theorem RowsIn.link{B:Nat}{w w':ak}{V:ay}{D:List DS}(h:RowsIn B w V D)(hB:B<=w.heap.size){k g cap:Nat}{s:DS}(hk:D[k]?=some s){v':ay}(hm:bL w s.v w' v'){p:UInt8×Nat}(hrow:w'.ownsRow 0 242 2 v' (s.aY.length+1) (fA (s.aY++[p])))(hV:V=sL g D.length cap):RowsIn B (w'.setCell (aD g (k*3+1)) v') V (D.set k {s with v:=v',aY:=s.aY++[p]}):=by
 have hkl:=(List.getElem?_eq_some_iff.1 hk).1;have Ua:V.ownBlock=some g:=by rw[hV];rfl
 have EG:s.v.ownBlock≠some g:=λe=>h.lX k s g hk e Ua;have hgl:=(h.row.lt g Ua).2;have aha:v'.ownBlock≠some g:=λe=>by
  rcases hm.lies with h1|⟨g',h1,h2⟩;·exact EG (h1▸e)
  ·rw[h1]at e;have:=aJ e;omega
 have hr1:w'.ownsRow 0 207 3 V D.length (dO D):=aO h.row λj e=>hm.block (h.row.lt j e).2 (λe'=>h.lX k s j hk e' e);have uZ:∀(i:Nat)x,(D.set k {s with v:=v',aY:=s.aY++[p]})[i]?=some x->(i=k/\x={s with v:=v',aY:=s.aY++[p]})\/(i≠k/\D[i]?=some x):=λi x hi=>by
  rw[fD]at hi;split at hi;·
   rename_i e;subst e;first|rw[if_pos hkl]at hi|skip
   exact .inl ⟨rfl,(aJ hi).symm⟩
  ·rename_i e;exact .inr ⟨dB e,hi⟩
 have Ww:∀i x,i≠k->D[i]?=some x->∀j,x.v.ownBlock=some j->v'.ownBlock≠some j:=λi x hne hi j hj e=>by
  rcases hm.lies with h1|⟨g',h1,h2⟩;·exact h.apart i k x s j hne hi hk hj (h1▸e)
  ·rw[h1]at e;have:=aJ e;have:=((h.jw i x hi).lt j hj).2;omega
 refine⟨?_,h.past,λi x hi=>?_,λi x hi=>?_,λi j x y b hne hi hj hb=>?_,λi x b hi hb=>?_⟩;·rw[hV]at hr1⊢;have:=(hr1.stored (k*3+1) v').1;rw[sY D k s v' hk (s.aY++[p])]at this;simpa using this
 ·rcases uZ i x hi with⟨rfl,rfl⟩|⟨hne,hi⟩;·
   have hl:(s.aY++[p]).length=s.aY.length+1:=by simp
   simp only[hl];exact aO hrow λj e=>az _ _ _ j (λe'=>aha (by rw[e];exact congrArg some e'))
  ·refine aO (h.jw i x hi) λj e=>?_;rw[az _ _ _ j (λe'=>h.lX i x j hi e (by rw[Ua];exact congrArg some e'.symm))];exact hm.block ((h.jw i x hi).lt j e).2 (h.apart i k x s j hne hi hk e)
 ·rcases uZ i x hi with⟨rfl,rfl⟩|⟨hne,hi⟩;·exact hm.past (h.uP _ s hk) hB
  ·exact h.uP i x hi
 ·rcases uZ i x hi with⟨rfl,rfl⟩|⟨ahw,hi⟩;·
   rcases uZ j y hj with⟨rfl,rfl⟩|⟨ahv,hj⟩;·exact absurd rfl hne
   ·exactλe=>Ww j y ahv hj b e hb
  ·rcases uZ j y hj with⟨rfl,rfl⟩|⟨ahv,hj⟩;·exact Ww i x ahw (by assumption) b hb
   ·exact h.apart i j x y b hne hi hj hb
 ·rcases uZ i x hi with⟨rfl,rfl⟩|⟨ahw,hi⟩;·intro e;rw[Ua]at e;exact aha (by rw[e];exact hb)
  ·exact h.lX i x b hi hb
theorem RowsIn.tell{B:Nat}{w:ak}{V:ay}{D:List DS}(h:RowsIn B w V D){k g cap b:Nat}{s:DS}(hk:D[k]?=some s)(hV:V=sL g D.length cap):RowsIn B (w.setCell (aD g (k*3+2)) (cJ b)) V (D.set k {s with below:=b}):=by
 have hkl:=(List.getElem?_eq_some_iff.1 hk).1;have Ua:V.ownBlock=some g:=by rw[hV];rfl
 have uZ:∀(i:Nat)x,(D.set k {s with below:=b})[i]?=some x->∃y,D[i]?=some y/\x.v=y.v/\x.aY=y.aY:=λi x hi=>by
  rw[fD]at hi;split at hi;·
   rename_i e;subst e;first|rw[if_pos hkl]at hi|skip
   cases hi;exact⟨s,hk,rfl,rfl⟩
  ·exact⟨x,hi,rfl,rfl⟩
 refine⟨?_,h.past,λi x hi=>?_,λi x hi=>?_,λi j x y c hne hi hj hb=>?_,λi x c hi hb=>?_⟩;·have hr1:=h.row;rw[hV]at hr1⊢;have:=(hr1.stored (k*3+2) (cJ b)).1;rw[oP D k s b hk]at this;simpa using this
 ·obtain⟨y,h1,h2,h3⟩:=uZ i x hi;rw[h2,h3];exact aO (h.jw i y h1) λj e=>az _ _ _ j (λe'=>h.lX i y j h1 e (by rw[Ua];exact congrArg some e'.symm))
 ·obtain⟨y,h1,h2,h3⟩:=uZ i x hi;rw[h2];exact h.uP i y h1
 ·obtain⟨x',h1,h2,_⟩:=uZ i x hi;obtain⟨y',h1',h2',_⟩:=uZ j y hj;rw[h2]at hb;rw[h2'];exact h.apart i j x' y' c hne h1 h1' hb
 ·obtain⟨y,h1,h2,h3⟩:=uZ i x hi;rw[h2]at hb;exact h.lX i y c h1 hb
def Oe(H:Nat):ay:= .func (.func 187) #[] #[aP (H+3),aP (H+1),aP (H+4)]
structure sJ(H:Nat)(M:List (Nat×Nat))(D:List DS)(V:ay)(w:ak):Prop where Qz:w.heap[H]?=some (.cells #[V] 172 (0,0))cd:w.heap[H+1]?=some (.cells #[aP H] 158 (0,0))mp:bV aP w (H+2) (vals cJ M)cm:w.heap[H+3]?=some (.cells #[.map (some (H+2))] 276 (0,0))cf:w.heap[H+4]?=some (.cells #[Oe H] 376 (0,0))rows:RowsIn (H+5) w V D
def Touch(H:Nat)(V:ay)(j:Nat):Prop:=j=H\/j=H+2\/V.ownBlock=some j
structure Steps (H:Nat) (w:ak) (V:ay) (w':ak) (V':ay):Prop where
 mod:Mod (Touch H V) w w'
 lies:V'.ownBlock=V.ownBlock \/ ∃ g,V'.ownBlock=some g/\w.heap.size<=g
theorem Steps.refl(H:Nat)(w:ak)(V:ay):Steps H w V w V:=⟨Mod.refl _ _,.inl rfl⟩
theorem Steps.trans{H:Nat}{a b c:ak}{U V X:ay}(h:Steps H a U b V)(k:Steps H b V c X):Steps H a U c X:=by
 refine⟨⟨k.mod.os.trans h.mod.os,k.mod.tape.trans h.mod.tape,k.mod.output.trans h.mod.output,aZ h.mod.size k.mod.size,λj hj hn=>?_⟩,?_⟩;·
  refine(k.mod.block j (bI hj h.mod.size) ?_).trans (h.mod.block j hj hn);rintro(e|e|e);·exact hn (.inl e)
  ·exact hn (.inr (.inl e))
  ·rcases h.lies with l|⟨g,l,hg⟩;·exact hn (.inr (.inr (l▸e)))
   ·rw[l]at e;have:=aJ e;omega
 ·rcases k.lies with l|⟨g,l,hg⟩;·rw[l];exact h.lies
  ·exact .inr ⟨g,l,aZ h.mod.size hg⟩
theorem Steps.kept{H:Nat}{a b c:ak}{U V:ay}(h:Steps H a U b V)(hs:b.heap.size<=c.heap.size)(ho:c.os=b.os)(ht:c.tape=b.tape)(hou:c.output=b.output)(hk:∀j,j<a.heap.size->c.heap[j]?=b.heap[j]?\/Touch H V j):Steps H a U c V:=⟨⟨ho.trans h.mod.os,ht.trans h.mod.tape,hou.trans h.mod.output,aZ h.mod.size hs,λj hj hn=>by
 rcases hk j hj with e|e|e|e;·exact e.trans (h.mod.block j hj hn)
 ·exact absurd (.inl e) hn
 ·exact absurd (.inr (.inl e)) hn
 ·rcases h.lies with l|⟨g,l,hg⟩;·exact absurd (.inr (.inr (l▸e))) hn
  ·rw[l]at e;have:=aJ e;omega⟩,h.lies⟩
theorem Steps.alloc{H:Nat}{a b:ak}{U V:ay}(h:Steps H a U b V)(o:Obj):Steps H a U (b.alloc o) V:=h.kept (by simp) rfl rfl rfl λj hj=> .inl (aC b o j (bI hj h.mod.size))
theorem Steps.below{H:Nat}{w w':ak}{V V':ay}(h:Steps H w V w' V')(hV:kp (H+5) V)(hs:H<=w.heap.size):aI H w w':=⟨h.mod.os,h.mod.tape,h.mod.output,h.mod.size,λj hj=>h.mod.block j (by omega) λhT=>by
 rcases hT with e|e|e;·omega
 ·omega
 ·have:=hV j e;omega⟩
section
variable{H:Nat}{M:List (Nat×Nat)}{D:List DS}{V:ay}{w:ak}
theorem sJ.size(h:sJ H M D V w):H+5<=w.heap.size:=lt_of_heap h.cf
theorem sJ.kept{w':ak}(h:sJ H M D V w)(hk:∀j,j<w.heap.size->w'.heap[j]?=w.heap[j]?):sJ H M D V w':=by have:=h.size;exact⟨(hk H (by omega)).trans h.Qz,(hk _ (by omega)).trans h.cd,h.mp.of_block (hk _ (by omega)),(hk _ (by omega)).trans h.cm,(hk _ (by omega)).trans h.cf,h.rows.kept λk _ hl=>hk k hl⟩
theorem sJ.count{w':ak}{n x:Nat}(h:sJ H M D V w)(hg:w.grownBy w' (some (H+2)))(hm:bV aP w' (H+2) (put (vals cJ M) n (cJ x))):sJ H (put M n x) D V w'/\Steps H w V w' V:=by have hs:=h.size;rw[qC]at hm;have ne:∀k,k<w.heap.size->k≠H+2->w'.heap[k]?=w.heap[k]?:=λk hk hn=>hg.block k hk λe=>hn (aJ e);exact⟨⟨(ne _ (by omega) (by omega)).trans h.Qz,(ne _ (by omega) (by omega)).trans h.cd,hm,(ne _ (by omega) (by omega)).trans h.cm,(ne _ (by omega) (by omega)).trans h.cf,h.rows.kept λk h1 h2=>ne k h2 (by omega)⟩,⟨Mod.grown hg λk hk _=> .inr (.inl (aJ hk).symm),.inl rfl⟩⟩
theorem sJ.push{W:ak}{V':ay}{f:Bool}(h:sJ H M D V w)(hm:bL w V W V')(hrow:W.ownsRow 0 207 3 V' (D.length+1) (dO (D++[⟨f,[],.slice none 0 0,0⟩]))):sJ H M (D++[⟨f,[],.slice none 0 0,0⟩]) V' (W.setCell (aD H 0) V')/\Steps H w V (W.setCell (aD H 0) V') V':=by
 have hs:=h.size;have hp:=h.rows.past;have OU:∀k,k<H+5->V.ownBlock≠some k:=λk hk e=>by have:=hp k e;omega
 have old:∀k,k<H+5->k≠H->(W.setCell (aD H 0) V').heap[k]?=w.heap[k]?:=λk hk hn=>(az W _ _ k hn).trans (hm.block (by omega) (OU k hk));have hR:=h.rows.push hs hm hrow;refine⟨⟨?_,(old _ (by omega) (by omega)).trans h.cd,h.mp.of_block (old _ (by omega) (by omega)),(old _ (by omega) (by omega)).trans h.cm,(old _ (by omega) (by omega)).trans h.cf,?_⟩,?_,hm.lies⟩;·have hWH:W.heap[H]?=some (.cells #[V] 172 (0,0)):=(hm.block (by omega) (OU H (by omega))).trans h.Qz;have:=heap_setCell_same W H 0 _ _ V' hWH;simpa using this
 ·exact hR.kept λk h1 _=>az W _ _ k (by show k≠H;omega)
 ·exact(Mod.grown hm.grown λk hk _=> .inr (.inr hk)).trans (Mod.setCell W _ _ λ_=> .inl rfl)
theorem sJ.link{W:ak}{k g cap:Nat}{s:DS}{v':ay}{p:UInt8×Nat}(h:sJ H M D V w)(hk:D[k]?=some s)(hm:bL w s.v W v')(hrow:W.ownsRow 0 242 2 v' (s.aY.length+1) (fA (s.aY++[p])))(hV:V=sL g D.length cap):sJ H M (D.set k {s with v:=v',aY:=s.aY++[p]}) V (W.setCell (aD g (k*3+1)) v'):=by
 have hs:=h.size;have MT:H+5<=g:=h.rows.past g (by rw[hV];rfl);have old:∀j,j<H+5->(W.setCell (aD g (k*3+1)) v').heap[j]?=w.heap[j]?:=λj hj=>by refine(az W _ _ j (by show j≠g;omega)).trans (hm.block (by omega) λe=>?_);have:=h.rows.uP k s hk j e;omega
 exact⟨(old _ (by omega)).trans h.Qz,(old _ (by omega)).trans h.cd,h.mp.of_block (old _ (by omega)),(old _ (by omega)).trans h.cm,(old _ (by omega)).trans h.cf,h.rows.link hs hk hm hrow hV⟩
end
def Fy(G:rU)(M:List (Nat×Nat))(D:List DS)(k:Nat):Prop:=∃n s nd,M[k]?=some (n,k)/\D[k]?=some s/\G n=some nd/\s.final=nd.final/\s.below=0/\s.aY=nd.aY.map (λe=>(e.1,(get M e.2).getD 0))/\∀e∈nd.aY,(get M e.2).isSome
theorem get_append{M M':List (Nat×Nat)}{n x:Nat}(h:get M n=some x):get (M++M') n=some x:=by induction M with
 |nil=>cases h|cons p r ih=>
  simp only[List.cons_append,get]at h⊢;split;·rename_i e;rw[if_pos e]at h;exact h
  ·rename_i e;rw[if_neg e]at h;exact ih h
theorem qT{M M':List (Nat×Nat)}{n x:Nat}(hp:M<+:M')(h:get M n=some x):get M' n=some x:=by obtain⟨t,rfl⟩:=hp;exact get_append h
theorem jd{α:Type}{M M':List α}{i:Nat}{x:α}(hp:M<+:M')(h:M[i]?=some x):M'[i]?=some x:=by obtain⟨t,rfl⟩:=hp;rw[dF (List.getElem?_eq_some_iff.1 h).1];exact h
theorem Fy.mono{G:rU}{M M':List (Nat×Nat)}{D D':List DS}{k:Nat}(h:Fy G M D k)(hM:M<+:M')(hD:D'[k]?=D[k]?):Fy G M' D' k:=by
 obtain⟨n,s,nd,h1,h2,h3,h4,h5,h6,h7⟩:=h;refine⟨n,s,nd,jd hM h1,hD.trans h2,h3,h4,h5,?_,λe he=>?_⟩;·rw[h6];refine rW λe he=>?_;obtain⟨x,hx⟩:=Option.isSome_iff_exists.1 (h7 e he);rw[hx,qT hM hx]
 ·obtain⟨x,hx⟩:=Option.isSome_iff_exists.1 (h7 e he);rw[qT hM hx];rfl
structure Met (G:rU) (mS:Nat->Prop) (H n:Nat) (M:List (Nat × Nat)) (D:List DS) (V:ay) (w:ak) (M':List (Nat × Nat)) (D':List DS) (V':ay) (w':ak):Prop where
 meet:sJ H M' D' V' w'
 steps:Steps H w V w' V'
 ids:M <+: M'
 states:D <+: D'
 good:∀ p∈M',mS p.1
 apart:Apart M'
 len:M'.length=D'.length
 has:(get M' n).isSome
 closed:∀ k,D.length<=k->k < D'.length->Fy G M' D' k
 first:get M n=none->M++[(n,M.length)] <+: M'
theorem wT(w:ak)(a b c:ay)(t:TypeId):∀j u,[a,b,c][j]?=some u->(w.alloc (.cells #[a,b,c] t)).cell? (((aD w.heap.size 0):Addr).add j)=some u:=by intro j u hj;match j,hj with|0,hj=>simp at hj;subst hj;simp[iU]|1,hj=>simp at hj;subst hj;simp[iU]|2,hj=>simp at hj;subst hj;simp[iU]|j+3,hj=>simp at hj
theorem Tryz.ZU:(Tryz.prog.info? 207).map (λi=>(i.zero,i.size,i.bytes))=some (some (.agg #[.bool false,.slice none 0 0,.int .i64 0]),3,40):=by kernel_rfl
theorem Tryz.ZT:(Tryz.prog.info? 242).map (λi=>(i.zero,i.size,i.bytes))=some (some (.agg #[.int .u8 0,.int .i64 0]),2,16):=by kernel_rfl
structure ya (G:rU) (mS:Nat->Prop) (H n:Nat) (M:List (Nat × Nat)) (D:List DS) (V:ay) (w:ak) (nd:Nd) (j:Nat) (M':List (Nat × Nat)) (D':List DS) (V' v':ay) (wr:ak):Prop where
 meet:sJ H M' D' V' wr
 steps:Steps H w V wr V'
 ids:M++[(n,M.length)] <+: M'
 states:D <+: D'
 own:D'[D.length]?=some ⟨nd.final,(nd.aY.take j).map (fun e=>(e.1,(get M' e.2).getD 0)),v',0⟩
 done:∀ e∈nd.aY.take j,(get M' e.2).isSome
 past:kp w.heap.size v'
 good:∀ p∈M',mS p.1
 apart:Apart M'
 len:M'.length=D'.length
 closed:∀ k,D.length < k->k < D'.length->Fy G M' D' k
theorem aaM{M:List (Nat×Nat)}{n:Nat}(h:get M n=none):get (M++[(n,M.length)]) n=some M.length:=by rw[<-eJ M.length h,mq,if_pos rfl]
theorem ya.start {G:rU} {mS:Nat->Prop} {H n:Nat} {M:List (Nat × Nat)} {D:List DS} {V V':ay} {w wr:ak} {nd:Nd} (hme:sJ H (M++[(n,M.length)]) (D++[⟨nd.final,[],.slice none 0 0,0⟩]) V' wr) (hst:Steps H w V wr V')
  (hM:∀ p∈M,mS p.1) (hn:mS n) (hap:Apart M) (hlen:M.length=D.length) (hget:get M n=none):ya G mS H n M D V w nd 0 (M++[(n,M.length)]) (D++[⟨nd.final,[],.slice none 0 0,0⟩]) V' (.slice none 0 0) wr where
 meet:=hme
 steps:=hst
 ids:=tS _
 states:=jm _ _
 own:=by simp
 done:=by simp
 past:=fun k h=>by cases h
 good:=fun p hp=>by
  rcases List.mem_append.1 hp with hp | hp
  ·exact hM p hp
  ·simp at hp; subst hp; exact hn
 apart:=by rw [<- eJ _ hget]; exact hap.put _ _
 len:=by simp [hlen]
 closed:=fun k h1 h2=>by simp at h2; omega
theorem ya.close{G:rU}{mS:Nat->Prop}{H n:Nat}{M:List (Nat×Nat)}{D:List DS}{V V' v':ay}{w wr:ak}{nd:Nd}{M':List (Nat×Nat)}{D':List DS}(h:ya G mS H n M D V w nd nd.aY.length M' D' V' v' wr)(hG:G n=some nd)(hlen:M.length=D.length)(hget:get M n=none):get M' n=some M.length/\Met G mS H n M D V w M' D' V' wr:=by
 have hown:=h.own;have hdone:=h.done;rw[dH]at hown hdone;have hg:=qT h.ids (aaM hget);refine⟨hg,h.meet,h.steps,(jm _ _).trans h.ids,h.states,h.good,h.apart,h.len,by rw[hg];rfl,λk h1 h2=>?_,λ_=>h.ids⟩;by_cases hk:k=D.length;·subst hk;exact⟨n,_,nd,jd h.ids (by rw[<-hlen];simp),hown,hG,rfl,rfl,rfl,hdone⟩
 ·exact h.closed k (by omega) h2
theorem ya.link{G:rU}{mS:Nat->Prop}{H n:Nat}{M:List (Nat×Nat)}{D:List DS}{V V1 V2 v1 v2:ay}{w wr w2 W:ak}{nd:Nd}{M1 M2:List (Nat×Nat)}{D1 D2:List DS}{j g cap:Nat}{o:Obj}{c:UInt8}{t:Nat}(h:ya G mS H n M D V w nd j M1 D1 V1 v1 wr)(hj:nd.aY[j]?=some (c,t))(hm:Met G mS H t M1 D1 V1 (wr.alloc o) M2 D2 V2 w2)(hmv:bL w2 v1 W v2)(hrow:W.ownsRow 0 242 2 v2 (((nd.aY.take j).map (λe=>(e.1,(get M1 e.2).getD 0))).length+1) (fA ((nd.aY.take j).map (λe=>(e.1,(get M1 e.2).getD 0))++[(c,(get M2 t).getD 0)])))(hV:V2=sL g D2.length cap):∃D3,ya G mS H n M D V w nd (j+1) M2 D3 V2 v2 (W.setCell (aD g (D.length*3+1)) v2):=by
 have hown2:=jd hm.states h.own;have hlt:=(List.getElem?_eq_some_iff.1 hj).1;have htk:nd.aY.take (j+1)=nd.aY.take j++[(c,t)]:=by rw[bH hlt];congr;exact aJ ((ar hlt).symm.trans hj)
 have px:Steps H w V w2 V2:=(h.steps.alloc o).trans hm.steps;have hmap:(nd.aY.take j).map (λe=>(e.1,(get M1 e.2).getD 0))=(nd.aY.take j).map (λe=>(e.1,(get M2 e.2).getD 0)):=rW λe he=>by obtain⟨x,hx⟩:=Option.isSome_iff_exists.1 (h.done e he);rw[hx,qT hm.ids hx]
 refine⟨_,hm.meet.link hown2 hmv hrow hV,?_,h.ids.trans hm.ids,?_,?_,?_,hmv.past h.past px.mod.size,hm.good,hm.apart,by simp[hm.len],λk h1 h2=>?_⟩;·
  refine px.kept (by simp;exact hmv.size) hmv.grown.os hmv.grown.tape hmv.grown.output λk hk=>?_;by_cases hkg:k=g;·
   right;subst hkg;have Ua:V2.ownBlock=some k:=by rw[hV];rfl
   rcases px.lies with l|⟨g',l,hg'⟩;·exact .inr (.inr (l▸Ua))
   ·rw[l]at Ua;have:=aJ Ua;omega
  ·left;refine(az W _ _ k hkg).trans (hmv.block (bI hk px.mod.size) λe=>?_);have:=h.past k e;omega
 ·obtain⟨T,hT⟩:=h.states.trans hm.states;rw[<-hT,List.set_append_right _ _ (au _)];exact jm _ _
 ·have hl:=(List.getElem?_eq_some_iff.1 hown2).1;rw[dz hl,htk,cQ,hmap];rfl
 ·intro e he;rw[htk]at he;rcases List.mem_append.1 he with he|he;·obtain⟨x,hx⟩:=Option.isSome_iff_exists.1 (h.done e he);rw[qT hm.ids hx];rfl
  ·simp at he;subst he;exact hm.has
 ·have hk2:k<D2.length:=by simpa using h2
  have kD:∀x,(D2.set D.length x)[k]?=D2[k]?:=λx=>dA (by omega);by_cases hk:k<D1.length;·
   have hc:=h.closed k h1 hk;have e2:D2[k]?=D1[k]?:=by rw[ar hk];exact jd hm.states (ar hk)
   exact hc.mono hm.ids ((kD _).trans e2)
  ·exact(hm.closed k (by omega) hk2).mono (tS _) (kD _)
theorem VP(s:St)(B bb kb ib H:Nat)(w0:ak)(hst:fZ B bb kb ib w0 s)(hH:w0.heap.size=H)(mS:Nat->Prop)(ρ:Nat->Nat)(Af:∀n,mS n->∃nd,s.G n=some nd/\nd.aY.length<=300/\∀e∈nd.aY,mS e.2/\ρ e.2<ρ n)(Je:∀M:List (Nat×Nat),Apart M->(∀p∈M,mS p.1)->M.length<=1000000):∀(r n:Nat)(M:List (Nat×Nat))(D:List DS)(V:ay)(w:ak),ρ n<r->mS n->(∀p∈M,mS p.1)->Apart M->M.length=D.length->sJ H M D V w->aI H w0 w->Calls ah 187 #[aP n,aP (H+3),aP (H+1),aP (H+4)] w λe w'=>∃M' D' V',e= .returned (cJ ((get M' n).getD 0))/\Met s.G mS H n M D V w M' D' V' w':=by intro r;induction r with
 |zero=>intro n M D V w h;exact absurd h (Nat.not_lt_zero _)|succ r ih=>
  intro n M D V w hr hn hM hap hlen hme hbl;have IH:=ae ih;obtain⟨nd,hG,hel,Xa⟩:=Af n hn;have cellsOf:∀W,aI H w0 W->(∀x,mS x->jT W x):=λW hB x hx=>by obtain⟨ndx,hx',_⟩:=Af x hx;exact(hst.below (hH▸hB)).jT (by rw[hx'];rfl)
  have VQ:∀W,aI H w0 W->∀M:List (Nat×Nat),(∀p∈M,mS p.1)->∀p∈vals cJ M,jT W p.1:=λW hB M hM p hp=>by obtain⟨q,hq,rfl⟩:=List.mem_map.1 hp;exact cellsOf W hB _ (hM q hq)
  have e1:w.cell? (aD (H+3) 0)=some (.map (some (H+2))):=aq hme.cm;have hlk:=bV.lookup wE hme.mp n (cellsOf w hbl n hn) (VQ w hbl M hM) mD (z:=iV 0) (by kernel_rfl) true;rw[np]at hlk;have HME:=ae hme;have CO:=ae cellsOf;have MC:=ae VQ;have HH:=ae hH;have ajJ:=ae Xa;have acF:=ae Af;have aoo:=ae Je;cases hget:get M n with
   |some k=>rw[hget]at hlk;have ad2:(fH 276 (.map (some (H+2))) (pT n) true).run ah w= .ok (.tuple #[iV k,.bool true]) w:=hlk;clear hlk;unfold aP;go_enter ash,aoL;go_wp2_with fail;go_ret;refine⟨M,D,V,by rw[hget];rfl,HME,Steps.refl _ _ _,tS _,tS _,hM,hap,hlen,by rw[hget];rfl,λj h1 h2=>absurd h1 (by omega),λh=>by rw[hget]at h;cases h⟩|none=>
    rw[hget]at hlk;have ad2:(fH 276 (.map (some (H+2))) (pT n) true).run ah w= .ok (.tuple #[iV 0,.bool false]) w:=hlk;obtain⟨ies,ic,hib,_⟩:=HME.mp;have aak:ies.size=M.length:=by rw[bV.len hib HME.mp];simp[vals]
    have abK:(C2 #[276] 3 #[.map (some (H+2))]).run ah w= .ok (iV M.length) w:=by rw[<-aak];unfold C2;simp only[Sem.run_bind,List.getElem?_toArray,List.getElem?_cons_zero,run_underlying mD,Result.andThen_ok];rw[om (w:=w) hib];rfl
    obtain⟨W1,EI,CC,hg1,hz1⟩:=bV.update wE HME.mp n (CO w hbl n hn) (MC w hbl M hM) mD (cJ M.length);have OB:(Instr.mapUpdate 276 (.map (some (H+2))) (pT n) (iV M.length)).run ah w= .ok () W1:=EI;obtain⟨WU,oh⟩:=HME.count hg1 CC;rw[eJ _ hget]at WU;have Yj:=ae WU;have anY:=ae oh;have amY:aI H w0 W1:=hbl.trans (oh.below HME.rows.past (by have:=HME.size;omega));obtain⟨n0,a1,Mc,hv1,n1⟩:=(hst.below (HH.out▸amY)).fN hG;have d0:W1.cell? (aD H 0)=some V:=aq WU.Qz;have d1:W1.cell? (aD (H+1) 0)=some (pT H):=aq WU.cd;have hHV:=ae hv1;have HL:=ae hlen;clear CC hg1 WU oh hv1 hlen hz1;unfold aP;go_enter ash,aoL;go_wp2_with fail;have Jb:n<H:=by have:=lt_of_heap (hst.nodes.node n nd hG);have:=HH.out;omega
    have hsz1:=Yj.size;have oX:=Yj.rows.row;have hDl:D.length<=1000000:=by have:=aoo.out M hap hM;have:=HL.out;omega
    refine bB [(0,false),(1,false),(2,false),(3,false),(4,false),(5,false),(6,false),(7,false),(8,false),(9,false),(10,true),(11,true),(12,true),(13,true),(14,true)] 14 (λw'=>w'.cell? (aD H 0)=some V/\w'.cell? (aD (H+1) 0)=some (pT H)/\w'.cell? (aD n 0)=some (.bool nd.final)) (by kernel_rfl) (by kernel_rfl) ?_ ?_;·exact⟨d0,d1,n0⟩
    iterate 10(
 refine aR ?_ rfl rfl (λw' hS=>?_) ?_;rotate_left;·obtain⟨f0,f1,f2⟩:=hS;go_simp;try rfl
 simp only[aN,ai,aj])
    refine bg rfl rfl (by decide) (λK hK=>?_);go_simp;have De:bL W1 V (W1.alloc (.cells #[.bool nd.final,.slice none 0 0,iV 0] 207)).drew V:=(bL.alloc W1 _ _).trans (bL.same _ (Same.drew _));have hrow3:(W1.alloc (.cells #[.bool nd.final,.slice none 0 0,iV 0] 207)).drew.ownsRow 0 207 3 V D.length (dO D):=(oX.alloc _).drew;have hc3:∀j u,[Value.bool nd.final,.slice none 0 0,iV 0][j]?=some u->(W1.alloc (.cells #[.bool nd.final,.slice none 0 0,iV 0] 207)).drew.cell? (((aD W1.heap.size 0):Addr).add j)=some u:=by have:=wT W1 (.bool nd.final) (.slice none 0 0) (iV 0) 207;simpa using this
    have hl3:(W1.alloc (.cells #[.bool nd.final,.slice none 0 0,iV 0] 207)).drew.cell? (aD H 0)=some V/\(W1.alloc (.cells #[.bool nd.final,.slice none 0 0,iV 0] 207)).drew.cell? (aD (H+1) 0)=some (pT H)/\(W1.alloc (.cells #[.bool nd.final,.slice none 0 0,iV 0] 207)).drew.cell? (aD n 0)=some (.bool nd.final):=⟨(aV _ _ _ (by show H<_;omega)).trans d0,(aV _ _ _ (by show H+1<_;omega)).trans d1,(aV _ _ _ (by show n<_;omega)).trans n0⟩;have Z6:(W1.alloc (.cells #[.bool nd.final,.slice none 0 0,iV 0] 207)).drew.heap.size=W1.heap.size+1:=by simp
    generalize(W1.alloc (.cells #[.bool nd.final,.slice none 0 0,iV 0] 207)).drew=W3 at*;refine hK _ _ hl3 ?_;clear hK K;refine bg rfl rfl (by decide) (λK hK=>?_);obtain⟨i0,hi,hz0,hz1,hz2⟩:=info_parts Tryz.ZU;refine wp_append_lies _ _ 170 rfl 207 i0 (.agg #[.bool false,.slice none 0 0,iV 0]) 3 40 Tryz.underlying170 hi hz0 hz1 hz2 rfl (by decide) _ _ _ rfl hrow3 (aD W1.heap.size 0) 1 1 [.bool nd.final,.slice none 0 0,iV 0] rfl rfl hc3 (by simp[dN]) (by decide) (by unfold maxLen;omega) (by omega) ?_;intro v4 W4 hrow4 cM dS;have Ae:=De.trans (bL.append cM dS);have OU:∀k,k<H+5->V.ownBlock≠some k:=λk hk e=>by have:=Yj.rows.past k e;omega
    have hl4:W4.cell? (aD H 0)=some V/\W4.cell? (aD (H+1) 0)=some (pT H)/\W4.cell? (aD n 0)=some (.bool nd.final):=⟨dw cM hl3.1 (λe=>OU H (by omega) e.symm),dw cM hl3.2.1 (λe=>OU (H+1) (by omega) e.symm),dw cM hl3.2.2 (λe=>OU n (by omega) e.symm)⟩;have hf4:W4.frozen? (aD H 0)=false:=aU ((Ae.block (by omega) (OU H (by omega))).trans Yj.Qz);have qN:W4.ownsRow 0 207 3 v4 (D.length+1) (dO (D++[⟨nd.final,[],.slice none 0 0,0⟩])):=by rw[zC];exact hrow4
    obtain⟨g4,wU,rfl⟩:=bX qN;obtain⟨ahE,ahe⟩:=Yj.push Ae qN;have aoe:=ae ahE;have ajl:=ae (anY.trans ahe);clear cM dS hrow4 qN Ae De hrow3 hc3 hl3 oX ahE ahe d0 d1 n0;refine hK _ _ hl4 ?_;clear hK K;simp only[aN,ai,aj];refine bg rfl rfl (by decide) (λK hK=>?_);obtain⟨f0,f1,f2⟩:=hl4;go_simp;refine hK _ _ ⟨f0,f1,f2⟩ ?_;clear hK K;refine bg rfl rfl (by decide) (λK hK=>?_);go_simp;refine hK _ _ ⟨f0,f1,f2⟩ ?_;clear hK K;refine cO rfl rfl (λK hK=>?_);go_simp;refine hK _ _ ?_;clear hK K f0 f1 f2 hf4;generalize W4.setCell (aD H 0) (sL g4 (D.length+1) wU)=W5 at*;generalize Value.slice (some (aD g4 0)) (D.length+1) wU=V5 at*;have hR0:=ae (ya.start (G:=s.G) (mS:=mS) (nd:=nd) aoe ajl hM hn hap HL hget);have hB0:∀V' W',Steps H w V W' V'->aI H w0 W':=λV' W' h=>hbl.trans (h.below HME.rows.past (by have:=HME.size;omega));have AL:=ae hB0;have n1:W5.cell? (aD n 1)=some (.slice a1 nd.aY.length Mc):=by obtain⟨_,a1',XI,Wv,n1⟩:=(hst.below (HH.out▸hB0 _ _ ajl)).fN hG;rw[hHV]at Wv;simp only[bA,true_and]at Wv;obtain⟨rfl,rfl⟩:=Wv;exact n1
    clear hB0;go_wp2_with fail;clear n1;go_loopw[44](λi wr=>∃(j:Nat)(M':List (Nat×Nat))(D':List DS)(V' v':ay),j<=nd.aY.length/\i= .int .i64 j/\ya s.G mS H n M D V w nd j M' D' V' v' wr)(λi _=>nd.aY.length-(intOf i).toNat);case atStart=>exact⟨0,_,_,_,_,aW _,rfl,hR0⟩
    case round=>
     obtain⟨j,M',D',V',v',hj,rfl,hR⟩:=hrel;have HR:=ae hR;clear hR;by_cases hjl:j<nd.aY.length;·
      obtain⟨c,t,hct⟩:∃c t,nd.aY[j]?=some (c,t):=⟨_,_,ar hjl⟩;have hBr:=AL _ _ HR.steps;obtain⟨g1,XI,e1,ek0,ek1⟩:=(hst.below (HH.out▸hBr)).dt hG hct;rw[hHV]at e1;simp only[bA,true_and]at e1;obtain⟨rfl,rfl⟩:=e1;unfold aP at ek1;have hgt:=ajJ (c,t) (aS hct);have Wx:=HR.meet.size;have cf:wr.cell? (aD (H+4) 0)=some (.func (.func 187) #[] #[pT (H+3),pT (H+1),pT (H+4)]):=aq HR.meet.cf;have cf2:(wr.alloc (.cells #[.int .u8 c.toNat,pT t] 284)).cell? (aD (H+4) 0)=some (.func (.func 187) #[] #[pT (H+3),pT (H+1),pT (H+4)]):=(aV _ _ _ (by show H+4<_;omega)).trans cf;go_wp2_with fail;refine(IH t M' D' V' _ (bI hgt.2 (Nat.le_of_lt_succ hr)) hgt.1 HR.good HR.apart HR.len (HR.meet.kept λk hk=>aC wr _ k hk) (hBr.alloc (by omega) _)).mono ?_;rintro e w2⟨M2,D2,V2,rfl,hm⟩;have hown2:=jd hm.states HR.own;have hl2:=(List.getElem?_eq_some_iff.1 hown2).1;obtain⟨g,cap,hV2,_,sc1,_,sf1,_⟩:=hm.meet.rows.cells hown2;have fx:=hm.meet.rows.jw _ _ hown2;simp only at sc1 fx;have hLx:((nd.aY.take j).map (λe=>(e.1,(get M' e.2).getD 0))).length=j:=by simp;omega
      rw[hLx]at fx;obtain⟨a5,vd,hv5⟩:=ownsRow_form fx;have hXT:¬Touch H V' wr.heap.size:=by
       rintro(e|e|e);·omega
       ·omega
       ·have:=(HR.meet.rows.row.lt _ e).2;omega
      have hX:w2.heap[wr.heap.size]?=some (.cells #[.int .u8 c.toNat,pT t] 284 (0,0)):=(hm.steps.mod.block _ (by simp) hXT).trans (heap_alloc_new _ _);have x0:w2.cell? (aD wr.heap.size 0)=some (.int .u8 c.toNat):=aq hX;have y0:w2.cell? (aD H 0)=some (sL g D2.length cap):=by rw[<-hV2];exact aq hm.meet.Qz
      have y1:w2.cell? (aD (H+1) 0)=some (pT H):=aq hm.meet.cd;rw[<-HL]at sc1 sf1 hl2;rw[hv5]at sc1;have HM:=ae hm;have HV2:=ae hV2;have HV5:=ae hv5;have auu:j<=300:=by omega
      have hgg:=lt_of_cell sc1;have atF:=hm.meet.size;have hX2:=lt_of_heap hX;clear hm hV2 ek0 ek1 cf cf2 hown2 hX;generalize hx:(get M2 t).getD 0=x;have HX:=ae hx;clear hx;unfold cJ;go_wp2_with fail;refine bB [(0,false),(1,false),(2,false),(3,false),(4,false),(5,false),(6,false),(7,false),(8,false),(9,false),(10,false),(11,false),(12,false),(13,false),(14,false),(15,false),(16,false),(17,true),(18,true),(19,true),(20,true),(21,true)] 21 (λw'=>w'.cell? (aD wr.heap.size 0)=some (.int .u8 c.toNat)/\w'.cell? (aD H 0)=some (sL g D2.length cap)/\w'.cell? (aD (H+1) 0)=some (pT H)/\w'.cell? (aD g (M.length*3+1))=some (.slice a5 j vd)) (by kernel_rfl) (by kernel_rfl) ?_ ?_;·exact⟨x0,y0,y1,sc1⟩
      have z1:(0:Int)<=(M.length:Int)/\(M.length:Int)<(D2.length:Int):=by omega
      iterate 17(
 refine aR ?_ rfl rfl (λw' hS=>?_) ?_;rotate_left;·obtain⟨f0,f1,f2,f3⟩:=hS;go_simp;try rfl
 simp only[aN,ai,aj])
      refine bg rfl rfl (by decide) (λK hK=>?_);go_simp;have De:bL w2 v' (w2.alloc (.cells #[.int .u8 c.toNat,iV x] 242)).drew v':=(bL.alloc w2 _ _).trans (bL.same _ (Same.drew _));have hrow3:(w2.alloc (.cells #[.int .u8 c.toNat,iV x] 242)).drew.ownsRow 0 242 2 (.slice a5 j vd) j (fA ((nd.aY.take j).map (λe=>(e.1,(get M' e.2).getD 0)))):=by rw[<-HV5];exact(fx.alloc _).drew
      have hc3:∀i u,[Value.int .u8 c.toNat,iV x][i]?=some u->(w2.alloc (.cells #[.int .u8 c.toNat,iV x] 242)).drew.cell? (((aD w2.heap.size 0):Addr).add i)=some u:=by have:=cell_two_new w2 (.int .u8 c.toNat) (iV x) 242;simpa using this
      have hl3:(w2.alloc (.cells #[.int .u8 c.toNat,iV x] 242)).drew.cell? (aD wr.heap.size 0)=some (.int .u8 c.toNat)/\(w2.alloc (.cells #[.int .u8 c.toNat,iV x] 242)).drew.cell? (aD H 0)=some (sL g D2.length cap)/\(w2.alloc (.cells #[.int .u8 c.toNat,iV x] 242)).drew.cell? (aD (H+1) 0)=some (pT H)/\(w2.alloc (.cells #[.int .u8 c.toNat,iV x] 242)).drew.cell? (aD g (M.length*3+1))=some (.slice a5 j vd):=⟨(aV _ _ _ hX2).trans x0,(aV _ _ _ (by show H<_;omega)).trans y0,(aV _ _ _ (by show H+1<_;omega)).trans y1,(aV _ _ _ hgg).trans sc1⟩;generalize(w2.alloc (.cells #[.int .u8 c.toNat,iV x] 242)).drew=W3 at*;refine hK _ _ hl3 ?_;clear hK K;refine bg rfl rfl (by decide) (λK hK=>?_);obtain⟨i0,hi,hz0,hz1,hz2⟩:=info_parts Tryz.ZT;refine wp_append_lies _ _ 205 rfl 242 i0 (.agg #[.int .u8 0,iV 0]) 2 16 Tryz.underlying205 hi hz0 hz1 hz2 rfl (by decide) _ _ _ rfl hrow3 (aD w2.heap.size 0) 1 1 [.int .u8 c.toNat,iV x] rfl rfl hc3 (by simp[dN]) (by decide) (by unfold maxLen;omega) (by omega) ?_;intro v4 W4 hrow4 cM dS;rw[<-HV5]at cM dS;have Ae:=De.trans (bL.append cM dS);have hvX:v'.ownBlock≠some wr.heap.size:=λe=>by have:=((HR.meet.rows.jw _ _ HR.own).lt _ e).2;omega
      have hvH:∀k,k<H+5->v'.ownBlock≠some k:=λk hk e=>by have:=HR.meet.rows.uP _ _ HR.own k e;omega
      have hown2:=jd HM.states HR.own;have Ua:V2.ownBlock=some g:=by rw[HV2];rfl
      have hvg:v'.ownBlock≠some g:=λe=>HM.meet.rows.lX _ _ g hown2 e Ua;have hl4:W4.cell? (aD wr.heap.size 0)=some (.int .u8 c.toNat)/\W4.cell? (aD H 0)=some (sL g D2.length cap)/\W4.cell? (aD (H+1) 0)=some (pT H)/\W4.cell? (aD g (M.length*3+1))=some (.slice a5 j vd):=⟨dw cM hl3.1 (λe=>hvX e.symm),dw cM hl3.2.1 (λe=>hvH H (by omega) e.symm),dw cM hl3.2.2.1 (λe=>hvH (H+1) (by omega) e.symm),dw cM hl3.2.2.2 (λe=>hvg e.symm)⟩;have hf4:W4.frozen? (aD g (M.length*3+1))=false:=by have hr:=aO HM.meet.rows.row λk hk=>Ae.block (HM.meet.rows.row.lt k hk).2 (λe=>HM.meet.rows.lX _ _ k hown2 e hk);rw[HV2]at hr;exact hr.frozenAt _
      have qN:W4.ownsRow 0 242 2 v4 (j+1) (fA ((nd.aY.take j).map (λe=>(e.1,(get M' e.2).getD 0))++[(c,(get M2 t).getD 0)])):=by rw[Ap,HX];exact hrow4
      have hRl:∃D3,ya s.G mS H n M D V w nd (j+1) M2 D3 V2 v4 (W4.setCell (aD g (D.length*3+1)) v4):=HR.link hct HM Ae (by rw[hLx];exact qN) HV2;rw[<-HL]at hRl;obtain⟨g4,wU,rfl⟩:=bX qN;have HRl:=ae hRl;clear cM dS hrow4 qN Ae De hrow3 hc3 hl3 hRl x0 y0 y1 sc1 sf1 fx hown2;refine hK _ _ hl4 ?_;clear hK K;simp only[aN,ai,aj];obtain⟨f0,f1,f2,f3⟩:=hl4;refine bg rfl rfl (by decide) (λK hK=>?_);go_simp;refine hK _ _ ⟨f0,f1,f2,f3⟩ ?_;clear hK K;refine bg rfl rfl (by decide) (λK hK=>?_);go_simp;refine hK _ _ ⟨f0,f1,f2,f3⟩ ?_;clear hK K;refine cO rfl rfl (λK hK=>?_);go_simp;refine hK _ _ ?_;clear hK K;go_wp2_with fail;obtain⟨D3,hR3⟩:=HRl.out;exact⟨⟨j+1,M2,D3,V2,_,by omega,by go_num,hR3⟩,by simp[intOf];omega⟩
     ·obtain rfl:j=nd.aY.length:=by omega
      obtain⟨hgn,hmet⟩:=HR.close hG HL hget;go_wp2_with fail;go_ret;exact⟨M',D',V',by rw[hgn];rfl,hmet⟩
def Jo(H:Nat):ay:= .func (.func 192) #[] #[aP H,aP (H+2),aP (H+3)]
structure JY (B H db:Nat) (V:ay) (D:List DS) (dn:List Bool) (w:ak):Prop where
 Hk:db < H
 Qz:w.heap[db]?=some (.cells #[V] 172 (0,0))
 cd:w.heap[H]?=some (.cells #[aP db] 158 (0,0))
 dnb:w.heap[H+1]?=some (.cells (dn.map Value.bool).toArray 4 (0,0))
 cn:w.heap[H+2]?=some (.cells #[.slice (some ⟨H+1,0,none⟩) D.length D.length] 151 (0,0))
 cf:w.heap[H+3]?=some (.cells #[Jo H] 383 (0,0))
 rows:RowsIn B w V D
 lt:∀ g,V.ownBlock=some g->g < H/\g≠db
 elt:∀ (i:Nat) s g,D[i]?=some s->s.v.ownBlock=some g->g < H
 len:dn.length=D.length
structure Fj (c ρ:Nat->Nat) (r:Nat) (D:List DS) (dn:List Bool) (D':List DS) (wR:List Bool):Prop where
 len:D'.length=D.length
 XC:wR.length=dn.length
 at_:∀ (i:Nat) s,D[i]?=some s -> ∃ b,D'[i]?=some { s with below:=b }/\((b=s.below/\wR[i]?=dn[i]?)\/(wR[i]?=some true/\b=c i/\ρ i<=r))
theorem Fj.refl(c ρ:Nat->Nat)(r:Nat)(D:List DS)(dn:List Bool):Fj c ρ r D dn D dn:=⟨rfl,rfl,λi s h=>⟨s.below,h,.inl ⟨rfl,rfl⟩⟩⟩
section
variable{B H db:Nat}{V:ay}{D:List DS}{dn:List Bool}{w:ak}
theorem JY.size(h:JY B H db V D dn w):H+4<=w.heap.size:=lt_of_heap h.cf
theorem JY.kept{w':ak}(h:JY B H db V D dn w)(hk:∀j,j<w.heap.size->w'.heap[j]?=w.heap[j]?):JY B H db V D dn w':=by have:=h.size;have:=h.Hk;exact⟨h.Hk,(hk _ (by omega)).trans h.Qz,(hk _ (by omega)).trans h.cd,(hk _ (by omega)).trans h.dnb,(hk _ (by omega)).trans h.cn,(hk _ (by omega)).trans h.cf,h.rows.kept λk _ hl=>hk k hl,h.lt,h.elt,h.len⟩
theorem JY.tell{k g cap b:Nat}{s:DS}(h:JY B H db V D dn w)(hk:D[k]?=some s)(hV:V=sL g D.length cap):JY B H db V (D.set k {s with below:=b}) dn (w.setCell (aD g (k*3+2)) (cJ b)):=by
 have hg:=h.lt g (by rw[hV];rfl);have:=h.Hk;have old:∀j,j≠g->(w.setCell (aD g (k*3+2)) (cJ b)).heap[j]?=w.heap[j]?:=λj hj=>az w _ _ j hj;refine⟨h.Hk,(old _ hg.2.symm).trans h.Qz,(old _ (by omega)).trans h.cd,(old _ (by omega)).trans h.dnb,?_,(old _ (by omega)).trans h.cf,h.rows.tell hk hV,h.lt,λi x b' hi hb=>?_,by simpa using h.len⟩;·rw[List.length_set];exact(old _ (by omega)).trans h.cn
 ·rw[fD]at hi;split at hi;·
   rename_i e;subst e;split at hi;·cases hi;exact h.elt _ s b' hk hb
   ·cases hi
  ·exact h.elt i x b' hi hb
theorem JY.mark{k:Nat}(h:JY B H db V D dn w):JY B H db V D (dn.set k true) (w.setCell (aD (H+1) k) (.bool true)):=by
 have:=h.Hk;have old:∀j,j≠H+1->(w.setCell (aD (H+1) k) (.bool true)).heap[j]?=w.heap[j]?:=λj hj=>az w _ _ j hj;refine⟨h.Hk,(old _ (by omega)).trans h.Qz,(old _ (by omega)).trans h.cd,?_,(old _ (by omega)).trans h.cn,(old _ (by omega)).trans h.cf,⟨?_,h.rows.past,λi s hi=>?_,h.rows.uP,h.rows.apart,h.rows.lX⟩,h.lt,h.elt,by simpa using h.len⟩;·have:=heap_setCell_same w (H+1) k _ _ (.bool true) h.dnb;rw[this];congr 2;simp[List.map_set]
 ·exact aO h.rows.row λj e=>old j (by have:=h.lt j e;omega)
 ·exact aO (h.rows.jw i s hi) λj e=>old j (by have:=h.elt i s j hi e;omega)
end
def Clo(ST:List DS)(dn:List Bool):Prop:=∀(i:Nat)s,ST[i]?=some s->dn[i]?=some true->∀e∈s.aY,dn[e.2]?=some true
theorem KD{dn:List Bool}{k i:Nat}(h:dn[i]?=some true):(dn.set k true)[i]?=some true:=by
 have hl:=(List.getElem?_eq_some_iff.1 h).1;by_cases e:k=i;·subst e;rw[dz hl]
 ·rw[dA e];exact h
structure Rnd (ST:List DS) (B H db:Nat) (V:ay) (c ρ:Nat->Nat) (k:Nat) (s0:DS) (D:List DS) (dn:List Bool) (w:ak) (j:Nat) (D':List DS) (wR:List Bool) (wr:ak):Prop where
 cnt:JY B H db V D' wR wr
 mod:Mod (fun j=>V.ownBlock=some j\/j=H+1) w wr
 len:D'.length=D.length
 XC:wR.length=dn.length
 own:D'[k]?=some { s0 with below:=(if s0.final then 1 else 0)+((s0.aY.take j).map fun e=>c e.2).sum }
 odn:wR[k]?=some false
 clo:Clo ST wR
 took:∀ e∈s0.aY.take j,wR[e.2]?=some true
 K4:∀ (i:Nat) s,i≠k->D[i]?=some s -> ∃ b,D'[i]?=some { s with below:=b }/\((b=s.below/\wR[i]?=dn[i]?)\/(wR[i]?=some true/\b=c i/\ρ i < ρ k))
theorem Tp(B H db:Nat)(V:ay)(c ρ:Nat->Nat)(hc:∀i,c i<=1000000)(ST:List DS)(hST:∀(i:Nat)s,ST[i]?=some s->s.aY.length<=300/\(∀e∈s.aY,e.2<ST.length/\ρ e.2<ρ i)/\c i=(if s.final then 1 else 0)+(s.aY.map λe=>c e.2).sum)(hlen:ST.length<=1000000):∀(r k:Nat)(D:List DS)(dn:List Bool)(w:ak),ρ k<r->k<ST.length->(∀(i:Nat)s,ST[i]?=some s->∃b,D[i]?=some {s with below:=b})->D.length=ST.length->(∀(i:Nat)s,D[i]?=some s->ρ i<r->(dn[i]?=some true->s.below=c i)/\(dn[i]?=some false->s.below=0))->Clo ST dn->JY B H db V D dn w->Calls ah 192 #[cJ k,aP H,aP (H+2),aP (H+3)] w λe w'=>e= .returned (cJ (c k))/\∃D' wR,JY B H db V D' wR w'/\Mod (λj=>V.ownBlock=some j\/j=H+1) w w'/\Fj c ρ (ρ k) D dn D' wR/\wR[k]?=some true/\Clo ST wR:=by intro r;induction r using Nat.strongRecOn with
 |_ r ih=>
  intro k D dn w hr hk hD hDl ah1 Xb hcn;have IH:=ae ih;have HD:=ae hD;have HON:=ae ah1;have HST:=ae hST;have HC:=ae hc;clear ih hD ah1 hST hc;obtain⟨s0,hs0⟩:∃s0,ST[k]?=some s0:=⟨_,ar hk⟩;obtain⟨b0,YQ⟩:=HD.out k s0 hs0;obtain⟨g,cap,hV,q0,q1,q2,qf1,qf2⟩:=hcn.rows.cells YQ;simp only at q0 q1 q2;obtain⟨d,hd⟩:∃d,dn[k]?=some d:=⟨_,ar (by have:=hcn.len;omega)⟩;have c0:w.cell? (aD H 0)=some (pT db):=aq hcn.cd;have c1:w.cell? (aD db 0)=some (sL g D.length cap):=by rw[<-hV];exact aq hcn.Qz
  have c2:w.cell? (aD (H+2) 0)=some (sL (H+1) D.length D.length):=aq hcn.cn;have c3:w.cell? (aD (H+1) k)=some (.bool d):=by rw[aq hcn.dnb];simp[hd]
  have z1:(0:Int)<=(k:Int)/\(k:Int)<(D.length:Int):=by omega
  have HCN:=ae hcn;have HV:=ae hV;have hkd:k<D.length:=by omega
  cases d with
   |true=>have hb:=(HON k _ YQ hr).1 hd;subst hb;unfold cJ at q2⊢;unfold aP;go_enter asg,aoK;go_wp2_with fail;go_ret;exact⟨rfl,D,dn,HCN,Mod.refl _ _,Fj.refl _ _ _ _ _,hd,Xb⟩|false=>
    have hb:=(HON k _ YQ hr).2 hd;subst hb;unfold cJ at q2⊢;unfold aP;obtain⟨hel,hee,hcs⟩:=HST.out k s0 hs0;have HEE:=ae hee;have HCS:=ae hcs;clear hee hcs;have fx:=HCN.rows.jw k _ YQ;simp only at fx;obtain⟨a5,vd,hv5⟩:=ownsRow_form fx;rw[hv5]at q1;have HV5:=ae hv5;clear fx hv5;go_enter asg,aoK;go_upto_if 23 with(fail);go_cut[](λwy=>∃D1,Rnd ST B H db V c ρ k s0 D dn w 0 D1 dn wy);case first=>cases hf:s0.final with
     |true=>
      rw[hf]at q0;have h1:=HCN.tell (b:=1) YQ HV;go_wp2_with fail;go_meet;refine⟨_,h1,Mod.setCell _ _ _ λ_=> .inl (by rw[HV.out];rfl),by simp,rfl,?_,hd,Xb,(by simp),λi s hne hi=>⟨s.below,?_,.inl ⟨rfl,rfl⟩⟩⟩;·rw[dz hkd,hf];rfl
      ·rw[dA (dB hne)];exact hi|false=>rw[hf]at q0;go_wp2_with fail;go_meet;exact⟨D,HCN.out,Mod.refl _ _,rfl,rfl,by rw[YQ,hf];rfl,hd,Xb,(by simp),λi s _ hi=>⟨s.below,hi,.inl ⟨rfl,rfl⟩⟩⟩
    case rest=>
     obtain⟨D1,hR1⟩:=hcut;have BW:=ae hR1;clear hR1 q0 q1 q2 qf1 qf2 c0 c1 c2 c3;have abB:∀j D' wR W,Rnd ST B H db V c ρ k s0 D dn w j D' wR W->W.cell? (aD g (k*3+1))=some (.slice a5 s0.aY.length vd)/\W.cell? (aD g (k*3+2))=some (cJ ((if s0.final then 1 else 0)+((s0.aY.take j).map λe=>c e.2).sum))/\W.frozen? (aD g (k*3+2))=false:=λj D' wR W h=>by obtain⟨g',cap',e1,_,e3,e4,_,e6⟩:=h.cnt.rows.cells h.own;have eb:=congrArg gN (HV.symm.trans e1);simp[gN]at eb;subst eb;simp only at e3 e4;rw[HV5]at e3;exact⟨e3,e4,e6⟩
     have KQ:=ae abB;clear abB;obtain⟨r1,_,_⟩:=KQ.out _ _ _ _ BW;go_wp2_with fail;clear r1;go_loopw[32](λi wz=>∃(j:Nat)(D':List DS)(wR:List Bool),j<=s0.aY.length/\i= .int .i64 j/\Rnd ST B H db V c ρ k s0 D dn w j D' wR wz)(λi _=>s0.aY.length-(intOf i).toNat);case atStart=>exact⟨0,_,_,aW _,rfl,BW⟩
     case round=>
      obtain⟨j,D',wR,hj,rfl,hR⟩:=hrel;have HR:=ae hR;clear hR;by_cases hjl:j<s0.aY.length;·
       obtain⟨ch,t,hct⟩:∃ch t,s0.aY[j]?=some (ch,t):=⟨_,_,ar hjl⟩;obtain⟨g1,XI,e1,ek0,ek1⟩:=HR.cnt.rows.dt HR.own hct;simp only at e1;rw[HV5]at e1;simp only[bA,true_and]at e1;obtain⟨rfl,rfl⟩:=e1;unfold cJ at ek1;have hee:=HEE (ch,t) (aS hct);have Wx:=HR.cnt.size;obtain⟨_,r2,r3⟩:=KQ.out _ _ _ _ HR;obtain⟨P,hP⟩:∃P,P=(if s0.final then 1 else 0)+((s0.aY.take j).map λe=>c e.2).sum:=⟨_,rfl⟩;rw[<-hP]at r2;unfold cJ at r2;have hPs:(if s0.final then 1 else 0)+((s0.aY.take (j+1)).map λe=>c e.2).sum=P+c t:=by
        have htk:s0.aY.take (j+1)=s0.aY.take j++[(ch,t)]:=by rw[bH hjl];congr;exact aJ ((ar hjl).symm.trans hct)
        rw[htk,hP];simp;omega
       have hPb:P+c t<=1000000:=by
        have h1:=HC k;rw[HCS]at h1;have h2:((s0.aY.take (j+1)).map λe=>c e.2).sum<=(s0.aY.map λe=>c e.2).sum:=by
         conv=>rhs;rw[<-List.take_append_drop (j+1) s0.aY]
         rw[cQ,List.sum_append];omega
        omega
       have cf:wr.cell? (aD (H+3) 0)=some (.func (.func 192) #[] #[pT H,pT (H+2),pT (H+3)]):=aq HR.cnt.cf;have hgH:=HR.cnt.lt g (by rw[HV];rfl);have HP:=ae hP;have MZ:=ae hPs;clear hP hPs;go_wp2_with fail;have x0:(wr.alloc (.cells #[.int .u8 ch.toNat,iV t] 242)).heap[wr.heap.size]?=some (.cells #[.int .u8 ch.toNat,iV t] 242 (0,0)):=heap_alloc_new _ _;have x1:(wr.alloc (.cells #[.int .u8 ch.toNat,iV t] 242)).cell? (aD wr.heap.size 1)=some (iV t):=aq x0;have x2:(wr.alloc (.cells #[.int .u8 ch.toNat,iV t] 242)).cell? (aD (H+3) 0)=some (.func (.func 192) #[] #[pT H,pT (H+2),pT (H+3)]):=(aV _ _ _ (by show H+3<_;omega)).trans cf;have x3:(wr.alloc (.cells #[.int .u8 ch.toNat,iV t] 242)).cell? (aD g (k*3+2))=some (iV P):=(aV _ _ _ (by show g<_;omega)).trans r2;have HC3:=ae (show JY B H db V D' wR (wr.alloc (.cells #[.int .u8 ch.toNat,iV t] 242))from HR.cnt.kept λj hj=>aC wr _ j hj);have M0:=ae (show Mod (λj=>V.ownBlock=some j\/j=H+1) w (wr.alloc (.cells #[.int .u8 ch.toNat,iV t] 242))from HR.mod.trans (Mod.alloc _ _ _));clear cf r2 r3 ek0 ek1 x0;generalize(wr.alloc (.cells #[.int .u8 ch.toNat,iV t] 242))=W3 at*;refine bB [(0,false),(1,false),(2,false),(3,false),(4,false),(5,false),(6,false),(7,false),(8,true),(9,true),(10,true),(11,true),(12,true),(13,true)] 13 (λw'=>w'.cell? (aD wr.heap.size 1)=some (iV t)/\w'.cell? (aD (H+3) 0)=some (.func (.func 192) #[] #[pT H,pT (H+2),pT (H+3)])/\w'.cell? (aD g (k*3+2))=some (iV P)) (by kernel_rfl) (by kernel_rfl) ?_ ?_;·exact⟨x1,x2,x3⟩
       iterate 8(
 refine aR ?_ rfl rfl (λw' hS=>?_) ?_;rotate_left;·obtain⟨f0,f1,f2⟩:=hS;go_simp;try rfl
 simp only[aN,ai,aj])
       refine bg rfl rfl (by decide) (λK hK=>?_);go_simp;have hown:=HR.own;have ahY:∀(i:Nat)s,ST[i]?=some s->∃b,D'[i]?=some {s with below:=b}:=λi s hi=>by
        by_cases hik:i=k;·subst hik;rw[hs0]at hi;cases hi;exact⟨_,hown⟩
        ·obtain⟨b1,h1⟩:=HD.out i s hi;obtain⟨b2,h2,_⟩:=HR.K4 i _ hik h1;exact⟨b2,h2⟩
       have ahX:∀(i:Nat)s,D'[i]?=some s->ρ i<ρ k->(wR[i]?=some true->s.below=c i)/\(wR[i]?=some false->s.below=0):=λi s hi OD=>by
        have hik:i≠k:=λe=>by rw[e]at OD;exact abo _ OD
        have hil:i<D.length:=by have:=(List.getElem?_eq_some_iff.1 hi).1;have:=HR.len;omega
        have hDi:=ar hil;obtain⟨b,h1,h2⟩:=HR.K4 i _ hik hDi;rw[hi]at h1;cases h1;obtain⟨o1,o2⟩:=HON.out i _ hDi (Nat.lt_trans OD hr);rcases h2 with⟨h2,h3⟩|⟨h2,h3,_⟩;·rw[h3,h2];exact⟨o1,o2⟩
        ·rw[h2];exact⟨λ_=>h3,λe=>by cases e⟩
       have Ym:=ae ahY;have Yl:=ae ahX;clear ahY ahX;refine(IH (ρ k) hr t D' wR W3.drew hee.2 hee.1 Ym (HR.len.trans hDl) Yl HR.clo (HC3.kept λ_ _=>rfl)).mono ?_;rintro e w2⟨rfl,D2,dn2,SH,kU,htu,hk2,aik⟩;obtain⟨b2,OX,hb2⟩:=htu.at_ k _ hown;have yV:b2=P/\dn2[k]?=some false:=by
        rcases hb2 with⟨h1,h2⟩|⟨_,_,h3⟩;·exact⟨h1.trans HP.symm,h2.trans HR.odn⟩
        ·exact absurd (qj h3 hee.2) (abo _)
       obtain⟨rfl,amP⟩:=yV;clear hb2;obtain⟨g',cap',e1,_,_,y2,_,y3⟩:=SH.rows.cells OX;have eb:=congrArg gN (HV.symm.trans e1);simp[gN]at eb;subst eb;simp only at y2;unfold cJ at y2;have hX3:=lt_of_cell x1;have y1:w2.cell? (aD wr.heap.size 1)=some (iV t):=by
        refine(kU.cell (p:=(aD wr.heap.size 1)) hX3 ?_).trans x1;rintro(e|e);·have:=(HR.cnt.lt wr.heap.size e).1;omega
        ·have e':wr.heap.size=H+1:=e;omega
       have y4:w2.cell? (aD (H+3) 0)=some (.func (.func 192) #[] #[pT H,pT (H+2),pT (H+3)]):=aq SH.cf;have aov:=ae SH;have ajx:=ae kU;have HTU:=ae htu;have Yo:=ae OX;clear SH kU htu OX x1 x2 x3 e1 hown;refine hK _ _ ⟨y1,y4,y2⟩ ?_;clear hK K;unfold cJ;refine bg rfl rfl (by decide) (λK hK=>?_);go_simp;have hw1:IntKind.i64.wrap ((b2:Int)+(c t:Int))=((b2+c t:Nat):Int):=by rw[IntWalk.i64_in _ (by omega)];omega
       try rw[hw1]
       refine hK _ _ ⟨y1,y4,y2⟩ ?_;clear hK K;refine bg rfl rfl (by decide) (λK hK=>?_);go_simp;refine hK _ _ ⟨y1,y4,y2⟩ ?_;clear hK K;refine bg rfl rfl (by decide) (λK hK=>?_);go_simp;refine hK _ _ ⟨y1,y4,y2⟩ ?_;clear hK K;refine bg rfl rfl (by decide) (λK hK=>?_);go_simp;refine hK _ _ ⟨y1,y4,y2⟩ ?_;clear hK K;refine cO rfl rfl (λK hK=>?_);go_simp;refine hK _ _ ?_;clear hK K;go_wp2_with fail;have Hc:=HTU.len.trans HR.len;have amo:k<D2.length:=by omega
       have amR:=aov.tell (b:=b2+c t) Yo (by rw[Hc];exact HV);have hmm:=M0.trans (Mod.same (Same.drew W3));refine⟨⟨j+1,_,dn2,by omega,by go_num,amR,(hmm.trans ajx.out).trans (Mod.setCell _ _ _ λ_=> .inl (by rw[HV.out];rfl)),by simpa using Hc,HTU.XC.trans HR.XC,?_,amP,aik,λe he=>?_,λi s hne hi=>?_⟩,by simp[intOf];omega⟩;·rw[dz amo,MZ]
       ·have htk:s0.aY.take (j+1)=s0.aY.take j++[(ch,t)]:=by rw[bH hjl];congr;exact aJ ((ar hjl).symm.trans hct)
        rw[htk]at he;rcases List.mem_append.1 he with he|he;·
         have aut:=(HEE e (List.mem_of_mem_take he)).1;obtain⟨x2,e3,e4⟩:=HTU.at_ e.2 _ (ar (by have:=HR.len;omega));rcases e4 with⟨_,e6⟩|⟨e5,_⟩;·exact e6.trans (HR.took e he)
         ·exact e5
        ·simp at he;subst he;exact hk2
       ·rw[dA (dB hne)];obtain⟨x1,e1,e2⟩:=HR.K4 i s hne hi;obtain⟨x2,e3,e4⟩:=HTU.at_ i _ e1;refine⟨x2,e3,?_⟩;rcases e4 with⟨e5,e6⟩|⟨e5,e6,e7⟩;·
         rcases e2 with⟨e7,e8⟩|⟨e7,e8,e9⟩;·exact .inl ⟨e5.trans e7,e6.trans e8⟩
         ·exact .inr ⟨e6.trans e7,e5.trans e8,e9⟩
        ·exact .inr ⟨e5,e6,qj e7 hee.2⟩
      ·obtain rfl:j=s0.aY.length:=by omega
       obtain⟨_,r2,r3⟩:=KQ.out _ _ _ _ HR;rw[dH,<-HCS]at r2;unfold cJ at r2;have cn:wr.cell? (aD (H+2) 0)=some (sL (H+1) D'.length D'.length):=aq HR.cnt.cn;have fr:wr.frozen? (aD (H+1) k)=false:=aU HR.cnt.dnb;have cd:wr.cell? (aD (H+1) k)=some (.bool false):=by rw[aq HR.cnt.dnb];simp[HR.odn]
       have hgH:=HR.cnt.lt g (by rw[HV];rfl);have aug:k<D'.length:=by have:=HR.len;omega
       have ahT:k<wR.length:=by have:=HR.cnt.len;omega
       have z2:(0:Int)<=(k:Int)/\(k:Int)<(D'.length:Int):=by omega
       go_wp2_with fail;go_ret;have amT:Clo ST (wR.set k true):=λi s hi hdi e he=>by
        by_cases hik:i=k;·subst hik;rw[hs0]at hi;cases hi;exact KD (HR.took e (by rw[dH];exact he))
        ·rw[dA (dB hik)]at hdi;exact KD (HR.clo i s hi hdi e he)
       refine⟨rfl,D',wR.set k true,HR.cnt.mark,HR.mod.trans (Mod.setCell _ _ _ λ_=> .inr rfl),⟨HR.len,by simpa using HR.XC,λi s hi=>?_⟩,by rw[dz ahT],amT⟩;by_cases hik:i=k;·subst hik;rw[YQ]at hi;cases hi;refine⟨c i,?_,.inr ⟨by rw[dz ahT],rfl,au _⟩⟩;have:=HR.own;rw[dH,<-HCS]at this;exact this
       ·obtain⟨b,h1,h2⟩:=HR.K4 i s hik hi;refine⟨b,h1,?_⟩;rw[dA (dB hik)];rcases h2 with h2|⟨h2,h3,h4⟩;·exact .inl h2
        ·exact .inr ⟨h2,h3,Nat.le_of_lt h4⟩
end Go.Proofs.Ts
