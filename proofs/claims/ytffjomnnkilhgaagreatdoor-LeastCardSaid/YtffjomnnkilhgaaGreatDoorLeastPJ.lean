/- Lemmas towards the statement Least of termsearch: walks of the program's functions and plain laws on lists (TlAlikeR, TlPush, TlPlaces, TlSetsM, TlSetsR, TlCheckedP, TlLeastP, TlLeastM, TlLeastR, TlStatesR, TsStates, TlStatesP, TlLeast, TlLeastLift, TlLeastFacts). Conditions: those that each theorem names. -/
import Derived.Test.YtffjomnnkilhgaaGreatDoorLeastPA
import Derived.Test.YtffjomnnkilhgaaGreatDoorLeastPI
import Derived.Test.YtffjomnnkilhgaaGreatDoorLeastPH
import Derived.Laws.ResultCell
import Derived.Test.YtffjomnnkilhgaaGreatDoorLeastPG
import Derived.Test.YtffjomnnkilhgaaGreatDoorLeastPF
import Derived.ChangeMaps5
import Derived.Test.YtffjomnnkilhgaaGreatDoorRows
import Derived.JoinedCond
set_option linter.unusedVariables false
set_option linter.unusedSimpArgs false
set_option linter.unusedSectionVars false
set_option maxRecDepth 100000
set_option maxHeartbeats 32000000
open And renaming intro->aA
open Bool renaming and_eq_true->cR,eq_iff_iff->jf,or_eq_true->eU
open ByteArray renaming size->kR
open Go renaming Calls->aX,Ending->rY,TypeId->dx,Value->ay,World->ak
open Go.Addr.mk renaming injEq->agD
open Go.Calls renaming mono->DV
open Go.IntWalk renaming i64_in->aK
open Go.Lib renaming hid->ae
open Go.OpenSpec renaming ofChange->vA
open Go.Proofs.Tryz renaming checked->UK,f9->afJ,func18->AU,func39->vz,func41->rp,func78->Y3,ntmps18->yg,ntmps39->sW,ntmps41->pj,ntmps78->Ur,prog->ah,underlying148->acS,underlying24->sP,zeroCells138->jl
open Go.RowKit renaming Below->aI
open Go.RowKit.Below renaming heap_alloc->aC,heap_setCell->az,refl->aB
open Go.Value renaming bool->mz,oneCell'->dN,slice->cY
open Go.Value.slice renaming injEq->bA
open Go.World renaming ownsRow_nil->bS,size_alloc->bM,size_setCell->mr
open Int renaming le_refl->AQ,toNat_natCast->jI
open List renaming getD_eq_getElem?_getD->aw,getElem?_append_left->dF,getElem?_concat_length->eG,getElem?_eq_getElem->ar,getElem?_map->bp,getElem?_replicate->cu,getElem?_set_ne->dA,getElem_mem->eu,length_append->bh,length_set->bW,map_append->cQ,mem_of_getElem?->aS,mem_singleton->iL,nodup_nil->UN,prefix_append->jm,prefix_refl->tS,range->jL,replicate->aQ,set_cons_succ->ai,set_cons_zero->aj,set_set->UM,take_length->dH
open Nat renaming le_refl->au,le_succ->uU,le_trans->aZ,lt_succ_self->rq,not_lt_zero->iB,zero_le->aW
open Option.some renaming inj->aJ,injEq->vI
open UInt8 renaming ofNat->cS
namespace Go.Proofs.Tl
open Go Go.RowKit Go.Proofs.Ts
def qg(w:ak)(x:bC)(ns:List Nat):Prop:=ns.length=x.count/\∀(k m:Nat),ns[k]?=some m->∃hs,bP w m 1 hs (.pointer none) (.pointer none)/\∀d:UInt8,hs.getD d.toNat false=true↔x.yD 0 k d
theorem qg.below{w w':ak}{x:bC}{ns:List Nat}(h:qg w x ns)(hb:aI w.heap.size w w'):qg w' x ns:=⟨h.1,λk m hm=>by obtain⟨hs,h1,h2⟩:=h.2 k m hm;exact⟨hs,h1.old (hb.block m h1.lt),h2⟩⟩
def TR(w:ak)(x:bC)(ks:List Nat)(b:Nat)(e:rY)(w':ak):Prop:=Same w w'/\((e= .returned (.bool true)/\∃d∈ks,uQ x d b)\/(e= .returned (.bool false)/\¬∃d∈ks,uQ x d b))
theorem Pz(x:bC)(sb c:Nat)(ns fs:List Nat)(rows:List (List Bool))(ks:List Nat)(b:Nat)(v:ay)(w:ak)(hsp:eA w sb c ns fs rows)(hcl:qg w x ns)(hxc:x.count<=100000)(hks:dE w v ks)(hkl:ks.length<=100000)(hkb:∀d∈ks,d<256)(hb:b<256):aX ah 75 #[aP sb,iV (b:Int),v] w (TR w x ks b):=by
 obtain⟨va,vc,rfl⟩:=ownsRow_form hks;obtain⟨hv,fv,e1,e2,e3⟩:=hsp.ex;obtain⟨ha,hcap,rfl⟩:=ownsRow_form e2;have hnl:ns.length<=100000:=by rw[hcl.1];exact hxc
 have HS:=ae (show _/\_/\_/\_/\_ from⟨hcl,hks,hkb,e1,e2⟩);clear hsp hcl hks hkb e1 e2 e3;unfold aP;go_enter Tryz.func75,Tryz.ntmps75;go_wp2_with fail;go_loopw[7](λiv wr=>∃i:Nat,i<=ks.length/\iv= .int .i64 (i:Int)/\Hid (¬∃d∈ks.take i,uQ x d b)/\Hid (Same w wr))(λiv _=>ks.length-(intOf iv).toNat);case atStart=>exact⟨0,aW _,rfl,ae (by simp),ae (Same.refl _)⟩
 case round=>
  obtain⟨i,hi,rfl,HN,HW⟩:=hrel;have q1:IntKind.i64.wrap ((i:Int)+1)=(i:Int)+1:=aK _ (by omega);by_cases hlt:i<ks.length;·
   have z1:(0:Int)<=(i:Int)/\(i:Int)<(ks.length:Int):=by omega
   obtain⟨hcl,hks,hkb,e1,e2⟩:=HS.out;obtain⟨gK,kK,eK,cK⟩:=dE.cell hks hlt;simp only[bA,true_and]at eK;obtain⟨rfl,rfl⟩:=eK;have hd:ks[i]<256:=hkb _ (eu hlt);have HTK:=ae (show ks.take (i+1)=ks.take i++[ks[i]]/\ks[i]∈ks from⟨List.take_succ_eq_append_getElem hlt,eu hlt⟩);generalize ks[i]=d at*;have z2:(0:Int)<=(d:Int)/\(d:Int)<256:=by omega
   have z3:(0:Int)<=(b:Int)/\(b:Int)<256:=by omega
   have HK:=ae cK;clear cK hcl hks hkb e1 e2;go_wp2_with fail;go_loopw[8,9](λev kv wx=>∃(k:Nat)(eq:Bool),k<=ns.length/\ev= .bool eq/\kv= .int .i64 (k:Int)/\Hid (eq=true->∀j,j<k->(x.yD 0 j (cS d)↔x.yD 0 j (cS b)))/\Hid (eq=false->¬uQ x d b)/\Hid (Same w wx))(λ_ kv _=>ns.length-(intOf kv).toNat);case atStart=>exact⟨0,true,aW _,rfl,rfl,ae (λ_ j hj=>absurd hj (iB _)),ae (λh=>by cases h),HW⟩
   case round=>
    clear HW;obtain⟨k,eq,hk,rfl,rfl,HE,HF,HX⟩:=hrel;have q2:IntKind.i64.wrap ((k:Int)+1)=(k:Int)+1:=aK _ (by omega);have c0:wr.cell? (aD sb 0)=some (.slice ha ns.length hcap):=(HX.cell _).trans (aq HS.2.2.2.1);by_cases hlk:k<ns.length;·
     have z4:(0:Int)<=(k:Int)/\(k:Int)<(ns.length:Int):=by omega
     cases eq with
      |false=>have HN2:Hid (¬∃d∈ks.take (i+1),uQ x d b):=ae (by
       rw[HTK.1];rintro⟨e,he,hl⟩;rcases List.mem_append.1 he with h|h;·exact HN ⟨e,h,hl⟩
       ·rw[iL]at h;exact HF rfl (h▸hl));clear HE HF;go_wp2_with fail;exact⟨⟨i+1,by omega,by go_num,HN2,HX⟩,by simp[intOf];omega⟩|true=>
       obtain⟨hcl,hks,hkb,e1,e2⟩:=HS.out;obtain⟨mb,hmb⟩:∃mb,ns[k]?=some mb:=⟨_,ar hlk⟩;obtain⟨gf,kf,ef,cf⟩:=dh e2 (j:=k) (u:=aP mb) (by rw[bp,hmb];rfl);simp only[bA,true_and]at ef;obtain⟨rfl,rfl⟩:=ef;obtain⟨hs,hn,rP⟩:=hcl.2 k mb hmb;have c1:wr.cell? (aD gf k)=some (pT mb):=(HX.cell _).trans cf;have c2:wr.cell? (aD gK i)=some (iV (d:Int)):=(HX.cell _).trans HK;have c3:=(HX.cell (aD mb (1+d))).trans (hn.flag (c:=d) hd);have c4:=(HX.cell (aD mb (1+b))).trans (hn.flag (c:=b) hb);have b1:=rP (cS d);have b2:=rP (cS b);rw[ofNat_toNat hd]at b1;rw[ofNat_toNat hb]at b2;obtain⟨xv,hx⟩:∃xv,xv=hs.getD d false:=⟨_,rfl⟩;obtain⟨yv,hy⟩:∃yv,yv=hs.getD b false:=⟨_,rfl⟩;rw[<-hx]at c3 b1;rw[<-hy]at c4 b2;have ME:=ae (show _/\_ from⟨b1,b2⟩);have YZ:=ae (show ns.length=x.count from hcl.1);clear b1 b2 hx hy rP hn hcl hks hkb e1 e2 cf hmb;go_upto_region 8 with fail;refine bB [(0,false),(1,false),(2,false),(3,false),(4,false),(5,false),(6,false),(7,false),(8,false),(9,false),(10,false),(11,false),(12,false),(13,false),(14,false),(15,false),(16,false),(17,false),(18,false),(19,false),(20,false),(21,false),(22,false),(23,false),(24,false),(25,false),(26,false),(27,false),(28,false)] 1000 (λw'=>w'.cell? (aD sb 0)=some (sL gf ns.length hcap)/\w'.cell? (aD gf k)=some (pT mb)/\w'.cell? (aD gK i)=some (iV (d:Int))/\w'.cell? (aD mb (1+d))=some (.bool xv)/\w'.cell? (aD mb (1+b))=some (.bool yv)) (by kernel_rfl) (by kernel_rfl) ⟨c0,c1,c2,c3,c4⟩ ?_;iterate 29(
 refine aR ?_ rfl rfl (λw' hS=>?_) ?_;rotate_left;·obtain⟨f0,f1,f2,f3,f4⟩:=hS;go_simp;try rfl
 simp only[aN,ai,aj])
       refine cV ?_;go_wp2_with fail;refine⟨⟨k+1,xv==yv,by omega,by cases xv<;>cases yv<;>rfl,by go_num,ae (λh j hj=>?_),ae (λh hl=>?_),ae (HX.trans (Same.drew _))⟩,by simp[intOf];omega⟩;·
        by_cases hjk:j=k;·rw[hjk,<-ME.1,<-ME.2,beq_iff_eq.1 h]
        ·exact HE rfl j (by omega)
       ·have:=hl k (by rw[<-YZ];exact hlk);rw[<-ME.1,<-ME.2,<-jf]at this;rw[this,beq_self_eq_true]at h;cases h
    ·obtain rfl:k=ns.length:=by omega
     cases eq with
      |false=>have HN2:Hid (¬∃d∈ks.take (i+1),uQ x d b):=ae (by
       rw[HTK.1];rintro⟨e,he,hl⟩;rcases List.mem_append.1 he with h|h;·exact HN ⟨e,h,hl⟩
       ·rw[iL]at h;exact HF rfl (h▸hl));clear HE HF;go_wp2_with fail;exact⟨⟨i+1,by omega,by go_num,HN2,HX⟩,by simp[intOf];omega⟩|true=>have HL:Hid (uQ x d b):=ae λj hj=>HE rfl j (by rw[HS.1.1];exact hj);clear HE HF;go_wp2_with fail;go_ret;exact⟨HX,.inl ⟨rfl,d,HTK.2,HL⟩⟩
  ·obtain rfl:i=ks.length:=by omega
   go_wp2_with fail;go_ret;refine⟨HW,.inr ⟨rfl,?_⟩⟩;have:=HN.out;rwa[dH]at this
structure ow (W0 W2:ak) (mb:Nat) (cs:Array ay) (T:dx) (i:Nat) (fv v4:ay) (E:dx) (n:Nat) (xs:List ay) (u:ay):Prop where
 head:W2.heap[mb]?=some (.cells (cs.setIfInBounds i v4) T (0,0))
 row:W2.ownsRow 0 E 1 v4 (n+1) (xs++[u])
 rest:∀ k,k < W0.heap.size->k≠mb->fv.ownBlock≠some k->W2.heap[k]?=W0.heap[k]?
 lies:v4.ownBlock=fv.ownBlock \/ ∃ g,v4.ownBlock=some g/\W0.heap.size<=g
 size:W0.heap.size<=W2.heap.size
 below:∀ B w0,aI B w0 W0->kp B fv->B<=mb->B<=W0.heap.size->aI B w0 W2
theorem pushed{W0 W4:ak}{mb i:Nat}{cs:Array ay}{T E:dx}{fv v4 u:ay}{n:Nat}{xs:List ay}(hm:W0.heap[mb]?=some (.cells cs T (0,0)))(hr:W0.ownsRow 0 E 1 fv n xs)(hTE:T≠E)(h4:W4.ownsRow 0 E 1 v4 (n+1) (xs++[u]))(hM:bL (W0.alloc (.cells #[u] E)) fv W4 v4):ow W0 (W4.setCell (aD mb i) v4) mb cs T i fv v4 E n xs u:=by
 have hmb:mb<W0.heap.size:=lt_of_heap hm;have hmo:fv.ownBlock≠some mb:=λh=>hTE (cz hr h hm);have ha:∀k,k<W0.heap.size->(W0.alloc (.cells #[u] E)).heap[k]?=W0.heap[k]?:=λk hk=>aC _ _ _ hk;have hs1:(W0.alloc (.cells #[u] E)).heap.size=W0.heap.size+1:=by rw[bM]
 have h4k:∀k,k<W0.heap.size->fv.ownBlock≠some k->W4.heap[k]?=W0.heap[k]?:=λk hk h=>(hM.block (by rw[hs1];omega) h).trans (ha k hk);have hm4:W4.heap[mb]?=some (.cells cs T (0,0)):=(h4k mb hmb hmo).trans hm;have hv4:v4.ownBlock≠some mb:=λh=>hTE (cz h4 h hm4);have hlies:v4.ownBlock=fv.ownBlock\/∃g,v4.ownBlock=some g/\W0.heap.size<=g:=by
  rcases hM.lies with h|⟨g,h,hg⟩;·exact .inl h
  ·exact .inr ⟨g,h,by omega⟩
 refine⟨heap_setCell_same W4 mb i _ _ _ hm4,aO h4 λk e=>az W4 _ _ k (λh=>hv4 (by rw[e];exact congrArg some h)),λk h1 h2 h3=>(az W4 _ _ k (λh=>h2 h)).trans (h4k k h1 h3),hlies,?_,λB w0 hb hp hB1 hB2=>?_⟩;·have:=hM.size;rw[mr];omega
 ·exact(hM.below hp (hb.alloc hB2 _) (by omega)).setCell hB1 _
theorem s8{W0 W4:ak}{mb:Nat}{cs:Array ay}{T E:dx}{fv v4 u:ay}{n:Nat}{xs:List ay}(hm:W0.heap[mb]?=some (.cells cs T (0,0)))(hr:W0.ownsRow 0 E 1 fv n xs)(hTE:T≠E)(hM:bL (W0.alloc (.cells #[u] E)) fv W4 v4):W4.heap[mb]?=some (.cells cs T (0,0)):=by have hmb:mb<W0.heap.size:=lt_of_heap hm;have hmo:fv.ownBlock≠some mb:=λh=>hTE (cz hr h hm);exact((hM.block (by rw[bM];omega) hmo).trans (aC _ _ _ hmb)).trans hm
section
variable{W0 W2:ak}{mb:Nat}{cs:Array ay}{T:dx}{i:Nat}{fv v4:ay}{E:dx}{n:Nat}{xs:List ay}{u:ay}
theorem ow.past(h:ow W0 W2 mb cs T i fv v4 E n xs u){B:Nat}(hp:kp B fv)(hB:B<=W0.heap.size):kp B v4:=by
 intro k hk;rcases h.lies with e|⟨g,e,hg⟩;·exact hp k (e▸hk)
 ·rw[e]at hk;cases hk;omega
theorem ow.other(h:ow W0 W2 mb cs T i fv v4 E n xs u)(hm:W0.heap[mb]?=some (.cells cs T (0,0)))(hr:W0.ownsRow 0 E 1 fv n xs){k:Nat}{ds:Array ay}{t:dx}{r:Nat×Nat}(hk:W0.heap[k]?=some (.cells ds t r))(h1:t≠T)(h2:t≠E):W2.heap[k]?=W0.heap[k]?:=h.rest k (lt_of_heap hk) (λe=>by subst e;rw[hm]at hk;cases hk;exact h1 rfl) λe=>h2 (cz hr e hk)
theorem ow.rows(h:ow W0 W2 mb cs T i fv v4 E n xs u)(hm:W0.heap[mb]?=some (.cells cs T (0,0)))(hr:W0.ownsRow 0 E 1 fv n xs){t:dx}{size m:Nat}{v:ay}{ys:List ay}(hv:W0.ownsRow 0 t size v m ys)(h1:t≠T)(h2:t≠E):W2.ownsRow 0 t size v m ys:=bT hv λk ds r hk=>h.other hm hr hk h1 h2
end
theorem Bi{P:Program}{fn:Func}{p u:Tmp}{ty:dx}(h:fn.results=#[.tmp u,.cell p ty])(tmps:Array ay)(w:ak)(g:Nat)(t:dx)(cs:Array ay)(fr:Nat×Nat)(d:TypeDesc)(hp:tmps.getD p undef=pT g)(hg:w.heap[g]?=some (.cells cs t fr))(hu:P.underlying ty=some d)(hd:(match d with| .struct _| .array _ _=>true|_=>false)=true)(hi:(P.info? ty).map (·.size)=some cs.size):(results fn tmps).run P w= .ok (.tuple #[tmps.getD u undef,.agg cs]) w:=by
 have hp':tmps[p]?.getD undef=pT g:=by simpa using hp
 simp[results,h,hp',asAddr,run_loadVar_row w g t ty cs fr d hg hu hd hi,Sem.run_bind]
structure AB (w:ak) (x:bC) (sb:Nat) (fv lv:ay):Prop where
 first:∃ f,dE w fv f/\f.length<=x.count /\ ∀ k,k∈f↔x.fst 0 k
 last:∃ l,dE w lv l/\l.length<=x.count /\ ∀ k,k∈l↔x.uh 0 k
 spread:∃ ns fs rows,eA w sb x.count ns fs rows/\qg w x ns/\fs.length=x.count /\ ∀ a b,jg rows a b=true↔x.xA 0 a b
theorem AB.below{w w':ak}{x:bC}{sb:Nat}{fv lv:ay}(h:AB w x sb fv lv)(hb:aI w.heap.size w w'):AB w' x sb fv lv:=by obtain⟨f,f1,f2⟩:=h.first;obtain⟨l,l1,l2⟩:=h.last;obtain⟨ns,fs,rows,s1,s2,s3⟩:=h.spread;exact⟨⟨f,f1.below hb,f2⟩,⟨l,l1.below hb,l2⟩,ns,fs,rows,s1.below hb,s2.below hb,s3⟩
def o8(B sb c i:Nat)(w0 w:ak):Prop:=∃(fs:List Nat)(fv:ay),fs.length=i/\w.heap[sb]?=some (.cells #[.slice none 0 0,fv] 150 (0,0))/\w.ownsRow 0 151 1 fv fs.length (fs.map λf=>ja f c)/\kp B fv/\fs.Nodup/\(∀f∈fs,bY w f (aQ c false)/\B<=f)/\aI B w0 w/\B<=sb/\B<=w.heap.size
theorem o8.spread{B sb c i:Nat}{w0 w:ak}(h:o8 B sb c i w0 w):∃(fs:List Nat),fs.length=i/\eA w sb c [] fs (aQ i (aQ c false))/\(∀f∈fs,B<=f)/\aI B w0 w/\B<=sb/\∃hv fv,w.heap[sb]?=some (.cells #[hv,fv] 150 (0,0))/\kp B hv:=by
 obtain⟨fs,fv,h1,h2,h3,h4,h5,h6,h7,h8,h9⟩:=h;refine⟨fs,h1,⟨⟨_,_,h2,bS _ _ _ _,h3⟩,h5,by simp[h1],λi f l hf hl=>?_⟩,λf hf=>(h6 f hf).2,h7,h8,_,_,h2,λk e=>by cases e⟩;rw[cu]at hl;split at hl;·cases hl;exact⟨(h6 f (aS hf)).1,by simp⟩
 ·cases hl
theorem Zz(i c a b:Nat):jg (aQ i (aQ c false)) a b=false:=by
 unfold jg;simp only[aw,cu];split;·simp[cu];split<;>rfl
 ·simp
theorem o8.push{B sb c i:Nat}{w0 W W2:ak}{fs:List Nat}{fv v4:ay}(h1:fs.length=i)(h2:W.heap[sb]?=some (.cells #[.slice none 0 0,fv] 150 (0,0)))(h3:W.ownsRow 0 151 1 fv fs.length (fs.map λf=>ja f c))(h4:kp B fv)(h5:fs.Nodup)(h6:∀f∈fs,bY W f (aQ c false)/\B<=f)(h7:aI B w0 W)(h8:B<=sb)(h9:B<=W.heap.size){nb:Nat}(hnb:bY W nb (aQ c false))(hBn:B<=nb)(hnf:nb∉fs)(hP:ow W W2 sb #[.slice none 0 0,fv] 150 1 fv v4 151 fs.length (fs.map λf=>ja f c) (ja nb c)):o8 B sb c (i+1) w0 W2:=by
 refine⟨fs++[nb],v4,by simp[h1],hP.head,?_,hP.past h4 h9,?_,λf hf=>?_,hP.below B w0 h7 h4 h8 h9,h8,aZ h9 hP.size⟩;·rw[bh,cQ];exact hP.row
 ·rw[List.nodup_append];exact⟨h5,by simp,λa ha b hb e=>by simp at hb;subst hb;subst e;exact hnf ha⟩
 ·rcases List.mem_append.1 hf with hf|hf;·exact⟨(h6 f hf).1.old (hP.other h2 h3 (h6 f hf).1 (by decide) (by decide)),(h6 f hf).2⟩
  ·rw[iL]at hf;subst hf;exact⟨hnb.old (hP.other h2 h3 hnb (by decide) (by decide)),hBn⟩
theorem Tryz.Wj:(Tryz.prog.info? 151).map (λi=>(i.zero,i.size,i.bytes))=some (some (.slice none 0 0),1,24):=by kernel_rfl
theorem NW(x:bC)(nb:Nat)(w:ak)(hN:bu w x nb)(hc:x.count<=1000):aX ah 74 #[aP nb] w λe w'=>∃sb fv lv,e= .returned (.tuple #[aP sb,.agg #[fv,lv,.bool x.qH]])/\aI w.heap.size w w'/\AB w' x sb fv lv:=by
 obtain⟨i0,hi,hz0,hz1,hz2⟩:=info_parts Tryz.Wj;have HN:=ae hN;have HC:=ae hc;obtain⟨c,hcc⟩:∃c,c=x.count:=⟨_,rfl⟩;have hc1:c<=1000:=by omega
 have hmk:=yK c (c:Int) rfl (by omega);obtain⟨W1,hW1⟩:∃W1,W1=w.alloc (.cells #[.slice none 0 0,.slice none 0 0,.bool false] 144):=⟨_,rfl⟩;have hb1:aI w.heap.size w W1:=by rw[hW1];exact(aB _ w).alloc (au _) _
 have hp1:W1.heap[w.heap.size]?=some (.cells #[.slice none 0 0,.slice none 0 0,.bool false] 144 (0,0)):=by rw[hW1];exact heap_alloc_new _ _
 have HW:=ae (show _/\_/\_ from⟨hb1,hp1,hcc⟩);clear hb1 hp1 hcc hc;have HCT:Hid (∀W,aI w.heap.size w W->aX ah 117 #[pT nb] W λe w'=>e= .returned (iV (c:Int))/\aI W.heap.size W w'):=ae λW h=>by rw[HW.2.2];exact lH x nb W (HN.below h) (by have:=HC.out;omega)
 unfold aP;go_enter Tryz.func74,Tryz.ntmps74;go_upto_region 1 with fail;rw[<-hW1];clear hW1;go_upto_region 2 with(go_at_call 117;refine(HCT _ HW.1).mono ?_;rintro e W2⟨rfl,hb2⟩;have kN:=ae hb2);obtain⟨W3,hW3⟩:∃W3,W3=W2.alloc (.cells #[.slice none 0 0,.slice none 0 0] 150):=⟨_,rfl⟩;have h3:o8 W2.heap.size W2.heap.size c 0 W2 W3:=by rw[hW3];exact⟨[],.slice none 0 0,rfl,heap_alloc_new _ _,bS _ _ _ _,λk e=>(by cases e),UN,λf hf=>by simp at hf,(aB _ _).alloc (au _) _,au _,by simp⟩
 have H3:=ae h3;go_upto_region 3 with fail;rw[<-hW3];go_wp2_with fail;go_loopw[6](λiv wr=>∃i:Nat,i<=c/\iv= .int .i64 (i:Int)/\Hid (o8 W2.heap.size W2.heap.size c i W2 wr))(λiv _=>c-(intOf iv).toNat);case atStart=>exact⟨0,aW _,rfl,H3⟩
 case round=>
  obtain⟨i,hi9,rfl,HI⟩:=hrel;have q1:IntKind.i64.wrap ((i:Int)+1)=(i:Int)+1:=aK _ (by omega);by_cases hlt:i<c;·
   go_upto_region 6 with fail;obtain⟨W4,tM⟩:∃W4,W4=wr.alloc (.cells (madeCells #[.bool false] c) 4):=⟨_,rfl⟩;have hb4:aI wr.heap.size wr W4:=by rw[tM];exact(aB _ _).alloc (au _) _
   have hr4:bY W4 wr.heap.size (aQ c false):=by rw[tM];exact bY.made _ _
   go_upto_region 7 with fail;rw[<-tM];obtain⟨fs,fv,h1,h2,h3,h4,h5,h6,h7,h8,h9⟩:=HI.out;have k2:=(hb4.block _ (lt_of_heap h2)).trans h2;have k3:=aO h3 λk e=>hb4.block k (h3.lt k e).2;have k6:∀f∈fs,bY W4 f (aQ c false)/\W2.heap.size<=f:=λf hf=>⟨(h6 f hf).1.below hb4,(h6 f hf).2⟩;have k7:=h7.trans (hb4.mono h9);have k9:=aZ h9 hb4.size;have hnf:wr.heap.size∉fs:=λhf=>absurd (h6 _ hf).1.lt (Nat.lt_irrefl _);obtain⟨fa,fc,rfl⟩:=ownsRow_form h3;have d0:W4.cell? (aD W2.heap.size 1)=some (.slice fa fs.length fc):=aq k2;have hrow:=k3.alloc (.cells #[ja wr.heap.size c] 151);have HH:=ae (show _/\_/\_/\_/\_/\_/\_/\_/\_/\_/\_/\_ from⟨h1,k2,k3,h4,h5,k6,k7,h8,k9,hr4,h9,hnf⟩);have hfl:fs.length<=1000:=by omega
   have JU:((fs.map λf=>ja f c)).length=fs.length*1:=by simp
   clear h1 h2 h3 h4 h5 h6 h7 h8 h9 k2 k3 k6 k7 k9 hb4 hr4 hnf tM HI;unfold ja at hrow;go_upto_region 5 with(at_builtin;refine wpList_append_lies rfl _ _ 148 rfl 151 i0 (.slice none 0 0) 1 24 acS hi hz0 hz1 hz2 rfl (by decide) (.slice fa fs.length fc) fs.length _ rfl hrow (aD W4.heap.size 0) 1 1 [sL wr.heap.size c c] rfl rfl (cell_one_new W4 _ _) (by simp[dN]) (by decide) (by unfold maxLen;omega) (by omega) ?_;intro v5 W5 lN ng py;have hd5:=s8 HH.2.1 HH.2.2.1 (by decide) (bL.append ng py);have HP5:=ae (pushed (i:=1) HH.2.1 HH.2.2.1 (by decide) lN (bL.append ng py));obtain⟨g5,vd,rfl⟩:=bX lN;have y0:W5.cell? (aD W2.heap.size 1)=some (.slice fa fs.length fc):=aq hd5;have y1:W5.frozen? (aD W2.heap.size 1)=false:=aU hd5);have Yl:Hid (o8 W2.heap.size W2.heap.size c (i+1) W2 (W5.setCell (aD W2.heap.size 1) (sL g5 (fs.length+1) vd))):=ae (by obtain⟨h1,k2,k3,h4,h5,k6,k7,h8,k9,hr4,h9,hnf⟩:=HH.out;exact o8.push h1 k2 k3 h4 h5 k6 k7 h8 k9 hr4 h9 hnf HP5);go_wp2_with fail;exact⟨⟨i+1,by omega,by go_num,Yl⟩,by simp[intOf];omega⟩
  ·obtain rfl:i=c:=by omega
   obtain⟨fs,hfl,hsp,OM,pY,TY,mZ⟩:=HI.spread;have hb2:=HW.1.trans (kN.mono HW.1.size);have aax:=hb2.trans (pY.mono hb2.size);have hof:=wC W2.heap.size W2.heap.size i fs hc1 hfl x [] _ nb wr hsp (HN.below aax) (by rw[HW.2.2];exact Nat.le_of_eq (Nat.zero_add _)) pY.size TY OM mZ;have HOF:=ae hof;have Ul:=ae (show _/\_/\_ from⟨hb2,aax,hfl⟩);have HI':=HI;unfold aP at HOF;go_upto_region 9 with(go_at_call 118;refine HOF.mono ?_;rintro e W6⟨fv,lv,rfl,hE,hP2⟩;obtain⟨f,hf1,hf2,hf3⟩:=hE.first;obtain⟨l,JU,hl2,hl3⟩:=hE.last;obtain⟨va,vc,rfl⟩:=ownsRow_form hf1;obtain⟨la,lc,rfl⟩:=ownsRow_form JU;have HE:=ae hE);obtain⟨W7,wO⟩:∃W7,W7=W6.alloc (.cells #[.slice va f.length vc,.slice la l.length lc,.bool x.qH] 144):=⟨_,rfl⟩;have h7n:W7.heap[W6.heap.size]?=some (.cells #[.slice va f.length vc,.slice la l.length lc,.bool x.qH] 144 (0,0)):=by rw[wO];exact heap_alloc_new _ _
   have SJ:aI W6.heap.size W6 W7:=by rw[wO];exact(aB _ _).alloc (au _) _
   have hp6:W7.heap[w.heap.size]?=some (.cells #[.slice none 0 0,.slice none 0 0,.bool false] 144 (0,0)):=by
    have h1:=HW.2.1;have h2:=kN.block _ (lt_of_heap h1);have h3:wr.heap[w.heap.size]?=W2.heap[w.heap.size]?:=by obtain⟨fs',fv',_,_,_,_,_,_,pY,_⟩:=HI'.out;exact pY.block _ (lt_of_heap (h2.trans h1))
    have h4:=HE.below.block _ (lt_of_heap (h2.trans h1));exact(((SJ.block _ (lt_of_heap (h4.trans (h3.trans (h2.trans h1))))).trans h4).trans (h3.trans h2)).trans h1
   have d0:W7.cell? (aD W6.heap.size 0)=some (.slice va f.length vc):=aq h7n;have d1:W7.cell? (aD W6.heap.size 1)=some (.slice la l.length lc):=aq h7n;have d2:W7.cell? (aD W6.heap.size 2)=some (.bool x.qH):=aq h7n;have k0:W7.cell? (aD w.heap.size 0)=some (.slice none 0 0):=aq hp6;have k1:W7.cell? (aD w.heap.size 1)=some (.slice none 0 0):=aq hp6;have k2:W7.cell? (aD w.heap.size 2)=some (.bool false):=aq hp6;have f0:W7.frozen? (aD w.heap.size 0)=false:=aU hp6;have f1:W7.frozen? (aD w.heap.size 1)=false:=aU hp6;have f2:W7.frozen? (aD w.heap.size 2)=false:=aU hp6;have H7:=ae (show _/\_ from⟨hp6,SJ⟩);rw[<-wO];clear hp6 h7n SJ wO;refine bB [(0,false),(1,false),(2,false),(3,true)] 3 (λw'=>Same W7 w') (by kernel_rfl) (by kernel_rfl) (Same.drew _) ?_;iterate 3(
 refine aR ?_ rfl rfl (λw' hS=>?_) ?_;rotate_left;·have g0:=(hS.cell _).trans d0;have g1:=(hS.cell _).trans d1;have g2:=(hS.cell _).trans d2;go_simp;try rfl
 simp only[aN,ai,aj])
   refine cO rfl rfl (λK hK=>?_);have HK:=ae hK;go_simp;refine HK _ _ ?_;obtain⟨hW,hoth,yU⟩:=Cx H7.1 (.slice va f.length vc) (.slice la l.length lc) (.bool x.qH);have hsz:W7.heap.size<=(((W7.setCell (aD w.heap.size 0) (.slice va f.length vc)).setCell (aD w.heap.size 1) (.slice la l.length lc)).setCell (aD w.heap.size 2) (.bool x.qH)).heap.size:=by simp only[mr];exact au _
   generalize((W7.setCell (aD w.heap.size 0) (.slice va f.length vc)).setCell (aD w.heap.size 1) (.slice la l.length lc)).setCell (aD w.heap.size 2) (.bool x.qH)=W8 at*;have HW8:=ae (show _/\_/\_/\_ from⟨hW,hoth,yU,hsz⟩);have vG:=hW;go_wp2_with fail;refine bodyPost_ret (Bi rfl _ _ (w.heap.size) _ _ _ _ rfl vG Tryz.underlying144 rfl (by kernel_rfl)) rfl ?_;obtain⟨hW,hoth,yU,hsz⟩:=HW8.out;obtain⟨hb2,aax,hfl⟩:=Ul.out;have hlt2:=lt_of_heap ((kN.block _ (lt_of_heap HW.2.1)).trans HW.2.1);have hE:=HE.out;have alM:W2.heap.size<=W6.heap.size:=by obtain⟨fs',fv',_,_,_,_,_,_,pY,_⟩:=HI'.out;exact aZ pY.size hE.below.size
   have h68:∀k,k<W6.heap.size->k≠w.heap.size->W8.drew.heap[k]?=W6.heap[k]?:=λk h1 h2=>(hoth k h2).trans (H7.2.block k h1);have hnp:∀(k:Nat)cs t r,W6.heap[k]?=some (.cells cs t r)->t≠144->W8.drew.heap[k]?=W6.heap[k]?:=λk cs t r hk ht=>h68 k (lt_of_heap hk) λe=>by subst e;have h1:=H7.2.block _ (lt_of_heap hk);have:=H7.1.symm.trans (h1.trans hk);simp at this;exact ht this.2.1.symm
   refine⟨W2.heap.size,_,_,rfl,?_,?_,?_,?_⟩;·have h1:=(aax.trans (hE.below.mono (Nat.le_of_lt hlt2))).trans (H7.2.mono (by omega));exact(yU _ _ h1 (au _)).drew
   ·obtain⟨f',h1,h2,h3⟩:=hE.first;exact⟨f',bT h1 λk cs r hk=>hnp k cs _ r hk (by decide),h2,h3⟩
   ·obtain⟨f',h1,h2,h3⟩:=hE.last;exact⟨f',bT h1 λk cs r hk=>hnp k cs _ r hk (by decide),h2,h3⟩
   ·obtain⟨ms,rows',h1,h2,h3,h4⟩:=hE.spread;rw[List.nil_append]at h1;rw[HW.2.2]at h1 hfl;refine⟨ms,fs,rows',?_,⟨h2,λk m hm=>?_⟩,hfl,λa b=>?_⟩;·obtain⟨hv,fv',e1,e2,e3⟩:=h1.ex;exact⟨⟨hv,fv',(hnp _ _ _ _ e1 (by decide)).trans e1,bT e2 λk cs r hk=>hnp k cs _ r hk (by decide),bT e3 λk cs r hk=>hnp k cs _ r hk (by decide)⟩,h1.nd,h1.len,λi f l hf hl=>by obtain⟨a1,a2⟩:=h1.row i f l hf hl;exact⟨a1.old (hnp _ _ _ _ a1 (by decide)),a2⟩⟩
    ·obtain⟨hs,k1,k2⟩:=h4 k m hm;refine⟨hs,k1.old (hnp _ _ _ _ k1.2 (by decide)),λd=>?_⟩;rw[k2 d];simp
    ·rw[h3 a b,Zz];simp
def eD(w:ak)(b:Nat)(l:List Int):Prop:=w.heap[b]?=some (.cells (l.map (Value.int .i64)).toArray 3 (0,0))
section
variable{w w':ak}{b:Nat}{l:List Int}
theorem eD.lt(h:eD w b l):b<w.heap.size:=lt_of_heap h
theorem eD.cell(h:eD w b l){i:Nat}(hi:i<l.length):w.cell? (aD b i)=some (iV (l.getD i 0)):=by rw[aq h];simp[ar hi,aw]
theorem eD.free(h:eD w b l)(i:Nat):w.frozen? (aD b i)=false:=aU h
theorem eD.set(h:eD w b l)(i:Nat)(v:Int):eD (w.setCell (aD b i) (iV v)) b (l.set i v):=by unfold eD;rw[heap_setCell_same w b i _ _ _ h];simp[List.map_set]
theorem eD.old(h:eD w b l)(hb:w'.heap[b]?=w.heap[b]?):eD w' b l:=hb.trans h
theorem eD.below(h:eD w b l)(hb:aI w.heap.size w w'):eD w' b l:=h.old (hb.block b h.lt)
theorem eD.same(h:eD w b l)(k:Same w w'):eD w' b l:=by unfold eD;rw[k.heap];exact h
end
theorem RZ(n:Nat):madeCells #[iV 0] n=((aQ n (0:Int)).map (Value.int .i64)).toArray:=by apply Array.toList_inj.1;rw[toList_madeCells_one];simp
theorem eD.made(w:ak)(n:Nat):eD (w.alloc (.cells (madeCells #[iV 0] n) 3)) w.heap.size (aQ n 0):=by unfold eD;rw[<-RZ];exact heap_alloc_new _ _
theorem GY(n:Nat)(z:Int)(hz:z=n)(hn:n<=1000000)(W:ak):(Instr.makeSlice 24 (iV z) (iV z)).run ah W= .ok (sL W.heap.size n n) (W.alloc (.cells (madeCells #[iV 0] n) 3)):=by obtain⟨i0,hi,hz0,hz1,hz2⟩:=info_parts Tryz.info3;subst hz;have:=run_make (P:=ah) W 24 3 i0 (iV 0) sP hi hz0 .i64 .i64 n n (by omega) (AQ _) (by rw[hz2];omega) (by omega);rw[hz1]at this;simpa[Value.cells]using this
theorem Tryz.adt:(Tryz.prog.info? 24).map (λi=>(i.zero,i.size,i.bytes))=some (some (.slice none 0 0),1,24):=by kernel_rfl
def ki(b n:Nat):ay:= .slice (some ⟨b,0,none⟩) n n
structure iY (W:ak) (N mb c:Nat) (gs:List Nat) (sets:List aH) (rs:List Nat) (rows:List (List Int)) (es:List Bool) (ks:List Nat) (sv tv ev kv:ay):Prop where
 head:W.heap[mb]?=some (.cells #[sv,tv,ev,kv] 153 (0,0))
 past:N<=mb/\kp N sv/\kp N tv/\kp N ev/\kp N kv
 fx:tK W sv (c+1) gs (sets.map (flagsOf c))
 sat:∀ g∈gs,N<=g
 qu:W.ownsRow 0 24 1 tv rs.length (rs.map fun r=>ki r ks.length)
 zB:rows.length=rs.length
 vR:∀ (i:Nat) r l,rs[i]?=some r->rows[i]?=some l->eD W r l/\l.length=ks.length
 YH:∀ r∈rs,N<=r
 jw:W.ownsRow 0 4 1 ev es.length (es.map mz)
 lV:dE W kv ks
 apart:∀ g∈gs,ev.ownBlock≠some g
section
variable{W W' W2:ak}{N mb c:Nat}{gs:List Nat}{sets:List aH}{rs:List Nat}{rows:List (List Int)}{es:List Bool}{ks:List Nat}{sv tv ev kv:ay}
theorem tK.lt{v:ay}{n:Nat}{L:List (List Bool)}(h:tK W v n gs L){g:Nat}(hg:g∈gs):g<W.heap.size:=by obtain⟨i,hi⟩:=List.mem_iff_getElem?.1 hg;have:=(List.getElem?_eq_some_iff.1 hi).1;exact(h.each i g _ hi (ar (by rw[h.len];exact this))).1.lt
theorem tK.flag{v:ay}{n:Nat}{L:List (List Bool)}(h:tK W v n gs L){g:Nat}(hg:g∈gs):∃l,bY W g l:=by obtain⟨i,hi⟩:=List.mem_iff_getElem?.1 hg;have:=(List.getElem?_eq_some_iff.1 hi).1;exact⟨_,(h.each i g _ hi (ar (by rw[h.len];exact this))).1⟩
theorem iY.alh(h:iY W N mb c gs sets rs rows es ks sv tv ev kv){r:Nat}(hr:r∈rs):∃l,eD W r l:=by obtain⟨i,hi⟩:=List.mem_iff_getElem?.1 hr;have:=(List.getElem?_eq_some_iff.1 hi).1;exact⟨_,(h.vR i r _ hi (ar (by rw[h.zB];exact this))).1⟩
theorem iY.frame (h:iY W N mb c gs sets rs rows es ks sv tv ev kv)
  (hk:∀ k,k < W.heap.size->(k=mb\/k∈gs\/k∈rs\/sv.ownBlock=some k\/tv.ownBlock=some k\/ev.ownBlock=some k\/kv.ownBlock=some k)->W'.heap[k]?=W.heap[k]?):iY W' N mb c gs sets rs rows es ks sv tv ev kv where
 head:=(hk mb (lt_of_heap h.head) (.inl rfl)).trans h.head
 past:=h.past
 fx:=⟨aO h.fx.row fun k e=>hk k (h.fx.row.lt k e).2 (.inr (.inr (.inr (.inl e)))),h.fx.len,fun i g l hg hl=>by
  obtain ⟨h1,h2⟩:=h.fx.each i g l hg hl
  exact ⟨h1.old (hk g h1.lt (.inr (.inl (aS hg)))),h2⟩⟩
 sat:=h.sat
 qu:=aO h.qu fun k e=>hk k (h.qu.lt k e).2 (.inr (.inr (.inr (.inr (.inl e)))))
 zB:=h.zB
 vR:=fun i r l hr hl=>by
  obtain ⟨h1,h2⟩:=h.vR i r l hr hl
  exact ⟨h1.old (hk r h1.lt (.inr (.inr (.inl (aS hr))))),h2⟩
 YH:=h.YH
 jw:=aO h.jw fun k e=>hk k (h.jw.lt k e).2 (.inr (.inr (.inr (.inr (.inr (.inl e))))))
 lV:=aO h.lV fun k e=>hk k (h.lV.lt k e).2 (.inr (.inr (.inr (.inr (.inr (.inr e))))))
 apart:=h.apart
theorem iY.below(h:iY W N mb c gs sets rs rows es ks sv tv ev kv)(hb:aI W.heap.size W W'):iY W' N mb c gs sets rs rows es ks sv tv ev kv:=h.frame λk hk _=>hb.block k hk
theorem iY.store(h:iY W N mb c gs sets rs rows es ks sv tv ev kv){rb:Nat}{l:List Int}(rN:eD W rb l)(h1:rb∉rs)(h2:kv.ownBlock≠some rb)(hk:∀k,k<W.heap.size->k≠rb->W'.heap[k]?=W.heap[k]?):iY W' N mb c gs sets rs rows es ks sv tv ev kv:=h.frame λk hl hf=>hk k hl λe=>by
 subst e;rcases hf with hf|hf|hf|hf|hf|hf|hf;·subst hf;have:=rN.symm.trans h.head;simp at this
 ·obtain⟨m,hm⟩:=h.fx.flag hf;have:=rN.symm.trans hm;simp at this
 ·exact h1 hf
 ·exact absurd (cz h.fx.row hf rN) (by decide)
 ·exact absurd (cz h.qu hf rN) (by decide)
 ·exact absurd (cz h.jw hf rN) (by decide)
 ·exact h2 hf
theorem iY.Vt (h:iY W N mb c gs sets [] [] es ks sv tv ev kv) {kv':ay} {b:Nat} (hP:ow W W2 mb #[sv,tv,ev,kv] 153 3 kv kv' 3 ks.length (ks.map cJ) (cJ b)) (hN:N<=W.heap.size):iY W2 N mb c gs sets [] [] es (ks++[b]) sv tv ev kv' where
 head:=hP.head
 past:=⟨h.past.1,h.past.2.1,h.past.2.2.1,h.past.2.2.2.1,hP.past h.past.2.2.2.2 hN⟩
 fx:=⟨hP.rows h.head h.lV h.fx.row (by decide) (by decide),h.fx.len,fun i g l hg hl=>by
  obtain ⟨h1,h2⟩:=h.fx.each i g l hg hl
  exact ⟨h1.old (hP.other h.head h.lV h1 (by decide) (by decide)),h2⟩⟩
 sat:=h.sat
 qu:=by
  have:=hP.rows h.head h.lV h.qu (by decide) (by decide)
  exact this
 zB:=rfl
 vR:=fun i r l hr _=>by simp at hr
 YH:=h.YH
 jw:=hP.rows h.head h.lV h.jw (by decide) (by decide)
 lV:=by
  unfold dE
  rw [bh,cQ]
  exact hP.row
 apart:=h.apart
theorem iY.ZB (h:iY W N mb c gs sets rs rows es ks sv tv ev kv) {Ij:ay} {nx:Nat} {s:aH} (hP:ow W W2 mb #[sv,tv,ev,kv] 153 0 sv Ij 151 gs.length (gs.map fun g=>ja g (c+1)) (ja nx (c+1))) (hN:N<=W.heap.size)
  (hx:bY W nx (flagsOf c s)) (hNx:N<=nx) (hev:ev.ownBlock≠some nx):iY W2 N mb c (gs++[nx]) (sets++[s]) rs rows es ks Ij tv ev kv where
 head:=hP.head
 past:=⟨h.past.1,hP.past h.past.2.1 hN,h.past.2.2.1,h.past.2.2.2.1,h.past.2.2.2.2⟩
 fx:=⟨by
  rw [bh,cQ]
  exact hP.row,by have:=h.fx.len; simp at this ⊢; exact this,fun i g l hg hl=>by
  have hlen:sets.length=gs.length:=by have:=h.fx.len; simpa using this
  by_cases hi:i < gs.length
  ·rw [dF hi] at hg
   rw [cQ,dF (by simp; omega)] at hl
   obtain ⟨h1,h2⟩:=h.fx.each i g l hg hl
   exact ⟨h1.old (hP.other h.head h.fx.row h1 (by decide) (by decide)),h2⟩
  ·have:=(List.getElem?_eq_some_iff.1 hg).1
   simp at this
   obtain rfl:i=gs.length:=by omega
   rw [eG] at hg
   rw [cQ,show gs.length=(sets.map (flagsOf c)).length by simp [hlen],List.map_cons,List.map_nil,eG] at hl
   cases hg
   cases hl
   exact ⟨hx.old (hP.other h.head h.fx.row hx (by decide) (by decide)),kW _ _⟩⟩
 sat:=fun g hg=>by
  rcases List.mem_append.1 hg with hg | hg
  ·exact h.sat g hg
  ·rw [iL] at hg; subst hg; exact hNx
 qu:=hP.rows h.head h.fx.row h.qu (by decide) (by decide)
 zB:=h.zB
 vR:=fun i r l hr hl=>by
  obtain ⟨h1,h2⟩:=h.vR i r l hr hl
  exact ⟨h1.old (hP.other h.head h.fx.row h1 (by decide) (by decide)),h2⟩
 YH:=h.YH
 jw:=hP.rows h.head h.fx.row h.jw (by decide) (by decide)
 lV:=hP.rows h.head h.fx.row h.lV (by decide) (by decide)
 apart:=fun g hg=>by
  rcases List.mem_append.1 hg with hg | hg
  ·exact h.apart g hg
  ·rw [iL] at hg; subst hg; exact hev
theorem iY.ZC (h:iY W N mb c gs sets rs rows es ks sv tv ev kv) {tv':ay} {rb:Nat} {r:List Int} (hP:ow W W2 mb #[sv,tv,ev,kv] 153 1 tv tv' 24 rs.length (rs.map fun r=>ki r ks.length) (ki rb ks.length)) (hN:N<=W.heap.size)
  (hx:eD W rb r) (hNx:N<=rb) (hr:r.length=ks.length):iY W2 N mb c gs sets (rs++[rb]) (rows++[r]) es ks sv tv' ev kv where
 head:=hP.head
 past:=⟨h.past.1,h.past.2.1,hP.past h.past.2.2.1 hN,h.past.2.2.2.1,h.past.2.2.2.2⟩
 fx:=⟨hP.rows h.head h.qu h.fx.row (by decide) (by decide),h.fx.len,fun i g l hg hl=>by
  obtain ⟨h1,h2⟩:=h.fx.each i g l hg hl
  exact ⟨h1.old (hP.other h.head h.qu h1 (by decide) (by decide)),h2⟩⟩
 sat:=h.sat
 qu:=by
  rw [bh,cQ]
  exact hP.row
 zB:=by simp [h.zB]
 vR:=fun i q l hq hl=>by
  by_cases hi:i < rs.length
  ·rw [dF hi] at hq
   rw [dF (by rw [h.zB]; exact hi)] at hl
   obtain ⟨h1,h2⟩:=h.vR i q l hq hl
   exact ⟨h1.old (hP.other h.head h.qu h1 (by decide) (by decide)),h2⟩
  ·have:=(List.getElem?_eq_some_iff.1 hq).1
   simp at this
   obtain rfl:i=rs.length:=by omega
   rw [eG] at hq
   rw [<- h.zB,eG] at hl
   cases hq
   cases hl
   exact ⟨hx.old (hP.other h.head h.qu hx (by decide) (by decide)),hr⟩
 YH:=fun g hg=>by
  rcases List.mem_append.1 hg with hg | hg
  ·exact h.YH g hg
  ·rw [iL] at hg; subst hg; exact hNx
 jw:=hP.rows h.head h.qu h.jw (by decide) (by decide)
 lV:=hP.rows h.head h.qu h.lV (by decide) (by decide)
 apart:=h.apart
theorem iY.ZE (h:iY W N mb c gs sets rs rows es ks sv tv ev kv) {ev':ay} {b:Bool} (hP:ow W W2 mb #[sv,tv,ev,kv] 153 2 ev ev' 4 es.length (es.map mz) (.bool b)) (hN:N<=W.heap.size):iY W2 N mb c gs sets rs rows (es++[b]) ks sv tv ev' kv where
 head:=hP.head
 past:=⟨h.past.1,h.past.2.1,h.past.2.2.1,hP.past h.past.2.2.2.1 hN,h.past.2.2.2.2⟩
 fx:=⟨hP.rows h.head h.jw h.fx.row (by decide) (by decide),h.fx.len,fun i g l hg hl=>by
  obtain ⟨h1,h2⟩:=h.fx.each i g l hg hl
  have hne:g≠mb:=fun e=>by
   subst e
   have:=(show W.heap[g]?=_ from h1).symm.trans h.head
   simp at this
  exact ⟨h1.old (hP.rest g h1.lt hne (h.apart g (aS hg))),h2⟩⟩
 sat:=h.sat
 qu:=hP.rows h.head h.jw h.qu (by decide) (by decide)
 zB:=h.zB
 vR:=fun i r l hr hl=>by
  obtain ⟨h1,h2⟩:=h.vR i r l hr hl
  exact ⟨h1.old (hP.other h.head h.jw h1 (by decide) (by decide)),h2⟩
 YH:=h.YH
 jw:=by
  rw [bh,cQ]
  exact hP.row
 lV:=hP.rows h.head h.jw h.lV (by decide) (by decide)
 apart:=fun g hg e=>by
  rcases hP.lies with k | ⟨q,k,hq⟩
  ·exact h.apart g hg (k ▸ e)
  ·rw [k] at e
   cases e
   have:=h.fx.lt hg
   omega
end
/-!### A row of the table, entry by entry. -/
structure qX (M:PM) (ks:List Nat) (sets:List aH) (S:aH) (X:Nat) (r:List Int):Prop where
 len:r.length=ks.length
 cell:∀ (k b:Nat),k < X->ks[k]?=some b -> ∃ z:Int,r[k]?=some z/\x8 M sets S b z
theorem qX.start(M:PM)(ks:List Nat)(sets:List aH)(S:aH):qX M ks sets S 0 (aQ ks.length 0):=⟨by simp,λk b h=>absurd h (iB _)⟩
theorem qX.mono{M:PM}{ks:List Nat}{sets dm:List aH}{S:aH}{X:Nat}{r:List Int}(h:qX M ks sets S X r)(hp:sets<+:dm):qX M ks dm S X r:=⟨h.len,λk b h1 h2=>by obtain⟨z,h3,h4⟩:=h.cell k b h1 h2;exact⟨z,h3,h4.mono hp⟩⟩
theorem qX.put{M:PM}{ks:List Nat}{sets:List aH}{S:aH}{X b:Nat}{r:List Int}{z:Int}(h:qX M ks sets S X r)(hb:ks[X]?=some b)(hz:x8 M sets S b z)(y:Int):qX M ks sets S (X+1) ((r.set X y).set X z):=by
 have hX:X<r.length:=by rw[h.len];exact(List.getElem?_eq_some_iff.1 hb).1
 refine⟨by simp[h.len],λk d hk hd=>?_⟩;by_cases hkx:k=X;·subst hkx;rw[hb]at hd;cases hd;exact⟨z,by simp[hX],hz⟩
 ·obtain⟨z',h3,h4⟩:=h.cell k d (by omega) hd;exact⟨z',by rw[dA (Ne.symm hkx),dA (Ne.symm hkx)];exact h3,h4⟩
theorem qX.alj{M:PM}{ks:List Nat}{sets:List aH}{S:aH}{X b:Nat}{r:List Int}{z:Int}(h:qX M ks sets S X r)(hb:ks[X]?=some b)(hz:x8 M sets S b z):qX M ks sets S (X+1) (r.set X z):=by have:=h.put hb hz z;rwa[UM]at this
theorem qX.row{M:PM}{ks:List Nat}{sets:List aH}{S:aH}{r:List Int}(h:qX M ks sets S ks.length r):X0 M ks sets S r:=⟨h.len,λk c hk=>h.cell k c (List.getElem?_eq_some_iff.1 hk).1 hk⟩
/-!### The next set, place by place. -/
structure oz (c:Nat) (T:aH) (k:Nat) (m:List Bool) (some:Bool):Prop where
 len:m.length=c+1
 bit:∀ j,j < c->(m.getD j false=true↔j < k/\T.mem j=true)
 last:m.getD c false=false
 some:some=true ↔ ∃ j,j < k/\T.mem j=true
theorem oz.start(c:Nat)(T:aH):oz c T 0 (aQ (c+1) false) false:=⟨by simp,λj hj=>by simp[aw,cu];split<;>simp,by simp[aw,cu],by simp⟩
theorem oz.skip{c:Nat}{T:aH}{k:Nat}{m:List Bool}{sm:Bool}(h:oz c T k m sm)(hk:T.mem k=false):oz c T (k+1) m sm:=⟨h.len,λj hj=>by
 rw[h.bit j hj];refine and_congr_left λhm=>?_;by_cases e:j=k;·rw[e,hk]at hm;cases hm
 ·omega,h.last,by
 rw[h.some];constructor;·exactλ⟨j,h1,h2⟩=>⟨j,by omega,h2⟩
 ·rintro⟨j,h1,h2⟩;by_cases e:j=k;·rw[e,hk]at h2;cases h2
  ·exact⟨j,by omega,h2⟩⟩
theorem oz.put{c:Nat}{T:aH}{k:Nat}{m:List Bool}{sm z:Bool}(h:oz c T k m sm)(hk:k<c)(hz:z=true↔T.mem k=true):oz c T (k+1) (m.set k z) (sm||z):=by
 have hl:=h.len;refine⟨by simp[h.len],λj hj=>?_,?_,?_⟩;·
  rw[tz _ _ _ _ (by omega)];by_cases e:j=k;·rw[if_pos e,hz,e];exact⟨λh=>⟨by omega,h⟩,λh=>h.2⟩
  ·rw[if_neg e,h.bit j hj];exact and_congr_left λ_=>by omega
 ·rw[tz _ _ _ _ (by omega),if_neg (by omega)];exact h.last
 ·rw[eU,h.some,hz];constructor;·
   rintro(⟨j,h1,h2⟩|h2);·exact⟨j,by omega,h2⟩
   ·exact⟨k,by omega,h2⟩
  ·rintro⟨j,h1,h2⟩;by_cases e:j=k;·exact .inr (e▸h2)
   ·exact .inl ⟨j,by omega,h2⟩
theorem oz.flags{x:bC}(hx:x.count<=128){S:aH}{b:UInt8}{m:List Bool}{sm:Bool}(h:oz x.count ((PM.compile x).step S b.toNat) x.count m sm):m=flagsOf x.count ((PM.compile x).step S b.toNat)/\(sm=true↔(PM.compile x).step S b.toNat≠aH.zero):=by refine⟨O0 h.len (λk hk=>(h.bit k hk).trans ⟨λh=>h.2,λh=>⟨hk,h⟩⟩) ?_,h.some.trans (Rp hx S b).symm⟩;rw[h.last];cases e:((PM.compile x).step S b.toNat).mem 128 with|false=>rfl|true=>exact absurd (Io hx S b 128 (by decide) e) (by omega)
/-!### What holds while the table is made. -/
def XZ(N mb c most:Nat)(W1:ak)(M:PM)(i:Nat)(W:ak):Prop:=∃gs sets rs rows sv tv ev kv,iY W N mb c gs sets rs rows ((sets.take i).map M.ends) M.kinds sv tv ev kv/\fY M M.kinds sets rows/\rows.length=i/\i<=sets.length/\sets.length<=most/\aI N W1 W
def XAt(N mb c most:Nat)(W1:ak)(M:PM)(i:Nat)(S:aH)(gs:List Nat)(sets:List aH)(rs:List Nat)(rows:List (List Int))(tv ev kv:ay)(rb:Nat)(X:Nat)(W:ak):Prop:=∃gs' dm Ij r,iY W N mb c gs' dm rs rows ((sets.take i).map M.ends) M.kinds Ij tv ev kv/\fY M M.kinds dm rows/\gs<+:gs'/\sets<+:dm/\dm.length<=most/\eD W rb r/\qX M M.kinds dm S X r/\aI N W1 W
def NAt(Wa:ak)(nx c:Nat)(T:aH)(k:Nat)(sm:Bool)(W:ak):Prop:=aI Wa.heap.size Wa W/\∃m,bY W nx m/\oz c T k m sm
structure aaZ (W:ak) (sb pb c:Nat) (ns fs:List Nat) (ha:Option Addr) (hcap:Nat) (fa:Option Addr) (aaN:Nat) (fv lv:ay) (qH:Bool):Prop where
 has:W.cell? ⟨sb,0,none⟩=some (.slice ha c hcap)
 Ak:W.cell? ⟨sb,1,none⟩=some (.slice fa c aaN)
 node:∀ (k m:Nat),ns[k]?=some m -> ∃ g,ha=some ⟨g,0,none⟩/\W.cell? ⟨g,k,none⟩=some (.pointer (some ⟨m,0,none⟩))
 row:∀ (k f:Nat),fs[k]?=some f -> ∃ g,fa=some ⟨g,0,none⟩/\W.cell? ⟨g,k,none⟩=some (.slice (some ⟨f,0,none⟩) c c)
 p0:W.cell? ⟨pb,0,none⟩=some fv
 p1:W.cell? ⟨pb,1,none⟩=some lv
 p2:W.cell? ⟨pb,2,none⟩=some (.bool qH)
theorem XA{sets:List aH}{i:Nat}{S:aH}{f:aH->Bool}(h:sets[i]?=some S):(sets.take (i+1)).map f=(sets.take i).map f++[f S]:=by rw[List.take_add_one,h];simp
structure AA (w0:ak) (x:bC) (sb pb:Nat) (fv lv:ay) (f l:List Nat) (ns fs:List Nat) (LL:List (List Bool)):Prop where
 sp:eA w0 sb x.count ns fs LL
 cl:qg w0 x ns
 fl:fs.length=x.count
 bits:∀ a b,jg LL a b=true↔x.xA 0 a b
 part:w0.heap[pb]?=some (.cells #[fv,lv,.bool x.qH] 144 (0,0))
 first:dE w0 fv f/\f.length<=x.count /\ ∀ k,k∈f↔x.fst 0 k
 last:dE w0 lv l/\l.length<=x.count /\ ∀ k,k∈l↔x.uh 0 k
theorem AA.below{w0 w1:ak}{x:bC}{sb pb:Nat}{fv lv:ay}{f l:List Nat}{ns fs:List Nat}{LL:List (List Bool)}(h:AA w0 x sb pb fv lv f l ns fs LL)(hb:aI w0.heap.size w0 w1):AA w1 x sb pb fv lv f l ns fs LL:=⟨h.sp.below hb,h.cl.below hb,h.fl,h.bits,(hb.block _ (lt_of_heap h.part)).trans h.part,⟨h.first.1.below hb,h.first.2⟩,⟨h.last.1.below hb,h.last.2⟩⟩
def BU(W:ak)(x:bC)(most mb:Nat):Prop:=∃N gs sets rs rows sv tv ev kv,iY W N mb x.count gs sets rs rows (sets.map (PM.compile x).ends) (PM.compile x).kinds sv tv ev kv/\fY (PM.compile x) (PM.compile x).kinds sets rows/\rows.length=sets.length/\sets.length<=most
def Fl(x:bC)(most:Nat)(w:ak)(e:rY)(w':ak):Prop:=aI w.heap.size w w'/\((e= .returned (.pointer none)/\(PM.compile x).wide most)\/∃mb,e= .returned (aP mb)/\w.heap.size<=mb/\BU w' x most mb)
theorem Tq{W:ak}{b c:Nat}(hc:c<=128)(h:bY W b (aQ (c+1) false)):bY (W.setCell (aD b c) (.bool true)) b (flagsOf c bN):=by
 have:=h.set c true;rw[LN c hc];have e:(aQ (c+1) false).set c true=aQ c false++[true]:=by simp[List.replicate_succ',List.set_append]
 rwa[e]at this
theorem NF(W:ak)(N c:Nat)(hW:W.heap.size=N+1)(hr:bY W N (flagsOf c bN)):iY ((W.alloc (.cells #[sL N (c+1) (c+1)] 151)).alloc (.cells #[sL (N+1) 1 1,.slice none 0 0,.slice none 0 0,.slice none 0 0] 153)) N (N+2) c [N] [bN] [] [] [] [] (sL (N+1) 1 1) (.slice none 0 0) (.slice none 0 0) (.slice none 0 0):=by
 have h0:∀o o':Obj,((W.alloc o).alloc o').heap[N]?=W.heap[N]?:=λo o'=>by rw[aC _ _ _ (by simp;omega),aC _ _ _ (by omega)]
 have h1:∀o o':Obj,((W.alloc o).alloc o').heap[N+1]?=some o:=λo o'=>by rw[<-hW];exact heap_alloc2_old W o o'
 have h2:∀o o':Obj,((W.alloc o).alloc o').heap[N+2]?=some o':=λo o'=>by have:=heap_alloc2_new W o o';rwa[hW]at this
 refine⟨h2 _ _,⟨by omega,λk e=>by simp[Value.ownBlock]at e;omega,λk e=>(by cases e),λk e=>(by cases e),λk e=>(by cases e)⟩,⟨⟨rfl,.inr ⟨_,1,_,rfl,aW _,h1 _ _,au _,by decide,rfl,rfl⟩⟩,rfl,λi g l hg hl=>?_⟩,λg hg=>by simp at hg;omega,bS _ _ _ _,rfl,λi r l hr=>by simp at hr,λr hr=>by simp at hr,bS _ _ _ _,bS _ _ _ _,λg _ e=>by cases e⟩;match i with|0=>cases hg;cases hl;exact⟨hr.old (h0 _ _),kW _ _⟩|i+1=>simp at hg
theorem Ee (x:bC) (hx:x.count<=128) (nb most:Nat) (hm1:1<=most) (hm2:most<=1000) (w:ak) (hN:bu w x nb) :
  aX ah 42 #[aP nb,iV (most:Int)] w (Fl x most w):=by
 obtain ⟨i0,hi,hz0,hz1,hz2⟩:=info_parts Tryz.Wj
 obtain ⟨j0,hj,hy0,hy1,hy2⟩:=info_parts Tryz.info3
 obtain ⟨l0,hl9,hl0,JU,hl2⟩:=info_parts Tryz.adt
 obtain ⟨b0,T9,hb0,Ai,yV⟩:=info_parts Tryz.abC
 have HN:=ae hN
 clear hN
 obtain ⟨c,hcc⟩:∃ c,c=x.count:=⟨_,rfl⟩
 have hc1:c<=128:=by omega
 have hmk:=yK (c+1) ((c:Int)+1) (by omega) (by omega)
 have HC:=ae hcc
 have HX:=ae hx
 clear hcc hx
 unfold aP
 go_enter Tryz.func42,Tryz.ntmps42
 go_upto_region 2 with (go_at_call 74; refine (NW x nb _ HN.out (by have:=HX.out; omega)).mono ?_; rintro e W0 ⟨sb,fv,lv,rfl,hb0,hP0⟩; obtain ⟨f9,hf9,_⟩:=hP0.first; obtain ⟨l9,ahQ,_⟩:=hP0.last; obtain ⟨va9,vc9,rfl⟩:=ownsRow_form hf9; obtain ⟨la9,lc9,rfl⟩:=ownsRow_form ahQ; have HP0:=ae (aA hb0 hP0); clear hb0 hP0 hf9 ahQ; unfold aP)
 generalize amJ:cY va9 f9.length vc9=fv at *
 generalize amf:cY la9 l9.length lc9=lv at *
 clear amJ amf
 obtain ⟨W1,hW1⟩:∃ W1,W1=W0.alloc (.cells #[fv,lv,.bool x.qH] 144):=⟨_,rfl⟩
 rw [<- hW1]
 obtain ⟨f,l,ns,fs,LL,LF⟩:∃ f l ns fs LL,AA W1 x sb W0.heap.size fv lv f l ns fs LL:=by
  obtain ⟨hb0,hP0⟩:=HP0.out
  have hb1:aI W0.heap.size W0 W1:=by rw [hW1]; exact (aB _ _).alloc (au _) _
  have hP1:=hP0.below hb1
  obtain ⟨f,hf⟩:=hP1.first
  obtain ⟨l,hl⟩:=hP1.last
  obtain ⟨ns,fs,LL,h1,h2,h3,h4⟩:=hP1.spread
  exact ⟨f,l,ns,fs,LL,h1,h2,h3,h4,by rw [hW1]; exact heap_alloc_new _ _,hf,hl⟩
 obtain ⟨pb,hpb⟩:∃ pb,pb=W0.heap.size:=⟨_,rfl⟩
 rw [<- hpb] at LF ⊢
 have jG:Hid (aI w.heap.size w W1):=ae (by
  obtain ⟨hb0,hP0⟩:=HP0.out
  rw [hW1]
  exact hb0.alloc hb0.size _)
 clear HP0 hW1 hpb
 obtain ⟨hv,ffv,e1,e2,e3⟩:=LF.sp.ex
 have hnc:ns.length=c:=by rw [LF.cl.1,HC.out]
 have hfc:fs.length=c:=by rw [LF.fl,HC.out]
 obtain ⟨ha,hcap,rfl⟩:=ownsRow_form e2
 obtain ⟨fa,aaN,rfl⟩:=ownsRow_form e3
 rw [hnc,hfc] at e1
 have c0:W1.cell? (aD sb 0)=some (.slice ha c hcap):=aq e1
 have hsc:∀ W,aI W1.heap.size W1 W->aaZ W sb pb c ns fs ha hcap fa aaN fv lv x.qH:=fun W h=>by
  have e1':=(h.block sb (lt_of_heap e1)).trans e1
  have e4':=(h.block pb (lt_of_heap LF.part)).trans LF.part
  have e2':=aO e2 fun k e=>h.block k (e2.lt k e).2
  have e3':=aO e3 fun k e=>h.block k (e3.lt k e).2
  refine ⟨aq e1',aq e1',fun k m hm=>?_,fun k m hm=>?_,aq e4',aq e4',aq e4'⟩
  ·obtain ⟨g,cap,e,hc⟩:=dh e2' (j:=k) (u:=aP m) (by rw [bp,hm]; rfl)
   simp only [bA] at e
   exact ⟨g,e.1,hc⟩
  ·obtain ⟨g,cap,e,hc⟩:=dh e3' (j:=k) (u:=ja m c) (by rw [bp,hm,HC.out]; rfl)
   simp only [bA] at e
   exact ⟨g,e.1,hc⟩
 have H1:=ae (aA hsc LF)
 clear e1 e2 e3 LF hfc hsc
 have HNC:=ae hnc
 clear hnc
 have q1:IntKind.i64.wrap ((c:Int)+1)=(c:Int)+1:=aK _ (by omega)
 have z0:(0:Int)<=(c:Int)/\(c:Int) < (c:Int)+1:=by omega
 obtain ⟨N,hN⟩:∃ N,N=W1.heap.size:=⟨_,rfl⟩
 go_upto_region 4 with fail
 obtain ⟨W1a,Xj⟩:∃ W1a,W1a=W1.alloc (.cells (madeCells #[.bool false] (c+1)) 4):=⟨_,rfl⟩
 rw [<- Xj,<- hN]
 have YJ:bY W1a N (aQ (c+1) false):=by rw [Xj,hN]; exact bY.made _ _
 have y0:=YJ.cell (i:=c) (by simp)
 have y1:=YJ.free c
 have YU:=ae (show _/\_/\_ from ⟨YJ,(by rw [Xj,bM,hN]:W1a.heap.size=N+1),(by rw [Xj]; exact (aB N W1).alloc (by omega) _:aI N W1 W1a)⟩)
 have Fx:=ae hN
 clear YJ Xj hN
 go_upto_region 5 with fail
 obtain ⟨W1b,Xi⟩:∃ W1b,W1b=W1a.setCell (aD N c) (.bool true):=⟨_,rfl⟩
 have WL:bY W1b N (flagsOf c bN):=by rw [Xi]; exact Tq hc1 YU.out.1
 have Sw:W1b.heap.size=N+1:=by rw [Xi,mr]; exact YU.out.2.1
 have Xf:aI N W1 W1b:=by
  rw [Xi]
  exact YU.out.2.2.setCell (au _) _
 rw [<- Xi]
 have HB9:=ae (show _/\_/\_ from ⟨WL,Sw,Xf⟩)
 clear y0 y1 Xi WL Sw Xf YU
 go_upto_region 6 with fail
 obtain ⟨WL,Sw,Xf⟩:=HB9.out
 rw [Sw]
 obtain ⟨W2,hW2⟩:∃ W2,W2=(W1b.alloc (.cells #[sL N (c+1) (c+1)] 151)).alloc (.cells #[sL (N+1) 1 1,.slice none 0 0,.slice none 0 0,.slice none 0 0] 153):=⟨_,rfl⟩
 rw [<- hW2]
 have hm2:iY W2 N (N+2) c [N] [bN] [] [] [] [] (sL (N+1) 1 1) (.slice none 0 0) (.slice none 0 0) (.slice none 0 0):=by
  rw [hW2]
  exact NF W1b N c Sw WL
 have hb2:aI N W1 W2:=by
  rw [hW2]
  exact (Xf.alloc (by omega) _).alloc (by simp; omega) _
 have MD:=ae (aA hm2 hb2)
 clear WL Sw Xf
 obtain ⟨mb,hmb⟩:∃ mb,mb=N+2:=⟨_,rfl⟩
 rw [<- hmb] at MD ⊢
 have rh:=ae (aA hmb Fx.out)
 clear hm2 hb2 hW2 hmb c0
 obtain ⟨M,hM⟩:∃ M,M=PM.compile x:=⟨_,rfl⟩
 have PN:=ae hM
 clear hM
 have YZ:Hid (∀ W,aI N W1 W->AA W x sb pb fv lv f l ns fs LL):=ae fun W h=>H1.out.2.below (rh.out.2 ▸ h)
 have HSC:=ae fun W h=>H1.out.1 W (rh.out.2 ▸ h)
 go_wp2_with fail
 go_loopw [10] (fun bv wr=>∃ b:Nat,b<=256/\bv = .int .i64 (b:Int)/\Hid (∃ kv,iY wr N mb c [N] [bN] [] [] [] (M.dD b) (sL (N+1) 1 1) (.slice none 0 0) (.slice none 0 0) kv/\aI N W1 wr)) (fun bv _=>256 - (intOf bv).toNat)
 case atStart=>exact ⟨0,aW _,rfl,ae ⟨_,MD.out.1,MD.out.2⟩⟩
 case round =>
  as_aux_lemma =>
  clear MD
  obtain ⟨b,hb,rfl,HI⟩:=hrel
  have q2:IntKind.i64.wrap ((b:Int)+1)=(b:Int)+1:=aK _ (by omega)
  by_cases hlb:b < 256
  ·have aub:(b:Int) < 256:=by omega
   obtain ⟨kv,hm,pY⟩:=HI.out
   obtain ⟨ka,kc,rfl⟩:=ownsRow_form hm.lV
   obtain ⟨ks,hks⟩:∃ ks,ks=M.dD b:=⟨_,rfl⟩
   rw [<- hks] at hm
   have hkl:ks.length<=256:=by have:=pW M b; rw [hks]; omega
   have c3:wr.cell? (aD mb 3)=some (.slice ka ks.length kc):=aq hm.head
   have hal:=Pz x sb x.count ns fs LL ks b _ wr (YZ.out _ pY).sp (YZ.out _ pY).cl (by have:=HX.out; omega) hm.lV (by omega) (fun d hd=>by rw [hks] at hd; have:=wI M b hd; omega) hlb
   have HAL:=ae hal
   have HK:=ae (show _/\_/\_ from ⟨hks,hm,pY⟩)
   clear hal hks hm pY HI
   unfold aP at HAL
   go_upto_region 10 with (go_at_call 75; refine HAL.out.mono ?_; rintro e W3 ⟨hs3,hr3⟩; obtain ⟨z,rfl,hz⟩:∃ z:Bool,e = .returned (.bool z)/\(z=true ↔ ∃ d∈ks,uQ x d b):=(by rcases hr3 with ⟨rfl,h⟩ | ⟨rfl,h⟩; exact ⟨true,rfl,fun _=>h,fun _=>rfl⟩; exact ⟨false,rfl,fun e=>(by cases e),fun e=>absurd e h⟩); have HZ:=ae (aA hs3 hz); clear hr3 hs3 hz)
   cases z with
   | true =>
    have Yl:Hid (∃ kv,iY W3 N mb c [N] [bN] [] [] [] (M.dD (b+1)) (sL (N+1) 1 1) (.slice none 0 0) (.slice none 0 0) kv/\aI N W1 W3):=ae (by
     obtain ⟨hs3,hz⟩:=HZ.out
     obtain ⟨hks,hm,pY⟩:=HK.out
     rw [PN.out,I2 HX.out hlb (by rw [<- PN.out,<- hks]; exact hz.1 rfl),<- PN.out,<- hks]
     exact ⟨_,hm.below (hs3.below _),pY.trans (hs3.below _)⟩)
    go_wp2_with fail
    exact ⟨⟨b+1,by omega,by go_num,Yl⟩,by simp [intOf]; omega⟩
   | false =>
    obtain ⟨hks,hm,pY⟩:=HK.out
    have ur:=hm.below (HZ.out.1.below _)
    have hb3:=pY.trans (HZ.out.1.below _)
    have c3':W3.cell? (aD mb 3)=some (.slice ka ks.length kc):=aq ur.head
    have hrow:=(show W3.ownsRow 0 3 1 (.slice ka ks.length kc) ks.length (ks.map cJ) from ur.lV).alloc (.cells #[iV (b:Int)] 3)
    have HK3:=ae (show _/\_/\_ from ⟨hks,ur,hb3⟩)
    have JU:(ks.map cJ).length=ks.length * 1:=by simp
    clear hks hm pY ur hb3 c3
    go_wp2_with (at_builtin; refine wpList_append_lies rfl _ _ 24 rfl 3 j0 (iV 0) 1 8 sP hj hy0 hy1 hy2 rfl (by decide) (.slice ka ks.length kc) ks.length (ks.map cJ) rfl hrow (aD W3.heap.size 0) 1 1 [iV (b:Int)] rfl rfl (cell_one_new W3 _ _) (by simp [dN]) (by decide) (by unfold maxLen; omega) (by omega) ?_; intro v5 W5 lN ng py; have hd5:=s8 HK3.out.2.1.head HK3.out.2.1.lV (by decide) (bL.append ng py); have HP5:=ae (pushed (i:=3) HK3.out.2.1.head HK3.out.2.1.lV (by decide) lN (bL.append ng py)); obtain ⟨g5,vd,rfl⟩:=bX lN; have y0:W5.cell? (aD mb 3)=some (.slice ka ks.length kc):=aq hd5; have y1:W5.frozen? (aD mb 3)=false:=aU hd5; clear hd5 lN ng py)
    refine ⟨⟨b+1,by omega,by go_num,ae ?_⟩,by simp [intOf]; omega⟩
    obtain ⟨hks,ur,hb3⟩:=HK3.out
    have hNs:N<=W3.heap.size:=by rw [rh.out.2]; exact hb3.size
    rw [PN.out,Ll HX.out hlb (by rw [<- PN.out,<- hks]; exact fun h=>by have:=HZ.out.2.2 h; cases this),<- PN.out,<- hks]
    exact ⟨_,ur.Vt HP5.out hNs,HP5.out.below N W1 hb3 ur.past.2.2.2.2 ur.past.1 hNs⟩
  ·have aaI:b=256:=by omega
   have SY:(b:Int)=256:=by omega
   rw [SY]
   have hst:Hid (XZ N mb c most W1 M 0 wr):=ae (by
    obtain ⟨kv,hm,pY⟩:=HI.out
    rw [aaI] at hm
    exact ⟨_,_,_,_,_,_,_,_,hm,fY.start M M.kinds,rfl,aW _,hm1,pY⟩)
   clear HI aaI SY q2 hlb hb
   go_wp2_with fail
   go_loopw [12] (fun iv wr=>∃ i:Nat,i<=most/\iv = .int .i64 (i:Int)/\Hid (XZ N mb c most W1 M i wr)) (fun iv _=>most - (intOf iv).toNat)
   case atStart=>exact ⟨0,aW _,rfl,hst⟩
   case round =>
    as_aux_lemma =>
    clear hst
    obtain ⟨i,him,rfl,HI⟩:=hrel
    have q3:IntKind.i64.wrap ((i:Int)+1)=(i:Int)+1:=aK _ (by omega)
    obtain ⟨gs,sets,rs,rows,sv,tv,ev,kv,hm,hT,hrl,hil,hsm,pY⟩:=HI.out
    obtain ⟨sa,sc,rfl⟩:=ownsRow_form hm.fx.row
    obtain ⟨ka,kc,rfl⟩:=ownsRow_form hm.lV
    have hgl:gs.length=sets.length:=by have:=hm.fx.len; simpa using this.symm
    have c0:wr.cell? (aD mb 0)=some (.slice sa gs.length sc):=aq hm.head
    have c3:wr.cell? (aD mb 3)=some (.slice ka M.kinds.length kc):=aq hm.head
    have hkl:M.kinds.length<=256:=pW M 256
    obtain ⟨K,hK⟩:∃ K,K=M.kinds.length:=⟨_,rfl⟩
    rw [<- hK] at c3 hkl
    have HK:=ae hK
    by_cases hlt:i < gs.length
    ·have z1:(0:Int)<=(i:Int)/\(i:Int) < (gs.length:Int):=by omega
     obtain ⟨gi,YN⟩:∃ gi,gs[i]?=some gi:=⟨_,ar hlt⟩
     obtain ⟨S,hS⟩:∃ S,sets[i]?=some S:=⟨_,ar (by omega)⟩
     obtain ⟨sg,sk,esa,cg⟩:=dh hm.fx.row (j:=i) (u:=ja gi (c+1)) (by rw [bp,YN]; rfl)
     simp only [bA,true_and] at esa
     obtain ⟨rfl,rfl⟩:=esa
     have cg':wr.cell? (aD sg i)=some (sL gi (c+1) (c+1)):=cg
     have amc:=GY K (K:Int) rfl (by omega)
     obtain ⟨W3,hW3⟩:∃ W3,W3=wr.alloc (.cells (madeCells #[iV 0] K) 3):=⟨_,rfl⟩
     obtain ⟨rb,rN⟩:∃ rb,rb=wr.heap.size:=⟨_,rfl⟩
     have Ub:N<=wr.heap.size:=by rw [rh.out.2]; exact pY.size
     have hb3:aI wr.heap.size wr W3:=by rw [hW3]; exact (aB _ _).alloc (au _) _
     have hr3:eD W3 rb (aQ K 0):=by rw [hW3,rN]; exact eD.made _ _
     have hx3:Hid (XAt N mb c most W1 M i S gs sets rs rows tv ev (.slice ka M.kinds.length kc) rb 0 W3):=ae
      ⟨gs,sets,_,_,hm.below hb3,hT,tS _,tS _,hsm,hr3,by rw [hK]; exact qX.start _ _ _ _,pY.trans (hb3.mono Ub)⟩
     have Sy:rb ∉ rs/\(cY ka M.kinds.length kc).ownBlock≠some rb/\N<=rb:=by
      refine ⟨fun h=>?_,fun h=>?_,by omega⟩
      ·obtain ⟨l,hl⟩:=hm.alh h
       have:=hl.lt
       omega
      ·have:=(hm.lV.lt rb h).2
       omega
     have HR:=ae (show _/\_/\_/\_/\_/\_/\_/\_ from ⟨Sy,hT,hrl,hil,hsm,hgl,YN,hS⟩)
     clear hm hT hrl hil hsm pY hgl YN hS cg Ub hb3 hr3 Sy HI hK
     go_upto_region 17 with fail
     rw [<- hW3,<- rN]
     clear hW3 rN c0 c3 cg'
     go_wp2_with fail
     go_loopw [15] (fun xv wr=>∃ X:Nat,X<=K/\xv = .int .i64 (X:Int)/\Hid (XAt N mb c most W1 M i S gs sets rs rows tv ev (.slice ka M.kinds.length kc) rb X wr)) (fun xv _=>K - (intOf xv).toNat)
     case atStart=>exact ⟨0,aW _,rfl,hx3⟩
     case round =>
      as_aux_lemma =>
      clear hx3
      obtain ⟨X,hXK,rfl,HX3⟩:=hrel
      have q4:IntKind.i64.wrap ((X:Int)+1)=(X:Int)+1:=aK _ (by omega)
      obtain ⟨gs',dm,Ij,r,hm,hT,Lu,hps,hsm,hr,hrt,pY⟩:=HX3.out
      have c3:wr.cell? (aD mb 3)=some (.slice ka K kc):=by rw [HK.out]; exact aq hm.head
      have Ub:N<=wr.heap.size:=by rw [rh.out.2]; exact pY.size
      have BB:gs'.length=dm.length:=by have:=hm.fx.len; simpa using this.symm
      have SD:=jd Lu HR.out.2.2.2.2.2.2.1
      have Qq:=jd hps HR.out.2.2.2.2.2.2.2
      obtain ⟨hat,_⟩:=hm.fx.each i gi (flagsOf c S) SD (by rw [bp,Qq]; rfl)
      have Di:=hT.reach S (aS Qq)
      by_cases hlX:X < K
      ·have z2:(0:Int)<=(X:Int)/\(X:Int) < (K:Int):=by omega
       obtain ⟨b,hb⟩:∃ b,M.kinds[X]?=some b:=⟨_,ar (by rw [<- HK.out]; exact hlX)⟩
       have ER:=wI M 256 (aS hb)
       have z3:(0:Int)<=(b:Int)/\(b:Int) < 256:=by omega
       obtain ⟨kg,kk,eka,ckb⟩:=dh hm.lV (j:=X) (u:=cJ b) (by rw [bp,hb]; rfl)
       simp only [bA,true_and] at eka
       obtain ⟨rfl,rfl⟩:=eka
       have anC:wr.cell? (aD kg X)=some (iV (b:Int)):=ckb
       obtain ⟨T,Jf⟩:∃ T,T=M.step S b:=⟨_,rfl⟩
       obtain ⟨Wa,hWa⟩:∃ Wa,Wa=wr:=⟨_,rfl⟩
       obtain ⟨nx,hnx⟩:∃ nx,nx=wr.heap.size:=⟨_,rfl⟩
       obtain ⟨W4,tM⟩:∃ W4,W4=wr.alloc (.cells (madeCells #[.bool false] (c+1)) 4):=⟨_,rfl⟩
       have YK:Hid (NAt Wa nx c T 0 false W4):=ae (by
        rw [tM,hWa,hnx]
        exact ⟨(aB _ _).alloc (au _) _,_,bY.made _ _,oz.start _ _⟩)
       have WQ:nx=Wa.heap.size:=by rw [hWa]; exact hnx
       rw [<- hWa] at hm hr pY hat Ub
       have HXA:=ae (show _/\_/\_/\_/\_/\_/\_/\_/\_/\_/\_/\_/\_/\_/\_ from ⟨hm,hT,Lu,hps,hsm,hr,hrt,pY,hb,WQ,hat,Ub,BB,Di,Jf⟩)
       clear hm hT Lu hps hsm hr hrt pY hb WQ hat Ub BB Di Jf SD Qq ckb HX3 hWa
       go_upto_region 22 with fail
       rw [<- tM,<- hnx]
       clear tM hnx anC c3
       go_wp2_with fail
       go_loopw [18,19] (fun sv kv wr=>∃ (k:Nat) (sm:Bool),k<=c/\sv = .bool sm/\kv = .int .i64 (k:Int)/\Hid (NAt Wa nx c T k sm wr)) (fun _ kv _=>c - (intOf kv).toNat)
       case atStart=>exact ⟨0,false,aW _,rfl,rfl,YK⟩
       case round =>
        as_aux_lemma =>
        clear YK
        obtain ⟨k,sm,hkc,rfl,rfl,Uj⟩:=hrel
        have q5:IntKind.i64.wrap ((k:Int)+1)=(k:Int)+1:=aK _ (by omega)
        obtain ⟨Hg,m,hmr,hnt⟩:=Uj.out
        obtain ⟨hm,hT,Lu,hps,hsm,hr,hrt,pY,hb,WQ,hat,Ub,BB,Di,Jf⟩:=HXA.out
        have hbk:aI N W1 wr:=pY.trans (Hg.mono Ub)
        by_cases hlk:k < c
        ·have z4:(0:Int)<=(k:Int)/\(k:Int) < (c:Int):=by omega
         have z5:(0:Int)<=(k:Int)/\(k:Int) < (c:Int)+1:=by omega
         have hsp:=HSC.out wr hbk
         have hct:=YZ.out wr hbk
         obtain ⟨mk,adW⟩:∃ mk,ns[k]?=some mk:=⟨_,ar (by rw [HNC.out]; exact hlk)⟩
         obtain ⟨hg,rfl,cm⟩:=hsp.node k mk adW
         have d0:=hsp.has
         obtain ⟨hs,EL,rP⟩:=hct.cl.2 k mk adW
         have df:=EL.flag (c:=b) ER
         have hbb:=rP (cS b)
         rw [ofNat_toNat ER] at hbb
         have hstep:=Kn HX.out S (cS b) k (by omega)
         rw [ofNat_toNat ER,<- PN.out,<- Jf,<- hbb] at hstep
         obtain ⟨xv,hxv⟩:∃ xv,xv=hs.getD b false:=⟨_,rfl⟩
         rw [<- hxv] at df hstep
         have aiG:=hat.below Hg
         have HA:=ae (show _/\_/\_/\_ from ⟨Hg,hmr,hnt,hstep⟩)
         have HB:=ae (show _/\_/\_ from ⟨hbk,hct,aiG⟩)
         clear hxv hbb EL rP hbk Hg hmr hnt hstep hm hT Lu hps hsm hr hrt pY hb WQ hat Ub BB Di Jf adW aiG hct Uj
         cases xv with
         | false =>
          have HN5:Hid (NAt Wa nx c T (k+1) sm wr):=ae ⟨HA.out.1,m,HA.out.2.1,HA.out.2.2.1.skip (by
           cases e:T.mem k with
           | false=>rfl
           | true=>have:=(HA.out.2.2.2.1 e).1; cases this)⟩
          clear hsp
          go_wp2_with fail
          exact ⟨⟨k+1,sm,by omega,rfl,by go_num,HN5⟩,by simp [intOf]; omega⟩
         | true =>
          have ca:wr.cell? (aD gi c)=some (.bool (S.mem 128)):=by
           have:=HB.out.2.2.cell (i:=c) (by rw [kW]; omega)
           rwa [nr] at this
          have z6:(0:Int)<=(c:Int)/\(c:Int) < (c:Int)+1:=by omega
          obtain ⟨av,hav⟩:∃ av,av=S.mem 128:=⟨_,rfl⟩
          rw [<- hav] at ca
          have HAV:=ae hav
          clear hav
          have avj:=hsp.Ak
          have HST:Hid (T.mem k=true↔(S.mem 128=true/\x.fst 0 k) \/ ∃ j,j < x.count/\S.mem j=true/\x.xA 0 j k):=ae (by rw [HA.out.2.2.2]; simp)
          have dp0:=hsp.p0
          have YT:=ae hsp
          have BX:=ae (show nx=Wa.heap.size from HXA.out.2.2.2.2.2.2.2.2.2.1)
          clear hsp
          cases av
          case' false =>
           have Uk:Hid (false=true↔S.mem 128=true/\x.fst 0 k):=ae (by rw [<- HAV.out]; simp)
           go_upto_region 30 with fail
           obtain ⟨Wk,hWk⟩:∃ Wk,Wk=wr:=⟨_,rfl⟩
           have HSK:Hid (Same wr Wk):=ae (by rw [hWk]; exact Same.refl _)
           rw [<- hWk]
           clear hWk
          case' true =>
           obtain ⟨va,vc,ZZ⟩:=ownsRow_form HB.out.2.1.first.1
           rw [ZZ] at dp0
           have ham:=Hs f k (.slice va f.length vc) wr (by have:=HB.out.2.1.first.1; rwa [ZZ] at this) (by have:=HB.out.2.1.first.2.1; have:=HX.out; omega)
           have HAM:=ae ham
           have HVF:=ae ZZ
           clear ham ZZ
           go_upto_region 30 with (go_at_call 76; refine HAM.out.mono ?_; rintro e Wk ⟨rfl,hsk⟩; have HSK:=ae hsk; clear hsk; have hin:(decide (k∈f)=true↔S.mem 128=true/\x.fst 0 k):=(by rw [decide_eq_true_iff,HB.out.2.1.first.2.2 k,<- HAV.out]; simp); generalize decide (k∈f)=in0 at *; have Uk:=ae hin; clear hin)
          all_goals (
           clear HAV ca dp0
           go_wp2_with fail
           go_loopw [20,21] (fun inv jv wy=>∃ (j:Nat) (YI:Bool),j<=c/\inv = .bool YI/\jv = .int .i64 (j:Int)/\Hid (YI=true↔(S.mem 128=true/\x.fst 0 k) \/ ∃ a,a < j/\S.mem a=true/\x.xA 0 a k)/\Hid (Same Wk wy)) (fun _ jv _=>c - (intOf jv).toNat)
           case atStart=>exact ⟨0,_,aW _,rfl,rfl,ae (by rw [Uk.out]; simp),ae (Same.refl _)⟩
           case round =>
            as_aux_lemma =>
            obtain ⟨j,YI,hjc,rfl,rfl,Ym,Ug⟩:=hrel
            have q6:IntKind.i64.wrap ((j:Int)+1)=(j:Int)+1:=aK _ (by omega)
            have hsj:=HSK.out.trans Ug.out
            by_cases hgo:j < c/\YI=false
            ·obtain ⟨hlj,rfl⟩:=hgo
             have z7:(0:Int)<=(j:Int)/\(j:Int) < (c:Int):=by omega
             have z8:(0:Int)<=(j:Int)/\(j:Int) < (c:Int)+1:=by omega
             have cj:wr.cell? (aD gi j)=some (.bool (S.mem j)):=by
              have:=(hsj.cell (aD gi j)).trans (HB.out.2.2.cell (i:=j) (by rw [kW]; omega))
              rwa [qU _ _ hlj] at this
             obtain ⟨sj,WC⟩:∃ sj,sj=S.mem j:=⟨_,rfl⟩
             rw [<- WC] at cj
             cases sj with
             | false =>
              have Yl:Hid (false=true↔(S.mem 128=true/\x.fst 0 k) \/ ∃ a,a < j+1/\S.mem a=true/\x.xA 0 a k):=ae (by
               rw [Ym.out]
               refine or_congr_right ?_
               constructor
               ·rintro ⟨a,h1,h2⟩
                exact ⟨a,by omega,h2⟩
               ·rintro ⟨a,h1,h2,h3⟩
                by_cases e:a=j
                ·rw [e,<- WC] at h2; cases h2
                ·exact ⟨a,by omega,h2,h3⟩)
              clear hsj WC Ym
              go_wp2_with fail
              exact ⟨⟨j+1,false,by omega,rfl,by go_num,Yl,Ug⟩,by simp [intOf]; omega⟩
             | true =>
              obtain ⟨fb,hfb⟩:∃ fb,fs[j]?=some fb:=⟨_,ar (by rw [HB.out.2.1.fl,<- HC.out]; exact hlj)⟩
              obtain ⟨fg,hfa,cfj⟩:=YT.out.row j fb hfb
              have avt:=(hsj.cell _).trans cfj
              have ai1:=(hsj.cell _).trans YT.out.Ak
              rw [hfa] at ai1
              have hfj:LL[j]?=some (LL.getD j []):=by
               have hl:j < LL.length:=by rw [HB.out.2.1.sp.len]; exact (List.getElem?_eq_some_iff.1 hfb).1
               rw [aw,ar hl]
               rfl
              obtain ⟨hrow,hrl⟩:=HB.out.2.1.sp.row j fb _ hfb hfj
              have anF:wr.cell? (aD fb k)=some (.bool (jg LL j k)):=(hsj.cell _).trans (hrow.cell (i:=k) (by rw [hrl,<- HC.out]; exact hlk))
              obtain ⟨bv,hbv⟩:∃ bv,bv=jg LL j k:=⟨_,rfl⟩
              rw [<- hbv] at anF
              have Yl:Hid (bv=true↔(S.mem 128=true/\x.fst 0 k) \/ ∃ a,a < j+1/\S.mem a=true/\x.xA 0 a k):=ae (by
               rw [hbv,HB.out.2.1.bits j k]
               constructor
               ·exact fun h => .inr ⟨j,by omega,WC.symm,h⟩
               ·rintro (h | ⟨a,h1,h2,h3⟩)
                ·have:=Ym.out.2 (.inl h); cases this
                ·by_cases e:a=j
                 ·exact e ▸ h3
                 ·have:=Ym.out.2 (.inr ⟨a,by omega,h2,h3⟩); cases this)
              clear hsj WC Ym hrow hrl hfj hbv cfj hfb
              go_wp2_with fail
              exact ⟨⟨j+1,bv,by omega,rfl,by go_num,Yl,Ug⟩,by simp [intOf]; omega⟩
            ·have hcond:c=j\/(j < c/\YI=true):=by
              by_cases h:j < c
              ·refine .inr ⟨h,?_⟩
               cases YI with
               | true=>rfl
               | false=>exact absurd ⟨h,rfl⟩ hgo
              ·exact .inl (by omega)
             clear hgo
             rcases hcond with hcj | ⟨hlj,rfl⟩
             ·subst hcj
              have hend:YI=true↔T.mem k=true:=by
               rw [HST.out,Ym.out,HC.out]
              have I9:bY wr nx m:=HA.out.2.1.same hsj
              have k0:=I9.cell (i:=k) (by rw [HA.out.2.2.1.len]; omega)
              have k1:=I9.free k
              have HN5:Hid (NAt Wa nx c T (k+1) (sm || YI) (wr.setCell (aD nx k) (.bool YI))):=ae ⟨(HA.out.1.trans (hsj.below _)).setCell (by rw [BX.out]; exact au _) _,_,I9.set k YI,HA.out.2.2.1.put hlk hend⟩
              clear hend I9 hsj Ym Ug
              cases sm with
              | false =>
               go_wp2_with fail
               exact ⟨⟨k+1,_,by omega,rfl,by go_num,HN5⟩,by simp [intOf]; omega⟩
              | true =>
               go_wp2_with fail
               exact ⟨⟨k+1,true,by omega,rfl,by go_num,HN5⟩,by simp [intOf]; omega⟩
             ·have z7:(0:Int)<=(j:Int)/\(j:Int) < (c:Int):=by omega
              have hend:true=true↔T.mem k=true:=by
               rw [HST.out]
               refine ⟨fun _=>?_,fun _=>rfl⟩
               rcases Ym.out.1 rfl with h | ⟨a,h1,h2⟩
               ·exact .inl h
               ·exact .inr ⟨a,by rw [<- HC.out]; omega,h2⟩
              have I9:bY wr nx m:=HA.out.2.1.same hsj
              have k0:=I9.cell (i:=k) (by rw [HA.out.2.2.1.len]; omega)
              have k1:=I9.free k
              have HN5:Hid (NAt Wa nx c T (k+1) (sm || true) (wr.setCell (aD nx k) (.bool true))):=ae ⟨(HA.out.1.trans (hsj.below _)).setCell (by rw [BX.out]; exact au _) _,_,I9.set k true,HA.out.2.2.1.put hlk hend⟩
              clear hend I9 hsj Ym Ug
              cases sm with
              | false =>
               go_wp2_with fail
               exact ⟨⟨k+1,_,by omega,rfl,by go_num,HN5⟩,by simp [intOf]; omega⟩
              | true =>
               go_wp2_with fail
               exact ⟨⟨k+1,true,by omega,rfl,by go_num,HN5⟩,by simp [intOf]; omega⟩)
        ·obtain rfl:c=k:=by omega
         have hfl:=oz.flags (x:=x) HX.out (S:=S) (b:=cS b) (m:=m) (sm:=sm) (by rw [ofNat_toNat ER,<- HC.out,<- PN.out,<- Jf]; exact hnt)
         rw [ofNat_toNat ER,<- HC.out,<- PN.out,<- Jf] at hfl
         have hmW:=hm.below Hg
         have hrW:=hr.below Hg
         have hrl:r.length=K:=by rw [HK.out]; exact hrt.len
         have k0:=hrW.cell (i:=X) (by omega)
         have k1:=hrW.free X
         have aiJ:Inside x.count T:=by
          have:=Ck HX.out S (cS b)
          rwa [ofNat_toNat ER,<- PN.out,<- Jf] at this
         obtain ⟨W5,uM⟩:∃ W5,W5=wr.setCell (aD rb X) (iV (-1)):=⟨_,rfl⟩
         have BA:eD W5 rb (r.set X (-1)):=by rw [uM]; exact hrW.set X (-1)
         have nJ:=hmW.store (W':=W5) hrW HR.out.1.1 HR.out.1.2.1 fun q hq hne=>by rw [uM]; exact az _ _ _ q hne
         have hb5:aI N W1 W5:=by rw [uM]; exact hbk.setCell HR.out.1.2.2 _
         have WT:bY W5 nx m:=by
          rw [uM]
          refine hmr.old (az _ _ _ nx fun e=>?_)
          have:=hr.lt
          have e':nx=rb:=e
          omega
         have H5:=ae (show _/\_/\_/\_ from ⟨BA,nJ,hb5,WT⟩)
         have HF:=ae (show _/\_/\_/\_ from ⟨hfl.1,hfl.2,aiJ,hnt.len⟩)
         have hsx:Ij.ownBlock=Ij.ownBlock:=rfl
         obtain ⟨sa',sc',rfl⟩:=ownsRow_form hm.fx.row
         have YS:=ae (show _/\_/\_/\_/\_/\_/\_/\_/\_ from ⟨hT,Lu,hps,hsm,hrt,hb,BB,Di,Jf⟩)
         have hNx:N<=nx:=by omega
         have ah8:ev.ownBlock≠some nx:=fun e=>by have:=(hm.jw.lt nx e).2; omega
         have BX:=ae (aA hNx ah8)
         have amH:gs'.length<=1000:=by omega
         clear hm hT Lu hps hsm hr hrt pY hb WQ hat Ub BB Di Jf hfl hmW hrW hrl aiJ BA nJ hb5 WT Hg hmr hnt hbk hsx hNx ah8 Uj
         go_upto_region 37 with fail
         rw [<- uM]
         clear uM k0 k1
         cases sm with
         | false =>
          have HX5:Hid (XAt N mb c most W1 M i S gs sets rs rows tv ev (sL kg M.kinds.length kc) rb (X+1) W5):=ae (by
           obtain ⟨BA,nJ,hb5,WT⟩:=H5.out
           obtain ⟨hT,Lu,hps,hsm,hrt,hb,BB,Di,Jf⟩:=YS.out
           have hz:T=aH.zero:=by
            by_cases e:T=aH.zero
            ·exact e
            ·have:=HF.out.2.1.2 e; cases this
           exact ⟨_,_,_,_,nJ,hT,Lu,hps,hsm,BA,hrt.alj hb (.inl ⟨by rw [<- Jf]; exact hz,rfl⟩),hb5⟩)
          go_wp2_with fail
          exact ⟨⟨X+1,by omega,by go_num,HX5⟩,by simp [intOf]; omega⟩
         | true =>
          have JO:=ae (HF.out.2.1.1 rfl)
          have c0':W5.cell? (aD mb 0)=some (.slice sa' gs'.length sc'):=aq H5.out.2.1.head
          have ab9:=Xv (c+1) (by omega) gs' (by omega) (dm.map (flagsOf c)) (.slice sa' gs'.length sc') nx m W5 H5.out.2.1.fx H5.out.2.2.2 HF.out.2.2.2
          have acG:=ae ab9
          clear ab9
          unfold ja at acG
          go_upto_region 39 with (go_at_call 77; refine acG.out.mono ?_; rintro e W6 ⟨F9,Ga⟩; obtain ⟨z,rfl,hz⟩:∃ z:Int,e = .returned (iV z)/\((∃ id:Nat,z=(id:Int)/\(dm.map (flagsOf c))[id]?=some m)\/(z = -1/\m ∉ dm.map (flagsOf c))):=(by rcases Ga with ⟨id,rfl,h⟩ | ⟨rfl,h⟩; exact ⟨_,rfl,.inl ⟨id,rfl,h⟩⟩; exact ⟨_,rfl,.inr ⟨rfl,h⟩⟩); have HZ:=ae (aA F9 hz); clear Ga F9 hz)
          have Dg:=H5.out.2.1.below (HZ.out.1.below _)
          have Ga:=H5.out.1.same HZ.out.1
          have oY:aI N W1 W6:=H5.out.2.2.1.trans (HZ.out.1.below _)
          have hn6:=H5.out.2.2.2.same HZ.out.1
          have H6:=ae (show _/\_/\_/\_ from ⟨Dg,Ga,oY,hn6⟩)
          have Sz:X < (r.set X (-1)).length:=by rw [bW,YS.out.2.2.2.2.1.len,<- HK.out]; exact hlX
          have hne:T≠aH.zero:=JO.out
          rcases HZ.out.2 with ⟨idn,alu,hid⟩ | ⟨hzm,hno⟩
          ·have hT6:Hid (x8 M dm S b (idn:Int)):=ae (by
            obtain ⟨hT,Lu,hps,hsm,hrt,hb,BB,Di,Jf⟩:=YS.out
            rw [bp] at hid
            cases hs:dm[idn]? with
            | none=>rw [hs] at hid; cases hid
            | some s' =>
             rw [hs] at hid
             have e1:flagsOf c s'=m:=aJ hid
             have hin:Inside x.count s':=Od HX.out (PN.out ▸ hT.reach s' (aS hs))
             have e2:s'=T:=LO HX.out hin HF.out.2.2.1 (by rw [<- HC.out]; exact e1.trans HF.out.1)
             exact .inr ⟨by rw [<- Jf]; exact hne,idn,rfl,by rw [hs,e2,Jf]⟩)
           have g0:decide ((idn:Int) < 0)=false:=by simp
           have k0:=Ga.cell Sz
           have k1:=Ga.free X
           have HX6:Hid (XAt N mb c most W1 M i S gs sets rs rows tv ev (sL kg M.kinds.length kc) rb (X+1) (W6.setCell (aD rb X) (iV (idn:Int)))):=ae (by
            obtain ⟨hT,Lu,hps,hsm,hrt,hb,BB,Di,Jf⟩:=YS.out
            exact ⟨_,_,_,_,Dg.store Ga HR.out.1.1 HR.out.1.2.1 (fun q hq hne=>az _ _ _ q hne),hT,Lu,hps,hsm,Ga.set X _,hrt.put hb hT6.out (-1),oY.setCell HR.out.1.2.2 _⟩)
           clear Dg Ga oY hn6 Sz hne hid HZ
           subst alu
           go_wp2_with fail
           exact ⟨⟨X+1,by omega,by go_num,HX6⟩,by simp [intOf]; omega⟩
          ·have g0:decide ((-1:Int) < 0)=true:=by decide
           have avy:W6.cell? (aD mb 0)=some (.slice sa' gs'.length sc'):=aq Dg.head
           have xV:=Dg.fx.row.alloc (.cells #[ja nx (c+1)] 151)
           unfold ja at xV
           have hl6:((gs'.map fun g=>cY (some (aD g 0)) (c+1) (c+1))).length=gs'.length * 1:=by simp
           clear Dg Ga oY hn6 hne HZ
           have QT:=ae hno
           clear hno
           subst hzm
           go_upto_region 42 with (at_builtin; refine wpList_append_lies rfl _ _ 148 rfl 151 i0 (.slice none 0 0) 1 24 acS hi hz0 hz1 hz2 rfl (by decide) (.slice sa' gs'.length sc') gs'.length _ rfl xV (aD W6.heap.size 0) 1 1 [sL nx (c+1) (c+1)] rfl rfl (cell_one_new W6 _ _) (by simp [dN]) (by decide) (by unfold maxLen; omega) (by omega) ?_; intro v7 W7 mQ yT yS; have hd7:=s8 H6.out.1.head H6.out.1.fx.row (by decide) (bL.append yT yS); have HP7:=ae (pushed (i:=0) H6.out.1.head H6.out.1.fx.row (by decide) mQ (bL.append yT yS)); obtain ⟨g7,Mb,rfl⟩:=bX mQ; have y0:W7.cell? (aD mb 0)=some (.slice sa' gs'.length sc'):=aq hd7; have y1:W7.frozen? (aD mb 0)=false:=aU hd7; clear hd7 mQ yT yS)
           obtain ⟨W8,YP⟩:∃ W8,W8=W7.setCell (aD mb 0) (sL g7 (gs'.length+1) Mb):=⟨_,rfl⟩
           rw [<- YP] at HP7 ⊢
           have aeF:N<=W6.heap.size:=by rw [rh.out.2]; exact H6.out.2.2.1.size
           have Df:=H6.out.1.ZB HP7.out aeF (by
            have:=H6.out.2.2.2
            rwa [HF.out.1] at this) BX.out.1 BX.out.2
           have nK:aI N W1 W8:=HP7.out.below N W1 H6.out.2.2.1 H6.out.1.past.2.1 H6.out.1.past.1 aeF
           have MP:eD W8 rb (r.set X (-1)):=H6.out.2.1.old (HP7.out.other H6.out.1.head H6.out.1.fx.row H6.out.2.1 (by decide) (by decide))
           have c8:W8.cell? (aD mb 0)=some (sL g7 (gs'.length+1) Mb):=aq Df.head
           have hT8:Hid (fY M M.kinds (dm++[T]) rows):=ae (YS.out.1.push (fun h=>QT.out (by rw [HF.out.1]; exact List.mem_map.2 ⟨T,h,rfl⟩)) (by
            have:=sI.step S b YS.out.2.2.2.2.2.2.2.1 ER (by rw [<- YS.out.2.2.2.2.2.2.2.2]; exact JO.out)
            rwa [<- YS.out.2.2.2.2.2.2.2.2] at this))
           have H8:=ae (show _/\_/\_ from ⟨Df,nK,MP⟩)
           have k0:=MP.cell Sz
           have k1:=MP.free X
           clear Df nK MP YP y0 y1 xV hl6 aeF Sz
           by_cases ahp:most < gs'.length+1
           ·have g1:decide ((gs'.length:Int)+1 > (most:Int))=true:=by simp; omega
            have g2:decide ((most:Int) < (gs'.length:Int)+1)=true:=by simp; omega
            go_wp2_with fail
            go_ret
            refine ⟨jG.out.trans (H8.out.2.1.mono (by rw [rh.out.2]; exact jG.out.size)),.inl ⟨rfl,?_⟩⟩
            rw [<- PN.out]
            exact ⟨_,hT8.out.nodup,hT8.out.reach,by rw [bh,<- YS.out.2.2.2.2.2.2.1]; exact ahp⟩
           ·have g1:decide ((gs'.length:Int)+1 > (most:Int))=false:=by simp; omega
            have g2:decide ((most:Int) < (gs'.length:Int)+1)=false:=by simp; omega
            have HX5:Hid (XAt N mb c most W1 M i S gs sets rs rows tv ev (sL kg M.kinds.length kc) rb (X+1) (W8.setCell (aD rb X) (iV (gs'.length:Int)))):=ae (by
             obtain ⟨hT,Lu,hps,hsm,hrt,hb,BB,Di,Jf⟩:=YS.out
             exact ⟨_,_,_,_,H8.out.1.store H8.out.2.2 HR.out.1.1 HR.out.1.2.1 (fun q hq hne=>az _ _ _ q hne),hT8.out,Lu.trans (jm _ _),hps.trans (jm _ _),by rw [bh,<- BB]; show gs'.length+1<=most; omega,H8.out.2.2.set X _,(hrt.mono (jm _ _)).put hb (.inr ⟨by rw [<- Jf]; exact JO.out,gs'.length,rfl,by rw [BB,<- Jf,eG]⟩) (-1),H8.out.2.1.setCell HR.out.1.2.2 _⟩)
            go_wp2_with fail
            exact ⟨⟨X+1,by omega,by go_num,HX5⟩,by simp [intOf]; omega⟩
      ·obtain rfl:K=X:=by omega
       obtain ⟨Wq,hWq⟩:∃ Wq,Wq=wr:=⟨_,rfl⟩
       subst hWq
       have ca:Wq.cell? (aD gi c)=some (.bool (S.mem 128)):=by
        have:=hat.cell (i:=c) (by rw [kW]; omega)
        rwa [nr] at this
       have z6:(0:Int)<=(c:Int)/\(c:Int) < (c:Int)+1:=by omega
       have dp1:=(HSC.out Wq pY).p1
       have dp2:=(HSC.out Wq pY).p2
       have hct:=YZ.out Wq pY
       have WZ:=Jq HX.out (s:=S) (sI.ok (ot x HX.out) (o7 x HX.out) (PN.out ▸ Di)).1
       rw [<- PN.out] at WZ
       obtain ⟨av,hav⟩:∃ av,av=S.mem 128:=⟨_,rfl⟩
       rw [<- hav] at ca
       obtain ⟨ta,tc,rfl⟩:=ownsRow_form hm.qu
       obtain ⟨ea,ec,rfl⟩:=ownsRow_form hm.jw
       obtain ⟨la,lc,hlv⟩:=ownsRow_form hct.last.1
       rw [hlv] at dp1
       have HAV:=ae hav
       have HQ:=ae (show _/\_/\_/\_/\_/\_/\_/\_/\_/\_/\_/\_/\_ from ⟨hm,hT,Lu,hps,hsm,hr,hrt,pY,hat,Ub,hct,hlv,WZ⟩)
       have yc:=ae Qq
       clear hav hm hT Lu hps hsm hr hrt pY hat Ub hct hlv WZ BB SD Qq Di HX3
       cases av
       case' false =>
        have HEN:Hid (false=true↔S.mem 128=true/\x.qH=true):=ae (by rw [<- HAV.out]; simp)
        go_upto_region 46 with fail
       case' true =>
        have HEN:Hid (x.qH=true↔S.mem 128=true/\x.qH=true):=ae (by rw [<- HAV.out]; simp)
        go_upto_region 46 with fail
       all_goals (
        clear HAV ca dp2 c3
        go_wp2_with fail
        go_loopw [23,24] (fun ev9 kv9 wy=>∃ (k:Nat) (e1:Bool),k<=c/\ev9 = .bool e1/\kv9 = .int .i64 (k:Int)/\Hid (e1=true↔(S.mem 128=true/\x.qH=true) \/ ∃ a,a < k/\S.mem a=true/\x.uh 0 a)/\Hid (Same Wq wy)) (fun _ kv9 _=>c - (intOf kv9).toNat)
        case atStart=>exact ⟨0,_,aW _,rfl,rfl,ae (by rw [HEN.out]; simp),ae (Same.refl _)⟩
        case round =>
         as_aux_lemma =>
         obtain ⟨k,e1,hkc,rfl,rfl,HE1,HSq⟩:=hrel
         have q5:IntKind.i64.wrap ((k:Int)+1)=(k:Int)+1:=aK _ (by omega)
         by_cases hlk:k < c
         ·have z5:(0:Int)<=(k:Int)/\(k:Int) < (c:Int)+1:=by omega
          have ck:wr.cell? (aD gi k)=some (.bool (S.mem k)):=by
           have:=(HSq.out.cell (aD gi k)).trans (HQ.out.2.2.2.2.2.2.2.2.1.cell (i:=k) (by rw [kW]; omega))
           rwa [qU _ _ hlk] at this
          obtain ⟨sk',WB⟩:∃ sk',sk'=S.mem k:=⟨_,rfl⟩
          rw [<- WB] at ck
          cases sk' with
          | false =>
           have HE2:Hid (e1=true↔(S.mem 128=true/\x.qH=true) \/ ∃ a,a < k+1/\S.mem a=true/\x.uh 0 a):=ae (by
            rw [HE1.out]
            refine or_congr_right ?_
            constructor
            ·rintro ⟨a,h1,h2⟩
             exact ⟨a,by omega,h2⟩
            ·rintro ⟨a,h1,h2,h3⟩
             by_cases e:a=k
             ·rw [e,<- WB] at h2; cases h2
             ·exact ⟨a,by omega,h2,h3⟩)
           clear WB HE1
           go_wp2_with fail
           exact ⟨⟨k+1,e1,by omega,rfl,by go_num,HE2,HSq⟩,by simp [intOf]; omega⟩
          | true =>
           have ant:=(HSq.out.cell _).trans dp1
           have ham:=Hs l k (.slice la l.length lc) wr (by
            have:=HQ.out.2.2.2.2.2.2.2.2.2.2.1.last.1
            rw [HQ.out.2.2.2.2.2.2.2.2.2.2.2.1] at this
            exact this.below (HSq.out.below _)) (by have:=HQ.out.2.2.2.2.2.2.2.2.2.2.1.last.2.1; have:=HX.out; omega)
           have HAM:=ae ham
           have anZ:=ae WB
           clear ham WB
           go_upto_region 51 with (go_at_call 76; refine HAM.out.mono ?_; rintro e Wk ⟨rfl,hsk⟩; have HSK:=ae (HSq.out.trans hsk); clear hsk; have hin:(decide (k∈l)=true↔x.uh 0 k):=(by rw [decide_eq_true_iff,HQ.out.2.2.2.2.2.2.2.2.2.2.1.last.2.2 k]); generalize decide (k∈l)=in2 at *; have Uk:=ae hin; clear hin)
           have HE2:Hid ((e1 || in2)=true↔(S.mem 128=true/\x.qH=true) \/ ∃ a,a < k+1/\S.mem a=true/\x.uh 0 a):=ae (by
            rw [eU,HE1.out,Uk.out]
            constructor
            ·rintro ((h | ⟨a,h1,h2⟩) | h)
             ·exact .inl h
             ·exact .inr ⟨a,by omega,h2⟩
             ·exact .inr ⟨k,by omega,anZ.out.symm,h⟩
            ·rintro (h | ⟨a,h1,h2,h3⟩)
             ·exact .inl (.inl h)
             ·by_cases e:a=k
              ·exact .inr (e ▸ h3)
              ·exact .inl (.inr ⟨a,by omega,h2,h3⟩))
           clear HE1 Uk ant
           cases e1 with
           | false =>
            go_wp2_with fail
            exact ⟨⟨k+1,_,by omega,rfl,by go_num,HE2,HSK⟩,by simp [intOf]; omega⟩
           | true =>
            go_wp2_with fail
            exact ⟨⟨k+1,true,by omega,rfl,by go_num,HE2,HSK⟩,by simp [intOf]; omega⟩
         ·obtain rfl:c=k:=by omega
          have hend:M.ends S=e1:=by
           rw [jf,HQ.out.2.2.2.2.2.2.2.2.2.2.2.2,HE1.out,HC.out]
          have aop:=ae hend
          have hmr:=HQ.out.1.below (HSq.out.below _)
          have Sy:=HQ.out.2.2.2.2.2.1.same HSq.out
          have hbr:aI N W1 wr:=HQ.out.2.2.2.2.2.2.2.1.trans (HSq.out.below _)
          have hNr:N<=wr.heap.size:=by rw [rh.out.2]; exact hbr.size
          have c1:wr.cell? (aD mb 1)=some (.slice ta rs.length tc):=aq hmr.head
          have hrow:=hmr.qu.alloc (.cells #[ki rb K] 24)
          unfold ki at hrow
          rw [<- HK.out] at hrow
          have alW:rs.length<=1000:=by rw [<- hmr.zB,HR.out.2.2.1]; omega
          have alV:(rs.map fun r=>cY (some (aD r 0)) K K).length=rs.length * 1:=by simp
          have H7:=ae (show _/\_/\_/\_ from ⟨hmr,Sy,hbr,hNr⟩)
          clear hend hmr Sy hbr hNr HE1
          go_upto_region 53 with (at_builtin; refine wpList_append_lies rfl _ _ 88 rfl 24 l0 (.slice none 0 0) 1 24 Tryz.underlying88 hl9 hl0 JU hl2 rfl (by decide) (.slice ta rs.length tc) rs.length _ rfl hrow (aD wr.heap.size 0) 1 1 [sL rb K K] rfl rfl (cell_one_new wr _ _) (by simp [dN]) (by decide) (by unfold maxLen; omega) (by omega) ?_; intro v7 W7 mQ yT yS; have hd7:=s8 H7.out.1.head H7.out.1.qu (by decide) (bL.append yT yS); have HP7:=ae (pushed (i:=1) (u:=sL rb K K) H7.out.1.head H7.out.1.qu (by decide) (by rw [<- HK.out]; exact mQ) (bL.append yT yS)); obtain ⟨g7,Mb,rfl⟩:=bX mQ; have y0:W7.cell? (aD mb 1)=some (.slice ta rs.length tc):=aq hd7; have y1:W7.frozen? (aD mb 1)=false:=aU hd7; clear hd7 mQ yT yS)
          obtain ⟨W8,YP⟩:∃ W8,W8=W7.setCell (aD mb 1) (sL g7 (rs.length+1) Mb):=⟨_,rfl⟩
          rw [<- YP] at HP7 ⊢
          obtain ⟨hmr,Sy,hbr,hNr⟩:=H7.out
          have hP7:ow wr W8 mb #[Ij,.slice ta rs.length tc,.slice ea ((sets.take i).map M.ends).length ec,.slice ka M.kinds.length kc] 153 1 (.slice ta rs.length tc) (sL g7 (rs.length+1) Mb) 24 rs.length (rs.map fun r=>ki r M.kinds.length) (ki rb M.kinds.length):=by
           have:=HP7.out
           unfold ki
           rw [<- HK.out] at this ⊢
           exact this
          have Df:=hmr.ZC hP7 hNr Sy HR.out.1.2.2 HQ.out.2.2.2.2.2.2.1.len
          have nK:aI N W1 W8:=HP7.out.below N W1 hbr hmr.past.2.2.1 hmr.past.1 hNr
          have hN8:N<=W8.heap.size:=aZ hNr HP7.out.size
          clear YP y0 y1 hP7 hmr Sy hbr hNr hrow alW alV c1
          obtain ⟨E,hE⟩:∃ E,E=(sets.take i).map M.ends:=⟨_,rfl⟩
          rw [<- hE] at Df
          have hEl:E.length<=1000:=by rw [hE,List.length_map,List.length_take]; omega
          have c2:W8.cell? (aD mb 2)=some (.slice ea E.length ec):=aq Df.head
          have EJ:=Df.jw.alloc (.cells #[.bool e1] 4)
          have hem:(E.map mz).length=E.length * 1:=by simp
          have H8:=ae (show _/\_/\_/\_ from ⟨Df,nK,hN8,hE⟩)
          clear Df nK hN8 hE
          go_wp2_with (at_builtin; refine wpList_append_lies rfl _ _ 151 rfl 4 b0 (.bool false) 1 1 Tryz.underlying151 T9 hb0 Ai yV rfl (by decide) (.slice ea E.length ec) E.length _ rfl EJ (aD W8.heap.size 0) 1 1 [.bool e1] rfl rfl (cell_one_new W8 _ _) (by simp [dN]) (by decide) (by unfold maxLen; omega) (by omega) ?_; intro v9 W9 Ac OJ OH; have hd9:=s8 H8.out.1.head H8.out.1.jw (by decide) (bL.append OJ OH); have HP9:=ae (pushed (i:=2) H8.out.1.head H8.out.1.jw (by decide) Ac (bL.append OJ OH)); obtain ⟨g9,anG,rfl⟩:=bX Ac; have y2:W9.cell? (aD mb 2)=some (.slice ea E.length ec):=aq hd9; have y3:W9.frozen? (aD mb 2)=false:=aU hd9; clear hd9 Ac OJ OH)
          have amt:i+1<=most:=by have:=HR.out.2.2.2.2.1; have:=HR.out.2.2.2.2.2.1; omega
          refine ⟨⟨i+1,amt,by go_num,ae ?_⟩,by simp [intOf]; omega⟩
          obtain ⟨Df,nK,hN8,hE⟩:=H8.out
          have hm9:=Df.ZE HP9.out hN8
          have am3:=HP9.out.below N W1 nK Df.past.2.2.2.1 Df.past.1 hN8
          obtain ⟨hT,Lu,hps,hsm,hrt⟩:_/\_/\_/\_/\_:=⟨HQ.out.2.1,HQ.out.2.2.1,HQ.out.2.2.2.1,HQ.out.2.2.2.2.1,HQ.out.2.2.2.2.2.2.1⟩
          have htk:dm.take i=sets.take i:=by
           obtain ⟨t,ht⟩:=hps
           rw [<- ht,List.take_append_of_le_length HR.out.2.2.2.1]
          have MR:(dm.take (i+1)).map M.ends=E++[e1]:=by
           rw [XA yc.out,hE,htk]
           exact congrArg (fun z=>List.map M.ends (List.take i sets)++[z]) aop.out
          rw [<- MR] at hm9
          have Ac:=hrt
          rw [HK.out] at Ac
          have hT9:=hT.KG (by rw [HR.out.2.2.1]; exact yc.out) Ac.row
          exact ⟨gs',dm,rs++[rb],rows++[r],_,_,_,_,hm9,hT9,by rw [bh,HR.out.2.2.1]; rfl,(List.getElem?_eq_some_iff.1 yc.out).1,hsm,am3⟩)
    ·have MR:i=sets.length:=by omega
     have an3:Hid (BU wr x most mb):=ae (by
      have hm':=hm
      rw [HC.out,MR,dH] at hm'
      rw [PN.out] at hm' hT
      exact ⟨N,gs,sets,rs,rows,_,_,_,_,hm',hT,by rw [hrl]; exact MR,hsm⟩)
     have Ul:Hid (aI w.heap.size w wr/\w.heap.size<=mb):=ae (by
      have h1:=jG.out.size
      rw [<- rh.out.2] at h1
      exact ⟨jG.out.trans (pY.mono (by rw [rh.out.2]; exact jG.out.size)),aZ h1 hm.past.1⟩)
     clear hm hT hsm pY HI hrl MR c3
     have z1:¬ ((i:Int) < (gs.length:Int)):=by omega
     go_wp2_with fail
     go_ret
     exact ⟨Ul.out.1,.inr ⟨mb,rfl,Ul.out.2,an3.out⟩⟩
def DG(w:ak)(R:kE)(e:rY)(w':ak):Prop:=aI w.heap.size w w'/\match R with| .fault i=>e= .returned (.tuple #[.pointer none,.int .i64 6,.int .i64 i])| .big=>e= .returned (.tuple #[.pointer none,.int .i64 9,.int .i64 0])| .ok x=>∃nb y,e= .returned (.tuple #[aP nb,.int .i64 0,.int .i64 0])/\bu w' y nb/\PM.compile y=PM.compile x/\y.count<=128/\∀t,y.rB t↔x.rB t
theorem RF(s:ByteArray)(hsl:s.size<=40)(w:ak):aX ah 71 #[.string s] w (DG w (qo s)):=by refine(U1 s (by omega) w).mono λe w' h=>?_;obtain⟨P,hP⟩:∃P,qo s=P:=⟨_,rfl⟩;rw[hP]at h⊢;refine⟨h.1,?_⟩;have h2:=h.2;cases P with|fault i=>exact h2|big=>exact h2.elim|ok x=>obtain⟨nb,h3,h4⟩:=h2;exact⟨nb,x,h3,h4,rfl,by have:=(D8 hP).2;omega,λ_=>Iff.rfl⟩
theorem Vs(s:ByteArray)(hsl:s.size<=40)(w:ak):aX ah 72 #[.string s] w (DG w (gD s)):=by refine(KV s (by omega) w).mono λe w' h=>?_;obtain⟨P,hP⟩:∃P,gD s=P:=⟨_,rfl⟩;rw[hP]at h⊢;refine⟨h.1,?_⟩;have h2:=h.2;cases P with|fault i=>exact h2|big=>exact h2|ok x=>obtain⟨nb,y,h3,h4,rfl,_⟩:=h2;obtain⟨_,_,_,hpl⟩:=Eu hP;refine⟨nb,y,h3,h4,(Jp y).symm,?_,λt=>(kx y t).symm⟩;rw[<-mJ,zM _ hpl];exact hpl
def wZ(w:ak)(k:Int)(a b:List UInt8)(n s0:Int)(st:Nat)(P:kE):Prop:=∀W,aI w.heap.size w W->aX ah 41 #[xD ⟨k,a,b,n,s0⟩,.int .i64 (st:Int)] W λe w'=>aI W.heap.size W w'/\match P with| .fault i=>e= .returned (.tuple #[.pointer none,.int .i64 6,.int .i64 (i:Int)])| .big=>e= .returned (.tuple #[.pointer none,.int .i64 9,.int .i64 0])| .ok x=>(e= .returned (.tuple #[.pointer none,.int .i64 9,.int .i64 0])/\(PM.compile x).wide st)\/(¬(PM.compile x).wide st/\∃nb y,e= .returned (.tuple #[aP nb,.int .i64 0,.int .i64 0])/\bu w' y nb/\PM.compile y=PM.compile x/\y.count<=128/\∀t,y.rB t↔x.rB t)
theorem GM{W:ak}{x:bC}{most mb:Nat}(h:BU W x most mb):¬(PM.compile x).wide most:=by obtain⟨N,gs,sets,rs,rows,sv,tv,ev,kv,hm,hT,hrl,hsm⟩:=h;exactλhw=>PM.GK ⟨sets,λs hs=>hT.all hrl hs,hsm⟩ hw
theorem Gn(a b:List UInt8)(n:Int)(s0:Int)(st:Nat)(w:ak)(ha:a.length<=40)(hst:1<=(st:Int)/\(st:Int)<=400):wZ w 4 a b n s0 st (qo ⟨a.toArray⟩):=by
 intro W hW;have hs:kR ⟨a.toArray⟩=a.length:=by simp[kR]
 have g1:decide ((40:Int)<(a.length:Int))=false:=decide_eq_false (by omega);obtain⟨P,hP⟩:∃P,qo ⟨a.toArray⟩=P:=⟨_,rfl⟩;obtain⟨W1,hW1⟩:∃W1,W1=(W.alloc (.cells #[iV 4,.string ⟨a.toArray⟩,.string ⟨b.toArray⟩,iV n] 34)).alloc (.cells jl 138):=⟨_,rfl⟩;have hq0:=heap_alloc_new W (.cells #[iV 4,.string ⟨a.toArray⟩,.string ⟨b.toArray⟩,iV n] 34);have hb0:aI W.heap.size W (W.alloc (.cells #[iV 4,.string ⟨a.toArray⟩,.string ⟨b.toArray⟩,iV n] 34)):=(aB _ W).alloc (au _) _;have Ai:aI (W.heap.size+1) (W.alloc (.cells #[iV 4,.string ⟨a.toArray⟩,.string ⟨b.toArray⟩,iV n] 34)) W1:=by rw[hW1];exact(aB _ _).alloc (by rw[bM];exact au _) _
 have jG:=ae (show aI W.heap.size W W1 from hb0.trans (Ai.mono (uU _)));have TD:=ae (show W1.heap[W.heap.size]?=some (.cells #[iV 4,.string ⟨a.toArray⟩,.string ⟨b.toArray⟩,iV n] 34 (0,0))from(Ai.block _ (rq _)).trans hq0);have hrd:=RF ⟨a.toArray⟩ (by omega) W1;unfold DG at hrd;rw[hP]at hrd⊢;have tH:=ae hW1;have HST:=ae hst;have hsm:(1:Int)<=(st:Int)/\(st:Int)<=400:=hst;clear hP hW1 hq0 hb0 Ai hst;unfold xD dC;simp only;cases P with
  |fault i=>have MX:Hid (aX ah 71 #[.string ⟨a.toArray⟩] W1 λe w'=>aI W1.heap.size W1 w'/\e= .returned (.tuple #[.pointer none,iV 6,iV (i:Int)])):=ae hrd;clear hrd;refine DV (R:=λe w'=>e= .returned (.tuple #[.pointer none,iV 6,iV (i:Int)])/\aI W.heap.size W w') ?_ λe w' h=>⟨h.2,h.1⟩;go_enter rp,pj;go_upto_region 8 with fail;rw[<-tH];clear tH;have c0:W1.cell? (aD W.heap.size 0)=some (iV 4):=aq TD;have c1:W1.cell? (aD W.heap.size 1)=some (.string ⟨a.toArray⟩):=aq TD;go_wp2_with(go_at_call 71;refine MX.mono ?_;rintro e w2⟨hb2,rfl⟩;have kN:=ae hb2;clear hb2);go_ret3;exact⟨rfl,jG.trans (kN.mono jG.size)⟩|big=>have MX:Hid (aX ah 71 #[.string ⟨a.toArray⟩] W1 λe w'=>aI W1.heap.size W1 w'/\e= .returned (.tuple #[.pointer none,iV 9,iV 0])):=ae hrd;clear hrd;refine DV (R:=λe w'=>e= .returned (.tuple #[.pointer none,iV 9,iV 0])/\aI W.heap.size W w') ?_ λe w' h=>⟨h.2,h.1⟩;go_enter rp,pj;go_upto_region 8 with fail;rw[<-tH];clear tH;have c0:W1.cell? (aD W.heap.size 0)=some (iV 4):=aq TD;have c1:W1.cell? (aD W.heap.size 1)=some (.string ⟨a.toArray⟩):=aq TD;go_wp2_with(go_at_call 71;refine MX.mono ?_;rintro e w2⟨hb2,rfl⟩;have kN:=ae hb2;clear hb2);go_ret3;exact⟨rfl,jG.trans (kN.mono jG.size)⟩|ok x=>
   have MX:Hid (aX ah 71 #[.string ⟨a.toArray⟩] W1 λe w'=>aI W1.heap.size W1 w'/\∃nb y,e= .returned (.tuple #[aP nb,iV 0,iV 0])/\bu w' y nb/\PM.compile y=PM.compile x/\y.count<=128/\∀t,y.rB t↔x.rB t):=ae hrd;clear hrd;go_enter rp,pj;go_upto_region 8 with fail;rw[<-tH];clear tH;have c0:W1.cell? (aD W.heap.size 0)=some (iV 4):=aq TD;have c1:W1.cell? (aD W.heap.size 1)=some (.string ⟨a.toArray⟩):=aq TD;go_upto_region 21 with(go_at_call 71;refine MX.mono ?_;rintro e w2⟨hb2,nb,y,rfl,hN,hcm,LG,hlg⟩;have kN:=ae hb2;have HN:=ae (show _/\_/\_/\_ from⟨hN,hcm,LG,hlg⟩);clear hb2 hN hcm LG hlg c1;have c0':w2.cell? (aD W.heap.size 0)=some (iV 4):=(kN.cell (p:=(aD W.heap.size 0)) (lt_of_cell c0)).trans c0;clear c0);have EH:=Ee y HN.2.2.1 nb st (by omega) (by omega) w2 HN.1;unfold Fl aP at EH;have HSE:Hid _:=ae EH;clear EH;unfold aP;go_wp2_with(go_at_call 42;refine HSE.mono ?_;rintro e w3⟨hb3,⟨rfl,wK⟩|⟨mb,rfl,hmb,Z8⟩⟩);·have H3:=ae (aA hb3 wK);clear hb3 wK;go_wp2_with fail;go_ret3;refine⟨jG.trans ((kN.mono jG.size).trans (H3.1.mono (aZ jG.size kN.size))),.inl ⟨rfl,?_⟩⟩;rw[<-HN.2.1];exact H3.2
   ·have H3:=ae (aA hb3 Z8);clear hb3 Z8 hmb;go_wp2_with fail;go_ret3;refine⟨jG.trans ((kN.mono jG.size).trans (H3.1.mono (aZ jG.size kN.size))),.inr ⟨?_,nb,y,rfl,HN.1.below H3.1,HN.2⟩⟩;rw[<-HN.2.1];exact GM H3.2
theorem Ju(a b:List UInt8)(n:Int)(s0:Int)(st:Nat)(w:ak)(ha:a.length<=40)(hst:1<=(st:Int)/\(st:Int)<=400):wZ w 5 a b n s0 st (gD ⟨a.toArray⟩):=by
 intro W hW;have hs:kR ⟨a.toArray⟩=a.length:=by simp[kR]
 have g1:decide ((40:Int)<(a.length:Int))=false:=decide_eq_false (by omega);obtain⟨P,hP⟩:∃P,gD ⟨a.toArray⟩=P:=⟨_,rfl⟩;obtain⟨W1,hW1⟩:∃W1,W1=(W.alloc (.cells #[iV 5,.string ⟨a.toArray⟩,.string ⟨b.toArray⟩,iV n] 34)).alloc (.cells jl 138):=⟨_,rfl⟩;have hq0:=heap_alloc_new W (.cells #[iV 5,.string ⟨a.toArray⟩,.string ⟨b.toArray⟩,iV n] 34);have hb0:aI W.heap.size W (W.alloc (.cells #[iV 5,.string ⟨a.toArray⟩,.string ⟨b.toArray⟩,iV n] 34)):=(aB _ W).alloc (au _) _;have Ai:aI (W.heap.size+1) (W.alloc (.cells #[iV 5,.string ⟨a.toArray⟩,.string ⟨b.toArray⟩,iV n] 34)) W1:=by rw[hW1];exact(aB _ _).alloc (by rw[bM];exact au _) _
 have jG:=ae (show aI W.heap.size W W1 from hb0.trans (Ai.mono (uU _)));have TD:=ae (show W1.heap[W.heap.size]?=some (.cells #[iV 5,.string ⟨a.toArray⟩,.string ⟨b.toArray⟩,iV n] 34 (0,0))from(Ai.block _ (rq _)).trans hq0);have hrd:=Vs ⟨a.toArray⟩ (by omega) W1;unfold DG at hrd;rw[hP]at hrd⊢;have tH:=ae hW1;have HST:=ae hst;have hsm:(1:Int)<=(st:Int)/\(st:Int)<=400:=hst;clear hP hW1 hq0 hb0 Ai hst;unfold xD dC;simp only;cases P with
  |fault i=>have MX:Hid (aX ah 72 #[.string ⟨a.toArray⟩] W1 λe w'=>aI W1.heap.size W1 w'/\e= .returned (.tuple #[.pointer none,iV 6,iV (i:Int)])):=ae hrd;clear hrd;refine DV (R:=λe w'=>e= .returned (.tuple #[.pointer none,iV 6,iV (i:Int)])/\aI W.heap.size W w') ?_ λe w' h=>⟨h.2,h.1⟩;go_enter rp,pj;go_upto_region 8 with fail;rw[<-tH];clear tH;have c0:W1.cell? (aD W.heap.size 0)=some (iV 5):=aq TD;have c1:W1.cell? (aD W.heap.size 1)=some (.string ⟨a.toArray⟩):=aq TD;go_wp2_with(go_at_call 72;refine MX.mono ?_;rintro e w2⟨hb2,rfl⟩;have kN:=ae hb2;clear hb2);go_ret3;exact⟨rfl,jG.trans (kN.mono jG.size)⟩|big=>have MX:Hid (aX ah 72 #[.string ⟨a.toArray⟩] W1 λe w'=>aI W1.heap.size W1 w'/\e= .returned (.tuple #[.pointer none,iV 9,iV 0])):=ae hrd;clear hrd;refine DV (R:=λe w'=>e= .returned (.tuple #[.pointer none,iV 9,iV 0])/\aI W.heap.size W w') ?_ λe w' h=>⟨h.2,h.1⟩;go_enter rp,pj;go_upto_region 8 with fail;rw[<-tH];clear tH;have c0:W1.cell? (aD W.heap.size 0)=some (iV 5):=aq TD;have c1:W1.cell? (aD W.heap.size 1)=some (.string ⟨a.toArray⟩):=aq TD;go_wp2_with(go_at_call 72;refine MX.mono ?_;rintro e w2⟨hb2,rfl⟩;have kN:=ae hb2;clear hb2);go_ret3;exact⟨rfl,jG.trans (kN.mono jG.size)⟩|ok x=>
   have MX:Hid (aX ah 72 #[.string ⟨a.toArray⟩] W1 λe w'=>aI W1.heap.size W1 w'/\∃nb y,e= .returned (.tuple #[aP nb,iV 0,iV 0])/\bu w' y nb/\PM.compile y=PM.compile x/\y.count<=128/\∀t,y.rB t↔x.rB t):=ae hrd;clear hrd;go_enter rp,pj;go_upto_region 8 with fail;rw[<-tH];clear tH;have c0:W1.cell? (aD W.heap.size 0)=some (iV 5):=aq TD;have c1:W1.cell? (aD W.heap.size 1)=some (.string ⟨a.toArray⟩):=aq TD;go_upto_region 21 with(go_at_call 72;refine MX.mono ?_;rintro e w2⟨hb2,nb,y,rfl,hN,hcm,LG,hlg⟩;have kN:=ae hb2;have HN:=ae (show _/\_/\_/\_ from⟨hN,hcm,LG,hlg⟩);clear hb2 hN hcm LG hlg c1;have c0':w2.cell? (aD W.heap.size 0)=some (iV 5):=(kN.cell (p:=(aD W.heap.size 0)) (lt_of_cell c0)).trans c0;clear c0);have EH:=Ee y HN.2.2.1 nb st (by omega) (by omega) w2 HN.1;unfold Fl aP at EH;have HSE:Hid _:=ae EH;clear EH;unfold aP;go_wp2_with(go_at_call 42;refine HSE.mono ?_;rintro e w3⟨hb3,⟨rfl,wK⟩|⟨mb,rfl,hmb,Z8⟩⟩);·have H3:=ae (aA hb3 wK);clear hb3 wK;go_wp2_with fail;go_ret3;refine⟨jG.trans ((kN.mono jG.size).trans (H3.1.mono (aZ jG.size kN.size))),.inl ⟨rfl,?_⟩⟩;rw[<-HN.2.1];exact H3.2
   ·have H3:=ae (aA hb3 Z8);clear hb3 Z8 hmb;go_wp2_with fail;go_ret3;refine⟨jG.trans ((kN.mono jG.size).trans (H3.1.mono (aZ jG.size kN.size))),.inr ⟨?_,nb,y,rfl,HN.1.below H3.1,HN.2⟩⟩;rw[<-HN.2.1];exact GM H3.2
theorem Jt(k:Nat)(a b:List UInt8)(n:Int)(s0 st:Int)(w:ak)(hk:1<=k/\k<=6)(ha:40<a.length):TN w ⟨(k:Int),a,b,n,s0⟩ st (.err 2 0):=by
 intro _ W hW;have ab8:∀e w',(e=Ending.returned (.tuple #[.pointer none,iV 2,iV 0])/\aI W.heap.size W w')->aI W.heap.size W w'/\(2:Int)≠0/\e= .returned (.tuple #[.pointer none,iV 2,iV 0]):=λe w' h=>⟨h.2,by decide,h.1⟩;refine DV ?_ ab8;clear ab8;unfold xD dC;simp only;have hk':k=1\/k=2\/k=3\/k=4\/k=5\/k=6:=by omega
 clear hk;rcases hk' with rfl|rfl|rfl|rfl|rfl|rfl;all_goals go_enter rp,pj;go_wp2_with fail;go_ret3;exact⟨rfl,(aB _ W).alloc (au _) _⟩
structure Tb where
 n:Nat
 K:Nat
 ld:Nat->Nat->Int
 en:Nat->Bool
structure Az (t:Tb) (M:PM) (sets:List aH) (rows:List (List Int)):Prop where
 n:sets.length=t.n
 K:M.kinds.length=t.K
 rl:rows.length=t.n
 ld:∀ i k,i < t.n->k < t.K -> ∃ r,rows[i]?=some r/\r[k]?=some (t.ld i k)
 lt:∀ i k,i < t.n->k < t.K->t.ld i k < t.n
 en:∀ i s,sets[i]?=some s->t.en i=M.ends s
section
variable{t:Tb}{M:PM}{sets:List aH}{rows:List (List Int)}
theorem Az.goes(h:Az t M sets rows){i k:Nat}(hi:i<t.n)(hk:k<t.K):goes rows i k=if 0<=t.ld i k then some (t.ld i k).toNat else none:=by obtain⟨r,h1,h2⟩:=h.ld i k hi hk;unfold Ts.goes;rw[h1];simp only[h2]
theorem Az.aaJ(h:Az t M sets rows)(hT:fY M M.kinds sets rows){i k j:Nat}(hg:Ts.goes rows i k=some j):i<t.n/\k<t.K:=by
 unfold Ts.goes at hg;split at hg;·cases hg
 ·rename_i r hr;split at hg;·cases hg
  ·rename_i z hz;have hi:=(List.getElem?_eq_some_iff.1 hr).1;have hk:=(List.getElem?_eq_some_iff.1 hz).1;rw[h.rl]at hi;have hs:sets[i]?=some (sets[i]'(by rw[h.n];exact hi)):=ar _;rw[(hT.row i r _ hr hs).len,h.K]at hk;exact⟨hi,hk⟩
def ui(t:Tb)(lv:Nat->Bool)(i:Nat):Prop:=t.en i=true\/∃k,k<t.K/\0<=t.ld i k/\lv (t.ld i k).toNat=true
theorem VU(h:Az t M sets rows)(hT:fY M M.kinds sets rows){lv:Nat->Bool}(h1:∀i,i<t.n->lv i=true->o9 M sets rows i)(h2:∀i,i<t.n->ui t lv i->lv i=true){i:Nat}(hi:i<t.n):lv i=true↔o9 M sets rows i:=by refine⟨h1 i hi,λhe=>?_⟩;induction he with
 |here i s hs he=>refine h2 i hi (.inl ?_);rw[h.en i s hs];exact he|on i k j hg _ ih=>
  obtain⟨hi',hk⟩:=h.aaJ hT hg;have e:=h.goes hi' hk;rw[hg]at e;split at e;·rename_i h0;have ej:j=(t.ld i k).toNat:=aJ e;have hl:=h.lt i k hi' hk;refine h2 i hi' (.inr ⟨k,hk,h0,?_⟩);rw[<-ej];exact ih (by omega)
  ·cases e
theorem VT(h:Az t M sets rows){lv:Nat->Bool}(h1:∀i,i<t.n->lv i=true->o9 M sets rows i){i:Nat}(hi:i<t.n)(hl:ui t lv i):o9 M sets rows i:=by
 rcases hl with he|⟨k,hk,h0,hlv⟩;·have hs:sets[i]?=some (sets[i]'(by rw[h.n];exact hi)):=ar _;exact .here i _ hs (by rw[<-h.en i _ hs];exact he)
 ·have hlt:=h.lt i k hi hk;refine .on i k (t.ld i k).toNat ?_ (h1 _ (by omega) hlv);rw[h.goes hi hk,if_pos h0]
def Pn(n:Nat)(lv:Nat->Bool)(B:Nat->Nat):List Nat:=(jL n).map λi=>if lv i then B i+1 else 0
theorem rQ(n:Nat)(lv:Nat->Bool)(B:Nat->Nat):(Pn n lv B).length=n:=by simp[Pn]
theorem iE{n:Nat}{lv:Nat->Bool}{B:Nat->Nat}{i:Nat}(hi:i<n):blk (Pn n lv B) i=if lv i then B i+1 else 0:=by unfold blk Pn;rw[aw,bp,List.getElem?_range hi];rfl
def MV(t:Tb)(lv:Nat->Bool)(B:Nat->Nat)(i k:Nat):Int:=if 0<=t.ld i k/\lv (t.ld i k).toNat=true then(B (t.ld i k).toNat:Int)else-1
theorem LW(h:Az t M sets rows){lv:Nat->Bool}{B:Nat->Nat}{i k:Nat}(hi:i<t.n)(hk:k<t.K):(dest rows (Pn t.n lv B) i k:Int)=MV t lv B i k+1:=by
 have hl:=h.lt i k hi hk;unfold dest MV;rw[h.goes hi hk];by_cases h0:0<=t.ld i k;·
  rw[if_pos h0];simp only;rw[iE (by omega)];by_cases hv:lv (t.ld i k).toNat=true;·rw[if_pos hv,if_pos ⟨h0,hv⟩];omega
  ·rw[if_neg hv,if_neg λe=>hv e.2];rfl
 ·rw[if_neg h0,if_neg λe=>h0 e.1];rfl
def xy(t:Tb)(lv:Nat->Bool)(B:Nat->Nat)(i j:Nat):Prop:=B i=B j/\∀k,k<t.K->MV t lv B i k=MV t lv B j k
theorem xy.symm{lv:Nat->Bool}{B:Nat->Nat}{i j:Nat}(h:xy t lv B i j):xy t lv B j i:=⟨h.1.symm,λk hk=>(h.2 k hk).symm⟩
theorem xy.trans{lv:Nat->Bool}{B:Nat->Nat}{i j l:Nat}(h:xy t lv B i j)(h2:xy t lv B j l):xy t lv B i l:=⟨h.1.trans h2.1,λk hk=>(h.2 k hk).trans (h2.2 k hk)⟩
structure qY (t:Tb) (lv:Nat->Bool) (B X:Nat->Nat) (i c:Nat):Prop where
 lt:∀ j,j < i->lv j=true->X j < c
 iff:∀ j k,j < i->k < i->lv j=true->lv k=true->(X j=X k↔xy t lv B j k)
 all:∀ x,x < c -> ∃ j,j < i/\lv j=true/\X j=x
theorem qY.start(t:Tb)(lv:Nat->Bool)(B X:Nat->Nat):qY t lv B X 0 0:=⟨λj hj=>absurd hj (by omega),λj k hj=>absurd hj (by omega),λx hx=>absurd hx (by omega)⟩
theorem qY.dead {lv:Nat->Bool} {B X X':Nat->Nat} {i c:Nat} (h:qY t lv B X i c) (hl:lv i=false) (he:∀ j,j < i->X' j=X j):qY t lv B X' (i+1) c where
 lt:=fun j hj hv=>by
  have:j≠i:=fun e=>by rw [e,hl] at hv; cases hv
  rw [he j (by omega)]
  exact h.lt j (by omega) hv
 iff:=fun j k hj hk hv hw=>by
  have h1:j≠i:=fun e=>by rw [e,hl] at hv; cases hv
  have h2:k≠i:=fun e=>by rw [e,hl] at hw; cases hw
  rw [he j (by omega),he k (by omega)]
  exact h.iff j k (by omega) (by omega) hv hw
 all:=fun x hx=>by
  obtain ⟨j,h1,h2,h3⟩:=h.all x hx
  exact ⟨j,by omega,h2,by rw [he j h1]; exact h3⟩
theorem qY.old {lv:Nat->Bool} {B X X':Nat->Nat} {i c j0:Nat} (h:qY t lv B X i c) (hl:lv i=true) (he:∀ j,j < i->X' j=X j) (hj:j0 < i) (hv0:lv j0=true) (hs:xy t lv B i j0) (hX:X' i=X j0):qY t lv B X' (i+1) c where
 lt:=fun j hj' hv=>by
  by_cases e:j=i
  ·rw [e,hX]
   exact h.lt j0 hj hv0
  ·rw [he j (by omega)]
   exact h.lt j (by omega) hv
 iff:=fun j k hj' hk hv hw=>by
  have key:∀ k,k < i->lv k=true->(X j0=X k↔xy t lv B i k):=fun k hk hw=>by
   rw [h.iff j0 k hj hk hv0 hw]
   exact ⟨fun e=>hs.trans e,fun e=>hs.symm.trans e⟩
  by_cases e1:j=i
  ·by_cases e2:k=i
   ·rw [e1,e2]
    exact ⟨fun _=>⟨rfl,fun _ _=>rfl⟩,fun _=>rfl⟩
   ·rw [e1,hX,he k (by omega)]
    exact key k (by omega) hw
  ·by_cases e2:k=i
   ·rw [e2,hX,he j (by omega)]
    exact ⟨fun e=>((key j (by omega) hv).1 e.symm).symm,fun e=>((key j (by omega) hv).2 e.symm).symm⟩
   ·rw [he j (by omega),he k (by omega)]
    exact h.iff j k (by omega) (by omega) hv hw
 all:=fun x hx=>by
  obtain ⟨j,h1,h2,h3⟩:=h.all x hx
  exact ⟨j,by omega,h2,by rw [he j h1]; exact h3⟩
theorem qY.new {lv:Nat->Bool} {B X X':Nat->Nat} {i c:Nat} (h:qY t lv B X i c) (hl:lv i=true) (he:∀ j,j < i->X' j=X j) (hs:∀ j,j < i->lv j=true -> ¬ xy t lv B i j) (hX:X' i=c):qY t lv B X' (i+1) (c+1) where
 lt:=fun j hj hv=>by
  by_cases e:j=i
  ·rw [e,hX]
   omega
  ·have:=h.lt j (by omega) hv
   rw [he j (by omega)]
   omega
 iff:=fun j k hj hk hv hw=>by
  by_cases e1:j=i
  ·by_cases e2:k=i
   ·rw [e1,e2]
    exact ⟨fun _=>⟨rfl,fun _ _=>rfl⟩,fun _=>rfl⟩
   ·have:=h.lt k (by omega) hw
    rw [e1,hX,he k (by omega)]
    exact ⟨fun e=>by omega,fun e=>absurd e (hs k (by omega) hw)⟩
  ·by_cases e2:k=i
   ·have:=h.lt j (by omega) hv
    rw [e2,hX,he j (by omega)]
    exact ⟨fun e=>by omega,fun e=>absurd e.symm (hs j (by omega) hv)⟩
   ·rw [he j (by omega),he k (by omega)]
    exact h.iff j k (by omega) (by omega) hv hw
 all:=fun x hx=>by
  by_cases e:x=c
  ·exact ⟨i,by omega,hl,by rw [hX,e]⟩
  ·obtain ⟨j,h1,h2,h3⟩:=h.all x (by omega)
   exact ⟨j,by omega,h2,by rw [he j h1]; exact h3⟩
theorem qY.cnt{lv:Nat->Bool}{B X:Nat->Nat}{c:Nat}(h:qY t lv B X t.n c):xd (Pn t.n lv X) c:=by
 refine⟨(jL c).map (·+1),?_,λx=>?_,by simp⟩;·rw[List.nodup_iff_pairwise_ne,List.pairwise_map];exact List.nodup_range.imp λhab e=>hab (by omega)
 ·rw[List.mem_map];constructor;·rintro⟨y,hy,rfl⟩;obtain⟨j,h1,h2,h3⟩:=h.all y (List.mem_range.1 hy);refine⟨j,by rw[rQ];exact h1,?_,by omega⟩;rw[iE h1,if_pos h2,h3]
  ·rintro⟨j,hj,he,h0⟩;rw[rQ]at hj;rw[iE hj]at he;split at he;·rename_i hv;exact⟨X j,List.mem_range.2 (h.lt j hj hv),he⟩
   ·exact absurd he.symm h0
theorem qY.le{lv:Nat->Bool}{B X:Nat->Nat}{i c:Nat}(h:qY t lv B X i c):c<=i:=by
 have hsub:∀x∈jL c,x∈(jL i).map X:=λx hx=>by obtain⟨j,h1,_,h3⟩:=h.all x (List.mem_range.1 hx);exact List.mem_map.2 ⟨j,List.mem_range.2 h1,h3⟩
 have:=s9 _ _ List.nodup_range hsub;simpa using this
theorem qY.splits (hT:Az t M sets rows) {lv:Nat->Bool} {B X:Nat->Nat} {c m:Nat} (h:qY t lv B X t.n c):Splits rows m t.K (Pn t.n lv B) (Pn t.n lv X) where
 len:=by rw [rQ,rQ]
 zero:=fun i hi=>by
  rw [rQ] at hi
  rw [iE hi,iE hi]
  split <;> simp
 iff:=fun i j hi hj h1 h2=>by
  rw [rQ] at hi hj
  rw [iE hi] at h1
  rw [iE hj] at h2
  have hv:lv i=true:=by
   cases e:lv i
   ·rw [e] at h1; exact absurd rfl h1
   ·rfl
  have hw:lv j=true:=by
   cases e:lv j
   ·rw [e] at h2; exact absurd rfl h2
   ·rfl
  rw [iE hi,iE hj,iE hi,iE hj,if_pos hv,if_pos hw,if_pos hv,if_pos hw]
  have e1:X i+1=X j+1↔X i=X j:=by omega
  have e2:B i+1=B j+1↔B i=B j:=by omega
  rw [e1,e2,h.iff i j hi hj hv hw]
  unfold xy
  refine and_congr_right fun _=>forall_congr' fun k=>forall_congr' fun hk=>?_
  have g1:=LW hT (lv:=lv) (B:=B) hi hk
  have g2:=LW hT (lv:=lv) (B:=B) hj hk
  constructor
  ·intro e
   rw [e,<- g2] at g1
   omega
  ·intro e
   rw [e] at g1
   omega
theorem Xu (h:Az t M sets rows) (hT:fY M M.kinds sets rows) {lv:Nat->Bool} {B:Nat->Nat} (hl:∀ i,i < t.n->(lv i=true↔o9 M sets rows i)) (hB:∀ i,i < t.n->B i=if t.en i then 1 else 0):ml M sets rows (Pn t.n lv B) where
 len:=by rw [rQ,h.n]
 live:=fun i hi=>by
  rw [h.n] at hi
  rw [iE hi,<- hl i hi]
  cases lv i <;> simp
 ends:=fun i j s u hs hu h0 he=>by
  have hi:i < t.n:=by rw [<- h.n]; exact (List.getElem?_eq_some_iff.1 hs).1
  have hj:j < t.n:=by rw [<- h.n]; exact (List.getElem?_eq_some_iff.1 hu).1
  rw [iE hi] at h0
  rw [iE hi,iE hj,hB i hi,hB j hj] at he
  rw [<- h.en i s hs,<- h.en j u hu]
  cases e1:lv i
  ·rw [e1] at h0; exact absurd rfl h0
  ·rw [e1] at he
   cases e2:lv j <;> rw [e2] at he <;> cases e3:t.en i <;> cases e4:t.en j <;> rw [e3,e4] at he <;> simp at he ⊢
 same:=fun i j s u hs hu h0 he=>by
  have hi:i < t.n:=by rw [<- h.n]; exact (List.getElem?_eq_some_iff.1 hs).1
  have hj:j < t.n:=by rw [<- h.n]; exact (List.getElem?_eq_some_iff.1 hu).1
  have hv:lv i=true:=by
   rw [iE hi] at h0
   cases e:lv i
   ·rw [e] at h0; exact absurd rfl h0
   ·rfl
  have hall:rows.length=sets.length:=by rw [h.rl,h.n]
  have hw:lv j=true:=by
   rw [hl j hj,oW hT hall hu]
   obtain ⟨x,hx⟩:=(oW hT hall hs).1 ((hl i hi).1 hv)
   exact ⟨x,by rw [<- he]; exact hx⟩
  have hen:t.en i=t.en j:=by
   rw [h.en i s hs,h.en j u hu]
   exact congrFun he []
  rw [iE hi,iE hj,if_pos hv,if_pos hw,hB i hi,hB j hj,hen]
def Fs(t:Tb)(M:PM)(sets:List aH)(rows:List (List Int))(lv:Nat->Bool)(B:Nat->Nat)(was:Nat):Prop:=ml M sets rows (Pn t.n lv B)/\(was≠0->xd (Pn t.n lv B) was)/\was<=t.n
theorem Fs.done(h:Az t M sets rows)(hT:fY M M.kinds sets rows){lv:Nat->Bool}{B X:Nat->Nat}{was:Nat}(hR:Fs t M sets rows lv B was)(hX:qY t lv B X t.n was):lM M was:=by
 have hall:rows.length=sets.length:=by rw[h.rl,h.n]
 have hS:Splits rows 0 M.kinds.length (Pn t.n lv B) (Pn t.n lv X):=by rw[h.K];exact hX.splits h
 refine ml.least hT hall hR.1 hS ?_ hX.cnt;by_cases h0:was=0;·
  subst h0;refine⟨[],UN,λx=>⟨λhx=>(by cases hx),?_⟩,rfl⟩;rintro⟨i,hi,he,hx⟩;rw[rQ]at hi;rw[iE hi]at he;cases e:lv i;·rw[e]at he;exact absurd he.symm hx
  ·have:=hX.lt i hi e;omega
 ·exact hR.2.1 h0
theorem Fs.next(h:Az t M sets rows)(hT:fY M M.kinds sets rows){lv:Nat->Bool}{B X:Nat->Nat}{was c:Nat}(hR:Fs t M sets rows lv B was)(hX:qY t lv B X t.n c)(hne:c≠was):Fs t M sets rows lv X c/\was<c:=by
 have hall:rows.length=sets.length:=by rw[h.rl,h.n]
 have hS:Splits rows 0 M.kinds.length (Pn t.n lv B) (Pn t.n lv X):=by rw[h.K];exact hX.splits h
 refine⟨⟨ml.round hT hall hR.1 hS,λ_=>hX.cnt,hX.le⟩,?_⟩;by_cases h0:was=0;·omega
 ·have:=Splits.mono hS (hR.2.1 h0) hX.cnt;omega
end
theorem Bv{a b:Nat}(h:a<b):decide ((a:Int)<(b:Int))=true:=by simp;exact h
theorem OZ{a b:Nat}(h:¬a<b):decide ((a:Int)<(b:Int))=false:=by simp;omega
structure LM(W:ak)(mb:Nat)(t:Tb)(tb eb:Nat):Prop where c0:∃sa sc,W.cell? ⟨mb,0,none⟩=some (.slice sa t.n sc)c1:∃tc,W.cell? ⟨mb,1,none⟩=some (.slice (some ⟨tb,0,none⟩) t.n tc)c2:∃ec,W.cell? ⟨mb,2,none⟩=some (.slice (some ⟨eb,0,none⟩) t.n ec)c3:∃ka kc,W.cell? ⟨mb,3,none⟩=some (.slice ka t.K kc)row:∀i,i<t.n->∃r,W.cell? ⟨tb,i,none⟩=some (.slice (some ⟨r,0,none⟩) t.K t.K)/\∀k,k<t.K->W.cell? ⟨r,k,none⟩=some (.int .i64 (t.ld i k))en:∀i,i<t.n->W.cell? ⟨eb,i,none⟩=some (.bool (t.en i))
theorem LM.below{w W:ak}{mb:Nat}{t:Tb}{tb eb:Nat}(h:LM w mb t tb eb)(hb:aI w.heap.size w W):LM W mb t tb eb:=by have go:∀{b j:Nat}{u:ay},w.cell? (aD b j)=some u->W.cell? (aD b j)=some u:=λ{b j u}hu=>(hb.cell (p:=(aD b j)) (lt_of_cell hu)).trans hu;obtain⟨sa,sc,h0⟩:=h.c0;obtain⟨tc,h1⟩:=h.c1;obtain⟨ec,h2⟩:=h.c2;obtain⟨ka,kc,h3⟩:=h.c3;exact⟨⟨sa,sc,go h0⟩,⟨tc,go h1⟩,⟨ec,go h2⟩,⟨ka,kc,go h3⟩,λi hi=>by obtain⟨r,h4,h5⟩:=h.row i hi;exact⟨r,go h4,λk hk=>go (h5 k hk)⟩,λi hi=>go (h.en i hi)⟩
def vD(l:List Bool)(i:Nat):Bool:=l.getD i false
def bF(l:List Int)(i:Nat):Nat:=(l.getD i 0).toNat
theorem Sk(M:PM):M.kinds.length<=256:=by unfold PM.kinds;exact pW M 256
theorem Zq{W:ak}{x:bC}{most mb:Nat}(h:BU W x most mb):∃t tb eb sets rows,LM W mb t tb eb/\Az t (PM.compile x) sets rows/\fY (PM.compile x) (PM.compile x).kinds sets rows/\t.n<=most/\t.K<=256/\0<t.n:=by
 obtain⟨N,gs,sets,rs,rows,sv,tv,ev,kv,hm,hT,hrl,hsm⟩:=h;have h0:0<sets.length:=(List.getElem?_eq_some_iff.1 hT.first).1;have hrs:rs.length=sets.length:=by rw[<-hm.zB,hrl]
 have htr:∀i,i<sets.length->∃r l,rs[i]?=some r/\rows[i]?=some l/\eD W r l/\l.length=(PM.compile x).kinds.length:=λi hi=>by obtain⟨r,hr⟩:∃r,rs[i]?=some r:=⟨_,ar (by omega)⟩;obtain⟨l,hl⟩:∃l,rows[i]?=some l:=⟨_,ar (by omega)⟩;obtain⟨h1,h2⟩:=hm.vR i r l hr hl;exact⟨r,l,hr,hl,h1,h2⟩
 have hes:(sets.map (PM.compile x).ends).length=sets.length:=by simp
 obtain⟨tb,tc,rfl,_⟩:=dh hm.qu (j:=0) (u:=(rs.map λr=>ki r (PM.compile x).kinds.length)[0]'(by simp;omega)) (ar _);obtain⟨eb,ec,rfl,_⟩:=dh hm.jw (j:=0) (u:=((sets.map (PM.compile x).ends).map mz)[0]'(by simp;omega)) (ar _);obtain⟨sa,sc,rfl⟩:=ownsRow_form hm.fx.row;obtain⟨ka,kc,rfl⟩:=ownsRow_form hm.lV;have hgl:=hm.fx.len;have hK9:=Sk (PM.compile x);generalize hks:(PM.compile x).kinds=ks at*;have hkk:(PM.compile x).kinds=ks:=hks;refine⟨⟨sets.length,ks.length,λi k=>(rows.getD i []).getD k 0,λi=>(sets.map (PM.compile x).ends).getD i false⟩,tb,eb,sets,rows,⟨⟨sa,sc,?_⟩,⟨tc,?_⟩,⟨ec,?_⟩,⟨ka,kc,aq hm.head⟩,λi hi=>?_,λi hi=>?_⟩,⟨rfl,congrArg List.length hkk,hrl,λi k hi hk=>?_,λi k hi hk=>?_,λi s hs=>?_⟩,hT,hsm,hK9,h0⟩;·have:=aq (i:=0) hm.head;rw[show gs.length=sets.length by rw[<-hgl];simp]at this;exact this
 ·have:=aq (i:=1) hm.head;rw[hrs]at this;exact this
 ·have:=aq (i:=2) hm.head;rw[hes]at this;exact this
 ·obtain⟨r,l,hr,hl,h1,h2⟩:=htr i hi;obtain⟨g,cap,e,hc⟩:=dh hm.qu (j:=i) (u:=ki r ks.length) (by rw[bp,hr];rfl);simp only[bA,vI,agD]at e;obtain⟨⟨rfl,_⟩,_⟩:=e;refine⟨r,hc,λk hk=>?_⟩;have:=h1.cell (i:=k) (by rw[h2];exact hk);rw[this];simp only[aw,hl];rfl
 ·obtain⟨g,cap,e,hc⟩:=dh hm.jw (j:=i) (u:= .bool ((sets.map (PM.compile x).ends).getD i false)) (by rw[bp,aw,ar (by rw[hes];exact hi)];rfl);simp only[bA,vI,agD]at e;obtain⟨⟨rfl,_⟩,_⟩:=e;exact hc
 ·obtain⟨r,l,hr,hl,h1,h2⟩:=htr i hi;have hk2:k<l.length:=by rw[h2];exact hk
  refine⟨l,hl,?_⟩;show l[k]?=some ((rows.getD i []).getD k 0);rw[aw (l:=rows),hl];show l[k]?=some (l.getD k 0);rw[aw,ar hk2];rfl
 ·obtain⟨r,l,hr,hl,h1,h2⟩:=htr i hi;have hs:sets[i]?=some (sets[i]'hi):=ar _;obtain⟨c,hc⟩:∃c,ks[k]?=some c:=⟨_,ar hk⟩;obtain⟨z,hz,hzc⟩:=(hT.row i l _ hl hs).cell k c hc;have e:(rows.getD i []).getD k 0=z:=by simp only[aw,hl];rw[show(some l).getD []=l from rfl,hz];rfl
  show(rows.getD i []).getD k 0<(sets.length:Int);rw[e];rcases hzc with⟨_,rfl⟩|⟨_,id,rfl,hid⟩;·omega
  ·have:=(List.getElem?_eq_some_iff.1 hid).1;omega
 ·show(sets.map (PM.compile x).ends).getD i false=_;rw[aw,bp,hs];rfl
theorem Xo(t:Tb)(mb tb eb lb bb i k:Nat)(L:List Bool)(l:List Int)(W:ak)(hM:LM W mb t tb eb)(hn:t.n<=1000)(hlt:t.ld i k<t.n)(hL:bY W lb L)(hLn:L.length=t.n)(hl:eD W bb l)(Jb:l.length=t.n)(h0:∀j,j<t.n->0<=l.getD j 0)(hi:i<t.n)(hk:k<t.K):aX ah 78 #[pT mb,sL lb t.n t.n,sL bb t.n t.n,iV (i:Int),iV (k:Int)] W λe w'=>e= .returned (iV (MV t (vD L) (bF l) i k))/\Same W w':=by
 obtain⟨tc,c1⟩:=hM.c1;obtain⟨r,c2,c3'⟩:=hM.row i hi;have c3:=c3' k hk;obtain⟨z,hz⟩:∃z,t.ld i k=z:=⟨_,rfl⟩;have HZ:=ae hz;rw[hz]at c3 hlt;obtain⟨n,hnn⟩:∃n,t.n=n:=⟨_,rfl⟩;obtain⟨K,hKK⟩:∃K,t.K=K:=⟨_,rfl⟩;rw[hnn]at hn hlt hLn Jb h0 hi c1⊢;rw[hKK]at hk c2;have zi:(0:Int)<=(i:Int)/\(i:Int)<(n:Int):=by omega
 have zk:(0:Int)<=(k:Int)/\(k:Int)<(K:Int):=by omega
 by_cases hz0:z<0;·
  have hg:MV t (vD L) (bF l) i k=-1:=by unfold MV;rw[HZ,if_neg (λe=>absurd e.1 (by omega))]
  rw[hg];have m:decide (z<0)=true:=decide_eq_true hz0;clear hM hL hl h0 c3' hz hg;go_enter Y3,Ur;go_wp2_with fail;go_ret;exact⟨rfl,Same.refl _⟩
 ·obtain⟨j,rfl⟩:∃j:Nat,z=j:=⟨z.toNat,by omega⟩;have hj:j<n:=by omega
  have d1:=hL.cell (i:=j) (by omega);have d2:=hl.cell (i:=j) (by omega);have zj:(0:Int)<=(j:Int)/\(j:Int)<(n:Int):=by omega
  have m:decide ((j:Int)<0)=false:=decide_eq_false (by omega);have hb0:=h0 j hj;cases hv:L.getD j false with
   |false=>
    have hg:MV t (vD L) (bF l) i k=-1:=by unfold MV vD;rw[HZ,jI,if_neg];rintro⟨_,h⟩;rw[hv]at h;cases h
    rw[hg];rw[hv]at d1;clear hM hL hl h0 c3' hz hg hv;go_enter Y3,Ur;go_wp2_with fail;go_ret;exact⟨rfl,Same.refl _⟩|true=>
    have hg:MV t (vD L) (bF l) i k=l.getD j 0:=by unfold MV vD bF;rw[HZ,jI,if_pos ⟨by omega,hv⟩];omega
    rw[hg];rw[hv]at d1;generalize l.getD j 0=v at*;clear hM hL hl h0 c3' hz hg hv;go_enter Y3,Ur;go_wp2_with fail;go_ret;exact⟨rfl,Same.refl _⟩
def BD (W:ak) (b:Nat):Nat:=match W.heap[b]? with
 | some (.cells cs _ _)=>cs.toList.countP fun v=>match v with
  | .bool false=>true
  | _=>false
 | _=>0
theorem bY.BD{W:ak}{b:Nat}{L:List Bool}(h:bY W b L):BD W b=L.count false:=by unfold Tl.BD;rw[show W.heap[b]?=_ from h];simp only[List.toList_toArray];rw[List.countP_map];unfold List.count;congr 1;funext x;cases x<;>rfl
def anH(v:ay):Nat:=match v with| .bool true=>1|_=>0
theorem count_set:∀(L:List Bool)(i:Nat),i<L.length->L.getD i false=false->(L.set i true).count false+1=L.count false|[],i,h,_=>absurd h (by simp)|x::L,0,_,h=>by have:x=false:=h;subst this;simp|x::L,i+1,h,h2=>by have:=count_set L i (by simpa using h) h2;cases x<;>simp[ai]<;>omega
section
variable(w:ak)(lb:Nat)(t:Tb)(M:PM)(sets:List aH)(rows:List (List Int))
structure BV (W:ak) (L:List Bool):Prop where
 row:bY W lb L
 len:L.length=t.n
 sound:∀ i,i < t.n->vD L i=true->o9 M sets rows i
 below:aI w.heap.size w W
 past:w.heap.size<=lb
end
def QA(t:Tb)(L:List Bool)(i:Nat):Prop:=∀j,j<i->ui t (vD L) j->vD L j=true
section
variable{w W W':ak}{lb:Nat}{t:Tb}{M:PM}{sets:List aH}{rows:List (List Int)}{L L0:List Bool}{i:Nat}{a:Bool}
theorem BV.kept(h:BV w lb t M sets rows W L)(hk:aI W.heap.size W W'):BV w lb t M sets rows W' L:=⟨h.row.below hk,h.len,h.sound,h.below.trans (hk.mono h.below.size),h.past⟩
theorem BV.other(h:BV w lb t M sets rows W L){b:Nat}(hb:w.heap.size<=b)(hne:b≠lb)(j:Nat)(v:ay):BV w lb t M sets rows (W.setCell (aD b j) v) L:=⟨h.row.old (az W _ _ lb λe=>hne e.symm),h.len,h.sound,h.below.setCell hb v,h.past⟩
theorem BV.set(hT:Az t M sets rows)(h:BV w lb t M sets rows W L)(hi:i<t.n)(hl:ui t (vD L) i)(hf:L.getD i false=false):BV w lb t M sets rows (W.setCell (aD lb i) (.bool true)) (L.set i true)/\(L.set i true).count false+1=L.count false:=by
 refine⟨⟨h.row.set i true,by rw[bW];exact h.len,λj hj hv=>?_,h.below.setCell h.past _,h.past⟩,count_set L i (by rw[h.len];exact hi) hf⟩;by_cases e:j=i;·rw[e];exact VT hT h.sound hi hl
 ·refine h.sound j hj ?_;unfold vD at hv⊢;rw[aw,dA (λx=>e x.symm),<-aw]at hv;exact hv
end
theorem Vp{n i:Nat}(h:i<n):¬vD (aQ n false) i=true:=by unfold vD;rw[aw,cu,if_pos h];decide
def sH(t:Tb)(L L':List Bool)(a:Bool)(i:Nat):Prop:=(a=true->L'.count false<L.count false)/\(a=false->L'=L/\QA t L i)
theorem sH.start(t:Tb)(L:List Bool):sH t L L false 0:=⟨λh=>(by cases h),λ_=>⟨rfl,λj hj=>absurd hj (iB _)⟩⟩
theorem sH.keep{t:Tb}{L L':List Bool}{a:Bool}{i:Nat}(h:sH t L L' a i)(hi:ui t (vD L') i->vD L' i=true):sH t L L' a (i+1):=⟨h.1,λe=>by
 obtain⟨rfl,hc⟩:=h.2 e;refine⟨rfl,λj hj hl=>?_⟩;by_cases e:j=i;·rw[e]at hl⊢;exact hi hl
 ·exact hc j (by omega) hl⟩
theorem sH.set{t:Tb}{L L' L2:List Bool}{a:Bool}{i:Nat}(h:sH t L L' a i)(hc:L2.count false+1=L'.count false):sH t L L2 true (i+1):=⟨λ_=>by cases a with|true=>have:=h.1 rfl;omega|false=>rw[(h.2 rfl).1]at hc;omega,λh=>(by cases h)⟩
structure AO (w:ak) (lb:Nat) (t:Tb) (M:PM) (sets:List aH) (rows:List (List Int)) (W:ak) (L:List Bool) (bb:Nat) (l:List Int):Prop where
 lv:BV w lb t M sets rows W L
 row:eD W bb l
 len:l.length=t.n
 pos:∀ j,j < t.n->0<=l.getD j 0
 past:w.heap.size<=bb
section
variable{w W W':ak}{lb bb b:Nat}{t:Tb}{M:PM}{sets:List aH}{rows:List (List Int)}{L:List Bool}{l:List Int}
theorem AO.kept(h:AO w lb t M sets rows W L bb l)(hk:aI W.heap.size W W'):AO w lb t M sets rows W' L bb l:=⟨h.lv.kept hk,h.row.below hk,h.len,h.pos,h.past⟩
theorem AO.other(h:AO w lb t M sets rows W L bb l)(hb:w.heap.size<=b)(h1:b≠lb)(h2:b≠bb)(j:Nat)(v:ay):AO w lb t M sets rows (W.setCell (aD b j) v) L bb l:=⟨h.lv.other hb h1 j v,h.row.old (az W _ _ bb λe=>h2 e.symm),h.len,h.pos,h.past⟩
theorem Me{W:ak}{a b:Nat}{L:List Bool}{l:List Int}(h:bY W a L)(k:eD W b l):b≠a:=λe=>by subst e;have:=(show W.heap[b]?=_ from h).symm.trans k;simp only[vI,Obj.cells.injEq]at this;exact absurd this.2.1 (by decide)
end
structure Dp (w:ak) (lb:Nat) (t:Tb) (M:PM) (sets:List aH) (rows:List (List Int)) (W:ak) (L:List Bool) (bb:Nat) (l:List Int) (nb:Nat) (X:List Int):Prop where
 bk:AO w lb t M sets rows W L bb l
 row:eD W nb X
 len:X.length=t.n
 past:w.heap.size<=nb
 ne:nb≠bb
section
variable{w W W':ak}{lb bb nb:Nat}{t:Tb}{M:PM}{sets:List aH}{rows:List (List Int)}{L:List Bool}{l X:List Int}
theorem Dp.kept(h:Dp w lb t M sets rows W L bb l nb X)(hk:aI W.heap.size W W'):Dp w lb t M sets rows W' L bb l nb X:=⟨h.bk.kept hk,h.row.below hk,h.len,h.past,h.ne⟩
theorem Dp.set(h:Dp w lb t M sets rows W L bb l nb X)(j:Nat)(v:Int):Dp w lb t M sets rows (W.setCell (aD nb j) (iV v)) L bb l nb (X.set j v):=⟨h.bk.other h.past (Me h.bk.lv.row h.row) h.ne j _,h.row.set j v,by rw[bW];exact h.len,h.past,h.ne⟩
end
theorem kA(X:List Int)(i:Nat)(v:Int)(h:i<X.length):(X.set i v).getD i 0=v:=by rw[aw,List.getElem?_set_self h];rfl
theorem getD_set_ne(X:List Int){i j:Nat}(v:Int)(h:j≠i):(X.set i v).getD j 0=X.getD j 0:=by rw[aw,dA (λe=>h e.symm),<-aw]
theorem Tt(X:List Int){i j:Nat}(v:Int)(h:j≠i):bF (X.set i v) j=bF X j:=by unfold bF;rw[getD_set_ne X v h]
def PC(t:Tb)(lv:Nat->Bool)(B:Nat->Nat)(X:List Int)(i k:Nat)(Y:List Int):Prop:=(Y=X.set i (-1)/\∀j,j<k->lv j=true->¬xy t lv B i j)\/∃j,j<i/\lv j=true/\xy t lv B i j/\Y=X.set i (X.getD j 0)
theorem PC.go{t:Tb}{lv:Nat->Bool}{B:Nat->Nat}{X:List Int}{i k:Nat}(h:∀j,j<k->lv j=true->¬xy t lv B i j)(hk:lv k=true->¬xy t lv B i k):PC t lv B X i (k+1) (X.set i (-1)):= .inl ⟨rfl,λj hj hv=>by
 by_cases e:j=k;·rw[e]at hv⊢;exact hk hv
 ·exact h j (by omega) hv⟩
theorem AO.alf{w W:ak}{lb bb:Nat}{t:Tb}{M:PM}{sets:List aH}{rows:List (List Int)}{L:List Bool}{l:List Int}(h:AO w lb t M sets rows W L bb l)(i:Nat)(v:Int)(hv:0<=v)(hi:i<t.n):AO w lb t M sets rows (W.setCell (aD bb i) (iV v)) L bb (l.set i v):=⟨h.lv.other h.past (Me h.lv.row h.row) i _,h.row.set i v,by rw[bW];exact h.len,λj hj=>by
 by_cases e:j=i;·rw[e,kA _ _ _ (by rw[h.len];exact hi)];exact hv
 ·rw[getD_set_ne _ _ e];exact h.pos j hj,h.past⟩
theorem P6{X:List Int}{n i:Nat}{v:Int}(h:∀j,j<n->0<=X.getD j 0)(hv:0<=v)(hi:i<X.length):∀j,j<n->0<=(X.set i v).getD j 0:=λj hj=>by
 by_cases e:j=i;·rw[e,kA _ _ _ hi];exact hv
 ·rw[getD_set_ne _ _ e];exact h j hj
theorem VJ{X:List Int}{i:Nat}(v:Int):∀j,j<i->bF (X.set i v) j=bF X j:=λj hj=>Tt X v (by omega)
theorem QG(X:List Int)(i:Nat)(v:Int)(h:i<X.length):bF (X.set i v) i=v.toNat:=by unfold bF;rw[kA _ _ _ h]
theorem Ic(n j:Nat):(aQ n (0:Int)).getD j 0=0:=by rw[aw,cu];split<;>rfl
theorem Ot (t:Tb) (mb tb eb:Nat) (M:PM) (sets:List aH) (rows:List (List Int)) (w:ak) (hM:LM w mb t tb eb) (hT:Az t M sets rows) (hO:fY M M.kinds sets rows) (hn:t.n<=1000) (hK:t.K<=1000) :
  aX ah 43 #[pT mb] w fun e w'=>∃ c:Nat,e = .returned (iV (c:Int))/\lM M c/\aI w.heap.size w w':=by
 have atZ:=yK t.n (t.n:Int) rfl (by omega)
 have amc:=GY t.n (t.n:Int) rfl (by omega)
 obtain ⟨sa,sc,c0⟩:=hM.c0
 have H:=ae (aA hM (aA hT hO))
 clear hM hT hO
 go_enter Tryz.func43,Tryz.ntmps43
 go_wp2_with fail
 obtain ⟨w1,hw1⟩:∃ w1,w1=w.alloc (.cells (madeCells #[.bool false] t.n) 4):=⟨_,rfl⟩
 obtain ⟨lb,hlb⟩:∃ lb,lb=w.heap.size:=⟨_,rfl⟩
 have HL0:Hid (BV w lb t M sets rows w1 (aQ t.n false)):=ae ⟨by rw [hw1,hlb]; exact bY.made _ _,by simp,fun i hi h=>absurd h (Vp hi),by rw [hw1]; exact (aB _ _).alloc (au _) _,by rw [hlb]; exact au _⟩
 rw [<- hw1,<- hlb]
 clear hw1 hlb c0
 go_loopw [5] (fun av W=>∃ (a:Bool) (L:List Bool),av = .bool a/\Hid (BV w lb t M sets rows W L/\(a=false->QA t L t.n))) (fun av W=>2 * BD W lb+anH av)
 case atStart=>exact ⟨true,_,rfl,ae ⟨HL0,fun h=>(by cases h)⟩⟩
 case round =>
  as_aux_lemma =>
  obtain ⟨a,L,rfl,HL⟩:=hrel
  clear HL0
  obtain ⟨w2,hw2⟩:∃ w2,w2=wr:=⟨_,rfl⟩
  rw [<- hw2] at HL ⊢
  clear hw2
  cases a with
  | true =>
   as_aux_lemma =>
   have HF:=ae HL.1.row.BD
   go_wp2_with fail
   go_loopw [5,6] (fun av iv W=>∃ (a:Bool) (i:Nat) (L':List Bool),av = .bool a/\iv = .int .i64 (i:Int)/\i<=t.n/\Hid (BV w lb t M sets rows W L'/\sH t L L' a i)) (fun _ iv _=>t.n - (intOf iv).toNat)
   case atStart=>exact ⟨false,0,L,rfl,rfl,aW _,ae ⟨HL.1,sH.start t L⟩⟩
   case round =>
    as_aux_lemma =>
    obtain ⟨a,i,L',rfl,rfl,hi,HI⟩:=hrel
    obtain ⟨w3,hw3⟩:∃ w3,w3=wr:=⟨_,rfl⟩
    rw [<- hw3] at HI ⊢
    clear hw3
    have qi:IntKind.i64.wrap ((i:Int)+1)=(i:Int)+1:=aK _ (by omega)
    by_cases hlt:i < t.n
    ·have zi:(0:Int)<=(i:Int)/\(i:Int) < (t.n:Int):=by omega
     have Uc:=H.1.below HI.1.below
     obtain ⟨ec,c2⟩:=Uc.c2
     have e2:=Uc.en i hlt
     obtain ⟨ka,kc,c3⟩:=Uc.c3
     obtain ⟨tc,c1⟩:=Uc.c1
     obtain ⟨r,r1,r2⟩:=Uc.row i hlt
     have tI:=ae r2
     have n1:=Bv hlt
     obtain ⟨en,hen⟩:∃ b,t.en i=b:=⟨_,rfl⟩
     rw [hen] at e2
     clear r2 Uc
     go_wp2_with fail
     go_loopw [7,8] (fun lv bv W=>∃ (l:Bool) (b:Nat),lv = .bool l/\bv = .int .i64 (b:Int)/\b<=t.K/\w3=W/\Hid ((l=true->ui t (vD L') i)/\(l=false->t.en i=false /\ ∀ k,k < b -> ¬ (0<=t.ld i k/\vD L' (t.ld i k).toNat=true)))) (fun _ bv _=>t.K - (intOf bv).toNat)
     case atStart=>exact ⟨en,0,rfl,rfl,aW _,rfl,ae ⟨fun h => .inl (hen.trans h),fun h=>⟨hen.trans h,fun k hk=>absurd hk (iB _)⟩⟩⟩
     case round =>
      as_aux_lemma =>
      obtain ⟨l,b,rfl,rfl,hb,rfl,HB⟩:=hrel
      have qb:IntKind.i64.wrap ((b:Int)+1)=(b:Int)+1:=aK _ (by omega)
      have d0:=HI.1.row.cell (i:=i) (by rw [HI.1.len]; exact hlt)
      have f0:=HI.1.row.free i
      by_cases hgo:b < t.K/\l=false
      ·obtain ⟨hbK,rfl⟩:=hgo
       have n2:=Bv hbK
       have zb:(0:Int)<=(b:Int)/\(b:Int) < (t.K:Int):=by omega
       have r2:=tI b hbK
       have hld:=H.2.1.lt i b hlt hbK
       obtain ⟨z,hz⟩:∃ z,t.ld i b=z:=⟨_,rfl⟩
       rw [hz] at r2 hld
       have HZ:=ae hz
       clear hz d0 f0
       by_cases hz0:z < 0
       ·have m:decide (z >= 0)=false:=decide_eq_false (by omega)
        have m':decide ((0:Int)<=z)=false:=decide_eq_false (by omega)
        have kN:Hid (t.en i=false /\ ∀ k,k < b+1 -> ¬ (0<=t.ld i k/\vD L' (t.ld i k).toNat=true)):=ae ⟨(HB.2 rfl).1,fun k hk h=>by
         by_cases e:k=b
         ·subst e
          rw [HZ] at h
          omega
         ·exact (HB.2 rfl).2 k (by omega) h⟩
        go_wp2_with fail
        exact ⟨⟨false,b+1,rfl,by go_num,by omega,by first | rfl | trivial,ae ⟨fun h=>(by cases h),fun _=>kN.out⟩⟩,by simp [intOf]; omega⟩
       ·obtain ⟨j,rfl⟩:∃ j:Nat,z=j:=⟨z.toNat,by omega⟩
        have zj:(0:Int)<=(j:Int)/\(j:Int) < (t.n:Int):=by omega
        have m:decide ((j:Int) >= 0)=true:=decide_eq_true (by omega)
        have m':decide ((0:Int)<=(j:Int))=true:=decide_eq_true (by omega)
        have d1:=HI.1.row.cell (i:=j) (by rw [HI.1.len]; omega)
        obtain ⟨v,hv⟩:∃ v,L'.getD j false=v:=⟨_,rfl⟩
        rw [hv] at d1
        have HV:=ae hv
        clear hv
        have kN:Hid ((v=true->ui t (vD L') i)/\(v=false->t.en i=false /\ ∀ k,k < b+1 -> ¬ (0<=t.ld i k/\vD L' (t.ld i k).toNat=true))):=ae ⟨fun h => .inr ⟨b,hbK,by rw [HZ]; omega,by rw [HZ,jI]; exact HV.trans h⟩,fun h=>⟨(HB.2 rfl).1,fun k hk h2=>by
         by_cases e:k=b
         ·subst e
          rw [HZ,jI] at h2
          have h3:=h2.2
          unfold vD at h3
          rw [HV,h] at h3
          cases h3
         ·exact (HB.2 rfl).2 k (by omega) h2⟩⟩
        go_wp2_with fail
        exact ⟨⟨v,b+1,rfl,by go_num,by omega,by first | rfl | trivial,kN⟩,by simp [intOf]; omega⟩
      ·have HX:Hid ((l=true->ui t (vD L') i)/\(l=false -> ¬ ui t (vD L') i)):=ae ⟨HB.1,fun h hl=>by
        obtain ⟨h1,h2⟩:=HB.2 h
        rcases hl with hl | ⟨k,hk,h3,h4⟩
        ·rw [h1] at hl
         cases hl
        ·exact h2 k (Nat.lt_of_lt_of_le hk (Nat.le_of_not_lt fun hb=>hgo ⟨hb,h⟩)) ⟨h3,h4⟩⟩
       clear HB
       cases l with
       | true =>
        obtain ⟨v,hv⟩:∃ v,L'.getD i false=v:=⟨_,rfl⟩
        rw [hv] at d0
        have HV:=ae hv
        clear hv hgo
        cases v with
        | true =>
         go_wp2_with fail
         all_goals
          exact ⟨⟨a,i+1,L',rfl,by go_num,by omega,ae ⟨HI.1,HI.2.keep fun _=>HV.out⟩⟩,by simp [intOf]; omega⟩
        | false =>
         have HS:=ae (HI.1.set H.2.1 hlt (HX.1 rfl) HV)
         go_wp2_with fail
         all_goals
          exact ⟨⟨true,i+1,_,rfl,by go_num,by omega,ae ⟨HS.1,HI.2.set HS.2⟩⟩,by simp [intOf]; omega⟩
       | false =>
        have hnb:¬ b < t.K:=fun hb=>hgo ⟨hb,rfl⟩
        have n2:=OZ hnb
        clear hgo
        go_wp2_with fail
        exact ⟨⟨a,i+1,L',rfl,by go_num,by omega,ae ⟨HI.1,HI.2.keep fun h=>absurd h (HX.2 rfl)⟩⟩,by simp [intOf]; omega⟩
    ·obtain rfl:i=t.n:=by omega
     have HF2:=ae HI.1.row.BD
     go_wp2_with fail
     refine ⟨⟨a,L',rfl,ae ⟨HI.1,fun h=>by
      obtain ⟨e,hc⟩:=HI.2.2 h
      rw [e]
      exact hc⟩⟩,?_⟩
     rw [HF,HF2]
     cases a with
     | true=>have:=HI.2.1 rfl; show 2 * _+1 < 2 * _+1; omega
     | false=>rw [(HI.2.2 rfl).1]; show 2 * _+0 < 2 * _+1; omega
  | false =>
   as_aux_lemma =>
   have HV:=ae (show ∀ i,i < t.n->(vD L i=true↔o9 M sets rows i) from fun i hi=>VU H.2.1 H.2.2 HL.1.sound (HL.2 rfl) hi)
   have HL1:=ae HL.1
   clear HL
   go_wp2_with fail
   obtain ⟨w4,hw4⟩:∃ w4,w4=w2.alloc (.cells (madeCells #[iV 0] t.n) 3):=⟨_,rfl⟩
   obtain ⟨bb,hbb⟩:∃ bb,bb=w2.heap.size:=⟨_,rfl⟩
   have hb4:aI w2.heap.size w2 w4:=by rw [hw4]; exact (aB _ _).alloc (au _) _
   have AL:Hid (AO w lb t M sets rows w4 L bb (aQ t.n 0)):=ae ⟨HL1.kept hb4,by rw [hw4,hbb]; exact eD.made _ _,by simp,fun j hj=>by rw [Ic]; exact AQ _,by rw [hbb]; exact HL1.below.size⟩
   rw [<- hw4,<- hbb]
   clear hw4 hbb hb4 HL1
   go_loopw [10] (fun iv W=>∃ (i:Nat) (l:List Int),i<=t.n/\iv = .int .i64 (i:Int)/\Hid (AO w lb t M sets rows W L bb l /\ ∀ j,j < t.n->l.getD j 0=if j < i/\t.en j=true then 1 else 0)) (fun iv _=>t.n - (intOf iv).toNat)
   case atStart=>exact ⟨0,_,aW _,rfl,ae ⟨AL,fun j hj=>by rw [Ic,if_neg fun h=>absurd h.1 (iB _)]⟩⟩
   case round =>
    as_aux_lemma =>
    obtain ⟨i,l,hi,rfl,HI⟩:=hrel
    clear AL
    obtain ⟨w5,hw5⟩:∃ w5,w5=wr:=⟨_,rfl⟩
    rw [<- hw5] at HI ⊢
    clear hw5
    have qi:IntKind.i64.wrap ((i:Int)+1)=(i:Int)+1:=aK _ (by omega)
    by_cases hlt:i < t.n
    ·have zi:(0:Int)<=(i:Int)/\(i:Int) < (t.n:Int):=by omega
     have n1:=Bv hlt
     have hM5:=H.1.below HI.1.lv.below
     obtain ⟨ec,c2⟩:=hM5.c2
     have e2:=hM5.en i hlt
     have f0:=HI.1.row.free i
     have hlen:=HI.1.len
     have x0:=HI.1.row.cell (i:=i) (by omega)
     cases hen:t.en i with
     | true =>
      rw [hen] at e2
      have HE:=ae hen
      have HS:=ae (HI.1.alf i 1 (by decide) hlt)
      clear hen hM5
      go_wp2_with fail
      exact ⟨⟨i+1,_,by omega,by go_num,ae ⟨HS,fun j hj=>by
       by_cases e:j=i
       ·rw [e,kA _ _ _ (by omega),if_pos ⟨rq _,HE⟩]
       ·rw [getD_set_ne _ _ e,HI.2 j hj]
        congr 1
        apply propext
        exact ⟨fun h=>⟨by omega,h.2⟩,fun h=>⟨by omega,h.2⟩⟩⟩⟩,by simp [intOf]; omega⟩
     | false =>
      rw [hen] at e2
      have HE:=ae hen
      clear hen hM5
      go_wp2_with fail
      exact ⟨⟨i+1,l,by omega,by go_num,ae ⟨HI.1,fun j hj=>by
       rw [HI.2 j hj]
       congr 1
       apply propext
       refine ⟨fun h=>⟨by omega,h.2⟩,fun h=>⟨?_,h.2⟩⟩
       rcases Nat.lt_or_ge j i with h' | h'
       ·exact h'
       ·have e:j=i:=by omega
        rw [e,HE] at h
        exact absurd h.2 (by decide)⟩⟩,by simp [intOf]; omega⟩
    ·obtain rfl:i=t.n:=by omega
     have hR0:Fs t M sets rows (vD L) (bF l) 0:=⟨Xu H.2.1 H.2.2 HV fun i hi=>by
      unfold bF
      rw [HI.2 i hi]
      cases t.en i <;> simp [hi],fun h=>absurd rfl h,aW _⟩
     have HR0:=ae (aA HI.1 hR0)
     clear hR0 HI HV
     go_wp2_with fail
     go_loopw [9,11] (fun bv wv W=>∃ (bb was:Nat) (l:List Int),bv=sL bb t.n t.n/\wv = .int .i64 (was:Int)/\was<=t.n/\Hid (AO w lb t M sets rows W L bb l/\Fs t M sets rows (vD L) (bF l) was)) (fun _ wv _=>t.n+1 - (intOf wv).toNat)
     case atStart=>exact ⟨bb,0,l,rfl,rfl,aW _,HR0⟩
     case round =>
      as_aux_lemma =>
      obtain ⟨bb,was,l,rfl,rfl,atx,HR⟩:=hrel
      clear HR0
      obtain ⟨w6,hw6⟩:∃ w6,w6=wr:=⟨_,rfl⟩
      rw [<- hw6] at HR ⊢
      clear hw6
      go_wp2_with fail
      obtain ⟨w7,hw7⟩:∃ w7,w7=w6.alloc (.cells (madeCells #[iV 0] t.n) 3):=⟨_,rfl⟩
      obtain ⟨nb,hnb⟩:∃ nb,nb=w6.heap.size:=⟨_,rfl⟩
      have lC:aI w6.heap.size w6 w7:=by rw [hw7]; exact (aB _ _).alloc (au _) _
      have HN0:Hid (Dp w lb t M sets rows w7 L bb l nb (aQ t.n 0)):=ae ⟨HR.1.kept lC,by rw [hw7,hnb]; exact eD.made _ _,by simp,by rw [hnb]; exact HR.1.lv.below.size,by have:=HR.1.row.lt; omega⟩
      have Fw:=ae HR.2
      rw [<- hw7,<- hnb]
      clear hw7 hnb lC HR
      go_loopw [13,14] (fun cv iv W=>∃ (c i:Nat) (X:List Int),cv = .int .i64 (c:Int)/\iv = .int .i64 (i:Int)/\i<=t.n/\Hid (Dp w lb t M sets rows W L bb l nb X/\qY t (vD L) (bF l) (bF X) i c /\ ∀ j,j < t.n->0<=X.getD j 0)) (fun _ iv _=>t.n - (intOf iv).toNat)
      case atStart=>exact ⟨0,0,_,rfl,rfl,aW _,ae ⟨HN0,qY.start t _ _ _,fun j hj=>by rw [Ic]; exact AQ _⟩⟩
      case round =>
       as_aux_lemma =>
       obtain ⟨c,i,X,rfl,rfl,hi,HX⟩:=hrel
       clear HN0
       obtain ⟨w8,hw8⟩:∃ w8,w8=wr:=⟨_,rfl⟩
       rw [<- hw8] at HX ⊢
       clear hw8
       have qi:IntKind.i64.wrap ((i:Int)+1)=(i:Int)+1:=aK _ (by omega)
       have hci:c<=i:=HX.2.1.le
       have qc:IntKind.i64.wrap ((c:Int)+1)=(c:Int)+1:=aK _ (by omega)
       have hXl:=HX.1.len
       by_cases hlt:i < t.n
       ·have zi:(0:Int)<=(i:Int)/\(i:Int) < (t.n:Int):=by omega
        have n1:=Bv hlt
        have d0:=HX.1.bk.lv.row.cell (i:=i) (by rw [HX.1.bk.lv.len]; exact hlt)
        obtain ⟨v,hv⟩:∃ v,L.getD i false=v:=⟨_,rfl⟩
        rw [hv] at d0
        have HV:=ae hv
        clear hv
        cases v with
        | false =>
         go_wp2_with fail
         exact ⟨⟨c,i+1,X,rfl,by go_num,by omega,ae ⟨HX.1,HX.2.1.dead HV.out fun _ _=>rfl,HX.2.2⟩⟩,by simp [intOf]; omega⟩
        | true =>
         have f0:=HX.1.row.free i
         have x0:=HX.1.row.cell (i:=i) (by omega)
         have HS:=ae (HX.1.set i (-1))
         go_wp2_with fail
         go_loopw [15] (fun kv W=>∃ (k:Nat) (Y:List Int),kv = .int .i64 (k:Int)/\k<=i/\Hid (Dp w lb t M sets rows W L bb l nb Y/\PC t (vD L) (bF l) X i k Y)) (fun kv _=>i - (intOf kv).toNat)
         case atStart=>exact ⟨0,_,rfl,aW _,ae ⟨HS,.inl ⟨rfl,fun j hj=>absurd hj (iB _)⟩⟩⟩
         case round =>
          as_aux_lemma =>
          obtain ⟨k,Y,rfl,hki,HY⟩:=hrel
          clear HS d0 f0 x0
          obtain ⟨w9,hw9⟩:∃ w9,w9=wr:=⟨_,rfl⟩
          rw [<- hw9] at HY ⊢
          clear hw9
          have qk:IntKind.i64.wrap ((k:Int)+1)=(k:Int)+1:=aK _ (by omega)
          have hYl:=HY.1.len
          have x1:=HY.1.row.cell (i:=i) (by omega)
          have f1:=HY.1.row.free i
          obtain ⟨y,hy⟩:∃ y,Y.getD i 0=y:=⟨_,rfl⟩
          rw [hy] at x1
          rcases HY.2 with ⟨hY,hno⟩ | ⟨j,hj,hjv,hjs,hY⟩
          ·obtain rfl:y = -1:=by rw [<- hy,hY,kA _ _ _ (by omega)]
           have QT:=ae (aA hY hno)
           clear hy hY hno
           by_cases hk:k < i
           ·have zk:(0:Int)<=(k:Int)/\(k:Int) < (t.n:Int):=by omega
            have n2:=Bv hk
            have d1:=HY.1.bk.lv.row.cell (i:=k) (by rw [HY.1.bk.lv.len]; omega)
            have b1:=HY.1.bk.row.cell (i:=i) (by rw [HY.1.bk.len]; omega)
            have b2:=HY.1.bk.row.cell (i:=k) (by rw [HY.1.bk.len]; omega)
            have p1:=HY.1.bk.pos i hlt
            have p2:=HY.1.bk.pos k (by omega)
            obtain ⟨u,hu⟩:∃ u,L.getD k false=u:=⟨_,rfl⟩
            obtain ⟨z1,hz1⟩:∃ z,l.getD i 0=z:=⟨_,rfl⟩
            obtain ⟨z2,hz2⟩:∃ z,l.getD k 0=z:=⟨_,rfl⟩
            rw [hu] at d1
            rw [hz1] at b1 p1
            rw [hz2] at b2 p2
            have HU:=ae hu
            have HZ:=ae (aA hz1 hz2)
            clear hu hz1 hz2
            cases u with
            | false =>
             have HG:=ae (PC.go (X:=X) QT.2 fun h=>absurd (HU.symm.trans h) (by decide))
             go_wp2_with (go_quiet (fail))
             exact ⟨⟨k+1,Y,by go_num,by omega,ae ⟨HY.1.kept ((Same.drewN _ _).below _),QT.1 ▸ HG.out⟩⟩,by simp [intOf]; omega⟩
            | true =>
             by_cases hzz:z2=z1
             ·have m:(z2 != z1)=false:=by rw [bne_eq_false_iff_eq]; exact hzz
              have HB:=ae (show bF l i=bF l k by unfold bF; rw [HZ.1,HZ.2,hzz])
              clear hzz
              go_wp2_with (go_quiet (fail))
              go_loopw [16,17] (fun ev bv W=>∃ (eq:Bool) (b:Nat),ev = .bool eq/\bv = .int .i64 (b:Int)/\b<=t.K/\Hid (Same w9 W/\(eq=true -> ∀ q,q < b->MV t (vD L) (bF l) i q=MV t (vD L) (bF l) k q)/\(eq=false -> ∃ q,q < t.K/\MV t (vD L) (bF l) i q≠MV t (vD L) (bF l) k q))) (fun _ bv _=>t.K - (intOf bv).toNat)
              case atStart=>exact ⟨true,0,rfl,rfl,aW _,ae ⟨Same.drewN _ _,fun _ q h=>absurd h (iB _),fun h=>(by cases h)⟩⟩
              case round =>
               as_aux_lemma =>
               obtain ⟨eq,b,rfl,rfl,hb,HE⟩:=hrel
               clear d1 b1 b2 x1 f1 m p1 p2
               obtain ⟨wa,oL⟩:∃ wa,wa=wr:=⟨_,rfl⟩
               rw [<- oL] at HE ⊢
               clear oL
               have qb:IntKind.i64.wrap ((b:Int)+1)=(b:Int)+1:=aK _ (by omega)
               have hbl:=HY.1.bk.lv.below
               obtain ⟨ka,kc,c3⟩:=(H.1.below (hbl.trans ((HE.1.below _).mono hbl.size))).c3
               by_cases hgo:b < t.K/\eq=true
               ·obtain ⟨hbK,rfl⟩:=hgo
                have n3:=Bv hbK
                have hkn:k < t.n:=by omega
                have HGO:Hid (∀ (q:Nat) (W:ak),q < t.n->Same w9 W->aX ah 78 #[pT mb,sL lb t.n t.n,sL bb t.n t.n,iV (q:Int),iV (b:Int)] W fun e w'=>e = .returned (iV (MV t (vD L) (bF l) q b))/\Same W w'):=ae fun q W hq hW =>
                 Xo t mb tb eb lb bb q b L l W (H.1.below (hbl.trans ((hW.below _).mono hbl.size))) hn (H.2.1.lt q b hq hbK) (HY.1.bk.lv.row.same hW) HY.1.bk.lv.len (HY.1.bk.row.same hW) HY.1.bk.len HY.1.bk.pos hq hbK
                have HSm:=ae HE.1
                clear hbl
                go_wp2_with (go_at_call 78; refine (HGO _ _ (by first | exact hlt | exact hkn) HSm).mono ?_; rintro e wx ⟨rfl,hx⟩; have HSm:=ae (HSm.trans hx); clear hx)
                exact ⟨⟨_,b+1,rfl,by go_num,by omega,ae ⟨HSm,fun h q hq=>by
                 by_cases e:q=b
                 ·rw [e]
                  exact eq_of_beq h
                 ·exact HE.2.1 (by first | rfl | trivial) q (by omega),fun h=>⟨b,hbK,fun e=>by rw [e] at h; simp at h⟩⟩⟩,by simp [intOf]; omega⟩
               ·cases eq with
                | true =>
                 have hnb:¬ b < t.K:=fun h=>hgo ⟨h,rfl⟩
                 have n3:=OZ hnb
                 have x2:=(HY.1.row.same HE.1).cell (i:=k) (by omega)
                 have x3:=(HY.1.row.same HE.1).cell (i:=i) (by omega)
                 have f3:=(HY.1.row.same HE.1).free i
                 have HW:Hid (Dp w lb t M sets rows (wa.setCell (aD nb i) (iV (Y.getD k 0))) L bb l nb (X.set i (X.getD k 0))/\PC t (vD L) (bF l) X i (k+1) (X.set i (X.getD k 0))):=ae ⟨by
                  have:=(HY.1.kept (HE.1.below _)).set i (Y.getD k 0)
                  rw [QT.1,UM,getD_set_ne _ _ (by omega:k≠i)] at this
                  rw [QT.1,getD_set_ne _ _ (by omega:k≠i)]
                  exact this,.inr ⟨k,hk,HU,⟨HB,fun q hq=>HE.2.1 rfl q (by omega)⟩,rfl⟩⟩
                 generalize Y.getD k 0=yk at *
                 clear hgo hbl
                 go_wp2_with fail
                 all_goals
                  exact ⟨⟨k+1,_,by go_num,by omega,HW⟩,by simp [intOf]; omega⟩
                | false =>
                 obtain ⟨q,hq,hne⟩:=HE.2.2 rfl
                 have HG:=ae (PC.go (X:=X) QT.2 fun _ h=>hne (h.2 q hq))
                 clear hgo hbl hne
                 go_wp2_with fail
                 all_goals
                  exact ⟨⟨k+1,Y,by go_num,by omega,ae ⟨HY.1.kept (HE.1.below _),QT.1 ▸ HG.out⟩⟩,by simp [intOf]; omega⟩
             ·have m:(z2 != z1)=true:=by rw [bne_iff_ne]; exact hzz
              have HG:=ae (PC.go (X:=X) (k:=k) QT.2 fun _ h=>hzz (by
               have h1:=h.1
               unfold bF at h1
               rw [HZ.1,HZ.2] at h1
               omega))
              clear hzz
              go_wp2_with (go_quiet (fail))
              exact ⟨⟨k+1,Y,by go_num,by omega,ae ⟨HY.1.kept ((Same.drewN _ _).below _),QT.1 ▸ HG.out⟩⟩,by simp [intOf]; omega⟩
           ·obtain rfl:k=i:=by omega
            have n2:=OZ hk
            have HW:Hid (Dp w lb t M sets rows (w9.setCell (aD nb k) (iV (c:Int))) L bb l nb (X.set k (c:Int))/\qY t (vD L) (bF l) (bF (X.set k (c:Int))) (k+1) (c+1) /\ ∀ j,j < t.n->0<=(X.set k (c:Int)).getD j 0):=ae ⟨by
             have:=HY.1.set k (c:Int)
             rw [QT.1,UM] at this
             exact this,HX.2.1.new HV (VJ _) QT.2 ((QG X k (c:Int) (by omega)).trans (jI c)),P6 HX.2.2 (by omega) (by omega)⟩
            go_wp2_with fail
            all_goals
             exact ⟨⟨c+1,k+1,_,by go_num,by go_num,by omega,HW⟩,by simp [intOf]; omega⟩
          ·have hy0:0<=y:=by rw [<- hy,hY,kA _ _ _ (by omega)]; exact HX.2.2 j (by omega)
           have m:decide (y < 0)=false:=decide_eq_false (by omega)
           have zh:¬ y < 0:=by omega
           have e1:bF (X.set i (X.getD j 0)) i=bF X j:=QG X i (X.getD j 0) (by omega)
           have h1:=HX.2.1.old HV (VJ (X:=X) (X.getD j 0)) hj hjv hjs e1
           have h2:=P6 HX.2.2 (HX.2.2 j (by omega)) (by omega:i < X.length)
           rw [<- hY] at h1 h2
           have HW:Hid (Dp w lb t M sets rows w9 L bb l nb Y/\qY t (vD L) (bF l) (bF Y) (i+1) c /\ ∀ j,j < t.n->0<=Y.getD j 0):=ae ⟨HY.1,h1,h2⟩
           clear h1 h2 e1
           clear hy hY hjs hjv hj hy0
           go_wp2_with fail
           all_goals
            exact ⟨⟨c,i+1,Y,rfl,by go_num,by omega,HW⟩,by simp [intOf]; omega⟩
       ·obtain rfl:i=t.n:=by omega
        have hBk:AO w lb t M sets rows w8 L nb X:=⟨HX.1.bk.lv,HX.1.row,HX.1.len,HX.2.2,HX.1.past⟩
        by_cases hcw:c=was
        ·subst hcw
         have HE:=ae (aA (Fw.done H.2.1 H.2.2 HX.2.1) hBk.lv.below)
         have m:((c:Int) == (c:Int))=true:=beq_self_eq_true _
         clear hBk
         go_wp2_with fail
         go_ret
         exact ⟨c,rfl,HE⟩
        ·have m:((c:Int) == (was:Int))=false:=by rw [beq_eq_false_iff_ne]; omega
         have HE:=ae (aA hBk (Fw.next H.2.1 H.2.2 HX.2.1 hcw))
         have hlw:=HE.2.2
         clear hBk hcw
         go_wp2_with fail
         exact ⟨⟨nb,c,X,rfl,rfl,by omega,ae ⟨HE.1,HE.2.1⟩⟩,by simp [intOf]; omega⟩
theorem Zr(y:bC)(hy:y.count<=128)(nb st:Nat)(h1:1<=st)(h2:st<=1000)(w:ak)(hN:bu w y nb)(hw:¬(PM.compile y).wide st):aX ah 42 #[pT nb,iV (st:Int)] w λe w'=>∃mb,e= .returned (pT mb)/\aI w.heap.size w w'/\BU w' y st mb:=(Ee y hy nb st h1 h2 w hN).mono λe w' h=>by
 rcases h.2 with⟨_,wK⟩|⟨mb,he,_,hs⟩;·exact absurd wK hw
 ·exact⟨mb,he,h.1,hs⟩
theorem Sd(y:bC)(st mb:Nat)(h2:st<=1000)(w:ak)(hS:BU w y st mb):aX ah 43 #[pT mb] w λe w'=>∃c:Nat,e= .returned (iV (c:Int))/\lM (PM.compile y) c/\aI w.heap.size w w':=by obtain⟨t,tb,eb,sets,rows,hM,hT,hO,hn,hK,_⟩:=Zq hS;exact Ot t mb tb eb (PM.compile y) sets rows w hM hT hO (by omega) (by omega)
def Mx(P:kE)(st:Nat)(num e p:Int):Prop:=match P with| .fault i=>num=0/\e=6/\p=i| .big=>num=0/\e=9/\p=0| .ok x=>((PM.compile x).wide st/\num=0/\e=9/\p=0)\/(¬(PM.compile x).wide st/\∃c:Nat,num=c/\lM (PM.compile x) c/\e=0/\p=0)
def GV(q:nN):kE:=if q.kind=4 then qo ⟨q.a.toArray⟩else gD ⟨q.a.toArray⟩
def lj(q:nN)(st num e p:Int):Prop:=if st<1\/400<st then num=0/\e=4/\p=0 else if q.kind≠4/\q.kind≠5 then num=0/\e=5/\p=0 else if 40<q.a.length then num=0/\e=2/\p=0 else Mx (GV q) st.toNat num e p
theorem lM.eq{M:PM}{n m:Nat}(h:lM M n)(k:lM M m):n=m:=rT.unique h.rB k.rB
theorem lj.eq{q:nN}{st n1 e1 p1 n2 e2 p2:Int}(h:lj q st n1 e1 p1)(k:lj q st n2 e2 p2):n1=n2/\e1=e2/\p1=p2:=by
 unfold lj at h k;split at h;·rename_i h0;rw[if_pos h0]at k;omega
 ·rename_i h0;rw[if_neg h0]at k;split at h;·rename_i h1;rw[if_pos h1]at k;omega
  ·rename_i h1;rw[if_neg h1]at k;split at h;·rename_i h2;rw[if_pos h2]at k;omega
   ·rename_i h2;rw[if_neg h2]at k;generalize GV q=P at h k;cases P with
    |fault i=>obtain⟨a1,a2,a3⟩:=h;obtain⟨b1,b2,b3⟩:=k;omega|big=>obtain⟨a1,a2,a3⟩:=h;obtain⟨b1,b2,b3⟩:=k;omega|ok x=>
     rcases h with⟨hw,a1,a2,a3⟩|⟨hw,c,a1,a2,a3,a4⟩<;>rcases k with⟨kw,b1,b2,b3⟩|⟨kw,d,b1,b2,b3,b4⟩;·omega
     ·exact absurd hw kw
     ·exact absurd kw hw
     ·have:=lM.eq a2 b2;omega
theorem Kq(q:nN)(st:Int)(w:ak)(h:(st<1\/400<st)\/(q.kind≠4/\q.kind≠5)):aX ah 18 #[xD q,iV st] w λe w'=>(∃en,e= .returned (.tuple #[iV 0,iV en,iV 0])/\lj q st 0 en 0)/\aI w.heap.size w w':=by
 have hb:aI w.heap.size w (w.alloc (.cells #[iV q.kind,.string ⟨q.a.toArray⟩,.string ⟨q.b.toArray⟩,iV q.n] 34)):=(aB _ w).alloc (au _) _;have HB:=ae hb;unfold xD dC;by_cases h0:st<1\/400<st;·
  have HA:Hid (lj q st 0 4 0):=ae (by unfold lj;rw[if_pos h0];exact⟨rfl,rfl,rfl⟩);clear h hb;by_cases h1:st<1;·clear h0;go_enter AU,yg;go_wp2_with fail;go_ret3;exact⟨⟨4,rfl,HA⟩,HB⟩
  ·have h2:400<st:=h0.resolve_left h1;clear h0;go_enter AU,yg;go_wp2_with fail;go_ret3;exact⟨⟨4,rfl,HA⟩,HB⟩
 ·obtain⟨k4,k5⟩:=h.resolve_left h0;have HA:Hid (lj q st 0 5 0):=ae (by unfold lj;rw[if_neg h0,if_pos ⟨k4,k5⟩];exact⟨rfl,rfl,rfl⟩);have h1:¬st<1:=by omega
  have h2:¬400<st:=by omega
  have m4:(q.kind !=4)=true:=by rw[bne_iff_ne];exact k4
  have m5:(q.kind !=5)=true:=by rw[bne_iff_ne];exact k5
  clear h hb h0;go_enter AU,yg;go_wp2_with fail;go_ret3;exact⟨⟨5,rfl,HA⟩,HB⟩
theorem rF(k:Int)(a b:List UInt8)(n:Int)(st en ep:Int)(w:ak)(hk:k=4\/k=5)(hst:1<=st/\st<=400)(hen:en≠0)(hc:∀W,aI w.heap.size w W->aX ah 41 #[.agg #[iV k,.string ⟨a.toArray⟩,.string ⟨b.toArray⟩,iV n],iV st] W λe w'=>e= .returned (.tuple #[.pointer none,iV en,iV ep])/\aI W.heap.size W w'):aX ah 18 #[.agg #[iV k,.string ⟨a.toArray⟩,.string ⟨b.toArray⟩,iV n],iV st] w λe w'=>e= .returned (.tuple #[iV 0,iV en,iV ep])/\aI w.heap.size w w':=by
 have HB:Hid (∀k:Int,aI w.heap.size w (w.alloc (.cells #[iV k,.string ⟨a.toArray⟩,.string ⟨b.toArray⟩,iV n] 34))):=ae λk=>(aB _ w).alloc (au _) _;have HC:=ae hc;have h1:¬st<1:=by omega
 have h2:¬400<st:=by omega
 have m:(en !=0)=true:=by rw[bne_iff_ne];exact hen
 clear hc hen;rcases hk with rfl|rfl;all_goals go_enter AU,yg;go_wp2_with(go_at_call 41;refine(HC _ (HB _)).mono ?_;rintro e w2⟨rfl,hb⟩;have H2:=ae hb;clear hb);go_ret3;exact⟨rfl,(HB _).trans (H2.mono (HB _).size)⟩
theorem Ny(k:Int)(a b:List UInt8)(n s0:Int)(st:Nat)(x:bC)(w:ak)(hk:k=4\/k=5)(hst:1<=st/\st<=400)(hc:wZ w k a b n s0 st (.ok x)):aX ah 18 #[.agg #[iV k,.string ⟨a.toArray⟩,.string ⟨b.toArray⟩,iV n],iV (st:Int)] w λe w'=>(∃num en:Int,e= .returned (.tuple #[iV num,iV en,iV 0])/\Mx (.ok x) st num en 0)/\aI w.heap.size w w':=by
 unfold wZ xD dC at hc;by_cases hw:(PM.compile x).wide st;·
  refine(rF k a b n st 9 0 w hk (by omega) (by decide) λW hW=>(hc W hW).mono λe w' h=>⟨?_,h.1⟩).mono λe w' h=>⟨⟨0,9,h.1,.inl ⟨hw,rfl,rfl,rfl⟩⟩,h.2⟩;rcases h.2 with⟨h1,_⟩|⟨h1,_⟩;·exact h1
  ·exact absurd hw h1
 ·have HB:Hid (∀k:Int,aI w.heap.size w (w.alloc (.cells #[iV k,.string ⟨a.toArray⟩,.string ⟨b.toArray⟩,iV n] 34))):=ae λk=>(aB _ w).alloc (au _) _;have HC:Hid (∀W,aI w.heap.size w W->aX ah 41 #[.agg #[iV k,.string ⟨a.toArray⟩,.string ⟨b.toArray⟩,iV n],iV (st:Int)] W λe w'=>∃nb y,e= .returned (.tuple #[pT nb,iV 0,iV 0])/\aI W.heap.size W w'/\bu w' y nb/\PM.compile y=PM.compile x/\y.count<=128):=ae λW hW=>(hc W hW).mono λe w' h=>by
   rcases h.2 with⟨_,h1⟩|⟨_,nb,y,h1,h2,h3,h4,_⟩;·exact absurd h1 hw
   ·exact⟨nb,y,h1,h.1,h2,h3,h4⟩
  have h1:¬((st:Int)<1):=by omega
  have h2:¬(400<(st:Int)):=by omega
  have h1':¬(st<1):=by omega
  have h2':¬(400<st):=by omega
  have HST:=ae (aA hst hw);clear hc hst hw;rcases hk with rfl|rfl;all_goals go_enter AU,yg;go_wp2_with(first|(go_at_call 41;refine(HC.out _ (HB.out _)).mono ?_;rintro e w2⟨nb,y,rfl,hb,hN,hcm,LG⟩;have H2:=ae (show _/\_/\_/\_ from⟨hb,hN,hcm,LG⟩);clear hb hN hcm LG)|(go_at_call 42;refine(Zr y H2.2.2.2 nb st HST.1.1 (by omega) _ H2.2.1 (by rw[H2.2.2.1];exact HST.2)).mono ?_;rintro e w3⟨mb,rfl,hb,hs⟩;have H3:=ae (aA hb hs);clear hb hs)|(go_at_call 43;refine(Sd y st mb (by omega) _ H3.2).mono ?_;rintro e w4⟨c,rfl,hl,hb⟩;have H4:=ae (aA hl hb);clear hb hl));go_ret3;refine⟨⟨c,0,rfl,.inr ⟨HST.2,c,rfl,by rw[<-H2.2.2.1];exact H4.1,rfl,rfl⟩⟩,?_⟩;have h12:=(HB _).trans (H2.1.mono (HB _).size);have h13:=h12.trans (H3.1.mono h12.size);exact h13.trans (H4.2.mono h13.size)
theorem Kp(q:nN)(st:Int)(w:ak):aX ah 18 #[xD q,iV st] w λe w'=>(∃num en p:Int,e= .returned (.tuple #[iV num,iV en,iV p])/\lj q st num en p)/\aI w.heap.size w w':=by
 by_cases hbad:(st<1\/400<st)\/(q.kind≠4/\q.kind≠5);·exact(Kq q st w hbad).mono λe w'⟨⟨en,h1,h2⟩,h3⟩=>⟨⟨0,en,0,h1,h2⟩,h3⟩
 ·have hst:¬(st<1\/400<st):=λh=>hbad (.inl h);have hkk:¬(q.kind≠4/\q.kind≠5):=λh=>hbad (.inr h);have hk:q.kind=4\/q.kind=5:=by omega
  clear hbad;obtain⟨m,rfl⟩:∃m:Nat,st=m:=⟨st.toNat,by omega⟩;obtain⟨k,a,b,n,s0⟩:=q;simp only at hk hkk;have hm:1<=(m:Int)/\(m:Int)<=400:=by omega
  by_cases ha:40<a.length;·
   have hA:lj ⟨k,a,b,n,s0⟩ m 0 2 0:=by unfold lj;rw[if_neg hst,if_neg hkk,if_pos ha];exact⟨rfl,rfl,rfl⟩
   obtain⟨k',rfl⟩:∃k':Nat,k=k':=⟨k.toNat,by omega⟩;refine(rF k' a b n m 2 0 w hk hm (by decide) λW hW=>((Jt k' a b n s0 m w (by omega) ha) hm W hW).mono λe w' h=>⟨h.2.2,h.1⟩).mono λe w' h=>⟨⟨0,2,0,h.1,hA⟩,h.2⟩
  ·have hA:∀num en p,Mx (GV ⟨k,a,b,n,s0⟩) m num en p->lj ⟨k,a,b,n,s0⟩ m num en p:=λnum en p h=>by unfold lj;rw[if_neg hst,if_neg hkk,if_neg ha,jI];exact h
   have hc:wZ w k a b n s0 m (GV ⟨k,a,b,n,s0⟩):=by
    rcases hk with rfl|rfl;·exact Gn a b n s0 m w (by omega) hm
    ·exact Ju a b n s0 m w (by omega) hm
   generalize GV ⟨k,a,b,n,s0⟩=P at hA hc;cases P with|fault i=>exact(rF k a b n m 6 i w hk hm (by decide) λW hW=>(hc W hW).mono λe w' h=>⟨h.2,h.1⟩).mono λe w' h=>⟨⟨0,6,i,h.1,hA _ _ _ ⟨rfl,rfl,rfl⟩⟩,h.2⟩|big=>exact(rF k a b n m 9 0 w hk hm (by decide) λW hW=>(hc W hW).mono λe w' h=>⟨h.2,h.1⟩).mono λe w' h=>⟨⟨0,9,0,h.1,hA _ _ _ ⟨rfl,rfl,rfl⟩⟩,h.2⟩|ok x=>exact(Ny k a b n s0 m x w hk (by omega) hc).mono λe w'⟨⟨num,en,h1,h2⟩,h3⟩=>⟨⟨num,en,0,h1,hA _ _ _ h2⟩,h3⟩
end Go.Proofs.Tl
namespace Go.Proofs.Ts
open Go Go.RowKit
def BS(w:ak)(P:kE)(most:Nat)(e:rY)(w':ak):Prop:=aI w.heap.size w w'/\∃r ev,X5 P most r/\e= .returned (.tuple #[.int .i64 r.num,ev])/\QN w w' ev r
theorem Rq(a b:ByteArray)(n:Int)(most:Nat)(w:ak)(ha:a.size<=40)(hT:eN w)(h1:1<=most)(h4:most<=400):aX ah 39 #[.agg #[iV 5,.string a,.string b,iV n],iV most] w (BS w (gD a) most):=by
 have HT:=ae hT;have g1:decide ((most:Int)<1)=false:=decide_eq_false (by omega);have g2:decide ((400:Int)<(most:Int))=false:=decide_eq_false (by omega);have g3:decide ((40:Int)<(a.size:Int))=false:=decide_eq_false (by omega);clear hT;go_enter vz,sW;go_wp2_with fail;obtain⟨W,hW⟩:∃W,W=w.alloc (.cells #[iV 5,.string a,.string b,iV n] 34):=⟨_,rfl⟩;have hbW:aI w.heap.size w W:=by rw[hW];exact(aB _ w).alloc (au _) _
 rw[<-hW];have HW:=ae hbW;clear hW hbW;refine(Om a b n most W (by omega) (HT.below HW) h1 h4).mono ?_;rintro e w2⟨hb2,r,mv,nn,ev,hr,rfl,hev,hend⟩;have H2:=ae (aA (HW.trans (hb2.mono HW.size)) (aA hr (aA hev hend)));have DK:=ae HW.size;clear hb2 hr hev hend;go_wp2_with fail;go_ret2;refine⟨H2.1,r,ev,H2.2.1,?_,?_⟩;·
  rcases H2.2.2.2 with⟨x,c,rfl,rfl,_⟩|⟨hno,rfl,_⟩;·rfl
  ·cases r with|fault i=>rfl|big=>rfl|ok x c=>exact absurd rfl (hno x c)
 ·have k:=H2.2.2.1;cases r with|fault i=>obtain⟨b2,k1,k2,k3⟩:=k;exact⟨b2,aZ DK k1,k2,k3⟩|big=>exact k|ok x c=>exact k
end Go.Proofs.Ts
namespace Go.Proofs.Tl
open Go Go.RowKit Go.Proofs.Ts
def x9(w:ak)(R:Int->Int->Int->Prop)(e:rY)(w':ak):Prop:=aI w.heap.size w w'/\∃num ev f p,e= .returned (.tuple #[.int .i64 num,ev])/\R num f p/\aX ah 40 #[ev] w' λe2 w2=>e2= .returned (.tuple #[.int .i64 f,.int .i64 p])/\aI w'.heap.size w' w2
theorem x9.of{w w':ak}{P:kE}{most:Nat}{e:rY}(hE:nD w)(h:BS w P most e w'):x9 w (λnum f p=>∃at',Mx P most num f at'/\p=if f=6 then at' else-1) e w':=by
 obtain⟨hb,r,ev,hr,he,hv⟩:=h;have hE2:=hE.below hb;refine⟨hb,r.num,ev,r.err,r.place,he,?_,?_⟩;·cases r with
  |fault i=>have hr':P= .fault i:=hr;subst hr';exact⟨i,⟨rfl,rfl,rfl⟩,by rw[if_pos (show(Gw.fault i).err=6 from rfl)];rfl⟩|big=>
   rcases hr with rfl|⟨x,rfl,hw⟩;·exact⟨0,⟨rfl,rfl,rfl⟩,by rw[if_neg (by decide)];rfl⟩
   ·exact⟨0,.inl ⟨hw,rfl,rfl,rfl⟩,by rw[if_neg (by decide)];rfl⟩|ok x c=>obtain⟨rfl,hs,hl⟩:=hr;exact⟨0,.inr ⟨λhw=>PM.GK hs hw,c,rfl,hl,rfl,rfl⟩,by rw[if_neg (show¬(Gw.ok x c).err=6 by show¬(0:Int)=6;decide)];rfl⟩
 ·cases r with|fault i=>obtain⟨b2,_,rfl,k3⟩:=hv;exact U5 6 i b2 w' hE2 k3|big=>have hv':ev=_:=hv;subst hv';exact yB 9 w' hE2|ok x c=>have hv':ev=_:=hv;subst hv';exact Kk w'
theorem Ko(a b:ByteArray)(n:Int)(most:Nat)(w:ak)(ha:a.size<=40)(hT:eN w)(h1:1<=most)(h4:most<=400):aX ah 39 #[.agg #[iV 4,.string a,.string b,iV n],iV most] w (BS w (qo a) most):=by
 have HT:=ae hT;have g1:¬((most:Int)<1):=by omega
 have g2:¬(400<(most:Int)):=by omega
 have g1':¬(most<1):=by omega
 have g2':¬(400<most):=by omega
 have g3:decide ((40:Int)<(a.size:Int))=false:=decide_eq_false (by omega);have g3':¬(40<a.size):=by omega
 clear hT;go_enter vz,sW;go_wp2_with fail;obtain⟨W,hW⟩:∃W,W=w.alloc (.cells #[iV 4,.string a,.string b,iV n] 34):=⟨_,rfl⟩;have hbW:aI w.heap.size w W:=by rw[hW];exact(aB _ w).alloc (au _) _
 rw[<-hW];have HW:=ae hbW;clear hW hbW;refine(Ol a b n most W (by omega) (HT.below HW) h1 h4).mono ?_;rintro e w2⟨hb2,r,mv,nn,ev,hr,rfl,hev,hend⟩;have H2:=ae (aA (HW.trans (hb2.mono HW.size)) (aA hr (aA hev hend)));have DK:=ae HW.size;clear hb2 hr hev hend;go_wp2_with fail;go_ret2;refine⟨H2.1,r,ev,H2.2.1,?_,?_⟩;·
  rcases H2.2.2.2 with⟨x,c,rfl,rfl,_⟩|⟨hno,rfl,_⟩;·rfl
  ·cases r with|fault i=>rfl|big=>rfl|ok x c=>exact absurd rfl (hno x c)
 ·have k:=H2.2.2.1;cases r with|fault i=>obtain⟨b2,k1,k2,k3⟩:=k;exact⟨b2,aZ DK k1,k2,k3⟩|big=>exact k|ok x c=>exact k
theorem vS(k:Int)(a b:ByteArray)(n st en:Int)(w:ak)(hE:nD w)(h:(st<1\/400<st)/\en=4\/¬(st<1\/400<st)/\(k≠4/\k≠5)/\en=5\/¬(st<1\/400<st)/\(k=4\/k=5)/\40<a.size/\en=2):aX ah 39 #[.agg #[iV k,.string a,.string b,iV n],iV st] w (x9 w λnum f p=>num=0/\f=en/\p=-1):=by
 have HB:Hid (∀k:Int,aI w.heap.size w (w.alloc (.cells #[iV k,.string a,.string b,iV n] 34))):=ae λk=>(aB _ w).alloc (au _) _;have HE:Hid (∀(en:Int)(W:ak),aI w.heap.size w W->x9 w (λnum f p=>num=0/\f=en/\p=-1) (.returned (.tuple #[iV 0,.iface 43 (iV en)])) W):=ae λen W hW=>⟨hW,0,_,en,-1,rfl,⟨rfl,rfl,rfl⟩,yB en W (hE.below hW)⟩;clear hE;rcases h with⟨h0,rfl⟩|⟨h0,⟨k4,k5⟩,rfl⟩|⟨h0,hk,ha,rfl⟩;·
  by_cases h1:st<1;·clear h0;go_enter vz,sW;go_wp2_with fail;go_ret2;exact HE _ _ (HB _)
  ·have h2:400<st:=h0.resolve_left h1;clear h0;go_enter vz,sW;go_wp2_with fail;go_ret2;exact HE _ _ (HB _)
 ·have h1:¬st<1:=by omega
  have h2:¬400<st:=by omega
  have m4:(k !=4)=true:=by rw[bne_iff_ne];exact k4
  have m5:(k !=5)=true:=by rw[bne_iff_ne];exact k5
  clear h0;go_enter vz,sW;go_wp2_with fail;go_ret2;exact HE _ _ (HB _)
 ·have h1:¬st<1:=by omega
  have h2:¬400<st:=by omega
  have g3:decide ((40:Int)<(a.size:Int))=true:=decide_eq_true (by omega);clear h0;rcases hk with rfl|rfl;all_goals go_enter vz,sW;go_wp2_with fail;go_ret2;exact HE _ _ (HB _)
theorem Kr(q:nN)(st:Int)(w:ak)(hT:eN w)(hE:nD w):aX ah 39 #[xD q,iV st] w (x9 w λnum f p=>∃at',lj q st num f at'/\p=if f=6 then at' else-1):=by
 obtain⟨k,a,b,n,s0⟩:=q;have hs:kR ⟨a.toArray⟩=a.length:=by simp[kR]
 have hend:∀{R R':Int->Int->Int->Prop}{e:rY}{w':ak},(∀num f p,R num f p->R' num f p)->x9 w R e w'->x9 w R' e w':=λhR h=>by obtain⟨h1,num,ev,f,p,h2,h3,h4⟩:=h;exact⟨h1,num,ev,f,p,h2,hR _ _ _ h3,h4⟩
 unfold xD dC;simp only;by_cases h0:st<1\/400<st;·refine(vS k ⟨a.toArray⟩ ⟨b.toArray⟩ n st 4 w hE (.inl ⟨h0,rfl⟩)).mono λe w' h=>hend (λnum f p⟨h1,h2,h3⟩=>⟨0,?_,by rw[h3,h2,if_neg (by decide)]⟩) h;unfold lj;rw[if_pos h0];exact⟨h1,h2,rfl⟩
 ·by_cases hk:k≠4/\k≠5;·refine(vS k ⟨a.toArray⟩ ⟨b.toArray⟩ n st 5 w hE (.inr (.inl ⟨h0,hk,rfl⟩))).mono λe w' h=>hend (λnum f p⟨h1,h2,h3⟩=>⟨0,?_,by rw[h3,h2,if_neg (by decide)]⟩) h;unfold lj;rw[if_neg h0,if_pos hk];exact⟨h1,h2,rfl⟩
  ·have hk':k=4\/k=5:=by omega
   by_cases ha:40<a.length;·refine(vS k ⟨a.toArray⟩ ⟨b.toArray⟩ n st 2 w hE (.inr (.inr ⟨h0,hk',by rw[hs];exact ha,rfl⟩))).mono λe w' h=>hend (λnum f p⟨h1,h2,h3⟩=>⟨0,?_,by rw[h3,h2,if_neg (by decide)]⟩) h;unfold lj;rw[if_neg h0,if_neg hk,if_pos ha];exact⟨h1,h2,rfl⟩
   ·obtain⟨m,rfl⟩:∃m:Nat,st=m:=⟨st.toNat,by omega⟩;have hA:∀num f p,(∃at',Mx (GV ⟨k,a,b,n,s0⟩) m num f at'/\p=if f=6 then at' else-1)->∃at',lj ⟨k,a,b,n,s0⟩ m num f at'/\p=if f=6 then at' else-1:=λnum f p⟨at',h1,h2⟩=>⟨at',by unfold lj;rw[if_neg h0,if_neg hk,if_neg ha,jI];exact h1,h2⟩;rcases hk' with rfl|rfl;·exact(Ko ⟨a.toArray⟩ ⟨b.toArray⟩ n m w (by omega) hT (by omega) (by omega)).mono λe w' h=>hend hA (x9.of hE h)
    ·exact(Rq ⟨a.toArray⟩ ⟨b.toArray⟩ n m w (by omega) hT (by omega) (by omega)).mono λe w' h=>hend hA (x9.of hE h)
theorem Da(q:nN)(st:Int)(w:ak)(hT:eN w)(hE:nD w):aX ah 17 #[xD q,iV st] w λe w'=>(∃num f at':Int,e= .returned (.tuple #[iV num,iV f,iV (if f=6 then at' else-1)])/\lj q st num f at')/\aI w.heap.size w w':=by have HB:=ae (show aI w.heap.size w (w.alloc (.cells #[iV q.kind,.string ⟨q.a.toArray⟩,.string ⟨q.b.toArray⟩,iV q.n] 34))from(aB _ w).alloc (au _) _);have HS:Hid (∀W,aI w.heap.size w W->aX ah 39 #[xD q,iV st] W (x9 W λnum f p=>∃at',lj q st num f at'/\p=if f=6 then at' else-1)):=ae λW hW=>Kr q st W (hT.below hW) (hE.below hW);clear hT hE;unfold xD dC at*;go_enter Tryz.func17,Tryz.ntmps17;go_wp2_with(first|(go_at_call 39;refine(HS.out _ HB.out).mono ?_;rintro e w2⟨hb,num,ev,f,p,rfl,hr,ht⟩;have H2:=ae (aA hb hr);have HT:=ae ht;clear hb hr ht)|(go_at_call 40;refine HT.mono ?_;rintro e w3⟨rfl,hb⟩;have H3:=ae hb;clear hb));go_ret3;obtain⟨at',h1,h2⟩:=H2.2;have h12:=HB.trans (H2.1.mono HB.size);exact⟨⟨num,f,at',by rw[<-h2];rfl,h1⟩,h12.trans (H3.mono h12.size)⟩
theorem We(w:ak):fV w (.slice none 0 0) []:=⟨rfl,.inl ⟨rfl,rfl⟩⟩
theorem Zm(f a:Int)(w:ak):aX ah 19 #[iV f,iV (if f=6 then a else-1),iV f,iV a] w λe w'=>e= .returned (.bool true)/\Same w w':=by have:=U4 f (if f=6 then a else-1) f a w;rw[show Ec f (if f=6 then a else-1) f a=true by unfold Ec;simp]at this;exact this
theorem Km(o:qf)(hk:o.kind=9)(n wb:Nat)(Env:ak->Prop)(w:ak)(h:gw n w wb Env)(hE:∀W,Env W->CW W):aX ah 13 #[aP wb,MO o] w λe w'=>e= .returned (.bool true)/\gw (n+1) w' wb Env:=by have hP:=h.box (.cells o.cells 37);have HS:=ae (show∀W,aI (w.alloc (.cells o.cells 37)).heap.size (w.alloc (.cells o.cells 37)) W->_ fromλW hW=>Da o.q o.b W ((hE _ hP.env.1).bits.below hW) ((hE _ hP.env.1).err.1.below hW));have HR:=ae (λW=>Kp o.q o.b W);obtain⟨kd,oa,ob,oc,qk,qa,qb,qn,dv,docs,os⟩:=o;simp only at hk;subst hk;have HP:=ae (hP.weaken λ_ h=>h.1);clear hP hE h;unfold aP MO qf.cells qf.q xD dC at*;simp only at HS HR HP⊢;have HO:=ae (heap_alloc_new w (.cells #[iV 9,iV oa,iV ob,iV oc,iV qk,.string ⟨qa.toArray⟩,.string ⟨qb.toArray⟩,iV qn,dv,.string ⟨os.toArray⟩] 37));go_enter Tryz.func13,Tryz.ntmps13;go_wp2_with(first|(go_at_call 17;refine(HS.out _ (aB _ _)).mono ?_;rintro e w2⟨⟨num,f,a,rfl,hr⟩,hb⟩;have hop:=(hb.block _ (lt_of_heap HO.out)).trans HO.out;have p2:w2.cell? (aD w.heap.size 2)=some (iV ob):=aq hop;have p4:w2.cell? (aD w.heap.size 4)=some (iV qk):=aq hop;have p5:w2.cell? (aD w.heap.size 5)=some (.string ⟨qa.toArray⟩):=aq hop;have p6:w2.cell? (aD w.heap.size 6)=some (.string ⟨qb.toArray⟩):=aq hop;have p7:w2.cell? (aD w.heap.size 7)=some (iV qn):=aq hop;have H2:=ae (aA hb hr);clear hb hr hop)|(go_at_call 18;refine(HR _).mono ?_;rintro e w3⟨⟨asT,f2,a2,rfl,hr⟩,hb⟩;have H3:=ae hb;obtain⟨rfl,rfl,rfl⟩:=lj.eq H2.2 hr;clear hb hr)|(go_at_call 19;refine(Zm _ _ _).mono ?_;rintro e w4⟨rfl,hs⟩;have H4:=ae hs;clear hs));all_goals go_ret;have h23:=H2.1.trans (H3.mono H2.1.size);exact⟨rfl,(HP.below (h23.trans ((H4.below _).mono h23.size))).mono (uU n)⟩
theorem Im(w0:ak)(v kv qv:ay)(ops:List qf)(ks qs:List Int)(hks:∀k∈ks,k=9):∀o∈ops,GU ks qs o=true->o.docs.length<=65536->∀n wb W,n<=65536->gw n W wb (lL w0 v kv qv ops ks qs)->aX ah 13 #[aP wb,MO o] W λe w'=>e= .returned (.bool true)/\gw (n+1) w' wb (lL w0 v kv qv ops ks qs):=by
 intro o ho hp hd n wb W hn hP;obtain⟨i,hi,he⟩:=List.getElem_of_mem ho;have hsc:∀W,lL w0 v kv qv ops ks qs W->jU W o.dv o.docs/\o.Fits:=λW hW=>by obtain⟨a,cap,_,hc⟩:=hW.script;obtain⟨_,h2,h3,_⟩:=hc i hi;rw[he]at h2 h3;exact⟨h2,h3⟩
 have hf:=(hsc W hP.env).2;have hin:o.kind=1\/o.kind=10\/o.kind=11\/o.kind∈ks:=by
  unfold GU inB at hp;rw[cR,eU,eU,eU,beq_iff_eq,beq_iff_eq,beq_iff_eq,List.any_eq_true]at hp;rcases hp.1 with((h|h)|h)|⟨k,hk,h⟩;·exact .inl h
  ·exact .inr (.inl h)
  ·exact .inr (.inr (.inl h))
  ·rw[beq_iff_eq]at h;exact .inr (.inr (.inr (h▸hk)))
 rcases hin with h|h|h|h;·exact Nw o h n wb _ W hP (by omega) (λW hW=>⟨hW.env,(hsc W hW).1⟩) (by omega)
 ·exact(GH o hf (.inl h) n wb _ W hP (by omega)).mono λe w'⟨h1,h2⟩=>⟨h1,h2.mono (by omega)⟩
 ·exact(GH o hf (.inr h) n wb _ W hP (by omega)).mono λe w'⟨h1,h2⟩=>⟨h1,h2.mono (by omega)⟩
 ·exact Km o (hks _ h) n wb _ W hP λW hW=>hW.env
theorem xm(ops:List qf)(v:ay)(w:ak)(hE:CW w)(hS:qW w v ops)(hl:ve ops.length):aX ah 9 #[v] w λe w'=>e= .returned (.bool true)/\aI w.heap.size w w':=by have hb:=(aB w.heap.size w).alloc (au _) (.cells #[iV 9] 3);have h1:=heap_alloc_new w (.cells #[iV 9] 3);have hpe:lL (w.alloc (.cells #[iV 9] 3)) v (sL w.heap.size 1 1) (.slice none 0 0) ops [9] [] (w.alloc (.cells #[iV 9] 3)):=⟨aB _ _,hE.kept hb.block,hS.cells λb j u hu=>(hb.cell (p:=(aD b j)) (lt_of_cell hu)).trans hu,Wh (L:=[9]) rfl h1 (by decide),We _⟩;have HPL:=ae (RJ ops [9] [] v _ _ _ hpe hl (by decide) (by decide) (Im _ _ _ _ _ _ _ (by simp)));have HB:=ae hb;obtain⟨a,cap,rfl,_⟩:=hS;clear hpe h1 hb hE;go_enter Tryz.func9,Tryz.ntmps9;go_wp2_with(go_at_call 11;refine HPL.mono ?_;rintro e w1⟨rfl,hb1⟩;have jG:=ae hb1;clear hb1);go_ret;exact⟨rfl,HB.trans (jG.mono HB.size)⟩
end Go.Proofs.Tl
namespace Go.Proofs.YtffjomnnkilhgaaGreatDoor.least
open Go Go.ChangeShapes Go.ChangeMaps Go.WideShapes Go.ChangeAt Go.RowKit
theorem reads(os:Os){H:Type}(enc:dx×ay->H):(DataW.whole enc ah ((card.yO os).forCall (λ_ _=>0) ⟨#[],#[.slice none 0 0],[]⟩).memory Tryz.f9.params.toList Rows.leastSpec.vars false #[cY none 0 0].toList 8).isSome=true:=by kernel_rfl
theorem contract(H:Type)(enc:dx×ay->H)(W:ak)(base:Nat)(args:Array ay)(ds gs:List (DataW H))(before:List MemPlace)(hval:∀(j:Nat)t v,Tryz.f9.params[j]?=some t->args[j]?=some v->Value.okWide ah W .any base t v)(hW:DataW.Whole enc ah Tryz.f9.params.toList Rows.leastSpec.vars false W args.toList ds gs before)(vt:List dx)(hwt:(DataW.weightsEach ah (Tryz.f9.params.toList++vt) (ds++gs)).all (·<=reachBytes)=true)(hE:Tl.CW W):aX ah 9 args W λe W'=>∃v,e= .returned v/\Rows.leastSpec.post enc ah afJ false true false false W args v W':=by
 have hW':=hW;obtain⟨p,q,hA0,hV,rfl,_,_⟩:=hW;have hA:DataW.TrodAll enc ah W 0 (λ_=>true) true Tryz.f9.params.toList args.toList ds p:=hA0;rw[Tryz.params9]at hA hval hwt;obtain⟨v0,d0,rfl,rfl,h0⟩:=trodAll_one hA;obtain⟨rfl,rfl⟩:=trodVars_none hV;have hsl:=okWide_slice Tryz.underlying22 (hval 0 22 v0 rfl rfl);have h0k:=h0;have hw0:∀n∈d0.weights ah 22,n<=reachBytes:=λn hn=>by rw[List.all_eq_true]at hwt;have:=hwt n (DataW.weights_mem_each (j:=0) rfl rfl n hn);simpa using this
 obtain⟨ops,al1,hol⟩:=card.Rw h0 hsl hw0;clear hA0;simp only[List.append_nil]at hW';have hlt:∀x∈p,x.block<W.heap.size:=λx hx=>by simpa using hW'.lt x hx
 refine(Tl.xm ops v0 W hE al1 hol).mono ?_;rintro e W'⟨rfl,hb⟩;refine⟨_,rfl,_,_,_,[],p,[],hW',?_,?_,rfl,hb.frame _,λh=>by cases h⟩;·exact trodAll_mk1 (shut_bool Tryz.underlying4 true)
 ·exact trodAll_mk1 (Below.trod card.laidOut (by kernel_rfl) (of_decide_eq_true (by kernel_rfl)) h0k hb hlt)
theorem lifted (os:Os) (started:os.Started) (H:Type) (enc:dx × ay->H) (F:Stop.Interp) :
  ReturnsInHanded {} UK os 9 .any ((vA Rows.leastSpec).preRow enc ah afJ Rows.leastRow.domain false Rows.leastRow.laid) (((vA Rows.leastSpec).at F).post enc ah afJ false true false false):=by
 obtain ⟨x,hx⟩:=Option.isSome_iff_exists.1 (reads os enc)
 refine returnsInHanded_of_row (C:=UK) (s:=vA Rows.leastSpec) card.own started (by kernel_rfl) Tryz.func9
  (witness_row_at (enc:=enc) (C:=UK) false (card.yO os) #[.slice none 0 0] rfl (by kernel_rfl) (by kernel_rfl) (by kernel_rfl)
   (OpenSpec.preRow_of_cond 8 hx rfl (fun k hk=>by cases hk) (by kernel_rfl) (card.Si os _))) ?_
 intro W base args ds gs before hval hW _ _ hwt hL hSh _
 exact contract H enc W base args ds gs before hval hW _ hwt ⟨⟨card.aeM hL (List.mem_filter.2 ⟨.tail _ (.tail _ (.head _)),by kernel_rfl⟩),card.ND hSh⟩,card.aaT hL hSh (List.mem_filter.2 ⟨.head _,by kernel_rfl⟩),
  card.Zo hL hSh (List.mem_filter.2 ⟨.tail _ (.tail _ (.tail _ (.tail _ (.head _)))),by kernel_rfl⟩) (List.mem_filter.2 ⟨.tail _ (.head _),by kernel_rfl⟩)⟩
end Go.Proofs.YtffjomnnkilhgaaGreatDoor.least
namespace Go.Proofs.YtffjomnnkilhgaaGreatDoor.least
open Go Go.ChangeShapes Go.ChangeMaps Go.WideShapes Go.ChangeAt
set_option maxHeartbeats 0 in theorem closed:joinedFacts Tryz.pinned.checked.prog 9 afJ (vA Rows.leastSpec).bare Rows.leastRow=true:=by unfold joinedFacts;simp only[cR];and_intros;all_goals(as_aux_lemma=>kernel_rfl)
end Go.Proofs.YtffjomnnkilhgaaGreatDoor.least
