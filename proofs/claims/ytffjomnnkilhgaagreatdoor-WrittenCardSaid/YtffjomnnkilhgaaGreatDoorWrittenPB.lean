/- Lemmas towards the statement Written of termsearch: walks of the program's functions and plain laws on lists (TsGraph, TsHits, TsWords, TsKeep1, TsKeep2). Conditions: those that each theorem names. -/
import Derived.Test.YtffjomnnkilhgaaGreatDoorWrittenPA
import Derived.Lib.FieldsP
import Derived.Test.YtffjomnnkilhgaaGreatDoorProg
set_option linter.unusedVariables false
set_option linter.unusedSimpArgs false
set_option linter.unusedSectionVars false
namespace Go.Proofs.Ts
open Go Go.RowKit
abbrev Word:=List UInt8
def wordsAt (f:Bool) (es:List (UInt8 × Nat)) (L:Nat→List Word):List Word:=(if f then [[]] else [])++es.flatMap fun p=>(L p.2).map (p.1 :: ·)
def Settled (s:St) (n:Nat):Prop:=(get s.ids n).isSome
def Asc (es:List (UInt8 × Nat)):Prop:=es.Pairwise fun p q=>p.1 < q.1
structure Numbered (s:St) (L:Nat→List Word):Prop where
 apart:Apart s.ids
 nums:∀ (i:Nat) (p:Nat × Nat),s.ids[i]?=some p→p.2=i
 node:∀ n,Settled s n → ∃ nd,s.G n=some nd∧Asc nd.edges∧(∀ p∈nd.edges,Settled s p.2∧idOf s.ids p.2 < idOf s.ids n)∧L n=wordsAt nd.final nd.edges L
 known:∀ p∈s.kn,Settled s p.2 ∧ ∃ nd,s.G p.2=some nd∧shapeOf s.ids nd=p.1
 all:∀ n nd,Settled s n→s.G n=some nd→get s.kn (shapeOf s.ids nd)=some n
 ne:∀ n,Settled s n→L n≠[]
def Sp (s:St) (L:Nat→List Word):Nat→List UInt8→List Nat→List Word→Prop
 | n,[],[],W=>∃ nd,s.G n=some nd∧get s.ids n=none∧Asc nd.edges∧(∀ p∈nd.edges,Settled s p.2)∧W=wordsAt nd.final nd.edges L
 | n,c :: u,m :: ns,W=>∃ nd es V,s.G n=some nd∧get s.ids n=none∧Asc nd.edges∧nd.edges=es++[(c,m)]∧(∀ p∈es,Settled s p.2) ∧ ¬ n∈m :: ns∧Sp s L m u ns V ∧
   W=wordsAt nd.final es L++V.map (c :: ·)
 | _,_,_,_=>False
def FI (s:St) (root:Nat) (u:List UInt8) (ns:List Nat) (W:List Word):Prop:=∃ L,Numbered s L∧Sp s L root u ns W
def nodeAt (root:Nat) (ns:List Nat) (p:Nat):Nat:=(root :: ns).getD p 0
theorem Sp.len {s:St} {L:Nat→List Word}:∀ (u:List UInt8) (ns:List Nat) (n:Nat) (W:List Word),Sp s L n u ns W→ns.length=u.length
 | [],[],_,_,_=>rfl
 | c :: u,m :: ns,n,W,h=>by
  obtain ⟨nd,es,V,_,_,_,_,_,_,h2,_⟩:=h
  simp [Sp.len u ns m V h2]
 | [],_ :: _,_,_,h=>h.elim
 | _ :: _,[],_,_,h=>h.elim
theorem Sp.step {s:St} {L:Nat→List Word}:∀ (u:List UInt8) (ns:List Nat) (n:Nat) (W:List Word),Sp s L n u ns W → ∀ i,i < u.length → ∃ nd es,s.G (nodeAt n ns i)=some nd∧nd.edges=es++[(u.getD i 0,nodeAt n ns (i+1))]
 | [],[],_,_,_,i,hi=>by simp at hi
 | c :: u,m :: ns,n,W,h,i,hi=>by
  obtain ⟨nd,es,V,h1,_,_,h3,_,_,h2,_⟩:=h
  cases i with
  | zero=>exact ⟨nd,es,h1,h3⟩
  | succ i =>
   obtain ⟨nd',es',e1,e2⟩:=Sp.step u ns m V h2 i (by simpa using hi)
   exact ⟨nd',es',e1,by simpa [nodeAt] using e2⟩
 | [],_ :: _,_,_,h,_,_=>h.elim
 | _ :: _,[],_,_,h,_,_=>h.elim
theorem Sp.leaf {s:St} {L:Nat→List Word}:∀ (u:List UInt8) (ns:List Nat) (n:Nat) (W:List Word),Sp s L n u ns W → ∃ nd,s.G (nodeAt n ns u.length)=some nd∧Asc nd.edges
 | [],[],n,_,h=>by
  obtain ⟨nd,h1,_,h2,_⟩:=h
  exact ⟨nd,h1,h2⟩
 | c :: u,m :: ns,n,W,h=>by
  obtain ⟨nd,es,V,_,_,_,_,_,_,h2,_⟩:=h
  exact Sp.leaf u ns m V h2
 | [],_ :: _,_,_,h=>h.elim
 | _ :: _,[],_,_,h=>h.elim
theorem FI.len {s:St} {root:Nat} {u:List UInt8} {ns:List Nat} {W:List Word} (h:FI s root u ns W):ns.length=u.length:=by
 obtain ⟨L,_,hs⟩:=h
 exact Sp.len _ _ _ _ hs
theorem FI.step {s:St} {root:Nat} {u:List UInt8} {ns:List Nat} {W:List Word} (h:FI s root u ns W) {i:Nat} (hi:i < u.length) :
  ∃ nd es,s.G (nodeAt root ns i)=some nd∧nd.edges=es++[(u.getD i 0,nodeAt root ns (i+1))]:=by
 obtain ⟨L,_,hs⟩:=h
 exact Sp.step _ _ _ _ hs i hi
theorem FI.leaf {s:St} {root:Nat} {u:List UInt8} {ns:List Nat} {W:List Word} (h:FI s root u ns W):∃ nd,s.G (nodeAt root ns u.length)=some nd∧Asc nd.edges:=by
 obtain ⟨L,_,hs⟩:=h
 exact Sp.leaf _ _ _ _ hs
def Bare (s:St) (root:Nat) (u:List UInt8) (ns:List Nat):Prop:=∀ nd,s.G (nodeAt root ns u.length)=some nd→nd.edges=[]∧(0 < u.length→nd.final=true)
theorem Sp.head {s:St} {L:Nat→List Word}:∀ (u:List UInt8) (ns:List Nat) (n:Nat) (W:List Word),Sp s L n u ns W→get s.ids n=none
 | [],[],n,_,h=>by
  obtain ⟨nd,_,h2,_⟩:=h
  exact h2
 | c :: u,m :: ns,n,W,h=>by
  obtain ⟨nd,es,V,_,h2,_⟩:=h
  exact h2
 | [],_ :: _,_,_,h=>h.elim
 | _ :: _,[],_,_,h=>h.elim
theorem Sp.way {s:St} {L:Nat→List Word}:∀ (u:List UInt8) (ns:List Nat) (n:Nat) (W:List Word),Sp s L n u ns W→(∀ nd,s.G (nodeAt n ns u.length)=some nd→nd.edges=[])→Way s n ns
 | [],[],n,_,h,he=>by
  obtain ⟨nd,h1,_⟩:=h
  exact ⟨nd,h1,he nd h1⟩
 | c :: u,m :: ns,n,W,h,he=>by
  obtain ⟨nd,es,V,h1,h2,h3,h4,h5,h6,h7,_⟩:=h
  have hw:=Sp.way u ns m V h7 he
  refine ⟨⟨nd,c,es,h1,h4⟩,Sp.head u ns m V h7,fun e=>h6 (by rw [e]; exact List.mem_cons_self),fun hm=>h6 (List.mem_cons_of_mem _ hm),hw⟩
 | [],_ :: _,_,_,h,_=>h.elim
 | _ :: _,[],_,_,h,_=>h.elim
theorem Sp.drop {s:St} {L:Nat→List Word}:∀ (u:List UInt8) (ns:List Nat) (n:Nat) (W:List Word) (p:Nat),Sp s L n u ns W→p≤u.length → ∃ V,Sp s L (nodeAt n ns p) (u.drop p) (ns.drop p) V
 | u,ns,n,W,0,h,_=>⟨W,h⟩
 | [],[],n,_,p+1,h,hp=>by simp at hp
 | c :: u,m :: ns,n,W,p+1,h,hp=>by
  obtain ⟨nd,es,V,_,_,_,_,_,_,h7,_⟩:=h
  obtain ⟨V',hV⟩:=Sp.drop u ns m V p h7 (by simpa using hp)
  exact ⟨V',by simpa [nodeAt] using hV⟩
 | [],_ :: _,_,_,_+1,h,_=>h.elim
 | _ :: _,[],_,_,_+1,h,_=>h.elim
theorem nodeAt_drop (n:Nat) (ns:List Nat) (p i:Nat) (hp:p≤ns.length):nodeAt (nodeAt n ns p) (ns.drop p) i=nodeAt n ns (p+i):=by
 unfold nodeAt
 cases i with
 | zero=>simp
 | succ i =>
  simp only [List.getD_eq_getElem?_getD,List.getElem?_cons_succ,List.getElem?_drop]
  rw [show p+(i+1)=(p+i)+1 by omega,List.getElem?_cons_succ]
theorem FI.way {s:St} {root:Nat} {u:List UInt8} {ns:List Nat} {W:List Word} (h:FI s root u ns W) (he:Bare s root u ns) {p:Nat} (hp:p≤u.length):Way s (nodeAt root ns p) (ns.drop p):=by
 have hl:=h.len
 obtain ⟨L,_,hs⟩:=h
 obtain ⟨V,hV⟩:=Sp.drop _ _ _ _ p hs hp
 refine Sp.way _ _ _ _ hV fun nd hnd=>(he nd ?_).1
 rw [nodeAt_drop _ _ _ _ (by omega),List.length_drop,show p+(u.length - p)=u.length by omega] at hnd
 exact hnd
theorem Numbered.turn {s s':St} {L:Nat→List Word} (h:Numbered s L) (hi:s'.ids=s.ids) (hk:s'.kn=s.kn) (hG:∀ n,Settled s n→s'.G n=s.G n):Numbered s' L:=by
 have hs:∀ n,Settled s' n→Settled s n:=fun n hn=>by unfold Settled at hn ⊢; rw [hi] at hn; exact hn
 refine ⟨hi ▸ h.apart,fun i p hp=>h.nums i p (hi ▸ hp),fun n hn=>?_,fun p hp=>?_,fun n nd hn e=>by rw [hk,hi]; exact h.all n nd (hs n hn) ((hG n (hs n hn)).symm.trans e),fun n hn=>h.ne n (hs n hn)⟩
 ·have hn':=hs n hn
  obtain ⟨nd,h1,h2,h3,h4⟩:=h.node n hn'
  refine ⟨nd,(hG n hn').trans h1,h2,fun p hp=>?_,h4⟩
  unfold Settled
  rw [hi]
  exact h3 p hp
 ·rw [hk] at hp
  obtain ⟨h1,nd,h2,h3⟩:=h.known p hp
  refine ⟨by unfold Settled; rw [hi]; exact h1,nd,(hG _ h1).trans h2,by rw [hi]; exact h3⟩
theorem Numbered.inj {s:St} {L:Nat→List Word} (h:Numbered s L) (a b:Nat) (ha:(get s.ids a).isSome) (hb:(get s.ids b).isSome) (e:idOf s.ids a=idOf s.ids b):a=b:=by
 obtain ⟨x,hx⟩:=Option.isSome_iff_exists.1 ha
 obtain ⟨y,hy⟩:=Option.isSome_iff_exists.1 hb
 unfold idOf at e
 rw [hx,hy] at e
 simp only [Option.getD_some] at e
 subst e
 obtain ⟨i,hi⟩:=List.getElem?_of_mem (get_some_mem hx)
 obtain ⟨j,hj⟩:=List.getElem?_of_mem (get_some_mem hy)
 have h1:=h.nums i _ hi
 have h2:=h.nums j _ hj
 simp only at h1 h2
 subst h1
 subst h2
 rw [hi] at hj
 exact congrArg Prod.fst (Option.some.inj hj)
theorem Numbered.lt {s:St} {L:Nat→List Word} (h:Numbered s L) {a:Nat} (ha:Settled s a):idOf s.ids a < s.ids.length:=by
 obtain ⟨x,hx⟩:=Option.isSome_iff_exists.1 ha
 unfold idOf
 rw [hx]
 obtain ⟨i,hi⟩:=List.getElem?_of_mem (get_some_mem hx)
 have h1:=h.nums i _ hi
 simp only at h1
 subst h1
 exact (List.getElem?_eq_some_iff.1 hi).1
theorem edgeText_congr (ids ids':List (Nat × Nat)) (es:List (UInt8 × Nat)) (h:∀ e∈es,idOf ids' e.2=idOf ids e.2):edgeText ids' es=edgeText ids es:=by
 unfold edgeText
 rw [List.flatMap_def,List.flatMap_def]
 congr 1
 exact List.map_congr_left fun e he=>by rw [h e he]
theorem wordsAt_congr (f:Bool) (es:List (UInt8 × Nat)) (L Λ:Nat→List Word) (h:∀ e∈es,Λ e.2=L e.2):wordsAt f es Λ=wordsAt f es L:=by
 unfold wordsAt
 rw [List.flatMap_def,List.flatMap_def]
 congr 2
 exact List.map_congr_left fun e he=>by rw [h e he]
theorem Numbered.hook {s:St} {L:Nat→List Word} (h:Numbered s L) {n t:Nat} {c:UInt8} {es:List (UInt8 × Nat)} {ndn ndt:Nd} (hn:s.G n=some ndn) (ht:s.G t=some ndt) (hne:t≠n) (in_:get s.ids n=none) (it:get s.ids t=none)
  (he:ndn.edges=es++[(c,t)]) (hta:Asc ndt.edges) (hts:∀ e∈ndt.edges,Settled s e.2) (hw:wordsAt ndt.final ndt.edges L≠[]) :
  ∃ L',Numbered (Ts.hook s n t ndn ndt) L'∧(∀ x,Settled s x→Settled (Ts.hook s n t ndn ndt) x∧L' x=L x)∧(∀ x,x≠t→get (Ts.hook s n t ndn ndt).ids x=get s.ids x) ∧
   ∃ m nd',(Ts.hook s n t ndn ndt).G n=some nd'∧nd'.final=ndn.final∧nd'.edges=es++[(c,m)]∧Settled (Ts.hook s n t ndn ndt) m∧L' m=wordsAt ndt.final ndt.edges L:=by
 unfold Ts.hook
 cases hk:get s.kn (shapeOf s.ids ndt) with
 | some m =>
  simp only
  obtain ⟨h1,ndm,h2,h3⟩:=h.known _ (get_some_mem hk)
  simp only at h1 h2 h3
  obtain ⟨ndm',g1,g2,g3,g4⟩:=h.node m h1
  rw [h2] at g1
  cases g1
  unfold shapeOf at h3
  have hf:=congrArg Prod.fst h3
  have hx:=congrArg Prod.snd h3
  simp only at hf hx
  have hedge:=edgeText_inj h.inj ndm.edges ndt.edges (fun e he=>(g3 e he).1) hts hx
  refine ⟨L,h.turn rfl rfl fun x hxs=>?_,fun x hx=>⟨hx,rfl⟩,fun x _=>trivial,m,{ ndn with edges:=es++[(c,m)] },by simp [upd,he],rfl,rfl,h1,by rw [g4,hf,hedge]⟩
  have:x≠n:=fun e=>by unfold Settled at hxs; rw [e,in_] at hxs; cases hxs
  simp [upd,this]
 | none =>
  simp only
  have gp:∀ x,get (put s.ids t s.ids.length) x=if t=x then some s.ids.length else get s.ids x:=fun x=>get_put _ _ _ _
  have hst:¬ Settled s t:=by unfold Settled; rw [it]; simp
  have sne:∀ x,Settled s x→t≠x:=fun x hx e=>hst (e ▸ hx)
  have ido:∀ x,Settled s x→idOf (put s.ids t s.ids.length) x=idOf s.ids x:=fun x hx=>by unfold idOf; rw [gp,if_neg (sne x hx)]
  have idt:idOf (put s.ids t s.ids.length) t=s.ids.length:=by unfold idOf; rw [gp,if_pos rfl]; rfl
  have hS:∀ x,Settled s x→(get (put s.ids t s.ids.length) x).isSome:=fun x hx=>by rw [gp,if_neg (sne x hx)]; exact hx
  have hLe:∀ x,Settled s x→(if x=t then wordsAt ndt.final ndt.edges L else L x)=L x:=fun x hx=>if_neg (Ne.symm (sne x hx))
  have shp:∀ nd:Nd,(∀ e∈nd.edges,Settled s e.2)→shapeOf (put s.ids t s.ids.length) nd=shapeOf s.ids nd:=fun nd hs=>by
   unfold shapeOf
   rw [edgeText_congr _ _ _ fun e he=>ido _ (hs e he)]
  have back:∀ x,(get (put s.ids t s.ids.length) x).isSome→x≠t→Settled s x:=fun x hx hxt=>by
   rw [gp,if_neg (Ne.symm hxt)] at hx
   exact hx
  refine ⟨fun x=>if x=t then wordsAt ndt.final ndt.edges L else L x,⟨h.apart.put _ _,fun i p hp=>?_,fun x hx=>?_,fun p hp=>?_,fun x nd hx hG=>?_,fun x hx=>?_⟩,fun x hx=>⟨hS x hx,hLe x hx⟩,fun x hx=>by rw [gp,if_neg (Ne.symm hx)],
   t,ndn,hn,rfl,he,by unfold Settled; simp only; rw [gp,if_pos rfl]; rfl,by simp⟩
  ·simp only at hp
   rw [length_put_none _ it] at hp
   by_cases hi:i < s.ids.length
   ·rw [List.getElem?_append_left hi] at hp
    exact h.nums i p hp
   ·have hi2:i=s.ids.length:=by
     have:=(List.getElem?_eq_some_iff.1 hp).1
     simp at this
     omega
    subst hi2
    simp at hp
    subst hp
    rfl
  ·by_cases hxt:x=t
   ·subst hxt
    refine ⟨ndt,ht,hta,fun p hp=>⟨hS _ (hts p hp),?_⟩,?_⟩
    ·simp only
     rw [ido _ (hts p hp),idt]
     exact h.lt (hts p hp)
    ·simp only [if_pos]
     exact (wordsAt_congr _ _ L _ fun e he=>hLe _ (hts e he)).symm
   ·have hxs:=back x hx hxt
    obtain ⟨nd,h1,h2,h3,h4⟩:=h.node x hxs
    refine ⟨nd,h1,h2,fun p hp=>⟨hS _ (h3 p hp).1,?_⟩,?_⟩
    ·simp only
     rw [ido _ (h3 p hp).1,ido _ hxs]
     exact (h3 p hp).2
    ·rw [hLe x hxs,h4]
     exact (wordsAt_congr _ _ L _ fun e he=>hLe _ (h3 e he).1).symm
  ·simp only at hp
   rcases mem_put hp with rfl | hp
   ·exact ⟨by unfold Settled; simp only; rw [gp,if_pos rfl]; rfl,ndt,ht,shp ndt hts⟩
   ·obtain ⟨h1,nd,h2,h3⟩:=h.known p hp
    obtain ⟨nd',g1,_,g3,_⟩:=h.node _ h1
    rw [h2] at g1
    cases g1
    exact ⟨hS _ h1,nd,h2,by simp only; rw [shp nd fun e he=>(g3 e he).1]; exact h3⟩
  ·simp only at hG ⊢
   rw [get_put]
   by_cases hxt:x=t
   ·subst hxt
    rw [ht] at hG
    cases hG
    rw [shp _ hts,if_pos rfl]
   ·have hxs:=back x hx hxt
    obtain ⟨nd',g1,_,g3,_⟩:=h.node x hxs
    rw [hG] at g1
    cases g1
    have ha:=h.all x nd hxs hG
    rw [shp nd fun e he=>(g3 e he).1,if_neg fun e=>by rw [← e,hk] at ha; cases ha]
    exact ha
  ·by_cases hxt:x=t
   ·rw [if_pos hxt]
    exact hw
   ·rw [if_neg hxt]
    exact h.ne x (back x hx hxt)
theorem wordsAt_last (f:Bool) (es:List (UInt8 × Nat)) (c:UInt8) (m:Nat) (L:Nat→List Word):wordsAt f (es++[(c,m)]) L=wordsAt f es L++(L m).map (c :: ·):=by simp [wordsAt]
theorem Sp.fresh {s:St} {L:Nat→List Word}:∀ (u:List UInt8) (ns:List Nat) (n:Nat) (W:List Word),Sp s L n u ns W → ¬ n∈ns
 | [],[],n,W,h=>by simp
 | c :: u,m :: ns,n,W,h=>by
  obtain ⟨nd,es,V,_,_,_,_,_,h6,_⟩:=h
  exact h6
 | [],_ :: _,_,_,h=>h.elim
 | _ :: _,[],_,_,h=>h.elim
theorem nodeAt_mem (n:Nat) (ns:List Nat) (p:Nat) (hp:p≤ns.length):nodeAt n ns p∈n :: ns:=by
 unfold nodeAt
 rw [List.getD_eq_getElem?_getD,List.getElem?_eq_getElem (by simp; omega),Option.getD_some]
 exact List.getElem_mem _
theorem Sp.ne {s:St} {L:Nat→List Word}:∀ (u:List UInt8) (ns:List Nat) (n:Nat) (W:List Word),Sp s L n u ns W→(∀ nd,s.G (nodeAt n ns u.length)=some nd→nd.final=true)→W≠[]
 | [],[],n,W,h,hf=>by
  obtain ⟨nd,h1,_,_,_,h5⟩:=h
  rw [h5,hf nd h1]
  simp [wordsAt]
 | c :: u,m :: ns,n,W,h,hf=>by
  obtain ⟨nd,es,V,_,_,_,_,_,_,h7,h8⟩:=h
  have:=Sp.ne u ns m V h7 hf
  rw [h8]
  simp [this]
 | [],_ :: _,_,_,h,_=>h.elim
 | _ :: _,[],_,_,h,_=>h.elim
theorem Sp.settle:∀ (u:List UInt8) (ns:List Nat) (n:Nat) (W:List Word) (s:St) (L:Nat→List Word),Numbered s L→Sp s L n u ns W→(∀ nd,s.G (nodeAt n ns u.length)=some nd→nd.edges=[]∧(0 < u.length→nd.final=true)) →
  ∃ L' nd',Numbered (settleP ns s n) L'∧(∀ x,Settled s x→Settled (settleP ns s n) x∧L' x=L x)∧(∀ x,¬ x∈ns→get (settleP ns s n).ids x=get s.ids x)∧(settleP ns s n).G n=some nd'∧Asc nd'.edges ∧
   (∀ e∈nd'.edges,Settled (settleP ns s n) e.2)∧W=wordsAt nd'.final nd'.edges L' ∧ ∀ e∈nd'.edges,0 < u.length∧e.1≤u.getD 0 0
 | [],[],n,W,s,L,hN,h,hb=>by
  obtain ⟨nd,h1,h2,h3,h4,h5⟩:=h
  have he:=(hb nd h1).1
  exact ⟨L,nd,hN,fun x hx=>⟨hx,rfl⟩,fun x _=>rfl,h1,h3,h4,h5,fun e hx=>by rw [he] at hx; cases hx⟩
 | c :: u,t :: ns,n,W,s,L,hN,h,hb=>by
  obtain ⟨nd,es,V,h1,h2,h3,h4,h5,h6,h7,h8⟩:=h
  obtain ⟨L1,ndt,hN1,m1,i1,g1,a1,s1,w1,_⟩:=Sp.settle u ns t V s L hN h7 fun nd h=>⟨(hb nd h).1,fun _=>(hb nd h).2 (Nat.succ_pos _)⟩
  simp only [List.mem_cons,not_or] at h6
  have hGn:(settleP ns s t).G n=some nd:=(settleP_other ns s t n h6.1 h6.2).trans h1
  have hin:get (settleP ns s t).ids n=none:=(i1 n h6.2).trans h2
  have hit:get (settleP ns s t).ids t=none:=(i1 t (Sp.fresh u ns t V h7)).trans (Sp.head u ns t V h7)
  rw [settleP_cons g1 hGn]
  obtain ⟨L2,hN2,m2,i2,m,nd',g2,f2,e2,st2,l2⟩:=hN1.hook hGn g1 (Ne.symm h6.1) hin hit h4 a1 s1 (w1 ▸ Sp.ne u ns t V h7 fun nd h=>(hb nd h).2 (Nat.succ_pos _))
  have hasc:Asc nd'.edges:=by
   rw [e2]
   rw [h4] at h3
   have h3':=List.pairwise_append.1 h3
   refine List.pairwise_append.2 ⟨h3'.1,List.pairwise_singleton _ _,fun a ha b hb=>?_⟩
   simp at hb
   subst hb
   exact h3'.2.2 a ha (c,t) (by simp)
  have hse:∀ e∈es,Settled (Ts.hook (settleP ns s t) n t nd ndt) e.2∧L2 e.2=L e.2:=fun e he=>by
   have x1:=m1 e.2 (h5 e he)
   have x2:=m2 e.2 x1.1
   exact ⟨x2.1,x2.2.trans x1.2⟩
  refine ⟨L2,nd',hN2,fun x hx=>?_,fun x hx=>?_,g2,hasc,fun e he=>?_,?_,fun e he=>⟨by simp,?_⟩⟩
  ·have x1:=m1 x hx
   have x2:=m2 x x1.1
   exact ⟨x2.1,x2.2.trans x1.2⟩
  ·simp only [List.mem_cons,not_or] at hx
   exact (i2 x hx.1).trans (i1 x hx.2)
  ·rw [e2] at he
   rcases List.mem_append.1 he with he | he
   ·exact (hse e he).1
   ·simp at he
    subst he
    exact st2
  ·rw [h8,e2,wordsAt_last,f2,l2,← w1,wordsAt_congr nd.final es L L2 fun e he=>(hse e he).2]
  ·rw [e2] at he hasc
   rcases List.mem_append.1 he with he | he
   ·have:=(List.pairwise_append.1 hasc).2.2 e he (c,m) (by simp)
    exact UInt8.le_of_lt this
   ·simp at he
    subst he
    exact UInt8.le_refl _
 | [],_ :: _,_,_,_,_,_,h,_=>h.elim
 | _ :: _,[],_,_,_,_,_,h,_=>h.elim
theorem Sp.settleAt:∀ (p:Nat) (u:List UInt8) (ns:List Nat) (n:Nat) (W:List Word) (s:St) (L:Nat→List Word),Numbered s L→Sp s L n u ns W→(∀ nd,s.G (nodeAt n ns u.length)=some nd→nd.edges=[]∧(0 < u.length→nd.final=true))→p≤u.length →
  ∃ L',Numbered (settleP (ns.drop p) s (nodeAt n ns p)) L'∧(∀ x,Settled s x→Settled (settleP (ns.drop p) s (nodeAt n ns p)) x∧L' x=L x)∧(∀ x,¬ x∈ns.drop p→get (settleP (ns.drop p) s (nodeAt n ns p)).ids x=get s.ids x) ∧
   Sp (settleP (ns.drop p) s (nodeAt n ns p)) L' n (u.take p) (ns.take p) W ∧ ∀ nd,(settleP (ns.drop p) s (nodeAt n ns p)).G (nodeAt n ns p)=some nd → ∀ e∈nd.edges,p < u.length∧e.1≤u.getD p 0
 | 0,u,ns,n,W,s,L,hN,h,hb,_=>by
  obtain ⟨L',nd',h1,h2,h3,h4,h5,h6,h7,h8⟩:=Sp.settle u ns n W s L hN h hb
  refine ⟨L',h1,h2,h3,⟨nd',h4,(h3 n (Sp.fresh u ns n W h)).trans (Sp.head u ns n W h),h5,h6,h7⟩,fun nd hnd e he=>?_⟩
  have hnd':(settleP ns s n).G n=some nd:=hnd
  rw [h4] at hnd'
  cases hnd'
  exact h8 e he
 | p+1,c :: u,t :: ns,n,W,s,L,hN,h,hb,hp=>by
  obtain ⟨nd,es,V,h1,h2,h3,h4,h5,h6,h7,h8⟩:=h
  have hp':p≤u.length:=by simpa using hp
  have hl:=Sp.len u ns t V h7
  obtain ⟨L',g1,g2,g3,g4,g5⟩:=Sp.settleAt p u ns t V s L hN h7 (fun nd h=>⟨(hb nd h).1,fun _=>(hb nd h).2 (Nat.succ_pos _)⟩) hp'
  have hna:nodeAt n (t :: ns) (p+1)=nodeAt t ns p:=rfl
  rw [hna]
  show ∃ L',Numbered (settleP (ns.drop p) s (nodeAt t ns p)) L'∧_
  have hnd:¬ n∈ns.drop p:=fun h=>h6 (List.mem_cons_of_mem _ (List.mem_of_mem_drop h))
  have hnn:n≠nodeAt t ns p:=fun e=>h6 (e ▸ nodeAt_mem t ns p (by omega))
  refine ⟨L',g1,g2,g3,⟨nd,es,V,(settleP_other _ _ _ _ hnn hnd).trans h1,(g3 n hnd).trans h2,h3,h4,fun e he=>(g2 _ (h5 e he)).1,?_,g4,?_⟩,fun nd hnd e he=>?_⟩
  ·intro hm
   refine h6 ?_
   rcases List.mem_cons.1 hm with e | hm
   ·rw [e]; exact List.mem_cons_self
   ·exact List.mem_cons_of_mem _ (List.mem_of_mem_take hm)
  ·rw [h8,wordsAt_congr nd.final es L L' fun e he=>(g2 _ (h5 e he)).2]
  ·obtain ⟨x1,x2⟩:=g5 nd hnd e he
   exact ⟨by simp; omega,by simpa using x2⟩
 | p+1,[],_,_,_,_,_,_,h,_,hp=>absurd hp (by simp)
 | p+1,_ :: _,[],_,_,_,_,_,h,_,_=>h.elim
theorem FI.settle {s:St} {root:Nat} {u:List UInt8} {ns:List Nat} {W:List Word} (h:FI s root u ns W) (he:Bare s root u ns) {p:Nat} (hp:p≤u.length) :
  FI (settleP (ns.drop p) s (nodeAt root ns p)) root (u.take p) (ns.take p) W ∧
  (∀ nd,(settleP (ns.drop p) s (nodeAt root ns p)).G (nodeAt root ns p)=some nd → ∀ e∈nd.edges,p < u.length∧e.1≤u.getD p 0):=by
 obtain ⟨L,hn,hs⟩:=h
 obtain ⟨L',h1,_,_,h4,h5⟩:=Sp.settleAt p u ns root W s L hn hs he hp
 exact ⟨⟨L',h1,h4⟩,h5⟩
def growG (s:St) (n m:Nat) (c:UInt8) (nd:Nd) (v:Value):St:={ s with G:=upd (upd s.G m ⟨false,[],.slice none 0 0⟩) n { nd with edges:=nd.edges++[(c,m)],v:=v } }
theorem Sp.grow {s:St} {L:Nat→List Word} {m:Nat} {c:UInt8} {nd:Nd} {v:Value} (hm:s.G m=none) (hi:get s.ids m=none) (hc:∀ e∈nd.edges,e.1 < c) :
  ∀ (u:List UInt8) (ns:List Nat) (n:Nat) (W:List Word),Sp s L n u ns W→s.G (nodeAt n ns u.length)=some nd→Sp (growG s (nodeAt n ns u.length) m c nd v) L n (u++[c]) (ns++[m]) W
 | [],[],n,W,h,hG=>by
  obtain ⟨nd',h1,h2,h3,h4,h5⟩:=h
  have hG':s.G n=some nd:=hG
  rw [h1] at hG'
  cases hG'
  have hnm:n≠m:=fun e=>by rw [e,hm] at h1; cases h1
  refine ⟨{ nd with edges:=nd.edges++[(c,m)],v:=v },nd.edges,[],by simp [growG,upd,nodeAt],h2,?_,rfl,h4,by simpa using hnm,⟨⟨false,[],.slice none 0 0⟩,by simp [growG,upd,nodeAt,hnm.symm],hi,List.Pairwise.nil,(fun p hp=>by cases hp),rfl⟩,by simp [h5]⟩
  refine List.pairwise_append.2 ⟨h3,List.pairwise_singleton _ _,fun a ha b hb=>?_⟩
  simp at hb
  subst hb
  exact hc a ha
 | d :: u,x :: ns,n,W,h,hG=>by
  obtain ⟨nd',es,V,h1,h2,h3,h4,h5,h6,h7,h8⟩:=h
  have hl:=Sp.len u ns x V h7
  have hleaf:nodeAt n (x :: ns) (d :: u).length∈x :: ns:=by
   have:nodeAt n (x :: ns) (d :: u).length=(x :: ns).getD u.length 0:=rfl
   rw [this,List.getD_eq_getElem?_getD,List.getElem?_eq_getElem (by simp; omega),Option.getD_some]
   exact List.getElem_mem _
  have hn1:n≠nodeAt n (x :: ns) (d :: u).length:=fun e=>h6 (e ▸ hleaf)
  have hnm:n≠m:=fun e=>by rw [e,hm] at h1; cases h1
  refine ⟨nd',es,V,by simp only [growG,upd]; rw [if_neg hn1,if_neg hnm]; exact h1,h2,h3,h4,h5,?_,Sp.grow hm hi hc u ns x V h7 hG,h8⟩
  intro hmem
  have:n∈(x :: ns)++[m]:=hmem
  rcases List.mem_append.1 this with h | h
  ·exact h6 h
  ·simp at h; exact hnm h
 | [],_ :: _,_,_,h,_=>h.elim
 | _ :: _,[],_,_,h,_=>h.elim
theorem Sp.last {s:St} {L:Nat→List Word}:∀ (u:List UInt8) (ns:List Nat) (n:Nat) (W:List Word),Sp s L n u ns W→get s.ids (nodeAt n ns u.length)=none
 | [],[],n,W,h=>Sp.head [] [] n W h
 | c :: u,m :: ns,n,W,h=>by
  obtain ⟨nd,es,V,_,_,_,_,_,_,h7,_⟩:=h
  exact Sp.last u ns m V h7
 | [],_ :: _,_,_,h=>h.elim
 | _ :: _,[],_,_,h=>h.elim
theorem FI.grow {s:St} {root:Nat} {u:List UInt8} {ns:List Nat} {W:List Word} (h:FI s root u ns W) {m:Nat} {c:UInt8} {nd:Nd} {v:Value} (hG:s.G (nodeAt root ns u.length)=some nd) (hm:s.G m=none) (hi:get s.ids m=none)
  (hc:∀ e∈nd.edges,e.1 < c):FI (growG s (nodeAt root ns u.length) m c nd v) root (u++[c]) (ns++[m]) W:=by
 obtain ⟨L,hn,hs⟩:=h
 refine ⟨L,hn.turn rfl rfl fun n hn'=>?_,Sp.grow hm hi hc _ _ _ _ hs hG⟩
 have h1:n≠nodeAt root ns u.length:=fun e=>by unfold Settled at hn'; rw [e,Sp.last _ _ _ _ hs] at hn'; cases hn'
 have h2:n≠m:=fun e=>by unfold Settled at hn'; rw [e,hi] at hn'; cases hn'
 simp only [growG,upd]
 rw [if_neg h1,if_neg h2]
def closeG (s:St) (n:Nat) (nd:Nd):St:={ s with G:=upd s.G n { nd with final:=true } }
theorem Sp.close {s:St} {L:Nat→List Word} {nd:Nd} (he:nd.edges=[]) (hf:nd.final=false) :
  ∀ (u:List UInt8) (ns:List Nat) (n:Nat) (W:List Word),Sp s L n u ns W→s.G (nodeAt n ns u.length)=some nd→Sp (closeG s (nodeAt n ns u.length) nd) L n u ns (W++[u])
 | [],[],n,W,h,hG=>by
  obtain ⟨nd',h1,h2,h3,h4,h5⟩:=h
  have hG':s.G n=some nd:=hG
  rw [h1] at hG'
  cases hG'
  refine ⟨{ nd with final:=true },by simp [closeG,upd,nodeAt],h2,h3,h4,?_⟩
  rw [h5,he,hf]
  rfl
 | d :: u,x :: ns,n,W,h,hG=>by
  obtain ⟨nd',es,V,h1,h2,h3,h4,h5,h6,h7,h8⟩:=h
  have hl:=Sp.len u ns x V h7
  have hleaf:nodeAt n (x :: ns) (d :: u).length∈x :: ns:=by
   have:nodeAt n (x :: ns) (d :: u).length=(x :: ns).getD u.length 0:=rfl
   rw [this,List.getD_eq_getElem?_getD,List.getElem?_eq_getElem (by simp; omega),Option.getD_some]
   exact List.getElem_mem _
  have hn1:n≠nodeAt n (x :: ns) (d :: u).length:=fun e=>h6 (e ▸ hleaf)
  refine ⟨nd',es,V++[u],by simp only [closeG,upd]; rw [if_neg hn1]; exact h1,h2,h3,h4,h5,h6,Sp.close he hf u ns x V h7 hG,?_⟩
  rw [h8]
  simp
 | [],_ :: _,_,_,h,_=>h.elim
 | _ :: _,[],_,_,h,_=>h.elim
theorem FI.close {s:St} {root:Nat} {u:List UInt8} {ns:List Nat} {W:List Word} (h:FI s root u ns W) {nd:Nd} (hG:s.G (nodeAt root ns u.length)=some nd) (he:nd.edges=[]) (hf:nd.final=false) :
  FI (closeG s (nodeAt root ns u.length) nd) root u ns (W++[u]):=by
 obtain ⟨L,hn,hs⟩:=h
 refine ⟨L,hn.turn rfl rfl fun n hn'=>?_,Sp.close he hf _ _ _ _ hs hG⟩
 have h1:n≠nodeAt root ns u.length:=fun e=>by unfold Settled at hn'; rw [e,Sp.last _ _ _ _ hs] at hn'; cases hn'
 simp only [closeG,upd]
 rw [if_neg h1]
def start (root:Nat):St:={ G:=upd (fun _=>none) root ⟨false,[],.slice none 0 0⟩,kn:=[],ids:=[] }
theorem FI.start (root:Nat):FI (start root) root [] [] []:=by
 refine ⟨fun _=>[],⟨List.nodup_nil,(fun i p h=>by simp [Ts.start] at h),(fun n h=>by simp [Settled,Ts.start,get] at h),(fun p h=>by simp [Ts.start] at h),(fun n nd h=>by simp [Settled,Ts.start,get] at h),(fun n h=>by simp [Settled,Ts.start,get] at h)⟩,⟨false,[],.slice none 0 0⟩,by simp [Ts.start,upd],rfl,List.Pairwise.nil,(fun p h=>by cases h),rfl⟩
def tails (c:UInt8) (W:List Word):List Word:=W.filterMap fun w=>match w with | []=>none | d :: r=>if d=c then some r else none
theorem tails_map (c d:UInt8) (X:List Word):tails c (X.map (d :: ·))=if d=c then X else []:=by
 unfold tails
 rw [List.filterMap_map]
 split <;> rename_i h <;> simp [Function.comp_def,h]
theorem tails_wordsAt (c:UInt8) (f:Bool) (es:List (UInt8 × Nat)) (L:Nat→List Word):tails c (wordsAt f es L)=es.flatMap fun e=>if e.1=c then L e.2 else []:=by
 have h0:tails c (if f then [[]] else [])=[]:=by cases f <;> rfl
 unfold wordsAt
 rw [show tails c (_++_)=tails c _++tails c _ from List.filterMap_append,h0,List.nil_append]
 induction es with
 | nil=>rfl
 | cons e es ih=>rw [List.flatMap_cons,List.flatMap_cons,show tails c (_++_)=tails c _++tails c _ from List.filterMap_append,tails_map,ih]
theorem tails_at {f:Bool} {L:Nat→List Word}:∀ {es:List (UInt8 × Nat)},Asc es → ∀ {e:UInt8 × Nat},e∈es→tails e.1 (wordsAt f es L)=L e.2:=fun {es} ha e he=>by
 rw [tails_wordsAt]
 obtain ⟨a,b,rfl⟩:=List.append_of_mem he
 obtain ⟨h1,h2,h3⟩:=List.pairwise_append.1 ha
 have hz:∀ l:List (UInt8 × Nat),(∀ x∈l,x.1≠e.1)→(l.flatMap fun x=>if x.1=e.1 then L x.2 else [])=[]:=fun l hl=>by
  rw [List.flatMap_eq_nil_iff]
  exact fun x hx=>if_neg (hl x hx)
 rw [List.flatMap_append,List.flatMap_cons,if_pos rfl,hz a fun x hx=>UInt8.ne_of_lt (h3 x hx e List.mem_cons_self),hz b fun x hx=>(UInt8.ne_of_lt ((List.pairwise_cons.1 h2).1 x hx)).symm]
 simp
theorem letters {f:Bool} {es:List (UInt8 × Nat)} {L:Nat→List Word} (hn:∀ e∈es,L e.2≠[]) (c:UInt8):c∈es.map (·.1)↔tails c (wordsAt f es L)≠[]:=by
 rw [tails_wordsAt,ne_eq,List.flatMap_eq_nil_iff]
 constructor
 ·intro h k
  obtain ⟨e,he,rfl⟩:=List.mem_map.1 h
  have:=k e he
  rw [if_pos rfl] at this
  exact hn e he this
 ·intro h
  refine Classical.byContradiction fun k=>h fun e he=>if_neg fun hc=>k (List.mem_map.2 ⟨e,he,hc⟩)
theorem Asc.ext {es es':List (UInt8 × Nat)} (ha:Asc es) (hb:Asc es') (h:∀ c,c∈es.map (·.1)↔c∈es'.map (·.1)):es.map (·.1)=es'.map (·.1):=by
 have ha':(es.map (·.1)).Pairwise (· < ·):=List.pairwise_map.2 ha
 have hb':(es'.map (·.1)).Pairwise (· < ·):=List.pairwise_map.2 hb
 exact List.Perm.eq_of_pairwise (le:=(· < ·)) (fun a b _ _ h1 h2=>absurd (UInt8.lt_trans h1 h2) (UInt8.lt_irrefl a)) ha' hb'
  ((List.perm_ext_iff_of_nodup (ha'.imp UInt8.ne_of_lt) (hb'.imp UInt8.ne_of_lt)).2 h)
theorem wordsAt_final (f:Bool) (es:List (UInt8 × Nat)) (L:Nat→List Word):[]∈wordsAt f es L↔f=true:=by
 cases f <;> simp [wordsAt]
theorem wordsAt_inj {f f':Bool} {es es':List (UInt8 × Nat)} {L L':Nat→List Word} (ha:Asc es) (hb:Asc es') (hn:∀ e∈es,L e.2≠[]) (hn':∀ e∈es',L' e.2≠[]) (h:wordsAt f es L=wordsAt f' es' L') :
  f=f'∧es.map (·.1)=es'.map (·.1) ∧ ∀ e∈es,∀ e'∈es',e.1=e'.1→L e.2=L' e'.2:=by
 refine ⟨?_,ha.ext hb fun c=>by rw [letters (f:=f) hn,letters (f:=f') hn',h],fun e he e' he' hc=>?_⟩
 ·have h1:=wordsAt_final f es L
  rw [h,wordsAt_final f' es' L'] at h1
  exact Bool.eq_iff_iff.2 h1.symm
 ·rw [← tails_at (f:=f) (L:=L) ha he,h,hc,tails_at (L:=L') hb he']
theorem asc_eq:∀ {es es':List (UInt8 × Nat)},es.map (·.1)=es'.map (·.1)→(∀ e∈es,∀ e'∈es',e.1=e'.1→e.2=e'.2)→es=es'
 | [],[],_,_=>rfl
 | [],_ :: _,h,_=>by simp at h
 | _ :: _,[],h,_=>by simp at h
 | e :: es,e' :: es',h,k=>by
  simp only [List.map_cons,List.cons.injEq] at h
  rw [Prod.ext h.1 (k e List.mem_cons_self e' List.mem_cons_self h.1),asc_eq h.2 fun a ha b hb=>k a (List.mem_cons_of_mem _ ha) b (List.mem_cons_of_mem _ hb)]
theorem Numbered.one {s:St} {L:Nat→List Word} (h:Numbered s L):∀ (k a b:Nat),idOf s.ids a < k→Settled s a→Settled s b→L a=L b→a=b
 | 0,_,_,hk,_,_,_=>absurd hk (Nat.not_lt_zero _)
 | k+1,a,b,hk,ha,hb,e=>by
  obtain ⟨na,a1,a2,a3,a4⟩:=h.node a ha
  obtain ⟨nb,b1,b2,b3,b4⟩:=h.node b hb
  obtain ⟨hf,hl,hc⟩:=wordsAt_inj a2 b2 (fun e he=>h.ne _ (a3 e he).1) (fun e he=>h.ne _ (b3 e he).1) (a4.symm.trans (e.trans b4))
  have he:=asc_eq hl fun x hx y hy hxy=>Numbered.one h k x.2 y.2 (by have:=(a3 x hx).2; omega) (a3 x hx).1 (b3 y hy).1 (hc x hx y hy hxy)
  have h1:=h.all a na ha a1
  rw [show shapeOf s.ids na=shapeOf s.ids nb by unfold shapeOf; rw [hf,he],h.all b nb hb b1] at h1
  exact (Option.some.inj h1).symm
theorem words_bound:∀ W:List Word,∃ k,∀ w∈W,w.length≤k
 | []=>⟨0,fun w h=>by cases h⟩
 | v :: W=>by
  obtain ⟨k,hk⟩:=words_bound W
  refine ⟨max v.length k,fun w hw=>?_⟩
  rcases List.mem_cons.1 hw with rfl | hw
  ·omega
  ·have:=hk w hw
   omega
inductive Reach (G:Graph) (root:Nat):Nat→Prop
 | here:Reach G root root
 | there {n:Nat} {nd:Nd} {e:UInt8 × Nat}:Reach G root n→G n=some nd→e∈nd.edges→Reach G root e.2
theorem wordsAt_le (f:Bool) (es:List (UInt8 × Nat)) (L:Nat→List Word) {e:UInt8 × Nat} (he:e∈es):(L e.2).length≤(wordsAt f es L).length:=by
 unfold wordsAt
 obtain ⟨a,b,rfl⟩:=List.append_of_mem he
 simp
 omega
theorem FI.number {s:St} {root:Nat} {W:List Word} (h:FI s root [] [] W) (hsm:Small s) (hW:W.length≤1000000) (hids:s.ids.length < 1000000) :
  ∃ (Good:Nat→Prop) (ρ:Nat→Nat) (L:Nat→List Word),Good root∧(∀ n,Good n → ∃ nd,s.G n=some nd∧nd.edges.length≤300 ∧ ∀ e∈nd.edges,Good e.2∧ρ e.2 < ρ n) ∧
   (∀ M:List (Nat × Nat),Apart M→(∀ p∈M,Good p.1)→M.length≤1000000)∧(∀ n nd,Good n→s.G n=some nd→Asc nd.edges∧L n=wordsAt nd.final nd.edges L∧(L n).length≤1000000)∧L root=W∧ρ root≤1000000∧(∀ a b,Good a→Good b→L a=L b→a=b)∧(∀ n nd,Good n→s.G n=some nd → ∀ e∈nd.edges,L e.2≠[]):=by
 obtain ⟨L,hn,nd0,r1,r2,r3,r4,r5⟩:=h
 have hroot:¬ Settled s root:=by unfold Settled; rw [r2]; simp
 have hset:∀ n,Reach s.G root n→n=root∨Settled s n:=fun n h=>by
  induction h with
  | here=>exact .inl rfl
  | there hr hG he ih =>
   right
   rcases ih with rfl | ih
   ·rw [r1] at hG; cases hG; exact r4 _ he
   ·obtain ⟨nd',h1,_,h3,_⟩:=hn.node _ ih
    rw [h1] at hG; cases hG
    exact (h3 _ he).1
 have hne:∀ n,Settled s n→n≠root:=fun n h e=>hroot (e ▸ h)
 have hLs:∀ n,Settled s n→(if n=root then W else L n)=L n:=fun n h=>if_neg (hne n h)
 have hnode:∀ n nd,Reach s.G root n→s.G n=some nd→Asc nd.edges∧(∀ e∈nd.edges,Settled s e.2∧idOf s.ids e.2 < if n=root then 1000000 else idOf s.ids n) ∧
   (if n=root then W else L n)=wordsAt nd.final nd.edges (fun n=>if n=root then W else L n):=fun n nd hr hG=>by
  rcases hset n hr with rfl | hs
  ·rw [r1] at hG
   cases hG
   refine ⟨r3,fun e he=>⟨r4 e he,by rw [if_pos rfl]; exact hsm.idOf _⟩,?_⟩
   rw [if_pos rfl,wordsAt_congr _ _ L _ fun e he=>hLs _ (r4 e he)]
   exact r5
  ·obtain ⟨nd',h1,h2,h3,h4⟩:=hn.node n hs
   rw [h1] at hG
   cases hG
   refine ⟨h2,fun e he=>⟨(h3 e he).1,by rw [if_neg (hne n hs)]; exact (h3 e he).2⟩,?_⟩
   rw [hLs n hs,wordsAt_congr _ _ L _ fun e he=>hLs _ (h3 e he).1]
   exact h4
 have hlenW:∀ n,Reach s.G root n→(if n=root then W else L n).length≤W.length:=fun n h=>by
  induction h with
  | here=>rw [if_pos rfl]; exact Nat.le_refl _
  | there hr hG he ih =>
   rw [(hnode _ _ hr hG).2.2] at ih
   exact Nat.le_trans (wordsAt_le _ _ (fun n=>if n=root then W else L n) he) ih
 have hdeep:∀ n,Reach s.G root n→n=root ∨ ∀ w∈(if n=root then W else L n),∃ w'∈W,w.length < w'.length:=fun n h=>by
  induction h with
  | here=>exact .inl rfl
  | @there n nd e hr hG he ih =>
   refine .inr fun w hw=>?_
   have hm:e.1 :: w∈(if n=root then W else L n):=by
    rw [(hnode _ _ hr hG).2.2]
    exact List.mem_append_right _ (List.mem_flatMap.2 ⟨e,he,List.mem_map.2 ⟨w,hw,rfl⟩⟩)
   rcases ih with rfl | ih
   ·rw [if_pos rfl] at hm
    exact ⟨_,hm,Nat.lt_succ_self _⟩
   ·obtain ⟨w',h1,h2⟩:=ih _ hm
    exact ⟨w',h1,Nat.lt_trans (Nat.lt_succ_self _) h2⟩
 refine ⟨Reach s.G root,fun n=>if n=root then 1000000 else idOf s.ids n,fun n=>if n=root then W else L n,.here,fun n hr=>?_,fun M hM hg=>?_,fun n nd hr hG=>⟨(hnode n nd hr hG).1,(hnode n nd hr hG).2.2,Nat.le_trans (hlenW n hr) hW⟩,if_pos rfl,by simp,fun a b ha hb e=>?_,fun n nd hr hG e he=>?_⟩
 ·have:∃ nd,s.G n=some nd:=by
   rcases hset n hr with rfl | hs
   ·exact ⟨_,r1⟩
   ·obtain ⟨nd,h1,_⟩:=hn.node n hs
    exact ⟨nd,h1⟩
  obtain ⟨nd,hG⟩:=this
  refine ⟨nd,hG,hsm.edges n nd hG,fun e he=>⟨.there hr hG he,?_⟩⟩
  obtain ⟨h1,h2⟩:=(hnode n nd hr hG).2.1 e he
  simp only
  rw [if_neg (hne _ h1)]
  exact h2
 ·have hsub:M.map (·.1) ⊆ root :: s.ids.map (·.1):=fun x hx=>by
   obtain ⟨p,hp,rfl⟩:=List.mem_map.1 hx
   rcases hset _ (hg p hp) with e | hs
   ·rw [e]; exact List.mem_cons_self
   ·obtain ⟨y,hy⟩:=Option.isSome_iff_exists.1 hs
    exact List.mem_cons_of_mem _ (List.mem_map.2 ⟨_,get_some_mem hy,rfl⟩)
  have hl:=List.Nodup.length_le_of_subset hM hsub
  simp at hl
  omega
 ·have key:∀ x,Settled s x→W≠L x ∨ ¬ Reach s.G root x:=fun x hx=>Classical.byContradiction fun hc=>by
   rw [not_or,Classical.not_not,Classical.not_not] at hc
   have up:∀ k,∃ w∈W,k≤w.length:=fun k=>by
    induction k with
    | zero =>
     rw [hc.1]
     obtain ⟨w,hw⟩:=List.exists_mem_of_ne_nil _ (hn.ne x hx)
     exact ⟨w,hw,Nat.zero_le _⟩
    | succ k ih =>
     obtain ⟨w,hw,hk⟩:=ih
     rcases hdeep x hc.2 with rfl | hd
     ·exact absurd hx hroot
     ·obtain ⟨w',hw',hl⟩:=hd w (by rw [hLs x hx,← hc.1]; exact hw)
      exact ⟨w',hw',by omega⟩
   obtain ⟨k,hk⟩:=words_bound W
   obtain ⟨w,hw,h1⟩:=up (k+1)
   have:=hk w hw
   omega
  simp only at e
  rcases hset a ha with rfl | sa <;> rcases hset b hb with hb' | sb
  ·exact hb'.symm
  ·rw [if_pos rfl,hLs b sb] at e
   exact absurd e ((key b sb).resolve_right fun h=>h hb)
  ·subst hb'
   rw [if_pos rfl,hLs a sa] at e
   exact absurd e.symm ((key a sa).resolve_right fun h=>h ha)
  ·rw [hLs a sa,hLs b sb] at e
   exact hn.one _ a b (Nat.lt_succ_self _) sa sb e
 ·have:=((hnode n nd hr hG).2.1 e he).1
  simp only
  rw [hLs _ this]
  exact hn.ne _ this
end Go.Proofs.Ts
namespace Go.Proofs.Ts
open Go
section
variable {σ:Type} (step:σ→UInt8→Option σ) (ends:σ→Bool)
def accA:σ→List UInt8→Bool
 | s,[]=>ends s
 | s,c :: u=>match step s c with
  | none=>false
  | some t=>accA t u
end
def hits (f:List UInt8→Bool) (ws:List (List UInt8)) (n:Nat):List (List UInt8 × Nat):=(ws.zipIdx n).filter fun p=>f p.1
section
variable {σ:Type} {step:σ→UInt8→Option σ} {ends:σ→Bool}
end
end Go.Proofs.Ts
namespace Go.Proofs.Ts
open Go
def isBlank (c:UInt8):Bool:=c == 32 || c == 9 || c == 10
def low1 (c:UInt8):UInt8:=if 65≤c∧c≤90 then c+32 else c
def lowL (l:List UInt8):List UInt8:=l.map low1
def fields:List UInt8→List UInt8→List (List UInt8)
 | [],cur=>if cur=[] then [] else [cur]
 | c :: r,cur=>if isBlank c=true then (if cur=[] then fields r [] else cur :: fields r []) else fields r (cur++[c])
theorem fields_all:∀ (l cur:List UInt8),(∀ c∈cur,isBlank c=false) → ∀ f∈fields l cur,f≠[] ∧ ∀ c∈f,isBlank c=false
 | [],cur,hc,f,hf=>by
  unfold fields at hf
  split at hf
  ·cases hf
  ·rename_i h
   simp at hf
   subst hf
   exact ⟨h,hc⟩
 | c :: r,cur,hc,f,hf=>by
  unfold fields at hf
  split at hf
  ·split at hf
   ·exact fields_all r [] (by simp) f hf
   ·rename_i h
    rcases List.mem_cons.1 hf with rfl | hf
    ·exact ⟨h,hc⟩
    ·exact fields_all r [] (by simp) f hf
  ·rename_i hb
   refine fields_all r (cur++[c]) ?_ f hf
   intro x hx
   rcases List.mem_append.1 hx with hx | hx
   ·exact hc x hx
   ·simp at hx; subst hx; simpa using hb
end Go.Proofs.Ts
namespace Go.Proofs.Ts
open Go Go.RowKit
theorem blank_toNat (c:UInt8):isBlank c=(((c.toNat:Int) == 32) || ((c.toNat:Int) == 9) || ((c.toNat:Int) == 10)):=by
 unfold isBlank
 rw [Bool.eq_iff_iff]
 simp [← UInt8.toNat_inj]
 omega
theorem low1_toNat (c:UInt8):((low1 c).toNat:Int)=if 65≤c.toNat∧c.toNat≤90 then (c.toNat:Int)+32 else c.toNat:=by
 unfold low1
 by_cases h:65≤c∧c≤90
 ·have h1:65≤c.toNat:=by simpa [UInt8.le_iff_toNat_le] using h.1
  have h2:c.toNat≤90:=by simpa [UInt8.le_iff_toNat_le] using h.2
  rw [if_pos h,if_pos ⟨h1,h2⟩,UInt8.toNat_add]
  simp
  omega
 ·have h':¬ (65≤c.toNat∧c.toNat≤90):=fun x=>h ⟨by simpa [UInt8.le_iff_toNat_le] using x.1,by simpa [UInt8.le_iff_toNat_le] using x.2⟩
  rw [if_neg h,if_neg h']
end Go.Proofs.Ts
namespace Go.Proofs.Ts
open Go Go.RowKit
theorem getD_str (s:ByteArray) (k:Nat) (h:k < s.size):s.data.toList.getD k 0=s[k]:=by
 rw [List.getD_eq_getElem?_getD,List.getElem?_eq_getElem (by simpa using h),Option.getD_some,idx_str s k h]
end Go.Proofs.Ts
