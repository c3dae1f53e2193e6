/- Lemmas towards the statement Simple of termsearch: walks of the program's functions and plain laws on lists (TlAgree, TlAsked, TlPair, TlSameM, TlStep, TlStepS, TlStepM, TlScript, TlPlays, TlCard). Conditions: those that each theorem names. -/
import Derived.Test.YtffjomnnkilhgaaGreatDoorSimplePM
import Derived.Test.YtffjomnnkilhgaaGreatDoorSimplePJ
import Derived.Deep.Slices
import Derived.SizedLaws
import Derived.DataShut
set_option linter.unusedVariables false
set_option linter.unusedSimpArgs false
set_option linter.unusedSectionVars false
namespace Go.Proofs.Tl
open Go Go.RowKit Go.Proofs.Ts
theorem rise_eq:∀ (a b:List (List UInt8)),a.Pairwise (fun x y=>x < y)→b.Pairwise (fun x y=>x < y)→(∀ x,x∈a↔x∈b)→a=b
 | [],[],_,_,_=>rfl
 | [],y :: b,_,_,h=>absurd ((h y).2 List.mem_cons_self) (by simp)
 | x :: a,[],_,_,h=>absurd ((h x).1 List.mem_cons_self) (by simp)
 | x :: a,y :: b,ha,hb,h=>by
  rw [List.pairwise_cons] at ha hb
  have hxy:x=y:=by
   rcases List.mem_cons.1 ((h x).1 List.mem_cons_self) with e | e
   ·exact e
   ·rcases List.mem_cons.1 ((h y).2 List.mem_cons_self) with e' | e'
    ·exact e'.symm
    ·exact absurd (List.lt_trans (hb.1 x e) (ha.1 y e')) (List.lt_irrefl _)
  subst hxy
  rw [rise_eq a b ha.2 hb.2 fun z=>?_]
  constructor
  ·intro hz
   rcases List.mem_cons.1 ((h z).1 (List.mem_cons_of_mem _ hz)) with e | e
   ·subst e
    exact absurd (ha.1 z hz) (List.lt_irrefl _)
   ·exact e
  ·intro hz
   rcases List.mem_cons.1 ((h z).2 (List.mem_cons_of_mem _ hz)) with e | e
   ·subst e
    exact absurd (hb.1 z hz) (List.lt_irrefl _)
   ·exact e
theorem numsOf_mem {acc:List UInt8→Bool} {T:List (List UInt8)} {k i:Nat}:i∈numsOf acc T k↔i < k∧acc (T.getD i [])=true:=by
 unfold numsOf
 rw [List.mem_filter,List.mem_range]
theorem hits_nums (acc:List UInt8→Bool) (T:List (List UInt8)):∀ n,n≤T.length→hits acc (T.take n) 0=(numsOf acc T n).map fun i=>(T.getD i [],i)
 | 0,_=>by simp [hits,numsOf]
 | n+1,h=>by
  have hn:n < T.length:=by omega
  have e1:T.getD n []=T[n]:=by rw [List.getD_eq_getElem?_getD,List.getElem?_eq_getElem hn]; rfl
  rw [List.take_succ_eq_append_getElem hn,hits_append,hits_nums acc T n (by omega),numsOf_succ,List.map_append,e1]
  congr 1
  have hl:(T.take n).length=n:=by simp; omega
  rw [hl,Nat.zero_add]
  unfold hits
  rw [List.zipIdx_cons,List.zipIdx_nil,List.filter_cons]
  by_cases ha:acc T[n]=true <;> simp [ha,List.getElem?_eq_getElem hn]
theorem hits_all (acc:List UInt8→Bool) (T:List (List UInt8)):hits acc T 0=(numsOf acc T T.length).map fun i=>(T.getD i [],i):=by
 have:=hits_nums acc T T.length (Nat.le_refl _)
 rwa [List.take_length] at this
theorem nums_congr {a b:List UInt8→Bool} {T:List (List UInt8)} (h:∀ t∈T,a t=b t):numsOf a T T.length=numsOf b T T.length:=by
 unfold numsOf
 apply List.filter_congr
 intro i hi
 rw [List.mem_range] at hi
 have e1:T.getD i []=T[i]:=by rw [List.getD_eq_getElem?_getD,List.getElem?_eq_getElem hi]; rfl
 rw [e1]
 exact h _ (List.getElem_mem hi)
theorem hits_length {a b:List UInt8→Bool} {T:List (List UInt8)} (h:∀ t∈T,a t=b t):(hits a T 0).length=(numsOf b T T.length).length:=by
 rw [hits_all,List.length_map,nums_congr h]
theorem matches_eq {a b:List UInt8→Bool} {T:List (List UInt8)} (D:List (List (List UInt8))) (h:∀ t∈T,a t=b t):matchesOf D (hits a T 0)=foundOf (postsOf D) T (numsOf b T T.length):=by
 unfold matchesOf foundOf
 rw [hits_all,List.map_map,nums_congr h]
 rfl
theorem docs_eq {a b:List UInt8→Bool} {T:List (List UInt8)} {D:List (List (List UInt8))} (hT:∀ x,x∈T↔postsOf D x≠[]) (h:∀ t∈T,a t=b t):docsOf D a=unionOf (postsOf D) T (numsOf b T T.length) D.length:=by
 unfold docsOf unionOf
 apply List.filter_congr
 intro d hd
 rw [List.mem_range] at hd
 have e1:D.getD d []=D[d]:=by rw [List.getD_eq_getElem?_getD,List.getElem?_eq_getElem hd]; rfl
 rw [Bool.eq_iff_iff,List.any_eq_true,List.any_eq_true,e1]
 constructor
 ·rintro ⟨t,ht,ha⟩
  have hm:d∈postsOf D t:=(postsOf_mem D t d).2 ⟨_,List.getElem?_eq_getElem hd,ht⟩
  have htT:=(hT t).2 (List.ne_nil_of_mem hm)
  obtain ⟨i,hi,he⟩:=List.getElem_of_mem htT
  have e2:T.getD i []=t:=by rw [List.getD_eq_getElem?_getD,List.getElem?_eq_getElem hi]; exact he
  refine ⟨i,numsOf_mem.2 ⟨hi,?_⟩,?_⟩
  ·rw [e2,← h t htT]; exact ha
  ·rw [e2]; exact decide_eq_true hm
 ·rintro ⟨i,hi,hm⟩
  obtain ⟨hi1,hi2⟩:=numsOf_mem.1 hi
  have e2:T.getD i []=T[i]:=by rw [List.getD_eq_getElem?_getD,List.getElem?_eq_getElem hi1]; rfl
  rw [e2] at hi2 hm
  obtain ⟨ws,hw,hx⟩:=(postsOf_mem D _ d).1 (of_decide_eq_true hm)
  rw [List.getElem?_eq_getElem hd] at hw
  cases hw
  exact ⟨_,hx,by rw [h _ (List.getElem_mem hi1)]; exact hi2⟩
def Agree:PAns→Ans→Prop
 | .err k,.err n p=>toldB k.num k.place n p=true
 | .ok a,.ok b=>∀ t,t.length≤16→a t=b t
 | _,_=>False
theorem agree_limit {st most:Int} {r:PAns} {q:Ans} {T:List (List UInt8)} (h:Agree r q) (h16:∀ t∈T,t.length≤16):Agree (limitP st most r T) (limited st most q T):=by
 unfold limitP limited
 split
 ·exact (by decide:toldB 4 (-1) 4 0=true)
 ·cases r with
  | err k =>
   cases q with
   | err n p=>exact h
   | ok b=>exact h.elim
  | ok a =>
   cases q with
   | err n p=>exact h.elim
   | ok b =>
    have hl:=hits_length (a:=a) (b:=b) (T:=T) fun t ht=>h t (h16 t ht)
    simp only
    rw [hl]
    split
    ·exact (by decide:toldB 10 (-1) 10 0=true)
    ·exact h
structure Told (q:Asked) (st:Int):Prop where
 ex:∃ r p,Agree p r ∧ ∀ w,EnvOk w→CheckedIs w q st r∧(1≤st∧st≤400→ProgIs w q p)
end Go.Proofs.Tl
namespace Go.Proofs.Tl
open Go Go.RowKit Go.Proofs.Ts
def mapBlock:Value→Option Nat
 | .map (some k)=>some k
 | _=>none
theorem mapBlock_some {v:Value} {k:Nat} (h:mapBlock v=some k):v = .map (some k):=by
 unfold mapBlock at h
 split at h
 ·cases h; rfl
 ·cases h
section
variable {w w1 w':World} {own:Nat→Option Tag} {wb:Nat} {S:List SegE} {N:List NumE} {Bs:List BytE} {Env:World→Prop}
theorem Player.kept (h:Player w own wb S N Bs Env) (hb:Below w.heap.size w w'):∃ own',Player w' own' wb S N Bs Env∧(∀ k t,own k=some t→own' k=some t) ∧ ∀ k,own' k≠none→own k≠none:=by
 have hs:=Step.base (T:=fun _=>False) h.dom hb.size (iOq.below hb) fun k hk _=>hb.block k hk
 obtain ⟨xv,mv,nv,bv,h1,h2,h3,h4,h5⟩:=h.hub
 exact ⟨_,⟨hs.dom,hs.softs h.soft,hs.box h.env,(hs.keep _ _ h.tag id).1,⟨xv,mv,nv,bv,(hs.keep _ _ h.tag id).2.trans h1,h2.step hs id,h3.step hs id,h4.step hs id,h5.step hs id⟩,
  fun i e he=>(h.segs i e he).step hs h.soft id id,fun i e he=>(h.nums i e he).step hs id id,fun i e he=>(h.byts i e he).step hs id id⟩,fun k t ht=>(hs.keep k t ht id).1,fun k hk hn=>hk (drop_none hn)⟩
theorem map_set_same {α β:Type} (f:α→β):∀ (S:List α) (i:Nat) (e e':α),S[i]?=some e→f e'=f e→(S.set i e').map f=S.map f
 | [],i,e,e',h,_=>by simp at h
 | a :: S,0,e,e',h,hf=>by simp at h; subst h; simp [hf]
 | a :: S,i+1,e,e',h,hf=>by
  have:=map_set_same f S i e e' (by simpa using h) hf
  simp [this]
theorem Player.looked (h:Player w own wb S N Bs Env) {i:Nat} {e:SegE} (he:S[i]?=some e) {kn':Value} {db:Nat} {R:Nat→Prop} {Λ:Nat→List Word} {ρ:Nat→Nat} {Dd:List DS} {pv:Value} {ps:List Value}
  (hb:w.heap[e.sb]?=some (segObj e.D.length db pv 0 e.kn)) (hr:Box (Mut own) (fun w=>SegRest w e.D db R Λ ρ Dd pv ps) w) (hl:Looked 0 w w1 e.sb e.D e.kn kn' db R Λ ρ Dd pv ps)
  (b:Option Nat) (hbn:∀ k,b=some k→w.heap.size≤k∧k < w1.heap.size∧tyNo w1 k=3+1) :
  ∃ own',Player w1 own' wb (S.set i { e with kn:=kn' }) N Bs Env ∧ ∀ k,b=some k→own' k=some (.real N.length):=by
 have ho:=h.segs i e he
 have hil:=(List.getElem?_eq_some_iff.1 he).1
 have hsoft0:∀ k,tyNo w1 k=3+1→Soft w1 k:=fun k hk cs ty r hc=>by
  rw [tyNo_cells hc] at hk
  obtain rfl:ty=3:=Nat.add_right_cancel hk
  decide
 obtain ⟨own',hs,ht,hn⟩:=Step.make (T:=fun t=>t = .seg i∨t = .known i) (w:=w) (w':=w1) (own:=own) h.dom hl.mod.size (iOq.mod hl.mod)
  (fun k hk hno=>hl.mod.block k hk fun hc=>by
   rcases hc with rfl | hc
   ·exact hno _ ho.tag (.inl rfl)
   ·exact hno _ (ho.ktag k hc) (.inr rfl))
  (tyNo w1) [(.seg i,some e.sb,168+1),(.known i,mapBlock kn',0),(.real N.length,b,3+1)]
  (fun p hp k hk=>by
   simp only [List.mem_cons,List.not_mem_nil,or_false] at hp
   rcases hp with rfl | rfl | rfl
   ·cases hk
    exact ⟨.inr ⟨ho.tag,.inl rfl⟩,lt_of_heap hl.seg.1,Soft.cells hl.seg.1 (by decide),tyNo_cells hl.seg.1⟩
   ·have hkn:=mapBlock_some hk
    rcases hl.known with hk0 | ⟨km,m,hk1,_,hk2,_⟩
    ·rw [hk0] at hkn; cases hkn
    ·rw [hk1] at hkn
     cases hkn
     refine ⟨?_,hk2.lt,Soft.map hk2,tyNo_map hk2⟩
     rcases hl.new with h1 | ⟨j,h1,h2⟩
     ·exact .inr ⟨ho.ktag _ (h1.symm.trans hk1),.inr rfl⟩
     ·rw [hk1] at h1
      cases h1
      exact .inl h2
   ·obtain ⟨h1,h2,h3⟩:=hbn k hk
    exact ⟨.inl h1,h2,hsoft0 k h3,h3⟩)
  (by simp)
 have tg:∀ p∈[(Tag.seg i,some e.sb,168+1),(.known i,mapBlock kn',0),(.real N.length,b,3+1)],∀ k,p.2.1=some k→own' k=some p.1:=ht
 obtain ⟨xv,mv,nv,bv,h1,h2,h3,h4,h5⟩:=h.hub
 refine ⟨own',⟨hs.dom,hs.softs h.soft,hs.box h.env,(hs.keep _ _ h.tag (by simp)).1,⟨xv,mv,nv,bv,(hs.keep _ _ h.tag (by simp)).2.trans h1,?_,?_,h4.step hs (by simp),h5.step hs (by simp)⟩,
  fun j f hj=>?_,fun j f hj=>(h.nums j f hj).step hs (by simp) (by simp),fun j f hj=>(h.byts j f hj).step hs (by simp) (by simp)⟩,fun k hk=>tg (.real N.length,b,3+1) (by simp) k hk⟩
 ·rw [List.length_set,map_set_same (fun e:SegE=>ptrV e.sb) S i e { e with kn:=kn' } he rfl]
  exact h2.step hs (by simp)
 ·rw [List.length_set,map_set_same (fun e:SegE=>ptrV e.mb) S i e { e with kn:=kn' } he rfl]
  exact h3.step hs (by simp)
 ·rw [List.getElem?_set] at hj
  split at hj
  ·rename_i hij
   subst hij
   cases hj
   exact ⟨⟨db,R,Λ,ρ,Dd,pv,ps,hl.seg.1,hs.box hr⟩,tg (.seg i,some e.sb,168+1) (by simp) e.sb rfl,fun k hk=>tg (.known i,mapBlock kn',0) (by simp) k (by simp only at hk ⊢; rw [hk]; rfl),hl.known,hs.box ho.index,ho.few⟩
  ·rename_i hij
   exact (h.segs j f hj).step hs h.soft (by simp; omega) (by simp; omega)
theorem Player.keep (h:Player w own wb S N Bs Env) {L:List Int} {va cv xv mv nv bv nv':Value} (hub:w.heap[wb]?=some (.cells #[xv,mv,nv,bv] 32 (0,0))) (ha:IntsOf w va L) (hat:∀ k,va.ownBlock=some k→own k=some (.real N.length)) (hl:L.length≤1000)
  (hub':w'.heap[wb]?=some (.cells #[xv,mv,nv',bv] 32 (0,0))) (hrow:w'.ownsRow 0 64 2 nv' (N.length+1) (numCells N++[va,cv])) (hnp:∀ k,nv'.ownBlock=some k→nv.ownBlock=some k∨w.heap.size≤k)
  (hc:IntsOf w' cv L) (hcp:Past w.heap.size cv) (hm:Mod (fun k=>k=wb∨nv.ownBlock=some k) w w') :
  ∃ own',Player w' own' wb S (N++[⟨va,cv,L⟩]) Bs Env:=by
 obtain ⟨xv0,mv0,nv0,bv0,k1,k2,k3,k4,k5⟩:=h.hub
 rw [hub] at k1
 cases k1
 have ha':IntsOf w' va L:=ha.keep fun k hk=>hm.block k (ha.lt k hk).2 fun hc=>by
  have h1:=hat k hk
  rcases hc with rfl | hc
  ·rw [h.tag] at h1; cases h1
  ·rw [k4.2 k hc] at h1; cases h1
 have hfix:¬ Fix 3:=by decide
 obtain ⟨own',hs,ht,hn⟩:=Step.make (T:=fun t=>t = .hub∨t = .ns∨t = .real N.length) (w:=w) (w':=w') (own:=own) h.dom hm.size (iOq.mod hm)
  (fun k hk hno=>hm.block k hk fun hc=>by
   rcases hc with rfl | hc
   ·exact hno _ h.tag (.inl rfl)
   ·exact hno _ (k4.2 k hc) (.inr (.inl rfl)))
  (clsNo w' w.heap.size) [(.hub,some wb,32+1),(.ns,nv'.ownBlock,64+1),(.real N.length,va.ownBlock,3+1),(.want N.length,cv.ownBlock,100000)]
  (fun p hp k hk=>by
   simp only [List.mem_cons,List.not_mem_nil,or_false] at hp
   rcases hp with rfl | rfl | rfl | rfl
   ·cases hk
    exact ⟨.inr ⟨h.tag,.inl rfl⟩,lt_of_heap hub',Soft.cells hub' (by decide),clsNo_near (tyNo_cells hub') (.inr (by simp))⟩
   ·refine ⟨?_,(hrow.lt k hk).2,Soft.row hrow (by decide) hk,clsNo_near (tyNo_row hrow hk) (.inr (by simp))⟩
    rcases hnp k hk with hc | hc
    ·exact .inr ⟨k4.2 k hc,.inr (.inl rfl)⟩
    ·exact .inl hc
   ·exact ⟨.inr ⟨hat k hk,.inr (.inr rfl)⟩,(ha'.lt k hk).2,Soft.row ha' hfix hk,clsNo_near (tyNo_row ha' hk) (.inl (ha.lt k hk).2)⟩
   ·exact ⟨.inl (hcp k hk),(hc.lt k hk).2,Soft.row hc hfix hk,clsNo_far (.inl (tyNo_row hc hk)) (hcp k hk)⟩)
  (by simp)
 have tg:∀ p∈[(Tag.hub,some wb,32+1),(.ns,nv'.ownBlock,64+1),(.real N.length,va.ownBlock,3+1),(.want N.length,cv.ownBlock,100000)],∀ k,p.2.1=some k→own' k=some p.1:=ht
 refine ⟨own',hs.dom,hs.softs h.soft,hs.box h.env,tg _ List.mem_cons_self wb rfl,⟨xv,mv,nv',bv,hub',k2.step hs (by simp),k3.step hs (by simp),⟨?_,fun k hk=>tg (.ns,nv'.ownBlock,64+1) (by simp) k hk⟩,k5.step hs (by simp)⟩,
  fun j f hj=>(h.segs j f hj).step hs h.soft (by simp) (by simp),fun j f hj=>?_,fun j f hj=>(h.byts j f hj).step hs (by simp) (by simp)⟩
 ·rw [List.length_append,List.length_singleton,numCells_snoc]
  exact hrow
 ·rcases Nat.lt_or_ge j N.length with hjl | hjl
  ·rw [List.getElem?_append_left hjl] at hj
   exact (h.nums j f hj).step hs (by simp; omega) (by simp)
  ·rw [List.getElem?_append_right hjl] at hj
   have hj0:j - N.length=0:=by
    have:=(List.getElem?_eq_some_iff.1 hj).1
    simp at this
    omega
   rw [hj0] at hj
   cases hj
   obtain rfl:j=N.length:=by omega
   exact ⟨ha',hc,fun k hk=>tg (.real N.length,va.ownBlock,3+1) (by simp) k hk,fun k hk=>tg (.want N.length,cv.ownBlock,100000) (by simp) k hk,hl⟩
end
end Go.Proofs.Tl
namespace Go.Proofs.Tl
open Go Go.RowKit Go.Proofs.Ts
theorem Plays.box {n:Nat} {w:World} {wb:Nat} {Env:World→Prop} (h:Plays n w wb Env) (o:Obj):Plays n (w.alloc o) wb (fun W=>Env W∧W.heap[w.heap.size]?=some o):=by
 obtain ⟨own,S,N,Bs,h1,h2,h3,h4⟩:=h
 obtain ⟨own',h5,h6,h7⟩:=h4.kept ((Below.refl w.heap.size w).alloc (Nat.le_refl _) o)
 refine ⟨own',S,N,Bs,h1,h2,h3,⟨h5.dom,h5.soft,fun W hW=>⟨h5.env W hW,?_⟩,h5.tag,h5.hub,h5.segs,h5.nums,h5.byts⟩⟩
 rw [hW.block w.heap.size (by simp) fun hm=>?_]
 ·exact heap_alloc_new w o
 ·have:=h4.dom _ (h7 _ hm)
  omega
theorem Plays.weaken {n:Nat} {w:World} {wb:Nat} {Env Env':World→Prop} (h:Plays n w wb Env) (f:∀ W,Env W→Env' W):Plays n w wb Env':=by
 obtain ⟨own,S,N,Bs,h1,h2,h3,h4⟩:=h
 exact ⟨own,S,N,Bs,h1,h2,h3,⟨h4.dom,h4.soft,h4.env.mono f,h4.tag,h4.hub,h4.segs,h4.nums,h4.byts⟩⟩
def ofNats (l:List Nat):List Int:=l.map Int.ofNat
theorem ofNats_cells (l:List Nat):(ofNats l).map i64V=l.map intV:=by
 unfold ofNats
 rw [List.map_map]
 rfl
theorem ofNats_length (l:List Nat):(ofNats l).length=l.length:=by simp [ofNats]
theorem docsOf_length (D:List (List (List UInt8))) (acc:List UInt8→Bool):(docsOf D acc).length≤D.length:=by
 unfold docsOf
 have:=List.length_filter_le (fun d=>(D.getD d []).any acc) (List.range D.length)
 simpa using this
theorem search_pair (q:Asked) (st most:Int) (hq:q.states=st) (ht:Told q st) {own:Nat→Option Tag} {i:Nat} {e:SegE} (w:World) (hE:EnvOk w) (ho:SegOk w own i e)
  (db:Nat) (R:Nat→Prop) (Λ:Nat→List Word) (ρ:Nat→Nat) (Dd:List DS) (pv:Value) (ps:List Value) (hb:w.heap[e.sb]?=some (segObj e.D.length db pv 0 e.kn)) (hr:Box (Mut own) (fun w=>SegRest w e.D db R Λ ρ Dd pv ps) w) :
  Calls Tryz.prog 24 #[ptrV e.sb,askV q,.int .i64 st,.int .i64 most] w fun e1 w1=>∃ kn' va L kn kp,e1 = .returned (.tuple #[va,.int .i64 kn,.int .i64 kp])∧Looked 0 w w1 e.sb e.D e.kn kn' db R Λ ρ Dd pv ps ∧
   IntsOf w1 va L∧Past w.heap.size va∧(L.length=0→va = .slice none 0 0)∧L.length≤1000 ∧
   ∀ W,EnvOk W→IndexOf 0 W e.mb e.D→Calls Tryz.prog 25 #[ptrV e.mb,askV q,.int .i64 st,.int .i64 most] W fun e2 w2=>∃ vb n p,e2 = .returned (.tuple #[vb,.int .i64 n,.int .i64 p])∧toldB kn kp n p=true∧Below W.heap.size W w2∧IntsOf w2 vb L:=by
 obtain ⟨rr,rp,hag,hall⟩:=ht.ex
 have hrest:=hr.out
 have hseg:=hrest.at hb
 have h16:=hseg.2.2.2.2.2.1
 have hlim:=agree_limit (st:=st) (most:=most) hag h16
 refine (plainSearch_law 0 q st most rp e.sb e.D e.kn db R Λ ρ Dd pv ps w (Nat.zero_le _) (Nat.zero_le _) hseg ho.known hq (hall w hE).2 (by have:=ho.few; omega) hE.err).mono ?_
 rintro e1 w1 ⟨kn',hlo,hres⟩
 have hidx:∀ W,IndexOf 0 W e.mb e.D→IndexIs 0 W e.mb e.D.length (Λ 0) (postsOf e.D)∧(Λ 0).length≤1000000:=fun W hW=>by
  obtain ⟨T,h1,h2,h3⟩:=hW
  have hT:T=Λ 0:=rise_eq _ _ h1.rise hseg.2.2.1 fun x=>(h1.mem x).trans (hseg.2.2.2.1 x).symm
  rw [← hT]
  exact ⟨h3,by omega⟩
 have hfew:=ho.few
 have hpl:∀ x,(postsOf e.D x).length≤1000:=fun x=>by have:=postsOf_length e.D x; omega
 cases hA:limitP st most rp (Λ 0) with
 | err k =>
  cases hB:limited st most rr (Λ 0) with
  | ok b=>rw [hA,hB] at hlim; exact hlim.elim
  | err n p =>
   rw [hA,hB] at hlim
   rw [hA] at hres
   refine ⟨kn',.slice none 0 0,[],k.num,k.place,hres,hlo,World.ownsRow_nil _ _ _ _,(fun k e=>by cases e),fun _=>rfl,by simp,fun W hEW hW=>?_⟩
   obtain ⟨hi,hl⟩:=hidx W hW
   refine (refSearch_law q st most rr 0 e.mb e.D.length (Λ 0) (postsOf e.D) W hi hl h16 (by omega) hpl (hall W hEW).1).mono ?_
   rintro e2 w2 ⟨hb2,h2⟩
   rw [hB] at h2
   exact ⟨.slice none 0 0,n,p,h2,hlim,hb2,World.ownsRow_nil _ _ _ _⟩
 | ok a =>
  cases hB:limited st most rr (Λ 0) with
  | err n p=>rw [hA,hB] at hlim; exact hlim.elim
  | ok b =>
   rw [hA,hB] at hlim
   rw [hA] at hres
   obtain ⟨ov,rfl,hnew⟩:=hres
   have hde:=docs_eq (a:=a) (b:=b) (T:=Λ 0) (D:=e.D) hseg.2.2.2.1 fun t ht=>hlim t (h16 t ht)
   refine ⟨kn',ov,ofNats (docsOf e.D a),0,-1,rfl,hlo,?_,hnew.past,fun h=>hnew.nil (by rw [ofNats_length] at h; exact h),by rw [ofNats_length]; have:=docsOf_length e.D a; omega,fun W hEW hW=>?_⟩
   ·unfold IntsOf
    rw [ofNats_cells,ofNats_length]
    exact hnew.row
   ·obtain ⟨hi,hl⟩:=hidx W hW
    refine (refSearch_law q st most rr 0 e.mb e.D.length (Λ 0) (postsOf e.D) W hi hl h16 (by omega) hpl (hall W hEW).1).mono ?_
    rintro e2 w2 ⟨hb2,h2⟩
    rw [hB] at h2
    obtain ⟨ov2,rfl,hrow2⟩:=h2
    refine ⟨ov2,0,0,rfl,by decide,hb2,?_⟩
    rw [hde]
    unfold IntsOf
    rw [ofNats_cells,ofNats_length]
    exact hrow2.row
theorem matches_pair (q:Asked) (st most:Int) (hq:q.states=st) (ht:Told q st) {own:Nat→Option Tag} {i:Nat} {e:SegE} (w:World) (hE:EnvOk w) (ho:SegOk w own i e)
  (db:Nat) (R:Nat→Prop) (Λ:Nat→List Word) (ρ:Nat→Nat) (Dd:List DS) (pv:Value) (ps:List Value) (hb:w.heap[e.sb]?=some (segObj e.D.length db pv 0 e.kn)) (hr:Box (Mut own) (fun w=>SegRest w e.D db R Λ ρ Dd pv ps) w) :
  Calls Tryz.prog 27 #[ptrV e.sb,askV q,.int .i64 st,.int .i64 most] w fun e1 w1=>∃ kn' va L kn kp,e1 = .returned (.tuple #[va,.int .i64 kn,.int .i64 kp])∧Looked 0 w w1 e.sb e.D e.kn kn' db R Λ ρ Dd pv ps ∧
   w1.ownsRow 0 103 2 va (List.length L) (foundCells L)∧(L.length=0→va = .slice none 0 0)∧L.length≤10000 ∧
   ∀ W,EnvOk W→IndexOf 0 W e.mb e.D→Calls Tryz.prog 28 #[ptrV e.mb,askV q,.int .i64 st,.int .i64 most] W fun e2 w2=>∃ vb n p,e2 = .returned (.tuple #[vb,.int .i64 n,.int .i64 p])∧toldB kn kp n p=true∧Below W.heap.size W w2∧w2.ownsRow 0 103 2 vb (List.length L) (foundCells L):=by
 obtain ⟨rr,rp,hag,hall⟩:=ht.ex
 have hrest:=hr.out
 have hseg:=hrest.at hb
 have h16:=hseg.2.2.2.2.2.1
 have hlim:=agree_limit (st:=st) (most:=most) hag h16
 refine (plainMatches_law 0 q st most rp e.sb e.D e.kn db R Λ ρ Dd pv ps w (Nat.zero_le _) (Nat.zero_le _) hseg ho.known hq (hall w hE).2 (by have:=ho.few; omega) hE.err).mono ?_
 rintro e1 w1 ⟨kn',hlo,hres⟩
 have hidx:∀ W,IndexOf 0 W e.mb e.D→IndexIs 0 W e.mb e.D.length (Λ 0) (postsOf e.D)∧(Λ 0).length≤1000000:=fun W hW=>by
  obtain ⟨T,h1,h2,h3⟩:=hW
  have hT:T=Λ 0:=rise_eq _ _ h1.rise hseg.2.2.1 fun x=>(h1.mem x).trans (hseg.2.2.2.1 x).symm
  rw [← hT]
  exact ⟨h3,by omega⟩
 have hten:=hseg.2.2.2.2.1
 cases hA:limitP st most rp (Λ 0) with
 | err k =>
  cases hB:limited st most rr (Λ 0) with
  | ok b=>rw [hA,hB] at hlim; exact hlim.elim
  | err n p =>
   rw [hA,hB] at hlim
   rw [hA] at hres
   refine ⟨kn',.slice none 0 0,[],k.num,k.place,hres,hlo,World.ownsRow_nil _ _ _ _,fun _=>rfl,by simp,fun W hEW hW=>?_⟩
   obtain ⟨hi,hl⟩:=hidx W hW
   refine (refMatches_law q st most rr 0 e.mb e.D.length (Λ 0) (postsOf e.D) W hi hl h16 (hall W hEW).1).mono ?_
   rintro e2 w2 ⟨hb2,h2⟩
   rw [hB] at h2
   exact ⟨.slice none 0 0,n,p,h2,hlim,hb2,World.ownsRow_nil _ _ _ _⟩
 | ok a =>
  cases hB:limited st most rr (Λ 0) with
  | err n p=>rw [hA,hB] at hlim; exact hlim.elim
  | ok b =>
   rw [hA,hB] at hlim
   rw [hA] at hres
   obtain ⟨ov,rfl,hrow,hnil⟩:=hres
   have hme:=matches_eq (a:=a) (b:=b) (T:=Λ 0) e.D fun t ht=>hlim t (h16 t ht)
   have hml:(matchesOf e.D (hits a (Λ 0) 0)).length=(hits a (Λ 0) 0).length:=by simp [matchesOf]
   have hhl:(hits a (Λ 0) 0).length≤(Λ 0).length:=by unfold hits; exact Nat.le_trans (List.length_filter_le _ _) (by simp)
   refine ⟨kn',ov,matchesOf e.D (hits a (Λ 0) 0),0,-1,rfl,hlo,by rw [hml]; exact hrow,fun h=>hnil (by rw [hml] at h; exact h),by rw [hml]; omega,fun W hEW hW=>?_⟩
   obtain ⟨hi,hl⟩:=hidx W hW
   refine (refMatches_law q st most rr 0 e.mb e.D.length (Λ 0) (postsOf e.D) W hi hl h16 (hall W hEW).1).mono ?_
   rintro e2 w2 ⟨hb2,h2⟩
   rw [hB] at h2
   obtain ⟨ov2,rfl,hrow2⟩:=h2
   refine ⟨ov2,0,0,rfl,by decide,hb2,?_⟩
   rw [hme]
   have:(foundOf (postsOf e.D) (Λ 0) (numsOf b (Λ 0) (Λ 0).length)).length=(numsOf b (Λ 0) (Λ 0).length).length:=by simp [foundOf]
   rw [this]
   exact hrow2.row
end Go.Proofs.Tl
namespace Go.Proofs.Tl
open Go Go.RowKit Go.Proofs.Ts
theorem matchL_same (s:ByteArray) (d:Int) (W:World):(binOp .neq 103 (.agg #[.string s,.int .i64 d]) (.agg #[.string s,.int .i64 d])).run Tryz.prog W = .ok (.bool false) W:=by
 simp [go_sem,binOp,Op.equal,Op.maxDepth]
theorem matchL_guard (x y:Operand) (a b:Array Value) (W:World):(eqGuard .neq 103 x y (.agg a) (.agg b)).run Tryz.prog W = .ok () W:=by
 unfold eqGuard
 simp [Sem.run_bind,run_program]
set_option maxRecDepth 100000 in
set_option maxHeartbeats 4000000 in
theorem sameMatches_law (L:List (List UInt8 × Nat)) (va vb:Value) (w:World) (ha:w.ownsRow 0 103 2 va L.length (foundCells L)) (hb:w.ownsRow 0 103 2 vb L.length (foundCells L)) (hla:L.length≤1000000) :
  Calls Tryz.prog 29 #[va,vb] w fun e w'=>e = .returned (.bool true)∧Same w w':=by
 obtain ⟨aa,ac,rfl⟩:=ownsRow_form ha
 obtain ⟨ba,bc,rfl⟩:=ownsRow_form hb
 have HA:=Lib.hid ha
 have HB:=Lib.hid hb
 clear ha hb
 go_enter Tryz.func29,Tryz.ntmps29
 go_wp2_with fail
 go_loopw [5] (fun iv wr=>∃ i:Nat,i≤L.length∧iv = .int .i64 (i:Int)∧Hid (Same w wr)) (fun iv _=>L.length - (intOf iv).toNat)
 case atStart=>exact ⟨0,Nat.zero_le _,rfl,Lib.hid (Same.refl _)⟩
 case round =>
  obtain ⟨i,hia,rfl,HO⟩:=hrel
  have q1:IntKind.i64.wrap ((i:Int)+1)=(i:Int)+1:=IntWalk.i64_in _ (by omega)
  by_cases hil:i < L.length
  ·obtain ⟨t,d,htd⟩:∃ t d,L[i]?=some (t,d):=⟨_,_,List.getElem?_eq_getElem hil⟩
   obtain ⟨x1,x2⟩:=foundCells_at _ _ _ htd
   obtain ⟨g1,c1,h1,y1⟩:=ownsRow_cell HA.out x1
   obtain ⟨_,_,h2,y2⟩:=ownsRow_cell HA.out x2
   simp only [Value.slice.injEq] at h1 h2
   rw [h1.1] at h2
   simp only [Option.some.injEq,Addr.mk.injEq,and_true,true_and] at h2
   rw [← h2.1] at y2
   obtain ⟨g2,c2,h3,y3⟩:=ownsRow_cell HB.out x1
   obtain ⟨_,_,h4,y4⟩:=ownsRow_cell HB.out x2
   simp only [Value.slice.injEq] at h3 h4
   rw [h3.1] at h4
   simp only [Option.some.injEq,Addr.mk.injEq,and_true,true_and] at h4
   rw [← h4.1] at y4
   have p1:=(HO.out.cell _).trans y1
   have p2:=(HO.out.cell _).trans y2
   have p3:=(HO.out.cell _).trans y3
   have p4:=(HO.out.cell _).trans y4
   unfold strV at p1 p3
   unfold intV at p2 p4
   have e1:=h1.1
   have e3:=h3.1
   clear h1 h2 h3 h4 y1 y2 y3 y4 x1 x2 htd
   subst e1 e3
   have hms1:=fun W=>matchL_same ⟨t.toArray⟩ (d:Int) W
   have hmg1:=fun x y W=>matchL_guard x y #[.string ⟨t.toArray⟩,.int .i64 d] #[.string ⟨t.toArray⟩,.int .i64 d] W
   have zi:(0:Int)≤(i:Int)∧(i:Int) < (L.length:Int):=by omega
   go_upto_region 6 with fail
   go_quiet (fail)
   go_wp2_with fail
   go_roundw
   case rel=>exact ⟨i+1,by omega,by go_num,Lib.hid (HO.out.trans (Same.drewN _ _))⟩
   case measure=>(simp [intOf]) <;> omega
  ·obtain rfl:i=L.length:=by omega
   go_wp2_with fail
   go_ret
   exact ⟨rfl,HO.out⟩
end Go.Proofs.Tl
namespace Go.Proofs.Tl
open Go Go.RowKit Go.Proofs.Ts
def OpE.q (o:OpE):Asked:=⟨o.qk,o.qa,o.qb,o.qn,o.b⟩
theorem segRow_cell {w:World} {v:Value} {S:List SegE} {t:TypeId} {f:SegE→Nat} (h:w.ownsRow 0 t 1 v S.length (S.map fun e=>ptrV (f e))) {i:Nat} {e:SegE} (he:S[i]?=some e):∃ g cap,v = .slice (some ⟨g,0,none⟩) S.length cap∧w.cell? ⟨g,i,none⟩=some (ptrV (f e)):=by
 obtain ⟨g,cap,h1,h2⟩:=ownsRow_cell h (j:=i) (u:=ptrV (f e)) (by rw [List.getElem?_map,he]; rfl)
 exact ⟨g,cap,h1,h2⟩
theorem Plays.same {n:Nat} {w w':World} {wb:Nat} {Env:World→Prop} (h:Plays n w wb Env) (hs:Same w w'):Plays n w' wb Env:=h.below (hs.below _)
set_option maxRecDepth 100000 in
set_option maxHeartbeats 4000000 in
theorem step_build (o:OpE) (hk:o.kind=1) (n wb:Nat) (Env:World→Prop) (w:World) (h:Plays n w wb Env) (hn:n≤1000000) (hE:∀ W,Env W→EnvOk W∧StrsIs W o.dv o.docs) (hl:o.docs.length≤1000000) :
  Calls Tryz.prog 13 #[ptrV wb,opV o] w fun e w'=>e = .returned (.bool true)∧Plays (n+1) w' wb Env:=by
 obtain ⟨kd,oa,ob,oc,qk,qa,qb,qn,dv,docs,os⟩:=o
 simp only at hk hE hl
 subst hk
 have hP:=h.box (.cells (OpE.mk 1 oa ob oc qk qa qb qn dv docs os).cells 37)
 have hb:=built_player docs dv n wb Env (w.alloc (.cells (OpE.mk 1 oa ob oc qk qa qb qn dv docs os).cells 37)) (hP.weaken fun _ h=>h.1) hn (hE _ hP.env.1).1.err (hE _ hP.env.1).2 hl
 obtain ⟨a0,cap0,rfl,_⟩:=(hE _ h.env).2
 have HB:=Lib.hid hb
 clear hb hP hE
 unfold ptrV opV OpE.cells strV at *
 simp only at HB ⊢
 go_enter Tryz.func13,Tryz.ntmps13
 go_wp2_with (go_at_call 15; refine HB.out.mono ?_; rintro e w1 ⟨rfl,hp1⟩; have HP1:=Lib.hid hp1; clear hp1)
 go_ret
 exact ⟨rfl,HP1.out⟩
set_option maxRecDepth 100000 in
set_option maxHeartbeats 4000000 in
theorem step_mark (o:OpE) (hf:o.Fits) (hk:o.kind=10∨o.kind=11) (n wb:Nat) (Env:World→Prop) (w:World) (h:Plays n w wb Env) (hn:n≤1000000) :
  Calls Tryz.prog 13 #[ptrV wb,opV o] w fun e w'=>e = .returned (.bool true)∧Plays n w' wb Env:=by
 have hP:=h.box (.cells o.cells 37)
 have hm:=marks_player o hf n wb _ _ hP hn
 obtain ⟨kd,oa,ob,oc,qk,qa,qb,qn,dv,docs,os⟩:=o
 simp only at hk
 have HM:=Lib.hid hm
 have HF:=Lib.hid hf
 clear hm hP hf
 unfold ptrV opV OpE.cells strV at *
 simp only at HM ⊢
 have hdone:∀ (e:Ending) (W:World),(e = .returned (.bool true)∧Plays n W wb (fun W=>Env W∧W.heap[w.heap.size]?=some (.cells #[.int .i64 kd,.int .i64 oa,.int .i64 ob,.int .i64 oc,.int .i64 qk,.string ⟨qa.toArray⟩,.string ⟨qb.toArray⟩,.int .i64 qn,dv,.string ⟨os.toArray⟩] 37)))→e = .returned (.bool true)∧Plays n W wb Env:=fun e W h=>⟨h.1,h.2.weaken fun _ h=>h.1⟩
 refine Calls.mono ?_ hdone
 clear hdone
 rcases hk with rfl | rfl
 all_goals
  go_enter Tryz.func13,Tryz.ntmps13
  go_upto_region 12 with (go_at_call 20; refine HM.out.mono ?_; rintro e w1 ⟨rfl,hp1⟩; have HP1:=Lib.hid hp1; clear hp1)
  obtain ⟨own,S,N,Bs,l1,l2,l3,hp⟩:=HP1.out
  obtain ⟨xv,mv,nv,bv,k1,k2,k3,k4,k5⟩:=hp.hub
  obtain ⟨xa,xc,rfl⟩:=ownsRow_form k2.1
  obtain ⟨ma,mc,rfl⟩:=ownsRow_form k3.1
  have c0:w1.cell? ⟨wb,0,none⟩=some (.slice xa S.length xc):=cell_block k1
  have c1:w1.cell? ⟨wb,1,none⟩=some (.slice ma S.length mc):=cell_block k1
  by_cases hS:S.length=0
  ·rw [hS] at c0
   clear hp k1 k2 k3 k4 k5
   go_wp2_with fail
   go_ret
   exact ⟨rfl,HP1.out⟩
  ·have hpos:0 < S.length:=by omega
   have hpick:=fun W=>pick_law oa S.length W HF.out.a ⟨hpos,by omega⟩
   have hlt:=pickL_lt oa hpos
   obtain ⟨i,hi⟩:∃ i,i=pickL oa S.length:=⟨_,rfl⟩
   rw [← hi] at hpick hlt
   have HPICK:=Lib.hid hpick
   clear hpick hi
   obtain ⟨e,he⟩:∃ e,S[i]?=some e:=⟨_,List.getElem?_eq_getElem hlt⟩
   obtain ⟨gx,cx,e1,x1⟩:=segRow_cell k2.1 he
   obtain ⟨gm,cm,e2,x2⟩:=segRow_cell k3.1 he
   simp only [Value.slice.injEq,true_and] at e1 e2
   obtain ⟨rfl,rfl⟩:=e1
   obtain ⟨rfl,rfl⟩:=e2
   have hop:=hp.env.out.2
   have p0:w1.cell? ⟨w.heap.size,0,none⟩=some (.int .i64 _):=cell_block hop
   have p1:w1.cell? ⟨w.heap.size,1,none⟩=some (.int .i64 oa):=cell_block hop
   have z0:((S.length:Int) == 0)=false:=by rw [beq_eq_false_iff_ne]; omega
   have zi:(0:Int)≤(i:Int)∧(i:Int) < (S.length:Int):=by omega
   unfold ptrV at x1 x2
   clear hop hp k1 k2 k3 k4 k5 he
   go_upto_region 14 with fail
   go_quiet ((go_at_call 21; exact Calls.quiet_of_same (HPICK.out _)))
   go_wp2_with fail
   go_ret
   exact ⟨rfl,HP1.out.same (Same.drewN _ _)⟩
end Go.Proofs.Tl
namespace Go.Proofs.Tl
open Go Go.RowKit Go.Proofs.Ts
set_option maxRecDepth 100000 in
set_option maxHeartbeats 4000000 in
theorem step_search (o:OpE) (hf:o.Fits) (hk:o.kind=5) (n wb:Nat) (Env:World→Prop) (w:World) (h:Plays n w wb Env) (hn:n≤1000000) (hE:∀ W,Env W→EnvOk W) (ht:Told o.q o.b) :
  Calls Tryz.prog 13 #[ptrV wb,opV o] w fun e w'=>e = .returned (.bool true)∧Plays (n+1) w' wb Env:=by
 have hP:=h.box (.cells o.cells 37)
 have hm:=marks_player o hf n wb _ _ hP hn
 obtain ⟨kd,oa,ob,oc,qk,qa,qb,qn,dv,docs,os⟩:=o
 simp only at hk
 have HM:=Lib.hid hm
 have HF:=Lib.hid hf
 have HT:=Lib.hid ht
 have HE:=Lib.hid hE
 clear hm hP hf ht hE
 subst hk
 unfold ptrV opV OpE.cells strV at *
 simp only at HM ⊢
 have hdone:∀ (e:Ending) (W:World),(e = .returned (.bool true)∧Plays (n+1) W wb (fun W=>Env W∧W.heap[w.heap.size]?=some (.cells #[.int .i64 5,.int .i64 oa,.int .i64 ob,.int .i64 oc,.int .i64 qk,.string ⟨qa.toArray⟩,.string ⟨qb.toArray⟩,.int .i64 qn,dv,.string ⟨os.toArray⟩] 37)))→e = .returned (.bool true)∧Plays (n+1) W wb Env:=fun e W h=>⟨h.1,h.2.weaken fun _ h=>h.1⟩
 refine Calls.mono ?_ hdone
 clear hdone
 go_enter Tryz.func13,Tryz.ntmps13
 go_upto_region 12 with (go_at_call 20; refine HM.out.mono ?_; rintro e w1 ⟨rfl,hp1⟩; have HP1:=Lib.hid hp1; clear hp1)
 obtain ⟨own,S,N,Bs,l1,l2,l3,hp⟩:=HP1.out
 obtain ⟨xv,mv,nv,bv,k1,k2,k3,k4,k5⟩:=hp.hub
 obtain ⟨xa,xc,rfl⟩:=ownsRow_form k2.1
 obtain ⟨ma,mc,rfl⟩:=ownsRow_form k3.1
 have c0:w1.cell? ⟨wb,0,none⟩=some (.slice xa S.length xc):=cell_block k1
 have c1:w1.cell? ⟨wb,1,none⟩=some (.slice ma S.length mc):=cell_block k1
 by_cases hS:S.length=0
 ·rw [hS] at c0
  clear hp k1 k2 k3 k4 k5
  go_wp2_with fail
  go_ret
  exact ⟨rfl,HP1.out.mono (by omega)⟩
 ·have hpos:0 < S.length:=by omega
  have hpick:=fun W=>pick_law oa S.length W HF.out.a ⟨hpos,by omega⟩
  have hlt:=pickL_lt oa hpos
  obtain ⟨i,hi⟩:∃ i,i=pickL oa S.length:=⟨_,rfl⟩
  rw [← hi] at hpick hlt
  have HPICK:=Lib.hid hpick
  clear hpick hi
  obtain ⟨e,he⟩:∃ e,S[i]?=some e:=⟨_,List.getElem?_eq_getElem hlt⟩
  obtain ⟨gx,cx,e1,x1⟩:=segRow_cell k2.1 he
  obtain ⟨gm,cm,e2,x2⟩:=segRow_cell k3.1 he
  simp only [Value.slice.injEq,true_and] at e1 e2
  obtain ⟨rfl,rfl⟩:=e1
  obtain ⟨rfl,rfl⟩:=e2
  have hop:=hp.env.out.2
  have p0:w1.cell? ⟨w.heap.size,0,none⟩=some (.int .i64 5):=cell_block hop
  have p1:w1.cell? ⟨w.heap.size,1,none⟩=some (.int .i64 oa):=cell_block hop
  have p2:w1.cell? ⟨w.heap.size,2,none⟩=some (.int .i64 ob):=cell_block hop
  have p3:w1.cell? ⟨w.heap.size,3,none⟩=some (.int .i64 oc):=cell_block hop
  have p4:w1.cell? ⟨w.heap.size,4,none⟩=some (.int .i64 qk):=cell_block hop
  have p5:w1.cell? ⟨w.heap.size,5,none⟩=some (.string ⟨qa.toArray⟩):=cell_block hop
  have p6:w1.cell? ⟨w.heap.size,6,none⟩=some (.string ⟨qb.toArray⟩):=cell_block hop
  have p7:w1.cell? ⟨w.heap.size,7,none⟩=some (.int .i64 qn):=cell_block hop
  have z0:((S.length:Int) == 0)=false:=by rw [beq_eq_false_iff_ne]; omega
  have zi:(0:Int)≤(i:Int)∧(i:Int) < (S.length:Int):=by omega
  unfold ptrV at x1 x2
  have HHE:=Lib.hid he
  have HPP:=Lib.hid hp
  clear hop hp k1 k2 k3 k4 k5 he
  go_upto_region 14 with fail
  go_quiet ((go_at_call 21; exact Calls.quiet_of_same (HPICK.out _)))
  have HS:=Lib.hid (Same.drewN w1 nq)
  obtain ⟨own2,hp2,_⟩:=HPP.out.kept (HS.out.below _)
  have ho:=hp2.segs i e HHE.out
  obtain ⟨db,R,Λ,ρ,Dd,pv,ps,hb,hr⟩:=ho.ex
  have hE2:=HE.out _ hp2.env.out.1
  have hpair:=search_pair ⟨qk,qa,qb,qn,ob⟩ ob oc rfl HT.out (w1.drewN nq) hE2 ho db R Λ ρ Dd pv ps hb hr
  unfold ptrV askV strV at hpair
  simp only at hpair
  have HPAIR:=Lib.hid hpair
  have HP2:=Lib.hid hp2
  have HB2:=Lib.hid hb
  have HR2:=Lib.hid hr
  clear hpair hp2 hb hr ho hE2
  go_upto_region 27 with (go_at_call 24; refine HPAIR.out.mono ?_; rintro e1 w3 ⟨kn',va,L,kn,kp,rfl,hlo,hva,hpast,hnil,hlen,href⟩; have HLO:=Lib.hid hlo; have HVA:=Lib.hid hva; have HPAST:=Lib.hid hpast; have HNIL:=Lib.hid hnil; have HREF:=Lib.hid href; clear hlo hva hpast hnil href)
  obtain ⟨own3,hp3,htag⟩:=HP2.out.looked HHE.out HB2.out HR2.out HLO.out va.ownBlock (fun k hk=>⟨HPAST.out k hk,(HVA.out.lt k hk).2,tyNo_row HVA.out hk⟩)
  have hop:=hp3.env.out.2
  have r1:w3.cell? ⟨w.heap.size,2,none⟩=some (.int .i64 ob):=cell_block hop
  have r2:w3.cell? ⟨w.heap.size,3,none⟩=some (.int .i64 oc):=cell_block hop
  have r3:w3.cell? ⟨w.heap.size,4,none⟩=some (.int .i64 qk):=cell_block hop
  have r4:w3.cell? ⟨w.heap.size,5,none⟩=some (.string ⟨qa.toArray⟩):=cell_block hop
  have r5:w3.cell? ⟨w.heap.size,6,none⟩=some (.string ⟨qb.toArray⟩):=cell_block hop
  have r6:w3.cell? ⟨w.heap.size,7,none⟩=some (.int .i64 qn):=cell_block hop
  have ho3:=hp3.segs i { e with kn:=kn' } (by rw [List.getElem?_set_self hlt])
  have href:=HREF.out w3 (HE.out _ hp3.env.out.1) ho3.index.out
  unfold ptrV at href
  have HREF3:=Lib.hid href
  have HP3:=Lib.hid hp3
  have HTAG:=Lib.hid htag
  clear href hop hp3 htag ho3
  obtain ⟨va0,vac,rfl⟩:=ownsRow_form HVA.out
  go_upto_region 28 with (go_at_call 25; refine HREF3.out.mono ?_; rintro e2 w4 ⟨vb,nn,pp,rfl,htold,hb4,hvb⟩; have HB4:=Lib.hid hb4; have HVB:=Lib.hid hvb; have HTO:=Lib.hid htold; clear hb4 hvb htold)
  obtain ⟨vb0,vbc,rfl⟩:=ownsRow_form HVB.out
  go_upto_region 29 with (go_at_call 19; refine (told_law kn kp nn pp w4).mono ?_; rintro e3 w5 ⟨rfl,hs5⟩; have HS5:=Lib.hid hs5; rw [HTO.out]; clear hs5)
  have hb35:Below w3.heap.size w3 w5:=HB4.out.trans ((HS5.out.below _))
  obtain ⟨own5,hp5,hkeep5,_⟩:=HP3.out.kept hb35
  obtain ⟨xv5,mv5,nv5,bv5,k1,k2,k3,k4,k5⟩:=hp5.hub
  have hva5:IntsOf w5 (.slice va0 L.length vac) L:=HVA.out.below hb35
  have hvb5:IntsOf w5 (.slice vb0 L.length vbc) L:=HVB.out.keep fun k _=>by rw [HS5.out.heap]
  have HK:=Lib.hid (keep_law L (.slice va0 L.length vac) (.slice vb0 L.length vbc) wb N.length xv5 mv5 nv5 bv5 (numCells N) w5 hlen (by omega) k1 k4.1 hva5 hvb5 HNIL.out)
  have HP5:=Lib.hid hp5
  have HK1:=Lib.hid k1
  have HVA5:=Lib.hid hva5
  have HTAG5:Hid (∀ k,(Value.slice va0 L.length vac).ownBlock=some k→own5 k=some (.real N.length)):=Lib.hid fun k hk=>hkeep5 _ _ (HTAG.out k hk)
  clear hva5 hvb5 hp5 k1 k2 k3 k4 k5 hb35
  unfold ptrV at HK
  go_wp2_with (go_at_call 26; refine HK.out.mono ?_; rintro e4 w6 ⟨rfl,cv,nv6,g1,g2,g3,g4,g5,g6⟩; have HG:=Lib.hid (And.intro g1 (And.intro g2 (And.intro g3 (And.intro g4 (And.intro g5 g6))))); clear g1 g2 g3 g4 g5 g6)
  go_ret
  obtain ⟨g1,g2,g3,g4,g5,g6⟩:=HG.out
  obtain ⟨own6,hp6⟩:=HP5.out.keep HK1.out HVA5.out HTAG5.out hlen g1 g2 g3 g4 g5 g6
  exact ⟨rfl,own6,_,_,Bs,by simp; omega,by simp; omega,by omega,hp6⟩
end Go.Proofs.Tl
namespace Go.Proofs.Tl
open Go Go.RowKit Go.Proofs.Ts
set_option maxRecDepth 100000 in
set_option maxHeartbeats 4000000 in
theorem step_matches (o:OpE) (hf:o.Fits) (hk:o.kind=6) (n wb:Nat) (Env:World→Prop) (w:World) (h:Plays n w wb Env) (hn:n≤1000000) (hE:∀ W,Env W→EnvOk W) (ht:Told o.q o.b) :
  Calls Tryz.prog 13 #[ptrV wb,opV o] w fun e w'=>e = .returned (.bool true)∧Plays (n+1) w' wb Env:=by
 have hP:=h.box (.cells o.cells 37)
 have hm:=marks_player o hf n wb _ _ hP hn
 obtain ⟨kd,oa,ob,oc,qk,qa,qb,qn,dv,docs,os⟩:=o
 simp only at hk
 have HM:=Lib.hid hm
 have HF:=Lib.hid hf
 have HT:=Lib.hid ht
 have HE:=Lib.hid hE
 clear hm hP hf ht hE
 subst hk
 unfold ptrV opV OpE.cells strV at *
 simp only at HM ⊢
 have hdone:∀ (e:Ending) (W:World),(e = .returned (.bool true)∧Plays (n+1) W wb (fun W=>Env W∧W.heap[w.heap.size]?=some (.cells #[.int .i64 6,.int .i64 oa,.int .i64 ob,.int .i64 oc,.int .i64 qk,.string ⟨qa.toArray⟩,.string ⟨qb.toArray⟩,.int .i64 qn,dv,.string ⟨os.toArray⟩] 37)))→e = .returned (.bool true)∧Plays (n+1) W wb Env:=fun e W h=>⟨h.1,h.2.weaken fun _ h=>h.1⟩
 refine Calls.mono ?_ hdone
 clear hdone
 go_enter Tryz.func13,Tryz.ntmps13
 go_upto_region 12 with (go_at_call 20; refine HM.out.mono ?_; rintro e w1 ⟨rfl,hp1⟩; have HP1:=Lib.hid hp1; clear hp1)
 obtain ⟨own,S,N,Bs,l1,l2,l3,hp⟩:=HP1.out
 obtain ⟨xv,mv,nv,bv,k1,k2,k3,k4,k5⟩:=hp.hub
 obtain ⟨xa,xc,rfl⟩:=ownsRow_form k2.1
 obtain ⟨ma,mc,rfl⟩:=ownsRow_form k3.1
 have c0:w1.cell? ⟨wb,0,none⟩=some (.slice xa S.length xc):=cell_block k1
 have c1:w1.cell? ⟨wb,1,none⟩=some (.slice ma S.length mc):=cell_block k1
 by_cases hS:S.length=0
 ·rw [hS] at c0
  clear hp k1 k2 k3 k4 k5
  go_wp2_with fail
  go_ret
  exact ⟨rfl,HP1.out.mono (by omega)⟩
 ·have hpos:0 < S.length:=by omega
  have hpick:=fun W=>pick_law oa S.length W HF.out.a ⟨hpos,by omega⟩
  have hlt:=pickL_lt oa hpos
  obtain ⟨i,hi⟩:∃ i,i=pickL oa S.length:=⟨_,rfl⟩
  rw [← hi] at hpick hlt
  have HPICK:=Lib.hid hpick
  clear hpick hi
  obtain ⟨e,he⟩:∃ e,S[i]?=some e:=⟨_,List.getElem?_eq_getElem hlt⟩
  obtain ⟨gx,cx,e1,x1⟩:=segRow_cell k2.1 he
  obtain ⟨gm,cm,e2,x2⟩:=segRow_cell k3.1 he
  simp only [Value.slice.injEq,true_and] at e1 e2
  obtain ⟨rfl,rfl⟩:=e1
  obtain ⟨rfl,rfl⟩:=e2
  have hop:=hp.env.out.2
  have p0:w1.cell? ⟨w.heap.size,0,none⟩=some (.int .i64 6):=cell_block hop
  have p1:w1.cell? ⟨w.heap.size,1,none⟩=some (.int .i64 oa):=cell_block hop
  have p2:w1.cell? ⟨w.heap.size,2,none⟩=some (.int .i64 ob):=cell_block hop
  have p3:w1.cell? ⟨w.heap.size,3,none⟩=some (.int .i64 oc):=cell_block hop
  have p4:w1.cell? ⟨w.heap.size,4,none⟩=some (.int .i64 qk):=cell_block hop
  have p5:w1.cell? ⟨w.heap.size,5,none⟩=some (.string ⟨qa.toArray⟩):=cell_block hop
  have p6:w1.cell? ⟨w.heap.size,6,none⟩=some (.string ⟨qb.toArray⟩):=cell_block hop
  have p7:w1.cell? ⟨w.heap.size,7,none⟩=some (.int .i64 qn):=cell_block hop
  have z0:((S.length:Int) == 0)=false:=by rw [beq_eq_false_iff_ne]; omega
  have zi:(0:Int)≤(i:Int)∧(i:Int) < (S.length:Int):=by omega
  unfold ptrV at x1 x2
  have HHE:=Lib.hid he
  have HPP:=Lib.hid hp
  clear hop hp k1 k2 k3 k4 k5 he
  go_upto_region 14 with fail
  go_quiet ((go_at_call 21; exact Calls.quiet_of_same (HPICK.out _)))
  have HS:=Lib.hid (Same.drewN w1 nq)
  obtain ⟨own2,hp2,_⟩:=HPP.out.kept (HS.out.below _)
  have ho:=hp2.segs i e HHE.out
  obtain ⟨db,R,Λ,ρ,Dd,pv,ps,hb,hr⟩:=ho.ex
  have hE2:=HE.out _ hp2.env.out.1
  have hpair:=matches_pair ⟨qk,qa,qb,qn,ob⟩ ob oc rfl HT.out (w1.drewN nq) hE2 ho db R Λ ρ Dd pv ps hb hr
  unfold ptrV askV strV at hpair
  simp only at hpair
  have HPAIR:=Lib.hid hpair
  have HP2:=Lib.hid hp2
  have HB2:=Lib.hid hb
  have HR2:=Lib.hid hr
  clear hpair hp2 hb hr ho hE2
  go_upto_region 33 with (go_at_call 27; refine HPAIR.out.mono ?_; rintro e1 w3 ⟨kn',va,L,kn,kp,rfl,hlo,hva,hnil,hlen,href⟩; have HLO:=Lib.hid hlo; have HVA:=Lib.hid hva; have HNIL:=Lib.hid hnil; have HREF:=Lib.hid href; clear hlo hva hnil href)
  obtain ⟨own3,hp3,_⟩:=HP2.out.looked HHE.out HB2.out HR2.out HLO.out none (fun k hk=>by cases hk)
  have hop:=hp3.env.out.2
  have r1:w3.cell? ⟨w.heap.size,2,none⟩=some (.int .i64 ob):=cell_block hop
  have r2:w3.cell? ⟨w.heap.size,3,none⟩=some (.int .i64 oc):=cell_block hop
  have r3:w3.cell? ⟨w.heap.size,4,none⟩=some (.int .i64 qk):=cell_block hop
  have r4:w3.cell? ⟨w.heap.size,5,none⟩=some (.string ⟨qa.toArray⟩):=cell_block hop
  have r5:w3.cell? ⟨w.heap.size,6,none⟩=some (.string ⟨qb.toArray⟩):=cell_block hop
  have r6:w3.cell? ⟨w.heap.size,7,none⟩=some (.int .i64 qn):=cell_block hop
  have ho3:=hp3.segs i { e with kn:=kn' } (by rw [List.getElem?_set_self hlt])
  have href:=HREF.out w3 (HE.out _ hp3.env.out.1) ho3.index.out
  unfold ptrV at href
  have HREF3:=Lib.hid href
  have HP3:=Lib.hid hp3
  clear href hop hp3 ho3
  obtain ⟨va0,vac,rfl⟩:=ownsRow_form HVA.out
  go_upto_region 34 with (go_at_call 28; refine HREF3.out.mono ?_; rintro e2 w4 ⟨vb,nn,pp,rfl,htold,hb4,hvb⟩; have HB4:=Lib.hid hb4; have HVB:=Lib.hid hvb; have HTO:=Lib.hid htold; clear hb4 hvb htold)
  obtain ⟨vb0,vbc,rfl⟩:=ownsRow_form HVB.out
  go_upto_region 35 with (go_at_call 19; refine (told_law kn kp nn pp w4).mono ?_; rintro e3 w5 ⟨rfl,hs5⟩; have HS5:=Lib.hid hs5; rw [HTO.out]; clear hs5)
  have hb35:Below w3.heap.size w3 w5:=HB4.out.trans ((HS5.out.below _))
  obtain ⟨own5,hp5,_⟩:=HP3.out.kept hb35
  have hva5:w5.ownsRow 0 103 2 (.slice va0 L.length vac) L.length (foundCells L):=ownsRow_block HVA.out fun k hk=>hb35.block k (HVA.out.lt k hk).2
  have hvb5:w5.ownsRow 0 103 2 (.slice vb0 L.length vbc) L.length (foundCells L):=ownsRow_block HVB.out fun k _=>by rw [HS5.out.heap]
  have HK:=Lib.hid (sameMatches_law L (.slice va0 L.length vac) (.slice vb0 L.length vbc) w5 hva5 hvb5 (by omega))
  have HP5:=Lib.hid hp5
  clear hva5 hvb5 hp5 hb35
  go_upto_region 36 with (go_at_call 29; refine HK.out.mono ?_; rintro e4 w6 ⟨rfl,hs6⟩; have HS6:=Lib.hid hs6; clear hs6)
  have HFIN:Hid (Plays (n+1) w6 wb (fun W=>Env W∧W.heap[w.heap.size]?=some (.cells #[.int .i64 6,.int .i64 oa,.int .i64 ob,.int .i64 oc,.int .i64 qk,.string ⟨qa.toArray⟩,.string ⟨qb.toArray⟩,.int .i64 qn,dv,.string ⟨os.toArray⟩] 37))):=Lib.hid (Plays.same ⟨own5,_,N,Bs,by simp; omega,by omega,by omega,HP5.out⟩ HS6.out)
  by_cases h0:L.length=0
  ·have hva:=HNIL.out h0
   simp only [Value.slice.injEq] at hva
   obtain ⟨rfl,_,rfl⟩:=hva
   have heq:∀ W:World,(binOp .eql 57 (.slice none 0 0) (.slice none 0 0)).run Tryz.prog W = .ok (.bool true) W:=fun W=>by kernel_rfl
   rw [h0]
   go_wp2_with fail
   go_ret
   exact ⟨rfl,HFIN.out⟩
  ·have g1:decide ((0:Int) < (L.length:Int))=true:=decide_eq_true (by omega)
   go_wp2_with fail
   go_ret
   exact ⟨rfl,HFIN.out⟩
end Go.Proofs.Tl
namespace Go.Proofs.Tl
open Go Go.RowKit Go.Proofs.Ts
def Tame (n:Nat):Prop:=n≤281474976710656
structure OpE.Sized (o:OpE):Prop where
 a:Tame o.qa.length
 b:Tame o.qb.length
 s:Tame o.s.length
 docs:Tame o.docs.length
 doc:∀ d∈o.docs,Tame d.size
theorem sum_in {n a b c d:Nat} (hn:n≤65536) (ha:Tame a) (hb:Tame b) (hc:Tame c) (hd:Tame d) :
  IntKind.i64.wrap ((n:Int)+a)=(n:Int)+a∧IntKind.i64.wrap ((n:Int)+a+b)=(n:Int)+a+b∧IntKind.i64.wrap ((n:Int)+a+b+c)=(n:Int)+a+b+c∧IntKind.i64.wrap ((n:Int)+a+b+c+d)=(n:Int)+a+b+c+d:=by
 unfold Tame at *
 exact ⟨IntWalk.i64_in _ (by omega),IntWalk.i64_in _ (by omega),IntWalk.i64_in _ (by omega),IntWalk.i64_in _ (by omega)⟩
theorem one_in {n a:Nat} (hn:n≤65536) (ha:Tame a):IntKind.i64.wrap ((n:Int)+a)=(n:Int)+a:=by
 unfold Tame at *
 exact IntWalk.i64_in _ (by omega)
def ScriptIs (w:World) (v:Value) (ops:List OpE):Prop :=
 ∃ a cap,v = .slice a ops.length cap ∧ ∀ i (h:i < ops.length),(∃ b off,a=some ⟨b,off,none⟩ ∧ ∀ (j:Nat) u,ops[i].cells[j]?=some u→w.cell? ⟨b,off+i * 10+j,none⟩=some u)∧StrsIs w ops[i].dv ops[i].docs∧ops[i].Fits∧ops[i].Sized
theorem strs_cells {w w':World} {v:Value} {docs:List ByteArray} (h:StrsIs w v docs) (hb:∀ (b j:Nat) u,w.cell? ⟨b,j,none⟩=some u→w'.cell? ⟨b,j,none⟩=some u):StrsIs w' v docs:=by
 obtain ⟨a,cap,rfl,hc⟩:=h
 refine ⟨a,cap,rfl,fun i hi=>?_⟩
 obtain ⟨b,off,e,hcell⟩:=hc i hi
 exact ⟨b,off,e,hb _ _ _ hcell⟩
theorem ScriptIs.cells {w w':World} {v:Value} {ops:List OpE} (h:ScriptIs w v ops) (hb:∀ (b j:Nat) u,w.cell? ⟨b,j,none⟩=some u→w'.cell? ⟨b,j,none⟩=some u):ScriptIs w' v ops:=by
 obtain ⟨a,cap,rfl,hc⟩:=h
 refine ⟨a,cap,rfl,fun i hi=>?_⟩
 obtain ⟨⟨b,off,e,h1⟩,h2,h3,h4⟩:=hc i hi
 exact ⟨⟨b,off,e,fun j u hu=>hb _ _ _ (h1 j u hu)⟩,strs_cells h2 hb,h3,h4⟩
set_option maxRecDepth 100000 in
set_option maxHeartbeats 4000000 in
theorem small_law (ops:List OpE) (v:Value) (w:World) (hv:ScriptIs w v ops) (hl:Tame ops.length) :
  Calls Tryz.prog 12 #[v] w fun e w'=>Same w w'∧(e = .returned (.bool false)∨(e = .returned (.bool true)∧ops.length≤65536 ∧ ∀ o∈ops,o.docs.length≤65536)):=by
 obtain ⟨a,cap,rfl,hc⟩:=hv
 have HC:=Lib.hid hc
 have HL:=Lib.hid hl
 clear hc hl
 go_enter Tryz.func12,Tryz.ntmps12
 by_cases h0:65536 < ops.length
 ·have g0:decide ((65536:Int) < (ops.length:Int))=true:=decide_eq_true (by omega)
  go_wp2_with fail
  go_ret
  exact ⟨Same.refl _,.inl rfl⟩
 ·have g0:decide ((65536:Int) < (ops.length:Int))=false:=decide_eq_false (by omega)
  go_wp2_with fail
  go_loopw [3,4] (fun nv iv wr=>∃ i n:Nat,i≤ops.length∧iv = .int .i64 (i:Int)∧nv = .int .i64 (n:Int)∧n≤65536∧Hid (∀ o∈ops.take i,o.docs.length≤65536)∧Hid (Same w wr)) (fun _ iv _=>ops.length - (intOf iv).toNat)
  case atStart=>exact ⟨0,ops.length,Nat.zero_le _,rfl,rfl,by omega,Lib.hid (fun o h=>by simp at h),Lib.hid (Same.refl _)⟩
  case round =>
   obtain ⟨i,n,hi,rfl,rfl,hn,HA,HS⟩:=hrel
   have q1:IntKind.i64.wrap ((i:Int)+1)=(i:Int)+1:=IntWalk.i64_in _ (by omega)
   by_cases hil:i < ops.length
   ·obtain ⟨⟨b,off,rfl,hcell⟩,hstr,_,hsz⟩:=HC.out i hil
    have HA2:Hid (ops[i].docs.length≤65536 → ∀ o∈ops.take (i+1),o.docs.length≤65536):=Lib.hid fun h o ho=>by
     rw [List.take_succ_eq_append_getElem hil] at ho
     rcases List.mem_append.1 ho with ho | ho
     ·exact HA.out o ho
     ·rw [List.mem_singleton.1 ho]; exact h
    generalize ops[i]=o at *
    obtain ⟨kd,oa,ob,oc,qk,qa,qb,qn,dv,docs,os⟩:=o
    obtain ⟨da,dcap,hdv,hd⟩:=hstr
    simp only at hdv
    subst hdv
    have d5:wr.cell? ⟨b,off+i * 10+5,none⟩=some (.string ⟨qa.toArray⟩):=(HS.out.cell _).trans (hcell 5 _ rfl)
    have d6:wr.cell? ⟨b,off+i * 10+6,none⟩=some (.string ⟨qb.toArray⟩):=(HS.out.cell _).trans (hcell 6 _ rfl)
    have d8:wr.cell? ⟨b,off+i * 10+8,none⟩=some (.slice da docs.length dcap):=(HS.out.cell _).trans (hcell 8 _ rfl)
    have d9:wr.cell? ⟨b,off+i * 10+9,none⟩=some (.string ⟨os.toArray⟩):=(HS.out.cell _).trans (hcell 9 _ rfl)
    have HD:=Lib.hid hd
    have HSZ:=Lib.hid hsz
    obtain ⟨s1,s2,s3,s4⟩:=sum_in hn hsz.s hsz.a hsz.b hsz.docs
    simp only at s1 s2 s3 s4 HA2
    have zi:(0:Int)≤(i:Int)∧(i:Int) < (ops.length:Int):=by omega
    clear hcell hd hsz
    go_upto_region 7 with fail
    go_quiet (fail)
    have HS2:=Lib.hid (HS.out.trans (Same.drewN wr nq))
    by_cases hgt:65536 < n+os.length+qa.length+qb.length+docs.length
    ·have g1:decide ((65536:Int) < (n:Int)+os.length+qa.length+qb.length+docs.length)=true:=decide_eq_true (by omega)
     go_wp2_with fail
     go_ret
     exact ⟨HS2.out,.inl rfl⟩
    ·have g1:decide ((65536:Int) < (n:Int)+os.length+qa.length+qb.length+docs.length)=false:=decide_eq_false (by omega)
     obtain ⟨m,hm⟩:∃ m:Nat,m=n+os.length+qa.length+qb.length+docs.length:=⟨_,rfl⟩
     have hmi:(n:Int)+os.length+qa.length+qb.length+docs.length=(m:Int):=by omega
     have HA3:=Lib.hid (HA2.out (by omega))
     have hm2:m≤65536:=by omega
     have hdl:docs.length≤65536:=by omega
     have HM:=Lib.hid hm
     clear hm HA2 HA s1 s2 s3 s4
     go_upto_region 10 with fail
     rw [hmi]
     clear hmi g1
     go_upto_region 11 with fail
     generalize hW:wr.drewN nq=W at *
     have e5:W.cell? ⟨b,off+i * 10+8,none⟩=some (.slice da docs.length dcap):=by rw [← hW]; exact d8
     clear hW d5 d6 d8 d9
     go_loopw [3,5] (fun nv kv wq=>∃ k n:Nat,k≤docs.length∧kv = .int .i64 (k:Int)∧nv = .int .i64 (n:Int)∧n≤65536∧Hid (Same W wq)) (fun _ kv _=>docs.length - (intOf kv).toNat)
     case atStart=>exact ⟨0,m,Nat.zero_le _,rfl,rfl,hm2,Lib.hid (Same.refl _)⟩
     case round =>
      obtain ⟨k,n2,hk,rfl,rfl,hn2,HQ⟩:=hrel
      have q2:IntKind.i64.wrap ((k:Int)+1)=(k:Int)+1:=IntWalk.i64_in _ (by omega)
      have f5:=(HQ.out.cell ⟨b,off+i * 10+8,none⟩).trans e5
      by_cases hkl:k < docs.length
      ·obtain ⟨db,doff,rfl,hdc⟩:=HD.out k hkl
       have hdsz:=HSZ.out.doc docs[k] (List.getElem_mem hkl)
       have f6:=(HQ.out.cell _).trans ((HS2.out.cell _).trans hdc)
       have s5:=one_in hn2 hdsz
       generalize docs[k]=dd at *
       have zk:(0:Int)≤(k:Int)∧(k:Int) < (docs.length:Int):=by omega
       clear hdc
       by_cases hgt2:65536 < n2+dd.size
       ·have g2:decide ((65536:Int) < (n2:Int)+dd.size)=true:=decide_eq_true (by omega)
        clear hdsz
        go_wp2_with fail
        go_ret
        exact ⟨HS2.out.trans HQ.out,.inl rfl⟩
       ·have g2:decide ((65536:Int) < (n2:Int)+dd.size)=false:=decide_eq_false (by omega)
        clear hdsz
        go_wp2_with fail
        go_roundw
        case rel=>exact ⟨k+1,n2+dd.size,by omega,by go_num,by go_num,by omega,HQ⟩
        case measure=>(simp [intOf]) <;> omega
      ·obtain rfl:k=docs.length:=by omega
       go_wp2_with fail
       go_roundw
       case rel=>exact ⟨i+1,n2,by omega,by go_num,rfl,hn2,HA3,Lib.hid (HS2.out.trans HQ.out)⟩
       case measure=>(simp [intOf]) <;> omega
   ·obtain rfl:i=ops.length:=by omega
    rw [List.take_length] at HA
    go_wp2_with fail
    go_ret
    exact ⟨HS.out,.inr ⟨rfl,by omega,HA.out⟩⟩
end Go.Proofs.Tl
namespace Go.Proofs.Tl
open Go Go.RowKit Go.Proofs.Ts
def inB (kd:Int) (ks:List Int):Bool:=(kd == 1 || kd == 10 || kd == 11) || ks.any fun k=>kd == k
def askB (kd:Int):Bool:=kd == 5 || kd == 6 || kd == 7
def playB (ks qs:List Int) (o:OpE):Bool:=inB o.kind ks && (qs.isEmpty || !askB o.kind || qs.any fun k=>o.qk == k)
structure PlayEnv (w0:World) (v kv qv:Value) (ops:List OpE) (ks qs:List Int) (w:World):Prop where
 base:Below w0.heap.size w0 w
 env:EnvOk w
 script:ScriptIs w v ops
 kinds:IntsOf w kv ks
 queries:IntsOf w qv qs
theorem EnvOk.kept {w w':World} (h:EnvOk w) (hk:∀ k,k < w.heap.size→w'.heap[k]?=w.heap[k]?):EnvOk w':=by
 obtain ⟨_,cs,t,r,h2,_⟩:=id h.err
 obtain ⟨c1,h3⟩:=h.tabs.first
 obtain ⟨c2,h4⟩:=h.tabs.accept
 exact ⟨h.err.kept (hk _ (lt_of_heap h2)),h.bits.kept (hk _ h.bits.lt),h.tabs.kept (hk _ (lt_of_heap h3)) (hk _ (lt_of_heap h4))⟩
theorem PlayEnv.kept {w0:World} {v kv qv:Value} {ops:List OpE} {ks qs:List Int} {w w':World} (h:PlayEnv w0 v kv qv ops ks qs w) (hb:Below w.heap.size w w'):PlayEnv w0 v kv qv ops ks qs w' :=
 ⟨h.base.trans (hb.mono h.base.size),h.env.kept hb.block,h.script.cells fun b j u hu=>(World.cell?_of_block (a:=⟨b,j,none⟩) (hb.block _ (lt_of_cell hu))).trans hu,h.kinds.keep fun k e=>hb.block k (h.kinds.lt k e).2,h.queries.keep fun k e=>hb.block k (h.queries.lt k e).2⟩
theorem Plays.start {w0:World} {v kv qv:Value} {ops:List OpE} {ks qs:List Int} {w:World} (h:PlayEnv w0 v kv qv ops ks qs w) :
  Plays 0 (w.alloc (.cells #[.slice none 0 0,.slice none 0 0,.slice none 0 0,.slice none 0 0] 32)) w.heap.size (PlayEnv w0 v kv qv ops ks qs):=by
 have hwb:=heap_alloc_new w (.cells #[.slice none 0 0,.slice none 0 0,.slice none 0 0,.slice none 0 0] 32)
 refine ⟨fun k=>if k=w.heap.size then some .hub else none,[],[],[],Nat.le_refl _,Nat.le_refl _,Nat.le_refl _,⟨fun k hk=>?_,fun k hk=>?_,fun W hW=>?_,if_pos rfl,⟨_,_,_,_,hwb,⟨World.ownsRow_nil _ _ _ _,fun k e=>by cases e⟩,⟨World.ownsRow_nil _ _ _ _,fun k e=>by cases e⟩,⟨World.ownsRow_nil _ _ _ _,fun k e=>by cases e⟩,⟨World.ownsRow_nil _ _ _ _,fun k e=>by cases e⟩⟩,fun i e he=>by simp at he,fun i e he=>by simp at he,fun i e he=>by simp at he⟩⟩
 ·by_cases e:k=w.heap.size
  ·subst e; simp
  ·exact absurd (if_neg e) hk
 ·by_cases e:k=w.heap.size
  ·subst e
   exact Soft.cells hwb (by decide)
  ·exact absurd (if_neg e) hk
 ·refine h.kept ⟨hW.io.os,hW.io.tape,hW.io.output,Nat.le_trans (by simp) hW.size,fun k hk=>?_⟩
  rw [hW.block k (by simp; omega) (fun hm=>hm (if_neg (by omega)))]
  exact Below.heap_alloc w _ k hk
set_option maxRecDepth 100000 in
set_option maxHeartbeats 8000000 in
theorem plays_law (ops:List OpE) (ks qs:List Int) (v kv qv:Value) (w:World) (hE:PlayEnv w v kv qv ops ks qs w) (hl:Tame ops.length) (hk:ks.length≤100) (hq:qs.length≤100)
  (hstep:∀ o∈ops,playB ks qs o=true→o.docs.length≤65536 → ∀ n wb W,n≤65536→Plays n W wb (PlayEnv w v kv qv ops ks qs) →
   Calls Tryz.prog 13 #[ptrV wb,opV o] W fun e w'=>e = .returned (.bool true)∧Plays (n+1) w' wb (PlayEnv w v kv qv ops ks qs)) :
  Calls Tryz.prog 11 #[v,kv,qv] w fun e w'=>e = .returned (.bool true)∧Below w.heap.size w w':=by
 have hsm:=small_law ops v w hE.script hl
 obtain ⟨a,cap,rfl,_⟩:=hE.script
 obtain ⟨ka,kc,rfl⟩:=ownsRow_form hE.kinds
 obtain ⟨qa0,qc,rfl⟩:=ownsRow_form hE.queries
 have HE:=Lib.hid hE
 have HSM:=Lib.hid hsm
 have HSTEP:=Lib.hid hstep
 have HL:=Lib.hid hl
 clear hE hsm hstep hl
 go_enter Tryz.func11,Tryz.ntmps11
 go_upto_region 2 with (go_at_call 12; refine HSM.out.mono ?_; rintro e w1 ⟨hs1,hres⟩; have HS1:=Lib.hid hs1; clear hs1; rcases hres with rfl | ⟨rfl,h65,hd65⟩)
 ·go_wp2_with fail
  go_ret
  exact ⟨rfl,HS1.out.below _⟩
 ·have HD65:=Lib.hid hd65
  clear hd65
  have HP0:=Lib.hid (Plays.start (HE.out.kept (w':=w1) (HS1.out.below _)))
  have HB1:Hid (Below w.heap.size w (w1.alloc (.cells #[.slice none 0 0,.slice none 0 0,.slice none 0 0,.slice none 0 0] 32))):=Lib.hid ((HS1.out.below _).alloc (by rw [HS1.out.heap]; exact Nat.le_refl _) _)
  obtain ⟨wb,hwb⟩:∃ wb,wb=w1.heap.size:=⟨_,rfl⟩
  rw [← hwb] at HP0
  go_upto_region 6 with fail
  rw [← hwb]
  clear hwb
  generalize (w1.alloc (.cells #[.slice none 0 0,.slice none 0 0,.slice none 0 0,.slice none 0 0] 32))=w2 at *
  go_loopw [9] (fun iv wr=>∃ i:Nat,i≤ops.length∧iv = .int .i64 (i:Int)∧Hid (Plays i wr wb (PlayEnv w (.slice a ops.length cap) (.slice ka ks.length kc) (.slice qa0 qs.length qc) ops ks qs))∧Hid (Below w.heap.size w wr)) (fun iv _=>ops.length - (intOf iv).toNat)
  case atStart=>exact ⟨0,Nat.zero_le _,rfl,HP0,HB1⟩
  case round =>
   obtain ⟨i,hi,rfl,HP,HB⟩:=hrel
   have q1:IntKind.i64.wrap ((i:Int)+1)=(i:Int)+1:=IntWalk.i64_in _ (by omega)
   by_cases hil:i < ops.length
   ·have henv:=HP.out.env
    obtain ⟨a',cap',e1,hsc⟩:=henv.script
    simp only [Value.slice.injEq,true_and] at e1
    obtain ⟨rfl,rfl⟩:=e1
    obtain ⟨⟨b,off,rfl,hcell⟩,hstr,_,_⟩:=hsc i hil
    have hmem:ops[i]∈ops:=List.getElem_mem hil
    have HST:=Lib.hid (HSTEP.out ops[i] hmem)
    have hdoc:=HD65.out ops[i] hmem
    generalize ops[i]=o at *
    obtain ⟨kd,oa,ob,oc,qk,qa,qb,qn,dv,docs,os⟩:=o
    obtain ⟨da,dcap,hdv,_⟩:=hstr
    simp only at hdv
    subst hdv
    have c0:wr.cell? ⟨b,off+i * 10+0,none⟩=some (.int .i64 kd):=hcell 0 _ rfl
    have c1:wr.cell? ⟨b,off+i * 10+1,none⟩=some (.int .i64 oa):=hcell 1 _ rfl
    have c2:wr.cell? ⟨b,off+i * 10+2,none⟩=some (.int .i64 ob):=hcell 2 _ rfl
    have c3:wr.cell? ⟨b,off+i * 10+3,none⟩=some (.int .i64 oc):=hcell 3 _ rfl
    have c4:wr.cell? ⟨b,off+i * 10+4,none⟩=some (.int .i64 qk):=hcell 4 _ rfl
    have c5:wr.cell? ⟨b,off+i * 10+5,none⟩=some (.string ⟨qa.toArray⟩):=hcell 5 _ rfl
    have c6:wr.cell? ⟨b,off+i * 10+6,none⟩=some (.string ⟨qb.toArray⟩):=hcell 6 _ rfl
    have c7:wr.cell? ⟨b,off+i * 10+7,none⟩=some (.int .i64 qn):=hcell 7 _ rfl
    have c8:wr.cell? ⟨b,off+i * 10+8,none⟩=some (.slice da docs.length dcap):=hcell 8 _ rfl
    have c9:wr.cell? ⟨b,off+i * 10+9,none⟩=some (.string ⟨os.toArray⟩):=hcell 9 _ rfl
    have zi:(0:Int)≤(i:Int)∧(i:Int) < (ops.length:Int):=by omega
    simp only [Nat.add_zero] at c0
    have HENV:=Lib.hid henv
    clear hcell hsc henv hmem
    go_upto_region 9 with fail
    rename_i K1 hK1
    have hop:=heap_alloc_new wr (.cells #[.int .i64 kd,.int .i64 oa,.int .i64 ob,.int .i64 oc,.int .i64 qk,.string ⟨qa.toArray⟩,.string ⟨qb.toArray⟩,.int .i64 qn,.slice da docs.length dcap,.string ⟨os.toArray⟩] 37)
    have hbr:=(Below.refl wr.heap.size wr).alloc (Nat.le_refl _) (.cells #[.int .i64 kd,.int .i64 oa,.int .i64 ob,.int .i64 oc,.int .i64 qk,.string ⟨qa.toArray⟩,.string ⟨qb.toArray⟩,.int .i64 qn,.slice da docs.length dcap,.string ⟨os.toArray⟩] 37)
    obtain ⟨g,hg⟩:∃ g,g=wr.heap.size:=⟨_,rfl⟩
    rw [← hg] at hop
    have HBR:=Lib.hid hbr
    have HG:=Lib.hid hg
    rw [← hg]
    clear hbr hg c0 c1 c2 c3 c4 c5 c6 c7 c8 c9
    generalize (wr.alloc (.cells #[.int .i64 kd,.int .i64 oa,.int .i64 ob,.int .i64 oc,.int .i64 qk,.string ⟨qa.toArray⟩,.string ⟨qb.toArray⟩,.int .i64 qn,.slice da docs.length dcap,.string ⟨os.toArray⟩] 37))=W at *
    have p0:W.cell? ⟨g,0,none⟩=some (.int .i64 kd):=cell_block hop
    have p1:W.cell? ⟨g,1,none⟩=some (.int .i64 oa):=cell_block hop
    have p2:W.cell? ⟨g,2,none⟩=some (.int .i64 ob):=cell_block hop
    have p3:W.cell? ⟨g,3,none⟩=some (.int .i64 oc):=cell_block hop
    have p4:W.cell? ⟨g,4,none⟩=some (.int .i64 qk):=cell_block hop
    have p5:W.cell? ⟨g,5,none⟩=some (.string ⟨qa.toArray⟩):=cell_block hop
    have p6:W.cell? ⟨g,6,none⟩=some (.string ⟨qb.toArray⟩):=cell_block hop
    have p7:W.cell? ⟨g,7,none⟩=some (.int .i64 qn):=cell_block hop
    have p8:W.cell? ⟨g,8,none⟩=some (.slice da docs.length dcap):=cell_block hop
    have p9:W.cell? ⟨g,9,none⟩=some (.string ⟨os.toArray⟩):=cell_block hop
    have HPW:=Lib.hid (HP.out.below HBR.out)
    have HKI:=Lib.hid (HENV.out.kinds.below HBR.out)
    have HQU:=Lib.hid (HENV.out.queries.below HBR.out)
    clear hop HENV
    go_cut [11] from 31 to 109 (fun t wy=>t = .bool (kd == 1 || kd == 10 || kd == 11)∧W=wy)
    case first =>
     by_cases k1:kd=1
     ·subst k1
      go_wp2_with fail
      go_meet
      exact ⟨rfl,rfl⟩
     ·have e1:(kd == 1)=false:=beq_eq_false_iff_ne.2 k1
      by_cases k10:kd=10
      ·subst k10
       go_wp2_with fail
       go_meet
       exact ⟨rfl,rfl⟩
      ·have e10:(kd == 10)=false:=beq_eq_false_iff_ne.2 k10
       by_cases k11:kd=11
       ·subst k11
        go_wp2_with fail
        go_meet
        exact ⟨rfl,rfl⟩
       ·have e11:(kd == 11)=false:=beq_eq_false_iff_ne.2 k11
        go_wp2_with fail
        go_meet
        exact ⟨by rw [e1,e10,e11]; rfl,rfl⟩
    case rest =>
    obtain ⟨rfl,rfl⟩:=hcut
    refine hK1 _ _ ?_
    clear hK1
    obtain ⟨b0,hb0⟩:∃ b0,b0=(kd == 1 || kd == 10 || kd == 11):=⟨_,rfl⟩
    rw [← hb0]
    have HB0:=Lib.hid hb0
    clear hb0
    go_upto_region 11 with fail
    go_loopw [11,12] (fun bv jv wq=>∃ j:Nat,j≤ks.length∧jv = .int .i64 (j:Int)∧bv = .bool (b0 || (ks.take j).any fun k=>kd == k)∧Hid (Same W wq)) (fun _ jv _=>ks.length - (intOf jv).toNat)
    case atStart=>exact ⟨0,Nat.zero_le _,rfl,by simp,Lib.hid (Same.refl _)⟩
    case round =>
     obtain ⟨j,hj,rfl,rfl,HS⟩:=hrel
     have q2:IntKind.i64.wrap ((j:Int)+1)=(j:Int)+1:=IntWalk.i64_in _ (by omega)
     by_cases hjl:j < ks.length
     ·obtain ⟨g2,cp2,e2,hc2,_⟩:=HKI.out.cellAt hjl
      simp only [Value.slice.injEq,true_and] at e2
      obtain ⟨rfl,rfl⟩:=e2
      have hnext:(b0 || (ks.take (j+1)).any fun k=>kd == k)=((b0 || (ks.take j).any fun k=>kd == k) || (kd == ks.getD j 0)):=by
       rw [List.take_succ_eq_append_getElem hjl,List.any_append,List.getD_eq_getElem?_getD,List.getElem?_eq_getElem hjl]
       simp [Bool.or_assoc]
      have r1:=(HS.out.cell _).trans hc2
      have r2:=(HS.out.cell _).trans p0
      have zj:(0:Int)≤(j:Int)∧(j:Int) < (ks.length:Int):=by omega
      have HNX:=Lib.hid hnext
      generalize (b0 || (ks.take j).any fun k=>kd == k)=bj at *
      generalize ks.getD j 0=kj at *
      clear hc2 hnext
      go_upto_region 13 with fail
      cases bj with
      | true =>
       go_quiet (fail)
       go_wp2_with fail
       go_roundw
       case rel=>exact ⟨j+1,by omega,by go_num,by rw [HNX.out]; rfl,Lib.hid (HS.out.trans (Same.drewN _ _))⟩
       case measure=>(simp [intOf]) <;> omega
      | false =>
       go_quiet (fail)
       go_wp2_with fail
       go_roundw
       case rel=>exact ⟨j+1,by omega,by go_num,by rw [HNX.out,Bool.false_or],Lib.hid (HS.out.trans (Same.drewN _ _))⟩
       case measure=>(simp [intOf]) <;> omega
     ·obtain rfl:j=ks.length:=by omega
      have hin:(b0 || (ks.take ks.length).any fun k=>kd == k)=inB kd ks:=by
       rw [List.take_length,HB0.out]
       rfl
      rw [hin]
      clear hin
      have t0:=(HS.out.cell _).trans p0
      have t4:=(HS.out.cell _).trans p4
      obtain ⟨ib,hib⟩:∃ ib,ib=inB kd ks:=⟨_,rfl⟩
      rw [← hib]
      have HIB:=Lib.hid hib
      clear hib
      go_upto_region 14 with fail
      rename_i K2 hK2 K1 hK1
      go_cut [77] from 60 to 109 (fun t wy=>t = .bool (decide (0 < qs.length) && askB kd)∧wr=wy)
      case first =>
       by_cases hq0:qs.length=0
       ·have g1:decide ((0:Int) < (qs.length:Int))=false:=decide_eq_false (by omega)
        have g2:decide (0 < qs.length)=false:=decide_eq_false (by omega)
        go_wp2_with fail
        go_meet
        exact ⟨by rw [g2]; rfl,rfl⟩
       ·have g1:decide ((0:Int) < (qs.length:Int))=true:=decide_eq_true (by omega)
        have g2:decide (0 < qs.length)=true:=decide_eq_true (by omega)
        by_cases k5:kd=5
        ·subst k5
         go_wp2_with fail
         go_meet
         exact ⟨by rw [g2]; rfl,rfl⟩
        ·have e5:(kd == 5)=false:=beq_eq_false_iff_ne.2 k5
         by_cases k6:kd=6
         ·subst k6
          go_wp2_with fail
          go_meet
          exact ⟨by rw [g2]; rfl,rfl⟩
         ·have e6:(kd == 6)=false:=beq_eq_false_iff_ne.2 k6
          by_cases k7:kd=7
          ·subst k7
           go_wp2_with fail
           go_meet
           exact ⟨by rw [g2]; rfl,rfl⟩
          ·have e7:(kd == 7)=false:=beq_eq_false_iff_ne.2 k7
           go_wp2_with fail
           go_meet
           exact ⟨by rw [g2]; unfold askB; rw [e5,e6,e7]; rfl,rfl⟩
      case rest =>
      obtain ⟨rfl,rfl⟩:=hcut
      refine hK1 _ _ ?_
      clear hK1
      obtain ⟨cb,hcb⟩:∃ cb,cb=(decide (0 < qs.length) && askB kd):=⟨_,rfl⟩
      rw [← hcb]
      have HCB:=Lib.hid hcb
      clear hcb
      go_cut [11] from 78 to 109 (fun t wy=>t = .bool (if cb then ib && qs.any (fun k=>qk == k) else ib)∧Hid (Same W wy))
      case first =>
       cases cb with
       | false =>
        go_wp2_with fail
        go_meet
        exact ⟨rfl,HS⟩
       | true =>
        go_upto_region 17 with fail
        go_loopw [13,14] (fun bv jv wq=>∃ j:Nat,j≤qs.length∧jv = .int .i64 (j:Int)∧bv = .bool ((qs.take j).any fun k=>qk == k)∧Hid (Same W wq)) (fun _ jv _=>qs.length - (intOf jv).toNat)
        case atStart=>exact ⟨0,Nat.zero_le _,rfl,by simp,HS⟩
        case round =>
         obtain ⟨j,hj,rfl,rfl,HS⟩:=hrel
         have q2:IntKind.i64.wrap ((j:Int)+1)=(j:Int)+1:=IntWalk.i64_in _ (by omega)
         by_cases hjl:j < qs.length
         ·obtain ⟨g2,cp2,e2,hc2,_⟩:=HQU.out.cellAt hjl
          simp only [Value.slice.injEq,true_and] at e2
          obtain ⟨rfl,rfl⟩:=e2
          have hnext:((qs.take (j+1)).any fun k=>qk == k)=(((qs.take j).any fun k=>qk == k) || (qk == qs.getD j 0)):=by
           rw [List.take_succ_eq_append_getElem hjl,List.any_append,List.getD_eq_getElem?_getD,List.getElem?_eq_getElem hjl]
           simp
          have r1:=(HS.out.cell _).trans hc2
          have r2:=(HS.out.cell _).trans p4
          have zj:(0:Int)≤(j:Int)∧(j:Int) < (qs.length:Int):=by omega
          have HNX:=Lib.hid hnext
          generalize ((qs.take j).any fun k=>qk == k)=bj at *
          generalize qs.getD j 0=kj at *
          clear hc2 hnext
          go_upto_region 19 with fail
          cases bj with
          | true =>
           go_quiet (fail)
           go_wp2_with fail
           go_roundw
           case rel=>exact ⟨j+1,by omega,by go_num,by rw [HNX.out]; rfl,Lib.hid (HS.out.trans (Same.drewN _ _))⟩
           case measure=>(simp [intOf]) <;> omega
          | false =>
           go_quiet (fail)
           go_wp2_with fail
           go_roundw
           case rel=>exact ⟨j+1,by omega,by go_num,by rw [HNX.out,Bool.false_or],Lib.hid (HS.out.trans (Same.drewN _ _))⟩
           case measure=>(simp [intOf]) <;> omega
         ·obtain rfl:j=qs.length:=by omega
          rw [List.take_length]
          generalize (qs.any fun k=>qk == k)=mine at *
          cases ib with
          | true =>
           go_wp2_with fail
           go_meet
           exact ⟨by simp,HS⟩
          | false =>
           go_wp2_with fail
           go_meet
           exact ⟨by simp,HS⟩
      case rest =>
      obtain ⟨rfl,HS3⟩:=hcut
      refine hK2 _ _ ?_
      clear hK2
      have hpb:(if cb then ib && qs.any (fun k=>qk == k) else ib)=playB ks qs ⟨kd,oa,ob,oc,qk,qa,qb,qn,.slice da docs.length dcap,docs,os⟩:=by
       unfold playB
       simp only
       rw [HCB.out,HIB.out]
       cases qs with
       | nil=>simp
       | cons x t=>cases askB kd <;> simp
      rw [hpb]
      clear hpb
      cases hpl:playB ks qs ⟨kd,oa,ob,oc,qk,qa,qb,qn,.slice da docs.length dcap,docs,os⟩ with
      | false =>
       clear hpl
       go_wp2_with fail
       refine ⟨⟨i+1,by omega,by go_num,Lib.hid ((HPW.out.same HS3.out).mono (by omega)),Lib.hid ((HB.out.trans (HBR.out.mono HB.out.size)).trans (HS3.out.below _))⟩,by simp [intOf]; omega⟩
      | true =>
       have r0:=(HS3.out.cell _).trans p0
       have r1:=(HS3.out.cell _).trans p1
       have r2:=(HS3.out.cell _).trans p2
       have r3:=(HS3.out.cell _).trans p3
       have r4:=(HS3.out.cell _).trans p4
       have r5:=(HS3.out.cell _).trans p5
       have r6:=(HS3.out.cell _).trans p6
       have r7:=(HS3.out.cell _).trans p7
       have r8:=(HS3.out.cell _).trans p8
       have r9:=(HS3.out.cell _).trans p9
       have hst:=HST.out hpl hdoc i wb wc (by omega) (HPW.out.same HS3.out)
       unfold ptrV opV OpE.cells strV at hst
       simp only at hst
       have HS4:=Lib.hid hst
       have HBC:Hid (Below w.heap.size w wc):=Lib.hid ((HB.out.trans (HBR.out.mono HB.out.size)).trans (HS3.out.below _))
       clear hst hpl p0 p1 p2 p3 p4 p5 p6 p7 p8 p9
       go_upto_region 23 with (go_at_call 13; refine HS4.out.mono ?_; rintro e w5 ⟨rfl,hp5⟩; have HP5:=Lib.hid hp5; clear hp5)
       obtain ⟨own,S,N,Bs,l1,l2,l3,hp⟩:=HP5.out
       have hlk:=looks_law own wb S N Bs _ w5 hp (by omega) (by omega)
       unfold ptrV at hlk
       have HLK:=Lib.hid hlk
       clear hlk hp
       go_wp2_with (go_at_call 14; refine HLK.out.mono ?_; rintro e w6 ⟨rfl,hs6⟩; have HS6:=Lib.hid hs6; clear hs6)
       have hfin:=HP5.out.same HS6.out
       exact ⟨⟨i+1,by omega,by go_num,Lib.hid hfin,Lib.hid hfin.env.base⟩,by simp [intOf]; omega⟩
   ·obtain rfl:i=ops.length:=by omega
    go_wp2_with fail
    go_ret
    exact ⟨rfl,HB.out⟩
end Go.Proofs.Tl
namespace Go.Proofs.YtffjomnnkilhgaaGreatDoor.card
open Go Go.ChangeShapes Go.WideShapes Go.ChangeAt Go.RowKit Go.Deep
theorem cellsI:Tryz.prog.cellsOf 3=1:=by kernel_rfl
theorem cellsQ:Tryz.prog.cellsOf 34=4:=by kernel_rfl
theorem cellsD:Tryz.prog.cellsOf 35=1:=by kernel_rfl
theorem cellsOp:Tryz.prog.cellsOf 37=10:=by kernel_rfl
theorem reach_tame {n:Nat} (h:n≤reachBytes):Tl.Tame n:=by
 unfold Tl.Tame
 unfold reachBytes at h
 omega
section
variable {W:World} {base:Nat} {spare:Nat→Bool} {held:Bool} {H:Type} {enc:TypeId × Value→H}
theorem weights_all {P:Program} {e:TypeId}:∀ {l:List (DataW H)} {d:DataW H} {n:Nat},d∈l→n∈d.weights P e→n∈DataW.weightsAll P e l
 | [],d,n,h,_=>by cases h
 | a :: l,d,n,h,hn=>by
  unfold DataW.weightsAll
  rw [List.mem_append]
  rcases List.mem_cons.1 h with rfl | h
  ·exact .inl hn
  ·exact .inr (weights_all h hn)
theorem weights_elem {P:Program} {t e:TypeId} {elems sp:List (DataW H)} {d:DataW H} {n:Nat} (ht:P.underlying t=some (.slice e)) (hd:d∈elems) (hn:n∈d.weights P e):n∈(DataW.slice elems sp).weights P t:=by
 unfold DataW.weights
 rw [ht]
 exact List.mem_cons_of_mem _ (List.mem_append.2 (.inl (weights_all hd hn)))
theorem weights_len {P:Program} {t e:TypeId} {elems sp:List (DataW H)} (ht:P.underlying t=some (.slice e)):(elems.length+sp.length) * P.bytesOf e∈(DataW.slice elems sp).weights P t:=by
 unfold DataW.weights
 rw [ht]
 exact List.mem_cons_self
theorem weights_part {P:Program} {t:TypeId} {fs:Array Field} {parts:List (DataW H)} {j:Nat} {f:Field} {d:DataW H} {n:Nat} (ht:P.underlying t=some (.struct fs)) (hf:fs[j]?=some f) (hd:parts[j]?=some d) (hn:n∈d.weights P f.type):n∈(DataW.agg parts).weights P t:=by
 unfold DataW.weights
 rw [ht]
 exact DataW.weights_mem_each (j:=j) (by rw [List.getElem?_map,Array.getElem?_toList,hf]; rfl) hd n hn
theorem strs_sized {v:Value} {x:DataW H × List MemPlace} {fuel:Nat} (h:DataW.trod enc Tryz.prog W base spare held fuel 35 [v]=some x) (hw:∀ n∈x.1.weights Tryz.prog 35,n≤reachBytes) :
  ∃ docs:List ByteArray,Ts.StrsIs W v docs∧docs.length≤reachBytes ∧ ∀ d∈docs,d.size≤reachBytes:=by
 rcases open_strings Tryz.underlying35 Tryz.underlying9 cellsS h with ⟨hv,_⟩ | ⟨a,len,cap,ss,hv,_,hl,hc,hlen,hx,hcell,_⟩
 ·simp only [List.cons.injEq,and_true] at hv
  subst hv
  exact ⟨[],⟨none,0,rfl,fun i hi=>absurd hi (Nat.not_lt_zero i)⟩,Nat.zero_le _,fun d hd=>by cases hd⟩
 ·simp only [List.cons.injEq,and_true] at hv
  subst hv
  have hle:len≤ss.length:=by rw [hlen]; split <;> omega
  rw [hx] at hw
  have hb:Tryz.prog.bytesOf 9=16:=by kernel_rfl
  refine ⟨ss.take len,⟨some a,cap,by rw [List.length_take,Nat.min_eq_left hle],fun i hi=>?_⟩,?_,fun d hd=>?_⟩
  ·rw [List.length_take] at hi
   have hc:=hcell i (by omega)
   obtain ⟨b,off,spot⟩:=a
   have hs:spot=none:=by simpa [Addr.add] using World.cell?_spot (hcell 0 (by omega))
   subst hs
   refine ⟨b,off,rfl,?_⟩
   have he:(ss.take len)[i]'(by rw [List.length_take]; omega)=ss.getD i ByteArray.empty:=by
    rw [List.getElem_take,List.getD_eq_getElem?_getD,List.getElem?_eq_getElem (by omega)]
    rfl
   rw [he,← hc]
   by_cases h0:i=0
   ·subst h0; simp [Addr.add]
   ·simp [Addr.add,h0]
  ·have:=hw _ (weights_len Tryz.underlying35)
   rw [hb] at this
   unfold strs at this
   rw [List.length_map] at this
   omega
  ·have:=hw d.data.toList.length (weights_elem Tryz.underlying35 (d := .lit (.string d.data.toList)) (List.mem_map.2 ⟨d,hd,rfl⟩) (by unfold DataW.weights; exact List.mem_cons_self))
   have e:d.data.toList.length=d.size:=Array.length_toList
   rw [e] at this
   exact this
theorem int_is {c:Value} {x:DataW H × List MemPlace} {fuel:Nat} (h:DataW.trod enc Tryz.prog W base spare held fuel 3 [c]=some x):∃ n,c = .int .i64 n∧Tl.I64 n:=by
 obtain ⟨n,h1,_,h2⟩:=DataW.trod_int Tryz.underlying3 h
 simp only [List.cons.injEq,and_true] at h1
 refine ⟨n,h1,?_⟩
 unfold Tl.I64
 exact (Lit.wf_int_iff .i64 n).1 h2
theorem str_is {c:Value} {x:DataW H × List MemPlace} {fuel:Nat} (h:DataW.trod enc Tryz.prog W base spare held fuel 9 [c]=some x) (hw:∀ n∈x.1.weights Tryz.prog 9,n≤reachBytes):∃ s:List UInt8,c=Ts.strV s∧s.length≤reachBytes:=by
 obtain ⟨s,h1,h2,_⟩:=DataW.trod_string Tryz.underlying9 h
 simp only [List.cons.injEq,and_true] at h1
 refine ⟨s.data.toList,by rw [h1]; unfold Ts.strV; cases s; simp,?_⟩
 rw [h2] at hw
 exact hw _ (by unfold DataW.weights; exact List.mem_cons_self)
theorem ten {α:Type} {l:List α} (h:l.length=10):∃ a b c d e f g i j k,l=[a,b,c,d,e,f,g,i,j,k]:=by
 match l,h with
 | [a,b,c,d,e,f,g,i,j,k],_=>exact ⟨a,b,c,d,e,f,g,i,j,k,rfl⟩
theorem weights_at {P:Program} {t:TypeId} {fs:Array Field} {ys:List (DataW H × List MemPlace)} {j:Nat} {f:Field} {y:DataW H × List MemPlace} (ht:P.underlying t=some (.struct fs)) (hf:fs[j]?=some f) (hy:ys[j]?=some y)
  (hw:∀ n∈(DataW.agg (ys.map (·.1))).weights P t,n≤reachBytes):∀ n∈y.1.weights P f.type,n≤reachBytes:=fun n hn=>hw n (weights_part ht hf (by rw [List.getElem?_map,hy]; rfl) hn)
set_option maxRecDepth 100000 in
theorem op_is {cs:List Value} {x:DataW H × List MemPlace} {fuel:Nat} (h:DataW.trod enc Tryz.prog W base spare held fuel 37 cs=some x) (hw:∀ n∈x.1.weights Tryz.prog 37,n≤reachBytes) :
  ∃ o:Tl.OpE,o.cells.toList=cs∧Ts.StrsIs W o.dv o.docs∧o.Fits∧o.Sized:=by
 obtain ⟨ys,n,_,rfl,hlen,hyl,hf⟩:=DataW.trod_struct Tryz.underlying37 h
 rw [cellsOp] at hlen
 obtain ⟨c0,c1,c2,c3,c4,c5,c6,c7,c8,c9,rfl⟩:=ten hlen
 have hyl7:ys.length=7:=hyl
 have at':∀ j,j < 7 → ∃ y,ys[j]?=some y:=fun j hj=>⟨_,List.getElem?_eq_getElem (by omega)⟩
 obtain ⟨y0,e0⟩:=at' 0 (by omega)
 obtain ⟨y1,e1⟩:=at' 1 (by omega)
 obtain ⟨y2,e2⟩:=at' 2 (by omega)
 obtain ⟨y3,e3⟩:=at' 3 (by omega)
 obtain ⟨y4,e4⟩:=at' 4 (by omega)
 obtain ⟨y5,e5⟩:=at' 5 (by omega)
 obtain ⟨y6,e6⟩:=at' 6 (by omega)
 have f0:=hf 0 _ rfl
 have f1:=hf 1 _ rfl
 have f2:=hf 2 _ rfl
 have f3:=hf 3 _ rfl
 have f4:=hf 4 _ rfl
 have f5:=hf 5 _ rfl
 have f6:=hf 6 _ rfl
 simp only [cellsI,cellsQ,cellsD,cellsS,e0,e1,e2,e3,e4,e5,e6,List.drop_succ_cons,List.drop_zero,List.take_succ_cons,List.take_zero] at f0 f1 f2 f3 f4 f5 f6
 obtain ⟨k0,rfl,g0⟩:=int_is f0
 obtain ⟨k1,rfl,g1⟩:=int_is f1
 obtain ⟨k2,rfl,g2⟩:=int_is f2
 obtain ⟨k3,rfl,g3⟩:=int_is f3
 have w4:=weights_at Tryz.underlying37 (j:=4) rfl e4 hw
 have w5:=weights_at Tryz.underlying37 (j:=5) rfl e5 hw
 have w6:=weights_at Tryz.underlying37 (j:=6) rfl e6 hw
 obtain ⟨docs,hs,hd1,hd2⟩:=strs_sized f5 w5
 obtain ⟨s,rfl,hs1⟩:=str_is f6 w6
 obtain ⟨zs,n4,_,rfl,_,hzl,hz⟩:=DataW.trod_struct Tryz.underlying34 f4
 have hzl4:zs.length=4:=hzl
 have at4:∀ j,j < 4 → ∃ y,zs[j]?=some y:=fun j hj=>⟨_,List.getElem?_eq_getElem (by omega)⟩
 obtain ⟨z0,i0⟩:=at4 0 (by omega)
 obtain ⟨z1,i1⟩:=at4 1 (by omega)
 obtain ⟨z2,i2⟩:=at4 2 (by omega)
 obtain ⟨z3,i3⟩:=at4 3 (by omega)
 have l0:=hz 0 _ rfl
 have l1:=hz 1 _ rfl
 have l2:=hz 2 _ rfl
 have l3:=hz 3 _ rfl
 simp only [cellsI,cellsS,i0,i1,i2,i3,List.drop_succ_cons,List.drop_zero,List.take_succ_cons,List.take_zero] at l0 l1 l2 l3
 obtain ⟨k4,rfl,g4⟩:=int_is l0
 obtain ⟨qa,rfl,hqa⟩:=str_is l1 (weights_at Tryz.underlying34 (j:=1) rfl i1 w4)
 obtain ⟨qb,rfl,hqb⟩:=str_is l2 (weights_at Tryz.underlying34 (j:=2) rfl i2 w4)
 obtain ⟨k7,rfl,g7⟩:=int_is l3
 exact ⟨⟨k0,k1,k2,k3,k4,qa,qb,k7,c8,docs,s⟩,rfl,hs,⟨g0,g1,g2,g3,g4,g7⟩,⟨reach_tame hqa,reach_tame hqb,reach_tame hs1,reach_tame hd1,fun d hd=>reach_tame (hd2 d hd)⟩⟩
theorem add_at (b off n:Nat):(⟨b,off,none⟩:Addr).add n=⟨b,off+n,none⟩:=by
 unfold Addr.add
 split
 ·rename_i h
  subst h
  rfl
 ·rfl
theorem script_is {v:Value} {d:DataW H} {p:List MemPlace} (h:DataW.Trod enc Tryz.prog W base spare held 22 v d p) (hv:∃ a0 len cap,v = .slice a0 len cap) (hw:∀ n∈d.weights Tryz.prog 22,n≤reachBytes) :
  ∃ ops:List Tl.OpE,Tl.ScriptIs W v ops∧Tl.Tame ops.length:=by
 obtain ⟨a0,len0,cap0,rfl⟩:=hv
 obtain ⟨fuel,h⟩:=h
 have hcells:(Value.slice a0 len0 cap0).cells.toList=[.slice a0 len0 cap0]:=by simp [Value.cells]
 rw [hcells] at h
 rcases open_slice Tryz.underlying22 h with ⟨hcs,_⟩ | ⟨a,len,cap,m,n,D,Pl,hcs,_,hl,_,hm,hx,hi⟩
 ·simp only [List.cons.injEq,Value.slice.injEq,and_true] at hcs
  obtain ⟨rfl,rfl,rfl⟩:=hcs
  exact ⟨[],⟨none,0,rfl,fun i hi=>absurd hi (Nat.not_lt_zero i)⟩,Nat.zero_le _⟩
 ·simp only [List.cons.injEq,Value.slice.injEq,and_true] at hcs
  obtain ⟨rfl,rfl,rfl⟩:=hcs
  rw [cellsOp] at hi
  simp only [Prod.mk.injEq] at hx
  have hdw:=hx.1
  subst hdw
  have hle:len0≤m:=by rw [hm]; split <;> omega
  have hel:∀ i,i < len0 → ∃ o:Tl.OpE,(∀ (j:Nat) u,o.cells[j]?=some u→W.cell? (a.add (i * 10+j))=some u)∧Ts.StrsIs W o.dv o.docs∧o.Fits∧o.Sized:=fun i hil=>by
   obtain ⟨cs',hc,ht⟩:=hi i (by omega)
   obtain ⟨o,ho,h1,h2,h3⟩:=op_is ht fun n hn=>hw n (weights_elem Tryz.underlying22 (List.mem_map.2 ⟨i,List.mem_range.2 hil,rfl⟩) hn)
   refine ⟨o,fun j u hu=>?_,h1,h2,h3⟩
   obtain ⟨_,_,hat⟩:=World.cells?_some hc
   have hj:j < 10:=(Array.getElem?_eq_some_iff.1 hu).1
   have:=hat j hj
   rw [← ho,Array.getElem?_toList,hu,Go.Deep.add_add] at this
   exact this
  have hch:∃ f:Nat→Tl.OpE,∀ i,i < len0→(∀ (j:Nat) u,(f i).cells[j]?=some u→W.cell? (a.add (i * 10+j))=some u)∧Ts.StrsIs W (f i).dv (f i).docs∧(f i).Fits∧(f i).Sized:=by
   classical
   refine ⟨fun i=>if hil:i < len0 then Classical.choose (hel i hil) else ⟨0,0,0,0,0,[],[],0,.nilIface,[],[]⟩,fun i hil=>?_⟩
   have:=Classical.choose_spec (hel i hil)
   simpa only [dif_pos hil] using this
  obtain ⟨f,hf⟩:=hch
  refine ⟨(List.range len0).map f,⟨some a,cap0,by simp,fun i hil=>?_⟩,?_⟩
  ·have hil':i < len0:=by simpa using hil
   have he:((List.range len0).map f)[i]=f i:=by simp
   rw [he]
   obtain ⟨h1,h2,h3,h4⟩:=hf i hil'
   refine ⟨?_,h2,h3,h4⟩
   obtain ⟨b,off,spot⟩:=a
   have hs:spot=none:=by
    have:=World.cell?_spot ((hf 0 (by omega)).1 0 _ rfl)
    simpa [Addr.add] using this
   subst hs
   refine ⟨b,off,rfl,fun j u hu=>?_⟩
   have:=h1 j u hu
   rw [add_at] at this
   rw [Nat.add_assoc]
   exact this
  ·have:=hw _ (weights_len Tryz.underlying22)
   have hb:Tryz.prog.bytesOf 37=120:=by kernel_rfl
   rw [hb] at this
   rw [List.length_map,List.length_range] at this ⊢
   exact reach_tame (by omega)
end
end Go.Proofs.YtffjomnnkilhgaaGreatDoor.card
