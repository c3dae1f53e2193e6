/- Lemmas towards the statement Simple of termsearch: walks of the program's functions and plain laws on lists (TsMap, TsBase, TsKeys, TsRow, TsPut, TsNodes, TsOrd, TsSettleB). Conditions: those that each theorem names. -/
import Derived.WalkKit
import Derived.LaidEql
import Derived.MapKept
import Derived.WalkLawsBesides
import Derived.WalkSpells
import Derived.Deep.QuietTactic
import Derived.BigQuiet
import Derived.Deep.LoopGhost
import Derived.Lib.Hide
import Derived.Test.YtffjomnnkilhgaaGreatDoorProg
import Derived.Laws.StructEq
import Derived.Maps.AppendAt
import Derived.OrdersHeld
import Derived.Deep.RegionHeld3
set_option linter.unusedVariables false
set_option linter.unusedSimpArgs false
set_option linter.unusedSectionVars false
namespace Go.Proofs.Ts
open Go
def get {α β:Type} [DecidableEq α]:List (α × β)→α→Option β
 | [],_=>none
 | p :: r,k=>if p.1=k then some p.2 else get r k
def put {α β:Type} [DecidableEq α]:List (α × β)→α→β→List (α × β)
 | [],k,v=>[(k,v)]
 | p :: r,k,v=>if p.1=k then (k,v) :: r else p :: put r k v
section
variable {α β:Type} [DecidableEq α]
theorem get_put (m:List (α × β)) (k k':α) (v:β):get (put m k v) k'=if k=k' then some v else get m k':=by
 induction m with
 | nil=>simp [put,get]
 | cons p r ih =>
  unfold put
  by_cases h:p.1=k
  ·by_cases h':k=k'
   ·simp [h,get,h']
   ·have h2:¬ p.1=k':=fun e=>h' (h.symm.trans e)
    simp [h,get,h']
  ·by_cases h':k=k'
   ·subst h'
    simp [h,get,ih]
   ·simp [h,get,ih,h']
theorem get_some_mem {m:List (α × β)} {k:α} {v:β} (h:get m k=some v):(k,v)∈m:=by
 induction m with
 | nil=>simp [get] at h
 | cons p r ih =>
  unfold get at h
  split at h
  ·rename_i e
   cases h
   subst e
   simp
  ·exact List.mem_cons_of_mem _ (ih h)
theorem get_none {m:List (α × β)} {k:α}:get m k=none ↔ ∀ p∈m,p.1≠k:=by
 induction m with
 | nil=>simp [get]
 | cons p r ih =>
  unfold get
  by_cases h:p.1=k
  ·simp [h]
  ·simp [h,ih]
theorem length_put_le (m:List (α × β)) (k:α) (v:β):(put m k v).length≤m.length+1:=by
 induction m with
 | nil=>simp [put]
 | cons p r ih =>
  unfold put
  split
  ·simp
  ·simp; omega
theorem length_put_none {m:List (α × β)} {k:α} (v:β) (h:get m k=none):put m k v=m++[(k,v)]:=by
 induction m with
 | nil=>rfl
 | cons p r ih =>
  unfold get at h
  split at h
  ·cases h
  ·rename_i e
   unfold put
   rw [if_neg e,ih h]
   rfl
theorem mem_put {m:List (α × β)} {k:α} {v:β} {p:α × β} (h:p∈put m k v):p=(k,v)∨p∈m:=by
 induction m with
 | nil=>simp [put] at h; exact .inl h
 | cons q r ih =>
  unfold put at h
  split at h
  ·rcases List.mem_cons.1 h with h | h
   ·exact .inl h
   ·exact .inr (List.mem_cons_of_mem _ h)
  ·rcases List.mem_cons.1 h with h | h
   ·exact .inr (h ▸ List.mem_cons_self)
   ·rcases ih h with h | h
    ·exact .inl h
    ·exact .inr (List.mem_cons_of_mem _ h)
theorem keys_put_some {m:List (α × β)} {k:α} {v u:β} (h:get m k=some u):(put m k v).map (·.1)=m.map (·.1):=by
 induction m with
 | nil=>cases h
 | cons p r ih =>
  unfold get at h
  unfold put
  split at h
  ·rename_i e
   rw [if_pos e]
   simp [e]
  ·rename_i e
   rw [if_neg e]
   simp [ih h]
def Apart (m:List (α × β)):Prop:=(m.map (·.1)).Nodup
theorem Apart.put {m:List (α × β)} (h:Apart m) (k:α) (v:β):Apart (put m k v):=by
 unfold Apart at *
 cases hg:get m k with
 | some u=>rw [keys_put_some hg]; exact h
 | none =>
  rw [length_put_none v hg,List.map_append]
  rw [List.nodup_append]
  refine ⟨h,by simp,?_⟩
  intro a ha b hb
  simp at hb
  subst hb
  rw [get_none] at hg
  obtain ⟨p,hp,rfl⟩:=List.mem_map.1 ha
  exact hg p hp
theorem get_of_mem {m:List (α × β)} (h:Apart m) {k:α} {v:β} (hm:(k,v)∈m):get m k=some v:=by
 induction m with
 | nil=>cases hm
 | cons p r ih =>
  unfold Apart at h
  simp only [List.map_cons,List.nodup_cons] at h
  unfold get
  rcases List.mem_cons.1 hm with e | hm
  ·rw [← e]; simp
  ·have:¬ p.1=k:=fun e=>h.1 (e ▸ List.mem_map.2 ⟨(k,v),hm,rfl⟩)
   rw [if_neg this]
   exact ih h.2 hm
end
structure KeyLaw (P:Program) (K:TypeId) {α:Type} [DecidableEq α] (enc:α→Value) (ok:World→α→Prop):Prop where
 now:∀ d,P.underlying K=some d → ∀ a b,Instr.sameNow d (enc a) (enc b)=none∨Instr.sameNow d (enc a) (enc b)=some (decide (a=b))
 und:∃ d,P.underlying K=some d
 eq:∀ w a b,ok w a→ok w b→(Op.equal K (enc a) (enc b)).run P w = .ok (decide (a=b)) w
 chk:∀ w e a,ok w a→(Instr.checkKey e 10000 K (enc a)).run P w = .ok () w
 same:∀ a,Instr.sameBits 10000 (enc a) (enc a)=true
section
variable {P:Program} {K:TypeId} {α:Type} [DecidableEq α] {enc:α→Value} {ok:World→α→Prop}
def find (m:List (α × Value)) (k:α) (i:Nat):Option (Nat × Value) :=
 match m with
 | []=>none
 | p :: r=>if k=p.1 then some (i,p.2) else find r k (i+1)
def pairs (enc:α→Value) (es:List MapEntry) (m:List (α × Value)):Prop:=es.map (fun e=>(e.key,e.val))=m.map (fun p=>(enc p.1,p.2))
theorem findAsking_run (L:KeyLaw P K enc ok) (w:World) (k:α) (hk:ok w k):∀ (es:List MapEntry) (m:List (α × Value)) (i:Nat),pairs enc es m→(∀ p∈m,ok w p.1) →
  (Instr.findAsking K (enc k) es i).run P w = .ok (find m k i) w
 | [],[],i,_,_=>rfl
 | [],p :: r,i,h,_=>by simp [pairs] at h
 | e :: es,[],i,h,_=>by simp [pairs] at h
 | e :: es,p :: r,i,h,hm=>by
  simp only [pairs,List.map_cons,List.cons.injEq,Prod.mk.injEq] at h
  obtain ⟨⟨h1,h2⟩,h3⟩:=h
  have ih:=findAsking_run L w k hk es r (i+1) h3 (fun q hq=>hm q (List.mem_cons_of_mem _ hq))
  have he:=L.eq w k p.1 hk (hm p List.mem_cons_self)
  unfold Instr.findAsking find
  rw [h1]
  simp only [Sem.run_bind,he,Result.andThen_ok]
  by_cases hkp:k=p.1
  ·simp [hkp,h2]
  ·simp [hkp,ih]
theorem findNow_run (L:KeyLaw P K enc ok) {d:TypeDesc} (hd:P.underlying K=some d) (k:α):∀ (es:List MapEntry) (m:List (α × Value)) (i:Nat),pairs enc es m →
  Instr.findNow d (enc k) es i=none∨Instr.findNow d (enc k) es i=some (find m k i)
 | [],[],i,_ => .inr rfl
 | [],p :: r,i,h=>by simp [pairs] at h
 | e :: es,[],i,h=>by simp [pairs] at h
 | e :: es,p :: r,i,h=>by
  simp only [pairs,List.map_cons,List.cons.injEq,Prod.mk.injEq] at h
  obtain ⟨⟨h1,h2⟩,h3⟩:=h
  have ih:=findNow_run L hd k es r (i+1) h3
  unfold Instr.findNow find
  rw [h1]
  rcases L.now d hd k p.1 with hn | hn
  ·rw [hn]; exact .inl rfl
  ·rw [hn]
   by_cases hkp:k=p.1
   ·simp [hkp,h2]
   ·simp only [hkp,decide_false,if_false]
    exact ih
theorem findKey_run (L:KeyLaw P K enc ok) (w:World) (k:α) (hk:ok w k) (es:List MapEntry) (m:List (α × Value)) (h:pairs enc es m) (hm:∀ p∈m,ok w p.1) :
  (Instr.findKey K (enc k) es).run P w = .ok (find m k 0) w:=by
 obtain ⟨d,hd⟩:=L.und
 have ha:=findAsking_run L w k hk es m 0 h hm
 unfold Instr.findKey
 simp only [Sem.run_bind,run_underlying hd,Result.andThen_ok]
 rcases findNow_run L hd k es m 0 h with hn | hn
 ·rw [hn]; exact ha
 ·rw [hn]; rfl
theorem find_get (m:List (α × Value)) (k:α):∀ i,(find m k i).map (·.2)=get m k:=by
 induction m with
 | nil=>intro i; rfl
 | cons p r ih =>
  intro i
  unfold find get
  by_cases h:k=p.1
  ·simp [h]
  ·simp [h,Ne.symm h,ih]
theorem find_place (m:List (α × Value)) (k:α):∀ i j v,find m k i=some (j,v)→i≤j∧m[j - i]?=some (k,v) ∧ ∀ u,put m k u=m.set (j - i) (k,u):=by
 induction m with
 | nil=>intro i j v h; cases h
 | cons p r ih =>
  intro i j v h
  unfold find at h
  by_cases hk:k=p.1
  ·rw [if_pos hk] at h
   cases h
   refine ⟨Nat.le_refl _,by simp [hk],fun u=>?_⟩
   unfold put
   simp [hk]
  ·rw [if_neg hk] at h
   obtain ⟨h1,h2,h3⟩:=ih (i+1) j v h
   have e:j - i=(j - (i+1))+1:=by omega
   refine ⟨by omega,by rw [e]; simpa using h2,fun u=>?_⟩
   unfold put
   rw [if_neg (Ne.symm hk),h3 u,e]
   rfl
def MapIs (enc:α→Value) (w:World) (b:Nat) (m:List (α × Value)):Prop :=
 ∃ es clock,w.heap[b]?=some (.map es clock)∧pairs enc es.toList m∧(∀ e∈es.toList,e.born < clock)∧(es.toList.map (·.born)).Nodup
theorem MapIs.made (enc:α→Value) (w:World):MapIs enc (w.alloc (.map #[] 0)) w.heap.size [] :=
 ⟨#[],0,heap_alloc_new w _,by simp [pairs],by simp,by simp⟩
theorem MapIs.lt {enc:α→Value} {w:World} {b:Nat} {m:List (α × Value)} (h:MapIs enc w b m):b < w.heap.size:=by
 obtain ⟨es,c,hb,_⟩:=h
 exact (Array.getElem?_eq_some_iff.1 hb).1
theorem MapIs.of_block {enc:α→Value} {w w':World} {b:Nat} {m:List (α × Value)} (h:MapIs enc w b m) (hb:w'.heap[b]?=w.heap[b]?):MapIs enc w' b m:=by
 obtain ⟨es,c,h1,h2⟩:=h
 exact ⟨es,c,hb.trans h1,h2⟩
theorem MapIs.len {enc:α→Value} {w:World} {b:Nat} {m:List (α × Value)} {es:Array MapEntry} {c:Nat} (hb:w.heap[b]?=some (.map es c)) (h:MapIs enc w b m):es.size=m.length:=by
 obtain ⟨es',c',h1,h2,_⟩:=h
 rw [hb] at h1
 cases h1
 have:=congrArg List.length h2
 simpa using this
theorem getObj_run {w:World} {b:Nat} {es:Array MapEntry} {c:Nat} (hb:w.heap[b]?=some (.map es c)):(getObj b).run P w = .ok (.map es c) w:=by
 simp [getObj,Sem.run,hb]
theorem MapIs.lookup (L:KeyLaw P K enc ok) {w:World} {b:Nat} {m:List (α × Value)} (h:MapIs enc w b m) (k:α) (hk:ok w k) (hm:∀ p∈m,ok w p.1) {T E:TypeId} (hT:P.underlying T=some (.map K E)) {z:Value}
  (hz:(zeroValue E).run P w = .ok z w) (ok?:Bool) :
  (Instr.lookup T (.map (some b)) (enc k) ok?).run P w = .ok (if ok? then .tuple #[(get m k).getD z,.bool (get m k).isSome] else (get m k).getD z) w:=by
 obtain ⟨es,c,hb,hp,_⟩:=h
 have hf:=findKey_run L w k hk es.toList m hp hm
 have hc:=L.chk w es.isEmpty k hk
 rw [← find_get m k 0]
 unfold Instr.lookup
 simp only [Sem.run_bind,run_underlying hT,Result.andThen_ok,getObj_run hb,Sem.run_pure,hc,hf]
 cases hfk:find m k 0 with
 | none=>cases ok? <;> simp [hz]
 | some jv=>cases ok? <;> simp
theorem lookup_nil (L:KeyLaw P K enc ok) {w:World} (k:α) (hk:ok w k) {T E:TypeId} (hT:P.underlying T=some (.map K E)) {z:Value}
  (hz:(zeroValue E).run P w = .ok z w) (ok?:Bool) :
  (Instr.lookup T (.map none) (enc k) ok?).run P w = .ok (if ok? then .tuple #[z,.bool false] else z) w:=by
 have hc:=L.chk w true k hk
 have hf:=findKey_run L w k hk [] [] rfl (fun p hp=>by cases hp)
 unfold Instr.lookup
 simp only [Sem.run_bind,run_underlying hT,Result.andThen_ok,Sem.run_pure]
 have e:(#[]:Array MapEntry).isEmpty=true:=rfl
 rw [e]
 simp only [hc,Result.andThen_ok,hf,find]
 cases ok? <;> simp [hz]
theorem MapIs.update (L:KeyLaw P K enc ok) {w:World} {b:Nat} {m:List (α × Value)} (h:MapIs enc w b m) (k:α) (hk:ok w k) (hm:∀ p∈m,ok w p.1) {T E:TypeId} (hT:P.underlying T=some (.map K E)) (v:Value) :
  ∃ w',(Instr.mapUpdate T (.map (some b)) (enc k) v).run P w = .ok () w'∧MapIs enc w' b (put m k v)∧w.grownBy w' (some b)∧w'.heap.size=w.heap.size:=by
 obtain ⟨es,c,hb,hp,hl,hn⟩:=h
 have hf:=findKey_run L w k hk es.toList m hp hm
 have hc:=L.chk w false k hk
 have hlt:b < w.heap.size:=(Array.getElem?_eq_some_iff.1 hb).1
 have hset:∀ o:Obj,({ w with heap:=w.heap.setIfInBounds b o }:World).heap[b]?=some o:=fun o=>by
  simp [Array.getElem?_setIfInBounds,hlt]
 have hgr:∀ o:Obj,w.grownBy { w with heap:=w.heap.setIfInBounds b o } (some b):=fun o =>
  ⟨rfl,rfl,rfl,by simp,fun j _ hj=>by
   have:b≠j:=fun e=>hj (by rw [e])
   simp [this]⟩
 have hso:∀ o:Obj,(setObj b o).run P w = .ok () { w with heap:=w.heap.setIfInBounds b o }:=fun o=>by
  simp [setObj,Sem.run,hb]
 cases hfk:find m k 0 with
 | none =>
  rw [hfk] at hf
  refine ⟨_,?_,⟨es.push { key:=enc k,val:=v,born:=c },c+1,hset _,?_,?_,?_⟩,hgr _,by simp⟩
  ·unfold Instr.mapUpdate
   simp only [Sem.run_bind,run_underlying hT,Result.andThen_ok,getObj_run hb,hc,hf]
   exact hso _
  ·have hg:get m k=none:=by rw [← find_get m k 0,hfk]; rfl
   rw [length_put_none v hg]
   simp only [pairs,Array.toList_push,List.map_append,List.map_cons,List.map_nil]
   rw [hp]
  ·intro e he
   simp only [Array.toList_push,List.mem_append,List.mem_singleton] at he
   rcases he with he | he
   ·exact Nat.lt_succ_of_lt (hl e he)
   ·subst he; exact Nat.lt_succ_self _
  ·simp only [Array.toList_push,List.map_append,List.map_cons,List.map_nil]
   rw [List.nodup_append]
   refine ⟨hn,by simp,?_⟩
   intro a ha x hx
   simp at hx
   subst hx
   obtain ⟨e,he,rfl⟩:=List.mem_map.1 ha
   have:=hl e he
   omega
 | some jv =>
  obtain ⟨j,v0⟩:=jv
  rw [hfk] at hf
  obtain ⟨_,hj,hput⟩:=find_place m k 0 j v0 hfk
  rw [Nat.sub_zero] at hj hput
  have hpj:(es.toList.map (fun e=>(e.key,e.val)))[j]?=some (enc k,v0):=by
   rw [hp,List.getElem?_map,hj]; rfl
  rw [List.getElem?_map,Option.map_eq_some_iff] at hpj
  obtain ⟨e0,he0,hek⟩:=hpj
  simp only [Prod.mk.injEq] at hek
  have hes:es[j]?=some e0:=by simpa using he0
  have hjl:j < es.size:=(Array.getElem?_eq_some_iff.1 hes).1
  have hej:es[j]=e0:=(Array.getElem?_eq_some_iff.1 hes).2
  have hst:(Instr.keyThatStays (enc k) (enc k)).run P w = .ok (enc k) w:=by
   unfold Instr.keyThatStays
   rw [L.same k]
   rfl
  have hmod:(es.modify j fun e=>{ e with key:=enc k,val:=v }).toList=es.toList.set j { e0 with key:=enc k,val:=v }:=by
   rw [Array.toList_modify]
   apply List.ext_getElem?
   intro i
   rw [List.getElem?_modify,List.getElem?_set]
   by_cases hij:j=i
   ·subst hij
    simp [hej,hjl]
   ·simp [hij]
  refine ⟨_,?_,⟨es.modify j fun e=>{ e with key:=enc k,val:=v },c,hset _,?_,?_,?_⟩,hgr _,by simp⟩
  ·unfold Instr.mapUpdate
   simp only [Sem.run_bind,run_underlying hT,Result.andThen_ok,getObj_run hb,hc,hf]
   simp only [hes,Option.map_some,Option.getD_some,hek.1,hst,Result.andThen_ok]
   exact hso _
  ·rw [hput v]
   simp only [pairs,hmod,List.map_set]
   rw [hp]
  ·intro e he
   rw [hmod] at he
   rcases List.mem_or_eq_of_mem_set he with he | he
   ·exact hl e he
   ·subst he
    exact hl e0 (List.mem_of_getElem? he0)
  ·rw [hmod]
   simp only [List.map_set]
   have:(es.toList.map (·.born)).set j e0.born=es.toList.map (·.born):=by
    apply List.ext_getElem?
    intro i
    rw [List.getElem?_set]
    by_cases hij:j=i
    ·subst hij; simp [hej,hjl]
    ·simp [hij]
   rw [this]
   exact hn
end
end Go.Proofs.Ts
namespace Go.Proofs.Ts
open Go Go.RowKit
def Same (w w':World):Prop:=∃ n,w'=w.drewN n
theorem Same.refl (w:World):Same w w:=⟨0,rfl⟩
theorem Same.trans {a b c:World} (h:Same a b) (k:Same b c):Same a c:=by
 obtain ⟨n,rfl⟩:=h
 obtain ⟨m,rfl⟩:=k
 exact ⟨n+m,by simp⟩
theorem Same.drewN (w:World) (n:Nat):Same w (w.drewN n):=⟨n,rfl⟩
theorem Same.drew (w:World):Same w w.drew:=⟨1,rfl⟩
theorem Same.heap {w w':World} (h:Same w w'):w'.heap=w.heap:=by obtain ⟨n,rfl⟩:=h; rfl
theorem Same.cell {w w':World} (h:Same w w') (a:Addr):w'.cell? a=w.cell? a:=by obtain ⟨n,rfl⟩:=h; rfl
theorem Same.below {w w':World} (h:Same w w') (B:Nat):Below B w w':=by
 obtain ⟨n,rfl⟩:=h
 exact ⟨rfl,rfl,rfl,Nat.le_refl _,fun _ _=>rfl⟩
theorem quietS {P:Program} {f:FuncId} {args:Array Value} {w:World} {n:Nat} {v:Value}
  (h:Calls P f args (w.drewN n) fun e w'=>e = .returned v∧Same (w.drewN n) w'):Calls P f args (w.drewN n) fun e w''=>e = .returned v ∧ ∃ m,w''=w.drewN m :=
 h.mono fun _ _ ⟨he,m,hm⟩=>⟨he,n+m,by rw [hm,World.drewN_drewN]⟩
structure Mod (S:Nat→Prop) (w w':World):Prop where
 os:w'.os=w.os
 tape:w'.tape=w.tape
 output:w'.output=w.output
 size:w.heap.size≤w'.heap.size
 block:∀ k,k < w.heap.size → ¬ S k→w'.heap[k]?=w.heap[k]?
theorem Mod.refl (S:Nat→Prop) (w:World):Mod S w w:=⟨rfl,rfl,rfl,Nat.le_refl _,fun _ _ _=>rfl⟩
theorem Mod.trans {S:Nat→Prop} {a b c:World} (h:Mod S a b) (k:Mod S b c):Mod S a c :=
 ⟨k.os.trans h.os,k.tape.trans h.tape,k.output.trans h.output,Nat.le_trans h.size k.size,fun j hj hn=>(k.block j (Nat.lt_of_lt_of_le hj h.size) hn).trans (h.block j hj hn)⟩
theorem Mod.mono {S T:Nat→Prop} {a b:World} (h:Mod S a b) (hST:∀ k,k < a.heap.size→S k→T k):Mod T a b :=
 ⟨h.os,h.tape,h.output,h.size,fun j hj hn=>h.block j hj fun hs=>hn (hST j hj hs)⟩
theorem Mod.same {S:Nat→Prop} {a b:World} (h:Same a b):Mod S a b:=by
 obtain ⟨n,rfl⟩:=h
 exact ⟨rfl,rfl,rfl,Nat.le_refl _,fun _ _ _=>rfl⟩
theorem Mod.toBelow {S:Nat→Prop} {B:Nat} {a b:World} (h:Mod S a b) (hB:B≤a.heap.size) (hS:∀ k,S k→B≤k):Below B a b :=
 ⟨h.os,h.tape,h.output,h.size,fun j hj=>h.block j (by omega) fun hs=>by have:=hS j hs; omega⟩
theorem Mod.grown {S:Nat→Prop} {a b:World} {row:Option Nat} (h:a.grownBy b row) (hr:∀ k,row=some k→k < a.heap.size→S k):Mod S a b :=
 ⟨h.os,h.tape,h.output,h.size,fun j hj hn=>h.block j hj fun e=>hn (hr j e.symm hj)⟩
theorem Mod.alloc (S:Nat→Prop) (w:World) (o:Obj):Mod S w (w.alloc o) :=
 ⟨rfl,rfl,rfl,by simp,fun j hj _=>Below.heap_alloc w o j hj⟩
theorem Mod.setCell {S:Nat→Prop} (w:World) (a:Addr) (v:Value) (h:a.block < w.heap.size→S a.block):Mod S w (w.setCell a v) :=
 ⟨rfl,rfl,rfl,by simp,fun j hj hn=>Below.heap_setCell w a v j fun e=>hn (e ▸ h (e ▸ hj))⟩
theorem Mod.cell {S:Nat→Prop} {w w':World} (h:Mod S w w') {p:Addr} (hp:p.block < w.heap.size) (hn:¬ S p.block):w'.cell? p=w.cell? p:=World.cell?_of_block (w:=w) (h.block p.block hp hn)
theorem ret_bool {a b:Bool} (h:a=b):Ending.returned (.bool a) = .returned (.bool b):=by rw [h]
theorem ret_int {k:IntKind} {a b:Int} (h:a=b):Ending.returned (.int k a) = .returned (.int k b):=by rw [h]
theorem idx_str (s:ByteArray) (k:Nat) (h:k < s.size):s.data.toList[k]'(by simpa using h)=s[k]:=by
 rw [Array.getElem_toList]; rfl
theorem take_succ_str (s:ByteArray) (k:Nat) (h:k < s.size):s.data.toList.take (k+1)=s.data.toList.take k++[s[k]]:=by
 rw [List.take_succ_eq_append_getElem (by simpa using h),idx_str s k h]
end Go.Proofs.Ts
namespace Go.Proofs.Ts
open Go Go.RowKit
abbrev Shape:=Bool × List UInt8
def strV (l:List UInt8):Value := .string ⟨l.toArray⟩
def shapeV (s:Shape):Value := .agg #[.bool s.1,strV s.2]
def ptrV (b:Nat):Value := .pointer (some ⟨b,0,none⟩)
theorem checkKey_zero (P:Program) (e:Bool) (n:Nat) (t:TypeId) (v:Value) (w:World) {d:TypeDesc} (ht:P.underlying t=some d) (h:(match d with | .interface _ | .array _ _ | .struct _=>false | _=>true)=true) :
  (Instr.checkKey e (n+1) t v).run P w = .ok () w:=by
 unfold Instr.checkKey
 simp only [Sem.run_bind,run_underlying ht,Result.andThen_ok]
 cases d <;> first | (simp at h; done) | (cases v <;> rfl)
theorem shape_law:KeyLaw Tryz.prog 374 shapeV (fun _ _=>True) where
 now:=fun d hd a b=>by
  left
  rw [Tryz.underlying374] at hd
  cases hd
  rfl
 und:=⟨_,Tryz.underlying374⟩
 eq:=fun w a b _ _=>by
  obtain ⟨f,s⟩:=a
  obtain ⟨g,t⟩:=b
  unfold shapeV strV
  simp [go_sem,Op.equal,Op.maxDepth]
  by_cases h1:f=g <;> by_cases h2:s=t <;> simp [h1,h2]
 chk:=fun w e a _=>by
  unfold shapeV strV
  rw [show (10000:Nat)=9999+1 from rfl]
  unfold Instr.checkKey
  simp [go_sem,checkKey_zero Tryz.prog e 9998 4 _ _ Tryz.underlying4 rfl,checkKey_zero Tryz.prog e 9998 9 _ _ Tryz.underlying9 rfl]
 same:=fun a=>by
  unfold shapeV strV
  have h:(({ data:=a.snd.toArray }:ByteArray) == { data:=a.snd.toArray })=true:=by rw [beq_toListBytes]; simp
  simp [Instr.sameBits,h]
def cellsAt (w:World) (b:Nat):Prop:=∃ cs t,w.heap[b]?=some (.cells cs t (0,0))
theorem ptr_law {K E:TypeId} {j:TypeInfo} (hK:Tryz.prog.underlying K=some (.pointer E)) (hE:Tryz.prog.info? E=some j) (hj:j.size≠0):KeyLaw Tryz.prog K ptrV cellsAt where
 now:=fun d hd a b=>by
  left
  rw [hK] at hd
  cases hd
  rfl
 und:=⟨_,hK⟩
 eq:=fun w a b ha hb=>by
  obtain ⟨ca,ta,ha⟩:=ha
  obtain ⟨cb,tb,hb⟩:=hb
  unfold ptrV
  have hne:∀ (a b:Nat),a≠b→(⟨a,0,none⟩:Addr)≠⟨b,0,none⟩:=fun a b h e=>h (congrArg Addr.block e)
  have step:∀ (x y:Addr),(Op.equalIn (9999+1) K (.pointer (some x)) (.pointer (some y))).run Tryz.prog w=(sameAddr x y).run Tryz.prog w:=fun x y=>by
   rw [Op.equalIn]
   simp only [Sem.run_bind,run_underlying hK,Result.andThen_ok,sizeOf,typeInfo,run_program,hE,Sem.run_pure,Sem.run_map]
   simp [hj]
  have eq1:∀ (x y:Addr),(Op.equal K (.pointer (some x)) (.pointer (some y))).run Tryz.prog w=(sameAddr x y).run Tryz.prog w:=fun x y=>step x y
  rw [eq1]
  by_cases h:a=b
  ·subst h
   rw [run_sameAddr_same]
   simp
  ·rw [run_sameAddr_other w (hne a b h) ha hb]
   simp [h]
 chk:=fun w e a _=>checkKey_zero _ e 9999 K _ w hK rfl
 same:=fun a=>by simp [ptrV,Instr.sameBits]
theorem Tryz.info282:(Tryz.prog.info? 282).map (fun i=>(i.zero,i.size,i.bytes))=some (some (.agg #[.bool false,.slice none 0 0]),2,32):=by kernel_rfl
theorem node_law:KeyLaw Tryz.prog 279 ptrV cellsAt:=by
 obtain ⟨i,hi,_,hs,_⟩:=info_parts Tryz.info282
 exact ptr_law Tryz.underlying279 hi (by rw [hs]; decide)
theorem str_law:KeyLaw Tryz.prog 9 strV (fun _ _=>True) where
 now:=fun d hd a b=>by
  right
  rw [Tryz.underlying9] at hd
  cases hd
  unfold strV
  show some (_ == _)=_
  rw [beq_toListBytes]
  congr 1
  rw [Bool.eq_iff_iff]
  simp
 und:=⟨_,Tryz.underlying9⟩
 eq:=fun w a b _ _=>by
  unfold strV
  simp [go_sem,Op.equal,Op.maxDepth]
  rw [Bool.eq_iff_iff]
  simp
 chk:=fun w e a _=>checkKey_zero _ e 9999 _ _ w Tryz.underlying9 rfl
 same:=fun a=>by
  unfold strV
  have h:(({ data:=a.toArray }:ByteArray) == { data:=a.toArray })=true:=by rw [beq_toListBytes]; simp
  simp [Instr.sameBits,h]
end Go.Proofs.Ts
namespace Go.Proofs.Ts
open Go Go.RowKit
def Lies (w w':World) (v v':Value):Prop :=
 (v'.ownBlock=v.ownBlock∧w'.heap.size=w.heap.size)∨(v'.ownBlock=some w.heap.size∧w.grownBy w' none∧w'.heap.size=w.heap.size+1)
section
variable {P:Program} {w:World}
theorem run_append_lies (t ty e:TypeId) (i:TypeInfo) (z:Value) (size bytes:Nat) (ht:P.underlying t=some (.slice e)) (hi:P.info? e=some i) (hz:i.zero=some z)
  (hsize:i.size=size) (hby:i.bytes=bytes) (hzs:z.cells.size=size) (hsz:0 < size)
  (v:Value) (n:Nat) (xs:List Value) (hown:w.ownsRow 0 e size v n xs)
  (a:Addr) (m c:Nat) (news:List Value) (hl:news.length=m * size) (hnews:∀ j u,news[j]?=some u→w.cell? (a.add j)=some u) (h1:∀ u∈news,u.oneCell'=true)
  (hm:0 < m) (h63:n+m≤maxLen) (hbytes:(n+m) * bytes≤140737488355328) :
  ∃ v' w',(Builtin.append_ #[t,t] ty #[v,.slice (some a) m c]).run P w = .ok v' w'∧w'.ownsRow 0 e size v' (n+m) (xs++news)∧w.grownBy w' v.ownBlock∧Lies w w' v v':=by
 subst hsize
 subst hby
 have hsmall:n+m≤9223372036854775807:=by simp only [maxLen] at h63; omega
 have hlen:(xs++news).length=(n+m) * i.size:=by rw [List.length_append,hown.1,hl,Nat.add_mul]
 have grown:∀ (old:Nat),old < n+m →
   (w.drew.alloc (.cells (xs.toArray++news.toArray++Builtin.zeroCells z.cells (grownCap w (n+m) old e - (n+m))) e)).ownsRow 0 e i.size
    (.slice (some ⟨w.heap.size,0,none⟩) (n+m) (grownCap w (n+m) old e)) (n+m) (xs++news):=by
  intro old ho
  have hge:=grownCap_ge w (n+m) old e
  have hcm:grownCap w (n+m) old e≤maxLen:=grownCap_le_maxLen w (n+m) old e h63
  refine ⟨hlen,.inr ⟨w.heap.size,_,_,rfl,Nat.zero_le _,heap_alloc_new w.drew _,hge,hcm,?_,?_⟩⟩
  ·simp only [Array.size_append,List.size_toArray,size_zeroCells,hzs,hown.1,hl,← Nat.add_mul]
   congr 1
   omega
  ·simp only [Array.toList_append,List.append_assoc]
   rw [← List.append_assoc,← hlen]
   exact List.take_left
 have gb:∀ (o:Obj) (row:Option Nat),w.grownBy (w.drew.alloc o) row:=fun o row=>⟨rfl,rfl,rfl,by simp,fun k hk _=>Below.heap_alloc w.drew _ k hk⟩
 rcases hown.2 with ⟨rfl,rfl⟩ | ⟨g,cap,cur,rfl,hbg,hg,hnc,hcm,hcs,htake⟩
 ·have hx:xs=[]:=List.eq_nil_of_length_eq_zero (by simpa using hown.1)
  subst hx
  have hr:=run_append_nil (P:=P) w t ty e i z ht hi hz a m c news hl hnews (by omega) (by omega) (by have hb:=hbytes; simp only [Nat.zero_add] at hb; omega)
  have hgr:=grown 0 (by omega)
  simp only [Nat.zero_add,List.nil_append,Array.empty_append] at hgr ⊢
  exact ⟨_,_,hr,hgr,gb _ _,.inr ⟨rfl,gb _ _,by simp⟩⟩
 ·by_cases hroom:n+m≤cap
  ·have hfit:n * i.size+news.length≤cur.size:=by rw [hl,hcs,← Nat.add_mul]; exact Nat.mul_le_mul_right _ hroom
   have hr:=run_append_room (P:=P) w t ty e i ht hi g n cap cur hg a m c news hl hnews h1 hroom hfit
   refine ⟨_,_,hr,⟨hlen,.inr ⟨g,cap,_,rfl,hbg,setRow_heap w g cur _ e _ hg,hroom,hcm,?_,?_⟩⟩,⟨rfl,rfl,rfl,by simp,fun k _ hk=>setRow_other w g k _ (fun e=>hk (by simp [Value.ownBlock,e]))⟩,.inl ⟨rfl,by simp⟩⟩
   ·simp only [List.size_toArray,List.length_append,List.length_take,List.length_drop,Array.length_toList]
    omega
   ·rw [htake,← hlen]
    exact List.take_left
  ·have holds:∀ j u,xs[j]?=some u→w.cell? ((⟨g,0,none⟩:Addr).add j)=some u:=hown.cells (g:=g) rfl
   have hr:=run_append_grow (P:=P) w t ty e i z ht hi hz ⟨g,0,none⟩ n cap xs hown.1 holds a m c news hl hnews (by omega) (by omega) (growslice_fits (by omega) hbytes)
   exact ⟨_,_,hr,grown cap (by omega),gb _ _,.inr ⟨rfl,gb _ _,by simp⟩⟩
theorem wpList_append_lies {ops:Array Oper} {rest:List Oper} {o:Oper} {a:Act} {Q:Exit→Act→World→Prop} (hgd:o.guard=none) (s x:Operand) (t:TypeId)
  (ho:o.op = .call { callee := .builtin .append,args:=#[s,x],argTypes:=#[t,t] })
  (e:TypeId) (i:TypeInfo) (z:Value) (size bytes:Nat) (ht:P.underlying t=some (.slice e)) (hi:P.info? e=some i) (hz:i.zero=some z)
  (hsize:i.size=size) (hby:i.bytes=bytes) (hzs:z.cells.size=size) (hsz:0 < size)
  (v:Value) (n:Nat) (xs:List Value) (hs:a.eval s=v) (hown:w.ownsRow 0 e size v n xs)
  (ad:Addr) (m c:Nat) (news:List Value) (hx:a.eval x = .slice (some ad) m c) (hl:news.length=m * size) (hnews:∀ j u,news[j]?=some u→w.cell? (ad.add j)=some u) (h1:∀ u∈news,u.oneCell'=true)
  (hm:0 < m) (h63:n+m≤maxLen) (hbytes:(n+m) * bytes≤140737488355328)
  (h:∀ v' w',w'.ownsRow 0 e size v' (n+m) (xs++news)→w.grownBy w' v.ownBlock→Lies w w' v v'→wpList P ops Q rest (a.put o.dst v') w'):wpList P ops Q (o :: rest) a w:=by
 refine wpList_plain hgd fun K hK=>?_
 obtain ⟨v',w',hr,h2,h3,h4⟩:=run_append_lies (P:=P) t o.type e i z size bytes ht hi hz hsize hby hzs hsz v n xs hown ad m c news hl hnews h1 hm h63 hbytes
 unfold Oper.wp execOp
 simp only [ho,resolve,invoke,builtin,Sem.run_bind,Sem.run_pure,Result.andThen_ok,List.map_toArray,List.map_cons,List.map_nil,hs,hx,hr]
 exact hK _ _ (h v' w' h2 h3 h4)
end
theorem wp_append_lies {P:Program} {w:World} {o:Oper} {a:Act} {K:Act→World→Prop} {Q:Exit→Act→World→Prop} (s x:Operand) (t:TypeId)
  (ho:o.op = .call { callee := .builtin .append,args:=#[s,x],argTypes:=#[t,t] })
  (e:TypeId) (i:TypeInfo) (z:Value) (size bytes:Nat) (ht:P.underlying t=some (.slice e)) (hi:P.info? e=some i) (hz:i.zero=some z)
  (hsize:i.size=size) (hby:i.bytes=bytes) (hzs:z.cells.size=size) (hsz:0 < size)
  (v:Value) (n:Nat) (xs:List Value) (hs:a.eval s=v) (hown:w.ownsRow 0 e size v n xs)
  (ad:Addr) (m c:Nat) (news:List Value) (hx:a.eval x = .slice (some ad) m c) (hl:news.length=m * size) (hnews:∀ j u,news[j]?=some u→w.cell? (ad.add j)=some u) (h1:∀ u∈news,u.oneCell'=true)
  (hm:0 < m) (h63:n+m≤maxLen) (hbytes:(n+m) * bytes≤140737488355328)
  (h:∀ v' w',w'.ownsRow 0 e size v' (n+m) (xs++news)→w.grownBy w' v.ownBlock→Lies w w' v v'→K (a.put o.dst v') w'):o.wp P a w K Q:=by
 obtain ⟨v',w',hr,h2,h3,h4⟩:=run_append_lies (P:=P) t o.type e i z size bytes ht hi hz hsize hby hzs hsz v n xs hown ad m c news hl hnews h1 hm h63 hbytes
 unfold Oper.wp execOp
 simp only [ho,resolve,invoke,builtin,Sem.run_bind,Sem.run_pure,Result.andThen_ok,List.map_toArray,List.map_cons,List.map_nil,hs,hx,hr]
 exact h v' w' h2 h3 h4
structure Moves (w:World) (v:Value) (w':World) (v':Value):Prop where
 grown:w.grownBy w' v.ownBlock
 lies:v'.ownBlock=v.ownBlock ∨ ∃ g,v'.ownBlock=some g∧w.heap.size≤g
theorem Moves.refl (w:World) (v:Value):Moves w v w v:=⟨World.grownBy.refl _ _,.inl rfl⟩
theorem Moves.alloc (w:World) (v:Value) (o:Obj):Moves w v (w.alloc o) v:=⟨World.grownBy_alloc _ _ _,.inl rfl⟩
theorem Moves.same {w w':World} (v:Value) (h:Same w w'):Moves w v w' v:=by
 obtain ⟨n,rfl⟩:=h
 exact ⟨⟨rfl,rfl,rfl,Nat.le_refl _,fun _ _ _=>rfl⟩,.inl rfl⟩
theorem Moves.append {w w':World} {v v':Value} (h:w.grownBy w' v.ownBlock) (hl:Lies w w' v v'):Moves w v w' v':=by
 refine ⟨h,?_⟩
 rcases hl with ⟨h1,_⟩ | ⟨h1,_⟩
 ·exact .inl h1
 ·exact .inr ⟨_,h1,Nat.le_refl _⟩
theorem Moves.trans {a b c:World} {u v x:Value} (h:Moves a u b v) (k:Moves b v c x):Moves a u c x:=by
 obtain ⟨g1,l1⟩:=h
 obtain ⟨g2,l2⟩:=k
 refine ⟨⟨g2.os.trans g1.os,g2.tape.trans g1.tape,g2.output.trans g1.output,Nat.le_trans g1.size g2.size,fun j hj hn=>?_⟩,?_⟩
 ·refine (g2.block j (Nat.lt_of_lt_of_le hj g1.size) ?_).trans (g1.block j hj hn)
  rcases l1 with l1 | ⟨g,l1,hg⟩
  ·rw [l1]; exact hn
  ·rw [l1]; intro e; cases e; omega
 ·rcases l2 with l2 | ⟨g,l2,hg⟩
  ·rw [l2]; exact l1
  ·exact .inr ⟨g,l2,Nat.le_trans g1.size hg⟩
theorem Moves.block {a b:World} {u v:Value} (h:Moves a u b v) {j:Nat} (hj:j < a.heap.size) (hn:u.ownBlock≠some j):b.heap[j]?=a.heap[j]?:=h.grown.block j hj (Ne.symm hn)
theorem Moves.size {a b:World} {u v:Value} (h:Moves a u b v):a.heap.size≤b.heap.size:=h.grown.size
def Past (B:Nat) (v:Value):Prop:=∀ k,v.ownBlock=some k→B≤k
theorem Moves.past {B:Nat} {a b:World} {u v:Value} (h:Moves a u b v) (hp:Past B u) (hB:B≤a.heap.size):Past B v:=by
 intro k hk
 rcases h.lies with h1 | ⟨g,h1,hg⟩
 ·exact hp k (h1 ▸ hk)
 ·rw [h1] at hk; cases hk; omega
theorem Moves.below {B:Nat} {z a b:World} {u v:Value} (h:Moves a u b v) (hp:Past B u) (hb:Below B z a) (hB:B≤a.heap.size):Below B z b:=hb.grown h.grown hB hp
theorem ownsRow_head {w:World} {B e size n:Nat} {v:Value} {xs:List Value} (h:w.ownsRow B e size v (n+1) xs):∃ g cap,v = .slice (some ⟨g,0,none⟩) (n+1) cap:=by
 rcases h.2 with ⟨_,h0⟩ | ⟨g,cap,cur,rfl,_⟩
 ·cases h0
 ·exact ⟨g,cap,rfl⟩
theorem ownsRow_form {w:World} {B e size n:Nat} {v:Value} {xs:List Value} (h:w.ownsRow B e size v n xs):∃ a cap,v = .slice a n cap:=by
 rcases h.2 with ⟨rfl,rfl⟩ | ⟨g,cap,cur,rfl,_⟩
 ·exact ⟨_,_,rfl⟩
 ·exact ⟨_,cap,rfl⟩
theorem ownsRow_zero {w:World} {B e size n:Nat} {v:Value} {xs:List Value} (h:w.ownsRow B e size v n xs):w.ownsRow 0 e size v n xs:=by
 refine ⟨h.1,?_⟩
 rcases h.2 with h0 | ⟨g,cap,cur,h1,_,h2⟩
 ·exact .inl h0
 ·exact .inr ⟨g,cap,cur,h1,Nat.zero_le _,h2⟩
theorem ownsRow_block {w w':World} {B e size n:Nat} {v:Value} {xs:List Value} (h:w.ownsRow B e size v n xs) (hb:∀ k,v.ownBlock=some k→w'.heap[k]?=w.heap[k]?):w'.ownsRow B e size v n xs:=by
 refine ⟨h.1,?_⟩
 rcases h.2 with h0 | ⟨g,cap,cur,h1,h2,h3,h4⟩
 ·exact .inl h0
 ·subst h1
  exact .inr ⟨g,cap,cur,rfl,h2,(hb g rfl).trans h3,h4⟩
end Go.Proofs.Ts
namespace Go.Proofs.Ts
open Go Go.RowKit
def vintF:Nat→Nat→List Nat
 | 0,n=>[n % 256]
 | f+1,n=>if 128≤n then (n % 128+128) :: vintF f (n / 128) else [n]
def vint (n:Nat):List Nat:=vintF n n
def byteV (b:Nat):Value := .int .u8 (b:Int)
theorem vintF_fuel:∀ (f g n:Nat),n≤f→n≤g→vintF f n=vintF g n
 | 0,0,_,_,_=>rfl
 | 0,g+1,n,h,_=>by
  obtain rfl:n=0:=by omega
  simp [vintF]
 | f+1,0,n,_,h=>by
  obtain rfl:n=0:=by omega
  simp [vintF]
 | f+1,g+1,n,h1,h2=>by
  unfold vintF
  split
  ·rw [vintF_fuel f g (n / 128) (by omega) (by omega)]
  ·rfl
theorem vint_big {n:Nat} (h:128≤n):vint n=(n % 128+128) :: vint (n / 128):=by
 unfold vint
 obtain ⟨m,rfl⟩:∃ m,n=m+1:=⟨n - 1,by omega⟩
 conv=>lhs; unfold vintF
 rw [if_pos h,vintF_fuel m ((m+1) / 128) _ (by omega) (Nat.le_refl _)]
theorem vint_small {n:Nat} (h:n < 128):vint n=[n]:=by
 unfold vint
 cases n with
 | zero=>rfl
 | succ m=>unfold vintF; rw [if_neg (by omega)]
theorem Tryz.tsInfo5:(Tryz.prog.info? 5).map (fun i=>(i.zero,i.size,i.bytes))=some (some (.int .u8 0),1,1):=by kernel_rfl
theorem or128:∀ x:Fin 256,x.val ||| 128=x.val % 128+128:=by decide +kernel
theorem byte_or (m:Nat):bits BinOp.or IntKind.u8 ((m:Int) % 256) 128=((m % 128+128:Nat):Int):=by
 have h:=u8_or_nat (m % 256) 128 (by omega) (by omega)
 have e:((m % 256:Nat):Int)=(m:Int) % 256:=by omega
 rw [e] at h
 rw [show ((128:Nat):Int)=128 from rfl] at h
 rw [h,or128 ⟨m % 256,by omega⟩]
 show ((m % 256 % 128+128:Nat):Int)=_
 rw [Nat.mod_mod_of_dvd m (by decide:128 ∣ 256)]
set_option maxRecDepth 100000 in
set_option maxHeartbeats 1000000 in
theorem put_any (v:Value) (l:Nat) (xs:List Value) (n:Nat) (w:World) (hn:n < 1000000) (hl:l≤1000000) (hown:w.ownsRow 0 5 1 v l xs) :
  Calls Tryz.prog 79 #[v,.int .i64 n] w fun e w'=>∃ v',e = .returned v'∧w'.ownsRow 0 5 1 v' (l+(vint n).length) (xs++(vint n).map byteV)∧Moves w v w' v':=by
 obtain ⟨i0,hi,hz0,hz1,hz2⟩:=info_parts Tryz.tsInfo5
 go_enter Tryz.func79,Tryz.ntmps79
 go_wp2
 go_loopw [0,1] (fun s i wr=>∃ (m k:Nat) (ys:List Value),m < 1000000∧m+k≤n∧i = .int .i64 m∧Hid (ys++(vint m).map byteV=xs++(vint n).map byteV∧k+(vint m).length=(vint n).length)∧wr.ownsRow 0 5 1 s (l+k) ys∧Moves w v wr s) (fun _ i _=>(intOf i).toNat)
 case atStart=>exact ⟨n,0,xs,hn,by omega,rfl,⟨rfl,by omega⟩,hown,Moves.refl _ _⟩
 case round =>
  obtain ⟨m,k,ys,hm,hmk,rfl,HE,hrow,hmv⟩:=hrel
  have hmax:l+k+1≤maxLen:=by unfold maxLen; omega
  have hbytes:(l+k+1) * 1≤140737488355328:=by omega
  by_cases h128:128≤m
  ·have HV:=Lib.hid (vint_big h128)
   have HO:=Lib.hid (byte_or m)
   go_wp2_with (at_builtin; refine wpList_append_lies rfl _ _ 42 rfl 5 i0 (.int .u8 0) 1 1 Tryz.underlying42 hi hz0 hz1 hz2 rfl (by decide) _ _ _ rfl (hrow.alloc _) ⟨wr.heap.size,0,none⟩ 1 1 [.int .u8 (bits BinOp.or IntKind.u8 ((m:Int) % 256) 128)] rfl rfl ?c1 ?c2 (by decide) hmax hbytes ?_)
   case c1=>exact cell_one_new _ _ _
   case c2=>simp [Value.oneCell']
   intro v' w1 hown' hgrow hlies
   have hmv':=hmv.trans ((Moves.alloc wr _ _).trans (Moves.append hgrow hlies))
   clear hlies hgrow
   go_wp2
   refine ⟨⟨m / 128,k+1,_,by omega,by omega,by go_num,?_,hown',hmv'⟩,by simp [intOf]; omega⟩
   refine ⟨?_,?_⟩
   ·have h1:=HE.out.1
    rw [HV.out] at h1
    rw [← h1,HO.out]
    simp [byteV]
   ·have h2:=HE.out.2
    rw [HV.out,List.length_cons] at h2
    omega
  ·have HV:=Lib.hid (vint_small (by omega:m < 128))
   go_wp2_with (at_builtin; refine wpList_append_lies rfl _ _ 42 rfl 5 i0 (.int .u8 0) 1 1 Tryz.underlying42 hi hz0 hz1 hz2 rfl (by decide) _ _ _ rfl (hrow.alloc _) ⟨wr.heap.size,0,none⟩ 1 1 [.int .u8 (m:Int)] rfl rfl ?c3 ?c4 (by decide) hmax hbytes ?_)
   case c3=>exact cell_one_new _ _ _
   case c4=>simp [Value.oneCell']
   intro v' w1 hown' hgrow hlies
   have hmv':=hmv.trans ((Moves.alloc wr _ _).trans (Moves.append hgrow hlies))
   clear hlies hgrow
   go_wp2
   go_ret
   obtain ⟨h1,h2⟩:=HE.out
   rw [HV.out] at h1 h2
   refine ⟨v',rfl,?_,hmv'⟩
   have e1:ys++[Value.int .u8 (m:Int)]=xs++(vint n).map byteV:=h1
   rw [e1,show l+k+1=l+(vint n).length by simp at h2; omega] at hown'
   exact hown'
theorem vint_length {n:Nat} (h:n < 1000000):(vint n).length≤3:=by
 rcases Nat.lt_or_ge n 128 with h1 | h1
 ·rw [vint_small h1]; simp
 ·rw [vint_big h1,List.length_cons]
  rcases Nat.lt_or_ge (n / 128) 128 with h2 | h2
  ·rw [vint_small h2]; simp
  ·rw [vint_big h2,List.length_cons,vint_small (by omega)]; simp
theorem vint_lt {n:Nat} (h:n < 1000000):∀ b∈vint n,b < 256:=by
 have small:∀ m,m < 128 → ∀ b∈vint m,b < 256:=fun m hm b hb=>by rw [vint_small hm] at hb; simp at hb; omega
 have big:∀ m,128≤m→(∀ b∈vint (m / 128),b < 256) → ∀ b∈vint m,b < 256:=fun m hm ih b hb=>by
  rw [vint_big hm] at hb
  rcases List.mem_cons.1 hb with rfl | hb
  ·omega
  ·exact ih b hb
 rcases Nat.lt_or_ge n 128 with h1 | h1
 ·exact small n h1
 ·refine big n h1 ?_
  rcases Nat.lt_or_ge (n / 128) 128 with h2 | h2
  ·exact small _ h2
  ·exact big _ h2 (small _ (by omega))
end Go.Proofs.Ts
namespace Go.Proofs.Ts
open Go Go.RowKit
structure Nd where
 final:Bool
 edges:List (UInt8 × Nat)
 v:Value
def edgeCells (es:List (UInt8 × Nat)):List Value:=es.flatMap fun p=>[.int .u8 p.1.toNat,ptrV p.2]
theorem edgeCells_length (es:List (UInt8 × Nat)):(edgeCells es).length=es.length * 2:=by
 induction es with
 | nil=>rfl
 | cons p r ih=>simp [edgeCells,List.flatMap_cons] at ih ⊢; omega
theorem edgeCells_append (a b:List (UInt8 × Nat)):edgeCells (a++b)=edgeCells a++edgeCells b:=by simp [edgeCells]
theorem edgeCells_at:∀ (es:List (UInt8 × Nat)) (i:Nat) (p:UInt8 × Nat),es[i]?=some p→(edgeCells es)[i * 2]?=some (.int .u8 p.1.toNat)∧(edgeCells es)[i * 2+1]?=some (ptrV p.2)
 | [],i,p,h=>by simp at h
 | y :: t,0,p,h=>by simp at h; subst h; simp [edgeCells]
 | y :: t,i+1,p,h=>by
  have ih:=edgeCells_at t i p (by simpa using h)
  have e:edgeCells (y :: t) = .int .u8 y.1.toNat :: ptrV y.2 :: edgeCells t:=by simp [edgeCells]
  rw [e,show (i+1) * 2=i * 2+1+1 by omega,show i * 2+1+1+1=(i * 2+1)+1+1 by omega]
  simpa using ih
abbrev Graph:=Nat→Option Nd
def upd (G:Graph) (b:Nat) (nd:Nd):Graph:=fun k=>if k=b then some nd else G k
structure NodesIn (B:Nat) (w:World) (G:Graph):Prop where
 ge:∀ b nd,G b=some nd→B≤b∧Past B nd.v
 node:∀ b nd,G b=some nd→w.heap[b]?=some (.cells #[.bool nd.final,nd.v] 282 (0,0))
 row:∀ b nd,G b=some nd→w.ownsRow 0 284 2 nd.v nd.edges.length (edgeCells nd.edges)
 apart:∀ b b' nd nd' g,b≠b'→G b=some nd→G b'=some nd'→nd.v.ownBlock=some g→nd'.v.ownBlock≠some g
structure St where
 G:Graph
 kn:List (Shape × Nat)
 ids:List (Nat × Nat)
def intV (n:Nat):Value := .int .i64 n
def vals {α β:Type} (f:β→Value) (m:List (α × β)):List (α × Value):=m.map fun p=>(p.1,f p.2)
theorem get_vals {α β:Type} [DecidableEq α] (f:β→Value) (m:List (α × β)) (k:α):get (vals f m) k=(get m k).map f:=by
 induction m with
 | nil=>rfl
 | cons p r ih =>
  unfold vals at *
  simp only [List.map_cons,get]
  split
  ·rfl
  ·exact ih
theorem put_vals {α β:Type} [DecidableEq α] (f:β→Value) (m:List (α × β)) (k:α) (v:β):put (vals f m) k (f v)=vals f (put m k v):=by
 induction m with
 | nil=>rfl
 | cons p r ih =>
  unfold vals at *
  simp only [List.map_cons,put]
  split
  ·rfl
  ·rw [ih]; rfl
structure StIn (B bb kb ib:Nat) (w:World) (s:St):Prop where
 nodes:NodesIn B w s.G
 bb_ge:B≤bb
 kb_ge:B≤kb
 ib_ge:B≤ib
 ne:kb≠ib
 bld:w.heap[bb]?=some (.cells #[.map (some kb),.map (some ib)] 278 (0,0))
 kn:MapIs shapeV w kb (vals ptrV s.kn)
 ids:MapIs ptrV w ib (vals intV s.ids)
 idsIn:∀ p∈s.ids,(s.G p.1).isSome
 knIn:∀ p∈s.kn,(s.G p.2).isSome
 toIn:∀ b nd,s.G b=some nd → ∀ p∈nd.edges,(s.G p.2).isSome
def idOf (ids:List (Nat × Nat)) (t:Nat):Nat:=(get ids t).getD 0
def edgeText (ids:List (Nat × Nat)) (es:List (UInt8 × Nat)):List UInt8:=es.flatMap fun p=>p.1 :: (vint (idOf ids p.2)).map UInt8.ofNat
def shapeOf (ids:List (Nat × Nat)) (nd:Nd):Shape:=(nd.final,edgeText ids nd.edges)
def hook (s:St) (n t:Nat) (ndn ndt:Nd):St :=
 match get s.kn (shapeOf s.ids ndt) with
 | some m=>{ s with G:=upd s.G n { ndn with edges:=ndn.edges.dropLast++[((ndn.edges.getLast?.map (·.1)).getD 0,m)] } }
 | none=>{ s with kn:=put s.kn (shapeOf s.ids ndt) t,ids:=put s.ids t s.ids.length }
def settleP:List Nat→St→Nat→St
 | [],s,_=>s
 | t :: ts,s,n =>
  match (settleP ts s t).G t,(settleP ts s t).G n with
  | some ndt,some ndn=>hook (settleP ts s t) n t ndn ndt
  | _,_=>settleP ts s t
theorem hook_other {s:St} {n t k:Nat} {ndn ndt:Nd} (h:k≠n):(hook s n t ndn ndt).G k=s.G k:=by
 unfold hook
 split
 ·simp [upd,h]
 ·rfl
theorem hook_dom {s:St} {n t k:Nat} {ndn ndt:Nd} (h:(s.G k).isSome):((hook s n t ndn ndt).G k).isSome:=by
 unfold hook
 split
 ·simp only [upd]
  split
  ·rfl
  ·exact h
 ·exact h
theorem settleP_cons {ts:List Nat} {s:St} {n t:Nat} {ndn ndt:Nd} (h1:(settleP ts s t).G t=some ndt) (h2:(settleP ts s t).G n=some ndn) :
  settleP (t :: ts) s n=hook (settleP ts s t) n t ndn ndt:=by
 conv=>lhs; unfold settleP
 rw [h1,h2]
theorem settleP_other:∀ (ts:List Nat) (s:St) (t n:Nat),n≠t → ¬ n∈ts→(settleP ts s t).G n=s.G n
 | [],s,t,n,_,_=>rfl
 | u :: us,s,t,n,h1,h2=>by
  simp only [List.mem_cons,not_or] at h2
  have ih:=settleP_other us s u n h2.1 h2.2
  unfold settleP
  split
  ·rw [hook_other h1]; exact ih
  ·exact ih
theorem settleP_dom:∀ (ts:List Nat) (s:St) (t k:Nat),(s.G k).isSome→((settleP ts s t).G k).isSome
 | [],s,t,k,h=>h
 | u :: us,s,t,k,h=>by
  have ih:=settleP_dom us s u k h
  unfold settleP
  split
  ·exact hook_dom ih
  ·exact ih
def Way (s:St):Nat→List Nat→Prop
 | n,[]=>∃ nd,s.G n=some nd∧nd.edges=[]
 | n,t :: ts=>(∃ nd c es,s.G n=some nd∧nd.edges=es++[(c,t)])∧get s.ids t=none∧t≠n ∧ ¬ n∈ts∧Way s t ts
end Go.Proofs.Ts
namespace Go.Proofs.Ts
open Go Go.RowKit
section
variable {P:Program} {ops:Array Oper} {S:World→Prop} {Q:Exit→Act→World→Prop}
def wpOrd (P:Program) (l:List Oper) (S:World→Prop) (x:Nat) (Q:Act→World→Prop):List (Nat × Bool)→Act→World→Prop
 | [],a,w=>Q a w
 | (i,true) :: rest,a,w =>
  match l[i]? with
  | none=>False
  | some o=>if Region.wanted o (yielded l.toArray a.tmps) then o.wp P a w (fun a' w'=>(i≠x→S w')∧((i=x→rest=[])∧wpOrd P l S x Q rest a' w')) (NoPanic fun _ _ _=>False) else wpOrd P l S x Q rest (a.put o.dst undef) w
 | (i,false) :: rest,a,w =>
  match l[i]? with
  | none=>False
  | some o=>∃ v,YieldsIf P l.toArray S o v a∧wpOrd P l S x Q rest (a.put o.dst v) w
def ordB (ops:Array Oper):List (Nat × Bool)→Array Bool→Bool
 | [],listed=>Region.ready .any ops listed == []
 | (i,true) :: rest,listed=>Region.ready .any ops listed == [i] && ordB ops rest (listed.setIfInBounds i true)
 | (i,false) :: rest,listed=>(Region.ready .any ops listed).contains i && Region.free .any ops listed i && ordB ops rest (listed.setIfInBounds i true)
def waitsB (ops:Array Oper) (x i:Nat):Bool :=
 match ops[x]? with
 | none=>true
 | some o=>o.after.any fun e=>Region.binds .any e && e.on == i
def anyX (P:Program) (ops:Array Oper) (Q:Exit→Act→World→Prop) (S:World→Prop) (x:Nat):Nat→Array Bool→Act→World→Prop
 | 0,listed,a,w=>Region.ready .any ops listed=[]∧Q .normal a w
 | n+1,listed,a,w =>
  (Region.ready .any ops listed=[]→Q .normal a w) ∧
  ∀ i∈Region.ready .any ops listed,wpOp P ops Q i (fun a' w'=>(i≠x→S w')∧anyX P ops Q S x n (listed.setIfInBounds i true) a' w') a w
theorem wpAny_of_anyX {x:Nat}:∀ (n:Nat) (listed:Array Bool) (a:Act) (w:World),anyX P ops Q S x n listed a w→wpAny P .any ops Q n listed a w
 | 0,_,_,_,h=>h
 | n+1,_,_,_,h=>⟨h.1,fun i hi=>wpOp_mono (fun a' w' h'=>wpAny_of_anyX n _ a' w' h'.2) (h.2 i hi)⟩
theorem waitsB_listed {x i:Nat} (h:waitsB ops x i=true) {listed:Array Bool} (hx:x∈Region.ready .any ops listed):listed.getD i false=true:=by
 obtain ⟨_,o,ho,hall⟩:=mem_ready.1 hx
 unfold waitsB at h
 rw [ho] at h
 obtain ⟨e,he,hb⟩:=Array.any_eq_true'.1 h
 simp only [Bool.and_eq_true,beq_iff_eq] at hb
 rw [← hb.2]
 exact hall e he hb.1
theorem unlisted_of_ready {i:Nat} {listed:Array Bool} (h:i∈Region.ready .any ops listed):listed.getD i false=false:=by
 have:=(mem_ready.1 h).1
 rcases Nat.lt_or_ge i listed.size with h' | h'
 ·simp [h'] at this ⊢; exact this
 ·simp [Array.getElem?_eq_none h'] at this
theorem anyX_first {x i:Nat} {oi:Oper} {v:Value} (hx:waitsB ops x i=true) (hi:ops[i]?=some oi) (hsel:Region.noSelect ops=true)
  (hQ:∀ c a w,Q (.panic c) (a.put oi.dst v) w→Q (.panic c) a w) :
  ∀ (n:Nat) (listed:Array Bool) (a:Act) (w:World),
   (∀ j oj,ops[j]?=some oj→j≠i→listed.getD j true=false→(∀ e∈oj.after,Region.binds .any e=true→e.on≠i)→oi.apart ops oj=true) →
   i∈Region.ready .any ops listed→YieldsIf P ops S oi v a→S w →
   anyX P ops Q S x n (listed.setIfInBounds i true) (a.put oi.dst v) w→anyX P ops Q S x (n+1) listed a w:=by
 intro n
 induction n with
 | zero =>
  intro listed a w _ hr hy hS H
  refine ⟨fun h=>(by rw [h] at hr; cases hr),fun j hj=>?_⟩
  by_cases hji:j=i
  ·subst hji; exact hy.wpOp hi hS ⟨fun _=>hS,H⟩
  ·have hc:=ready_mono hj hji
   rw [H.1] at hc
   cases hc
 | succ n ih =>
  intro listed a w hfree hr hy hS H
  refine ⟨fun h=>(by rw [h] at hr; cases hr),fun j hj=>?_⟩
  by_cases hji:j=i
  ·subst hji; exact hy.wpOp hi hS ⟨fun _=>hS,H⟩
  ·have hjx:j≠x:=by
    rintro rfl
    have h1:=waitsB_listed hx hj
    rw [unlisted_of_ready hr] at h1
    cases h1
   have h1:=H.2 j (ready_mono hj hji)
   obtain ⟨hjun,oj,hoj,hall⟩:=mem_ready.1 hj
   have hnot:∀ e∈oj.after,Region.binds .any e=true→e.on≠i:=fun e he hb heq=>by
    have h2:=hall e he hb
    rw [heq,unlisted_of_ready hr] at h2
    cases h2
   have h2:=wpOp_putIf hoj (hfree j oj hoj hji hjun hnot) (fun cs b=>Region.noSelect_spec hsel i oi cs b hi) (fun cs b=>Region.noSelect_spec hsel j oj cs b hoj) hQ hy h1
   have hfree':∀ k ok,ops[k]?=some ok→k≠i→(listed.setIfInBounds j true).getD k true=false→(∀ e∈ok.after,Region.binds .any e=true→e.on≠i)→oi.apart ops ok=true:=fun k ok hk hki hun hno=>by
    refine hfree k ok hk hki ?_ hno
    by_cases hjk:j=k
    ·subst hjk; exact hjun
    ·rw [getD_set_ne true hjk] at hun; exact hun
   refine wpOp_mono (fun a' w' h3=>⟨fun _=>h3.2.1 hjx,ih (listed.setIfInBounds j true) a' w' hfree' (ready_mono hr (Ne.symm hji)) h3.1 (h3.2.1 hjx) ?_⟩) h2
   rw [Array.setIfInBounds_comm _ _ hji]
   exact h3.2.2
theorem anyX_of_ord {lo:List Oper} {x:Nat} (hs:Region.noSelect lo.toArray=true) {Q':Exit→Act→World→Prop} (hQ:∀ a w,Q .normal a w→Q' .normal a w) (hp:∀ c a w,¬ Q' (.panic c) a w) :
  ∀ (l:List (Nat × Bool)) (listed:Array Bool) (a:Act) (w:World),(∀ q∈l,q.2=false→waitsB lo.toArray x q.1=true) →
  ordB lo.toArray l listed=true→S w→wpOrd P lo S x (Q .normal) l a w→anyX P lo.toArray Q' S x l.length listed a w
 | [],listed,a,w,_,hB,_,h=>by
  simp only [ordB,beq_iff_eq] at hB
  exact ⟨hB,hQ _ _ h⟩
 | (i,true) :: rest,listed,a,w,hl,hB,hS,h=>by
  simp only [ordB,Bool.and_eq_true,beq_iff_eq] at hB
  obtain ⟨hr,hB'⟩:=hB
  have ih:=anyX_of_ord (x:=x) hs hQ hp rest (listed.setIfInBounds i true)
  refine ⟨fun h0=>(by rw [hr] at h0; cases h0),fun j hj=>?_⟩
  rw [hr] at hj
  obtain rfl:j=i:=by simpa using hj
  unfold wpOrd at h
  unfold wpOp
  split at h
  ·exact h.elim
  ·rename_i o ho
   have ho':lo.toArray[j]?=some o:=by simpa using ho
   simp only [ho']
   split
   ·rename_i hw
    rw [if_pos hw] at h
    refine .inl ?_
    refine Oper.wp_mono (K:=fun a' w'=>(j≠x→S w')∧((j=x→rest=[])∧wpOrd P lo S x (Q .normal) rest a' w')) (fun a' w' hh=>⟨hh.1,?_⟩) ?_
    ·by_cases hjx:j=x
     ·have:=hh.2.1 hjx
      subst this
      simp only [ordB,beq_iff_eq] at hB'
      exact ⟨hB',hQ _ _ hh.2.2⟩
     ·exact ih a' w' (fun q hq=>hl q (List.mem_cons_of_mem _ hq)) hB' (hh.1 hjx) hh.2.2
    ·unfold Oper.wp at h ⊢
     generalize (execOp a.eval o).run P w=r at *
     cases r with
     | ok n w' =>
      cases n <;> simp only [Oper.upon] at h ⊢
      case value=>exact h
      case skip=>exact h
      case defer=>exact h
      case row=>exact h
      case enter f args =>
       refine Calls.mono h fun e w'' he=>?_
       cases e with
       | returned v=>exact he
       | panicked c=>exact he.elim
       | outgrown=>obtain ⟨_,_,hx⟩:=he; exact hx.elim
      all_goals exact h
     | halt x w' =>
      cases x <;> simp only [Oper.upon] at h ⊢
      all_goals exact h.elim
   ·rename_i hw
    rw [if_neg hw] at h
    exact ⟨fun _=>hS,ih _ _ (fun q hq=>hl q (List.mem_cons_of_mem _ hq)) hB' hS h⟩
 | (i,false) :: rest,listed,a,w,hl,hB,hS,h=>by
  simp only [ordB,Bool.and_eq_true] at hB
  obtain ⟨⟨hr,hf⟩,hB'⟩:=hB
  have ih:=anyX_of_ord (x:=x) hs hQ hp rest (listed.setIfInBounds i true)
  unfold wpOrd at h
  split at h
  ·exact h.elim
  ·rename_i o ho
   obtain ⟨v,hy,hk⟩:=h
   have ho':lo.toArray[i]?=some o:=by simpa using ho
   exact anyX_first (hl (i,false) List.mem_cons_self rfl) ho' hs (fun c a w hq=>(hp _ _ _ hq).elim) rest.length listed a w (Region.free_spec ho' hf) (by simpa using hr) hy hS (ih _ _ (fun q hq=>hl q (List.mem_cons_of_mem _ hq)) hB' hS hk)
theorem wp_region_ordX {id:Nat} {a:Act} {w:World} {l:List Oper} (order:List (Nat × Bool)) (x:Nat) (S:World→Prop) (hm:P.follows .mixedOrders=true)
  (hs:(Region.noSelect l.toArray && (order.all fun q=>q.2 || waitsB l.toArray x q.1) && (order.length == l.length) && ordB l.toArray order (Array.replicate l.length false))=true) (hS:S w.drew)
  (h:wpOrd P l S x (Q .normal) order a w.drew):(Code.region id l.toArray true).wp P Q a w:=by
 simp only [Bool.and_eq_true,beq_iff_eq] at hs
 obtain ⟨⟨⟨h1,h3⟩,h4⟩,h5⟩:=hs
 have h3':∀ q∈order,q.2=false→waitsB l.toArray x q.1=true:=fun q hq hf=>by
  have:=List.all_eq_true.1 h3 q hq
  rw [hf] at this
  simpa using this
 refine wp_region_noPanic (wp_region_any hm (wpAny_of_anyX (S:=S) (x:=x) _ _ _ _ ?_))
 have:=anyX_of_ord (Q:=Q) (Q':=NoPanic Q) h1 (fun _ _ h=>h) (fun _ _ _ h=>h) order (Array.replicate l.length false) a w.drew h3' h5 hS h
 rw [h4] at this
 simpa using this
theorem wp_region_ord {id:Nat} {a:Act} {w:World} {l:List Oper} (order:List (Nat × Bool)) (S:World→Prop) (hm:P.follows .mixedOrders=true)
  (hs:(Region.noSelect l.toArray && (order.all fun q=>q.2 || waitsB l.toArray 1000 q.1) && (order.length == l.length) && ordB l.toArray order (Array.replicate l.length false))=true) (hS:S w.drew)
  (h:wpOrd P l S 1000 (Q .normal) order a w.drew):(Code.region id l.toArray true).wp P Q a w:=wp_region_ordX order 1000 S hm hs hS h
theorem wpOrd_nil {l:List Oper} {x:Nat} {Q:Act→World→Prop} {a:Act} {w:World} (h:Q a w):wpOrd P l S x Q [] a w:=h
theorem wpOrd_quiet {l:List Oper} {x:Nat} {Q:Act→World→Prop} {i:Nat} {rest:List (Nat × Bool)} {a:Act} {w:World} {o:Oper} (v:Value) (ho:l[i]?=some o) (hw:Region.wanted o (yielded l.toArray a.tmps)=true)
  (hv:∀ w',S w'→(execOp a.eval o).run P w' = .ok (.value v) w') (h:wpOrd P l S x Q rest (a.put o.dst v) w):wpOrd P l S x Q ((i,false) :: rest) a w:=by
 unfold wpOrd
 rw [ho]
 exact ⟨v,.inl ⟨hw,hv⟩,h⟩
theorem wpOrd_skip {l:List Oper} {x:Nat} {Q:Act→World→Prop} {i:Nat} {rest:List (Nat × Bool)} {a:Act} {w:World} {o:Oper} (ho:l[i]?=some o) (hw:Region.wanted o (yielded l.toArray a.tmps)=false)
  (h:wpOrd P l S x Q rest (a.put o.dst undef) w):wpOrd P l S x Q ((i,false) :: rest) a w:=by
 unfold wpOrd
 rw [ho]
 exact ⟨undef,.inr ⟨hw,rfl⟩,h⟩
theorem wpOrd_loud {l:List Oper} {x:Nat} {Q:Act→World→Prop} {i:Nat} {rest:List (Nat × Bool)} {a:Act} {w:World} {o:Oper} (ho:l[i]?=some o) (hw:Region.wanted o (yielded l.toArray a.tmps)=true)
  (hx:i≠x) (h:∀ K:Act→World→Prop,(∀ a' w',S w'→wpOrd P l S x Q rest a' w'→K a' w')→o.wp P a w K (NoPanic fun _ _ _=>False)):wpOrd P l S x Q ((i,true) :: rest) a w:=by
 unfold wpOrd
 rw [ho]
 simp only [hw,if_true]
 exact h _ fun a' w' h1 h2=>⟨fun _=>h1,fun e=>absurd e hx,h2⟩
theorem wpOrd_last {l:List Oper} {x:Nat} {Q:Act→World→Prop} {a:Act} {w:World} {o:Oper} (ho:l[x]?=some o) (hw:Region.wanted o (yielded l.toArray a.tmps)=true)
  (h:∀ K:Act→World→Prop,(∀ a' w',Q a' w'→K a' w')→o.wp P a w K (NoPanic fun _ _ _=>False)):wpOrd P l S x Q [(x,true)] a w:=by
 unfold wpOrd
 rw [ho]
 simp only [hw,if_true]
 exact h _ fun a' w' h2=>⟨fun e=>absurd rfl e,by simp,h2⟩
theorem put_lit (xs:List Value) (ds:List Deferred) (d:Nat) (v:Value):({ tmps:=xs.toArray,defers:=ds }:Act).put (some d) v={ tmps:=(xs.set d v).toArray,defers:=ds }:=by
 simp [Act.put]
end
end Go.Proofs.Ts
namespace Go.Proofs.Ts
open Go Go.RowKit
theorem StIn.nodeBlock {B bb kb ib:Nat} {w:World} {s:St} (h:StIn B bb kb ib w s) {b:Nat} {nd:Nd} (hG:s.G b=some nd):b≠bb∧b≠kb∧b≠ib:=by
 have hb:=h.nodes.node b nd hG
 refine ⟨?_,?_,?_⟩
 ·rintro rfl
  rw [h.bld] at hb
  simp at hb
 ·rintro rfl
  obtain ⟨es,c,hk,_⟩:=h.kn
  rw [hk] at hb
  cases hb
 ·rintro rfl
  obtain ⟨es,c,hk,_⟩:=h.ids
  rw [hk] at hb
  cases hb
theorem StIn.rowBlock {B bb kb ib:Nat} {w:World} {s:St} (h:StIn B bb kb ib w s) {b:Nat} {nd:Nd} (hG:s.G b=some nd) {g:Nat} (hg:nd.v.ownBlock=some g) :
  g≠bb∧g≠kb∧g≠ib ∧ ∀ b' nd',s.G b'=some nd'→g≠b':=by
 have hrow:=h.nodes.row b nd hG
 have hh:∃ cur,w.heap[g]?=some (.cells cur 284 (0,0)):=by
  rcases hrow.2 with ⟨h1,_⟩ | ⟨g',cap,cur,h1,_,h2,_⟩
  ·rw [h1] at hg; cases hg
  ·rw [h1] at hg; cases hg; exact ⟨cur,h2⟩
 obtain ⟨cur,hh⟩:=hh
 refine ⟨?_,?_,?_,?_⟩
 ·rintro rfl
  rw [h.bld] at hh
  simp at hh
 ·rintro rfl
  obtain ⟨es,c,hk,_⟩:=h.kn
  rw [hk] at hh
  cases hh
 ·rintro rfl
  obtain ⟨es,c,hk,_⟩:=h.ids
  rw [hk] at hh
  cases hh
 ·rintro b' nd' hG' rfl
  rw [h.nodes.node g nd' hG'] at hh
  simp at hh
theorem StIn.mapsApart {B bb kb ib:Nat} {w:World} {s:St} (h:StIn B bb kb ib w s):bb≠kb∧bb≠ib:=by
 refine ⟨?_,?_⟩
 ·rintro rfl
  obtain ⟨es,c,hk,_⟩:=h.kn
  rw [h.bld] at hk
  cases hk
 ·rintro rfl
  obtain ⟨es,c,hk,_⟩:=h.ids
  rw [h.bld] at hk
  cases hk
theorem edgeCells_set (es:List (UInt8 × Nat)) (c:UInt8) (t m:Nat):(edgeCells (es++[(c,t)])).set (es.length * 2+1) (ptrV m)=edgeCells (es++[(c,m)]):=by
 rw [edgeCells_append,edgeCells_append,List.set_append_right _ _ (by rw [edgeCells_length]; omega),edgeCells_length]
 simp [edgeCells]
theorem StIn.relink {B bb kb ib:Nat} {w:World} {s:St} (h:StIn B bb kb ib w s) {n g cap t m:Nat} {c:UInt8} {es:List (UInt8 × Nat)} {nd:Nd} (hG:s.G n=some nd) (he:nd.edges=es++[(c,t)])
  (hv:nd.v = .slice (some ⟨g,0,none⟩) (es.length+1) cap) (hm:(s.G m).isSome) :
  StIn B bb kb ib (w.setCell ⟨g,es.length * 2+1,none⟩ (ptrV m)) { s with G:=upd s.G n { nd with edges:=es++[(c,m)] } }:=by
 have hgo:nd.v.ownBlock=some g:=by rw [hv]; rfl
 obtain ⟨n1,n2,n3,n4⟩:=h.rowBlock hG hgo
 have hsame:∀ k,k≠g→(w.setCell ⟨g,es.length * 2+1,none⟩ (ptrV m)).heap[k]?=w.heap[k]?:=fun k hk=>Below.heap_setCell w _ _ k hk
 have hdom:∀ k,(s.G k).isSome→((upd s.G n { nd with edges:=es++[(c,m)] }) k).isSome:=fun k hk=>by
  unfold upd
  split
  ·rfl
  ·exact hk
 refine ⟨⟨fun b nd' hb=>?_,fun b nd' hb=>?_,fun b nd' hb=>?_,fun b b' x x' g' hne hb hb' hx=>?_⟩,h.bb_ge,h.kb_ge,h.ib_ge,h.ne,(hsame bb (Ne.symm n1)).trans h.bld,h.kn.of_block (hsame kb (Ne.symm n2)),
  h.ids.of_block (hsame ib (Ne.symm n3)),fun p hp=>hdom _ (h.idsIn p hp),fun p hp=>hdom _ (h.knIn p hp),fun b nd' hb p hp=>?_⟩
 ·simp only [upd] at hb
  split at hb
  ·rename_i e
   cases hb
   exact h.nodes.ge n nd hG |> fun x=>by rw [e]; exact x
  ·exact h.nodes.ge b nd' hb
 ·simp only [upd] at hb
  split at hb
  ·rename_i e
   cases hb
   rw [hsame b (by rw [e]; exact Ne.symm (n4 n nd hG)),e]
   exact h.nodes.node n nd hG
  ·rw [hsame b (Ne.symm (n4 b nd' hb))]
   exact h.nodes.node b nd' hb
 ·simp only [upd] at hb
  split at hb
  ·rename_i e
   cases hb
   have hr:=h.nodes.row n nd hG
   rw [he,hv] at hr
   simp only [List.length_append,List.length_cons,List.length_nil,Nat.zero_add] at hr ⊢
   have:=(hr.stored (es.length * 2+1) (ptrV m)).1
   rw [edgeCells_set] at this
   rw [hv]
   exact this
  ·rename_i e
   refine ownsRow_block (h.nodes.row b nd' hb) fun k hk=>hsame k ?_
   rintro rfl
   exact h.nodes.apart n b nd nd' k (Ne.symm e) hG hb hgo hk
 ·simp only [upd] at hb hb'
  split at hb <;> split at hb'
  ·rename_i e1 e2
   exact absurd (e1.trans e2.symm) hne
  ·rename_i e1 e2
   cases hb
   exact h.nodes.apart n b' nd x' g' (by rw [← e1]; exact hne) hG hb' hx
  ·rename_i e1 e2
   cases hb'
   exact h.nodes.apart b n x nd g' (by rw [← e2]; exact hne) hb hG hx
  ·exact h.nodes.apart b b' x x' g' hne hb hb' hx
 ·refine hdom _ ?_
  simp only [upd] at hb
  split at hb
  ·cases hb
   rcases List.mem_append.1 hp with hp | hp
   ·exact h.toIn n nd hG p (by rw [he]; exact List.mem_append_left _ hp)
   ·simp at hp
    subst hp
    exact hm
  ·exact h.toIn b nd' hb p hp
theorem StIn.learn {B bb kb ib:Nat} {w w':World} {s:St} (h:StIn B bb kb ib w s) {k:Shape} {t:Nat} (ht:(s.G t).isSome) (hg:w.grownBy w' (some kb)) (hm:MapIs shapeV w' kb (put (vals ptrV s.kn) k (ptrV t))) :
  StIn B bb kb ib w' { s with kn:=put s.kn k t }:=by
 obtain ⟨a1,a2⟩:=h.mapsApart
 rw [put_vals] at hm
 have lt:∀ {x:Nat} {o:Obj},w.heap[x]?=some o→x < w.heap.size:=fun hx=>(Array.getElem?_eq_some_iff.1 hx).1
 refine ⟨⟨h.nodes.ge,fun b nd hb=>?_,fun b nd hb=>?_,h.nodes.apart⟩,h.bb_ge,h.kb_ge,h.ib_ge,h.ne,?_,hm,h.ids.of_block (hg.block ib h.ids.lt (fun e=>h.ne (Option.some.inj e).symm)),h.idsIn,fun p hp=>?_,h.toIn⟩
 ·exact (hg.block b (lt (h.nodes.node b nd hb)) (fun e=>(h.nodeBlock hb).2.1 (Option.some.inj e))).trans (h.nodes.node b nd hb)
 ·exact ownsRow_block (h.nodes.row b nd hb) fun g hgo=>hg.block g ((h.nodes.row b nd hb).lt g hgo).2 (fun e=>(h.rowBlock hb hgo).2.1 (Option.some.inj e))
 ·exact (hg.block bb (lt h.bld) (fun e=>a1 (Option.some.inj e))).trans h.bld
 ·rcases mem_put hp with rfl | hp
  ·exact ht
  ·exact h.knIn p hp
theorem StIn.count {B bb kb ib:Nat} {w w':World} {s:St} (h:StIn B bb kb ib w s) {t x:Nat} (ht:(s.G t).isSome) (hg:w.grownBy w' (some ib)) (hm:MapIs ptrV w' ib (put (vals intV s.ids) t (intV x))) :
  StIn B bb kb ib w' { s with ids:=put s.ids t x }:=by
 obtain ⟨a1,a2⟩:=h.mapsApart
 rw [put_vals] at hm
 have lt:∀ {x:Nat} {o:Obj},w.heap[x]?=some o→x < w.heap.size:=fun hx=>(Array.getElem?_eq_some_iff.1 hx).1
 refine ⟨⟨h.nodes.ge,fun b nd hb=>?_,fun b nd hb=>?_,h.nodes.apart⟩,h.bb_ge,h.kb_ge,h.ib_ge,h.ne,?_,h.kn.of_block (hg.block kb h.kn.lt (fun e=>h.ne (Option.some.inj e))),hm,fun p hp=>?_,h.knIn,h.toIn⟩
 ·exact (hg.block b (lt (h.nodes.node b nd hb)) (fun e=>(h.nodeBlock hb).2.2 (Option.some.inj e))).trans (h.nodes.node b nd hb)
 ·exact ownsRow_block (h.nodes.row b nd hb) fun g hgo=>hg.block g ((h.nodes.row b nd hb).lt g hgo).2 (fun e=>(h.rowBlock hb hgo).2.2.1 (Option.some.inj e))
 ·exact (hg.block bb (lt h.bld) (fun e=>a2 (Option.some.inj e))).trans h.bld
 ·rcases mem_put hp with rfl | hp
  ·exact ht
  ·exact h.idsIn p hp
end Go.Proofs.Ts
