/- Lemmas towards the statement Written of termsearch: walks of the program's functions and plain laws on lists (TsAbb, TsMap, TsBase, TsKeys, TsRow, TsPut, TsNodes, TsOrd, TsSettleB, TsSettle, TsCode). Conditions: those that each theorem names. -/
import Derived.WalkKit
import Derived.LaidEql
import Derived.MapKept
import Derived.WalkLawsBesides
import Derived.WalkSpells
import Derived.Deep.QuietTactic
import Derived.BigQuiet
import Derived.Deep.LoopGhost
import Derived.Lib.Hide
import Derived.Test.YtffjomnnkilhgaaGreatDoorProg
import Derived.Laws.StructEq
import Derived.Maps.AppendAt
import Derived.OrdersHeld
import Derived.Deep.RegionHeld3
import Derived.Lib.BufferRead
set_option linter.unusedVariables false
set_option linter.unusedSimpArgs false
set_option linter.unusedSectionVars false
namespace Go.Proofs.Ts
open Go
abbrev aD (b i:Nat):Addr:=⟨b,i,none⟩
abbrev pT (b:Nat):Value := .pointer (some ⟨b,0,none⟩)
abbrev sL (b n c:Nat):Value := .slice (some ⟨b,0,none⟩) n c
abbrev iV (z:Int):Value := .int .i64 z
abbrev uV (z:Int):Value := .int .u64 z
end Go.Proofs.Ts
namespace Go.Proofs.Ts
open Go
def get {α β:Type} [DecidableEq α]:List (α × β)→α→Option β
 | [],_=>none
 | p :: r,k=>if p.1=k then some p.2 else get r k
def put {α β:Type} [DecidableEq α]:List (α × β)→α→β→List (α × β)
 | [],k,v=>[(k,v)]
 | p :: r,k,v=>if p.1=k then (k,v) :: r else p :: put r k v
section
variable {α β:Type} [DecidableEq α]
theorem get_put (m:List (α × β)) (k k':α) (v:β):get (put m k v) k'=if k=k' then some v else get m k':=by
 induction m with
 | nil=>simp [put,get]
 | cons p r ih =>
  unfold put
  by_cases h:p.1=k
  ·by_cases h':k=k'
   ·simp [h,get,h']
   ·have h2:¬ p.1=k':=fun e=>h' (h.symm.trans e)
    simp [h,get,h']
  ·by_cases h':k=k'
   ·subst h'
    simp [h,get,ih]
   ·simp [h,get,ih,h']
theorem get_some_mem {m:List (α × β)} {k:α} {v:β} (h:get m k=some v):(k,v)∈m:=by
 induction m with
 | nil=>simp [get] at h
 | cons p r ih =>
  unfold get at h
  split at h
  ·rename_i e
   cases h
   subst e
   simp
  ·exact List.mem_cons_of_mem _ (ih h)
theorem get_none {m:List (α × β)} {k:α}:get m k=none ↔ ∀ p∈m,p.1≠k:=by
 induction m with
 | nil=>simp [get]
 | cons p r ih =>
  unfold get
  by_cases h:p.1=k
  ·simp [h]
  ·simp [h,ih]
theorem length_put_le (m:List (α × β)) (k:α) (v:β):(put m k v).length≤m.length+1:=by
 induction m with
 | nil=>simp [put]
 | cons p r ih =>
  unfold put
  split
  ·simp
  ·simp; omega
theorem length_put_none {m:List (α × β)} {k:α} (v:β) (h:get m k=none):put m k v=m++[(k,v)]:=by
 induction m with
 | nil=>rfl
 | cons p r ih =>
  unfold get at h
  split at h
  ·cases h
  ·rename_i e
   unfold put
   rw [if_neg e,ih h]
   rfl
theorem mem_put {m:List (α × β)} {k:α} {v:β} {p:α × β} (h:p∈put m k v):p=(k,v)∨p∈m:=by
 induction m with
 | nil=>simp [put] at h; exact .inl h
 | cons q r ih =>
  unfold put at h
  split at h
  ·rcases List.mem_cons.1 h with h | h
   ·exact .inl h
   ·exact .inr (List.mem_cons_of_mem _ h)
  ·rcases List.mem_cons.1 h with h | h
   ·exact .inr (h ▸ List.mem_cons_self)
   ·rcases ih h with h | h
    ·exact .inl h
    ·exact .inr (List.mem_cons_of_mem _ h)
theorem keys_put_some {m:List (α × β)} {k:α} {v u:β} (h:get m k=some u):(put m k v).map (·.1)=m.map (·.1):=by
 induction m with
 | nil=>cases h
 | cons p r ih =>
  unfold get at h
  unfold put
  split at h
  ·rename_i e
   rw [if_pos e]
   simp [e]
  ·rename_i e
   rw [if_neg e]
   simp [ih h]
def Apart (m:List (α × β)):Prop:=(m.map (·.1)).Nodup
theorem Apart.put {m:List (α × β)} (h:Apart m) (k:α) (v:β):Apart (put m k v):=by
 unfold Apart at *
 cases hg:get m k with
 | some u=>rw [keys_put_some hg]; exact h
 | none =>
  rw [length_put_none v hg,List.map_append]
  rw [List.nodup_append]
  refine ⟨h,by simp,?_⟩
  intro a ha b hb
  simp at hb
  subst hb
  rw [get_none] at hg
  obtain ⟨p,hp,rfl⟩:=List.mem_map.1 ha
  exact hg p hp
theorem get_of_mem {m:List (α × β)} (h:Apart m) {k:α} {v:β} (hm:(k,v)∈m):get m k=some v:=by
 induction m with
 | nil=>cases hm
 | cons p r ih =>
  unfold Apart at h
  simp only [List.map_cons,List.nodup_cons] at h
  unfold get
  rcases List.mem_cons.1 hm with e | hm
  ·rw [← e]; simp
  ·have:¬ p.1=k:=fun e=>h.1 (e ▸ List.mem_map.2 ⟨(k,v),hm,rfl⟩)
   rw [if_neg this]
   exact ih h.2 hm
end
structure KeyLaw (P:Program) (K:TypeId) {α:Type} [DecidableEq α] (enc:α→Value) (ok:World→α→Prop):Prop where
 now:∀ d,P.underlying K=some d → ∀ a b,Instr.sameNow d (enc a) (enc b)=none∨Instr.sameNow d (enc a) (enc b)=some (decide (a=b))
 und:∃ d,P.underlying K=some d
 eq:∀ w a b,ok w a→ok w b→(Op.equal K (enc a) (enc b)).run P w = .ok (decide (a=b)) w
 chk:∀ w e a,ok w a→(Instr.checkKey e 10000 K (enc a)).run P w = .ok () w
 same:∀ a,Instr.sameBits 10000 (enc a) (enc a)=true
section
variable {P:Program} {K:TypeId} {α:Type} [DecidableEq α] {enc:α→Value} {ok:World→α→Prop}
def find (m:List (α × Value)) (k:α) (i:Nat):Option (Nat × Value) :=
 match m with
 | []=>none
 | p :: r=>if k=p.1 then some (i,p.2) else find r k (i+1)
def pairs (enc:α→Value) (es:List MapEntry) (m:List (α × Value)):Prop:=es.map (fun e=>(e.key,e.val))=m.map (fun p=>(enc p.1,p.2))
theorem findAsking_run (L:KeyLaw P K enc ok) (w:World) (k:α) (hk:ok w k):∀ (es:List MapEntry) (m:List (α × Value)) (i:Nat),pairs enc es m→(∀ p∈m,ok w p.1) →
  (Instr.findAsking K (enc k) es i).run P w = .ok (find m k i) w
 | [],[],i,_,_=>rfl
 | [],p :: r,i,h,_=>by simp [pairs] at h
 | e :: es,[],i,h,_=>by simp [pairs] at h
 | e :: es,p :: r,i,h,hm=>by
  simp only [pairs,List.map_cons,List.cons.injEq,Prod.mk.injEq] at h
  obtain ⟨⟨h1,h2⟩,h3⟩:=h
  have ih:=findAsking_run L w k hk es r (i+1) h3 (fun q hq=>hm q (List.mem_cons_of_mem _ hq))
  have he:=L.eq w k p.1 hk (hm p List.mem_cons_self)
  unfold Instr.findAsking find
  rw [h1]
  simp only [Sem.run_bind,he,Result.andThen_ok]
  by_cases hkp:k=p.1
  ·simp [hkp,h2]
  ·simp [hkp,ih]
theorem findNow_run (L:KeyLaw P K enc ok) {d:TypeDesc} (hd:P.underlying K=some d) (k:α):∀ (es:List MapEntry) (m:List (α × Value)) (i:Nat),pairs enc es m →
  Instr.findNow d (enc k) es i=none∨Instr.findNow d (enc k) es i=some (find m k i)
 | [],[],i,_ => .inr rfl
 | [],p :: r,i,h=>by simp [pairs] at h
 | e :: es,[],i,h=>by simp [pairs] at h
 | e :: es,p :: r,i,h=>by
  simp only [pairs,List.map_cons,List.cons.injEq,Prod.mk.injEq] at h
  obtain ⟨⟨h1,h2⟩,h3⟩:=h
  have ih:=findNow_run L hd k es r (i+1) h3
  unfold Instr.findNow find
  rw [h1]
  rcases L.now d hd k p.1 with hn | hn
  ·rw [hn]; exact .inl rfl
  ·rw [hn]
   by_cases hkp:k=p.1
   ·simp [hkp,h2]
   ·simp only [hkp,decide_false,if_false]
    exact ih
theorem findKey_run (L:KeyLaw P K enc ok) (w:World) (k:α) (hk:ok w k) (es:List MapEntry) (m:List (α × Value)) (h:pairs enc es m) (hm:∀ p∈m,ok w p.1) :
  (Instr.findKey K (enc k) es).run P w = .ok (find m k 0) w:=by
 obtain ⟨d,hd⟩:=L.und
 have ha:=findAsking_run L w k hk es m 0 h hm
 unfold Instr.findKey
 simp only [Sem.run_bind,run_underlying hd,Result.andThen_ok]
 rcases findNow_run L hd k es m 0 h with hn | hn
 ·rw [hn]; exact ha
 ·rw [hn]; rfl
theorem find_get (m:List (α × Value)) (k:α):∀ i,(find m k i).map (·.2)=get m k:=by
 induction m with
 | nil=>intro i; rfl
 | cons p r ih =>
  intro i
  unfold find get
  by_cases h:k=p.1
  ·simp [h]
  ·simp [h,Ne.symm h,ih]
theorem find_place (m:List (α × Value)) (k:α):∀ i j v,find m k i=some (j,v)→i≤j∧m[j - i]?=some (k,v) ∧ ∀ u,put m k u=m.set (j - i) (k,u):=by
 induction m with
 | nil=>intro i j v h; cases h
 | cons p r ih =>
  intro i j v h
  unfold find at h
  by_cases hk:k=p.1
  ·rw [if_pos hk] at h
   cases h
   refine ⟨Nat.le_refl _,by simp [hk],fun u=>?_⟩
   unfold put
   simp [hk]
  ·rw [if_neg hk] at h
   obtain ⟨h1,h2,h3⟩:=ih (i+1) j v h
   have e:j - i=(j - (i+1))+1:=by omega
   refine ⟨by omega,by rw [e]; simpa using h2,fun u=>?_⟩
   unfold put
   rw [if_neg (Ne.symm hk),h3 u,e]
   rfl
def MapIs (enc:α→Value) (w:World) (b:Nat) (m:List (α × Value)):Prop :=
 ∃ es clock,w.heap[b]?=some (.map es clock)∧pairs enc es.toList m∧(∀ e∈es.toList,e.born < clock)∧(es.toList.map (·.born)).Nodup
theorem MapIs.made (enc:α→Value) (w:World):MapIs enc (w.alloc (.map #[] 0)) w.heap.size [] :=
 ⟨#[],0,heap_alloc_new w _,by simp [pairs],by simp,by simp⟩
theorem MapIs.lt {enc:α→Value} {w:World} {b:Nat} {m:List (α × Value)} (h:MapIs enc w b m):b < w.heap.size:=by
 obtain ⟨es,c,hb,_⟩:=h
 exact (Array.getElem?_eq_some_iff.1 hb).1
theorem MapIs.of_block {enc:α→Value} {w w':World} {b:Nat} {m:List (α × Value)} (h:MapIs enc w b m) (hb:w'.heap[b]?=w.heap[b]?):MapIs enc w' b m:=by
 obtain ⟨es,c,h1,h2⟩:=h
 exact ⟨es,c,hb.trans h1,h2⟩
theorem MapIs.len {enc:α→Value} {w:World} {b:Nat} {m:List (α × Value)} {es:Array MapEntry} {c:Nat} (hb:w.heap[b]?=some (.map es c)) (h:MapIs enc w b m):es.size=m.length:=by
 obtain ⟨es',c',h1,h2,_⟩:=h
 rw [hb] at h1
 cases h1
 have:=congrArg List.length h2
 simpa using this
theorem getObj_run {w:World} {b:Nat} {es:Array MapEntry} {c:Nat} (hb:w.heap[b]?=some (.map es c)):(getObj b).run P w = .ok (.map es c) w:=by
 simp [getObj,Sem.run,hb]
theorem MapIs.lookup (L:KeyLaw P K enc ok) {w:World} {b:Nat} {m:List (α × Value)} (h:MapIs enc w b m) (k:α) (hk:ok w k) (hm:∀ p∈m,ok w p.1) {T E:TypeId} (hT:P.underlying T=some (.map K E)) {z:Value}
  (hz:(zeroValue E).run P w = .ok z w) (ok?:Bool) :
  (Instr.lookup T (.map (some b)) (enc k) ok?).run P w = .ok (if ok? then .tuple #[(get m k).getD z,.bool (get m k).isSome] else (get m k).getD z) w:=by
 obtain ⟨es,c,hb,hp,_⟩:=h
 have hf:=findKey_run L w k hk es.toList m hp hm
 have hc:=L.chk w es.isEmpty k hk
 rw [← find_get m k 0]
 unfold Instr.lookup
 simp only [Sem.run_bind,run_underlying hT,Result.andThen_ok,getObj_run hb,Sem.run_pure,hc,hf]
 cases hfk:find m k 0 with
 | none=>cases ok? <;> simp [hz]
 | some jv=>cases ok? <;> simp
theorem MapIs.update (L:KeyLaw P K enc ok) {w:World} {b:Nat} {m:List (α × Value)} (h:MapIs enc w b m) (k:α) (hk:ok w k) (hm:∀ p∈m,ok w p.1) {T E:TypeId} (hT:P.underlying T=some (.map K E)) (v:Value) :
  ∃ w',(Instr.mapUpdate T (.map (some b)) (enc k) v).run P w = .ok () w'∧MapIs enc w' b (put m k v)∧w.grownBy w' (some b)∧w'.heap.size=w.heap.size:=by
 obtain ⟨es,c,hb,hp,hl,hn⟩:=h
 have hf:=findKey_run L w k hk es.toList m hp hm
 have hc:=L.chk w false k hk
 have hlt:b < w.heap.size:=(Array.getElem?_eq_some_iff.1 hb).1
 have hset:∀ o:Obj,({ w with heap:=w.heap.setIfInBounds b o }:World).heap[b]?=some o:=fun o=>by
  simp [Array.getElem?_setIfInBounds,hlt]
 have hgr:∀ o:Obj,w.grownBy { w with heap:=w.heap.setIfInBounds b o } (some b):=fun o =>
  ⟨rfl,rfl,rfl,by simp,fun j _ hj=>by
   have:b≠j:=fun e=>hj (by rw [e])
   simp [this]⟩
 have hso:∀ o:Obj,(setObj b o).run P w = .ok () { w with heap:=w.heap.setIfInBounds b o }:=fun o=>by
  simp [setObj,Sem.run,hb]
 cases hfk:find m k 0 with
 | none =>
  rw [hfk] at hf
  refine ⟨_,?_,⟨es.push { key:=enc k,val:=v,born:=c },c+1,hset _,?_,?_,?_⟩,hgr _,by simp⟩
  ·unfold Instr.mapUpdate
   simp only [Sem.run_bind,run_underlying hT,Result.andThen_ok,getObj_run hb,hc,hf]
   exact hso _
  ·have hg:get m k=none:=by rw [← find_get m k 0,hfk]; rfl
   rw [length_put_none v hg]
   simp only [pairs,Array.toList_push,List.map_append,List.map_cons,List.map_nil]
   rw [hp]
  ·intro e he
   simp only [Array.toList_push,List.mem_append,List.mem_singleton] at he
   rcases he with he | he
   ·exact Nat.lt_succ_of_lt (hl e he)
   ·subst he; exact Nat.lt_succ_self _
  ·simp only [Array.toList_push,List.map_append,List.map_cons,List.map_nil]
   rw [List.nodup_append]
   refine ⟨hn,by simp,?_⟩
   intro a ha x hx
   simp at hx
   subst hx
   obtain ⟨e,he,rfl⟩:=List.mem_map.1 ha
   have:=hl e he
   omega
 | some jv =>
  obtain ⟨j,v0⟩:=jv
  rw [hfk] at hf
  obtain ⟨_,hj,hput⟩:=find_place m k 0 j v0 hfk
  rw [Nat.sub_zero] at hj hput
  have hpj:(es.toList.map (fun e=>(e.key,e.val)))[j]?=some (enc k,v0):=by
   rw [hp,List.getElem?_map,hj]; rfl
  rw [List.getElem?_map,Option.map_eq_some_iff] at hpj
  obtain ⟨e0,he0,hek⟩:=hpj
  simp only [Prod.mk.injEq] at hek
  have hes:es[j]?=some e0:=by simpa using he0
  have hjl:j < es.size:=(Array.getElem?_eq_some_iff.1 hes).1
  have hej:es[j]=e0:=(Array.getElem?_eq_some_iff.1 hes).2
  have hst:(Instr.keyThatStays (enc k) (enc k)).run P w = .ok (enc k) w:=by
   unfold Instr.keyThatStays
   rw [L.same k]
   rfl
  have hmod:(es.modify j fun e=>{ e with key:=enc k,val:=v }).toList=es.toList.set j { e0 with key:=enc k,val:=v }:=by
   rw [Array.toList_modify]
   apply List.ext_getElem?
   intro i
   rw [List.getElem?_modify,List.getElem?_set]
   by_cases hij:j=i
   ·subst hij
    simp [hej,hjl]
   ·simp [hij]
  refine ⟨_,?_,⟨es.modify j fun e=>{ e with key:=enc k,val:=v },c,hset _,?_,?_,?_⟩,hgr _,by simp⟩
  ·unfold Instr.mapUpdate
   simp only [Sem.run_bind,run_underlying hT,Result.andThen_ok,getObj_run hb,hc,hf]
   simp only [hes,Option.map_some,Option.getD_some,hek.1,hst,Result.andThen_ok]
   exact hso _
  ·rw [hput v]
   simp only [pairs,hmod,List.map_set]
   rw [hp]
  ·intro e he
   rw [hmod] at he
   rcases List.mem_or_eq_of_mem_set he with he | he
   ·exact hl e he
   ·subst he
    exact hl e0 (List.mem_of_getElem? he0)
  ·rw [hmod]
   simp only [List.map_set]
   have:(es.toList.map (·.born)).set j e0.born=es.toList.map (·.born):=by
    apply List.ext_getElem?
    intro i
    rw [List.getElem?_set]
    by_cases hij:j=i
    ·subst hij; simp [hej,hjl]
    ·simp [hij]
   rw [this]
   exact hn
end
end Go.Proofs.Ts
namespace Go.Proofs.Ts
open Go Go.RowKit
def Same (w w':World):Prop:=∃ n,w'=w.drewN n
theorem Same.refl (w:World):Same w w:=⟨0,rfl⟩
theorem Same.trans {a b c:World} (h:Same a b) (k:Same b c):Same a c:=by
 obtain ⟨n,rfl⟩:=h
 obtain ⟨m,rfl⟩:=k
 exact ⟨n+m,by simp⟩
theorem Same.drewN (w:World) (n:Nat):Same w (w.drewN n):=⟨n,rfl⟩
theorem Same.drew (w:World):Same w w.drew:=⟨1,rfl⟩
theorem Same.heap {w w':World} (h:Same w w'):w'.heap=w.heap:=by obtain ⟨n,rfl⟩:=h; rfl
theorem Same.cell {w w':World} (h:Same w w') (a:Addr):w'.cell? a=w.cell? a:=by obtain ⟨n,rfl⟩:=h; rfl
theorem Same.below {w w':World} (h:Same w w') (B:Nat):Below B w w':=by
 obtain ⟨n,rfl⟩:=h
 exact ⟨rfl,rfl,rfl,Nat.le_refl _,fun _ _=>rfl⟩
theorem quietS {P:Program} {f:FuncId} {args:Array Value} {w:World} {n:Nat} {v:Value}
  (h:Calls P f args (w.drewN n) fun e w'=>e = .returned v∧Same (w.drewN n) w'):Calls P f args (w.drewN n) fun e w''=>e = .returned v ∧ ∃ m,w''=w.drewN m :=
 h.mono fun _ _ ⟨he,m,hm⟩=>⟨he,n+m,by rw [hm,World.drewN_drewN]⟩
structure Mod (S:Nat→Prop) (w w':World):Prop where
 os:w'.os=w.os
 tape:w'.tape=w.tape
 output:w'.output=w.output
 size:w.heap.size≤w'.heap.size
 block:∀ k,k < w.heap.size → ¬ S k→w'.heap[k]?=w.heap[k]?
theorem Mod.refl (S:Nat→Prop) (w:World):Mod S w w:=⟨rfl,rfl,rfl,Nat.le_refl _,fun _ _ _=>rfl⟩
theorem Mod.trans {S:Nat→Prop} {a b c:World} (h:Mod S a b) (k:Mod S b c):Mod S a c :=
 ⟨k.os.trans h.os,k.tape.trans h.tape,k.output.trans h.output,Nat.le_trans h.size k.size,fun j hj hn=>(k.block j (Nat.lt_of_lt_of_le hj h.size) hn).trans (h.block j hj hn)⟩
theorem Mod.mono {S T:Nat→Prop} {a b:World} (h:Mod S a b) (hST:∀ k,k < a.heap.size→S k→T k):Mod T a b :=
 ⟨h.os,h.tape,h.output,h.size,fun j hj hn=>h.block j hj fun hs=>hn (hST j hj hs)⟩
theorem Mod.same {S:Nat→Prop} {a b:World} (h:Same a b):Mod S a b:=by
 obtain ⟨n,rfl⟩:=h
 exact ⟨rfl,rfl,rfl,Nat.le_refl _,fun _ _ _=>rfl⟩
theorem Mod.toBelow {S:Nat→Prop} {B:Nat} {a b:World} (h:Mod S a b) (hB:B≤a.heap.size) (hS:∀ k,S k→B≤k):Below B a b :=
 ⟨h.os,h.tape,h.output,h.size,fun j hj=>h.block j (by omega) fun hs=>by have:=hS j hs; omega⟩
theorem Mod.grown {S:Nat→Prop} {a b:World} {row:Option Nat} (h:a.grownBy b row) (hr:∀ k,row=some k→k < a.heap.size→S k):Mod S a b :=
 ⟨h.os,h.tape,h.output,h.size,fun j hj hn=>h.block j hj fun e=>hn (hr j e.symm hj)⟩
theorem Mod.alloc (S:Nat→Prop) (w:World) (o:Obj):Mod S w (w.alloc o) :=
 ⟨rfl,rfl,rfl,by simp,fun j hj _=>Below.heap_alloc w o j hj⟩
theorem Mod.setCell {S:Nat→Prop} (w:World) (a:Addr) (v:Value) (h:a.block < w.heap.size→S a.block):Mod S w (w.setCell a v) :=
 ⟨rfl,rfl,rfl,by simp,fun j hj hn=>Below.heap_setCell w a v j fun e=>hn (e ▸ h (e ▸ hj))⟩
theorem Mod.cell {S:Nat→Prop} {w w':World} (h:Mod S w w') {p:Addr} (hp:p.block < w.heap.size) (hn:¬ S p.block):w'.cell? p=w.cell? p:=World.cell?_of_block (w:=w) (h.block p.block hp hn)
theorem ret_bool {a b:Bool} (h:a=b):Ending.returned (.bool a) = .returned (.bool b):=by rw [h]
theorem ret_int {k:IntKind} {a b:Int} (h:a=b):Ending.returned (.int k a) = .returned (.int k b):=by rw [h]
theorem idx_str (s:ByteArray) (k:Nat) (h:k < s.size):s.data.toList[k]'(by simpa using h)=s[k]:=by
 rw [Array.getElem_toList]; rfl
theorem take_succ_str (s:ByteArray) (k:Nat) (h:k < s.size):s.data.toList.take (k+1)=s.data.toList.take k++[s[k]]:=by
 rw [List.take_succ_eq_append_getElem (by simpa using h),idx_str s k h]
end Go.Proofs.Ts
namespace Go.Proofs.Ts
open Go Go.RowKit
abbrev Shape:=Bool × List UInt8
def strV (l:List UInt8):Value := .string ⟨l.toArray⟩
def shapeV (s:Shape):Value := .agg #[.bool s.1,strV s.2]
def ptrV (b:Nat):Value := .pointer (some ⟨b,0,none⟩)
theorem checkKey_zero (P:Program) (e:Bool) (n:Nat) (t:TypeId) (v:Value) (w:World) {d:TypeDesc} (ht:P.underlying t=some d) (h:(match d with | .interface _ | .array _ _ | .struct _=>false | _=>true)=true) :
  (Instr.checkKey e (n+1) t v).run P w = .ok () w:=by
 unfold Instr.checkKey
 simp only [Sem.run_bind,run_underlying ht,Result.andThen_ok]
 cases d <;> first | (simp at h; done) | (cases v <;> rfl)
theorem shape_law:KeyLaw Tryz.prog 374 shapeV (fun _ _=>True) where
 now:=fun d hd a b=>by
  left
  rw [Tryz.underlying374] at hd
  cases hd
  rfl
 und:=⟨_,Tryz.underlying374⟩
 eq:=fun w a b _ _=>by
  obtain ⟨f,s⟩:=a
  obtain ⟨g,t⟩:=b
  unfold shapeV strV
  simp [go_sem,Op.equal,Op.maxDepth]
  by_cases h1:f=g <;> by_cases h2:s=t <;> simp [h1,h2]
 chk:=fun w e a _=>by
  unfold shapeV strV
  rw [show (10000:Nat)=9999+1 from rfl]
  unfold Instr.checkKey
  simp [go_sem,checkKey_zero Tryz.prog e 9998 4 _ _ Tryz.underlying4 rfl,checkKey_zero Tryz.prog e 9998 9 _ _ Tryz.underlying9 rfl]
 same:=fun a=>by
  unfold shapeV strV
  have h:(({ data:=a.snd.toArray }:ByteArray) == { data:=a.snd.toArray })=true:=by rw [beq_toListBytes]; simp
  simp [Instr.sameBits,h]
def cellsAt (w:World) (b:Nat):Prop:=∃ cs t,w.heap[b]?=some (.cells cs t (0,0))
theorem ptr_law {K E:TypeId} {j:TypeInfo} (hK:Tryz.prog.underlying K=some (.pointer E)) (hE:Tryz.prog.info? E=some j) (hj:j.size≠0):KeyLaw Tryz.prog K ptrV cellsAt where
 now:=fun d hd a b=>by
  left
  rw [hK] at hd
  cases hd
  rfl
 und:=⟨_,hK⟩
 eq:=fun w a b ha hb=>by
  obtain ⟨ca,ta,ha⟩:=ha
  obtain ⟨cb,tb,hb⟩:=hb
  unfold ptrV
  have hne:∀ (a b:Nat),a≠b→((aD a 0):Addr)≠(aD b 0):=fun a b h e=>h (congrArg Addr.block e)
  have step:∀ (x y:Addr),(Op.equalIn (9999+1) K (.pointer (some x)) (.pointer (some y))).run Tryz.prog w=(sameAddr x y).run Tryz.prog w:=fun x y=>by
   rw [Op.equalIn]
   simp only [Sem.run_bind,run_underlying hK,Result.andThen_ok,sizeOf,typeInfo,run_program,hE,Sem.run_pure,Sem.run_map]
   simp [hj]
  have eq1:∀ (x y:Addr),(Op.equal K (.pointer (some x)) (.pointer (some y))).run Tryz.prog w=(sameAddr x y).run Tryz.prog w:=fun x y=>step x y
  rw [eq1]
  by_cases h:a=b
  ·subst h
   rw [run_sameAddr_same]
   simp
  ·rw [run_sameAddr_other w (hne a b h) ha hb]
   simp [h]
 chk:=fun w e a _=>checkKey_zero _ e 9999 K _ w hK rfl
 same:=fun a=>by simp [ptrV,Instr.sameBits]
theorem Tryz.info282:(Tryz.prog.info? 282).map (fun i=>(i.zero,i.size,i.bytes))=some (some (.agg #[.bool false,.slice none 0 0]),2,32):=by kernel_rfl
theorem node_law:KeyLaw Tryz.prog 279 ptrV cellsAt:=by
 obtain ⟨i,hi,_,hs,_⟩:=info_parts Tryz.info282
 exact ptr_law Tryz.underlying279 hi (by rw [hs]; decide)
theorem str_law:KeyLaw Tryz.prog 9 strV (fun _ _=>True) where
 now:=fun d hd a b=>by
  right
  rw [Tryz.underlying9] at hd
  cases hd
  unfold strV
  show some (_ == _)=_
  rw [beq_toListBytes]
  congr 1
  rw [Bool.eq_iff_iff]
  simp
 und:=⟨_,Tryz.underlying9⟩
 eq:=fun w a b _ _=>by
  unfold strV
  simp [go_sem,Op.equal,Op.maxDepth]
  rw [Bool.eq_iff_iff]
  simp
 chk:=fun w e a _=>checkKey_zero _ e 9999 _ _ w Tryz.underlying9 rfl
 same:=fun a=>by
  unfold strV
  have h:(({ data:=a.toArray }:ByteArray) == { data:=a.toArray })=true:=by rw [beq_toListBytes]; simp
  simp [Instr.sameBits,h]
end Go.Proofs.Ts
namespace Go.Proofs.Ts
open Go Go.RowKit
def Lies (w w':World) (v v':Value):Prop :=
 (v'.ownBlock=v.ownBlock∧w'.heap.size=w.heap.size)∨(v'.ownBlock=some w.heap.size∧w.grownBy w' none∧w'.heap.size=w.heap.size+1)
section
variable {P:Program} {w:World}
theorem run_append_lies (t ty e:TypeId) (i:TypeInfo) (z:Value) (size bytes:Nat) (ht:P.underlying t=some (.slice e)) (hi:P.info? e=some i) (hz:i.zero=some z)
  (hsize:i.size=size) (hby:i.bytes=bytes) (hzs:z.cells.size=size) (hsz:0 < size)
  (v:Value) (n:Nat) (xs:List Value) (hown:w.ownsRow 0 e size v n xs)
  (a:Addr) (m c:Nat) (news:List Value) (hl:news.length=m * size) (hnews:∀ j u,news[j]?=some u→w.cell? (a.add j)=some u) (h1:∀ u∈news,u.oneCell'=true)
  (hm:0 < m) (h63:n+m≤maxLen) (hbytes:(n+m) * bytes≤140737488355328) :
  ∃ v' w',(Builtin.append_ #[t,t] ty #[v,.slice (some a) m c]).run P w = .ok v' w'∧w'.ownsRow 0 e size v' (n+m) (xs++news)∧w.grownBy w' v.ownBlock∧Lies w w' v v':=by
 subst hsize
 subst hby
 have hsmall:n+m≤9223372036854775807:=by simp only [maxLen] at h63; omega
 have hlen:(xs++news).length=(n+m) * i.size:=by rw [List.length_append,hown.1,hl,Nat.add_mul]
 have grown:∀ (old:Nat),old < n+m →
   (w.drew.alloc (.cells (xs.toArray++news.toArray++Builtin.zeroCells z.cells (grownCap w (n+m) old e - (n+m))) e)).ownsRow 0 e i.size
    (sL w.heap.size (n+m) (grownCap w (n+m) old e)) (n+m) (xs++news):=by
  intro old ho
  have hge:=grownCap_ge w (n+m) old e
  have hcm:grownCap w (n+m) old e≤maxLen:=grownCap_le_maxLen w (n+m) old e h63
  refine ⟨hlen,.inr ⟨w.heap.size,_,_,rfl,Nat.zero_le _,heap_alloc_new w.drew _,hge,hcm,?_,?_⟩⟩
  ·simp only [Array.size_append,List.size_toArray,size_zeroCells,hzs,hown.1,hl,← Nat.add_mul]
   congr 1
   omega
  ·simp only [Array.toList_append,List.append_assoc]
   rw [← List.append_assoc,← hlen]
   exact List.take_left
 have gb:∀ (o:Obj) (row:Option Nat),w.grownBy (w.drew.alloc o) row:=fun o row=>⟨rfl,rfl,rfl,by simp,fun k hk _=>Below.heap_alloc w.drew _ k hk⟩
 rcases hown.2 with ⟨rfl,rfl⟩ | ⟨g,cap,cur,rfl,hbg,hg,hnc,hcm,hcs,htake⟩
 ·have hx:xs=[]:=List.eq_nil_of_length_eq_zero (by simpa using hown.1)
  subst hx
  have hr:=run_append_nil (P:=P) w t ty e i z ht hi hz a m c news hl hnews (by omega) (by omega) (by have hb:=hbytes; simp only [Nat.zero_add] at hb; omega)
  have hgr:=grown 0 (by omega)
  simp only [Nat.zero_add,List.nil_append,Array.empty_append] at hgr ⊢
  exact ⟨_,_,hr,hgr,gb _ _,.inr ⟨rfl,gb _ _,by simp⟩⟩
 ·by_cases hroom:n+m≤cap
  ·have hfit:n * i.size+news.length≤cur.size:=by rw [hl,hcs,← Nat.add_mul]; exact Nat.mul_le_mul_right _ hroom
   have hr:=run_append_room (P:=P) w t ty e i ht hi g n cap cur hg a m c news hl hnews h1 hroom hfit
   refine ⟨_,_,hr,⟨hlen,.inr ⟨g,cap,_,rfl,hbg,setRow_heap w g cur _ e _ hg,hroom,hcm,?_,?_⟩⟩,⟨rfl,rfl,rfl,by simp,fun k _ hk=>setRow_other w g k _ (fun e=>hk (by simp [Value.ownBlock,e]))⟩,.inl ⟨rfl,by simp⟩⟩
   ·simp only [List.size_toArray,List.length_append,List.length_take,List.length_drop,Array.length_toList]
    omega
   ·rw [htake,← hlen]
    exact List.take_left
  ·have holds:∀ j u,xs[j]?=some u→w.cell? (((aD g 0):Addr).add j)=some u:=hown.cells (g:=g) rfl
   have hr:=run_append_grow (P:=P) w t ty e i z ht hi hz (aD g 0) n cap xs hown.1 holds a m c news hl hnews (by omega) (by omega) (growslice_fits (by omega) hbytes)
   exact ⟨_,_,hr,grown cap (by omega),gb _ _,.inr ⟨rfl,gb _ _,by simp⟩⟩
theorem wpList_append_lies {ops:Array Oper} {rest:List Oper} {o:Oper} {a:Act} {Q:Exit→Act→World→Prop} (hgd:o.guard=none) (s x:Operand) (t:TypeId)
  (ho:o.op = .call { callee := .builtin .append,args:=#[s,x],argTypes:=#[t,t] })
  (e:TypeId) (i:TypeInfo) (z:Value) (size bytes:Nat) (ht:P.underlying t=some (.slice e)) (hi:P.info? e=some i) (hz:i.zero=some z)
  (hsize:i.size=size) (hby:i.bytes=bytes) (hzs:z.cells.size=size) (hsz:0 < size)
  (v:Value) (n:Nat) (xs:List Value) (hs:a.eval s=v) (hown:w.ownsRow 0 e size v n xs)
  (ad:Addr) (m c:Nat) (news:List Value) (hx:a.eval x = .slice (some ad) m c) (hl:news.length=m * size) (hnews:∀ j u,news[j]?=some u→w.cell? (ad.add j)=some u) (h1:∀ u∈news,u.oneCell'=true)
  (hm:0 < m) (h63:n+m≤maxLen) (hbytes:(n+m) * bytes≤140737488355328)
  (h:∀ v' w',w'.ownsRow 0 e size v' (n+m) (xs++news)→w.grownBy w' v.ownBlock→Lies w w' v v'→wpList P ops Q rest (a.put o.dst v') w'):wpList P ops Q (o :: rest) a w:=by
 refine wpList_plain hgd fun K hK=>?_
 obtain ⟨v',w',hr,h2,h3,h4⟩:=run_append_lies (P:=P) t o.type e i z size bytes ht hi hz hsize hby hzs hsz v n xs hown ad m c news hl hnews h1 hm h63 hbytes
 unfold Oper.wp execOp
 simp only [ho,resolve,invoke,builtin,Sem.run_bind,Sem.run_pure,Result.andThen_ok,List.map_toArray,List.map_cons,List.map_nil,hs,hx,hr]
 exact hK _ _ (h v' w' h2 h3 h4)
end
theorem wp_append_lies {P:Program} {w:World} {o:Oper} {a:Act} {K:Act→World→Prop} {Q:Exit→Act→World→Prop} (s x:Operand) (t:TypeId)
  (ho:o.op = .call { callee := .builtin .append,args:=#[s,x],argTypes:=#[t,t] })
  (e:TypeId) (i:TypeInfo) (z:Value) (size bytes:Nat) (ht:P.underlying t=some (.slice e)) (hi:P.info? e=some i) (hz:i.zero=some z)
  (hsize:i.size=size) (hby:i.bytes=bytes) (hzs:z.cells.size=size) (hsz:0 < size)
  (v:Value) (n:Nat) (xs:List Value) (hs:a.eval s=v) (hown:w.ownsRow 0 e size v n xs)
  (ad:Addr) (m c:Nat) (news:List Value) (hx:a.eval x = .slice (some ad) m c) (hl:news.length=m * size) (hnews:∀ j u,news[j]?=some u→w.cell? (ad.add j)=some u) (h1:∀ u∈news,u.oneCell'=true)
  (hm:0 < m) (h63:n+m≤maxLen) (hbytes:(n+m) * bytes≤140737488355328)
  (h:∀ v' w',w'.ownsRow 0 e size v' (n+m) (xs++news)→w.grownBy w' v.ownBlock→Lies w w' v v'→K (a.put o.dst v') w'):o.wp P a w K Q:=by
 obtain ⟨v',w',hr,h2,h3,h4⟩:=run_append_lies (P:=P) t o.type e i z size bytes ht hi hz hsize hby hzs hsz v n xs hown ad m c news hl hnews h1 hm h63 hbytes
 unfold Oper.wp execOp
 simp only [ho,resolve,invoke,builtin,Sem.run_bind,Sem.run_pure,Result.andThen_ok,List.map_toArray,List.map_cons,List.map_nil,hs,hx,hr]
 exact h v' w' h2 h3 h4
structure Moves (w:World) (v:Value) (w':World) (v':Value):Prop where
 grown:w.grownBy w' v.ownBlock
 lies:v'.ownBlock=v.ownBlock ∨ ∃ g,v'.ownBlock=some g∧w.heap.size≤g
theorem Moves.refl (w:World) (v:Value):Moves w v w v:=⟨World.grownBy.refl _ _,.inl rfl⟩
theorem Moves.alloc (w:World) (v:Value) (o:Obj):Moves w v (w.alloc o) v:=⟨World.grownBy_alloc _ _ _,.inl rfl⟩
theorem Moves.same {w w':World} (v:Value) (h:Same w w'):Moves w v w' v:=by
 obtain ⟨n,rfl⟩:=h
 exact ⟨⟨rfl,rfl,rfl,Nat.le_refl _,fun _ _ _=>rfl⟩,.inl rfl⟩
theorem Moves.append {w w':World} {v v':Value} (h:w.grownBy w' v.ownBlock) (hl:Lies w w' v v'):Moves w v w' v':=by
 refine ⟨h,?_⟩
 rcases hl with ⟨h1,_⟩ | ⟨h1,_⟩
 ·exact .inl h1
 ·exact .inr ⟨_,h1,Nat.le_refl _⟩
theorem Moves.trans {a b c:World} {u v x:Value} (h:Moves a u b v) (k:Moves b v c x):Moves a u c x:=by
 obtain ⟨g1,l1⟩:=h
 obtain ⟨g2,l2⟩:=k
 refine ⟨⟨g2.os.trans g1.os,g2.tape.trans g1.tape,g2.output.trans g1.output,Nat.le_trans g1.size g2.size,fun j hj hn=>?_⟩,?_⟩
 ·refine (g2.block j (Nat.lt_of_lt_of_le hj g1.size) ?_).trans (g1.block j hj hn)
  rcases l1 with l1 | ⟨g,l1,hg⟩
  ·rw [l1]; exact hn
  ·rw [l1]; intro e; cases e; omega
 ·rcases l2 with l2 | ⟨g,l2,hg⟩
  ·rw [l2]; exact l1
  ·exact .inr ⟨g,l2,Nat.le_trans g1.size hg⟩
theorem Moves.block {a b:World} {u v:Value} (h:Moves a u b v) {j:Nat} (hj:j < a.heap.size) (hn:u.ownBlock≠some j):b.heap[j]?=a.heap[j]?:=h.grown.block j hj (Ne.symm hn)
theorem Moves.size {a b:World} {u v:Value} (h:Moves a u b v):a.heap.size≤b.heap.size:=h.grown.size
def Past (B:Nat) (v:Value):Prop:=∀ k,v.ownBlock=some k→B≤k
theorem Moves.past {B:Nat} {a b:World} {u v:Value} (h:Moves a u b v) (hp:Past B u) (hB:B≤a.heap.size):Past B v:=by
 intro k hk
 rcases h.lies with h1 | ⟨g,h1,hg⟩
 ·exact hp k (h1 ▸ hk)
 ·rw [h1] at hk; cases hk; omega
theorem Moves.below {B:Nat} {z a b:World} {u v:Value} (h:Moves a u b v) (hp:Past B u) (hb:Below B z a) (hB:B≤a.heap.size):Below B z b:=hb.grown h.grown hB hp
theorem ownsRow_head {w:World} {B e size n:Nat} {v:Value} {xs:List Value} (h:w.ownsRow B e size v (n+1) xs):∃ g cap,v=sL g (n+1) cap:=by
 rcases h.2 with ⟨_,h0⟩ | ⟨g,cap,cur,rfl,_⟩
 ·cases h0
 ·exact ⟨g,cap,rfl⟩
theorem ownsRow_form {w:World} {B e size n:Nat} {v:Value} {xs:List Value} (h:w.ownsRow B e size v n xs):∃ a cap,v = .slice a n cap:=by
 rcases h.2 with ⟨rfl,rfl⟩ | ⟨g,cap,cur,rfl,_⟩
 ·exact ⟨_,_,rfl⟩
 ·exact ⟨_,cap,rfl⟩
theorem ownsRow_zero {w:World} {B e size n:Nat} {v:Value} {xs:List Value} (h:w.ownsRow B e size v n xs):w.ownsRow 0 e size v n xs:=by
 refine ⟨h.1,?_⟩
 rcases h.2 with h0 | ⟨g,cap,cur,h1,_,h2⟩
 ·exact .inl h0
 ·exact .inr ⟨g,cap,cur,h1,Nat.zero_le _,h2⟩
theorem ownsRow_block {w w':World} {B e size n:Nat} {v:Value} {xs:List Value} (h:w.ownsRow B e size v n xs) (hb:∀ k,v.ownBlock=some k→w'.heap[k]?=w.heap[k]?):w'.ownsRow B e size v n xs:=by
 refine ⟨h.1,?_⟩
 rcases h.2 with h0 | ⟨g,cap,cur,h1,h2,h3,h4⟩
 ·exact .inl h0
 ·subst h1
  exact .inr ⟨g,cap,cur,rfl,h2,(hb g rfl).trans h3,h4⟩
end Go.Proofs.Ts
namespace Go.Proofs.Ts
open Go Go.RowKit
def vintF:Nat→Nat→List Nat
 | 0,n=>[n % 256]
 | f+1,n=>if 128≤n then (n % 128+128) :: vintF f (n / 128) else [n]
def vint (n:Nat):List Nat:=vintF n n
def byteV (b:Nat):Value := .int .u8 (b:Int)
theorem vintF_fuel:∀ (f g n:Nat),n≤f→n≤g→vintF f n=vintF g n
 | 0,0,_,_,_=>rfl
 | 0,g+1,n,h,_=>by
  obtain rfl:n=0:=by omega
  simp [vintF]
 | f+1,0,n,_,h=>by
  obtain rfl:n=0:=by omega
  simp [vintF]
 | f+1,g+1,n,h1,h2=>by
  unfold vintF
  split
  ·rw [vintF_fuel f g (n / 128) (by omega) (by omega)]
  ·rfl
theorem vint_big {n:Nat} (h:128≤n):vint n=(n % 128+128) :: vint (n / 128):=by
 unfold vint
 obtain ⟨m,rfl⟩:∃ m,n=m+1:=⟨n - 1,by omega⟩
 conv=>lhs; unfold vintF
 rw [if_pos h,vintF_fuel m ((m+1) / 128) _ (by omega) (Nat.le_refl _)]
theorem vint_small {n:Nat} (h:n < 128):vint n=[n]:=by
 unfold vint
 cases n with
 | zero=>rfl
 | succ m=>unfold vintF; rw [if_neg (by omega)]
theorem Tryz.tsInfo5:(Tryz.prog.info? 5).map (fun i=>(i.zero,i.size,i.bytes))=some (some (.int .u8 0),1,1):=by kernel_rfl
theorem or128:∀ x:Fin 256,x.val ||| 128=x.val % 128+128:=by decide +kernel
theorem byte_or (m:Nat):bits BinOp.or IntKind.u8 ((m:Int) % 256) 128=((m % 128+128:Nat):Int):=by
 have h:=u8_or_nat (m % 256) 128 (by omega) (by omega)
 have e:((m % 256:Nat):Int)=(m:Int) % 256:=by omega
 rw [e] at h
 rw [show ((128:Nat):Int)=128 from rfl] at h
 rw [h,or128 ⟨m % 256,by omega⟩]
 show ((m % 256 % 128+128:Nat):Int)=_
 rw [Nat.mod_mod_of_dvd m (by decide:128 ∣ 256)]
set_option maxRecDepth 100000 in
set_option maxHeartbeats 1000000 in
theorem put_any (v:Value) (l:Nat) (xs:List Value) (n:Nat) (w:World) (hn:n < 1000000) (hl:l≤8000000) (hown:w.ownsRow 0 5 1 v l xs) :
  Calls Tryz.prog 79 #[v,iV n] w fun e w'=>∃ v',e = .returned v'∧w'.ownsRow 0 5 1 v' (l+(vint n).length) (xs++(vint n).map byteV)∧Moves w v w' v':=by
 obtain ⟨i0,hi,hz0,hz1,hz2⟩:=info_parts Tryz.tsInfo5
 go_enter Tryz.func79,Tryz.ntmps79
 go_wp2
 go_loopw [0,1] (fun s i wr=>∃ (m k:Nat) (ys:List Value),m < 1000000∧m+k≤n∧i = .int .i64 m∧Hid (ys++(vint m).map byteV=xs++(vint n).map byteV∧k+(vint m).length=(vint n).length)∧wr.ownsRow 0 5 1 s (l+k) ys∧Moves w v wr s) (fun _ i _=>(intOf i).toNat)
 case atStart=>exact ⟨n,0,xs,hn,by omega,rfl,⟨rfl,by omega⟩,hown,Moves.refl _ _⟩
 case round =>
  obtain ⟨m,k,ys,hm,hmk,rfl,HE,hrow,hmv⟩:=hrel
  have hmax:l+k+1≤maxLen:=by unfold maxLen; omega
  have hbytes:(l+k+1) * 1≤140737488355328:=by omega
  by_cases h128:128≤m
  ·have HV:=Lib.hid (vint_big h128)
   have HO:=Lib.hid (byte_or m)
   go_wp2_with (at_builtin; refine wpList_append_lies rfl _ _ 42 rfl 5 i0 (.int .u8 0) 1 1 Tryz.underlying42 hi hz0 hz1 hz2 rfl (by decide) _ _ _ rfl (hrow.alloc _) (aD wr.heap.size 0) 1 1 [.int .u8 (bits BinOp.or IntKind.u8 ((m:Int) % 256) 128)] rfl rfl ?c1 ?c2 (by decide) hmax hbytes ?_)
   case c1=>exact cell_one_new _ _ _
   case c2=>simp [Value.oneCell']
   intro v' w1 hown' hgrow hlies
   have hmv':=hmv.trans ((Moves.alloc wr _ _).trans (Moves.append hgrow hlies))
   clear hlies hgrow
   go_wp2
   refine ⟨⟨m / 128,k+1,_,by omega,by omega,by go_num,?_,hown',hmv'⟩,by simp [intOf]; omega⟩
   refine ⟨?_,?_⟩
   ·have h1:=HE.1
    rw [HV] at h1
    rw [← h1,HO]
    simp [byteV]
   ·have h2:=HE.2
    rw [HV,List.length_cons] at h2
    omega
  ·have HV:=Lib.hid (vint_small (by omega:m < 128))
   go_wp2_with (at_builtin; refine wpList_append_lies rfl _ _ 42 rfl 5 i0 (.int .u8 0) 1 1 Tryz.underlying42 hi hz0 hz1 hz2 rfl (by decide) _ _ _ rfl (hrow.alloc _) (aD wr.heap.size 0) 1 1 [.int .u8 (m:Int)] rfl rfl ?c3 ?c4 (by decide) hmax hbytes ?_)
   case c3=>exact cell_one_new _ _ _
   case c4=>simp [Value.oneCell']
   intro v' w1 hown' hgrow hlies
   have hmv':=hmv.trans ((Moves.alloc wr _ _).trans (Moves.append hgrow hlies))
   clear hlies hgrow
   go_wp2
   go_ret
   obtain ⟨h1,h2⟩:=HE.out
   rw [HV] at h1 h2
   refine ⟨v',rfl,?_,hmv'⟩
   have e1:ys++[Value.int .u8 (m:Int)]=xs++(vint n).map byteV:=h1
   rw [e1,show l+k+1=l+(vint n).length by simp at h2; omega] at hown'
   exact hown'
theorem vint_length {n:Nat} (h:n < 1000000):(vint n).length≤3:=by
 rcases Nat.lt_or_ge n 128 with h1 | h1
 ·rw [vint_small h1]; simp
 ·rw [vint_big h1,List.length_cons]
  rcases Nat.lt_or_ge (n / 128) 128 with h2 | h2
  ·rw [vint_small h2]; simp
  ·rw [vint_big h2,List.length_cons,vint_small (by omega)]; simp
theorem vint_lt {n:Nat} (h:n < 1000000):∀ b∈vint n,b < 256:=by
 have small:∀ m,m < 128 → ∀ b∈vint m,b < 256:=fun m hm b hb=>by rw [vint_small hm] at hb; simp at hb; omega
 have big:∀ m,128≤m→(∀ b∈vint (m / 128),b < 256) → ∀ b∈vint m,b < 256:=fun m hm ih b hb=>by
  rw [vint_big hm] at hb
  rcases List.mem_cons.1 hb with rfl | hb
  ·omega
  ·exact ih b hb
 rcases Nat.lt_or_ge n 128 with h1 | h1
 ·exact small n h1
 ·refine big n h1 ?_
  rcases Nat.lt_or_ge (n / 128) 128 with h2 | h2
  ·exact small _ h2
  ·exact big _ h2 (small _ (by omega))
end Go.Proofs.Ts
namespace Go.Proofs.Ts
open Go Go.RowKit
structure Nd where
 final:Bool
 edges:List (UInt8 × Nat)
 v:Value
def edgeCells (es:List (UInt8 × Nat)):List Value:=es.flatMap fun p=>[.int .u8 p.1.toNat,ptrV p.2]
theorem edgeCells_length (es:List (UInt8 × Nat)):(edgeCells es).length=es.length * 2:=by
 induction es with
 | nil=>rfl
 | cons p r ih=>simp [edgeCells,List.flatMap_cons] at ih ⊢; omega
theorem edgeCells_append (a b:List (UInt8 × Nat)):edgeCells (a++b)=edgeCells a++edgeCells b:=by simp [edgeCells]
theorem edgeCells_at:∀ (es:List (UInt8 × Nat)) (i:Nat) (p:UInt8 × Nat),es[i]?=some p→(edgeCells es)[i * 2]?=some (.int .u8 p.1.toNat)∧(edgeCells es)[i * 2+1]?=some (ptrV p.2)
 | [],i,p,h=>by simp at h
 | y :: t,0,p,h=>by simp at h; subst h; simp [edgeCells]
 | y :: t,i+1,p,h=>by
  have ih:=edgeCells_at t i p (by simpa using h)
  have e:edgeCells (y :: t) = .int .u8 y.1.toNat :: ptrV y.2 :: edgeCells t:=by simp [edgeCells]
  rw [e,show (i+1) * 2=i * 2+1+1 by omega,show i * 2+1+1+1=(i * 2+1)+1+1 by omega]
  simpa using ih
abbrev Graph:=Nat→Option Nd
def upd (G:Graph) (b:Nat) (nd:Nd):Graph:=fun k=>if k=b then some nd else G k
structure NodesIn (B:Nat) (w:World) (G:Graph):Prop where
 ge:∀ b nd,G b=some nd→B≤b∧Past B nd.v
 node:∀ b nd,G b=some nd→w.heap[b]?=some (.cells #[.bool nd.final,nd.v] 282 (0,0))
 row:∀ b nd,G b=some nd→w.ownsRow 0 284 2 nd.v nd.edges.length (edgeCells nd.edges)
 apart:∀ b b' nd nd' g,b≠b'→G b=some nd→G b'=some nd'→nd.v.ownBlock=some g→nd'.v.ownBlock≠some g
structure St where
 G:Graph
 kn:List (Shape × Nat)
 ids:List (Nat × Nat)
def intV (n:Nat):Value := .int .i64 n
def vals {α β:Type} (f:β→Value) (m:List (α × β)):List (α × Value):=m.map fun p=>(p.1,f p.2)
theorem get_vals {α β:Type} [DecidableEq α] (f:β→Value) (m:List (α × β)) (k:α):get (vals f m) k=(get m k).map f:=by
 induction m with
 | nil=>rfl
 | cons p r ih =>
  unfold vals at *
  simp only [List.map_cons,get]
  split
  ·rfl
  ·exact ih
theorem put_vals {α β:Type} [DecidableEq α] (f:β→Value) (m:List (α × β)) (k:α) (v:β):put (vals f m) k (f v)=vals f (put m k v):=by
 induction m with
 | nil=>rfl
 | cons p r ih =>
  unfold vals at *
  simp only [List.map_cons,put]
  split
  ·rfl
  ·rw [ih]; rfl
structure StIn (B bb kb ib:Nat) (w:World) (s:St):Prop where
 nodes:NodesIn B w s.G
 bb_ge:B≤bb
 kb_ge:B≤kb
 ib_ge:B≤ib
 ne:kb≠ib
 bld:w.heap[bb]?=some (.cells #[.map (some kb),.map (some ib)] 278 (0,0))
 kn:MapIs shapeV w kb (vals ptrV s.kn)
 ids:MapIs ptrV w ib (vals intV s.ids)
 idsIn:∀ p∈s.ids,(s.G p.1).isSome
 knIn:∀ p∈s.kn,(s.G p.2).isSome
 toIn:∀ b nd,s.G b=some nd → ∀ p∈nd.edges,(s.G p.2).isSome
def idOf (ids:List (Nat × Nat)) (t:Nat):Nat:=(get ids t).getD 0
def edgeText (ids:List (Nat × Nat)) (es:List (UInt8 × Nat)):List UInt8:=es.flatMap fun p=>p.1 :: (vint (idOf ids p.2)).map UInt8.ofNat
def shapeOf (ids:List (Nat × Nat)) (nd:Nd):Shape:=(nd.final,edgeText ids nd.edges)
def hook (s:St) (n t:Nat) (ndn ndt:Nd):St :=
 match get s.kn (shapeOf s.ids ndt) with
 | some m=>{ s with G:=upd s.G n { ndn with edges:=ndn.edges.dropLast++[((ndn.edges.getLast?.map (·.1)).getD 0,m)] } }
 | none=>{ s with kn:=put s.kn (shapeOf s.ids ndt) t,ids:=put s.ids t s.ids.length }
def settleP:List Nat→St→Nat→St
 | [],s,_=>s
 | t :: ts,s,n =>
  match (settleP ts s t).G t,(settleP ts s t).G n with
  | some ndt,some ndn=>hook (settleP ts s t) n t ndn ndt
  | _,_=>settleP ts s t
theorem hook_other {s:St} {n t k:Nat} {ndn ndt:Nd} (h:k≠n):(hook s n t ndn ndt).G k=s.G k:=by
 unfold hook
 split
 ·simp [upd,h]
 ·rfl
theorem hook_dom {s:St} {n t k:Nat} {ndn ndt:Nd} (h:(s.G k).isSome):((hook s n t ndn ndt).G k).isSome:=by
 unfold hook
 split
 ·simp only [upd]
  split
  ·rfl
  ·exact h
 ·exact h
theorem settleP_cons {ts:List Nat} {s:St} {n t:Nat} {ndn ndt:Nd} (h1:(settleP ts s t).G t=some ndt) (h2:(settleP ts s t).G n=some ndn) :
  settleP (t :: ts) s n=hook (settleP ts s t) n t ndn ndt:=by
 conv=>lhs; unfold settleP
 rw [h1,h2]
theorem settleP_other:∀ (ts:List Nat) (s:St) (t n:Nat),n≠t → ¬ n∈ts→(settleP ts s t).G n=s.G n
 | [],s,t,n,_,_=>rfl
 | u :: us,s,t,n,h1,h2=>by
  simp only [List.mem_cons,not_or] at h2
  have ih:=settleP_other us s u n h2.1 h2.2
  unfold settleP
  split
  ·rw [hook_other h1]; exact ih
  ·exact ih
theorem settleP_dom:∀ (ts:List Nat) (s:St) (t k:Nat),(s.G k).isSome→((settleP ts s t).G k).isSome
 | [],s,t,k,h=>h
 | u :: us,s,t,k,h=>by
  have ih:=settleP_dom us s u k h
  unfold settleP
  split
  ·exact hook_dom ih
  ·exact ih
def Way (s:St):Nat→List Nat→Prop
 | n,[]=>∃ nd,s.G n=some nd∧nd.edges=[]
 | n,t :: ts=>(∃ nd c es,s.G n=some nd∧nd.edges=es++[(c,t)])∧get s.ids t=none∧t≠n ∧ ¬ n∈ts∧Way s t ts
end Go.Proofs.Ts
namespace Go.Proofs.Ts
open Go Go.RowKit
section
variable {P:Program} {ops:Array Oper} {S:World→Prop} {Q:Exit→Act→World→Prop}
def wpOrd (P:Program) (l:List Oper) (S:World→Prop) (x:Nat) (Q:Act→World→Prop):List (Nat × Bool)→Act→World→Prop
 | [],a,w=>Q a w
 | (i,true) :: rest,a,w =>
  match l[i]? with
  | none=>False
  | some o=>if Region.wanted o (yielded l.toArray a.tmps) then o.wp P a w (fun a' w'=>(i≠x→S w')∧((i=x→rest=[])∧wpOrd P l S x Q rest a' w')) (NoPanic fun _ _ _=>False) else wpOrd P l S x Q rest (a.put o.dst undef) w
 | (i,false) :: rest,a,w =>
  match l[i]? with
  | none=>False
  | some o=>∃ v,YieldsIf P l.toArray S o v a∧wpOrd P l S x Q rest (a.put o.dst v) w
def ordB (ops:Array Oper):List (Nat × Bool)→Array Bool→Bool
 | [],listed=>Region.ready .any ops listed == []
 | (i,true) :: rest,listed=>Region.ready .any ops listed == [i] && ordB ops rest (listed.setIfInBounds i true)
 | (i,false) :: rest,listed=>(Region.ready .any ops listed).contains i && Region.free .any ops listed i && ordB ops rest (listed.setIfInBounds i true)
def waitsB (ops:Array Oper) (x i:Nat):Bool :=
 match ops[x]? with
 | none=>true
 | some o=>o.after.any fun e=>Region.binds .any e && e.on == i
def anyX (P:Program) (ops:Array Oper) (Q:Exit→Act→World→Prop) (S:World→Prop) (x:Nat):Nat→Array Bool→Act→World→Prop
 | 0,listed,a,w=>Region.ready .any ops listed=[]∧Q .normal a w
 | n+1,listed,a,w =>
  (Region.ready .any ops listed=[]→Q .normal a w) ∧
  ∀ i∈Region.ready .any ops listed,wpOp P ops Q i (fun a' w'=>(i≠x→S w')∧anyX P ops Q S x n (listed.setIfInBounds i true) a' w') a w
theorem wpAny_of_anyX {x:Nat}:∀ (n:Nat) (listed:Array Bool) (a:Act) (w:World),anyX P ops Q S x n listed a w→wpAny P .any ops Q n listed a w
 | 0,_,_,_,h=>h
 | n+1,_,_,_,h=>⟨h.1,fun i hi=>wpOp_mono (fun a' w' h'=>wpAny_of_anyX n _ a' w' h'.2) (h.2 i hi)⟩
theorem waitsB_listed {x i:Nat} (h:waitsB ops x i=true) {listed:Array Bool} (hx:x∈Region.ready .any ops listed):listed.getD i false=true:=by
 obtain ⟨_,o,ho,hall⟩:=mem_ready.1 hx
 unfold waitsB at h
 rw [ho] at h
 obtain ⟨e,he,hb⟩:=Array.any_eq_true'.1 h
 simp only [Bool.and_eq_true,beq_iff_eq] at hb
 rw [← hb.2]
 exact hall e he hb.1
theorem unlisted_of_ready {i:Nat} {listed:Array Bool} (h:i∈Region.ready .any ops listed):listed.getD i false=false:=by
 have:=(mem_ready.1 h).1
 rcases Nat.lt_or_ge i listed.size with h' | h'
 ·simp [h'] at this ⊢; exact this
 ·simp [Array.getElem?_eq_none h'] at this
theorem anyX_first {x i:Nat} {oi:Oper} {v:Value} (hx:waitsB ops x i=true) (hi:ops[i]?=some oi) (hsel:Region.noSelect ops=true)
  (hQ:∀ c a w,Q (.panic c) (a.put oi.dst v) w→Q (.panic c) a w) :
  ∀ (n:Nat) (listed:Array Bool) (a:Act) (w:World),
   (∀ j oj,ops[j]?=some oj→j≠i→listed.getD j true=false→(∀ e∈oj.after,Region.binds .any e=true→e.on≠i)→oi.apart ops oj=true) →
   i∈Region.ready .any ops listed→YieldsIf P ops S oi v a→S w →
   anyX P ops Q S x n (listed.setIfInBounds i true) (a.put oi.dst v) w→anyX P ops Q S x (n+1) listed a w:=by
 intro n
 induction n with
 | zero =>
  intro listed a w _ hr hy hS H
  refine ⟨fun h=>(by rw [h] at hr; cases hr),fun j hj=>?_⟩
  by_cases hji:j=i
  ·subst hji; exact hy.wpOp hi hS ⟨fun _=>hS,H⟩
  ·have hc:=ready_mono hj hji
   rw [H.1] at hc
   cases hc
 | succ n ih =>
  intro listed a w hfree hr hy hS H
  refine ⟨fun h=>(by rw [h] at hr; cases hr),fun j hj=>?_⟩
  by_cases hji:j=i
  ·subst hji; exact hy.wpOp hi hS ⟨fun _=>hS,H⟩
  ·have hjx:j≠x:=by
    rintro rfl
    have h1:=waitsB_listed hx hj
    rw [unlisted_of_ready hr] at h1
    cases h1
   have h1:=H.2 j (ready_mono hj hji)
   obtain ⟨hjun,oj,hoj,hall⟩:=mem_ready.1 hj
   have hnot:∀ e∈oj.after,Region.binds .any e=true→e.on≠i:=fun e he hb heq=>by
    have h2:=hall e he hb
    rw [heq,unlisted_of_ready hr] at h2
    cases h2
   have h2:=wpOp_putIf hoj (hfree j oj hoj hji hjun hnot) (fun cs b=>Region.noSelect_spec hsel i oi cs b hi) (fun cs b=>Region.noSelect_spec hsel j oj cs b hoj) hQ hy h1
   have hfree':∀ k ok,ops[k]?=some ok→k≠i→(listed.setIfInBounds j true).getD k true=false→(∀ e∈ok.after,Region.binds .any e=true→e.on≠i)→oi.apart ops ok=true:=fun k ok hk hki hun hno=>by
    refine hfree k ok hk hki ?_ hno
    by_cases hjk:j=k
    ·subst hjk; exact hjun
    ·rw [getD_set_ne true hjk] at hun; exact hun
   refine wpOp_mono (fun a' w' h3=>⟨fun _=>h3.2.1 hjx,ih (listed.setIfInBounds j true) a' w' hfree' (ready_mono hr (Ne.symm hji)) h3.1 (h3.2.1 hjx) ?_⟩) h2
   rw [Array.setIfInBounds_comm _ _ hji]
   exact h3.2.2
theorem anyX_of_ord {lo:List Oper} {x:Nat} (hs:Region.noSelect lo.toArray=true) {Q':Exit→Act→World→Prop} (hQ:∀ a w,Q .normal a w→Q' .normal a w) (hp:∀ c a w,¬ Q' (.panic c) a w) :
  ∀ (l:List (Nat × Bool)) (listed:Array Bool) (a:Act) (w:World),(∀ q∈l,q.2=false→waitsB lo.toArray x q.1=true) →
  ordB lo.toArray l listed=true→S w→wpOrd P lo S x (Q .normal) l a w→anyX P lo.toArray Q' S x l.length listed a w
 | [],listed,a,w,_,hB,_,h=>by
  simp only [ordB,beq_iff_eq] at hB
  exact ⟨hB,hQ _ _ h⟩
 | (i,true) :: rest,listed,a,w,hl,hB,hS,h=>by
  simp only [ordB,Bool.and_eq_true,beq_iff_eq] at hB
  obtain ⟨hr,hB'⟩:=hB
  have ih:=anyX_of_ord (x:=x) hs hQ hp rest (listed.setIfInBounds i true)
  refine ⟨fun h0=>(by rw [hr] at h0; cases h0),fun j hj=>?_⟩
  rw [hr] at hj
  obtain rfl:j=i:=by simpa using hj
  unfold wpOrd at h
  unfold wpOp
  split at h
  ·exact h.elim
  ·rename_i o ho
   have ho':lo.toArray[j]?=some o:=by simpa using ho
   simp only [ho']
   split
   ·rename_i hw
    rw [if_pos hw] at h
    refine .inl ?_
    refine Oper.wp_mono (K:=fun a' w'=>(j≠x→S w')∧((j=x→rest=[])∧wpOrd P lo S x (Q .normal) rest a' w')) (fun a' w' hh=>⟨hh.1,?_⟩) ?_
    ·by_cases hjx:j=x
     ·have:=hh.2.1 hjx
      subst this
      simp only [ordB,beq_iff_eq] at hB'
      exact ⟨hB',hQ _ _ hh.2.2⟩
     ·exact ih a' w' (fun q hq=>hl q (List.mem_cons_of_mem _ hq)) hB' (hh.1 hjx) hh.2.2
    ·unfold Oper.wp at h ⊢
     generalize (execOp a.eval o).run P w=r at *
     cases r with
     | ok n w' =>
      cases n <;> simp only [Oper.upon] at h ⊢
      case value=>exact h
      case skip=>exact h
      case defer=>exact h
      case row=>exact h
      case enter f args =>
       refine Calls.mono h fun e w'' he=>?_
       cases e with
       | returned v=>exact he
       | panicked c=>exact he.elim
       | outgrown=>obtain ⟨_,_,hx⟩:=he; exact hx.elim
      all_goals exact h
     | halt x w' =>
      cases x <;> simp only [Oper.upon] at h ⊢
      all_goals exact h.elim
   ·rename_i hw
    rw [if_neg hw] at h
    exact ⟨fun _=>hS,ih _ _ (fun q hq=>hl q (List.mem_cons_of_mem _ hq)) hB' hS h⟩
 | (i,false) :: rest,listed,a,w,hl,hB,hS,h=>by
  simp only [ordB,Bool.and_eq_true] at hB
  obtain ⟨⟨hr,hf⟩,hB'⟩:=hB
  have ih:=anyX_of_ord (x:=x) hs hQ hp rest (listed.setIfInBounds i true)
  unfold wpOrd at h
  split at h
  ·exact h.elim
  ·rename_i o ho
   obtain ⟨v,hy,hk⟩:=h
   have ho':lo.toArray[i]?=some o:=by simpa using ho
   exact anyX_first (hl (i,false) List.mem_cons_self rfl) ho' hs (fun c a w hq=>(hp _ _ _ hq).elim) rest.length listed a w (Region.free_spec ho' hf) (by simpa using hr) hy hS (ih _ _ (fun q hq=>hl q (List.mem_cons_of_mem _ hq)) hB' hS hk)
theorem wp_region_ordX {id:Nat} {a:Act} {w:World} {l:List Oper} (order:List (Nat × Bool)) (x:Nat) (S:World→Prop) (hm:P.follows .mixedOrders=true)
  (hs:(Region.noSelect l.toArray && (order.all fun q=>q.2 || waitsB l.toArray x q.1) && (order.length == l.length) && ordB l.toArray order (Array.replicate l.length false))=true) (hS:S w.drew)
  (h:wpOrd P l S x (Q .normal) order a w.drew):(Code.region id l.toArray true).wp P Q a w:=by
 simp only [Bool.and_eq_true,beq_iff_eq] at hs
 obtain ⟨⟨⟨h1,h3⟩,h4⟩,h5⟩:=hs
 have h3':∀ q∈order,q.2=false→waitsB l.toArray x q.1=true:=fun q hq hf=>by
  have:=List.all_eq_true.1 h3 q hq
  rw [hf] at this
  simpa using this
 refine wp_region_noPanic (wp_region_any hm (wpAny_of_anyX (S:=S) (x:=x) _ _ _ _ ?_))
 have:=anyX_of_ord (Q:=Q) (Q':=NoPanic Q) h1 (fun _ _ h=>h) (fun _ _ _ h=>h) order (Array.replicate l.length false) a w.drew h3' h5 hS h
 rw [h4] at this
 simpa using this
theorem wp_region_ord {id:Nat} {a:Act} {w:World} {l:List Oper} (order:List (Nat × Bool)) (S:World→Prop) (hm:P.follows .mixedOrders=true)
  (hs:(Region.noSelect l.toArray && (order.all fun q=>q.2 || waitsB l.toArray 1000 q.1) && (order.length == l.length) && ordB l.toArray order (Array.replicate l.length false))=true) (hS:S w.drew)
  (h:wpOrd P l S 1000 (Q .normal) order a w.drew):(Code.region id l.toArray true).wp P Q a w:=wp_region_ordX order 1000 S hm hs hS h
theorem wpOrd_nil {l:List Oper} {x:Nat} {Q:Act→World→Prop} {a:Act} {w:World} (h:Q a w):wpOrd P l S x Q [] a w:=h
theorem wpOrd_quiet {l:List Oper} {x:Nat} {Q:Act→World→Prop} {i:Nat} {rest:List (Nat × Bool)} {a:Act} {w:World} {o:Oper} (v:Value) (ho:l[i]?=some o) (hw:Region.wanted o (yielded l.toArray a.tmps)=true)
  (hv:∀ w',S w'→(execOp a.eval o).run P w' = .ok (.value v) w') (h:wpOrd P l S x Q rest (a.put o.dst v) w):wpOrd P l S x Q ((i,false) :: rest) a w:=by
 unfold wpOrd
 rw [ho]
 exact ⟨v,.inl ⟨hw,hv⟩,h⟩
theorem wpOrd_skip {l:List Oper} {x:Nat} {Q:Act→World→Prop} {i:Nat} {rest:List (Nat × Bool)} {a:Act} {w:World} {o:Oper} (ho:l[i]?=some o) (hw:Region.wanted o (yielded l.toArray a.tmps)=false)
  (h:wpOrd P l S x Q rest (a.put o.dst undef) w):wpOrd P l S x Q ((i,false) :: rest) a w:=by
 unfold wpOrd
 rw [ho]
 exact ⟨undef,.inr ⟨hw,rfl⟩,h⟩
theorem wpOrd_loud {l:List Oper} {x:Nat} {Q:Act→World→Prop} {i:Nat} {rest:List (Nat × Bool)} {a:Act} {w:World} {o:Oper} (ho:l[i]?=some o) (hw:Region.wanted o (yielded l.toArray a.tmps)=true)
  (hx:i≠x) (h:∀ K:Act→World→Prop,(∀ a' w',S w'→wpOrd P l S x Q rest a' w'→K a' w')→o.wp P a w K (NoPanic fun _ _ _=>False)):wpOrd P l S x Q ((i,true) :: rest) a w:=by
 unfold wpOrd
 rw [ho]
 simp only [hw,if_true]
 exact h _ fun a' w' h1 h2=>⟨fun _=>h1,fun e=>absurd e hx,h2⟩
theorem wpOrd_last {l:List Oper} {x:Nat} {Q:Act→World→Prop} {a:Act} {w:World} {o:Oper} (ho:l[x]?=some o) (hw:Region.wanted o (yielded l.toArray a.tmps)=true)
  (h:∀ K:Act→World→Prop,(∀ a' w',Q a' w'→K a' w')→o.wp P a w K (NoPanic fun _ _ _=>False)):wpOrd P l S x Q [(x,true)] a w:=by
 unfold wpOrd
 rw [ho]
 simp only [hw,if_true]
 exact h _ fun a' w' h2=>⟨fun e=>absurd rfl e,by simp,h2⟩
theorem put_lit (xs:List Value) (ds:List Deferred) (d:Nat) (v:Value):({ tmps:=xs.toArray,defers:=ds }:Act).put (some d) v={ tmps:=(xs.set d v).toArray,defers:=ds }:=by
 simp [Act.put]
end
end Go.Proofs.Ts
namespace Go.Proofs.Ts
open Go Go.RowKit
theorem StIn.nodeBlock {B bb kb ib:Nat} {w:World} {s:St} (h:StIn B bb kb ib w s) {b:Nat} {nd:Nd} (hG:s.G b=some nd):b≠bb∧b≠kb∧b≠ib:=by
 have hb:=h.nodes.node b nd hG
 refine ⟨?_,?_,?_⟩
 ·rintro rfl
  rw [h.bld] at hb
  simp at hb
 ·rintro rfl
  obtain ⟨es,c,hk,_⟩:=h.kn
  rw [hk] at hb
  cases hb
 ·rintro rfl
  obtain ⟨es,c,hk,_⟩:=h.ids
  rw [hk] at hb
  cases hb
theorem StIn.rowBlock {B bb kb ib:Nat} {w:World} {s:St} (h:StIn B bb kb ib w s) {b:Nat} {nd:Nd} (hG:s.G b=some nd) {g:Nat} (hg:nd.v.ownBlock=some g) :
  g≠bb∧g≠kb∧g≠ib ∧ ∀ b' nd',s.G b'=some nd'→g≠b':=by
 have hrow:=h.nodes.row b nd hG
 have hh:∃ cur,w.heap[g]?=some (.cells cur 284 (0,0)):=by
  rcases hrow.2 with ⟨h1,_⟩ | ⟨g',cap,cur,h1,_,h2,_⟩
  ·rw [h1] at hg; cases hg
  ·rw [h1] at hg; cases hg; exact ⟨cur,h2⟩
 obtain ⟨cur,hh⟩:=hh
 refine ⟨?_,?_,?_,?_⟩
 ·rintro rfl
  rw [h.bld] at hh
  simp at hh
 ·rintro rfl
  obtain ⟨es,c,hk,_⟩:=h.kn
  rw [hk] at hh
  cases hh
 ·rintro rfl
  obtain ⟨es,c,hk,_⟩:=h.ids
  rw [hk] at hh
  cases hh
 ·rintro b' nd' hG' rfl
  rw [h.nodes.node g nd' hG'] at hh
  simp at hh
theorem StIn.mapsApart {B bb kb ib:Nat} {w:World} {s:St} (h:StIn B bb kb ib w s):bb≠kb∧bb≠ib:=by
 refine ⟨?_,?_⟩
 ·rintro rfl
  obtain ⟨es,c,hk,_⟩:=h.kn
  rw [h.bld] at hk
  cases hk
 ·rintro rfl
  obtain ⟨es,c,hk,_⟩:=h.ids
  rw [h.bld] at hk
  cases hk
theorem edgeCells_set (es:List (UInt8 × Nat)) (c:UInt8) (t m:Nat):(edgeCells (es++[(c,t)])).set (es.length * 2+1) (ptrV m)=edgeCells (es++[(c,m)]):=by
 rw [edgeCells_append,edgeCells_append,List.set_append_right _ _ (by rw [edgeCells_length]; omega),edgeCells_length]
 simp [edgeCells]
theorem StIn.relink {B bb kb ib:Nat} {w:World} {s:St} (h:StIn B bb kb ib w s) {n g cap t m:Nat} {c:UInt8} {es:List (UInt8 × Nat)} {nd:Nd} (hG:s.G n=some nd) (he:nd.edges=es++[(c,t)])
  (hv:nd.v=sL g (es.length+1) cap) (hm:(s.G m).isSome) :
  StIn B bb kb ib (w.setCell (aD g (es.length * 2+1)) (ptrV m)) { s with G:=upd s.G n { nd with edges:=es++[(c,m)] } }:=by
 have hgo:nd.v.ownBlock=some g:=by rw [hv]; rfl
 obtain ⟨n1,n2,n3,n4⟩:=h.rowBlock hG hgo
 have hsame:∀ k,k≠g→(w.setCell (aD g (es.length * 2+1)) (ptrV m)).heap[k]?=w.heap[k]?:=fun k hk=>Below.heap_setCell w _ _ k hk
 have hdom:∀ k,(s.G k).isSome→((upd s.G n { nd with edges:=es++[(c,m)] }) k).isSome:=fun k hk=>by
  unfold upd
  split
  ·rfl
  ·exact hk
 refine ⟨⟨fun b nd' hb=>?_,fun b nd' hb=>?_,fun b nd' hb=>?_,fun b b' x x' g' hne hb hb' hx=>?_⟩,h.bb_ge,h.kb_ge,h.ib_ge,h.ne,(hsame bb (Ne.symm n1)).trans h.bld,h.kn.of_block (hsame kb (Ne.symm n2)),
  h.ids.of_block (hsame ib (Ne.symm n3)),fun p hp=>hdom _ (h.idsIn p hp),fun p hp=>hdom _ (h.knIn p hp),fun b nd' hb p hp=>?_⟩
 ·simp only [upd] at hb
  split at hb
  ·rename_i e
   cases hb
   exact h.nodes.ge n nd hG |> fun x=>by rw [e]; exact x
  ·exact h.nodes.ge b nd' hb
 ·simp only [upd] at hb
  split at hb
  ·rename_i e
   cases hb
   rw [hsame b (by rw [e]; exact Ne.symm (n4 n nd hG)),e]
   exact h.nodes.node n nd hG
  ·rw [hsame b (Ne.symm (n4 b nd' hb))]
   exact h.nodes.node b nd' hb
 ·simp only [upd] at hb
  split at hb
  ·rename_i e
   cases hb
   have hr:=h.nodes.row n nd hG
   rw [he,hv] at hr
   simp only [List.length_append,List.length_cons,List.length_nil,Nat.zero_add] at hr ⊢
   have:=(hr.stored (es.length * 2+1) (ptrV m)).1
   rw [edgeCells_set] at this
   rw [hv]
   exact this
  ·rename_i e
   refine ownsRow_block (h.nodes.row b nd' hb) fun k hk=>hsame k ?_
   rintro rfl
   exact h.nodes.apart n b nd nd' k (Ne.symm e) hG hb hgo hk
 ·simp only [upd] at hb hb'
  split at hb <;> split at hb'
  ·rename_i e1 e2
   exact absurd (e1.trans e2.symm) hne
  ·rename_i e1 e2
   cases hb
   exact h.nodes.apart n b' nd x' g' (by rw [← e1]; exact hne) hG hb' hx
  ·rename_i e1 e2
   cases hb'
   exact h.nodes.apart b n x nd g' (by rw [← e2]; exact hne) hb hG hx
  ·exact h.nodes.apart b b' x x' g' hne hb hb' hx
 ·refine hdom _ ?_
  simp only [upd] at hb
  split at hb
  ·cases hb
   rcases List.mem_append.1 hp with hp | hp
   ·exact h.toIn n nd hG p (by rw [he]; exact List.mem_append_left _ hp)
   ·simp at hp
    subst hp
    exact hm
  ·exact h.toIn b nd' hb p hp
theorem StIn.learn {B bb kb ib:Nat} {w w':World} {s:St} (h:StIn B bb kb ib w s) {k:Shape} {t:Nat} (ht:(s.G t).isSome) (hg:w.grownBy w' (some kb)) (hm:MapIs shapeV w' kb (put (vals ptrV s.kn) k (ptrV t))) :
  StIn B bb kb ib w' { s with kn:=put s.kn k t }:=by
 obtain ⟨a1,a2⟩:=h.mapsApart
 rw [put_vals] at hm
 have lt:∀ {x:Nat} {o:Obj},w.heap[x]?=some o→x < w.heap.size:=fun hx=>(Array.getElem?_eq_some_iff.1 hx).1
 refine ⟨⟨h.nodes.ge,fun b nd hb=>?_,fun b nd hb=>?_,h.nodes.apart⟩,h.bb_ge,h.kb_ge,h.ib_ge,h.ne,?_,hm,h.ids.of_block (hg.block ib h.ids.lt (fun e=>h.ne (Option.some.inj e).symm)),h.idsIn,fun p hp=>?_,h.toIn⟩
 ·exact (hg.block b (lt (h.nodes.node b nd hb)) (fun e=>(h.nodeBlock hb).2.1 (Option.some.inj e))).trans (h.nodes.node b nd hb)
 ·exact ownsRow_block (h.nodes.row b nd hb) fun g hgo=>hg.block g ((h.nodes.row b nd hb).lt g hgo).2 (fun e=>(h.rowBlock hb hgo).2.1 (Option.some.inj e))
 ·exact (hg.block bb (lt h.bld) (fun e=>a1 (Option.some.inj e))).trans h.bld
 ·rcases mem_put hp with rfl | hp
  ·exact ht
  ·exact h.knIn p hp
theorem StIn.count {B bb kb ib:Nat} {w w':World} {s:St} (h:StIn B bb kb ib w s) {t x:Nat} (ht:(s.G t).isSome) (hg:w.grownBy w' (some ib)) (hm:MapIs ptrV w' ib (put (vals intV s.ids) t (intV x))) :
  StIn B bb kb ib w' { s with ids:=put s.ids t x }:=by
 obtain ⟨a1,a2⟩:=h.mapsApart
 rw [put_vals] at hm
 have lt:∀ {x:Nat} {o:Obj},w.heap[x]?=some o→x < w.heap.size:=fun hx=>(Array.getElem?_eq_some_iff.1 hx).1
 refine ⟨⟨h.nodes.ge,fun b nd hb=>?_,fun b nd hb=>?_,h.nodes.apart⟩,h.bb_ge,h.kb_ge,h.ib_ge,h.ne,?_,h.kn.of_block (hg.block kb h.kn.lt (fun e=>h.ne (Option.some.inj e))),hm,fun p hp=>?_,h.knIn,h.toIn⟩
 ·exact (hg.block b (lt (h.nodes.node b nd hb)) (fun e=>(h.nodeBlock hb).2.2 (Option.some.inj e))).trans (h.nodes.node b nd hb)
 ·exact ownsRow_block (h.nodes.row b nd hb) fun g hgo=>hg.block g ((h.nodes.row b nd hb).lt g hgo).2 (fun e=>(h.rowBlock hb hgo).2.2.1 (Option.some.inj e))
 ·exact (hg.block bb (lt h.bld) (fun e=>a2 (Option.some.inj e))).trans h.bld
 ·rcases mem_put hp with rfl | hp
  ·exact ht
  ·exact h.idsIn p hp
end Go.Proofs.Ts
namespace Go.Proofs.Ts
open Go Go.RowKit
theorem cell_block {w:World} {b i:Nat} {cs:Array Value} {t:TypeId} (h:w.heap[b]?=some (.cells cs t (0,0))):w.cell? (aD b i)=cs[i]?:=by simp [World.cell?,h]
theorem free_block {w:World} {b i:Nat} {cs:Array Value} {t:TypeId} (h:w.heap[b]?=some (.cells cs t (0,0))):w.frozen? (aD b i)=false:=by simp [World.frozen?,h]
theorem lt_of_cell {w:World} {b i:Nat} {v:Value} (h:w.cell? (aD b i)=some v):b < w.heap.size:=World.block_lt_of_cell? w _ h
theorem lt_of_heap {w:World} {b:Nat} {o:Obj} (h:w.heap[b]?=some o):b < w.heap.size:=(Array.getElem?_eq_some_iff.1 h).1
structure Small (s:St):Prop where
 edges:∀ b nd,s.G b=some nd→nd.edges.length≤300
 ids:∀ p∈s.ids,p.2 < 1000000
 len:s.ids.length < 1000000
theorem Small.hook {s:St} {n t:Nat} {ndn ndt:Nd} (h:Small s) (hn:s.G n=some ndn) (hl:s.ids.length+1 < 1000000):Small (hook s n t ndn ndt)∧(Ts.hook s n t ndn ndt).ids.length≤s.ids.length+1:=by
 unfold Ts.hook
 split
 ·refine ⟨⟨fun b nd hb=>?_,h.ids,h.len⟩,Nat.le_succ _⟩
  simp only [upd] at hb
  split at hb
  ·cases hb
   have:=h.edges n ndn hn
   simp
   omega
  ·exact h.edges b nd hb
 ·refine ⟨⟨h.edges,fun p hp=>?_,?_⟩,?_⟩
  ·rcases mem_put hp with rfl | hp
   ·exact h.len
   ·exact h.ids p hp
  ·have:=length_put_le s.ids t s.ids.length; simp only; omega
  ·exact length_put_le s.ids t s.ids.length
theorem Small.settleP:∀ (ts:List Nat) (s:St) (t:Nat),Small s→s.ids.length+ts.length < 1000000→Small (settleP ts s t)∧(Ts.settleP ts s t).ids.length≤s.ids.length+ts.length
 | [],s,t,h,hl=>⟨h,Nat.le_refl _⟩
 | u :: us,s,t,h,hl=>by
  simp only [List.length_cons] at hl
  obtain ⟨h1,h2⟩:=Small.settleP us s u h (by omega)
  unfold Ts.settleP
  split
  ·rename_i ndt ndn e1 e2
   obtain ⟨h3,h4⟩:=h1.hook (t:=u) (ndt:=ndt) e2 (by omega)
   exact ⟨h3,by simp only [List.length_cons]; omega⟩
  ·exact ⟨h1,by simp only [List.length_cons]; omega⟩
theorem Small.idOf {s:St} (h:Small s) (t:Nat):idOf s.ids t < 1000000:=by
 unfold Ts.idOf
 cases hg:get s.ids t with
 | none=>simp
 | some x=>exact h.ids _ (get_some_mem hg)
theorem edgeText_append (ids:List (Nat × Nat)) (a b:List (UInt8 × Nat)):edgeText ids (a++b)=edgeText ids a++edgeText ids b:=by simp [edgeText]
theorem edgeText_one (ids:List (Nat × Nat)) (c:UInt8) (t:Nat):edgeText ids [(c,t)]=c :: (vint (idOf ids t)).map UInt8.ofNat:=by simp [edgeText]
theorem edgeText_length {s:St} (h:Small s) (es:List (UInt8 × Nat)):(edgeText s.ids es).length≤es.length * 4:=by
 induction es with
 | nil=>simp [edgeText]
 | cons p r ih =>
  have e:edgeText s.ids (p :: r)=(p.1 :: (vint (Ts.idOf s.ids p.2)).map UInt8.ofNat)++edgeText s.ids r:=by simp [edgeText]
  rw [e,List.length_append,List.length_cons,List.length_map,List.length_cons]
  have:=vint_length (h.idOf p.2)
  omega
def byteC (b:UInt8):Value := .int .u8 b.toNat
theorem byteC_vint {n:Nat} (h:n < 1000000):((vint n).map UInt8.ofNat).map byteC=(vint n).map byteV:=by
 rw [List.map_map]
 apply List.map_congr_left
 intro b hb
 have:=vint_lt h b hb
 simp only [Function.comp,byteC,byteV,UInt8.toNat_ofNat']
 rw [Nat.mod_eq_of_lt (by omega)]
theorem edgeText_step {s:St} (h:Small s) {es:List (UInt8 × Nat)} {k:Nat} {c:UInt8} {t:Nat} (hk:es[k]?=some (c,t)) :
  (edgeText s.ids (es.take (k+1))).map byteC=(edgeText s.ids (es.take k)).map byteC++[.int .u8 c.toNat]++(vint (Ts.idOf s.ids t)).map byteV ∧
  (edgeText s.ids (es.take (k+1))).length=(edgeText s.ids (es.take k)).length+1+(vint (Ts.idOf s.ids t)).length:=by
 obtain ⟨hlt,he⟩:=List.getElem?_eq_some_iff.1 hk
 rw [List.take_succ_eq_append_getElem hlt,he,edgeText_append,edgeText_one]
 refine ⟨?_,?_⟩
 ·rw [List.map_append,List.map_cons,byteC_vint (h.idOf t),List.append_assoc]
  rfl
 ·simp
  omega
theorem conv_row {P:Program} {src dst e:TypeId} (hs:P.underlying src=some (.slice e)) (he:P.underlying e=some (.int .u8)) (hd:P.underlying dst=some .string) {w:World} {v:Value} {l:List UInt8} {B n:Nat}
  (hn:n=l.length) (h:w.ownsRow B e 1 v n (l.map byteC)):(convert src dst v).run P w = .ok (.string ⟨l.toArray⟩) w:=by
 subst hn
 rcases h.2 with ⟨rfl,h0⟩ | ⟨g,cap,cur,rfl,_⟩
 ·have:l=[]:=List.eq_nil_of_length_eq_zero h0
  subst this
  exact Lib.run_convert_nil_bytes w src dst e 0 hs he hd
 ·refine run_convert_bytes_back w src dst e (aD g 0) cap l hs he hd fun j hj=>?_
  have hc:=h.cellAt j (by omega)
  rw [List.getElem?_map,List.getElem?_eq_getElem hj] at hc
  simpa [Addr.add_lit,byteC] using hc
theorem settle_none (B bb kb ib:Nat) (s:St) (n:Nat) (w:World) (hs:StIn B bb kb ib w s) (hw:Way s n []) :
  Calls Tryz.prog 139 #[ptrV bb,ptrV n] w fun e w'=>e = .returned (.tuple #[])∧StIn B bb kb ib w' s∧Below B w w':=by
 obtain ⟨nd,hG,hnil⟩:=hw
 have hrow:=hs.nodes.row n nd hG
 have hb:=hs.nodes.node n nd hG
 rw [hnil] at hrow
 obtain ⟨a,cap,hv⟩:=ownsRow_form hrow
 rw [hv] at hb
 have c1:w.cell? (aD n 1)=some (.slice a 0 cap):=cell_block hb
 clear hb hrow hv hnil
 unfold ptrV
 go_enter Tryz.func139,Tryz.ntmps139
 go_wp2
 refine bodyPost_ret (results_none rfl _ _ _) rfl ?_
 exact ⟨rfl,hs,Below.refl _ _⟩
theorem NodesIn.same {B:Nat} {w w':World} {G:Graph} (h:NodesIn B w G) (hS:Same w w'):NodesIn B w' G:=by
 obtain ⟨n,rfl⟩:=hS
 exact ⟨h.ge,h.node,h.row,h.apart⟩
theorem StIn.same {B bb kb ib:Nat} {w w':World} {s:St} (h:StIn B bb kb ib w s) (hS:Same w w'):StIn B bb kb ib w' s:=by
 obtain ⟨n,rfl⟩:=hS
 exact ⟨h.nodes.same (Same.drewN w n),h.bb_ge,h.kb_ge,h.ib_ge,h.ne,h.bld,h.kn,h.ids,h.idsIn,h.knIn,h.toIn⟩
def Within (H:Nat) (s:St) (bb kb ib:Nat):Prop:=bb < H∧kb < H∧ib < H ∧ ∀ b nd,s.G b=some nd→b < H ∧ ∀ g,nd.v.ownBlock=some g→g < H
theorem StIn.within {B bb kb ib:Nat} {w:World} {s:St} (h:StIn B bb kb ib w s):Within w.heap.size s bb kb ib :=
 ⟨lt_of_heap h.bld,h.kn.lt,h.ids.lt,fun b nd hb=>⟨lt_of_heap (h.nodes.node b nd hb),fun g hg=>((h.nodes.row b nd hb).lt g hg).2⟩⟩
theorem StIn.below {B bb kb ib:Nat} {w w':World} {s:St} (h:StIn B bb kb ib w s) (hb:Below w.heap.size w w'):StIn B bb kb ib w' s:=by
 obtain ⟨w1,w2,w3,w4⟩:=h.within
 refine ⟨⟨h.nodes.ge,fun b nd hG=>(hb.block b (w4 b nd hG).1).trans (h.nodes.node b nd hG),fun b nd hG=>ownsRow_block (h.nodes.row b nd hG) (fun k hk=>hb.block k ((w4 b nd hG).2 k hk)),h.nodes.apart⟩,
  h.bb_ge,h.kb_ge,h.ib_ge,h.ne,(hb.block bb w1).trans h.bld,h.kn.of_block (hb.block kb w2),h.ids.of_block (hb.block ib w3),h.idsIn,h.knIn,h.toIn⟩
theorem StIn.nodeCells {B bb kb ib:Nat} {w:World} {s:St} (h:StIn B bb kb ib w s) {b:Nat} {nd:Nd} (hG:s.G b=some nd) :
  w.cell? (aD b 0)=some (.bool nd.final) ∧ ∃ a cap,nd.v = .slice a nd.edges.length cap∧w.cell? (aD b 1)=some (.slice a nd.edges.length cap):=by
 have hb:=h.nodes.node b nd hG
 obtain ⟨a,cap,hv⟩:=ownsRow_form (h.nodes.row b nd hG)
 refine ⟨cell_block hb,a,cap,hv,?_⟩
 rw [← hv]
 exact cell_block hb
theorem StIn.edgeCells {B bb kb ib:Nat} {w:World} {s:St} (h:StIn B bb kb ib w s) {b:Nat} {nd:Nd} (hG:s.G b=some nd) {i:Nat} {c:UInt8} {t:Nat} (hi:nd.edges[i]?=some (c,t)) :
  ∃ g cap,nd.v=sL g nd.edges.length cap∧w.cell? (aD g (i * 2))=some (.int .u8 c.toNat)∧w.cell? (aD g (i * 2+1))=some (ptrV t):=by
 have hrow:=h.nodes.row b nd hG
 have hlt:=(List.getElem?_eq_some_iff.1 hi).1
 obtain ⟨m,hm⟩:∃ m,nd.edges.length=m+1:=⟨nd.edges.length - 1,by omega⟩
 rw [hm] at hrow
 obtain ⟨g,cap,hv⟩:=ownsRow_head hrow
 rw [hv] at hrow
 obtain ⟨e1,e2⟩:=edgeCells_at nd.edges i (c,t) hi
 exact ⟨g,cap,by rw [hm]; exact hv,(hrow.cellAt _ (by omega)).trans e1,(hrow.cellAt _ (by omega)).trans e2⟩
theorem StIn.cellsAt {B bb kb ib:Nat} {w:World} {s:St} (h:StIn B bb kb ib w s) {b:Nat} (hb:(s.G b).isSome):cellsAt w b:=by
 obtain ⟨nd,hnd⟩:=Option.isSome_iff_exists.1 hb
 exact ⟨_,_,h.nodes.node b nd hnd⟩
theorem StIn.idsCells {B bb kb ib:Nat} {w:World} {s:St} (h:StIn B bb kb ib w s):∀ p∈vals intV s.ids,Ts.cellsAt w p.1:=fun p hp=>by
 obtain ⟨q,hq,rfl⟩:=List.mem_map.1 hp
 exact h.cellsAt (h.idsIn q hq)
theorem StIn.lookId {B bb kb ib:Nat} {w:World} {s:St} (h:StIn B bb kb ib w s) {t:Nat} (ht:(s.G t).isSome) :
  (Instr.lookup 276 (.map (some ib)) (pT t) false).run Tryz.prog w = .ok (iV (idOf s.ids t)) w:=by
 have e:=MapIs.lookup node_law h.ids t (h.cellsAt ht) h.idsCells Tryz.underlying276 (z:=iV 0) (by kernel_rfl) false
 rw [get_vals] at e
 unfold idOf
 cases hg:get s.ids t with
 | none=>rw [hg] at e; exact e
 | some x=>rw [hg] at e; exact e
theorem StIn.lookNone {B bb kb ib:Nat} {w:World} {s:St} (h:StIn B bb kb ib w s) {t:Nat} (ht:(s.G t).isSome) (hn:get s.ids t=none) :
  (Instr.lookup 276 (.map (some ib)) (pT t) true).run Tryz.prog w = .ok (.tuple #[iV 0,.bool false]) w:=by
 have e:=MapIs.lookup node_law h.ids t (h.cellsAt ht) h.idsCells Tryz.underlying276 (z:=iV 0) (by kernel_rfl) true
 rw [get_vals,hn] at e
 exact e
theorem StIn.lookShape {B bb kb ib:Nat} {w:World} {s:St} (h:StIn B bb kb ib w s) (k:Shape) :
  (Instr.lookup 275 (.map (some kb)) (.agg #[.bool k.1,.string ⟨k.2.toArray⟩]) true).run Tryz.prog w =
   .ok (.tuple #[((get s.kn k).map ptrV).getD (.pointer none),.bool (get s.kn k).isSome]) w:=by
 have e:=MapIs.lookup shape_law h.kn k trivial (fun _ _=>trivial) Tryz.underlying275 (z := .pointer none) (by kernel_rfl) true
 rw [get_vals] at e
 rw [Option.isSome_map] at e
 exact e
set_option maxRecDepth 100000 in
set_option maxHeartbeats 2000000 in
theorem settle_some (B bb kb ib:Nat) (t:Nat) (ts:List Nat)
  (ih:∀ (s:St) (w:World),StIn B bb kb ib w s→Way s t ts→Small s→s.ids.length+ts.length < 1000000→Calls Tryz.prog 139 #[ptrV bb,ptrV t] w fun e w'=>e = .returned (.tuple #[])∧StIn B bb kb ib w' (settleP ts s t)∧Below B w w')
  (s:St) (n:Nat) (w:World) (hs:StIn B bb kb ib w s) (hw:Way s n (t :: ts)) (hsm:Small s) (hlen:s.ids.length+(t :: ts).length < 1000000) :
  Calls Tryz.prog 139 #[ptrV bb,ptrV n] w fun e w'=>e = .returned (.tuple #[])∧StIn B bb kb ib w' (settleP (t :: ts) s n)∧Below B w w':=by
 obtain ⟨⟨nd,c,es,hG,hedges⟩,hid,htn,hnts,hway⟩:=hw
 have hrow:=hs.nodes.row n nd hG
 have hb:=hs.nodes.node n nd hG
 rw [hedges] at hrow
 simp only [List.length_append,List.length_cons,List.length_nil,Nat.zero_add] at hrow
 obtain ⟨g,cap,hv⟩:=ownsRow_head hrow
 rw [hv] at hb hrow
 have c1:w.cell? (aD n 1)=some (sL g (es.length+1) cap):=cell_block hb
 have ce0:w.cell? (aD g (es.length * 2))=some (.int .u8 c.toNat):=by
  rw [hrow.cellAt _ (by omega),edgeCells_append,List.getElem?_append_right (by rw [edgeCells_length]; omega),edgeCells_length]; simp [edgeCells]
 have ce1:w.cell? (aD g (es.length * 2+1))=some (ptrV t):=by
  rw [hrow.cellAt _ (by omega),edgeCells_append,List.getElem?_append_right (by rw [edgeCells_length]; omega),edgeCells_length]; simp [edgeCells]
 have b0:w.cell? (aD bb 0)=some (.map (some kb)):=cell_block hs.bld
 have b1:w.cell? (aD bb 1)=some (.map (some ib)):=cell_block hs.bld
 have hles:es.length≤300:=by have:=hsm.edges n nd hG; rw [hedges] at this; simp at this; omega
 clear hb hrow
 have hlen':s.ids.length+ts.length < 1000000:=by simp only [List.length_cons] at hlen; omega
 have HV:=Lib.hid hv
 clear hv
 have tcell:∃ ndt,s.G t=some ndt:=by
  cases ts with
  | nil=>obtain ⟨x,hx,_⟩:=hway; exact ⟨x,hx⟩
  | cons u us=>obtain ⟨⟨x,_,_,hx,_⟩,_⟩:=hway; exact ⟨x,hx⟩
 obtain ⟨ndt,hGt⟩:=tcell
 have hl1:∀ m,(Instr.lookup 276 (.map (some ib)) (pT t) true).run Tryz.prog (w.drewN m) = .ok (.tuple #[iV 0,.bool false]) (w.drewN m):=fun m =>
  (hs.same (Same.drewN w m)).lookNone (by rw [hGt]; rfl) hid
 unfold ptrV at ce1 ⊢
 go_enter Tryz.func139,Tryz.ntmps139
 go_wp2_with fail
 have q1:IntKind.i64.wrap ((es.length:Int)+1 - 1)=(es.length:Int):=by rw [IntWalk.i64_in _ (by omega)]; omega
 have q2:(0:Int)≤(es.length:Int)∧(es.length:Int) < (es.length:Int)+1:=by omega
 go_quiet (fail)
 clear q1 q2
 go_wp2_with fail
 go_quiet (fail)
 go_wp2_with fail
 refine (ih s _ (hs.same (Same.drewN _ _)) hway hsm hlen').mono ?_
 rintro e w1 ⟨rfl,hs1,hb1⟩
 have hGn1:=(settleP_other ts s t n (Ne.symm htn) hnts).trans hG
 obtain ⟨nd1,hGt1⟩:=Option.isSome_iff_exists.1 (settleP_dom ts s t t (by rw [hGt]; rfl))
 have HP:=Lib.hid (settleP_cons hGt1 hGn1)
 have hsm1:=(hsm.settleP ts s t hlen').1
 generalize settleP ts s t=s1 at *
 clear hl1 c1 ce0 ce1 b0 b1 hway hid
 have hs1h:=Lib.hid hs1
 obtain ⟨ct0,a1,cap1,hv1,ct1⟩:=hs1.nodeCells hGt1
 obtain ⟨cn0,_⟩:=hs1.nodeCells hGn1
 have ce1:w1.cell? (aD g (es.length * 2+1))=some (pT t):=by
  obtain ⟨g',cap',e1,_,e3⟩:=hs1.edgeCells hGn1 (i:=es.length) (c:=c) (t:=t) (by rw [hedges]; simp)
  have eb:=congrArg Value.ownBlock (HV.symm.trans e1)
  simp [Value.ownBlock] at eb
  subst eb
  exact e3
 have b0:w1.cell? (aD bb 0)=some (.map (some kb)):=cell_block hs1.bld
 have b1:w1.cell? (aD bb 1)=some (.map (some ib)):=cell_block hs1.bld
 have hv1':=Lib.hid hv1
 clear hs1 hv1
 have hlen1:=hsm1.edges t nd1 hGt1
 go_wp2_with fail
 go_loopw [7,57] (fun sv i wr=>∃ k:Nat,k≤nd1.edges.length∧i = .int .i64 k∧wr.ownsRow 0 5 1 sv (edgeText s1.ids (nd1.edges.take k)).length ((edgeText s1.ids (nd1.edges.take k)).map byteC)∧Past w1.heap.size sv∧Below w1.heap.size w1 wr)
  (fun _ i _=>nd1.edges.length - (intOf i).toNat)
 case atStart=>exact ⟨0,Nat.zero_le _,rfl,World.ownsRow_nil _ _ _ _,(fun k hk=>by cases hk),Below.refl _ _⟩
 case round =>
  obtain ⟨k,hk,rfl,hrow,hpast,hbl⟩:=hrel
  by_cases hlt:k < nd1.edges.length
  ·obtain ⟨c',t',hct⟩:∃ c' t',nd1.edges[k]?=some (c',t'):=⟨_,_,List.getElem?_eq_getElem hlt⟩
   obtain ⟨g1,cap1',e1,ek0,ek1⟩:=(hs1h.below hbl).edgeCells hGt1 hct
   rw [hv1'] at e1
   simp only [Value.slice.injEq,true_and] at e1
   obtain ⟨rfl,rfl⟩:=e1
   unfold ptrV at ek1
   have hW:=hs1h.below hbl
   have htl:(edgeText s1.ids (nd1.edges.take k)).length≤1200:=by have:=edgeText_length hsm1 (nd1.edges.take k); rw [List.length_take] at this; omega
   have hid':=hsm1.idOf t'
   have hstep:=Lib.hid (edgeText_step hsm1 hct)
   go_wp2_with fail
   refine wp_region_ord [(0,false),(1,false),(2,false),(5,false),(6,false),(7,false),(8,false),(9,false),(10,false),(11,false),(3,true),(4,true),(12,true),(13,false)]
    (fun w'=>Below w1.heap.size w1 w'∧w'.heap[wr.heap.size]?=some (.cells #[.int .u8 c'.toNat,pT t'] 284 (0,0))) (by kernel_rfl) (by kernel_rfl) ?_ ?_
   ·exact ⟨(hbl.alloc hbl.size _).drew,heap_alloc_new _ _⟩
   have hpW:∀ W,Below w1.heap.size w1 W→(Instr.lookup 276 (.map (some ib)) (pT t') false).run Tryz.prog W = .ok (iV (idOf s1.ids t')) W :=
    fun W hB=>(hs1h.below hB).lookId (hs1h.toIn t nd1 hGt1 (c',t') (List.mem_of_getElem? hct))
   have HpW:=Lib.hid hpW
   clear hpW
   iterate 10 (
    refine wpOrd_quiet ?_ rfl rfl (fun w' hS=>?_) ?_
    rotate_left
    ·have hS1:=hS.1
     have hS2:=hS.2
     have f0:w'.cell? (aD wr.heap.size 0)=some (.int .u8 c'.toNat):=cell_block hS2
     have f1:w'.cell? (aD wr.heap.size 1)=some (pT t'):=cell_block hS2
     have f2:w'.cell? (aD bb 1)=some (.map (some ib)):=cell_block (hs1h.below hS1).bld
     have f3:=HpW w' hS1
     clear hS hS1 hS2
     go_simp
     try rfl
    simp only [put_lit,List.set_cons_succ,List.set_cons_zero])
   refine wpOrd_loud rfl rfl (by decide) (fun K hK=>?_)
   go_simp
   have hB3:Below w1.heap.size w1 ((wr.alloc (.cells #[.int .u8 c'.toNat,pT t'] 284)).alloc (.cells #[.int .u8 c'.toNat] 5)).drew :=
    ((hbl.alloc hbl.size _).alloc (by have:=hbl.size; simp; omega) _).drew
   have hF3:((wr.alloc (.cells #[.int .u8 c'.toNat,pT t'] 284)).alloc (.cells #[.int .u8 c'.toNat] 5)).drew.heap[wr.heap.size]?=some (.cells #[.int .u8 c'.toNat,pT t'] 284 (0,0)) :=
    heap_alloc2_old _ _ _
   have hrow3:((wr.alloc (.cells #[.int .u8 c'.toNat,pT t'] 284)).alloc (.cells #[.int .u8 c'.toNat] 5)).drew.ownsRow 0 5 1 u7 (edgeText s1.ids (nd1.edges.take k)).length ((edgeText s1.ids (nd1.edges.take k)).map byteC) :=
    ((hrow.alloc _).alloc _).drew
   have hc3:∀ j u,[Value.int .u8 c'.toNat][j]?=some u→((wr.alloc (.cells #[.int .u8 c'.toNat,pT t'] 284)).alloc (.cells #[.int .u8 c'.toNat] 5)).drew.cell? (((aD (wr.heap.size+1) 0):Addr).add j)=some u:=by
    have:=cell_one_new (wr.alloc (.cells #[.int .u8 c'.toNat,pT t'] 284)) (.int .u8 c'.toNat) 5
    simpa using this
   have hsz3:((wr.alloc (.cells #[.int .u8 c'.toNat,pT t'] 284)).alloc (.cells #[.int .u8 c'.toNat] 5)).drew.heap.size=wr.heap.size+2:=by simp
   generalize ((wr.alloc (.cells #[.int .u8 c'.toNat,pT t'] 284)).alloc (.cells #[.int .u8 c'.toNat] 5)).drew=W3 at *
   refine hK _ _ ⟨hB3,hF3⟩ ?_
   clear hK K
   refine wpOrd_loud rfl rfl (by decide) (fun K hK=>?_)
   obtain ⟨i0,hi,hz0,hz1,hz2⟩:=info_parts Tryz.tsInfo5
   refine wp_append_lies _ _ 42 rfl 5 i0 (.int .u8 0) 1 1 Tryz.underlying42 hi hz0 hz1 hz2 rfl (by decide) _ _ _ rfl hrow3 (aD (wr.heap.size+1) 0) 1 1 [.int .u8 c'.toNat] rfl rfl hc3 (by simp [Value.oneCell']) (by decide) (by unfold maxLen; omega) (by omega) ?_
   intro v4 W4 hrow4 hgrow4 hlies4
   have hpast4:Past w1.heap.size v4:=(Moves.append hgrow4 hlies4).past hpast (by have:=hB3.size; omega)
   have hB4:Below w1.heap.size w1 W4:=hB3.grown hgrow4 (by have:=hB3.size; omega) hpast
   have hFne:u7.ownBlock≠some wr.heap.size:=fun e=>by have:=(hrow.lt _ e).2; omega
   have hF4:W4.heap[wr.heap.size]?=some (.cells #[.int .u8 c'.toNat,pT t'] 284 (0,0)) :=
    (hgrow4.block _ (by omega) (Ne.symm hFne)).trans hF3
   have hmv4:=Moves.append hgrow4 hlies4
   clear hgrow4 hlies4
   refine hK _ _ ⟨hB4,hF4⟩ ?_
   clear hK K
   simp only [put_lit,List.set_cons_succ,List.set_cons_zero]
   refine wpOrd_loud rfl rfl (by decide) (fun K hK=>?_)
   go_simp
   refine (put_any v4 _ _ (idOf s1.ids t') W4 hid' (by omega) hrow4).mono ?_
   rintro e W5 ⟨v5,rfl,hrow5,hmv5⟩
   have hB5:=hmv5.below hpast4 hB4 hB4.size
   have hF5:W5.heap[wr.heap.size]?=some (.cells #[.int .u8 c'.toNat,pT t'] 284 (0,0)):=by
    refine (hmv5.block (by have:=hmv4.size; omega) ?_).trans hF4
    rcases hmv4.lies with h | ⟨g',h,hg'⟩
    ·rw [h]; exact hFne
    ·rw [h]; intro e; cases e; omega
   have hpast5:=hmv5.past hpast4 hB4.size
   refine hK _ _ ⟨hB5,hF5⟩ ?_
   clear hK K
   refine wpOrd_quiet ?_ rfl rfl (fun w' hS=>?_) ?_
   rotate_left
   ·go_simp
    try rfl
   refine wpOrd_nil ?_
   rw [← hstep.1,← hstep.2] at hrow5
   go_wp2
   exact ⟨⟨k+1,by omega,by go_num,hrow5,hpast5,hB5⟩,by simp [intOf]; omega⟩
  ·obtain rfl:k=nd1.edges.length:=by omega
   rw [List.take_length] at hrow
   have hW:=Lib.hid (hs1h.below hbl)
   have hcv:∀ W,Below wr.heap.size wr W→(convert 42 9 u7).run Tryz.prog W = .ok (.string ⟨(edgeText s1.ids nd1.edges).toArray⟩) W:=fun W hB =>
    conv_row Tryz.underlying42 Tryz.underlying5 Tryz.underlying9 rfl (ownsRow_block hrow fun k hk=>hB.block k (hrow.lt k hk).2)
   have HCV:=Lib.hid hcv
   clear hcv
   have dt0:=(hW.nodeCells hGt1).1
   have de1:wr.cell? (aD g (es.length * 2+1))=some (pT t):=by
    rw [hbl.cell (by exact lt_of_cell ce1)]; exact ce1
   have lg:=lt_of_cell de1
   have lt':=lt_of_cell dt0
   go_wp2_with fail
   refine wp_region_ord [(0,false),(1,false),(2,false),(3,false),(4,false),(5,false),(6,false),(7,false),(8,false),(9,false),(10,true),(11,true)]
    (fun w'=>Below wr.heap.size wr w') (by kernel_rfl) (by kernel_rfl) ?_ ?_
   ·exact (Below.refl _ wr).drew
   iterate 10 (
    refine wpOrd_quiet ?_ rfl rfl (fun w' hS=>?_) ?_
    rotate_left
    ·have f0:=(hS.cell (p:=(aD t 0)) lt').trans dt0
     have f1:=(hS.cell (p:=(aD g _)) lg).trans de1
     have f3:=HCV w' hS
     clear hS
     go_simp
     try rfl
    simp only [put_lit,List.set_cons_succ,List.set_cons_zero])
   refine wpOrd_loud rfl rfl (by decide) (fun K hK=>?_)
   go_simp
   refine hK _ _ ?_ ?_
   ·exact ((Below.refl _ wr).alloc (Nat.le_refl _) _).drew
   clear hK K
   refine wpOrd_loud rfl rfl (by decide) (fun K hK=>?_)
   go_simp
   refine hK _ _ ?_ ?_
   ·exact ((Below.refl _ wr).alloc (Nat.le_refl _) _).drew
   clear hK K
   refine wpOrd_nil ?_
   go_wp2_with fail
   have hBk:Below wr.heap.size wr (wr.alloc (.cells #[.bool nd1.final,.string ⟨(edgeText s1.ids nd1.edges).toArray⟩] 374)).drew:=((Below.refl _ wr).alloc (Nat.le_refl _) _).drew
   have hKk:(wr.alloc (.cells #[.bool nd1.final,.string ⟨(edgeText s1.ids nd1.edges).toArray⟩] 374)).drew.heap[wr.heap.size]?=some (.cells #[.bool nd1.final,.string ⟨(edgeText s1.ids nd1.edges).toArray⟩] 374 (0,0)):=heap_alloc_new _ _
   generalize (wr.alloc (.cells #[.bool nd1.final,.string ⟨(edgeText s1.ids nd1.edges).toArray⟩] 374)).drew=Wk at *
   have hSk:=hW.below hBk
   have k0:Wk.cell? (aD wr.heap.size 0)=some (.bool nd1.final):=cell_block hKk
   have k1:Wk.cell? (aD wr.heap.size 1)=some (.string ⟨(edgeText s1.ids nd1.edges).toArray⟩):=cell_block hKk
   have kb0:Wk.cell? (aD bb 0)=some (.map (some kb)):=cell_block hSk.bld
   have kb1:Wk.cell? (aD bb 1)=some (.map (some ib)):=cell_block hSk.bld
   have hlk:∀ m,(Instr.lookup 275 (.map (some kb)) (.agg #[.bool nd1.final,.string ⟨(edgeText s1.ids nd1.edges).toArray⟩]) true).run Tryz.prog (Wk.drewN m) =
     .ok (.tuple #[((get s1.kn (shapeOf s1.ids nd1)).map ptrV).getD (.pointer none),.bool (get s1.kn (shapeOf s1.ids nd1)).isSome]) (Wk.drewN m):=fun m=>(hSk.same (Same.drewN Wk m)).lookShape (shapeOf s1.ids nd1)
   clear ct0 cn0 ce1 b0 b1 dt0 de1 lg lt' HCV
   have HKk:=Lib.hid hKk
   clear hKk
   unfold hook at HP
   have HSk:=Lib.hid hSk
   have hmg:∀ m,get s1.kn (shapeOf s1.ids nd1)=some m→(s1.G m).isSome:=fun m h=>hs1h.knIn _ (get_some_mem h)
   have hBB:Below B w Wk:=by
    have x1:=(Same.drewN w _).below B |>.trans hb1
    have x2:Below B w1 wr:=hbl.mono (by have:=hb1.size; have:=(hs1h.nodes.ge n nd hGn1).1; have:=lt_of_heap (hs1h.nodes.node n nd hGn1); omega)
    have x3:Below B wr Wk:=hBk.mono (by have:=hbl.size; have:=(hs1h.nodes.ge n nd hGn1).1; have:=lt_of_heap (hs1h.nodes.node n nd hGn1); omega)
    exact x1.trans (x2.trans x3)
   clear hSk hBk hW
   cases hget:get s1.kn (shapeOf s1.ids nd1) with
   | some m =>
    have hmG:=hmg m hget
    rw [hget] at hlk HP
    clear hmg hget
    simp only [Option.map_some,Option.getD_some,Option.isSome_some,ptrV] at hlk
    have hrel:=Lib.hid (HSk.relink hGn1 hedges HV hmG)
    have cg:Wk.cell? (aD g (es.length * 2+1))=some (pT t):=by
     obtain ⟨g',cap',e1,_,e3⟩:=HSk.edgeCells hGn1 (i:=es.length) (c:=c) (t:=t) (by rw [hedges]; simp)
     have eb:=congrArg Value.ownBlock (HV.symm.trans e1)
     simp [Value.ownBlock] at eb
     subst eb
     exact e3
    have fg:Wk.frozen? (aD g (es.length * 2+1))=false:=by
     have hr:=HSk.nodes.row n nd hGn1
     rw [hedges,HV] at hr
     simp only [List.length_append,List.length_cons,List.length_nil,Nat.zero_add] at hr
     exact hr.frozenAt _
    have hgB:B≤g:=(HSk.nodes.ge n nd hGn1).2 g (by rw [HV]; rfl)
    go_quiet (fail)
    go_wp2_with fail
    refine bodyPost_ret (results_none rfl _ _ _) rfl ?_
    refine ⟨rfl,?_,?_⟩
    ·rw [HP]
     have e1:nd.edges.dropLast++[((nd.edges.getLast?.map (·.1)).getD 0,m)]=es++[(c,m)]:=by rw [hedges]; simp
     rw [e1]
     exact hrel.same (Same.drewN _ _)
    ·exact (hBB.setCell (p:=(aD g _)) hgB _).trans ((Same.drewN _ _).below B)
   | none =>
    rw [hget] at hlk HP
    clear hmg hget
    simp only [Option.map_none,Option.getD_none,Option.isSome_none] at hlk
    have htG:(s1.G t).isSome:=by rw [hGt1]; rfl
    have e1:∀ W,Same Wk W→W.cell? (aD g (es.length * 2+1))=some (pT t):=fun W hS=>by
     obtain ⟨g',cap',e1,_,e3⟩:=(HSk.same hS).edgeCells hGn1 (i:=es.length) (c:=c) (t:=t) (by rw [hedges]; simp)
     have eb:=congrArg Value.ownBlock (HV.symm.trans e1)
     simp [Value.ownBlock] at eb
     subst eb
     exact e3
    have E1:=Lib.hid e1
    clear e1
    go_quiet (fail)
    go_wp2_with fail
    obtain ⟨Wl,hSl,rfl⟩:∃ Wl,Same Wk Wl∧Wl=Wk.drewN nq:=⟨_,Same.drewN _ _,rfl⟩
    generalize Wk.drewN nq=Wl at *
    have cl0:=(hSl.cell _).trans k0
    have cl1:=(hSl.cell _).trans k1
    have cl2:=(hSl.cell _).trans kb0
    have cl3:=(hSl.cell _).trans kb1
    have cl4:=E1 Wl hSl
    have hSL:=Lib.hid (HSk.same hSl)
    clear k0 k1 kb0 kb1 hlk
    have nk:wr.heap.size≠kb:=by have:=(hs1h.kn.lt); have:=hbl.size; omega
    have ni:wr.heap.size≠ib:=by have:=(hs1h.ids.lt); have:=hbl.size; omega
    obtain ⟨nbk,nbi⟩:=hs1h.mapsApart
    obtain ⟨_,ngk,ngi,_⟩:=hs1h.rowBlock hGn1 (g:=g) (by rw [HV]; rfl)
    refine wp_region_ord [(0,false),(1,false),(2,false),(3,false),(4,false),(5,false),(6,false),(7,false),(8,false),(9,true)]
     (fun w'=>w'.cell? (aD wr.heap.size 0)=some (.bool nd1.final)∧w'.cell? (aD wr.heap.size 1)=some (.string ⟨(edgeText s1.ids nd1.edges).toArray⟩)∧w'.cell? (aD bb 0)=some (.map (some kb)) ∧
      w'.cell? (aD bb 1)=some (.map (some ib))∧w'.cell? (aD g (es.length * 2+1))=some (pT t)) (by kernel_rfl) (by kernel_rfl) ?_ ?_
    ·exact ⟨cl0,cl1,cl2,cl3,cl4⟩
    iterate 9 (
     refine wpOrd_quiet ?_ rfl rfl (fun w' hS=>?_) ?_
     rotate_left
     ·obtain ⟨f0,f1,f2,f3,f4⟩:=hS
      go_simp
      try rfl
     simp only [put_lit,List.set_cons_succ,List.set_cons_zero])
    refine wpOrd_loud rfl rfl (by decide) (fun K hK=>?_)
    have hSL1:=hSL.same (Same.drew Wl)
    obtain ⟨W2,hrun2,hmap2,hg2,hz2⟩:=MapIs.update shape_law hSL1.kn (shapeOf s1.ids nd1) trivial (fun _ _=>trivial) Tryz.underlying275 (ptrV t)
    have hrun2':(Instr.mapUpdate 275 (.map (some kb)) (.agg #[.bool nd1.final,.string ⟨(edgeText s1.ids nd1.edges).toArray⟩]) (pT t)).run Tryz.prog Wl.drew = .ok () W2:=hrun2
    clear hrun2
    go_simp
    have HS2:=Lib.hid (hSL1.learn htG hg2 hmap2)
    have cm0:W2.cell? (aD wr.heap.size 0)=some (.bool nd1.final):=World.grownBy.cell hg2 cl0 (fun e=>nk (Option.some.inj e))
    have cm1:W2.cell? (aD wr.heap.size 1)=some (.string ⟨(edgeText s1.ids nd1.edges).toArray⟩):=World.grownBy.cell hg2 cl1 (fun e=>nk (Option.some.inj e))
    have cm2:W2.cell? (aD bb 0)=some (.map (some kb)):=World.grownBy.cell hg2 cl2 (fun e=>nbk (Option.some.inj e))
    have cm3:W2.cell? (aD bb 1)=some (.map (some ib)):=World.grownBy.cell hg2 cl3 (fun e=>nbk (Option.some.inj e))
    have cm4:W2.cell? (aD g (es.length * 2+1))=some (pT t):=World.grownBy.cell hg2 cl4 (fun e=>ngk (Option.some.inj e))
    have hB2:Below B w W2:=(hBB.trans (hSl.below B)).drew.grown hg2 (by have:=(hs1h.nodes.ge n nd hGn1).1; have:=lt_of_heap (hSL1.nodes.node n nd hGn1); omega) (fun k hk=>by cases hk; exact hs1h.kb_ge)
    refine hK _ _ ⟨cm0,cm1,cm2,cm3,cm4⟩ ?_
    clear hK K hrun2' hmap2 hg2 cl0 cl1 cl2 cl3 cl4
    refine wpOrd_nil ?_
    go_wp2_with fail
    have tc:∀ W,Same W2 W→(∀ p∈vals intV s1.ids,cellsAt W p.1)∧cellsAt W t:=fun W hS=>⟨(HS2.same hS).idsCells,(HS2.same hS).cellsAt htG⟩
    refine wp_region_ord [(0,false),(1,false),(2,false),(3,false),(4,false),(5,false),(6,false),(7,false),(8,false),(9,false),(10,false),(11,false),(12,true),(13,true)]
     (fun w'=>w'.cell? (aD bb 1)=some (.map (some ib))∧w'.cell? (aD g (es.length * 2+1))=some (pT t)) (by kernel_rfl) (by kernel_rfl) ?_ ?_
    ·exact ⟨cm3,cm4⟩
    iterate 12 (
     refine wpOrd_quiet ?_ rfl rfl (fun w' hS=>?_) ?_
     rotate_left
     ·obtain ⟨f0,f1⟩:=hS
      go_simp
      try rfl
     simp only [put_lit,List.set_cons_succ,List.set_cons_zero])
    refine wpOrd_loud rfl rfl (by decide) (fun K hK=>?_)
    obtain ⟨ies,ic,hib,_⟩:=HS2.ids
    have hisz:ies.size=s1.ids.length:=by rw [MapIs.len hib HS2.ids]; simp [vals]
    have hrunl:(Builtin.len_ #[276] 3 #[.map (some ib)]).run Tryz.prog W2.drew = .ok (iV s1.ids.length) W2.drew:=by
     rw [← hisz]
     unfold Builtin.len_
     simp only [Sem.run_bind,List.getElem?_toArray,List.getElem?_cons_zero,run_underlying Tryz.underlying276,Result.andThen_ok]
     rw [getObj_run (w:=W2.drew) hib]
     rfl
    clear hib hisz
    go_simp
    refine hK _ _ ⟨cm3,cm4⟩ ?_
    clear hK K hrunl
    refine wpOrd_loud rfl rfl (by decide) (fun K hK=>?_)
    have hS2:=HS2.same (Same.drew W2)
    obtain ⟨W3,hrun3,hmap3,hg3,hz3⟩:=MapIs.update node_law hS2.ids t (hS2.cellsAt htG) hS2.idsCells Tryz.underlying276 (intV s1.ids.length)
    have hrun3':(Instr.mapUpdate 276 (.map (some ib)) (pT t) (iV s1.ids.length)).run Tryz.prog W2.drew = .ok () W3:=hrun3
    clear hrun3
    go_simp
    have cn3:W3.cell? (aD bb 1)=some (.map (some ib)):=World.grownBy.cell hg3 cm3 (fun e=>nbi (Option.some.inj e))
    have cn4:W3.cell? (aD g (es.length * 2+1))=some (pT t):=World.grownBy.cell hg3 cm4 (fun e=>ngi (Option.some.inj e))
    have hS3:=hS2.count htG hg3 hmap3
    have hB3:Below B w W3:=hB2.drew.grown hg3 (by have:=hB2.size; have:=(hs1h.nodes.ge n nd hGn1).1; have:=lt_of_heap (hS2.nodes.node n nd hGn1); simp at this; simp; omega) (fun k hk=>by cases hk; exact hs1h.ib_ge)
    refine hK _ _ ⟨cn3,cn4⟩ ?_
    clear hK K hrun3' hmap3 hg3 cm0 cm1 cm2 cm3 cm4
    refine wpOrd_nil ?_
    go_wp2_with fail
    refine bodyPost_end (results_none rfl _ _ _) rfl ?_
    refine ⟨rfl,?_,hB3⟩
    rw [HP]
    exact hS3
theorem settle_any (B bb kb ib:Nat):∀ (ts:List Nat) (s:St) (n:Nat) (w:World),StIn B bb kb ib w s→Way s n ts→Small s→s.ids.length+ts.length < 1000000 →
  Calls Tryz.prog 139 #[ptrV bb,ptrV n] w fun e w'=>e = .returned (.tuple #[])∧StIn B bb kb ib w' (settleP ts s n)∧Below B w w'
 | [],s,n,w,hs,hw,_,_=>settle_none B bb kb ib s n w hs hw
 | t :: ts,s,n,w,hs,hw,hsm,hl=>settle_some B bb kb ib t ts (fun s w=>settle_any B bb kb ib ts s t w) s n w hs hw hsm hl
end Go.Proofs.Ts
namespace Go.Proofs.Ts
open Go Go.RowKit
def vbytes (n:Nat):List UInt8:=(vint n).map UInt8.ofNat
theorem vbytes_small {n:Nat} (h:n < 128):vbytes n=[UInt8.ofNat n]:=by simp [vbytes,vint_small h]
theorem vbytes_big {n:Nat} (h:128≤n):vbytes n=UInt8.ofNat (n % 128+128) :: vbytes (n / 128):=by simp [vbytes,vint_big h]
theorem ofNat_lt {a:Nat} (h:a < 256):(UInt8.ofNat a).toNat=a:=by simp [UInt8.toNat_ofNat']; omega
theorem vbytes_inj:∀ (a b:Nat) (x y:List UInt8),vbytes a++x=vbytes b++y→a=b∧x=y:=by
 intro a
 induction a using Nat.strongRecOn with
 | _ a ih =>
  intro b x y h
  by_cases ha:a < 128
  ·by_cases hb:b < 128
   ·rw [vbytes_small ha,vbytes_small hb] at h
    simp only [List.cons_append,List.nil_append,List.cons.injEq] at h
    have:=congrArg UInt8.toNat h.1
    rw [ofNat_lt (by omega),ofNat_lt (by omega)] at this
    exact ⟨this,h.2⟩
   ·rw [vbytes_small ha,vbytes_big (show 128≤b by omega)] at h
    simp only [List.cons_append,List.nil_append,List.cons.injEq] at h
    have:=congrArg UInt8.toNat h.1
    rw [ofNat_lt (by omega),ofNat_lt (by omega)] at this
    omega
  ·by_cases hb:b < 128
   ·rw [vbytes_big (show 128≤a by omega),vbytes_small hb] at h
    simp only [List.cons_append,List.nil_append,List.cons.injEq] at h
    have:=congrArg UInt8.toNat h.1
    rw [ofNat_lt (by omega),ofNat_lt (by omega)] at this
    omega
   ·rw [vbytes_big (show 128≤a by omega),vbytes_big (show 128≤b by omega)] at h
    simp only [List.cons_append,List.nil_append,List.cons.injEq] at h
    have h1:=congrArg UInt8.toNat h.1
    rw [ofNat_lt (by omega),ofNat_lt (by omega)] at h1
    obtain ⟨h2,h3⟩:=ih (a / 128) (by omega) (b / 128) x y h.2
    exact ⟨by omega,h3⟩
theorem edgeText_inj {ids:List (Nat × Nat)} (hinj:∀ a b,(get ids a).isSome→(get ids b).isSome→idOf ids a=idOf ids b→a=b) :
  ∀ (es fs:List (UInt8 × Nat)),(∀ e∈es,(get ids e.2).isSome)→(∀ e∈fs,(get ids e.2).isSome)→edgeText ids es=edgeText ids fs→es=fs
 | [],[],_,_,_=>rfl
 | [],f :: fs,_,_,h=>by simp [edgeText] at h
 | e :: es,[],_,_,h=>by simp [edgeText] at h
 | e :: es,f :: fs,he,hf,h=>by
  have h':e.1 :: (vbytes (idOf ids e.2)++edgeText ids es)=f.1 :: (vbytes (idOf ids f.2)++edgeText ids fs):=by simpa [edgeText,vbytes] using h
  simp only [List.cons.injEq] at h'
  obtain ⟨h1,h2⟩:=vbytes_inj _ _ _ _ h'.2
  have h3:=hinj _ _ (he e List.mem_cons_self) (hf f List.mem_cons_self) h1
  have h4:=edgeText_inj hinj es fs (fun x hx=>he x (List.mem_cons_of_mem _ hx)) (fun x hx=>hf x (List.mem_cons_of_mem _ hx)) h2
  rw [h4]
  congr 1
  exact Prod.ext h'.1 h3
end Go.Proofs.Ts
