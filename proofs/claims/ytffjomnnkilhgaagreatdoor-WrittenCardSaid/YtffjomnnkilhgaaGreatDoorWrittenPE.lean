/- Lemmas towards the statement Written of termsearch: walks of the program's functions and plain laws on lists (TsCountB, TsNumberB, TsSeg, TsGrow, TsKeep3, TsFrom, TsTerms, TsWalk, TsPlanA, TsUtf, TsNearP, TsNearA, TsNearD, TsRead, TsParsQ, TsSetP, TsSetO, TsSetB, TsSetM, TsIterB, TsSetI, TsOrdIn, TsSetS, TsLink, TsAst, TsParsP, TsPart, TsJoin, TsCatch, TsParsOk, TsPartH, TsTabP, TsLeastP, TsLang, TsMachP, TsWildP, TsBetP). Conditions: those that each theorem names. -/
import Derived.Test.YtffjomnnkilhgaaGreatDoorWrittenPA
import Derived.Test.YtffjomnnkilhgaaGreatDoorWrittenPD
import Derived.Laws.OwnMore
import Derived.Laws.EntriesVeiled
import Derived.Test.YtffjomnnkilhgaaGreatDoorWrittenPB
import Derived.Test.YtffjomnnkilhgaaGreatDoorWrittenPC
import Derived.Deep.CutBlock
import Derived.Maps.AppendAt
import Derived.Deep.DeepCutAuto
import Derived.Sort.OwnSorted
import Derived.Shelf.Unicode.DecodeSlow
import Derived.Lib.DecodeNEq
import Derived.Lib.ValidU
import Derived.Laws.IdiomStrings
import Derived.Test.YtffjomnnkilhgaaGreatDoorShelf
import Derived.Deep.WholeRow
import Derived.Laws.Tables
import Derived.Laws.Bits64b
import Derived.Lib.TrailingZeros
import Derived.RangeFuncFrom
import Derived.RangeFuncBound
import Derived.RangeFuncLeaves
import Derived.OrdersIn
import Derived.RangeFuncCalls
import Derived.Defers
import Derived.Recover
set_option linter.unusedVariables false
set_option linter.unusedSimpArgs false
set_option linter.unusedSectionVars false
namespace Go.Proofs.Ts
open Go Go.RowKit
theorem Tryz.info4:(Tryz.prog.info? 4).map (fun i=>(i.zero,i.size,i.bytes))=some (some (.bool false),1,1):=by kernel_rfl
theorem made_false (n:Nat):madeCells #[.bool false] n=((List.replicate n false).map Value.bool).toArray:=by
 apply Array.ext'
 rw [toList_madeCells_one]
 simp
def cntStart (w:World) (db n:Nat):World :=
 (((w.alloc (.cells #[ptrV db] 158)).alloc (.cells (madeCells #[.bool false] n) 4)).alloc (.cells #[.slice (some ⟨w.heap.size+1,0,none⟩) n n] 151)).alloc (.cells #[countFn w.heap.size] 383)
theorem cntStart_old (w:World) (db n j:Nat) (h:j < w.heap.size):(cntStart w db n).heap[j]?=w.heap[j]?:=by
 unfold cntStart
 rw [Below.heap_alloc _ _ _ (by simp; omega),Below.heap_alloc _ _ _ (by simp; omega),Below.heap_alloc _ _ _ (by simp; omega),Below.heap_alloc _ _ _ h]
theorem Cnt.start {B db:Nat} {V:Value} {D:List DS} {w:World} (hdct:w.heap[db]?=some (.cells #[V] 172 (0,0))) (hrows:RowsIn B w V D) (hVdb:V.ownBlock≠some db) :
  Cnt B w.heap.size db V D (List.replicate D.length false) (cntStart w db D.length):=by
 have hdlt:=lt_of_heap hdct
 have old:=cntStart_old w db D.length
 refine ⟨hdlt,(old _ hdlt).trans hdct,?_,?_,?_,?_,hrows.kept fun k _ hk=>old k hk,fun g hg=>⟨(hrows.row.lt g hg).2,fun e=>hVdb (e ▸ hg)⟩,fun i s g hi hg=>((hrows.erow i s hi).lt g hg).2,by simp⟩
 ·unfold cntStart
  rw [Below.heap_alloc _ _ _ (by simp <;> omega),Below.heap_alloc _ _ _ (by simp <;> omega),Below.heap_alloc _ _ _ (by simp <;> omega)]
  exact heap_alloc_new _ _
 ·unfold cntStart
  rw [Below.heap_alloc _ _ _ (by simp <;> omega),Below.heap_alloc _ _ _ (by simp <;> omega),← made_false]
  have:=heap_alloc_new (w.alloc (.cells #[ptrV db] 158)) (.cells (madeCells #[.bool false] D.length) 4)
  simpa using this
 ·unfold cntStart
  rw [Below.heap_alloc _ _ _ (by simp)]
  have:=heap_alloc_new ((w.alloc (.cells #[ptrV db] 158)).alloc (.cells (madeCells #[.bool false] D.length) 4)) (.cells #[sL (w.heap.size+1) D.length D.length] 151)
  simpa using this
 ·unfold cntStart
  have:=heap_alloc_new (((w.alloc (.cells #[ptrV db] 158)).alloc (.cells (madeCells #[.bool false] D.length) 4)).alloc (.cells #[sL (w.heap.size+1) D.length D.length] 151)) (.cells #[countFn w.heap.size] 383)
  simpa using this
set_option maxRecDepth 100000 in
set_option maxHeartbeats 2000000 in
theorem count_any (B db:Nat) (V:Value) (D:List DS) (w:World) (hdct:w.heap[db]?=some (.cells #[V] 172 (0,0))) (hrows:RowsIn B w V D) (hVdb:V.ownBlock≠some db) (h0:0 < D.length) (hlen:D.length≤1000000)
  (hz:∀ (i:Nat) s,D[i]?=some s→s.below=0) (c ρ:Nat→Nat) (hc:∀ i,c i≤1000000)
  (hST:∀ (i:Nat) s,D[i]?=some s→s.edges.length≤300∧(∀ e∈s.edges,e.2 < D.length∧ρ e.2 < ρ i)∧c i=(if s.final then 1 else 0)+(s.edges.map fun e=>c e.2).sum) :
  Calls Tryz.prog 142 #[ptrV db] w fun e w'=>e = .returned (.tuple #[]) ∧ ∃ D' dn',w'.heap[db]?=some (.cells #[V] 172 (0,0))∧RowsIn B w' V D'∧Mod (fun j=>V.ownBlock=some j) w w' ∧
   Turned c ρ (ρ 0) D (List.replicate D.length false) D' dn'∧dn'[0]?=some true∧Clo D dn':=by
 have hdlt:=lt_of_heap hdct
 obtain ⟨m,hm⟩:∃ m,D.length=m+1:=⟨D.length - 1,by omega⟩
 obtain ⟨g,cap,hV⟩:∃ g cap,V=sL g D.length cap:=by
  have hr:=hrows.row
  rw [hm] at hr
  obtain ⟨g,cap,e⟩:=ownsRow_head hr
  exact ⟨g,cap,by rw [hm]; exact e⟩
 have hVl:∀ k,V.ownBlock=some k→k < w.heap.size:=fun k e=>(hrows.row.lt k e).2
 obtain ⟨i0,hi,hz0,hz1,hz2⟩:=info_parts Tryz.info4
 have hmk:∀ W:World,(Instr.makeSlice 151 (iV D.length) (iV D.length)).run Tryz.prog W = .ok (sL W.heap.size D.length D.length) (W.alloc (.cells (madeCells #[.bool false] D.length) 4)):=fun W=>by
  have:=run_make (P:=Tryz.prog) W 151 4 i0 (.bool false) Tryz.underlying151 hi hz0 .i64 .i64 D.length D.length (by omega) (Int.le_refl _) (by rw [hz2]; omega) (by omega)
  rw [hz1] at this
  simpa [Value.cells] using this
 have hmf:∀ (fn:Fn) (first cap:Array Value) (w:World),(Instr.makeFunc fn first cap).run Tryz.prog w = .ok (.func fn first cap) w:=fun _ _ _ _=>rfl
 have d0:w.cell? (aD db 0)=some (sL g D.length cap):=by rw [← hV]; exact cell_block hdct
 have HZ:=Lib.hid hz
 have HC:=Lib.hid hc
 have HS:=Lib.hid hST
 have HV:=Lib.hid hV
 have HM:=Lib.hid hm
 clear hi hz hc hST hV hm hz0 hz1 hz2
 unfold ptrV
 go_enter Tryz.func142,Tryz.ntmps142
 go_wp2_with fail
 have hst:=Cnt.start hdct hrows hVdb
 refine (below_any B w.heap.size db V c ρ HC D HS hlen (ρ 0+1) 0 D (List.replicate D.length false) (cntStart w db D.length) (by omega) h0 (fun i s hi=>⟨s.below,hi⟩) rfl
  (fun i s hi _=>⟨fun e=>(by rw [List.getElem?_replicate] at e; split at e <;> cases e),fun _=>HZ i s hi⟩) (fun i s hi e=>(by rw [List.getElem?_replicate] at e; split at e <;> cases e)) hst).mono ?_
 rintro e w2 ⟨rfl,D',dn',hcn,hmod,htu,h0',hclo⟩
 go_wp2_with fail
 refine bodyPost_end (results_none rfl _ _ _) rfl ?_
 refine ⟨rfl,D',dn',hcn.dct,hcn.rows,⟨hmod.os,hmod.tape,hmod.output,Nat.le_trans (by unfold cntStart; simp; omega) hmod.size,fun j hj hn=>(hmod.block j (by unfold cntStart; simp; omega) ?_).trans (cntStart_old w db D.length j hj)⟩,htu,h0',hclo⟩
 rintro (e | e)
 ·exact hn e
 ·omega
end Go.Proofs.Ts
namespace Go.Proofs.Ts
open Go Go.RowKit
def targets (D:List DS) (i:Nat):List Nat:=match D[i]? with | some s=>s.edges.map (·.2) | none=>[]
def dfsE (E:Nat→List Nat):Nat→Nat→List Nat→List Nat
 | 0,_,S=>S
 | f+1,i,S=>if i∈S then S else (E i).foldl (fun S j=>dfsE E f j S) (S++[i])
theorem dfs_map {G:Graph} {K:Nat→Prop} {ν:Nat→Nat} {E:Nat→List Nat} (hinj:∀ a b,K a→K b→ν a=ν b→a=b) (hK:∀ n,K n → ∃ nd,G n=some nd∧E (ν n)=nd.edges.map (fun e=>ν e.2) ∧ ∀ e∈nd.edges,K e.2) :
  ∀ (f n:Nat) (M:List (Nat × Nat)),K n→(∀ p∈M,K p.1)→(dfsG G f n M).map (fun p=>ν p.1)=dfsE E f (ν n) (M.map fun p=>ν p.1) ∧ ∀ p∈dfsG G f n M,K p.1
 | 0,n,M,_,hM=>⟨rfl,hM⟩
 | f+1,n,M,hn,hM=>by
  obtain ⟨nd,hG,hE,hed⟩:=hK n hn
  have hmem:get M n=none↔ν n ∉ M.map fun p=>ν p.1:=by
   rw [get_none]
   constructor
   ·intro h hm
    obtain ⟨p,hp,e⟩:=List.mem_map.1 hm
    exact h p hp (hinj _ _ (hM p hp) hn e)
   ·intro h p hp e
    exact h (List.mem_map.2 ⟨p,hp,by rw [e]⟩)
  have fold:∀ (es:List (UInt8 × Nat)) (M:List (Nat × Nat)),(∀ e∈es,K e.2)→(∀ p∈M,K p.1) →
    (es.foldl (fun M e=>dfsG G f e.2 M) M).map (fun p=>ν p.1)=(es.map fun e=>ν e.2).foldl (fun S j=>dfsE E f j S) (M.map fun p=>ν p.1) ∧ ∀ p∈es.foldl (fun M e=>dfsG G f e.2 M) M,K p.1:=by
   intro es
   induction es with
   | nil=>exact fun M _ hM=>⟨rfl,hM⟩
   | cons e es ih =>
    intro M he hM
    obtain ⟨h1,h2⟩:=dfs_map hinj hK f e.2 M (he e List.mem_cons_self) hM
    rw [List.foldl_cons,List.map_cons,List.foldl_cons,← h1]
    exact ih _ (fun x hx=>he x (List.mem_cons_of_mem _ hx)) h2
  unfold dfsG dfsE
  cases hg:get M n with
  | some x=>exact ⟨(if_pos (Classical.byContradiction fun h=>by rw [hmem.2 h] at hg; cases hg)).symm,hM⟩
  | none =>
   rw [hG,if_neg (hmem.1 hg),hE]
   have:=fold nd.edges (M++[(n,M.length)]) hed fun p hp=>by
    rcases List.mem_append.1 hp with hp | hp
    ·exact hM p hp
    ·obtain rfl:=List.mem_singleton.1 hp
     exact hn
   simpa using this
theorem dfsE_in {E:Nat→List Nat} {K:Nat→Prop} (hK:∀ i,K i → ∀ j∈E i,K j):∀ (f i:Nat) (S:List Nat),K i→(∀ j∈S,K j) → ∀ j∈dfsE E f i S,K j
 | 0,i,S,_,hS=>hS
 | f+1,i,S,hi,hS=>by
  unfold dfsE
  split
  ·exact hS
  ·have fold:∀ (l:List Nat) (S:List Nat),(∀ j∈l,K j)→(∀ j∈S,K j) → ∀ j∈l.foldl (fun S j=>dfsE E f j S) S,K j:=by
    intro l
    induction l with
    | nil=>exact fun S _ hS=>hS
    | cons x l ih=>exact fun S hl hS=>ih _ (fun j hj=>hl j (List.mem_cons_of_mem _ hj)) (dfsE_in hK f x S (hl x List.mem_cons_self) hS)
   refine fold _ _ (hK i hi) fun j hj=>?_
   rcases List.mem_append.1 hj with hj | hj
   ·exact hS j hj
   ·obtain rfl:=List.mem_singleton.1 hj
    exact hi
structure DictOrd (D:List DS) (R:Nat→Prop) (Λ:Nat→List Word):Prop where
 inj:∀ i j,R i→R j→Λ i=Λ j→i=j
 ne:∀ i s,R i→D[i]?=some s → ∀ e∈s.edges,Λ e.2≠[]
 run:∃ f0,∀ f,f0≤f→dfsE (targets D) f 0 []=List.range D.length
structure DictIs (w:World) (db:Nat) (R:Nat→Prop) (Λ:Nat→List Word) (ρ:Nat→Nat) (D:List DS):Prop where
 mem:∃ V,w.heap[db]?=some (.cells #[V] 172 (0,0))∧RowsIn 0 w V D
 root:R 0∧ρ 0≤1000000
 state:∀ i,R i → ∃ s,D[i]?=some s∧Asc s.edges∧s.below=(Λ i).length∧Λ i=wordsAt s.final s.edges Λ ∧ ∀ e∈s.edges,R e.2∧ρ e.2 < ρ i
 ord:DictOrd D R Λ
theorem DictIs.full {w:World} {db:Nat} {R:Nat→Prop} {Λ:Nat→List Word} {ρ:Nat→Nat} {D:List DS} (h:DictIs w db R Λ ρ D) {i:Nat} (hi:i < D.length):R i:=by
 obtain ⟨f,hf⟩:=h.ord.run
 refine dfsE_in (E:=targets D) (K:=R) (fun i hi j hj=>?_) f 0 [] h.root.1 (fun j hj=>by cases hj) i (by rw [hf f (Nat.le_refl _)]; exact List.mem_range.2 hi)
 obtain ⟨s,h1,_,_,_,h2⟩:=h.state i hi
 unfold targets at hj
 rw [h1] at hj
 obtain ⟨e,he,rfl⟩:=List.mem_map.1 hj
 exact (h2 e he).1
def numStart (w:World):World :=
 ((((w.alloc (.cells #[.slice none 0 0] 172)).alloc (.cells #[ptrV w.heap.size] 158)).alloc (.map #[] 0)).alloc (.cells #[.map (some (w.heap.size+2))] 276)).alloc (.cells #[meetFn w.heap.size] 376)
theorem numStart_old (w:World) (j:Nat) (h:j < w.heap.size):(numStart w).heap[j]?=w.heap[j]?:=by
 unfold numStart
 rw [Below.heap_alloc _ _ _ (by simp; omega),Below.heap_alloc _ _ _ (by simp; omega),Below.heap_alloc _ _ _ (by simp; omega),Below.heap_alloc _ _ _ (by simp; omega),Below.heap_alloc _ _ _ h]
theorem numStart_below (w:World):Below w.heap.size w (numStart w):=⟨rfl,rfl,rfl,by unfold numStart; simp; omega,fun j hj=>numStart_old w j hj⟩
theorem Meet.start (w:World):Meet w.heap.size [] [] (.slice none 0 0) (numStart w):=by
 refine ⟨?_,?_,?_,?_,?_,RowsIn.empty _ _⟩
 ·unfold numStart
  rw [Below.heap_alloc _ _ _ (by simp <;> omega),Below.heap_alloc _ _ _ (by simp <;> omega),Below.heap_alloc _ _ _ (by simp <;> omega),Below.heap_alloc _ _ _ (by simp <;> omega)]
  exact heap_alloc_new _ _
 ·unfold numStart
  rw [Below.heap_alloc _ _ _ (by simp <;> omega),Below.heap_alloc _ _ _ (by simp <;> omega),Below.heap_alloc _ _ _ (by simp <;> omega)]
  have:=heap_alloc_new (w.alloc (.cells #[.slice none 0 0] 172)) (.cells #[ptrV w.heap.size] 158)
  simpa using this
 ·have:=MapIs.made ptrV ((w.alloc (.cells #[.slice none 0 0] 172)).alloc (.cells #[ptrV w.heap.size] 158))
  have hs:((w.alloc (.cells #[.slice none 0 0] 172)).alloc (.cells #[ptrV w.heap.size] 158)).heap.size=w.heap.size+2:=by simp
  rw [hs] at this
  refine this.of_block ?_
  unfold numStart
  rw [Below.heap_alloc _ _ _ (by simp <;> omega),Below.heap_alloc _ _ _ (by simp <;> omega)]
 ·unfold numStart
  rw [Below.heap_alloc _ _ _ (by simp <;> omega)]
  have:=heap_alloc_new (((w.alloc (.cells #[.slice none 0 0] 172)).alloc (.cells #[ptrV w.heap.size] 158)).alloc (.map #[] 0)) (.cells #[.map (some (w.heap.size+2))] 276)
  simpa using this
 ·unfold numStart
  have:=heap_alloc_new ((((w.alloc (.cells #[.slice none 0 0] 172)).alloc (.cells #[ptrV w.heap.size] 158)).alloc (.map #[] 0)).alloc (.cells #[.map (some (w.heap.size+2))] 276)) (.cells #[meetFn w.heap.size] 376)
  simpa using this
def nodeOf (M:List (Nat × Nat)) (i:Nat):Nat:=match M[i]? with | some p=>p.1 | none=>0
def wordsOf (M:List (Nat × Nat)) (L:Nat→List Word) (i:Nat):Nat:=match M[i]? with | some p=>(L p.1).length | none=>0
theorem nodeOf_at {M:List (Nat × Nat)} {i:Nat} {p:Nat × Nat} (h:M[i]?=some p):nodeOf M i=p.1:=by simp [nodeOf,h]
theorem wordsOf_at {M:List (Nat × Nat)} {L:Nat→List Word} {i:Nat} {p:Nat × Nat} (h:M[i]?=some p):wordsOf M L i=(L p.1).length:=by simp [wordsOf,h]
theorem Met.all {G:Graph} {Good:Nat→Prop} {H root:Nat} {V V':Value} {w w':World} {M:List (Nat × Nat)} {D:List DS} (h:Met G Good H root [] [] V w M D V' w') (k:Nat) (s:DS) (hk:D[k]?=some s) :
  ∃ n nd,M[k]?=some (n,k)∧G n=some nd∧s.final=nd.final∧s.below=0∧s.edges=nd.edges.map (fun e=>(e.1,(get M e.2).getD 0)) ∧ ∀ e∈nd.edges,M[(get M e.2).getD 0]?=some (e.2,(get M e.2).getD 0):=by
 have hcl:=fun k hk=>h.closed k (Nat.zero_le _) hk
 obtain ⟨n,s',nd,h1,h2,h3,h4,h5,h6,h7⟩:=hcl k (List.getElem?_eq_some_iff.1 hk).1
 rw [hk] at h2
 cases h2
 refine ⟨n,nd,h1,h3,h4,h5,h6,fun e he=>?_⟩
 obtain ⟨x,hx⟩:=Option.isSome_iff_exists.1 (h7 e he)
 rw [hx,Option.getD_some]
 obtain ⟨j,hj⟩:=List.getElem?_of_mem (get_some_mem hx)
 obtain ⟨n',s2,nd2,g1,_⟩:=hcl j (by rw [← h.len]; exact (List.getElem?_eq_some_iff.1 hj).1)
 rw [hj] at g1
 have:=congrArg Prod.snd (Option.some.inj g1)
 simp only at this
 rw [this] at hj ⊢
 exact hj
theorem wordsAt_length (f:Bool) (es:List (UInt8 × Nat)) (L:Nat→List Word):(wordsAt f es L).length=(if f then 1 else 0)+(es.map fun e=>(L e.2).length).sum:=by
 unfold wordsAt
 rw [List.length_append,List.length_flatMap]
 congr 1
 ·split <;> rfl
 ·simp
theorem wordsAt_map (f:Bool) (es:List (UInt8 × Nat)) (L Λ:Nat→List Word) (g:Nat→Nat) (h:∀ e∈es,Λ (g e.2)=L e.2):wordsAt f (es.map fun e=>(e.1,g e.2)) Λ=wordsAt f es L:=by
 unfold wordsAt
 rw [List.flatMap_map]
 congr 1
 rw [List.flatMap_def,List.flatMap_def]
 congr 1
 exact List.map_congr_left fun e he=>by simp only; rw [h e he]
theorem num_ord {G:Graph} {Good:Nat→Prop} {H root:Nat} {V V':Value} {w w':World} {M:List (Nat × Nat)} {D D':List DS} {L:Nat→List Word} {R:Nat→Prop} (h:Met G Good H root [] [] V w M D V' w') (hE:∀ (i:Nat) (st:DS),D[i]?=some st → ∃ b,D'[i]?=some { st with below:=b })
  (hlen:D'.length=D.length) (hR:∀ i,R i→i < D.length) (hinj:∀ a b,Good a→Good b→L a=L b→a=b) (hne:∀ n nd,Good n→G n=some nd → ∀ e∈nd.edges,L e.2≠[]):DictOrd D' R (fun i=>L (nodeOf M i)):=by
 have hMi:∀ i,i < D.length → ∃ n nd s,M[i]?=some (n,i)∧G n=some nd∧D[i]?=some s∧s.edges=nd.edges.map (fun e=>(e.1,(get M e.2).getD 0)) ∧ ∀ e∈nd.edges,M[(get M e.2).getD 0]?=some (e.2,(get M e.2).getD 0):=fun i hi=>by
  obtain ⟨n,nd,h1,h2,_,_,h5,h6⟩:=h.all i _ (List.getElem?_eq_getElem hi)
  exact ⟨n,nd,_,h1,h2,List.getElem?_eq_getElem hi,h5,h6⟩
 refine ⟨fun i j hi hj e=>?_,fun i s hi hs e he=>?_,?_⟩
 ·obtain ⟨a,_,_,h1,_⟩:=hMi i (hR i hi)
  obtain ⟨b,_,_,h2,_⟩:=hMi j (hR j hj)
  rw [nodeOf_at h1,nodeOf_at h2] at e
  have:=hinj _ _ (h.good _ (List.mem_of_getElem? h1)) (h.good _ (List.mem_of_getElem? h2)) e
  simp only at this
  subst this
  have k1:=get_of_mem h.apart (List.mem_of_getElem? h1)
  rw [get_of_mem h.apart (List.mem_of_getElem? h2)] at k1
  exact (Option.some.inj k1).symm
 ·obtain ⟨n,nd,st,h1,h2,h3,h4,h5⟩:=hMi i (hR i hi)
  obtain ⟨b,hb⟩:=hE i st h3
  rw [hb] at hs
  cases hs
  simp only at he
  rw [h4] at he
  obtain ⟨e0,he0,rfl⟩:=List.mem_map.1 he
  simp only
  rw [nodeOf_at (h5 e0 he0)]
  exact hne n nd (h.good _ (List.mem_of_getElem? h1)) h2 e0 he0
 ·obtain ⟨f0,hrun⟩:=h.run
  refine ⟨f0,fun f hf=>?_⟩
  have hkey:∀ n,(get M n).isSome → ∃ i,i < D.length∧get M n=some i∧M[i]?=some (n,i):=fun n hn=>by
   obtain ⟨x,hx⟩:=Option.isSome_iff_exists.1 hn
   obtain ⟨j,hj⟩:=List.getElem?_of_mem (get_some_mem hx)
   have hjl:j < D.length:=by rw [← h.len]; exact (List.getElem?_eq_some_iff.1 hj).1
   obtain ⟨n',_,_,g1,_⟩:=hMi j hjl
   rw [hj] at g1
   cases g1
   exact ⟨x,hjl,hx,hj⟩
  have hmap:=dfs_map (G:=G) (K:=fun n=>(get M n).isSome) (ν:=fun n=>(get M n).getD 0) (E:=targets D') (fun a b ha hb e=>?_) (fun n hn=>?_) f root [] h.has (fun p hp=>by cases hp)
  ·rw [← hrun f hf] at hmap
   have h0:(get M root).getD 0=0:=by
    rw [get_of_mem h.apart (List.mem_of_getElem? (at_prefix (h.first rfl) (by simp:([]++[(root,([]:List (Nat × Nat)).length)])[0]?=some (root,0))))]
    rfl
   rw [h0] at hmap
   rw [show dfsE (targets D') f 0 []=_ from hmap.1.symm,hlen,← h.len]
   refine List.ext_getElem? fun i=>?_
   by_cases hi:i < M.length
   ·obtain ⟨n,_,_,g1,_⟩:=hMi i (by rw [← h.len]; exact hi)
    rw [List.getElem?_map,g1,List.getElem?_range hi]
    simp only [Option.map_some]
    rw [get_of_mem h.apart (List.mem_of_getElem? g1)]
    rfl
   ·rw [List.getElem?_eq_none (by simp; omega),List.getElem?_eq_none (by simp; omega)]
  ·obtain ⟨i,_,h1,h2⟩:=hkey a ha
   obtain ⟨j,_,h3,h4⟩:=hkey b hb
   rw [h1,h3] at e
   simp only [Option.getD_some] at e
   subst e
   rw [h2] at h4
   exact congrArg Prod.fst (Option.some.inj h4)
  ·obtain ⟨i,hi,h1,h2⟩:=hkey n hn
   obtain ⟨n',nd,st,g1,g2,g3,g4,g5⟩:=hMi i hi
   rw [h2] at g1
   cases g1
   obtain ⟨b,hb⟩:=hE i st g3
   refine ⟨nd,g2,?_,fun e he=>by rw [get_of_mem h.apart (List.mem_of_getElem? (g5 e he))]; rfl⟩
   rw [h1,Option.getD_some]
   unfold targets
   rw [hb]
   simp only
   rw [g4,List.map_map]
   rfl
set_option maxRecDepth 100000 in
set_option maxHeartbeats 2000000 in
theorem number_any (s:St) (B bb kb ib:Nat) (w:World) (hst:StIn B bb kb ib w s) (Good:Nat→Prop) (ρ:Nat→Nat) (L:Nat→List Word)
  (hgood:∀ n,Good n → ∃ nd,s.G n=some nd∧nd.edges.length≤300 ∧ ∀ e∈nd.edges,Good e.2∧ρ e.2 < ρ n) (hfew:∀ M:List (Nat × Nat),Apart M→(∀ p∈M,Good p.1)→M.length≤1000000)
  (hL:∀ n nd,Good n→s.G n=some nd→Asc nd.edges∧L n=wordsAt nd.final nd.edges L∧(L n).length≤1000000) (root:Nat) (hroot:Good root) (hρr:ρ root≤1000000) (hinj:∀ a b,Good a→Good b→L a=L b→a=b) (hne:∀ n nd,Good n→s.G n=some nd → ∀ e∈nd.edges,L e.2≠[]) :
  Calls Tryz.prog 140 #[ptrV root] w fun e w'=>e = .returned (ptrV w.heap.size)∧Below w.heap.size w w' ∧ ∃ R Λ ρ' D,DictIs w' w.heap.size R Λ ρ' D∧Λ 0=L root:=by
 have hmm:=@run_makeMap Tryz.prog
 have hmf:∀ (fn:Fn) (first cap:Array Value) (w:World),(Instr.makeFunc fn first cap).run Tryz.prog w = .ok (.func fn first cap) w:=fun _ _ _ _=>rfl
 have HG:=Lib.hid hgood
 have HF:=Lib.hid hfew
 have HL:=Lib.hid hL
 have HINJ:=Lib.hid hinj
 have HNE:=Lib.hid hne
 clear hgood hfew hL hinj hne
 unfold ptrV
 go_enter Tryz.func140,Tryz.ntmps140
 go_wp2_with fail
 have hms:=Meet.start w
 refine (meet_any s B bb kb ib w.heap.size w hst rfl Good ρ HG HF (ρ root+1) root [] [] (.slice none 0 0) (numStart w) (Nat.lt_succ_self _) hroot (fun p hp=>by cases hp) List.nodup_nil rfl hms (numStart_below w)).mono ?_
 rintro e w2 ⟨M,D,V,rfl,hm⟩
 have hroot0:M[0]?=some (root,0):=at_prefix (hm.first rfl) (by simp)
 have hD0:0 < D.length:=by rw [← hm.len]; exact (List.getElem?_eq_some_iff.1 hroot0).1
 have hDl:D.length≤1000000:=by rw [← hm.len]; exact HF M hm.apart hm.good
 have hV5:=hm.meet.rows.past
 have c1:w2.cell? (aD (w.heap.size+1) 0)=some (pT w.heap.size):=cell_block hm.meet.cd
 have hall:=hm.all
 have HMS:=Lib.hid hm.meet
 have hcb:∀ i,wordsOf M L i≤1000000:=fun i=>by
  unfold wordsOf
  cases hi:M[i]? with
  | none=>simp
  | some p =>
   have hp:=hm.good p (List.mem_of_getElem? hi)
   obtain ⟨nd,h1,_⟩:=HG.out p.1 hp
   exact (HL p.1 nd hp h1).2.2
 have hsum:∀ (i:Nat) st,D[i]?=some st→st.edges.length≤300∧(∀ e∈st.edges,e.2 < D.length∧ρ (nodeOf M e.2) < ρ (nodeOf M i))∧wordsOf M L i=(if st.final then 1 else 0)+(st.edges.map fun e=>wordsOf M L e.2).sum:=fun i st hi=>by
  obtain ⟨n,nd,h1,h2,h3,h4,h5,h6⟩:=hall i st hi
  have hgn:=hm.good _ (List.mem_of_getElem? h1)
  obtain ⟨nd',g1,g2,g3⟩:=HG.out n hgn
  rw [h2] at g1
  cases g1
  obtain ⟨l1,l2,l3⟩:=HL.out n nd hgn h2
  refine ⟨by rw [h5]; simpa using g2,fun e he=>?_,?_⟩
  ·rw [h5] at he
   obtain ⟨e0,he0,rfl⟩:=List.mem_map.1 he
   have:=h6 e0 he0
   refine ⟨by rw [← hm.len]; exact (List.getElem?_eq_some_iff.1 this).1,?_⟩
   rw [nodeOf_at this,nodeOf_at h1]
   exact (g3 e0 he0).2
  ·rw [wordsOf_at h1,l2,wordsAt_length,h3,h5,List.map_map]
   congr 2
   refine List.map_congr_left fun e he=>?_
   simp only [Function.comp]
   rw [wordsOf_at (h6 e he)]
 have HSUM:=Lib.hid hsum
 have HALL:=Lib.hid hall
 have HCB:=Lib.hid hcb
 have HMET:=Lib.hid hm
 clear hsum hall hcb hm
 go_wp2_with fail
 refine (count_any (w.heap.size+5) w.heap.size V D w2 HMS.dct HMS.rows (fun e=>by have:=hV5 _ e; omega) hD0 hDl (fun i st hi=>by obtain ⟨_,_,_,_,_,h,_⟩:=HALL.out i st hi; exact h) (wordsOf M L) (fun i=>ρ (nodeOf M i)) HCB.out HSUM.out).mono ?_
 rintro e w3 ⟨rfl,D',dn,hd3,hr3,hmod3,htu,h03,hclo3⟩
 have c3:w3.cell? (aD (w.heap.size+1) 0)=some (pT w.heap.size) :=
  (hmod3.cell (p:=(aD (w.heap.size+1) 0)) (lt_of_cell c1) (fun e=>by have:=hV5 _ e; simp only at this; omega)).trans c1
 have hbel:Below w.heap.size w w3:=(numStart_below w).trans ((HMET.steps.below (fun k h=>by cases h) (by unfold numStart; simp; omega)).trans
  ⟨hmod3.os,hmod3.tape,hmod3.output,hmod3.size,fun j hj=>hmod3.block j (by have:=HMS.size; omega) (fun e=>by have:=hV5 _ e; omega)⟩)
 have HTU:=Lib.hid htu
 have HCLO:=Lib.hid hclo3
 have HR3:=Lib.hid hr3
 have HD3:=Lib.hid hd3
 clear htu hclo3 hr3 hd3 hmod3
 go_wp2_with fail
 go_ret
 have hdl:∀ i,dn[i]?=some true→i < D.length:=fun i hi=>by
  have h1:=(List.getElem?_eq_some_iff.1 hi).1
  have h2:=HTU.dlen
  rw [List.length_replicate] at h2
  omega
 have hE:∀ (i:Nat) (st:DS),D[i]?=some st → ∃ b,D'[i]?=some { st with below:=b }:=fun i st h=>by
  obtain ⟨b,g1,_⟩:=HTU.at_ i _ h
  exact ⟨b,g1⟩
 refine ⟨rfl,hbel,fun i=>dn[i]?=some true,fun i=>L (nodeOf M i),fun i=>ρ (nodeOf M i),D',⟨⟨V,HD3.out,HR3.kept0⟩,⟨h03,by show ρ (nodeOf M 0)≤_; rw [nodeOf_at hroot0]; exact hρr⟩,fun i hi=>?_,num_ord HMET hE HTU.len hdl HINJ HNE⟩,by simp only; rw [nodeOf_at hroot0]⟩
 have hil:=hdl i hi
 have hDi:D[i]?=some D[i]:=List.getElem?_eq_getElem hil
 obtain ⟨b,g1,g2⟩:=HTU.at_ i _ hDi
 have hb:b=wordsOf M L i:=by
  rcases g2 with ⟨_,g3⟩ | ⟨_,g3,_⟩
  ·rw [hi,List.getElem?_replicate,if_pos hil] at g3
   cases g3
  ·exact g3
 obtain ⟨n,nd,h1,h2,h3,h4,h5,h6⟩:=HALL.out i _ hDi
 have hgn:=HMET.good _ (List.mem_of_getElem? h1)
 obtain ⟨l1,l2,l3⟩:=HL.out n nd hgn h2
 obtain ⟨_,s2,_⟩:=HSUM.out i _ hDi
 refine ⟨_,g1,?_,?_,?_,fun e he=>⟨HCLO i _ hDi hi e he,(s2 e he).2⟩⟩
 ·show Asc D[i].edges
  rw [h5]
  exact List.pairwise_map.2 l1
 ·show b=_
  rw [hb,wordsOf_at h1,nodeOf_at h1]
 ·show L (nodeOf M i)=wordsAt D[i].final D[i].edges _
  rw [nodeOf_at h1,h3,h5,l2]
  exact (wordsAt_map nd.final nd.edges L _ (fun t=>(get M t).getD 0) (fun e he=>by rw [nodeOf_at (h6 e he)])).symm
end Go.Proofs.Ts
namespace Go.Proofs.Ts
open Go Go.RowKit
theorem RowsIn.cellsKept {B:Nat} {w w':World} {V:Value} {D:List DS} (h:RowsIn B w V D) (hk:∀ (k:Nat) cs t r,w.heap[k]?=some (.cells cs t r)→t≠168→w'.heap[k]?=w.heap[k]?):RowsIn B w' V D:=by
 have go:∀ {e size n:Nat} {v:Value} {xs:List Value},e≠168→w.ownsRow 0 e size v n xs→w'.ownsRow 0 e size v n xs:=fun he hr=>ownsRow_block hr fun k hk'=>by
  rcases hr.2 with ⟨rfl,_⟩ | ⟨g,cap,cur,rfl,_,hg,_⟩
  ·cases hk'
  ·cases hk'
   exact hk _ _ _ _ hg he
 exact ⟨go (by decide) h.row,h.past,fun i s hi=>go (by decide) (h.erow i s hi),h.epast,h.apart,h.apartV⟩
theorem DictIs.kept {w w':World} {db:Nat} {R:Nat→Prop} {Λ:Nat→List Word} {ρ:Nat→Nat} {D:List DS} (h:DictIs w db R Λ ρ D) (hk:∀ (k:Nat) cs t r,w.heap[k]?=some (.cells cs t r)→t≠168→w'.heap[k]?=w.heap[k]?):DictIs w' db R Λ ρ D:=by
 obtain ⟨V,h1,h2⟩:=h.mem
 exact ⟨⟨V,(hk _ _ _ _ h1 (by decide)).trans h1,h2.cellsKept hk⟩,h.root,h.state,h.ord⟩
theorem ownsRow_typed {w w':World} {B e size n:Nat} {v:Value} {xs:List Value} (hr:w.ownsRow B e size v n xs) (hk:∀ (k:Nat) cs r,w.heap[k]?=some (.cells cs e r)→w'.heap[k]?=w.heap[k]?):w'.ownsRow B e size v n xs :=
 ownsRow_block hr fun k hk'=>by
  rcases hr.2 with ⟨rfl,_⟩ | ⟨g,cap,cur,rfl,_,hg,_⟩
  ·cases hk'
  ·cases hk'
   exact hk _ _ _ hg
theorem wordsB_mem {d:ByteArray} {t:List UInt8} (h:t∈wordsB d):0 < t.length∧t.length≤16:=by
 unfold wordsB at h
 rw [List.mem_filter,List.mem_map] at h
 obtain ⟨⟨f,hf,rfl⟩,h16⟩:=h
 have hne:=(fields_all d.data.toList [] (by simp) f hf).1
 refine ⟨?_,by simpa using h16⟩
 unfold lowL
 rw [List.length_map]
 exact List.length_pos_iff.2 hne
theorem wordsB_length (d:ByteArray):(wordsB d).length≤d.size+1:=by
 unfold wordsB
 have h1:=List.length_filter_le (fun w:List UInt8=>decide (w.length≤16)) ((fields d.data.toList []).map lowL)
 have h2:=fields_count d.data.toList []
 rw [List.length_map] at h1
 have h3:d.data.toList.length=d.size:=by simp
 omega
theorem words_total:∀ (docs:List ByteArray),(∀ d∈docs,d.size≤200)→(docs.flatMap wordsB).length≤201 * docs.length
 | [],_=>by simp
 | d :: ds,h=>by
  have ih:=words_total ds fun x hx=>h x (by simp [hx])
  have h1:=wordsB_length d
  have h2:=h d (by simp)
  rw [List.flatMap_cons,List.length_append,List.length_cons]
  omega
theorem postsOf_words {docs:List ByteArray} {x:List UInt8} (h:postsOf ((docs.map wordsB).take docs.length) x≠[]):∃ d∈docs,x∈wordsB d:=by
 obtain ⟨j,hj⟩:=List.exists_mem_of_ne_nil _ h
 obtain ⟨ws,h1,h2⟩:=(postsOf_mem _ _ _).1 hj
 have h3:=List.mem_of_getElem? h1
 obtain ⟨d,h4,rfl⟩:=List.mem_map.1 (List.mem_of_mem_take h3)
 exact ⟨d,h4,h2⟩
end Go.Proofs.Ts
namespace Go.Proofs.Ts
open Go Go.RowKit
theorem StIn.grow {B bb kb ib:Nat} {w W:World} {s:St} (h:StIn B bb kb ib w s) {L:Nat} {nd:Nd} {c:UInt8} {v:Value} (hG:s.G L=some nd)
  (hM:W.heap[w.heap.size]?=some (.cells #[.bool false,.slice none 0 0] 282 (0,0))) (hmv:Moves w nd.v W v) (hne:v.ownBlock≠some w.heap.size)
  (hrow:W.ownsRow 0 284 2 v (nd.edges.length+1) (Ts.edgeCells (nd.edges++[(c,w.heap.size)]))) :
  StIn B bb kb ib (W.setCell (aD L 1) v) (growG s L w.heap.size c nd v):=by
 obtain ⟨a1,a2⟩:=h.mapsApart
 have lt:∀ {x:Nat} {o:Obj},w.heap[x]?=some o→x < w.heap.size:=fun hx=>(Array.getElem?_eq_some_iff.1 hx).1
 have hLlt:=lt (h.nodes.node L nd hG)
 have hLb:=h.nodeBlock hG
 have hvL:nd.v.ownBlock≠some L:=fun e=>(h.rowBlock hG e).2.2.2 L nd hG rfl
 have hBsz:B≤w.heap.size:=Nat.le_trans (h.nodes.ge L nd hG).1 (Nat.le_of_lt hLlt)
 -- blocks that have not turned
 have old:∀ k,k < w.heap.size→k≠L→nd.v.ownBlock≠some k→(W.setCell (aD L 1) v).heap[k]?=w.heap[k]?:=fun k hk hkL hkv =>
  (Below.heap_setCell W _ _ k hkL).trans (hmv.block hk hkv)
 have oldL:(W.setCell (aD L 1) v).heap[L]?=some (.cells #[.bool nd.final,v] 282 (0,0)):=by
  have hWL:W.heap[L]?=some (.cells #[.bool nd.final,nd.v] 282 (0,0)):=(hmv.block hLlt hvL).trans (h.nodes.node L nd hG)
  have:=heap_setCell_same W L 1 _ _ v hWL
  simpa using this
 have newM:(W.setCell (aD L 1) v).heap[w.heap.size]?=some (.cells #[.bool false,.slice none 0 0] 282 (0,0)):=(Below.heap_setCell W _ _ _ (by show w.heap.size≠L; omega)).trans hM
 have vblock:∀ g,v.ownBlock=some g→g≠L∧(nd.v.ownBlock=some g∨w.heap.size < g):=fun g hg=>by
  rcases hmv.lies with e | ⟨g',e,hg'⟩
  ·rw [hg] at e
   exact ⟨fun x=>hvL (by rw [← e,x]),.inl e.symm⟩
  ·rw [hg] at e
   cases e
   have:g≠w.heap.size:=fun x=>hne (by rw [hg,x])
   exact ⟨by omega,.inr (by omega)⟩
 have vpast:Past B v:=hmv.past (h.nodes.ge L nd hG).2 hBsz
 have dom:∀ k,(s.G k).isSome→((growG s L w.heap.size c nd v).G k).isSome:=fun k hk=>by
  simp only [growG,upd]
  split
  ·rfl
  ·split
   ·rfl
   ·exact hk
 have cases':∀ b x,(growG s L w.heap.size c nd v).G b=some x→(b=L∧x={ nd with edges:=nd.edges++[(c,w.heap.size)],v:=v })∨(b=w.heap.size∧b≠L∧x=⟨false,[],.slice none 0 0⟩)∨(b≠L∧b < w.heap.size∧s.G b=some x):=fun b x hb=>by
  simp only [growG,upd] at hb
  split at hb
  ·rename_i e; cases hb; exact .inl ⟨e,rfl⟩
  ·rename_i e
   split at hb
   ·rename_i e'; cases hb; exact .inr (.inl ⟨e',e,rfl⟩)
   ·exact .inr (.inr ⟨e,lt (h.nodes.node b x hb),hb⟩)
 refine ⟨⟨fun b x hb=>?_,fun b x hb=>?_,fun b x hb=>?_,fun b b' x x' g hbb hb hb' hg=>?_⟩,h.bb_ge,h.kb_ge,h.ib_ge,h.ne,?_,h.kn.of_block (old kb h.kn.lt (fun e=>hLb.2.1 e.symm) (fun e=>(h.rowBlock hG e).2.1 rfl)),
  h.ids.of_block (old ib h.ids.lt (fun e=>hLb.2.2 e.symm) (fun e=>(h.rowBlock hG e).2.2.1 rfl)),fun p hp=>dom _ (h.idsIn p hp),fun p hp=>dom _ (h.knIn p hp),fun b x hb p hp=>?_⟩
 ·rcases cases' b x hb with ⟨rfl,rfl⟩ | ⟨rfl,_,rfl⟩ | ⟨_,_,hb'⟩
  ·exact ⟨(h.nodes.ge b nd hG).1,vpast⟩
  ·exact ⟨hBsz,fun k hk=>by cases hk⟩
  ·exact h.nodes.ge b x hb'
 ·rcases cases' b x hb with ⟨rfl,rfl⟩ | ⟨rfl,_,rfl⟩ | ⟨hbL,hbl,hb'⟩
  ·exact oldL
  ·exact newM
  ·rw [old b hbl hbL (fun e=>(h.rowBlock hG e).2.2.2 b x hb' rfl)]
   exact h.nodes.node b x hb'
 ·rcases cases' b x hb with ⟨rfl,rfl⟩ | ⟨rfl,_,rfl⟩ | ⟨hbL,hbl,hb'⟩
  ·have hl:(nd.edges++[(c,w.heap.size)]).length=nd.edges.length+1:=by simp
   simp only [hl]
   exact ownsRow_block hrow fun g hg=>Below.heap_setCell W _ _ g (vblock g hg).1
  ·exact World.ownsRow_nil _ _ _ _
  ·refine ownsRow_block (h.nodes.row b x hb') fun g hg=>old g ((h.nodes.row b x hb').lt g hg).2 ?_ ?_
   ·exact (h.rowBlock hb' hg).2.2.2 L nd hG
   ·intro e
    exact h.nodes.apart L b nd x g (Ne.symm hbL) hG hb' e hg
 ·rcases cases' b x hb with ⟨rfl,rfl⟩ | ⟨rfl,_,rfl⟩ | ⟨hbL,hbl,hb1⟩
  ·rcases cases' b' x' hb' with ⟨rfl,rfl⟩ | ⟨rfl,_,rfl⟩ | ⟨hbL',hbl',hb1'⟩
   ·exact absurd rfl hbb
   ·intro e; cases e
   ·intro e
    rcases (vblock g hg).2 with e' | e'
    ·exact h.nodes.apart b b' nd x' g hbb hG hb1' e' e
    ·have:=((h.nodes.row b' x' hb1').lt g e).2; omega
  ·cases hg
  ·rcases cases' b' x' hb' with ⟨rfl,rfl⟩ | ⟨rfl,_,rfl⟩ | ⟨hbL',hbl',hb1'⟩
   ·intro e
    rcases (vblock g e).2 with e' | e'
    ·exact h.nodes.apart b b' x nd g hbb hb1 hG hg e'
    ·have:=((h.nodes.row b x hb1).lt g hg).2; omega
   ·intro e; cases e
   ·exact h.nodes.apart b b' x x' g hbb hb1 hb1' hg
 ·rw [old bb (lt h.bld) (fun e=>hLb.1 e.symm) (fun e=>(h.rowBlock hG e).1 rfl)]
  exact h.bld
 ·rcases cases' b x hb with ⟨rfl,rfl⟩ | ⟨rfl,_,rfl⟩ | ⟨hbL,hbl,hb'⟩
  ·rcases List.mem_append.1 hp with hp | hp
   ·exact dom _ (h.toIn b nd hG p hp)
   ·simp at hp
    subst hp
    simp only [growG,upd]
    split
    ·rfl
    ·simp
  ·cases hp
  ·exact dom _ (h.toIn b x hb' p hp)
theorem StIn.close {B bb kb ib:Nat} {w:World} {s:St} (h:StIn B bb kb ib w s) {L:Nat} {nd:Nd} (hG:s.G L=some nd):StIn B bb kb ib (w.setCell (aD L 0) (.bool true)) (closeG s L nd):=by
 have hLb:=h.nodeBlock hG
 have old:∀ k,k≠L→(w.setCell (aD L 0) (.bool true)).heap[k]?=w.heap[k]?:=fun k hk=>Below.heap_setCell w _ _ k hk
 have oldL:(w.setCell (aD L 0) (.bool true)).heap[L]?=some (.cells #[.bool true,nd.v] 282 (0,0)):=by
  have:=heap_setCell_same w L 0 _ _ (.bool true) (h.nodes.node L nd hG)
  simpa using this
 have dom:∀ k,(s.G k).isSome→((closeG s L nd).G k).isSome:=fun k hk=>by
  simp only [closeG,upd]
  split
  ·rfl
  ·exact hk
 have cases':∀ b x,(closeG s L nd).G b=some x → ∃ y,s.G b=some y∧x.v=y.v∧x.edges=y.edges∧((b=L∧x.final=true)∨(b≠L∧x=y)):=fun b x hb=>by
  simp only [closeG,upd] at hb
  split at hb
  ·rename_i e; cases hb; subst e; exact ⟨nd,hG,rfl,rfl,.inl ⟨rfl,rfl⟩⟩
  ·rename_i e; exact ⟨x,hb,rfl,rfl,.inr ⟨e,rfl⟩⟩
 refine ⟨⟨fun b x hb=>?_,fun b x hb=>?_,fun b x hb=>?_,fun b b' x x' g hbb hb hb' hg=>?_⟩,h.bb_ge,h.kb_ge,h.ib_ge,h.ne,(old bb (Ne.symm hLb.1)).trans h.bld,h.kn.of_block (old kb (Ne.symm hLb.2.1)),
  h.ids.of_block (old ib (Ne.symm hLb.2.2)),fun p hp=>dom _ (h.idsIn p hp),fun p hp=>dom _ (h.knIn p hp),fun b x hb p hp=>?_⟩
 ·obtain ⟨y,hy,e1,_,_⟩:=cases' b x hb
  rw [e1]
  exact h.nodes.ge b y hy
 ·obtain ⟨y,hy,e1,_,⟨rfl,e3⟩ | ⟨e2,rfl⟩⟩:=cases' b x hb
  ·rw [hG] at hy
   cases hy
   rw [e1,e3]
   exact oldL
  ·rw [old b e2]
   exact h.nodes.node b _ hy
 ·obtain ⟨y,hy,e1,e2,_⟩:=cases' b x hb
  rw [e1,e2]
  exact ownsRow_block (h.nodes.row b y hy) fun g hg=>old g ((h.rowBlock hy hg).2.2.2 L nd hG)
 ·obtain ⟨y,hy,e1,_,_⟩:=cases' b x hb
  obtain ⟨y',hy',e1',_,_⟩:=cases' b' x' hb'
  rw [e1] at hg
  rw [e1']
  exact h.nodes.apart b b' y y' g hbb hy hy' hg
 ·obtain ⟨y,hy,_,e2,_⟩:=cases' b x hb
  rw [e2] at hp
  exact dom _ (h.toIn b y hy p hp)
end Go.Proofs.Ts
namespace Go.Proofs.Ts
open Go Go.RowKit
def StrsIs (w:World) (v:Value) (ss:List ByteArray):Prop :=
 ∃ a cap,v = .slice a ss.length cap ∧ ∀ i (h:i < ss.length),∃ b off,a=some ⟨b,off,none⟩∧w.cell? ⟨b,off+i,none⟩=some (.string ss[i])
end Go.Proofs.Ts
namespace Go.Proofs.Ts
open Go Go.RowKit
def lastW (ts:List ByteArray) (k:Nat):List UInt8:=if k=0 then [] else (ts.getD (k - 1) ByteArray.empty).data.toList
def listsOf (ts:List ByteArray):List Word:=ts.map fun t=>t.data.toList
def Stop (t u:List UInt8) (p:Nat):Prop:=p≤t.length∧p≤u.length∧t.take p=u.take p∧(p=t.length∨p=u.length∨t.getD p 0≠u.getD p 0)
theorem common_succ (t u:ByteArray) (q:Nat) (h1:q < t.size) (h2:q < u.size) (h:t[q]=u[q]) (hc:t.data.toList.take q=u.data.toList.take q):t.data.toList.take (q+1)=u.data.toList.take (q+1):=by
 rw [take_succ_str t q h1,take_succ_str u q h2,hc,h]
theorem getD_str' (s:ByteArray) (k:Nat) (h:k < s.size):s.data.toList.getD k 0=s[k]:=getD_str s k h
theorem start_in (w:World):StIn w.heap.size (w.heap.size+1+1) w.heap.size (w.heap.size+1)
  ((((w.alloc (.map #[] 0)).alloc (.map #[] 0)).alloc (.cells #[.map (some w.heap.size),.map (some (w.heap.size+1))] 278)).alloc (.cells #[.bool false,.slice none 0 0] 282)) (start (w.heap.size+1+1+1)):=by
 have only:∀ b nd,(start (w.heap.size+1+1+1)).G b=some nd→b=w.heap.size+1+1+1∧nd=⟨false,[],.slice none 0 0⟩:=fun b nd h=>by
  simp only [start,upd] at h
  split at h
  ·rename_i e; cases h; exact ⟨e,rfl⟩
  ·cases h
 refine ⟨⟨fun b nd h=>?_,fun b nd h=>?_,fun b nd h=>?_,fun b b' nd nd' g hne h h'=>?_⟩,by omega,by omega,by omega,by omega,?_,?_,?_,(fun p hp=>by cases hp),(fun p hp=>by cases hp),fun b nd h p hp=>?_⟩
 ·obtain ⟨rfl,rfl⟩:=only b nd h
  exact ⟨by omega,fun k e=>by cases e⟩
 ·obtain ⟨rfl,rfl⟩:=only b nd h
  have:=heap_alloc_new (((w.alloc (.map #[] 0)).alloc (.map #[] 0)).alloc (.cells #[.map (some w.heap.size),.map (some (w.heap.size+1))] 278)) (.cells #[.bool false,.slice none 0 0] 282)
  simpa using this
 ·obtain ⟨rfl,rfl⟩:=only b nd h
  exact World.ownsRow_nil _ _ _ _
 ·obtain ⟨rfl,rfl⟩:=only b nd h
  obtain ⟨rfl,rfl⟩:=only b' nd' h'
  exact absurd rfl hne
 ·rw [Below.heap_alloc _ _ _ (by simp <;> omega)]
  have:=heap_alloc_new ((w.alloc (.map #[] 0)).alloc (.map #[] 0)) (.cells #[.map (some w.heap.size),.map (some (w.heap.size+1))] 278)
  simpa using this
 ·refine (MapIs.made shapeV w).of_block ?_
  rw [Below.heap_alloc _ _ _ (by simp <;> omega),Below.heap_alloc _ _ _ (by simp <;> omega),Below.heap_alloc _ _ _ (by simp <;> omega)]
 ·have:=MapIs.made ptrV (w.alloc (.map #[] 0))
  have hs:(w.alloc (.map #[] 0)).heap.size=w.heap.size+1:=by simp
  rw [hs] at this
  refine this.of_block ?_
  rw [Below.heap_alloc _ _ _ (by simp <;> omega),Below.heap_alloc _ _ _ (by simp <;> omega)]
 ·obtain ⟨rfl,rfl⟩:=only b nd h
  cases hp
theorem start_below (w:World):Below w.heap.size w
  ((((w.alloc (.map #[] 0)).alloc (.map #[] 0)).alloc (.cells #[.map (some w.heap.size),.map (some (w.heap.size+1))] 278)).alloc (.cells #[.bool false,.slice none 0 0] 282)) :=
 ((((Below.refl _ w).alloc (Nat.le_refl _) _).alloc (by simp) _).alloc (by simp; omega) _).alloc (by simp; omega) _
theorem start_bare (root:Nat):Bare (start root) root [] []:=by
 intro nd h
 simp only [nodeAt,start,upd,List.length_nil,List.getD_cons_zero,if_true] at h
 cases h
 exact ⟨rfl,fun h=>absurd h (Nat.lt_irrefl _)⟩
theorem start_small (root:Nat):Small (start root) where
 edges:=fun b nd h=>by
  simp only [start,upd] at h
  split at h
  ·cases h; simp
  ·cases h
 ids:=fun p hp=>by cases hp
 len:=by simp [start]
theorem spine_cells {B bb kb ib:Nat} {w:World} {s:St} {root:Nat} {u:List UInt8} {ns:List Nat} {W:List Word} (h:StIn B bb kb ib w s) (hf:FI s root u ns W) (hsm:Small s) {i:Nat} (hi:i < u.length) :
  ∃ g cap m,w.cell? (aD (nodeAt root ns i) 1)=some (sL g (m+1) cap)∧w.cell? (aD g (m * 2+1))=some (pT (nodeAt root ns (i+1)))∧m≤300:=by
 obtain ⟨nd,es,hG,he⟩:=hf.step hi
 obtain ⟨g,cap,e1,_,e3⟩:=h.edgeCells hG (i:=es.length) (c:=u.getD i 0) (t:=nodeAt root ns (i+1)) (by rw [he]; simp)
 obtain ⟨_,a,cap',f1,f2⟩:=h.nodeCells hG
 have hl:nd.edges.length=es.length+1:=by rw [he]; simp
 rw [e1,hl] at f1
 simp only [Value.slice.injEq] at f1
 obtain ⟨rfl,_,rfl⟩:=f1
 rw [hl] at f2
 exact ⟨g,cap,es.length,f2,e3,by have:=hsm.edges _ nd hG; omega⟩
theorem Tryz.info284:(Tryz.prog.info? 284).map (fun i=>(i.zero,i.size,i.bytes))=some (some (.agg #[.int .u8 0,.pointer none]),2,16):=by kernel_rfl
theorem lastW_len (ts:List ByteArray) (h:∀ t∈ts,0 < t.size∧t.size≤16) (k:Nat) (hk:k≤ts.length):(lastW ts k).length≤16:=by
 unfold lastW
 split
 ·simp
 ·have hlt:k - 1 < ts.length:=by omega
  rw [List.getD_eq_getElem?_getD,List.getElem?_eq_getElem hlt,Option.getD_some]
  have:=(h _ (List.getElem_mem hlt)).2
  simpa using this
theorem lastW_lt (ts:List ByteArray) (h:∀ t∈ts,0 < t.size∧t.size≤16) (ha:ts.Pairwise fun a b=>a.data.toList < b.data.toList) (k:Nat) (hk:k < ts.length):lastW ts k < ts[k].data.toList:=by
 unfold lastW
 split
 ·rename_i h0
  have hp:=(h _ (List.getElem_mem hk)).1
  have hne:ts[k].data.toList≠[]:=by
   intro e
   have hl:=congrArg List.length e
   rw [Array.length_toList,List.length_nil] at hl
   have:ts[k].size=ts[k].data.size:=rfl
   omega
  cases hh:ts[k].data.toList with
  | nil=>exact absurd hh hne
  | cons x r=>exact List.nil_lt_cons x r
 ·have hlt:k - 1 < ts.length:=by omega
  rw [List.getD_eq_getElem?_getD,List.getElem?_eq_getElem hlt,Option.getD_some]
  exact List.pairwise_iff_getElem.1 ha (k - 1) k hlt hk (by omega)
theorem stop_lt:∀ (u t:List UInt8) (p:Nat),u < t→Stop t u p→p < t.length∧(p < u.length→u.getD p 0 < t.getD p 0)
 | [],t,p,h,hs=>by
  obtain ⟨h1,h2,h3,h4⟩:=hs
  simp at h2
  subst h2
  cases t with
  | nil=>exact absurd h (List.lt_irrefl [])
  | cons x r=>simp
 | c :: u,[],p,h,hs=>absurd h (List.not_lt_nil _)
 | c :: u,d :: t,0,h,hs=>by
  obtain ⟨h1,h2,h3,h4⟩:=hs
  have hne:c≠d:=by
   rcases h4 with h4 | h4 | h4
   ·simp at h4
   ·simp at h4
   ·simpa using Ne.symm h4
  refine ⟨by simp,fun _=>?_⟩
  rw [List.cons_lt_cons_iff] at h
  simpa [hne] using h
 | c :: u,d :: t,p+1,h,hs=>by
  obtain ⟨h1,h2,h3,h4⟩:=hs
  simp only [List.take_succ_cons,List.cons.injEq] at h3
  obtain ⟨rfl,h3⟩:=h3
  have hlt:u < t:=by
   rw [List.cons_lt_cons_iff] at h
   rcases h with h | h
   ·exact absurd h (by simp)
   ·exact h.2
  have ih:=stop_lt u t p hlt ⟨by simpa using h1,by simpa using h2,h3,by simpa using h4⟩
  simpa using ih
theorem nodeAt_take (root:Nat) (ns:List Nat) (q i:Nat) (h:i≤q):nodeAt root (ns.take q) i=nodeAt root ns i:=by
 unfold nodeAt
 cases i with
 | zero=>rfl
 | succ i =>
  simp only [List.getD_eq_getElem?_getD,List.getElem?_cons_succ,List.getElem?_take]
  rw [if_pos (by omega)]
def LeafOk (s:St) (t:List UInt8) (root:Nat) (ns:List Nat) (q j:Nat):Prop :=
 ∀ nd,s.G (nodeAt root ns j)=some nd→(j < t.length → ∀ e∈nd.edges,e.1 < t.getD j 0)∧(q < j→nd.edges=[]∧nd.final=false)
structure GrowRel (H bb kb ib root:Nat) (W:List Word) (t:List UInt8) (ids q:Nat) (w:World) (j:Nat) (s:St) (ns:List Nat) (wr:World):Prop where
 st:StIn H bb kb ib wr s
 fi:FI s root (t.take j) ns W
 leaf:LeafOk s t root ns q j
 small:Small s
 ids:s.ids.length≤ids
 below:Below H w wr
structure FromRel (H bb kb ib root:Nat) (ts:List ByteArray) (w:World) (k:Nat) (lb:ByteArray) (s:St) (ns:List Nat) (wr:World):Prop where
 st:StIn H bb kb ib wr s
 fi:FI s root (lastW ts k) ns ((listsOf ts).take k)
 bare:Bare s root (lastW ts k) ns
 small:Small s
 ids:s.ids.length≤20 * k
 below:Below H w wr
 last:lb.data.toList=lastW ts k
theorem Asc.length {es:List (UInt8 × Nat)} (h:Asc es):es.length≤256:=by
 have h1:(es.map fun p=>p.1.toNat).Nodup:=by
  rw [List.Nodup,List.pairwise_map]
  exact h.imp fun hab=>by have:=UInt8.lt_iff_toNat_lt.1 hab; omega
 have h2:(es.map fun p=>p.1.toNat) ⊆ List.range 256:=fun x hx=>by
  obtain ⟨p,_,rfl⟩:=List.mem_map.1 hx
  exact List.mem_range.2 p.1.toNat_lt
 have:=h1.length_le_of_subset h2
 simpa using this
theorem nodeAt_last (root:Nat) (ns:List Nat) (m:Nat):nodeAt root (ns++[m]) (ns.length+1)=m:=by
 simp [nodeAt,List.getD_eq_getElem?_getD]
theorem GrowRel.step {H bb kb ib root ids q j:Nat} {W:List Word} {t:List UInt8} {w wr W':World} {s:St} {ns:List Nat} (h:GrowRel H bb kb ib root W t ids q w j s ns wr) (hj:j < t.length) {nd:Nd} {v:Value} (hG:s.G (nodeAt root ns j)=some nd)
  (hin:StIn H bb kb ib W' (growG s (nodeAt root ns j) wr.heap.size (t.getD j 0) nd v)) (hb:Below H wr W') :
  GrowRel H bb kb ib root W t ids q w (j+1) (growG s (nodeAt root ns j) wr.heap.size (t.getD j 0) nd v) (ns++[wr.heap.size]) W'∧nodeAt root (ns++[wr.heap.size]) (j+1)=wr.heap.size:=by
 have hlen:(t.take j).length=j:=by simp; omega
 have hnl:ns.length=j:=by rw [h.fi.len,hlen]
 have hna:nodeAt root (ns++[wr.heap.size]) (j+1)=wr.heap.size:=by rw [← hnl]; exact nodeAt_last root ns _
 have hm:s.G wr.heap.size=none:=by
  cases e:s.G wr.heap.size with
  | none=>rfl
  | some x=>exact absurd (lt_of_heap (h.st.nodes.node _ x e)) (Nat.lt_irrefl _)
 have hi:get s.ids wr.heap.size=none:=by
  cases e:get s.ids wr.heap.size with
  | none=>rfl
  | some x=>have:=h.st.idsIn _ (get_some_mem e); rw [hm] at this; cases this
 have hlf:=h.leaf nd hG
 have hne:nodeAt root ns j≠wr.heap.size:=fun e=>by rw [e,hm] at hG; cases hG
 have hG':=hG
 rw [← hlen] at hG'
 have hfi:=h.fi.grow (c:=t.getD j 0) (v:=v) hG' hm hi (hlf.1 hj)
 rw [hlen] at hfi
 have htk:t.take j++[t.getD j 0]=t.take (j+1):=by
  rw [List.getD_eq_getElem?_getD,List.getElem?_eq_getElem hj,Option.getD_some,List.take_append_getElem hj]
 rw [htk] at hfi
 refine ⟨⟨hin,hfi,?_,⟨?_,h.small.ids,h.small.len⟩,h.ids,h.below.trans hb⟩,hna⟩
 ·intro nd' hn'
  rw [hna] at hn'
  simp only [growG,upd] at hn'
  rw [if_neg (Ne.symm hne),if_pos trivial] at hn'
  cases hn'
  exact ⟨fun _ e he=>(by cases he),fun _=>⟨rfl,rfl⟩⟩
 ·intro b x hx
  simp only [growG,upd] at hx
  split at hx
  ·cases hx
   obtain ⟨nd0,es,e1,e2⟩:=hfi.step (i:=j) (by simp; omega)
   have hasc:Asc (nd.edges++[(t.getD j 0,wr.heap.size)]):=by
    refine List.pairwise_append.2 ⟨?_,List.pairwise_singleton _ _,?_⟩
    ·obtain ⟨nd1,g1,g2⟩:=h.fi.leaf
     rw [hlen,hG] at g1
     cases g1
     exact g2
    ·intro a ha b hb
     simp at hb
     subst hb
     exact hlf.1 hj a ha
   exact Nat.le_trans hasc.length (by decide)
  ·split at hx
   ·cases hx; simp
   ·exact h.small.edges b x hx
theorem GrowRel.close {H bb kb ib root q:Nat} {ts:List ByteArray} {k:Nat} {w wr:World} {s:St} {ns:List Nat} {t:ByteArray} (h:GrowRel H bb kb ib root ((listsOf ts).take k) t.data.toList (20 * k+16) q w t.size s ns wr)
  (hk:k < ts.length) (ht:t=ts[k]) (hq:q < t.size) {nd:Nd} (hG:s.G (nodeAt root ns t.size)=some nd) :
  FromRel H bb kb ib root ts w (k+1) t (closeG s (nodeAt root ns t.size) nd) ns (wr.setCell (aD (nodeAt root ns t.size) 0) (.bool true)):=by
 have hts:t.data.toList.length=t.size:=by simp
 have htk:t.data.toList.take t.size=t.data.toList:=by rw [← hts]; exact List.take_length
 obtain ⟨h1,h2⟩:=(h.leaf nd hG).2 hq
 have hlast:lastW ts (k+1)=t.data.toList:=by
  unfold lastW
  rw [if_neg (by omega),Nat.add_sub_cancel,List.getD_eq_getElem?_getD,List.getElem?_eq_getElem hk,Option.getD_some,ht]
 have hG':=hG
 rw [← hts] at hG'
 have hf:=h.fi
 rw [htk] at hf
 have hfc:=hf.close hG' h1 h2
 have hW:(listsOf ts).take k++[t.data.toList]=(listsOf ts).take (k+1):=by
  have hk':k < (listsOf ts).length:=by simpa [listsOf] using hk
  rw [← List.take_append_getElem hk']
  simp [listsOf,ht]
 rw [hW] at hfc
 rw [hts] at hfc
 refine ⟨h.st.close hG,by rw [hlast]; exact hfc,?_,⟨?_,h.small.ids,h.small.len⟩,by have:=h.ids; show s.ids.length≤_; omega,h.below.setCell (h.st.nodes.ge _ nd hG).1 _,hlast.symm⟩
 ·rw [hlast]
  intro x hx
  rw [hts] at hx
  simp only [closeG,upd,if_true] at hx
  cases hx
  exact ⟨h1,fun _=>rfl⟩
 ·intro b x hx
  simp only [closeG,upd] at hx
  split at hx
  ·cases hx; exact h.small.edges _ nd hG
  ·exact h.small.edges b x hx
set_option maxRecDepth 100000 in
set_option maxHeartbeats 4000000 in
theorem from_any (v:Value) (ts:List ByteArray) (w:World) (hv:StrsIs w v ts) (hn:ts.length≤10000) (hsz:∀ t∈ts,0 < t.size∧t.size≤16) (hasc:ts.Pairwise fun a b=>a.data.toList < b.data.toList) :
  Calls Tryz.prog 94 #[v] w fun e w'=>∃ db R Λ ρ D,e = .returned (ptrV db)∧Below w.heap.size w w'∧DictIs w' db R Λ ρ D∧Λ 0=listsOf ts:=by
 obtain ⟨a,cap,rfl,hc⟩:=hv
 have hmm:=@run_makeMap Tryz.prog
 have HC:=Lib.hid hc
 have HSZ:=Lib.hid hsz
 have HASC:=Lib.hid hasc
 go_enter Tryz.func94,Tryz.ntmps94
 go_wp2_with fail
 have hst:=start_in w
 have hbl:=start_below w
 generalize ((((w.alloc (.map #[] 0)).alloc (.map #[] 0)).alloc (.cells #[.map (some w.heap.size),.map (some (w.heap.size+1))] 278)).alloc (.cells #[.bool false,.slice none 0 0] 282))=W0 at *
 generalize w.heap.size+1+1+1=root at *
 generalize w.heap.size+1+1=bb at *
 generalize w.heap.size+1=ib at *
 obtain ⟨kb,hkb⟩:∃ kb,kb=w.heap.size:=⟨_,rfl⟩
 have hst':StIn w.heap.size bb kb ib W0 (start root):=by rw [hkb]; exact hst
 have HST:=Lib.hid hst'
 go_loopw [5,21] (fun last i wr=>∃ (k:Nat) (lb:ByteArray) (s:St) (ns:List Nat),k≤ts.length∧i = .int .i64 k∧last = .string lb∧FromRel w.heap.size bb kb ib root ts w k lb s ns wr) (fun _ i _=>ts.length - (intOf i).toNat)
 case atStart =>
  exact ⟨0,⟨#[]⟩,start root,[],Nat.zero_le _,rfl,rfl,⟨HST,FI.start root,start_bare root,start_small root,Nat.zero_le _,hbl,rfl⟩⟩
 case round =>
  obtain ⟨k,lb,s,ns,hk,rfl,rfl,hR⟩:=hrel
  have HR:=Lib.hid hR
  by_cases hlt:k < ts.length
  ·obtain ⟨t,ht⟩:∃ t,t=ts[k]:=⟨_,rfl⟩
   obtain ⟨b,off,rfl,hcell⟩:=HC.out k hlt
   have hcell':wr.cell? (aD b (off+k))=some (.string t):=by
    rw [ht]
    exact (HR.below.cell (p:=(aD b (off+k))) (lt_of_cell hcell)).trans hcell
   have htsz:=HSZ t (ht ▸ List.getElem_mem hlt)
   have hu16:=lastW_len ts HSZ k hk
   have hlsz:lb.size≤16:=by have:=congrArg List.length HR.last; simp at this; omega
   have HT:=Lib.hid ht
   clear ht hcell
   go_upto_block 2 with (fail)
   go_cut [8] (fun p wx=>∃ q:Nat,p = .int .i64 q∧q≤16∧Hid (Stop t.data.toList lb.data.toList q)∧Same wr wx)
   case first =>
    go_wp2_with fail
    go_loopw [8] (fun p wx=>∃ q:Nat,q≤t.size∧q≤lb.size∧p = .int .i64 q∧Hid (t.data.toList.take q=lb.data.toList.take q)∧Same wr wx) (fun p _=>t.size - (intOf p).toNat)
    case atStart=>exact ⟨0,Nat.zero_le _,Nat.zero_le _,rfl,rfl,Same.refl _⟩
    case round =>
     obtain ⟨q,hq1,hq2,rfl,HQ,hS⟩:=hrel
     by_cases g1:q < t.size
     ·by_cases g2:q < lb.size
      ·by_cases g3:t[q]=lb[q]
       ·have g3':(((t[q]).toNat:Int) == ((lb[q]).toNat:Int))=true:=by rw [g3]; simp
        have HS:=Lib.hid (common_succ t lb q g1 g2 g3 HQ)
        clear g3
        go_wp2_with fail
        go_quiet (fail)
        go_wp2_with fail
        exact ⟨⟨q+1,by omega,by omega,by go_num,HS,hS.trans (Same.drewN _ _)⟩,by simp [intOf]; omega⟩
       ·have g3':(((t[q]).toNat:Int) == ((lb[q]).toNat:Int))=false:=by
         rw [beq_eq_false_iff_ne]
         intro e
         exact g3 (UInt8.toNat_inj.1 (by omega))
        have HS:Hid (Stop t.data.toList lb.data.toList q):=⟨by simp; omega,by simp; omega,HQ.out,.inr (.inr (by rw [getD_str' t q g1,getD_str' lb q g2]; exact g3))⟩
        go_wp2_with fail
        go_quiet (fail)
        go_wp2_with fail
        go_meet
        exact ⟨q,rfl,by omega,HS,hS.trans (Same.drewN _ _)⟩
      ·have HS:Hid (Stop t.data.toList lb.data.toList q):=⟨by simp; omega,by simp; omega,HQ.out,.inr (.inl (by simp; omega))⟩
       have g1':decide ((q:Int) < (t.size:Int))=true:=by simp; omega
       have g2':decide ((q:Int) < (lb.size:Int))=false:=by simp; omega
       go_wp2_with fail
       go_quiet (fail)
       go_wp2_with fail
       go_meet
       exact ⟨q,rfl,by omega,HS,hS.trans (Same.drewN _ _)⟩
     ·have HS:Hid (Stop t.data.toList lb.data.toList q):=⟨by simp; omega,by simp; omega,HQ.out,.inl (by simp; omega)⟩
      have g1':decide ((q:Int) < (t.size:Int))=false:=by simp; omega
      go_wp2_with fail
      go_quiet (fail)
      go_wp2_with fail
      go_meet
      exact ⟨q,rfl,by omega,HS,hS.trans (Same.drewN _ _)⟩
   case rest =>
    obtain ⟨q,rfl,hq16,HST,hS⟩:=hcut
    have hqu:q≤(lastW ts k).length:=by have:=HST.2.1; rw [HR.last] at this; exact this
    go_upto_block 4 with (fail)
    go_cut [9] (fun n wy=>n=pT (nodeAt root ns q)∧Same wr wy)
    case first =>
     go_wp2_with fail
     go_loopw [9,48] (fun n i wy=>∃ j:Nat,j≤q∧i = .int .i64 j∧n=pT (nodeAt root ns j)∧Same wr wy) (fun _ i _=>q - (intOf i).toNat)
     case atStart=>exact ⟨0,Nat.zero_le _,rfl,rfl,hS⟩
     case round =>
      obtain ⟨j,hj,rfl,rfl,hS2⟩:=hrel
      by_cases hjq:j < q
      ·obtain ⟨g,cap1,m,d1,d2,d3⟩:=spine_cells (HR.st.same hS2) HR.fi HR.small (i:=j) (by omega)
       go_wp2_with fail
       have q1:IntKind.i64.wrap ((m:Int)+1 - 1)=(m:Int):=by rw [IntWalk.i64_in _ (by omega)]; omega
       have q2:(0:Int)≤(m:Int)∧(m:Int) < (m:Int)+1:=by omega
       go_quiet (fail)
       clear q1 q2
       go_wp2_with fail
       exact ⟨⟨j+1,by omega,by go_num,rfl,hS2.trans (Same.drewN _ _)⟩,by simp [intOf]; omega⟩
      ·obtain rfl:j=q:=by omega
       go_wp2_with fail
       go_meet
       exact ⟨rfl,hS2⟩
    case rest =>
     obtain ⟨rfl,hS2⟩:=hcut
     go_wp2_with fail
     have hnl:=HR.fi.len
     refine (settle_any w.heap.size bb kb ib (ns.drop q) s (nodeAt root ns q) _ (HR.st.same hS2) (HR.fi.way HR.bare hqu) HR.small (by have:=HR.ids; rw [List.length_drop]; omega)).mono ?_
     rintro e w2 ⟨rfl,hst2,hb2⟩
     have hlt2:lb.data.toList < t.data.toList:=by rw [HR.last,HT]; exact lastW_lt ts HSZ HASC k hlt
     obtain ⟨hqt,hqc⟩:=stop_lt _ _ q hlt2 HST
     have hqt':q < t.size:=by simpa using hqt
     obtain ⟨hf2,he2⟩:=HR.fi.settle HR.bare hqu
     have hsm2:=Small.settleP (ns.drop q) s (nodeAt root ns q) HR.small (by have:=HR.ids; rw [List.length_drop]; omega)
     have hut:(lastW ts k).take q=t.data.toList.take q:=by rw [← HR.last]; exact HST.2.2.1.symm
     have hna:=nodeAt_take root ns q q (Nat.le_refl _)
     have hG0:GrowRel w.heap.size bb kb ib root ((listsOf ts).take k) t.data.toList (20 * k+16) q w q (settleP (ns.drop q) s (nodeAt root ns q)) (ns.take q) w2:=by
      refine ⟨hst2,by rw [← hut]; exact hf2,?_,hsm2.1,by have h1:=hsm2.2; have h2:=HR.ids; rw [List.length_drop] at h1; omega,(HR.below.trans (hS2.below _)).trans hb2⟩
      intro nd hG
      rw [hna] at hG
      refine ⟨fun _ e he=>?_,fun h=>absurd h (Nat.lt_irrefl _)⟩
      obtain ⟨h1,h2⟩:=he2 nd hG e he
      rw [← HR.last] at h1 h2
      exact Nat.lt_of_le_of_lt h2 (hqc h1)
     have HG0:=Lib.hid hG0
     have hna':=Lib.hid hna
     clear hG0 hst2 hb2 hf2 he2 hsm2 hut hlt2 hqc hqt hna
     go_wp2_with fail
     go_loopw [9,11] (fun n i wy=>∃ (j:Nat) (s':St) (ns':List Nat),q≤j∧j≤t.size∧i = .int .i64 j∧n=pT (nodeAt root ns' j) ∧
       GrowRel w.heap.size bb kb ib root ((listsOf ts).take k) t.data.toList (20 * k+16) q w j s' ns' wy) (fun _ i _=>t.size - (intOf i).toNat)
     case atStart=>exact ⟨q,_,ns.take q,Nat.le_refl _,by omega,rfl,by rw [hna'],HG0⟩
     case round =>
      obtain ⟨j,s',ns',hj1,hj2,rfl,rfl,hR'⟩:=hrel
      have HR':=Lib.hid hR'
      clear hR'
      by_cases hjt:j < t.size
      ·have hlen':(t.data.toList.take j).length=j:=by simp; omega
       obtain ⟨nd,hGn,hasc'⟩:=HR'.fi.leaf
       rw [hlen'] at hGn
       obtain ⟨_,a1,cap1,hv1,d1⟩:=HR'.st.nodeCells hGn
       have hrow:=HR'.st.nodes.row _ nd hGn
       rw [hv1] at hrow
       have hL:=lt_of_cell d1
       have hfr:wr.frozen? (aD (nodeAt root ns' j) 1)=false:=free_block (HR'.st.nodes.node _ nd hGn)
       have hel:=HR'.small.edges _ nd hGn
       have HCJ:=Lib.hid (getD_str' t j hjt)
       go_wp2_with fail
       refine wp_region_ordX [(0,false),(1,false),(2,false),(3,false),(4,false),(5,false),(6,false),(7,false),(8,false),(9,false),(10,true),(11,true),(12,true),(13,true),(14,true)] 14
        (fun w'=>w'.cell? (aD (nodeAt root ns' j) 1)=some (.slice a1 nd.edges.length cap1)) (by kernel_rfl) (by kernel_rfl) ?_ ?_
       ·rw [← d1]; exact World.cell?_alloc_lt _ _ _ hL
       iterate 10 (
        refine wpOrd_quiet ?_ rfl rfl (fun w' hS=>?_) ?_
        rotate_left
        ·go_simp
         try rfl
        simp only [put_lit,List.set_cons_succ,List.set_cons_zero])
       refine wpOrd_loud rfl rfl (by decide) (fun K hK=>?_)
       go_simp
       have hl2:((wr.alloc (.cells #[.bool false,.slice none 0 0] 282)).alloc (.cells #[.int .u8 t[j].toNat,pT wr.heap.size] 284)).drew.cell? (aD (nodeAt root ns' j) 1)=some (.slice a1 nd.edges.length cap1):=by
        rw [← d1]
        exact (World.cell?_alloc_lt _ _ _ (by simp; omega)).trans (World.cell?_alloc_lt _ _ _ hL)
       have hrow3:((wr.alloc (.cells #[.bool false,.slice none 0 0] 282)).alloc (.cells #[.int .u8 t[j].toNat,pT wr.heap.size] 284)).drew.ownsRow 0 284 2 (.slice a1 nd.edges.length cap1) nd.edges.length (edgeCells nd.edges) :=
        ((hrow.alloc _).alloc _).drew
       have hM3:((wr.alloc (.cells #[.bool false,.slice none 0 0] 282)).alloc (.cells #[.int .u8 t[j].toNat,pT wr.heap.size] 284)).drew.heap[wr.heap.size]?=some (.cells #[.bool false,.slice none 0 0] 282 (0,0)):=heap_alloc2_old _ _ _
       have hmv3:Moves wr nd.v ((wr.alloc (.cells #[.bool false,.slice none 0 0] 282)).alloc (.cells #[.int .u8 t[j].toNat,pT wr.heap.size] 284)).drew nd.v :=
        ((Moves.alloc wr _ _).trans (Moves.alloc _ _ _)).trans (Moves.same _ (Same.drew _))
       have hc3:∀ i u,[Value.int .u8 t[j].toNat,pT wr.heap.size][i]?=some u→((wr.alloc (.cells #[.bool false,.slice none 0 0] 282)).alloc (.cells #[.int .u8 t[j].toNat,pT wr.heap.size] 284)).drew.cell? (((aD (wr.heap.size+1) 0):Addr).add i)=some u:=by
        have:=cell_two_new (wr.alloc (.cells #[.bool false,.slice none 0 0] 282)) (.int .u8 t[j].toNat) (pT wr.heap.size) 284
        simpa using this
       have hsz3:((wr.alloc (.cells #[.bool false,.slice none 0 0] 282)).alloc (.cells #[.int .u8 t[j].toNat,pT wr.heap.size] 284)).drew.heap.size=wr.heap.size+2:=by simp
       generalize ((wr.alloc (.cells #[.bool false,.slice none 0 0] 282)).alloc (.cells #[.int .u8 t[j].toNat,pT wr.heap.size] 284)).drew=W3 at *
       refine hK _ _ hl2 ?_
       clear hK K
       refine wpOrd_loud rfl rfl (by decide) (fun K hK=>?_)
       obtain ⟨i0,hi,hz0,hz1,hz2⟩:=info_parts Tryz.info284
       refine wp_append_lies _ _ 280 rfl 284 i0 (.agg #[.int .u8 0,.pointer none]) 2 16 Tryz.underlying280 hi hz0 hz1 hz2 rfl (by decide) _ _ _ rfl hrow3 (aD (wr.heap.size+1) 0) 1 1 [.int .u8 t[j].toNat,pT wr.heap.size] rfl rfl hc3
        (by simp [Value.oneCell']) (by decide) (by unfold maxLen; omega) (by omega) ?_
       intro v4 W4 hrow4 hgrow4 hlies4
       rw [← hv1] at hgrow4 hlies4
       have hvL:nd.v.ownBlock≠some (nodeAt root ns' j):=fun e=>(HR'.st.rowBlock hGn e).2.2.2 _ nd hGn rfl
       have hl4:=World.grownBy.cell hgrow4 hl2 (fun e=>hvL e.symm)
       have hf4:W4.frozen? (aD (nodeAt root ns' j) 1)=false:=by
        have hn:=HR'.st.nodes.node _ nd hGn
        have h3:=(hmv3.block (lt_of_heap hn) hvL).trans hn
        have h4:=(hgrow4.block _ (lt_of_heap h3) (fun e=>hvL e.symm)).trans h3
        exact free_block h4
       have hM4:W4.heap[wr.heap.size]?=some (.cells #[.bool false,.slice none 0 0] 282 (0,0)) :=
        (hgrow4.block _ (by omega) (fun e=>by have:=(HR'.st.nodes.row _ nd hGn).lt _ e.symm; omega)).trans hM3
       have hmv4:=hmv3.trans (Moves.append hgrow4 hlies4)
       have hne4:v4.ownBlock≠some wr.heap.size:=by
        intro e
        rcases hlies4 with ⟨h,_⟩ | ⟨h,_⟩
        ·rw [h] at e
         have:=(HR'.st.nodes.row _ nd hGn).lt _ e
         omega
        ·rw [h] at e
         have:=Option.some.inj e
         omega
       have hrow4':W4.ownsRow 0 284 2 v4 (nd.edges.length+1) (edgeCells (nd.edges++[(t[j],wr.heap.size)])):=by
        rw [edgeCells_append]
        exact hrow4
       obtain ⟨g4,cap4,rfl⟩:=ownsRow_head hrow4'
       have hin:=Lib.hid (HR'.st.grow (c:=t[j]) hGn hM4 hmv4 hne4 hrow4')
       have hbB:=hmv4.below (HR'.st.nodes.ge _ nd hGn).2 (Below.refl _ _) HR'.below.size
       have hLB:=(HR'.st.nodes.ge _ nd hGn).1
       clear hgrow4 hlies4 hrow4 hrow4' hM4 hmv4 hne4 hM3 hmv3 hrow3 hc3 hl2 hrow d1 hfr
       refine hK _ _ hl4 ?_
       clear hK K
       simp only [put_lit,List.set_cons_succ,List.set_cons_zero]
       refine wpOrd_loud rfl rfl (by decide) (fun K hK=>?_)
       go_simp
       refine hK _ _ hl4 ?_
       clear hK K
       refine wpOrd_loud rfl rfl (by decide) (fun K hK=>?_)
       go_simp
       refine hK _ _ hl4 ?_
       clear hK K
       refine wpOrd_last rfl rfl (fun K hK=>?_)
       go_simp
       refine hK _ _ ?_
       clear hK K
       go_wp2_with fail
       have hgc:=HCJ.out
       have hst3:=HR'.step (by simp; omega) hGn (by rw [hgc]; exact hin.out) (hbB.setCell hLB _)
       rw [hgc] at hst3
       exact ⟨⟨j+1,_,ns'++[wr.heap.size],by omega,by omega,by go_num,by rw [hst3.2],hst3.1⟩,by simp [intOf]; omega⟩
      ·obtain rfl:j=t.size:=by omega
       have hlen':(t.data.toList.take t.size).length=t.size:=by simp
       obtain ⟨nd,hGn,hasc'⟩:=HR'.fi.leaf
       rw [hlen'] at hGn
       obtain ⟨d0,a1,cap1,hv1,d1⟩:=HR'.st.nodeCells hGn
       have hfr:wr.frozen? (aD (nodeAt root ns' t.size) 0)=false:=free_block (HR'.st.nodes.node _ nd hGn)
       have hcl:=Lib.hid (HR'.close hlt HT hqt' hGn)
       clear hasc'
       go_wp2_with fail
       exact ⟨⟨k+1,t,_,ns',by omega,by go_num,rfl,hcl.out⟩,by simp [intOf]; omega⟩
  ·obtain rfl:k=ts.length:=by omega
   go_wp2_with fail
   have hnl:=HR.fi.len
   have hu16:=lastW_len ts HSZ ts.length hk
   have hidl:=HR.ids
   refine (settle_any w.heap.size bb kb ib ns s root wr HR.st (HR.fi.way HR.bare (Nat.zero_le _)) HR.small (by omega)).mono ?_
   rintro e w2 ⟨rfl,hst2,hb2⟩
   have hll:(listsOf ts).length=ts.length:=by simp [listsOf]
   have hf2:FI (settleP ns s root) root [] [] (listsOf ts):=by
    have h1:=(HR.fi.settle HR.bare (Nat.zero_le _)).1
    rw [← hll,List.take_length] at h1
    exact h1
   have hsm2:=Small.settleP ns s root HR.small (by omega)
   obtain ⟨Good,ρ,L,g1,g2,g3,g4,g5,g6,g7,g8⟩:=FI.number hf2 hsm2.1 (by omega) hsm2.1.len
   have HG7:=Lib.hid g7
   have HG8:=Lib.hid g8
   have HG2:=Lib.hid g2
   have HG3:=Lib.hid g3
   have HG4:=Lib.hid g4
   have HST2:=Lib.hid hst2
   clear g2 g3 g4 g7 g8 hst2 hf2
   go_wp2_with fail
   refine (number_any _ w.heap.size bb kb ib w2 HST2 Good ρ L HG2 HG3 HG4 root g1 g6 HG7 HG8).mono ?_
   rintro e w3 ⟨rfl,hb3,R,Λ,ρ',D,hdi,hΛ⟩
   go_wp2_with fail
   go_ret
   exact ⟨w2.heap.size,R,Λ,ρ',D,rfl,(HR.below.trans hb2).trans (hb3.mono (by have:=HR.below.size; have:=hb2.size; omega)),hdi,hΛ.trans g5⟩
end Go.Proofs.Ts
namespace Go.Proofs.Ts
open Go Go.RowKit Go.Sort
theorem nodup_le {α:Type} [DecidableEq α]:∀ (l l':List α),l.Nodup→(∀ x∈l,x∈l')→l.length≤l'.length
 | [],l',_,_=>Nat.zero_le _
 | a :: l,l',hn,hs=>by
  rw [List.nodup_cons] at hn
  have ha:=hs a (by simp)
  have ih:=nodup_le l (l'.erase a) hn.2 fun x hx=>(List.mem_erase_of_ne (fun e=>hn.1 (by rw [← e]; exact hx))).2 (hs x (by simp [hx]))
  rw [List.length_erase_of_mem ha] at ih
  have:=List.length_pos_of_mem ha
  simp
  omega
def sortW (ss:List (List UInt8)):List (List UInt8):=ss.mergeSort fun x y=>decide (x≤y)
theorem leW_trans (a b c:List UInt8):decide (a≤b)=true→decide (b≤c)=true→decide (a≤c)=true:=by
 simp only [decide_eq_true_eq]
 exact fun h k=>List.le_trans h k
theorem leW_total (a b:List UInt8):(decide (a≤b) || decide (b≤a))=true:=by
 simp only [Bool.or_eq_true,decide_eq_true_eq]
 exact List.le_total a b
theorem sortW_mem (ss:List (List UInt8)) (x:List UInt8):x∈sortW ss↔x∈ss:=(List.mergeSort_perm ss _).mem_iff
theorem sortW_length (ss:List (List UInt8)):(sortW ss).length=ss.length:=(List.mergeSort_perm ss _).length_eq
theorem sortW_nodup {ss:List (List UInt8)} (h:ss.Nodup):(sortW ss).Nodup:=(List.mergeSort_perm ss _).nodup_iff.2 h
theorem sortW_rise {ss:List (List UInt8)} (h:ss.Nodup):(sortW ss).Pairwise fun a b=>a < b:=by
 have h1:=List.pairwise_mergeSort leW_trans leW_total ss
 have h2:=sortW_nodup h
 refine List.Pairwise.imp₂ ?_ h1 h2
 intro a b h3 h4
 rw [decide_eq_true_eq] at h3
 rcases List.le_iff_lt_or_eq.1 h3 with h | h
 ·exact h
 ·exact absurd h h4
theorem sort_any (v:Value) (ss:List (List UInt8)) (w:World) (hrow:w.ownsRow 0 9 1 v ss.length (ss.map strV)) (hsz:ss.length≤1000000) :
  Calls Tryz.prog 93 #[v] w fun e w'=>e = .returned (.tuple #[])∧w'.ownsRow 0 9 1 v ss.length ((sortW ss).map strV)∧w.grownBy w' v.ownBlock:=by
 have he:strV=encStr:=rfl
 rcases hrow.2 with ⟨rfl,hnil⟩ | ⟨g,cap,cur,rfl,hbase,hb,h1,h2,h3,h4⟩
 ·have:=List.eq_nil_of_length_eq_zero hnil
  subst this
  refine (Tryz.slices_Sort_string_none none 0 w).mono ?_
  rintro e w' ⟨rfl,rfl⟩
  have h0:sortW []=[]:=by simp [sortW]
  rw [h0]
  exact ⟨rfl,World.ownsRow_nil _ _ _ _,World.grownBy.refl _ _⟩
 ·refine (Tryz.slices_Sort_string g 0 cap ss w (holds_of_block hb (by rw [Nat.mul_one] at h4; exact h4)) (Array.getElem?_eq_some_iff.1 hb).1 (by omega)).mono ?_
  rintro e w' ⟨rfl,nn,os,rfl⟩
  exact ⟨rfl,ownsRow_sorted (sortW_length ss) hbase hb h1 h2 h3,grownBy_sorted _⟩
theorem strsIs_row {w:World} {v:Value} {ss:List (List UInt8)} (h:w.ownsRow 0 9 1 v ss.length (ss.map strV)):StrsIs w v (ss.map fun l=>⟨l.toArray⟩):=by
 obtain ⟨a,cap,rfl⟩:=ownsRow_form h
 refine ⟨a,cap,by simp,fun i hi=>?_⟩
 have hi':i < ss.length:=by simpa using hi
 obtain ⟨m,hm⟩:∃ m,ss.length=m+1:=⟨ss.length - 1,by omega⟩
 have h':=h
 rw [hm] at h'
 obtain ⟨g,cap',e⟩:=ownsRow_head h'
 cases e
 rw [← hm] at h'
 refine ⟨g,0,rfl,?_⟩
 rw [Nat.zero_add,h.cellAt i (by omega),List.getElem?_map,List.getElem?_eq_getElem hi']
 simp [strV]
end Go.Proofs.Ts
namespace Go.Proofs.Ts
open Go Go.RowKit
def leansOn (t:TypeId):Bool:=[172,207,242,158,436,249,437,5,
 352,353,440,441,447,448,
 412,415,456,21,310,260,404,306].contains t
def KeepT (w w':World):Prop:=w.heap.size≤w'.heap.size ∧ ∀ (k:Nat) cs t r,w.heap[k]?=some (.cells cs t r)→leansOn t=true→w'.heap[k]?=w.heap[k]?
def StepsB (B:Nat) (w w':World):Prop:=w'.os=w.os∧w'.tape=w.tape∧w'.output=w.output∧w.heap.size≤w'.heap.size ∧ ∀ (k:Nat) o,w.heap[k]?=some o→(k < B ∨ ∀ cs r,o ≠ .cells cs 5 r)→w'.heap[k]?=some o
section
variable {V:Value} {D:List DS} {db:Nat} {iv yf:Value} {bd ba by' bw B:Nat} {p:List UInt8} {pv pv':Value} {J J':List (List UInt8 × Nat)→World→Prop} {w0:World} {ys ys':List (List UInt8 × Nat)} {Wb Wc W4 W5:World} {c:UInt8}
end
theorem ownsRow_cells4 {w:World} {B e size n g:Nat} {v:Value} {xs:List Value} (h:w.ownsRow B e size v n xs) (hg:v.ownBlock=some g):∃ cur,w.heap[g]?=some (.cells cur e (0,0)):=by
 rcases h.2 with ⟨rfl,_⟩ | ⟨g',cap,cur,rfl,_,hc,_⟩
 ·cases hg
 ·cases hg; exact ⟨cur,hc⟩
end Go.Proofs.Ts
namespace Go.Proofs.Ts
open Go Go.RowKit
structure Asked where
 kind:Int
 a:List UInt8
 b:List UInt8
 n:Int
 states:Int
deriving DecidableEq
def askedV (q:Asked):Value := .agg #[.int .i64 q.kind,strV q.a,strV q.b,.int .i64 q.n,.int .i64 q.states]
end Go.Proofs.Ts
namespace Go.Proofs.Ts
open Go Go.Lib
def bt (p:List UInt8) (k:Nat):Nat:=(p.getD k 0).toNat
def dec (p:List UInt8):Nat × Nat:=decodeGo ⟨p.toArray⟩
def full (p:List UInt8):Bool:=decide (0 < p.length) && (decide (firstT (bt p 0) % 8≤p.length) || (decide (1 < p.length) && (decide (bt p 1 < accLo (firstT (bt p 0) / 16)) || decide (accHi (firstT (bt p 0) / 16) < bt p 1)) || (decide (2 < p.length) && (decide (bt p 2 < 128) || decide (191 < bt p 2)))))
end Go.Proofs.Ts
namespace Go.Proofs.Ts
open Go Go.Lib
structure NS where
 now:List Nat
 was:List Nat
 last:Int
 part:List UInt8
def nstart:NS:=⟨(List.range 41).map (min · 3),List.replicate 41 3,-1,[]⟩
def cellN (word now was:List Nat) (last:Int) (r:Nat):Nat→Nat
 | 0=>min (now.getD 0 0+1) 3
 | j+1=>min (if 0 < j∧(word.getD j 0:Int)=last∧word.getD (j - 1) 0=r then min (min (min (now.getD j 0+if word.getD j 0=r then 0 else 1) (now.getD (j+1) 0+1)) (cellN word now was last r j+1)) (was.getD (j - 1) 0+1)
   else min (min (now.getD j 0+if word.getD j 0=r then 0 else 1) (now.getD (j+1) 0+1)) (cellN word now was last r j+1)) 3
def leastN (word now was:List Nat) (last:Int) (r:Nat):Nat→Nat
 | 0=>cellN word now was last r 0
 | j+1=>min (leastN word now was last r j) (cellN word now was last r (j+1))
def rowN (word:List Nat) (s:NS) (r:Nat):List Nat:=(List.range 41).map fun j=>if j≤word.length then cellN word s.now s.was s.last r j else 3
def leastRow (l:List Nat):Nat:=l.foldl min (l.getD 0 0)
def nnext (word:List Nat) (s:NS) (c:UInt8):NS :=
 if full (s.part++[c])=false then { s with part:=s.part++[c] } else ⟨rowN word s (dec (s.part++[c])).1,s.now,((dec (s.part++[c])).1:Int),[]⟩
def nok (word:List Nat) (far:Nat) (s:NS) (c:UInt8):Bool :=
 if full (s.part++[c])=false then true
 else if (dec (s.part++[c])).1=65533∧(dec (s.part++[c])).2 < 2 then false
 else decide (leastN word s.now s.was s.last (dec (s.part++[c])).1 word.length≤far∨leastRow s.now < far)
def nstep (word:List Nat) (far:Nat) (s:NS) (c:UInt8):Option NS:=if nok word far s c then some (nnext word s c) else none
def nends (word:List Nat) (far:Nat) (s:NS):Bool:=decide (s.part=[]) && decide (s.now.getD word.length 0≤far)
/-! ### a greater distance reads no less -/
/-! ### bytes below 128 -/
/-! ### what is far is not read: a bound below the rows -/
section
variable {word:List Nat} {F:List UInt8→Nat→Int}
end
/-! ### what is near is read: a way through the rows -/
section
variable {word:List Nat}
end
end Go.Proofs.Ts
namespace Go.Proofs.Ts
open Go Go.RowKit
section
variable {w:World} {b:Nat} {now was:List Nat} {last:Int} {p4:List Nat} {n:Nat}
end
structure TabsIn (w:World):Prop where
 first:∃ cs,w.heap[2]?=some (.cells cs 412 (0,0))
 accept:∃ cs,w.heap[3]?=some (.cells cs 415 (0,0))
 tabs:Lib.Utf8Tabs 2 3 w
theorem TabsIn.kept {w w':World} (h:TabsIn w) (h1:w'.heap[2]?=w.heap[2]?) (h2:w'.heap[3]?=w.heap[3]?):TabsIn w':=by
 have e1:∀ j,w'.cell? (aD (2) j)=w.cell? (aD (2) j):=fun j=>World.cell?_of_block (a:=(aD (2) j)) h1
 have e2:∀ j,w'.cell? (aD (3) j)=w.cell? (aD (3) j):=fun j=>World.cell?_of_block (a:=(aD (3) j)) h2
 exact ⟨by rw [h1]; exact h.first,by rw [h2]; exact h.accept,fun c hc=>(e1 c).trans (h.tabs.1 c hc),fun i hi=>⟨(e2 _).trans (h.tabs.2 i hi).1,(e2 _).trans (h.tabs.2 i hi).2⟩⟩
end Go.Proofs.Ts
namespace Go.Proofs.Ts
open Go Go.RowKit
def runesR (a:ByteArray):List Nat:=(Conv.runesFrom a a.size 0 #[]).toList.map fun v=>match v with
 | .int _ r=>r.toNat
 | _=>0
def errnoV (k:Int):Value := .iface 43 (.int .i64 k)
def nearBad (a:ByteArray) (n:Int):Option Int:=if 40 < a.size then some 2 else if n < 0∨2 < n then some 7 else if Lib.validD a.data.toList=true then none else some 8
end Go.Proofs.Ts
namespace Go.Proofs.Ts
open Go Go.RowKit
section
variable {w w':World} {rb i:Nat} {s:ByteArray}
end
def isB (s:ByteArray) (i:Nat) (c:UInt8):Bool:=decide (s.data.toList[i]?=some c)
def eatB (s:ByteArray) (i:Nat) (c:UInt8):Nat:=if isB s i c then i+1 else i
end Go.Proofs.Ts
namespace Go.Proofs.Ts
open Go
inductive PR (α:Type) where
 | fault (i:Nat)
 | ok (x:α) (i:Nat)
def singleP (s:ByteArray) (i:Nat):PR UInt8 :=
 match s.data.toList[eatB s i 92]? with
 | none => .fault (eatB s i 92)
 | some c => .ok c (eatB s i 92+1)
def digitP (s:ByteArray) (i least:Nat):PR Nat :=
 match s.data.toList[i]? with
 | none => .fault i
 | some c=>if 48+least≤c.toNat∧c.toNat≤57 then .ok (c.toNat - 48) (i+1) else .fault i
def clsB (s:ByteArray) (i:Nat):Bool:=decide (i < s.size) && !isB s i 45 && !isB s i 93
/-! ### Places rise. -/
def PR.Good {α:Type} (s:ByteArray) (i:Nat):PR α→Prop
 | .fault e=>e≤s.size
 | .ok _ j=>i≤j∧j≤s.size
end Go.Proofs.Ts
namespace Go.Proofs.Ts
open Go
structure PSet where
 a:Nat
 b:Nat
 c:Nat
 deriving DecidableEq,Inhabited
abbrev W64:Nat:=18446744073709551616
namespace PSet
def word (s:PSet):Nat→Nat
 | 0=>s.a
 | 1=>s.b
 | _=>s.c
def ok (s:PSet):Prop:=s.a < W64∧s.b < W64∧s.c < W64
def zero:PSet:=⟨0,0,0⟩
def mem (s:PSet) (k:Nat):Bool:=(s.word (k / 64)).testBit (k % 64)
def or (s t:PSet):PSet:=⟨s.a ||| t.a,s.b ||| t.b,s.c ||| t.c⟩
def and (s t:PSet):PSet:=⟨s.a &&& t.a,s.b &&& t.b,s.c &&& t.c⟩
def setw (s:PSet) (i v:Nat):PSet:=match i with
 | 0=>{ s with a:=v }
 | 1=>{ s with b:=v }
 | _=>{ s with c:=v }
def on (s:PSet) (k:Nat):PSet:=s.setw (k / 64) (s.word (k / 64) ||| 2 ^ (k % 64))
def cells (s:PSet):List Value:=[.int .u64 s.a,.int .u64 s.b,.int .u64 s.c]
end PSet
end Go.Proofs.Ts
namespace Go.Proofs.Ts
open Go Go.RowKit
def PSet.val (s:PSet):Value := .agg s.cells.toArray
end Go.Proofs.Ts
namespace Go.Proofs.Ts
open Go Go.RowKit
def beginSet:PSet:=PSet.zero.on 128
end Go.Proofs.Ts
namespace Go.Proofs.Ts
open Go Go.RowKit
structure PM where
 at':List PSet
 follow:List PSet
 last:PSet
 n:Nat
 deriving Inhabited
def setCells (l:List PSet):List Value:=l.flatMap PSet.cells
def PM.cells (M:PM):List Value:=setCells M.at'++(setCells M.follow++(M.last.cells++[.int .i64 M.n]))
structure PM.ok (M:PM):Prop where
 la:M.at'.length=256
 lf:M.follow.length=129
 oa:∀ s∈M.at',s.ok
 of':∀ s∈M.follow,s.ok
 ol:M.last.ok
section
variable {w:World} {mb:Nat} {M:PM}
end
def PM.ends (M:PM) (s:PSet):Bool:=!decide (s.and M.last=PSet.zero)
end Go.Proofs.Ts
namespace Go.Proofs.Ts
open Go Go.RowKit Go.Shelf
attribute [local go_sem] Oper.semAt_some
def lowTo (f:List UInt8) (i:Nat):List UInt8:=lowL (f.take i)++f.drop i
theorem lowTo_zero (f:List UInt8):lowTo f 0=f:=by simp [lowTo,lowL]
theorem lowTo_all (f:List UInt8):lowTo f f.length=lowL f:=by simp [lowTo]
theorem lowTo_length (f:List UInt8) (i:Nat):(lowTo f i).length=f.length:=by simp [lowTo,lowL]; omega
theorem lowTo_get (f:List UInt8) (i:Nat) (h:i < f.length):(lowTo f i)[i]'(by rw [lowTo_length]; exact h)=f[i]:=by
 unfold lowTo
 rw [List.getElem_append_right (by simp [lowL]; omega)]
 simp [lowL,Nat.min_eq_left (Nat.le_of_lt h)]
theorem lowTo_succ (f:List UInt8) (i:Nat) (h:i < f.length):lowTo f (i+1)=(lowTo f i).set i (low1 f[i]):=by
 unfold lowTo
 rw [List.take_succ_eq_append_getElem h,List.drop_eq_getElem_cons h]
 have hl:(lowL (f.take i)).length=i:=by simp [lowL]; omega
 rw [List.set_append_right _ _ (by omega),hl,Nat.sub_self,List.set_cons_zero]
 have e:lowL (f.take i++[f[i]])=lowL (f.take i)++[low1 f[i]]:=by unfold lowL; rw [List.map_append]; rfl
 rw [e,List.append_assoc]
 rfl
theorem lowTo_same (f:List UInt8) (i:Nat) (h:i < f.length) (hc:low1 f[i]=f[i]):lowTo f (i+1)=lowTo f i:=by
 rw [lowTo_succ f i h,hc]
 apply List.ext_getElem?
 intro j
 rw [List.getElem?_set]
 split
 ·rename_i e
  subst e
  rw [if_pos (by rw [lowTo_length]; exact h),List.getElem?_eq_getElem (by rw [lowTo_length]; exact h),lowTo_get f i h]
 ·rfl
set_option maxRecDepth 100000 in
set_option maxHeartbeats 4000000 in
theorem words1_any (n:Nat) (hn:1≤n) (l Bn:Nat) (d:ByteArray) (hd:d.size≤1000000) (J Jx:List (List UInt8)→World→Prop) (W:World) (hJ:AbidesFrom W.heap.size J)
  (hY:∀ pre x W1,J pre W1→pre.length < (wordsB d).length→YieldAt Fence.wide (n - 1) Tryz.prog l #[strV x] W1 fun e W' =>
   (e = .returned (.bool true)∧J (pre++[x]) W'∧KeepStr W1 W')∨(e = .returned (.bool false)∧Jx (pre++[x]) W'))
  (hBn:W.cell? (aD Bn 0)=some (.string d)) (h0:J [] W) :
  CallsIn Fence.wide n Tryz.prog 133 #[.func (.yield l) #[] #[],pT Bn] W fun e W'=>(∃ v,e = .returned v) ∧
   ((∃ ys,ys=wordsB d∧J ys W')∨(∃ pre,True∧Jx pre W')):=by
 obtain ⟨fs,hfs⟩:∃ fs,fs=fields d.data.toList []:=⟨_,rfl⟩
 have HALL:=Lib.hid (upto_all d fs hfs)
 have hgf:=goFields_eq d
 have hfl:fs.length≤1000001:=by rw [hfs]; have:=fields_count d.data.toList []; simp at this; omega
 rw [← hfs] at hgf
 have hlen:(Lib.goFieldsP blankR d).length=fs.length:=by rw [← hgf]; simp
 have HY:=Lib.hid hY
 have HGF:=Lib.hid hgf
 have HLEN:=Lib.hid hlen
 have HJ:=Lib.hid hJ
 clear hY hgf hlen hfs hJ
 refine callsIn_of_wp Tryz.func133 rfl trivial ?_ rfl
 simp only [Tryz.ntmps133,List.size_toArray,List.length_cons,List.length_nil,Nat.reduceAdd,Nat.reduceSub,Array.replicate_succ,Array.replicate_zero,List.push_toArray,List.append_toArray,List.nil_append,List.cons_append]
 gi_wp2_with (refine ⟨trivial,?_⟩; gi_at_call 134; refine (callsIn_wide.2 (Tryz.strings_FieldsFunc_runes 135 #[] (enters_of Tryz.func135 (by kernel_rfl) rfl) blankR d _ (by omega) (blank_pays _))).mono ?_; rintro e w1 ⟨A,rfl,hA,hrow,hb1⟩)
 have hJ1:J [] w1:=HJ _ _ _ none h0 ⟨hb1.os,hb1.tape,hb1.output,hb1.size,fun k hk _=>hb1.block k hk⟩ (fun r e=>by cases e)
 have hrow1:w1.ownsRow 0 9 1 (sL A fs.length fs.length) fs.length ((Lib.goFieldsP blankR d).map Value.string):=by
  have:=ownsRow_zero hrow
  rw [HLEN] at this
  exact this
 have HB1:=Lib.hid hb1
 have hJW:AbidesFrom w1.heap.size J:=fun s A B row hs hg hr=>HJ s A B row hs hg (fun r e=>by obtain ⟨h1,h2⟩:=hr r e; exact ⟨Nat.le_trans HB1.size h1,h2⟩)
 have HJW:=Lib.hid hJW
 rw [HLEN]
 clear hrow hb1 hJW HJ h0
 gi_loopw [11] (fun i wr=>∃ k:Nat,k≤fs.length∧i=iV k∧Hid (J (upto fs k) wr)∧wr.ownsRow 0 9 1 (sL A fs.length fs.length) fs.length ((Lib.goFieldsP blankR d).map Value.string)) (fun i _=>fs.length - (intOf i).toNat)
 case atStart=>exact ⟨0,Nat.zero_le _,rfl,hJ1,hrow1⟩
 case round =>
  obtain ⟨wo,rfl⟩:∃ wo:World,wo=wr:=⟨_,rfl⟩
  obtain ⟨k,hk,rfl,HJk,hrow⟩:=hrel
  by_cases hlt:k < fs.length
  ·obtain ⟨f,hf⟩:∃ f,(Lib.goFieldsP blankR d)[k]?=some f:=⟨_,List.getElem?_eq_getElem (by rw [HLEN]; exact hlt)⟩
   have hfl:f.data.toList=fs[k]:=by
    have h1:((Lib.goFieldsP blankR d).map fun b=>b.data.toList)[k]?=some f.data.toList:=by rw [List.getElem?_map,hf]; rfl
    have h2:=List.getElem?_eq_getElem hlt
    have h3:fs[k]?=some f.data.toList:=by
     conv=>lhs; rw [← HGF]
     exact h1
    rw [h2] at h3
    exact (Option.some.inj h3).symm
   have hck:wo.cell? (aD A (0+k))=some (.string f):=by
    have:=hrow.cellAt k (by omega)
    rw [Nat.zero_add]
    rw [this,List.getElem?_map,hf]
    rfl
   rw [Nat.zero_add] at hck
   have HROW:=Lib.hid hrow
   have HFL:=Lib.hid hfl
   have hcap:A < wo.heap.size:=lt_of_cell hck
   have hfd:f.size≤1000000:=Nat.le_trans (goFields_size d f (List.mem_of_getElem? hf)) hd
   have hfs:Hid (f.data.toList.length=f.size):=Lib.hid (by simp)
   clear hrow hfl hf hrow1 hJ1
   gi_wp2_with (refine wpListIn_conv _ rfl rfl f rfl ?_; intro cap w2 hbr hb2 hs2; have HBR:=Lib.hid hbr; have HB2:=Lib.hid hb2; have HS2:=Lib.hid hs2; clear hbr hb2 hs2; simp only [put_lit,List.set_cons_succ,List.set_cons_zero])
   gi_loopw [19] (fun i wi=>∃ j:Nat,j≤f.size∧i=iV j∧BRow wi wo.heap.size (lowTo f.data.toList j)∧Below wo.heap.size wo wi) (fun i _=>f.size - (intOf i).toNat)
   case atStart=>exact ⟨0,Nat.zero_le _,rfl,by rw [lowTo_zero]; exact HBR,HB2⟩
   case round =>
    obtain ⟨j,hj,rfl,hbr,hb3⟩:=hrel
    have HBR3:=Lib.hid hbr
    have HB3:=Lib.hid hb3
    clear hbr hb3
    by_cases hjl:j < f.size
    ·have hjl':j < f.data.toList.length:=by rw [hfs]; exact hjl
     obtain ⟨c,hc⟩:∃ c,c=f.data.toList[j]:=⟨_,rfl⟩
     have hcell:wr.cell? (aD wo.heap.size j)=some (.int .u8 c.toNat):=by
      obtain ⟨h1,_⟩:=HBR3.2 j (by rw [lowTo_length]; exact hjl')
      rw [lowTo_get _ _ hjl',← hc] at h1
      exact h1
     have hfr:wr.frozen? (aD wo.heap.size j)=false:=(HBR3.2 j (by rw [lowTo_length]; exact hjl')).2
     have hc256:c.toNat < 256:=c.toNat_lt
     have hl1:=Lib.hid (low1_toNat c)
     have HC:=Lib.hid hc
     clear hc
     by_cases hA1:65≤c.toNat
     ·by_cases hA2:c.toNat≤90
      ·have hst:=Lib.hid (HBR3.store j (by rw [lowTo_length]; exact hjl') (low1 f.data.toList[j]))
       have HV:=Lib.hid (show ((low1 c).toNat:Int)=(c.toNat:Int)+32 by rw [hl1,if_pos ⟨hA1,hA2⟩])
       have q1:(c.toNat:Int)+97 - 65=(c.toNat:Int)+32:=by omega
       rw [← lowTo_succ f.data.toList j hjl',← HC] at hst
       gi_wp2
       exact ⟨⟨j+1,by omega,by go_num,by rw [← HV.out]; exact hst.out,HB3.setCell (p:=(aD wo.heap.size j)) (Nat.le_refl _) _⟩,by simp [intOf]; omega⟩
      ·have hno:Hid (lowTo f.data.toList (j+1)=lowTo f.data.toList j):=Lib.hid (lowTo_same f.data.toList j hjl' (by rw [← HC.out]; apply UInt8.toNat_inj.1; have:=hl1.out; rw [if_neg (by omega)] at this; omega))
       gi_wp2
       go_roundw
       case rel=>exact ⟨j+1,by omega,by go_num,by rw [hno]; exact HBR3,HB3⟩
       case measure=>simp [intOf]; omega
     ·have hno:Hid (lowTo f.data.toList (j+1)=lowTo f.data.toList j):=Lib.hid (lowTo_same f.data.toList j hjl' (by rw [← HC.out]; apply UInt8.toNat_inj.1; have:=hl1.out; rw [if_neg (by omega)] at this; omega))
      gi_wp2
      go_roundw
      case rel=>exact ⟨j+1,by omega,by go_num,by rw [hno]; exact HBR3,HB3⟩
      case measure=>simp [intOf]; omega
    ·obtain rfl:j=f.size:=by omega
     have hbr:BRow wr wo.heap.size (lowL f.data.toList):=by
      have:=HBR3.out
      rw [← hfs,lowTo_all] at this
      exact this
     have hJr:J (upto fs k) wr:=HJW _ _ _ none HJk ⟨HB3.os,HB3.tape,HB3.output,HB3.size,fun k hk _=>HB3.block k hk⟩ (fun r e=>by cases e)
     have hrow3:wr.ownsRow 0 9 1 (sL A fs.length fs.length) fs.length ((Lib.goFieldsP blankR d).map Value.string):=(KeepStr.below HB3).row HROW
     have hlen2:(lowL f.data.toList).length=f.size:=by unfold lowL; rw [List.length_map]; exact hfs
     by_cases h16:f.size≤16
     ·have hup:=Lib.hid (upto_yes fs k hlt (by rw [← HFL,hfs]; exact h16))
      have hnl:=upto_lt fs k hlt (by rw [← HFL,hfs]; exact h16)
      rw [HALL] at hnl
      obtain ⟨fn,tmps,assign,body,hy,hR⟩:=HY.out (upto fs k) (lowL f.data.toList) wr hJr hnl
      have hback:=run_convert_bytes_back (P:=Tryz.prog) wr 42 9 5 (aD wo.heap.size 0) cap (lowL f.data.toList) Tryz.underlying42 Tryz.underlying5 Tryz.underlying9 (fun j hj=>by
       have:=(hbr.2 j hj).1
       rw [show ((aD wo.heap.size 0):Addr).add j=(aD wo.heap.size j) by unfold Addr.add; split <;> simp_all]
       exact this)
      rw [hlen2] at hback
      unfold strV at hy
      have HROW3:=Lib.hid hrow3
      have hszr:wo.heap.size≤wr.heap.size:=HB3.size
      clear hbr hJr hrow3 hlen2 hnl
      gi_wp2
      refine hR.mono ?_
      rintro e W3 (⟨rfl,hJ3,hk3⟩ | ⟨rfl,hJx3⟩)
      ·have hJ3':Hid (J (upto fs (k+1)) W3):=Lib.hid (by have h:=hJ3; rw [HFL] at h; rw [hup]; exact h)
       have hrow3:=hk3.row HROW3
       have HROWX:=Lib.hid hrow3
       have hA3:=(hrow3.lt A rfl).2
       clear hJ3 hk3 hrow3
       gi_wp2
       exact ⟨⟨k+1,by omega,by go_num,hJ3',HROWX.out⟩,by simp [intOf]; omega⟩
      ·have HJX:=Lib.hid hJx3
       clear hJx3
       gi_wp2
       refine bodyPost_ret (results_none rfl _ _ _) rfl ?_
       exact ⟨⟨_,rfl⟩,.inr ⟨_,trivial,HJX⟩⟩
     ·have hup:=Lib.hid (upto_no fs k hlt (by rw [← HFL,hfs]; exact h16))
      have HJr:=Lib.hid hJr
      have hszr:wo.heap.size≤wr.heap.size:=HB3.size
      clear hbr hJr hlen2
      have HROW3:=Lib.hid hrow3
      clear hrow3
      gi_wp2
      refine ⟨fun _ h=>(by cases h),?_⟩
      gi_wp2
      exact ⟨⟨k+1,by omega,by go_num,Lib.hid (hup.symm ▸ HJr.out),HROW3.out⟩,by simp [intOf]; omega⟩
  ·obtain rfl:k=fs.length:=by omega
   have hJd:Hid (J (wordsB d) wo):=Lib.hid (by have:=HJk.out; rw [HALL] at this; exact this)
   clear hrow hrow1 hJ1
   gi_wp2
   go_end0
   exact ⟨⟨_,rfl⟩,.inl ⟨_,rfl,hJd⟩⟩
theorem words_stops (n:Nat) (hn:1≤n) (Bn:Nat) (d:ByteArray) (hd:d.size≤1000000) (w:World) (hB:Bn < w.heap.size) (hc:w.cell? (aD Bn 0)=some (.string d)) :
  SeqStopsK Fence.wide n Tryz.prog 133 #[pT Bn] (fun x:List UInt8=>#[strV x]) KeepStr (fun ys=>ys=wordsB d) (fun _=>True) (wordsB d).length w :=
 fun l J Jx W hW hJ _ hY h0=>words1_any n hn l Bn d hd J Jx W hJ hY ((hW.cell (p:=(aD Bn 0)) hB).trans hc) h0
end Go.Proofs.Ts
namespace Go.Proofs.Ts
open Go Go.RowKit
def bitsOf (x:Nat):List Nat:=(List.range 64).filter x.testBit
def PSet.elemsTo (s:PSet) (i:Nat):List Nat:=(List.range i).flatMap fun j=>(bitsOf (s.word j)).map (64 * j + ·)
def PSet.elems (s:PSet):List Nat:=s.elemsTo 3
def BitTab (w:World):Prop:=(∃ cs,w.heap[4]?=some (.cells cs 456 (0,0)))∧TabAt 4 Lib.deBruijn64tab w
theorem BitTab.kept {w w':World} (h:BitTab w) (hb:w'.heap[4]?=w.heap[4]?):BitTab w':=by
 obtain ⟨⟨cs,h1⟩,h2⟩:=h
 refine ⟨⟨cs,hb.trans h1⟩,fun j hj=>?_⟩
 rw [World.cell?_of_block (a:=(aD (4) j)) hb]
 exact h2 j hj
theorem BitTab.lt {w:World} (h:BitTab w):4 < w.heap.size:=by
 obtain ⟨⟨cs,h1⟩,_⟩:=h
 exact lt_of_heap h1
end Go.Proofs.Ts
namespace Go.Proofs.Ts
open Go Go.RowKit
section
variable {P:Program} {ops:Array Oper} {Q:Exit→Act→World→Prop} {n l:Nat}
def calmB (o:Oper):Bool:=match o.op with | .defer _=>false | _=>true
theorem operIn_of_wp {o:Oper} {a:Act} {w:World} {K:Act→World→Prop} (hnd:calmB o=true) (h:o.wp P a w K Q):o.wpIn (Fence.wide.inRound l) n P a w K Q:=by
 have hd:∀ c,o.op ≠ .defer c:=fun c e=>by unfold calmB at hnd; rw [e] at hnd; cases hnd
 refine ⟨fun _ _=>trivial,?_⟩
 rw [Oper.semAt_eq _ _ _ hd]
 unfold Oper.wp at h
 generalize (execOp a.eval o).run P w=r at *
 cases r with
 | ok x w' =>
  cases x <;> simp only [Oper.upon,Oper.uponIn] at h ⊢
  case value=>exact h
  case skip=>exact h
  case defer=>exact h
  case enter f args=>exact ⟨fun hx=>(by cases hx),CallsIn.inRound l (callsIn_wide.2 h)⟩
  case row r args =>
   refine ⟨fun hx=>(by cases hx),fun c cs _=>?_⟩
   obtain ⟨v,w'',h1,h2⟩:=h c cs
   exact ⟨v,w'',h1,stepsIn_wide.2 h2⟩
  all_goals exact h.elim
 | halt x w'=>cases x <;> simp only [Oper.upon,Oper.uponIn] at h ⊢ <;> exact h
def Calm (Q:Exit→Act→World→Prop):Exit→Act→World→Prop
 | .normal,a,w=>Q .normal a w
 | _,_,_=>False
theorem wpOpIn_of_wpOp (hno:¬ LetsOut Q) (hall:(ops.toList.all calmB)=true) {i:Nat} {K:Act→World→Prop} {a:Act} {w:World} (h:wpOp P ops Q i K a w):wpOpIn (Fence.wide.inRound l) n P ops Q i K a w:=by
 unfold wpOpIn
 unfold wpOp at h
 cases ho:ops[i]? with
 | none=>rw [ho] at h; exact h
 | some o =>
  rw [ho] at h
  simp only at h ⊢
  have hc:calmB o=true:=by
   rw [List.all_eq_true] at hall
   exact hall o (by rw [Array.mem_toList_iff]; exact Array.mem_of_getElem? ho)
  split
  ·rename_i hw
   rw [if_pos hw] at h
   rcases h with h | ⟨_,h⟩
   ·exact operIn_of_wp hc h
   ·exact (hno h).elim
  ·rename_i hw
   rw [if_neg hw] at h
   exact ⟨fun _ _=>trivial,h⟩
theorem wpAnyIn_of_wpAny (hno:¬ LetsOut Q) (hall:(ops.toList.all calmB)=true):∀ (fuel:Nat) (listed:Array Bool) (a:Act) (w:World),wpAny P .any ops Q fuel listed a w→wpAnyIn (Fence.wide.inRound l) n P .any ops Q fuel listed a w
 | 0,_,_,_,h=>h
 | fuel+1,listed,a,w,h=>⟨h.1,fun i hi=>wpOpIn_mono (fun a' w' h'=>wpAnyIn_of_wpAny hno hall fuel _ a' w' h') (wpOpIn_of_wpOp hno hall (h.2 i hi))⟩
theorem wpIn_region_ordX {id:Nat} {a:Act} {w:World} {lo:List Oper} (order:List (Nat × Bool)) (x:Nat) (S:World→Prop) (hm:P.follows .mixedOrders=true)
  (hs:(Region.noSelect lo.toArray && (order.all fun q=>q.2 || waitsB lo.toArray x q.1) && (order.length == lo.length) && ordB lo.toArray order (Array.replicate lo.length false) && lo.all calmB)=true) (hS:S w.drew)
  (h:wpOrd P lo S x (Q .normal) order a w.drew):(Code.region id lo.toArray true).wpIn (Fence.wide.inRound l) n P Q a w:=by
 simp only [Bool.and_eq_true,beq_iff_eq] at hs
 obtain ⟨⟨⟨⟨h1,h3⟩,h4⟩,h5⟩,h6⟩:=hs
 have h3':∀ q∈order,q.2=false→waitsB lo.toArray x q.1=true:=fun q hq hf=>by
  have:=List.all_eq_true.1 h3 q hq
  rw [hf] at this
  simpa using this
 refine wpIn_mono (Q:=Calm Q) (wpIn_region_any hm (wpAnyIn_of_wpAny (fun ⟨_,_,h⟩=>h) h6 _ _ _ _ (wpAny_of_anyX (S:=S) (x:=x) _ _ _ _ ?_))) ?_
 ·have:=anyX_of_ord (Q:=Q) (Q':=Calm Q) h1 (fun _ _ h=>h) (fun _ _ _ h=>h) order (Array.replicate lo.length false) a w.drew h3' h5 hS h
  rw [h4] at this
  simpa using this
 ·intro e a w h
  cases e <;> first | exact h | exact h.elim
end
end Go.Proofs.Ts
namespace Go.Proofs.Ts
open Go Go.RowKit
attribute [local go_sem] Oper.semAt_some
def PM.next (M:PM) (l:List Nat):PSet:=l.foldl (fun t k=>t.or (M.follow.getD k PSet.zero)) PSet.zero
def PM.step (M:PM) (s:PSet) (c:Nat):PSet:=(M.next s.elems).and (M.at'.getD c PSet.zero)
end Go.Proofs.Ts
namespace Go.Proofs.Ts
open Go Go.RowKit
attribute [local go_sem] Oper.semAt_some
def PM.putFollow (M:PM) (k:Nat) (s:PSet):PM:={ M with follow:=M.follow.set k s }
def PM.linkOne (M:PM) (tt:PSet) (k:Nat):PM:=M.putFollow k ((M.follow.getD k PSet.zero).or tt)
def PM.link (M:PM) (l:List Nat) (tt:PSet):PM:=l.foldl (fun M k=>M.linkOne tt k) M
end Go.Proofs.Ts
namespace Go.Proofs.Ts
open Go Go.RowKit
structure BSet where
 a:Nat
 b:Nat
 c:Nat
 d:Nat
 deriving DecidableEq,Inhabited
namespace BSet
def word (s:BSet):Nat→Nat
 | 0=>s.a
 | 1=>s.b
 | 2=>s.c
 | _=>s.d
def ok (s:BSet):Prop:=s.a < W64∧s.b < W64∧s.c < W64∧s.d < W64
def has (s:BSet) (c:Nat):Bool:=(s.word (c / 64)).testBit (c % 64)
def cells (s:BSet):List Value:=[.int .u64 s.a,.int .u64 s.b,.int .u64 s.c,.int .u64 s.d]
end BSet
inductive Ast where
 | empty
 | huge
 | one (s:BSet)
 | seq (a b:Ast)
 | or (a b:Ast)
 | many (a:Ast) (sm:Bool)
 | maybe (a:Ast)
namespace Ast
def val:Ast→Value
 | empty => .iface 296 (.agg #[])
 | huge => .iface 388 (.agg #[])
 | one s => .iface 300 (.agg s.cells.toArray)
 | seq a b => .iface 393 (.agg #[a.val,b.val])
 | or a b => .iface 387 (.agg #[a.val,b.val])
 | many a sm => .iface 304 (.agg #[a.val,.bool sm])
 | maybe a => .iface 390 (.agg #[a.val])
def count:Ast→Nat
 | empty | huge=>0
 | one _=>1
 | seq a b | or a b=>a.count+b.count
 | many a _ | maybe a=>a.count
def ok:Ast→Prop
 | empty | huge=>True
 | one s=>s.ok
 | seq a b | or a b=>a.ok∧b.ok
 | many a _ | maybe a=>a.ok
end Ast
structure Part where
 first:PSet
 last:PSet
 none:Bool
def Part.cells (p:Part):List Value:=p.first.cells++(p.last.cells++[.bool p.none])
def Part.val (p:Part):Value := .agg p.cells.toArray
structure Part.ok (p:Part):Prop where
 f:p.first.ok
 l:p.last.ok
def PM.putPlace (M:PM) (s:BSet):PM:={ M with at':=(M.at'.zipIdx).map fun q=>if s.has q.2 then q.1.on M.n else q.1,n:=M.n+1 }
def Part.or (p q:Part):Part:=⟨p.first.or q.first,p.last.or q.last,p.none || q.none⟩
def Part.seq (p q:Part):Part:=⟨if p.none then p.first.or q.first else p.first,if q.none then q.last.or p.last else q.last,p.none && q.none⟩
def PM.part:Ast→PM→PM × Part
 | .empty,M=>(M,⟨.zero,.zero,true⟩)
 | .huge,M=>(M,⟨.zero,.zero,true⟩)
 | .one s,M=>(M.putPlace s,⟨PSet.zero.on M.n,PSet.zero.on M.n,false⟩)
 | .or a b,M=>((PM.part b (PM.part a M).1).1,(PM.part a M).2.or (PM.part b (PM.part a M).1).2)
 | .seq a b,M=>((PM.part b (PM.part a M).1).1.link (PM.part a M).2.last.elems (PM.part b (PM.part a M).1).2.first,(PM.part a M).2.seq (PM.part b (PM.part a M).1).2)
 | .many a sm,M=>((PM.part a M).1.link (PM.part a M).2.last.elems (PM.part a M).2.first,⟨(PM.part a M).2.first,(PM.part a M).2.last,(PM.part a M).2.none || !sm⟩)
 | .maybe a,M=>((PM.part a M).1,⟨(PM.part a M).2.first,(PM.part a M).2.last,true⟩)
/-! ### What a part keeps. -/
def PSet.under (s:PSet) (n:Nat):Prop:=∀ k∈s.elems,k < n
end Go.Proofs.Ts
namespace Go.Proofs.Ts
open Go
/-! ### Sets of bytes. -/
def BSet.setw (s:BSet) (i v:Nat):BSet:=match i with
 | 0=>{ s with a:=v }
 | 1=>{ s with b:=v }
 | 2=>{ s with c:=v }
 | _=>{ s with d:=v }
def BSet.on (s:BSet) (k:Nat):BSet:=s.setw (k / 64) (s.word (k / 64) ||| 2 ^ (k % 64))
def BSet.addN (s:BSet) (lo:Nat):Nat→BSet
 | 0=>s
 | n+1=>(s.addN lo n).on (lo+n)
def BSet.add (s:BSet) (lo hi:Nat):BSet:=s.addN lo (hi+1 - lo)
def BSet.zero:BSet:=⟨0,0,0,0⟩
def BSet.notN (s:BSet):Nat→BSet
 | 0=>s
 | n+1=>(s.notN n).setw n (18446744073709551615 ^^^ (s.notN n).word n)
def BSet.not (s:BSet):BSet:=s.notN 4
/-! ### Patterns. -/
def Ast.places:Ast→Nat
 | .empty=>0
 | .huge=>129
 | .one _=>1
 | .seq a b | .or a b=>min (a.places+b.places) 129
 | .many a _ | .maybe a=>a.places
def Ast.join:Ast→Ast→Ast
 | .empty,b=>b
 | a,.empty=>a
 | a,b => .seq a b
def Ast.joinN (x y:Ast):Nat→Ast
 | 0=>x
 | n+1=>(x.joinN y n).join y
abbrev Times:=Ast→Nat→Nat→Bool→Ast
def onceT:Times:=fun a _ _ _=>a
def repeatT:Times:=fun a lo hi endless =>
 if a.places * (if endless then lo+1 else hi) > 128 then .huge
 else if endless then (Ast.joinN .empty a lo).join (.many a false)
 else (Ast.joinN .empty a lo).joinN (.maybe a) (hi - lo)
/-! ### The text. -/
def classOne (s:ByteArray) (o:BSet) (i:Nat):PR BSet :=
 if clsB s i then
  match singleP s i with
  | .fault e => .fault e
  | .ok lo j =>
   if isB s j 45 then
    if clsB s (j+1) then
     match singleP s (j+1) with
     | .fault e => .fault e
     | .ok hi k=>if hi < lo then .fault (k - 1) else .ok (o.add lo.toNat hi.toNat) k
    else .fault (j+1)
   else .ok (o.add lo.toNat lo.toNat) j
 else .fault i
def classP (s:ByteArray):Nat→Bool→BSet→Nat→PR BSet
 | 0,_,_,i => .fault i
 | f+1,first,o,i =>
  if first || !isB s i 93 then
   match classOne s o i with
   | .fault e => .fault e
   | .ok o' j=>classP s f false o' j
  else .ok o i
def setP (s:ByteArray) (i:Nat):PR BSet :=
 match classP s (s.size+1) true .zero (eatB s i 94) with
 | .fault e => .fault e
 | .ok o j => .ok (if isB s i 94 then o.not else o) (j+1)
def wrongB (c:UInt8):Bool:=c == 41 || c == 93 || c == 123 || c == 125 || c == 42 || c == 43 || c == 63 || c == 124
def atomP (A:Nat→PR Ast) (s:ByteArray) (i:Nat):PR Ast :=
 match s.data.toList[i]? with
 | none => .fault i
 | some c =>
  if c=40 then
   match A (i+1) with
   | .fault e => .fault e
   | .ok x j=>if isB s j 41 then .ok x (j+1) else .fault j
  else if c=46 then .ok (.one (BSet.zero.add 0 255)) (i+1)
  else if c=91 then
   match setP s (i+1) with
   | .fault e => .fault e
   | .ok o j => .ok (.one o) j
  else if wrongB c then .fault i
  else
   match singleP s i with
   | .fault e => .fault e
   | .ok d j => .ok (.one (BSet.zero.add d.toNat d.toNat)) j
def timesP (T:Times) (s:ByteArray) (a:Ast) (i:Nat):PR Ast :=
 match digitP s i 0 with
 | .fault e => .fault e
 | .ok lo j =>
  if isB s j 44 then
   if isB s (j+1) 125 then .ok (T a lo lo true) (j+2)
   else
    match digitP s (j+1) lo with
    | .fault e => .fault e
    | .ok hi k=>if isB s k 125 then .ok (T a lo hi false) (k+1) else .fault k
  else if isB s j 125 then .ok (T a lo lo false) (j+1) else .fault j
def behindP (T:Times) (s:ByteArray) (a:Ast) (i:Nat):PR Ast :=
 if isB s i 42 then .ok (.many a false) (i+1)
 else if isB s i 43 then .ok (.many a true) (i+1)
 else if isB s i 63 then .ok (.maybe a) (i+1)
 else if isB s i 123 then timesP T s a (i+1)
 else .ok a i
def repP (T:Times) (A:Nat→PR Ast) (s:ByteArray) (i:Nat):PR Ast :=
 match atomP A s i with
 | .fault e => .fault e
 | .ok a j=>behindP T s a j
def moreB (s:ByteArray) (i:Nat):Bool:=decide (i < s.size) && !isB s i 124 && !isB s i 41
def seqP (T:Times) (A:Nat→PR Ast) (s:ByteArray):Nat→Ast→Nat→PR Ast
 | 0,_,i => .fault i
 | f+1,x,i =>
  if moreB s i then
   match repP T A s i with
   | .fault e => .fault e
   | .ok y j=>seqP T A s f (x.join y) j
  else .ok x i
def orP (T:Times) (A:Nat→PR Ast) (s:ByteArray):Nat→Ast→Nat→PR Ast
 | 0,_,i => .fault i
 | f+1,x,i =>
  if isB s i 124 then
   match seqP T A s (s.size+1) .empty (i+1) with
   | .fault e => .fault e
   | .ok y j=>orP T A s f (.or x y) j
  else .ok x i
def altP (T:Times) (s:ByteArray):Nat→Nat→PR Ast
 | 0,i => .fault i
 | n+1,i =>
  match seqP T (altP T s n) s (s.size+1) .empty i with
  | .fault e => .fault e
  | .ok x j=>orP T (altP T s n) s (s.size+1) x j
inductive Parsed where
 | fault (i:Nat)
 | big
 | ok (x:Ast)
def parseP (s:ByteArray):Parsed :=
 match altP onceT s (s.size+1) 0 with
 | .fault e => .fault e
 | .ok _ j =>
  if j=s.size then
   match altP repeatT s (s.size+1) 0 with
   | .fault e => .fault e
   | .ok x _=>if x.places > 128 then .big else .ok x
  else .fault j
/-! ### Places rise. -/
end Go.Proofs.Ts
namespace Go.Proofs.Ts
open Go Go.RowKit
def Asserts (T:TypeId) (v:Value) (A:TypeId) (z:Value) (hit:Bool):Prop:=∀ w,(Instr.typeAssert (.iface T v) 210 A true).run Tryz.prog w = .ok (.tuple #[z,.bool hit]) w
theorem below_mod {w w':World} (h:Below w.heap.size w w') {S:Nat→Prop}:Mod S w w':=⟨h.os,h.tape,h.output,h.size,fun j hj _=>h.block j hj⟩
end Go.Proofs.Ts
namespace Go.Proofs.Ts
open Go Go.RowKit
def Ast.isEmpty:Ast→Bool
 | .empty=>true
 | _=>false
end Go.Proofs.Ts
namespace Go.Proofs.Ts
open Go Go.RowKit
structure Two (w:World) (xa ea:Nat) (v1 v2:Value):Prop where
 ne:xa≠ea
 x:w.heap[xa]?=some (.cells #[v1] 210 (0,0))
 e:w.heap[ea]?=some (.cells #[v2] 76 (0,0))
end Go.Proofs.Ts
namespace Go.Proofs.Ts
open Go
def Times.Keeps (T:Times):Prop:=∀ (a:Ast) lo hi en,a.ok→(T a lo hi en).ok
section
variable {T:Times} {A:Nat→PR Ast} {s:ByteArray}
end
end Go.Proofs.Ts
namespace Go.Proofs.Ts
open Go Go.RowKit
def PM.zero:PM:=⟨List.replicate 256 PSet.zero,List.replicate 129 PSet.zero,PSet.zero,0⟩
def PM.setLast (M:PM) (s:PSet):PM:={ M with last:=s }
def PM.compile (e:Ast):PM:=((PM.part e .zero).1.putFollow 128 (PM.part e .zero).2.first).setLast (if (PM.part e .zero).2.none then (PM.part e .zero).2.last.on 128 else (PM.part e .zero).2.last)
end Go.Proofs.Ts
namespace Go.Proofs.Ts
open Go Go.RowKit
def PM.atc (M:PM) (c:Nat):PSet:=M.at'.getD c .zero
def PM.alikeTo (M:PM):Nat→List (PSet × Nat)
 | 0=>[]
 | c+1=>if (get (M.alikeTo c) (M.atc c)).isSome then M.alikeTo c else M.alikeTo c++[(M.atc c,c)]
def PM.kindsTo (M:PM) (c:Nat):List Nat:=(M.alikeTo c).map (·.2)
def PM.kinds (M:PM):List Nat:=M.kindsTo 256
inductive Met2 (M:PM):PSet→Prop
 | start:Met2 M beginSet
 | step (s:PSet) (c:Nat):Met2 M s→c < 256→M.step s c≠PSet.zero→Met2 M (M.step s c)
/-! ### All places at a byte lie below 128. -/
def PM.small (M:PM):Prop:=∀ s∈M.at',s.under M.n
end Go.Proofs.Ts
namespace Go.Proofs.Ts
open Go Go.RowKit
def PM.reads (M:PM) (s:PSet):List UInt8→Bool
 | []=>M.ends s
 | c :: t=>if M.step s c.toNat=PSet.zero then false else M.reads (M.step s c.toNat) t
def PM.live (M:PM) (s:PSet):Prop:=∃ t,M.reads s t=true
def goes (rows:List (List Int)) (i k:Nat):Option Nat :=
 match rows[i]? with
 | none=>none
 | some r=>match r[k]? with
  | none=>none
  | some z=>if 0≤z then some z.toNat else none
/-! ### Rounds. -/
section
variable {M:PM} {sets:List PSet} {rows:List (List Int)} {b b':List Nat} {n m:Nat}
end
end Go.Proofs.Ts
namespace Go.Proofs.Ts
open Go
def Ast.nul:Ast→Bool
 | .empty | .huge | .maybe _=>true
 | .one _=>false
 | .seq a b=>a.nul && b.nul
 | .or a b=>a.nul || b.nul
 | .many a sm=>a.nul || !sm
/-! ### What is read, place by place. -/
def PM.fol (M:PM) (k k':Nat):Prop:=(M.follow.getD k PSet.zero).mem k'=true
def PM.takes (M:PM) (k:Nat) (c:UInt8):Prop:=(M.atc c.toNat).mem k=true
def PM.run (M:PM):List UInt8→Nat→Prop
 | [],k=>M.last.mem k=true
 | c :: t,k=>∃ k',k' < 192∧M.fol k k'∧M.takes k' c∧M.run t k'
def PM.via (M:PM) (P:Nat→Prop) (t:List UInt8):Prop:=∃ c t' k,t=c :: t'∧k < 192∧P k∧M.takes k c∧M.run t' k
/-! ### First and last places, and links, of a pattern whose places begin at n. -/
def Ast.fst:Ast→Nat→Nat→Prop
 | .empty,_,_ | .huge,_,_=>False
 | .one _,n,k=>k=n
 | .seq a b,n,k=>a.fst n k∨(a.nul=true∧b.fst (n+a.count) k)
 | .or a b,n,k=>a.fst n k∨b.fst (n+a.count) k
 | .many a _,n,k | .maybe a,n,k=>a.fst n k
def PM.tail (N:PM) (F:Nat→Prop) (acc:Prop) (t:List UInt8):Prop:=(t=[]∧acc)∨N.via F t
end Go.Proofs.Ts
namespace Go.Proofs.Ts
open Go
def PM.wide (M:PM) (most:Nat):Prop:=∃ l:List PSet,l.Nodup∧(∀ s∈l,Met2 M s)∧most < l.length
inductive Mach where
 | fault (i:Nat)
 | big
 | ok (x:Ast) (c:Nat)
def Mach.num:Mach→Int
 | .ok _ c=>c
 | _=>0
def Mach.err:Mach→Int
 | .fault _=>6
 | .big=>9
 | .ok _ _=>0
def Mach.place:Mach→Int
 | .fault i=>i
 | _=>-1
end Go.Proofs.Ts
namespace Go.Proofs.Ts
open Go
def allB:BSet:=BSet.zero.add 0 255
def oneB (c:UInt8):BSet:=BSet.zero.add c.toNat c.toNat
def wildFrom (s:ByteArray):Nat→Ast→Nat→Parsed
 | 0,x,_ => .ok x
 | f+1,x,i=>match s.data.toList[i]? with
  | none => .ok x
  | some c =>
   if c=42 then wildFrom s f (x.join (.many (.one allB) false)) (i+1)
   else if c=63 then wildFrom s f (x.join (.one allB)) (i+1)
   else if c=92 then match s.data.toList[i+1]? with
    | none => .fault (i+1)
    | some d=>wildFrom s f (x.join (.one (oneB d))) (i+2)
   else wildFrom s f (x.join (.one (oneB c))) (i+1)
def wildP (s:ByteArray):Parsed:=wildFrom s (s.size+1) .empty 0
section
variable {s:ByteArray} {f i:Nat} {x:Ast} {c d:UInt8}
end
/-! ### What is read is a pattern of few places. -/
end Go.Proofs.Ts
namespace Go.Proofs.Ts
open Go
structure BSt where
 l:Option Nat
 h:Option Nat
def loStep (lo:List UInt8):Option Nat→UInt8→Option (Option Nat)
 | none,_=>some none
 | some k,c=>match lo[k]? with
  | none=>some none
  | some b=>if b < c then some none else if c < b then none else some (some (k+1))
def hiStep (hi:List UInt8):Option Nat→UInt8→Option (Option Nat)
 | none,_=>some none
 | some k,c=>match hi[k]? with
  | none=>none
  | some b=>if b < c then none else if c < b then some none else some (some (k+1))
section
variable {lo hi:List UInt8} {k:Nat} {c b:UInt8}
end
def betStep (lo hi:List UInt8) (s:BSt) (c:UInt8):Option BSt:=match loStep lo s.l c with
 | none=>none
 | some l=>match hiStep hi s.h c with
  | none=>none
  | some h=>some ⟨l,h⟩
def betEnds (lo:List UInt8) (s:BSt):Bool:=match s.l with
 | none=>true
 | some k=>decide (k=lo.length)
def betStart (hi:List UInt8):BSt:=⟨some 0,if hi=[] then none else some 0⟩
end Go.Proofs.Ts
