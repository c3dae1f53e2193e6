/- Lemmas towards the statement Simple of termsearch: walks of the program's functions and plain laws on lists (TsCountB, TsNumberB, TsSeg, TsGrow, TsKeep3, TsFrom, TsTerms, TsRowC). Conditions: those that each theorem names. -/
import Derived.Test.YtffjomnnkilhgaaGreatDoorSimplePD
import Derived.Laws.OwnMore
import Derived.Laws.EntriesVeiled
import Derived.Test.YtffjomnnkilhgaaGreatDoorSimplePB
import Derived.Test.YtffjomnnkilhgaaGreatDoorSimplePC
import Derived.Deep.CutBlock
import Derived.Maps.AppendAt
import Derived.Deep.DeepCutAuto
import Derived.Sort.OwnSorted
import Derived.Test.YtffjomnnkilhgaaGreatDoorSimplePA
set_option linter.unusedVariables false
set_option linter.unusedSimpArgs false
set_option linter.unusedSectionVars false
namespace Go.Proofs.Ts
open Go Go.RowKit
theorem Tryz.info4:(Tryz.prog.info? 4).map (fun i=>(i.zero,i.size,i.bytes))=some (some (.bool false),1,1):=by kernel_rfl
theorem made_false (n:Nat):madeCells #[.bool false] n=((List.replicate n false).map Value.bool).toArray:=by
 apply Array.ext'
 rw [toList_madeCells_one]
 simp
def cntStart (w:World) (db n:Nat):World :=
 (((w.alloc (.cells #[ptrV db] 158)).alloc (.cells (madeCells #[.bool false] n) 4)).alloc (.cells #[.slice (some ⟨w.heap.size+1,0,none⟩) n n] 151)).alloc (.cells #[countFn w.heap.size] 383)
theorem cntStart_old (w:World) (db n j:Nat) (h:j < w.heap.size):(cntStart w db n).heap[j]?=w.heap[j]?:=by
 unfold cntStart
 rw [Below.heap_alloc _ _ _ (by simp; omega),Below.heap_alloc _ _ _ (by simp; omega),Below.heap_alloc _ _ _ (by simp; omega),Below.heap_alloc _ _ _ h]
theorem Cnt.start {B db:Nat} {V:Value} {D:List DS} {w:World} (hdct:w.heap[db]?=some (.cells #[V] 172 (0,0))) (hrows:RowsIn B w V D) (hVdb:V.ownBlock≠some db) :
  Cnt B w.heap.size db V D (List.replicate D.length false) (cntStart w db D.length):=by
 have hdlt:=lt_of_heap hdct
 have old:=cntStart_old w db D.length
 refine ⟨hdlt,(old _ hdlt).trans hdct,?_,?_,?_,?_,hrows.kept fun k _ hk=>old k hk,fun g hg=>⟨(hrows.row.lt g hg).2,fun e=>hVdb (e ▸ hg)⟩,fun i s g hi hg=>((hrows.erow i s hi).lt g hg).2,by simp⟩
 ·unfold cntStart
  rw [Below.heap_alloc _ _ _ (by simp <;> omega),Below.heap_alloc _ _ _ (by simp <;> omega),Below.heap_alloc _ _ _ (by simp <;> omega)]
  exact heap_alloc_new _ _
 ·unfold cntStart
  rw [Below.heap_alloc _ _ _ (by simp <;> omega),Below.heap_alloc _ _ _ (by simp <;> omega),← made_false]
  have:=heap_alloc_new (w.alloc (.cells #[ptrV db] 158)) (.cells (madeCells #[.bool false] D.length) 4)
  simpa using this
 ·unfold cntStart
  rw [Below.heap_alloc _ _ _ (by simp)]
  have:=heap_alloc_new ((w.alloc (.cells #[ptrV db] 158)).alloc (.cells (madeCells #[.bool false] D.length) 4)) (.cells #[.slice (some ⟨w.heap.size+1,0,none⟩) D.length D.length] 151)
  simpa using this
 ·unfold cntStart
  have:=heap_alloc_new (((w.alloc (.cells #[ptrV db] 158)).alloc (.cells (madeCells #[.bool false] D.length) 4)).alloc (.cells #[.slice (some ⟨w.heap.size+1,0,none⟩) D.length D.length] 151)) (.cells #[countFn w.heap.size] 383)
  simpa using this
set_option maxRecDepth 100000 in
set_option maxHeartbeats 2000000 in
theorem count_any (B db:Nat) (V:Value) (D:List DS) (w:World) (hdct:w.heap[db]?=some (.cells #[V] 172 (0,0))) (hrows:RowsIn B w V D) (hVdb:V.ownBlock≠some db) (h0:0 < D.length) (hlen:D.length≤1000000)
  (hz:∀ (i:Nat) s,D[i]?=some s→s.below=0) (c ρ:Nat→Nat) (hc:∀ i,c i≤1000000)
  (hST:∀ (i:Nat) s,D[i]?=some s→s.edges.length≤300∧(∀ e∈s.edges,e.2 < D.length∧ρ e.2 < ρ i)∧c i=(if s.final then 1 else 0)+(s.edges.map fun e=>c e.2).sum) :
  Calls Tryz.prog 142 #[ptrV db] w fun e w'=>e = .returned (.tuple #[]) ∧ ∃ D' dn',w'.heap[db]?=some (.cells #[V] 172 (0,0))∧RowsIn B w' V D'∧Mod (fun j=>V.ownBlock=some j) w w' ∧
   Turned c ρ (ρ 0) D (List.replicate D.length false) D' dn'∧dn'[0]?=some true∧Clo D dn':=by
 have hdlt:=lt_of_heap hdct
 obtain ⟨m,hm⟩:∃ m,D.length=m+1:=⟨D.length - 1,by omega⟩
 obtain ⟨g,cap,hV⟩:∃ g cap,V = .slice (some ⟨g,0,none⟩) D.length cap:=by
  have hr:=hrows.row
  rw [hm] at hr
  obtain ⟨g,cap,e⟩:=ownsRow_head hr
  exact ⟨g,cap,by rw [hm]; exact e⟩
 have hVl:∀ k,V.ownBlock=some k→k < w.heap.size:=fun k e=>(hrows.row.lt k e).2
 obtain ⟨i0,hi,hz0,hz1,hz2⟩:=info_parts Tryz.info4
 have hmk:∀ W:World,(Instr.makeSlice 151 (.int .i64 D.length) (.int .i64 D.length)).run Tryz.prog W = .ok (.slice (some ⟨W.heap.size,0,none⟩) D.length D.length) (W.alloc (.cells (madeCells #[.bool false] D.length) 4)):=fun W=>by
  have:=run_make (P:=Tryz.prog) W 151 4 i0 (.bool false) Tryz.underlying151 hi hz0 .i64 .i64 D.length D.length (by omega) (Int.le_refl _) (by rw [hz2]; omega) (by omega)
  rw [hz1] at this
  simpa [Value.cells] using this
 have hmf:∀ (fn:Fn) (first cap:Array Value) (w:World),(Instr.makeFunc fn first cap).run Tryz.prog w = .ok (.func fn first cap) w:=fun _ _ _ _=>rfl
 have d0:w.cell? ⟨db,0,none⟩=some (.slice (some ⟨g,0,none⟩) D.length cap):=by rw [← hV]; exact cell_block hdct
 have HZ:=Lib.hid hz
 have HC:=Lib.hid hc
 have HS:=Lib.hid hST
 have HV:=Lib.hid hV
 have HM:=Lib.hid hm
 clear hi hz hc hST hV hm hz0 hz1 hz2
 unfold ptrV
 go_enter Tryz.func142,Tryz.ntmps142
 go_wp2_with fail
 have hst:=Cnt.start hdct hrows hVdb
 refine (below_any B w.heap.size db V c ρ HC.out D HS.out hlen (ρ 0+1) 0 D (List.replicate D.length false) (cntStart w db D.length) (by omega) h0 (fun i s hi=>⟨s.below,hi⟩) rfl
  (fun i s hi _=>⟨fun e=>(by rw [List.getElem?_replicate] at e; split at e <;> cases e),fun _=>HZ.out i s hi⟩) (fun i s hi e=>(by rw [List.getElem?_replicate] at e; split at e <;> cases e)) hst).mono ?_
 rintro e w2 ⟨rfl,D',dn',hcn,hmod,htu,h0',hclo⟩
 go_wp2_with fail
 refine bodyPost_end (results_none rfl _ _ _) rfl ?_
 refine ⟨rfl,D',dn',hcn.dct,hcn.rows,⟨hmod.os,hmod.tape,hmod.output,Nat.le_trans (by unfold cntStart; simp; omega) hmod.size,fun j hj hn=>(hmod.block j (by unfold cntStart; simp; omega) ?_).trans (cntStart_old w db D.length j hj)⟩,htu,h0',hclo⟩
 rintro (e | e)
 ·exact hn e
 ·omega
end Go.Proofs.Ts
namespace Go.Proofs.Ts
open Go Go.RowKit
structure DictIs (w:World) (db:Nat) (R:Nat→Prop) (Λ:Nat→List Word) (ρ:Nat→Nat) (D:List DS):Prop where
 mem:∃ V,w.heap[db]?=some (.cells #[V] 172 (0,0))∧RowsIn 0 w V D
 root:R 0∧ρ 0≤1000000
 state:∀ i,R i → ∃ s,D[i]?=some s∧Asc s.edges∧s.below=(Λ i).length∧Λ i=wordsAt s.final s.edges Λ ∧ ∀ e∈s.edges,R e.2∧ρ e.2 < ρ i
def numStart (w:World):World :=
 ((((w.alloc (.cells #[.slice none 0 0] 172)).alloc (.cells #[ptrV w.heap.size] 158)).alloc (.map #[] 0)).alloc (.cells #[.map (some (w.heap.size+2))] 276)).alloc (.cells #[meetFn w.heap.size] 376)
theorem numStart_old (w:World) (j:Nat) (h:j < w.heap.size):(numStart w).heap[j]?=w.heap[j]?:=by
 unfold numStart
 rw [Below.heap_alloc _ _ _ (by simp; omega),Below.heap_alloc _ _ _ (by simp; omega),Below.heap_alloc _ _ _ (by simp; omega),Below.heap_alloc _ _ _ (by simp; omega),Below.heap_alloc _ _ _ h]
theorem numStart_below (w:World):Below w.heap.size w (numStart w):=⟨rfl,rfl,rfl,by unfold numStart; simp; omega,fun j hj=>numStart_old w j hj⟩
theorem Meet.start (w:World):Meet w.heap.size [] [] (.slice none 0 0) (numStart w):=by
 refine ⟨?_,?_,?_,?_,?_,RowsIn.empty _ _⟩
 ·unfold numStart
  rw [Below.heap_alloc _ _ _ (by simp <;> omega),Below.heap_alloc _ _ _ (by simp <;> omega),Below.heap_alloc _ _ _ (by simp <;> omega),Below.heap_alloc _ _ _ (by simp <;> omega)]
  exact heap_alloc_new _ _
 ·unfold numStart
  rw [Below.heap_alloc _ _ _ (by simp <;> omega),Below.heap_alloc _ _ _ (by simp <;> omega),Below.heap_alloc _ _ _ (by simp <;> omega)]
  have:=heap_alloc_new (w.alloc (.cells #[.slice none 0 0] 172)) (.cells #[ptrV w.heap.size] 158)
  simpa using this
 ·have:=MapIs.made ptrV ((w.alloc (.cells #[.slice none 0 0] 172)).alloc (.cells #[ptrV w.heap.size] 158))
  have hs:((w.alloc (.cells #[.slice none 0 0] 172)).alloc (.cells #[ptrV w.heap.size] 158)).heap.size=w.heap.size+2:=by simp
  rw [hs] at this
  refine this.of_block ?_
  unfold numStart
  rw [Below.heap_alloc _ _ _ (by simp <;> omega),Below.heap_alloc _ _ _ (by simp <;> omega)]
 ·unfold numStart
  rw [Below.heap_alloc _ _ _ (by simp <;> omega)]
  have:=heap_alloc_new (((w.alloc (.cells #[.slice none 0 0] 172)).alloc (.cells #[ptrV w.heap.size] 158)).alloc (.map #[] 0)) (.cells #[.map (some (w.heap.size+2))] 276)
  simpa using this
 ·unfold numStart
  have:=heap_alloc_new ((((w.alloc (.cells #[.slice none 0 0] 172)).alloc (.cells #[ptrV w.heap.size] 158)).alloc (.map #[] 0)).alloc (.cells #[.map (some (w.heap.size+2))] 276)) (.cells #[meetFn w.heap.size] 376)
  simpa using this
def nodeOf (M:List (Nat × Nat)) (i:Nat):Nat:=match M[i]? with | some p=>p.1 | none=>0
def wordsOf (M:List (Nat × Nat)) (L:Nat→List Word) (i:Nat):Nat:=match M[i]? with | some p=>(L p.1).length | none=>0
theorem nodeOf_at {M:List (Nat × Nat)} {i:Nat} {p:Nat × Nat} (h:M[i]?=some p):nodeOf M i=p.1:=by simp [nodeOf,h]
theorem wordsOf_at {M:List (Nat × Nat)} {L:Nat→List Word} {i:Nat} {p:Nat × Nat} (h:M[i]?=some p):wordsOf M L i=(L p.1).length:=by simp [wordsOf,h]
theorem Met.all {G:Graph} {Good:Nat→Prop} {H root:Nat} {V V':Value} {w w':World} {M:List (Nat × Nat)} {D:List DS} (h:Met G Good H root [] [] V w M D V' w') (k:Nat) (s:DS) (hk:D[k]?=some s) :
  ∃ n nd,M[k]?=some (n,k)∧G n=some nd∧s.final=nd.final∧s.below=0∧s.edges=nd.edges.map (fun e=>(e.1,(get M e.2).getD 0)) ∧ ∀ e∈nd.edges,M[(get M e.2).getD 0]?=some (e.2,(get M e.2).getD 0):=by
 have hcl:=fun k hk=>h.closed k (Nat.zero_le _) hk
 obtain ⟨n,s',nd,h1,h2,h3,h4,h5,h6,h7⟩:=hcl k (List.getElem?_eq_some_iff.1 hk).1
 rw [hk] at h2
 cases h2
 refine ⟨n,nd,h1,h3,h4,h5,h6,fun e he=>?_⟩
 obtain ⟨x,hx⟩:=Option.isSome_iff_exists.1 (h7 e he)
 rw [hx,Option.getD_some]
 obtain ⟨j,hj⟩:=List.getElem?_of_mem (get_some_mem hx)
 obtain ⟨n',s2,nd2,g1,_⟩:=hcl j (by rw [← h.len]; exact (List.getElem?_eq_some_iff.1 hj).1)
 rw [hj] at g1
 have:=congrArg Prod.snd (Option.some.inj g1)
 simp only at this
 rw [this] at hj ⊢
 exact hj
theorem wordsAt_length (f:Bool) (es:List (UInt8 × Nat)) (L:Nat→List Word):(wordsAt f es L).length=(if f then 1 else 0)+(es.map fun e=>(L e.2).length).sum:=by
 unfold wordsAt
 rw [List.length_append,List.length_flatMap]
 congr 1
 ·split <;> rfl
 ·simp
theorem wordsAt_map (f:Bool) (es:List (UInt8 × Nat)) (L Λ:Nat→List Word) (g:Nat→Nat) (h:∀ e∈es,Λ (g e.2)=L e.2):wordsAt f (es.map fun e=>(e.1,g e.2)) Λ=wordsAt f es L:=by
 unfold wordsAt
 rw [List.flatMap_map]
 congr 1
 rw [List.flatMap_def,List.flatMap_def]
 congr 1
 exact List.map_congr_left fun e he=>by simp only; rw [h e he]
set_option maxRecDepth 100000 in
set_option maxHeartbeats 2000000 in
theorem number_any (s:St) (B bb kb ib:Nat) (w:World) (hst:StIn B bb kb ib w s) (Good:Nat→Prop) (ρ:Nat→Nat) (L:Nat→List Word)
  (hgood:∀ n,Good n → ∃ nd,s.G n=some nd∧nd.edges.length≤300 ∧ ∀ e∈nd.edges,Good e.2∧ρ e.2 < ρ n) (hfew:∀ M:List (Nat × Nat),Apart M→(∀ p∈M,Good p.1)→M.length≤1000000)
  (hL:∀ n nd,Good n→s.G n=some nd→Asc nd.edges∧L n=wordsAt nd.final nd.edges L∧(L n).length≤1000000) (root:Nat) (hroot:Good root) (hρr:ρ root≤1000000) :
  Calls Tryz.prog 140 #[ptrV root] w fun e w'=>e = .returned (ptrV w.heap.size)∧Below w.heap.size w w' ∧ ∃ R Λ ρ' D,DictIs w' w.heap.size R Λ ρ' D∧Λ 0=L root:=by
 have hmm:=@run_makeMap Tryz.prog
 have hmf:∀ (fn:Fn) (first cap:Array Value) (w:World),(Instr.makeFunc fn first cap).run Tryz.prog w = .ok (.func fn first cap) w:=fun _ _ _ _=>rfl
 have HG:=Lib.hid hgood
 have HF:=Lib.hid hfew
 have HL:=Lib.hid hL
 clear hgood hfew hL
 unfold ptrV
 go_enter Tryz.func140,Tryz.ntmps140
 go_wp2_with fail
 have hms:=Meet.start w
 refine (meet_any s B bb kb ib w.heap.size w hst rfl Good ρ HG.out HF.out (ρ root+1) root [] [] (.slice none 0 0) (numStart w) (Nat.lt_succ_self _) hroot (fun p hp=>by cases hp) List.nodup_nil rfl hms (numStart_below w)).mono ?_
 rintro e w2 ⟨M,D,V,rfl,hm⟩
 have hroot0:M[0]?=some (root,0):=at_prefix (hm.first rfl) (by simp)
 have hD0:0 < D.length:=by rw [← hm.len]; exact (List.getElem?_eq_some_iff.1 hroot0).1
 have hDl:D.length≤1000000:=by rw [← hm.len]; exact HF.out M hm.apart hm.good
 have hV5:=hm.meet.rows.past
 have c1:w2.cell? ⟨w.heap.size+1,0,none⟩=some (.pointer (some ⟨w.heap.size,0,none⟩)):=cell_block hm.meet.cd
 have hall:=hm.all
 have hms:=hm.meet
 have hcb:∀ i,wordsOf M L i≤1000000:=fun i=>by
  unfold wordsOf
  cases hi:M[i]? with
  | none=>simp
  | some p =>
   have hp:=hm.good p (List.mem_of_getElem? hi)
   obtain ⟨nd,h1,_⟩:=HG.out p.1 hp
   exact (HL.out p.1 nd hp h1).2.2
 have hsum:∀ (i:Nat) st,D[i]?=some st→st.edges.length≤300∧(∀ e∈st.edges,e.2 < D.length∧ρ (nodeOf M e.2) < ρ (nodeOf M i))∧wordsOf M L i=(if st.final then 1 else 0)+(st.edges.map fun e=>wordsOf M L e.2).sum:=fun i st hi=>by
  obtain ⟨n,nd,h1,h2,h3,h4,h5,h6⟩:=hall i st hi
  have hgn:=hm.good _ (List.mem_of_getElem? h1)
  obtain ⟨nd',g1,g2,g3⟩:=HG.out n hgn
  rw [h2] at g1
  cases g1
  obtain ⟨l1,l2,l3⟩:=HL.out n nd hgn h2
  refine ⟨by rw [h5]; simpa using g2,fun e he=>?_,?_⟩
  ·rw [h5] at he
   obtain ⟨e0,he0,rfl⟩:=List.mem_map.1 he
   have:=h6 e0 he0
   refine ⟨by rw [← hm.len]; exact (List.getElem?_eq_some_iff.1 this).1,?_⟩
   rw [nodeOf_at this,nodeOf_at h1]
   exact (g3 e0 he0).2
  ·rw [wordsOf_at h1,l2,wordsAt_length,h3,h5,List.map_map]
   congr 2
   refine List.map_congr_left fun e he=>?_
   simp only [Function.comp]
   rw [wordsOf_at (h6 e he)]
 have HSUM:=Lib.hid hsum
 have HALL:=Lib.hid hall
 have HCB:=Lib.hid hcb
 have HMET:=Lib.hid hm
 have HMS:=Lib.hid hms
 clear hsum hall hcb hm hms
 go_wp2_with fail
 refine (count_any (w.heap.size+5) w.heap.size V D w2 HMS.out.dct HMS.out.rows (fun e=>by have:=hV5 _ e; omega) hD0 hDl (fun i st hi=>by obtain ⟨_,_,_,_,_,h,_⟩:=HALL.out i st hi; exact h) (wordsOf M L) (fun i=>ρ (nodeOf M i)) HCB.out HSUM.out).mono ?_
 rintro e w3 ⟨rfl,D',dn,hd3,hr3,hmod3,htu,h03,hclo3⟩
 have c3:w3.cell? ⟨w.heap.size+1,0,none⟩=some (.pointer (some ⟨w.heap.size,0,none⟩)) :=
  (hmod3.cell (p:=⟨w.heap.size+1,0,none⟩) (lt_of_cell c1) (fun e=>by have:=hV5 _ e; simp only at this; omega)).trans c1
 have hbel:Below w.heap.size w w3:=(numStart_below w).trans ((HMET.out.steps.below (fun k h=>by cases h) (by unfold numStart; simp; omega)).trans
  ⟨hmod3.os,hmod3.tape,hmod3.output,hmod3.size,fun j hj=>hmod3.block j (by have:=HMS.out.size; omega) (fun e=>by have:=hV5 _ e; omega)⟩)
 have HTU:=Lib.hid htu
 have HCLO:=Lib.hid hclo3
 have HR3:=Lib.hid hr3
 have HD3:=Lib.hid hd3
 clear htu hclo3 hr3 hd3 hmod3
 go_wp2_with fail
 go_ret
 refine ⟨rfl,hbel,fun i=>dn[i]?=some true,fun i=>L (nodeOf M i),fun i=>ρ (nodeOf M i),D',⟨⟨V,HD3.out,HR3.out.kept0⟩,⟨h03,by show ρ (nodeOf M 0)≤_; rw [nodeOf_at hroot0]; exact hρr⟩,fun i hi=>?_⟩,by simp only; rw [nodeOf_at hroot0]⟩
 have hil:i < D.length:=by
  have h1:=(List.getElem?_eq_some_iff.1 hi).1
  have h2:=HTU.out.dlen
  rw [List.length_replicate] at h2
  omega
 have hDi:D[i]?=some D[i]:=List.getElem?_eq_getElem hil
 obtain ⟨b,g1,g2⟩:=HTU.out.at_ i _ hDi
 have hb:b=wordsOf M L i:=by
  rcases g2 with ⟨_,g3⟩ | ⟨_,g3,_⟩
  ·rw [hi,List.getElem?_replicate,if_pos hil] at g3
   cases g3
  ·exact g3
 obtain ⟨n,nd,h1,h2,h3,h4,h5,h6⟩:=HALL.out i _ hDi
 have hgn:=HMET.out.good _ (List.mem_of_getElem? h1)
 obtain ⟨l1,l2,l3⟩:=HL.out n nd hgn h2
 obtain ⟨_,s2,_⟩:=HSUM.out i _ hDi
 refine ⟨_,g1,?_,?_,?_,fun e he=>⟨HCLO.out i _ hDi hi e he,(s2 e he).2⟩⟩
 ·show Asc D[i].edges
  rw [h5]
  exact List.pairwise_map.2 l1
 ·show b=_
  rw [hb,wordsOf_at h1,nodeOf_at h1]
 ·show L (nodeOf M i)=wordsAt D[i].final D[i].edges _
  rw [nodeOf_at h1,h3,h5,l2]
  exact (wordsAt_map nd.final nd.edges L _ (fun t=>(get M t).getD 0) (fun e he=>by rw [nodeOf_at (h6 e he)])).symm
end Go.Proofs.Ts
namespace Go.Proofs.Ts
open Go Go.RowKit
theorem RowsIn.cellsKept {B:Nat} {w w':World} {V:Value} {D:List DS} (h:RowsIn B w V D) (hk:∀ (k:Nat) cs t r,w.heap[k]?=some (.cells cs t r)→t≠168→w'.heap[k]?=w.heap[k]?):RowsIn B w' V D:=by
 have go:∀ {e size n:Nat} {v:Value} {xs:List Value},e≠168→w.ownsRow 0 e size v n xs→w'.ownsRow 0 e size v n xs:=fun he hr=>ownsRow_block hr fun k hk'=>by
  rcases hr.2 with ⟨rfl,_⟩ | ⟨g,cap,cur,rfl,_,hg,_⟩
  ·cases hk'
  ·cases hk'
   exact hk _ _ _ _ hg he
 exact ⟨go (by decide) h.row,h.past,fun i s hi=>go (by decide) (h.erow i s hi),h.epast,h.apart,h.apartV⟩
theorem DictIs.kept {w w':World} {db:Nat} {R:Nat→Prop} {Λ:Nat→List Word} {ρ:Nat→Nat} {D:List DS} (h:DictIs w db R Λ ρ D) (hk:∀ (k:Nat) cs t r,w.heap[k]?=some (.cells cs t r)→t≠168→w'.heap[k]?=w.heap[k]?):DictIs w' db R Λ ρ D:=by
 obtain ⟨V,h1,h2⟩:=h.mem
 exact ⟨⟨V,(hk _ _ _ _ h1 (by decide)).trans h1,h2.cellsKept hk⟩,h.root,h.state⟩
theorem ownsRow_typed {w w':World} {B e size n:Nat} {v:Value} {xs:List Value} (hr:w.ownsRow B e size v n xs) (hk:∀ (k:Nat) cs r,w.heap[k]?=some (.cells cs e r)→w'.heap[k]?=w.heap[k]?):w'.ownsRow B e size v n xs :=
 ownsRow_block hr fun k hk'=>by
  rcases hr.2 with ⟨rfl,_⟩ | ⟨g,cap,cur,rfl,_,hg,_⟩
  ·cases hk'
  ·cases hk'
   exact hk _ _ _ hg
theorem wordsB_mem {d:ByteArray} {t:List UInt8} (h:t∈wordsB d):0 < t.length∧t.length≤16:=by
 unfold wordsB at h
 rw [List.mem_filter,List.mem_map] at h
 obtain ⟨⟨f,hf,rfl⟩,h16⟩:=h
 have hne:=(fields_all d.data.toList [] (by simp) f hf).1
 refine ⟨?_,by simpa using h16⟩
 unfold lowL
 rw [List.length_map]
 exact List.length_pos_iff.2 hne
theorem wordsB_length (d:ByteArray):(wordsB d).length≤d.size+1:=by
 unfold wordsB
 have h1:=List.length_filter_le (fun w:List UInt8=>decide (w.length≤16)) ((fields d.data.toList []).map lowL)
 have h2:=fields_count d.data.toList []
 rw [List.length_map] at h1
 have h3:d.data.toList.length=d.size:=by simp
 omega
theorem words_total:∀ (docs:List ByteArray),(∀ d∈docs,d.size≤200)→(docs.flatMap wordsB).length≤201 * docs.length
 | [],_=>by simp
 | d :: ds,h=>by
  have ih:=words_total ds fun x hx=>h x (by simp [hx])
  have h1:=wordsB_length d
  have h2:=h d (by simp)
  rw [List.flatMap_cons,List.length_append,List.length_cons]
  omega
theorem postsOf_words {docs:List ByteArray} {x:List UInt8} (h:postsOf ((docs.map wordsB).take docs.length) x≠[]):∃ d∈docs,x∈wordsB d:=by
 obtain ⟨j,hj⟩:=List.exists_mem_of_ne_nil _ h
 obtain ⟨ws,h1,h2⟩:=(postsOf_mem _ _ _).1 hj
 have h3:=List.mem_of_getElem? h1
 obtain ⟨d,h4,rfl⟩:=List.mem_map.1 (List.mem_of_mem_take h3)
 exact ⟨d,h4,h2⟩
end Go.Proofs.Ts
namespace Go.Proofs.Ts
open Go Go.RowKit
theorem StIn.grow {B bb kb ib:Nat} {w W:World} {s:St} (h:StIn B bb kb ib w s) {L:Nat} {nd:Nd} {c:UInt8} {v:Value} (hG:s.G L=some nd)
  (hM:W.heap[w.heap.size]?=some (.cells #[.bool false,.slice none 0 0] 282 (0,0))) (hmv:Moves w nd.v W v) (hne:v.ownBlock≠some w.heap.size)
  (hrow:W.ownsRow 0 284 2 v (nd.edges.length+1) (Ts.edgeCells (nd.edges++[(c,w.heap.size)]))) :
  StIn B bb kb ib (W.setCell ⟨L,1,none⟩ v) (growG s L w.heap.size c nd v):=by
 obtain ⟨a1,a2⟩:=h.mapsApart
 have lt:∀ {x:Nat} {o:Obj},w.heap[x]?=some o→x < w.heap.size:=fun hx=>(Array.getElem?_eq_some_iff.1 hx).1
 have hLlt:=lt (h.nodes.node L nd hG)
 have hLb:=h.nodeBlock hG
 have hvL:nd.v.ownBlock≠some L:=fun e=>(h.rowBlock hG e).2.2.2 L nd hG rfl
 have hBsz:B≤w.heap.size:=Nat.le_trans (h.nodes.ge L nd hG).1 (Nat.le_of_lt hLlt)
 -- blocks that have not turned
 have old:∀ k,k < w.heap.size→k≠L→nd.v.ownBlock≠some k→(W.setCell ⟨L,1,none⟩ v).heap[k]?=w.heap[k]?:=fun k hk hkL hkv =>
  (Below.heap_setCell W _ _ k hkL).trans (hmv.block hk hkv)
 have oldL:(W.setCell ⟨L,1,none⟩ v).heap[L]?=some (.cells #[.bool nd.final,v] 282 (0,0)):=by
  have hWL:W.heap[L]?=some (.cells #[.bool nd.final,nd.v] 282 (0,0)):=(hmv.block hLlt hvL).trans (h.nodes.node L nd hG)
  have:=heap_setCell_same W L 1 _ _ v hWL
  simpa using this
 have newM:(W.setCell ⟨L,1,none⟩ v).heap[w.heap.size]?=some (.cells #[.bool false,.slice none 0 0] 282 (0,0)):=(Below.heap_setCell W _ _ _ (by show w.heap.size≠L; omega)).trans hM
 have vblock:∀ g,v.ownBlock=some g→g≠L∧(nd.v.ownBlock=some g∨w.heap.size < g):=fun g hg=>by
  rcases hmv.lies with e | ⟨g',e,hg'⟩
  ·rw [hg] at e
   exact ⟨fun x=>hvL (by rw [← e,x]),.inl e.symm⟩
  ·rw [hg] at e
   cases e
   have:g≠w.heap.size:=fun x=>hne (by rw [hg,x])
   exact ⟨by omega,.inr (by omega)⟩
 have vpast:Past B v:=hmv.past (h.nodes.ge L nd hG).2 hBsz
 have dom:∀ k,(s.G k).isSome→((growG s L w.heap.size c nd v).G k).isSome:=fun k hk=>by
  simp only [growG,upd]
  split
  ·rfl
  ·split
   ·rfl
   ·exact hk
 have cases':∀ b x,(growG s L w.heap.size c nd v).G b=some x→(b=L∧x={ nd with edges:=nd.edges++[(c,w.heap.size)],v:=v })∨(b=w.heap.size∧b≠L∧x=⟨false,[],.slice none 0 0⟩)∨(b≠L∧b < w.heap.size∧s.G b=some x):=fun b x hb=>by
  simp only [growG,upd] at hb
  split at hb
  ·rename_i e; cases hb; exact .inl ⟨e,rfl⟩
  ·rename_i e
   split at hb
   ·rename_i e'; cases hb; exact .inr (.inl ⟨e',e,rfl⟩)
   ·exact .inr (.inr ⟨e,lt (h.nodes.node b x hb),hb⟩)
 refine ⟨⟨fun b x hb=>?_,fun b x hb=>?_,fun b x hb=>?_,fun b b' x x' g hbb hb hb' hg=>?_⟩,h.bb_ge,h.kb_ge,h.ib_ge,h.ne,?_,h.kn.of_block (old kb h.kn.lt (fun e=>hLb.2.1 e.symm) (fun e=>(h.rowBlock hG e).2.1 rfl)),
  h.ids.of_block (old ib h.ids.lt (fun e=>hLb.2.2 e.symm) (fun e=>(h.rowBlock hG e).2.2.1 rfl)),fun p hp=>dom _ (h.idsIn p hp),fun p hp=>dom _ (h.knIn p hp),fun b x hb p hp=>?_⟩
 ·rcases cases' b x hb with ⟨rfl,rfl⟩ | ⟨rfl,_,rfl⟩ | ⟨_,_,hb'⟩
  ·exact ⟨(h.nodes.ge b nd hG).1,vpast⟩
  ·exact ⟨hBsz,fun k hk=>by cases hk⟩
  ·exact h.nodes.ge b x hb'
 ·rcases cases' b x hb with ⟨rfl,rfl⟩ | ⟨rfl,_,rfl⟩ | ⟨hbL,hbl,hb'⟩
  ·exact oldL
  ·exact newM
  ·rw [old b hbl hbL (fun e=>(h.rowBlock hG e).2.2.2 b x hb' rfl)]
   exact h.nodes.node b x hb'
 ·rcases cases' b x hb with ⟨rfl,rfl⟩ | ⟨rfl,_,rfl⟩ | ⟨hbL,hbl,hb'⟩
  ·have hl:(nd.edges++[(c,w.heap.size)]).length=nd.edges.length+1:=by simp
   simp only [hl]
   exact ownsRow_block hrow fun g hg=>Below.heap_setCell W _ _ g (vblock g hg).1
  ·exact World.ownsRow_nil _ _ _ _
  ·refine ownsRow_block (h.nodes.row b x hb') fun g hg=>old g ((h.nodes.row b x hb').lt g hg).2 ?_ ?_
   ·exact (h.rowBlock hb' hg).2.2.2 L nd hG
   ·intro e
    exact h.nodes.apart L b nd x g (Ne.symm hbL) hG hb' e hg
 ·rcases cases' b x hb with ⟨rfl,rfl⟩ | ⟨rfl,_,rfl⟩ | ⟨hbL,hbl,hb1⟩
  ·rcases cases' b' x' hb' with ⟨rfl,rfl⟩ | ⟨rfl,_,rfl⟩ | ⟨hbL',hbl',hb1'⟩
   ·exact absurd rfl hbb
   ·intro e; cases e
   ·intro e
    rcases (vblock g hg).2 with e' | e'
    ·exact h.nodes.apart b b' nd x' g hbb hG hb1' e' e
    ·have:=((h.nodes.row b' x' hb1').lt g e).2; omega
  ·cases hg
  ·rcases cases' b' x' hb' with ⟨rfl,rfl⟩ | ⟨rfl,_,rfl⟩ | ⟨hbL',hbl',hb1'⟩
   ·intro e
    rcases (vblock g e).2 with e' | e'
    ·exact h.nodes.apart b b' x nd g hbb hb1 hG hg e'
    ·have:=((h.nodes.row b x hb1).lt g hg).2; omega
   ·intro e; cases e
   ·exact h.nodes.apart b b' x x' g hbb hb1 hb1' hg
 ·rw [old bb (lt h.bld) (fun e=>hLb.1 e.symm) (fun e=>(h.rowBlock hG e).1 rfl)]
  exact h.bld
 ·rcases cases' b x hb with ⟨rfl,rfl⟩ | ⟨rfl,_,rfl⟩ | ⟨hbL,hbl,hb'⟩
  ·rcases List.mem_append.1 hp with hp | hp
   ·exact dom _ (h.toIn b nd hG p hp)
   ·simp at hp
    subst hp
    simp only [growG,upd]
    split
    ·rfl
    ·simp
  ·cases hp
  ·exact dom _ (h.toIn b x hb' p hp)
theorem StIn.close {B bb kb ib:Nat} {w:World} {s:St} (h:StIn B bb kb ib w s) {L:Nat} {nd:Nd} (hG:s.G L=some nd):StIn B bb kb ib (w.setCell ⟨L,0,none⟩ (.bool true)) (closeG s L nd):=by
 have hLb:=h.nodeBlock hG
 have old:∀ k,k≠L→(w.setCell ⟨L,0,none⟩ (.bool true)).heap[k]?=w.heap[k]?:=fun k hk=>Below.heap_setCell w _ _ k hk
 have oldL:(w.setCell ⟨L,0,none⟩ (.bool true)).heap[L]?=some (.cells #[.bool true,nd.v] 282 (0,0)):=by
  have:=heap_setCell_same w L 0 _ _ (.bool true) (h.nodes.node L nd hG)
  simpa using this
 have dom:∀ k,(s.G k).isSome→((closeG s L nd).G k).isSome:=fun k hk=>by
  simp only [closeG,upd]
  split
  ·rfl
  ·exact hk
 have cases':∀ b x,(closeG s L nd).G b=some x → ∃ y,s.G b=some y∧x.v=y.v∧x.edges=y.edges∧((b=L∧x.final=true)∨(b≠L∧x=y)):=fun b x hb=>by
  simp only [closeG,upd] at hb
  split at hb
  ·rename_i e; cases hb; subst e; exact ⟨nd,hG,rfl,rfl,.inl ⟨rfl,rfl⟩⟩
  ·rename_i e; exact ⟨x,hb,rfl,rfl,.inr ⟨e,rfl⟩⟩
 refine ⟨⟨fun b x hb=>?_,fun b x hb=>?_,fun b x hb=>?_,fun b b' x x' g hbb hb hb' hg=>?_⟩,h.bb_ge,h.kb_ge,h.ib_ge,h.ne,(old bb (Ne.symm hLb.1)).trans h.bld,h.kn.of_block (old kb (Ne.symm hLb.2.1)),
  h.ids.of_block (old ib (Ne.symm hLb.2.2)),fun p hp=>dom _ (h.idsIn p hp),fun p hp=>dom _ (h.knIn p hp),fun b x hb p hp=>?_⟩
 ·obtain ⟨y,hy,e1,_,_⟩:=cases' b x hb
  rw [e1]
  exact h.nodes.ge b y hy
 ·obtain ⟨y,hy,e1,_,⟨rfl,e3⟩ | ⟨e2,rfl⟩⟩:=cases' b x hb
  ·rw [hG] at hy
   cases hy
   rw [e1,e3]
   exact oldL
  ·rw [old b e2]
   exact h.nodes.node b _ hy
 ·obtain ⟨y,hy,e1,e2,_⟩:=cases' b x hb
  rw [e1,e2]
  exact ownsRow_block (h.nodes.row b y hy) fun g hg=>old g ((h.rowBlock hy hg).2.2.2 L nd hG)
 ·obtain ⟨y,hy,e1,_,_⟩:=cases' b x hb
  obtain ⟨y',hy',e1',_,_⟩:=cases' b' x' hb'
  rw [e1] at hg
  rw [e1']
  exact h.nodes.apart b b' y y' g hbb hy hy' hg
 ·obtain ⟨y,hy,_,e2,_⟩:=cases' b x hb
  rw [e2] at hp
  exact dom _ (h.toIn b y hy p hp)
end Go.Proofs.Ts
namespace Go.Proofs.Ts
open Go Go.RowKit
def StrsIs (w:World) (v:Value) (ss:List ByteArray):Prop :=
 ∃ a cap,v = .slice a ss.length cap ∧ ∀ i (h:i < ss.length),∃ b off,a=some ⟨b,off,none⟩∧w.cell? ⟨b,off+i,none⟩=some (.string ss[i])
end Go.Proofs.Ts
namespace Go.Proofs.Ts
open Go Go.RowKit
def lastW (ts:List ByteArray) (k:Nat):List UInt8:=if k=0 then [] else (ts.getD (k - 1) ByteArray.empty).data.toList
def listsOf (ts:List ByteArray):List Word:=ts.map fun t=>t.data.toList
def Stop (t u:List UInt8) (p:Nat):Prop:=p≤t.length∧p≤u.length∧t.take p=u.take p∧(p=t.length∨p=u.length∨t.getD p 0≠u.getD p 0)
theorem common_succ (t u:ByteArray) (q:Nat) (h1:q < t.size) (h2:q < u.size) (h:t[q]=u[q]) (hc:t.data.toList.take q=u.data.toList.take q):t.data.toList.take (q+1)=u.data.toList.take (q+1):=by
 rw [take_succ_str t q h1,take_succ_str u q h2,hc,h]
theorem getD_str' (s:ByteArray) (k:Nat) (h:k < s.size):s.data.toList.getD k 0=s[k]:=getD_str s k h
theorem start_in (w:World):StIn w.heap.size (w.heap.size+1+1) w.heap.size (w.heap.size+1)
  ((((w.alloc (.map #[] 0)).alloc (.map #[] 0)).alloc (.cells #[.map (some w.heap.size),.map (some (w.heap.size+1))] 278)).alloc (.cells #[.bool false,.slice none 0 0] 282)) (start (w.heap.size+1+1+1)):=by
 have only:∀ b nd,(start (w.heap.size+1+1+1)).G b=some nd→b=w.heap.size+1+1+1∧nd=⟨false,[],.slice none 0 0⟩:=fun b nd h=>by
  simp only [start,upd] at h
  split at h
  ·rename_i e; cases h; exact ⟨e,rfl⟩
  ·cases h
 refine ⟨⟨fun b nd h=>?_,fun b nd h=>?_,fun b nd h=>?_,fun b b' nd nd' g hne h h'=>?_⟩,by omega,by omega,by omega,by omega,?_,?_,?_,(fun p hp=>by cases hp),(fun p hp=>by cases hp),fun b nd h p hp=>?_⟩
 ·obtain ⟨rfl,rfl⟩:=only b nd h
  exact ⟨by omega,fun k e=>by cases e⟩
 ·obtain ⟨rfl,rfl⟩:=only b nd h
  have:=heap_alloc_new (((w.alloc (.map #[] 0)).alloc (.map #[] 0)).alloc (.cells #[.map (some w.heap.size),.map (some (w.heap.size+1))] 278)) (.cells #[.bool false,.slice none 0 0] 282)
  simpa using this
 ·obtain ⟨rfl,rfl⟩:=only b nd h
  exact World.ownsRow_nil _ _ _ _
 ·obtain ⟨rfl,rfl⟩:=only b nd h
  obtain ⟨rfl,rfl⟩:=only b' nd' h'
  exact absurd rfl hne
 ·rw [Below.heap_alloc _ _ _ (by simp <;> omega)]
  have:=heap_alloc_new ((w.alloc (.map #[] 0)).alloc (.map #[] 0)) (.cells #[.map (some w.heap.size),.map (some (w.heap.size+1))] 278)
  simpa using this
 ·refine (MapIs.made shapeV w).of_block ?_
  rw [Below.heap_alloc _ _ _ (by simp <;> omega),Below.heap_alloc _ _ _ (by simp <;> omega),Below.heap_alloc _ _ _ (by simp <;> omega)]
 ·have:=MapIs.made ptrV (w.alloc (.map #[] 0))
  have hs:(w.alloc (.map #[] 0)).heap.size=w.heap.size+1:=by simp
  rw [hs] at this
  refine this.of_block ?_
  rw [Below.heap_alloc _ _ _ (by simp <;> omega),Below.heap_alloc _ _ _ (by simp <;> omega)]
 ·obtain ⟨rfl,rfl⟩:=only b nd h
  cases hp
theorem start_below (w:World):Below w.heap.size w
  ((((w.alloc (.map #[] 0)).alloc (.map #[] 0)).alloc (.cells #[.map (some w.heap.size),.map (some (w.heap.size+1))] 278)).alloc (.cells #[.bool false,.slice none 0 0] 282)) :=
 ((((Below.refl _ w).alloc (Nat.le_refl _) _).alloc (by simp) _).alloc (by simp; omega) _).alloc (by simp; omega) _
theorem start_bare (root:Nat):Bare (start root) root [] []:=by
 intro nd h
 simp only [nodeAt,start,upd,List.length_nil,List.getD_cons_zero,if_true] at h
 cases h
 rfl
theorem start_small (root:Nat):Small (start root) where
 edges:=fun b nd h=>by
  simp only [start,upd] at h
  split at h
  ·cases h; simp
  ·cases h
 ids:=fun p hp=>by cases hp
 len:=by simp [start]
theorem spine_cells {B bb kb ib:Nat} {w:World} {s:St} {root:Nat} {u:List UInt8} {ns:List Nat} {W:List Word} (h:StIn B bb kb ib w s) (hf:FI s root u ns W) (hsm:Small s) {i:Nat} (hi:i < u.length) :
  ∃ g cap m,w.cell? ⟨nodeAt root ns i,1,none⟩=some (.slice (some ⟨g,0,none⟩) (m+1) cap)∧w.cell? ⟨g,m * 2+1,none⟩=some (.pointer (some ⟨nodeAt root ns (i+1),0,none⟩))∧m≤300:=by
 obtain ⟨nd,es,hG,he⟩:=hf.step hi
 obtain ⟨g,cap,e1,_,e3⟩:=h.edgeCells hG (i:=es.length) (c:=u.getD i 0) (t:=nodeAt root ns (i+1)) (by rw [he]; simp)
 obtain ⟨_,a,cap',f1,f2⟩:=h.nodeCells hG
 have hl:nd.edges.length=es.length+1:=by rw [he]; simp
 rw [e1,hl] at f1
 simp only [Value.slice.injEq] at f1
 obtain ⟨rfl,_,rfl⟩:=f1
 rw [hl] at f2
 exact ⟨g,cap,es.length,f2,e3,by have:=hsm.edges _ nd hG; omega⟩
theorem Tryz.info284:(Tryz.prog.info? 284).map (fun i=>(i.zero,i.size,i.bytes))=some (some (.agg #[.int .u8 0,.pointer none]),2,16):=by kernel_rfl
theorem lastW_len (ts:List ByteArray) (h:∀ t∈ts,0 < t.size∧t.size≤16) (k:Nat) (hk:k≤ts.length):(lastW ts k).length≤16:=by
 unfold lastW
 split
 ·simp
 ·have hlt:k - 1 < ts.length:=by omega
  rw [List.getD_eq_getElem?_getD,List.getElem?_eq_getElem hlt,Option.getD_some]
  have:=(h _ (List.getElem_mem hlt)).2
  simpa using this
theorem lastW_lt (ts:List ByteArray) (h:∀ t∈ts,0 < t.size∧t.size≤16) (ha:ts.Pairwise fun a b=>a.data.toList < b.data.toList) (k:Nat) (hk:k < ts.length):lastW ts k < ts[k].data.toList:=by
 unfold lastW
 split
 ·rename_i h0
  have hp:=(h _ (List.getElem_mem hk)).1
  have hne:ts[k].data.toList≠[]:=by
   intro e
   have hl:=congrArg List.length e
   rw [Array.length_toList,List.length_nil] at hl
   have:ts[k].size=ts[k].data.size:=rfl
   omega
  cases hh:ts[k].data.toList with
  | nil=>exact absurd hh hne
  | cons x r=>exact List.nil_lt_cons x r
 ·have hlt:k - 1 < ts.length:=by omega
  rw [List.getD_eq_getElem?_getD,List.getElem?_eq_getElem hlt,Option.getD_some]
  exact List.pairwise_iff_getElem.1 ha (k - 1) k hlt hk (by omega)
theorem stop_lt:∀ (u t:List UInt8) (p:Nat),u < t→Stop t u p→p < t.length∧(p < u.length→u.getD p 0 < t.getD p 0)
 | [],t,p,h,hs=>by
  obtain ⟨h1,h2,h3,h4⟩:=hs
  simp at h2
  subst h2
  cases t with
  | nil=>exact absurd h (List.lt_irrefl [])
  | cons x r=>simp
 | c :: u,[],p,h,hs=>absurd h (List.not_lt_nil _)
 | c :: u,d :: t,0,h,hs=>by
  obtain ⟨h1,h2,h3,h4⟩:=hs
  have hne:c≠d:=by
   rcases h4 with h4 | h4 | h4
   ·simp at h4
   ·simp at h4
   ·simpa using Ne.symm h4
  refine ⟨by simp,fun _=>?_⟩
  rw [List.cons_lt_cons_iff] at h
  simpa [hne] using h
 | c :: u,d :: t,p+1,h,hs=>by
  obtain ⟨h1,h2,h3,h4⟩:=hs
  simp only [List.take_succ_cons,List.cons.injEq] at h3
  obtain ⟨rfl,h3⟩:=h3
  have hlt:u < t:=by
   rw [List.cons_lt_cons_iff] at h
   rcases h with h | h
   ·exact absurd h (by simp)
   ·exact h.2
  have ih:=stop_lt u t p hlt ⟨by simpa using h1,by simpa using h2,h3,by simpa using h4⟩
  simpa using ih
theorem nodeAt_take (root:Nat) (ns:List Nat) (q i:Nat) (h:i≤q):nodeAt root (ns.take q) i=nodeAt root ns i:=by
 unfold nodeAt
 cases i with
 | zero=>rfl
 | succ i =>
  simp only [List.getD_eq_getElem?_getD,List.getElem?_cons_succ,List.getElem?_take]
  rw [if_pos (by omega)]
def LeafOk (s:St) (t:List UInt8) (root:Nat) (ns:List Nat) (q j:Nat):Prop :=
 ∀ nd,s.G (nodeAt root ns j)=some nd→(j < t.length → ∀ e∈nd.edges,e.1 < t.getD j 0)∧(q < j→nd.edges=[]∧nd.final=false)
structure GrowRel (H bb kb ib root:Nat) (W:List Word) (t:List UInt8) (ids q:Nat) (w:World) (j:Nat) (s:St) (ns:List Nat) (wr:World):Prop where
 st:StIn H bb kb ib wr s
 fi:FI s root (t.take j) ns W
 leaf:LeafOk s t root ns q j
 small:Small s
 ids:s.ids.length≤ids
 below:Below H w wr
structure FromRel (H bb kb ib root:Nat) (ts:List ByteArray) (w:World) (k:Nat) (lb:ByteArray) (s:St) (ns:List Nat) (wr:World):Prop where
 st:StIn H bb kb ib wr s
 fi:FI s root (lastW ts k) ns ((listsOf ts).take k)
 bare:Bare s root (lastW ts k) ns
 small:Small s
 ids:s.ids.length≤20 * k
 below:Below H w wr
 last:lb.data.toList=lastW ts k
theorem Asc.length {es:List (UInt8 × Nat)} (h:Asc es):es.length≤256:=by
 have h1:(es.map fun p=>p.1.toNat).Nodup:=by
  rw [List.Nodup,List.pairwise_map]
  exact h.imp fun hab=>by have:=UInt8.lt_iff_toNat_lt.1 hab; omega
 have h2:(es.map fun p=>p.1.toNat) ⊆ List.range 256:=fun x hx=>by
  obtain ⟨p,_,rfl⟩:=List.mem_map.1 hx
  exact List.mem_range.2 p.1.toNat_lt
 have:=h1.length_le_of_subset h2
 simpa using this
theorem nodeAt_last (root:Nat) (ns:List Nat) (m:Nat):nodeAt root (ns++[m]) (ns.length+1)=m:=by
 simp [nodeAt,List.getD_eq_getElem?_getD]
theorem GrowRel.step {H bb kb ib root ids q j:Nat} {W:List Word} {t:List UInt8} {w wr W':World} {s:St} {ns:List Nat} (h:GrowRel H bb kb ib root W t ids q w j s ns wr) (hj:j < t.length) {nd:Nd} {v:Value} (hG:s.G (nodeAt root ns j)=some nd)
  (hin:StIn H bb kb ib W' (growG s (nodeAt root ns j) wr.heap.size (t.getD j 0) nd v)) (hb:Below H wr W') :
  GrowRel H bb kb ib root W t ids q w (j+1) (growG s (nodeAt root ns j) wr.heap.size (t.getD j 0) nd v) (ns++[wr.heap.size]) W'∧nodeAt root (ns++[wr.heap.size]) (j+1)=wr.heap.size:=by
 have hlen:(t.take j).length=j:=by simp; omega
 have hnl:ns.length=j:=by rw [h.fi.len,hlen]
 have hna:nodeAt root (ns++[wr.heap.size]) (j+1)=wr.heap.size:=by rw [← hnl]; exact nodeAt_last root ns _
 have hm:s.G wr.heap.size=none:=by
  cases e:s.G wr.heap.size with
  | none=>rfl
  | some x=>exact absurd (lt_of_heap (h.st.nodes.node _ x e)) (Nat.lt_irrefl _)
 have hi:get s.ids wr.heap.size=none:=by
  cases e:get s.ids wr.heap.size with
  | none=>rfl
  | some x=>have:=h.st.idsIn _ (get_some_mem e); rw [hm] at this; cases this
 have hlf:=h.leaf nd hG
 have hne:nodeAt root ns j≠wr.heap.size:=fun e=>by rw [e,hm] at hG; cases hG
 have hG':=hG
 rw [← hlen] at hG'
 have hfi:=h.fi.grow (c:=t.getD j 0) (v:=v) hG' hm hi (hlf.1 hj)
 rw [hlen] at hfi
 have htk:t.take j++[t.getD j 0]=t.take (j+1):=by
  rw [List.getD_eq_getElem?_getD,List.getElem?_eq_getElem hj,Option.getD_some,List.take_append_getElem hj]
 rw [htk] at hfi
 refine ⟨⟨hin,hfi,?_,⟨?_,h.small.ids,h.small.len⟩,h.ids,h.below.trans hb⟩,hna⟩
 ·intro nd' hn'
  rw [hna] at hn'
  simp only [growG,upd] at hn'
  rw [if_neg (Ne.symm hne),if_pos trivial] at hn'
  cases hn'
  exact ⟨fun _ e he=>(by cases he),fun _=>⟨rfl,rfl⟩⟩
 ·intro b x hx
  simp only [growG,upd] at hx
  split at hx
  ·cases hx
   obtain ⟨nd0,es,e1,e2⟩:=hfi.step (i:=j) (by simp; omega)
   have hasc:Asc (nd.edges++[(t.getD j 0,wr.heap.size)]):=by
    refine List.pairwise_append.2 ⟨?_,List.pairwise_singleton _ _,?_⟩
    ·obtain ⟨nd1,g1,g2⟩:=h.fi.leaf
     rw [hlen,hG] at g1
     cases g1
     exact g2
    ·intro a ha b hb
     simp at hb
     subst hb
     exact hlf.1 hj a ha
   exact Nat.le_trans hasc.length (by decide)
  ·split at hx
   ·cases hx; simp
   ·exact h.small.edges b x hx
theorem GrowRel.close {H bb kb ib root q:Nat} {ts:List ByteArray} {k:Nat} {w wr:World} {s:St} {ns:List Nat} {t:ByteArray} (h:GrowRel H bb kb ib root ((listsOf ts).take k) t.data.toList (20 * k+16) q w t.size s ns wr)
  (hk:k < ts.length) (ht:t=ts[k]) (hq:q < t.size) {nd:Nd} (hG:s.G (nodeAt root ns t.size)=some nd) :
  FromRel H bb kb ib root ts w (k+1) t (closeG s (nodeAt root ns t.size) nd) ns (wr.setCell ⟨nodeAt root ns t.size,0,none⟩ (.bool true)):=by
 have hts:t.data.toList.length=t.size:=by simp
 have htk:t.data.toList.take t.size=t.data.toList:=by rw [← hts]; exact List.take_length
 obtain ⟨h1,h2⟩:=(h.leaf nd hG).2 hq
 have hlast:lastW ts (k+1)=t.data.toList:=by
  unfold lastW
  rw [if_neg (by omega),Nat.add_sub_cancel,List.getD_eq_getElem?_getD,List.getElem?_eq_getElem hk,Option.getD_some,ht]
 have hG':=hG
 rw [← hts] at hG'
 have hf:=h.fi
 rw [htk] at hf
 have hfc:=hf.close hG' h1 h2
 have hW:(listsOf ts).take k++[t.data.toList]=(listsOf ts).take (k+1):=by
  have hk':k < (listsOf ts).length:=by simpa [listsOf] using hk
  rw [← List.take_append_getElem hk']
  simp [listsOf,ht]
 rw [hW] at hfc
 rw [hts] at hfc
 refine ⟨h.st.close hG,by rw [hlast]; exact hfc,?_,⟨?_,h.small.ids,h.small.len⟩,by have:=h.ids; show s.ids.length≤_; omega,h.below.setCell (h.st.nodes.ge _ nd hG).1 _,hlast.symm⟩
 ·rw [hlast]
  intro x hx
  rw [hts] at hx
  simp only [closeG,upd,if_true] at hx
  cases hx
  exact h1
 ·intro b x hx
  simp only [closeG,upd] at hx
  split at hx
  ·cases hx; exact h.small.edges _ nd hG
  ·exact h.small.edges b x hx
set_option maxRecDepth 100000 in
set_option maxHeartbeats 4000000 in
theorem from_any (v:Value) (ts:List ByteArray) (w:World) (hv:StrsIs w v ts) (hn:ts.length≤10000) (hsz:∀ t∈ts,0 < t.size∧t.size≤16) (hasc:ts.Pairwise fun a b=>a.data.toList < b.data.toList) :
  Calls Tryz.prog 94 #[v] w fun e w'=>∃ db R Λ ρ D,e = .returned (ptrV db)∧Below w.heap.size w w'∧DictIs w' db R Λ ρ D∧Λ 0=listsOf ts:=by
 obtain ⟨a,cap,rfl,hc⟩:=hv
 have hmm:=@run_makeMap Tryz.prog
 have HC:=Lib.hid hc
 clear hc
 have HSZ:=Lib.hid hsz
 have HASC:=Lib.hid hasc
 clear hsz hasc
 go_enter Tryz.func94,Tryz.ntmps94
 go_wp2_with fail
 have hst:=start_in w
 have hbl:=start_below w
 clear hmm
 generalize ((((w.alloc (.map #[] 0)).alloc (.map #[] 0)).alloc (.cells #[.map (some w.heap.size),.map (some (w.heap.size+1))] 278)).alloc (.cells #[.bool false,.slice none 0 0] 282))=W0 at *
 generalize w.heap.size+1+1+1=root at *
 generalize w.heap.size+1+1=bb at *
 generalize w.heap.size+1=ib at *
 obtain ⟨kb,hkb⟩:∃ kb,kb=w.heap.size:=⟨_,rfl⟩
 have hst':StIn w.heap.size bb kb ib W0 (start root):=by rw [hkb]; exact hst
 have HST:=Lib.hid hst'
 clear hst hst' hkb
 go_loopw [5,21] (fun last i wr=>∃ (k:Nat) (lb:ByteArray) (s:St) (ns:List Nat),k≤ts.length∧i = .int .i64 k∧last = .string lb∧FromRel w.heap.size bb kb ib root ts w k lb s ns wr) (fun _ i _=>ts.length - (intOf i).toNat)
 case atStart =>
  exact ⟨0,⟨#[]⟩,start root,[],Nat.zero_le _,rfl,rfl,⟨HST.out,FI.start root,start_bare root,start_small root,Nat.zero_le _,hbl,rfl⟩⟩
 case round =>
  obtain ⟨k,lb,s,ns,hk,rfl,rfl,hR⟩:=hrel
  have HR:=Lib.hid hR
  clear hR
  by_cases hlt:k < ts.length
  ·obtain ⟨t,ht⟩:∃ t,t=ts[k]:=⟨_,rfl⟩
   obtain ⟨b,off,rfl,hcell⟩:=HC.out k hlt
   have hcell':wr.cell? ⟨b,off+k,none⟩=some (.string t):=by
    rw [ht]
    exact (HR.out.below.cell (p:=⟨b,off+k,none⟩) (lt_of_cell hcell)).trans hcell
   have htsz:0 < t.size∧t.size≤16:=HSZ.out t (ht ▸ List.getElem_mem hlt)
   have hu16:(lastW ts k).length≤16:=lastW_len ts HSZ.out k hk
   have hlsz:lb.size≤16:=by have:=congrArg List.length HR.out.last; simp at this; omega
   have HT:=Lib.hid ht
   clear ht hcell
   go_upto_block 2 with (fail)
   go_cut [8] (fun p wx=>∃ q:Nat,p = .int .i64 q∧q≤16∧Hid (Stop t.data.toList lb.data.toList q)∧Same wr wx)
   case first =>
    go_wp2_with fail
    go_loopw [8] (fun p wx=>∃ q:Nat,q≤t.size∧q≤lb.size∧p = .int .i64 q∧Hid (t.data.toList.take q=lb.data.toList.take q)∧Same wr wx) (fun p _=>t.size - (intOf p).toNat)
    case atStart=>exact ⟨0,Nat.zero_le _,Nat.zero_le _,rfl,rfl,Same.refl _⟩
    case round =>
     obtain ⟨q,hq1,hq2,rfl,HQ,hS⟩:=hrel
     by_cases g1:q < t.size
     ·by_cases g2:q < lb.size
      ·by_cases g3:t[q]=lb[q]
       ·have g3':(((t[q]).toNat:Int) == ((lb[q]).toNat:Int))=true:=by rw [g3]; simp
        have HS:=Lib.hid (common_succ t lb q g1 g2 g3 HQ.out)
        clear g3
        go_wp2_with fail
        go_quiet (fail)
        go_wp2_with fail
        exact ⟨⟨q+1,by omega,by omega,by go_num,HS,hS.trans (Same.drewN _ _)⟩,by simp [intOf]; omega⟩
       ·have g3':(((t[q]).toNat:Int) == ((lb[q]).toNat:Int))=false:=by
         rw [beq_eq_false_iff_ne]
         intro e
         exact g3 (UInt8.toNat_inj.1 (by omega))
        have HS:Hid (Stop t.data.toList lb.data.toList q):=⟨by simp; omega,by simp; omega,HQ.out,.inr (.inr (by rw [getD_str' t q g1,getD_str' lb q g2]; exact g3))⟩
        go_wp2_with fail
        go_quiet (fail)
        go_wp2_with fail
        go_meet
        exact ⟨q,rfl,by omega,HS,hS.trans (Same.drewN _ _)⟩
      ·have HS:Hid (Stop t.data.toList lb.data.toList q):=⟨by simp; omega,by simp; omega,HQ.out,.inr (.inl (by simp; omega))⟩
       have g1':decide ((q:Int) < (t.size:Int))=true:=by simp; omega
       have g2':decide ((q:Int) < (lb.size:Int))=false:=by simp; omega
       go_wp2_with fail
       go_quiet (fail)
       go_wp2_with fail
       go_meet
       exact ⟨q,rfl,by omega,HS,hS.trans (Same.drewN _ _)⟩
     ·have HS:Hid (Stop t.data.toList lb.data.toList q):=⟨by simp; omega,by simp; omega,HQ.out,.inl (by simp; omega)⟩
      have g1':decide ((q:Int) < (t.size:Int))=false:=by simp; omega
      go_wp2_with fail
      go_quiet (fail)
      go_wp2_with fail
      go_meet
      exact ⟨q,rfl,by omega,HS,hS.trans (Same.drewN _ _)⟩
   case rest =>
    obtain ⟨q,rfl,hq16,HST,hS⟩:=hcut
    have hqu:q≤(lastW ts k).length:=by have:=HST.out.2.1; rw [HR.out.last] at this; exact this
    go_upto_block 4 with (fail)
    go_cut [9] (fun n wy=>n = .pointer (some ⟨nodeAt root ns q,0,none⟩)∧Same wr wy)
    case first =>
     go_wp2_with fail
     go_loopw [9,48] (fun n i wy=>∃ j:Nat,j≤q∧i = .int .i64 j∧n = .pointer (some ⟨nodeAt root ns j,0,none⟩)∧Same wr wy) (fun _ i _=>q - (intOf i).toNat)
     case atStart=>exact ⟨0,Nat.zero_le _,rfl,rfl,hS⟩
     case round =>
      obtain ⟨j,hj,rfl,rfl,hS2⟩:=hrel
      by_cases hjq:j < q
      ·obtain ⟨g,cap1,m,d1,d2,d3⟩:=spine_cells (HR.out.st.same hS2) HR.out.fi HR.out.small (i:=j) (by omega)
       go_wp2_with fail
       have q1:IntKind.i64.wrap ((m:Int)+1 - 1)=(m:Int):=by rw [IntWalk.i64_in _ (by omega)]; omega
       have q2:(0:Int)≤(m:Int)∧(m:Int) < (m:Int)+1:=by omega
       go_quiet (fail)
       clear q1 q2
       go_wp2_with fail
       exact ⟨⟨j+1,by omega,by go_num,rfl,hS2.trans (Same.drewN _ _)⟩,by simp [intOf]; omega⟩
      ·obtain rfl:j=q:=by omega
       go_wp2_with fail
       go_meet
       exact ⟨rfl,hS2⟩
    case rest =>
     obtain ⟨rfl,hS2⟩:=hcut
     go_wp2_with fail
     have hnl:=HR.out.fi.len
     refine (settle_any w.heap.size bb kb ib (ns.drop q) s (nodeAt root ns q) _ (HR.out.st.same hS2) (HR.out.fi.way HR.out.bare hqu) HR.out.small (by have:=HR.out.ids; rw [List.length_drop]; omega)).mono ?_
     rintro e w2 ⟨rfl,hst2,hb2⟩
     have hlt2:lb.data.toList < t.data.toList:=by rw [HR.out.last,HT.out]; exact lastW_lt ts HSZ.out HASC.out k hlt
     obtain ⟨hqt,hqc⟩:=stop_lt _ _ q hlt2 HST.out
     have hqt':q < t.size:=by simpa using hqt
     obtain ⟨hf2,he2⟩:=HR.out.fi.settle HR.out.bare hqu
     have hsm2:=Small.settleP (ns.drop q) s (nodeAt root ns q) HR.out.small (by have:=HR.out.ids; rw [List.length_drop]; omega)
     have hut:(lastW ts k).take q=t.data.toList.take q:=by rw [← HR.out.last]; exact HST.out.2.2.1.symm
     have hna:nodeAt root (ns.take q) q=nodeAt root ns q:=nodeAt_take root ns q q (Nat.le_refl _)
     have hG0:GrowRel w.heap.size bb kb ib root ((listsOf ts).take k) t.data.toList (20 * k+16) q w q (settleP (ns.drop q) s (nodeAt root ns q)) (ns.take q) w2:=by
      refine ⟨hst2,by rw [← hut]; exact hf2,?_,hsm2.1,by have h1:=hsm2.2; have h2:=HR.out.ids; rw [List.length_drop] at h1; omega,(HR.out.below.trans (hS2.below _)).trans hb2⟩
      intro nd hG
      rw [hna] at hG
      refine ⟨fun _ e he=>?_,fun h=>absurd h (Nat.lt_irrefl _)⟩
      obtain ⟨h1,h2⟩:=he2 nd hG e he
      rw [← HR.out.last] at h1 h2
      exact Nat.lt_of_le_of_lt h2 (hqc h1)
     have HG0:=Lib.hid hG0
     have hna':=Lib.hid hna
     clear hG0 hst2 hb2 hf2 he2 hsm2 hut hlt2 hqc hqt hna
     go_wp2_with fail
     go_loopw [9,11] (fun n i wy=>∃ (j:Nat) (s':St) (ns':List Nat),q≤j∧j≤t.size∧i = .int .i64 j∧n = .pointer (some ⟨nodeAt root ns' j,0,none⟩) ∧
       GrowRel w.heap.size bb kb ib root ((listsOf ts).take k) t.data.toList (20 * k+16) q w j s' ns' wy) (fun _ i _=>t.size - (intOf i).toNat)
     case atStart=>exact ⟨q,_,ns.take q,Nat.le_refl _,by omega,rfl,by rw [hna'.out],HG0.out⟩
     case round =>
      obtain ⟨j,s',ns',hj1,hj2,rfl,rfl,hR'⟩:=hrel
      have HR':=Lib.hid hR'
      clear hR'
      by_cases hjt:j < t.size
      ·have hlen':(t.data.toList.take j).length=j:=by simp; omega
       obtain ⟨nd,hGn,hasc'⟩:=HR'.out.fi.leaf
       rw [hlen'] at hGn
       obtain ⟨_,a1,cap1,hv1,d1⟩:=HR'.out.st.nodeCells hGn
       have hrow:=HR'.out.st.nodes.row _ nd hGn
       rw [hv1] at hrow
       have hL:=lt_of_cell d1
       have hfr:wr.frozen? ⟨nodeAt root ns' j,1,none⟩=false:=free_block (HR'.out.st.nodes.node _ nd hGn)
       have hel:nd.edges.length≤300:=HR'.out.small.edges _ nd hGn
       have hcj:t.data.toList.getD j 0=t[j]:=getD_str' t j hjt
       have HCJ:=Lib.hid hcj
       clear hcj
       go_wp2_with fail
       refine wp_region_ordX [(0,false),(1,false),(2,false),(3,false),(4,false),(5,false),(6,false),(7,false),(8,false),(9,false),(10,true),(11,true),(12,true),(13,true),(14,true)] 14
        (fun w'=>w'.cell? ⟨nodeAt root ns' j,1,none⟩=some (.slice a1 nd.edges.length cap1)) (by kernel_rfl) (by kernel_rfl) ?_ ?_
       ·rw [← d1]; exact World.cell?_alloc_lt _ _ _ hL
       iterate 10 (
        refine wpOrd_quiet ?_ rfl rfl (fun w' hS=>?_) ?_
        rotate_left
        ·go_simp
         first | rfl | done
        simp only [put_lit,List.set_cons_succ,List.set_cons_zero])
       refine wpOrd_loud rfl rfl (by decide) (fun K hK=>?_)
       go_simp
       have hl2:((wr.alloc (.cells #[.bool false,.slice none 0 0] 282)).alloc (.cells #[.int .u8 t[j].toNat,.pointer (some ⟨wr.heap.size,0,none⟩)] 284)).drew.cell? ⟨nodeAt root ns' j,1,none⟩=some (.slice a1 nd.edges.length cap1):=by
        rw [← d1]
        exact (World.cell?_alloc_lt _ _ _ (by simp; omega)).trans (World.cell?_alloc_lt _ _ _ hL)
       have hrow3:((wr.alloc (.cells #[.bool false,.slice none 0 0] 282)).alloc (.cells #[.int .u8 t[j].toNat,.pointer (some ⟨wr.heap.size,0,none⟩)] 284)).drew.ownsRow 0 284 2 (.slice a1 nd.edges.length cap1) nd.edges.length (edgeCells nd.edges) :=
        ((hrow.alloc _).alloc _).drew
       have hM3:((wr.alloc (.cells #[.bool false,.slice none 0 0] 282)).alloc (.cells #[.int .u8 t[j].toNat,.pointer (some ⟨wr.heap.size,0,none⟩)] 284)).drew.heap[wr.heap.size]?=some (.cells #[.bool false,.slice none 0 0] 282 (0,0)):=heap_alloc2_old _ _ _
       have hmv3:Moves wr nd.v ((wr.alloc (.cells #[.bool false,.slice none 0 0] 282)).alloc (.cells #[.int .u8 t[j].toNat,.pointer (some ⟨wr.heap.size,0,none⟩)] 284)).drew nd.v :=
        ((Moves.alloc wr _ _).trans (Moves.alloc _ _ _)).trans (Moves.same _ (Same.drew _))
       have hc3:∀ i u,[Value.int .u8 t[j].toNat,.pointer (some ⟨wr.heap.size,0,none⟩)][i]?=some u→((wr.alloc (.cells #[.bool false,.slice none 0 0] 282)).alloc (.cells #[.int .u8 t[j].toNat,.pointer (some ⟨wr.heap.size,0,none⟩)] 284)).drew.cell? ((⟨wr.heap.size+1,0,none⟩:Addr).add i)=some u:=by
        have:=cell_two_new (wr.alloc (.cells #[.bool false,.slice none 0 0] 282)) (.int .u8 t[j].toNat) (.pointer (some ⟨wr.heap.size,0,none⟩)) 284
        simpa using this
       have hsz3:((wr.alloc (.cells #[.bool false,.slice none 0 0] 282)).alloc (.cells #[.int .u8 t[j].toNat,.pointer (some ⟨wr.heap.size,0,none⟩)] 284)).drew.heap.size=wr.heap.size+2:=by simp
       generalize ((wr.alloc (.cells #[.bool false,.slice none 0 0] 282)).alloc (.cells #[.int .u8 t[j].toNat,.pointer (some ⟨wr.heap.size,0,none⟩)] 284)).drew=W3 at *
       refine hK _ _ hl2 ?_
       clear hK K
       refine wpOrd_loud rfl rfl (by decide) (fun K hK=>?_)
       obtain ⟨i0,hi,hz0,hz1,hz2⟩:=info_parts Tryz.info284
       refine wp_append_lies _ _ 280 rfl 284 i0 (.agg #[.int .u8 0,.pointer none]) 2 16 Tryz.underlying280 hi hz0 hz1 hz2 rfl (by decide) _ _ _ rfl hrow3 ⟨wr.heap.size+1,0,none⟩ 1 1 [.int .u8 t[j].toNat,.pointer (some ⟨wr.heap.size,0,none⟩)] rfl rfl hc3
        (by simp [Value.oneCell']) (by decide) (by unfold maxLen; omega) (by omega) ?_
       intro v4 W4 hrow4 hgrow4 hlies4
       rw [← hv1] at hgrow4 hlies4
       have hvL:nd.v.ownBlock≠some (nodeAt root ns' j):=fun e=>(HR'.out.st.rowBlock hGn e).2.2.2 _ nd hGn rfl
       have hl4:W4.cell? ⟨nodeAt root ns' j,1,none⟩=some (.slice a1 nd.edges.length cap1):=World.grownBy.cell hgrow4 hl2 (fun e=>hvL e.symm)
       have hf4:W4.frozen? ⟨nodeAt root ns' j,1,none⟩=false:=by
        have hn:=HR'.out.st.nodes.node _ nd hGn
        have h3:=(hmv3.block (lt_of_heap hn) hvL).trans hn
        have h4:=(hgrow4.block _ (lt_of_heap h3) (fun e=>hvL e.symm)).trans h3
        exact free_block h4
       have hM4:W4.heap[wr.heap.size]?=some (.cells #[.bool false,.slice none 0 0] 282 (0,0)) :=
        (hgrow4.block _ (by omega) (fun e=>by have:=(HR'.out.st.nodes.row _ nd hGn).lt _ e.symm; omega)).trans hM3
       have hmv4:=hmv3.trans (Moves.append hgrow4 hlies4)
       have hne4:v4.ownBlock≠some wr.heap.size:=by
        intro e
        rcases hlies4 with ⟨h,_⟩ | ⟨h,_⟩
        ·rw [h] at e
         have:=(HR'.out.st.nodes.row _ nd hGn).lt _ e
         omega
        ·rw [h] at e
         have:=Option.some.inj e
         omega
       have hrow4':W4.ownsRow 0 284 2 v4 (nd.edges.length+1) (edgeCells (nd.edges++[(t[j],wr.heap.size)])):=by
        rw [edgeCells_append]
        exact hrow4
       obtain ⟨g4,cap4,rfl⟩:=ownsRow_head hrow4'
       have hin:=Lib.hid (HR'.out.st.grow (c:=t[j]) hGn hM4 hmv4 hne4 hrow4')
       have hbB:Below w.heap.size wr W4:=hmv4.below (HR'.out.st.nodes.ge _ nd hGn).2 (Below.refl _ _) HR'.out.below.size
       have hLB:w.heap.size≤nodeAt root ns' j:=(HR'.out.st.nodes.ge _ nd hGn).1
       clear hgrow4 hlies4 hrow4 hrow4' hM4 hmv4 hne4 hM3 hmv3 hrow3 hc3 hl2 hrow d1 hfr
       refine hK _ _ hl4 ?_
       clear hK K
       simp only [put_lit,List.set_cons_succ,List.set_cons_zero]
       refine wpOrd_loud rfl rfl (by decide) (fun K hK=>?_)
       go_simp
       refine hK _ _ hl4 ?_
       clear hK K
       refine wpOrd_loud rfl rfl (by decide) (fun K hK=>?_)
       go_simp
       refine hK _ _ hl4 ?_
       clear hK K
       refine wpOrd_last rfl rfl (fun K hK=>?_)
       go_simp
       refine hK _ _ ?_
       clear hK K
       go_wp2_with fail
       have hgc:t.data.toList.getD j 0=t[j]:=HCJ.out
       have hst3:=HR'.out.step (by simp; omega) hGn (by rw [hgc]; exact hin.out) (hbB.setCell hLB _)
       rw [hgc] at hst3
       exact ⟨⟨j+1,_,ns'++[wr.heap.size],by omega,by omega,by go_num,by rw [hst3.2],hst3.1⟩,by simp [intOf]; omega⟩
      ·obtain rfl:j=t.size:=by omega
       have hlen':(t.data.toList.take t.size).length=t.size:=by simp
       obtain ⟨nd,hGn,hasc'⟩:=HR'.out.fi.leaf
       rw [hlen'] at hGn
       obtain ⟨d0,a1,cap1,hv1,d1⟩:=HR'.out.st.nodeCells hGn
       have hfr:wr.frozen? ⟨nodeAt root ns' t.size,0,none⟩=false:=free_block (HR'.out.st.nodes.node _ nd hGn)
       have hcl:=Lib.hid (HR'.out.close hlt HT.out hqt' hGn)
       clear hasc'
       go_wp2_with fail
       exact ⟨⟨k+1,t,_,ns',by omega,by go_num,rfl,hcl.out⟩,by simp [intOf]; omega⟩
  ·obtain rfl:k=ts.length:=by omega
   go_wp2_with fail
   have hnl:=HR.out.fi.len
   have hu16:(lastW ts ts.length).length≤16:=lastW_len ts HSZ.out ts.length hk
   have hidl:=HR.out.ids
   refine (settle_any w.heap.size bb kb ib ns s root wr HR.out.st (HR.out.fi.way HR.out.bare (Nat.zero_le _)) HR.out.small (by omega)).mono ?_
   rintro e w2 ⟨rfl,hst2,hb2⟩
   have hll:(listsOf ts).length=ts.length:=by simp [listsOf]
   have hf2:FI (settleP ns s root) root [] [] (listsOf ts):=by
    have h1:=(HR.out.fi.settle HR.out.bare (Nat.zero_le _)).1
    rw [← hll,List.take_length] at h1
    exact h1
   have hsm2:=Small.settleP ns s root HR.out.small (by omega)
   obtain ⟨Good,ρ,L,g1,g2,g3,g4,g5,g6⟩:=FI.number hf2 hsm2.1 (by omega) hsm2.1.len
   have HG2:=Lib.hid g2
   have HG3:=Lib.hid g3
   have HG4:=Lib.hid g4
   have HST2:=Lib.hid hst2
   clear g2 g3 g4 hst2 hf2
   go_wp2_with fail
   refine (number_any _ w.heap.size bb kb ib w2 HST2.out Good ρ L HG2.out HG3.out HG4.out root g1 g6).mono ?_
   rintro e w3 ⟨rfl,hb3,R,Λ,ρ',D,hdi,hΛ⟩
   go_wp2_with fail
   go_ret
   exact ⟨w2.heap.size,R,Λ,ρ',D,rfl,(HR.out.below.trans hb2).trans (hb3.mono (by have:=HR.out.below.size; have:=hb2.size; omega)),hdi,hΛ.trans g5⟩
end Go.Proofs.Ts
namespace Go.Proofs.Ts
open Go Go.RowKit Go.Sort
theorem nodup_le {α:Type} [DecidableEq α]:∀ (l l':List α),l.Nodup→(∀ x∈l,x∈l')→l.length≤l'.length
 | [],l',_,_=>Nat.zero_le _
 | a :: l,l',hn,hs=>by
  rw [List.nodup_cons] at hn
  have ha:=hs a (by simp)
  have ih:=nodup_le l (l'.erase a) hn.2 fun x hx=>(List.mem_erase_of_ne (fun e=>hn.1 (by rw [← e]; exact hx))).2 (hs x (by simp [hx]))
  rw [List.length_erase_of_mem ha] at ih
  have:=List.length_pos_of_mem ha
  simp
  omega
def sortW (ss:List (List UInt8)):List (List UInt8):=ss.mergeSort fun x y=>decide (x≤y)
theorem leW_trans (a b c:List UInt8):decide (a≤b)=true→decide (b≤c)=true→decide (a≤c)=true:=by
 simp only [decide_eq_true_eq]
 exact fun h k=>List.le_trans h k
theorem leW_total (a b:List UInt8):(decide (a≤b) || decide (b≤a))=true:=by
 simp only [Bool.or_eq_true,decide_eq_true_eq]
 exact List.le_total a b
theorem sortW_mem (ss:List (List UInt8)) (x:List UInt8):x∈sortW ss↔x∈ss:=(List.mergeSort_perm ss _).mem_iff
theorem sortW_length (ss:List (List UInt8)):(sortW ss).length=ss.length:=(List.mergeSort_perm ss _).length_eq
theorem sortW_nodup {ss:List (List UInt8)} (h:ss.Nodup):(sortW ss).Nodup:=(List.mergeSort_perm ss _).nodup_iff.2 h
theorem sortW_rise {ss:List (List UInt8)} (h:ss.Nodup):(sortW ss).Pairwise fun a b=>a < b:=by
 have h1:=List.pairwise_mergeSort leW_trans leW_total ss
 have h2:=sortW_nodup h
 refine List.Pairwise.imp₂ ?_ h1 h2
 intro a b h3 h4
 rw [decide_eq_true_eq] at h3
 rcases List.le_iff_lt_or_eq.1 h3 with h | h
 ·exact h
 ·exact absurd h h4
theorem sort_any (v:Value) (ss:List (List UInt8)) (w:World) (hrow:w.ownsRow 0 9 1 v ss.length (ss.map strV)) (hsz:ss.length≤1000000) :
  Calls Tryz.prog 93 #[v] w fun e w'=>e = .returned (.tuple #[])∧w'.ownsRow 0 9 1 v ss.length ((sortW ss).map strV)∧w.grownBy w' v.ownBlock:=by
 have he:strV=encStr:=rfl
 rcases hrow.2 with ⟨rfl,hnil⟩ | ⟨g,cap,cur,rfl,hbase,hb,h1,h2,h3,h4⟩
 ·have:=List.eq_nil_of_length_eq_zero hnil
  subst this
  refine (Tryz.slices_Sort_string_none none 0 w).mono ?_
  rintro e w' ⟨rfl,rfl⟩
  have h0:sortW []=[]:=by simp [sortW]
  rw [h0]
  exact ⟨rfl,World.ownsRow_nil _ _ _ _,World.grownBy.refl _ _⟩
 ·refine (Tryz.slices_Sort_string g 0 cap ss w (holds_of_block hb (by rw [Nat.mul_one] at h4; exact h4)) (Array.getElem?_eq_some_iff.1 hb).1 (by omega)).mono ?_
  rintro e w' ⟨rfl,nn,os,rfl⟩
  exact ⟨rfl,ownsRow_sorted (sortW_length ss) hbase hb h1 h2 h3,grownBy_sorted _⟩
theorem strsIs_row {w:World} {v:Value} {ss:List (List UInt8)} (h:w.ownsRow 0 9 1 v ss.length (ss.map strV)):StrsIs w v (ss.map fun l=>⟨l.toArray⟩):=by
 obtain ⟨a,cap,rfl⟩:=ownsRow_form h
 refine ⟨a,cap,by simp,fun i hi=>?_⟩
 have hi':i < ss.length:=by simpa using hi
 obtain ⟨m,hm⟩:∃ m,ss.length=m+1:=⟨ss.length - 1,by omega⟩
 have h':=h
 rw [hm] at h'
 obtain ⟨g,cap',e⟩:=ownsRow_head h'
 cases e
 rw [← hm] at h'
 refine ⟨g,0,rfl,?_⟩
 rw [Nat.zero_add,h.cellAt i (by omega),List.getElem?_map,List.getElem?_eq_getElem hi']
 simp [strV]
end Go.Proofs.Ts
namespace Go.Proofs.Ts
open Go Go.RowKit
section
variable {P:Program} {w:World}
def Elder (e size:Nat) (v v':Value) (n:Nat) (xs:List Value):Prop:=∀ (W:World) (m:Nat) (ys:List Value),v'.ownBlock=v.ownBlock→W.ownsRow 0 e size v' (n+m) (xs++ys)→W.ownsRow 0 e size v n xs
theorem run_append_elder (t ty e:TypeId) (i:TypeInfo) (z:Value) (size bytes:Nat) (ht:P.underlying t=some (.slice e)) (hi:P.info? e=some i) (hz:i.zero=some z)
  (hsize:i.size=size) (hby:i.bytes=bytes) (hzs:z.cells.size=size) (hsz:0 < size)
  (v:Value) (n:Nat) (xs:List Value) (hown:w.ownsRow 0 e size v n xs)
  (a:Addr) (m c:Nat) (news:List Value) (hl:news.length=m * size) (hnews:∀ j u,news[j]?=some u→w.cell? (a.add j)=some u) (h1:∀ u∈news,u.oneCell'=true)
  (hm:0 < m) (h63:n+m≤maxLen) (hbytes:(n+m) * bytes≤140737488355328) {v':Value} {w':World} (hrun:(Builtin.append_ #[t,t] ty #[v,.slice (some a) m c]).run P w = .ok v' w'):Elder e size v v' n xs:=by
 subst hsize
 subst hby
 intro W m' ys hb hW
 rcases hown.2 with ⟨rfl,rfl⟩ | ⟨g,cap,cur,rfl,hbg,hg,hnc,hcm,hcs,htake⟩
 ·have hx:xs=[]:=List.eq_nil_of_length_eq_zero (by simpa using hown.1)
  subst hx
  exact World.ownsRow_nil _ _ _ _
 ·by_cases hroom:n+m≤cap
  ·have hfit:n * i.size+news.length≤cur.size:=by rw [hl,hcs,← Nat.add_mul]; exact Nat.mul_le_mul_right _ hroom
   have hr:=run_append_room (P:=P) w t ty e i ht hi g n cap cur hg a m c news hl hnews h1 hroom hfit
   rw [hrun] at hr
   injection hr with hv hw
   subst hv
   rcases hW.2 with ⟨h0,_⟩ | ⟨g',cap',cur',h0,_,hg',hnc',hcm',hcs',htake'⟩
   ·cases h0
   ·simp only [Value.slice.injEq,Option.some.injEq,Addr.mk.injEq] at h0
    obtain ⟨⟨rfl,_⟩,_,rfl⟩:=h0
    refine ⟨hown.1,.inr ⟨g,cap,cur',rfl,Nat.zero_le _,hg',hnc,hcm,hcs',?_⟩⟩
    have h2:=congrArg (List.take (n * i.size)) htake'
    rw [List.take_take,Nat.min_eq_left (Nat.mul_le_mul_right _ (by omega))] at h2
    rw [h2,← hown.1]
    exact List.take_left
  ·have holds:∀ j u,xs[j]?=some u→w.cell? ((⟨g,0,none⟩:Addr).add j)=some u:=hown.cells (g:=g) rfl
   have hsmall:n+m≤9223372036854775807:=by simp only [maxLen] at h63; omega
   have hr:=run_append_grow (P:=P) w t ty e i z ht hi hz ⟨g,0,none⟩ n cap xs hown.1 holds a m c news hl hnews (by omega) (by omega) (growslice_fits (by omega) hbytes)
   rw [hrun] at hr
   injection hr with hv hw
   subst hv
   have h2:=(Array.getElem?_eq_some_iff.1 hg).1
   simp only [Value.ownBlock] at hb
   have:=Option.some.inj hb
   omega
end
theorem wp_append_elder {P:Program} {w:World} {o:Oper} {a:Act} {K:Act→World→Prop} {Q:Exit→Act→World→Prop} (s x:Operand) (t:TypeId)
  (ho:o.op = .call { callee := .builtin .append,args:=#[s,x],argTypes:=#[t,t] })
  (e:TypeId) (i:TypeInfo) (z:Value) (size bytes:Nat) (ht:P.underlying t=some (.slice e)) (hi:P.info? e=some i) (hz:i.zero=some z)
  (hsize:i.size=size) (hby:i.bytes=bytes) (hzs:z.cells.size=size) (hsz:0 < size)
  (v:Value) (n:Nat) (xs:List Value) (hs:a.eval s=v) (hown:w.ownsRow 0 e size v n xs)
  (ad:Addr) (m c:Nat) (news:List Value) (hx:a.eval x = .slice (some ad) m c) (hl:news.length=m * size) (hnews:∀ j u,news[j]?=some u→w.cell? (ad.add j)=some u) (h1:∀ u∈news,u.oneCell'=true)
  (hm:0 < m) (h63:n+m≤maxLen) (hbytes:(n+m) * bytes≤140737488355328)
  (h:∀ v' w',w'.ownsRow 0 e size v' (n+m) (xs++news)→w.grownBy w' v.ownBlock→Lies w w' v v'→Elder e size v v' n xs→K (a.put o.dst v') w'):o.wp P a w K Q:=by
 obtain ⟨v',w',hr,h2,h3,h4⟩:=run_append_lies (P:=P) t o.type e i z size bytes ht hi hz hsize hby hzs hsz v n xs hown ad m c news hl hnews h1 hm h63 hbytes
 have h5:=run_append_elder (P:=P) t o.type e i z size bytes ht hi hz hsize hby hzs hsz v n xs hown ad m c news hl hnews h1 hm h63 hbytes hr
 unfold Oper.wp execOp
 simp only [ho,resolve,invoke,builtin,Sem.run_bind,Sem.run_pure,Result.andThen_ok,List.map_toArray,List.map_cons,List.map_nil,hs,hx,hr]
 exact h v' w' h2 h3 h4 h5
end Go.Proofs.Ts
