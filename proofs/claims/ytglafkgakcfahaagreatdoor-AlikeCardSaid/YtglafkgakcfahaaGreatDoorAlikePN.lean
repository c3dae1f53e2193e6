/- Lemmas towards the statement Alike of termsearch: walks of the program's functions and plain laws on lists (TsTabM, TsLeastA, TsLeastB, TsLeastC, TsLeastF, TsTabA). Conditions: those that each theorem names. -/
import Derived.Test.YtglafkgakcfahaaGreatDoorAlikePM
import Derived.Test.YtglafkgakcfahaaGreatDoorAlikePA
import Derived.Test.YtglafkgakcfahaaGreatDoorAlikePH
set_option linter.unusedVariables false
set_option linter.unusedSimpArgs false
set_option linter.unusedSectionVars false
namespace Go.Proofs.Ts
open Go Go.RowKit
def idsOf (sets:List PSet):List (PSet × Nat):=sets.zipIdx
def sliceV (b n:Nat):Value := .slice (some ⟨b,0,none⟩) n n
def intsV (r:List Int):List Value:=r.map (Value.int .i64)
def kindV (c:Nat):Value := .int .u8 c
theorem idsOf_append (sets:List PSet) (s:PSet):idsOf (sets++[s])=idsOf sets++[(s,sets.length)]:=by
 unfold idsOf
 rw [List.zipIdx_append]
 simp
theorem idsOf_get {sets:List PSet} {s:PSet} {i:Nat} (h:get (idsOf sets) s=some i):sets[i]?=some s:=by
 have hm:=get_some_mem h
 unfold idsOf at hm
 rw [List.mem_zipIdx_iff_getElem?] at hm
 exact hm
theorem idsOf_none {sets:List PSet} {s:PSet} (h:get (idsOf sets) s=none):s ∉ sets:=fun hs=>by
 obtain ⟨i,hi⟩:=List.mem_iff_getElem?.1 hs
 rw [get_none] at h
 exact h (s,i) (by unfold idsOf; rw [List.mem_zipIdx_iff_getElem?]; exact hi) rfl
structure TabMem (B:Nat) (L:Nat→Nat) (tb ib:Nat) (sv ov kv:Value) (rbs:List Nat) (sets:List PSet) (rows:List (List Int)) (kinds:List Nat) (w:World):Prop where
 head:w.heap[tb]?=some (.cells #[.map (some ib),sv,ov,kv] 285 (0,0))
 ids:MapIs PSet.val w ib (vals intV (idsOf sets))
 srow:w.ownsRow 0 272 3 sv sets.length (setCells sets)
 orow:w.ownsRow 0 27 1 ov rows.length ((rbs.zip rows).map fun q=>sliceV q.1 q.2.length)
 krow:w.ownsRow 0 5 1 kv kinds.length (kinds.map kindV)
 rlen:rbs.length=rows.length
 rblk:∀ (j:Nat) b r,rbs[j]?=some b→rows[j]?=some r→w.heap[b]?=some (.cells (intsV r).toArray 3 (0,0))
 lT:L tb=1
 lI:L ib=2
 lS:∀ b,sv.ownBlock=some b→L b=3
 lO:∀ b,ov.ownBlock=some b→L b=4
 lK:∀ b,kv.ownBlock=some b→L b=5
 lR:∀ b∈rbs,L b=6
 past:∀ b,L b≠0→B≤b∧b < w.heap.size
theorem label_moves {B lab:Nat} {L:Nat→Nat} {w W:World} {v v2:Value} (hm:Moves w v W v2) (hl:∀ b,v.ownBlock=some b→L b=lab) (hp:∀ b,L b≠0→B≤b∧b < w.heap.size) (hB:B≤w.heap.size) (hlt:∀ b,v2.ownBlock=some b→b < W.heap.size) :
  ∃ L':Nat→Nat,(∀ b,b < w.heap.size→L' b=L b)∧(∀ b,v2.ownBlock=some b→L' b=lab) ∧ ∀ b,L' b≠0→B≤b∧b < W.heap.size:=by
 rcases hm.lies with h | ⟨g,h,hg⟩
 ·exact ⟨L,fun _ _=>rfl,fun b hb=>hl b (h ▸ hb),fun b hb=>⟨(hp b hb).1,Nat.lt_of_lt_of_le (hp b hb).2 hm.size⟩⟩
 ·refine ⟨fun b=>if b=g then lab else L b,fun b hb=>if_neg (by omega),fun b hb=>?_,fun b hb=>?_⟩
  ·rw [h] at hb; cases hb; exact if_pos rfl
  ·by_cases e:b=g
   ·subst e; exact ⟨by omega,hlt _ h⟩
   ·simp only [if_neg e] at hb
    exact ⟨(hp b hb).1,Nat.lt_of_lt_of_le (hp b hb).2 hm.size⟩
section
variable {B:Nat} {L:Nat→Nat} {tb ib:Nat} {sv ov kv:Value} {rbs:List Nat} {sets:List PSet} {rows:List (List Int)} {kinds:List Nat} {w:World}
theorem TabMem.kept {w':World} (h:TabMem B L tb ib sv ov kv rbs sets rows kinds w) (hs:w.heap.size≤w'.heap.size) (hk:∀ b,L b≠0→L b≤6→w'.heap[b]?=w.heap[b]?):TabMem B L tb ib sv ov kv rbs sets rows kinds w' where
 head:=(hk tb (by rw [h.lT]; decide) (by rw [h.lT]; decide)).trans h.head
 ids:=h.ids.of_block (hk ib (by rw [h.lI]; decide) (by rw [h.lI]; decide))
 srow:=ownsRow_block h.srow fun b e=>hk b (by rw [h.lS b e]; decide) (by rw [h.lS b e]; decide)
 orow:=ownsRow_block h.orow fun b e=>hk b (by rw [h.lO b e]; decide) (by rw [h.lO b e]; decide)
 krow:=ownsRow_block h.krow fun b e=>hk b (by rw [h.lK b e]; decide) (by rw [h.lK b e]; decide)
 rlen:=h.rlen
 rblk:=fun j b r hb hr=>by
  have hl:=h.lR b (List.mem_of_getElem? hb)
  exact (hk b (by rw [hl]; decide) (by rw [hl]; decide)).trans (h.rblk j b r hb hr)
 lT:=h.lT
 lI:=h.lI
 lS:=h.lS
 lO:=h.lO
 lK:=h.lK
 lR:=h.lR
 past:=fun b hb=>⟨(h.past b hb).1,Nat.lt_of_lt_of_le (h.past b hb).2 hs⟩
theorem TabMem.below {w':World} (h:TabMem B L tb ib sv ov kv rbs sets rows kinds w) (hb:Below w.heap.size w w'):TabMem B L tb ib sv ov kv rbs sets rows kinds w':=h.kept hb.size fun b hn _=>hb.block b (h.past b hn).2
theorem TabMem.lt (h:TabMem B L tb ib sv ov kv rbs sets rows kinds w) {b:Nat} (hb:L b≠0):b < w.heap.size:=(h.past b hb).2
theorem TabMem.mark {w':World} {rb:Nat} (h:TabMem B L tb ib sv ov kv rbs sets rows kinds w) (hb:Below w.heap.size w w') (h0:L rb=0) (h1:B≤rb) (h2:rb < w'.heap.size):TabMem B (fun b=>if b=rb then 7 else L b) tb ib sv ov kv rbs sets rows kinds w':=by
 have k:=h.below hb
 have hne:∀ b,L b≠0→b≠rb:=fun b hb e=>hb (e ▸ h0)
 have hl:∀ b n,L b=n→n≠0→(if b=rb then 7 else L b)=n:=fun b n hn h0'=>by rw [if_neg (hne b (by rw [hn]; exact h0'))]; exact hn
 exact ⟨k.head,k.ids,k.srow,k.orow,k.krow,k.rlen,k.rblk,hl _ _ h.lT (by decide),hl _ _ h.lI (by decide),fun b e=>hl _ _ (h.lS b e) (by decide),fun b e=>hl _ _ (h.lO b e) (by decide),fun b e=>hl _ _ (h.lK b e) (by decide),fun b e=>hl _ _ (h.lR b e) (by decide),fun b hb=>by
  by_cases e:b=rb
  ·rw [e]; exact ⟨h1,h2⟩
  ·simp only [if_neg e] at hb; exact k.past b hb⟩
theorem TabMem.addKind {W:World} {kv2:Value} {c:Nat} (h:TabMem B L tb ib sv ov kv rbs sets rows kinds w) (hm:Moves w kv W kv2) (hB:B≤w.heap.size) (hrow:W.ownsRow 0 5 1 kv2 (kinds.length+1) ((kinds++[c]).map kindV)) :
  ∃ L':Nat→Nat,(∀ b,b < w.heap.size→L' b=L b)∧TabMem B L' tb ib sv ov kv2 rbs sets rows (kinds++[c]) (W.setCell ⟨tb,3,none⟩ kv2):=by
 obtain ⟨L',h1,h2,h3⟩:=label_moves hm h.lK h.past hB (fun b hb=>(hrow.lt b hb).2)
 have old:∀ b,L b≠0→L b≠1→L b≠5→(W.setCell ⟨tb,3,none⟩ kv2).heap[b]?=w.heap[b]?:=fun b n0 n1 n5=>by
  refine (Below.heap_setCell W ⟨tb,3,none⟩ _ b (fun e=>n1 ?_)).trans (hm.block (h.lt n0) fun e=>n5 (h.lK b e))
  rw [show b=tb from e]; exact h.lT
 have hne:kv2.ownBlock≠some tb:=fun e=>by
  have:=h2 tb e
  rw [h1 tb (h.lt (by rw [h.lT]; decide)),h.lT] at this
  cases this
 have hn3:=fun b (e:sv.ownBlock=some b)=>h.lS b e
 have hn4:=fun b (e:ov.ownBlock=some b)=>h.lO b e
 refine ⟨L',h1,?_,h.ids.of_block (old ib ?_ ?_ ?_),ownsRow_block h.srow fun b e=>old b ?_ ?_ ?_,ownsRow_block h.orow fun b e=>old b ?_ ?_ ?_,?_,h.rlen,fun j b r hb hr=>(old b ?_ ?_ ?_).trans (h.rblk j b r hb hr),?_,?_,fun b e=>?_,fun b e=>?_,h2,fun b e=>?_,fun b hb=>?_⟩
 ·have hh:W.heap[tb]?=some (.cells #[.map (some ib),sv,ov,kv] 285 (0,0)):=(hm.block (h.lt (by rw [h.lT]; decide)) fun e=>by have:=h.lK tb e; rw [h.lT] at this; cases this).trans h.head
  have:=heap_setCell_same W tb 3 _ _ kv2 hh
  simpa using this
 all_goals first | (rw [h.lI]; decide) | (rw [hn3 b e]; decide) | (rw [hn4 b e]; decide) | (rw [h.lR b (List.mem_of_getElem? hb)]; decide) | skip
 ·have:=ownsRow_block (w':=W.setCell ⟨tb,3,none⟩ kv2) hrow fun b e=>Below.heap_setCell W ⟨tb,3,none⟩ _ b fun e'=>hne (by rw [e,show b=tb from e'])
  simpa using this
 ·rw [h1 tb (h.lt (by rw [h.lT]; decide))]; exact h.lT
 ·rw [h1 ib (h.lt (by rw [h.lI]; decide))]; exact h.lI
 ·rw [h1 b (h.lt (by rw [hn3 b e]; decide))]; exact hn3 b e
 ·rw [h1 b (h.lt (by rw [hn4 b e]; decide))]; exact hn4 b e
 ·have:=h.lR b e
  rw [h1 b (h.lt (by rw [this]; decide))]; exact this
 ·have:=h3 b hb
  rw [World.size_setCell]; exact this
theorem TabMem.addSet {w1 W:World} {sv2:Value} {s:PSet} (h:TabMem B L tb ib sv ov kv rbs sets rows kinds w) (hg:w.grownBy w1 (some ib)) (hmp:MapIs PSet.val w1 ib (put (vals intV (idsOf sets)) s (intV sets.length))) (hnone:get (idsOf sets) s=none)
  (hm:Moves w1 sv W sv2) (hB:B≤w.heap.size) (hrow:W.ownsRow 0 272 3 sv2 (sets.length+1) (setCells (sets++[s]))) :
  ∃ L':Nat→Nat,(∀ b,b < w.heap.size→L' b=L b)∧TabMem B L' tb ib sv2 ov kv rbs (sets++[s]) rows kinds (W.setCell ⟨tb,1,none⟩ sv2):=by
 have hs1:=hg.size
 obtain ⟨L',h1',h2,h3⟩:=label_moves hm h.lS (fun b hb=>⟨(h.past b hb).1,Nat.lt_of_lt_of_le (h.past b hb).2 hs1⟩) (Nat.le_trans hB hs1) (fun b hb=>(hrow.lt b hb).2)
 have h1:∀ b,b < w.heap.size→L' b=L b:=fun b hb=>h1' b (Nat.lt_of_lt_of_le hb hs1)
 have old:∀ b,L b≠0→L b≠1→L b≠2→L b≠3→(W.setCell ⟨tb,1,none⟩ sv2).heap[b]?=w.heap[b]?:=fun b n0 n1 n2 n3=>by
  refine (Below.heap_setCell W ⟨tb,1,none⟩ _ b (fun e=>n1 ?_)).trans ((hm.block (Nat.lt_of_lt_of_le (h.lt n0) hs1) fun e=>n3 (h.lS b e)).trans (hg.block b (h.lt n0) fun e=>n2 ?_))
  ·rw [show b=tb from e]; exact h.lT
  ·have e':=Option.some.inj e
   subst e'; exact h.lI
 have hne:sv2.ownBlock≠some tb:=fun e=>by
  have:=h2 tb e
  rw [h1 tb (h.lt (by rw [h.lT]; decide)),h.lT] at this
  cases this
 have hn4:=fun b (e:ov.ownBlock=some b)=>h.lO b e
 have hn5:=fun b (e:kv.ownBlock=some b)=>h.lK b e
 refine ⟨L',h1,?_,?_,?_,ownsRow_block h.orow fun b e=>old b ?_ ?_ ?_ ?_,ownsRow_block h.krow fun b e=>old b ?_ ?_ ?_ ?_,h.rlen,fun j b r hb hr=>(old b ?_ ?_ ?_ ?_).trans (h.rblk j b r hb hr),?_,?_,h2,fun b e=>?_,fun b e=>?_,fun b e=>?_,fun b hb=>?_⟩
 ·have hh:W.heap[tb]?=some (.cells #[.map (some ib),sv,ov,kv] 285 (0,0)):=(hm.block (Nat.lt_of_lt_of_le (h.lt (by rw [h.lT]; decide)) hs1) fun e=>by have:=h.lS tb e; rw [h.lT] at this; cases this).trans
   ((hg.block tb (h.lt (by rw [h.lT]; decide)) fun e=>by have e':=Option.some.inj e; subst e'; have:=h.lI; rw [h.lT] at this; cases this).trans h.head)
  have:=heap_setCell_same W tb 1 _ _ sv2 hh
  simpa using this
 ·have hW:(W.setCell ⟨tb,1,none⟩ sv2).heap[ib]?=w1.heap[ib]?:=by
   refine (Below.heap_setCell W ⟨tb,1,none⟩ _ ib (fun e=>?_)).trans (hm.block (Nat.lt_of_lt_of_le (h.lt (by rw [h.lI]; decide)) hs1) fun e=>?_)
   ·have:=h.lI; rw [show ib=tb from e,h.lT] at this; cases this
   ·have:=h.lS ib e; rw [h.lI] at this; cases this
  have:=hmp.of_block hW
  rw [put_vals,length_put_none _ hnone,← idsOf_append] at this
  exact this
 ·have:=ownsRow_block (w':=W.setCell ⟨tb,1,none⟩ sv2) hrow fun b e=>Below.heap_setCell W ⟨tb,1,none⟩ _ b fun e'=>hne (by rw [e,show b=tb from e'])
  simpa using this
 all_goals first | (rw [hn5 b e]; decide) | (rw [hn4 b e]; decide) | (rw [h.lR b (List.mem_of_getElem? hb)]; decide) | skip
 ·rw [h1 tb (h.lt (by rw [h.lT]; decide))]; exact h.lT
 ·rw [h1 ib (h.lt (by rw [h.lI]; decide))]; exact h.lI
 ·rw [h1 b (h.lt (by rw [hn4 b e]; decide))]; exact hn4 b e
 ·rw [h1 b (h.lt (by rw [hn5 b e]; decide))]; exact hn5 b e
 ·have:=h.lR b e
  rw [h1 b (h.lt (by rw [this]; decide))]; exact this
 ·have:=h3 b hb
  rw [World.size_setCell]; exact this
theorem TabMem.addRow {W:World} {ov2:Value} {rb:Nat} {r:List Int} (h:TabMem B L tb ib sv ov kv rbs sets rows kinds w) (hL:6 < L rb) (hr:w.heap[rb]?=some (.cells (intsV r).toArray 3 (0,0)))
  (hm:Moves w ov W ov2) (hB:B≤w.heap.size) (hrow:W.ownsRow 0 27 1 ov2 (rows.length+1) ((rbs.zip rows).map (fun q=>sliceV q.1 q.2.length)++[sliceV rb r.length])) :
  ∃ L':Nat→Nat,TabMem B L' tb ib sv ov2 kv (rbs++[rb]) sets (rows++[r]) kinds (W.setCell ⟨tb,2,none⟩ ov2):=by
 obtain ⟨L1,h1,h2,h3⟩:=label_moves hm h.lO h.past hB (fun b hb=>(hrow.lt b hb).2)
 have old:∀ b,L b≠0→L b≠1→L b≠4→(W.setCell ⟨tb,2,none⟩ ov2).heap[b]?=w.heap[b]?:=fun b n0 n1 n4=>by
  refine (Below.heap_setCell W ⟨tb,2,none⟩ _ b (fun e=>n1 ?_)).trans (hm.block (h.lt n0) fun e=>n4 (h.lO b e))
  rw [show b=tb from e]; exact h.lT
 have hrb:=lt_of_heap hr
 have hne:ov2.ownBlock≠some tb:=fun e=>by
  have:=h2 tb e
  rw [h1 tb (h.lt (by rw [h.lT]; decide)),h.lT] at this
  cases this
 have hnr:∀ b,L1 b≤6→b≠rb:=fun b hb e=>by
  rw [e,h1 rb hrb] at hb; omega
 have hn3:=fun b (e:sv.ownBlock=some b)=>h.lS b e
 have hn5:=fun b (e:kv.ownBlock=some b)=>h.lK b e
 have eT:L1 tb=1:=by rw [h1 tb (h.lt (by rw [h.lT]; decide))]; exact h.lT
 have eI:L1 ib=2:=by rw [h1 ib (h.lt (by rw [h.lI]; decide))]; exact h.lI
 have eS:∀ b,sv.ownBlock=some b→L1 b=3:=fun b e=>by rw [h1 b (h.lt (by rw [hn3 b e]; decide))]; exact hn3 b e
 have eK:∀ b,kv.ownBlock=some b→L1 b=5:=fun b e=>by rw [h1 b (h.lt (by rw [hn5 b e]; decide))]; exact hn5 b e
 have eR:∀ b∈rbs,L1 b=6:=fun b e=>by
  have:=h.lR b e
  rw [h1 b (h.lt (by rw [this]; decide))]; exact this
 refine ⟨fun b=>if b=rb then 6 else L1 b,?_,h.ids.of_block (old ib ?_ ?_ ?_),ownsRow_block h.srow fun b e=>old b ?_ ?_ ?_,?_,ownsRow_block h.krow fun b e=>old b ?_ ?_ ?_,by simp [h.rlen],fun j b r' hb hr'=>?_,?_,?_,fun b e=>?_,fun b e=>?_,fun b e=>?_,fun b e=>?_,fun b hb=>?_⟩
 ·have hh:W.heap[tb]?=some (.cells #[.map (some ib),sv,ov,kv] 285 (0,0)):=(hm.block (h.lt (by rw [h.lT]; decide)) fun e=>by have:=h.lO tb e; rw [h.lT] at this; cases this).trans h.head
  have:=heap_setCell_same W tb 2 _ _ ov2 hh
  simpa using this
 all_goals first | (rw [h.lI]; decide) | (rw [hn3 b e]; decide) | (rw [hn5 b e]; decide) | skip
 ·have:=ownsRow_block (w':=W.setCell ⟨tb,2,none⟩ ov2) hrow fun b e=>Below.heap_setCell W ⟨tb,2,none⟩ _ b fun e'=>hne (by rw [e,show b=tb from e'])
  rw [List.zip_append h.rlen,List.map_append]
  simpa using this
 ·have hlt:=(List.getElem?_eq_some_iff.1 hb).1
  by_cases hj:j < rbs.length
  ·rw [List.getElem?_append_left hj] at hb
   rw [List.getElem?_append_left (by rw [← h.rlen]; exact hj)] at hr'
   have hl:=h.lR b (List.mem_of_getElem? hb)
   exact (old b (by rw [hl]; decide) (by rw [hl]; decide) (by rw [hl]; decide)).trans (h.rblk j b r' hb hr')
  ·simp at hlt
   obtain rfl:j=rbs.length:=by omega
   rw [List.getElem?_concat_length] at hb
   rw [h.rlen,List.getElem?_concat_length] at hr'
   cases hb
   cases hr'
   exact (old rb (by omega) (by omega) (by omega)).trans hr
 ·rw [if_neg (hnr tb (by rw [eT]; decide))]; exact eT
 ·rw [if_neg (hnr ib (by rw [eI]; decide))]; exact eI
 ·rw [if_neg (hnr b (by rw [eS b e]; decide))]; exact eS b e
 ·rw [if_neg (hnr b (by rw [h2 b e]; decide))]; exact h2 b e
 ·rw [if_neg (hnr b (by rw [eK b e]; decide))]; exact eK b e
 ·rcases List.mem_append.1 e with e | e
  ·rw [if_neg (hnr b (by rw [eR b e]; decide))]; exact eR b e
  ·simp at e; rw [if_pos e]
 ·rw [World.size_setCell]
  by_cases e:b=rb
  ·rw [e]; exact ⟨(h.past rb (by omega)).1,Nat.lt_of_lt_of_le hrb hm.size⟩
  ·simp only [if_neg e] at hb
   exact h3 b hb
end
theorem ownsRow_cell0 {w:World} {B e size n g cap:Nat} {xs:List Value} (h:w.ownsRow B e size (.slice (some ⟨g,0,none⟩) n cap) n xs) {j:Nat} {u:Value} (hj:xs[j]?=some u):w.cell? ⟨g,j,none⟩=some u:=by
 have:=h.cells (g:=g) rfl j u hj
 unfold Addr.add at this
 by_cases e:j=0
 ·subst e; simpa using this
 ·simpa [e] using this
theorem ownsRow_headP {w:World} {B e size n:Nat} {v:Value} {xs:List Value} (h:w.ownsRow B e size v n xs) (hn:0 < n):∃ g cap,v = .slice (some ⟨g,0,none⟩) n cap:=by
 obtain ⟨k,rfl⟩:∃ k,n=k+1:=⟨n - 1,by omega⟩
 exact ownsRow_head h
theorem wpList_append_slice {P:Program} {w:World} {ops:Array Oper} {rest:List Oper} {o:Oper} {a:Act} {Q:Exit→Act→World→Prop} (hgd:o.guard=none) (s x:Operand) (t:TypeId)
  (ho:o.op = .call { callee := .builtin .append,args:=#[s,x],argTypes:=#[t,t] })
  (e:TypeId) (i:TypeInfo) (z:Value) (size bytes:Nat) (ht:P.underlying t=some (.slice e)) (hi:P.info? e=some i) (hz:i.zero=some z)
  (hsize:i.size=size) (hby:i.bytes=bytes) (hzs:z.cells.size=size) (hsz:0 < size)
  (v:Value) (n:Nat) (xs:List Value) (hs:a.eval s=v) (hown:w.ownsRow 0 e size v n xs)
  (ad:Addr) (m c:Nat) (news:List Value) (hx:a.eval x = .slice (some ad) m c) (hl:news.length=m * size) (hnews:∀ j u,news[j]?=some u→w.cell? (ad.add j)=some u) (h1:∀ u∈news,u.oneCell'=true)
  (hm:0 < m) (h63:n+m≤maxLen) (hbytes:(n+m) * bytes≤140737488355328)
  (h:∀ g cap w',w'.ownsRow 0 e size (.slice (some ⟨g,0,none⟩) (n+m) cap) (n+m) (xs++news)→w.grownBy w' v.ownBlock→Lies w w' v (.slice (some ⟨g,0,none⟩) (n+m) cap)→wpList P ops Q rest (a.put o.dst (.slice (some ⟨g,0,none⟩) (n+m) cap)) w'):wpList P ops Q (o :: rest) a w:=by
 refine wpList_append_lies hgd s x t ho e i z size bytes ht hi hz hsize hby hzs hsz v n xs hs hown ad m c news hx hl hnews h1 hm h63 hbytes ?_
 intro v' w' h2 h3 h4
 have hf:∃ g cap,v' = .slice (some ⟨g,0,none⟩) (n+m) cap:=by
  obtain ⟨k,hk⟩:∃ k,n+m=k+1:=⟨n+m - 1,by omega⟩
  rw [hk] at h2 ⊢
  exact ownsRow_head h2
 obtain ⟨g,cap,rfl⟩:=hf
 exact h g cap w' h2 h3 h4
structure InRow (B most:Nat) (M:PM) (ks:List Nat) (tb ib rb:Nat) (ov kv:Value) (rbs:List Nat) (rows:List (List Int)) (s:PSet) (k:Nat) (sets:List PSet) (L:Nat→Nat) (sv:Value) (cur:List Int) (w:World):Prop where
 ok:TabOk M ks sets rows
 few:sets.length≤most
 own:sets[rows.length]?=some s
 mem:TabMem B L tb ib sv ov kv rbs sets rows ks w
 lab:L rb=7
 row:w.heap[rb]?=some (.cells (intsV cur).toArray 3 (0,0))
 len:cur.length=ks.length
 done:∀ (j c:Nat),j < k→ks[j]?=some c → ∃ z:Int,cur[j]?=some z∧TCell M sets s c z
section
variable {B most:Nat} {M:PM} {ks:List Nat} {tb ib rb:Nat} {ov kv:Value} {rbs:List Nat} {rows:List (List Int)} {s:PSet} {k:Nat} {sets:List PSet} {L:Nat→Nat} {sv:Value} {cur:List Int} {w w':World}
theorem InRow.below (h:InRow B most M ks tb ib rb ov kv rbs rows s k sets L sv cur w) (hb:Below w.heap.size w w'):InRow B most M ks tb ib rb ov kv rbs rows s k sets L sv cur w' :=
 ⟨h.ok,h.few,h.own,h.mem.below hb,h.lab,(hb.block _ (lt_of_heap h.row)).trans h.row,h.len,h.done⟩
theorem intsV_set (cur:List Int) (k:Nat) (z:Int):(intsV cur).toArray.setIfInBounds k (.int .i64 z)=(intsV (cur.set k z)).toArray:=by
 simp [intsV,List.map_set]
theorem InRow.put (h:InRow B most M ks tb ib rb ov kv rbs rows s k sets L sv cur w) (z:Int):InRow B most M ks tb ib rb ov kv rbs rows s k sets L sv (cur.set k z) (w.setCell ⟨rb,k,none⟩ (.int .i64 z)):=by
 refine ⟨h.ok,h.few,h.own,h.mem.kept (by simp) fun b h0 h6=>Below.heap_setCell w ⟨rb,k,none⟩ _ b fun e=>?_,h.lab,?_,by rw [List.length_set]; exact h.len,fun j c hj hc=>?_⟩
 ·have:=h.lab
  rw [← show b=rb from e] at this
  omega
 ·rw [heap_setCell_same w rb k _ _ _ h.row,intsV_set]
 ·obtain ⟨y,h1,h2⟩:=h.done j c hj hc
  exact ⟨y,by rw [List.getElem?_set_ne (by omega)]; exact h1,h2⟩
theorem InRow.next (h:InRow B most M ks tb ib rb ov kv rbs rows s k sets L sv cur w) {c:Nat} {z:Int} (hc:ks[k]?=some c) (hz:cur[k]?=some z) (hT:TCell M sets s c z):InRow B most M ks tb ib rb ov kv rbs rows s (k+1) sets L sv cur w :=
 ⟨h.ok,h.few,h.own,h.mem,h.lab,h.row,h.len,fun j c' hj hc'=>by
  by_cases e:j=k
  ·subst e
   rw [hc] at hc'
   cases hc'
   exact ⟨z,hz,hT⟩
  ·exact h.done j c' (by omega) hc'⟩
end
end Go.Proofs.Ts
namespace Go.Proofs.Ts
open Go Go.RowKit
inductive Leads (fr:List (List Nat)):Nat→Nat→Prop
 | here (i:Nat):Leads fr i i
 | on (x y i:Nat):x∈fr.getD y []→Leads fr y i→Leads fr x i
theorem leads_trans {fr:List (List Nat)} {x y i:Nat} (h:Leads fr x y) (k:Leads fr y i):Leads fr x i:=by
 induction h with
 | here _=>exact k
 | on a b c hab _ ih=>exact .on a b i hab (ih k)
structure Marks (fr:List (List Nat)) (lv:List Bool) (i:Nat) (lv':List Bool):Prop where
 len:lv'.length=lv.length
 mono:∀ x,lv.getD x false=true→lv'.getD x false=true
 has:lv'.getD i false=true
 shut:∀ x,lv'.getD x false=true→lv.getD x false=false → ∀ y∈fr.getD x [],lv'.getD y false=true
 leads:∀ x,lv'.getD x false=true→lv.getD x false=false→Leads fr x i
def backFn (c5 c6 c11:Nat):Value := .func (.func 129) #[] #[ptrV c5,ptrV c6,ptrV c11]
structure BackAt (c5 c6 c11 lb fb:Nat) (fvs:List Value) (fr:List (List Nat)) (lv:List Bool) (w:World):Prop where
 cl:w.heap[c5]?=some (.cells #[.slice (some ⟨lb,0,none⟩) lv.length lv.length] 288 (0,0))
 cf:w.heap[c6]?=some (.cells #[.slice (some ⟨fb,0,none⟩) lv.length lv.length] 86 (0,0))
 cb:w.heap[c11]?=some (.cells #[backFn c5 c6 c11] 280 (0,0))
 live:w.heap[lb]?=some (.cells (lv.map Value.bool).toArray 4 (0,0))
 from':w.heap[fb]?=some (.cells fvs.toArray 27 (0,0))
 flen:fvs.length=lv.length
 rlen:fr.length=lv.length
 rows:∀ (j:Nat) v l,fvs[j]?=some v→fr[j]?=some l→w.ownsRow 0 3 1 v l.length (l.map intV)∧v.ownBlock≠some lb
 lt:∀ l∈fr,∀ x∈l,x < lv.length
 few:∀ l∈fr,l.length≤1000000
 n5:c5≠lb
 n6:c6≠lb
 n11:c11≠lb
 nf:fb≠lb
theorem BackAt.kept {c5 c6 c11 lb fb:Nat} {fvs:List Value} {fr:List (List Nat)} {lv lv':List Bool} {w w':World} (h:BackAt c5 c6 c11 lb fb fvs fr lv w) (hm:Mod (fun j=>j=lb) w w') (hl:lv'.length=lv.length) (hlb:w'.heap[lb]?=some (.cells (lv'.map Value.bool).toArray 4 (0,0))):BackAt c5 c6 c11 lb fb fvs fr lv' w' where
 cl:=by rw [hl]; exact (hm.block _ (lt_of_heap h.cl) h.n5).trans h.cl
 cf:=by rw [hl]; exact (hm.block _ (lt_of_heap h.cf) h.n6).trans h.cf
 cb:=(hm.block _ (lt_of_heap h.cb) h.n11).trans h.cb
 live:=hlb
 from':=(hm.block _ (lt_of_heap h.from') h.nf).trans h.from'
 flen:=h.flen.trans hl.symm
 rlen:=h.rlen.trans hl.symm
 rows:=fun j v l hv hlj=>⟨ownsRow_block (h.rows j v l hv hlj).1 fun b e=>hm.block b ((h.rows j v l hv hlj).1.lt b e).2 fun e'=>(h.rows j v l hv hlj).2 (e' ▸ e),(h.rows j v l hv hlj).2⟩
 lt:=fun l hlm x hx=>by rw [hl]; exact h.lt l hlm x hx
 few:=h.few
 n5:=h.n5
 n6:=h.n6
 n11:=h.n11
 nf:=h.nf
def unmarked (lv:List Bool):Nat:=(lv.filter fun x=>!x).length
theorem unmarked_set {lv:List Bool} {i:Nat} (hi:i < lv.length) (h:lv.getD i false=false):unmarked (lv.set i true) < unmarked lv:=by
 induction lv generalizing i with
 | nil=>simp at hi
 | cons a l ih =>
  cases i with
  | zero =>
   simp at h
   subst h
   simp [unmarked]
  | succ i =>
   have:=ih (i:=i) (by simpa using hi) (by simpa using h)
   unfold unmarked at this ⊢
   rw [List.set_cons_succ,List.filter_cons,List.filter_cons]
   split <;> simp <;> omega
theorem getD_setB (lv:List Bool) (i x:Nat) (hi:i < lv.length):(lv.set i true).getD x false=if x=i then true else lv.getD x false:=by
 rw [List.getD_eq_getElem?_getD,List.getElem?_set,List.getD_eq_getElem?_getD]
 by_cases e:i=x
 ·subst e; simp [hi]
 ·simp [e,Ne.symm e]
theorem unmarked_le {lv lv':List Bool} (hl:lv'.length=lv.length) (h:∀ x,lv.getD x false=true→lv'.getD x false=true):unmarked lv'≤unmarked lv:=by
 induction lv generalizing lv' with
 | nil=>cases lv' with
  | nil=>exact Nat.le_refl _
  | cons a l=>simp at hl
 | cons a l ih =>
  cases lv' with
  | nil=>simp at hl
  | cons b m =>
   have h1:=ih (lv':=m) (by simpa using hl) fun x hx=>by simpa using h (x+1) (by simpa using hx)
   have h2:=h 0
   simp at h2
   unfold unmarked at h1 ⊢
   rw [List.filter_cons,List.filter_cons]
   cases a <;> cases b <;> simp at h2 ⊢ <;> omega
structure MarksTo (fr:List (List Nat)) (lv:List Bool) (i j:Nat) (lv':List Bool):Prop where
 len:lv'.length=lv.length
 mono:∀ x,lv.getD x false=true→lv'.getD x false=true
 has:lv'.getD i false=true
 part:∀ y∈(fr.getD i []).take j,lv'.getD y false=true
 shut:∀ x,x≠i→lv'.getD x false=true→lv.getD x false=false → ∀ y∈fr.getD x [],lv'.getD y false=true
 leads:∀ x,lv'.getD x false=true→lv.getD x false=false→Leads fr x i
theorem MarksTo.start {fr:List (List Nat)} {lv:List Bool} {i:Nat} (hi:i < lv.length):MarksTo fr lv i 0 (lv.set i true) where
 len:=List.length_set
 mono:=fun x hx=>by rw [getD_setB lv i x hi]; split <;> first | rfl | exact hx
 has:=by rw [getD_setB lv i i hi,if_pos rfl]
 part:=fun y hy=>by simp at hy
 shut:=fun x hne hx h0=>by rw [getD_setB lv i x hi,if_neg hne,h0] at hx; cases hx
 leads:=fun x hx h0=>by
  rw [getD_setB lv i x hi] at hx
  split at hx
  ·rename_i e; rw [e]; exact .here i
  ·rw [h0] at hx; cases hx
theorem MarksTo.step {fr:List (List Nat)} {lv lv' lv2:List Bool} {i j y:Nat} (h:MarksTo fr lv i j lv') (hy:(fr.getD i [])[j]?=some y) (hm:Marks fr lv' y lv2):MarksTo fr lv i (j+1) lv2 where
 len:=hm.len.trans h.len
 mono:=fun x hx=>hm.mono x (h.mono x hx)
 has:=hm.mono i h.has
 part:=fun z hz=>by
  have hlt:=(List.getElem?_eq_some_iff.1 hy).1
  rw [List.take_succ_eq_append_getElem hlt] at hz
  rcases List.mem_append.1 hz with hz | hz
  ·exact hm.mono z (h.part z hz)
  ·have e:(fr.getD i [])[j]=y:=Option.some.inj ((List.getElem?_eq_getElem hlt).symm.trans hy)
   rw [e,List.mem_singleton] at hz
   rw [hz]
   exact hm.has
 shut:=fun x hne hx h0 z hz=>by
  cases h1:lv'.getD x false with
  | true=>exact hm.mono z (h.shut x hne h1 h0 z hz)
  | false=>exact hm.shut x hx h1 z hz
 leads:=fun x hx h0=>by
  cases h1:lv'.getD x false with
  | true=>exact h.leads x h1 h0
  | false =>
   have h2:=hm.leads x hx h1
   exact leads_trans h2 (.on y i i (List.mem_of_getElem? hy) (.here i))
theorem MarksTo.close {fr:List (List Nat)} {lv lv':List Bool} {i:Nat} (h:MarksTo fr lv i (fr.getD i []).length lv'):Marks fr lv i lv' where
 len:=h.len
 mono:=h.mono
 has:=h.has
 shut:=fun x hx h0 y hy=>by
  by_cases e:x=i
  ·subst e
   exact h.part y (by rw [List.take_length]; exact hy)
  ·exact h.shut x e hx h0 y hy
 leads:=h.leads
end Go.Proofs.Ts
namespace Go.Proofs.Ts
open Go Go.RowKit
set_option maxRecDepth 100000 in
set_option maxHeartbeats 1000000 in
theorem back_yes (c5 c6 c11 lb fb:Nat) (fvs:List Value) (fr:List (List Nat)) (lv:List Bool) (i:Nat) (w:World) (h1000:lv.length≤1000) (hi:i < lv.length) (hg:lv.getD i false=true) (hB:BackAt c5 c6 c11 lb fb fvs fr lv w) :
  Calls Tryz.prog 129 #[.int .i64 i,ptrV c5,ptrV c6,ptrV c11] w fun e w'=>e = .returned (.tuple #[]) ∧ ∃ lv',Marks fr lv i lv'∧BackAt c5 c6 c11 lb fb fvs fr lv' w'∧Mod (fun j=>j=lb) w w':=by
 have k5:w.cell? ⟨c5,0,none⟩=some (.slice (some ⟨lb,0,none⟩) lv.length lv.length):=cell_block hB.cl
 have hiz:(i:Int) < (lv.length:Int):=by omega
 have hlz:(lv.length:Int)≤1000:=by omega
 have kl:w.cell? ⟨lb,i,none⟩=some (.bool true):=by
  rw [cell_block hB.live]
  have:lv[i]?=some true:=by
   rw [List.getD_eq_getElem?_getD] at hg
   rw [List.getElem?_eq_getElem hi] at hg ⊢
   simpa using hg
  simp [this]
 have HB:=Lib.hid (show _∧_ from ⟨hB,hg⟩)
 clear hB hg
 unfold ptrV
 go_enter Tryz.func129,Tryz.ntmps129
 go_wp2_with fail
 go_end0
 exact ⟨rfl,lv,⟨rfl,fun _ h=>h,HB.out.2,fun x h h0=>(by rw [h0] at h; cases h),fun x h h0=>(by rw [h0] at h; cases h)⟩,HB.out.1,Mod.refl _ _⟩
theorem unmarked_pos {lv:List Bool} {i:Nat} (hi:i < lv.length) (h:lv.getD i false=false):0 < unmarked lv:=Nat.lt_of_le_of_lt (Nat.zero_le _) (unmarked_set hi h)
set_option maxRecDepth 100000 in
set_option maxHeartbeats 4000000 in
theorem back_any (c5 c6 c11 lb fb:Nat) (fvs:List Value) (fr:List (List Nat)):∀ (r:Nat) (lv:List Bool) (i:Nat) (w:World),unmarked lv≤r→lv.length≤1000→i < lv.length→BackAt c5 c6 c11 lb fb fvs fr lv w →
  Calls Tryz.prog 129 #[.int .i64 i,ptrV c5,ptrV c6,ptrV c11] w fun e w'=>e = .returned (.tuple #[]) ∧ ∃ lv',Marks fr lv i lv'∧BackAt c5 c6 c11 lb fb fvs fr lv' w'∧Mod (fun j=>j=lb) w w':=by
 intro r
 induction r with
 | zero =>
  intro lv i w hr h1000 hi hB
  refine back_yes c5 c6 c11 lb fb fvs fr lv i w h1000 hi ?_ hB
  cases h:lv.getD i false with
  | true=>rfl
  | false=>have:=unmarked_pos hi h; omega
 | succ r ih =>
  intro lv i w hr h1000 hi hB
  have IH:=Lib.hid ih
  clear ih
  have k5:w.cell? ⟨c5,0,none⟩=some (.slice (some ⟨lb,0,none⟩) lv.length lv.length):=cell_block hB.cl
  have k6:w.cell? ⟨c6,0,none⟩=some (.slice (some ⟨fb,0,none⟩) lv.length lv.length):=cell_block hB.cf
  have hiz:(i:Int) < (lv.length:Int):=by omega
  have hlz:(lv.length:Int)≤1000:=by omega
  obtain ⟨b,hb⟩:∃ b,lv[i]?=some b:=⟨_,List.getElem?_eq_getElem hi⟩
  have kl:w.cell? ⟨lb,i,none⟩=some (.bool b):=by
   rw [cell_block hB.live]
   simp [hb]
  have kf:w.frozen? ⟨lb,i,none⟩=false:=free_block hB.live
  have hgb:lv.getD i false=b:=by rw [List.getD_eq_getElem?_getD,hb]; rfl
  have HB:=Lib.hid (show _∧_∧_∧_ from ⟨hB,hgb,hr,hb⟩)
  clear hB hgb hr hb
  cases b with
  | true=>exact back_yes c5 c6 c11 lb fb fvs fr lv i w h1000 hi HB.out.2.1 HB.out.1
  | false =>
   unfold ptrV
   obtain ⟨fv,hfv⟩:∃ fv,fvs[i]?=some fv:=⟨_,List.getElem?_eq_getElem (by rw [HB.out.1.flen]; exact hi)⟩
   obtain ⟨fl,hfl⟩:∃ fl,fr[i]?=some fl:=⟨_,List.getElem?_eq_getElem (by rw [HB.out.1.rlen]; exact hi)⟩
   have hst:=MarksTo.start (fr:=fr) hi
   have hlive:(w.setCell ⟨lb,i,none⟩ (.bool true)).heap[lb]?=some (.cells ((lv.set i true).map Value.bool).toArray 4 (0,0)):=by
    rw [heap_setCell_same w lb i _ _ (.bool true) HB.out.1.live]
    simp [List.map_set]
   have hm1:Mod (fun j=>j=lb) w (w.setCell ⟨lb,i,none⟩ (.bool true)):=Mod.setCell w ⟨lb,i,none⟩ _ fun _=>rfl
   have hB1:=HB.out.1.kept hm1 List.length_set hlive
   obtain ⟨hrow,hnb⟩:=hB1.rows i fv fl hfv hfl
   obtain ⟨fa,fc,hfo⟩:=ownsRow_form hrow
   have q6:(w.setCell ⟨lb,i,none⟩ (.bool true)).cell? ⟨c6,0,none⟩=some (.slice (some ⟨fb,0,none⟩) lv.length lv.length):=by
    have:=cell_block (i:=0) hB1.cf
    rw [List.length_set] at this
    exact this
   have q7:(w.setCell ⟨lb,i,none⟩ (.bool true)).cell? ⟨fb,i,none⟩=some (.slice fa fl.length fc):=by
    rw [cell_block hB1.from']
    simp [hfv,hfo]
   have hfew:fl.length≤1000000:=hB1.few fl (List.mem_of_getElem? hfl)
   have hgd:fr.getD i []=fl:=by rw [List.getD_eq_getElem?_getD,hfl]; rfl
   have hun:unmarked (lv.set i true) < unmarked lv:=unmarked_set hi HB.out.2.1
   have H1:=Lib.hid (show _∧_∧_∧_∧_∧_∧_ from ⟨hst,hB1,hm1,hgd,hun,hfo,hfv⟩)
   have HFL:=Lib.hid hfl
   clear hst hB1 hm1 hgd hun hrow hnb hlive hfv hfl hfo
   go_enter Tryz.func129,Tryz.ntmps129
   go_wp2_with fail
   obtain ⟨w1,hw1⟩:∃ w1,w1=w.setCell ⟨lb,i,none⟩ (.bool true):=⟨_,rfl⟩
   rw [← hw1] at H1 ⊢
   clear hw1 q6 q7 kl kf
   go_loopw [20] (fun iv wr=>∃ (j:Nat) (lv':List Bool),j≤fl.length∧iv = .int .i64 j∧Hid (MarksTo fr lv i j lv'∧BackAt c5 c6 c11 lb fb fvs fr lv' wr∧Mod (fun j=>j=lb) w wr)) (fun iv _=>fl.length - (intOf iv).toNat)
   case atStart=>exact ⟨0,_,by omega,rfl,H1.out.1,H1.out.2.1,H1.out.2.2.1⟩
   case round =>
    obtain ⟨j,lv',hj,rfl,HR⟩:=hrel
    by_cases hjl:j < fl.length
    ·obtain ⟨y,hy⟩:∃ y,fl[j]?=some y:=⟨_,List.getElem?_eq_getElem hjl⟩
     obtain ⟨hrow,_⟩:=HR.out.2.1.rows i fv fl H1.out.2.2.2.2.2.2 HFL.out
     rw [H1.out.2.2.2.2.2.1] at hrow
     obtain ⟨fg,fcap,hform⟩:=ownsRow_headP hrow (by omega)
     simp only [Value.slice.injEq,true_and] at hform
     obtain ⟨rfl,rfl⟩:=hform
     have ky:wr.cell? ⟨fg,j,none⟩=some (.int .i64 y):=ownsRow_cell0 hrow (by rw [List.getElem?_map,hy]; rfl)
     have k11:wr.cell? ⟨c11,0,none⟩=some (.func (.func 129) #[] #[.pointer (some ⟨c5,0,none⟩),.pointer (some ⟨c6,0,none⟩),.pointer (some ⟨c11,0,none⟩)]):=cell_block HR.out.2.1.cb
     have hylt:y < lv'.length:=by
      have:=HR.out.2.1.lt fl (List.mem_of_getElem? HFL.out) y (List.mem_of_getElem? hy)
      exact this
     have hle:=unmarked_le (lv:=lv.set i true) (lv':=lv') (by rw [HR.out.1.len,List.length_set]) fun x hx=>by
      rw [getD_setB lv i x hi] at hx
      split at hx
      ·rename_i e; rw [e]; exact HR.out.1.has
      ·exact HR.out.1.mono x hx
     have hcall:=IH.out lv' y wr (by have:=H1.out.2.2.2.2.1; have:=HB.out.2.2.1; omega) (by rw [HR.out.1.len]; exact h1000) hylt HR.out.2.1
     have HCALL:=Lib.hid (And.intro hcall hy)
     have hjz:(j:Int) < (fl.length:Int):=by omega
     have hjz0:(0:Int)≤(j:Int):=by omega
     clear hcall hrow hle hylt hy
     go_wp2_with fail
     have hcall:=HCALL.out.1
     unfold ptrV at hcall
     refine hcall.mono ?_
     clear hcall
     rintro en w2 ⟨rfl,lv2,hm2,hB2,hmod2⟩
     have hs:=HR.out.1.step (by rw [H1.out.2.2.2.1]; exact HCALL.out.2) hm2
     have HN:=Lib.hid (show _∧_∧_ from ⟨hs,hB2,HR.out.2.2.trans hmod2⟩)
     clear hs hm2 hB2 hmod2 ky k11
     go_wp2_with fail
     exact ⟨⟨j+1,lv2,by omega,by go_num,HN⟩,by simp [intOf]; omega⟩
    ·obtain rfl:j=fl.length:=by omega
     go_wp2_with fail
     go_end0
     have hc:=HR.out.1
     rw [← H1.out.2.2.2.1] at hc
     exact ⟨rfl,lv',hc.close,HR.out.2.1,HR.out.2.2⟩
end Go.Proofs.Ts
namespace Go.Proofs.Ts
open Go Go.RowKit
structure FrIs (rows:List (List Int)) (n i k:Nat) (fr:List (List Nat)):Prop where
 len:fr.length=n
 iff:∀ y,y < n → ∀ x,x∈fr.getD y []↔(x < i ∧ ∃ q,goes rows x q=some y)∨(x=i ∧ ∃ q,q < k∧goes rows i q=some y)
 few:∀ l∈fr,l.length≤i * 256+k
theorem FrIs.start (rows:List (List Int)) (n:Nat):FrIs rows n 0 0 (List.replicate n []) where
 len:=List.length_replicate
 iff:=fun y hy x=>by
  have e:(List.replicate n ([]:List Nat)).getD y []=[]:=by
   rw [List.getD_eq_getElem?_getD,List.getElem?_replicate]
   split <;> rfl
  rw [e]
  simp
 few:=fun l hl=>by rw [List.eq_of_mem_replicate hl]; simp
theorem goes_at {rows:List (List Int)} {i k:Nat} {r:List Int} {z:Int} (hr:rows[i]?=some r) (hz:r[k]?=some z):goes rows i k=if 0≤z then some z.toNat else none:=by
 unfold goes
 rw [hr]
 simp only [hz]
theorem goes_past {rows:List (List Int)} {i k:Nat} {r:List Int} (hr:rows[i]?=some r) (hk:r.length≤k):goes rows i k=none:=by
 unfold goes
 rw [hr]
 simp only [List.getElem?_eq_none hk]
theorem FrIs.skip {rows:List (List Int)} {n i k:Nat} {fr:List (List Nat)} (h:FrIs rows n i k fr) (hg:goes rows i k=none):FrIs rows n i (k+1) fr where
 len:=h.len
 iff:=fun y hy x=>by
  rw [h.iff y hy x]
  constructor
  ·rintro (h1 | ⟨h1,q,hq,h2⟩)
   ·exact .inl h1
   ·exact .inr ⟨h1,q,by omega,h2⟩
  ·rintro (h1 | ⟨h1,q,hq,h2⟩)
   ·exact .inl h1
   ·by_cases e:q=k
    ·rw [e,hg] at h2; cases h2
    ·exact .inr ⟨h1,q,by omega,h2⟩
 few:=fun l hl=>by have:=h.few l hl; omega
theorem FrIs.add {rows:List (List Int)} {n i k y:Nat} {fr:List (List Nat)} {l:List Nat} (h:FrIs rows n i k fr) (hg:goes rows i k=some y) (hy:fr[y]?=some l):FrIs rows n i (k+1) (fr.set y (l++[i])) where
 len:=by rw [List.length_set]; exact h.len
 iff:=fun z hz x=>by
  have hyl:=(List.getElem?_eq_some_iff.1 hy).1
  have e:(fr.set y (l++[i])).getD z []=if y=z then l++[i] else fr.getD z []:=by
   rw [List.getD_eq_getElem?_getD,List.getElem?_set,List.getD_eq_getElem?_getD]
   by_cases e:y=z
   ·subst e; simp [hyl]
   ·simp [e]
  rw [e]
  by_cases e2:y=z
  ·subst e2
   rw [if_pos rfl,List.mem_append,List.mem_singleton]
   have h1:=h.iff y hz x
   have h2:fr.getD y []=l:=by rw [List.getD_eq_getElem?_getD,hy]; rfl
   rw [h2] at h1
   rw [h1]
   constructor
   ·rintro ((h3 | ⟨h3,q,hq,h4⟩) | h3)
    ·exact .inl h3
    ·exact .inr ⟨h3,q,by omega,h4⟩
    ·exact .inr ⟨h3,k,by omega,hg⟩
   ·rintro (h3 | ⟨h3,q,hq,h4⟩)
    ·exact .inl (.inl h3)
    ·exact .inr h3
  ·rw [if_neg e2,h.iff z hz x]
   constructor
   ·rintro (h3 | ⟨h3,q,hq,h4⟩)
    ·exact .inl h3
    ·exact .inr ⟨h3,q,by omega,h4⟩
   ·rintro (h3 | ⟨h3,q,hq,h4⟩)
    ·exact .inl h3
    ·by_cases e:q=k
     ·rw [e,hg] at h4; exact absurd (Option.some.inj h4) e2
     ·exact .inr ⟨h3,q,by omega,h4⟩
 few:=fun m hm=>by
  rcases List.mem_or_eq_of_mem_set hm with h1 | h1
  ·have:=h.few m h1; omega
  ·rw [h1,List.length_append]
   have:=h.few l (List.mem_of_getElem? hy)
   simp; omega
theorem FrIs.row {rows:List (List Int)} {n i:Nat} {fr:List (List Nat)} {r:List Int} (h:FrIs rows n i r.length fr) (hr:rows[i]?=some r) (h256:r.length≤256):FrIs rows n (i+1) 0 fr where
 len:=h.len
 iff:=fun y hy x=>by
  rw [h.iff y hy x]
  constructor
  ·rintro (⟨h1,h2⟩ | ⟨h1,q,hq,h2⟩)
   ·exact .inl ⟨by omega,h2⟩
   ·subst h1; exact .inl ⟨by omega,q,h2⟩
  ·rintro (⟨h1,q,h2⟩ | ⟨_,q,hq,_⟩)
   ·by_cases e:x=i
    ·subst e
     refine .inr ⟨rfl,q,?_,h2⟩
     apply Classical.byContradiction
     intro hn
     rw [goes_past hr (by omega)] at h2
     cases h2
    ·exact .inl ⟨by omega,q,h2⟩
   ·omega
 few:=fun l hl=>by
  have:=h.few l hl
  rw [Nat.add_zero,Nat.succ_mul]
  exact Nat.le_trans this (Nat.add_le_add_left h256 _)
theorem leads_goes {M:PM} {sets:List PSet} {rows:List (List Int)} {n i:Nat} {fr:List (List Nat)} (h:FrIs rows n n 0 fr) (hall:rows.length=n) {x y:Nat} (hl:Leads fr x y) (hy:Ends2 M sets rows y):Ends2 M sets rows x:=by
 induction hl with
 | here _=>exact hy
 | on a b c hab _ ih =>
  have hb:b < n:=by
   rcases Nat.lt_or_ge b n with h' | h'
   ·exact h'
   ·rw [List.getD_eq_getElem?_getD,List.getElem?_eq_none (by rw [h.len]; exact h')] at hab
    cases hab
  rcases (h.iff b hb a).1 hab with ⟨_,q,hq⟩ | ⟨_,q,hq,_⟩
  ·exact .on a q b hq (ih hy)
  ·omega
structure LiveTo (M:PM) (sets:List PSet) (rows:List (List Int)) (fr:List (List Nat)) (i:Nat) (lv:List Bool):Prop where
 len:lv.length=sets.length
 sound:∀ x,lv.getD x false=true→Ends2 M sets rows x
 shut:∀ x,lv.getD x false=true → ∀ y∈fr.getD x [],lv.getD y false=true
 ends:∀ j s,j < i→sets[j]?=some s→M.ends s=true→lv.getD j false=true
theorem LiveTo.start (M:PM) (sets:List PSet) (rows:List (List Int)) (fr:List (List Nat)):LiveTo M sets rows fr 0 (List.replicate sets.length false):=by
 have e:∀ x,(List.replicate sets.length false).getD x false=false:=fun x=>by
  rw [List.getD_eq_getElem?_getD,List.getElem?_replicate]
  split <;> rfl
 exact ⟨List.length_replicate,fun x h=>(by rw [e] at h; cases h),fun x h=>(by rw [e] at h; cases h),fun j s hj=>(by omega)⟩
theorem LiveTo.skip {M:PM} {sets:List PSet} {rows:List (List Int)} {fr:List (List Nat)} {i:Nat} {lv:List Bool} {s:PSet} (h:LiveTo M sets rows fr i lv) (hs:sets[i]?=some s) (he:M.ends s=false):LiveTo M sets rows fr (i+1) lv :=
 ⟨h.len,h.sound,h.shut,fun j t hj ht he'=>by
  by_cases e:j=i
  ·subst e; rw [hs] at ht; cases ht; rw [he] at he'; cases he'
  ·exact h.ends j t (by omega) ht he'⟩
theorem LiveTo.mark {M:PM} {sets:List PSet} {rows:List (List Int)} {fr:List (List Nat)} {i:Nat} {lv lv':List Bool} {s:PSet} (h:LiveTo M sets rows fr i lv) (hf:FrIs rows sets.length sets.length 0 fr) (hall:rows.length=sets.length) (hs:sets[i]?=some s) (he:M.ends s=true) (hm:Marks fr lv i lv'):LiveTo M sets rows fr (i+1) lv' :=
 ⟨hm.len.trans h.len,fun x hx=>by
  cases h0:lv.getD x false with
  | true=>exact h.sound x h0
  | false=>exact leads_goes (i:=i) hf hall (hm.leads x hx h0) (.here i s hs he),fun x hx y hy=>by
  cases h0:lv.getD x false with
  | true=>exact hm.mono y (h.shut x h0 y hy)
  | false=>exact hm.shut x hx h0 y hy,fun j t hj ht he'=>by
  by_cases e:j=i
  ·subst e; exact hm.has
  ·exact hm.mono j (h.ends j t (by omega) ht he')⟩
theorem LiveTo.all {M:PM} {sets:List PSet} {rows:List (List Int)} {fr:List (List Nat)} {lv:List Bool} (h:LiveTo M sets rows fr sets.length lv) (hf:FrIs rows sets.length sets.length 0 fr) (hall:rows.length=sets.length) (hok:TabOk M M.kinds sets rows) {x:Nat} (hx:Ends2 M sets rows x):lv.getD x false=true:=by
 induction hx with
 | here i s hs he=>exact h.ends i s (List.getElem?_eq_some_iff.1 hs).1 hs he
 | on i k j hg _ ih =>
  have hi:i < rows.length:=by
   rcases Nat.lt_or_ge i rows.length with h' | h'
   ·exact h'
   ·unfold goes at hg; rw [List.getElem?_eq_none h'] at hg; cases hg
  have hj:j < sets.length:=by
   rcases Nat.lt_or_ge j sets.length with h' | h'
   ·exact h'
   ·rw [List.getD_eq_getElem?_getD,List.getElem?_eq_none (by rw [h.len]; exact h')] at ih
    cases ih
  exact h.shut j ih i ((hf.iff j hj i).2 (.inl ⟨by omega,k,hg⟩))
end Go.Proofs.Ts
namespace Go.Proofs.Ts
open Go
theorem blk_set (b:List Nat) (i v j:Nat) (hi:i < b.length):blk (b.set i v) j=if j=i then v else blk b j:=by
 unfold blk
 rw [List.getD_eq_getElem?_getD,List.getElem?_set,List.getD_eq_getElem?_getD]
 by_cases e:i=j
 ·subst e; simp [hi]
 ·simp [e,Ne.symm e]
def initV (M:PM) (lv:List Bool) (j:Nat) (s:PSet):Nat:=if lv.getD j false then (if M.ends s then 2 else 1) else 0
structure InitTo (M:PM) (sets:List PSet) (lv:List Bool) (i:Nat) (b:List Nat):Prop where
 len:b.length=sets.length
 done:∀ j s,j < i→sets[j]?=some s→blk b j=initV M lv j s
 rest:∀ j,i≤j→blk b j=0
theorem InitTo.start (M:PM) (sets:List PSet) (lv:List Bool):InitTo M sets lv 0 (List.replicate sets.length 0) where
 len:=List.length_replicate
 done:=fun j s h=>by omega
 rest:=fun j _=>by
  unfold blk
  rw [List.getD_eq_getElem?_getD,List.getElem?_replicate]
  split <;> rfl
section
variable {M:PM} {sets:List PSet} {rows:List (List Int)} {fr:List (List Nat)} {lv:List Bool} {b c d:List Nat} {i k:Nat} {s:PSet}
theorem InitTo.put (h:InitTo M sets lv i b) (hs:sets[i]?=some s):InitTo M sets lv (i+1) (b.set i (initV M lv i s)):=by
 have hi:i < b.length:=by rw [h.len]; exact (List.getElem?_eq_some_iff.1 hs).1
 refine ⟨by rw [List.length_set]; exact h.len,fun j t hj ht=>?_,fun j hj=>?_⟩
 ·rw [blk_set b i _ j hi]
  by_cases e:j=i
  ·subst e
   rw [hs] at ht
   cases ht
   rw [if_pos rfl]
  ·rw [if_neg e]
   exact h.done j t (by omega) ht
 ·rw [blk_set b i _ j hi,if_neg (by omega)]
  exact h.rest j (by omega)
theorem InitTo.skip (h:InitTo M sets lv i b) (hl:lv.getD i false=false):InitTo M sets lv (i+1) b :=
 ⟨h.len,fun j t hj ht=>by
  by_cases e:j=i
  ·subst e
   rw [h.rest j (Nat.le_refl _)]
   unfold initV
   rw [hl]
   rfl
  ·exact h.done j t (by omega) ht,fun j hj=>h.rest j (by omega)⟩
theorem BlkOk.mark (hb:BlkOk M sets rows b) (hL:LiveTo M sets rows fr sets.length lv) (hf:FrIs rows sets.length sets.length 0 fr) (hall:rows.length=sets.length) (hok:TabOk M M.kinds sets rows) {y:Nat} (hy:y < sets.length):blk b y≠0↔lv.getD y false=true :=
 (hb.live y hy).trans ⟨fun hx=>hL.all hf hall hok hx,hL.sound y⟩
theorem InitTo.ok (h:InitTo M sets lv sets.length b) (hL:LiveTo M sets rows fr sets.length lv) (hf:FrIs rows sets.length sets.length 0 fr) (hall:rows.length=sets.length) (hok:TabOk M M.kinds sets rows):BlkOk M sets rows b:=by
 have hlv:∀ j,j < sets.length→(lv.getD j false=true↔Ends2 M sets rows j):=fun j hj=>⟨hL.sound j,fun hx=>hL.all hf hall hok hx⟩
 have hget:∀ j,j < sets.length → ∃ t,sets[j]?=some t:=fun j hj=>⟨_,List.getElem?_eq_getElem hj⟩
 have h0:∀ j,j < sets.length→(blk b j≠0↔lv.getD j false=true):=fun j hj=>by
  obtain ⟨t,ht⟩:=hget j hj
  rw [h.done j t hj ht]
  unfold initV
  cases lv.getD j false with
  | true=>cases M.ends t <;> simp
  | false=>simp
 refine ⟨h.len,fun j hj=>(h0 j hj).trans (hlv j hj),fun i j s t hs ht hn he=>?_,fun i j s t hs ht hn he=>?_⟩
 ·have hi:=(List.getElem?_eq_some_iff.1 hs).1
  have hj:=(List.getElem?_eq_some_iff.1 ht).1
  have l1:=(h0 i hi).1 hn
  have l2:=(h0 j hj).1 (he ▸ hn)
  rw [h.done i s hi hs,h.done j t hj ht] at he
  unfold initV at he
  rw [l1,l2] at he
  simp only [if_true] at he
  cases h1:M.ends s <;> cases h2:M.ends t <;> rw [h1,h2] at he <;> simp at he ⊢
 ·have hi:=(List.getElem?_eq_some_iff.1 hs).1
  have hj:=(List.getElem?_eq_some_iff.1 ht).1
  have l1:=(h0 i hi).1 hn
  have l2:lv.getD j false=true:=by
   rw [hlv j hj,live_iff hok hall ht]
   obtain ⟨x,hx⟩:=(live_iff hok hall hs).1 ((hlv i hi).1 l1)
   exact ⟨x,by rw [← he]; exact hx⟩
  have he0:M.ends s=M.ends t:=congrFun he []
  rw [h.done i s hi hs,h.done j t hj ht]
  unfold initV
  rw [l1,l2,he0]
/-! ### One kind. -/
theorem Splits.start (rows:List (List Int)) (b:List Nat):Splits rows 0 0 b b:=⟨rfl,fun _ _=>Iff.rfl,fun i j _ _ _ _=>⟨fun h=>⟨h,fun k hk=>by omega⟩,fun h=>h.1⟩⟩
def signOf (rows:List (List Int)) (b c:List Nat) (k j:Nat):Nat × Nat:=if blk c j=0 then (0,0) else (blk c j,dest rows b j k)
structure SplitTo (rows:List (List Int)) (b c:List Nat) (k i:Nat) (ids:List ((Nat × Nat) × Nat)) (d:List Nat):Prop where
 len:d.length=c.length
 inj:∀ s t x,get ids s=some x→get ids t=some x→s=t
 lt:∀ s x,get ids s=some x→x < ids.length
 zero:get ids (0,0)=some 0
 done:∀ j,j < i→get ids (signOf rows b c k j)=some (blk d j)
 few:ids.length≤i+1
theorem SplitTo.start (rows:List (List Int)) (b c:List Nat) (k:Nat):SplitTo rows b c k 0 [((0,0),0)] (List.replicate c.length 0) where
 len:=List.length_replicate
 inj:=fun s t x hs ht=>by
  have e:∀ s x,get [(((0,0):Nat × Nat),0)] s=some x→s=(0,0):=fun s x h=>by
   unfold get at h
   split at h
   ·rename_i e; exact e.symm
   ·cases h
  rw [e s x hs,e t x ht]
 lt:=fun s x h=>by
  have:=get_some_mem h
  simp at this
  simp [this.2]
 zero:=rfl
 done:=fun j h=>by omega
 few:=by simp
theorem SplitTo.old {ids:List ((Nat × Nat) × Nat)} {x:Nat} (h:SplitTo rows b c k i ids d) (hi:i < c.length) (hx:get ids (signOf rows b c k i)=some x):SplitTo rows b c k (i+1) ids (d.set i x):=by
 have hid:i < d.length:=by rw [h.len]; exact hi
 refine ⟨by rw [List.length_set]; exact h.len,h.inj,h.lt,h.zero,fun j hj=>?_,by have:=h.few; omega⟩
 rw [blk_set d i x j hid]
 by_cases e:j=i
 ·subst e; rw [if_pos rfl]; exact hx
 ·rw [if_neg e]; exact h.done j (by omega)
theorem SplitTo.new {ids:List ((Nat × Nat) × Nat)} (h:SplitTo rows b c k i ids d) (hi:i < c.length) (hx:get ids (signOf rows b c k i)=none):SplitTo rows b c k (i+1) (put ids (signOf rows b c k i) ids.length) (d.set i ids.length):=by
 have hid:i < d.length:=by rw [h.len]; exact hi
 have hlen:(put ids (signOf rows b c k i) ids.length).length=ids.length+1:=by rw [length_put_none _ hx]; simp
 refine ⟨by rw [List.length_set]; exact h.len,fun s t x hs ht=>?_,fun s x hs=>?_,?_,fun j hj=>?_,by rw [hlen]; have:=h.few; omega⟩
 ·rw [get_put] at hs ht
  split at hs
  ·cases hs
   split at ht
   ·rename_i e1 e2; rw [← e1,← e2]
   ·have:=h.lt _ _ ht; omega
  ·split at ht
   ·cases ht
    have:=h.lt _ _ hs
    omega
   ·exact h.inj s t x hs ht
 ·rw [hlen]
  rw [get_put] at hs
  split at hs
  ·cases hs; omega
  ·have:=h.lt _ _ hs; omega
 ·rw [get_put,if_neg (fun e=>by rw [e,h.zero] at hx; cases hx)]
  exact h.zero
 ·rw [blk_set d i _ j hid,get_put]
  by_cases e:j=i
  ·subst e; rw [if_pos rfl,if_pos rfl]
  ·rw [if_neg e]
   have:=h.done j (by omega)
   rw [if_neg (fun e2=>by rw [← e2,hx] at this; cases this)]
   exact this
theorem SplitTo.splits {ids:List ((Nat × Nat) × Nat)} (h:SplitTo rows b c k c.length ids d) (hS:Splits rows 0 k b c):Splits rows 0 (k+1) b d:=by
 have h0:∀ j,j < c.length→(blk d j≠0↔blk c j≠0):=fun j hj=>by
  have hd:=h.done j hj
  constructor
  ·intro hn e
   unfold signOf at hd
   rw [if_pos e,h.zero] at hd
   exact hn (Option.some.inj hd).symm
  ·intro hn e
   rw [e] at hd
   have:=h.inj _ _ _ hd h.zero
   unfold signOf at this
   rw [if_neg hn] at this
   exact hn (congrArg Prod.fst this)
 refine ⟨h.len.trans hS.len,fun j hj=>(h0 j (by rw [hS.len]; exact hj)).trans (hS.zero j hj),fun i j hi hj hi0 hj0=>?_⟩
 have hic:i < c.length:=by rw [hS.len]; exact hi
 have hjc:j < c.length:=by rw [hS.len]; exact hj
 have hci:=(hS.zero i hi).2 hi0
 have hcj:=(hS.zero j hj).2 hj0
 have e1:=h.done i hic
 have e2:=h.done j hjc
 have hd:blk d i=blk d j↔signOf rows b c k i=signOf rows b c k j:=by
  constructor
  ·intro e; rw [e] at e1; exact h.inj _ _ _ e1 e2
  ·intro e; rw [e,e2] at e1; exact (Option.some.inj e1).symm
 rw [hd]
 unfold signOf
 rw [if_neg hci,if_neg hcj,Prod.mk.injEq,hS.iff i j hi hj hi0 hj0]
 constructor
 ·rintro ⟨⟨h1,h2⟩,h3⟩
  refine ⟨h1,fun q hq=>?_⟩
  by_cases e:q=k
  ·subst e; exact h3
  ·exact h2 q (by omega)
 ·rintro ⟨h1,h2⟩
  exact ⟨⟨h1,fun q hq=>h2 q (by omega)⟩,h2 k (by omega)⟩
/-! ### Blocks counted. -/
structure SeenTo (c:List Nat) (i:Nat) (seen:List (Nat × Nat)):Prop where
 apart:Apart seen
 keys:∀ x,x∈seen.map (·.1) ↔ ∃ j,j < i∧j < c.length∧blk c j=x∧x≠0
 few:∀ p∈seen,p.2≤i
theorem SeenTo.start (c:List Nat):SeenTo c 0 []:=⟨List.nodup_nil,fun x=>by simp,fun p h=>by cases h⟩
theorem SeenTo.skip {seen:List (Nat × Nat)} (h:SeenTo c i seen) (hz:blk c i=0):SeenTo c (i+1) seen :=
 ⟨h.apart,fun x=>(h.keys x).trans ⟨fun ⟨j,h1,h2⟩=>⟨j,by omega,h2⟩,fun ⟨j,h1,h2,h3,h4⟩=>⟨j,by
  by_cases e:j=i
  ·subst e; rw [hz] at h3; exact absurd h3.symm h4
  ·omega,h2,h3,h4⟩⟩,fun p hp=>by have:=h.few p hp; omega⟩
theorem SeenTo.add {seen:List (Nat × Nat)} {v:Nat} (h:SeenTo c i seen) (hi:i < c.length) (hz:blk c i≠0) (hv:v≤i+1):SeenTo c (i+1) (put seen (blk c i) v):=by
 have hk:∀ x,x∈(put seen (blk c i) v).map (·.1)↔x=blk c i∨x∈seen.map (·.1):=fun x=>by
  cases hg:get seen (blk c i) with
  | some u =>
   rw [keys_put_some hg]
   constructor
   ·exact .inr
   ·rintro (rfl | h')
    ·exact List.mem_map.2 ⟨_,get_some_mem hg,rfl⟩
    ·exact h'
  | none =>
   rw [length_put_none _ hg]
   simp [or_comm]
 refine ⟨h.apart.put _ _,fun x=>?_,fun p hp=>?_⟩
 ·rw [hk,h.keys]
  constructor
  ·rintro (rfl | ⟨j,h1,h2⟩)
   ·exact ⟨i,by omega,hi,rfl,hz⟩
   ·exact ⟨j,by omega,h2⟩
  ·rintro ⟨j,h1,h2,h3,h4⟩
   by_cases e:j=i
   ·subst e; exact .inl h3.symm
   ·exact .inr ⟨j,by omega,h2,h3,h4⟩
 ·rcases mem_put hp with rfl | hp
  ·exact hv
  ·have:=h.few p hp; omega
theorem SeenTo.cnt {seen:List (Nat × Nat)} (h:SeenTo c c.length seen):BCnt c seen.length:=by
 refine ⟨seen.map (fun p:Nat × Nat=>p.1),h.apart,fun x=>?_,by simp⟩
 rw [h.keys x]
 exact ⟨fun ⟨j,h1,_,h2⟩=>⟨j,h1,h2⟩,fun ⟨j,h1,h2⟩=>⟨j,h1,h1,h2⟩⟩
theorem BCnt.le {n:Nat} (h:BCnt b n):n≤b.length:=by
 obtain ⟨l,h1,h2,rfl⟩:=h
 refine nodup_len l b h1 fun x hx=>?_
 obtain ⟨i,hi,rfl,_⟩:=(h2 x).1 hx
 unfold blk
 rw [List.getD_eq_getElem?_getD,List.getElem?_eq_getElem hi]
 exact List.getElem_mem _
theorem BCnt.none {b':List Nat} {n m:Nat} (hS:Splits rows n m b b') (h:BCnt b' 0):BCnt b 0:=by
 obtain ⟨l,_,h2,h3⟩:=h
 obtain rfl:=List.eq_nil_of_length_eq_zero h3
 refine ⟨[],List.nodup_nil,fun x=>?_,rfl⟩
 refine ⟨fun h=>(by cases h),?_⟩
 rintro ⟨i,hi,rfl,h0⟩
 have:=(h2 (blk b' i)).2 ⟨i,by rw [hS.len]; exact hi,rfl,(hS.zero i hi).2 h0⟩
 cases this
end
end Go.Proofs.Ts
namespace Go.Proofs.Ts
open Go Go.RowKit
structure TabStart (w0:World) (l:Array Bool) (v1 v2 v3 v4 v5:Value) (g h:Nat) (w:World):Prop where
 below:Below w0.heap.size w0 w
 m0:l.getD 0 false=true→v1 = .map (some g)∧w0.heap.size≤g∧MapIs PSet.val w g (if l.getD 3 false then [(beginSet,intV 0)] else [])
 c1:l.getD 2 false=true→v2=beginSet.val
 m1:l.getD 4 false=true→v3 = .map (some g)
 c2:l.getD 6 false=true→v4=beginSet.val
 s1:l.getD 7 false=true→v5 = .slice (some ⟨h,0,none⟩) 1 1∧w0.heap.size≤h∧w.heap[h]?=some (.cells beginSet.cells.toArray 272 (0,0))
 ne:l.getD 0 false=true→l.getD 7 false=true→g≠h
 ord:l.getD 3 false=true→l.getD 0 false=true∧l.getD 2 false=true
 ord4:l.getD 4 false=true→l.getD 3 false=true
section
variable {ops:Array Oper} {w0 w w':World} {l:Array Bool} {v1 v2 v3 v4 v5:Value} {g h:Nat}
theorem map_ne_cells {enc:PSet→Value} {w:World} {g h:Nat} {m:List (PSet × Value)} {cs:Array Value} {T:TypeId} {r:Nat × Nat} (hm:MapIs enc w g m) (hh:w.heap[h]?=some (.cells cs T r)):g≠h:=fun e=>by
 obtain ⟨es,c,h1,_⟩:=hm
 rw [e,hh] at h1
 cases h1
theorem TabStart.kept (hT:TabStart w0 l v1 v2 v3 v4 v5 g h w) (hb:Below w0.heap.size w w') (hk:∀ b,w0.heap.size≤b→b < w.heap.size→w'.heap[b]?=w.heap[b]?):TabStart w0 l v1 v2 v3 v4 v5 g h w' :=
 ⟨hT.below.trans hb,fun e=>⟨(hT.m0 e).1,(hT.m0 e).2.1,(hT.m0 e).2.2.of_block (hk _ (hT.m0 e).2.1 (hT.m0 e).2.2.lt)⟩,hT.c1,hT.m1,hT.c2,fun e=>⟨(hT.s1 e).1,(hT.s1 e).2.1,(hk _ (hT.s1 e).2.1 (lt_of_heap (hT.s1 e).2.2)).trans (hT.s1 e).2.2⟩,hT.ne,hT.ord,hT.ord4⟩
theorem TabStart.make (hT:TabStart w0 l v1 v2 v3 v4 v5 g h w) (hr:0∈Region.ready .any ops l):TabStart w0 (l.setIfInBounds 0 true) (.map (some w.heap.size)) v2 v3 v4 v5 w.heap.size h (w.alloc (.map #[] 0)):=by
 have hs:=ready_set hr
 have hun:=unlisted_of_ready hr
 have h3:l.getD 3 false=false:=by
  cases h3:l.getD 3 false with
  | false=>rfl
  | true=>rw [(hT.ord h3).1] at hun; cases hun
 have h4:l.getD 4 false=false:=by
  cases h4:l.getD 4 false with
  | false=>rfl
  | true=>rw [hT.ord4 h4] at h3; cases h3
 have h1:=hT.kept (w':=w.alloc (.map #[] 0)) ((Below.refl _ w).alloc hT.below.size _) fun b _ hb=>Below.heap_alloc w _ b hb
 refine ⟨h1.below,fun _=>⟨rfl,hT.below.size,?_⟩,?_,?_,?_,?_,?_,?_,?_⟩
 ·rw [hs 3,if_neg (show ¬ (3=0) by decide),h3]; exact MapIs.made _ _
 ·rw [hs 2,if_neg (show ¬ (2=0) by decide)]; exact h1.c1
 ·rw [hs 4,if_neg (show ¬ (4=0) by decide),h4]; exact fun e=>by cases e
 ·rw [hs 6,if_neg (show ¬ (6=0) by decide)]; exact h1.c2
 ·rw [hs 7,if_neg (show ¬ (7=0) by decide)]; exact h1.s1
 ·rw [hs 7,if_neg (show ¬ (7=0) by decide)]
  intro _ e
  have:=lt_of_heap (hT.s1 e).2.2
  omega
 ·rw [hs 0,if_pos (show 0=0 from rfl),hs 2,if_neg (show ¬ (2=0) by decide),hs 3,if_neg (show ¬ (3=0) by decide),h3]; exact fun e=>by cases e
 ·rw [hs 4,if_neg (show ¬ (4=0) by decide),h4]; exact fun e=>by cases e
theorem TabStart.call (hT:TabStart w0 l v1 v2 v3 v4 v5 g h w) (hr:2∈Region.ready .any ops l) (hb:Below w.heap.size w w'):TabStart w0 (l.setIfInBounds 2 true) v1 beginSet.val v3 v4 v5 g h w':=by
 have hs:=ready_set hr
 have h1:=hT.kept (hb.mono hT.below.size) fun b _ hl=>hb.block b hl
 refine ⟨h1.below,?_,fun _=>rfl,?_,?_,?_,?_,?_,?_⟩
 ·rw [hs 0,if_neg (show ¬ (0=2) by decide),hs 3,if_neg (show ¬ (3=2) by decide)]; exact h1.m0
 ·rw [hs 4,if_neg (show ¬ (4=2) by decide)]; exact h1.m1
 ·rw [hs 6,if_neg (show ¬ (6=2) by decide)]; exact h1.c2
 ·rw [hs 7,if_neg (show ¬ (7=2) by decide)]; exact h1.s1
 ·rw [hs 0,if_neg (show ¬ (0=2) by decide),hs 7,if_neg (show ¬ (7=2) by decide)]; exact h1.ne
 ·rw [hs 0,if_neg (show ¬ (0=2) by decide),hs 2,if_pos (show 2=2 from rfl),hs 3,if_neg (show ¬ (3=2) by decide)]; exact fun e=>⟨(h1.ord e).1,rfl⟩
 ·rw [hs 4,if_neg (show ¬ (4=2) by decide),hs 3,if_neg (show ¬ (3=2) by decide)]; exact h1.ord4
theorem TabStart.insert (hT:TabStart w0 l v1 v2 v3 v4 v5 g h w) (hr:3∈Region.ready .any ops l) (h0:l.getD 0 false=true) (h2:l.getD 2 false=true) (hg:w.grownBy w' (some g)) (hmp:MapIs PSet.val w' g [(beginSet,intV 0)]):TabStart w0 (l.setIfInBounds 3 true) v1 v2 v3 v4 v5 g h w':=by
 have hs:=ready_set hr
 have hb:Below w0.heap.size w0 w':=hT.below.grown hg hT.below.size fun b e=>by have e':=Option.some.inj e; subst e'; exact (hT.m0 h0).2.1
 refine ⟨hb,?_,?_,?_,?_,?_,?_,?_,?_⟩
 ·rw [hs 0,if_neg (show ¬ (0=3) by decide),hs 3,if_pos (show 3=3 from rfl)]; exact fun e=>⟨(hT.m0 e).1,(hT.m0 e).2.1,hmp⟩
 ·rw [hs 2,if_neg (show ¬ (2=3) by decide)]; exact hT.c1
 ·rw [hs 4,if_neg (show ¬ (4=3) by decide)]; exact hT.m1
 ·rw [hs 6,if_neg (show ¬ (6=3) by decide)]; exact hT.c2
 ·rw [hs 7,if_neg (show ¬ (7=3) by decide)]; exact fun e=>⟨(hT.s1 e).1,(hT.s1 e).2.1,(hg.block h (lt_of_heap (hT.s1 e).2.2) fun e'=>hT.ne h0 e (Option.some.inj e'.symm)).trans (hT.s1 e).2.2⟩
 ·rw [hs 0,if_neg (show ¬ (0=3) by decide),hs 7,if_neg (show ¬ (7=3) by decide)]; exact hT.ne
 ·rw [hs 0,if_neg (show ¬ (0=3) by decide),hs 2,if_neg (show ¬ (2=3) by decide)]; exact fun _=>⟨h0,h2⟩
 ·rw [hs 3,if_pos (show 3=3 from rfl)]; exact fun _=>rfl
theorem TabStart.move (hT:TabStart w0 l v1 v2 v3 v4 v5 g h w) (hr:4∈Region.ready .any ops l) (h0:l.getD 0 false=true) (h3:l.getD 3 false=true):TabStart w0 (l.setIfInBounds 4 true) v1 v2 v1 v4 v5 g h w:=by
 have hs:=ready_set hr
 refine ⟨hT.below,?_,?_,fun _=>(hT.m0 h0).1,?_,?_,?_,?_,?_⟩
 ·rw [hs 0,if_neg (show ¬ (0=4) by decide),hs 3,if_neg (show ¬ (3=4) by decide)]; exact hT.m0
 ·rw [hs 2,if_neg (show ¬ (2=4) by decide)]; exact hT.c1
 ·rw [hs 6,if_neg (show ¬ (6=4) by decide)]; exact hT.c2
 ·rw [hs 7,if_neg (show ¬ (7=4) by decide)]; exact hT.s1
 ·rw [hs 0,if_neg (show ¬ (0=4) by decide),hs 7,if_neg (show ¬ (7=4) by decide)]; exact hT.ne
 ·rw [hs 0,if_neg (show ¬ (0=4) by decide),hs 2,if_neg (show ¬ (2=4) by decide),hs 3,if_neg (show ¬ (3=4) by decide)]; exact hT.ord
 ·rw [hs 3,if_neg (show ¬ (3=4) by decide)]; exact fun _=>h3
theorem TabStart.call2 (hT:TabStart w0 l v1 v2 v3 v4 v5 g h w) (hr:6∈Region.ready .any ops l) (hb:Below w.heap.size w w'):TabStart w0 (l.setIfInBounds 6 true) v1 v2 v3 beginSet.val v5 g h w':=by
 have hs:=ready_set hr
 have h1:=hT.kept (hb.mono hT.below.size) fun b _ hl=>hb.block b hl
 refine ⟨h1.below,?_,?_,?_,fun _=>rfl,?_,?_,?_,?_⟩
 ·rw [hs 0,if_neg (show ¬ (0=6) by decide),hs 3,if_neg (show ¬ (3=6) by decide)]; exact h1.m0
 ·rw [hs 2,if_neg (show ¬ (2=6) by decide)]; exact h1.c1
 ·rw [hs 4,if_neg (show ¬ (4=6) by decide)]; exact h1.m1
 ·rw [hs 7,if_neg (show ¬ (7=6) by decide)]; exact h1.s1
 ·rw [hs 0,if_neg (show ¬ (0=6) by decide),hs 7,if_neg (show ¬ (7=6) by decide)]; exact h1.ne
 ·rw [hs 0,if_neg (show ¬ (0=6) by decide),hs 2,if_neg (show ¬ (2=6) by decide),hs 3,if_neg (show ¬ (3=6) by decide)]; exact h1.ord
 ·rw [hs 4,if_neg (show ¬ (4=6) by decide),hs 3,if_neg (show ¬ (3=6) by decide)]; exact h1.ord4
theorem TabStart.slice (hT:TabStart w0 l v1 v2 v3 v4 v5 g h w) (hr:7∈Region.ready .any ops l):TabStart w0 (l.setIfInBounds 7 true) v1 v2 v3 v4 (.slice (some ⟨w.heap.size,0,none⟩) 1 1) g w.heap.size (w.alloc (.cells beginSet.cells.toArray 272)):=by
 have hs:=ready_set hr
 have h1:=hT.kept (w':=w.alloc (.cells beginSet.cells.toArray 272)) ((Below.refl _ w).alloc hT.below.size _) fun b _ hb=>Below.heap_alloc w _ b hb
 refine ⟨h1.below,?_,?_,?_,?_,fun _=>⟨rfl,hT.below.size,heap_alloc_new w _⟩,?_,?_,?_⟩
 ·rw [hs 0,if_neg (show ¬ (0=7) by decide),hs 3,if_neg (show ¬ (3=7) by decide)]; exact h1.m0
 ·rw [hs 2,if_neg (show ¬ (2=7) by decide)]; exact h1.c1
 ·rw [hs 4,if_neg (show ¬ (4=7) by decide)]; exact h1.m1
 ·rw [hs 6,if_neg (show ¬ (6=7) by decide)]; exact h1.c2
 ·rw [hs 0,if_neg (show ¬ (0=7) by decide)]
  intro e _
  have:=(hT.m0 e).2.2.lt
  omega
 ·rw [hs 0,if_neg (show ¬ (0=7) by decide),hs 2,if_neg (show ¬ (2=7) by decide),hs 3,if_neg (show ¬ (3=7) by decide)]; exact h1.ord
 ·rw [hs 4,if_neg (show ¬ (4=7) by decide),hs 3,if_neg (show ¬ (3=7) by decide)]; exact h1.ord4
end
end Go.Proofs.Ts
