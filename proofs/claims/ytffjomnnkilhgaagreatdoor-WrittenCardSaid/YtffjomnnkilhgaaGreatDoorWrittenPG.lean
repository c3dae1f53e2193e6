/- Lemmas towards the statement Written of termsearch: walks of the program's functions and plain laws on lists (TlApp, TlAdd, TlBuild, TlMeets, TsErrsB, TsErrsC, TlBox, TlPlayer, TlBuildP, TlPlainP, TlKeep, TlLooks, TlJoin). Conditions: those that each theorem names. -/
import Derived.Test.YtffjomnnkilhgaaGreatDoorWrittenPA
import Derived.Test.YtffjomnnkilhgaaGreatDoorWrittenPF
import Derived.Deep.RegionWith
import Derived.BigQuiet
import Derived.Deep.DeepMust
set_option linter.unusedVariables false
set_option linter.unusedSimpArgs false
set_option linter.unusedSectionVars false
namespace Go.Proofs.Tl
open Go Go.RowKit Go.Proofs.Ts
section
variable {P:Program} {w:World}
theorem run_append_nought (t ty e:TypeId) (i:TypeInfo) (ht:P.underlying t=some (.slice e)) (hi:P.info? e=some i) (base:Option Addr) (n cap:Nat) (hle:n≤cap) (a:Option Addr) (c:Nat) :
  (Builtin.append_ #[t,t] ty #[.slice base n cap,.slice a 0 c]).run P w = .ok (.slice base n cap) w:=by
 cases a <;> cases base <;> simp [Builtin.append_,run_underlying ht,sizeOf,typeInfo,hi,Builtin.lenOf,Builtin.firstCells,loadCells,loadCellsFrom,storeCells,hle]
theorem run_append_all (t ty e:TypeId) (i:TypeInfo) (z:Value) (size bytes:Nat) (ht:P.underlying t=some (.slice e)) (hi:P.info? e=some i) (hz:i.zero=some z)
  (hsize:i.size=size) (hby:i.bytes=bytes) (hzs:z.cells.size=size) (hsz:0 < size)
  (v:Value) (n:Nat) (xs:List Value) (hown:w.ownsRow 0 e size v n xs)
  (a:Option Addr) (m c:Nat) (news:List Value) (hl:news.length=m * size) (hnews:∀ j u,news[j]?=some u → ∃ b,a=some b∧w.cell? (b.add j)=some u) (h1:∀ u∈news,u.oneCell'=true)
  (h63:n+m≤maxLen) (hbytes:(n+m) * bytes≤140737488355328) :
  ∃ v' w',(Builtin.append_ #[t,t] ty #[v,.slice a m c]).run P w = .ok v' w'∧w'.ownsRow 0 e size v' (n+m) (xs++news)∧Moves w v w' v'∧(m=0→v'=v):=by
 cases m with
 | zero =>
  have hn:news=[]:=List.eq_nil_of_length_eq_zero (by simpa using hl)
  subst hn
  rw [List.append_nil,Nat.add_zero]
  rcases hown.2 with ⟨rfl,rfl⟩ | ⟨g,cap,cur,rfl,h2,h3,h4,h5⟩
  ·exact ⟨_,_,run_append_nought t ty e i ht hi none 0 0 (Nat.le_refl _) a c,hown,Moves.refl _ _,fun _=>rfl⟩
  ·exact ⟨_,_,run_append_nought t ty e i ht hi _ n cap h4 a c,hown,Moves.refl _ _,fun _=>rfl⟩
 | succ m =>
  obtain ⟨u,hu⟩:∃ u,news[0]?=some u:=⟨_,List.getElem?_eq_getElem (by rw [hl]; exact Nat.mul_pos (Nat.succ_pos _) hsz)⟩
  obtain ⟨b,rfl,_⟩:=hnews 0 u hu
  obtain ⟨v',w',hr,h2,h3,h4⟩:=run_append_lies (P:=P) t ty e i z size bytes ht hi hz hsize hby hzs hsz v n xs hown b (m+1) c news hl
   (fun j u hj=>by obtain ⟨b',e',h'⟩:=hnews j u hj; cases e'; exact h') h1 (Nat.succ_pos _) h63 hbytes
  exact ⟨v',w',hr,h2,Moves.append h3 h4,fun e=>by cases e⟩
theorem wpList_append_all {ops:Array Oper} {rest:List Oper} {o:Oper} {act:Act} {Q:Exit→Act→World→Prop} (hgd:o.guard=none) (s x:Operand) (t:TypeId)
  (ho:o.op = .call { callee := .builtin .append,args:=#[s,x],argTypes:=#[t,t] })
  (e:TypeId) (i:TypeInfo) (z:Value) (size bytes:Nat) (ht:P.underlying t=some (.slice e)) (hi:P.info? e=some i) (hz:i.zero=some z)
  (hsize:i.size=size) (hby:i.bytes=bytes) (hzs:z.cells.size=size) (hsz:0 < size)
  (v:Value) (n:Nat) (xs:List Value) (hs:act.eval s=v) (hown:w.ownsRow 0 e size v n xs)
  (a:Option Addr) (m c:Nat) (news:List Value) (hx:act.eval x = .slice a m c) (hl:news.length=m * size) (hnews:∀ j u,news[j]?=some u → ∃ b,a=some b∧w.cell? (b.add j)=some u) (h1:∀ u∈news,u.oneCell'=true)
  (h63:n+m≤maxLen) (hbytes:(n+m) * bytes≤140737488355328)
  (h:∀ v' w',w'.ownsRow 0 e size v' (n+m) (xs++news)→Moves w v w' v'→(m=0→v'=v)→wpList P ops Q rest (act.put o.dst v') w'):wpList P ops Q (o :: rest) act w:=by
 refine wpList_plain hgd fun K hK=>?_
 obtain ⟨v',w',hr,h2,h3,h4⟩:=run_append_all (P:=P) t o.type e i z size bytes ht hi hz hsize hby hzs hsz v n xs hown a m c news hl hnews h1 h63 hbytes
 unfold Oper.wp execOp
 simp only [ho,resolve,invoke,builtin,Sem.run_bind,Sem.run_pure,Result.andThen_ok,List.map_toArray,List.map_cons,List.map_nil,hs,hx,hr]
 exact hK _ _ (h v' w' h2 h3 h4)
theorem ownsRow_cap {e size n m c:Nat} {a:Option Addr} {xs:List Value} (h:w.ownsRow 0 e size (.slice a m c) n xs):n≤c:=by
 rcases h.2 with ⟨h1,h0⟩ | ⟨g,cap,cur,h1,_,_,h4,_⟩
 ·omega
 ·cases h1; exact h4
theorem ownsRow_base0 {e size n m c:Nat} {a:Option Addr} {xs:List Value} (h:w.ownsRow 0 e size (.slice a m c) n xs):a=none ∨ ∃ g,a=some (aD g 0):=by
 rcases h.2 with ⟨h1,h0⟩ | ⟨g,cap,cur,h1,_⟩
 ·cases h1; exact .inl rfl
 ·cases h1; exact .inr ⟨g,rfl⟩
theorem piece_cells {e size n:Nat} {v:Value} {xs:List Value} (h:w.ownsRow 0 e size v n xs) (k:Nat) (a:Option Addr) (ha:∀ g,v.ownBlock=some g→xs.drop k≠[]→a=some (aD g k)) (m:Nat) :
  ∀ (j:Nat) u,((xs.drop k).take m)[j]?=some u → ∃ b,a=some b∧w.cell? (b.add j)=some u:=by
 intro j u hj
 have hj':(xs.drop k)[j]?=some u:=by
  have hjm:j < m:=by
   have:=(List.getElem?_eq_some_iff.1 hj).1
   simp at this
   omega
  rw [List.getElem?_take_of_lt hjm] at hj
  exact hj
 have hne:xs.drop k≠[]:=by
  intro h0
  rw [h0] at hj'
  cases hj'
 rcases h.2 with ⟨rfl,h0⟩ | ⟨g,cap,cur,rfl,_⟩
 ·exfalso
  have:=h.1
  rw [h0,Nat.zero_mul] at this
  exact hne (by rw [List.eq_nil_of_length_eq_zero this]; simp)
 ·refine ⟨_,ha g rfl hne,?_⟩
  rw [List.getElem?_drop] at hj'
  have:=h.cells (g:=g) rfl (k+j) u hj'
  have e1:((aD g k):Addr).add j=(aD g (k+j)):=by unfold Addr.add; split <;> simp_all
  have e2:((aD g 0):Addr).add (k+j)=(aD g (k+j)):=by unfold Addr.add; split <;> simp_all
  rw [e1,← e2]
  exact this
theorem drop_cells {e n c:Nat} {a:Option Addr} {xs:List Value} (h:w.ownsRow 0 e 1 (.slice a n c) n xs) (k:Nat) :
  ∀ (j:Nat) u,(xs.drop k)[j]?=some u → ∃ b,(if c=k then a else Option.map (fun x=>x.add k) a)=some b∧w.cell? (b.add j)=some u:=by
 intro j u hj
 have hcap:=ownsRow_cap h
 have:=piece_cells h k (if c=k then a else Option.map (fun x=>x.add k) a) (fun g e hne=>by
  have hk:k < xs.length:=by
   rcases Nat.lt_or_ge k xs.length with h1 | h1
   ·exact h1
   ·exact absurd (List.drop_of_length_le h1) hne
  have hl:=h.1
  rw [if_neg (by omega)]
  rcases ownsRow_base0 h with rfl | ⟨g',rfl⟩
  ·cases e
  ·cases e
   simp only [Option.map_some]
   congr 1
   unfold Addr.add
   split <;> simp_all) ((xs.drop k).length) j u
 rw [List.take_length] at this
 exact this hj
theorem take_cells {e n c:Nat} {a:Option Addr} {xs:List Value} (h:w.ownsRow 0 e 1 (.slice a n c) n xs) (k:Nat) :
  ∀ (j:Nat) u,(xs.take k)[j]?=some u → ∃ b,a=some b∧w.cell? (b.add j)=some u:=by
 have:=piece_cells h 0 a (fun g e _=>by rcases ownsRow_base0 h with rfl | ⟨g',rfl⟩ <;> simp_all [Value.ownBlock]) k
 rw [List.drop_zero] at this
 exact this
end
theorem row_set {w:World} {B e n k:Nat} {v:Value} {xs:List Value} (h:w.ownsRow B e 1 v n xs) {g:Nat} (hg:v.ownBlock=some g) (u:Value):(w.setCell (aD g k) u).ownsRow B e 1 v n (xs.set k u):=by
 rcases h.2 with ⟨rfl,_⟩ | ⟨g',cap,cur,rfl,h2,h3,h4,h5,h6,h7⟩
 ·cases hg
 ·cases hg
  refine ⟨by rw [List.length_set]; exact h.1,.inr ⟨g',cap,_,rfl,h2,heap_setCell_same w g' k _ _ u h3,h4,h5,by simpa using h6,?_⟩⟩
  rw [Array.toList_setIfInBounds,List.take_set,h7]
end Go.Proofs.Tl
namespace Go.Proofs.Tl
open Go Go.RowKit Go.Proofs.Ts
theorem strs_one {T:List (List UInt8)}:∀ u∈T.map strV,u.oneCell'=true:=fun u hu=>by
 obtain ⟨t,_,rfl⟩:=List.mem_map.1 hu
 rfl
theorem slice_form {w:World} {B e size n:Nat} {v:Value} {xs:List Value} (h:w.ownsRow B e size v n xs):∃ a m cap,v = .slice a m cap:=by
 obtain ⟨a,cap,e⟩:=ownsRow_form h
 exact ⟨a,n,cap,e⟩
theorem row_join {W:World} {v:Value} {T:List (List UInt8)} {x:List UInt8} {k:Nat} (hk:k≤T.length) (h:W.ownsRow 0 9 1 v (k+1+(T.length - k)) (((T.map strV).take k++[strV x])++(T.map strV).drop k)) :
  W.ownsRow 0 9 1 v (T.take k++x :: T.drop k).length ((T.take k++x :: T.drop k).map strV):=by
 have e1:(T.take k++x :: T.drop k).length=k+1+(T.length - k):=by simp; omega
 have e2:(T.take k++x :: T.drop k).map strV=((T.map strV).take k++[strV x])++(T.map strV).drop k:=by simp
 rw [e1,e2]
 exact h
theorem Mod.of_below {S:Nat→Prop} {w w':World} (h:Below w.heap.size w w'):Mod S w w':=⟨h.os,h.tape,h.output,h.size,fun k hk _=>h.block k hk⟩
theorem ins_at {α:Type} (l:List α) (a:α) (k i:Nat) (hk:k≤l.length):(l.take k++a :: l.drop k)[i]?=if i < k then l[i]? else if i=k then some a else l[i - 1]?:=by
 rcases Nat.lt_or_ge i k with h | h
 ·rw [if_pos h,List.getElem?_append_left (by rw [List.length_take]; omega),List.getElem?_take_of_lt h]
 ·rw [if_neg (by omega),List.getElem?_append_right (by rw [List.length_take]; omega)]
  have hl:(l.take k).length=k:=by rw [List.length_take]; omega
  rw [hl]
  rcases Nat.eq_or_lt_of_le h with h1 | h1
  ·subst h1
   simp
  ·rw [if_neg (by omega)]
   obtain ⟨m,hm⟩:∃ m,i - k=m+1:=⟨i - k - 1,by omega⟩
   rw [hm,List.getElem?_cons_succ,List.getElem?_drop]
   congr 1
   omega
theorem place_new {T:List (List UInt8)} {x:List UInt8} {k:Nat} (hT:T.Pairwise (fun a b=>a < b)) (h:PlaceIs T x k) (hn:¬ T[k]?=some x):x ∉ T:=by
 intro hx
 obtain ⟨i,hi,he⟩:=List.getElem_of_mem hx
 rcases Nat.lt_or_ge i k with h1 | h1
 ·have:=h.2.1 i hi h1
  rw [he] at this
  exact absurd this (List.lt_irrefl x)
 ·have hk:k < T.length:=by omega
  rcases Nat.eq_or_lt_of_le h1 with h2 | h2
  ·subst h2
   exact hn (by rw [List.getElem?_eq_getElem hi,he])
  ·have:=List.pairwise_iff_getElem.1 hT k i hk hi h2
   rw [he] at this
   exact h.2.2 hk this
theorem lt_tri (a b:List UInt8):a < b∨a=b∨b < a:=by
 by_cases h1:a < b
 ·exact .inl h1
 ·by_cases h2:b < a
  ·exact .inr (.inr h2)
  ·exact .inr (.inl (List.le_antisymm (List.not_lt.1 h2) (List.not_lt.1 h1)))
theorem ins_rise {T:List (List UInt8)} {x:List UInt8} {k:Nat} (hT:T.Pairwise (fun a b=>a < b)) (h:PlaceIs T x k) (hn:¬ T[k]?=some x):(T.take k++x :: T.drop k).Pairwise (fun a b=>a < b):=by
 rw [List.pairwise_append,List.pairwise_cons]
 have hsp:=hT
 rw [← List.take_append_drop k T,List.pairwise_append] at hsp
 have hlo:∀ a∈T.take k,a < x:=fun a ha=>by
  obtain ⟨i,hi,he⟩:=List.getElem_of_mem ha
  rw [List.length_take] at hi
  rw [List.getElem_take] at he
  rw [← he]
  exact h.2.1 i (by omega) (by omega)
 have hhi:∀ b∈T.drop k,x < b:=fun b hb=>by
  obtain ⟨i,hi,he⟩:=List.getElem_of_mem hb
  rw [List.length_drop] at hi
  rw [List.getElem_drop] at he
  have hk:k < T.length:=by omega
  have h1:x < T[k]:=by
   rcases lt_tri x T[k] with h1 | h1 | h1
   ·exact h1
   ·exact absurd (by rw [List.getElem?_eq_getElem hk,← h1]) hn
   ·exact absurd h1 (h.2.2 hk)
  rcases Nat.eq_zero_or_pos i with h0 | h0
  ·subst h0
   rw [← he]
   exact h1
  ·have:=List.pairwise_iff_getElem.1 hT k (k+i) hk (by omega) (by omega)
   rw [← he]
   exact List.lt_trans h1 this
 exact ⟨hsp.1,⟨fun b hb=>hhi b hb,hsp.2.1⟩,fun a ha b hb=>by
  rcases List.mem_cons.1 hb with rfl | hb
  ·exact hlo a ha
  ·exact hsp.2.2 a ha b hb⟩
def IdxKept (w w':World):Prop:=∀ (k:Nat) cs t r,w.heap[k]?=some (.cells cs t r)→t≠90→t≠24→t≠3→w'.heap[k]?=w.heap[k]?
theorem IdxKept.trans {a b c:World} (h:IdxKept a b) (k:IdxKept b c):IdxKept a c:=fun j cs t r h1 h2 h3 h4=>(k j cs t r ((h j cs t r h1 h2 h3 h4).trans h1) h2 h3 h4).trans (h j cs t r h1 h2 h3 h4)
theorem IdxKept.below {w w':World} (h:Below w.heap.size w w'):IdxKept w w':=fun k cs t r hk _ _ _=>h.block k (lt_of_heap hk)
theorem IdxKept.mod {w w':World} {mb:Nat} {cs:Array Value} (hm:w.heap[mb]?=some (.cells cs 90 (0,0))) (h:Mod (fun j=>j=mb) w w'):IdxKept w w':=fun k cs t r hk h1 _ _=>h.block k (lt_of_heap hk) fun e=>by
 subst e
 rw [hm] at hk
 cases hk
 exact h1 rfl
theorem IdxKept.row {w w':World} {B e size n:Nat} {v:Value} {xs:List Value} (h:IdxKept w w') (hr:w.ownsRow B e size v n xs) (h1:e≠90) (h2:e≠24) (h3:e≠3):w'.ownsRow B e size v n xs:=ownsRow_typed hr fun k cs r hk=>h k cs e r hk h1 h2 h3
def addD (l:List Nat) (d:Nat):List Nat:=if l.getLast?=some d then l else l++[d]
set_option maxRecDepth 100000 in
set_option maxHeartbeats 4000000 in
theorem add_law (x:List UInt8) (d B mb n:Nat) (T:List (List UInt8)) (L:List UInt8→List Nat) (w:World) (hx:IndexIs B w mb n T L) (hB:B≤w.heap.size) (hT:T.length≤10000) (hL:(L x).length≤1000) (hd:d≤1000) (hn:x ∉ T→L x=[]) (hasc:T.Pairwise (fun a b=>a < b)) :
  Calls Tryz.prog 63 #[ptrV mb,strV x,iV d] w fun e w'=>e = .returned (.tuple #[])∧Below B w w'∧IdxKept w w' ∧ ∃ k,PlaceIs T x k ∧
   IndexIs B w' mb n (if T[k]?=some x then T else T.take k++x :: T.drop k) (fun y=>if y=x then addD (L x) d else L y):=by
 obtain ⟨i0,hi,hz0,hz1,hz2⟩:=info_parts Tryz.info9
 obtain ⟨i1,hi1,hy0,hy1,hy2⟩:=info_parts Tryz.info24
 obtain ⟨i2,hi2,hw0,hx1,hx2⟩:=info_parts Tryz.info3
 have hplace:=fun W (h:IndexIs B W mb n T L)=>place_law ⟨x.toArray⟩ B mb n T L W h (by omega)
 have HX:=Lib.hid hx
 have hx0:=hx.le
 have HASC:=Lib.hid hasc
 clear hasc
 unfold ptrV strV at *
 go_enter Tryz.func63,Tryz.ntmps63
 go_upto_region 1 with (go_at_call 96; refine (hplace w hx).mono ?_; rintro e w1 ⟨k,rfl,hk,hs1⟩)
 clear hplace
 obtain ⟨th,hth⟩:∃ th,th=decide (T[k]?=some x):=⟨_,rfl⟩
 have hth':decide (T[k]?=some (ByteArray.data ⟨x.toArray⟩).toList)=th:=by rw [hth]
 rw [hth']
 have HX1:=Lib.hid (hx.below (hs1.below _))
 have hM1:∃ cs,w1.heap[mb]?=some (.cells cs 90 (0,0)):=by
  obtain ⟨tv,pv,ps,a1,_⟩:=HX1.out.ex
  exact ⟨_,a1⟩
 obtain ⟨mcs,hM1⟩:=hM1
 have HM1:=Lib.hid hM1
 clear hM1
 have hkT:=hk.1
 have HK:=Lib.hid hk
 have HTH:=Lib.hid hth
 have HS1:=Lib.hid hs1
 clear hx hk hth' HX hs1 hth
 rename_i K1 hK1
 go_cut [18] from 17 to 61 (fun t wy=>t = .bool (!th)∧wy=w1)
 case first =>
  go_wp2_with fail
  go_meet
  exact ⟨rfl,rfl⟩
 case rest =>
 obtain ⟨rfl,rfl⟩:=hcut
 refine hK1 _ _ ?_
 clear hK1
 go_cut [] from 19 to 61 (fun wy=>Hid (Mod (fun j=>j=mb) wc wy)∧Hid (IndexIs B wy mb n (if T[k]?=some x then T else T.take k++x :: T.drop k) L))
 case first =>
  cases th with
  | true =>
   have hin:T[k]?=some x:=by simpa using HTH.out.symm
   go_wp2_with fail
   go_meet
   exact ⟨Lib.hid (Mod.refl _ _),by rw [if_pos hin]; exact HX1⟩
  | false =>
   have hin:¬ T[k]?=some x:=by simpa using HTH.out.symm
   obtain ⟨tv,pv,ps,a1,a2,a3,a4,a5,a6,a7⟩:=HX1.out.ex
   obtain ⟨ta,tc,rfl⟩:=ownsRow_form a2
   obtain ⟨pa,pc,rfl⟩:=ownsRow_form a4
   have c1:wc.cell? (aD mb 1)=some (.slice ta T.length tc):=cell_block a1
   have hmbl:=lt_of_heap a1
   have A1:=Lib.hid a1
   have A2:=Lib.hid a2
   have A3:=Lib.hid a3
   have A4:=Lib.hid a4
   have A5:=Lib.hid a5
   have A6:=Lib.hid a6
   have A7:=Lib.hid a7
   have HIN:=Lib.hid hin
   have hz:(0:Int)≤(k:Int)∧(k:Int)≤(T.length:Int):=by omega
   have hnil:wc.ownsRow 0 9 1 (.slice none 0 0) 0 []:=World.ownsRow_nil _ _ _ _
   have htk:((T.map strV).take k).length=k * 1:=by simp; omega
   have hcapT:(k:Int)≤(tc:Int)∧(T.length:Int)≤(tc:Int):=by have:=ownsRow_cap A2.out; omega
   have hpc:=piece_cells A2.out 0 ta (fun g e _=>by rcases ownsRow_base0 A2.out with rfl | ⟨g',rfl⟩ <;> simp_all [Value.ownBlock]) k
   rw [List.drop_zero] at hpc
   have hone:∀ u∈(T.map strV).take k,u.oneCell'=true:=fun u hu=>by
    obtain ⟨t,_,rfl⟩:=List.mem_map.1 (List.mem_of_mem_take hu)
    rfl
   have HPC:=Lib.hid hpc
   have HONE:=Lib.hid hone
   clear a1 a2 a3 a4 a5 a6 a7 hin hpc hone HX1
   go_upto_region 3 with (at_builtin; refine wpList_append_all rfl _ _ 35 rfl 9 i0 (.string ⟨#[]⟩) 1 16 Tryz.underlying35 hi hz0 hz1 hz2 rfl (by decide) (.slice none 0 0) 0 [] rfl hnil ta k tc ((T.map strV).take k) rfl htk HPC.out HONE.out (by unfold maxLen; omega) (by omega) ?_; intro v1 W1 hrow1 hmov1 _; rw [Nat.zero_add,List.nil_append] at hrow1; have HR1:=Lib.hid hrow1; have HM1:=Lib.hid hmov1; clear hrow1 hmov1)
   have hst3:[strV x].length=1 * 1:=rfl
   go_upto_region 4 with (at_builtin; refine wpList_append_all rfl _ _ 35 rfl 9 i0 (.string ⟨#[]⟩) 1 16 Tryz.underlying35 hi hz0 hz1 hz2 rfl (by decide) v1 k ((T.map strV).take k) rfl (HR1.out.alloc _) (some (aD W1.heap.size 0)) 1 1 [strV x] rfl rfl (fun j u hj=>⟨_,rfl,cell_one_new W1 _ _ j u hj⟩) (fun u hu=>by rw [List.mem_singleton.1 hu]; rfl) (by unfold maxLen; omega) (by omega) ?_; intro v2 W2 hrow2 hmov2 _; have HR2:=Lib.hid hrow2; have HM2:=Lib.hid (HM1.out.trans ((Moves.alloc W1 v1 _).trans hmov2)); clear hrow2 hmov2 HR1 HM1)
   have hb2:=HM2.out.below (fun k e=>by cases e) (Below.refl _ _) (Nat.le_refl _)
   have c2:=(hb2.cell (p:=(aD mb 1)) hmbl).trans c1
   have HB2:=Lib.hid hb2
   clear c1 hb2 hst3
   have hdl:((T.map strV).drop k).length=(T.length - k) * 1:=by simp
   have hdc:=drop_cells (ownsRow_block A2.out fun j e=>HB2.out.block j (A2.out.lt j e).2) k
   obtain ⟨ad,hde⟩:∃ ad,(if tc=k then ta else Option.map (fun x=>x.add k) ta)=ad:=⟨_,rfl⟩
   rw [hde] at hdc
   have HDC:=Lib.hid hdc
   clear hdc
   have hfz:W2.frozen? (aD mb 1)=false:=free_block ((HB2.out.block mb hmbl).trans A1.out)
   go_upto_region 5 with (at_builtin; refine wpList_append_all rfl _ _ 35 rfl 9 i0 (.string ⟨#[]⟩) 1 16 Tryz.underlying35 hi hz0 hz1 hz2 rfl (by decide) v2 (k+1) ((T.map strV).take k++[strV x]) rfl HR2.out _ (T.length - k) (tc - k) ((T.map strV).drop k) rfl hdl HDC.out (fun u hu=>strs_one u (List.mem_of_mem_drop hu)) (by unfold maxLen; omega) (by omega) ?_; intro v3 W3 hrow3 hmov3 _; have HM3:=Lib.hid (HM2.out.trans hmov3); have hb3:Below wc.heap.size wc W3:=HM3.out.below (fun k e=>by cases e) (Below.refl _ _) (Nat.le_refl _); have hfz3:W3.frozen? (aD mb 1)=false:=free_block ((hb3.block mb hmbl).trans A1.out); have d3:W3.cell? (aD mb 1)=some (.slice ta T.length tc):=cell_block ((hb3.block mb hmbl).trans A1.out); have HR3:=Lib.hid (row_join hkT hrow3); obtain ⟨a3,n3,c3,rfl⟩:=slice_form hrow3; have HB3:=Lib.hid hb3; clear hrow3 hmov3 HM2 HR2 HDC hb3)
   clear hfz hfz3 d3 hdl c2 htk hde
   obtain ⟨T',hT'⟩:∃ T',T'=T.take k++x :: T.drop k:=⟨_,rfl⟩
   have hTl:T'.length=T.length+1:=by rw [hT']; simp; omega
   rw [← hT'] at HR3
   obtain ⟨nv,hnv⟩:∃ nv,nv=Value.slice a3 n3 c3:=⟨_,rfl⟩
   rw [← hnv] at HM3 HR3 ⊢
   have h4m:=heap_setCell_same W3 mb 1 _ _ nv ((HB3.out.block mb hmbl).trans A1.out)
   have hmo4:Mod (fun j=>j=mb) wc (W3.setCell (aD mb 1) nv):=(Mod.of_below HB3.out).trans (Mod.setCell _ (aD mb 1) nv fun _=>rfl)
   have hsz4:=hmo4.size
   have hR4:(W3.setCell (aD mb 1) nv).ownsRow 0 9 1 nv T'.length (T'.map strV):=ownsRow_block HR3.out fun j e=>Below.heap_setCell _ _ _ _ (fun e'=>by
    have:=HM3.out.past (B:=wc.heap.size) (fun k e=>by cases e) (Nat.le_refl _) j e
    simp only at e'
    omega)
   have hP4:=HM3.out.past (fun k e=>by cases e) (Nat.le_refl _)
   simp only [Array.setIfInBounds,List.size_toArray,List.length_cons,List.length_nil] at h4m
   generalize W3.setCell (aD mb 1) nv=W4 at *
   have hA4:W4.ownsRow 0 24 1 (.slice pa T.length pc) T.length ps:=ownsRow_block A4.out fun j e=>hmo4.block j (A4.out.lt j e).2 fun e'=>by
    subst e'
    have hg:=ownsRow_cells A4.out e
    obtain ⟨cur,hg⟩:=hg
    rw [A1.out] at hg
    cases hg
   have HMO4:=Lib.hid hmo4
   have HR4:=Lib.hid hR4
   have HP4:=Lib.hid hP4
   have HA4:=Lib.hid hA4
   have d2:W4.cell? (aD mb 2)=some (.slice pa T.length pc):=cell_block h4m
   have H4M:=Lib.hid h4m
   have hcapP:(k:Int)≤(pc:Int)∧(T.length:Int)≤(pc:Int):=by have:=ownsRow_cap A4.out; omega
   have hone:∀ u∈ps,u.oneCell'=true:=fun u hu=>by
    obtain ⟨i,hi,he⟩:=List.getElem_of_mem hu
    have hpl:ps.length=T.length:=by have:=A4.out.1; omega
    obtain ⟨h1,_⟩:=A6.out i u T[i] (by rw [List.getElem?_eq_getElem hi,he]) (List.getElem?_eq_getElem (by omega))
    obtain ⟨a,c,rfl⟩:=ownsRow_form h1
    rfl
   have hpl:ps.length=T.length:=by have:=A4.out.1; omega
   have HONE:=Lib.hid hone
   have hlk:(ps.take k).length=k * 1:=by simp; omega
   have hldr:(ps.drop k).length=(T.length - k) * 1:=by simp [hpl]
   have hnil4:W4.ownsRow 0 24 1 (.slice none 0 0) 0 []:=World.ownsRow_nil _ _ _ _
   have HPC:=Lib.hid (take_cells HA4.out k)
   clear hmo4 hR4 hP4 hA4 h4m hone HB3 HM3 HR3 hnil HB2 hcapT
   go_upto_region 6 with (at_builtin; refine wpList_append_all rfl _ _ 88 rfl 24 i1 (.slice none 0 0) 1 24 Tryz.underlying88 hi1 hy0 hy1 hy2 rfl (by decide) (.slice none 0 0) 0 [] rfl hnil4 pa k pc (ps.take k) rfl hlk HPC.out (fun u hu=>HONE.out u (List.mem_of_mem_take hu)) (by unfold maxLen; omega) (by omega) ?_; intro v5 W5 hrow5 hmov5 _; rw [Nat.zero_add,List.nil_append] at hrow5; have HR5:=Lib.hid hrow5; have HM5:=Lib.hid hmov5; clear hrow5 hmov5)
   go_upto_region 7 with (at_builtin; refine wpList_append_all rfl _ _ 88 rfl 24 i1 (.slice none 0 0) 1 24 Tryz.underlying88 hi1 hy0 hy1 hy2 rfl (by decide) v5 k (ps.take k) rfl (HR5.out.alloc _) (some (aD W5.heap.size 0)) 1 1 [.slice none 0 0] rfl rfl (fun j u hj=>⟨_,rfl,cell_one_new W5 _ _ j u hj⟩) (fun u hu=>by rw [List.mem_singleton.1 hu]; rfl) (by unfold maxLen; omega) (by omega) ?_; intro v6 W6 hrow6 hmov6 _; have HR6:=Lib.hid hrow6; have HM6:=Lib.hid (HM5.out.trans ((Moves.alloc W5 v5 _).trans hmov6)); clear hrow6 hmov6 HR5 HM5)
   have hb6:=HM6.out.below (fun k e=>by cases e) (Below.refl _ _) (Nat.le_refl _)
   have hmbl4:=lt_of_heap H4M.out
   have c2:=(hb6.cell (p:=(aD mb 2)) hmbl4).trans d2
   have hdc:=drop_cells (ownsRow_block HA4.out fun j e=>hb6.block j (HA4.out.lt j e).2) k
   obtain ⟨ad,hde⟩:∃ ad,(if pc=k then pa else Option.map (fun x=>x.add k) pa)=ad:=⟨_,rfl⟩
   rw [hde] at hdc
   have HDC:=Lib.hid hdc
   clear hdc d2
   go_upto_region 8 with (at_builtin; refine wpList_append_all rfl _ _ 88 rfl 24 i1 (.slice none 0 0) 1 24 Tryz.underlying88 hi1 hy0 hy1 hy2 rfl (by decide) v6 (k+1) (ps.take k++[.slice none 0 0]) rfl HR6.out _ (T.length - k) (pc - k) (ps.drop k) rfl hldr HDC.out (fun u hu=>HONE.out u (List.mem_of_mem_drop hu)) (by unfold maxLen; omega) (by omega) ?_; intro v7 W7 hrow7 hmov7 _; have HM7:=Lib.hid (HM6.out.trans hmov7); have hb7:Below W4.heap.size W4 W7:=HM7.out.below (fun k e=>by cases e) (Below.refl _ _) (Nat.le_refl _); have hfz7:W7.frozen? (aD mb 2)=false:=free_block ((hb7.block mb hmbl4).trans H4M.out); have d7:W7.cell? (aD mb 2)=some (.slice pa T.length pc):=cell_block ((hb7.block mb hmbl4).trans H4M.out); have HR7:=Lib.hid hrow7; obtain ⟨a7,n7,c7,rfl⟩:=slice_form hrow7; have HB7:=Lib.hid hb7; clear hrow7 hmov7 HM6 HR6 HDC hb7)
   go_meet
   obtain ⟨qv,hqv⟩:∃ qv,qv=Value.slice a7 n7 c7:=⟨_,rfl⟩
   rw [← hqv] at HM7 HR7 ⊢
   have h8m:=heap_setCell_same W7 mb 2 _ _ qv ((HB7.out.block mb hmbl4).trans H4M.out)
   simp only [Array.setIfInBounds,List.size_toArray,List.length_cons,List.length_nil] at h8m
   have hmo8:=HMO4.out.trans ((Mod.of_below HB7.out).trans (Mod.setCell _ (aD mb 2) qv fun _=>rfl))
   have hP7:=HM7.out.past (fun k e=>by cases e) (Nat.le_refl _)
   have hBw:B≤wc.heap.size:=Nat.le_trans hB (HS1.out.below 0).size
   have hmb0:B≤mb:=hx0
   have hother:∀ {e size m:Nat} {v:Value} {xs:List Value},e≠90→wc.ownsRow 0 e size v m xs→(W7.setCell (aD mb 2) qv).ownsRow 0 e size v m xs:=fun he hr=>ownsRow_block hr fun j ej=>hmo8.block j (hr.lt j ej).2 fun e'=>by
    subst e'
    obtain ⟨cur,hg⟩:=ownsRow_cells hr ej
    rw [A1.out] at hg
    cases hg
    exact he rfl
   refine ⟨Lib.hid hmo8,Lib.hid ?_⟩
   rw [if_neg HIN.out,← hT']
   refine ⟨hmb0,nv,qv,ps.take k ++ .slice none 0 0 :: ps.drop k,h8m,?_,fun j e=>Nat.le_trans hBw (HP4.out j e),?_,fun j e=>Nat.le_trans (Nat.le_trans hBw hsz4) (hP7 j e),?_,?_⟩
   ·refine ownsRow_block HR4.out fun j e=>(Below.heap_setCell _ _ _ _ fun e'=>?_).trans (HB7.out.block j (HR4.out.lt j e).2)
    have:=HP4.out j e
    simp only at e'
    omega
   ·have e1:T'.length=k+1+(T.length - k):=by omega
    rw [e1]
    have:=HR7.out
    rw [List.append_assoc] at this
    refine ownsRow_block this fun j e=>Below.heap_setCell _ _ _ _ fun e'=>?_
    have:=hP7 j e
    simp only at e'
    omega
   ·intro i v y hv hy
    rw [ins_at _ _ _ _ (by omega)] at hv
    rw [hT',ins_at _ _ _ _ hkT] at hy
    split at hv
    ·rename_i h1
     rw [if_pos h1] at hy
     exact ⟨hother (by decide) (A6.out i v y hv hy).1,(A6.out i v y hv hy).2⟩
    ·rename_i h1
     rw [if_neg h1] at hy
     split at hv
     ·rename_i h2
      rw [if_pos h2] at hy
      cases hv
      cases hy
      rw [hn (place_new HASC.out HK.out HIN.out)]
      exact ⟨World.ownsRow_nil _ _ _ _,fun j e=>by cases e⟩
     ·rename_i h2
      rw [if_neg h2] at hy
      exact ⟨hother (by decide) (A6.out (i - 1) v y hv hy).1,(A6.out (i - 1) v y hv hy).2⟩
   ·intro i j u v g hij hu hv
    rw [ins_at _ _ _ _ (by omega)] at hu hv
    split at hu
    ·split at hv
     ·exact A7.out i j u v g hij hu hv
     ·split at hv
      ·cases hv; intro _ h; cases h
      ·exact A7.out i (j - 1) u v g (by omega) hu hv
    ·split at hu
     ·cases hu; intro h; cases h
     ·split at hv
      ·exact A7.out (i - 1) j u v g (by omega) hu hv
      ·split at hv
       ·cases hv; intro _ h; cases h
       ·exact A7.out (i - 1) (j - 1) u v g (by omega) hu hv
 case rest =>
 obtain ⟨HB,HX2⟩:=hcut
 clear hkT
 obtain ⟨T2,hT2⟩:∃ T2,T2=if T[k]?=some x then T else T.take k++x :: T.drop k:=⟨_,rfl⟩
 have hxk:T2[k]?=some x:=by
  rw [hT2]
  split
  ·assumption
  ·rw [ins_at _ _ _ _ HK.out.1,if_neg (by omega),if_pos rfl]
 have hT2l:T2.length≤10001:=by
  rw [hT2]
  split
  ·omega
  ·simp; omega
 rw [← hT2] at HX2
 have hnd:∀ (i j:Nat) y,T2[i]?=some y→T2[j]?=some y→i=j:=by
  have hp:T2.Pairwise (fun a b=>a < b):=by
   rw [hT2]
   split
   ·exact HASC.out
   ·rename_i hne
    exact ins_rise HASC.out HK.out hne
  intro i j y hi hj
  obtain ⟨h1,e1⟩:=List.getElem?_eq_some_iff.1 hi
  obtain ⟨h2,e2⟩:=List.getElem?_eq_some_iff.1 hj
  rcases Nat.lt_trichotomy i j with h | h | h
  ·have:=List.pairwise_iff_getElem.1 hp i j h1 h2 h
   rw [e1,e2] at this
   exact absurd this (List.lt_irrefl y)
  ·exact h
  ·have:=List.pairwise_iff_getElem.1 hp j i h2 h1 h
   rw [e1,e2] at this
   exact absurd this (List.lt_irrefl y)
 have HNODUP:=Lib.hid hnd
 clear hnd
 have HT2:=Lib.hid hT2
 clear hT2 HTH HX1
 obtain ⟨tv,pv,ps,b1,b2,b3,b4,b5,b6,b7⟩:=HX2.out.ex
 have hkl:k < T2.length:=(List.getElem?_eq_some_iff.1 hxk).1
 have hpsl:ps.length=T2.length:=by have:=b4.1; omega
 obtain ⟨v,hv⟩:∃ v,ps[k]?=some v:=⟨_,List.getElem?_eq_getElem (by omega)⟩
 obtain ⟨gp,pc,rfl,hcv⟩:=ownsRow_cell b4 hv
 obtain ⟨hrow,hpast⟩:=b6 k v x hv hxk
 have d1:wc.cell? (aD mb 2)=some (sL gp T2.length pc):=cell_block b1
 obtain ⟨va,vc,rfl⟩:=ownsRow_form hrow
 have z1:(0:Int)≤(k:Int)∧(k:Int) < (T2.length:Int):=by omega
 have B1:=Lib.hid b1
 have B2:=Lib.hid b2
 have B3:=Lib.hid b3
 have B4:=Lib.hid b4
 have B5:=Lib.hid b5
 have B6:=Lib.hid b6
 have B7:=Lib.hid b7
 have HV:=Lib.hid hv
 have HROW:=Lib.hid hrow
 have HPAST:=Lib.hid hpast
 have HXK:=Lib.hid hxk
 clear b1 b2 b3 b4 b5 b6 b7 hv hrow hpast hxk
 obtain ⟨l,hl⟩:∃ l,l=L x:=⟨_,rfl⟩
 rw [← hl] at hL HROW hcv HPAST HV
 have HLL:=Lib.hid hl
 clear hl
 go_upto_region 9 with fail
 obtain ⟨q,hq⟩:∃ q,q=decide (¬ l.getLast?=some d):=⟨_,rfl⟩
 have HQ:=Lib.hid hq
 clear hq
 obtain ⟨m,hm⟩:∃ m,m=l.length:=⟨_,rfl⟩
 rw [← hm] at hL HROW hcv HPAST HV ⊢
 have HML:=Lib.hid hm
 clear hm
 rename_i K1 hK1
 go_cut [86] from 70 to 102 (fun t wy=>t = .bool q∧wy=wc)
 case first =>
  rcases List.eq_nil_or_concat l with h0 | ⟨l2,j,h0⟩
  ·have hlen:m=0:=by rw [HML.out,h0]; rfl
   have hqt:q=true:=by rw [HQ.out,h0]; simp
   subst hlen
   subst hqt
   clear hcv
   go_wp2_with fail
   go_meet
   exact ⟨rfl,rfl⟩
  ·rw [List.concat_eq_append] at h0
   have hlen:m=l2.length+1:=by rw [HML.out,h0]; simp
   subst hlen
   have hrow:=HROW.out
   obtain ⟨gl,cl,hg⟩:=ownsRow_head hrow
   cases hg
   have hcl:wc.cell? (aD gl l2.length)=some (iV j):=by
    rw [hrow.cellAt _ (by omega),h0]
    simp [intV]
   have q0:(((l2.length:Int)+1) == 0)=false:=by rw [beq_eq_false_iff_ne]; omega
   have q1:IntKind.i64.wrap (l2.length:Int)=(l2.length:Int):=IntWalk.i64_in _ (by omega)
   have q2:(0:Int)≤(l2.length:Int)∧(l2.length:Int) < (l2.length:Int)+1:=by omega
   have hqv:q = !(j == d):=by
    rw [HQ.out,h0,Bool.eq_iff_iff]
    simp
   have q3:((j:Int) != (d:Int))=q:=by rw [hqv,Bool.eq_iff_iff]; simp; omega
   clear hrow HROW h0 hqv
   go_wp2_with fail
   go_meet
   exact ⟨rfl,rfl⟩
 case rest =>
 obtain ⟨rfl,rfl⟩:=hcut
 refine hK1 _ _ ?_
 clear hK1
 have HBW:Hid (Below B w wc):=Lib.hid (((HS1.out.below B)).trans (HB.out.toBelow (Nat.le_trans hB (HS1.out.below 0).size) fun j e=>by rw [e]; exact hx0))
 have HKW:Hid (IdxKept w wc):=Lib.hid ((IdxKept.below (HS1.out.below _)).trans (IdxKept.mod HM1.out HB.out))
 clear HB HS1 HM1
 cases q with
 | false =>
  go_wp2_with fail
  refine bodyPost_end (results_none rfl _ _ _) rfl ?_
  refine ⟨rfl,HBW.out,HKW.out,k,HK.out,?_⟩
  rw [← HT2.out]
  have hg:(fun y=>if y=x then addD (L x) d else L y)=L:=funext fun y=>by
   split
   ·rename_i e
    subst e
    rw [← HLL.out]
    unfold addD
    rw [if_pos (by simpa using HQ.out.symm)]
   ·rfl
  rw [hg]
  exact HX2.out
 | true =>
  have hadd:addD (L x) d=l++[d]:=by
   rw [← HLL.out]
   unfold addD
   rw [if_neg (by simpa using HQ.out.symm)]
  have HADD:=Lib.hid hadd
  clear hadd HQ
  go_upto_region 10 with fail
  refine wp_region_ordX [(0,false),(1,false),(2,false),(3,false),(4,false),(5,false),(6,false),(7,false),(8,false),(9,false),(10,false),(11,false),(12,false),(13,true),(14,true),(15,false),(16,true)] 16
   (fun w'=>w'.cell? (aD mb 2)=some (sL gp T2.length pc)∧w'.cell? (aD gp k)=some (.slice va m vc)) (by kernel_rfl) (by kernel_rfl) ⟨d1,hcv⟩ ?_
  iterate 13 (
   refine wpOrd_quiet ?_ rfl rfl (fun w' hS=>?_) ?_
   rotate_left
   ·obtain ⟨f0,f1⟩:=hS
    go_simp
    try rfl
   simp only [put_lit,List.set_cons_succ,List.set_cons_zero])
  have hmbl:=lt_of_cell d1
  have hgpl:=lt_of_cell hcv
  have hmbl:mb < wc.heap.size:=hmbl
  have hgpl:gp < wc.heap.size:=hgpl
  -- the new number's cell
  refine wpOrd_loud rfl rfl (by decide) (fun K5 hK5=>?_)
  go_simp
  refine hK5 _ _ ⟨(World.cell?_alloc_lt wc.drew _ _ hmbl).trans d1,(World.cell?_alloc_lt wc.drew _ _ hgpl).trans hcv⟩ ?_
  clear hK5 K5
  try simp only [put_lit,List.set_cons_succ,List.set_cons_zero]
  refine wpOrd_loud rfl rfl (by decide) (fun K5 hK5=>?_)
  have hrow1:((wc.drew).alloc (.cells #[iV d] 3)).ownsRow 0 3 1 (.slice va m vc) m (l.map intV):=HROW.out.drew.alloc _
  refine wp_append_lies _ _ 24 rfl 3 i2 (iV 0) 1 8 Tryz.underlying24 hi2 hw0 hx1 hx2 rfl (by decide) (.slice va m vc) m (l.map intV) rfl hrow1 (aD wc.heap.size 0) 1 1 [iV d] rfl rfl (cell_one_new wc.drew _ _) (by simp [Value.oneCell']) (by decide) (by unfold maxLen; omega) (by omega) ?_
  intro v4 W4 hrow4 hgrow4 hlies4
  have hva:∀ g,(Value.slice va m vc).ownBlock=some g→g≠mb∧g≠gp:=fun g e=>by
   obtain ⟨c1,e1⟩:=ownsRow_cells HROW.out e
   obtain ⟨c2,e2⟩:=ownsRow_cells B4.out (g:=gp) rfl
   refine ⟨fun h=>?_,fun h=>?_⟩
   ·rw [h,B1.out] at e1; cases e1
   ·rw [h,e2] at e1; cases e1
  have hW3:Below wc.heap.size wc ((wc.drew).alloc (.cells #[iV d] 3)):=((Same.drew wc).below _).alloc (Nat.le_refl _) _
  have hmv:Moves wc (.slice va m vc) W4 v4:=((Moves.same _ (Same.drew wc)).trans (Moves.alloc _ _ _)).trans (Moves.append hgrow4 hlies4)
  have hkeep:∀ j,j < wc.heap.size→(Value.slice va m vc).ownBlock≠some j→W4.heap[j]?=wc.heap[j]?:=fun j hj hn=>hmv.block hj hn
  have kmb:W4.heap[mb]?=wc.heap[mb]?:=hkeep mb hmbl fun e=>(hva mb e).1 rfl
  have kgp:W4.heap[gp]?=wc.heap[gp]?:=hkeep gp hgpl fun e=>(hva gp e).2 rfl
  have f4:W4.cell? (aD mb 2)=some (sL gp T2.length pc):=(World.cell?_of_block (a:=(aD mb 2)) kmb).trans d1
  have f5:W4.cell? (aD gp k)=some (.slice va m vc):=(World.cell?_of_block (a:=(aD gp k)) kgp).trans hcv
  have f6:W4.frozen? (aD gp k)=false:=by
   obtain ⟨c2,e2⟩:=ownsRow_cells B4.out (g:=gp) rfl
   exact free_block (kgp.trans e2)
  refine hK5 _ _ ⟨f4,f5⟩ ?_
  clear hK5 K5
  obtain ⟨a4,n4,c4,rfl⟩:=slice_form hrow4
  simp only [put_lit,List.set_cons_succ,List.set_cons_zero]
  refine wpOrd_quiet ?_ rfl rfl (fun w' hS=>?_) ?_
  rotate_left
  ·obtain ⟨f0,f1⟩:=hS
   go_simp
   try rfl
  simp only [put_lit,List.set_cons_succ,List.set_cons_zero]
  refine wpOrd_last rfl rfl (fun K5 hK5=>?_)
  have HK5:=Lib.hid hK5
  have HMV:=Lib.hid hmv
  have HR4:=Lib.hid hrow4
  clear hK5 hmv hrow4 hgrow4 hlies4 hkeep hva hW3 hrow1
  go_simp
  refine HK5.out _ _ ?_
  clear HK5 K5
  go_wp2_with fail
  refine bodyPost_end (results_none rfl _ _ _) rfl ?_
  obtain ⟨nv,hnv⟩:∃ nv,nv=Value.slice a4 n4 c4:=⟨_,rfl⟩
  rw [← hnv] at HMV HR4 ⊢
  have hBw:B≤wc.heap.size:=Nat.le_trans hB HBW.out.size
  have hgpB:B≤gp:=B5.out gp rfl
  have hgr:Below B wc (W4.setCell (aD gp k) nv):=(HMV.out.below HPAST.out (Below.refl _ _) hBw).setCell (p:=(aD gp k)) hgpB _
  have hnp:Past B nv:=HMV.out.past HPAST.out hBw
  have hvg:nv.ownBlock≠some gp:=fun e=>by
   obtain ⟨c1,e1⟩:=ownsRow_cells HR4.out e
   obtain ⟨c2,e2⟩:=ownsRow_cells B4.out (g:=gp) rfl
   rw [kgp,e2] at e1
   cases e1
  have hother:∀ {e size z:Nat} {v:Value} {xs:List Value},wc.ownsRow 0 e size v z xs→(∀ g,v.ownBlock=some g→(Value.slice va m vc).ownBlock≠some g∧g≠gp)→(W4.setCell (aD gp k) nv).ownsRow 0 e size v z xs:=fun hr hn=>ownsRow_block hr fun j ej =>
   (Below.heap_setCell _ _ _ _ (hn j ej).2).trans (HMV.out.block (hr.lt j ej).2 (hn j ej).1)
  have htyp:∀ {e size z:Nat} {v:Value} {xs:List Value},e≠3→e≠24→wc.ownsRow 0 e size v z xs → ∀ g,v.ownBlock=some g→(Value.slice va m vc).ownBlock≠some g∧g≠gp:=fun h1 h2 hr g eg=>by
   obtain ⟨c0,e0⟩:=ownsRow_cells hr eg
   obtain ⟨c2,e2⟩:=ownsRow_cells B4.out (g:=gp) rfl
   refine ⟨fun e=>?_,fun e=>?_⟩
   ·obtain ⟨c1,e1⟩:=ownsRow_cells HROW.out e
    rw [e0] at e1
    cases e1
    exact h1 rfl
   ·subst e
    rw [e0] at e2
    cases e2
    exact h2 rfl
  refine ⟨rfl,HBW.out.trans hgr,HKW.out.trans (fun j cs t r hj h1 h2 h3=>(Below.heap_setCell _ _ _ _ fun e=>?_).trans (HMV.out.block (lt_of_heap hj) fun e=>?_)),k,HK.out,?_⟩
  ·have e:j=gp:=e
   obtain ⟨c2,e2⟩:=ownsRow_cells B4.out (g:=gp) rfl
   rw [e,e2] at hj
   cases hj
   exact h2 rfl
  ·obtain ⟨c1,e1⟩:=ownsRow_cells HROW.out e
   rw [e1] at hj
   cases hj
   exact h3 rfl
  rw [← HT2.out]
  have hset:(W4.setCell (aD gp k) nv).ownsRow 0 24 1 (sL gp T2.length pc) T2.length (ps.set k nv) :=
   row_set (ownsRow_block B4.out fun j ej=>by cases ej; exact kgp) rfl nv
  refine ⟨hx0,tv,_,ps.set k nv,?_,hother B2.out (htyp (by decide) (by decide) B2.out),B3.out,hset,B5.out,?_,?_⟩
  ·exact (Below.heap_setCell _ _ _ _ fun e=>by
    have e:mb=gp:=e
    obtain ⟨c2,e2⟩:=ownsRow_cells B4.out (g:=gp) rfl
    rw [← e,B1.out] at e2
    cases e2).trans (kmb.trans B1.out)
  ·intro i v y hv hy
   rcases Nat.decEq i k with hik | hik
   ·rw [List.getElem?_set_ne (Ne.symm hik)] at hv
    have hne:y≠x:=fun e=>by
     subst e
     exact hik (HNODUP.out i k y hy HXK.out)
    obtain ⟨g1,g2⟩:=B6.out i v y hv hy
    rw [if_neg hne]
    refine ⟨hother g1 fun g eg=>⟨fun e=>B7.out i k v _ g hik hv HV.out eg e,fun e=>?_⟩,g2⟩
    obtain ⟨c0,e0⟩:=ownsRow_cells g1 eg
    obtain ⟨c2,e2⟩:=ownsRow_cells B4.out (g:=gp) rfl
    rw [e,e2] at e0
    cases e0
   ·subst hik
    rw [List.getElem?_set_self (by omega)] at hv
    cases hv
    have hyx:y=x:=by
     have:=HXK.out
     rw [hy] at this
     exact Option.some.inj this
    subst hyx
    rw [if_pos rfl,HADD.out]
    have:=HR4.out
    refine ⟨ownsRow_block (w:=W4) ?_ fun j ej=>Below.heap_setCell _ _ _ _ fun e=>hvg (ej.trans (congrArg some e)),hnp⟩
    rw [List.length_append,List.map_append,← HML.out]
    exact this
  ·intro i j u v g hij hu hv hug
   rcases Nat.decEq i k with hik | hik
   ·rw [List.getElem?_set_ne (Ne.symm hik)] at hu
    rcases Nat.decEq j k with hjk | hjk
    ·rw [List.getElem?_set_ne (Ne.symm hjk)] at hv
     exact B7.out i j u v g hij hu hv hug
    ·subst hjk
     rw [List.getElem?_set_self (by omega)] at hv
     cases hv
     intro e
     rcases HMV.out.lies with h | ⟨g',h,hg'⟩
     ·exact B7.out i j u _ g hij hu HV.out hug (h ▸ e)
     ·rw [h] at e
      cases e
      have hyi:∃ y,T2[i]?=some y:=⟨_,List.getElem?_eq_getElem (by have:=(List.getElem?_eq_some_iff.1 hu).1; omega)⟩
      obtain ⟨y,hy⟩:=hyi
      have:=((B6.out i u y hu hy).1.lt g hug).2
      omega
   ·subst hik
    rw [List.getElem?_set_self (by omega)] at hu
    cases hu
    rw [List.getElem?_set_ne hij] at hv
    intro e
    rcases HMV.out.lies with h | ⟨g',h,hg'⟩
    ·exact B7.out i j _ v g hij HV.out hv (h ▸ hug) e
    ·rw [h] at hug
     cases hug
     obtain ⟨y,hy⟩:∃ y,T2[j]?=some y:=⟨_,List.getElem?_eq_getElem (by have:=(List.getElem?_eq_some_iff.1 hv).1; omega)⟩
     have:=((B6.out j v y hv hy).1.lt g e).2
     omega
end Go.Proofs.Tl
namespace Go.Proofs.Tl
open Go Go.RowKit Go.Proofs.Ts
structure TermsIn (T:List (List UInt8)) (L:List UInt8→List Nat):Prop where
 rise:T.Pairwise (fun a b=>a < b)
 mem:∀ y,y∈T↔L y≠[]
theorem TermsIn.start:TermsIn [] (fun _=>[]):=⟨List.Pairwise.nil,fun y=>by simp⟩
theorem TermsIn.add {T:List (List UInt8)} {L:List UInt8→List Nat} (h:TermsIn T L) {x:List UInt8} {k d:Nat} (hk:PlaceIs T x k) :
  TermsIn (if T[k]?=some x then T else T.take k++x :: T.drop k) (fun y=>if y=x then addD (L x) d else L y):=by
 have hadd:addD (L x) d≠[]:=by
  unfold addD
  split
  ·rename_i h1
   intro h2
   rw [h2] at h1
   cases h1
  ·simp
 split
 ·rename_i hx
  have hm:x∈T:=List.mem_of_getElem? hx
  refine ⟨h.rise,fun y=>?_⟩
  split
  ·rename_i e
   subst e
   exact ⟨fun _=>hadd,fun _=>hm⟩
  ·exact h.mem y
 ·rename_i hx
  refine ⟨ins_rise h.rise hk hx,fun y=>?_⟩
  have hiff:y∈T.take k++x :: T.drop k↔y∈T∨y=x:=by
   conv=>rhs; rw [← List.take_append_drop k T]
   rw [List.mem_append,List.mem_cons,List.mem_append]
   constructor
   ·rintro (h | h | h)
    ·exact .inl (.inl h)
    ·exact .inr h
    ·exact .inl (.inr h)
   ·rintro ((h | h) | h)
    ·exact .inl h
    ·exact .inr (.inr h)
    ·exact .inr (.inl h)
  rw [hiff]
  split
  ·rename_i e
   exact ⟨fun _=>hadd,fun _ => .inr e⟩
  ·rename_i e
   rw [← h.mem y]
   exact ⟨fun h=>h.resolve_right e,.inl⟩
theorem addD_posts (D:List (List (List UInt8))) (pre:List (List UInt8)) (x:List UInt8) :
  (fun y=>if y=x then addD (postsOf (D++[pre]) x) D.length else postsOf (D++[pre]) y)=postsOf (D++[pre++[x]]):=by
 by_cases hx:x∈pre
 ·rw [postsOf_old D pre x hx]
  funext y
  split
  ·rename_i e
   subst e
   unfold addD
   rw [if_pos (by rw [postsOf_snoc,if_pos hx]; simp)]
  ·rfl
 ·rw [postsOf_new D pre x hx]
  funext y
  split
  ·unfold addD
   rw [if_neg]
   intro h
   have hm:=List.mem_of_getLast? h
   rw [postsOf_snoc,if_neg hx,List.append_nil] at hm
   have:=postsOf_lt _ _ _ hm
   omega
  ·rfl
theorem add_length {T:List (List UInt8)} {x:List UInt8} {k:Nat} (hk:k≤T.length):(if T[k]?=some x then T else T.take k++x :: T.drop k).length≤T.length+1:=by
 split
 ·omega
 ·simp; omega
def buildNum (docs:List ByteArray):Int:=if 48 < docs.length then 1 else if ∃ d∈docs,200 < d.size then 2 else 0
def IndexOf (B:Nat) (w:World) (mb:Nat) (D:List (List (List UInt8))):Prop:=∃ T,TermsIn T (postsOf D)∧T.length≤10000∧IndexIs B w mb D.length T (postsOf D)
set_option maxRecDepth 100000 in
set_option maxHeartbeats 8000000 in
theorem refBuild_law (docs:List ByteArray) (v:Value) (w:World) (hv:StrsIs w v docs) (hl:docs.length≤1000000) :
  Calls Tryz.prog 35 #[v] w fun e w'=>Below w.heap.size w w' ∧
   ((buildNum docs≠0∧e = .returned (.tuple #[.pointer none,iV (buildNum docs)])) ∨
    (buildNum docs=0 ∧ ∃ mb,e = .returned (.tuple #[ptrV mb,iV 0])∧IndexOf w.heap.size w' mb (docs.map wordsB))):=by
 obtain ⟨a0,cap0,rfl,hc⟩:=hv
 have HC:=Lib.hid hc
 clear hc
 go_enter Tryz.func35,Tryz.ntmps35
 by_cases h48:48 < docs.length
 ·have hb:buildNum docs=1:=by unfold buildNum; rw [if_pos h48]
  rw [hb]
  go_wp2_with fail
  go_ret2
  exact ⟨Below.refl _ _,.inl ⟨by decide,rfl⟩⟩
 ·have h48':decide ((48:Int) < (docs.length:Int))=false:=by simp; omega
  have HN:Hid (buildNum docs=if ∃ d∈docs,200 < d.size then 2 else 0):=Lib.hid (by unfold buildNum; rw [if_neg h48])
  have HX0:=Lib.hid (fun W (hW:w.heap.size≤W.heap.size)=>IndexIs.start W hW docs.length)
  go_wp2_with fail
  go_loopw [4] (fun i wr=>∃ k:Nat,k≤docs.length∧i = .int .i64 k∧Hid (∀ d∈docs.take k,d.size≤200)∧w=wr) (fun i _=>docs.length - (intOf i).toNat)
  case atStart=>exact ⟨0,Nat.zero_le _,rfl,Lib.hid (fun d h=>by simp at h),rfl⟩
  case round =>
   obtain ⟨k,hk,rfl,HA,rfl⟩:=hrel
   by_cases hlt:k < docs.length
   ·obtain ⟨b,off,rfl,hcell⟩:=HC.out k hlt
    have q1:IntKind.i64.wrap ((k:Int)+1)=(k:Int)+1:=IntWalk.i64_in _ (by omega)
    by_cases h200:docs[k].size≤200
    ·have HA2:Hid (∀ d∈docs.take (k+1),d.size≤200):=Lib.hid fun d hd=>by
      rw [List.take_succ_eq_append_getElem hlt] at hd
      rcases List.mem_append.1 hd with hd | hd
      ·exact HA d hd
      ·rw [List.mem_singleton.1 hd]; exact h200
     go_wp2_with fail
     exact ⟨⟨k+1,by omega,by go_num,HA2,trivial⟩,by simp [intOf]; omega⟩
    ·have HBN:=Lib.hid (show buildNum docs=2 by rw [HN,if_pos ⟨docs[k],List.getElem_mem hlt,by omega⟩])
     go_wp2_with fail
     go_ret2
     exact ⟨Below.refl _ _,.inl ⟨by rw [HBN]; decide,by rw [HBN]; rfl⟩⟩
   ·obtain rfl:k=docs.length:=by omega
    have hall:∀ d∈docs,d.size≤200:=fun d hd=>HA d (by rw [List.take_length]; exact hd)
    have hb:buildNum docs=0:=by
     rw [HN,if_neg]
     rintro ⟨d,hd,h⟩
     have:=hall d hd
     omega
    have HBN:=Lib.hid hb
    have HALL:=Lib.hid hall
    clear hb hall HA HN
    obtain ⟨D,hD⟩:∃ D,D=docs.map wordsB:=⟨_,rfl⟩
    have hDl:D.length=docs.length:=by rw [hD]; simp
    have hDat:∀ (i:Nat) (h:i < docs.length),D[i]?=some (wordsB docs[i]):=fun i h=>by rw [hD]; simp [h]
    have HDD:=Lib.hid hD
    have HDAT:=Lib.hid hDat
    clear hD hDat
    go_wp2_with fail
    have HX1:=Lib.hid (HX0 w (Nat.le_refl _))
    have HB1:Hid (Below w.heap.size w (w.alloc (.cells #[iV docs.length,.slice none 0 0,.slice none 0 0] 90))):=Lib.hid ((Below.refl _ w).alloc (Nat.le_refl _) _)
    have hz1:w.heap.size < (w.alloc (.cells #[iV docs.length,.slice none 0 0,.slice none 0 0] 90)).heap.size:=by simp
    obtain ⟨W1,hW1⟩:∃ W1,W1=(w.alloc (.cells #[iV docs.length,.slice none 0 0,.slice none 0 0] 90)):=⟨_,rfl⟩
    rw [← hW1] at HX1 HB1 hz1 ⊢
    clear hW1 HX0
    obtain ⟨B,hBw⟩:∃ B,B=w.heap.size:=⟨_,rfl⟩
    rw [← hBw] at HX1 HB1 hz1 ⊢
    have HBW:=Lib.hid hBw
    clear hBw
    go_loopw [6] (fun i wr=>∃ (k:Nat) (T:List (List UInt8)),k≤docs.length∧i = .int .i64 k∧Hid (TermsIn T (postsOf (D.take k)))∧T.length≤201 * k∧Hid (IndexIs B wr B docs.length T (postsOf (D.take k)))∧Hid (Below B w wr)∧B≤wr.heap.size) (fun i _=>docs.length - (intOf i).toNat)
    case atStart=>exact ⟨0,[],Nat.zero_le _,rfl,Lib.hid TermsIn.start,by simp,HX1,HB1,by omega⟩
    case round =>
     obtain ⟨k,T,hk,rfl,HT,hTl,HX,HB,hBr⟩:=hrel
     have q1:IntKind.i64.wrap ((k:Int)+1)=(k:Int)+1:=IntWalk.i64_in _ (by omega)
     by_cases hlt:k < docs.length
     ·obtain ⟨b,off,rfl,hcell0⟩:=HC.out k hlt
      have hcell:wr.cell? (aD b (off+k))=some (.string docs[k]):=(HB.cell (p:=(aD b (off+k))) (by rw [HBW]; exact lt_of_cell hcell0)).trans hcell0
      have h200:=HALL docs[k] (List.getElem_mem hlt)
      have hwl:(wordsB docs[k]).length≤201:=by have:=wordsB_length docs[k]; omega
      have hw16:∀ t∈wordsB docs[k],t.length≤16:=fun t ht=>(wordsB_mem ht).2
      have hdk:=HDAT k hlt
      obtain ⟨s,hs⟩:∃ s,s=docs[k]:=⟨_,rfl⟩
      rw [← hs] at hcell h200 hwl hw16 hdk
      obtain ⟨ws,hws⟩:∃ ws,ws=wordsB s:=⟨_,rfl⟩
      have hwords:=fun W=>words_law s W (by omega)
      rw [← hws] at hwl hw16 hdk hwords
      have HDK:=Lib.hid hdk
      have HW16:=Lib.hid hw16
      have HWORDS:=Lib.hid hwords
      clear hs hws hdk hw16 hwords hcell0
      go_upto_region 13 with (go_at_call 62; refine (HWORDS wr).mono ?_; rintro e w2 ⟨ov,rfl,hst⟩; have HST:=Lib.hid hst; clear hst)
      have hb2:=HST.below
      have hr2:=HST.row
      have HX2:=Lib.hid (HX.below hb2)
      have HB2:=Lib.hid (HB.trans (hb2.mono hBr))
      have hBr2:=Nat.le_trans hBr hb2.size
      have HR2:=Lib.hid hr2
      obtain ⟨oa,oc,rfl⟩:=ownsRow_form hr2
      have HDT:Hid (D.take (k+1)=D.take k++[ws]):=Lib.hid (by
       rw [List.take_succ_eq_append_getElem (by omega)]
       congr 2
       have:=HDK.out
       rw [List.getElem?_eq_getElem (by omega)] at this
       exact Option.some.inj this)
      have hDk:(D.take k).length=k:=by rw [List.length_take]; omega
      obtain ⟨Dk,hDD⟩:∃ Dk,Dk=D.take k:=⟨_,rfl⟩
      rw [← hDD] at HT HX2 HDT hDk
      clear hDD HX HB HST hb2 hr2 HWORDS hcell
      go_wp2_with fail
      go_loopw [8] (fun i wx=>∃ (j:Nat) (T:List (List UInt8)),j≤ws.length∧i = .int .i64 j∧Hid (TermsIn T (postsOf (Dk++[ws.take j])))∧T.length≤201 * k+j∧Hid (IndexIs B wx B docs.length T (postsOf (Dk++[ws.take j])))∧Hid (Below B w wx)∧B≤wx.heap.size∧Hid (wx.ownsRow 0 9 1 (.slice oa ws.length oc) ws.length (ws.map strV))) (fun i _=>ws.length - (intOf i).toNat)
      case atStart=>exact ⟨0,T,Nat.zero_le _,rfl,by rw [List.take_zero,postsOf_nil]; exact HT,by omega,by rw [List.take_zero,postsOf_nil]; exact HX2,HB2,hBr2,HR2⟩
      case round =>
       clear HX2 HB2 hBr2 HR2 HT hTl
       obtain ⟨j,T3,hj,rfl,HT,hTl,HX2,HB2,hBr2,HR2⟩:=hrel
       have q2:IntKind.i64.wrap ((j:Int)+1)=(j:Int)+1:=IntWalk.i64_in _ (by omega)
       by_cases hjl:j < ws.length
       ·obtain ⟨g,cap,e1,hc⟩:=strRow_cell HR2 hjl
        simp only [Value.slice.injEq,true_and] at e1
        obtain ⟨rfl,rfl⟩:=e1
        have z1:(0:Int)≤(j:Int)∧(j:Int) < (ws.length:Int):=by omega
        have h16:=HW16 ws[j] (List.getElem_mem hjl)
        have HTK:=Lib.hid (List.take_succ_eq_append_getElem hjl)
        have hadd:=add_law ws[j] k B B docs.length T3 (postsOf (Dk++[ws.take j])) wr HX2.out hBr2 (by omega) (by have:=postsOf_length (Dk++[ws.take j]) ws[j]; simp at this; omega) (by omega) (fun hn=>by
         rcases List.eq_nil_or_concat (postsOf (Dk++[ws.take j]) ws[j]) with h0 | ⟨l2,z,h0⟩
         ·exact h0
         ·exact absurd ((HT.mem _).2 (by rw [h0]; simp)) hn) HT.rise
        generalize ws[j]=x at *
        unfold ptrV strV at hadd
        have HADD:=Lib.hid hadd
        clear hadd
        go_upto_region 15 with (go_at_call 63; refine HADD.mono ?_; rintro e w4 ⟨rfl,hb4,hk4,kk,hpl,hx4⟩; have H4:=Lib.hid (And.intro hb4 (And.intro hk4 (And.intro hpl hx4))); clear hb4 hk4 hpl hx4)
        go_wp2_with fail
        go_roundw
        case rel =>
         obtain ⟨hb4,hk4,hpl,hx4⟩:=H4.out
         have hp4:=addD_posts Dk (ws.take j) x
         rw [hDk,← HTK] at hp4
         rw [hp4] at hx4
         have ht4:=HT.add (d:=k) hpl
         rw [hp4] at ht4
         exact ⟨j+1,_,by omega,by go_num,Lib.hid ht4,by have:=add_length (x:=x) (T:=T3) hpl.1; omega,Lib.hid hx4,Lib.hid (HB2.trans hb4),Nat.le_trans hBr2 hb4.size,Lib.hid (hk4.row HR2.out (by decide) (by decide) (by decide))⟩
        case measure=>(simp [intOf]) <;> omega
       ·obtain rfl:j=ws.length:=by omega
        go_wp2_with fail
        refine ⟨⟨k+1,T3,by omega,by go_num,?_,by omega,?_,HB2,hBr2⟩,by simp [intOf]; omega⟩
        ·rw [HDT]
         have:=HT
         rw [List.take_length] at this
         exact this
        ·rw [HDT]
         have:=HX2
         rw [List.take_length] at this
         exact this
     ·obtain rfl:k=docs.length:=by omega
      go_wp2_with fail
      go_ret2
      refine ⟨by rw [← HBW]; exact HB,.inr ⟨HBN,B,rfl,?_⟩⟩
      rw [← HBW,← HDD]
      have e1:D.take docs.length=D:=by rw [← hDl,List.take_length]
      have h1:=HT.out
      have h2:=HX.out
      rw [e1] at h1 h2
      exact ⟨T,h1,by omega,by rw [hDl]; exact h2⟩
end Go.Proofs.Tl
namespace Go.Proofs.Tl
open Go Go.RowKit Go.Proofs.Ts
theorem pre_take {a t:List UInt8} (h:a.length≤t.length):decide (a <+: t)=((ByteArray.extract ⟨t.toArray⟩ 0 a.length).toList == a):=by
 rw [Go.ByteArray.toList_eq,Bool.eq_iff_iff,decide_eq_true_eq,beq_iff_eq,List.prefix_iff_eq_take]
 simp [ByteArray.data_extract]
 exact eq_comm
end Go.Proofs.Tl
namespace Go.Proofs.Ts
open Go Go.RowKit Go.Extern.Stop Go.Stop Go.Extern
theorem rl_valueOfB (b:Nat) (w:World):(ReflectliteValue.unpack (.iface 131 (pT b))).run Tryz.prog w = .ok (.agg #[.pointer (some (aD 5 (131))),pT w.heap.size,uV 150]) (w.alloc (.cells #[pT b] 131)):=by kernel_rfl
theorem rl_typeB (a : Addr) (w : World) : (ReflectliteValue.methodAny (ReflectliteValue.valueError "reflectlite.Value.Type" 0) (fun t _ _ _ => ReflectliteType.toType t) #[.agg #[.pointer (some (aD 5 (131))), .pointer (some a), uV 150]]).run Tryz.prog w
  = .ok (.iface 327 (.agg #[.pointer (some (aD 5 (131)))])) w:=by kernel_rfl
theorem rl_kindB (w:World):((ReflectliteType.abiMethod fun t=>(fun a:Nat=>Value.int IntKind.u8 (a:Int)) <$> Rtype.kind t) #[.pointer (some (aD 5 (131)))]).run Tryz.prog w = .ok (.int .u8 22) w:=by kernel_rfl
theorem rl_kindP (w:World):((ReflectliteType.abiMethod fun t=>(fun a:Nat=>Value.int IntKind.u8 (a:Int)) <$> Rtype.kind t) #[.pointer (some (aD 5 (129)))]).run Tryz.prog w = .ok (.int .u8 22) w:=by kernel_rfl
theorem rl_partsB (a:Addr) (w:World):(ReflectliteValue.parts (.agg #[.pointer (some (aD 5 (131))),.pointer (some a),uV 150])).run Tryz.prog w = .ok (some (131,a,150)) w:=by kernel_rfl
theorem rl_isNilB (a p:Addr) (W:World) (ha:W.cell? a=some (.pointer (some p))) :
  (ReflectliteValue.method (ReflectliteValue.valueError "reflectlite.Value.IsNil" 0) ReflectliteValue.isNil #[.agg #[.pointer (some (aD 5 (131))), .pointer (some a), uV 150]]).run Tryz.prog W = .ok (.bool false) W := by
 rw [rlm]
 simp only [Sem.run_bind,rl_partsB,Result.andThen]
 simp [ReflectliteValue.isNil,loadVar,isAgg,underlying,Tryz.underlying131,ha,Result.andThen]
theorem rl_elemB (w:World):(ReflectliteType.method ReflectliteType.elem #[.agg #[.pointer (some (aD 5 (131)))]]).run Tryz.prog w = .ok (.iface 327 (.agg #[.pointer (some (aD 5 (129)))])) w:=by kernel_rfl
theorem rl_implementsP (w : World) : (ReflectliteType.relation "Implements" ReflectliteType.implements_ #[.agg #[.pointer (some (aD 5 (129)))], .iface 327 (.agg #[.pointer (some (aD 5 (76)))])]).run Tryz.prog w = .ok (.bool true) w := by kernel_rfl
theorem rl_assignableP (w : World) : (ReflectliteType.relation "AssignableTo" ReflectliteType.assignableTo #[.agg #[.pointer (some (aD 5 (43)))], .iface 327 (.agg #[.pointer (some (aD 5 (129)))])]).run Tryz.prog w = .ok (.bool false) w := by kernel_rfl
theorem rl_noAs (v:Value) (xT:TypeId) (w:World):(Instr.typeAssert (.iface 43 v) xT 331 true).run Tryz.prog w = .ok (.tuple #[.nilIface,.bool false]) w:=run_typeAssert_lacksB Tryz.underlying331 (by kernel_rfl) (by kernel_rfl) v xT w
theorem rl_noUnwrap (v:Value) (xT:TypeId) (w:World):(Instr.typeAssert (.iface 43 v) xT 334 true).run Tryz.prog w = .ok (.tuple #[.nilIface,.bool false]) w:=run_typeAssert_lacksB Tryz.underlying334 (by kernel_rfl) (by kernel_rfl) v xT w
theorem rl_noUnwraps (v:Value) (xT:TypeId) (w:World):(Instr.typeAssert (.iface 43 v) xT 336 true).run Tryz.prog w = .ok (.tuple #[.nilIface,.bool false]) w:=run_typeAssert_lacksB Tryz.underlying336 (by kernel_rfl) (by kernel_rfl) v xT w
set_option maxHeartbeats 4000000 in
theorem as_bad (k:Int) (b:Nat) (w:World) (hg:ErrIn w) :
  Calls Tryz.prog 69 #[.iface 43 (iV k),.iface 131 (pT b)] w fun ev w'=>ev = .returned (.bool false)∧Below w.heap.size w w':=by
 have h6:=@run_callFunc_extern Tryz.prog 108 _ (fun args=>ReflectliteValue.unpack (args.getD 0 (.tuple #[]))) Tryz.func108 (by kernel_rfl) (by kernel_rfl) (by kernel_rfl) (by kernel_rfl)
 have h7 := @run_callFunc_extern Tryz.prog 109 _ (ReflectliteValue.methodAny (ReflectliteValue.valueError "reflectlite.Value.Type" 0) (fun t _ _ _ => ReflectliteType.toType t)) Tryz.func109 (by kernel_rfl) (by kernel_rfl) (by kernel_rfl) (by kernel_rfl)
 have h8 := @run_callFunc_extern Tryz.prog 110 _ (ReflectliteValue.method (ReflectliteValue.valueError "reflectlite.Value.IsNil" 0) ReflectliteValue.isNil) Tryz.func110 (by kernel_rfl) (by kernel_rfl) (by kernel_rfl) (by kernel_rfl)
 have h27:=@run_callFunc_extern Tryz.prog 281 _ (ReflectliteType.abiMethod fun t=>do pure (.int .u8 (← Rtype.kind t))) Tryz.func281 (by kernel_rfl) (by kernel_rfl) (by kernel_rfl) (by kernel_rfl)
 have h37:=@run_callFunc_extern Tryz.prog 304 _ (ReflectliteType.method ReflectliteType.elem) Tryz.func304 (by kernel_rfl) (by kernel_rfl) (by kernel_rfl) (by kernel_rfl)
 have h38 := @run_callFunc_extern Tryz.prog 305 _ (ReflectliteType.relation "Implements" ReflectliteType.implements_) Tryz.func305 (by kernel_rfl) (by kernel_rfl) (by kernel_rfl) (by kernel_rfl)
 have h10:=@run_callFunc_extern Tryz.prog 112 _ ReflectliteType.typeOf Tryz.func112 (by kernel_rfl) (by kernel_rfl) (by kernel_rfl) (by kernel_rfl)
 have h35 := @run_callFunc_extern Tryz.prog 302 _ (ReflectliteType.relation "AssignableTo" ReflectliteType.assignableTo) Tryz.func302 (by kernel_rfl) (by kernel_rfl) (by kernel_rfl) (by kernel_rfl)
 have h11 := @run_callFunc_extern Tryz.prog 157 _ (ReflectliteValue.method (ReflectliteValue.valueError "reflectlite.Value.Elem" 0) ReflectliteValue.elem) Tryz.func157 (by kernel_rfl) (by kernel_rfl) (by kernel_rfl) (by kernel_rfl)
 have h12:=@run_callFunc_extern Tryz.prog 158 _ ReflectliteValue.set Tryz.func158 (by kernel_rfl) (by kernel_rfl) (by kernel_rfl) (by kernel_rfl)
 have tO:=rl_typeOfN
 have mA:=rl_methodAssignable
 have a25:=rl_assignableP
 have f6:=rl_valueOfB
 have f7:=rl_typeB
 have mK:=rl_methodKind
 have mE:=rl_methodElem
 have mI:=rl_methodImplements
 have k27:=rl_kindB
 have k25:=rl_kindP
 have e27:=rl_elemB
 have i25:=rl_implementsP
 have n8:=rl_isNilB (aD w.heap.size 0) (aD b 0) ((w.alloc (.cells #[pT b] 131)).alloc (.cells #[.pointer (some (aD 5 (131))),pT w.heap.size,uV 150] 219)) (by simp)
 have hlt:0 < w.heap.size:=lt_of_cell hg
 unfold ErrIn at hg
 have hg2:((w.alloc (.cells #[pT b] 131)).alloc (.cells #[.pointer (some (aD 5 (131))),pT w.heap.size,uV 150] 219)).cell? (aD 0 0)=some (.iface 327 (.agg #[.pointer (some (aD 5 (76)))])):=by
  rw [World.cell?_alloc_lt _ _ (aD 0 0) (by simp),World.cell?_alloc_lt _ _ (aD 0 0) hlt]; exact hg
 have n1:=rl_noAs
 have n2:=rl_noUnwrap
 have n3:=rl_noUnwraps
 go_enter Tryz.func69,Tryz.ntmps69
 go_wp2
 refine wp_loop_rounds 1 ?_
 rw [rounds_succ]
 go_wp2
 go_ret
 exact ⟨rfl,(((Below.refl _ w).alloc (Nat.le_refl _) _).alloc (by simp) _).alloc (by simp; omega) _⟩
end Go.Proofs.Ts
namespace Go.Proofs.Ts
open Go Go.RowKit Go.Extern.Stop Go.Stop Go.Extern
theorem rl_comparableN (w : World) : (ReflectliteType.method (fun t => do Rtype.noPackHeld "Comparable" t; (fun a => Value.bool a.comparable) <$> typeInfo t) #[.agg #[.pointer (some (aD 5 (43)))]]).run Tryz.prog w = .ok (.bool true) w := by kernel_rfl
theorem errno_comparable:(Tryz.prog.info? 43).map (·.comparable)=some true:=by kernel_rfl
theorem run_eql_iface_int {P:Program} {ti tp:TypeId} {ms:Array (String × TypeId)} {i:TypeInfo} {kk:IntKind} (k:Int) (w:World) (hi:P.underlying ti=some (.interface ms)) (hp:P.underlying tp=some (.int kk)) (hinfo:P.info? tp=some i) (hcomp:i.comparable=true) :
  (binOp .eql ti (.iface tp (iV k)) (.iface tp (iV k))).run P w = .ok (.bool true) w:=by
 have h:∀ d:Nat,(Op.equalIn (d+2) ti (.iface tp (iV k)) (.iface tp (iV k))).run P w = .ok true w:=fun d=>by
  simp [Op.equalIn,run_underlying hi,run_underlying hp,typeInfo,hinfo,hcomp]
 simp only [binOp]
 simp [Op.equal,Op.maxDepth,h 9998]
theorem eq_errno (k:Int) (w:World):(binOp BinOp.eql 76 (.iface 43 (iV k)) (.iface 43 (iV k))).run Tryz.prog w = .ok (.bool true) w:=by
 obtain ⟨i,hi,hc⟩:=Option.map_eq_some_iff.1 errno_comparable
 exact run_eql_iface_int k w Tryz.underlying76 Tryz.underlying43 hi hc
set_option maxRecDepth 100000 in
set_option maxHeartbeats 4000000 in
theorem is_self (k:Int) (w:World):Calls Tryz.prog 70 #[.iface 43 (iV k),.iface 43 (iV k)] w fun ev w'=>ev = .returned (.bool true)∧Below w.heap.size w w':=by
 have h10:=@run_callFunc_extern Tryz.prog 112 _ ReflectliteType.typeOf Tryz.func112 (by kernel_rfl) (by kernel_rfl) (by kernel_rfl) (by kernel_rfl)
 have h35 := @run_callFunc_extern Tryz.prog 303 _ (ReflectliteType.method (fun t => do Rtype.noPackHeld "Comparable" t; pure (.bool (← typeInfo t).comparable))) Tryz.func303 (by kernel_rfl) (by kernel_rfl) (by kernel_rfl) (by kernel_rfl)
 have tO:=rl_typeOfN
 have mC:=rl_methodComparable
 have cN:=rl_comparableN
 have eE:=eq_errno
 go_enter Tryz.func70,Tryz.ntmps70
 go_wp2
 refine wp_loop_rounds 1 ?_
 rw [rounds_succ]
 go_wp2
 go_ret
 exact ⟨rfl,Below.refl _ _⟩
set_option maxRecDepth 100000 in
set_option maxHeartbeats 4000000 in
theorem told_errno (k:Int) (w:World) (hg:ErrIn w):Calls Tryz.prog 40 #[.iface 43 (iV k)] w fun e w'=>e = .returned (.tuple #[iV k,iV (-1)])∧Below w.heap.size w w':=by
 have HG:=Lib.hid hg
 clear hg
 go_enter Tryz.func40,Tryz.ntmps40
 go_upto_region 5 with fail
 have HBE:=Lib.hid (show Below w.heap.size w ((w.alloc (.cells #[.pointer none] 129)).alloc (.cells #[iV 0] 43)) from ((Below.refl _ w).alloc (Nat.le_refl _) _).alloc (by simp) _)
 have hb5:=heap_alloc_new (w.alloc (.cells #[.pointer none] 129)) (.cells #[iV 0] 43)
 rw [World.size_alloc] at hb5
 generalize ((w.alloc (.cells #[.pointer none] 129)).alloc (.cells #[iV 0] 43))=W at *
 have HB5:=Lib.hid hb5
 clear hb5
 go_upto_region 7 with (go_at_call 69; refine (as_bad k w.heap.size W (HG.below HBE)).mono ?_; rintro e w1 ⟨rfl,hb1⟩)
 have hb51:=(hb1.block _ (lt_of_heap HB5)).trans HB5
 have hbw1:Below w.heap.size w w1:=HBE.trans (hb1.mono HBE.size)
 have HIT:=Lib.hid (as_hit k (w.heap.size+1) _ w1 (HG.below hbw1) (cell_block (i:=0) hb51) (free_block hb51))
 have HBW1:=Lib.hid hbw1
 have HB51:=Lib.hid hb51
 clear hbw1 hb1 hb51
 go_wp2_with (first
  | (go_at_call 69; refine HIT.mono ?_; rintro e w2 ⟨rfl,w3,hb3,rfl⟩; have hb53:=(hb3.block _ (lt_of_heap HB51)).trans HB51; have cE:(w3.setCell (aD (w.heap.size+1) 0) (iV k)).cell? (aD (w.heap.size+1) 0)=some (iV k):=World.cell?_setCell_same' _ _ _ (by rw [cell_block hb53]; rfl); have HB3:=Lib.hid hb3; clear hb3 hb53)
  | (go_at_call 70; refine (is_self k _).mono ?_; rintro e w4 ⟨rfl,hb4⟩; have cE4:=(hb4.cell (p:=(aD (w.heap.size+1) 0)) (lt_of_cell cE)).trans cE; have HB4:=Lib.hid hb4; clear hb4))
 go_ret2
 have h1:Below w.heap.size w w3:=HBW1.trans (HB3.mono HBW1.size)
 have h2:Below w.heap.size w (w3.setCell (aD (w.heap.size+1) 0) (iV k)):=h1.setCell (p:=(aD (w.heap.size+1) 0)) (by simp) _
 exact ⟨rfl,h2.trans (HB4.mono h2.size)⟩
end Go.Proofs.Ts
namespace Go.Proofs.Tl
open Go Go.RowKit Go.Proofs.Ts
structure IOut (w w':World):Prop where
 os:w'.os=w.os
 tape:w'.tape=w.tape
 output:w'.output=w.output
theorem IOut.refl (w:World):IOut w w:=⟨rfl,rfl,rfl⟩
theorem IOut.trans {a b c:World} (h:IOut a b) (k:IOut b c):IOut a c:=⟨k.os.trans h.os,k.tape.trans h.tape,k.output.trans h.output⟩
theorem IOut.below {B:Nat} {a b:World} (h:Below B a b):IOut a b:=⟨h.os,h.tape,h.output⟩
theorem IOut.mod {S:Nat→Prop} {a b:World} (h:Mod S a b):IOut a b:=⟨h.os,h.tape,h.output⟩
structure Keeps (M:Nat→Prop) (w w':World):Prop where
 io:IOut w w'
 size:w.heap.size≤w'.heap.size
 block:∀ k,k < w.heap.size → ¬ M k→w'.heap[k]?=w.heap[k]?
theorem Keeps.refl (M:Nat→Prop) (w:World):Keeps M w w:=⟨IOut.refl _,Nat.le_refl _,fun _ _ _=>rfl⟩
def Box (M:Nat→Prop) (X:World→Prop) (w:World):Prop:=∀ w',Keeps M w w'→X w'
section
variable {M M':Nat→Prop} {X Y:World→Prop} {w w':World}
theorem Box.out (h:Box M X w):X w:=h w (Keeps.refl _ _)
theorem Box.wider (h:Box M X w) (hk:Keeps M w w') (hM:∀ k,k < w.heap.size→M' k→M k):Box M' X w':=fun w2 h2 =>
 h w2 ⟨hk.io.trans h2.io,Nat.le_trans hk.size h2.size,fun k hl hn=>(h2.block k (Nat.lt_of_lt_of_le hl hk.size) fun hm=>hn (hM k hl hm)).trans (hk.block k hl hn)⟩
theorem Box.mono (h:Box M X w) (f:∀ w,X w→Y w):Box M Y w:=fun w2 h2=>f w2 (h w2 h2)
end
inductive Tag where
 | hub | xs | ms | ns | bs
 | seg (i:Nat) | known (i:Nat)
 | real (i:Nat) | want (i:Nat)
 | breal (i:Nat) | bwant (i:Nat)
deriving DecidableEq
def Mut (own:Nat→Option Tag) (k:Nat):Prop:=own k≠none
def Fix (ty:Nat):Prop:=Still ty∨ty=24
instance (t:Nat):Decidable (Fix t):=inferInstanceAs (Decidable (_∨_))
def Soft (w:World) (k:Nat):Prop:=∀ cs ty r,w.heap[k]?=some (.cells cs ty r) → ¬ Fix ty
theorem Soft.of_block {w w':World} {k:Nat} (h:Soft w k) (hb:w'.heap[k]?=w.heap[k]?):Soft w' k:=fun cs ty r e=>h cs ty r (hb.symm.trans e)
theorem Soft.cells {w:World} {k:Nat} {cs:Array Value} {ty:TypeId} {r:Nat × Nat} (h:w.heap[k]?=some (.cells cs ty r)) (ht:¬ Fix ty):Soft w k:=fun cs' ty' r' e=>by
 rw [h] at e
 cases e
 exact ht
theorem Soft.row {w:World} {B e size n:Nat} {v:Value} {xs:List Value} (h:w.ownsRow B e size v n xs) (he:¬ Fix e) {k:Nat} (hk:v.ownBlock=some k):Soft w k:=by
 rcases h.2 with ⟨rfl,_⟩ | ⟨g,cap,cur,rfl,_,hg,_⟩
 ·cases hk
 ·cases hk
  exact Soft.cells hg he
open Classical in
noncomputable def drop (T:Tag→Prop) (own:Nat→Option Tag) (k:Nat):Option Tag:=match own k with
 | some t=>if T t then none else some t
 | none=>none
theorem drop_none {T:Tag→Prop} {own:Nat→Option Tag} {k:Nat} (h:own k=none):drop T own k=none:=by unfold drop; rw [h]
theorem drop_off {T:Tag→Prop} {own:Nat→Option Tag} {k:Nat} {t:Tag} (h:own k=some t) (ht:T t):drop T own k=none:=by unfold drop; rw [h]; exact if_pos ht
theorem drop_on {T:Tag→Prop} {own:Nat→Option Tag} {k:Nat} {t:Tag} (h:own k=some t) (ht:¬ T t):drop T own k=some t:=by unfold drop; rw [h]; exact if_neg ht
theorem drop_some {T:Tag→Prop} {own:Nat→Option Tag} {k:Nat} {t:Tag} (h:drop T own k=some t):own k=some t ∧ ¬ T t:=by
 cases ho:own k with
 | none=>rw [drop_none ho] at h; cases h
 | some s =>
  by_cases hs:T s
  ·rw [drop_off ho hs] at h; cases h
  ·rw [drop_on ho hs] at h
   cases h
   exact ⟨rfl,hs⟩
structure Step (T:Tag→Prop) (w:World) (own:Nat→Option Tag) (w':World) (own':Nat→Option Tag):Prop where
 io:IOut w w'
 size:w.heap.size≤w'.heap.size
 keep:∀ k t,own k=some t → ¬ T t→own' k=some t∧w'.heap[k]?=w.heap[k]?
 rest:∀ k,k < w.heap.size→own k=none→w'.heap[k]?=w.heap[k]?∧own' k=none
 dom:∀ k,own' k≠none→k < w'.heap.size
 soft:∀ k t,own' k=some t→(own k=some t ∧ ¬ T t)∨Soft w' k
section
variable {T:Tag→Prop} {w w':World} {own own':Nat→Option Tag}
theorem Step.base (hd:∀ k,own k≠none→k < w.heap.size) (hs:w.heap.size≤w'.heap.size) (hio:IOut w w') (hk:∀ k,k < w.heap.size→(∀ t,own k=some t → ¬ T t)→w'.heap[k]?=w.heap[k]?):Step T w own w' (drop T own):=by
 refine ⟨hio,hs,fun k t h ht=>⟨drop_on h ht,hk k (hd k (by rw [h]; simp)) fun s h'=>by rw [h] at h'; cases h'; exact ht⟩,fun k hl h=>⟨hk k hl (fun s h'=>by rw [h] at h'; cases h'),drop_none h⟩,fun k h=>?_,fun k t h => .inl (drop_some h)⟩
 cases ho:drop T own k with
 | none=>exact absurd ho h
 | some t=>exact Nat.lt_of_lt_of_le (hd k (by rw [(drop_some ho).1]; simp)) hs
def tagged (own:Nat→Option Tag) (t:Tag) (b:Option Nat) (k:Nat):Option Tag:=if b=some k then some t else own k
theorem tagged_at {t:Tag} {b:Option Nat} {k:Nat} (h:b=some k):tagged own t b k=some t:=if_pos h
theorem tagged_off {t:Tag} {b:Option Nat} {k:Nat} (h:b≠some k):tagged own t b k=own k:=if_neg h
theorem Step.tag (h:Step T w own w' own') (t:Tag) (b:Option Nat) (hb:∀ k,b=some k→(w.heap.size≤k∨own k=some t)∧k < w'.heap.size∧own' k=none∧Soft w' k):Step T w own w' (tagged own' t b):=by
 refine ⟨h.io,h.size,fun k s hk hs=>?_,fun k hl hk=>?_,fun k hk=>?_,fun k s hk=>?_⟩
 ·have h1:=h.keep k s hk hs
  refine ⟨?_,h1.2⟩
  rw [tagged_off,h1.1]
  intro e
  have:=(hb k e).2.2.1
  rw [h1.1] at this
  cases this
 ·have h1:=h.rest k hl hk
  refine ⟨h1.1,?_⟩
  rw [tagged_off,h1.2]
  intro e
  rcases (hb k e).1 with h2 | h2
  ·omega
  ·rw [hk] at h2; cases h2
 ·by_cases e:b=some k
  ·exact (hb k e).2.1
  ·rw [tagged_off e] at hk
   exact h.dom k hk
 ·by_cases e:b=some k
  ·exact .inr (hb k e).2.2.2
  ·rw [tagged_off e] at hk
   exact h.soft k s hk
theorem Step.keeps (h:Step T w own w' own'):Keeps (Mut own) w w':=⟨h.io,h.size,fun k hl hn=>(h.rest k hl (Classical.not_not.1 hn)).1⟩
theorem Step.box {X:World→Prop} (h:Step T w own w' own') (hx:Box (Mut own) X w):Box (Mut own') X w':=hx.wider h.keeps fun k hl hm he=>hm (h.rest k hl he).2
theorem Step.still (h:Step T w own w' own') (hs:∀ k,own k≠none→Soft w k):StillKept w w':=fun k cs t r hk ht=>(h.rest k (lt_of_heap hk) (Classical.byContradiction fun hn=>hs k hn cs t r hk (.inl ht))).1
theorem Step.softs (h:Step T w own w' own') (hs:∀ k,own k≠none→Soft w k):∀ k,own' k≠none→Soft w' k:=fun k hk=>by
 obtain ⟨t,ht⟩:=Option.ne_none_iff_exists'.1 hk
 rcases h.soft k t ht with ⟨h1,h2⟩ | h1
 ·exact (hs k (by rw [h1]; simp)).of_block (h.keep k t h1 h2).2
 ·exact h1
end
def tyNo (w:World) (k:Nat):Nat:=match w.heap[k]? with
 | some (.cells _ t _)=>t+1
 | _=>0
def clsNo (w:World) (z k:Nat):Nat:=if (tyNo w k=3+1∨tyNo w k=5+1)∧z≤k then 100000 else tyNo w k
theorem tyNo_cells {w:World} {k:Nat} {cs:Array Value} {t:TypeId} {r:Nat × Nat} (h:w.heap[k]?=some (.cells cs t r)):tyNo w k=t+1:=by unfold tyNo; rw [h]
theorem tyNo_row {w:World} {B e size n k:Nat} {v:Value} {xs:List Value} (h:w.ownsRow B e size v n xs) (hk:v.ownBlock=some k):tyNo w k=e+1:=by
 rcases h.2 with ⟨rfl,_⟩ | ⟨g,cap,cur,rfl,_,hg,_⟩
 ·cases hk
 ·cases hk
  exact tyNo_cells hg
theorem clsNo_far {w:World} {z k:Nat} (h:tyNo w k=3+1∨tyNo w k=5+1) (hz:z≤k):clsNo w z k=100000:=if_pos ⟨h,hz⟩
theorem clsNo_near {w:World} {z k n:Nat} (h:tyNo w k=n) (hz:k < z∨(n≠3+1∧n≠5+1)):clsNo w z k=n:=by
 unfold clsNo
 rw [if_neg,h]
 rintro ⟨h1,h2⟩
 rw [h] at h1
 omega
theorem Step.make {T:Tag→Prop} {w w':World} {own:Nat→Option Tag} (hd:∀ k,own k≠none→k < w.heap.size) (hs:w.heap.size≤w'.heap.size) (hio:IOut w w') (hk:∀ k,k < w.heap.size→(∀ t,own k=some t → ¬ T t)→w'.heap[k]?=w.heap[k]?) (c:Nat→Nat) :
  ∀ (l:List (Tag × Option Nat × Nat)),(∀ p∈l,∀ k,p.2.1=some k→(w.heap.size≤k∨(own k=some p.1∧T p.1))∧k < w'.heap.size∧Soft w' k∧c k=p.2.2)→(l.map (·.2.2)).Nodup →
  ∃ own',Step T w own w' own'∧(∀ p∈l,∀ k,p.2.1=some k→own' k=some p.1) ∧ ∀ k,own' k≠none→(∃ t,own k=some t ∧ ¬ T t) ∨ ∃ p∈l,p.2.1=some k
 | [],_,_=>⟨_,Step.base hd hs hio hk,(fun p hp=>by cases hp),fun k h=>by
  obtain ⟨t,ht⟩:=Option.ne_none_iff_exists'.1 h
  exact .inl ⟨t,drop_some ht⟩⟩
 | p :: l,hl,hn=>by
  rw [List.map_cons,List.nodup_cons] at hn
  obtain ⟨own1,h1,h2,h3⟩:=Step.make hd hs hio hk c l (fun q hq=>hl q (List.mem_cons_of_mem _ hq)) hn.2
  have hoff:∀ k,p.2.1=some k→own1 k=none:=fun k e=>by
   obtain ⟨a1,a2,a3,a4⟩:=hl p List.mem_cons_self k e
   refine Classical.byContradiction fun hc=>?_
   rcases h3 k hc with ⟨t,h4,h5⟩ | ⟨q,hq,h4⟩
   ·rcases a1 with a1 | ⟨a1,a5⟩
    ·have:=hd k (by rw [h4]; simp)
     omega
    ·rw [h4] at a1
     cases a1
     exact h5 a5
   ·have:=(hl q (List.mem_cons_of_mem _ hq) k h4).2.2.2
    rw [a4] at this
    exact hn.1 (by rw [this]; exact List.mem_map.2 ⟨q,hq,rfl⟩)
  refine ⟨_,h1.tag p.1 p.2.1 fun k e=>?_,fun q hq k e=>?_,fun k e=>?_⟩
  ·obtain ⟨a1,a2,a3,a4⟩:=hl p List.mem_cons_self k e
   exact ⟨a1.imp id (·.1),a2,hoff k e,a3⟩
  ·rcases List.mem_cons.1 hq with rfl | hq
   ·exact tagged_at e
   ·by_cases hp:p.2.1=some k
    ·have:=hoff k hp
     rw [h2 q hq k e] at this
     cases this
    ·rw [tagged_off hp]
     exact h2 q hq k e
  ·by_cases hp:p.2.1=some k
   ·exact .inr ⟨p,List.mem_cons_self,hp⟩
   ·rw [tagged_off hp] at e
    rcases h3 k e with h | ⟨q,hq,h⟩
    ·exact .inl h
    ·exact .inr ⟨q,List.mem_cons_of_mem _ hq,h⟩
end Go.Proofs.Tl
namespace Go.Proofs.Tl
open Go Go.RowKit Go.Proofs.Ts
structure SegE where
 sb:Nat
 mb:Nat
 D:List (List (List UInt8))
 kn:Value
structure NumE where
 real:Value
 want:Value
 L:List Int
structure BytE where
 real:Value
 want:Value
 L:List Int
def SegRest (w:World) (D:List (List (List UInt8))) (db:Nat) (R:Nat→Prop) (Λ:Nat→List Word) (ρ:Nat→Nat) (Dd:List DS) (pv:Value) (ps:List Value):Prop :=
 DictIs w db R Λ ρ Dd∧(Λ 0).Pairwise (fun a b=>a < b)∧(∀ x,x∈Λ 0↔postsOf D x≠[])∧(Λ 0).length≤10000∧(∀ x∈Λ 0,x.length≤16) ∧
  w.ownsRow 0 24 1 pv (Λ 0).length ps ∧ ∀ (i:Nat) v x,ps[i]?=some v→(Λ 0)[i]?=some x→w.ownsRow 0 3 1 v (postsOf D x).length ((postsOf D x).map intV)
def RowT (w:World) (own:Nat→Option Tag) (t:Tag) (e size n:Nat) (v:Value) (xs:List Value):Prop:=w.ownsRow 0 e size v n xs ∧ ∀ k,v.ownBlock=some k→own k=some t
theorem RowT.step {T:Tag→Prop} {w w':World} {own own':Nat→Option Tag} {t:Tag} {e size n:Nat} {v:Value} {xs:List Value} (h:RowT w own t e size n v xs) (hs:Step T w own w' own') (ht:¬ T t):RowT w' own' t e size n v xs :=
 ⟨ownsRow_block h.1 fun k hk=>(hs.keep k t (h.2 k hk) ht).2,fun k hk=>(hs.keep k t (h.2 k hk) ht).1⟩
structure SegOk (w:World) (own:Nat→Option Tag) (i:Nat) (e:SegE):Prop where
 ex:∃ db R Λ ρ Dd pv ps,w.heap[e.sb]?=some (segObj e.D.length db pv 0 e.kn)∧Box (Mut own) (fun w=>SegRest w e.D db R Λ ρ Dd pv ps) w
 tag:own e.sb=some (.seg i)
 ktag:∀ k,e.kn = .map (some k)→own k=some (.known i)
 known:KnownIs 0 w e.kn
 index:Box (Mut own) (fun w=>IndexOf 0 w e.mb e.D) w
 few:e.D.length≤48
theorem known_turn {B:Nat} {w w':World} {kn:Value} (h:KnownIs B w kn) (hs:StillKept w w') (hm:∀ km,kn = .map (some km)→w'.heap[km]?=w.heap[km]?):KnownIs B w' kn:=by
 rcases h with h | ⟨km,m,h1,hB,h2,h3,h4⟩
 ·exact .inl h
 ·exact .inr ⟨km,m,h1,hB,h2.of_block (hm km h1),h3,fun q v hv=>by
   obtain ⟨pb,e,hp⟩:=h4 q v hv
   exact ⟨pb,e,hp.still hs⟩⟩
theorem SegOk.step {T:Tag→Prop} {w w':World} {own own':Nat→Option Tag} {i:Nat} {e:SegE} (h:SegOk w own i e) (hs:Step T w own w' own') (hf:∀ k,own k≠none→Soft w k) (h1:¬ T (.seg i)) (h2:¬ T (.known i)):SegOk w' own' i e:=by
 obtain ⟨db,R,Λ,ρ,Dd,pv,ps,hb,hr⟩:=h.ex
 exact ⟨⟨db,R,Λ,ρ,Dd,pv,ps,(hs.keep _ _ h.tag h1).2.trans hb,hs.box hr⟩,(hs.keep _ _ h.tag h1).1,fun k hk=>(hs.keep _ _ (h.ktag k hk) h2).1,known_turn h.known (hs.still hf) fun k hk=>(hs.keep _ _ (h.ktag k hk) h2).2,hs.box h.index,h.few⟩
structure NumOk (w:World) (own:Nat→Option Tag) (i:Nat) (e:NumE):Prop where
 real:IntsOf w e.real e.L
 want:IntsOf w e.want e.L
 rtag:∀ k,e.real.ownBlock=some k→own k=some (.real i)
 wtag:∀ k,e.want.ownBlock=some k→own k=some (.want i)
 few:e.L.length≤1000
theorem NumOk.step {T:Tag→Prop} {w w':World} {own own':Nat→Option Tag} {i:Nat} {e:NumE} (h:NumOk w own i e) (hs:Step T w own w' own') (h1:¬ T (.real i)) (h2:¬ T (.want i)):NumOk w' own' i e :=
 ⟨h.real.keep fun k hk=>(hs.keep _ _ (h.rtag k hk) h1).2,h.want.keep fun k hk=>(hs.keep _ _ (h.wtag k hk) h2).2,fun k hk=>(hs.keep _ _ (h.rtag k hk) h1).1,fun k hk=>(hs.keep _ _ (h.wtag k hk) h2).1,h.few⟩
def u8V (x:Int):Value := .int .u8 x
def BytesOf (w:World) (v:Value) (L:List Int):Prop:=w.ownsRow 0 5 1 v L.length (L.map u8V)
structure BytOk (w:World) (own:Nat→Option Tag) (i:Nat) (e:BytE):Prop where
 real:BytesOf w e.real e.L
 want:BytesOf w e.want e.L
 rtag:∀ k,e.real.ownBlock=some k→own k=some (.breal i)
 wtag:∀ k,e.want.ownBlock=some k→own k=some (.bwant i)
 few:e.L.length≤8000000
theorem BytOk.step {T:Tag→Prop} {w w':World} {own own':Nat→Option Tag} {i:Nat} {e:BytE} (h:BytOk w own i e) (hs:Step T w own w' own') (h1:¬ T (.breal i)) (h2:¬ T (.bwant i)):BytOk w' own' i e :=
 ⟨ownsRow_block h.real fun k hk=>(hs.keep _ _ (h.rtag k hk) h1).2,ownsRow_block h.want fun k hk=>(hs.keep _ _ (h.wtag k hk) h2).2,fun k hk=>(hs.keep _ _ (h.rtag k hk) h1).1,fun k hk=>(hs.keep _ _ (h.wtag k hk) h2).1,h.few⟩
def numCells (N:List NumE):List Value:=N.flatMap fun e=>[e.real,e.want]
def bytCells (N:List BytE):List Value:=N.flatMap fun e=>[e.real,e.want]
theorem bytCells_snoc (N:List BytE) (e:BytE):bytCells (N++[e])=bytCells N++[e.real,e.want]:=by unfold bytCells; rw [List.flatMap_append]; rfl
theorem pairs_get {α:Type} (f g:α→Value):∀ (N:List α) (i:Nat) (e:α),N[i]?=some e→(N.flatMap fun e=>[f e,g e])[2 * i]?=some (f e)∧(N.flatMap fun e=>[f e,g e])[2 * i+1]?=some (g e)
 | [],i,e,h=>by simp at h
 | a :: N,0,e,h=>by simp at h; subst h; simp
 | a :: N,i+1,e,h=>by
  have ih:=pairs_get f g N i e (by simpa using h)
  have e1:2 * (i+1)=2 * i+1+1:=by omega
  rw [List.flatMap_cons,e1]
  simpa using ih
structure Player (w:World) (own:Nat→Option Tag) (wb:Nat) (S:List SegE) (N:List NumE) (Bs:List BytE) (Env:World→Prop):Prop where
 dom:∀ k,own k≠none→k < w.heap.size
 soft:∀ k,own k≠none→Soft w k
 env:Box (Mut own) Env w
 tag:own wb=some .hub
 hub:∃ xv mv nv bv,w.heap[wb]?=some (.cells #[xv,mv,nv,bv] 32 (0,0)) ∧
  RowT w own .xs 49 1 S.length xv (S.map fun e=>ptrV e.sb)∧RowT w own .ms 50 1 S.length mv (S.map fun e=>ptrV e.mb) ∧
  RowT w own .ns 64 2 N.length nv (numCells N)∧RowT w own .bs 67 2 Bs.length bv (bytCells Bs)
 segs:∀ i e,S[i]?=some e→SegOk w own i e
 nums:∀ i e,N[i]?=some e→NumOk w own i e
 byts:∀ i e,Bs[i]?=some e→BytOk w own i e
theorem Player.below {w w':World} {own:Nat→Option Tag} {wb:Nat} {S:List SegE} {N:List NumE} {Bs:List BytE} {Env:World→Prop} (h:Player w own wb S N Bs Env) (hb:Below w.heap.size w w'):∃ own',Player w' own' wb S N Bs Env:=by
 have hs:=Step.base (T:=fun _=>False) h.dom hb.size (IOut.below hb) fun k hk _=>hb.block k hk
 obtain ⟨xv,mv,nv,bv,h1,h2,h3,h4,h5⟩:=h.hub
 exact ⟨_,hs.dom,hs.softs h.soft,hs.box h.env,(hs.keep _ _ h.tag id).1,⟨xv,mv,nv,bv,(hs.keep _ _ h.tag id).2.trans h1,h2.step hs id,h3.step hs id,h4.step hs id,h5.step hs id⟩,
  fun i e he=>(h.segs i e he).step hs h.soft id id,fun i e he=>(h.nums i e he).step hs id id,fun i e he=>(h.byts i e he).step hs id id⟩
def Plays (n:Nat) (w:World) (wb:Nat) (Env:World→Prop):Prop:=∃ own S N Bs,S.length≤n∧N.length≤n∧Bs.length≤n∧Player w own wb S N Bs Env
theorem Plays.below {n:Nat} {w w':World} {wb:Nat} {Env:World→Prop} (h:Plays n w wb Env) (hb:Below w.heap.size w w'):Plays n w' wb Env:=by
 obtain ⟨own,S,N,Bs,h1,h2,h3,h4⟩:=h
 obtain ⟨own',h5⟩:=h4.below hb
 exact ⟨own',S,N,Bs,h1,h2,h3,h5⟩
theorem Plays.mono {n m:Nat} {w:World} {wb:Nat} {Env:World→Prop} (h:Plays n w wb Env) (hm:n≤m):Plays m w wb Env:=by
 obtain ⟨own,S,N,Bs,h1,h2,h3,h4⟩:=h
 exact ⟨own,S,N,Bs,by omega,by omega,by omega,h4⟩
theorem Plays.env {n:Nat} {w:World} {wb:Nat} {Env:World→Prop} (h:Plays n w wb Env):Env w:=by
 obtain ⟨own,S,N,Bs,h1,h2,h3,h4⟩:=h
 exact h4.env.out
end Go.Proofs.Tl
namespace Go.Proofs.Tl
open Go Go.RowKit Go.Proofs.Ts
theorem far_below {B:Nat} {w w':World} {sb:Nat} {D:List (List (List UInt8))} {kn:Value} (h:SegFar B w sb D kn) (hb:Below w.heap.size w w'):SegFar B w' sb D kn:=by
 obtain ⟨db,R,Λ,ρ,Dd,pv,ps,h1,h2⟩:=h
 have hat:SegAt w sb D kn db R Λ ρ Dd pv ps:=h2
 exact ⟨db,R,Λ,ρ,Dd,pv,ps,h1,hat.below hb⟩
theorem far_base {B C:Nat} {w:World} {sb:Nat} {D:List (List (List UInt8))} {kn:Value} (h:SegFar B w sb D kn) (hb:C≤B):SegFar C w sb D kn:=by
 obtain ⟨db,R,Λ,ρ,Dd,pv,ps,h1,h2⟩:=h
 exact ⟨db,R,Λ,ρ,Dd,pv,ps,fun v hv k hk=>Nat.le_trans hb (h1 v hv k hk),h2⟩
theorem far_strKept {B:Nat} {w w':World} {sb:Nat} {D:List (List (List UInt8))} {kn:Value} (h:SegFar B w sb D kn) (hk:∀ (k:Nat) cs t r,w.heap[k]?=some (.cells cs t r)→t≠9→w'.heap[k]?=w.heap[k]?):SegFar B w' sb D kn:=by
 obtain ⟨db,R,Λ,ρ,Dd,pv,ps,h0,h1,h2,h3,h4,h5,h6,h7,h8⟩:=h
 exact ⟨db,R,Λ,ρ,Dd,pv,ps,h0,(hk _ _ _ _ h1 (by decide)).trans h1,h2.strKept hk,h3,h4,h5,h6,ownsRow_typed h7 fun k cs r hk'=>hk k cs _ r hk' (by decide),fun i v x hv hx=>ownsRow_typed (h8 i v x hv hx) fun k cs r hk'=>hk k cs _ r hk' (by decide)⟩
def Built (docs:List ByteArray) (w w':World) (sv ev:Value):Prop :=
 (buildNum docs≠0∧sv = .pointer none∧ev=errnoV (buildNum docs))∨(buildNum docs=0∧ev = .nilIface ∧ ∃ sb,sv=ptrV sb∧w.heap.size≤sb∧SegFar w.heap.size w' sb (docs.map wordsB) (.map none))
theorem first_bad:∀ (docs:List ByteArray),∃ m,m≤docs.length∧(∀ d∈docs.take m,d.size≤200) ∧ ∀ h:m < docs.length,200 < docs[m].size
 | []=>⟨0,Nat.le_refl _,by simp,fun h=>by simp at h⟩
 | d :: ds=>by
  by_cases h:200 < d.size
  ·exact ⟨0,Nat.zero_le _,by simp,fun _=>h⟩
  ·obtain ⟨m,h1,h2,h3⟩:=first_bad ds
   refine ⟨m+1,by simp; omega,fun x hx=>?_,fun hm=>h3 (by simpa using hm)⟩
   rw [List.take_succ_cons,List.mem_cons] at hx
   rcases hx with rfl | hx
   ·omega
   ·exact h2 x hx
set_option maxRecDepth 100000 in
set_option maxHeartbeats 2000000 in
theorem build_law (docs:List ByteArray) (v:Value) (w:World) (hv:StrsIs w v docs) :
  Calls Tryz.prog 61 #[v] w fun e w'=>Below w.heap.size w w' ∧ ∃ sv ev,e = .returned (.tuple #[sv,ev])∧Built docs w w' sv ev:=by
 by_cases h48:48 < docs.length
 ·have hn:buildNum docs=1:=by unfold buildNum; rw [if_pos h48]
  obtain ⟨a0,cap0,rfl,hc⟩:=hv
  clear hc
  go_enter Tryz.func61,Tryz.ntmps61
  go_wp2_with fail
  go_ret2
  exact ⟨Below.refl _ _,_,_,rfl,.inl ⟨by rw [hn]; decide,rfl,by rw [hn]; rfl⟩⟩
 ·obtain ⟨m,hm,h1,h2⟩:=first_bad docs
  refine (build_gen docs v w hv (by omega) m hm h1 h2).mono ?_
  rintro e w' ⟨hb,⟨he,sb,rfl,h3,h4⟩ | ⟨hlt,rfl⟩⟩
  ·have hall:∀ d∈docs,d.size≤200:=by rw [he,List.take_length] at h1; exact h1
   have hn:buildNum docs=0:=by
    unfold buildNum
    rw [if_neg h48,if_neg]
    rintro ⟨d,hd,h⟩
    have:=hall d hd
    omega
   exact ⟨hb,_,_,rfl,.inr ⟨hn,rfl,sb,rfl,h3,h4⟩⟩
  ·have hn:buildNum docs=2:=by
    unfold buildNum
    rw [if_neg h48,if_pos ⟨docs[m],List.getElem_mem hlt,h2 hlt⟩]
   exact ⟨hb,_,_,rfl,.inl ⟨by rw [hn]; decide,rfl,by rw [hn]; rfl⟩⟩
set_option maxRecDepth 100000 in
set_option maxHeartbeats 2000000 in
theorem plainBuild_law (docs:List ByteArray) (v:Value) (w:World) (hv:StrsIs w v docs) (hl:docs.length≤1000000) (hg:ErrIn w) :
  Calls Tryz.prog 34 #[v] w fun e w'=>Below w.heap.size w w' ∧ ∃ sv ev,e = .returned (.tuple #[sv,iV (buildNum docs),.bool true])∧Built docs w w' sv ev:=by
 obtain ⟨a,cap,rfl,hc⟩:=hv
 obtain ⟨i0,hi,hz0,hz1,hz2⟩:=info_parts Tryz.info9
 have HC:=Lib.hid hc
 have HG:=Lib.hid hg
 obtain ⟨bn,hbn⟩:∃ bn,bn=buildNum docs:=⟨_,rfl⟩
 rw [← hbn]
 have HBN:=Lib.hid hbn
 clear hc hg hbn
 go_enter Tryz.func34,Tryz.ntmps34
 go_wp2_with (at_builtin; refine wpList_append_copy rfl _ _ 35 rfl 9 i0 (.string ⟨#[]⟩) 1 16 Tryz.underlying35 hi hz0 hz1 hz2 rfl (by decide) rfl a docs.length cap (docs.map Value.string) rfl (by simp) ?c1 (by simp [Value.oneCell']) (by unfold maxLen; omega) (by omega) ?_)
 case c1 =>
  intro j u hj
  rw [List.getElem?_map] at hj
  obtain ⟨d,hd,rfl⟩:=Option.map_eq_some_iff.1 hj
  obtain ⟨hjl,hd⟩:=List.getElem?_eq_some_iff.1 hd
  obtain ⟨b,off,rfl,hcell⟩:=HC.out j hjl
  refine ⟨_,rfl,?_⟩
  rw [← hd]
  by_cases h0:j=0
  ·subst h0; simpa [Addr.add] using hcell
  ·simpa [Addr.add,h0] using hcell
 intro ov w1 hrow hb1 hpast
 have hs1:=ownsRow_strs hrow
 obtain ⟨oa,oc,rfl⟩:=ownsRow_form hrow
 have HROW:=Lib.hid hrow
 have HB1:=Lib.hid hb1
 have HP:=Lib.hid hpast
 clear hrow hb1 hpast hi hz0 hz1 hz2
 go_wp2_with fail
 refine (build_law docs _ w1 hs1).mono ?_
 rintro e w2 ⟨hb2,sv,ev,rfl,hseg2⟩
 have HB2:=Lib.hid hb2
 have HS2:=Lib.hid hseg2
 have htold:Calls Tryz.prog 40 #[ev] w2 fun e w'=>e = .returned (.tuple #[iV (buildNum docs),iV (-1)])∧Below w2.heap.size w2 w':=by
  rcases hseg2 with ⟨h1,_,rfl⟩ | ⟨h1,rfl,_⟩
  ·exact told_errno _ w2 ((HG.below HB1).below HB2)
  ·rw [h1]; exact told_nil w2
 have HTOLD:=Lib.hid htold
 clear hs1 hb2 hseg2 htold
 rw [← HBN] at HTOLD
 go_wp2_with fail
 refine HTOLD.mono ?_
 rintro e w3 ⟨rfl,hb3⟩
 have HB3:=Lib.hid hb3
 clear hb3
 go_wp2_with fail
 have hb13:Below w1.heap.size w1 w3:=HB2.trans (HB3.mono HB2.size)
 have hown:Ts.Own (.slice oa docs.length oc) docs w3 0 w3:=⟨Mod.refl _ _,fun og ho=>by
  rcases HROW.2 with ⟨h,_⟩ | ⟨g,cap',cur,h,_,hg,_,_,hcs,htake⟩
  ·rw [h] at ho; cases ho
  ·rw [h] at ho
   cases ho
   refine ⟨cur,(hb13.block _ (lt_of_heap hg)).trans hg,fun j hj _=>?_⟩
   have h1:(docs.map Value.string)[j]?=some (.string docs[j]):=by simp [hj]
   rw [← htake] at h1
   rw [List.getElem?_take_of_lt (by simp; omega)] at h1
   simpa using h1⟩
 have HOWN:=Lib.hid hown
 have HB13:=Lib.hid hb13
 clear hown hb13
 go_loopw [10,26] (fun sm i wr=>∃ k:Nat,k≤docs.length∧i = .int .i64 k∧sm = .bool true∧Hid (Ts.Own (.slice oa docs.length oc) docs w3 k wr)) (fun _ i _=>docs.length - (intOf i).toNat)
 case atStart=>exact ⟨0,Nat.zero_le _,rfl,rfl,HOWN⟩
 case round =>
  obtain ⟨k,hk,rfl,rfl,HO⟩:=hrel
  by_cases hlt:k < docs.length
  ·obtain ⟨b,off,rfl,hcell⟩:=HC.out k hlt
   obtain ⟨g,cap',e,_⟩:=ownsRow_cell HROW.out (j:=k) (u := .string docs[k]) (by simp [hlt])
   simp only [Value.slice.injEq,true_and] at e
   obtain ⟨rfl,rfl⟩:=e
   have hgw:w.heap.size≤g:=HP g rfl
   have hbl:=lt_of_cell hcell
   have hs1:=HB1.size
   have hs3:=HB13.size
   obtain ⟨cur,hcur,hrest⟩:=HO.2 g rfl
   have c1:wr.cell? (aD b (off+k))=some (.string docs[k]):=by
    have h1:=(HB1.cell (p:=(aD b (off+k))) hbl).trans hcell
    have h2:=(HB13.cell (p:=(aD b (off+k))) (by simp only; omega)).trans h1
    exact (HO.1.cell (p:=(aD b (off+k))) (by simp only; omega) (fun h=>by have h9:g=b:=Option.some.inj h; omega)).trans h2
   have c2:wr.cell? (aD g k)=some (.string docs[k]):=(cell_block hcur).trans (hrest k hlt (Nat.le_refl _))
   have c3:wr.frozen? (aD g k)=false:=free_block hcur
   have q1:(docs[k] == docs[k])=true:=by rw [beq_toListBytes]; simp
   clear hcell hrest
   go_wp2_with fail
   go_quiet (fail)
   go_wp2_with fail
   exact ⟨⟨k+1,by omega,by go_num,rfl,(HO.same (Same.drewN _ _)).step rfl⟩,by simp [intOf]; omega⟩
  ·obtain rfl:k=docs.length:=by omega
   go_wp2_with fail
   go_ret3
   have hs1:=HB1.size
   have hs3:=HB13.size
   have hmod:=HO.1
   refine ⟨(HB1.trans (HB13.mono hs1)).trans (hmod.toBelow (by omega) fun k h=>HP k h),sv,ev,rfl,?_⟩
   rcases HS2.out with ⟨h1,h2,h3⟩ | ⟨h1,h2,sb,h3,h4,h5⟩
   ·exact .inl ⟨h1,h2,h3⟩
   ·refine .inr ⟨h1,h2,sb,h3,by omega,far_strKept (far_below (far_base h5 hs1) HB3) fun k cs t r h ht=>hmod.block k (lt_of_heap h) fun ho=>ht ?_⟩
    obtain ⟨cur,hcur⟩:=ownsRow_cells4 HROW ho
    have hcur3:=(HB13.block _ (lt_of_heap hcur)).trans hcur
    rw [h] at hcur3
    cases hcur3
    rfl
end Go.Proofs.Tl
namespace Go.Proofs.Tl
open Go Go.RowKit Go.Proofs.Ts
def ErrAt (w:World):Prop:=ErrIn w ∧ ∃ cs t r,w.heap[0]?=some (.cells cs t r)∧t≠168
theorem ErrAt.kept {w w':World} (h:ErrAt w) (hb:w'.heap[0]?=w.heap[0]?):ErrAt w':=by
 obtain ⟨h1,cs,t,r,h2,h3⟩:=h
 exact ⟨(World.cell?_of_block (a:=(aD (0) 0)) hb).trans h1,cs,t,r,hb.trans h2,h3⟩
end Go.Proofs.Tl
namespace Go.Proofs.Tl
open Go Go.RowKit Go.Proofs.Ts
theorem ownsRow_type {w:World} {B e size n k:Nat} {v:Value} {xs:List Value} (h:w.ownsRow B e size v n xs) (hk:v.ownBlock=some k) {cs:Array Value} {t:TypeId} {r:Nat × Nat} (hc:w.heap[k]?=some (.cells cs t r)):t=e:=by
 rcases h.2 with ⟨rfl,_⟩ | ⟨g,cap,cur,rfl,_,hg,_⟩
 ·cases hk
 ·cases hk
  rw [hg] at hc
  cases hc
  rfl
theorem Tryz.info67:(Tryz.prog.info? 67).map (fun i=>(i.zero,i.size,i.bytes))=some (some (.agg #[.slice none 0 0,.slice none 0 0]),2,48):=by kernel_rfl
theorem Tryz.info49:(Tryz.prog.info? 49).map (fun i=>(i.zero,i.size,i.bytes))=some (some (.pointer none),1,8):=by kernel_rfl
theorem Tryz.info50:(Tryz.prog.info? 50).map (fun i=>(i.zero,i.size,i.bytes))=some (some (.pointer none),1,8):=by kernel_rfl
end Go.Proofs.Tl
namespace Go.Proofs.Tl
open Go Go.RowKit Go.Proofs.Ts
theorem BytesOf.cellAt {w:World} {v:Value} {L:List Int} (h:BytesOf w v L) {i:Nat} (hi:i < L.length):∃ g cap,v=sL g L.length cap∧w.cell? (aD g i)=some (.int .u8 (L.getD i 0))∧w.frozen? (aD g i)=false:=by
 rcases h.2 with ⟨_,h0⟩ | ⟨g,cap,cur,rfl,_,hg,_⟩
 ·omega
 ·refine ⟨g,cap,rfl,?_,free_block hg⟩
  have:=h.cells (g:=g) rfl i (u8V (L.getD i 0)) (by rw [List.getElem?_map,List.getElem?_eq_getElem hi,List.getD_eq_getElem?_getD,List.getElem?_eq_getElem hi]; rfl)
  rcases Nat.eq_zero_or_pos i with rfl | h0
  ·simpa [Addr.add,u8V] using this
  ·simpa [Addr.add,Nat.ne_of_gt h0,u8V] using this
set_option maxRecDepth 100000 in
set_option maxHeartbeats 4000000 in
theorem sameBytes_law (L:List Int) (va vb:Value) (w:World) (ha:BytesOf w va L) (hb:BytesOf w vb L) (hla:L.length≤8000000) :
  Calls Tryz.prog 33 #[va,vb] w fun e w'=>e = .returned (.bool true)∧Same w w':=by
 obtain ⟨aa,ac,rfl⟩:=ownsRow_form ha
 obtain ⟨ba,bc,rfl⟩:=ownsRow_form hb
 have HA:=Lib.hid ha
 have HB:=Lib.hid hb
 clear ha hb
 go_enter Tryz.func33,Tryz.ntmps33
 go_wp2_with fail
 go_loopw [5] (fun iv wr=>∃ i:Nat,i≤L.length∧iv = .int .i64 (i:Int)∧Hid (Same w wr)) (fun iv _=>L.length - (intOf iv).toNat)
 case atStart=>exact ⟨0,Nat.zero_le _,rfl,Lib.hid (Same.refl _)⟩
 case round =>
  obtain ⟨i,hia,rfl,HO⟩:=hrel
  have q1:IntKind.i64.wrap ((i:Int)+1)=(i:Int)+1:=IntWalk.i64_in _ (by omega)
  by_cases hil:i < L.length
  ·obtain ⟨ga,cpa,ea,ca0,_⟩:=HA.cellAt hil
   simp only [Value.slice.injEq] at ea
   obtain ⟨rfl,_,rfl⟩:=ea
   obtain ⟨gb,cpb,eb,cb0,_⟩:=HB.cellAt hil
   simp only [Value.slice.injEq] at eb
   obtain ⟨rfl,_,rfl⟩:=eb
   have ca:=(HO.cell (aD ga i)).trans ca0
   have cb:=(HO.cell (aD gb i)).trans cb0
   have zi:(0:Int)≤(i:Int)∧(i:Int) < (L.length:Int):=by omega
   clear ca0 cb0
   generalize L.getD i 0=Av at *
   go_upto_region 6 with fail
   go_quiet (fail)
   go_wp2_with fail
   go_roundw
   case rel=>exact ⟨i+1,by omega,by go_num,Lib.hid (HO.trans (Same.drewN _ _))⟩
   case measure=>(simp [intOf]) <;> omega
  ·obtain rfl:i=L.length:=by omega
   go_wp2_with fail
   go_ret
   exact ⟨rfl,HO⟩
theorem numCell_at {w:World} {nv:Value} {N:List NumE} (h:w.ownsRow 0 64 2 nv N.length (numCells N)) {i:Nat} {e:NumE} (he:N[i]?=some e) :
  ∃ g cap,nv=sL g N.length cap∧w.cell? (aD g (2 * i))=some e.real∧w.cell? (aD g (2 * i+1))=some e.want:=by
 obtain ⟨p1,p2⟩:=pairs_get NumE.real NumE.want N i e he
 obtain ⟨g,cap,e1,c1⟩:=ownsRow_cell h (j:=2 * i) p1
 obtain ⟨g',cap',e2,c2⟩:=ownsRow_cell h (j:=2 * i+1) p2
 rw [e1] at e2
 simp only [Value.slice.injEq,Option.some.injEq,Addr.mk.injEq,and_true,true_and] at e2
 obtain ⟨rfl,rfl⟩:=e2
 exact ⟨g,cap,e1,c1,c2⟩
theorem bytCell_at {w:World} {nv:Value} {N:List BytE} (h:w.ownsRow 0 67 2 nv N.length (bytCells N)) {i:Nat} {e:BytE} (he:N[i]?=some e) :
  ∃ g cap,nv=sL g N.length cap∧w.cell? (aD g (2 * i))=some e.real∧w.cell? (aD g (2 * i+1))=some e.want:=by
 obtain ⟨p1,p2⟩:=pairs_get BytE.real BytE.want N i e he
 obtain ⟨g,cap,e1,c1⟩:=ownsRow_cell h (j:=2 * i) p1
 obtain ⟨g',cap',e2,c2⟩:=ownsRow_cell h (j:=2 * i+1) p2
 rw [e1] at e2
 simp only [Value.slice.injEq,Option.some.injEq,Addr.mk.injEq,and_true,true_and] at e2
 obtain ⟨rfl,rfl⟩:=e2
 exact ⟨g,cap,e1,c1,c2⟩
set_option maxRecDepth 100000 in
set_option maxHeartbeats 4000000 in
theorem looks_law (own:Nat→Option Tag) (wb:Nat) (S:List SegE) (N:List NumE) (Bs:List BytE) (Env:World→Prop) (w:World) (hp:Player w own wb S N Bs Env) (hN:N.length≤1000000) (hB:Bs.length≤1000000) :
  Calls Tryz.prog 14 #[ptrV wb] w fun e w'=>e = .returned (.bool true)∧Same w w':=by
 obtain ⟨xv,mv,nv,bv,h1,_,_,h4,h5⟩:=hp.hub
 obtain ⟨na,nc,rfl⟩:=ownsRow_form h4.1
 obtain ⟨ba,bc,rfl⟩:=ownsRow_form h5.1
 have c2:w.cell? (aD wb 2)=some (.slice na N.length nc):=cell_block h1
 have c3:w.cell? (aD wb 3)=some (.slice ba Bs.length bc):=cell_block h1
 have HN:=Lib.hid h4.1
 have HBY:=Lib.hid h5.1
 have HNU:=Lib.hid hp.nums
 have HBB:=Lib.hid hp.byts
 clear h1 h4 h5 hp
 unfold ptrV
 go_enter Tryz.func14,Tryz.ntmps14
 go_wp2_with fail
 go_loopw [3] (fun iv wr=>∃ i:Nat,i≤N.length∧iv = .int .i64 (i:Int)∧Hid (Same w wr)) (fun iv _=>N.length - (intOf iv).toNat)
 case atStart=>exact ⟨0,Nat.zero_le _,rfl,Lib.hid (Same.refl _)⟩
 case round =>
  obtain ⟨i,hia,rfl,HO⟩:=hrel
  have q1:IntKind.i64.wrap ((i:Int)+1)=(i:Int)+1:=IntWalk.i64_in _ (by omega)
  have d2:=(HO.cell (aD wb 2)).trans c2
  have d3:=(HO.cell (aD wb 3)).trans c3
  by_cases hil:i < N.length
  ·obtain ⟨e,he⟩:∃ e,N[i]?=some e:=⟨_,List.getElem?_eq_getElem hil⟩
   obtain ⟨g,cap,e1,k1,k2⟩:=numCell_at HN.out he
   simp only [Value.slice.injEq,true_and] at e1
   obtain ⟨rfl,rfl⟩:=e1
   have zi:(0:Int)≤(i:Int)∧(i:Int) < (N.length:Int):=by omega
   have z2:i * 2=2 * i:=by omega
   have d4:=(HO.cell (aD g (2 * i))).trans k1
   have d5:=(HO.cell (aD g (2 * i+1))).trans k2
   have hok:=HNU i e he
   have hsame:=fun W (hW:Same w W)=>sameInts_law e.L e.real e.want W (hok.real.keep fun k _=>by rw [hW.heap]) (hok.want.keep fun k _=>by rw [hW.heap]) (by have:=hok.few; omega)
   obtain ⟨ra,rc,hra⟩:=ownsRow_form hok.real
   obtain ⟨va,vc,hva⟩:=ownsRow_form hok.want
   rw [hra] at d4 hsame
   rw [hva] at d5 hsame
   have HSAME:=Lib.hid hsame
   clear hok hsame hra hva k1 k2 he
   go_upto_region 4 with fail
   go_quiet ((go_at_call 32; exact quietS (HSAME _ (HO.trans (Same.drewN _ _)))))
   go_wp2_with fail
   go_roundw
   case rel=>exact ⟨i+1,by omega,by go_num,Lib.hid (HO.trans (Same.drewN _ _))⟩
   case measure=>(simp [intOf]) <;> omega
  ·obtain rfl:i=N.length:=by omega
   go_wp2_with fail
   go_loopw [5] (fun iv wr=>∃ i:Nat,i≤Bs.length∧iv = .int .i64 (i:Int)∧Hid (Same w wr)) (fun iv _=>Bs.length - (intOf iv).toNat)
   case atStart=>exact ⟨0,Nat.zero_le _,rfl,HO⟩
   case round =>
    obtain ⟨i,hia,rfl,HO⟩:=hrel
    have q1:IntKind.i64.wrap ((i:Int)+1)=(i:Int)+1:=IntWalk.i64_in _ (by omega)
    have d3:=(HO.cell (aD wb 3)).trans c3
    by_cases hil:i < Bs.length
    ·obtain ⟨e,he⟩:∃ e,Bs[i]?=some e:=⟨_,List.getElem?_eq_getElem hil⟩
     obtain ⟨g,cap,e1,k1,k2⟩:=bytCell_at HBY.out he
     simp only [Value.slice.injEq,true_and] at e1
     obtain ⟨rfl,rfl⟩:=e1
     have zi:(0:Int)≤(i:Int)∧(i:Int) < (Bs.length:Int):=by omega
     have z2:i * 2=2 * i:=by omega
     have d4:=(HO.cell (aD g (2 * i))).trans k1
     have d5:=(HO.cell (aD g (2 * i+1))).trans k2
     have hok:=HBB i e he
     have hsame:=fun W (hW:Same w W)=>sameBytes_law e.L e.real e.want W (ownsRow_block hok.real fun k _=>by rw [hW.heap]) (ownsRow_block hok.want fun k _=>by rw [hW.heap]) (by have:=hok.few; omega)
     obtain ⟨ra,rc,hra⟩:=ownsRow_form hok.real
     obtain ⟨va,vc,hva⟩:=ownsRow_form hok.want
     rw [hra] at d4 hsame
     rw [hva] at d5 hsame
     have HSAME:=Lib.hid hsame
     clear hok hsame hra hva k1 k2 he
     go_upto_region 10 with fail
     go_quiet ((go_at_call 33; go_must (exact quietS (HSAME _ (HO.trans (Same.drewN _ _))))))
     go_wp2_with fail
     go_roundw
     case rel=>exact ⟨i+1,by omega,by go_num,Lib.hid (HO.trans (Same.drewN _ _))⟩
     case measure=>(simp [intOf]) <;> omega
    ·obtain rfl:i=Bs.length:=by omega
     go_wp2_with fail
     go_ret
     exact ⟨rfl,HO⟩
end Go.Proofs.Tl
namespace Go.Proofs.Tl
open Go Go.RowKit Go.Proofs.Ts
theorem lies_past {w w0 w':World} {v v':Value} (h:Lies w w' v v') (hs:w0.heap.size≤w.heap.size):∀ k,v'.ownBlock=some k→v.ownBlock=some k∨w0.heap.size≤k:=fun k hk=>by
 rcases h with ⟨h1,_⟩ | ⟨h1,_⟩
 ·exact .inl (h1.symm.trans hk)
 ·rw [hk] at h1
  have:=Option.some.inj h1
  right
  omega
set_option maxRecDepth 100000 in
set_option maxHeartbeats 4000000 in
theorem join_law (sb mb wb n:Nat) (xv mv nv bv:Value) (xs ms:List Value) (w:World) (hn:n≤1000000)
  (hub:w.heap[wb]?=some (.cells #[xv,mv,nv,bv] 32 (0,0))) (hx:w.ownsRow 0 49 1 xv n xs) (hm:w.ownsRow 0 50 1 mv n ms) :
  Calls Tryz.prog 36 #[ptrV wb,ptrV sb,ptrV mb] w fun e w'=>e = .returned (.tuple #[]) ∧ ∃ xv' mv',w'.heap[wb]?=some (.cells #[xv',mv',nv,bv] 32 (0,0)) ∧
   w'.ownsRow 0 49 1 xv' (n+1) (xs++[ptrV sb])∧(∀ k,xv'.ownBlock=some k→xv.ownBlock=some k∨w.heap.size≤k) ∧
   w'.ownsRow 0 50 1 mv' (n+1) (ms++[ptrV mb])∧(∀ k,mv'.ownBlock=some k→mv.ownBlock=some k∨w.heap.size≤k)∧Mod (fun k=>k=wb∨xv.ownBlock=some k∨mv.ownBlock=some k) w w':=by
 obtain ⟨i0,hi,hz0,hz1,hz2⟩:=info_parts Tryz.info49
 obtain ⟨i1,hi1,hw0,hw1,hw2⟩:=info_parts Tryz.info50
 obtain ⟨xa,xc,rfl⟩:=ownsRow_form hx
 obtain ⟨ma,mc,rfl⟩:=ownsRow_form hm
 have HX:=Lib.hid hx
 have HM:=Lib.hid hm
 have HUB:=Lib.hid hub
 have c0:w.cell? (aD wb 0)=some (.slice xa n xc):=cell_block hub
 have HRA:=Lib.hid (hx.alloc (.cells #[ptrV sb] 49))
 have HUA:Hid ((w.alloc (.cells #[ptrV sb] 49)).heap[wb]?=some (.cells #[.slice xa n xc,.slice ma n mc,nv,bv] 32 (0,0))):=Lib.hid ((Below.heap_alloc w _ wb (lt_of_heap hub)).trans hub)
 unfold ptrV at *
 go_enter Tryz.func36,Tryz.ntmps36
 go_upto_region 1 with (at_builtin; refine wpList_append_lies rfl _ _ 27 rfl 49 i0 (.pointer none) 1 8 Tryz.underlying27 hi hz0 hz1 hz2 rfl (by decide) (.slice xa n xc) n xs rfl HRA.out (aD w.heap.size 0) 1 1 [pT sb] rfl rfl (cell_one_new w _ _) (by simp [Value.oneCell']) (by decide) (by unfold maxLen; omega) (by omega) ?_; intro nv5 w5 hrow5 hg5 hl5; obtain ⟨g5,cap5,rfl⟩:=ownsRow_head hrow5; have HR5:=Lib.hid hrow5; have HG5:=Lib.hid hg5; have HL5:=Lib.hid hl5; have hub5:=(HG5.block wb (lt_of_heap HUA.out) (fun e=>by have:=ownsRow_type HRA.out e.symm HUA.out; revert this; decide)).trans HUA.out; have f5:w5.frozen? (aD wb 0)=false:=free_block hub5; have c5:w5.cell? (aD wb 0)=some (.slice xa n xc):=cell_block hub5; have HUB5:=Lib.hid hub5)
 have hub6:=heap_setCell_same w5 wb 0 _ _ (sL g5 (n+1) cap5) HUB5
 have hne:g5≠wb:=fun e=>by
  subst e
  have:=ownsRow_type HR5 rfl HUB5
  revert this
  decide
 have hr6:(w5.setCell (aD wb 0) (sL g5 (n+1) cap5)).ownsRow 0 49 1 (sL g5 (n+1) cap5) (n+1) (xs++[pT sb]) :=
  ownsRow_block HR5 fun k e=>Below.heap_setCell w5 _ _ k fun e'=>hne ((Option.some.inj e).trans e')
 have hm6:(w5.setCell (aD wb 0) (sL g5 (n+1) cap5)).ownsRow 0 50 1 (.slice ma n mc) n ms:=ownsRow_block HM fun k hk=>by
  obtain ⟨_,hkl⟩:=HM.lt k hk
  have hk1:k≠wb:=fun e=>by
   subst e
   have:=ownsRow_type HM hk HUB
   revert this
   decide
  rw [Below.heap_setCell w5 _ _ k hk1,HG5.block k (by simp; omega) (fun e=>by
   obtain ⟨cur,hcur⟩:=ownsRow_cells HX e.symm
   have:=ownsRow_type HM hk hcur
   revert this
   decide),Below.heap_alloc w _ k hkl]
 have HMO:Hid (Mod (fun k=>k=wb∨(Value.slice xa n xc).ownBlock=some k∨(Value.slice ma n mc).ownBlock=some k) w (w5.setCell (aD wb 0) (sL g5 (n+1) cap5))):=Lib.hid ((below_mod ((Below.refl w.heap.size w).alloc (Nat.le_refl _) _)).trans ((Mod.grown HG5 fun k e _ => .inr (.inl e)).trans (Mod.setCell w5 _ _ fun _ => .inl rfl)))
 have HPX:=Lib.hid (lies_past (w0:=w) HL5.out (by simp))
 have hsz6:=HMO.size
 have HUB6:=Lib.hid hub6
 have HR6:=Lib.hid hr6
 have HM6:=Lib.hid hm6
 generalize (w5.setCell (aD wb 0) (sL g5 (n+1) cap5))=w6 at *
 have c1:w6.cell? (aD wb 1)=some (.slice ma n mc):=cell_block HUB6
 have HRA:=Lib.hid (HM6.alloc (.cells #[pT mb] 50))
 have hua:(w6.alloc (.cells #[pT mb] 50)).heap[wb]?=some (.cells #[sL g5 (n+1) cap5,.slice ma n mc,nv,bv] 32 (0,0)):=(Below.heap_alloc w6 _ wb (lt_of_heap HUB6)).trans HUB6
 have HUA:=Lib.hid hua
 go_wp2_with (at_builtin; refine wpList_append_lies rfl _ _ 28 rfl 50 i1 (.pointer none) 1 8 Tryz.underlying28 hi1 hw0 hw1 hw2 rfl (by decide) (.slice ma n mc) n ms rfl HRA.out (aD w6.heap.size 0) 1 1 [pT mb] rfl rfl (cell_one_new w6 _ _) (by simp [Value.oneCell']) (by decide) (by unfold maxLen; omega) (by omega) ?_; intro nv7 w7 hrow7 hg7 hl7; obtain ⟨g7,cap7,rfl⟩:=ownsRow_head hrow7; have HR7:=Lib.hid hrow7; have HG7:=Lib.hid hg7; have HL7:=Lib.hid hl7; have hub7:=(HG7.block wb (lt_of_heap HUA.out) (fun e=>by have:=ownsRow_type HRA.out e.symm HUA.out; revert this; decide)).trans HUA.out; have f7:w7.frozen? (aD wb 1)=false:=free_block hub7; have c7:w7.cell? (aD wb 1)=some (.slice ma n mc):=cell_block hub7; have HUB7:=Lib.hid hub7)
 refine bodyPost_end (results_none rfl _ _ _) rfl ?_
 have hub8:=heap_setCell_same w7 wb 1 _ _ (sL g7 (n+1) cap7) HUB7
 have hne:g7≠wb:=fun e=>by
  subst e
  have:=ownsRow_type HR7 rfl HUB7
  revert this
  decide
 refine ⟨rfl,sL g5 (n+1) cap5,sL g7 (n+1) cap7,hub8,?_,HPX,ownsRow_block HR7 fun k e=>Below.heap_setCell w7 _ _ k fun e'=>hne ((Option.some.inj e).trans e'),fun k hk=>?_,?_⟩
 ·refine ownsRow_block HR6 fun k hk=>?_
  obtain ⟨_,hkl⟩:=HR6.lt k hk
  have hk1:k≠wb:=fun e=>by
   subst e
   have:=ownsRow_type HR6 hk HUB6
   revert this
   decide
  rw [Below.heap_setCell w7 _ _ k hk1,HG7.block k (by simp; omega) (fun e=>by
   obtain ⟨cur,hcur⟩:=ownsRow_cells HM6 e.symm
   have:=ownsRow_type HR6 hk hcur
   revert this
   decide),Below.heap_alloc w6 _ k hkl]
 ·exact lies_past HL7.out (by simp; omega) k hk
 ·exact HMO.trans ((below_mod ((Below.refl w6.heap.size w6).alloc (Nat.le_refl _) _)).trans ((Mod.grown HG7 fun k e _ => .inr (.inr e)).trans (Mod.setCell w7 _ _ fun _ => .inl rfl)))
end Go.Proofs.Tl
