/- Lemmas towards the statement Simple of termsearch: walks of the program's functions and plain laws on lists (TlAdd, TlBuild, TlUnion, TlMeets, TlTerms, TlSearch). Conditions: those that each theorem names. -/
import Derived.Test.YtffjomnnkilhgaaGreatDoorSimplePJ
set_option linter.unusedVariables false
set_option linter.unusedSimpArgs false
set_option linter.unusedSectionVars false
namespace Go.Proofs.Tl
open Go Go.RowKit Go.Proofs.Ts
theorem strs_one {T:List (List UInt8)}:∀ u∈T.map strV,u.oneCell'=true:=fun u hu=>by
 obtain ⟨t,_,rfl⟩:=List.mem_map.1 hu
 rfl
theorem slice_form {w:World} {B e size n:Nat} {v:Value} {xs:List Value} (h:w.ownsRow B e size v n xs):∃ a m cap,v = .slice a m cap:=by
 obtain ⟨a,cap,e⟩:=ownsRow_form h
 exact ⟨a,n,cap,e⟩
theorem row_join {W:World} {v:Value} {T:List (List UInt8)} {x:List UInt8} {k:Nat} (hk:k≤T.length) (h:W.ownsRow 0 9 1 v (k+1+(T.length - k)) (((T.map strV).take k++[strV x])++(T.map strV).drop k)) :
  W.ownsRow 0 9 1 v (T.take k++x :: T.drop k).length ((T.take k++x :: T.drop k).map strV):=by
 have e1:(T.take k++x :: T.drop k).length=k+1+(T.length - k):=by simp; omega
 have e2:(T.take k++x :: T.drop k).map strV=((T.map strV).take k++[strV x])++(T.map strV).drop k:=by simp
 rw [e1,e2]
 exact h
theorem Mod.of_below {S:Nat→Prop} {w w':World} (h:Below w.heap.size w w'):Mod S w w':=⟨h.os,h.tape,h.output,h.size,fun k hk _=>h.block k hk⟩
theorem ins_at {α:Type} (l:List α) (a:α) (k i:Nat) (hk:k≤l.length):(l.take k++a :: l.drop k)[i]?=if i < k then l[i]? else if i=k then some a else l[i - 1]?:=by
 rcases Nat.lt_or_ge i k with h | h
 ·rw [if_pos h,List.getElem?_append_left (by rw [List.length_take]; omega),List.getElem?_take_of_lt h]
 ·rw [if_neg (by omega),List.getElem?_append_right (by rw [List.length_take]; omega)]
  have hl:(l.take k).length=k:=by rw [List.length_take]; omega
  rw [hl]
  rcases Nat.eq_or_lt_of_le h with h1 | h1
  ·subst h1
   simp
  ·rw [if_neg (by omega)]
   obtain ⟨m,hm⟩:∃ m,i - k=m+1:=⟨i - k - 1,by omega⟩
   rw [hm,List.getElem?_cons_succ,List.getElem?_drop]
   congr 1
   omega
theorem place_new {T:List (List UInt8)} {x:List UInt8} {k:Nat} (hT:T.Pairwise (fun a b=>a < b)) (h:PlaceIs T x k) (hn:¬ T[k]?=some x):x ∉ T:=by
 intro hx
 obtain ⟨i,hi,he⟩:=List.getElem_of_mem hx
 rcases Nat.lt_or_ge i k with h1 | h1
 ·have:=h.2.1 i hi h1
  rw [he] at this
  exact absurd this (List.lt_irrefl x)
 ·have hk:k < T.length:=by omega
  rcases Nat.eq_or_lt_of_le h1 with h2 | h2
  ·subst h2
   exact hn (by rw [List.getElem?_eq_getElem hi,he])
  ·have:=List.pairwise_iff_getElem.1 hT k i hk hi h2
   rw [he] at this
   exact h.2.2 hk this
theorem lt_tri (a b:List UInt8):a < b∨a=b∨b < a:=by
 by_cases h1:a < b
 ·exact .inl h1
 ·by_cases h2:b < a
  ·exact .inr (.inr h2)
  ·exact .inr (.inl (List.le_antisymm (List.not_lt.1 h2) (List.not_lt.1 h1)))
theorem ins_rise {T:List (List UInt8)} {x:List UInt8} {k:Nat} (hT:T.Pairwise (fun a b=>a < b)) (h:PlaceIs T x k) (hn:¬ T[k]?=some x):(T.take k++x :: T.drop k).Pairwise (fun a b=>a < b):=by
 rw [List.pairwise_append,List.pairwise_cons]
 have hsp:=hT
 rw [← List.take_append_drop k T,List.pairwise_append] at hsp
 have hlo:∀ a∈T.take k,a < x:=fun a ha=>by
  obtain ⟨i,hi,he⟩:=List.getElem_of_mem ha
  rw [List.length_take] at hi
  rw [List.getElem_take] at he
  rw [← he]
  exact h.2.1 i (by omega) (by omega)
 have hhi:∀ b∈T.drop k,x < b:=fun b hb=>by
  obtain ⟨i,hi,he⟩:=List.getElem_of_mem hb
  rw [List.length_drop] at hi
  rw [List.getElem_drop] at he
  have hk:k < T.length:=by omega
  have h1:x < T[k]:=by
   rcases lt_tri x T[k] with h1 | h1 | h1
   ·exact h1
   ·exact absurd (by rw [List.getElem?_eq_getElem hk,← h1]) hn
   ·exact absurd h1 (h.2.2 hk)
  rcases Nat.eq_zero_or_pos i with h0 | h0
  ·subst h0
   rw [← he]
   exact h1
  ·have:=List.pairwise_iff_getElem.1 hT k (k+i) hk (by omega) (by omega)
   rw [← he]
   exact List.lt_trans h1 this
 exact ⟨hsp.1,⟨fun b hb=>hhi b hb,hsp.2.1⟩,fun a ha b hb=>by
  rcases List.mem_cons.1 hb with rfl | hb
  ·exact hlo a ha
  ·exact hsp.2.2 a ha b hb⟩
def IdxKept (w w':World):Prop:=∀ (k:Nat) cs t r,w.heap[k]?=some (.cells cs t r)→t≠90→t≠24→t≠3→w'.heap[k]?=w.heap[k]?
theorem IdxKept.trans {a b c:World} (h:IdxKept a b) (k:IdxKept b c):IdxKept a c:=fun j cs t r h1 h2 h3 h4=>(k j cs t r ((h j cs t r h1 h2 h3 h4).trans h1) h2 h3 h4).trans (h j cs t r h1 h2 h3 h4)
theorem IdxKept.below {w w':World} (h:Below w.heap.size w w'):IdxKept w w':=fun k cs t r hk _ _ _=>h.block k (lt_of_heap hk)
theorem IdxKept.mod {w w':World} {mb:Nat} {cs:Array Value} (hm:w.heap[mb]?=some (.cells cs 90 (0,0))) (h:Mod (fun j=>j=mb) w w'):IdxKept w w':=fun k cs t r hk h1 _ _=>h.block k (lt_of_heap hk) fun e=>by
 subst e
 rw [hm] at hk
 cases hk
 exact h1 rfl
theorem IdxKept.row {w w':World} {B e size n:Nat} {v:Value} {xs:List Value} (h:IdxKept w w') (hr:w.ownsRow B e size v n xs) (h1:e≠90) (h2:e≠24) (h3:e≠3):w'.ownsRow B e size v n xs:=ownsRow_typed hr fun k cs r hk=>h k cs e r hk h1 h2 h3
def addD (l:List Nat) (d:Nat):List Nat:=if l.getLast?=some d then l else l++[d]
set_option maxRecDepth 100000 in
set_option maxHeartbeats 4000000 in
theorem add_law (x:List UInt8) (d B mb n:Nat) (T:List (List UInt8)) (L:List UInt8→List Nat) (w:World) (hx:IndexIs B w mb n T L) (hB:B≤w.heap.size) (hT:T.length≤10000) (hL:(L x).length≤1000) (hd:d≤1000) (hn:x ∉ T→L x=[]) (hasc:T.Pairwise (fun a b=>a < b)) :
  Calls Tryz.prog 63 #[ptrV mb,strV x,.int .i64 d] w fun e w'=>e = .returned (.tuple #[])∧Below B w w'∧IdxKept w w' ∧ ∃ k,PlaceIs T x k ∧
   IndexIs B w' mb n (if T[k]?=some x then T else T.take k++x :: T.drop k) (fun y=>if y=x then addD (L x) d else L y):=by
 obtain ⟨i0,hi,hz0,hz1,hz2⟩:=info_parts Tryz.info9
 obtain ⟨i1,hi1,hy0,hy1,hy2⟩:=info_parts Tryz.info24
 obtain ⟨i2,hi2,hw0,hx1,hx2⟩:=info_parts Tryz.info3
 have hplace:=fun W (h:IndexIs B W mb n T L)=>place_law ⟨x.toArray⟩ B mb n T L W h (by omega)
 have HX:=Lib.hid hx
 have hx0:=hx.le
 have HASC:=Lib.hid hasc
 clear hasc
 unfold ptrV strV at *
 go_enter Tryz.func63,Tryz.ntmps63
 go_upto_region 1 with (go_at_call 96; refine (hplace w hx).mono ?_; rintro e w1 ⟨k,rfl,hk,hs1⟩)
 clear hplace
 obtain ⟨th,hth⟩:∃ th,th=decide (T[k]?=some x):=⟨_,rfl⟩
 have hth':decide (T[k]?=some (ByteArray.data ⟨x.toArray⟩).toList)=th:=by rw [hth]
 rw [hth']
 have HX1:=Lib.hid (hx.below (hs1.below _))
 have hM1:∃ cs,w1.heap[mb]?=some (.cells cs 90 (0,0)):=by
  obtain ⟨tv,pv,ps,a1,_⟩:=HX1.out.ex
  exact ⟨_,a1⟩
 obtain ⟨mcs,hM1⟩:=hM1
 have HM1:=Lib.hid hM1
 clear hM1
 have hkT:=hk.1
 have HK:=Lib.hid hk
 have HTH:=Lib.hid hth
 have HS1:=Lib.hid hs1
 clear hx hk hth' HX hs1 hth
 rename_i K1 hK1
 go_cut [18] from 17 to 61 (fun t wy=>t = .bool (!th)∧wy=w1)
 case first =>
  go_wp2_with fail
  go_meet
  exact ⟨rfl,rfl⟩
 case rest =>
 obtain ⟨rfl,rfl⟩:=hcut
 refine hK1 _ _ ?_
 clear hK1
 go_cut [] from 19 to 61 (fun wy=>Hid (Mod (fun j=>j=mb) wc wy)∧Hid (IndexIs B wy mb n (if T[k]?=some x then T else T.take k++x :: T.drop k) L))
 case first =>
  cases th with
  | true =>
   have hin:T[k]?=some x:=by simpa using HTH.out.symm
   go_wp2_with fail
   go_meet
   exact ⟨Lib.hid (Mod.refl _ _),by rw [if_pos hin]; exact HX1⟩
  | false =>
   have hin:¬ T[k]?=some x:=by simpa using HTH.out.symm
   obtain ⟨tv,pv,ps,a1,a2,a3,a4,a5,a6,a7⟩:=HX1.out.ex
   obtain ⟨ta,tc,rfl⟩:=ownsRow_form a2
   obtain ⟨pa,pc,rfl⟩:=ownsRow_form a4
   have c1:wc.cell? ⟨mb,1,none⟩=some (.slice ta T.length tc):=cell_block a1
   have hmbl:=lt_of_heap a1
   have A1:=Lib.hid a1
   have A2:=Lib.hid a2
   have A3:=Lib.hid a3
   have A4:=Lib.hid a4
   have A5:=Lib.hid a5
   have A6:=Lib.hid a6
   have A7:=Lib.hid a7
   have HIN:=Lib.hid hin
   have hz:(0:Int)≤(k:Int)∧(k:Int)≤(T.length:Int):=by omega
   have hnil:wc.ownsRow 0 9 1 (.slice none 0 0) 0 []:=World.ownsRow_nil _ _ _ _
   have htk:((T.map strV).take k).length=k * 1:=by simp; omega
   have hcapT:(k:Int)≤(tc:Int)∧(T.length:Int)≤(tc:Int):=by have:=ownsRow_cap A2.out; omega
   have hpc:=piece_cells A2.out 0 ta (fun g e _=>by rcases ownsRow_base0 A2.out with rfl | ⟨g',rfl⟩ <;> simp_all [Value.ownBlock]) k
   rw [List.drop_zero] at hpc
   have hone:∀ u∈(T.map strV).take k,u.oneCell'=true:=fun u hu=>by
    obtain ⟨t,_,rfl⟩:=List.mem_map.1 (List.mem_of_mem_take hu)
    rfl
   have HPC:=Lib.hid hpc
   have HONE:=Lib.hid hone
   clear a1 a2 a3 a4 a5 a6 a7 hin hpc hone HX1
   go_upto_region 3 with (at_builtin; refine wpList_append_all rfl _ _ 35 rfl 9 i0 (.string ⟨#[]⟩) 1 16 Tryz.underlying35 hi hz0 hz1 hz2 rfl (by decide) (.slice none 0 0) 0 [] rfl hnil ta k tc ((T.map strV).take k) rfl htk HPC.out HONE.out (by unfold maxLen; omega) (by omega) ?_; intro v1 W1 hrow1 hmov1 _; rw [Nat.zero_add,List.nil_append] at hrow1; have HR1:=Lib.hid hrow1; have HM1:=Lib.hid hmov1; clear hrow1 hmov1)
   have hst3:[strV x].length=1 * 1:=rfl
   go_upto_region 4 with (at_builtin; refine wpList_append_all rfl _ _ 35 rfl 9 i0 (.string ⟨#[]⟩) 1 16 Tryz.underlying35 hi hz0 hz1 hz2 rfl (by decide) v1 k ((T.map strV).take k) rfl (HR1.out.alloc _) (some ⟨W1.heap.size,0,none⟩) 1 1 [strV x] rfl rfl (fun j u hj=>⟨_,rfl,cell_one_new W1 _ _ j u hj⟩) (fun u hu=>by rw [List.mem_singleton.1 hu]; rfl) (by unfold maxLen; omega) (by omega) ?_; intro v2 W2 hrow2 hmov2 _; have HR2:=Lib.hid hrow2; have HM2:=Lib.hid (HM1.out.trans ((Moves.alloc W1 v1 _).trans hmov2)); clear hrow2 hmov2 HR1 HM1)
   have hb2:Below wc.heap.size wc W2:=HM2.out.below (fun k e=>by cases e) (Below.refl _ _) (Nat.le_refl _)
   have c2:W2.cell? ⟨mb,1,none⟩=some (.slice ta T.length tc):=(hb2.cell (p:=⟨mb,1,none⟩) hmbl).trans c1
   have HB2:=Lib.hid hb2
   clear c1 hb2 hst3
   have hdl:((T.map strV).drop k).length=(T.length - k) * 1:=by simp
   have hdc:=drop_cells (ownsRow_block A2.out fun j e=>HB2.out.block j (A2.out.lt j e).2) k
   obtain ⟨ad,hde⟩:∃ ad,(if tc=k then ta else Option.map (fun x=>x.add k) ta)=ad:=⟨_,rfl⟩
   rw [hde] at hdc
   have HDC:=Lib.hid hdc
   clear hdc
   have hfz:W2.frozen? ⟨mb,1,none⟩=false:=free_block ((HB2.out.block mb hmbl).trans A1.out)
   go_upto_region 5 with (at_builtin; refine wpList_append_all rfl _ _ 35 rfl 9 i0 (.string ⟨#[]⟩) 1 16 Tryz.underlying35 hi hz0 hz1 hz2 rfl (by decide) v2 (k+1) ((T.map strV).take k++[strV x]) rfl HR2.out _ (T.length - k) (tc - k) ((T.map strV).drop k) rfl hdl HDC.out (fun u hu=>strs_one u (List.mem_of_mem_drop hu)) (by unfold maxLen; omega) (by omega) ?_; intro v3 W3 hrow3 hmov3 _; have HM3:=Lib.hid (HM2.out.trans hmov3); have hb3:Below wc.heap.size wc W3:=HM3.out.below (fun k e=>by cases e) (Below.refl _ _) (Nat.le_refl _); have hfz3:W3.frozen? ⟨mb,1,none⟩=false:=free_block ((hb3.block mb hmbl).trans A1.out); have d3:W3.cell? ⟨mb,1,none⟩=some (.slice ta T.length tc):=cell_block ((hb3.block mb hmbl).trans A1.out); have HR3:=Lib.hid (row_join hkT hrow3); obtain ⟨a3,n3,c3,rfl⟩:=slice_form hrow3; have HB3:=Lib.hid hb3; clear hrow3 hmov3 HM2 HR2 HDC hb3)
   clear hfz hfz3 d3 hdl c2 htk hde
   obtain ⟨T',hT'⟩:∃ T',T'=T.take k++x :: T.drop k:=⟨_,rfl⟩
   have hTl:T'.length=T.length+1:=by rw [hT']; simp; omega
   rw [← hT'] at HR3
   obtain ⟨nv,hnv⟩:∃ nv,nv=Value.slice a3 n3 c3:=⟨_,rfl⟩
   rw [← hnv] at HM3 HR3 ⊢
   have h4m:=heap_setCell_same W3 mb 1 _ _ nv ((HB3.out.block mb hmbl).trans A1.out)
   have hmo4:Mod (fun j=>j=mb) wc (W3.setCell ⟨mb,1,none⟩ nv):=(Mod.of_below HB3.out).trans (Mod.setCell _ ⟨mb,1,none⟩ nv fun _=>rfl)
   have hsz4:wc.heap.size≤(W3.setCell ⟨mb,1,none⟩ nv).heap.size:=hmo4.size
   have hR4:(W3.setCell ⟨mb,1,none⟩ nv).ownsRow 0 9 1 nv T'.length (T'.map strV):=ownsRow_block HR3.out fun j e=>Below.heap_setCell _ _ _ _ (fun e'=>by
    have:=HM3.out.past (B:=wc.heap.size) (fun k e=>by cases e) (Nat.le_refl _) j e
    simp only at e'
    omega)
   have hP4:Past wc.heap.size nv:=HM3.out.past (fun k e=>by cases e) (Nat.le_refl _)
   simp only [Array.setIfInBounds,List.size_toArray,List.length_cons,List.length_nil] at h4m
   generalize W3.setCell ⟨mb,1,none⟩ nv=W4 at *
   have hA4:W4.ownsRow 0 24 1 (.slice pa T.length pc) T.length ps:=ownsRow_block A4.out fun j e=>hmo4.block j (A4.out.lt j e).2 fun e'=>by
    subst e'
    have hg:=ownsRow_cells A4.out e
    obtain ⟨cur,hg⟩:=hg
    rw [A1.out] at hg
    cases hg
   have HMO4:=Lib.hid hmo4
   have HR4:=Lib.hid hR4
   have HP4:=Lib.hid hP4
   have HA4:=Lib.hid hA4
   have d2:W4.cell? ⟨mb,2,none⟩=some (.slice pa T.length pc):=cell_block h4m
   have H4M:=Lib.hid h4m
   have hcapP:(k:Int)≤(pc:Int)∧(T.length:Int)≤(pc:Int):=by have:=ownsRow_cap A4.out; omega
   have hone:∀ u∈ps,u.oneCell'=true:=fun u hu=>by
    obtain ⟨i,hi,he⟩:=List.getElem_of_mem hu
    have hpl:ps.length=T.length:=by have:=A4.out.1; omega
    obtain ⟨h1,_⟩:=A6.out i u T[i] (by rw [List.getElem?_eq_getElem hi,he]) (List.getElem?_eq_getElem (by omega))
    obtain ⟨a,c,rfl⟩:=ownsRow_form h1
    rfl
   have hpl:ps.length=T.length:=by have:=A4.out.1; omega
   have HONE:=Lib.hid hone
   have hlk:(ps.take k).length=k * 1:=by simp; omega
   have hldr:(ps.drop k).length=(T.length - k) * 1:=by simp [hpl]
   have hnil4:W4.ownsRow 0 24 1 (.slice none 0 0) 0 []:=World.ownsRow_nil _ _ _ _
   have HPC:=Lib.hid (take_cells HA4.out k)
   clear hmo4 hR4 hP4 hA4 h4m hone HB3 HM3 HR3 hnil HB2 hcapT
   go_upto_region 6 with (at_builtin; refine wpList_append_all rfl _ _ 88 rfl 24 i1 (.slice none 0 0) 1 24 Tryz.underlying88 hi1 hy0 hy1 hy2 rfl (by decide) (.slice none 0 0) 0 [] rfl hnil4 pa k pc (ps.take k) rfl hlk HPC.out (fun u hu=>HONE.out u (List.mem_of_mem_take hu)) (by unfold maxLen; omega) (by omega) ?_; intro v5 W5 hrow5 hmov5 _; rw [Nat.zero_add,List.nil_append] at hrow5; have HR5:=Lib.hid hrow5; have HM5:=Lib.hid hmov5; clear hrow5 hmov5)
   go_upto_region 7 with (at_builtin; refine wpList_append_all rfl _ _ 88 rfl 24 i1 (.slice none 0 0) 1 24 Tryz.underlying88 hi1 hy0 hy1 hy2 rfl (by decide) v5 k (ps.take k) rfl (HR5.out.alloc _) (some ⟨W5.heap.size,0,none⟩) 1 1 [.slice none 0 0] rfl rfl (fun j u hj=>⟨_,rfl,cell_one_new W5 _ _ j u hj⟩) (fun u hu=>by rw [List.mem_singleton.1 hu]; rfl) (by unfold maxLen; omega) (by omega) ?_; intro v6 W6 hrow6 hmov6 _; have HR6:=Lib.hid hrow6; have HM6:=Lib.hid (HM5.out.trans ((Moves.alloc W5 v5 _).trans hmov6)); clear hrow6 hmov6 HR5 HM5)
   have hb6:Below W4.heap.size W4 W6:=HM6.out.below (fun k e=>by cases e) (Below.refl _ _) (Nat.le_refl _)
   have hmbl4:=lt_of_heap H4M.out
   have c2:W6.cell? ⟨mb,2,none⟩=some (.slice pa T.length pc):=(hb6.cell (p:=⟨mb,2,none⟩) hmbl4).trans d2
   have hdc:=drop_cells (ownsRow_block HA4.out fun j e=>hb6.block j (HA4.out.lt j e).2) k
   obtain ⟨ad,hde⟩:∃ ad,(if pc=k then pa else Option.map (fun x=>x.add k) pa)=ad:=⟨_,rfl⟩
   rw [hde] at hdc
   have HDC:=Lib.hid hdc
   clear hdc d2
   go_upto_region 8 with (at_builtin; refine wpList_append_all rfl _ _ 88 rfl 24 i1 (.slice none 0 0) 1 24 Tryz.underlying88 hi1 hy0 hy1 hy2 rfl (by decide) v6 (k+1) (ps.take k++[.slice none 0 0]) rfl HR6.out _ (T.length - k) (pc - k) (ps.drop k) rfl hldr HDC.out (fun u hu=>HONE.out u (List.mem_of_mem_drop hu)) (by unfold maxLen; omega) (by omega) ?_; intro v7 W7 hrow7 hmov7 _; have HM7:=Lib.hid (HM6.out.trans hmov7); have hb7:Below W4.heap.size W4 W7:=HM7.out.below (fun k e=>by cases e) (Below.refl _ _) (Nat.le_refl _); have hfz7:W7.frozen? ⟨mb,2,none⟩=false:=free_block ((hb7.block mb hmbl4).trans H4M.out); have d7:W7.cell? ⟨mb,2,none⟩=some (.slice pa T.length pc):=cell_block ((hb7.block mb hmbl4).trans H4M.out); have HR7:=Lib.hid hrow7; obtain ⟨a7,n7,c7,rfl⟩:=slice_form hrow7; have HB7:=Lib.hid hb7; clear hrow7 hmov7 HM6 HR6 HDC hb7)
   go_meet
   obtain ⟨qv,hqv⟩:∃ qv,qv=Value.slice a7 n7 c7:=⟨_,rfl⟩
   rw [← hqv] at HM7 HR7 ⊢
   have h8m:=heap_setCell_same W7 mb 2 _ _ qv ((HB7.out.block mb hmbl4).trans H4M.out)
   simp only [Array.setIfInBounds,List.size_toArray,List.length_cons,List.length_nil] at h8m
   have hmo8:Mod (fun j=>j=mb) wc (W7.setCell ⟨mb,2,none⟩ qv):=HMO4.out.trans ((Mod.of_below HB7.out).trans (Mod.setCell _ ⟨mb,2,none⟩ qv fun _=>rfl))
   have hP7:Past W4.heap.size qv:=HM7.out.past (fun k e=>by cases e) (Nat.le_refl _)
   have hBw:B≤wc.heap.size:=Nat.le_trans hB (HS1.out.below 0).size
   have hmb0:B≤mb:=hx0
   have hother:∀ {e size m:Nat} {v:Value} {xs:List Value},e≠90→wc.ownsRow 0 e size v m xs→(W7.setCell ⟨mb,2,none⟩ qv).ownsRow 0 e size v m xs:=fun he hr=>ownsRow_block hr fun j ej=>hmo8.block j (hr.lt j ej).2 fun e'=>by
    subst e'
    obtain ⟨cur,hg⟩:=ownsRow_cells hr ej
    rw [A1.out] at hg
    cases hg
    exact he rfl
   refine ⟨Lib.hid hmo8,Lib.hid ?_⟩
   rw [if_neg HIN.out,← hT']
   refine ⟨hmb0,nv,qv,ps.take k ++ .slice none 0 0 :: ps.drop k,h8m,?_,fun j e=>Nat.le_trans hBw (HP4.out j e),?_,fun j e=>Nat.le_trans (Nat.le_trans hBw hsz4) (hP7 j e),?_,?_⟩
   ·refine ownsRow_block HR4.out fun j e=>(Below.heap_setCell _ _ _ _ fun e'=>?_).trans (HB7.out.block j (HR4.out.lt j e).2)
    have:=HP4.out j e
    simp only at e'
    omega
   ·have e1:T'.length=k+1+(T.length - k):=by omega
    rw [e1]
    have:=HR7.out
    rw [List.append_assoc] at this
    refine ownsRow_block this fun j e=>Below.heap_setCell _ _ _ _ fun e'=>?_
    have:=hP7 j e
    simp only at e'
    omega
   ·intro i v y hv hy
    rw [ins_at _ _ _ _ (by omega)] at hv
    rw [hT',ins_at _ _ _ _ hkT] at hy
    split at hv
    ·rename_i h1
     rw [if_pos h1] at hy
     exact ⟨hother (by decide) (A6.out i v y hv hy).1,(A6.out i v y hv hy).2⟩
    ·rename_i h1
     rw [if_neg h1] at hy
     split at hv
     ·rename_i h2
      rw [if_pos h2] at hy
      cases hv
      cases hy
      rw [hn (place_new HASC.out HK.out HIN.out)]
      exact ⟨World.ownsRow_nil _ _ _ _,fun j e=>by cases e⟩
     ·rename_i h2
      rw [if_neg h2] at hy
      exact ⟨hother (by decide) (A6.out (i - 1) v y hv hy).1,(A6.out (i - 1) v y hv hy).2⟩
   ·intro i j u v g hij hu hv
    rw [ins_at _ _ _ _ (by omega)] at hu hv
    split at hu
    ·split at hv
     ·exact A7.out i j u v g hij hu hv
     ·split at hv
      ·cases hv; intro _ h; cases h
      ·exact A7.out i (j - 1) u v g (by omega) hu hv
    ·split at hu
     ·cases hu; intro h; cases h
     ·split at hv
      ·exact A7.out (i - 1) j u v g (by omega) hu hv
      ·split at hv
       ·cases hv; intro _ h; cases h
       ·exact A7.out (i - 1) (j - 1) u v g (by omega) hu hv
 case rest =>
 obtain ⟨HB,HX2⟩:=hcut
 clear hkT
 obtain ⟨T2,hT2⟩:∃ T2,T2=if T[k]?=some x then T else T.take k++x :: T.drop k:=⟨_,rfl⟩
 have hxk:T2[k]?=some x:=by
  rw [hT2]
  split
  ·assumption
  ·rw [ins_at _ _ _ _ HK.out.1,if_neg (by omega),if_pos rfl]
 have hT2l:T2.length≤10001:=by
  rw [hT2]
  split
  ·omega
  ·simp; omega
 rw [← hT2] at HX2
 have hnd:∀ (i j:Nat) y,T2[i]?=some y→T2[j]?=some y→i=j:=by
  have hp:T2.Pairwise (fun a b=>a < b):=by
   rw [hT2]
   split
   ·exact HASC.out
   ·rename_i hne
    exact ins_rise HASC.out HK.out hne
  intro i j y hi hj
  obtain ⟨h1,e1⟩:=List.getElem?_eq_some_iff.1 hi
  obtain ⟨h2,e2⟩:=List.getElem?_eq_some_iff.1 hj
  rcases Nat.lt_trichotomy i j with h | h | h
  ·have:=List.pairwise_iff_getElem.1 hp i j h1 h2 h
   rw [e1,e2] at this
   exact absurd this (List.lt_irrefl y)
  ·exact h
  ·have:=List.pairwise_iff_getElem.1 hp j i h2 h1 h
   rw [e1,e2] at this
   exact absurd this (List.lt_irrefl y)
 have HNODUP:=Lib.hid hnd
 clear hnd
 have HT2:=Lib.hid hT2
 clear hT2 HTH HX1
 obtain ⟨tv,pv,ps,b1,b2,b3,b4,b5,b6,b7⟩:=HX2.out.ex
 have hkl:k < T2.length:=(List.getElem?_eq_some_iff.1 hxk).1
 have hpsl:ps.length=T2.length:=by have:=b4.1; omega
 obtain ⟨v,hv⟩:∃ v,ps[k]?=some v:=⟨_,List.getElem?_eq_getElem (by omega)⟩
 obtain ⟨gp,pc,rfl,hcv⟩:=ownsRow_cell b4 hv
 obtain ⟨hrow,hpast⟩:=b6 k v x hv hxk
 have d1:wc.cell? ⟨mb,2,none⟩=some (.slice (some ⟨gp,0,none⟩) T2.length pc):=cell_block b1
 obtain ⟨va,vc,rfl⟩:=ownsRow_form hrow
 have z1:(0:Int)≤(k:Int)∧(k:Int) < (T2.length:Int):=by omega
 have B1:=Lib.hid b1
 have B2:=Lib.hid b2
 have B3:=Lib.hid b3
 have B4:=Lib.hid b4
 have B5:=Lib.hid b5
 have B6:=Lib.hid b6
 have B7:=Lib.hid b7
 have HV:=Lib.hid hv
 have HROW:=Lib.hid hrow
 have HPAST:=Lib.hid hpast
 have HXK:=Lib.hid hxk
 clear b1 b2 b3 b4 b5 b6 b7 hv hrow hpast hxk
 obtain ⟨l,hl⟩:∃ l,l=L x:=⟨_,rfl⟩
 rw [← hl] at hL HROW hcv HPAST HV
 have HLL:=Lib.hid hl
 clear hl
 go_upto_region 9 with fail
 obtain ⟨q,hq⟩:∃ q,q=decide (¬ l.getLast?=some d):=⟨_,rfl⟩
 have HQ:=Lib.hid hq
 clear hq
 obtain ⟨m,hm⟩:∃ m,m=l.length:=⟨_,rfl⟩
 rw [← hm] at hL HROW hcv HPAST HV ⊢
 have HML:=Lib.hid hm
 clear hm
 rename_i K1 hK1
 go_cut [86] from 70 to 102 (fun t wy=>t = .bool q∧wy=wc)
 case first =>
  rcases List.eq_nil_or_concat l with h0 | ⟨l2,j,h0⟩
  ·have hlen:m=0:=by rw [HML.out,h0]; rfl
   have hqt:q=true:=by rw [HQ.out,h0]; simp
   subst hlen
   subst hqt
   clear hcv
   go_wp2_with fail
   go_meet
   exact ⟨rfl,rfl⟩
  ·rw [List.concat_eq_append] at h0
   have hlen:m=l2.length+1:=by rw [HML.out,h0]; simp
   subst hlen
   have hrow:=HROW.out
   obtain ⟨gl,cl,hg⟩:=ownsRow_head hrow
   cases hg
   have hcl:wc.cell? ⟨gl,l2.length,none⟩=some (.int .i64 j):=by
    rw [hrow.cellAt _ (by omega),h0]
    simp [intV]
   have q0:(((l2.length:Int)+1) == 0)=false:=by rw [beq_eq_false_iff_ne]; omega
   have q1:IntKind.i64.wrap (l2.length:Int)=(l2.length:Int):=IntWalk.i64_in _ (by omega)
   have q2:(0:Int)≤(l2.length:Int)∧(l2.length:Int) < (l2.length:Int)+1:=by omega
   have hqv:q = !(j == d):=by
    rw [HQ.out,h0,Bool.eq_iff_iff]
    simp
   have q3:((j:Int) != (d:Int))=q:=by rw [hqv,Bool.eq_iff_iff]; simp; omega
   clear hrow HROW h0 hqv
   go_wp2_with fail
   go_meet
   exact ⟨rfl,rfl⟩
 case rest =>
 obtain ⟨rfl,rfl⟩:=hcut
 refine hK1 _ _ ?_
 clear hK1
 have HBW:Hid (Below B w wc):=Lib.hid (((HS1.out.below B)).trans (HB.out.toBelow (Nat.le_trans hB (HS1.out.below 0).size) fun j e=>by rw [e]; exact hx0))
 have HKW:Hid (IdxKept w wc):=Lib.hid ((IdxKept.below (HS1.out.below _)).trans (IdxKept.mod HM1.out HB.out))
 clear HB HS1 HM1
 cases q with
 | false =>
  go_wp2_with fail
  refine bodyPost_end (results_none rfl _ _ _) rfl ?_
  refine ⟨rfl,HBW.out,HKW.out,k,HK.out,?_⟩
  rw [← HT2.out]
  have hg:(fun y=>if y=x then addD (L x) d else L y)=L:=funext fun y=>by
   split
   ·rename_i e
    subst e
    rw [← HLL.out]
    unfold addD
    rw [if_pos (by simpa using HQ.out.symm)]
   ·rfl
  rw [hg]
  exact HX2.out
 | true =>
  have hadd:addD (L x) d=l++[d]:=by
   rw [← HLL.out]
   unfold addD
   rw [if_neg (by simpa using HQ.out.symm)]
  have HADD:=Lib.hid hadd
  clear hadd HQ
  go_upto_region 10 with fail
  refine wp_region_ordX [(0,false),(1,false),(2,false),(3,false),(4,false),(5,false),(6,false),(7,false),(8,false),(9,false),(10,false),(11,false),(12,false),(13,true),(14,true),(15,false),(16,true)] 16
   (fun w'=>w'.cell? ⟨mb,2,none⟩=some (.slice (some ⟨gp,0,none⟩) T2.length pc)∧w'.cell? ⟨gp,k,none⟩=some (.slice va m vc)) (by kernel_rfl) (by kernel_rfl) ⟨d1,hcv⟩ ?_
  iterate 13 (
   refine wpOrd_quiet ?_ rfl rfl (fun w' hS=>?_) ?_
   rotate_left
   ·obtain ⟨f0,f1⟩:=hS
    go_simp
    first | rfl | done
   simp only [put_lit,List.set_cons_succ,List.set_cons_zero])
  have hmbl:=lt_of_cell d1
  have hgpl:=lt_of_cell hcv
  have hmbl:mb < wc.heap.size:=hmbl
  have hgpl:gp < wc.heap.size:=hgpl
  -- the new number's cell
  refine wpOrd_loud rfl rfl (by decide) (fun K5 hK5=>?_)
  go_simp
  refine hK5 _ _ ⟨(World.cell?_alloc_lt wc.drew _ _ hmbl).trans d1,(World.cell?_alloc_lt wc.drew _ _ hgpl).trans hcv⟩ ?_
  clear hK5 K5
  try simp only [put_lit,List.set_cons_succ,List.set_cons_zero]
  refine wpOrd_loud rfl rfl (by decide) (fun K5 hK5=>?_)
  have hrow1:((wc.drew).alloc (.cells #[.int .i64 d] 3)).ownsRow 0 3 1 (.slice va m vc) m (l.map intV):=HROW.out.drew.alloc _
  refine wp_append_lies _ _ 24 rfl 3 i2 (.int .i64 0) 1 8 Tryz.underlying24 hi2 hw0 hx1 hx2 rfl (by decide) (.slice va m vc) m (l.map intV) rfl hrow1 ⟨wc.heap.size,0,none⟩ 1 1 [.int .i64 d] rfl rfl (cell_one_new wc.drew _ _) (by simp [Value.oneCell']) (by decide) (by unfold maxLen; omega) (by omega) ?_
  intro v4 W4 hrow4 hgrow4 hlies4
  have hva:∀ g,(Value.slice va m vc).ownBlock=some g→g≠mb∧g≠gp:=fun g e=>by
   obtain ⟨c1,e1⟩:=ownsRow_cells HROW.out e
   obtain ⟨c2,e2⟩:=ownsRow_cells B4.out (g:=gp) rfl
   refine ⟨fun h=>?_,fun h=>?_⟩
   ·rw [h,B1.out] at e1; cases e1
   ·rw [h,e2] at e1; cases e1
  have hW3:Below wc.heap.size wc ((wc.drew).alloc (.cells #[.int .i64 d] 3)):=((Same.drew wc).below _).alloc (Nat.le_refl _) _
  have hmv:Moves wc (.slice va m vc) W4 v4:=((Moves.same _ (Same.drew wc)).trans (Moves.alloc _ _ _)).trans (Moves.append hgrow4 hlies4)
  have hkeep:∀ j,j < wc.heap.size→(Value.slice va m vc).ownBlock≠some j→W4.heap[j]?=wc.heap[j]?:=fun j hj hn=>hmv.block hj hn
  have kmb:W4.heap[mb]?=wc.heap[mb]?:=hkeep mb hmbl fun e=>(hva mb e).1 rfl
  have kgp:W4.heap[gp]?=wc.heap[gp]?:=hkeep gp hgpl fun e=>(hva gp e).2 rfl
  have f4:W4.cell? ⟨mb,2,none⟩=some (.slice (some ⟨gp,0,none⟩) T2.length pc):=(World.cell?_of_block (a:=⟨mb,2,none⟩) kmb).trans d1
  have f5:W4.cell? ⟨gp,k,none⟩=some (.slice va m vc):=(World.cell?_of_block (a:=⟨gp,k,none⟩) kgp).trans hcv
  have f6:W4.frozen? ⟨gp,k,none⟩=false:=by
   obtain ⟨c2,e2⟩:=ownsRow_cells B4.out (g:=gp) rfl
   exact free_block (kgp.trans e2)
  refine hK5 _ _ ⟨f4,f5⟩ ?_
  clear hK5 K5
  obtain ⟨a4,n4,c4,rfl⟩:=slice_form hrow4
  simp only [put_lit,List.set_cons_succ,List.set_cons_zero]
  refine wpOrd_quiet ?_ rfl rfl (fun w' hS=>?_) ?_
  rotate_left
  ·obtain ⟨f0,f1⟩:=hS
   go_simp
   first | rfl | done
  simp only [put_lit,List.set_cons_succ,List.set_cons_zero]
  refine wpOrd_last rfl rfl (fun K5 hK5=>?_)
  have HK5:=Lib.hid hK5
  have HMV:=Lib.hid hmv
  have HR4:=Lib.hid hrow4
  clear hK5 hmv hrow4 hgrow4 hlies4 hkeep hva hW3 hrow1
  go_simp
  refine HK5.out _ _ ?_
  clear HK5 K5
  go_wp2_with fail
  refine bodyPost_end (results_none rfl _ _ _) rfl ?_
  obtain ⟨nv,hnv⟩:∃ nv,nv=Value.slice a4 n4 c4:=⟨_,rfl⟩
  rw [← hnv] at HMV HR4 ⊢
  have hBw:B≤wc.heap.size:=Nat.le_trans hB HBW.out.size
  have hgpB:B≤gp:=B5.out gp rfl
  have hgr:Below B wc (W4.setCell ⟨gp,k,none⟩ nv):=(HMV.out.below HPAST.out (Below.refl _ _) hBw).setCell (p:=⟨gp,k,none⟩) hgpB _
  have hnp:Past B nv:=HMV.out.past HPAST.out hBw
  have hvg:nv.ownBlock≠some gp:=fun e=>by
   obtain ⟨c1,e1⟩:=ownsRow_cells HR4.out e
   obtain ⟨c2,e2⟩:=ownsRow_cells B4.out (g:=gp) rfl
   rw [kgp,e2] at e1
   cases e1
  have hother:∀ {e size z:Nat} {v:Value} {xs:List Value},wc.ownsRow 0 e size v z xs→(∀ g,v.ownBlock=some g→(Value.slice va m vc).ownBlock≠some g∧g≠gp)→(W4.setCell ⟨gp,k,none⟩ nv).ownsRow 0 e size v z xs:=fun hr hn=>ownsRow_block hr fun j ej =>
   (Below.heap_setCell _ _ _ _ (hn j ej).2).trans (HMV.out.block (hr.lt j ej).2 (hn j ej).1)
  have htyp:∀ {e size z:Nat} {v:Value} {xs:List Value},e≠3→e≠24→wc.ownsRow 0 e size v z xs → ∀ g,v.ownBlock=some g→(Value.slice va m vc).ownBlock≠some g∧g≠gp:=fun h1 h2 hr g eg=>by
   obtain ⟨c0,e0⟩:=ownsRow_cells hr eg
   obtain ⟨c2,e2⟩:=ownsRow_cells B4.out (g:=gp) rfl
   refine ⟨fun e=>?_,fun e=>?_⟩
   ·obtain ⟨c1,e1⟩:=ownsRow_cells HROW.out e
    rw [e0] at e1
    cases e1
    exact h1 rfl
   ·subst e
    rw [e0] at e2
    cases e2
    exact h2 rfl
  refine ⟨rfl,HBW.out.trans hgr,HKW.out.trans (fun j cs t r hj h1 h2 h3=>(Below.heap_setCell _ _ _ _ fun e=>?_).trans (HMV.out.block (lt_of_heap hj) fun e=>?_)),k,HK.out,?_⟩
  ·have e:j=gp:=e
   obtain ⟨c2,e2⟩:=ownsRow_cells B4.out (g:=gp) rfl
   rw [e,e2] at hj
   cases hj
   exact h2 rfl
  ·obtain ⟨c1,e1⟩:=ownsRow_cells HROW.out e
   rw [e1] at hj
   cases hj
   exact h3 rfl
  rw [← HT2.out]
  have hset:(W4.setCell ⟨gp,k,none⟩ nv).ownsRow 0 24 1 (.slice (some ⟨gp,0,none⟩) T2.length pc) T2.length (ps.set k nv) :=
   row_set (ownsRow_block B4.out fun j ej=>by cases ej; exact kgp) rfl nv
  refine ⟨hx0,tv,_,ps.set k nv,?_,hother B2.out (htyp (by decide) (by decide) B2.out),B3.out,hset,B5.out,?_,?_⟩
  ·exact (Below.heap_setCell _ _ _ _ fun e=>by
    have e:mb=gp:=e
    obtain ⟨c2,e2⟩:=ownsRow_cells B4.out (g:=gp) rfl
    rw [← e,B1.out] at e2
    cases e2).trans (kmb.trans B1.out)
  ·intro i v y hv hy
   rcases Nat.decEq i k with hik | hik
   ·rw [List.getElem?_set_ne (Ne.symm hik)] at hv
    have hne:y≠x:=fun e=>by
     subst e
     exact hik (HNODUP.out i k y hy HXK.out)
    obtain ⟨g1,g2⟩:=B6.out i v y hv hy
    rw [if_neg hne]
    refine ⟨hother g1 fun g eg=>⟨fun e=>B7.out i k v _ g hik hv HV.out eg e,fun e=>?_⟩,g2⟩
    obtain ⟨c0,e0⟩:=ownsRow_cells g1 eg
    obtain ⟨c2,e2⟩:=ownsRow_cells B4.out (g:=gp) rfl
    rw [e,e2] at e0
    cases e0
   ·subst hik
    rw [List.getElem?_set_self (by omega)] at hv
    cases hv
    have hyx:y=x:=by
     have:=HXK.out
     rw [hy] at this
     exact Option.some.inj this
    subst hyx
    rw [if_pos rfl,HADD.out]
    have:=HR4.out
    refine ⟨ownsRow_block (w:=W4) ?_ fun j ej=>Below.heap_setCell _ _ _ _ fun e=>hvg (ej.trans (congrArg some e)),hnp⟩
    rw [List.length_append,List.map_append,← HML.out]
    exact this
  ·intro i j u v g hij hu hv hug
   rcases Nat.decEq i k with hik | hik
   ·rw [List.getElem?_set_ne (Ne.symm hik)] at hu
    rcases Nat.decEq j k with hjk | hjk
    ·rw [List.getElem?_set_ne (Ne.symm hjk)] at hv
     exact B7.out i j u v g hij hu hv hug
    ·subst hjk
     rw [List.getElem?_set_self (by omega)] at hv
     cases hv
     intro e
     rcases HMV.out.lies with h | ⟨g',h,hg'⟩
     ·exact B7.out i j u _ g hij hu HV.out hug (h ▸ e)
     ·rw [h] at e
      cases e
      have hyi:∃ y,T2[i]?=some y:=⟨_,List.getElem?_eq_getElem (by have:=(List.getElem?_eq_some_iff.1 hu).1; omega)⟩
      obtain ⟨y,hy⟩:=hyi
      have:=((B6.out i u y hu hy).1.lt g hug).2
      omega
   ·subst hik
    rw [List.getElem?_set_self (by omega)] at hu
    cases hu
    rw [List.getElem?_set_ne hij] at hv
    intro e
    rcases HMV.out.lies with h | ⟨g',h,hg'⟩
    ·exact B7.out i j _ v g hij HV.out hv (h ▸ hug) e
    ·rw [h] at hug
     cases hug
     obtain ⟨y,hy⟩:∃ y,T2[j]?=some y:=⟨_,List.getElem?_eq_getElem (by have:=(List.getElem?_eq_some_iff.1 hv).1; omega)⟩
     have:=((B6.out j v y hv hy).1.lt g e).2
     omega
end Go.Proofs.Tl
namespace Go.Proofs.Tl
open Go Go.RowKit Go.Proofs.Ts
structure TermsIn (T:List (List UInt8)) (L:List UInt8→List Nat):Prop where
 rise:T.Pairwise (fun a b=>a < b)
 mem:∀ y,y∈T↔L y≠[]
theorem TermsIn.start:TermsIn [] (fun _=>[]):=⟨List.Pairwise.nil,fun y=>by simp⟩
theorem TermsIn.add {T:List (List UInt8)} {L:List UInt8→List Nat} (h:TermsIn T L) {x:List UInt8} {k d:Nat} (hk:PlaceIs T x k) :
  TermsIn (if T[k]?=some x then T else T.take k++x :: T.drop k) (fun y=>if y=x then addD (L x) d else L y):=by
 have hadd:addD (L x) d≠[]:=by
  unfold addD
  split
  ·rename_i h1
   intro h2
   rw [h2] at h1
   cases h1
  ·simp
 split
 ·rename_i hx
  have hm:x∈T:=List.mem_of_getElem? hx
  refine ⟨h.rise,fun y=>?_⟩
  split
  ·rename_i e
   subst e
   exact ⟨fun _=>hadd,fun _=>hm⟩
  ·exact h.mem y
 ·rename_i hx
  refine ⟨ins_rise h.rise hk hx,fun y=>?_⟩
  have hiff:y∈T.take k++x :: T.drop k↔y∈T∨y=x:=by
   conv=>rhs; rw [← List.take_append_drop k T]
   rw [List.mem_append,List.mem_cons,List.mem_append]
   constructor
   ·rintro (h | h | h)
    ·exact .inl (.inl h)
    ·exact .inr h
    ·exact .inl (.inr h)
   ·rintro ((h | h) | h)
    ·exact .inl h
    ·exact .inr (.inr h)
    ·exact .inr (.inl h)
  rw [hiff]
  split
  ·rename_i e
   exact ⟨fun _=>hadd,fun _ => .inr e⟩
  ·rename_i e
   rw [← h.mem y]
   exact ⟨fun h=>h.resolve_right e,.inl⟩
theorem addD_posts (D:List (List (List UInt8))) (pre:List (List UInt8)) (x:List UInt8) :
  (fun y=>if y=x then addD (postsOf (D++[pre]) x) D.length else postsOf (D++[pre]) y)=postsOf (D++[pre++[x]]):=by
 by_cases hx:x∈pre
 ·rw [postsOf_old D pre x hx]
  funext y
  split
  ·rename_i e
   subst e
   unfold addD
   rw [if_pos (by rw [postsOf_snoc,if_pos hx]; simp)]
  ·rfl
 ·rw [postsOf_new D pre x hx]
  funext y
  split
  ·unfold addD
   rw [if_neg]
   intro h
   have hm:=List.mem_of_getLast? h
   rw [postsOf_snoc,if_neg hx,List.append_nil] at hm
   have:=postsOf_lt _ _ _ hm
   omega
  ·rfl
theorem add_length {T:List (List UInt8)} {x:List UInt8} {k:Nat} (hk:k≤T.length):(if T[k]?=some x then T else T.take k++x :: T.drop k).length≤T.length+1:=by
 split
 ·omega
 ·simp; omega
def buildNum (docs:List ByteArray):Int:=if 48 < docs.length then 1 else if ∃ d∈docs,200 < d.size then 2 else 0
def IndexOf (B:Nat) (w:World) (mb:Nat) (D:List (List (List UInt8))):Prop:=∃ T,TermsIn T (postsOf D)∧T.length≤10000∧IndexIs B w mb D.length T (postsOf D)
set_option maxRecDepth 100000 in
set_option maxHeartbeats 8000000 in
theorem refBuild_law (docs:List ByteArray) (v:Value) (w:World) (hv:StrsIs w v docs) (hl:docs.length≤1000000) :
  Calls Tryz.prog 35 #[v] w fun e w'=>Below w.heap.size w w' ∧
   ((buildNum docs≠0∧e = .returned (.tuple #[.pointer none,.int .i64 (buildNum docs)])) ∨
    (buildNum docs=0 ∧ ∃ mb,e = .returned (.tuple #[ptrV mb,.int .i64 0])∧IndexOf w.heap.size w' mb (docs.map wordsB))):=by
 obtain ⟨a0,cap0,rfl,hc⟩:=hv
 have HC:=Lib.hid hc
 clear hc
 go_enter Tryz.func35,Tryz.ntmps35
 by_cases h48:48 < docs.length
 ·have hb:buildNum docs=1:=by unfold buildNum; rw [if_pos h48]
  rw [hb]
  go_wp2_with fail
  go_ret2
  exact ⟨Below.refl _ _,.inl ⟨by decide,rfl⟩⟩
 ·have h48':decide ((48:Int) < (docs.length:Int))=false:=by simp; omega
  have HN:Hid (buildNum docs=if ∃ d∈docs,200 < d.size then 2 else 0):=Lib.hid (by unfold buildNum; rw [if_neg h48])
  have HX0:=Lib.hid (fun W (hW:w.heap.size≤W.heap.size)=>IndexIs.start W hW docs.length)
  go_wp2_with fail
  go_loopw [4] (fun i wr=>∃ k:Nat,k≤docs.length∧i = .int .i64 k∧Hid (∀ d∈docs.take k,d.size≤200)∧w=wr) (fun i _=>docs.length - (intOf i).toNat)
  case atStart=>exact ⟨0,Nat.zero_le _,rfl,Lib.hid (fun d h=>by simp at h),rfl⟩
  case round =>
   obtain ⟨k,hk,rfl,HA,rfl⟩:=hrel
   by_cases hlt:k < docs.length
   ·obtain ⟨b,off,rfl,hcell⟩:=HC.out k hlt
    have q1:IntKind.i64.wrap ((k:Int)+1)=(k:Int)+1:=IntWalk.i64_in _ (by omega)
    by_cases h200:docs[k].size≤200
    ·have HA2:Hid (∀ d∈docs.take (k+1),d.size≤200):=Lib.hid fun d hd=>by
      rw [List.take_succ_eq_append_getElem hlt] at hd
      rcases List.mem_append.1 hd with hd | hd
      ·exact HA.out d hd
      ·rw [List.mem_singleton.1 hd]; exact h200
     go_wp2_with fail
     exact ⟨⟨k+1,by omega,by go_num,HA2,trivial⟩,by simp [intOf]; omega⟩
    ·have hb:buildNum docs=2:=by rw [HN.out,if_pos ⟨docs[k],List.getElem_mem hlt,by omega⟩]
     have HBN:=Lib.hid hb
     clear hb
     go_wp2_with fail
     go_ret2
     exact ⟨Below.refl _ _,.inl ⟨by rw [HBN.out]; decide,by rw [HBN.out]; rfl⟩⟩
   ·obtain rfl:k=docs.length:=by omega
    have hall:∀ d∈docs,d.size≤200:=fun d hd=>HA.out d (by rw [List.take_length]; exact hd)
    have hb:buildNum docs=0:=by
     rw [HN.out,if_neg]
     rintro ⟨d,hd,h⟩
     have:=hall d hd
     omega
    have HBN:=Lib.hid hb
    have HALL:=Lib.hid hall
    clear hb hall HA HN
    obtain ⟨D,hD⟩:∃ D,D=docs.map wordsB:=⟨_,rfl⟩
    have hDl:D.length=docs.length:=by rw [hD]; simp
    have hDat:∀ (i:Nat) (h:i < docs.length),D[i]?=some (wordsB docs[i]):=fun i h=>by rw [hD]; simp [h]
    have HDD:=Lib.hid hD
    have HDAT:=Lib.hid hDat
    clear hD hDat
    go_wp2_with fail
    have HX1:=Lib.hid (HX0.out w (Nat.le_refl _))
    have HB1:Hid (Below w.heap.size w (w.alloc (.cells #[.int .i64 docs.length,.slice none 0 0,.slice none 0 0] 90))):=Lib.hid ((Below.refl _ w).alloc (Nat.le_refl _) _)
    have hz1:w.heap.size < (w.alloc (.cells #[.int .i64 docs.length,.slice none 0 0,.slice none 0 0] 90)).heap.size:=by simp
    obtain ⟨W1,hW1⟩:∃ W1,W1=(w.alloc (.cells #[.int .i64 docs.length,.slice none 0 0,.slice none 0 0] 90)):=⟨_,rfl⟩
    rw [← hW1] at HX1 HB1 hz1 ⊢
    clear hW1 HX0
    obtain ⟨B,hBw⟩:∃ B,B=w.heap.size:=⟨_,rfl⟩
    rw [← hBw] at HX1 HB1 hz1 ⊢
    have HBW:=Lib.hid hBw
    clear hBw
    go_loopw [6] (fun i wr=>∃ (k:Nat) (T:List (List UInt8)),k≤docs.length∧i = .int .i64 k∧Hid (TermsIn T (postsOf (D.take k)))∧T.length≤201 * k∧Hid (IndexIs B wr B docs.length T (postsOf (D.take k)))∧Hid (Below B w wr)∧B≤wr.heap.size) (fun i _=>docs.length - (intOf i).toNat)
    case atStart=>exact ⟨0,[],Nat.zero_le _,rfl,Lib.hid TermsIn.start,by simp,HX1,HB1,by omega⟩
    case round =>
     obtain ⟨k,T,hk,rfl,HT,hTl,HX,HB,hBr⟩:=hrel
     have q1:IntKind.i64.wrap ((k:Int)+1)=(k:Int)+1:=IntWalk.i64_in _ (by omega)
     by_cases hlt:k < docs.length
     ·obtain ⟨b,off,rfl,hcell0⟩:=HC.out k hlt
      have hcell:wr.cell? ⟨b,off+k,none⟩=some (.string docs[k]):=(HB.out.cell (p:=⟨b,off+k,none⟩) (by rw [HBW.out]; exact lt_of_cell hcell0)).trans hcell0
      have h200:=HALL.out docs[k] (List.getElem_mem hlt)
      have hwl:(wordsB docs[k]).length≤201:=by have:=wordsB_length docs[k]; omega
      have hw16:∀ t∈wordsB docs[k],t.length≤16:=fun t ht=>(wordsB_mem ht).2
      have hdk:=HDAT.out k hlt
      obtain ⟨s,hs⟩:∃ s,s=docs[k]:=⟨_,rfl⟩
      rw [← hs] at hcell h200 hwl hw16 hdk
      obtain ⟨ws,hws⟩:∃ ws,ws=wordsB s:=⟨_,rfl⟩
      have hwords:=fun W=>words_law s W (by omega)
      rw [← hws] at hwl hw16 hdk hwords
      have HDK:=Lib.hid hdk
      have HW16:=Lib.hid hw16
      have HWORDS:=Lib.hid hwords
      clear hs hws hdk hw16 hwords hcell0
      go_upto_region 13 with (go_at_call 62; refine (HWORDS.out wr).mono ?_; rintro e w2 ⟨ov,rfl,hst⟩; have HST:=Lib.hid hst; clear hst)
      have hb2:Below wr.heap.size wr w2:=HST.out.below
      have hr2:w2.ownsRow 0 9 1 ov ws.length (ws.map strV):=HST.out.row
      have HX2:=Lib.hid (HX.out.below hb2)
      have HB2:=Lib.hid (HB.out.trans (hb2.mono hBr))
      have hBr2:B≤w2.heap.size:=Nat.le_trans hBr hb2.size
      have HR2:=Lib.hid hr2
      obtain ⟨oa,oc,rfl⟩:=ownsRow_form hr2
      have HDT:Hid (D.take (k+1)=D.take k++[ws]):=Lib.hid (by
       rw [List.take_succ_eq_append_getElem (by omega)]
       congr 2
       have:=HDK.out
       rw [List.getElem?_eq_getElem (by omega)] at this
       exact Option.some.inj this)
      have hDk:(D.take k).length=k:=by rw [List.length_take]; omega
      obtain ⟨Dk,hDD⟩:∃ Dk,Dk=D.take k:=⟨_,rfl⟩
      rw [← hDD] at HT HX2 HDT hDk
      clear hDD HX HB HST hb2 hr2 HWORDS hcell
      go_wp2_with fail
      go_loopw [8] (fun i wx=>∃ (j:Nat) (T:List (List UInt8)),j≤ws.length∧i = .int .i64 j∧Hid (TermsIn T (postsOf (Dk++[ws.take j])))∧T.length≤201 * k+j∧Hid (IndexIs B wx B docs.length T (postsOf (Dk++[ws.take j])))∧Hid (Below B w wx)∧B≤wx.heap.size∧Hid (wx.ownsRow 0 9 1 (.slice oa ws.length oc) ws.length (ws.map strV))) (fun i _=>ws.length - (intOf i).toNat)
      case atStart=>exact ⟨0,T,Nat.zero_le _,rfl,by rw [List.take_zero,postsOf_nil]; exact HT,by omega,by rw [List.take_zero,postsOf_nil]; exact HX2,HB2,hBr2,HR2⟩
      case round =>
       clear HX2 HB2 hBr2 HR2 HT hTl
       obtain ⟨j,T3,hj,rfl,HT,hTl,HX2,HB2,hBr2,HR2⟩:=hrel
       have q2:IntKind.i64.wrap ((j:Int)+1)=(j:Int)+1:=IntWalk.i64_in _ (by omega)
       by_cases hjl:j < ws.length
       ·obtain ⟨g,cap,e1,hc⟩:=strRow_cell HR2.out hjl
        simp only [Value.slice.injEq,true_and] at e1
        obtain ⟨rfl,rfl⟩:=e1
        have z1:(0:Int)≤(j:Int)∧(j:Int) < (ws.length:Int):=by omega
        have h16:=HW16.out ws[j] (List.getElem_mem hjl)
        have htk:ws.take (j+1)=ws.take j++[ws[j]]:=List.take_succ_eq_append_getElem hjl
        have hadd:=add_law ws[j] k B B docs.length T3 (postsOf (Dk++[ws.take j])) wr HX2.out hBr2 (by omega) (by have:=postsOf_length (Dk++[ws.take j]) ws[j]; simp at this; omega) (by omega) (fun hn=>by
         rcases List.eq_nil_or_concat (postsOf (Dk++[ws.take j]) ws[j]) with h0 | ⟨l2,z,h0⟩
         ·exact h0
         ·exact absurd ((HT.out.mem _).2 (by rw [h0]; simp)) hn) HT.out.rise
        generalize ws[j]=x at *
        unfold ptrV strV at hadd
        have HADD:=Lib.hid hadd
        have HTK:=Lib.hid htk
        clear hadd htk
        go_upto_region 15 with (go_at_call 63; refine HADD.out.mono ?_; rintro e w4 ⟨rfl,hb4,hk4,kk,hpl,hx4⟩; have H4:=Lib.hid (And.intro hb4 (And.intro hk4 (And.intro hpl hx4))); clear hb4 hk4 hpl hx4)
        go_wp2_with fail
        go_roundw
        case rel =>
         obtain ⟨hb4,hk4,hpl,hx4⟩:=H4.out
         have hp4:=addD_posts Dk (ws.take j) x
         rw [hDk,← HTK.out] at hp4
         rw [hp4] at hx4
         have ht4:=HT.out.add (d:=k) hpl
         rw [hp4] at ht4
         exact ⟨j+1,_,by omega,by go_num,Lib.hid ht4,by have:=add_length (x:=x) (T:=T3) hpl.1; omega,Lib.hid hx4,Lib.hid (HB2.out.trans hb4),Nat.le_trans hBr2 hb4.size,Lib.hid (hk4.row HR2.out (by decide) (by decide) (by decide))⟩
        case measure=>(simp [intOf]) <;> omega
       ·obtain rfl:j=ws.length:=by omega
        go_wp2_with fail
        refine ⟨⟨k+1,T3,by omega,by go_num,?_,by omega,?_,HB2,hBr2⟩,by simp [intOf]; omega⟩
        ·rw [HDT.out]
         have:=HT
         rw [List.take_length] at this
         exact this
        ·rw [HDT.out]
         have:=HX2
         rw [List.take_length] at this
         exact this
     ·obtain rfl:k=docs.length:=by omega
      go_wp2_with fail
      go_ret2
      refine ⟨by rw [← HBW.out]; exact HB.out,.inr ⟨HBN.out,B,rfl,?_⟩⟩
      rw [← HBW.out,← HDD.out]
      have e1:D.take docs.length=D:=by rw [← hDl,List.take_length]
      have h1:=HT.out
      have h2:=HX.out
      rw [e1] at h1 h2
      exact ⟨T,h1,by omega,by rw [hDl]; exact h2⟩
end Go.Proofs.Tl
namespace Go.Proofs.Tl
open Go Go.RowKit Go.Proofs.Ts
def NatsOf (w:World) (v:Value) (l:List Nat):Prop:=w.ownsRow 0 3 1 v l.length (l.map intV)
theorem NatsOf.cell {w:World} {v:Value} {l:List Nat} (h:NatsOf w v l) {i:Nat} (hi:i < l.length):∃ g cap,v = .slice (some ⟨g,0,none⟩) l.length cap∧w.cell? ⟨g,i,none⟩=some (.int .i64 ((l[i]:Nat):Int)):=by
 obtain ⟨g,cap,e,hc⟩:=ownsRow_cell h (j:=i) (u:=intV l[i]) (by rw [List.getElem?_map,List.getElem?_eq_getElem hi]; rfl)
 exact ⟨g,cap,e,hc⟩
theorem NatsOf.below {w w':World} {v:Value} {l:List Nat} (h:NatsOf w v l) (hb:Below w.heap.size w w'):NatsOf w' v l:=ownsRow_block h fun k e=>hb.block k (h.lt k e).2
set_option maxRecDepth 100000 in
theorem among_law (l:List Nat) (d:Nat) (v:Value) (w:World) (hv:NatsOf w v l) (hl:l.length≤1000000) :
  Calls Tryz.prog 76 #[v,.int .i64 d] w fun e w'=>e = .returned (.bool (decide (d∈l)))∧Same w w':=by
 obtain ⟨va,vc,rfl⟩:=ownsRow_form hv
 have HV:=Lib.hid hv
 clear hv
 go_enter Tryz.func76,Tryz.ntmps76
 go_wp2_with fail
 go_loopw [5] (fun iv wr=>∃ i:Nat,i≤l.length∧iv = .int .i64 (i:Int)∧Hid (d ∉ l.take i)∧w=wr) (fun iv _=>l.length - (intOf iv).toNat)
 case atStart=>exact ⟨0,Nat.zero_le _,rfl,Lib.hid (by simp),rfl⟩
 case round =>
  obtain ⟨i,hil,rfl,HN,rfl⟩:=hrel
  have q1:IntKind.i64.wrap ((i:Int)+1)=(i:Int)+1:=IntWalk.i64_in _ (by omega)
  by_cases hlt:i < l.length
  ·obtain ⟨g,cap,e1,hc⟩:=HV.out.cell hlt
   simp only [Value.slice.injEq,true_and] at e1
   obtain ⟨rfl,rfl⟩:=e1
   have z1:(0:Int)≤(i:Int)∧(i:Int) < (l.length:Int):=by omega
   have htk:l.take (i+1)=l.take i++[l[i]]:=List.take_succ_eq_append_getElem hlt
   have hmem:l[i]∈l:=List.getElem_mem hlt
   have HTK:=Lib.hid htk
   have HM:=Lib.hid hmem
   clear htk hmem
   generalize l[i]=x at *
   by_cases hx:x=d
   ·have e2:((x:Int) == (d:Int))=true:=by simp [hx]
    have hd:decide (d∈l)=true:=by rw [← hx]; simpa using HM.out
    have HD:=Lib.hid hd
    clear hd
    go_wp2_with fail
    go_ret
    exact ⟨ret_bool HD.out.symm,Same.refl _⟩
   ·have e2:((x:Int) == (d:Int))=false:=by rw [beq_eq_false_iff_ne]; omega
    have HN2:Hid (d ∉ l.take (i+1)):=Lib.hid (by
     rw [HTK.out,List.mem_append,List.mem_singleton]
     rintro (h | h)
     ·exact HN.out h
     ·exact hx h.symm)
    go_wp2_with fail
    exact ⟨⟨i+1,by omega,by go_num,HN2,trivial⟩,by simp [intOf]; omega⟩
  ·obtain rfl:i=l.length:=by omega
   have hd:decide (d∈l)=false:=by
    have:=HN.out
    rw [List.take_length] at this
    simpa using this
   have HD:=Lib.hid hd
   clear hd
   go_wp2_with fail
   go_ret
   exact ⟨ret_bool HD.out.symm,Same.refl _⟩
def unionOf (L:List UInt8→List Nat) (T:List (List UInt8)) (l:List Nat) (n:Nat):List Nat:=(List.range n).filter fun d=>l.any fun i=>decide (d∈L (T.getD i []))
theorem unionOf_succ (L:List UInt8→List Nat) (T:List (List UInt8)) (l:List Nat) (n:Nat):unionOf L T l (n+1)=unionOf L T l n++if (l.any fun i=>decide (n∈L (T.getD i []))) then [n] else []:=by
 unfold unionOf
 rw [List.range_succ,List.filter_append]
 congr 1
 rw [List.filter_cons]
 split <;> simp
theorem unionOf_length (L:List UInt8→List Nat) (T:List (List UInt8)) (l:List Nat) (n:Nat):(unionOf L T l n).length≤n:=by
 unfold unionOf
 have:=List.length_filter_le (fun d=>l.any fun i=>decide (d∈L (T.getD i []))) (List.range n)
 simpa using this
abbrev NatRow (w0 W:World) (v:Value) (out:List Nat):Prop:=RowAt 3 1 w0 W v out.length (out.map intV)
set_option maxRecDepth 100000 in
set_option maxHeartbeats 4000000 in
theorem union_law (B mb n:Nat) (T:List (List UInt8)) (L:List UInt8→List Nat) (l:List Nat) (lv:Value) (w:World) (hx:IndexIs B w mb n T L) (hl:NatsOf w lv l) (hll:l.length≤1000000) (hin:∀ i∈l,i < T.length) (hT:T.length≤1000000) (hn:n≤1000) (hL:∀ x,(L x).length≤1000) :
  Calls Tryz.prog 54 #[ptrV mb,lv] w fun e w'=>∃ ov,e = .returned ov∧NatRow w w' ov (unionOf L T l n):=by
 obtain ⟨tv,pv,ps,a1,a2,a3,a4,a5,a6,a7⟩:=hx.ex
 obtain ⟨i2,hi2,hw0,hx1,hx2⟩:=info_parts Tryz.info3
 obtain ⟨la,lc,rfl⟩:=ownsRow_form hl
 obtain ⟨pa,pc,rfl⟩:=ownsRow_form a4
 have c0:w.cell? ⟨mb,0,none⟩=some (.int .i64 n):=cell_block a1
 have c2:w.cell? ⟨mb,2,none⟩=some (.slice pa T.length pc):=cell_block a1
 have HL:=Lib.hid hl
 have HIN:=Lib.hid hin
 have HLL:=Lib.hid hL
 have A4:=Lib.hid a4
 have A6:=Lib.hid a6
 have HR0:=Lib.hid (RowAt.start 3 1 w)
 have hpl:ps.length=T.length:=by have:=a4.1; omega
 clear a1 a2 a3 a4 a5 a6 a7 hx hl hin hL
 unfold ptrV
 go_enter Tryz.func54,Tryz.ntmps54
 go_wp2_with fail
 go_loopw [5,6] (fun ov iv wr=>∃ d:Nat,d≤n∧iv = .int .i64 (d:Int)∧Hid (NatRow w wr ov (unionOf L T l d))) (fun _ iv _=>n - (intOf iv).toNat)
 case atStart=>exact ⟨0,Nat.zero_le _,rfl,HR0⟩
 case round =>
  obtain ⟨d,hdn,rfl,HR⟩:=hrel
  have q1:IntKind.i64.wrap ((d:Int)+1)=(d:Int)+1:=IntWalk.i64_in _ (by omega)
  have d0:wr.cell? ⟨mb,0,none⟩=some (.int .i64 n):=(HR.out.below.cell (p:=⟨mb,0,none⟩) (lt_of_cell c0)).trans c0
  have d2:wr.cell? ⟨mb,2,none⟩=some (.slice pa T.length pc):=(HR.out.below.cell (p:=⟨mb,2,none⟩) (lt_of_cell c2)).trans c2
  by_cases hlt:d < n
  ·go_wp2_with fail
   go_loopw [7,8] (fun bv iv wx=>∃ j:Nat,j≤l.length∧iv = .int .i64 (j:Int)∧bv = .bool ((l.take j).any fun i=>decide (d∈L (T.getD i [])))∧Hid (Same wr wx)) (fun _ iv _=>l.length - (intOf iv).toNat)
   case atStart=>exact ⟨0,Nat.zero_le _,rfl,rfl,Lib.hid (Same.refl _)⟩
   case round =>
    obtain ⟨j,hjl,rfl,rfl,HS⟩:=hrel
    have q2:IntKind.i64.wrap ((j:Int)+1)=(j:Int)+1:=IntWalk.i64_in _ (by omega)
    by_cases hj:j < l.length
    ·obtain ⟨g,cap,e1,hc⟩:=HL.out.cell hj
     simp only [Value.slice.injEq,true_and] at e1
     obtain ⟨rfl,rfl⟩:=e1
     have hiT:=HIN.out l[j] (List.getElem_mem hj)
     have htk:l.take (j+1)=l.take j++[l[j]]:=List.take_succ_eq_append_getElem hj
     generalize l[j]=i at *
     obtain ⟨v,hv⟩:∃ v,ps[i]?=some v:=⟨_,List.getElem?_eq_getElem (by omega)⟩
     obtain ⟨gp,cp,e2,hcp⟩:=ownsRow_cell A4.out hv
     simp only [Value.slice.injEq,true_and] at e2
     obtain ⟨rfl,rfl⟩:=e2
     obtain ⟨hrow,_⟩:=A6.out i v T[i] hv (List.getElem?_eq_getElem hiT)
     obtain ⟨va,vc,rfl⟩:=ownsRow_form hrow
     have e3:T.getD i []=T[i]:=by rw [List.getD_eq_getElem?_getD,List.getElem?_eq_getElem hiT]; rfl
     have hnx:(l.take (j+1)).any (fun i=>decide (d∈L (T.getD i [])))=((l.take j).any (fun i=>decide (d∈L (T.getD i []))) || decide (d∈L T[i])):=by
      rw [htk,List.any_append,List.any_cons,List.any_nil,Bool.or_false,e3]
     have hLl:=HLL.out T[i]
     have hsub:∀ W,Below w.heap.size w W→NatsOf W (.slice va (L T[i]).length vc) (L T[i]):=fun W hb=>NatsOf.below hrow hb
     have HNX:=Lib.hid hnx
     have HSUB:=Lib.hid hsub
     generalize T[i]=x at *
     generalize (l.take j).any (fun i=>decide (d∈L (T.getD i [])))=q at *
     have hbx:Below w.heap.size w wr:=HR.out.below.trans (HS.out.below _)
     have k0:wr.cell? ⟨mb,2,none⟩=some (.slice (some ⟨gp,0,none⟩) T.length pc):=(HS.out.cell _).trans d2
     have k1:wr.cell? ⟨g,j,none⟩=some (.int .i64 i):=(hbx.cell (p:=⟨g,j,none⟩) (lt_of_cell hc)).trans hc
     have k2:wr.cell? ⟨gp,i,none⟩=some (.slice va (L x).length vc):=(hbx.cell (p:=⟨gp,i,none⟩) (lt_of_cell hcp)).trans hcp
     have hbx2:=HSUB.out wr hbx
     have HA:=Lib.hid (fun nq=>among_law (L x) d (.slice va (L x).length vc) (wr.drewN nq) (hbx2.below ((Same.drewN wr nq).below _)) (by omega))
     clear hc hcp hrow htk hnx hsub hv d2 d0 hbx hbx2
     have z1:(0:Int)≤(j:Int)∧(j:Int) < (l.length:Int):=by omega
     have z2:(0:Int)≤(i:Int)∧(i:Int) < (T.length:Int):=by omega
     cases q with
     | true =>
      go_upto_region 9 with fail
      go_quiet (exact quietS (HA.out _))
      go_wp2_with fail
      exact ⟨⟨j+1,by omega,by go_num,by rw [HNX.out]; rfl,Lib.hid (HS.out.trans (Same.drewN _ _))⟩,by simp [intOf]; omega⟩
     | false =>
      go_upto_region 9 with fail
      go_quiet (exact quietS (HA.out _))
      go_wp2_with fail
      exact ⟨⟨j+1,by omega,by go_num,by rw [HNX.out]; rfl,Lib.hid (HS.out.trans (Same.drewN _ _))⟩,by simp [intOf]; omega⟩
    ·obtain rfl:j=l.length:=by omega
     rw [List.take_length]
     have hu:=unionOf_succ L T l d
     have hul:=unionOf_length L T l d
     have hR2:=HR.out.same HS.out
     generalize l.any (fun i=>decide (d∈L (T.getD i [])))=q at *
     have HU:=Lib.hid hu
     cases q with
     | true =>
      have hrow:=hR2.row.alloc (.cells #[.int .i64 d] 3)
      have HR2:=Lib.hid (hR2.alloc (.cells #[.int .i64 d] 3))
      clear hu hR2 d0 d2
      go_wp2_with (at_builtin; refine wpList_append_lies rfl _ _ 24 rfl 3 i2 (.int .i64 0) 1 8 Tryz.underlying24 hi2 hw0 hx1 hx2 rfl (by decide) u5 (unionOf L T l d).length ((unionOf L T l d).map intV) rfl hrow ⟨wr.heap.size,0,none⟩ 1 1 [.int .i64 d] rfl rfl (cell_one_new wr _ _) (by simp [Value.oneCell']) (by decide) (by unfold maxLen; omega) (by omega) ?_; intro v4 W4 hrow4 hgrow4 hlies4; have HR4:=Lib.hid (HR2.out.moves (Moves.append hgrow4 hlies4) hrow4 (by omega)); clear hrow4 hgrow4 hlies4 hrow)
      go_roundw
      case rel =>
       refine ⟨d+1,by omega,by go_num,Lib.hid ?_⟩
       rw [HU.out,if_pos rfl]
       unfold NatRow
       rw [List.length_append,List.map_append]
       exact HR4.out
      case measure=>(simp [intOf]) <;> omega
     | false =>
      have HR2:=Lib.hid hR2
      clear hu hR2 d0 d2
      go_wp2_with fail
      refine ⟨⟨d+1,by omega,by go_num,Lib.hid ?_⟩,by simp [intOf]; omega⟩
      rw [HU.out,if_neg (by decide),List.append_nil]
      exact HR2.out
  ·obtain rfl:d=n:=by omega
   go_wp2_with fail
   go_ret
   exact ⟨_,rfl,HR.out⟩
end Go.Proofs.Tl
namespace Go.Proofs.Tl
open Go Go.RowKit Go.Proofs.Ts
def accS (k:Int) (a b:List UInt8) (t:List UInt8):Bool :=
 if k=1 then decide (t=a) else if k=2 then decide (a <+: t) else !decide (t < a) && (decide (b=[]) || !decide (b < t))
theorem pre_take {a t:List UInt8} (h:a.length≤t.length):decide (a <+: t)=((ByteArray.extract ⟨t.toArray⟩ 0 a.length).toList == a):=by
 rw [Go.ByteArray.toList_eq,Bool.eq_iff_iff,decide_eq_true_eq,beq_iff_eq,List.prefix_iff_eq_take]
 simp [ByteArray.data_extract]
 exact eq_comm
set_option maxRecDepth 100000 in
set_option maxHeartbeats 2000000 in
theorem meets_simple (k n:Int) (a b t:List UInt8) (nv:Value) (w:World) (hk:k=1∨k=2∨k=3)  (ht:t.length≤1000) :
  Calls Tryz.prog 121 #[.agg #[.int .i64 k,strV a,strV b,.int .i64 n],nv,strV t] w fun e w'=>e = .returned (.bool (accS k a b t))∧Below w.heap.size w w':=by
 unfold strV
 rcases hk with rfl | rfl | rfl
 ·go_enter Tryz.func121,Tryz.ntmps121
  go_wp2_with fail
  go_ret
  exact ⟨ret_bool (by unfold accS; rw [if_pos rfl,Bool.eq_iff_iff]; simp),(Below.refl _ w).alloc (Nat.le_refl _) _⟩
 ·by_cases hl:a.length≤t.length
  ·go_enter Tryz.func121,Tryz.ntmps121
   go_wp2_with fail
   have hb1:Below w.heap.size w (w.alloc (.cells #[.int .i64 2,.string ⟨a.toArray⟩,.string ⟨b.toArray⟩,.int .i64 n] 34)):=(Below.refl _ w).alloc (Nat.le_refl _) _
   have HB1:=Lib.hid hb1
   have hz:(0:Int)≤(a.length:Int)∧(a.length:Int)≤(t.length:Int):=by omega
   have hc1:=cell_block (i:=1) (heap_alloc_new w (.cells #[.int .i64 2,.string ⟨a.toArray⟩,.string ⟨b.toArray⟩,.int .i64 n] 34))
   generalize w.alloc (.cells #[.int .i64 2,.string ⟨a.toArray⟩,.string ⟨b.toArray⟩,.int .i64 n] 34)=w1 at *
   go_quiet (fail)
   go_wp2_with fail
   go_ret
   exact ⟨ret_bool (by unfold accS; rw [if_neg (by decide),if_pos rfl,pre_take hl]),HB1.out.trans ((Same.drewN w1 nq).below _)⟩
  ·have hl':decide ((a.length:Int)≤(t.length:Int))=false:=by simp; omega
   go_enter Tryz.func121,Tryz.ntmps121
   go_wp2_with fail
   have hb1:Below w.heap.size w (w.alloc (.cells #[.int .i64 2,.string ⟨a.toArray⟩,.string ⟨b.toArray⟩,.int .i64 n] 34)):=(Below.refl _ w).alloc (Nat.le_refl _) _
   have HB1:=Lib.hid hb1
   have hc1:=cell_block (i:=1) (heap_alloc_new w (.cells #[.int .i64 2,.string ⟨a.toArray⟩,.string ⟨b.toArray⟩,.int .i64 n] 34))
   generalize w.alloc (.cells #[.int .i64 2,.string ⟨a.toArray⟩,.string ⟨b.toArray⟩,.int .i64 n] 34)=w1 at *
   go_quiet (fail)
   go_wp2_with fail
   go_ret
   exact ⟨ret_bool (by
    unfold accS
    rw [if_neg (by decide),if_pos rfl]
    have:¬ a <+: t:=fun h=>hl h.length_le
    simp [this]),HB1.out.trans ((Same.drewN w1 nq).below _)⟩
 ·go_enter Tryz.func121,Tryz.ntmps121
  go_wp2_with fail
  ·rename_i h1
   go_ret
   refine ⟨ret_bool ?_,(Below.refl _ w).alloc (Nat.le_refl _) _⟩
   rw [Go.Proofs.bytesLess_eq] at h1
   unfold accS
   rw [if_neg (by decide),if_neg (by decide),h1]
   rfl
  ·rename_i h1 h2
   go_ret
   refine ⟨ret_bool ?_,(Below.refl _ w).alloc (Nat.le_refl _) _⟩
   rw [Go.Proofs.bytesLess_eq] at h1
   unfold accS
   rw [if_neg (by decide),if_neg (by decide)]
   simp only [Bool.not_eq_true] at h1
   rw [h1]
   simp [h2]
  ·rename_i h1 h2
   go_ret
   refine ⟨ret_bool ?_,(Below.refl _ w).alloc (Nat.le_refl _) _⟩
   rw [Go.Proofs.bytesLess_eq] at h1
   unfold accS
   rw [if_neg (by decide),if_neg (by decide)]
   simp only [Bool.not_eq_true] at h1
   rw [h1,Go.Proofs.bytesLess_eq]
   have h3:b.isEmpty=false:=by cases b with
    | nil=>exact absurd rfl h2
    | cons=>rfl
   rw [h3,decide_eq_false h2,Bool.not_false,Bool.true_and,Bool.false_or,Bool.false_or,Bool.eq_iff_iff]
   simp only [Bool.not_eq_true',decide_eq_false_iff_not,Bool.or_eq_true,decide_eq_true_eq,beq_iff_eq]
   refine Iff.symm ?_
   rcases lt_tri t b with h | h | h
   ·exact ⟨fun _ => .inl h,fun _ h'=>absurd (List.lt_trans h h') (List.lt_irrefl t)⟩
   ·subst h
    exact ⟨fun _ => .inr rfl,fun _=>List.lt_irrefl t⟩
   ·exact ⟨fun h'=>absurd h h',fun h'=>by
     rcases h' with h' | h'
     ·exact absurd (List.lt_trans h h') (List.lt_irrefl b)
     ·subst h'
      exact absurd h (List.lt_irrefl t)⟩
end Go.Proofs.Tl
namespace Go.Proofs.Tl
open Go Go.RowKit Go.Proofs.Ts
def MeetsIs (w:World) (q:Asked) (nv:Value) (acc:List UInt8→Bool):Prop :=
 ∀ W,Below w.heap.size w W → ∀ t,t.length≤16→Calls Tryz.prog 121 #[askV q,nv,strV t] W fun e w'=>e = .returned (.bool (acc t))∧Below W.heap.size W w'
def numsOf (acc:List UInt8→Bool) (T:List (List UInt8)) (k:Nat):List Nat:=(List.range k).filter fun i=>acc (T.getD i [])
theorem numsOf_succ (acc:List UInt8→Bool) (T:List (List UInt8)) (k:Nat):numsOf acc T (k+1)=numsOf acc T k++if acc (T.getD k []) then [k] else []:=by
 unfold numsOf
 rw [List.range_succ,List.filter_append]
 congr 1
 rw [List.filter_cons]
 split <;> simp
theorem numsOf_length (acc:List UInt8→Bool) (T:List (List UInt8)) (k:Nat):(numsOf acc T k).length≤k:=by
 unfold numsOf
 have:=List.length_filter_le (fun i=>acc (T.getD i [])) (List.range k)
 simpa using this
theorem numsOf_lt {acc:List UInt8→Bool} {T:List (List UInt8)} {k i:Nat} (h:i∈numsOf acc T k):i < k:=by
 unfold numsOf at h
 simpa using (List.mem_filter.1 h).1
set_option maxRecDepth 100000 in
set_option maxHeartbeats 4000000 in
theorem terms_law (q:Asked) (acc:List UInt8→Bool) (nv:Value) (B mb n:Nat) (T:List (List UInt8)) (L:List UInt8→List Nat) (w:World) (hx:IndexIs B w mb n T L) (hT:T.length≤1000000) (h16:∀ t∈T,t.length≤16) (hm:MeetsIs w q nv acc) :
  Calls Tryz.prog 85 #[ptrV mb,askV q,nv] w fun e w'=>∃ ov,e = .returned ov∧NatRow w w' ov (numsOf acc T T.length):=by
 obtain ⟨tv,pv,ps,a1,a2,a3,a4,a5,a6,a7⟩:=hx.ex
 obtain ⟨i2,hi2,hw0,hx1,hx2⟩:=info_parts Tryz.info3
 obtain ⟨ta,tc,rfl⟩:=ownsRow_form a2
 have c1:w.cell? ⟨mb,1,none⟩=some (.slice ta T.length tc):=cell_block a1
 have A2:=Lib.hid a2
 have H16:=Lib.hid h16
 have HM:=Lib.hid hm
 clear a1 a2 a3 a4 a5 a6 a7 hx h16 hm
 unfold ptrV askV strV
 go_enter Tryz.func85,Tryz.ntmps85
 go_wp2_with fail
 have HB1:=Lib.hid ((Below.refl w.heap.size w).alloc (Nat.le_refl _) (.cells #[.int .i64 q.kind,.string ⟨q.a.toArray⟩,.string ⟨q.b.toArray⟩,.int .i64 q.n] 34))
 have hq:=heap_alloc_new w (.cells #[.int .i64 q.kind,.string ⟨q.a.toArray⟩,.string ⟨q.b.toArray⟩,.int .i64 q.n] 34)
 obtain ⟨w1,hw1⟩:∃ w1,w1=(w.alloc (.cells #[.int .i64 q.kind,.string ⟨q.a.toArray⟩,.string ⟨q.b.toArray⟩,.int .i64 q.n] 34)):=⟨_,rfl⟩
 rw [← hw1] at HB1 hq ⊢
 have HR1:=Lib.hid (RowAt.start 3 1 w1)
 obtain ⟨qb,hqb⟩:∃ qb,qb=w.heap.size:=⟨_,rfl⟩
 rw [← hqb] at hq ⊢
 have HQ:=Lib.hid hq
 clear hw1 hqb hq
 go_loopw [7,8] (fun ov iv wr=>∃ i:Nat,i≤T.length∧iv = .int .i64 (i:Int)∧Hid (NatRow w1 wr ov (numsOf acc T i))) (fun _ iv _=>T.length - (intOf iv).toNat)
 case atStart=>exact ⟨0,Nat.zero_le _,rfl,HR1⟩
 case round =>
  obtain ⟨i,hiT,rfl,HR⟩:=hrel
  have HB:Hid (Below w.heap.size w wr):=Lib.hid (HB1.out.trans (HR.out.below.mono HB1.out.size))
  have q1:IntKind.i64.wrap ((i:Int)+1)=(i:Int)+1:=IntWalk.i64_in _ (by omega)
  have d1:wr.cell? ⟨mb,1,none⟩=some (.slice ta T.length tc):=(HB.out.cell (p:=⟨mb,1,none⟩) (lt_of_cell c1)).trans c1
  by_cases hlt:i < T.length
  ·obtain ⟨g,cap,e1,hc⟩:=strRow_cell A2.out hlt
   simp only [Value.slice.injEq,true_and] at e1
   obtain ⟨rfl,rfl⟩:=e1
   have d2:wr.cell? ⟨g,i,none⟩=some (.string ⟨T[i].toArray⟩):=(HB.out.cell (p:=⟨g,i,none⟩) (lt_of_cell hc)).trans hc
   have hqr:wr.heap[qb]?=some (.cells #[.int .i64 q.kind,.string ⟨q.a.toArray⟩,.string ⟨q.b.toArray⟩,.int .i64 q.n] 34 (0,0)):=(HR.out.below.block qb (lt_of_heap HQ.out)).trans HQ.out
   have k0:wr.cell? ⟨qb,0,none⟩=some (.int .i64 q.kind):=cell_block hqr
   have k1:wr.cell? ⟨qb,1,none⟩=some (.string ⟨q.a.toArray⟩):=cell_block hqr
   have k2:wr.cell? ⟨qb,2,none⟩=some (.string ⟨q.b.toArray⟩):=cell_block hqr
   have k3:wr.cell? ⟨qb,3,none⟩=some (.int .i64 q.n):=cell_block hqr
   have z1:(0:Int)≤(i:Int)∧(i:Int) < (T.length:Int):=by omega
   have h16:=H16.out T[i] (List.getElem_mem hlt)
   have hmt:=HM.out wr.drew (HB.out.trans ((Same.drew wr).below _)) T[i] h16
   have hns:=numsOf_succ acc T i
   have hnl:=numsOf_length acc T i
   have e3:T.getD i []=T[i]:=by rw [List.getD_eq_getElem?_getD,List.getElem?_eq_getElem hlt]; rfl
   rw [e3] at hns
   unfold askV strV at hmt
   have HMT:=Lib.hid hmt
   have HNS:=Lib.hid hns
   generalize T[i]=t at *
   clear hmt hns e3 hqr hc
   go_upto_region 5 with fail
   refine wp_region_ordX [(0,false),(1,false),(2,false),(3,false),(4,false),(5,false),(6,false),(7,false),(8,false),(9,true),(10,false)] 1000
    (fun w'=>w'.cell? ⟨mb,1,none⟩=some (.slice (some ⟨g,0,none⟩) T.length tc)∧w'.cell? ⟨g,i,none⟩=some (.string ⟨t.toArray⟩)∧w'.cell? ⟨qb,0,none⟩=some (.int .i64 q.kind)∧w'.cell? ⟨qb,1,none⟩=some (.string ⟨q.a.toArray⟩)∧w'.cell? ⟨qb,2,none⟩=some (.string ⟨q.b.toArray⟩)∧w'.cell? ⟨qb,3,none⟩=some (.int .i64 q.n)) (by kernel_rfl) (by kernel_rfl) ⟨d1,d2,k0,k1,k2,k3⟩ ?_
   iterate 9 (
    refine wpOrd_quiet ?_ rfl rfl (fun w' hS=>?_) ?_
    rotate_left
    ·obtain ⟨f0,f1,f2,f3,f4,f5⟩:=hS
     go_simp
     first | rfl | done
    simp only [put_lit,List.set_cons_succ,List.set_cons_zero])
   refine wpOrd_loud rfl rfl (by decide) (fun K hK=>?_)
   have HK:=Lib.hid hK
   clear hK
   go_simp
   refine HMT.out.mono ?_
   rintro e w2 ⟨rfl,hb2⟩
   have hb3:Below wr.heap.size wr w2:=((Same.drew wr).below _).trans hb2
   have go:∀ (b j:Nat) u,wr.cell? ⟨b,j,none⟩=some u→w2.cell? ⟨b,j,none⟩=some u:=fun b j u hu=>(hb3.cell (p:=⟨b,j,none⟩) (lt_of_cell hu)).trans hu
   refine HK.out _ _ ⟨go _ _ _ d1,go _ _ _ d2,go _ _ _ k0,go _ _ _ k1,go _ _ _ k2,go _ _ _ k3⟩ ?_
   clear HK K
   try simp only [put_lit,List.set_cons_succ,List.set_cons_zero]
   refine wpOrd_quiet ?_ rfl rfl (fun w' hS=>?_) ?_
   rotate_left
   ·go_simp
    first | rfl | done
   simp only [put_lit,List.set_cons_succ,List.set_cons_zero]
   refine wpOrd_nil ?_
   have HR2:=Lib.hid (HR.out.kept hb3)
   clear hb2 hb3 go d1 d2 k0 k1 k2 k3 HMT
   generalize acc t=r at *
   cases r with
   | true =>
    have hrow:=HR2.out.row.alloc (.cells #[.int .i64 i] 3)
    have HR3:=Lib.hid (HR2.out.alloc (.cells #[.int .i64 i] 3))
    go_wp2_with (at_builtin; refine wpList_append_lies rfl _ _ 24 rfl 3 i2 (.int .i64 0) 1 8 Tryz.underlying24 hi2 hw0 hx1 hx2 rfl (by decide) u7 (numsOf acc T i).length ((numsOf acc T i).map intV) rfl hrow ⟨w2.heap.size,0,none⟩ 1 1 [.int .i64 i] rfl rfl (cell_one_new w2 _ _) (by simp [Value.oneCell']) (by decide) (by unfold maxLen; omega) (by omega) ?_; intro v4 W4 hrow4 hgrow4 hlies4; have HR4:=Lib.hid (HR3.out.moves (Moves.append hgrow4 hlies4) hrow4 (by omega)); clear hrow4 hgrow4 hlies4 hrow)
    go_roundw
    case rel =>
     refine ⟨i+1,by omega,by go_num,Lib.hid ?_⟩
     rw [HNS.out,if_pos rfl]
     unfold NatRow
     rw [List.length_append,List.map_append]
     exact HR4.out
    case measure=>(simp [intOf]) <;> omega
   | false =>
    go_wp2_with fail
    refine ⟨⟨i+1,by omega,by go_num,Lib.hid ?_⟩,by simp [intOf]; omega⟩
    rw [HNS.out,if_neg (by decide),List.append_nil]
    exact HR2.out
  ·obtain rfl:i=T.length:=by omega
   go_wp2_with fail
   go_ret
   exact ⟨_,rfl,HR.out.base HB1.out⟩
end Go.Proofs.Tl
namespace Go.Proofs.Tl
open Go Go.RowKit Go.Proofs.Ts
inductive Ans where
 | err (n p:Int)
 | ok (acc:List UInt8→Bool)
def CheckedIs (w:World) (q:Asked) (st:Int) (r:Ans):Prop :=
 ∀ W,Below w.heap.size w W→Calls Tryz.prog 41 #[askV q,.int .i64 st] W fun e w'=>Below W.heap.size W w' ∧
  match r with
  | .err n p=>n≠0∧e = .returned (.tuple #[.pointer none,.int .i64 n,.int .i64 p])
  | .ok acc=>∃ nb,e = .returned (.tuple #[ptrV nb,.int .i64 0,.int .i64 0])∧MeetsIs w' q (ptrV nb) acc
def limited (st most:Int) (r:Ans) (T:List (List UInt8)):Ans :=
 if st < 1∨400 < st∨most < 0 then .err 4 0 else match r with
  | .err n p => .err n p
  | .ok acc=>if most < ((numsOf acc T T.length).length:Int) then .err 10 0 else .ok acc
set_option maxRecDepth 100000 in
set_option maxHeartbeats 4000000 in
theorem asked_any (q:Asked) (st most:Int) (r:Ans) (B mb n:Nat) (T:List (List UInt8)) (L:List UInt8→List Nat) (w:World) (hx:IndexIs B w mb n T L) (hT:T.length≤1000000) (h16:∀ t∈T,t.length≤16) (hc:CheckedIs w q st r) :
  Calls Tryz.prog 53 #[ptrV mb,askV q,.int .i64 st,.int .i64 most] w fun e w'=>Below w.heap.size w w' ∧
   match limited st most r T with
   | .err n p=>n≠0∧e = .returned (.tuple #[.slice none 0 0,.int .i64 n,.int .i64 p])
   | .ok acc=>∃ ov,e = .returned (.tuple #[ov,.int .i64 0,.int .i64 0])∧NatRow w w' ov (numsOf acc T T.length):=by
 have HX:=Lib.hid hx
 have HC:=Lib.hid hc
 have H16:=Lib.hid h16
 clear hx hc h16
 obtain ⟨o,ho⟩:∃ o,o=limited st most r T:=⟨_,rfl⟩
 rw [← ho]
 have hb1:Below w.heap.size w (w.alloc (.cells #[.int .i64 q.kind,.string ⟨q.a.toArray⟩,.string ⟨q.b.toArray⟩,.int .i64 q.n] 34)):=(Below.refl _ w).alloc (Nat.le_refl _) _
 have hq:=heap_alloc_new w (.cells #[.int .i64 q.kind,.string ⟨q.a.toArray⟩,.string ⟨q.b.toArray⟩,.int .i64 q.n] 34)
 have HB1:=Lib.hid hb1
 have HQ:=Lib.hid hq
 clear hb1 hq
 by_cases hlim:st < 1∨400 < st∨most < 0
 ·have ho':o = .err 4 0:=by rw [ho]; unfold limited; rw [if_pos hlim]
  subst ho'
  clear ho
  have hgoal:∀ e w',(e=Ending.returned (.tuple #[.slice none 0 0,.int .i64 4,.int .i64 0])∧Below w.heap.size w w')→Below w.heap.size w w'∧((4:Int)≠0∧e = .returned (.tuple #[.slice none 0 0,.int .i64 4,.int .i64 0])):=fun e w' h=>⟨h.2,by decide,h.1⟩
  refine Calls.mono ?_ hgoal
  unfold askV strV ptrV
  go_enter Tryz.func53,Tryz.ntmps53
  by_cases h1:st < 1
  ·go_wp2_with fail
   go_ret3
   exact ⟨rfl,HB1.out⟩
  ·by_cases h2:400 < st
   ·go_wp2_with fail
    go_ret3
    exact ⟨rfl,HB1.out⟩
   ·have h3:most < 0:=by omega
    go_wp2_with fail
    go_ret3
    exact ⟨rfl,HB1.out⟩
 ·have h1:¬ st < 1:=by omega
  have h2:¬ 400 < st:=by omega
  have h3:¬ most < 0:=by omega
  have hcc:=HC.out
  clear HC
  cases r with
  | err n p =>
   have ho':o = .err n p:=by rw [ho]; unfold limited; rw [if_neg hlim]
   subst ho'
   clear ho
   have HCC:=Lib.hid hcc
   clear hcc
   unfold askV strV ptrV at *
   go_enter Tryz.func53,Tryz.ntmps53
   go_wp2_with (go_at_call 41; refine (HCC.out _ HB1.out).mono ?_; rintro e w2 ⟨hb2,hn0,rfl⟩; have HB2:=Lib.hid hb2; have hn1:(n == 0)=false:=(by rw [beq_eq_false_iff_ne]; exact hn0); clear hb2)
   go_ret3
   exact ⟨HB1.out.trans (HB2.out.mono HB1.out.size),hn0,rfl⟩
  | ok acc =>
   have ho':o=if most < ((numsOf acc T T.length).length:Int) then .err 10 0 else .ok acc:=by rw [ho]; unfold limited; rw [if_neg hlim]
   have HO:=Lib.hid ho'
   have HCC:=Lib.hid hcc
   clear ho ho' hcc
   unfold askV strV ptrV at *
   go_enter Tryz.func53,Tryz.ntmps53
   go_upto_region 6 with (go_at_call 41; refine (HCC.out _ HB1.out).mono ?_; rintro e w2 ⟨hb2,nb,rfl,hm2⟩; have HB2:=Lib.hid hb2; have HM2:=Lib.hid hm2; clear hb2 hm2)
   have hbw:Below w.heap.size w w2:=HB1.out.trans (HB2.out.mono HB1.out.size)
   have hq2:w2.heap[w.heap.size]?=some (.cells #[.int .i64 q.kind,.string ⟨q.a.toArray⟩,.string ⟨q.b.toArray⟩,.int .i64 q.n] 34 (0,0)):=(HB2.out.block _ (lt_of_heap HQ.out)).trans HQ.out
   have hx2:=HX.out.below hbw
   have k0:w2.cell? ⟨w.heap.size,0,none⟩=some (.int .i64 q.kind):=cell_block hq2
   have k1:w2.cell? ⟨w.heap.size,1,none⟩=some (.string ⟨q.a.toArray⟩):=cell_block hq2
   have k2:w2.cell? ⟨w.heap.size,2,none⟩=some (.string ⟨q.b.toArray⟩):=cell_block hq2
   have k3:w2.cell? ⟨w.heap.size,3,none⟩=some (.int .i64 q.n):=cell_block hq2
   have hterms:=terms_law q acc (ptrV nb) B mb n T L w2 hx2 hT H16.out HM2.out
   unfold askV strV ptrV at hterms
   have HT:=Lib.hid hterms
   have HBW:=Lib.hid hbw
   clear hq2 hx2 hterms hbw HM2 HB2 HB1 HQ
   have hnl:=numsOf_length acc T T.length
   go_upto_region 7 with (go_at_call 85; refine HT.out.mono ?_; rintro e w3 ⟨ov,rfl,hr3⟩; have HR3:=Lib.hid hr3; clear hr3)
   have hb3:Below w2.heap.size w2 w3:=HR3.out.below
   have HB3:=Lib.hid hb3
   clear k0 k1 k2 k3 HT hb3
   obtain ⟨oa,oc,rfl⟩:=ownsRow_form HR3.out.row
   by_cases hgt:most < ((numsOf acc T T.length).length:Int)
   ·have ho':o = .err 10 0:=by rw [HO.out,if_pos hgt]
    subst ho'
    clear HO
    go_wp2_with fail
    go_ret3
    exact ⟨HBW.out.trans (HB3.out.mono HBW.out.size),rfl⟩
   ·have ho':o = .ok acc:=by rw [HO.out,if_neg hgt]
    subst ho'
    clear HO
    go_wp2_with fail
    go_ret3
    exact ⟨HBW.out.trans (HB3.out.mono HBW.out.size),_,rfl,HR3.out.base HBW.out⟩
set_option maxRecDepth 100000 in
set_option maxHeartbeats 4000000 in
theorem refSearch_law (q:Asked) (st most:Int) (r:Ans) (B mb n:Nat) (T:List (List UInt8)) (L:List UInt8→List Nat) (w:World) (hx:IndexIs B w mb n T L) (hT:T.length≤1000000) (h16:∀ t∈T,t.length≤16) (hn:n≤1000) (hL:∀ x,(L x).length≤1000) (hc:CheckedIs w q st r) :
  Calls Tryz.prog 25 #[ptrV mb,askV q,.int .i64 st,.int .i64 most] w fun e w'=>Below w.heap.size w w' ∧
   match limited st most r T with
   | .err n p=>e = .returned (.tuple #[.slice none 0 0,.int .i64 n,.int .i64 p])
   | .ok acc=>∃ ov,e = .returned (.tuple #[ov,.int .i64 0,.int .i64 0])∧NatRow w w' ov (unionOf L T (numsOf acc T T.length) n):=by
 have HX:=Lib.hid hx
 have HLL:=Lib.hid hL
 have hb1:Below w.heap.size w (w.alloc (.cells #[.int .i64 q.kind,.string ⟨q.a.toArray⟩,.string ⟨q.b.toArray⟩,.int .i64 q.n] 34)):=(Below.refl _ w).alloc (Nat.le_refl _) _
 have hask:=asked_any q st most r B mb n T L _ (hx.below hb1) hT h16 (fun W hW=>hc W (hb1.trans (hW.mono hb1.size)))
 have HB1:=Lib.hid hb1
 clear hb1 hx hc hL
 cases hlim:limited st most r T with
 | err en ep =>
  rw [hlim] at hask
  have HASK:=Lib.hid hask
  clear hask hlim
  unfold askV strV ptrV at *
  go_enter Tryz.func25,Tryz.ntmps25
  go_wp2_with (go_at_call 53; refine HASK.out.mono ?_; rintro e w2 ⟨hb2,hn0,rfl⟩; have HB2:=Lib.hid hb2; have hn1:(en == 0)=false:=(by rw [beq_eq_false_iff_ne]; exact hn0); clear hb2)
  go_ret3
  exact ⟨HB1.out.trans (HB2.out.mono HB1.out.size),rfl⟩
 | ok acc =>
  rw [hlim] at hask
  have HASK:=Lib.hid hask
  clear hask hlim
  unfold askV strV ptrV at *
  go_enter Tryz.func25,Tryz.ntmps25
  go_upto_region 4 with (go_at_call 53; refine HASK.out.mono ?_; rintro e w2 ⟨hb2,ov,rfl,hr2⟩; have HB2:=Lib.hid hb2; have HR2:=Lib.hid hr2; clear hb2 hr2)
  have hbw:Below w.heap.size w w2:=HB1.out.trans (HB2.out.mono HB1.out.size)
  have hnl:=numsOf_length acc T T.length
  have hun:=union_law B mb n T L (numsOf acc T T.length) ov w2 (HX.out.below hbw) HR2.out.row (by omega) (fun i hi=>numsOf_lt hi) hT hn HLL.out
  unfold ptrV at hun
  have HUN:=Lib.hid hun
  have HBW:=Lib.hid hbw
  clear hun hbw HB1 HB2
  go_wp2_with (go_at_call 54; refine HUN.out.mono ?_; rintro e w3 ⟨uv,rfl,hr3⟩; have HR3:=Lib.hid hr3; clear hr3)
  go_ret3
  exact ⟨HBW.out.trans (HR3.out.below.mono HBW.out.size),_,rfl,HR3.out.base HBW.out⟩
end Go.Proofs.Tl
