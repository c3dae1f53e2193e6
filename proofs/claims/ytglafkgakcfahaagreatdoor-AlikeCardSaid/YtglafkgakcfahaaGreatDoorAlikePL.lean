/- Lemmas towards the statement Alike of termsearch: walks of the program's functions and plain laws on lists (TsPartC, TsPartD, TsPartE, TsPartF, TsPartG, TsPartH). Conditions: those that each theorem names. -/
import Derived.Test.YtglafkgakcfahaaGreatDoorAlikePK
set_option linter.unusedVariables false
set_option linter.unusedSimpArgs false
set_option linter.unusedSectionVars false
namespace Go.Proofs.Ts
open Go Go.RowKit
def PM.setAtc (M:PM) (c:Nat) (s:PSet):PM:={ M with at':=M.at'.set c s }
def PM.putTo (M:PM) (s:BSet) (c:Nat):PM:={ M with at':=(M.at'.zipIdx).map fun q=>if decide (q.2 < c) && s.has q.2 then q.1.on M.n else q.1 }
theorem PM.putTo_zero (M:PM) (s:BSet):M.putTo s 0=M:=by
 unfold PM.putTo
 have h:(M.at'.zipIdx).map (fun q=>if decide (q.2 < 0) && s.has q.2 then q.1.on M.n else q.1)=M.at':=by
  simp [List.zipIdx_map_fst]
 rw [h]
theorem PM.putTo_at (M:PM) (s:BSet) (c:Nat) (j:Nat):(M.putTo s c).at'[j]?=(M.at'[j]?).map fun t=>if decide (j < c) && s.has j then t.on M.n else t:=by
 unfold PM.putTo
 simp only [List.getElem?_map,List.getElem?_zipIdx]
 cases M.at'[j]? <;> simp
theorem PM.putTo_succ_yes {M:PM} {s:BSet} {c:Nat} {t:PSet} (ht:(M.putTo s c).at'[c]?=some t) (hc:s.has c=true):(M.putTo s c).setAtc c (t.on M.n)=M.putTo s (c+1):=by
 have e:((M.putTo s c).setAtc c (t.on M.n)).at'=(M.putTo s (c+1)).at':=by
  apply List.ext_getElem?
  intro j
  show (((M.putTo s c).at').set c (t.on M.n))[j]?=_
  rw [List.getElem?_set,M.putTo_at s (c+1) j]
  by_cases hj:c=j
  ·subst hj
   have hl:=(List.getElem?_eq_some_iff.1 ht).1
   rw [if_pos rfl,if_pos hl]
   rw [M.putTo_at] at ht
   cases hm:M.at'[c]? with
   | none=>rw [hm] at ht; cases ht
   | some u =>
    rw [hm] at ht
    simp at ht
    subst ht
    simp [hc]
  ·rw [if_neg hj,M.putTo_at]
   have:(decide (j < c) && s.has j)=(decide (j < c+1) && s.has j):=by
    congr 1
    rw [decide_eq_decide]
    omega
   rw [this]
 unfold PM.setAtc PM.putTo at *
 simp only at e
 rw [e]
theorem PM.putTo_succ_no {M:PM} {s:BSet} {c:Nat} (hc:s.has c=false):M.putTo s c=M.putTo s (c+1):=by
 have e:(M.putTo s c).at'=(M.putTo s (c+1)).at':=by
  apply List.ext_getElem?
  intro j
  rw [M.putTo_at,M.putTo_at]
  have:(decide (j < c) && s.has j)=(decide (j < c+1) && s.has j):=by
   by_cases hj:j=c
   ·subst hj; simp [hc]
   ·congr 1
    rw [decide_eq_decide]
    omega
  rw [this]
 unfold PM.putTo at *
 simp only at e
 rw [e]
theorem PM.putTo_all {M:PM} (h:M.ok) (s:BSet):{ M.putTo s 256 with n:=M.n+1 }=M.putPlace s:=by
 have e:(M.putTo s 256).at'=(M.putPlace s).at':=by
  apply List.ext_getElem?
  intro j
  rw [M.putTo_at]
  unfold PM.putPlace
  simp only [List.getElem?_map,List.getElem?_zipIdx]
  by_cases hj:j < 256
  ·cases M.at'[j]? <;> simp [hj]
  ·rw [List.getElem?_eq_none (by rw [h.la]; omega)]
   simp
 unfold PM.putTo PM.putPlace at *
 simp only at e
 rw [e]
theorem PM.ok_setAtc {M:PM} (h:M.ok) (c:Nat) {t:PSet} (ht:t.ok):(M.setAtc c t).ok :=
 ⟨by show (M.at'.set c t).length=256; rw [List.length_set]; exact h.la,h.lf,fun u hu=>by
  rcases List.mem_or_eq_of_mem_set hu with h1 | h1
  ·exact h.oa u h1
  ·rw [h1]; exact ht,h.of',h.ol⟩
theorem MachIs.nC {w:World} {mb:Nat} {M:PM} (h:MachIs w mb M):w.cell? ⟨mb,1158,none⟩=some (.int .i64 M.n):=by
 have h1:=setCells_len M.at'
 have h2:=setCells_len M.follow
 have h3:=h.1.la
 have h4:=h.1.lf
 have h5:M.last.cells.length=3:=rfl
 rw [h.cell,PM.cells,List.getElem?_append_right (by omega),List.getElem?_append_right (by omega),List.getElem?_append_right (by omega),show 1158 - (setCells M.at').length - (setCells M.follow).length - M.last.cells.length=0 by omega]
 rfl
theorem MachIs.putN {w:World} {mb:Nat} {M:PM} (h:MachIs w mb M) (n:Nat):MachIs (w.setCell ⟨mb,1158,none⟩ (.int .i64 n)) mb { M with n:=n }:=by
 refine ⟨⟨h.1.la,h.1.lf,h.1.oa,h.1.of',h.1.ol⟩,?_⟩
 rw [heap_setCell_same w mb 1158 _ _ _ h.2]
 congr 2
 have h1:=setCells_len M.at'
 have h2:=setCells_len M.follow
 have h3:=h.1.la
 have h4:=h.1.lf
 have h5:M.last.cells.length=3:=rfl
 simp only [List.setIfInBounds_toArray]
 congr 1
 unfold PM.cells
 simp only
 rw [List.set_append_right _ _ (by omega),List.set_append_right _ _ (by omega),List.set_append_right _ _ (by omega),show 1158 - (setCells M.at').length - (setCells M.follow).length - M.last.cells.length=0 by omega]
 rfl
theorem setCells_setOne:∀ (l:List PSet) (k:Nat) (s t:PSet) (i:Nat),i < 3→l[k]?=some s→t=s.setw i (t.word i)→(setCells l).set (k * 3+i) (.int .u64 (t.word i))=setCells (l.set k t)
 | [],k,s,t,i,hi,h,he=>by simp at h
 | y :: l,0,s,t,i,hi,h,he=>by
  simp at h
  subst h
  rw [he]
  match i with
  | 0=>simp [setCells,PSet.cells,PSet.setw,PSet.word]
  | 1=>simp [setCells,PSet.cells,PSet.setw,PSet.word]
  | 2=>simp [setCells,PSet.cells,PSet.setw,PSet.word]
  | n+3=>omega
 | y :: l,k+1,s,t,i,hi,h,he=>by
  have ih:=setCells_setOne l k s t i hi (by simpa using h) he
  have e:∀ l:List PSet,setCells (y :: l) = .int .u64 y.a :: .int .u64 y.b :: .int .u64 y.c :: setCells l:=fun l=>by simp [setCells,PSet.cells]
  rw [List.set_cons_succ,e,e,← ih,show (k+1) * 3+i=k * 3+i+1+1+1 by omega]
  simp only [List.set_cons_succ]
theorem PM.setAtc_cells {M:PM} (h:M.ok) {c i:Nat} {s:PSet} (hc:M.at'[c]?=some s) (hi:i < 3) (v:Nat) :
  M.cells.toArray.setIfInBounds (c * 3+i) (.int .u64 v)=(M.setAtc c (s.setw i v)).cells.toArray:=by
 simp only [List.setIfInBounds_toArray]
 congr 1
 have hl:=(List.getElem?_eq_some_iff.1 hc).1
 have h1:=setCells_len M.at'
 have hw:(s.setw i v).word i=v:=by rw [PSet.word_setw _ _ _ _ hi hi,if_pos rfl]
 have h2:=setCells_setOne M.at' c s (s.setw i v) i hi hc (by rw [hw])
 rw [hw] at h2
 unfold PM.cells PM.setAtc
 simp only
 rw [List.set_append_left _ _ (by omega),h2]
theorem machOn_any (mb c k:Nat) (M:PM) (s:PSet) (w:World) (hM:MachIs w mb M) (hc:M.at'[c]?=some s) (hk:k < 192) :
  Calls Tryz.prog 126 #[.pointer (some ⟨mb,c * 3,none⟩),.int .i64 k] w fun e w'=>e = .returned (.tuple #[])∧MachIs w' mb (M.setAtc c (s.on k))∧Mod (fun j=>j=mb) w w':=by
 have hs:s.ok:=hM.1.oa s (List.mem_of_getElem? hc)
 refine (setOn_any mb (c * 3) k s w hs hk (hM.atC hc)).mono ?_
 rintro e w' ⟨rfl,hS⟩
 refine ⟨rfl,⟨PM.ok_setAtc hM.1 c (PSet.ok_on hs k),?_⟩,Mod.trans (Mod.setCell (S:=fun j=>j=mb) w ⟨mb,_,none⟩ _ fun _=>rfl) (Mod.same hS)⟩
 rw [hS.heap,heap_setCell_same w mb (c * 3+k / 64) _ _ _ hM.2,PM.setAtc_cells hM.1 hc (by omega)]
 rfl
set_option maxRecDepth 100000 in
set_option maxHeartbeats 4000000 in
theorem part_one (s:BSet) (hs:s.ok):PartGives (.one s):=by
 intro mb M w hM hT hn
 have hmb:=lt_of_heap hM.2
 have hn':M.n+1≤128:=hn
 have a1:=asserts_one (.agg s.cells.toArray)
 simp only [Asserts] at a1
 obtain ⟨W,hW⟩:∃ W,W=((w.alloc (.cells z7 278)).alloc (.cells s.cells.toArray 266)).alloc (.cells #[.int .u64 0,.int .u64 0,.int .u64 0] 272):=⟨_,rfl⟩
 have h0:W.heap[w.heap.size]?=some (.cells z7 278 (0,0)):=by
  rw [hW,Below.heap_alloc _ _ _ (by simp; omega),Below.heap_alloc _ _ _ (by simp)]
  exact heap_alloc_new w _
 have h1:W.heap[w.heap.size+1]?=some (.cells s.cells.toArray 266 (0,0)):=by
  rw [hW,Below.heap_alloc _ _ _ (by simp)]
  have:=heap_alloc_new (w.alloc (.cells z7 278)) (.cells s.cells.toArray 266)
  rw [World.size_alloc] at this
  exact this
 have h2:W.heap[w.heap.size+1+1]?=some (.cells PSet.zero.cells.toArray 272 (0,0)):=by
  rw [hW]
  have:=heap_alloc_new ((w.alloc (.cells z7 278)).alloc (.cells s.cells.toArray 266)) (.cells #[.int .u64 0,.int .u64 0,.int .u64 0] 272)
  rw [World.size_alloc,World.size_alloc] at this
  exact this
 have hb:Below w.heap.size w W:=by rw [hW]; exact (((Below.refl _ w).alloc (Nat.le_refl _) _).alloc (by simp) _).alloc (by simp; omega) _
 have hsz:W.heap.size=w.heap.size+3:=by rw [hW]; simp
 have hMW:=hM.below hb
 have hnc:W.cell? ⟨mb,1158,none⟩=some (.int .i64 M.n):=hMW.nC
 have hncl:=hnc
 rw [hW] at hncl
 have hcall:=setOn_block (w.heap.size+1+1) M.n PSet.zero 272 W PSet.ok_zero (by omega) h2
 have H:=Lib.hid (show _∧_∧_∧_∧_∧_ from ⟨hcall,h0,h1,hb,hMW,hs⟩)
 have HW:=Lib.hid hW
 rw [show (Ast.one s).val = .iface 266 (.agg s.cells.toArray) from rfl]
 unfold ptrV z7 BSet.cells at *
 clear hM hT hn hb hcall h0 h1 h2 hW hMW hs
 go_enter Tryz.func125,Tryz.ntmps125
 go_wp2_with fail
 rw [← HW.out]
 clear hncl
 refine H.out.1.mono ?_
 rintro en w1 ⟨rfl,g2,go,gb⟩
 have hbW1:Below w.heap.size w w1:=H.out.2.2.2.1.trans (gb _ (by omega))
 have g0:=(go w.heap.size (by omega)).trans H.out.2.1
 have g1:=(go (w.heap.size+1) (by omega)).trans H.out.2.2.1
 have hM1:MachIs w1 mb M:=⟨H.out.2.2.2.2.1.1,(go mb (by omega)).trans H.out.2.2.2.2.1.2⟩
 have hm1:Mod (fun j=>j=mb) w w1:=below_mod hbW1
 have HI:=Lib.hid (show _∧_∧_∧_∧_ from ⟨g0,g1,g2,hM1,hm1⟩)
 clear g0 g1 g2 hM1 hm1 hbW1 gb go hnc hsz
 go_wp2_with fail
 go_loopw [28] (fun i wr=>∃ c:Nat,c≤256∧i = .int .i64 c∧Hid (wr.heap[w.heap.size]?=some (.cells z7 278 (0,0))∧wr.heap[w.heap.size+1]?=some (.cells s.cells.toArray 266 (0,0))∧wr.heap[w.heap.size+1+1]?=some (.cells (PSet.zero.on M.n).cells.toArray 272 (0,0))∧MachIs wr mb (M.putTo s c)∧Mod (fun j=>j=mb) w wr)) (fun i _=>256 - (intOf i).toNat)
 case atStart=>exact ⟨0,by omega,rfl,HI.out.1,HI.out.2.1,HI.out.2.2.1,by rw [PM.putTo_zero]; exact HI.out.2.2.2.1,HI.out.2.2.2.2⟩
 case round =>
  clear HI
  obtain ⟨c,hc,rfl,HI⟩:=hrel
  by_cases hlt:c < 256
  ·obtain ⟨i0,i1,i2,i3,i4⟩:=HI.out
   have l1:=cell_block (i:=0) i1
   have l2:=cell_block (i:=1) i1
   have l3:=cell_block (i:=2) i1
   have l4:=cell_block (i:=3) i1
   have hcall:=setHas_any s c wr H.out.2.2.2.2.2 hlt
   unfold BSet.cells at l1 l2 l3 l4 hcall
   simp only [List.getElem?_toArray,List.getElem?_cons_zero,List.getElem?_cons_succ] at l1 l2 l3 l4
   have hlz:(c:Int) < 256:=by omega
   have hwr:IntKind.u8.wrap (c:Int)=(c:Int):=IntWalk.u8_in _ (by omega)
   obtain ⟨tc,htc⟩:∃ tc,(M.putTo s c).at'[c]?=some tc:=⟨_,List.getElem?_eq_getElem (by rw [i3.1.la]; exact hlt)⟩
   obtain ⟨hh,hhe⟩:∃ hh,hh=s.has c:=⟨_,rfl⟩
   rw [← hhe] at hcall
   have HC:=Lib.hid (show _∧_∧_ from ⟨hcall,htc,hhe⟩)
   clear i0 i1 i2 i3 i4 hcall htc hhe
   go_wp2_with fail
   refine HC.out.1.mono ?_
   rintro en w2 ⟨rfl,hb2⟩
   clear l1 l2 l3 l4
   have hN:∀ W,Below wr.heap.size wr W→(W.heap[w.heap.size]?=some (.cells z7 278 (0,0))∧W.heap[w.heap.size+1]?=some (.cells s.cells.toArray 266 (0,0))∧W.heap[w.heap.size+1+1]?=some (.cells (PSet.zero.on M.n).cells.toArray 272 (0,0))∧MachIs W mb (M.putTo s c)∧Mod (fun j=>j=mb) w W):=fun W hb =>
    ⟨(hb.block _ (lt_of_heap HI.out.1)).trans HI.out.1,(hb.block _ (lt_of_heap HI.out.2.1)).trans HI.out.2.1,(hb.block _ (lt_of_heap HI.out.2.2.1)).trans HI.out.2.2.1,HI.out.2.2.2.1.below hb,HI.out.2.2.2.2.trans (below_mod hb)⟩
   have HN:=Lib.hid (hN w2 hb2)
   have hszz:=hb2.size
   clear hN hb2
   cases hh
   ·go_wp2_with fail
    go_roundw
    case rel =>
     refine ⟨c+1,by omega,by go_num,HN.out.1,HN.out.2.1,HN.out.2.2.1,?_,HN.out.2.2.2.2⟩
     rw [← PM.putTo_succ_no HC.out.2.2.symm]
     exact HN.out.2.2.2.1
    case measure=>simp [intOf]; omega
   ·have hnc:w2.cell? ⟨mb,1158,none⟩=some (.int .i64 M.n):=HN.out.2.2.2.1.nC
    go_wp2_with fail
    refine wp_region_ordT [(0,false),(1,false),(2,false),(3,false),(4,false),(5,false),(6,false),(7,false),(8,false),(9,true)] 9
     (fun W'=>W'.cell? ⟨mb,1158,none⟩=some (.int .i64 M.n)) (by kernel_rfl) (by kernel_rfl) hnc ?_
    iterate 9 (
     refine wpOrd_quiet ?_ rfl rfl (fun w' hS=>?_) ?_
     rotate_left
     ·go_simp
      first | rfl | done
     simp only [put_lit,List.set_cons_succ,List.set_cons_zero])
    refine wpOrd_last rfl rfl (fun K hK=>?_)
    go_simp
    refine (machOn_any mb c M.n (M.putTo s c) _ w2.drew (HN.out.2.2.2.1.below (Same.drew w2 |>.below _)) HC.out.2.1 (by omega)).mono ?_
    rintro en w4 ⟨rfl,hm4,hmod4⟩
    refine hK _ _ ?_
    clear hK K
    go_wp2_with fail
    have hmm:Mod (fun j=>j=mb) w2 w4:=(Mod.same (Same.drew w2)).trans hmod4
    have e0:=(hmm.block _ (lt_of_heap HN.out.1) (by omega)).trans HN.out.1
    have e1:=(hmm.block _ (lt_of_heap HN.out.2.1) (by omega)).trans HN.out.2.1
    have e2:=(hmm.block _ (lt_of_heap HN.out.2.2.1) (by omega)).trans HN.out.2.2.1
    have e3:MachIs w4 mb (M.putTo s (c+1)):=by
     rw [← PM.putTo_succ_yes HC.out.2.1 HC.out.2.2.symm]
     exact hm4
    have e4:Mod (fun j=>j=mb) w w4:=HN.out.2.2.2.2.trans hmm
    have HE:=Lib.hid (show _∧_∧_∧_∧_ from ⟨e0,e1,e2,e3,e4⟩)
    clear hmm e0 e1 e2 e3 e4 hm4 hmod4 hnc
    go_wp2_with fail
    go_roundw
    case rel=>exact ⟨c+1,by omega,by go_num,HE⟩
    case measure=>simp [intOf]; omega
  ·obtain rfl:c=256:=by omega
   clear hlt
   obtain ⟨i0,i1,i2,i3,i4⟩:=HI.out
   have hnc:wr.cell? ⟨mb,1158,none⟩=some (.int .i64 M.n):=i3.nC
   have hnf:wr.frozen? ⟨mb,1158,none⟩=false:=i3.free _
   obtain ⟨v,hv⟩:∃ v:PSet,v=PSet.zero.on M.n:=⟨_,rfl⟩
   rw [← hv] at i2
   have hM5:=i3.putN (M.n+1)
   have hpa:PM.part (.one s) M=(M.putPlace s,⟨v,v,false⟩):=by rw [hv]; rfl
   have hnz:((M.n:Int)+1)=((M.n+1:Nat):Int):=by omega
   have hb0:w.heap.size≠mb:=by omega
   obtain ⟨W4,hW4⟩:∃ W4,W4=wr.setCell ⟨mb,1158,none⟩ (.int .i64 ((M.n:Int)+1)):=⟨_,rfl⟩
   have k0:W4.heap[w.heap.size]?=some (.cells z7 278 (0,0)):=by rw [hW4]; exact (Below.heap_setCell wr ⟨mb,1158,none⟩ _ _ (by show w.heap.size≠mb; omega)).trans i0
   have k2:W4.heap[w.heap.size+1+1]?=some (.cells v.cells.toArray 272 (0,0)):=by rw [hW4]; exact (Below.heap_setCell wr ⟨mb,1158,none⟩ _ _ (by show w.heap.size+1+1≠mb; omega)).trans i2
   have kM:MachIs W4 mb (M.putPlace s):=by rw [hW4,hnz,← PM.putTo_all H.out.2.2.2.2.1.1]; exact hM5
   have km:Mod (fun j=>j=mb) w W4:=by rw [hW4]; exact Mod.trans i4 (Mod.setCell (S:=fun j=>j=mb) wr ⟨mb,_,none⟩ _ fun _=>rfl)
   obtain ⟨W5,hW5,hfin⟩:=part_out ⟨v,v,false⟩ k0 kM km (Nat.le_refl _) hmb
   obtain ⟨d0,d1,d2,d3,d4,d5,d6,f0,f1,f2,f3,f4,f5,f6⟩:=(Cells7.of k0).all
   have q0:W4.cell? ⟨w.heap.size+1+1,0,none⟩=some (.int .u64 v.a):=cell_block k2
   have q1:W4.cell? ⟨w.heap.size+1+1,1,none⟩=some (.int .u64 v.b):=cell_block k2
   have q2:W4.cell? ⟨w.heap.size+1+1,2,none⟩=some (.int .u64 v.c):=cell_block k2
   have HF:=Lib.hid (show _∧_ from ⟨hfin,hW5⟩)
   have HW4:=Lib.hid hW4
   have HPA:=Lib.hid hpa
   rw [hW4] at d0 d1 d2 d3 d4 d5 d6 f0 f1 f2 f3 f4 f5 f6 q0 q1 q2
   have hlt:(M.n:Int)+1≤128:=by omega
   have hge:(0:Int)≤(M.n:Int):=by omega
   clear hnz hb0 i0 i1 i2 i3 i4 hv hM5 hpa hW4 k0 k2 kM km hfin hW5 H HI HW
   go_wp2_with fail
   have e3:=HF.out.2
   unfold set7 at e3
   rw [HW4.out] at e3
   rw [← e3]
   clear e3
   refine bodyPost_ret (results_cell_row rfl _ _ w.heap.size _ _ (0,0) _ rfl HF.out.1.1 Tryz.underlying278 rfl (by kernel_rfl)) rfl ?_
   rw [HPA.out]
   exact ⟨rfl,HF.out.1.2⟩
end Go.Proofs.Ts
namespace Go.Proofs.Ts
open Go Go.RowKit
structure TwoW (mb:Nat) (w0:World) (M M1 M2:PM) (p q:Part) (l:Array Bool) (v1 v2 v3 v4:Value) (g3 g4:Nat) (w:World):Prop where
 mod:Mod (fun j=>j=mb) w0 w
 mach:MachIs w mb (if l.getD 7 false then M2 else if l.getD 3 false then M1 else M)
 ord:l.getD 7 false=true→l.getD 3 false=true
 r1:l.getD 3 false=true→v1=p.val
 r2:l.getD 7 false=true→v2=q.val
 b3:l.getD 8 false=true→v3=ptrV g3∧w0.heap.size≤g3∧w.heap[g3]?=some (.cells z7 278 (0,0))
 b4:l.getD 9 false=true→v4=ptrV g4∧w0.heap.size≤g4∧w.heap[g4]?=some (.cells z7 278 (0,0))
 ne:l.getD 8 false=true→l.getD 9 false=true→g3≠g4
section
variable {ops:Array Oper} {mb:Nat} {w0 w w':World} {M M1 M2:PM} {p q:Part} {l:Array Bool} {v1 v2 v3 v4:Value} {g3 g4:Nat}
theorem TwoW.first (h:TwoW mb w0 M M1 M2 p q l v1 v2 v3 v4 g3 g4 w) (hmb:mb < w0.heap.size) (hr:3∈Region.ready .any ops l) (hM:MachIs w' mb M1) (hm:Mod (fun j=>j=mb) w w'):TwoW mb w0 M M1 M2 p q (l.setIfInBounds 3 true) p.val v2 v3 v4 g3 g4 w':=by
 have hs:=ready_set hr
 have hun:=unlisted_of_ready hr
 have h7:l.getD 7 false=false:=by
  cases h7:l.getD 7 false with
  | false=>rfl
  | true=>rw [h.ord h7] at hun; cases hun
 have keep:∀ g,w0.heap.size≤g→w.heap[g]?=some (.cells z7 278 (0,0))→w'.heap[g]?=some (.cells z7 278 (0,0)):=fun g hg hw=>(hm.block g (lt_of_heap hw) (by omega)).trans hw
 refine ⟨h.mod.trans hm,?_,fun _=>by rw [hs,if_pos rfl],fun _=>rfl,?_,?_,?_,?_⟩
 ·rw [hs 7,hs 3,if_neg (show ¬ (7=3) by decide),h7,if_pos (show 3=3 from rfl)]; exact hM
 ·rw [hs,if_neg (by decide)]; exact h.r2
 ·rw [hs,if_neg (by decide)]; exact fun e=>⟨(h.b3 e).1,(h.b3 e).2.1,keep _ (h.b3 e).2.1 (h.b3 e).2.2⟩
 ·rw [hs,if_neg (by decide)]; exact fun e=>⟨(h.b4 e).1,(h.b4 e).2.1,keep _ (h.b4 e).2.1 (h.b4 e).2.2⟩
 ·rw [hs,hs,if_neg (by decide),if_neg (by decide)]; exact h.ne
theorem TwoW.second (h:TwoW mb w0 M M1 M2 p q l v1 v2 v3 v4 g3 g4 w) (hmb:mb < w0.heap.size) (hr:7∈Region.ready .any ops l) (h3:l.getD 3 false=true) (hM:MachIs w' mb M2) (hm:Mod (fun j=>j=mb) w w'):TwoW mb w0 M M1 M2 p q (l.setIfInBounds 7 true) v1 q.val v3 v4 g3 g4 w':=by
 have hs:=ready_set hr
 have keep:∀ g,w0.heap.size≤g→w.heap[g]?=some (.cells z7 278 (0,0))→w'.heap[g]?=some (.cells z7 278 (0,0)):=fun g hg hw=>(hm.block g (lt_of_heap hw) (by omega)).trans hw
 refine ⟨h.mod.trans hm,?_,fun _=>by rw [hs,if_neg (by decide)]; exact h3,?_,fun _=>rfl,?_,?_,?_⟩
 ·rw [hs 7,if_pos (show 7=7 from rfl)]; exact hM
 ·rw [hs,if_neg (by decide)]; exact h.r1
 ·rw [hs,if_neg (by decide)]; exact fun e=>⟨(h.b3 e).1,(h.b3 e).2.1,keep _ (h.b3 e).2.1 (h.b3 e).2.2⟩
 ·rw [hs,if_neg (by decide)]; exact fun e=>⟨(h.b4 e).1,(h.b4 e).2.1,keep _ (h.b4 e).2.1 (h.b4 e).2.2⟩
 ·rw [hs,hs,if_neg (by decide),if_neg (by decide)]; exact h.ne
theorem TwoW.make3 (h:TwoW mb w0 M M1 M2 p q l v1 v2 v3 v4 g3 g4 w) (hr:8∈Region.ready .any ops l):TwoW mb w0 M M1 M2 p q (l.setIfInBounds 8 true) v1 v2 (ptrV w.heap.size) v4 w.heap.size g4 (w.alloc (.cells z7 278)):=by
 have hs:=ready_set hr
 refine ⟨h.mod.trans (Mod.alloc _ _ _),?_,?_,?_,?_,fun _=>⟨rfl,h.mod.size,heap_alloc_new w _⟩,?_,?_⟩
 ·rw [hs 7,hs 3,if_neg (show ¬ (7=8) by decide),if_neg (show ¬ (3=8) by decide)]; exact h.mach.below ((Below.refl _ w).alloc (Nat.le_refl _) _)
 ·rw [hs,hs,if_neg (by decide),if_neg (by decide)]; exact h.ord
 ·rw [hs,if_neg (by decide)]; exact h.r1
 ·rw [hs,if_neg (by decide)]; exact h.r2
 ·rw [hs,if_neg (by decide)]; exact fun e=>⟨(h.b4 e).1,(h.b4 e).2.1,(Below.heap_alloc w _ _ (lt_of_heap (h.b4 e).2.2)).trans (h.b4 e).2.2⟩
 ·rw [hs,hs,if_pos rfl,if_neg (by decide)]; exact fun _ e=>by have:=lt_of_heap (h.b4 e).2.2; omega
theorem TwoW.make4 (h:TwoW mb w0 M M1 M2 p q l v1 v2 v3 v4 g3 g4 w) (hr:9∈Region.ready .any ops l):TwoW mb w0 M M1 M2 p q (l.setIfInBounds 9 true) v1 v2 v3 (ptrV w.heap.size) g3 w.heap.size (w.alloc (.cells z7 278)):=by
 have hs:=ready_set hr
 refine ⟨h.mod.trans (Mod.alloc _ _ _),?_,?_,?_,?_,?_,fun _=>⟨rfl,h.mod.size,heap_alloc_new w _⟩,?_⟩
 ·rw [hs 7,hs 3,if_neg (show ¬ (7=9) by decide),if_neg (show ¬ (3=9) by decide)]; exact h.mach.below ((Below.refl _ w).alloc (Nat.le_refl _) _)
 ·rw [hs,hs,if_neg (by decide),if_neg (by decide)]; exact h.ord
 ·rw [hs,if_neg (by decide)]; exact h.r1
 ·rw [hs,if_neg (by decide)]; exact h.r2
 ·rw [hs,if_neg (by decide)]; exact fun e=>⟨(h.b3 e).1,(h.b3 e).2.1,(Below.heap_alloc w _ _ (lt_of_heap (h.b3 e).2.2)).trans (h.b3 e).2.2⟩
 ·rw [hs,hs,if_neg (by decide),if_pos rfl]; exact fun e _=>by have:=lt_of_heap (h.b3 e).2.2; omega
end
end Go.Proofs.Ts
namespace Go.Proofs.Ts
open Go Go.RowKit
set_option maxRecDepth 100000 in
set_option maxHeartbeats 8000000 in
theorem part_or (e f:Ast) (ih1:PartGives e) (ih2:PartGives f):PartGives (.or e f):=by
  intro mb M w hM hT hn
  have hmb:=lt_of_heap hM.2
  have hn':M.n+(e.count+f.count)≤128:=hn
  have hok1:=part_ok e M hM.1 (by omega)
  have hok2:=part_ok f (PM.part e M).1 hok1.mach (by rw [hok1.n]; omega)
  obtain ⟨a1,a2⟩:=asserts_or (.agg #[e.val,f.val])
  simp only [Asserts,zOne,zTwo,zMany,zMaybe] at a1 a2
  obtain ⟨xt,xv,hx⟩:=e.val_iface
  obtain ⟨yt,yv,hy⟩:=f.val_iface
  obtain ⟨W,hW⟩:∃ W,W=(w.alloc (.cells z7 278)).alloc (.cells #[.iface xt xv,.iface yt yv] 325):=⟨_,rfl⟩
  have h0:W.heap[w.heap.size]?=some (.cells z7 278 (0,0)):=by
    rw [hW,Below.heap_alloc _ _ _ (by simp)]
    exact heap_alloc_new w _
  have h1:W.heap[w.heap.size+1]?=some (.cells #[.iface xt xv,.iface yt yv] 325 (0,0)):=by
    rw [hW]
    have:=heap_alloc_new (w.alloc (.cells z7 278)) (.cells #[.iface xt xv,.iface yt yv] 325)
    rw [World.size_alloc] at this
    exact this
  have hb:Below w.heap.size w W:=by rw [hW]; exact ((Below.refl _ w).alloc (Nat.le_refl _) _).alloc (by simp) _
  have hsz:W.heap.size=w.heap.size+2:=by rw [hW]; simp
  have hc1:W.cell? ⟨w.heap.size+1,0,none⟩=some (.iface xt xv):=cell_block h1
  have hc2:W.cell? ⟨w.heap.size+1,1,none⟩=some (.iface yt yv):=cell_block h1
  obtain ⟨N1,hN1⟩:∃ N1,N1=(PM.part e M).1:=⟨_,rfl⟩
  obtain ⟨N2,hN2⟩:∃ N2,N2=(PM.part f N1).1:=⟨_,rfl⟩
  obtain ⟨p,hp⟩:∃ p,p=(PM.part e M).2:=⟨_,rfl⟩
  obtain ⟨q,hq⟩:∃ q,q=(PM.part f N1).2:=⟨_,rfl⟩
  have hval:PM.part (.or e f) M=(N2,p.or q):=by rw [hN2,hq,hp,hN1]; rfl
  have hcall1:∀ W,MachIs W mb M→BitTab W→Calls Tryz.prog 125 #[ptrV mb,e.val] W fun en w'=>en = .returned p.val∧MachIs w' mb N1∧Mod (fun j=>j=mb) W w':=fun W h1 h2=>by rw [hp,hN1]; exact ih1 mb M W h1 h2 (by omega)
  have hcall2:∀ W,MachIs W mb N1→BitTab W→Calls Tryz.prog 125 #[ptrV mb,f.val] W fun en w'=>en = .returned q.val∧MachIs w' mb N2∧Mod (fun j=>j=mb) W w':=fun W h1 h2=>by rw [hq,hN2]; exact ih2 mb N1 W h1 h2 (by rw [hN1,hok1.n]; omega)
  rw [hx] at hcall1
  rw [hy] at hcall2
  rw [hx,hy] at a1 a2
  rw [← hp,← hN1] at hok1
  rw [← hN1,← hq,← hN2] at hok2
  have H:=Lib.hid (show _∧_∧_∧_∧_∧_∧_ from ⟨hcall1,hcall2,h0,hb,hM.below hb,hT.below hb,h1⟩)
  have HO:=Lib.hid (show _∧_ from ⟨hok1,hok2⟩)
  have HV:=Lib.hid hval
  have HW:=Lib.hid hW
  have HMT:=Lib.hid (show _∧_ from ⟨hM,hT⟩)
  rw [show (Ast.or e f).val = .iface 325 (.agg #[e.val,f.val]) from rfl,hx,hy]
  unfold ptrV z7 at *
  clear hM hT hn hn' hb hval hp hq hcall1 hcall2 h0 h1 ih1 ih2 hx hy hW hok1 hok2 hN1 hN2
  go_enter Tryz.func125,Tryz.ntmps125
  go_wp2_with fail
  rw [← HW.out]
  refine wp_region_ordV [0,1,2,4,5,6] [3,7,8,9] 4 [(10,true),(11,true)] #[true,true,true,false,true,true,true,false,false,false,false,false] #[true,true,true,true,true,true,true,true,true,true,false,false] 11
    (fun W'=>W'.cell? ⟨w.heap.size+1,0,none⟩=some (.iface xt xv)∧W'.cell? ⟨w.heap.size+1,1,none⟩=some (.iface yt yv)) (by kernel_rfl) (by kernel_rfl) ⟨hc1,hc2⟩ ?_
  simp only [List.map_cons,List.map_nil]
  iterate 6 (
    refine wpOrd_quiet ?_ rfl rfl (fun w' hS=>?_) ?_
    rotate_left
    · obtain ⟨q0,q1⟩:=hS
      go_simp
      first | rfl | done
    simp only [put_lit,List.set_cons_succ,List.set_cons_zero])
  refine wpOrd_nil ?_
  rintro -
  refine inv4 62 66 9 10 (fun l v1 v2 v3 v4 w'=>∃ g3 g4,TwoW mb W.drew M N1 N2 p q l v1 v2 v3 v4 g3 g4 w') (by unfold puts4; simp only [put_lit,List.set_cons_succ,List.set_cons_zero]) ?_ ?_ ?_ ?_
  · have:=H.out.2.2.2.2.1.below (Same.drew W |>.below _)
    exact ⟨0,0,⟨Mod.refl _ _,this,fun h=>absurd h (by decide),fun h=>absurd h (by decide),fun h=>absurd h (by decide),fun h=>absurd h (by decide),fun h=>absurd h (by decide),fun h=>absurd h (by decide)⟩⟩
  · rintro l v1 v2 v3 v4 w' i ⟨g3,g4,hTW⟩ hi hr
    have hS:∀ W',Mod (fun j=>j=mb) W.drew W'→W'.cell? ⟨w.heap.size+1,0,none⟩=some (.iface xt xv)∧W'.cell? ⟨w.heap.size+1,1,none⟩=some (.iface yt yv):=fun W' hm=>by
      have hxb:=(hm.block (w.heap.size+1) (by show _ < W.heap.size; omega) (by omega)).trans H.out.2.2.2.2.2.2
      exact ⟨cell_block hxb,cell_block hxb⟩
    have HS:=Lib.hid hS
    have hTab:BitTab w':=by
      have h1:BitTab W.drew:=H.out.2.2.2.2.2.1.below (Same.drew W |>.below _)
      exact h1.mod (H.out.2.2.2.2.1.below (Same.drew W |>.below _)) hTW.mod
    have hmb':mb < W.drew.heap.size:=by show mb < W.heap.size; omega
    have HT:=Lib.hid (show _∧_∧_∧_ from ⟨hTW,hr,hTab,hmb'⟩)
    clear hTW hS hTab hr hc1 hc2 hmb'
    simp only [List.mem_cons,List.not_mem_nil,or_false] at hi
    unfold puts4
    simp only [put_lit,List.set_cons_succ,List.set_cons_zero]
    rcases hi with rfl | rfl | rfl | rfl
    · refine wpOp_loudK rfl rfl (fun K hK=>?_)
      have hun:=unlisted_of_ready HT.out.2.1
      have hM1:MachIs w' mb M:=by
        have h7:l.getD 7 false=false:=by
          cases h7:l.getD 7 false with
          | false=>rfl
          | true=>rw [HT.out.1.ord h7] at hun; cases hun
        have:=HT.out.1.mach
        rw [h7,hun] at this
        exact this
      have hcall:=H.out.1 w' hM1 HT.out.2.2.1
      clear hun hM1
      go_simp
      refine hcall.mono ?_
      rintro en w'' ⟨rfl,hm2,hmod2⟩
      have hTW2:=HT.out.1.first HT.out.2.2.2 HT.out.2.1 hm2 hmod2
      exact hK.out _ _ ⟨fun _=>HS.out _ hTW2.mod,_,_,_,_,rfl,_,_,hTW2⟩
    · refine wpOp_loudK rfl rfl (fun K hK=>?_)
      have h3:l.getD 3 false=true:=waitsB_listed (x:=7) (i:=3) (by kernel_rfl) HT.out.2.1
      have hun:=unlisted_of_ready HT.out.2.1
      have hM1:MachIs w' mb N1:=by
        have:=HT.out.1.mach
        rw [h3,hun] at this
        exact this
      have hcall:=H.out.2.1 w' hM1 HT.out.2.2.1
      have H3:=Lib.hid h3
      clear hun hM1 h3
      go_simp
      refine hcall.mono ?_
      rintro en w'' ⟨rfl,hm2,hmod2⟩
      have hTW2:=HT.out.1.second HT.out.2.2.2 HT.out.2.1 H3.out hm2 hmod2
      exact hK.out _ _ ⟨fun _=>HS.out _ hTW2.mod,_,_,_,_,rfl,_,_,hTW2⟩
    · refine wpOp_loudK rfl rfl (fun K hK=>?_)
      go_simp
      have hTW2:=HT.out.1.make3 HT.out.2.1
      exact hK.out _ _ ⟨fun _=>HS.out _ hTW2.mod,_,_,_,_,rfl,_,_,hTW2⟩
    · refine wpOp_loudK rfl rfl (fun K hK=>?_)
      go_simp
      have hTW2:=HT.out.1.make4 HT.out.2.1
      exact hK.out _ _ ⟨fun _=>HS.out _ hTW2.mod,_,_,_,_,rfl,_,_,hTW2⟩
  · rintro v1 v2 v3 v4 w' ⟨g3,g4,hTW⟩
    have hxb:=(hTW.mod.block (w.heap.size+1) (by show _ < W.heap.size; omega) (by omega)).trans H.out.2.2.2.2.2.2
    have hx0:w'.cell? ⟨w.heap.size+1,0,none⟩=some (.iface xt xv):=cell_block hxb
    have hx1:w'.cell? ⟨w.heap.size+1,1,none⟩=some (.iface yt yv):=cell_block hxb
    exact ⟨hx0,hx1⟩
  · rintro v1 v2 v3 v4 w' ⟨g3,g4,hTW⟩ G HG
    obtain rfl:=hTW.r1 (by decide)
    obtain rfl:=hTW.r2 (by decide)
    obtain ⟨rfl,hg3,hb3⟩:=hTW.b3 (by decide)
    obtain ⟨rfl,hg4,hb4⟩:=hTW.b4 (by decide)
    have hne:=hTW.ne (by decide) (by decide)
    have hMz:=hTW.mach
    rw [if_pos (by decide)] at hMz
    have hmod:=hTW.mod
    have hgs3:W.heap.size≤g3:=hg3
    have hgs4:W.heap.size≤g4:=hg4
    have hxb:=(hmod.block (w.heap.size+1) (by show _ < W.heap.size; omega) (by omega)).trans H.out.2.2.2.2.2.2
    have hrb:=(hmod.block (w.heap.size) (by show _ < W.heap.size; omega) (by omega)).trans H.out.2.2.1
    have hmodw:Mod (fun j=>j=mb) w w':=((below_mod H.out.2.2.2.1).trans (Mod.same (Same.drew W))).trans hmod
    obtain ⟨W3,hW3⟩:∃ W3,W3=set7 w' g3 (.int .u64 p.first.a) (.int .u64 p.first.b) (.int .u64 p.first.c) (.int .u64 p.last.a) (.int .u64 p.last.b) (.int .u64 p.last.c) (.bool p.none):=⟨_,rfl⟩
    have k3:W3.heap[g3]?=some (.cells p.cells.toArray 278 (0,0)):=by rw [hW3]; exact set7_block _ _ _ _ _ _ _ hb3
    have o3:∀ j,j≠g3→W3.heap[j]?=w'.heap[j]?:=fun j hj=>by rw [hW3]; exact set7_other _ _ _ _ _ _ _ _ _ hj
    have m3:Mod (fun j=>j=mb) w W3:=by rw [hW3]; exact set7_mod _ _ _ _ _ _ _ _ _ hmodw (by omega)
    have hb4':=(o3 g4 (Ne.symm hne)).trans hb4
    obtain ⟨W4,hW4⟩:∃ W4,W4=set7 W3 g4 (.int .u64 q.first.a) (.int .u64 q.first.b) (.int .u64 q.first.c) (.int .u64 q.last.a) (.int .u64 q.last.b) (.int .u64 q.last.c) (.bool q.none):=⟨_,rfl⟩
    have k4:W4.heap[g4]?=some (.cells q.cells.toArray 278 (0,0)):=by rw [hW4]; exact set7_block _ _ _ _ _ _ _ hb4'
    have o4:∀ j,j≠g4→W4.heap[j]?=W3.heap[j]?:=fun j hj=>by rw [hW4]; exact set7_other _ _ _ _ _ _ _ _ _ hj
    have m4:Mod (fun j=>j=mb) w W4:=by rw [hW4]; exact set7_mod _ _ _ _ _ _ _ _ _ m3 (by omega)
    have k43:=(o4 g3 hne).trans k3
    have k40:=((o4 w.heap.size (by omega)).trans (o3 w.heap.size (by omega))).trans hrb
    have k4M:MachIs W4 mb N2:=⟨hMz.1,((o4 mb (by omega)).trans (o3 mb (by omega))).trans hMz.2⟩
    have hxb3:=(o3 (w.heap.size+1) (by omega)).trans hxb
    have HA:=Lib.hid (show _∧_∧_∧_∧_∧_ from ⟨k4,k43,k40,k4M,m4,hxb3⟩)
    have HB:=Lib.hid (show _∧_ from ⟨hb3,hb4'⟩)
    have HW3:=Lib.hid (show _∧_ from ⟨hW3,hW4⟩)
    clear hTW hMz hmod hxb hrb hmodw k3 o3 m3 hb4 hb4' k4 o4 m4 k43 k40 k4M hxb3 hc1 hc2 hb3 hW3 hW4
    obtain ⟨d0,d1,d2,d3,d4,d5,d6,f0,f1,f2,f3,f4,f5,f6⟩:=(Cells7.of HB.out.1).all
    obtain ⟨i0,i1,i2,i3,i4,i5,i6,j0,j1,j2,j3,j4,j5,j6⟩:=(Cells7.of HB.out.2).all
    have hx0:W3.cell? ⟨w.heap.size+1,0,none⟩=some (.iface xt xv):=cell_block HA.out.2.2.2.2.2
    have hx1:W3.cell? ⟨w.heap.size+1,1,none⟩=some (.iface yt yv):=cell_block HA.out.2.2.2.2.2
    have HX:=Lib.hid (And.intro hx0 hx1)
    have HY:=Lib.hid (And.intro (Cells7.of HA.out.2.1) (Cells7.of HA.out.1))
    clear hx0 hx1
    have s3:=HW3.out.1
    have s4:=HW3.out.2
    unfold set7 at s3 s4
    have HS:=Lib.hid (And.intro s3 s4)
    clear s3 s4
    refine HG.out ?_
    unfold puts4
    simp only [put_lit,List.set_cons_succ,List.set_cons_zero]
    rw [Part.val_eq p,Part.val_eq q]
    unfold ptrV
    refine wpOrd_loud rfl rfl (by decide) (fun K hK=>?_)
    have HK:=Lib.hid hK
    clear hK
    go_simp
    rw [← HS.out.1]
    refine HK.out _ _ HX.out ?_
    clear HK K
    refine wpOrd_last rfl rfl (fun K hK=>?_)
    have HK:=Lib.hid hK
    clear hK
    go_simp
    rw [← HS.out.2]
    refine HK.out _ _ ?_
    clear HK K d0 d1 d2 d3 d4 d5 d6 f0 f1 f2 f3 f4 f5 f6 i0 i1 i2 i3 i4 i5 i6 j0 j1 j2 j3 j4 j5 j6
    go_wp2_with fail
    have hkeep:∀ W',Below W4.heap.size W4 W'→Cells7 W' g3 (.int .u64 p.first.a) (.int .u64 p.first.b) (.int .u64 p.first.c) (.int .u64 p.last.a) (.int .u64 p.last.b) (.int .u64 p.last.c) (.bool p.none)∧Cells7 W' g4 (.int .u64 q.first.a) (.int .u64 q.first.b) (.int .u64 q.first.c) (.int .u64 q.last.a) (.int .u64 q.last.b) (.int .u64 q.last.c) (.bool q.none):=fun W' hb =>
      ⟨Cells7.of ((hb.block _ (lt_of_heap HA.out.2.1)).trans HA.out.2.1),Cells7.of ((hb.block _ (lt_of_heap HA.out.1)).trans HA.out.1)⟩
    have HKEEP:=Lib.hid hkeep
    have hcall1:=fun W'=>setOr_any p.first q.first W' HO.out.1.part.f HO.out.2.part.f
    have hcall2:=fun W'=>setOr_any p.last q.last W' HO.out.1.part.l HO.out.2.part.l
    unfold PSet.val PSet.cells at hcall1 hcall2
    have HC:=Lib.hid (And.intro hcall1 hcall2)
    obtain ⟨r,hr⟩:∃ r,r=p.or q:=⟨_,rfl⟩
    have hr1:(p.first.or q.first)=r.first:=by rw [hr]; rfl
    have hr2:(p.last.or q.last)=r.last:=by rw [hr]; rfl
    have hr3:(p.none || q.none)=r.none:=by rw [hr]; rfl
    have HR:=Lib.hid (show _∧_∧_∧_ from ⟨hr1,hr2,hr3,hr⟩)
    clear hkeep hcall1 hcall2 hr hr1 hr2 hr3
    have hk0:=HKEEP.out W4.drew (Same.drew W4 |>.below _)
    cases hpn:p.none
    all_goals
      rw [hpn] at hk0
      refine wp_region_ordT [(0,false),(1,false),(2,false),(3,false),(5,false),(6,false),(7,false),(8,false),(10,false),(11,false),(4,true),(9,true),(12,false),(13,false),(14,false),(15,false),(16,false),(17,true)] 17
        (fun W'=>Cells7 W' g3 (.int .u64 p.first.a) (.int .u64 p.first.b) (.int .u64 p.first.c) (.int .u64 p.last.a) (.int .u64 p.last.b) (.int .u64 p.last.c) (.bool _)∧Cells7 W' g4 (.int .u64 q.first.a) (.int .u64 q.first.b) (.int .u64 q.first.c) (.int .u64 q.last.a) (.int .u64 q.last.b) (.int .u64 q.last.c) (.bool q.none)) (by kernel_rfl) (by kernel_rfl) hk0 ?_
      iterate 10 (
        first
        | refine wpOrd_skip rfl rfl ?_
        | (refine wpOrd_quiet ?_ rfl rfl (fun w' hS=>?_) ?_
           rotate_left
           · obtain ⟨⟨x0,x1,x2,x3,x4,x5,x6,x7⟩,⟨y0,y1,y2,y3,y4,y5,y6,y7⟩⟩:=hS
             go_simp
             first | rfl | done)
        simp only [put_lit,List.set_cons_succ,List.set_cons_zero])
      refine wpOrd_loud rfl rfl (by decide) (fun K hK=>?_)
      have HK:=Lib.hid hK
      clear hK
      go_simp
      refine (HC.out.1 _).mono ?_
      rintro en W5 ⟨rfl,hb5⟩
      have hb45:=(Same.drew W4 |>.below W4.heap.size).trans hb5
      have hk5:=HKEEP.out W5 hb45
      rw [hpn] at hk5
      refine HK.out _ _ hk5 ?_
      clear HK K
      refine wpOrd_loud rfl rfl (by decide) (fun K hK=>?_)
      have HK:=Lib.hid hK
      clear hK
      go_simp
      refine (HC.out.2 _).mono ?_
      rintro en W6 ⟨rfl,hb6⟩
      have hb46:=hb45.trans (hb6.mono hb45.size)
      have hk6:=HKEEP.out W6 hb46
      rw [hpn] at hk6
      refine HK.out _ _ hk6 ?_
      clear HK K
      iterate 5 (
        first
        | refine wpOrd_skip rfl rfl ?_
        | (refine wpOrd_quiet ?_ rfl rfl (fun w' hS=>?_) ?_
           rotate_left
           · obtain ⟨⟨x0,x1,x2,x3,x4,x5,x6,x7⟩,⟨y0,y1,y2,y3,y4,y5,y6,y7⟩⟩:=hS
             go_simp
             first | rfl | done)
        simp only [put_lit,List.set_cons_succ,List.set_cons_zero])
      have HB6:=Lib.hid hb46
      clear hb45 hb46 hb5 hb6 hk0 hk5
      have hl6:=(HB6.out.block _ (lt_of_heap HA.out.2.2.1)).trans HA.out.2.2.1
      have hm6:=HA.out.2.2.2.1.below HB6.out
      have hmod6:=HA.out.2.2.2.2.1.trans (below_mod HB6.out)
      obtain ⟨W7,hW7,hfin⟩:=part_out r hl6 hm6 hmod6 (Nat.le_refl _) hmb
      have HF:=Lib.hid hfin
      unfold set7 at hW7
      have hr1:=HR.out.1
      have hr2:=HR.out.2.1
      have hr3:=HR.out.2.2.1.symm
      rw [hpn] at hr3
      simp only [Bool.false_or,Bool.true_or] at hr3
      rw [hr3] at hW7
      have HW7:=Lib.hid hW7
      clear hr3
      obtain ⟨l0,l1,l2,l3,l4,l5,l6,n0,n1,n2,n3,n4,n5,n6⟩:=(Cells7.of hl6).all
      clear hl6 hm6 hmod6 hW7 hfin
      refine wpOrd_last rfl rfl (fun K hK=>?_)
      have HK:=Lib.hid hK
      clear hK
      rw [hr1,hr2]
      clear hr1 hr2
      go_simp
      rw [← HW7.out]
      refine HK.out _ _ ?_
      clear HK K l0 l1 l2 l3 l4 l5 l6 n0 n1 n2 n3 n4 n5 n6
      go_wp2_with fail
      refine bodyPost_ret (results_cell_row rfl _ _ w.heap.size _ _ (0,0) _ rfl HF.out.1 Tryz.underlying278 rfl (by kernel_rfl)) rfl ?_
      rw [HV.out,← HR.out.2.2.2]
      exact ⟨rfl,HF.out.2⟩
end Go.Proofs.Ts
namespace Go.Proofs.Ts
open Go Go.RowKit
structure SeqAt (mb b b5 g3 g4:Nat) (w:World) (N:PM) (p q c:Part) (W:World):Prop where
 res:W.heap[b]?=some (.cells z7 278 (0,0))
 own:W.heap[b5]?=some (.cells c.cells.toArray 278 (0,0))
 k3:W.heap[g3]?=some (.cells p.cells.toArray 278 (0,0))
 k4:W.heap[g4]?=some (.cells q.cells.toArray 278 (0,0))
 mach:MachIs W mb N
 mod:Mod (fun j=>j=mb) w W
theorem SeqAt.below {mb b b5 g3 g4:Nat} {w W W':World} {N:PM} {p q c:Part} (h:SeqAt mb b b5 g3 g4 w N p q c W) (hb:Below W.heap.size W W'):SeqAt mb b b5 g3 g4 w N p q c W' :=
 ⟨(hb.block _ (lt_of_heap h.res)).trans h.res,(hb.block _ (lt_of_heap h.own)).trans h.own,(hb.block _ (lt_of_heap h.k3)).trans h.k3,(hb.block _ (lt_of_heap h.k4)).trans h.k4,h.mach.below hb,h.mod.trans (below_mod hb)⟩
theorem SeqAt.turn {mb b b5 g3 g4:Nat} {w W W':World} {N:PM} {p q c c':Part} (h:SeqAt mb b b5 g3 g4 w N p q c W) (n1:b≠b5) (n2:g3≠b5) (n3:g4≠b5) (n4:mb≠b5) (hm:Mod (fun j=>j=mb) w W') (ho:∀ j,j≠b5→W'.heap[j]?=W.heap[j]?) (hown:W'.heap[b5]?=some (.cells c'.cells.toArray 278 (0,0))):SeqAt mb b b5 g3 g4 w N p q c' W' :=
 ⟨(ho _ n1).trans h.res,hown,(ho _ n2).trans h.k3,(ho _ n3).trans h.k4,⟨h.mach.1,(ho _ n4).trans h.mach.2⟩,hm⟩
theorem SeqAt.first {mb b b5 g3 g4:Nat} {w W:World} {N:PM} {p q c:Part} (h:SeqAt mb b b5 g3 g4 w N p q c W) (n0:w.heap.size≤b5) (n1:b≠b5) (n2:g3≠b5) (n3:g4≠b5) (n4:mb≠b5) (s:PSet) :
  SeqAt mb b b5 g3 g4 w N p q { c with first:=s } (((W.setCell ⟨b5,0,none⟩ (.int .u64 s.a)).setCell ⟨b5,1,none⟩ (.int .u64 s.b)).setCell ⟨b5,2,none⟩ (.int .u64 s.c)):=by
 refine h.turn n1 n2 n3 n4 (((h.mod.past n0 0 _).past n0 1 _).past n0 2 _) (fun j hj=>?_) ?_
 ·rw [Below.heap_setCell _ ⟨b5,2,none⟩ _ j hj,Below.heap_setCell _ ⟨b5,1,none⟩ _ j hj,Below.heap_setCell _ ⟨b5,0,none⟩ _ j hj]
 ·have k:=h.own
  rw [Part.cells_eq] at k ⊢
  replace k:=heap_setCell_same W b5 0 _ _ (.int .u64 s.a) k
  simp only [List.setIfInBounds_toArray,List.set_cons_zero,List.set_cons_succ] at k
  replace k:=heap_setCell_same _ b5 1 _ _ (.int .u64 s.b) k
  simp only [List.setIfInBounds_toArray,List.set_cons_zero,List.set_cons_succ] at k
  replace k:=heap_setCell_same _ b5 2 _ _ (.int .u64 s.c) k
  simp only [List.setIfInBounds_toArray,List.set_cons_zero,List.set_cons_succ] at k
  exact k
theorem SeqAt.last {mb b b5 g3 g4:Nat} {w W:World} {N:PM} {p q c:Part} (h:SeqAt mb b b5 g3 g4 w N p q c W) (n0:w.heap.size≤b5) (n1:b≠b5) (n2:g3≠b5) (n3:g4≠b5) (n4:mb≠b5) (s:PSet) :
  SeqAt mb b b5 g3 g4 w N p q { c with last:=s } (((W.setCell ⟨b5,3,none⟩ (.int .u64 s.a)).setCell ⟨b5,3+1,none⟩ (.int .u64 s.b)).setCell ⟨b5,3+2,none⟩ (.int .u64 s.c)):=by
 refine h.turn n1 n2 n3 n4 (((h.mod.past n0 3 _).past n0 (3+1) _).past n0 (3+2) _) (fun j hj=>?_) ?_
 ·rw [Below.heap_setCell _ ⟨b5,3+2,none⟩ _ j hj,Below.heap_setCell _ ⟨b5,3+1,none⟩ _ j hj,Below.heap_setCell _ ⟨b5,3,none⟩ _ j hj]
 ·have k:=h.own
  rw [Part.cells_eq] at k ⊢
  replace k:=heap_setCell_same W b5 3 _ _ (.int .u64 s.a) k
  simp only [List.setIfInBounds_toArray,List.set_cons_zero,List.set_cons_succ] at k
  replace k:=heap_setCell_same _ b5 (3+1) _ _ (.int .u64 s.b) k
  simp only [List.setIfInBounds_toArray,Nat.reduceAdd,List.set_cons_zero,List.set_cons_succ] at k
  replace k:=heap_setCell_same _ b5 (3+2) _ _ (.int .u64 s.c) k
  simp only [List.setIfInBounds_toArray,Nat.reduceAdd,List.set_cons_zero,List.set_cons_succ] at k
  exact k
set_option maxRecDepth 100000 in
set_option maxHeartbeats 8000000 in
theorem part_seq (e f:Ast) (ih1:PartGives e) (ih2:PartGives f):PartGives (.seq e f):=by
 intro mb M w hM hT hn
 have hmb:=lt_of_heap hM.2
 have hn':M.n+(e.count+f.count)≤128:=hn
 have hok1:=part_ok e M hM.1 (by omega)
 have hok2:=part_ok f (PM.part e M).1 hok1.mach (by rw [hok1.n]; omega)
 obtain ⟨a1,a2,a3⟩:=asserts_seq (.agg #[e.val,f.val])
 simp only [Asserts,zOne,zTwo,zMany,zMaybe] at a1 a2 a3
 obtain ⟨xt,xv,hx⟩:=e.val_iface
 obtain ⟨yt,yv,hy⟩:=f.val_iface
 obtain ⟨W,hW⟩:∃ W,W=(w.alloc (.cells z7 278)).alloc (.cells #[.iface xt xv,.iface yt yv] 331):=⟨_,rfl⟩
 have h0:W.heap[w.heap.size]?=some (.cells z7 278 (0,0)):=by
  rw [hW,Below.heap_alloc _ _ _ (by simp)]
  exact heap_alloc_new w _
 have h1:W.heap[w.heap.size+1]?=some (.cells #[.iface xt xv,.iface yt yv] 331 (0,0)):=by
  rw [hW]
  have:=heap_alloc_new (w.alloc (.cells z7 278)) (.cells #[.iface xt xv,.iface yt yv] 331)
  rw [World.size_alloc] at this
  exact this
 have hb:Below w.heap.size w W:=by rw [hW]; exact ((Below.refl _ w).alloc (Nat.le_refl _) _).alloc (by simp) _
 have hsz:W.heap.size=w.heap.size+2:=by rw [hW]; simp
 have hc1:W.cell? ⟨w.heap.size+1,0,none⟩=some (.iface xt xv):=cell_block h1
 have hc2:W.cell? ⟨w.heap.size+1,1,none⟩=some (.iface yt yv):=cell_block h1
 obtain ⟨N1,hN1⟩:∃ N1,N1=(PM.part e M).1:=⟨_,rfl⟩
 obtain ⟨N2,hN2⟩:∃ N2,N2=(PM.part f N1).1:=⟨_,rfl⟩
 obtain ⟨p,hp⟩:∃ p,p=(PM.part e M).2:=⟨_,rfl⟩
 obtain ⟨q,hq⟩:∃ q,q=(PM.part f N1).2:=⟨_,rfl⟩
 have hval:PM.part (.seq e f) M=(N2.link p.last.elems q.first,p.seq q):=by rw [hN2,hq,hp,hN1]; rfl
 have hcall1:∀ W,MachIs W mb M→BitTab W→Calls Tryz.prog 125 #[ptrV mb,e.val] W fun en w'=>en = .returned p.val∧MachIs w' mb N1∧Mod (fun j=>j=mb) W w':=fun W h1 h2=>by rw [hp,hN1]; exact ih1 mb M W h1 h2 (by omega)
 have hcall2:∀ W,MachIs W mb N1→BitTab W→Calls Tryz.prog 125 #[ptrV mb,f.val] W fun en w'=>en = .returned q.val∧MachIs w' mb N2∧Mod (fun j=>j=mb) W w':=fun W h1 h2=>by rw [hq,hN2]; exact ih2 mb N1 W h1 h2 (by rw [hN1,hok1.n]; omega)
 rw [hx] at hcall1
 rw [hy] at hcall2
 rw [hx,hy] at a1 a2 a3
 rw [← hp,← hN1] at hok1
 rw [← hN1,← hq,← hN2] at hok2
 have H:=Lib.hid (show _∧_∧_∧_∧_∧_∧_ from ⟨hcall1,hcall2,h0,hb,hM.below hb,hT.below hb,h1⟩)
 have hnn:N2.n≤128:=by rw [hok2.n,hok1.n]; omega
 have HO:=Lib.hid (show _∧_∧_∧_ from ⟨hok1,hok2,hnn,(by rw [hok2.n]; omega:N1.n≤N2.n)⟩)
 clear hnn
 have HV:=Lib.hid hval
 have HW:=Lib.hid hW
 have HMT:=Lib.hid (show _∧_ from ⟨hM,hT⟩)
 rw [show (Ast.seq e f).val = .iface 331 (.agg #[e.val,f.val]) from rfl,hx,hy]
 unfold ptrV z7 at *
 clear hM hT hn hn' hb hval hp hq hcall1 hcall2 h0 h1 ih1 ih2 hx hy hW hok1 hok2 hN1 hN2
 go_enter Tryz.func125,Tryz.ntmps125
 go_wp2_with fail
 rw [← HW.out]
 refine wp_region_ordV [0,1,2,4,5,6] [3,7,8,9] 4 [(10,true),(11,true)] #[true,true,true,false,true,true,true,false,false,false,false,false] #[true,true,true,true,true,true,true,true,true,true,false,false] 11
  (fun W'=>W'.cell? ⟨w.heap.size+1,0,none⟩=some (.iface xt xv)∧W'.cell? ⟨w.heap.size+1,1,none⟩=some (.iface yt yv)) (by kernel_rfl) (by kernel_rfl) ⟨hc1,hc2⟩ ?_
 simp only [List.map_cons,List.map_nil]
 iterate 6 (
  refine wpOrd_quiet ?_ rfl rfl (fun w' hS=>?_) ?_
  rotate_left
  ·obtain ⟨q0,q1⟩:=hS
   go_simp
   first | rfl | done
  simp only [put_lit,List.set_cons_succ,List.set_cons_zero])
 refine wpOrd_nil ?_
 rintro -
 refine inv4 90 94 12 13 (fun l v1 v2 v3 v4 w'=>∃ g3 g4,TwoW mb W.drew M N1 N2 p q l v1 v2 v3 v4 g3 g4 w') (by unfold puts4; simp only [put_lit,List.set_cons_succ,List.set_cons_zero]) ?_ ?_ ?_ ?_
 ·have:=H.out.2.2.2.2.1.below (Same.drew W |>.below _)
  exact ⟨0,0,⟨Mod.refl _ _,this,fun h=>absurd h (by decide),fun h=>absurd h (by decide),fun h=>absurd h (by decide),fun h=>absurd h (by decide),fun h=>absurd h (by decide),fun h=>absurd h (by decide)⟩⟩
 ·rintro l v1 v2 v3 v4 w' i ⟨g3,g4,hTW⟩ hi hr
  have hS:∀ W',Mod (fun j=>j=mb) W.drew W'→W'.cell? ⟨w.heap.size+1,0,none⟩=some (.iface xt xv)∧W'.cell? ⟨w.heap.size+1,1,none⟩=some (.iface yt yv):=fun W' hm=>by
   have hxb:=(hm.block (w.heap.size+1) (by show _ < W.heap.size; omega) (by omega)).trans H.out.2.2.2.2.2.2
   exact ⟨cell_block hxb,cell_block hxb⟩
  have HS:=Lib.hid hS
  have hTab:BitTab w':=by
   have h1:BitTab W.drew:=H.out.2.2.2.2.2.1.below (Same.drew W |>.below _)
   exact h1.mod (H.out.2.2.2.2.1.below (Same.drew W |>.below _)) hTW.mod
  have hmb':mb < W.drew.heap.size:=by show mb < W.heap.size; omega
  have HT:=Lib.hid (show _∧_∧_∧_ from ⟨hTW,hr,hTab,hmb'⟩)
  clear hTW hS hTab hr hc1 hc2 hmb'
  simp only [List.mem_cons,List.not_mem_nil,or_false] at hi
  unfold puts4
  simp only [put_lit,List.set_cons_succ,List.set_cons_zero]
  rcases hi with rfl | rfl | rfl | rfl
  ·refine wpOp_loudK rfl rfl (fun K hK=>?_)
   have hun:=unlisted_of_ready HT.out.2.1
   have hM1:MachIs w' mb M:=by
    have h7:l.getD 7 false=false:=by
     cases h7:l.getD 7 false with
     | false=>rfl
     | true=>rw [HT.out.1.ord h7] at hun; cases hun
    have:=HT.out.1.mach
    rw [h7,hun] at this
    exact this
   have hcall:=H.out.1 w' hM1 HT.out.2.2.1
   clear hun hM1
   go_simp
   refine hcall.mono ?_
   rintro en w'' ⟨rfl,hm2,hmod2⟩
   have hTW2:=HT.out.1.first HT.out.2.2.2 HT.out.2.1 hm2 hmod2
   exact hK.out _ _ ⟨fun _=>HS.out _ hTW2.mod,_,_,_,_,rfl,_,_,hTW2⟩
  ·refine wpOp_loudK rfl rfl (fun K hK=>?_)
   have h3:l.getD 3 false=true:=waitsB_listed (x:=7) (i:=3) (by kernel_rfl) HT.out.2.1
   have hun:=unlisted_of_ready HT.out.2.1
   have hM1:MachIs w' mb N1:=by
    have:=HT.out.1.mach
    rw [h3,hun] at this
    exact this
   have hcall:=H.out.2.1 w' hM1 HT.out.2.2.1
   have H3:=Lib.hid h3
   clear hun hM1 h3
   go_simp
   refine hcall.mono ?_
   rintro en w'' ⟨rfl,hm2,hmod2⟩
   have hTW2:=HT.out.1.second HT.out.2.2.2 HT.out.2.1 H3.out hm2 hmod2
   exact hK.out _ _ ⟨fun _=>HS.out _ hTW2.mod,_,_,_,_,rfl,_,_,hTW2⟩
  ·refine wpOp_loudK rfl rfl (fun K hK=>?_)
   go_simp
   have hTW2:=HT.out.1.make3 HT.out.2.1
   exact hK.out _ _ ⟨fun _=>HS.out _ hTW2.mod,_,_,_,_,rfl,_,_,hTW2⟩
  ·refine wpOp_loudK rfl rfl (fun K hK=>?_)
   go_simp
   have hTW2:=HT.out.1.make4 HT.out.2.1
   exact hK.out _ _ ⟨fun _=>HS.out _ hTW2.mod,_,_,_,_,rfl,_,_,hTW2⟩
 ·rintro v1 v2 v3 v4 w' ⟨g3,g4,hTW⟩
  have hxb:=(hTW.mod.block (w.heap.size+1) (by show _ < W.heap.size; omega) (by omega)).trans H.out.2.2.2.2.2.2
  have hx0:w'.cell? ⟨w.heap.size+1,0,none⟩=some (.iface xt xv):=cell_block hxb
  have hx1:w'.cell? ⟨w.heap.size+1,1,none⟩=some (.iface yt yv):=cell_block hxb
  exact ⟨hx0,hx1⟩
 ·rintro v1 v2 v3 v4 w' ⟨g3,g4,hTW⟩ G HG
  obtain rfl:=hTW.r1 (by decide)
  obtain rfl:=hTW.r2 (by decide)
  obtain ⟨rfl,hg3,hb3⟩:=hTW.b3 (by decide)
  obtain ⟨rfl,hg4,hb4⟩:=hTW.b4 (by decide)
  have hne:=hTW.ne (by decide) (by decide)
  have hMz:=hTW.mach
  rw [if_pos (by decide)] at hMz
  have hmod:=hTW.mod
  have hgs3:W.heap.size≤g3:=hg3
  have hgs4:W.heap.size≤g4:=hg4
  have hxb:=(hmod.block (w.heap.size+1) (by show _ < W.heap.size; omega) (by omega)).trans H.out.2.2.2.2.2.2
  have hrb:=(hmod.block (w.heap.size) (by show _ < W.heap.size; omega) (by omega)).trans H.out.2.2.1
  have hmodw:Mod (fun j=>j=mb) w w':=((below_mod H.out.2.2.2.1).trans (Mod.same (Same.drew W))).trans hmod
  obtain ⟨W3,hW3⟩:∃ W3,W3=set7 w' g3 (.int .u64 p.first.a) (.int .u64 p.first.b) (.int .u64 p.first.c) (.int .u64 p.last.a) (.int .u64 p.last.b) (.int .u64 p.last.c) (.bool p.none):=⟨_,rfl⟩
  have k3:W3.heap[g3]?=some (.cells p.cells.toArray 278 (0,0)):=by rw [hW3]; exact set7_block _ _ _ _ _ _ _ hb3
  have o3:∀ j,j≠g3→W3.heap[j]?=w'.heap[j]?:=fun j hj=>by rw [hW3]; exact set7_other _ _ _ _ _ _ _ _ _ hj
  have m3:Mod (fun j=>j=mb) w W3:=by rw [hW3]; exact set7_mod _ _ _ _ _ _ _ _ _ hmodw (by omega)
  have hb4':=(o3 g4 (Ne.symm hne)).trans hb4
  obtain ⟨W4,hW4⟩:∃ W4,W4=set7 W3 g4 (.int .u64 q.first.a) (.int .u64 q.first.b) (.int .u64 q.first.c) (.int .u64 q.last.a) (.int .u64 q.last.b) (.int .u64 q.last.c) (.bool q.none):=⟨_,rfl⟩
  have k4:W4.heap[g4]?=some (.cells q.cells.toArray 278 (0,0)):=by rw [hW4]; exact set7_block _ _ _ _ _ _ _ hb4'
  have o4:∀ j,j≠g4→W4.heap[j]?=W3.heap[j]?:=fun j hj=>by rw [hW4]; exact set7_other _ _ _ _ _ _ _ _ _ hj
  have m4:Mod (fun j=>j=mb) w W4:=by rw [hW4]; exact set7_mod _ _ _ _ _ _ _ _ _ m3 (by omega)
  have k43:=(o4 g3 hne).trans k3
  have k40:=((o4 w.heap.size (by omega)).trans (o3 w.heap.size (by omega))).trans hrb
  have k4M:MachIs W4 mb N2:=⟨hMz.1,((o4 mb (by omega)).trans (o3 mb (by omega))).trans hMz.2⟩
  have hxb3:=(o3 (w.heap.size+1) (by omega)).trans hxb
  have HA:=Lib.hid (show _∧_∧_∧_∧_∧_ from ⟨k4,k43,k40,k4M,m4,hxb3⟩)
  have HB:=Lib.hid (show _∧_ from ⟨hb3,hb4'⟩)
  have HW3:=Lib.hid (show _∧_ from ⟨hW3,hW4⟩)
  clear hTW hMz hmod hxb hrb hmodw k3 o3 m3 hb4 hb4' k4 o4 m4 k43 k40 k4M hxb3 hc1 hc2 hb3 hW3 hW4
  obtain ⟨d0,d1,d2,d3,d4,d5,d6,f0,f1,f2,f3,f4,f5,f6⟩:=(Cells7.of HB.out.1).all
  obtain ⟨i0,i1,i2,i3,i4,i5,i6,j0,j1,j2,j3,j4,j5,j6⟩:=(Cells7.of HB.out.2).all
  have hx0:W3.cell? ⟨w.heap.size+1,0,none⟩=some (.iface xt xv):=cell_block HA.out.2.2.2.2.2
  have hx1:W3.cell? ⟨w.heap.size+1,1,none⟩=some (.iface yt yv):=cell_block HA.out.2.2.2.2.2
  have HX:=Lib.hid (And.intro hx0 hx1)
  have HY:=Lib.hid (And.intro (Cells7.of HA.out.2.1) (Cells7.of HA.out.1))
  clear hx0 hx1
  have s3:=HW3.out.1
  have s4:=HW3.out.2
  unfold set7 at s3 s4
  have HS:=Lib.hid (And.intro s3 s4)
  clear s3 s4
  refine HG.out ?_
  unfold puts4
  simp only [put_lit,List.set_cons_succ,List.set_cons_zero]
  rw [Part.val_eq p,Part.val_eq q]
  unfold ptrV
  refine wpOrd_loud rfl rfl (by decide) (fun K hK=>?_)
  have HK:=Lib.hid hK
  clear hK
  go_simp
  rw [← HS.out.1]
  refine HK.out _ _ HX.out ?_
  clear HK K
  refine wpOrd_last rfl rfl (fun K hK=>?_)
  have HK:=Lib.hid hK
  clear hK
  go_simp
  rw [← HS.out.2]
  refine HK.out _ _ ?_
  clear HK K d0 d1 d2 d3 d4 d5 d6 f0 f1 f2 f3 f4 f5 f6 i0 i1 i2 i3 i4 i5 i6 j0 j1 j2 j3 j4 j5 j6
  obtain ⟨c3,c4⟩:=HY.out
  obtain ⟨x0,x1,x2,x3,x4,x5,x6,x7⟩:=c3
  obtain ⟨y0,y1,y2,y3,y4,y5,y6,y7⟩:=c4
  clear x7 y7
  have htab4:=HMT.out.2.mod HMT.out.1 HA.out.2.2.2.2.1
  have hlink:=machLink_any mb N2 p.last q.first W4 HO.out.1.part.l ((HO.out.1.ul.mono HO.out.2.2.2).fits HO.out.2.2.1) HO.out.2.1.part.f HA.out.2.2.2.1 htab4
  have HLK:=Lib.hid hlink
  clear hlink htab4
  go_wp2_with fail
  have hlink:=HLK.out
  unfold ptrV PSet.val PSet.cells at hlink
  refine hlink.mono ?_
  clear hlink
  rintro en W5 ⟨rfl,hm5,hmod5⟩
  have hres5:=(hmod5.block _ (lt_of_heap HA.out.2.2.1) (by omega)).trans HA.out.2.2.1
  have h35:=(hmod5.block _ (lt_of_heap HA.out.2.1) (by omega)).trans HA.out.2.1
  have h45:=(hmod5.block _ (lt_of_heap HA.out.1) (by omega)).trans HA.out.1
  have hmodw5:=HA.out.2.2.2.2.1.trans hmod5
  have hltr:=lt_of_heap hres5
  have hlt3:=lt_of_heap h35
  have hlt4:=lt_of_heap h45
  have hltm:=lt_of_heap hm5.2
  obtain ⟨N3,hN3⟩:∃ N3,N3=N2.link p.last.elems q.first:=⟨_,rfl⟩
  rw [← hN3] at hm5
  obtain ⟨c,hc⟩:∃ c:Part,c=⟨p.first,q.last,p.none && q.none⟩:=⟨_,rfl⟩
  have hsa:SeqAt mb w.heap.size W5.heap.size g3 g4 w N3 p q c (W5.alloc (.cells c.cells.toArray 278)) :=
   ⟨(Below.heap_alloc W5 _ _ hltr).trans hres5,heap_alloc_new W5 _,(Below.heap_alloc W5 _ _ hlt3).trans h35,(Below.heap_alloc W5 _ _ hlt4).trans h45,hm5.below ((Below.refl _ W5).alloc (Nat.le_refl _) _),hmodw5.trans (Mod.alloc _ _ _)⟩
  have hwW5:=hmodw5.size
  obtain ⟨x0,x1,x2,x3,x4,x5,x6,x7⟩:=Cells7.of h35
  obtain ⟨y0,y1,y2,y3,y4,y5,y6,y7⟩:=Cells7.of h45
  have HSA:=Lib.hid (show _∧_∧_ from ⟨hsa,hc,hN3⟩)
  have HR5:=Lib.hid hres5
  clear x7 y7 hsa hc hN3 hm5 hmodw5 hmod5 hres5 h35 h45 HLK HY HX
  cases hpn:p.none <;> cases hqn:q.none
  ·-- False False
   rw [hpn] at x6
   rw [hqn] at y6
   have hs0:=HSA.out.1
   rw [HSA.out.2.1,hpn,hqn] at hs0
   simp only [Bool.and_true,Bool.and_false,Bool.true_and,Bool.false_and] at hs0
   have hps:p.seq q=⟨p.first,q.last,false⟩:=by unfold Part.seq; rw [hpn,hqn]; rfl
   have HPS:=Lib.hid hps
   clear hps
   obtain ⟨W9,hW9,hfin⟩:=part_out ⟨p.first,q.last,false⟩ hs0.res hs0.mach hs0.mod (Nat.le_refl _) hmb
   obtain ⟨l0,l1,l2,l3,l4,l5,l6,n0,n1,n2,n3,n4,n5,n6⟩:=(Cells7.of hs0.res).all
   unfold set7 at hW9
   obtain ⟨v0,v1,v2,v3,v4,v5,v6,vf⟩:=Cells7.of hs0.k4
   obtain ⟨u0,u1,u2,u3,u4,u5,u6,uf⟩:=Cells7.of hs0.k3
   rw [hpn,Part.cells_eq] at u6
   rw [hqn,Part.cells_eq] at v6
   clear vf uf v0 v1 v2 v3 v4 v5 u0 u1 u2 u3 u4 u5 hltr hlt3 hlt4 hltm
   rw [Part.cells_eq] at hW9 l0 l1 l2 l3 l4 l5 l6 n0 n1 n2 n3 n4 n5 n6
   have HF:=Lib.hid hfin
   have HW9:=Lib.hid hW9
   clear hs0 hfin hW9
   go_wp2_with fail
   rw [← HW9.out]
   refine bodyPost_ret (results_cell_row rfl _ _ w.heap.size _ _ (0,0) _ rfl HF.out.1 Tryz.underlying278 rfl (by kernel_rfl)) rfl ?_
   rw [HV.out,HPS.out,← HSA.out.2.2]
   exact ⟨rfl,HF.out.2⟩
  ·-- False True
   rw [hpn] at x6
   rw [hqn] at y6
   have hs0:=HSA.out.1
   rw [HSA.out.2.1,hpn,hqn] at hs0
   simp only [Bool.and_true,Bool.and_false,Bool.true_and,Bool.false_and] at hs0
   have hps:p.seq q=⟨p.first,q.last.or p.last,false⟩:=by unfold Part.seq; rw [hpn,hqn]; rfl
   have HPS:=Lib.hid hps
   clear hps
   have H0:=Lib.hid hs0
   clear hs0
   obtain ⟨v0,v1,v2,v3,v4,v5,v6,vf⟩:=Cells7.of H0.out.k4
   obtain ⟨u0,u1,u2,u3,u4,u5,u6,uf⟩:=Cells7.of H0.out.k3
   obtain ⟨o0,o1,o2,o3,o4,o5,o6,of'⟩:=Cells7.of H0.out.own
   rw [hqn] at v6
   rw [Part.cells_eq] at v3 v4 v5 v6 u3 u4 u5 o3 o4 o5
   clear vf uf of'
   go_wp2_with fail
   have hcall:=fun W'=>setOr_any q.last p.last W' HO.out.2.1.part.l HO.out.1.part.l
   unfold PSet.val PSet.cells at hcall
   refine (hcall _).mono ?_
   clear hcall
   rintro en W8 ⟨rfl,hb8⟩
   have hs8:=H0.out.below (by rw [Part.cells_eq]; exact hb8)
   have hs9:=hs8.last (by omega) (by omega) (by omega) (by omega) (by omega) (q.last.or p.last)
   obtain ⟨m0,m1,m2,m3,m4,m5,m6,mf0,mf1,mf2,mf3,mf4,mf5,mf6⟩:=(Cells7.of hs8.own).all
   obtain ⟨W9,hW9,hfin⟩:=part_out ⟨p.first,q.last.or p.last,false⟩ hs9.res hs9.mach hs9.mod (Nat.le_refl _) hmb
   obtain ⟨l0,l1,l2,l3,l4,l5,l6,n0,n1,n2,n3,n4,n5,n6⟩:=(Cells7.of hs9.res).all
   unfold set7 at hW9
   have HF:=Lib.hid hfin
   have HW9:=Lib.hid hW9
   clear hs8 hs9 hfin hW9 hb8
   go_wp2_with fail
   rw [← HW9.out]
   refine bodyPost_ret (results_cell_row rfl _ _ w.heap.size _ _ (0,0) _ rfl HF.out.1 Tryz.underlying278 rfl (by kernel_rfl)) rfl ?_
   rw [HV.out,HPS.out,← HSA.out.2.2]
   exact ⟨rfl,HF.out.2⟩
  ·-- True False
   rw [hpn] at x6
   rw [hqn] at y6
   have hs0:=HSA.out.1
   rw [HSA.out.2.1,hpn,hqn] at hs0
   simp only [Bool.and_true,Bool.and_false,Bool.true_and,Bool.false_and] at hs0
   have hps:p.seq q=⟨p.first.or q.first,q.last,false⟩:=by unfold Part.seq; rw [hpn,hqn]; rfl
   have HPS:=Lib.hid hps
   clear hps
   have H0:=Lib.hid hs0
   clear hs0
   go_wp2_with fail
   have hcall:=fun W'=>setOr_any p.first q.first W' HO.out.1.part.f HO.out.2.1.part.f
   unfold PSet.val PSet.cells at hcall
   refine (hcall _).mono ?_
   clear hcall
   rintro en W6 ⟨rfl,hb6⟩
   have hs6:=H0.out.below (by rw [Part.cells_eq]; exact hb6)
   have hs7:=hs6.first (by omega) (by omega) (by omega) (by omega) (by omega) (p.first.or q.first)
   obtain ⟨o0,o1,o2,o3,o4,o5,o6,of0,of1,of2,of3,of4,of5,of6⟩:=(Cells7.of hs6.own).all
   obtain ⟨v0,v1,v2,v3,v4,v5,v6,vf⟩:=Cells7.of hs7.k4
   obtain ⟨u0,u1,u2,u3,u4,u5,u6,uf⟩:=Cells7.of hs7.k3
   rw [hqn] at v6
   clear vf uf
   obtain ⟨W9,hW9,hfin⟩:=part_out ⟨p.first.or q.first,q.last,false⟩ hs7.res hs7.mach hs7.mod (Nat.le_refl _) hmb
   obtain ⟨l0,l1,l2,l3,l4,l5,l6,n0,n1,n2,n3,n4,n5,n6⟩:=(Cells7.of hs7.res).all
   unfold set7 at hW9
   have HF:=Lib.hid hfin
   have HW9:=Lib.hid hW9
   clear hs6 hs7 hfin hW9 hb6
   go_wp2_with fail
   rw [← HW9.out]
   refine bodyPost_ret (results_cell_row rfl _ _ w.heap.size _ _ (0,0) _ rfl HF.out.1 Tryz.underlying278 rfl (by kernel_rfl)) rfl ?_
   rw [HV.out,HPS.out,← HSA.out.2.2]
   exact ⟨rfl,HF.out.2⟩
  ·-- True True
   rw [hpn] at x6
   rw [hqn] at y6
   have hs0:=HSA.out.1
   rw [HSA.out.2.1,hpn,hqn] at hs0
   simp only [Bool.and_true,Bool.and_false,Bool.true_and,Bool.false_and] at hs0
   have hps:p.seq q=⟨p.first.or q.first,q.last.or p.last,true⟩:=by unfold Part.seq; rw [hpn,hqn]; rfl
   have HPS:=Lib.hid hps
   clear hps
   have H0:=Lib.hid hs0
   clear hs0
   go_wp2_with fail
   have hcall:=fun W'=>setOr_any p.first q.first W' HO.out.1.part.f HO.out.2.1.part.f
   unfold PSet.val PSet.cells at hcall
   refine (hcall _).mono ?_
   clear hcall
   rintro en W6 ⟨rfl,hb6⟩
   have hs6:=H0.out.below (by rw [Part.cells_eq]; exact hb6)
   have hs7:=hs6.first (by omega) (by omega) (by omega) (by omega) (by omega) (p.first.or q.first)
   obtain ⟨o0,o1,o2,o3,o4,o5,o6,of0,of1,of2,of3,of4,of5,of6⟩:=(Cells7.of hs6.own).all
   obtain ⟨v0,v1,v2,v3,v4,v5,v6,vf⟩:=Cells7.of hs7.k4
   obtain ⟨u0,u1,u2,u3,u4,u5,u6,uf⟩:=Cells7.of hs7.k3
   rw [hqn] at v6
   clear vf uf
   have H7:=Lib.hid hs7
   clear hs6 hs7 hb6
   go_wp2_with fail
   have hcall:=fun W'=>setOr_any q.last p.last W' HO.out.2.1.part.l HO.out.1.part.l
   unfold PSet.val PSet.cells at hcall
   refine (hcall _).mono ?_
   clear hcall
   rintro en W8 ⟨rfl,hb8⟩
   have hs8:=H7.out.below hb8
   have hs9:=hs8.last (by omega) (by omega) (by omega) (by omega) (by omega) (q.last.or p.last)
   obtain ⟨m0,m1,m2,m3,m4,m5,m6,mf0,mf1,mf2,mf3,mf4,mf5,mf6⟩:=(Cells7.of hs8.own).all
   obtain ⟨W9,hW9,hfin⟩:=part_out ⟨p.first.or q.first,q.last.or p.last,true⟩ hs9.res hs9.mach hs9.mod (Nat.le_refl _) hmb
   obtain ⟨l0,l1,l2,l3,l4,l5,l6,n0,n1,n2,n3,n4,n5,n6⟩:=(Cells7.of hs9.res).all
   unfold set7 at hW9
   have HF:=Lib.hid hfin
   have HW9:=Lib.hid hW9
   clear hs8 hs9 hfin hW9 hb8
   go_wp2_with fail
   rw [← HW9.out]
   refine bodyPost_ret (results_cell_row rfl _ _ w.heap.size _ _ (0,0) _ rfl HF.out.1 Tryz.underlying278 rfl (by kernel_rfl)) rfl ?_
   rw [HV.out,HPS.out,← HSA.out.2.2]
   exact ⟨rfl,HF.out.2⟩
end Go.Proofs.Ts
namespace Go.Proofs.Ts
open Go Go.RowKit
theorem part_any (e:Ast) (he:e.ok):PartGives e:=by
 induction e with
 | empty=>exact part_empty
 | huge=>exact part_huge
 | one s=>exact part_one s he
 | seq a b iha ihb=>exact part_seq a b (iha he.1) (ihb he.2)
 | or a b iha ihb=>exact part_or a b (iha he.1) (ihb he.2)
 | many a sm ih=>exact part_many a sm (ih he)
 | maybe a ih=>exact part_maybe a (ih he)
end Go.Proofs.Ts
namespace Go.Proofs.Ts
open Go Go.RowKit
def PM.zero:PM:=⟨List.replicate 256 PSet.zero,List.replicate 129 PSet.zero,PSet.zero,0⟩
theorem PM.ok_zero:PM.zero.ok where
 la:=List.length_replicate
 lf:=List.length_replicate
 oa:=fun s hs=>by
  have h:=List.eq_of_mem_replicate (show s∈List.replicate 256 PSet.zero from hs)
  rw [h]; exact PSet.ok_zero
 of':=fun s hs=>by
  have h:=List.eq_of_mem_replicate (show s∈List.replicate 129 PSet.zero from hs)
  rw [h]; exact PSet.ok_zero
 ol:=PSet.ok_zero
def PM.setLast (M:PM) (s:PSet):PM:={ M with last:=s }
def PM.compile (e:Ast):PM:=((PM.part e .zero).1.putFollow 128 (PM.part e .zero).2.first).setLast (if (PM.part e .zero).2.none then (PM.part e .zero).2.last.on 128 else (PM.part e .zero).2.last)
theorem zero_cells:Tryz.zeroCells276=PM.zero.cells.toArray:=by kernel_rfl
theorem PM.ok_setLast {M:PM} (h:M.ok) {s:PSet} (hs:s.ok):(M.setLast s).ok:=⟨h.la,h.lf,h.oa,h.of',hs⟩
theorem PM.setLast_one {M:PM} (h:M.ok) (i:Nat) (hi:i < 3) (v:Nat):M.cells.toArray.setIfInBounds (1155+i) (.int .u64 v)=(M.setLast (M.last.setw i v)).cells.toArray:=by
 simp only [List.setIfInBounds_toArray]
 congr 1
 have h1:=setCells_len M.at'
 have h2:=setCells_len M.follow
 have h3:=h.la
 have h4:=h.lf
 have h5:M.last.cells.length=3:=rfl
 have h6:=PSet.setw_cells M.last hi v
 simp only [List.setIfInBounds_toArray] at h6
 unfold PM.cells PM.setLast
 simp only
 rw [List.set_append_right _ _ (by omega),List.set_append_right _ _ (by omega),List.set_append_left _ _ (by omega),show 1155+i - (setCells M.at').length - (setCells M.follow).length=i by omega]
 have h7:=congrArg Array.toList h6
 simp only at h7
 rw [h7]
theorem PM.setLast_cells {M:PM} (h:M.ok) {s:PSet} :
  ((M.cells.toArray.setIfInBounds 1155 (.int .u64 s.a)).setIfInBounds (1155+1) (.int .u64 s.b)).setIfInBounds (1155+2) (.int .u64 s.c)=(M.setLast s).cells.toArray:=by
 have hx:∀ (N:PM) i v,(N.setLast (N.last.setw i v)).last=N.last.setw i v:=fun _ _ _=>rfl
 simp only [List.setIfInBounds_toArray]
 congr 1
 have h1:=setCells_len M.at'
 have h2:=setCells_len M.follow
 have h3:=h.la
 have h4:=h.lf
 have h5:M.last.cells.length=3:=rfl
 unfold PM.cells PM.setLast
 simp only
 rw [List.set_append_right _ _ (by omega),List.set_append_right _ _ (by omega),List.set_append_right _ _ (by omega),List.set_append_right _ _ (by omega),List.set_append_right _ _ (by omega),List.set_append_right _ _ (by omega),
  show 1155 - (setCells M.at').length - (setCells M.follow).length=0 by omega,show 1155+1 - (setCells M.at').length - (setCells M.follow).length=1 by omega,show 1155+2 - (setCells M.at').length - (setCells M.follow).length=2 by omega]
 rfl
theorem machOnLast_any (mb k:Nat) (M:PM) (w:World) (hM:MachIs w mb M) (hk:k < 192) :
  Calls Tryz.prog 126 #[.pointer (some ⟨mb,1155,none⟩),.int .i64 k] w fun e w'=>e = .returned (.tuple #[])∧MachIs w' mb (M.setLast (M.last.on k))∧Mod (fun j=>j=mb) w w':=by
 refine (setOn_any mb 1155 k M.last w hM.1.ol hk hM.lastC).mono ?_
 rintro e w' ⟨rfl,hS⟩
 refine ⟨rfl,⟨PM.ok_setLast hM.1 (PSet.ok_on hM.1.ol k),?_⟩,Mod.trans (Mod.setCell (S:=fun j=>j=mb) w ⟨mb,_,none⟩ _ fun _=>rfl) (Mod.same hS)⟩
 rw [hS.heap,heap_setCell_same w mb (1155+k / 64) _ _ _ hM.2,PM.setLast_one hM.1 (k / 64) (by omega)]
 rfl
set_option maxRecDepth 100000 in
set_option maxHeartbeats 4000000 in
theorem compileP_any (e:Ast) (he:e.ok) (hn:e.count≤128) (w:World) (hT:BitTab w) :
  Calls Tryz.prog 87 #[e.val] w fun en w'=>en = .returned (ptrV w.heap.size)∧MachIs w' w.heap.size (PM.compile e)∧Below w.heap.size w w':=by
 obtain ⟨W,hW⟩:∃ W,W=w.alloc (.cells Tryz.zeroCells276 276):=⟨_,rfl⟩
 have hb:Below w.heap.size w W:=by rw [hW]; exact (Below.refl _ w).alloc (Nat.le_refl _) _
 have hM0:MachIs W w.heap.size PM.zero:=⟨PM.ok_zero,by rw [hW,← zero_cells]; exact heap_alloc_new w _⟩
 have hcall:=part_any e he w.heap.size PM.zero W hM0 (hT.below hb) (by show 0+e.count≤128; omega)
 have hok:=part_ok e PM.zero PM.ok_zero (by show 0+e.count≤128; omega)
 obtain ⟨M,hM⟩:∃ M,M=(PM.part e .zero).1:=⟨_,rfl⟩
 obtain ⟨p,hp⟩:∃ p,p=(PM.part e .zero).2:=⟨_,rfl⟩
 have hcp:PM.compile e=(M.putFollow 128 p.first).setLast (if p.none then p.last.on 128 else p.last):=by rw [hM,hp]; rfl
 rw [← hM,← hp] at hcall hok
 obtain ⟨R,hR⟩:∃ R,R=PM.compile e:=⟨_,rfl⟩
 rw [← hR]
 rw [← hR] at hcp
 have H:=Lib.hid (show _∧_∧_∧_ from ⟨hcall,hok,hcp,hb⟩)
 have HW:=Lib.hid hW
 have hsz:W.heap.size=w.heap.size+1:=by rw [hW]; simp
 clear hT hb hM0 hcall hok hcp hM hp hR hW
 go_enter Tryz.func87,Tryz.ntmps87
 go_wp2_with fail
 rw [← HW.out]
 refine H.out.1.mono ?_
 rintro en w1 ⟨rfl,hm1,hmod1⟩
 rw [Part.val_eq p]
 have hsz1:=hmod1.size
 obtain ⟨W1,hW1⟩:∃ W1,W1=w1.alloc (.cells p.cells.toArray 278):=⟨_,rfl⟩
 have hp1:W1.heap[w1.heap.size]?=some (.cells p.cells.toArray 278 (0,0)):=by rw [hW1]; exact heap_alloc_new w1 _
 have hb1:Below w1.heap.size w1 W1:=by rw [hW1]; exact (Below.refl _ w1).alloc (Nat.le_refl _) _
 have hm2:=hm1.below hb1
 have hmod2:Below w.heap.size w W1:=by
  have h1:Below w.heap.size W w1:=hmod1.toBelow (by omega) (fun k e=>by omega)
  exact (H.out.2.2.2.trans h1).trans (hb1.mono (by omega))
 obtain ⟨x0,x1,x2,x3,x4,x5,x6,x7⟩:=Cells7.of hp1
 have HX:=Lib.hid (show _∧_∧_ from ⟨hp1,hm2,hmod2⟩)
 have HW1:=Lib.hid hW1
 rw [Part.cells_eq] at HW1
 clear hp1 hb1 hm1 hmod1 hm2 hmod2 x7 hW1
 go_wp2_with fail
 rw [← HW1.out]
 have f0:W1.frozen? ⟨w.heap.size,1152,none⟩=false:=HX.out.2.1.free _
 have f1:W1.frozen? ⟨w.heap.size,1152+1,none⟩=false:=HX.out.2.1.free _
 have f2:W1.frozen? ⟨w.heap.size,1152+2,none⟩=false:=HX.out.2.1.free _
 have hfol:=HX.out.2.1.followC (k:=128) (s:=M.follow.getD 128 PSet.zero) (by
  rw [List.getD_eq_getElem?_getD]
  have hl:128 < M.follow.length:=by rw [HX.out.2.1.1.lf]; decide
  rw [List.getElem?_eq_getElem hl]
  rfl)
 have c0:=(hfol 0 (by decide)).1
 have c1:=(hfol 1 (by decide)).1
 have c2:=(hfol 2 (by decide)).1
 simp only [Nat.reduceMul,Nat.reduceAdd] at c0 c1 c2 f1 f2
 obtain ⟨W2,hW2⟩:∃ W2,W2=(((W1.setCell ⟨w.heap.size,1152,none⟩ (.int .u64 p.first.a)).setCell ⟨w.heap.size,1153,none⟩ (.int .u64 p.first.b)).setCell ⟨w.heap.size,1154,none⟩ (.int .u64 p.first.c)).drew:=⟨_,rfl⟩
 have o2:∀ j,j≠w.heap.size→W2.heap[j]?=W1.heap[j]?:=fun j hj=>by
  rw [hW2]
  show (((W1.setCell ⟨w.heap.size,1152,none⟩ (.int .u64 p.first.a)).setCell ⟨w.heap.size,1153,none⟩ (.int .u64 p.first.b)).setCell ⟨w.heap.size,1154,none⟩ (.int .u64 p.first.c)).heap[j]?=_
  rw [Below.heap_setCell _ ⟨w.heap.size,1154,none⟩ _ j hj,Below.heap_setCell _ ⟨w.heap.size,1153,none⟩ _ j hj,Below.heap_setCell _ ⟨w.heap.size,1152,none⟩ _ j hj]
 have k2:W2.heap[w.heap.size]?=some (.cells (M.putFollow 128 p.first).cells.toArray 276 (0,0)):=by
  rw [hW2]
  have k1:=heap_setCell_same W1 w.heap.size 1152 _ _ (.int .u64 p.first.a) HX.out.2.1.2
  have k2:=heap_setCell_same _ w.heap.size 1153 _ _ (.int .u64 p.first.b) k1
  have k3:=heap_setCell_same _ w.heap.size 1154 _ _ (.int .u64 p.first.c) k2
  rw [← PM.putFollow_cells HX.out.2.1.1 (show 128 < 129 by decide)]
  exact k3
 have hb2:Below w.heap.size w W2:=by
  rw [hW2]
  exact (((HX.out.2.2.setCell (p:=⟨_,1152,none⟩) (Nat.le_refl _) _).setCell (p:=⟨_,1153,none⟩) (Nat.le_refl _) _).setCell (p:=⟨_,1154,none⟩) (Nat.le_refl _) _).trans (Same.drew _ |>.below _)
 have hM2:MachIs W2 w.heap.size (M.putFollow 128 p.first):=⟨PM.ok_putFollow HX.out.2.1.1 _ H.out.2.1.part.f,k2⟩
 have hp2:=(o2 w1.heap.size (by omega)).trans HX.out.1
 have H2:=Lib.hid (show _∧_∧_ from ⟨hb2,hM2,hp2⟩)
 have HW2:=Lib.hid hW2
 clear hfol hW2 o2 k2 hb2 hM2 hp2
 refine wp_region_ordT [(0,false),(1,false),(2,false),(3,false),(4,false),(5,false),(6,true)] 6
  (fun W'=>W'.cell? ⟨w1.heap.size,0,none⟩=some (.int .u64 p.first.a)∧W'.cell? ⟨w1.heap.size,1,none⟩=some (.int .u64 p.first.b)∧W'.cell? ⟨w1.heap.size,2,none⟩=some (.int .u64 p.first.c)) (by kernel_rfl) (by kernel_rfl) ⟨x0,x1,x2⟩ ?_
 iterate 6 (
  refine wpOrd_quiet ?_ rfl rfl (fun w' hS=>?_) ?_
  rotate_left
  ·obtain ⟨q0,q1,q2⟩:=hS
   go_simp
   first | rfl | done
  simp only [put_lit,List.set_cons_succ,List.set_cons_zero])
 refine wpOrd_last rfl rfl (fun K hK=>?_)
 have HK:=Lib.hid hK
 clear hK
 go_simp
 rw [← HW2.out]
 refine HK.out _ _ ?_
 clear HK K c0 c1 c2 f0 f1 f2
 obtain ⟨x0,x1,x2,x3,x4,x5,x6,x7⟩:=Cells7.of H2.out.2.2
 have g0:W2.frozen? ⟨w.heap.size,1155,none⟩=false:=H2.out.2.1.free _
 have g1:W2.frozen? ⟨w.heap.size,1155+1,none⟩=false:=H2.out.2.1.free _
 have g2:W2.frozen? ⟨w.heap.size,1155+2,none⟩=false:=H2.out.2.1.free _
 have hla:=H2.out.2.1.lastC
 have c0:=(hla 0 (by decide)).1
 have c1:=(hla 1 (by decide)).1
 have c2:=(hla 2 (by decide)).1
 simp only [Nat.add_zero] at c0 c1 c2
 obtain ⟨W3,hW3⟩:∃ W3,W3=((W2.setCell ⟨w.heap.size,1155,none⟩ (.int .u64 p.last.a)).setCell ⟨w.heap.size,1155+1,none⟩ (.int .u64 p.last.b)).setCell ⟨w.heap.size,1155+2,none⟩ (.int .u64 p.last.c):=⟨_,rfl⟩
 have k3:W3.heap[w.heap.size]?=some (.cells ((M.putFollow 128 p.first).setLast p.last).cells.toArray 276 (0,0)):=by
  rw [hW3]
  have k1:=heap_setCell_same W2 w.heap.size 1155 _ _ (.int .u64 p.last.a) H2.out.2.1.2
  have k2:=heap_setCell_same _ w.heap.size (1155+1) _ _ (.int .u64 p.last.b) k1
  have k3:=heap_setCell_same _ w.heap.size (1155+2) _ _ (.int .u64 p.last.c) k2
  rw [PM.setLast_cells H2.out.2.1.1] at k3
  exact k3
 have hb3:Below w.heap.size w W3:=by
  rw [hW3]
  exact ((H2.out.1.setCell (p:=⟨_,1155,none⟩) (Nat.le_refl _) _).setCell (p:=⟨_,1155+1,none⟩) (Nat.le_refl _) _).setCell (p:=⟨_,1155+2,none⟩) (Nat.le_refl _) _
 have hM3:MachIs W3 w.heap.size ((M.putFollow 128 p.first).setLast p.last):=⟨PM.ok_setLast H2.out.2.1.1 H.out.2.1.part.l,k3⟩
 have hp3:W3.heap[w1.heap.size]?=some (.cells p.cells.toArray 278 (0,0)):=by
  have hne:w1.heap.size≠w.heap.size:=by omega
  rw [hW3,Below.heap_setCell _ ⟨w.heap.size,1155+2,none⟩ _ _ hne,Below.heap_setCell _ ⟨w.heap.size,1155+1,none⟩ _ _ hne,Below.heap_setCell _ ⟨w.heap.size,1155,none⟩ _ _ hne]
  exact H2.out.2.2
 obtain ⟨y0,y1,y2,y3,y4,y5,y6,y7⟩:=Cells7.of hp3
 rw [hW3] at y6
 have H3:=Lib.hid (show _∧_ from ⟨hb3,hM3⟩)
 have HW3:=Lib.hid hW3
 clear hla k3 hb3 hM3 hp3 hW3 y0 y1 y2 y3 y4 y5 y7 x7
 cases hpn:p.none
 all_goals
  rw [hpn] at y6 x6
  go_wp2_with fail
 ·rw [← HW3.out]
  go_ret
  refine ⟨rfl,?_,H3.out.1⟩
  have:=H.out.2.2.1
  rw [hpn] at this
  rw [this]
  exact H3.out.2
 ·have hcall:=machOnLast_any w.heap.size 128 ((M.putFollow 128 p.first).setLast p.last) W3 H3.out.2 (by decide)
  rw [HW3.out] at hcall
  refine hcall.mono ?_
  clear hcall
  rintro en w4 ⟨rfl,hm4,hmod4⟩
  rw [← HW3.out] at hmod4
  have hfin:Below w.heap.size w w4:=H3.out.1.trans (hmod4.toBelow H3.out.1.size (fun k e=>by omega))
  have HF:=Lib.hid (show _∧_ from ⟨hm4,hfin⟩)
  clear hm4 hmod4 hfin y6 x6
  go_wp2_with fail
  go_ret
  refine ⟨rfl,?_,HF.out.2⟩
  have:=H.out.2.2.1
  rw [hpn] at this
  rw [this]
  exact HF.out.1
end Go.Proofs.Ts
