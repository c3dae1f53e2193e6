/- Lemmas towards the statement Written of termsearch: walks of the program's functions and plain laws on lists (TlBytes, TlMeetR, TlMeetW, TlMeetD, TlRefB, TlSegB, TlRefC, TlWrit, TlWritP, TlStepB). Conditions: those that each theorem names. -/
import Derived.Test.YtffjomnnkilhgaaGreatDoorWrittenPA
import Derived.Test.YtffjomnnkilhgaaGreatDoorWrittenPH
import Derived.Test.YtffjomnnkilhgaaGreatDoorWrittenPE
import Derived.Deep.DeepMust
import Derived.Test.YtffjomnnkilhgaaGreatDoorWrittenPG
import Derived.ArgAppend
import Derived.Lib.SlBytesConst
set_option linter.unusedVariables false
set_option linter.unusedSimpArgs false
set_option linter.unusedSectionVars false
namespace Go.Proofs.Tl
open Go Go.RowKit Go.Proofs.Ts
def Rest (E:TypeId) (w w':World):Prop:=∀ (k:Nat) cs T r,T≠E→w.heap[k]?=some (.cells cs T r)→w'.heap[k]?=some (.cells cs T r)
theorem Rest.refl (E:TypeId) (w:World):Rest E w w:=fun _ _ _ _ _ h=>h
theorem Rest.trans {E:TypeId} {a b c:World} (h:Rest E a b) (k:Rest E b c):Rest E a c:=fun j cs T r hT hj=>k j cs T r hT (h j cs T r hT hj)
theorem Rest.below {E:TypeId} {w w':World} (h:Below w.heap.size w w'):Rest E w w':=fun k _ _ _ _ h1=>(h.block k (lt_of_heap h1)).trans h1
theorem Rest.moves {E:TypeId} {size n:Nat} {v v':Value} {xs:List Value} {w w':World} (hv:w.ownsRow 0 E size v n xs) (h:Moves w v w' v'):Rest E w w' :=
 fun k _ _ _ hT h1=>(h.block (lt_of_heap h1) fun e=>by
  obtain ⟨cur,hc⟩:=ownsRow_cells hv e
  rw [hc] at h1
  cases h1
  exact hT rfl).trans h1
theorem vbytes_V (n:Nat) (hn:n < 1000000):(vbytes n).map byteV=(vint n).map Ts.byteV:=by
 unfold vbytes
 rw [List.map_map]
 refine List.map_congr_left fun b hb=>?_
 show Value.int .u8 ((UInt8.ofNat b).toNat:Int) = .int .u8 (b:Int)
 rw [ofNat_lt (vint_lt hn b hb)]
theorem vint_pos (n:Nat):0 < (vint n).length:=by
 rcases Nat.lt_or_ge n 128 with h | h
 ·rw [vint_small h]; simp
 ·rw [vint_big h]; simp
theorem putB {w0 w:World} {v:Value} {L:List UInt8} (n:Nat) (hn:n < 1000000) (hl:L.length≤7000000) (h:ByteRow w0 w v L) :
  Calls Tryz.prog 79 #[v,iV n] w fun e w'=>∃ v',e = .returned v'∧ByteRow w0 w' v' (L++vbytes n)∧Rest 5 w w'∧Moves w v w' v':=by
 refine (put_any v _ _ n w hn (by omega) h.row).mono ?_
 rintro e w' ⟨v',rfl,hr,hm⟩
 have hp:=vint_pos n
 have hlen:(L++vbytes n).length=L.length+(vint n).length:=by simp [vbytes]
 refine ⟨v',rfl,?_,Rest.moves h.row hm,hm⟩
 unfold ByteRow
 rw [hlen,List.map_append,vbytes_V n hn]
 exact h.moves hm hr (by omega)
theorem app_of {w0 W W':World} {v v':Value} {L:List UInt8} {c:UInt8} (h:ByteRow w0 W v L) (hr:W'.ownsRow 0 5 1 v' (L.length+1) (L.map byteV++[byteV c])) (hg:(W.alloc (.cells #[byteV c] 5)).grownBy W' v.ownBlock) (hl:Lies (W.alloc (.cells #[byteV c] 5)) W' v v') :
  ByteRow w0 W' v' (L++[c])∧Rest 5 W W'∧Moves W v W' v':=by
 have hm:=(Moves.alloc W v (.cells #[byteV c] 5)).trans (Moves.append hg hl)
 refine ⟨?_,Rest.moves h.row hm,hm⟩
 unfold ByteRow
 rw [List.length_append,List.map_append]
 exact h.moves hm hr (by simp)
theorem wp_appB {o:Oper} {a:Act} {K:Act→World→Prop} {Q:Exit→Act→World→Prop} (s x:Operand) (ho:o.op = .call { callee := .builtin .append,args:=#[s,x],argTypes:=#[42,42] })
  {w0 W:World} {v:Value} {L:List UInt8} (h:ByteRow w0 W v L) (hl:L.length≤7000000) (c:UInt8) (u:Value) (hu:byteV c=u) (hs:a.eval s=v) (hx:a.eval x=sL W.heap.size 1 1)
  (hK:∀ v' W',ByteRow w0 W' v' (L++[c])∧Rest 5 W W'∧Moves W v W' v'→K (a.put o.dst v') W'):o.wp Tryz.prog a (W.alloc (.cells #[u] 5)) K Q:=by
 subst hu
 obtain ⟨i0,hi,hz0,hz1,hz2⟩:=info_parts Tryz.tsInfo5
 exact wp_append_lies _ _ 42 ho 5 i0 (.int .u8 0) 1 1 Tryz.underlying42 hi hz0 hz1 hz2 rfl (by decide) _ _ _ hs (h.row.alloc _) (aD W.heap.size 0) 1 1 [byteV c] hx rfl (cell_one_new W _ _) (by simp [Value.oneCell',byteV]) (by decide) (by unfold maxLen; omega) (by omega)
  fun v' w' hr hg hl=>hK v' w' (app_of h hr hg hl)
theorem wpList_appB {ops:Array Oper} {rest:List Oper} {o:Oper} {a:Act} {Q:Exit→Act→World→Prop} (hgd:o.guard=none) (s x:Operand) (ho:o.op = .call { callee := .builtin .append,args:=#[s,x],argTypes:=#[42,42] })
  {w0 W:World} {v:Value} {L:List UInt8} (h:ByteRow w0 W v L) (hl:L.length≤7000000) (c:UInt8) (u:Value) (hu:byteV c=u) (hs:a.eval s=v) (hx:a.eval x=sL W.heap.size 1 1)
  (hK:∀ v' W',ByteRow w0 W' v' (L++[c])∧Rest 5 W W'∧Moves W v W' v'→wpList Tryz.prog ops Q rest (a.put o.dst v') W'):wpList Tryz.prog ops Q (o :: rest) a (W.alloc (.cells #[u] 5)):=by
 subst hu
 obtain ⟨i0,hi,hz0,hz1,hz2⟩:=info_parts Tryz.tsInfo5
 exact wpList_append_lies hgd _ _ 42 ho 5 i0 (.int .u8 0) 1 1 Tryz.underlying42 hi hz0 hz1 hz2 rfl (by decide) _ _ _ hs (h.row.alloc _) (aD W.heap.size 0) 1 1 [byteV c] hx rfl (cell_one_new W _ _) (by simp [Value.oneCell',byteV]) (by decide) (by unfold maxLen; omega) (by omega)
  fun v' w' hr hg hl=>hK v' w' (app_of h hr hg hl)
def edgesB (es:List (UInt8 × Nat)):List UInt8:=es.flatMap fun e=>e.1 :: vbytes e.2
def stateB (s:DS):List UInt8:=(if s.final then 1 else 0) :: (vbytes s.edges.length++edgesB s.edges)
def statesB (D:List DS):List UInt8:=vbytes D.length++D.flatMap stateB
theorem flat_take {α:Type} (f:α→List UInt8) (l:List α) {i:Nat} {x:α} (h:l[i]?=some x):(l.take (i+1)).flatMap f=(l.take i).flatMap f++f x:=by
 obtain ⟨hi,rfl⟩:=List.getElem?_eq_some_iff.1 h
 rw [List.take_succ_eq_append_getElem hi,List.flatMap_append]
 simp
theorem flat_le {α:Type} (f:α→List UInt8) (l:List α) {i:Nat}:((l.take i).flatMap f).length≤(l.flatMap f).length:=by
 conv=>rhs; rw [← List.take_append_drop i l]
 rw [List.flatMap_append,List.length_append]
 omega
set_option maxRecDepth 100000 in
set_option maxHeartbeats 8000000 in
theorem dput_law (db:Nat) (V:Value) (D:List DS) (w0 w:World) (bv:Value) (L:List UInt8) (hd:w0.heap[db]?=some (.cells #[V] 172 (0,0))) (hr:Ts.RowsIn 0 w0 V D)
  (hD:D.length < 1000000) (hto:∀ s∈D,s.edges.length < 1000000 ∧ ∀ e∈s.edges,e.2 < 1000000) (hsz:(L++statesB D).length≤6000000) (h:ByteRow w0 w bv L) :
  Calls Tryz.prog 80 #[ptrV db,bv] w fun e w'=>∃ v',e = .returned v'∧ByteRow w0 w' v' (L++statesB D):=by
 obtain ⟨va,vc,rfl⟩:=ownsRow_form hr.row
 have hcell:∀ W,Below w0.heap.size w0 W→W.cell? (aD db 0)=some (.slice va D.length vc):=fun W hb=>cell_block ((hb.block _ (lt_of_heap hd)).trans hd)
 have d0:=hcell w h.below
 have hl0:L.length+(vbytes D.length).length+(D.flatMap stateB).length≤6000000:=by
  have:=hsz
  unfold statesB at this
  simp only [List.length_append] at this
  omega
 have HC:=Lib.hid hcell
 have H:=Lib.hid (And.intro hr hto)
 have HB:=Lib.hid h
 clear hcell hd hr hto hsz h
 unfold ptrV
 go_enter Tryz.func80,Tryz.ntmps80
 go_wp2_with (go_at_call 79; refine (putB D.length (by omega) (by omega) HB).mono ?_; rintro e W1 ⟨v1,rfl,h1,_⟩; have H1:=Lib.hid h1; have d1:=HC W1 h1.below; clear d0 h1)
 go_loopw [1,22] (fun bv iv wr=>∃ i:Nat,i≤D.length∧iv = .int .i64 (i:Int)∧Hid (ByteRow w0 wr bv (L++vbytes D.length++(D.take i).flatMap stateB))) (fun _ iv _=>D.length - (intOf iv).toNat)
 case atStart=>exact ⟨0,Nat.zero_le _,rfl,by simpa using H1⟩
 case round =>
  obtain ⟨i,hi,rfl,HR⟩:=hrel
  have q1:IntKind.i64.wrap ((i:Int)+1)=(i:Int)+1:=IntWalk.i64_in _ (by omega)
  by_cases hlt:i < D.length
  ·have z1:(0:Int)≤(i:Int)∧(i:Int) < (D.length:Int):=by omega
   obtain ⟨⟨sf,es,sv,sb⟩,hs⟩:∃ s,D[i]?=some s:=⟨_,List.getElem?_eq_getElem hlt⟩
   have hrow:w0.ownsRow 0 242 2 sv es.length (dEdgeCells es):=H.1.erow i _ hs
   obtain ⟨ea,ec,rfl⟩:=ownsRow_form hrow
   obtain ⟨g,cap,e1,k0,k1,k2,_⟩:=H.1.cells hs
   simp only [Value.slice.injEq,true_and] at e1
   obtain ⟨rfl,rfl⟩:=e1
   have hbr:=HR.out.below
   have c0:wr.cell? (aD g (i * 3))=some (.bool sf):=(hbr.cell (lt_of_cell k0)).trans k0
   have c1:wr.cell? (aD g (i * 3+1))=some (.slice ea es.length ec):=(hbr.cell (lt_of_cell k1)).trans k1
   have c2:wr.cell? (aD g (i * 3+2))=some (iV (sb:Int)):=(hbr.cell (lt_of_cell k2)).trans k2
   obtain ⟨hel,het⟩:=H.2 _ (List.mem_of_getElem? hs)
   have hfl:=flat_take stateB D hs
   have hle:=flat_le stateB D (i:=i+1)
   have hsl:(stateB ⟨sf,es,.slice ea es.length ec,sb⟩).length=1+(vbytes es.length).length+(edgesB es).length:=by simp [stateB]; omega
   rw [hfl,List.length_append,hsl] at hle
   obtain ⟨X,hX⟩:∃ X,X=L++vbytes D.length++(D.take i).flatMap stateB:=⟨_,rfl⟩
   have hXl:X.length=L.length+(vbytes D.length).length+((D.take i).flatMap stateB).length:=by rw [hX]; simp; omega
   have HX:Hid (X++stateB ⟨sf,es,.slice ea es.length ec,sb⟩=L++vbytes D.length++(D.take (i+1)).flatMap stateB):=Lib.hid (by rw [hX,hfl,List.append_assoc])
   rw [← hX] at HR
   obtain ⟨fb,hfb⟩:∃ fb:UInt8,fb=if sf then 1 else 0:=⟨_,rfl⟩
   obtain ⟨Y,hY⟩:∃ Y,Y=X++[fb]++vbytes es.length:=⟨_,rfl⟩
   have hYl:Y.length=X.length+1+(vbytes es.length).length:=by rw [hY]; simp; omega
   have HY:Hid (Y++edgesB es=X++stateB ⟨sf,es,.slice ea es.length ec,sb⟩):=Lib.hid (by rw [hY,hfb]; simp [stateB])
   have HE:=Lib.hid (show (∀ (j:Nat) p,es[j]?=some p → ∃ g cap,Value.slice ea es.length ec=sL g es.length cap∧w0.cell? (aD g (j * 2))=some (.int .u8 p.1.toNat)∧w0.cell? (aD g (j * 2+1))=some (intV p.2)) ∧ ∀ e∈es,e.2 < 1000000 from ⟨fun j p hj=>H.1.edgeCells hs hj,het⟩)
   have hnew:=heap_alloc_new wr (.cells #[.bool sf,.slice ea es.length ec,iV (sb:Int)] 207)
   have HBR:=Lib.hid (HR.out.alloc (.cells #[.bool sf,.slice ea es.length ec,iV (sb:Int)] 207))
   have hXb:X.length+1+(vbytes es.length).length+(edgesB es).length≤6000000:=by omega
   clear k0 k1 k2 hs hfl hX hrow hbr het hle hXl hsl
   go_upto_region 5 with fail
   obtain ⟨W2,hW2⟩:∃ W2,W2=wr.alloc (.cells #[.bool sf,.slice ea es.length ec,iV (sb:Int)] 207):=⟨_,rfl⟩
   rw [← hW2] at HBR hnew ⊢
   obtain ⟨sp,hsp⟩:∃ sp,sp=wr.heap.size:=⟨_,rfl⟩
   rw [← hsp] at hnew ⊢
   have f0:W2.cell? (aD sp 0)=some (.bool sf):=cell_block hnew
   obtain ⟨cs,hcs⟩:∃ cs,cs=#[.bool sf,.slice ea es.length ec,iV (sb:Int)]:=⟨_,rfl⟩
   rw [← hcs] at hnew
   have HF:Hid (∀ W:World,W.heap[sp]?=some (.cells cs 207 (0,0))→W.cell? (aD sp 1)=some (.slice ea es.length ec)):=Lib.hid fun W h=>by rw [hcs] at h; exact cell_block h
   have HN:=Lib.hid hnew
   clear hW2 hsp hcs hnew c0 c1 c2
   cases sf
   all_goals
    as_aux_lemma =>
    have HU:=Lib.hid hfb
    clear hfb
    go_upto_region 8 with fail
    refine wp_region_ord [(0,false),(1,false),(4,false),(5,false),(6,false),(2,true),(3,true),(7,true),(8,false)] (fun w'=>w'.heap[sp]?=some (.cells cs 207 (0,0))) (by kernel_rfl) (by kernel_rfl) HN ?_
    iterate 5 (
     refine wpOrd_quiet ?_ rfl rfl (fun w' hS=>?_) ?_
     rotate_left
     ·have f1:=HF w' hS
      go_simp
      try rfl
     simp only [put_lit,List.set_cons_succ,List.set_cons_zero])
    refine wpOrd_loud rfl rfl (by decide) (fun K hK=>?_)
    go_simp
    refine hK _ _ ((Below.heap_alloc _ _ _ (lt_of_heap HN.out)).trans HN) ?_
    clear hK K
    refine wpOrd_loud rfl rfl (by decide) (fun K hK=>?_)
    refine wp_appB _ _ rfl (HBR.out.same (Same.drew _)) (by omega) fb _ (by rw [HU]; rfl) rfl rfl (fun v4 W4 ⟨hb4,hr4,_⟩=>?_)
    have h4:=hr4 _ _ _ _ (by decide) HN
    refine hK _ _ h4 ?_
    clear hK K
    refine wpOrd_loud rfl rfl (by decide) (fun K hK=>?_)
    go_simp
    refine (putB es.length hel (by simp; omega) hb4).mono ?_
    rintro e W5 ⟨v5,rfl,hb5,hr5,_⟩
    have h5:=hr5 _ _ _ _ (by decide) h4
    refine hK _ _ h5 ?_
    clear hK K
    refine wpOrd_quiet ?_ rfl rfl (fun w' hS=>?_) ?_
    rotate_left
    ·go_simp
     try rfl
    refine wpOrd_nil ?_
    have f1:=HF W5 h5
    have HY5:Hid (ByteRow w0 W5 v5 (Y++edgesB (es.take 0))):=Lib.hid (by rw [hY]; simpa [edgesB] using hb5)
    clear hb5 hr5 h4 hb4 hr4 h5 HF HN HBR HU f0
    go_wp2_with fail
    go_loopw [1,39] (fun bv jv wr=>∃ j:Nat,j≤es.length∧jv = .int .i64 (j:Int)∧Hid (ByteRow w0 wr bv (Y++edgesB (es.take j)))) (fun _ jv _=>es.length - (intOf jv).toNat)
    case atStart=>exact ⟨0,Nat.zero_le _,rfl,HY5⟩
    case round =>
     as_aux_lemma =>
     obtain ⟨j,hj,rfl,HR⟩:=hrel
     have q2:IntKind.i64.wrap ((j:Int)+1)=(j:Int)+1:=IntWalk.i64_in _ (by omega)
     by_cases hlj:j < es.length
     ·have z2:(0:Int)≤(j:Int)∧(j:Int) < (es.length:Int):=by omega
      obtain ⟨⟨c,t⟩,hct⟩:∃ p,es[j]?=some p:=⟨_,List.getElem?_eq_getElem hlj⟩
      obtain ⟨g2,cap2,e1,k0,k1⟩:=HE.1 j _ hct
      simp only [Value.slice.injEq,true_and] at e1
      obtain ⟨rfl,rfl⟩:=e1
      have hbr:=HR.out.below
      have c0:wr.cell? (aD g2 (j * 2))=some (.int .u8 (c.toNat:Int)):=(hbr.cell (lt_of_cell k0)).trans k0
      have c1:wr.cell? (aD g2 (j * 2+1))=some (iV (t:Int)):=(hbr.cell (lt_of_cell k1)).trans k1
      have ht:=HE.2 _ (List.mem_of_getElem? hct)
      have hfl:=flat_take (fun e:UInt8 × Nat=>e.1 :: vbytes e.2) es hct
      have hle:=flat_le (fun e:UInt8 × Nat=>e.1 :: vbytes e.2) es (i:=j+1)
      rw [hfl,List.length_append,List.length_cons] at hle
      change _+((vbytes t).length+1)≤_ at hle
      obtain ⟨Z,hZ⟩:∃ Z,Z=Y++edgesB (es.take j):=⟨_,rfl⟩
      have hZl:Z.length+(vbytes t).length+1≤6000000:=by rw [hZ,List.length_append]; unfold edgesB at hXb ⊢; omega
      have HZ:Hid (Z++[c]++vbytes t=Y++edgesB (es.take (j+1))):=Lib.hid (by unfold edgesB; rw [hfl,hZ]; simp [edgesB])
      rw [← hZ] at HR
      have hnew:=heap_alloc_new wr (.cells #[.int .u8 (c.toNat:Int),iV (t:Int)] 242)
      have HBR:=Lib.hid (HR.out.alloc (.cells #[.int .u8 (c.toNat:Int),iV (t:Int)] 242))
      clear k0 k1 hct hfl hZ hbr hle
      go_upto_region 12 with fail
      obtain ⟨W2,hW2⟩:∃ W2,W2=wr.alloc (.cells #[.int .u8 (c.toNat:Int),iV (t:Int)] 242):=⟨_,rfl⟩
      rw [← hW2] at HBR hnew ⊢
      obtain ⟨sp,hsp⟩:∃ sp,sp=wr.heap.size:=⟨_,rfl⟩
      rw [← hsp] at hnew ⊢
      have HN:=Lib.hid hnew
      clear hW2 hsp hnew c0 c1
      refine wp_region_ord [(0,false),(1,false),(2,false),(5,false),(6,false),(3,true),(4,true),(7,true),(8,false)] (fun w'=>w'.heap[sp]?=some (.cells #[.int .u8 (c.toNat:Int),iV (t:Int)] 242 (0,0))) (by kernel_rfl) (by kernel_rfl) HN ?_
      iterate 5 (
       refine wpOrd_quiet ?_ rfl rfl (fun w' hS=>?_) ?_
       rotate_left
       ·have f0:w'.cell? (aD sp 0)=some (.int .u8 (c.toNat:Int)):=cell_block hS
        have f1:w'.cell? (aD sp 1)=some (iV (t:Int)):=cell_block hS
        go_simp
        try rfl
       simp only [put_lit,List.set_cons_succ,List.set_cons_zero])
      refine wpOrd_loud rfl rfl (by decide) (fun K hK=>?_)
      go_simp
      refine hK _ _ ((Below.heap_alloc _ _ _ (lt_of_heap HN.out)).trans HN) ?_
      clear hK K
      refine wpOrd_loud rfl rfl (by decide) (fun K hK=>?_)
      refine wp_appB _ _ rfl (HBR.out.same (Same.drew _)) (by omega) c _ rfl rfl rfl (fun v4 W4 ⟨hb4,hr4,_⟩=>?_)
      have h4:=hr4 _ _ _ _ (by decide) HN
      refine hK _ _ h4 ?_
      clear hK K
      refine wpOrd_loud rfl rfl (by decide) (fun K hK=>?_)
      go_simp
      refine (putB t ht (by simp; omega) hb4).mono ?_
      rintro e W5 ⟨v5,rfl,hb5,hr5,_⟩
      refine hK _ _ (hr5 _ _ _ _ (by decide) h4) ?_
      clear hK K
      refine wpOrd_quiet ?_ rfl rfl (fun w' hS=>?_) ?_
      rotate_left
      ·go_simp
       try rfl
      refine wpOrd_nil ?_
      rw [HZ.out] at hb5
      go_wp2_with fail
      exact ⟨⟨j+1,by omega,by go_num,hb5⟩,by simp [intOf]; omega⟩
     ·obtain rfl:j=es.length:=by omega
      rw [List.take_length,HY.out,HX.out] at HR
      go_wp2_with fail
      exact ⟨⟨i+1,by omega,by go_num,HR⟩,by simp [intOf]; omega⟩
  ·obtain rfl:i=D.length:=by omega
   rw [List.take_length] at HR
   go_wp2_with fail
   go_ret
   exact ⟨_,rfl,by rw [statesB,← List.append_assoc]; exact HR.out⟩
end Go.Proofs.Tl
namespace Go.Proofs.Tl
open Go Go.RowKit Go.Proofs.Ts
abbrev Met2:=List (List UInt8) × List (List (List UInt8))
def meetR (T:List (List UInt8)):Nat→List UInt8→Met2→Met2
 | 0,_,s=>s
 | f+1,p,s=>if endR T p∈s.2 then s else (edgesR (endR T p)).foldl (fun s c=>meetR T f (p++[c]) s) (s.1++[p],s.2++[endR T p])
def begs (T:List (List UInt8)):List (List UInt8):=[] :: T.flatMap fun t=>(List.range (t.length+1)).map fun k=>t.take k
theorem begs_length:∀ (T:List (List UInt8)),(∀ t∈T,t.length≤16)→(begs T).length≤17 * T.length+1
 | [],_=>by simp [begs]
 | t :: T,h=>by
  have ih:=begs_length T fun x hx=>h x (List.mem_cons_of_mem _ hx)
  have h1:=h t List.mem_cons_self
  unfold begs at ih ⊢
  simp only [List.length_cons,List.flatMap_cons,List.length_append,List.length_map,List.length_range] at ih ⊢
  omega
theorem begs_mem {T:List (List UInt8)} {p t:List UInt8} (ht:t∈T) (hp:p <+: t):p∈begs T:=by
 unfold begs
 refine List.mem_cons_of_mem _ (List.mem_flatMap.2 ⟨t,ht,List.mem_map.2 ⟨p.length,List.mem_range.2 (by have:=hp.length_le; omega),?_⟩⟩)
 exact (List.prefix_iff_eq_take.1 hp).symm
theorem edgesR_mem {E:List (List UInt8)} {c:UInt8} (h:c∈edgesR E):∃ t,c :: t∈E:=by
 unfold edgesR at h
 have key:∀ (E:List (List UInt8)) (out:List UInt8),c∈E.foldl edgeStep out→c∈out ∨ ∃ t,c :: t∈E:=by
  intro E
  induction E with
  | nil=>intro out h; exact .inl h
  | cons e E ih =>
   intro out h
   rw [List.foldl_cons] at h
   rcases ih _ h with h | ⟨t,h⟩
   ·cases e with
    | nil=>exact .inl h
    | cons d r =>
     unfold edgeStep at h
     simp only at h
     split at h
     ·exact .inl h
     ·rcases List.mem_append.1 h with h | h
      ·exact .inl h
      ·obtain rfl:=List.mem_singleton.1 h
       exact .inr ⟨r,List.mem_cons_self⟩
   ·exact .inr ⟨t,List.mem_cons_of_mem _ h⟩
 rcases key E [] h with h | h
 ·cases h
 ·exact h
theorem endR_mem {T:List (List UInt8)} {p s:List UInt8}:s∈endR T p↔p++s∈T:=by
 unfold endR
 rw [List.mem_map]
 constructor
 ·rintro ⟨t,ht,rfl⟩
  obtain ⟨h1,h2⟩:=List.mem_filter.1 ht
  obtain ⟨r,rfl⟩:=of_decide_eq_true h2
  simpa using h1
 ·intro h
  exact ⟨p++s,List.mem_filter.2 ⟨h,decide_eq_true (List.prefix_append _ _)⟩,by simp⟩
theorem edge_beg {T:List (List UInt8)} {p:List UInt8} {c:UInt8} (h:c∈edgesR (endR T p)):p++[c]∈begs T:=by
 obtain ⟨t,ht⟩:=edgesR_mem h
 exact begs_mem (endR_mem.1 ht) ⟨t,by simp⟩
theorem begs_16 {T:List (List UInt8)} (h16:∀ t∈T,t.length≤16) {p:List UInt8} (h:p∈begs T):p.length≤16:=by
 unfold begs at h
 rcases List.mem_cons.1 h with rfl | h
 ·simp
 ·obtain ⟨t,ht,h⟩:=List.mem_flatMap.1 h
  obtain ⟨k,_,rfl⟩:=List.mem_map.1 h
  have:=h16 t ht
  rw [List.length_take]
  omega
structure MOk (T:List (List UInt8)) (s:Met2):Prop where
 len:s.1.length=s.2.length
 apart:s.2.Nodup
 from':∀ E∈s.2,∃ p∈begs T,E=endR T p
theorem MOk.few {T:List (List UInt8)} {s:Met2} (h:MOk T s) (h16:∀ t∈T,t.length≤16):s.2.length≤17 * T.length+1:=by
 have h1:=nodup_le s.2 ((begs T).map (endR T)) h.apart fun E hE=>by
  obtain ⟨p,hp,rfl⟩:=h.from' E hE
  exact List.mem_map.2 ⟨p,hp,rfl⟩
 rw [List.length_map] at h1
 have:=begs_length T h16
 omega
theorem MOk.add {T:List (List UInt8)} {s:Met2} (h:MOk T s) {p:List UInt8} (hp:p∈begs T) (hn:endR T p ∉ s.2):MOk T (s.1++[p],s.2++[endR T p]):=by
 refine ⟨by simp [h.len],?_,fun E hE=>?_⟩
 ·rw [List.nodup_append]
  refine ⟨h.apart,by simp,fun a ha b hb=>?_⟩
  obtain rfl:=List.mem_singleton.1 hb
  intro e
  subst e
  exact hn ha
 ·rcases List.mem_append.1 hE with hE | hE
  ·exact h.from' E hE
  ·obtain rfl:=List.mem_singleton.1 hE
   exact ⟨p,hp,rfl⟩
theorem MOk.run {T:List (List UInt8)}:∀ (f:Nat) (p:List UInt8) (s:Met2),MOk T s→p∈begs T→MOk T (meetR T f p s)
 | 0,p,s,h,_=>h
 | f+1,p,s,h,hp=>by
  unfold meetR
  split
  ·exact h
  ·rename_i hn
   have key:∀ (l:List UInt8) (s:Met2),(∀ c∈l,p++[c]∈begs T)→MOk T s→MOk T (l.foldl (fun s c=>meetR T f (p++[c]) s) s):=by
    intro l
    induction l with
    | nil=>intro s _ h; exact h
    | cons c l ih=>intro s hl h; exact ih _ (fun d hd=>hl d (List.mem_cons_of_mem _ hd)) (MOk.run f (p++[c]) s h (hl c List.mem_cons_self))
   exact key _ _ (fun c hc=>edge_beg hc) (h.add hp hn)
structure MeetAt (w0 W:World) (bv ev:Value) (s:Met2):Prop where
 below:Below w0.heap.size w0 W
 by':StrsAt W bv s.1
 byPast:Past w0.heap.size bv
 ex:∃ vs,W.ownsRow 0 35 1 ev s.2.length vs∧(∀ (i:Nat) u E,vs[i]?=some u→s.2[i]?=some E→StrsAt W u E∧Past w0.heap.size u ∧ ∀ k,u.ownBlock=some k→bv.ownBlock≠some k)
 ePast:Past w0.heap.size ev
theorem MeetAt.ends {w0 W:World} {bv ev:Value} {s:Met2} (h:MeetAt w0 W bv ev s):EndsIs W ev s.2:=by
 obtain ⟨vs,h1,h2⟩:=h.ex
 exact ⟨vs,h1,fun i u E hu hE=>(h2 i u E hu hE).1⟩
theorem MeetAt.kept {w0 W W':World} {bv ev:Value} {s:Met2} (h:MeetAt w0 W bv ev s) (hb:Below W.heap.size W W'):MeetAt w0 W' bv ev s:=by
 obtain ⟨vs,h1,h2⟩:=h.ex
 exact ⟨h.below.trans (hb.mono h.below.size),h.by'.keep fun k e=>hb.block k (h.by'.lt k e).2,h.byPast,⟨vs,ownsRow_block h1 fun k e=>hb.block k (h1.lt k e).2,fun i u E hu hE=>by
  obtain ⟨h3,h4,h5⟩:=h2 i u E hu hE
  exact ⟨h3.keep fun k e=>hb.block k (h3.lt k e).2,h4,h5⟩⟩,h.ePast⟩
theorem MeetAt.same {w0 W W':World} {bv ev:Value} {s:Met2} (h:MeetAt w0 W bv ev s) (hs:Same W W'):MeetAt w0 W' bv ev s:=h.kept (hs.below _)
theorem MeetAt.start (w:World):MeetAt w w (.slice none 0 0) (.slice none 0 0) ([],[]) :=
 ⟨Below.refl _ _,World.ownsRow_nil _ _ _ _,(fun k e=>by cases e),⟨[],World.ownsRow_nil _ _ _ _,fun i u E h=>by simp at h⟩,fun k e=>by cases e⟩
theorem rowT_ne {w:World} {B C e f s t n m k:Nat} {u v:Value} {xs ys:List Value} (hu:w.ownsRow B e s u n xs) (hv:w.ownsRow C f t v m ys) (hef:e≠f) (h:u.ownBlock=some k):v.ownBlock≠some k:=fun h'=>by
 obtain ⟨cur,hc⟩:=ownsRow_cells hv h'
 rcases hu.2 with ⟨rfl,_⟩ | ⟨g,cap,cur',rfl,_,hg,_⟩
 ·cases h
 ·cases h
  rw [hg] at hc
  cases hc
  exact hef rfl
structure Moves2 (w:World) (u e:Value) (w':World) (u' e':Value):Prop where
 mod:Mod (fun k=>u.ownBlock=some k∨e.ownBlock=some k) w w'
 one:∀ k,u'.ownBlock=some k→u.ownBlock=some k∨w.heap.size≤k
 two:∀ k,e'.ownBlock=some k→e.ownBlock=some k∨w.heap.size≤k
theorem Moves2.below {w w':World} {u e:Value} (h:Below w.heap.size w w'):Moves2 w u e w' u e:=⟨below_mod h,fun k hk => .inl hk,fun k hk => .inl hk⟩
theorem Moves2.trans {a b c:World} {u1 e1 u2 e2 u3 e3:Value} (h:Moves2 a u1 e1 b u2 e2) (k:Moves2 b u2 e2 c u3 e3):Moves2 a u1 e1 c u3 e3:=by
 refine ⟨⟨k.mod.os.trans h.mod.os,k.mod.tape.trans h.mod.tape,k.mod.output.trans h.mod.output,Nat.le_trans h.mod.size k.mod.size,fun j hj hn=>?_⟩,fun j hj=>?_,fun j hj=>?_⟩
 ·refine (k.mod.block j (Nat.lt_of_lt_of_le hj h.mod.size) fun hc=>?_).trans (h.mod.block j hj hn)
  rcases hc with hc | hc
  ·rcases h.one j hc with h1 | h1
   ·exact hn (.inl h1)
   ·omega
  ·rcases h.two j hc with h1 | h1
   ·exact hn (.inr h1)
   ·omega
 ·rcases k.one j hj with h1 | h1
  ·exact h.one j h1
  ·exact .inr (Nat.le_trans h.mod.size h1)
 ·rcases k.two j hj with h1 | h1
  ·exact h.two j h1
  ·exact .inr (Nat.le_trans h.mod.size h1)
theorem Moves2.by' {w w':World} {u e u':Value} (h:Moves w u w' u'):Moves2 w u e w' u' e :=
 ⟨Mod.grown h.grown fun k hk _ => .inl hk,fun k hk=>by
  rcases h.lies with l | ⟨g,l,hg⟩
  ·exact .inl (l ▸ hk)
  ·rw [l] at hk; cases hk; exact .inr hg,fun k hk => .inl hk⟩
theorem Moves2.ends {w w':World} {u e e':Value} (h:Moves w e w' e'):Moves2 w u e w' u e' :=
 ⟨Mod.grown h.grown fun k hk _ => .inr hk,fun k hk => .inl hk,fun k hk=>by
  rcases h.lies with l | ⟨g,l,hg⟩
  ·exact .inl (l ▸ hk)
  ·rw [l] at hk; cases hk; exact .inr hg⟩
theorem MeetAt.pushBy {w0 W W':World} {bv ev bv':Value} {s:Met2} {p:List UInt8} (h:MeetAt w0 W bv ev s) (hm:Moves W bv W' bv') (hr:StrsAt W' bv' (s.1++[p])):MeetAt w0 W' bv' ev (s.1++[p],s.2):=by
 obtain ⟨vs,h1,h2⟩:=h.ex
 refine ⟨hm.below h.byPast h.below h.below.size,hr,hm.past h.byPast h.below.size,⟨vs,ownsRow_block h1 fun k e=>hm.block (h1.lt k e).2 (rowT_ne h1 h.by' (by decide) e),fun i u E hu hE=>?_⟩,h.ePast⟩
 obtain ⟨h3,h4,h5⟩:=h2 i u E hu hE
 refine ⟨h3.keep fun k e=>hm.block (h3.lt k e).2 (h5 k e),h4,fun k e e'=>?_⟩
 rcases hm.lies with l | ⟨g,l,hg⟩
 ·exact h5 k e (l ▸ e')
 ·rw [l] at e'
  have:=(h3.lt k e).2
  cases e'
  omega
theorem MeetAt.pushE {w0 W W':World} {bv ev ev' u:Value} {s:Met2} {E:List (List UInt8)} {vs:List Value} (h:MeetAt w0 W bv ev s) (hu:StrsAt W u E) (hup:Past w0.heap.size u) (hub:∀ k,u.ownBlock=some k→bv.ownBlock≠some k)
  (hvs:∃ vs,W.ownsRow 0 35 1 ev s.2.length vs∧(∀ (i:Nat) u E,vs[i]?=some u→s.2[i]?=some E→StrsAt W u E∧Past w0.heap.size u ∧ ∀ k,u.ownBlock=some k→bv.ownBlock≠some k)∧W'.ownsRow 0 35 1 ev' (s.2.length+1) (vs++[u]))
  (hm:Moves W ev W' ev'):MeetAt w0 W' bv ev' (s.1,s.2++[E]):=by
 obtain ⟨vs,h1,h2,h3⟩:=hvs
 have hkeep:∀ {u:Value} {E:List (List UInt8)},StrsAt W u E→StrsAt W' u E:=fun hu=>hu.keep fun k e=>hm.block (hu.lt k e).2 (rowT_ne hu h1 (by decide) e)
 refine ⟨hm.below h.ePast h.below h.below.size,hkeep h.by',h.byPast,⟨vs++[u],by rw [List.length_append,List.length_singleton]; exact h3,fun i x X hx hX=>?_⟩,hm.past h.ePast h.below.size⟩
 have hvl:vs.length=s.2.length:=by have:=h1.1; omega
 rcases Nat.lt_or_ge i s.2.length with hi | hi
 ·rw [List.getElem?_append_left (by omega)] at hx
  rw [List.getElem?_append_left hi] at hX
  obtain ⟨h4,h5,h6⟩:=h2 i x X hx hX
  exact ⟨hkeep h4,h5,h6⟩
 ·rw [List.getElem?_append_right (by omega)] at hx
  rw [List.getElem?_append_right hi] at hX
  have hi0:i=s.2.length:=by
   have:=(List.getElem?_eq_some_iff.1 hX).1
   simp at this
   omega
  subst hi0
  simp only [hvl,Nat.sub_self,List.getElem?_cons_zero,Option.some.injEq] at hx hX
  subst hx hX
  exact ⟨hkeep hu,hup,hub⟩
end Go.Proofs.Tl
namespace Go.Proofs.Tl
open Go Go.RowKit Go.Proofs.Ts
theorem Tryz.info35L:(Tryz.prog.info? 35).map (fun i=>(i.zero,i.size,i.bytes))=some (some (.slice none 0 0),1,24):=by kernel_rfl
theorem numR_mem {Es:List (List (List UInt8))} {E:List (List UInt8)} (h:E∈Es):∃ i:Nat,i < Es.length∧numR Es E=i:=by
 unfold numR
 cases hi:Es.idxOf? E with
 | none=>exact absurd h (List.idxOf?_eq_none_iff.1 hi)
 | some i =>
  obtain ⟨hl,_⟩:=List.idxOf?_eq_some_iff.1 hi
  exact ⟨i,hl,rfl⟩
theorem edgesR_all (E:List (List UInt8)):(edgesR E).length≤E.length:=by
 have:=edgesR_length E E.length (Nat.le_refl _)
 rwa [List.take_length] at this
set_option maxRecDepth 100000 in
set_option maxHeartbeats 8000000 in
theorem meet_law (B mb n:Nat) (T:List (List UInt8)) (L:List UInt8→List Nat) (w0:World) (hx:IndexIs B w0 mb n T L) (hT:T.length≤10000) (h16:∀ t∈T,t.length≤16) :
  ∀ (f:Nat) (p:List UInt8) (s:Met2) (bv ev:Value) (w:World),p.length+f=18→p∈begs T→MOk T s→MeetAt w0 w bv ev s →
  Calls Tryz.prog 81 #[ptrV mb,strV p,bv,ev] w fun e w'=>∃ bv' ev',e = .returned (.tuple #[bv',ev'])∧MeetAt w0 w' bv' ev' (meetR T f p s)∧Moves2 w bv ev w' bv' ev':=by
 intro f
 induction f with
 | zero =>
  intro p s bv ev w hf hp
  have:=begs_16 h16 hp
  omega
 | succ f ih =>
  intro p s bv ev w hf hp hok hm
  have hp16:=begs_16 h16 hp
  obtain ⟨i2,hi2,hw0,hx1,hx2⟩:=info_parts Tryz.info9
  obtain ⟨i3,hi3,hy0,hy1,hy2⟩:=info_parts Tryz.info35L
  have hend:=endings_law p B mb n T L w (hx.below hm.below) (by omega) h16 (by omega)
  have HEND:=Lib.hid hend
  have IH:=Lib.hid ih
  have HM:=Lib.hid hm
  have HOK:=Lib.hid hok
  have HP:=Lib.hid hp
  have H16:=Lib.hid h16
  have HX:=Lib.hid hx
  have hel:=endR_length T p
  obtain ⟨E,hE⟩:∃ E,E=endR T p:=⟨_,rfl⟩
  rw [← hE] at hel
  have HE:=Lib.hid hE
  have hsl:=hok.few h16
  have hbl:=hok.len
  have hres:meetR T (f+1) p s=if E∈s.2 then s else (edgesR E).foldl (fun s c=>meetR T f (p++[c]) s) (s.1++[p],s.2++[E]):=by rw [hE]; rfl
  obtain ⟨R,hR⟩:∃ R,R=meetR T (f+1) p s:=⟨_,rfl⟩
  rw [← hR]
  rw [← hR] at hres
  have HRES:=Lib.hid hres
  clear hend ih hok hp hres hR hE hx h16
  obtain ⟨ba,bc,hbv⟩:=ownsRow_form hm.by'
  rw [hbl] at hbv
  subst hbv
  have HBL:=Lib.hid hbl
  have hef:∃ a c,ev = .slice a s.2.length c:=by obtain ⟨vs,h1,_⟩:=hm.ex; exact ownsRow_form h1
  obtain ⟨ea,ec,rfl⟩:=hef
  clear hm hbl
  unfold ptrV strV at *
  go_enter Tryz.func81,Tryz.ntmps81
  go_upto_region 2 with (go_at_call 50; refine HEND.out.mono ?_; rintro e w1 ⟨xv,rfl,hr1⟩; rw [← HE.out] at hr1; have HR1:=Lib.hid hr1; clear hr1)
  have hm1:=HM.out.kept HR1.out.below
  have HM1:=Lib.hid hm1
  obtain ⟨xa,xc,rfl⟩:=ownsRow_form HR1.out.row
  have hnum:=number_law s.2 E _ _ w1 hm1.ends HR1.out.row (by omega) (fun X hX=>by
   obtain ⟨q,_,rfl⟩:=HOK.out.from' X hX
   have:=endR_length T q
   omega) (by omega)
  have HNUM:=Lib.hid hnum
  clear hnum hm1
  go_upto_region 3 with (go_at_call 51; refine HNUM.out.mono ?_; rintro e w2 ⟨rfl,hs2⟩; have HS2:=Lib.hid hs2; clear hs2)
  by_cases hin:E∈s.2
  ·obtain ⟨k,hk1,hk2⟩:=numR_mem hin
   rw [hk2]
   have hfin:R=s:=by rw [HRES.out,if_pos hin]
   have HFIN:=Lib.hid hfin
   clear hfin hk2
   go_wp2_with fail
   go_ret2
   exact ⟨_,_,rfl,by rw [HFIN.out]; exact HM1.out.same HS2.out,(Moves2.below HR1.out.below).trans (Moves2.below (HS2.out.below _))⟩
  ·have hn1:=numR_none hin
   have hfin:R=(edgesR E).foldl (fun s c=>meetR T f (p++[c]) s) (s.1++[p],s.2++[E]):=by rw [HRES.out,if_neg hin]
   have HFIN:=Lib.hid hfin
   have hok1:MOk T (s.1++[p],s.2++[E]):=by
    have:=HOK.out.add HP.out (by rw [← HE.out]; exact hin)
    rw [← HE.out] at this
    exact this
   have HOK1:=Lib.hid hok1
   rw [hn1]
   clear hfin hn1 hok1 hin
   have hm2:=HM1.out.same HS2.out
   have hxr:StrsAt w2 (.slice xa E.length xc) E:=StrsAt.keep HR1.out.row fun k _=>by rw [HS2.out.heap]
   have HXR:=Lib.hid hxr
   have HM2:=Lib.hid hm2
   have hrow:=hm2.by'.alloc (.cells #[.string ⟨p.toArray⟩] 9)
   rw [HBL.out] at hrow
   have HA:=Lib.hid ((Below.refl w2.heap.size w2).alloc (Nat.le_refl _) (.cells #[.string ⟨p.toArray⟩] 9))
   clear hm2 hxr
   go_upto_region 6 with (at_builtin; refine wpList_append_lies rfl _ _ 35 rfl 9 i2 (.string ⟨#[]⟩) 1 16 Tryz.underlying35 hi2 hw0 hx1 hx2 rfl (by decide) (.slice ba s.2.length bc) s.2.length (s.1.map strV) rfl hrow ⟨w2.heap.size,0,none⟩ 1 1 [.string ⟨p.toArray⟩] rfl rfl (cell_one_new w2 _ _) (by simp [Value.oneCell']) (by decide) (by unfold maxLen; omega) (by omega) ?_; intro bv3 w3 hrow3 hgrow3 hlies3; have HMV3:=Lib.hid (Moves.append hgrow3 hlies3); have HROW3:=Lib.hid hrow3; clear hrow3 hgrow3 hlies3 hrow)
   have hpast1:∀ k,(Value.slice xa E.length xc).ownBlock=some k→w.heap.size≤k:=HR1.out.past
   obtain ⟨g3,cap3,rfl⟩:=ownsRow_head HROW3.out
   have hm3:MeetAt w0 w3 (.slice (some ⟨g3,0,none⟩) (s.2.length+1) cap3) (.slice ea s.2.length ec) (s.1++[p],s.2):=(HM2.out.kept HA.out).pushBy HMV3.out (by
    have:=HROW3.out
    unfold StrsAt strV
    rw [List.length_append,List.length_singleton,HBL.out,List.map_append]
    exact this)
   have hmv23:Moves w2 (.slice ba s.2.length bc) w3 (.slice (some ⟨g3,0,none⟩) (s.2.length+1) cap3):=(Moves.alloc w2 _ _).trans HMV3.out
   have hsz1:∀ k,(Value.slice ba s.2.length bc).ownBlock=some k→k < w.heap.size:=fun k hk=>(HM.out.by'.lt k hk).2
   have hxne2:∀ k,(Value.slice xa E.length xc).ownBlock=some k→(Value.slice ba s.2.length bc).ownBlock≠some k:=fun k hk e=>by
    have:=hpast1 k hk
    have:=hsz1 k e
    omega
   have hxr3:StrsAt w3 (.slice xa E.length xc) E:=HXR.out.keep fun k hk=>hmv23.block (HXR.out.lt k hk).2 (hxne2 k hk)
   have hxne3:∀ k,(Value.slice xa E.length xc).ownBlock=some k→(Value.slice (some ⟨g3,0,none⟩) (s.2.length+1) cap3).ownBlock≠some k:=fun k hk e=>by
    rcases hmv23.lies with l | ⟨g',l,hg'⟩
    ·exact hxne2 k hk (l ▸ e)
    ·rw [l] at e
     cases e
     have:=(HXR.out.lt k hk).2
     omega
   have hxp:Past w0.heap.size (.slice xa E.length xc):=fun k hk=>Nat.le_trans HM.out.below.size (hpast1 k hk)
   have HV23:Hid (Moves2 w (.slice ba s.2.length bc) (.slice ea s.2.length ec) w3 (.slice (some ⟨g3,0,none⟩) (s.2.length+1) cap3) (.slice ea s.2.length ec)):=Lib.hid (((Moves2.below HR1.out.below).trans (Moves2.below (HS2.out.below _))).trans (Moves2.by' hmv23))
   have HM3:=Lib.hid hm3
   have HXR3:=Lib.hid hxr3
   have HXN3:=Lib.hid hxne3
   have HXP:=Lib.hid hxp
   have hm3a:=hm3.kept ((Below.refl w3.heap.size w3).alloc (Nat.le_refl _) (.cells #[.slice xa E.length xc] 35))
   have HA3:=Lib.hid hm3a
   obtain ⟨vs,v1,v2⟩:=hm3a.ex
   have HV1:=Lib.hid v1
   have HV2:=Lib.hid v2
   have HXR3A:Hid (StrsAt (w3.alloc (.cells #[.slice xa E.length xc] 35)) (.slice xa E.length xc) E):=Lib.hid (hxr3.keep fun k hk=>Below.heap_alloc w3 _ k (hxr3.lt k hk).2)
   clear hm3 hmv23 hsz1 hxne2 hxr3 hxne3 hxp hm3a v1 v2 HMV3 HROW3 HXR HM2 HA hpast1
   go_upto_region 7 with (at_builtin; refine wpList_append_lies rfl _ _ 91 rfl 35 i3 (.slice none 0 0) 1 24 Tryz.underlying91 hi3 hy0 hy1 hy2 rfl (by decide) (.slice ea s.2.length ec) s.2.length vs rfl HV1.out ⟨w3.heap.size,0,none⟩ 1 1 [.slice xa E.length xc] rfl rfl (cell_one_new w3 _ _) (by simp [Value.oneCell']) (by decide) (by unfold maxLen; omega) (by omega) ?_; intro ev4 w4 hrow4 hgrow4 hlies4; have HMV4:=Lib.hid (Moves.append hgrow4 hlies4); have HROW4:=Lib.hid hrow4; clear hrow4 hgrow4 hlies4)
   obtain ⟨g4,cap4,rfl⟩:=ownsRow_head HROW4.out
   have hm4:=HA3.out.pushE (E:=E) (vs:=vs) HXR3A.out HXP.out HXN3.out ⟨vs,HV1.out,HV2.out,HROW4.out⟩ HMV4.out
   have hxr4:StrsAt w4 (.slice xa E.length xc) E:=HXR3A.out.keep fun k hk=>HMV4.out.block (HXR3A.out.lt k hk).2 (rowT_ne HXR3A.out HV1.out (by decide) hk)
   have hed:=edges_law E _ w4 hxr4 (by omega)
   have HV24:Hid (Moves2 w (.slice ba s.2.length bc) (.slice ea s.2.length ec) w4 (.slice (some ⟨g3,0,none⟩) (s.2.length+1) cap3) (.slice (some ⟨g4,0,none⟩) (s.2.length+1) cap4)):=Lib.hid ((HV23.out.trans (Moves2.below ((Below.refl w3.heap.size w3).alloc (Nat.le_refl _) _))).trans (Moves2.ends HMV4.out))
   have HM4:=Lib.hid hm4
   have HED:=Lib.hid hed
   clear hm4 hxr4 hed HMV4 HROW4 HV1 HV2 HXR3A HA3 HM3 HXR3 HXN3 HXP
   go_upto_region 8 with (go_at_call 49; refine HED.out.mono ?_; rintro e w5 ⟨lv,rfl,hr5⟩; have HR5:=Lib.hid hr5; clear hr5)
   have hm5:=HM4.out.kept HR5.out.below
   have HV25:=Lib.hid (HV24.out.trans (Moves2.below HR5.out.below))
   have hl5:=edgesR_all E
   have hcm:Hid (∀ c∈edgesR E,p++[c]∈begs T):=Lib.hid fun c hc=>edge_beg (by rw [← HE.out]; exact hc)
   obtain ⟨l,hl⟩:∃ l,l=edgesR E:=⟨_,rfl⟩
   rw [← hl] at HFIN HR5 hl5 hcm
   have HM5:=Lib.hid hm5
   clear hm5 hl HED HM4
   obtain ⟨la,lc,rfl⟩:=ownsRow_form HR5.out.row
   go_upto_region 9 with fail
   go_loopw [2,3,13] (fun bv ev iv wr=>∃ i:Nat,i≤l.length∧iv = .int .i64 (i:Int)∧Hid (MOk T ((l.take i).foldl (fun s c=>meetR T f (p++[c]) s) (s.1++[p],s.2++[E])))∧Hid (MeetAt w0 wr bv ev ((l.take i).foldl (fun s c=>meetR T f (p++[c]) s) (s.1++[p],s.2++[E])))∧Hid (wr.ownsRow 0 5 1 (.slice la l.length lc) l.length (l.map byteV))∧Hid (Moves2 w (.slice ba s.2.length bc) (.slice ea s.2.length ec) wr bv ev)) (fun _ _ iv _=>l.length - (intOf iv).toNat)
   case atStart=>exact ⟨0,Nat.zero_le _,rfl,HOK1,HM5,Lib.hid HR5.out.row,HV25⟩
   case round =>
    obtain ⟨i,hil,rfl,HO,HMi,HLr,HV⟩:=hrel
    have q1:IntKind.i64.wrap ((i:Int)+1)=(i:Int)+1:=IntWalk.i64_in _ (by omega)
    by_cases hlt:i < l.length
    ·obtain ⟨g,cap,e1,hc⟩:=ownsRow_cell HLr.out (j:=i) (u:=byteV l[i]) (by rw [List.getElem?_map,List.getElem?_eq_getElem hlt]; rfl)
     simp only [Value.slice.injEq,true_and] at e1
     obtain ⟨rfl,rfl⟩:=e1
     unfold byteV at hc
     have z1:(0:Int)≤(i:Int)∧(i:Int) < (l.length:Int):=by omega
     have hnx:(l.take (i+1)).foldl (fun s c=>meetR T f (p++[c]) s) (s.1++[p],s.2++[E])=meetR T f (p++[l[i]]) ((l.take i).foldl (fun s c=>meetR T f (p++[c]) s) (s.1++[p],s.2++[E])):=by
      rw [List.take_succ_eq_append_getElem hlt,List.foldl_append]
      rfl
     have hcb:=hcm.out l[i] (List.getElem_mem hlt)
     generalize l[i]=c at *
     generalize (l.take i).foldl (fun s c=>meetR T f (p++[c]) s) (s.1++[p],s.2++[E])=sc at *
     have hrec:=IH.out (p++[c]) sc u2 u3 (wr.alloc (.cells #[.int .u8 c.toNat] 5)) (by simp; omega) hcb HO.out (HMi.out.kept ((Below.refl wr.heap.size wr).alloc (Nat.le_refl _) _))
     have hcv:=conv_one c wr
     have hcat:(⟨p.toArray⟩:ByteArray)++⟨#[c]⟩=⟨(p++[c]).toArray⟩:=by
      apply ByteArray.ext
      simp
     have HREC:=Lib.hid hrec
     have HNX:=Lib.hid hnx
     have HCB:=Lib.hid hcb
     clear hrec hnx hcb
     go_wp2_with (go_at_call 81; go_must (refine HREC.out.mono ?_); rintro e w6 ⟨bv6,ev6,rfl,hm6,hv6⟩; have HM6:=Lib.hid hm6; have HV6:=Lib.hid hv6; clear hm6 hv6)
     have hrow6:w6.ownsRow 0 5 1 (.slice (some ⟨g,0,none⟩) l.length lc) l.length (l.map byteV):=by
      obtain ⟨vs,v1,_⟩:=HMi.out.ex
      refine ownsRow_block HLr.out fun k hk=>?_
      have hkl:=(HLr.out.lt k hk).2
      rw [HV6.out.mod.block k (by simp; omega) (fun hc=>hc.elim (rowT_ne HLr.out HMi.out.by' (by decide) hk) (rowT_ne HLr.out v1 (by decide) hk)),Below.heap_alloc wr _ k hkl]
     exact ⟨⟨i+1,by omega,by go_num,Lib.hid (by rw [HNX.out]; exact MOk.run f _ _ HO.out HCB.out),Lib.hid (by rw [HNX.out]; exact HM6.out),Lib.hid hrow6,Lib.hid (HV.out.trans ((Moves2.below ((Below.refl wr.heap.size wr).alloc (Nat.le_refl _) _)).trans HV6.out))⟩,by simp [intOf]; omega⟩
    ·obtain rfl:i=l.length:=by omega
     rw [List.take_length] at HMi
     go_wp2_with fail
     go_ret2
     exact ⟨_,_,rfl,by rw [HFIN.out]; exact HMi.out,HV.out⟩
end Go.Proofs.Tl
namespace Go.Proofs.Tl
open Go Go.RowKit Go.Proofs.Ts
theorem endR_tails (c:UInt8) (p:List UInt8):∀ T:List (List UInt8),endR T (p++[c])=tails c (endR T p)
 | []=>rfl
 | t :: T=>by
  have ih:=endR_tails c p T
  unfold endR tails at ih ⊢
  by_cases h:p <+: t
  ·obtain ⟨r,rfl⟩:=h
   have e1:(decide (p <+: p++r))=true:=by simp
   cases r with
   | nil =>
    have e2:(decide (p++[c] <+: p++[]))=false:=decide_eq_false fun h=>by have:=h.length_le; simp at this; omega
    rw [List.filter_cons_of_pos (p:=fun t=>decide (p <+: t)) e1,List.filter_cons_of_neg (p:=fun t=>decide (p++[c] <+: t)) (by simp only [e2]; decide),ih]
    simp
   | cons d r =>
    rw [List.filter_cons_of_pos (p:=fun t=>decide (p <+: t)) e1]
    by_cases hd:d=c
    ·subst hd
     rw [List.filter_cons_of_pos (p:=fun t=>decide (p++[d] <+: t)) (by simp),List.map_cons,ih]
     simp
    ·rw [List.filter_cons_of_neg (p:=fun t=>decide (p++[c] <+: t)) (by simp [Ne.symm hd]),ih]
     simp [hd]
  ·have h2:¬ p++[c] <+: t:=fun h2=>h ((List.prefix_append _ _).trans h2)
   rw [List.filter_cons_of_neg (p:=fun t=>decide (p <+: t)) (by simpa using h),List.filter_cons_of_neg (p:=fun t=>decide (p++[c] <+: t)) (by simpa using h2)]
   exact ih
theorem edge_run (c:UInt8):∀ (X:List Word) (out:List UInt8),(X.map (c :: ·)).foldl edgeStep out=if X=[]∨out.getLast?=some c then out else out++[c]
 | [],out=>by simp
 | w :: X,out=>by
  rw [List.map_cons,List.foldl_cons,edge_run c X]
  unfold edgeStep
  by_cases h:out.getLast?=some c <;> simp [h]
theorem edgesR_wordsAt {f:Bool} {L:Nat→List Word} {es:List (UInt8 × Nat)} (ha:Asc es) (hn:∀ e∈es,L e.2≠[]):edgesR (wordsAt f es L)=es.map (·.1):=by
 have key:∀ (es:List (UInt8 × Nat)) (out:List UInt8),Asc es→(∀ e∈es,L e.2≠[])→(∀ d∈out,∀ e∈es,d < e.1)→(es.flatMap fun p=>(L p.2).map (p.1 :: ·)).foldl edgeStep out=out++es.map (·.1):=by
  intro es
  induction es with
  | nil=>intro out _ _ _; simp
  | cons e es ih =>
   intro out ha hn ho
   rw [List.flatMap_cons,List.foldl_append,edge_run,if_neg,ih _ ha.tail (fun x hx=>hn x (List.mem_cons_of_mem _ hx))]
   ·simp
   ·intro d hd x hx
    rcases List.mem_append.1 hd with hd | hd
    ·exact ho d hd x (List.mem_cons_of_mem _ hx)
    ·obtain rfl:=List.mem_singleton.1 hd
     exact (List.pairwise_cons.1 ha).1 x hx
   ·rintro (h | h)
    ·exact hn e List.mem_cons_self h
    ·exact UInt8.lt_irrefl _ (ho e.1 (List.mem_of_getLast? h) e List.mem_cons_self)
 unfold edgesR wordsAt
 rw [List.foldl_append,show (if f then [[]] else []).foldl edgeStep []=[] by cases f <;> rfl,key es [] ha hn (fun d h=>by cases h)]
 rfl
structure MetAs (T:List Word) (R:Nat→Prop) (Λ:Nat→List Word) (S:List Nat) (s:Met2):Prop where
 in_:∀ i∈S,R i
 ends:s.2=S.map Λ
 by':s.1.map (endR T)=s.2
theorem meet_dfs {w:World} {db:Nat} {D:List DS} {R:Nat→Prop} {Λ:Nat→List Word} {ρ:Nat→Nat} {T:List Word} (h:DictIs w db R Λ ρ D) (h16:∀ t∈T,t.length≤16) :
  ∀ (g i f:Nat) (p:List UInt8) (S:List Nat) (s:Met2),R i→ρ i < g→p.length+f=18→p.length≤16→endR T p=Λ i→MetAs T R Λ S s→MetAs T R Λ (dfsE (targets D) g i S) (meetR T f p s)
 | 0,_,_,_,_,_,_,hg,_,_,_,_=>absurd hg (Nat.not_lt_zero _)
 | g+1,i,f,p,S,s,hi,hg,hf,hp,he,hm=>by
  obtain ⟨st,h1,h2,_,h3,h4⟩:=h.state i hi
  obtain ⟨f,rfl⟩:∃ k,f=k+1:=⟨f - 1,by omega⟩
  unfold meetR dfsE
  have hin:endR T p∈s.2↔i∈S:=by
   rw [he,hm.ends,List.mem_map]
   exact ⟨fun ⟨j,hj,e⟩=>h.ord.inj _ _ (hm.in_ j hj) hi e ▸ hj,fun hj=>⟨i,hj,rfl⟩⟩
  by_cases hS:i∈S
  ·rw [if_pos hS,if_pos (hin.2 hS)]
   exact hm
  ·rw [if_neg hS,if_neg (fun k=>hS (hin.1 k)),he,h3,edgesR_wordsAt h2 (h.ord.ne i st hi h1)]
   have ht:targets D i=st.edges.map (·.2):=by unfold targets; rw [h1]
   rw [ht,List.foldl_map,List.foldl_map,← h3]
   have fold:∀ (es:List (UInt8 × Nat)) (S:List Nat) (s:Met2),(∀ e∈es,e∈st.edges)→MetAs T R Λ S s→MetAs T R Λ (es.foldl (fun S e=>dfsE (targets D) g e.2 S) S) (es.foldl (fun s e=>meetR T f (p++[e.1]) s) s):=by
    intro es
    induction es with
    | nil=>exact fun S s _ h=>h
    | cons e es ih =>
     intro S s hes hm
     have hee:=hes e List.mem_cons_self
     have hen:endR T (p++[e.1])=Λ e.2:=by rw [endR_tails,he,h3,tails_at h2 hee]
     refine ih _ _ (fun x hx=>hes x (List.mem_cons_of_mem _ hx)) (meet_dfs h h16 g e.2 f (p++[e.1]) S s (h4 e hee).1 (by have:=(h4 e hee).2; omega) (by simp; omega) ?_ hen hm)
     obtain ⟨w,hw⟩:=List.exists_mem_of_ne_nil _ (h.ord.ne i st hi h1 e hee)
     rw [← hen] at hw
     have:=h16 _ (endR_mem.1 hw)
     simp at this ⊢
     omega
   exact fold st.edges _ _ (fun e he=>he) ⟨fun j hj=>by
    rcases List.mem_append.1 hj with hj | hj
    ·exact hm.in_ j hj
    ·obtain rfl:=List.mem_singleton.1 hj
     exact hi,by simp [hm.ends],by simp [hm.by',he]⟩
theorem meet_dict {w:World} {db:Nat} {D:List DS} {R:Nat→Prop} {Λ:Nat→List Word} {ρ:Nat→Nat} (h:DictIs w db R Λ ρ D) (h16:∀ t∈Λ 0,t.length≤16):MetAs (Λ 0) R Λ (List.range D.length) (meetR (Λ 0) 18 [] ([],[])):=by
 obtain ⟨f,hf⟩:=h.ord.run
 have:=meet_dfs h h16 (max f (ρ 0+1)) 0 18 [] [] ([],[]) h.root.1 (by omega) rfl (Nat.zero_le _) (by simp [endR]) ⟨(fun i hi=>by cases hi),rfl,rfl⟩
 rwa [hf _ (Nat.le_max_left _ _)] at this
theorem meet_state {w:World} {db:Nat} {D:List DS} {R:Nat→Prop} {Λ:Nat→List Word} {ρ:Nat→Nat} {s:Met2} (h:DictIs w db R Λ ρ D) (hm:MetAs (Λ 0) R Λ (List.range D.length) s) {i:Nat} {d:DS} (hd:D[i]?=some d) :
  ∃ p,s.1[i]?=some p∧s.2[i]?=some (endR (Λ 0) p)∧d.final=decide ((endR (Λ 0) p).head?=some [])∧edgesR (endR (Λ 0) p)=d.edges.map (·.1) ∧ ∀ e∈d.edges,numR s.2 (endR (Λ 0) (p++[e.1]))=e.2:=by
 have hi:=(List.getElem?_eq_some_iff.1 hd).1
 have h2:s.2[i]?=some (Λ i):=by rw [hm.ends,List.getElem?_map,List.getElem?_range hi]; rfl
 have hb:(s.1.map (endR (Λ 0)))[i]?=s.2[i]?:=by rw [hm.by']
 rw [h2,List.getElem?_map,Option.map_eq_some_iff] at hb
 obtain ⟨p,hp,he⟩:=hb
 have hR:=h.full hi
 obtain ⟨st,g1,g2,_,g3,g4⟩:=h.state i hR
 rw [hd] at g1
 cases g1
 refine ⟨p,hp,by rw [he]; exact h2,?_,by rw [he,g3,edgesR_wordsAt g2 (h.ord.ne i d hR hd)],fun e hee=>?_⟩
 ·rw [he,g3]
  have hw:=wordsAt_final d.final d.edges Λ
  cases hf:d.final with
  | true=>simp [wordsAt]
  | false =>
   rw [hf] at hw
   refine (decide_eq_false fun h=>?_).symm
   have:=hw.1 (List.mem_of_head? h)
   cases this
 ·have hl:endR (Λ 0) (p++[e.1])=Λ e.2:=by rw [endR_tails,he,g3,tails_at g2 hee]
  obtain ⟨se,k1,_⟩:=h.state e.2 (g4 e hee).1
  have hlt:=(List.getElem?_eq_some_iff.1 k1).1
  have hlen:s.2.length=D.length:=by rw [hm.ends]; simp
  rw [hl]
  have hat:∀ j (hj:j < s.2.length),s.2[j]=Λ j:=fun j hj=>by
   have:s.2[j]?=some (Λ j):=by rw [hm.ends,List.getElem?_map,List.getElem?_range (by omega)]; rfl
   exact (List.getElem?_eq_some_iff.1 this).2
  refine numR_at (by omega) (hat e.2 (by omega)) fun hc=>?_
  obtain ⟨j,hj,hje⟩:=List.mem_take_iff_getElem.1 hc
  have:=h.ord.inj j e.2 (h.full (by omega)) (g4 e hee).1 ((hat j (by omega)).symm.trans hje)
  omega
end Go.Proofs.Tl
namespace Go.Proofs.Tl
open Go Go.RowKit Go.Proofs.Ts
set_option maxRecDepth 100000 in
set_option maxHeartbeats 4000000 in
theorem varR_law {w0 w:World} {v:Value} {L:List UInt8} (n:Nat) (hn:n < 1000000) (hl:L.length+100≤7000000) (h:ByteRow w0 w v L) :
  Calls Tryz.prog 47 #[v,iV (n:Int)] w fun e w'=>∃ v',e = .returned v'∧ByteRow w0 w' v' (L++vbytes n)∧Rest 5 w w'∧Moves w v w' v':=by
 have HB:=Lib.hid h
 clear h
 go_enter Tryz.func47,Tryz.ntmps47
 go_wp2
 go_loopw [0,1] (fun s i wr=>∃ (m:Nat) (X:List UInt8),m < 1000000∧i = .int .i64 (m:Int)∧X.length+(vbytes m).length≤L.length+(vbytes n).length∧Hid (X++vbytes m=L++vbytes n∧ByteRow w0 wr s X∧Rest 5 w wr∧Moves w v wr s)) (fun _ i _=>(intOf i).toNat)
 case atStart=>exact ⟨n,L,hn,rfl,Nat.le_refl _,rfl,HB,Rest.refl _ _,Moves.refl _ _⟩
 case round =>
  obtain ⟨m,X,hm,rfl,hX,HX⟩:=hrel
  have hvn:(vbytes n).length≤3:=by unfold vbytes; rw [List.length_map]; exact vint_length hn
  by_cases h128:128≤m
  ·have HV:=Lib.hid (vbytes_big h128)
   have hvl:(vbytes m).length=1+(vbytes (m / 128)).length:=by rw [HV.out]; simp; omega
   have hu:byteV (UInt8.ofNat (m % 128+128)) = .int .u8 (128+(m:Int) % 128):=by
    unfold byteV
    rw [ofNat_lt (by omega)]
    congr 1
    omega
   have q1:IntKind.i64.wrap (128+(m:Int) % 128)=128+(m:Int) % 128:=IntWalk.i64_in _ (by omega)
   have HU:=Lib.hid hu
   clear hu
   go_wp2_with (at_builtin; refine wpList_appB rfl _ _ rfl HX.2.1 (by omega) _ _ HU rfl rfl (fun v4 W4 h4=>?_); have H4:=Lib.hid h4; clear h4)
   exact ⟨⟨m / 128,_,by omega,by go_num,by simp; omega,Lib.hid ⟨by rw [← HX.1,HV.out]; simp,H4.1,HX.2.2.1.trans H4.2.1,HX.2.2.2.trans H4.2.2⟩⟩,by simp [intOf]; omega⟩
  ·have HV:=Lib.hid (vbytes_small (by omega:m < 128))
   have hu:byteV (UInt8.ofNat m) = .int .u8 (m:Int):=by unfold byteV; rw [ofNat_lt (by omega)]
   have HU:=Lib.hid hu
   clear hu
   go_wp2_with (at_builtin; refine wpList_appB rfl _ _ rfl HX.2.1 (by omega) _ _ HU rfl rfl (fun v4 W4 h4=>?_); have H4:=Lib.hid h4; clear h4)
   go_ret
   refine ⟨_,rfl,?_,HX.2.2.1.trans H4.2.1,HX.2.2.2.trans H4.2.2⟩
   rw [← HX.1,HV.out]
   exact H4.1
set_option maxRecDepth 100000 in
set_option maxHeartbeats 4000000 in
theorem states_law (B mb n:Nat) (T:List (List UInt8)) (L:List UInt8→List Nat) (w:World) (hx:IndexIs B w mb n T L) (hT:T.length≤10000) (h16:∀ t∈T,t.length≤16) :
  Calls Tryz.prog 48 #[ptrV mb] w fun e w'=>∃ bv ev,e = .returned (.tuple #[bv,ev])∧MeetAt w w' bv ev (meetR T 18 [] ([],[])):=by
 have HM:=Lib.hid (meet_law B mb n T L w hx hT h16 18 [] ([],[]) _ _ w rfl List.mem_cons_self ⟨rfl,List.nodup_nil,fun E h=>by cases h⟩ (MeetAt.start w))
 clear hx
 unfold ptrV at *
 go_enter Tryz.func48,Tryz.ntmps48
 go_wp2_with (go_at_call 81; refine HM.mono ?_; rintro e w1 ⟨bv,ev,rfl,h1,_⟩; have H1:=Lib.hid h1; clear h1)
 go_ret2
 exact ⟨_,_,rfl,H1⟩
set_option maxRecDepth 100000 in
set_option maxHeartbeats 4000000 in
theorem statesR_law (B mb n:Nat) (T:List (List UInt8)) (L:List UInt8→List Nat) (w:World) (hx:IndexIs B w mb n T L) (hT:T.length≤10000) (h16:∀ t∈T,t.length≤16) :
  Calls Tryz.prog 46 #[ptrV mb] w fun e w'=>e = .returned (iV ((meetR T 18 [] ([],[])).1.length:Int))∧Below w.heap.size w w':=by
 have HM:=Lib.hid (states_law B mb n T L w hx hT h16)
 clear hx
 unfold ptrV at *
 go_enter Tryz.func46,Tryz.ntmps46
 go_wp2_with (go_at_call 48; refine HM.mono ?_; rintro e w1 ⟨bv,ev,rfl,h1⟩; obtain ⟨ba,bc,rfl⟩:=ownsRow_form h1.by'; have H1:=Lib.hid h1; clear h1)
 go_ret
 exact ⟨rfl,H1.below⟩
end Go.Proofs.Tl
namespace Go.Proofs.Tl
open Go Go.RowKit Go.Proofs.Ts
def nxt (l:List Nat) (j:Nat):Nat:=if j=0 then 0 else l.getD (j - 1) 0+1
def gapB (l:List Nat) (j:Nat):List UInt8:=vbytes (l.getD j 0 - nxt l j)
def postB (l:List Nat):List UInt8:=vbytes l.length++(List.range l.length).flatMap (gapB l)
def segB (n:Nat) (D:List DS) (P:List (List Nat)):List UInt8:=[84,83]++vbytes n++statesB D++P.flatMap postB
theorem range_take (n j:Nat) (h:j≤n):(List.range n).take j=List.range j:=by rw [List.take_range,Nat.min_eq_left h]
theorem nxt_le {l:List Nat} (h:l.Pairwise (· < ·)) {j:Nat} (hj:j < l.length):nxt l j≤l.getD j 0:=by
 unfold nxt
 split
 ·exact Nat.zero_le _
 ·rename_i h0
  rw [List.getD_eq_getElem?_getD,List.getD_eq_getElem?_getD,List.getElem?_eq_getElem hj,List.getElem?_eq_getElem (by omega)]
  exact List.pairwise_iff_getElem.1 h (j - 1) j (by omega) hj (by omega)
theorem nxt_succ (l:List Nat) (j:Nat):nxt l (j+1)=l.getD j 0+1:=by simp [nxt]
set_option maxRecDepth 100000 in
set_option maxHeartbeats 4000000 in
theorem putTS (n:Nat) (hn:n < 128) (w0 W:World) (g:Nat) (hge:w0.heap.size≤g) (hb:Below w0.heap.size w0 W) (hg:W.heap[g]?=some (.cells #[.int .u8 84,.int .u8 83] 5 (2,3))) :
  Calls Tryz.prog 79 #[sL g 2 2,iV (n:Int)] W fun e w'=>∃ v',e = .returned v'∧ByteRow w0 w' v' ([84,83]++vbytes n):=by
 obtain ⟨i0,hi,hz0,hz1,hz2⟩:=info_parts Tryz.tsInfo5
 have hv:Hid ([84,83]++vbytes n=[84,83,UInt8.ofNat n]):=Lib.hid (by rw [vbytes_small hn]; rfl)
 have hu:byteV (UInt8.ofNat n) = .int .u8 (n:Int):=by unfold byteV; rw [ofNat_lt (by omega)]
 have HU:=Lib.hid hu
 have c0:∀ j u,[Value.int .u8 84,.int .u8 83][j]?=some u→W.cell? ⟨g,j,none⟩=some u:=fun j u h=>by
  match j,h with
  | 0,h=>cases h; exact cell_of_row W g 0 _ _ _ hg
  | 1,h=>cases h; exact cell_of_row W g 1 _ _ _ hg
  | j+2,h=>simp at h
 have hgl:=lt_of_heap hg
 have C:=Lib.hid (And.intro c0 (And.intro hb hgl))
 clear c0 hu hb hgl hg
 go_enter Tryz.func79,Tryz.ntmps79
 go_wp2
 go_loopw [0,1] (fun s i wr=>s=sL g 2 2∧i = .int .i64 (n:Int)∧Hid (wr=W)) (fun _ _ _=>0)
 case atStart=>exact ⟨rfl,rfl,rfl⟩
 case round =>
  obtain ⟨rfl,rfl,hw⟩:=hrel
  obtain rfl:=hw.out
  have hlt:¬ 128≤n:=by omega
  go_wp2_with (at_builtin; refine wpList_append_grows _ rfl _ _ 42 rfl 5 i0 (.int .u8 0) 1 1 Tryz.underlying42 hi hz0 hz1 hz2 rfl (by decide) (some (aD g 0)) 2 2 [.int .u8 84,.int .u8 83] rfl (fun h=>by cases h) rfl ?c1 (aD wr.heap.size 0) 1 1 [.int .u8 (n:Int)] rfl rfl ?c2 (by simp [Value.oneCell']) (by decide) (by decide) (by decide) ?_)
  case c1 =>
   intro j u hj
   exact (World.cell?_alloc_lt _ _ _ C.2.2).trans (C.1 j u hj)
  intro v' w1 hr hgr
  go_wp2
  go_ret
  refine ⟨v',rfl,?_⟩
  rw [show (84 :: 83 :: vbytes n:List UInt8)=[84,83,UInt8.ofNat n] from hv.out]
  have hba:=C.2.1.alloc C.2.1.size (.cells #[.int .u8 (n:Int)] 5)
  refine ⟨hba.grown hgr hba.size (fun k h=>by cases h),?_,fun k hk=>?_,fun h=>by cases h⟩
  ·have:=ownsRow_zero hr
   rw [← HU.out] at this
   exact this
  ·have:=(hr.lt k hk).1
   have:=C.2.1.size
   omega
set_option maxRecDepth 100000 in
set_option maxHeartbeats 8000000 in
theorem sbytes_law (sb:Nat) (D:List (List (List UInt8))) (kn:Value) (db:Nat) (R:Nat→Prop) (Λ:Nat→List Word) (ρ:Nat→Nat) (Dd:List DS) (pv:Value) (ps:List Value) (w:World) (hb:w.heap[sb]?=some (segObj D.length db pv 0 kn)) (hr:SegRest w D db R Λ ρ Dd pv ps)
  (hD:D.length < 128) (hDd:Dd.length < 1000000) (hto:∀ s∈Dd,s.edges.length < 1000000 ∧ ∀ e∈s.edges,e.2 < 1000000) (hsz:(segB D.length Dd ((Λ 0).map (postsOf D))).length≤5000000) :
  Calls Tryz.prog 44 #[ptrV sb] w fun e w'=>∃ v,e = .returned v∧ByteRow w w' v (segB D.length Dd ((Λ 0).map (postsOf D))):=by
 obtain ⟨hdi,_,_,hT,_,hpv,hps⟩:=hr
 obtain ⟨V,hV,hrows⟩:=hdi.mem
 obtain ⟨pa,pc,rfl⟩:=ownsRow_form hpv
 have hc:∀ W,Below w.heap.size w W→W.cell? (aD sb 0)=some (iV (D.length:Int))∧W.cell? (aD sb 1)=some (pT db)∧W.cell? (aD sb 2)=some (.slice pa (Λ 0).length pc):=fun W hW=>by
  have h:=(hW.block _ (lt_of_heap hb)).trans hb
  exact ⟨cell_block h,cell_block h,cell_block h⟩
 obtain ⟨P,hP⟩:∃ P,P=(Λ 0).map (postsOf D):=⟨_,rfl⟩
 rw [← hP] at hsz ⊢
 have hPl:(Λ 0).length=P.length:=by rw [hP]; simp
 rw [hPl] at hc hpv hT
 have hrow:∀ (i:Nat) (l:List Nat),P[i]?=some l → ∃ v,ps[i]?=some v∧w.ownsRow 0 3 1 v l.length (l.map intV)∧l.length≤1000∧l.Pairwise (· < ·) ∧ ∀ d∈l,d < 1000:=fun i l hl=>by
  rw [hP,List.getElem?_map,Option.map_eq_some_iff] at hl
  obtain ⟨x,hx,rfl⟩:=hl
  have hi:=(List.getElem?_eq_some_iff.1 hx).1
  have hpl:ps.length=P.length:=by have:=hpv.1; omega
  obtain ⟨v,hv⟩:∃ v,ps[i]?=some v:=⟨_,List.getElem?_eq_getElem (by omega)⟩
  exact ⟨v,hv,hps i v x hv hx,Nat.le_trans (postsOf_length D x) (by omega),postsOf_rise D x,fun d hd=>by have:=postsOf_lt D x d hd; omega⟩
 have hs0:2+(vbytes D.length).length+(statesB Dd).length+(P.flatMap postB).length≤5000000:=by
  have:=hsz
  unfold segB at this
  simp only [List.length_append,List.length_cons,List.length_nil] at this
  omega
 obtain ⟨c0,_⟩:=hc _ ((Below.refl _ w).alloc (Nat.le_refl _) (.cells #[.int .u8 84,.int .u8 83] 5 (2,3)))
 have HC:=Lib.hid hc
 have HV:=Lib.hid (And.intro hV (And.intro hrows hto))
 have HR:=Lib.hid (And.intro hpv hrow)
 clear hc hdi hps hpv hrow hV hrows hto hb hsz hP
 have hcv:=Lib.run_convert_bytes_const (P:=Tryz.prog) w 42 5 #[.int .u8 84,.int .u8 83] 2 2 Tryz.underlying42 Tryz.underlying5
 unfold ptrV
 go_enter Tryz.func44,Tryz.ntmps44
 go_upto_region 2 with (go_at_call 79; refine (putTS D.length hD w _ w.heap.size (Nat.le_refl _) ((Below.refl _ w).alloc (Nat.le_refl _) _) (heap_alloc_new w _)).mono ?_; rintro e W1 ⟨v1,rfl,h1⟩; obtain ⟨_,d1,_⟩:=HC W1 h1.below; have H1:=Lib.hid h1; clear c0 h1)
 have hL2:([84,83]++vbytes D.length++statesB Dd).length≤6000000:=by simp only [List.length_append,List.length_cons,List.length_nil]; omega
 go_upto_region 3 with (go_at_call 80; refine (dput_law db V Dd w W1 v1 _ HV.1 HV.2.1 hDd HV.2.2 hL2 H1).mono ?_; rintro e W2 ⟨v2,rfl,h2⟩; obtain ⟨_,_,d2⟩:=HC W2 h2.below; have H2:=Lib.hid h2; clear d1 h2)
 obtain ⟨X0,hX0⟩:∃ X0,X0=[84,83]++vbytes D.length++statesB Dd:=⟨_,rfl⟩
 rw [← hX0] at H2
 have hX0l:X0.length=2+(vbytes D.length).length+(statesB Dd).length:=by rw [hX0]; simp; omega
 have HX0:Hid (X0++P.flatMap postB=segB D.length Dd P):=Lib.hid (by rw [hX0]; rfl)
 clear hX0
 go_wp2_with fail
 clear d2
 go_loopw [3,27] (fun bv iv wr=>∃ i:Nat,i≤P.length∧iv = .int .i64 (i:Int)∧Hid (ByteRow w wr bv (X0++(P.take i).flatMap postB))) (fun _ iv _=>P.length - (intOf iv).toNat)
 case atStart=>exact ⟨0,Nat.zero_le _,rfl,by simpa using H2⟩
 case round =>
  obtain ⟨i,hi,rfl,HI⟩:=hrel
  have q1:IntKind.i64.wrap ((i:Int)+1)=(i:Int)+1:=IntWalk.i64_in _ (by omega)
  by_cases hlt:i < P.length
  ·have z1:(0:Int)≤(i:Int)∧(i:Int) < (P.length:Int):=by omega
   obtain ⟨l,hl⟩:∃ l,P[i]?=some l:=⟨_,List.getElem?_eq_getElem hlt⟩
   obtain ⟨v,hv,hvr,hll,hlp,hld⟩:=HR.2 i l hl
   obtain ⟨la,lc,rfl⟩:=ownsRow_form hvr
   obtain ⟨g,cap,e1,k0⟩:=ownsRow_cell HR.1 (j:=i) hv
   simp only [Value.slice.injEq,true_and] at e1
   obtain ⟨rfl,rfl⟩:=e1
   have c0:wr.cell? (aD g i)=some (.slice la l.length lc):=(HI.below.cell (lt_of_cell k0)).trans k0
   have hle:=flat_le postB P (i:=i+1)
   have hfl:=flat_take postB P hl
   rw [hfl,List.length_append] at hle
   have hpl:(postB l).length=(vbytes l.length).length+((List.range l.length).flatMap (gapB l)).length:=by simp [postB]
   obtain ⟨X,hX⟩:∃ X,X=X0++(P.take i).flatMap postB:=⟨_,rfl⟩
   have hXl:X.length+(vbytes l.length).length+((List.range l.length).flatMap (gapB l)).length≤5000000:=by rw [hX,List.length_append]; omega
   have HX:Hid (X++postB l=X0++(P.take (i+1)).flatMap postB):=Lib.hid (by rw [hX,hfl,List.append_assoc])
   rw [← hX] at HI
   obtain ⟨Y,hY⟩:∃ Y,Y=X++vbytes l.length:=⟨_,rfl⟩
   have hYl:Y.length+((List.range l.length).flatMap (gapB l)).length≤5000000:=by rw [hY,List.length_append]; omega
   have HY:Hid (Y++(List.range l.length).flatMap (gapB l)=X++postB l):=Lib.hid (by rw [hY]; simp [postB])
   have HL:=Lib.hid (And.intro hvr (And.intro hlp hld))
   clear hvr hlp hld hX k0 hl hv hle hfl hpl
   go_upto_region 7 with (go_at_call 79; refine (putB l.length (by omega) (by omega) HI).mono ?_; rintro e W3 ⟨v3,rfl,h3,_⟩; rw [← hY] at h3; have H3:=Lib.hid h3; clear c0 h3)
   clear hY
   go_wp2_with fail
   go_loopw [3,6,37] (fun bv lv jv wr=>∃ j:Nat,j≤l.length∧jv = .int .i64 (j:Int)∧(∃ la:Int,lv = .int .i64 la∧la=(nxt l j:Int) - 1)∧Hid (ByteRow w wr bv (Y++(List.range j).flatMap (gapB l)))) (fun _ _ jv _=>l.length - (intOf jv).toNat)
   case atStart=>exact ⟨0,Nat.zero_le _,rfl,⟨_,rfl,rfl⟩,by simpa using H3⟩
   case round =>
    as_aux_lemma =>
    obtain ⟨j,hj,rfl,⟨lz,rfl,hlz⟩,HJ⟩:=hrel
    have q2:IntKind.i64.wrap ((j:Int)+1)=(j:Int)+1:=IntWalk.i64_in _ (by omega)
    by_cases hlj:j < l.length
    ·have z2:(0:Int)≤(j:Int)∧(j:Int) < (l.length:Int):=by omega
     obtain ⟨d,hd⟩:∃ d,l[j]?=some d:=⟨_,List.getElem?_eq_getElem hlj⟩
     obtain ⟨g2,cap2,e1,k0⟩:=ownsRow_cell HL.1 (j:=j) (u:=intV d) (by rw [List.getElem?_map,hd]; rfl)
     simp only [Value.slice.injEq,true_and] at e1
     obtain ⟨rfl,rfl⟩:=e1
     have c1:wr.cell? (aD g2 j)=some (iV (d:Int)):=(HJ.below.cell (lt_of_cell k0)).trans k0
     have hgd:l.getD j 0=d:=by rw [List.getD_eq_getElem?_getD,hd]; rfl
     have hn:=nxt_le HL.2.1 hlj
     have hs:=nxt_succ l j
     rw [hgd] at hn hs
     have hd9:=HL.2.2 d (List.mem_of_getElem? hd)
     obtain ⟨m,hm⟩:∃ m,m=d - nxt l j:=⟨_,rfl⟩
     have s1:IntKind.i64.wrap ((d:Int) - lz)=(m:Int)+1:=by rw [IntWalk.i64_in _ (by omega)]; omega
     have s2:IntKind.i64.wrap ((m:Int)+1 - 1)=(m:Int):=by rw [IntWalk.i64_in _ (by omega)]; omega
     have hle:=flat_le (gapB l) (List.range l.length) (i:=j+1)
     rw [range_take _ _ (by omega),List.range_succ,List.flatMap_append,List.length_append] at hle
     have hg:gapB l j=vbytes m:=by unfold gapB; rw [hgd,hm]
     simp only [List.flatMap_cons,List.flatMap_nil,List.append_nil] at hle
     rw [hg] at hle
     obtain ⟨Z,hZ⟩:∃ Z,Z=Y++(List.range j).flatMap (gapB l):=⟨_,rfl⟩
     have hZl:Z.length+(vbytes m).length≤5000000:=by rw [hZ,List.length_append]; omega
     have HZ:Hid (Z++vbytes m=Y++(List.range (j+1)).flatMap (gapB l)):=Lib.hid (by rw [List.range_succ,List.flatMap_append,hZ,← hg]; simp)
     rw [← hZ] at HJ
     have HD:Hid ((d:Int)=(nxt l (j+1):Int) - 1):=Lib.hid (by rw [hs]; omega)
     have hm9:m < 1000:=by omega
     clear hZ hlz hle hg hn hs hgd hd k0 hm
     go_wp2_with (go_at_call 79; refine (putB m (by omega) (by omega) HJ).mono ?_; rintro e W4 ⟨v4,rfl,h4,_⟩; rw [HZ.out] at h4; have H4:=Lib.hid h4; clear c1 h4)
     exact ⟨⟨j+1,by omega,by go_num,⟨_,rfl,HD⟩,H4⟩,by simp [intOf]; omega⟩
    ·obtain rfl:j=l.length:=by omega
     rw [HY.out,HX.out] at HJ
     go_wp2_with fail
     exact ⟨⟨i+1,by omega,by go_num,HJ⟩,by simp [intOf]; omega⟩
  ·obtain rfl:i=P.length:=by omega
   rw [List.take_length,HX0.out] at HI
   go_wp2_with fail
   go_ret
   exact ⟨_,rfl,HI⟩
set_option maxRecDepth 100000 in
set_option maxHeartbeats 8000000 in
theorem sstates_law (sb nd db:Nat) (pv:Value) (kn:Value) (V:Value) (Dd:List DS) (w:World) (hb:w.heap[sb]?=some (segObj nd db pv 0 kn)) (hd:w.heap[db]?=some (.cells #[V] 172 (0,0))) (hr:Ts.RowsIn 0 w V Dd) :
  Calls Tryz.prog 45 #[ptrV sb] w fun e w'=>e = .returned (iV (Dd.length:Int))∧Same w w':=by
 obtain ⟨va,vc,rfl⟩:=ownsRow_form hr.row
 have c0:w.cell? (aD sb 1)=some (pT db):=cell_block hb
 have c1:w.cell? (aD db 0)=some (.slice va Dd.length vc):=cell_block hd
 unfold ptrV
 clear hb hd hr
 go_enter Tryz.func45,Tryz.ntmps45
 go_wp2_with fail
 go_ret
 exact ⟨rfl,Same.refl _⟩
end Go.Proofs.Tl
namespace Go.Proofs.Tl
open Go Go.RowKit Go.Proofs.Ts
def BSt (w W2 W:World) (ov:Value) (X:List UInt8):Prop:=ByteRow w W ov X∧Rest 5 W2 W
theorem BSt.below {w W2 W W':World} {ov:Value} {X:List UInt8} (h:BSt w W2 W ov X) (hb:Below W.heap.size W W'):BSt w W2 W' ov X:=⟨h.1.kept hb,h.2.trans (Rest.below hb)⟩
theorem BSt.step {w W2 W W':World} {ov v':Value} {X Y:List UInt8} (h:BSt w W2 W ov X) (k:ByteRow w W' v' Y∧Rest 5 W W'∧Moves W ov W' v'):BSt w W2 W' v' Y:=⟨k.1,h.2.trans k.2.1⟩
def LAt (W:World) (lv ov:Value) (l:List UInt8):Prop:=W.ownsRow 0 5 1 lv l.length (l.map byteV) ∧ ∀ g,lv.ownBlock=some g→ov.ownBlock≠some g
theorem LAt.below {W W':World} {lv ov:Value} {l:List UInt8} (h:LAt W lv ov l) (hb:Below W.heap.size W W'):LAt W' lv ov l:=⟨ownsRow_block h.1 fun k e=>hb.block k (h.1.lt k e).2,h.2⟩
theorem LAt.moves {W W':World} {lv ov v':Value} {l:List UInt8} (h:LAt W lv ov l) (hm:Moves W ov W' v'):LAt W' lv v' l:=by
 refine ⟨ownsRow_block h.1 fun k e=>hm.block (h.1.lt k e).2 (h.2 k e),fun g e e'=>?_⟩
 rcases hm.lies with h1 | ⟨g',h1,h2⟩
 ·exact h.2 g e (h1 ▸ e')
 ·rw [h1] at e'
  cases e'
  have:=(h.1.lt g e).2
  omega
theorem LAt.cell {W:World} {lv ov:Value} {l:List UInt8} (h:LAt W lv ov l) {k:Nat} {c:UInt8} (hc:l[k]?=some c):∃ g cap,lv=sL g l.length cap∧W.cell? (aD g k)=some (.int .u8 (c.toNat:Int)) :=
 ownsRow_cell h.1 (j:=k) (u:=byteV c) (by rw [List.getElem?_map,hc]; rfl)
theorem BSt.strs {w W2 W:World} {ov bv:Value} {X:List UInt8} {s:List (List UInt8)} (h:BSt w W2 W ov X) (hs:StrsAt W2 bv s):StrsAt W bv s:=ownsRow_typed hs fun k cs r hk=>(h.2 k cs _ r (by decide) hk).trans hk.symm
theorem BSt.ends {w W2 W:World} {ov ev:Value} {X:List UInt8} {Es:List (List (List UInt8))} (h:BSt w W2 W ov X) (hs:EndsIs W2 ev Es):EndsIs W ev Es:=by
 obtain ⟨vs,h1,h2⟩:=hs
 exact ⟨vs,ownsRow_typed h1 fun k cs r hk=>(h.2 k cs _ r (by decide) hk).trans hk.symm,fun i u E hu hE=>h.strs (h2 i u E hu hE)⟩
theorem BSt.at {w W2 W:World} {ov ev:Value} {X:List UInt8} {Es:List (List (List UInt8))} (h:BSt w W2 W ov X) (hs:EndsIs W2 ev Es) {i:Nat} {E:List (List UInt8)} (hE:Es[i]?=some E) :
  ∃ g cap u,ev=sL g Es.length cap∧(∀ W' ov' X',BSt w W2 W' ov' X'→W'.cell? (aD g i)=some u∧StrsAt W' u E):=by
 obtain ⟨hi,rfl⟩:=List.getElem?_eq_some_iff.1 hE
 obtain ⟨vs,h1,h2⟩:=hs
 have hl:vs.length=Es.length:=by have:=h1.1; omega
 obtain ⟨u,hu⟩:∃ u,vs[i]?=some u:=⟨_,List.getElem?_eq_getElem (by omega)⟩
 obtain ⟨g,cap,e,hc⟩:=ownsRow_cell h1 hu
 refine ⟨g,cap,u,e,fun W' ov' X' h'=>⟨?_,h'.strs (h2 i u _ hu (List.getElem?_eq_getElem hi))⟩⟩
 have hr:W'.ownsRow 0 35 1 ev Es.length vs:=ownsRow_typed h1 fun k cs r hk=>(h'.2 k cs _ r (by decide) hk).trans hk.symm
 obtain ⟨g',cap',e',hc'⟩:=ownsRow_cell hr hu
 rw [e] at e'
 cases e'
 exact hc'
def StatesAs (T:List (List UInt8)) (s:Met2) (Dd:List DS):Prop:=s.1.length=Dd.length∧s.2.length=Dd.length ∧ ∀ (i:Nat) d,Dd[i]?=some d →
 ∃ p,s.1[i]?=some p∧s.2[i]?=some (endR T p)∧d.final=decide ((endR T p).head?=some [])∧edgesR (endR T p)=d.edges.map (·.1)∧(∀ e∈d.edges,numR s.2 (endR T (p++[e.1]))=e.2)
theorem ByteRow.lit (w:World) (cs:Array Value) (L:List UInt8) (hc:cs.toList=L.map byteV) (hl:L.length≤1000) (h0:0 < L.length):ByteRow w (w.alloc (.cells cs 5)) (sL w.heap.size L.length L.length) L:=by
 refine ⟨(Below.refl _ _).alloc (Nat.le_refl _) _,?_,fun k hk=>?_,fun h=>by omega⟩
 ·rw [← hc]
  exact World.ownsRow_lit w cs L.length (Nat.zero_le _) (by unfold maxLen; omega) (by have:=congrArg List.length hc; simp at this; omega)
 ·cases hk
  exact Nat.le_refl _
theorem head_cases (E:List (List UInt8)) (f:Bool) (h:f=decide (E.head?=some [])):(E=[]∧f=false)∨(∃ r,E=[] :: r∧f=true)∨(∃ c t r,E=(c :: t) :: r∧f=false):=by
 match E with
 | []=>exact .inl ⟨rfl,by simpa using h⟩
 | [] :: r=>exact .inr (.inl ⟨r,rfl,by simpa using h⟩)
 | (c :: t) :: r=>exact .inr (.inr ⟨c,t,r,rfl,by simpa using h⟩)
set_option maxRecDepth 100000 in
set_option maxHeartbeats 16000000 in
theorem bytesR_law (B mb n:Nat) (T:List (List UInt8)) (L:List UInt8→List Nat) (Dd:List DS) (w:World) (hx:IndexIs B w mb n T L) (hT:T.length≤10000) (h16:∀ t∈T,t.length≤16) (hs:StatesAs T (meetR T 18 [] ([],[])) Dd)
  (hn:n < 1000) (hDd:Dd.length < 1000000) (hto:∀ s∈Dd,s.edges.length < 1000000 ∧ ∀ e∈s.edges,e.2 < 1000000) (hL:∀ x∈T,(L x).length≤1000∧(L x).Pairwise (· < ·) ∧ ∀ d∈L x,d < 1000) (hsz:(segB n Dd (T.map L)).length≤5000000) :
  Calls Tryz.prog 23 #[ptrV mb] w fun e w'=>∃ v,e = .returned v∧ByteRow w w' v (segB n Dd (T.map L)):=by
 have hxs:=hx
 obtain ⟨tv,pv,ps,x1,_,_,hpv,_,hps,_⟩:=hx.ex
 obtain ⟨pa,pc,rfl⟩:=ownsRow_form hpv
 have hc:∀ W,Below w.heap.size w W→W.cell? (aD mb 0)=some (iV (n:Int))∧W.cell? (aD mb 2)=some (.slice pa T.length pc):=fun W hW=>by
  have h:=(hW.block _ (lt_of_heap x1)).trans x1
  exact ⟨cell_block h,cell_block h⟩
 obtain ⟨P,hP⟩:∃ P,P=T.map L:=⟨_,rfl⟩
 rw [← hP] at hsz ⊢
 have hPl:T.length=P.length:=by rw [hP]; simp
 have hrow:∀ (i:Nat) (l:List Nat),P[i]?=some l → ∃ v,ps[i]?=some v∧w.ownsRow 0 3 1 v l.length (l.map intV)∧l.length≤1000∧l.Pairwise (· < ·) ∧ ∀ d∈l,d < 1000:=fun i l hl=>by
  rw [hP,List.getElem?_map,Option.map_eq_some_iff] at hl
  obtain ⟨x,hx,rfl⟩:=hl
  have hi:=(List.getElem?_eq_some_iff.1 hx).1
  have hpl:ps.length=T.length:=by have:=hpv.1; omega
  obtain ⟨v,hv⟩:∃ v,ps[i]?=some v:=⟨_,List.getElem?_eq_getElem (by omega)⟩
  exact ⟨v,hv,(hps i v x hv hx).1,hL x (List.mem_of_getElem? hx)⟩
 rw [hPl] at hc hpv
 have hs0:2+(vbytes n).length+(vbytes Dd.length).length+(Dd.flatMap stateB).length+(P.flatMap postB).length≤5000000:=by
  have:=hsz
  unfold segB statesB at this
  simp only [List.length_append,List.length_cons,List.length_nil] at this
  omega
 obtain ⟨s,hsm⟩:∃ s,s=meetR T 18 [] ([],[]):=⟨_,rfl⟩
 rw [← hsm] at hs
 have hb0:=ByteRow.lit w #[.int .u8 84,.int .u8 83] [84,83] rfl (by decide) (by decide)
 obtain ⟨c0,_⟩:=hc _ hb0.below
 have HC:=Lib.hid hc
 have HS:=Lib.hid hs
 have HR:=Lib.hid (And.intro hpv hrow)
 have HT:=Lib.hid (And.intro (fun W hW=>states_law B mb n T L W (hxs.below hW) hT h16) (And.intro hxs (And.intro h16 (And.intro hto hsm))))
 have HB0:=Lib.hid hb0
 obtain ⟨hs1,hs2,hs3⟩:=hs
 clear hc hpv hrow hsz hP hps x1 hxs hx hb0 hs3 hto hL hsm
 unfold ptrV
 go_enter Tryz.func23,Tryz.ntmps23
 go_upto_region 3 with (go_at_call 47; refine (varR_law n (by omega) (by decide) HB0).mono ?_; rintro e W1 ⟨v1,rfl,h1,_⟩; have H1:=Lib.hid h1; clear c0 h1)
 go_upto_region 4 with (go_at_call 48; refine (HT.1 W1 H1.below).mono ?_; rintro e W2 ⟨bv,ev,rfl,h2⟩; rw [← HT.2.2.2.2] at h2; obtain ⟨ba,bc,rfl⟩:=ownsRow_form h2.by'; rw [hs1] at h2 ⊢; have H2:=Lib.hid h2; clear h2)
 have hL2:([84,83]++vbytes n).length+100≤7000000:=by simp only [List.length_append,List.length_cons,List.length_nil]; omega
 go_upto_region 5 with (go_at_call 47; refine (varR_law Dd.length hDd hL2 (H1.out.kept H2.below)).mono ?_; rintro e W3 ⟨v3,rfl,h3,hr3,_⟩; have H3:=Lib.hid (show BSt w W2 W3 v3 _ from ⟨h3,hr3⟩); clear h3 hr3)
 obtain ⟨X0,hX0⟩:∃ X0,X0=[84,83]++vbytes n++vbytes Dd.length:=⟨_,rfl⟩
 rw [← hX0] at H3
 have hX0l:X0.length=2+(vbytes n).length+(vbytes Dd.length).length:=by rw [hX0]; simp only [List.length_append,List.length_cons,List.length_nil]
 have HX0:Hid (X0++Dd.flatMap stateB++P.flatMap postB=segB n Dd P):=Lib.hid (by rw [hX0]; simp [segB,statesB])
 have HE:=Lib.hid (And.intro H2.by' H2.ends)
 obtain ⟨ea,ec,rfl⟩:∃ a c,ev = .slice a s.2.length c:=by obtain ⟨vs,h1,_⟩:=H2.ends; exact ownsRow_form h1
 rw [hs2] at HE ⊢
 clear hX0 H2 H1 hL2 hs1 hs2
 go_upto_region 21 with fail
 go_loopw [3,6] (fun ov iv wr=>∃ i:Nat,i≤Dd.length∧iv = .int .i64 (i:Int)∧Hid (BSt w W2 wr ov (X0++(Dd.take i).flatMap stateB))) (fun _ iv _=>Dd.length - (intOf iv).toNat)
 case atStart=>exact ⟨0,Nat.zero_le _,rfl,by simpa using H3⟩
 case round =>
  obtain ⟨i,hi,rfl,HI⟩:=hrel
  have q1:IntKind.i64.wrap ((i:Int)+1)=(i:Int)+1:=IntWalk.i64_in _ (by omega)
  by_cases hlt:i < Dd.length
  ·have z1:(0:Int)≤(i:Int)∧(i:Int) < (Dd.length:Int):=by omega
   obtain ⟨⟨sf,es,sv,sb⟩,hd⟩:∃ d,Dd[i]?=some d:=⟨_,List.getElem?_eq_getElem hlt⟩
   obtain ⟨p,hp1,hp2,hf,hed,hnum⟩:=HS.2.2 i _ hd
   simp only at hf hed hnum
   obtain ⟨E,hE⟩:∃ E,E=endR T p:=⟨_,rfl⟩
   rw [← hE] at hp2 hf hed
   obtain ⟨ge,ce,u,e1,hcell⟩:=HI.out.at HE.2 hp2
   simp only [Value.slice.injEq] at e1
   obtain ⟨rfl,e2,rfl⟩:=e1
   clear e2
   obtain ⟨c0,st0⟩:=hcell _ _ _ HI.out
   obtain ⟨ua,uc,rfl⟩:=ownsRow_form st0
   obtain ⟨k,hk⟩:∃ k,k=E.length:=⟨_,rfl⟩
   have hkl:k≤10000:=by rw [hk,hE]; exact Nat.le_trans (endR_length T p) hT
   have hfl:=flat_take stateB Dd hd
   have hle:=flat_le stateB Dd (i:=i+1)
   have hsl:(stateB ⟨sf,es,sv,sb⟩).length=1+(vbytes es.length).length+(edgesB es).length:=by simp [stateB]; omega
   rw [hfl,List.length_append,hsl] at hle
   obtain ⟨X,hX⟩:∃ X,X=X0++(Dd.take i).flatMap stateB:=⟨_,rfl⟩
   have HX:Hid (X++stateB ⟨sf,es,sv,sb⟩=X0++(Dd.take (i+1)).flatMap stateB):=Lib.hid (by rw [hX,hfl,List.append_assoc])
   have hXb:X.length+1+(vbytes es.length).length+(edgesB es).length≤5000000:=by rw [hX,List.length_append]; omega
   rw [← hX] at HI
   obtain ⟨fb,hfb⟩:∃ fb:UInt8,fb=if sf then 1 else 0:=⟨_,rfl⟩
   obtain ⟨Y,hY⟩:∃ Y,Y=X++[fb]++vbytes es.length:=⟨_,rfl⟩
   have hYb:Y.length+(edgesB es).length≤5000000:=by rw [hY]; simp; omega
   have HY:Hid (Y++edgesB es=X++stateB ⟨sf,es,sv,sb⟩):=Lib.hid (by rw [hY,hfb]; simp [stateB])
   have HU:=Lib.hid hfb
   obtain ⟨hel,het⟩:=HT.2.2.2.1 _ (List.mem_of_getElem? hd)
   obtain ⟨le,hl9⟩:∃ le,le=es.map (·.1):=⟨_,rfl⟩
   rw [← hl9] at hed
   have hll:le.length=es.length:=by rw [hl9]; simp
   have HLE:=Lib.hid (And.intro hl9 hll)
   have hel9:le.length < 1000000:=by rw [hll]; exact hel
   have HP:=Lib.hid (And.intro hp1 (And.intro hE (And.intro hnum (And.intro hed (And.intro hcell (And.intro hk (And.intro (show Y=X++[fb]++vbytes le.length by rw [hll,hY]) (And.intro het hel))))))))
   have hcond:(¬ 0 < k∧sf=false)∨(0 < k ∧ ∃ gu,ua=some (aD gu 0)∧((wr.cell? (aD gu 0)=some (.string ⟨([]:List UInt8).toArray⟩)∧sf=true) ∨ ∃ c t,wr.cell? (aD gu 0)=some (.string ⟨(c :: t).toArray⟩)∧sf=false)):=by
    rcases head_cases E sf hf with ⟨h0,h1⟩ | ⟨r,h0,h1⟩ | ⟨c,t,r,h0,h1⟩
    ·exact .inl ⟨by rw [hk,h0]; simp,h1⟩
    all_goals
     obtain ⟨gu,cu,h2,h3⟩:=st0.cell (i:=0) (by rw [h0]; simp)
     simp only [Value.slice.injEq] at h2
     refine .inr ⟨by rw [hk,h0]; simp,gu,h2.1,?_⟩
    ·exact .inl ⟨by rw [h3]; simp [h0],h1⟩
    ·exact .inr ⟨c,t,by rw [h3]; simp [h0],h1⟩
   rw [← hk] at c0
   have hk9:Hid (k=E.length):=Lib.hid hk
   have hXb9:X.length+1+(vbytes le.length).length+(edgesB es).length≤5000000:=by rw [hll]; exact hXb
   clear hl9 hll hel hXb
   clear hp1 hp2 hf hed hnum hE hcell hfl hX hfb hY hd st0 hle het hsl hk
   rcases hcond with ⟨hk0,rfl⟩ | ⟨hk0,gu,rfl,⟨c1,rfl⟩ | ⟨c,t,c1,rfl⟩⟩
   all_goals
    as_aux_lemma =>
    try have g0:(([]:List UInt8) == [])=true:=rfl
    have zu:(0:Int)≤0∧(0:Int) < (k:Int)∨k=0:=by omega
    go_upto_region 11 with fail
    go_upto_region 12 with (at_builtin; refine wpList_appB rfl _ _ rfl HI.out.1 (by omega) fb _ (by rw [HU.out]; rfl) rfl rfl (fun v4 W4 h4=>?_); have H4:=Lib.hid (HI.out.step h4); clear h4)
    obtain ⟨c4,st4⟩:=HP.2.2.2.2.1 _ _ _ H4.out
    rw [← hk9.out] at c4
    have hcall:=edges_law E _ W4 st4 (by have:=hk9.out; omega)
    rw [← hk9.out] at hcall
    have HCALL:=Lib.hid hcall
    clear c0 HU st4 hcall
    try clear c1 g0
    go_upto_region 13 with (go_at_call 49; go_loud (refine HCALL.mono ?_; rintro e W5 ⟨lv,rfl,h5⟩; rw [HP.2.2.2.1] at h5; obtain ⟨la,lc,rfl⟩:=ownsRow_form h5.row; have H5:=Lib.hid (And.intro (H4.out.below h5.below) (show LAt W5 _ v4 le from ⟨h5.row,fun g e e'=>by have:=(H4.out.1.row.lt g e').2; have:=h5.past g e; omega⟩)); clear h5))
    clear c4
    have hXl:(X++[fb]).length+100≤7000000:=by simp; omega
    go_upto_region 14 with (go_at_call 47; refine (varR_law le.length (by omega) hXl H5.out.1.1).mono ?_; rintro e W6 ⟨v6,rfl,h6⟩; have H6:=Lib.hid (show BSt w W2 W6 v6 (Y++edgesB (es.take 0))∧LAt W6 _ v6 le from ⟨by have:=H5.out.1.step h6; rw [HP.2.2.2.2.2.2.1]; simpa [edgesB] using this,H5.out.2.moves h6.2.2⟩); clear h6)
    clear H5 H4
    go_wp2_with fail
    go_loopw [3,9] (fun ov kv wr=>∃ k:Nat,k≤le.length∧kv = .int .i64 (k:Int)∧Hid (BSt w W2 wr ov (Y++edgesB (es.take k))∧LAt wr (.slice la le.length lc) ov le)) (fun _ kv _=>le.length - (intOf kv).toNat)
    case atStart=>exact ⟨0,Nat.zero_le _,rfl,H6⟩
    case round =>
     as_aux_lemma =>
     obtain ⟨j,hj,rfl,HJ⟩:=hrel
     have q2:IntKind.i64.wrap ((j:Int)+1)=(j:Int)+1:=IntWalk.i64_in _ (by omega)
     by_cases hlj:j < le.length
     ·have z2:(0:Int)≤(j:Int)∧(j:Int) < (le.length:Int):=by omega
      obtain ⟨⟨c,t⟩,hct⟩:∃ p,es[j]?=some p:=⟨_,List.getElem?_eq_getElem (by have:=HLE.2; omega)⟩
      have hlc:le[j]?=some c:=by rw [HLE.1,List.getElem?_map,hct]; rfl
      obtain ⟨gl,cl,e1,d0⟩:=HJ.2.cell hlc
      simp only [Value.slice.injEq,true_and] at e1
      obtain ⟨rfl,rfl⟩:=e1
      obtain ⟨gb,cb,e2,d1⟩:=(HJ.1.strs HE.1).cell (i:=i) (by rw [HS.1]; exact hlt)
      rw [HS.1] at e2
      simp only [Value.slice.injEq,true_and] at e2
      obtain ⟨rfl,rfl⟩:=e2
      rw [(List.getElem?_eq_some_iff.1 HP.1).2] at d1
      have ht:t < 1000000:=HP.2.2.2.2.2.2.2.1 _ (List.mem_of_getElem? hct)
      have hmem:(c,t)∈es:=List.mem_of_getElem? hct
      have hp17:p.length≤16:=by
       obtain ⟨r,hr⟩:=edgesR_mem (E:=E) (c:=c) (by rw [HP.2.2.2.1]; exact List.mem_of_getElem? hlc)
       rw [HP.2.1] at hr
       have:=HT.2.2.1 _ (endR_mem.1 hr)
       simp at this
       omega
      have hfl:=flat_take (fun e:UInt8 × Nat=>e.1 :: vbytes e.2) es hct
      have hle:=flat_le (fun e:UInt8 × Nat=>e.1 :: vbytes e.2) es (i:=j+1)
      rw [hfl,List.length_append,List.length_cons] at hle
      change _+((vbytes t).length+1)≤_ at hle
      obtain ⟨Z,hZ⟩:∃ Z,Z=Y++edgesB (es.take j):=⟨_,rfl⟩
      have hZl:Z.length+(vbytes t).length+1≤5000000:=by rw [hZ,List.length_append]; unfold edgesB at hYb ⊢; omega
      have HZ:Hid (Z++[c]++vbytes t=Y++edgesB (es.take (j+1))):=Lib.hid (by unfold edgesB; rw [hfl,hZ]; simp [edgesB])
      rw [← hZ] at HJ
      have HN:Hid (numR s.2 (endR T (p++[c]))=t):=Lib.hid (HP.2.2.1 _ hmem)
      have hcat:(⟨p.toArray⟩:ByteArray)++⟨#[c]⟩=⟨(p++[c]).toArray⟩:=by
       apply ByteArray.ext
       simp
      have hcv:(convert 42 9 (sL wr.heap.size 1 1)).run Tryz.prog (wr.alloc (.cells #[.int .u8 (c.toNat:Int)] 5)).drew = .ok (.string ⟨#[c]⟩) (wr.alloc (.cells #[.int .u8 (c.toNat:Int)] 5)).drew:=conv_one c wr.drew
      have HW:=Lib.hid ((Below.refl wr.heap.size wr).alloc (Nat.le_refl _) (.cells #[.int .u8 (c.toNat:Int)] 5)).drew
      have hend:=endings_law (p++[c]) B mb n T L _ (HT.2.1.below (HJ.1.1.below.trans (HW.out.mono HJ.1.1.below.size))) (by omega) HT.2.2.1 (by simp; omega)
      unfold ptrV strV at hend
      have HEND:=Lib.hid hend
      have hpl9:¬ 9223372036854775807 < p.length+1:=by omega
      clear hend
      have D:=Lib.hid (And.intro d0 d1)
      have HC9:Hid ((es[j]?).map (·.1)=some c):=Lib.hid (by rw [hct]; rfl)
      clear hct hlc hmem hfl hle hZ d0 d1
      go_upto_region 17 with fail
      refine wp_region_ord [(0,false),(1,false),(2,false),(3,false),(4,false),(5,false),(6,false),(7,false),(8,false),(9,true),(10,true),(11,false),(12,true),(13,false)]
       (fun w'=>w'.cell? (aD gl j)=some (.int .u8 (c.toNat:Int))∧w'.cell? (aD gb i)=some (.string ⟨p.toArray⟩)) (by kernel_rfl) (by kernel_rfl) ⟨D.1,D.2⟩ ?_
      iterate 9 (
       refine wpOrd_quiet ?_ rfl rfl (fun w' hS=>?_) ?_
       rotate_left
       ·obtain ⟨f0,f1⟩:=hS
        go_simp
        try rfl
       simp only [put_lit,List.set_cons_succ,List.set_cons_zero])
      refine wpOrd_loud rfl rfl (by decide) (fun K hK=>?_)
      go_simp
      have hS8:(wr.alloc (.cells #[.int .u8 (c.toNat:Int)] 5)).drew.cell? (aD gl j)=some (.int .u8 (c.toNat:Int))∧(wr.alloc (.cells #[.int .u8 (c.toNat:Int)] 5)).drew.cell? (aD gb i)=some (.string ⟨p.toArray⟩):=⟨(World.cell?_alloc_lt wr _ _ (lt_of_cell D.1)).trans D.1,(World.cell?_alloc_lt wr _ _ (lt_of_cell D.2)).trans D.2⟩
      refine hK _ _ hS8 ?_
      clear hK K
      refine wpOrd_loud rfl rfl (by decide) (fun K hK=>?_)
      go_simp
      refine hK _ _ hS8 ?_
      clear hK K
      refine wpOrd_quiet ?_ rfl rfl (fun w' hS=>?_) ?_
      rotate_left
      ·go_simp
       try rfl
      simp only [put_lit,List.set_cons_succ,List.set_cons_zero]
      refine wpOrd_loud rfl rfl (by decide) (fun K hK=>?_)
      go_simp
      clear hpl9
      go_must (refine HEND.mono ?_)
      rintro e W9 ⟨xv,rfl,h9⟩
      have H9:=Lib.hid h9
      have HJ9:=Lib.hid (And.intro (HJ.1.below (HW.out.trans (h9.below.mono HW.out.size))) (HJ.2.below (HW.out.trans (h9.below.mono HW.out.size))))
      refine hK _ _ ⟨(h9.below.cell (lt_of_cell hS8.1)).trans hS8.1,(h9.below.cell (lt_of_cell hS8.2)).trans hS8.2⟩ ?_
      clear hK K h9
      refine wpOrd_quiet ?_ rfl rfl (fun w' hS=>?_) ?_
      rotate_left
      ·go_simp
       try rfl
      refine wpOrd_nil ?_
      have hE9:(endR T (p++[c])).length≤10000:=Nat.le_trans (endR_length T _) hT
      have hcall:=number_law s.2 (endR T (p++[c])) _ xv W9 (HJ9.1.ends HE.2) H9.row (by rw [HS.2.1]; omega) (fun X hX=>by
       obtain ⟨x,hx⟩:=List.getElem?_of_mem hX
       obtain ⟨d,hd⟩:∃ d,Dd[x]?=some d:=⟨_,List.getElem?_eq_getElem (by have:=(List.getElem?_eq_some_iff.1 hx).1; rw [HS.2.1] at this; exact this)⟩
       obtain ⟨q,_,h2,_⟩:=HS.2.2 x d hd
       rw [hx] at h2
       cases h2
       exact Nat.le_trans (Nat.le_trans (endR_length T q) hT) (by decide)) (by omega)
      rw [HN.out] at hcall
      have HNUM:=Lib.hid hcall
      clear hcall hE9 hcv hcat hS8
      obtain ⟨xa,xc,rfl⟩:=ownsRow_form H9.row
      go_upto_region 19 with (go_at_call 51; go_must (refine HNUM.mono ?_); rintro e W10 ⟨rfl,h10⟩; have HJ10:=Lib.hid (And.intro (HJ9.1.below (h10.below _)) (HJ9.2.below (h10.below _))); clear h10)
      obtain ⟨gl',cl',e1,d0⟩:=HJ10.2.cell (c:=c) (k:=j) (by rw [HLE.1,List.getElem?_map]; exact HC9.out)
      simp only [Value.slice.injEq,Option.some.injEq,Addr.mk.injEq] at e1
      obtain ⟨⟨rfl,e5⟩,e6⟩:=e1
      clear e5 e6
      go_upto_region 20 with (at_builtin; refine wpList_appB rfl _ _ rfl HJ10.1.1 (by omega) c _ rfl rfl rfl (fun v4 W11 h4=>?_); have H11:=Lib.hid (And.intro (HJ10.1.step h4) (HJ10.2.moves h4.2.2)); clear h4 d0)
      go_wp2_with (go_at_call 47; refine (varR_law t ht (by simp; omega) H11.1.1).mono ?_; rintro e W12 ⟨v6,rfl,h6⟩; have H12:=Lib.hid (And.intro (H11.1.step h6) (H11.2.moves h6.2.2)); clear h6)
      exact ⟨⟨j+1,by omega,by go_num,by have:=H12.out; rw [HZ.out] at this; exact this⟩,by simp [intOf]; omega⟩
     ·obtain rfl:j=le.length:=by omega
      rw [HLE.2,List.take_length,HY.out,HX.out] at HJ
      go_wp2_with fail
      exact ⟨⟨i+1,by omega,by go_num,Lib.hid HJ.1⟩,by simp [intOf]; omega⟩
  ·obtain rfl:i=Dd.length:=by omega
   rw [List.take_length] at HI
   obtain ⟨X1,hX1⟩:∃ X1,X1=X0++Dd.flatMap stateB:=⟨_,rfl⟩
   rw [← hX1] at HI
   have hX1l:X1.length=X0.length+(Dd.flatMap stateB).length:=by rw [hX1,List.length_append]
   have HX1:Hid (X1++P.flatMap postB=segB n Dd P):=Lib.hid (by rw [hX1]; exact HX0.out)
   have HI1:=Lib.hid HI.out.1
   clear hX1 HI
   go_wp2_with fail
   go_loopw [3,12] (fun ov iv wr=>∃ i:Nat,i≤P.length∧iv = .int .i64 (i:Int)∧Hid (ByteRow w wr ov (X1++(P.take i).flatMap postB))) (fun _ iv _=>P.length - (intOf iv).toNat)
   case atStart=>exact ⟨0,Nat.zero_le _,rfl,by simpa using HI1⟩
   case round =>
    as_aux_lemma =>
    obtain ⟨i,hi,rfl,HI⟩:=hrel
    have q1:IntKind.i64.wrap ((i:Int)+1)=(i:Int)+1:=IntWalk.i64_in _ (by omega)
    obtain ⟨_,b0⟩:=HC.out wr HI.out.below
    by_cases hlt:i < P.length
    ·have z1:(0:Int)≤(i:Int)∧(i:Int) < (P.length:Int):=by omega
     obtain ⟨l,hl⟩:∃ l,P[i]?=some l:=⟨_,List.getElem?_eq_getElem hlt⟩
     obtain ⟨v,hv,hvr,hll,hlp,hld⟩:=HR.2 i l hl
     obtain ⟨la,lc,rfl⟩:=ownsRow_form hvr
     obtain ⟨g,cap,e1,k0⟩:=ownsRow_cell HR.1 (j:=i) hv
     simp only [Value.slice.injEq,true_and] at e1
     obtain ⟨rfl,rfl⟩:=e1
     have hcell:∀ W,Below w.heap.size w W→W.cell? (aD mb 2)=some (sL g P.length pc)∧W.cell? (aD g i)=some (.slice la l.length lc):=fun W hb=>⟨(HC.out W hb).2,(hb.cell (lt_of_cell k0)).trans k0⟩
     obtain ⟨_,c0⟩:=hcell wr HI.out.below
     have hle:=flat_le postB P (i:=i+1)
     have hfl:=flat_take postB P hl
     rw [hfl,List.length_append] at hle
     have hpl:(postB l).length=(vbytes l.length).length+((List.range l.length).flatMap (gapB l)).length:=by simp [postB]
     obtain ⟨X,hX⟩:∃ X,X=X1++(P.take i).flatMap postB:=⟨_,rfl⟩
     have hXl:X.length+(vbytes l.length).length+((List.range l.length).flatMap (gapB l)).length≤5000000:=by rw [hX,List.length_append]; omega
     have HX:Hid (X++postB l=X1++(P.take (i+1)).flatMap postB):=Lib.hid (by rw [hX,hfl,List.append_assoc])
     rw [← hX] at HI
     obtain ⟨Y,hY⟩:∃ Y,Y=X++vbytes l.length:=⟨_,rfl⟩
     have hYl:Y.length+((List.range l.length).flatMap (gapB l)).length≤5000000:=by rw [hY,List.length_append]; omega
     have HY:Hid (Y++(List.range l.length).flatMap (gapB l)=X++postB l):=Lib.hid (by rw [hY]; simp [postB])
     have HL:=Lib.hid (And.intro hvr (And.intro hlp (And.intro hld hcell)))
     clear hvr hlp hld hX k0 hl hv hle hfl hpl hcell
     go_upto_region 25 with (go_at_call 47; refine (varR_law l.length (by omega) (by omega) HI).mono ?_; rintro e W3 ⟨v3,rfl,h3,_⟩; rw [← hY] at h3; have H3:=Lib.hid h3; clear c0 b0 h3)
     clear hY
     go_wp2_with fail
     go_loopw [3,13,14] (fun bv lv jv wr=>∃ j:Nat,j≤l.length∧jv = .int .i64 (j:Int)∧(∃ la:Int,lv = .int .i64 la∧la=(nxt l j:Int) - 1)∧Hid (ByteRow w wr bv (Y++(List.range j).flatMap (gapB l)))) (fun _ _ jv _=>l.length - (intOf jv).toNat)
     case atStart=>exact ⟨0,Nat.zero_le _,rfl,⟨_,rfl,rfl⟩,by simpa using H3⟩
     case round =>
      as_aux_lemma =>
      obtain ⟨j,hj,rfl,⟨lz,rfl,hlz⟩,HJ⟩:=hrel
      have q2:IntKind.i64.wrap ((j:Int)+1)=(j:Int)+1:=IntWalk.i64_in _ (by omega)
      obtain ⟨b0,c0⟩:=HL.2.2.2 wr HJ.out.below
      by_cases hlj:j < l.length
      ·have z2:(0:Int)≤(j:Int)∧(j:Int) < (l.length:Int):=by omega
       obtain ⟨d,hd⟩:∃ d,l[j]?=some d:=⟨_,List.getElem?_eq_getElem hlj⟩
       obtain ⟨g2,cap2,e1,k0⟩:=ownsRow_cell HL.1 (j:=j) (u:=intV d) (by rw [List.getElem?_map,hd]; rfl)
       simp only [Value.slice.injEq,true_and] at e1
       obtain ⟨rfl,rfl⟩:=e1
       have c1:wr.cell? (aD g2 j)=some (iV (d:Int)):=(HJ.below.cell (lt_of_cell k0)).trans k0
       have hgd:l.getD j 0=d:=by rw [List.getD_eq_getElem?_getD,hd]; rfl
       have hn:=nxt_le HL.2.1 hlj
       have hs:=nxt_succ l j
       rw [hgd] at hn hs
       have hd9:=HL.2.2.1 d (List.mem_of_getElem? hd)
       obtain ⟨m,hm⟩:∃ m,m=d - nxt l j:=⟨_,rfl⟩
       have s1:IntKind.i64.wrap ((d:Int) - lz)=(m:Int)+1:=by rw [IntWalk.i64_in _ (by omega)]; omega
       have s2:IntKind.i64.wrap ((m:Int)+1 - 1)=(m:Int):=by rw [IntWalk.i64_in _ (by omega)]; omega
       have hle:=flat_le (gapB l) (List.range l.length) (i:=j+1)
       rw [range_take _ _ (by omega),List.range_succ,List.flatMap_append,List.length_append] at hle
       have hg:gapB l j=vbytes m:=by unfold gapB; rw [hgd,hm]
       simp only [List.flatMap_cons,List.flatMap_nil,List.append_nil] at hle
       rw [hg] at hle
       obtain ⟨Z,hZ⟩:∃ Z,Z=Y++(List.range j).flatMap (gapB l):=⟨_,rfl⟩
       have hZl:Z.length+(vbytes m).length≤5000000:=by rw [hZ,List.length_append]; omega
       have HZ:Hid (Z++vbytes m=Y++(List.range (j+1)).flatMap (gapB l)):=Lib.hid (by rw [List.range_succ,List.flatMap_append,hZ,← hg]; simp)
       rw [← hZ] at HJ
       have HD:Hid ((d:Int)=(nxt l (j+1):Int) - 1):=Lib.hid (by rw [hs]; omega)
       have hm9:m < 1000:=by omega
       have HK:=Lib.hid k0
       clear hZ hlz hle hg hn hs hgd hd k0 hm
       go_wp2_with (go_at_call 47; refine (varR_law m (by omega) (by omega) HJ).mono ?_; rintro e W4 ⟨v4,rfl,h4,_⟩; rw [HZ.out] at h4; have H4:=Lib.hid h4; clear c1 c0 b0; obtain ⟨b0,c0⟩:=HL.2.2.2 W4 h4.below; have c1:W4.cell? (aD g2 j)=some (iV (d:Int)):=(h4.below.cell (lt_of_cell HK.out)).trans HK.out; clear h4)
       exact ⟨⟨j+1,by omega,by go_num,⟨_,rfl,HD⟩,H4⟩,by simp [intOf]; omega⟩
      ·obtain rfl:j=l.length:=by omega
       rw [HY.out,HX.out] at HJ
       go_wp2_with fail
       exact ⟨⟨i+1,by omega,by go_num,HJ⟩,by simp [intOf]; omega⟩
    ·obtain rfl:i=P.length:=by omega
     rw [List.take_length,HX1.out] at HI
     go_wp2_with fail
     go_ret
     exact ⟨_,rfl,HI⟩
end Go.Proofs.Tl
namespace Go.Proofs.Tl
open Go Go.RowKit Go.Proofs.Ts
def numsB (L:List UInt8):List Int:=L.map fun c=>(c.toNat:Int)
theorem numsB_of {w:World} {v:Value} {L:List UInt8}:BytesOf w v (numsB L)↔w.ownsRow 0 5 1 v L.length (L.map byteV):=by
 unfold BytesOf numsB
 rw [List.length_map,List.map_map]
 exact Iff.rfl
structure WritAt (w w':World) (wb n:Nat) (xv mv nv bv bv' va cv:Value) (bc:List Value) (L:List UInt8) (z:Nat):Prop where
 hub:w'.heap[wb]?=some (.cells #[xv,mv,nv,bv'] 32 (0,0))
 row:w'.ownsRow 0 67 2 bv' (n+1) (bc++[va,cv])
 own:∀ k,bv'.ownBlock=some k→bv.ownBlock=some k∨w.heap.size≤k
 real:BytesOf w' va (numsB L)
 want:BytesOf w' cv (numsB L)
 rpast:∀ k,va.ownBlock=some k→w.heap.size≤k∧k < z
 wpast:∀ k,cv.ownBlock=some k→z≤k
 zpast:w.heap.size≤z
 mod:Mod (fun k=>k=wb∨bv.ownBlock=some k) w w'
set_option maxRecDepth 100000 in
set_option maxHeartbeats 4000000 in
theorem written_law (sb mb wb n k:Nat) (L:List UInt8) (xv mv nv bv:Value) (bc:List Value) (w:World) (hn:n≤1000000) (hl:L.length≤8000000)
  (hub:w.heap[wb]?=some (.cells #[xv,mv,nv,bv] 32 (0,0))) (hrow:w.ownsRow 0 67 2 bv n bc)
  (h1:Calls Tryz.prog 44 #[ptrV sb] w fun e w'=>∃ v,e = .returned v∧ByteRow w w' v L)
  (h2:∀ W,Below w.heap.size w W→Calls Tryz.prog 23 #[ptrV mb] W fun e w'=>∃ v,e = .returned v∧ByteRow W w' v L)
  (h3:∀ W,Below w.heap.size w W→Calls Tryz.prog 45 #[ptrV sb] W fun e w'=>e = .returned (iV (k:Int))∧Same W w')
  (h4:∀ W,Below w.heap.size w W→Calls Tryz.prog 46 #[ptrV mb] W fun e w'=>e = .returned (iV (k:Int))∧Below W.heap.size W w') :
  Calls Tryz.prog 22 #[ptrV wb,ptrV sb,ptrV mb] w fun e w'=>e = .returned (.bool true) ∧ ∃ bv' va cv z,WritAt w w' wb n xv mv nv bv bv' va cv bc L z:=by
 obtain ⟨i1,hi1,hw0,hw1,hw2⟩:=info_parts Tryz.info67
 obtain ⟨na,ncap,rfl⟩:=ownsRow_form hrow
 have H:=Lib.hid (And.intro h1 (And.intro h2 (And.intro h3 h4)))
 have HUB:=Lib.hid (And.intro hub hrow)
 clear h1 h2 h3 h4 hub hrow
 unfold ptrV at *
 go_enter Tryz.func22,Tryz.ntmps22
 go_upto_region 2 with (go_at_call 44; go_must (refine H.1.mono ?_); rintro e w1 ⟨va,rfl,k1⟩; have K1:=Lib.hid k1; clear k1)
 go_upto_region 3 with (go_at_call 23; go_must (refine (H.2.1 w1 K1.below).mono ?_); rintro e w2 ⟨cv,rfl,k2⟩; have K2:=Lib.hid (And.intro k2 (K1.below.trans (k2.below.mono K1.below.size))); clear k2)
 go_upto_region 4 with (go_at_call 45; go_must (refine (H.2.2.1 w2 K2.2).mono ?_); rintro e w3 ⟨rfl,k3⟩; have K3:=Lib.hid (K2.2.trans ((k3.below _).mono K2.2.size)); have S3:=Lib.hid k3; clear k3)
 go_upto_region 5 with (go_at_call 46; go_must (refine (H.2.2.2 w3 K3).mono ?_); rintro e w4 ⟨rfl,k4⟩; have K4:=Lib.hid (And.intro (K3.out.trans (k4.mono K3.out.size)) ((S3.out.below w2.heap.size).trans (k4.mono (by rw [S3.out.heap]; exact Nat.le_refl _)))); clear k4)
 have hra:w4.ownsRow 0 5 1 va L.length (L.map byteV):=ownsRow_block K1.row fun k e=>(K4.2.block k (Nat.lt_of_lt_of_le (K1.row.lt k e).2 K2.1.below.size)).trans (K2.1.below.block k (K1.row.lt k e).2)
 have hrc:w4.ownsRow 0 5 1 cv L.length (L.map byteV):=ownsRow_block K2.1.row fun k e=>K4.2.block k (K2.1.row.lt k e).2
 have HSM:=Lib.hid (sameBytes_law (numsB L) va cv w4 (numsB_of.2 hra) (numsB_of.2 hrc) (by unfold numsB; rw [List.length_map]; exact hl))
 have HRA:=Lib.hid (And.intro hra hrc)
 clear hra hrc
 obtain ⟨aa,ac,rfl⟩:=ownsRow_form HRA.1
 obtain ⟨ca,cc,rfl⟩:=ownsRow_form HRA.2
 go_upto_region 6 with (go_at_call 33; go_must (refine HSM.mono ?_); rintro e w5 ⟨rfl,k5⟩; have S5:=Lib.hid k5; clear k5)
 have hub2:w5.heap[wb]?=some (.cells #[xv,mv,nv,.slice na n ncap] 32 (0,0)):=by rw [S5.heap]; exact (K4.1.block _ (lt_of_heap HUB.1)).trans HUB.1
 have hr2:w5.ownsRow 0 67 2 (.slice na n ncap) n bc:=ownsRow_block HUB.2 fun k e=>by rw [S5.heap]; exact K4.1.block k (HUB.2.lt k e).2
 have c2:w5.cell? (aD wb 3)=some (.slice na n ncap):=cell_block hub2
 have f2:w5.frozen? (aD wb 3)=false:=free_block hub2
 have HB5:=Lib.hid (K4.1.trans ((S5.below w4.heap.size).mono K4.1.size))
 have HUB2:=Lib.hid hub2
 have HRR2:=Lib.hid hr2
 clear hub2 hr2
 have hnb:(Value.slice na n ncap).ownBlock≠some wb:=fun e=>by
  have:=ownsRow_type HRR2 e HUB2
  revert this
  decide
 have HNB:=Lib.hid hnb
 have HRN:=Lib.hid (And.intro (HRR2.alloc (.cells #[.slice aa L.length ac,.slice ca L.length cc] 67)) (cell_two_new w5 (.slice aa L.length ac) (.slice ca L.length cc) 67))
 clear hnb
 go_upto_region 7 with (at_builtin; refine wpList_append_lies rfl _ _ 30 rfl 67 i1 (.agg #[.slice none 0 0,.slice none 0 0]) 2 48 Tryz.underlying30 hi1 hw0 hw1 hw2 rfl (by decide) (.slice na n ncap) n bc rfl HRN.1 (aD w5.heap.size 0) 1 1 [.slice aa L.length ac,.slice ca L.length cc] rfl rfl (by simpa using HRN.2) (by simp [Value.oneCell']) (by decide) (by unfold maxLen; omega) (by omega) ?_; intro nv6 w6 hrow6 hg6 hl6; obtain ⟨g6,cap6,rfl⟩:=ownsRow_head hrow6; have HM6:=Lib.hid (And.intro hrow6 ((Moves.alloc w5 _ _).trans (Moves.append hg6 hl6))); clear hrow6 hg6 hl6; have hub6:=(HM6.2.block (lt_of_heap HUB2.out) HNB.out).trans HUB2.out; have f6:w6.frozen? (aD wb 3)=false:=free_block hub6; have c6:w6.cell? (aD wb 3)=some (.slice na n ncap):=cell_block hub6; have HUB6:=Lib.hid hub6; clear hub6 c2 f2)
 have hg6:g6≠wb:=fun e=>by
  subst e
  have:=ownsRow_type HM6.1 rfl HUB6
  revert this
  decide
 have hkeep:∀ (v:Value),w5.ownsRow 0 5 1 v L.length (L.map byteV)→(w6.setCell (aD wb 3) (sL g6 (n+1) cap6)).ownsRow 0 5 1 v L.length (L.map byteV):=fun v hv=>ownsRow_block hv fun k e=>by
  refine (Below.heap_setCell w6 _ _ k fun e'=>?_).trans (HM6.2.block (hv.lt k e).2 fun e'=>?_)
  ·have e9:k=wb:=e'
   subst e9
   have:=ownsRow_type hv e HUB2
   revert this
   decide
  ·obtain ⟨cur,hcur⟩:=ownsRow_cells HRR2 e'
   have:=ownsRow_type hv e hcur
   revert this
   decide
 have hwa:WritAt w (w6.setCell (aD wb 3) (sL g6 (n+1) cap6)) wb n xv mv nv (.slice na n ncap) (sL g6 (n+1) cap6) (.slice aa L.length ac) (.slice ca L.length cc) bc L w1.heap.size:=by
  have hsz:w.heap.size≤w5.heap.size:=HB5.size
  refine ⟨heap_setCell_same w6 wb 3 _ _ _ HUB6,ownsRow_block HM6.1 fun k e=>Below.heap_setCell w6 _ _ k fun e'=>hg6 ((Option.some.inj e).trans e'),fun k hk=>?_,numsB_of.2 (hkeep _ (ownsRow_block HRA.1 fun k _=>by rw [S5.heap])),numsB_of.2 (hkeep _ (ownsRow_block HRA.2 fun k _=>by rw [S5.heap])),
   fun k e=>⟨K1.past k e,(K1.row.lt k e).2⟩,fun k e=>K2.1.past k e,K1.below.size,(below_mod HB5.out).trans ((Mod.grown HM6.2.grown fun k e _ => .inr e).trans (Mod.setCell w6 _ _ fun _ => .inl rfl))⟩
  rcases HM6.2.lies with h | ⟨g,h,hg⟩
  ·exact .inl (h ▸ hk)
  ·rw [hk] at h
   cases h
   exact .inr (Nat.le_trans hsz hg)
 have HWA:=Lib.hid hwa
 clear hwa hkeep
 have g1:((k:Int) == (k:Int))=true:=beq_self_eq_true _
 go_wp2_with fail
 go_ret
 exact ⟨rfl,_,_,_,_,HWA⟩
theorem Player.keepB {w w':World} {own:Nat→Option Tag} {wb:Nat} {S:List SegE} {N:List NumE} {Bs:List BytE} {Env:World→Prop} (h:Player w own wb S N Bs Env) {L:List UInt8} {xv mv nv bv bv' va cv:Value} {z:Nat} (hub:w.heap[wb]?=some (.cells #[xv,mv,nv,bv] 32 (0,0)))
  (hl:L.length≤8000000) (hW:WritAt w w' wb Bs.length xv mv nv bv bv' va cv (bytCells Bs) L z):∃ own',Player w' own' wb S N (Bs++[⟨va,cv,numsB L⟩]) Env:=by
 obtain ⟨xv0,mv0,nv0,bv0,k1,k2,k3,k4,k5⟩:=h.hub
 rw [hub] at k1
 cases k1
 obtain ⟨hub',hrow,hnp,ha,hc,hap,hcp,hz,hm⟩:=hW
 have hfix:¬ Fix 5:=by decide
 obtain ⟨own',hs,ht,hn⟩:=Step.make (T:=fun t=>t = .hub∨t = .bs) (w:=w) (w':=w') (own:=own) h.dom hm.size (IOut.mod hm)
  (fun k hk hno=>hm.block k hk fun hc=>by
   rcases hc with rfl | hc
   ·exact hno _ h.tag (.inl rfl)
   ·exact hno _ (k5.2 k hc) (.inr rfl))
  (clsNo w' z) [(.hub,some wb,32+1),(.bs,bv'.ownBlock,67+1),(.breal Bs.length,va.ownBlock,5+1),(.bwant Bs.length,cv.ownBlock,100000)]
  (fun p hp k hk=>by
   simp only [List.mem_cons,List.not_mem_nil,or_false] at hp
   rcases hp with rfl | rfl | rfl | rfl
   ·cases hk
    exact ⟨.inr ⟨h.tag,.inl rfl⟩,lt_of_heap hub',Soft.cells hub' (by decide),clsNo_near (tyNo_cells hub') (.inr (by simp))⟩
   ·refine ⟨?_,(hrow.lt k hk).2,Soft.row hrow (by decide) hk,clsNo_near (tyNo_row hrow hk) (.inr (by simp))⟩
    rcases hnp k hk with hc | hc
    ·exact .inr ⟨k5.2 k hc,.inr rfl⟩
    ·exact .inl hc
   ·exact ⟨.inl (hap k hk).1,(ha.lt k hk).2,Soft.row ha hfix hk,clsNo_near (tyNo_row ha hk) (.inl (hap k hk).2)⟩
   ·exact ⟨.inl (Nat.le_trans hz (hcp k hk)),(hc.lt k hk).2,Soft.row hc hfix hk,clsNo_far (.inr (tyNo_row hc hk)) (hcp k hk)⟩)
  (by simp)
 have tg:∀ p∈[(Tag.hub,some wb,32+1),(.bs,bv'.ownBlock,67+1),(.breal Bs.length,va.ownBlock,5+1),(.bwant Bs.length,cv.ownBlock,100000)],∀ k,p.2.1=some k→own' k=some p.1:=ht
 refine ⟨own',hs.dom,hs.softs h.soft,hs.box h.env,tg _ List.mem_cons_self wb rfl,⟨xv,mv,nv,bv',hub',k2.step hs (by simp),k3.step hs (by simp),k4.step hs (by simp),⟨?_,fun k hk=>tg (.bs,bv'.ownBlock,67+1) (by simp) k hk⟩⟩,
  fun j f hj=>(h.segs j f hj).step hs h.soft (by simp) (by simp),fun j f hj=>(h.nums j f hj).step hs (by simp) (by simp),fun j f hj=>?_⟩
 ·rw [List.length_append,List.length_singleton,bytCells_snoc]
  exact hrow
 ·rcases Nat.lt_or_ge j Bs.length with hjl | hjl
  ·rw [List.getElem?_append_left hjl] at hj
   exact (h.byts j f hj).step hs (by simp) (by simp)
  ·rw [List.getElem?_append_right hjl] at hj
   have hj0:j - Bs.length=0:=by
    have:=(List.getElem?_eq_some_iff.1 hj).1
    simp at this
    omega
   rw [hj0] at hj
   cases hj
   obtain rfl:j=Bs.length:=by omega
   exact ⟨ha,hc,fun k hk=>tg (.breal Bs.length,va.ownBlock,5+1) (by simp) k hk,fun k hk=>tg (.bwant Bs.length,cv.ownBlock,100000) (by simp) k hk,by unfold numsB; rw [List.length_map]; exact hl⟩
end Go.Proofs.Tl
namespace Go.Proofs.Tl
open Go Go.RowKit Go.Proofs.Ts
theorem terms_eq {a b:List Word} (ha:a.Pairwise (· < ·)) (hb:b.Pairwise (· < ·)) (h:∀ x,x∈a↔x∈b):a=b :=
 List.Perm.eq_of_pairwise (le:=(· < ·)) (fun s t _ _ h1 h2=>absurd (List.lt_trans h1 h2) (List.lt_irrefl s)) ha hb
  ((List.perm_ext_iff_of_nodup (ha.imp fun {x y} (h:x < y) (e:x=y)=>List.lt_irrefl y (e ▸ h)) (hb.imp fun {x y} (h:x < y) (e:x=y)=>List.lt_irrefl y (e ▸ h))).2 h)
theorem vbytes_le {n:Nat} (h:n < 1000000):(vbytes n).length≤3:=by
 unfold vbytes
 rw [List.length_map]
 exact vint_length h
theorem edgesB_le:∀ es:List (UInt8 × Nat),(∀ e∈es,e.2 < 1000000)→(edgesB es).length≤4 * es.length
 | [],_=>by simp [edgesB]
 | e :: es,h=>by
  have h1:=edgesB_le es fun x hx=>h x (List.mem_cons_of_mem _ hx)
  have h2:=vbytes_le (h e List.mem_cons_self)
  unfold edgesB at h1 ⊢
  simp only [List.flatMap_cons,List.length_append,List.length_cons]
  omega
theorem statesB_le:∀ D:List DS,(∀ s∈D,s.edges.length < 1000000 ∧ ∀ e∈s.edges,e.2 < 1000000)→(D.flatMap stateB).length≤4 * D.length+4 * (D.flatMap (·.edges)).length
 | [],_=>by simp
 | s :: D,h=>by
  have h1:=statesB_le D fun x hx=>h x (List.mem_cons_of_mem _ hx)
  obtain ⟨h2,h3⟩:=h s List.mem_cons_self
  have h4:=vbytes_le h2
  have h5:=edgesB_le _ h3
  simp only [List.flatMap_cons,List.length_append,List.length_cons,stateB]
  omega
theorem postB_le {l:List Nat} (hl:l.length≤48) (h:∀ d∈l,d < 1000):(postB l).length≤147:=by
 have h1:=vbytes_le (by omega:l.length < 1000000)
 have h2:∀ n,n≤l.length→((List.range n).flatMap (gapB l)).length≤3 * n:=by
  intro n
  induction n with
  | zero=>simp
  | succ n ih =>
   intro hn
   have:=ih (by omega)
   have hd:l.getD n 0 < 1000:=by
    rw [List.getD_eq_getElem?_getD,List.getElem?_eq_getElem (by omega)]
    exact h _ (List.getElem_mem _)
   have h3:(gapB l n).length≤3:=vbytes_le (by omega)
   rw [List.range_succ,List.flatMap_append,List.length_append]
   simp only [List.flatMap_cons,List.flatMap_nil,List.append_nil]
   omega
 have:=h2 l.length (Nat.le_refl _)
 unfold postB
 rw [List.length_append]
 omega
theorem posts_le (k:Nat):∀ P:List (List Nat),(∀ l∈P,(postB l).length≤k)→(P.flatMap postB).length≤P.length * k
 | [],_=>by simp
 | l :: P,h=>by
  have h1:=posts_le k P fun x hx=>h x (List.mem_cons_of_mem _ hx)
  have h2:=h l List.mem_cons_self
  rw [List.flatMap_cons,List.length_append,List.length_cons,Nat.succ_mul]
  omega
section
variable {w:World} {db:Nat} {D:List DS} {R:Nat→Prop} {Λ:Nat→List Word} {ρ:Nat→Nat}
theorem states_as (h:DictIs w db R Λ ρ D) (h16:∀ t∈Λ 0,t.length≤16):StatesAs (Λ 0) (meetR (Λ 0) 18 [] ([],[])) D:=by
 have hm:=meet_dict h h16
 have h2:(meetR (Λ 0) 18 [] ([],[])).2.length=D.length:=by rw [hm.ends]; simp
 have h1:=congrArg List.length hm.by'
 rw [List.length_map] at h1
 exact ⟨h1.trans h2,h2,fun i d hd=>meet_state h hm hd⟩
theorem states_few (h:DictIs w db R Λ ρ D) (h16:∀ t∈Λ 0,t.length≤16):D.length≤17 * (Λ 0).length+1∧(D.flatMap (·.edges)).length≤17 * (Λ 0).length+1 ∧ ∀ s∈D,∀ e∈s.edges,e.2 < D.length:=by
 obtain ⟨h1,h2,h3⟩:=states_as h h16
 have hm:=meet_dict h h16
 have hok:MOk (Λ 0) (meetR (Λ 0) 18 [] ([],[])):=MOk.run 18 [] _ ⟨rfl,List.nodup_nil,fun E h=>by cases h⟩ List.mem_cons_self
 have hfew:=hok.few h16
 rw [h2] at hfew
 obtain ⟨s,hs⟩:∃ s,s=meetR (Λ 0) 18 [] ([],[]):=⟨_,rfl⟩
 rw [← hs] at h1 h2 h3 hm hok
 refine ⟨hfew,?_,fun st hst e he=>?_⟩
 ·have hl:(D.flatMap (·.edges)).length=(D.zipIdx.flatMap fun q=>q.1.edges.map fun e=>s.1.getD q.2 []++[e.1]).length:=by
   rw [List.length_flatMap,List.length_flatMap]
   have:D.map (fun a=>a.edges.length)=D.zipIdx.map (fun q=>q.1.edges.length):=by
    conv=>lhs; rw [← List.zipIdx_map_fst 0 D,List.map_map]
    rfl
   simp only [List.length_map]
   exact congrArg _ this
  rw [hl]
  refine Nat.le_trans (nodup_le _ (begs (Λ 0)) ?_ fun x hx=>?_) (begs_length _ h16)
  ·rw [List.Nodup,List.pairwise_flatMap]
   refine ⟨fun q hq=>?_,?_⟩
   ·obtain ⟨d,i⟩:=q
    have hd:=List.mem_zipIdx_iff_getElem?.1 hq
    simp only at hd
    obtain ⟨st,g1,g2,_⟩:=h.state i (h.full (List.getElem?_eq_some_iff.1 hd).1)
    rw [hd] at g1
    cases g1
    refine List.pairwise_map.2 (g2.imp fun hab e=>?_)
    have:=List.append_cancel_left e
    simp only [List.cons.injEq,and_true] at this
    rw [this] at hab
    exact UInt8.lt_irrefl _ hab
   ·refine (List.pairwise_iff_getElem.2 fun a b ha hb hab=>?_)
    rw [List.length_zipIdx] at ha hb
    simp only [List.getElem_zipIdx,Nat.zero_add,List.mem_map]
    rintro x ⟨e,_,rfl⟩ y ⟨e',_,rfl⟩ heq
    have hp:s.1.getD a []=s.1.getD b []:=by
     have:=congrArg List.dropLast heq
     simpa using this
    have hΛ:∀ k,k < D.length→endR (Λ 0) (s.1.getD k [])=Λ k:=fun k hk=>by
     have:(s.1.map (endR (Λ 0)))[k]?=(s.2)[k]?:=by rw [hm.by']
     rw [hm.ends,List.getElem?_map,List.getElem?_map,List.getElem?_range hk,List.getElem?_eq_getElem (by omega)] at this
     rw [List.getD_eq_getElem?_getD,List.getElem?_eq_getElem (by omega)]
     exact Option.some.inj this
    have:=h.ord.inj a b (h.full ha) (h.full hb) (by rw [← hΛ a ha,← hΛ b hb,hp])
    omega
  ·obtain ⟨q,hq,hx⟩:=List.mem_flatMap.1 hx
   obtain ⟨e,he,rfl⟩:=List.mem_map.1 hx
   have hd:=List.mem_zipIdx_iff_getElem?.1 hq
   obtain ⟨p,g1,_,_,g4,_⟩:=h3 q.2 q.1 hd
   rw [List.getD_eq_getElem?_getD,g1,Option.getD_some]
   exact edge_beg (by rw [g4]; exact List.mem_map.2 ⟨e,he,rfl⟩)
 ·obtain ⟨i,hi⟩:=List.getElem?_of_mem hst
  obtain ⟨st',g1,_,_,_,g2⟩:=h.state i (h.full (List.getElem?_eq_some_iff.1 hi).1)
  rw [hi] at g1
  cases g1
  obtain ⟨se,k1,_⟩:=h.state e.2 (g2 e he).1
  exact (List.getElem?_eq_some_iff.1 k1).1
end
theorem segB_le {w:World} {Dc:List (List (List UInt8))} {db:Nat} {R:Nat→Prop} {Λ:Nat→List Word} {ρ:Nat→Nat} {Dd:List DS} {pv:Value} {ps:List Value} (hr:SegRest w Dc db R Λ ρ Dd pv ps) (hD:Dc.length≤48) :
  (segB Dc.length Dd ((Λ 0).map (postsOf Dc))).length≤5000000∧Dd.length < 1000000 ∧ ∀ s∈Dd,s.edges.length < 1000000 ∧ ∀ e∈s.edges,e.2 < 1000000:=by
 obtain ⟨hdi,_,_,hT,h16,_,_⟩:=hr
 obtain ⟨f1,f2,f3⟩:=states_few hdi h16
 have hto:∀ s∈Dd,s.edges.length < 1000000 ∧ ∀ e∈s.edges,e.2 < 1000000:=fun s hs=>by
  refine ⟨?_,fun e he=>by have:=f3 s hs e he; omega⟩
  have:s.edges.length≤(Dd.flatMap (·.edges)).length:=by
   obtain ⟨a,b,rfl⟩:=List.append_of_mem hs
   simp
   omega
  omega
 have b1:=vbytes_le (by omega:Dc.length < 1000000)
 have b2:=vbytes_le (by omega:Dd.length < 1000000)
 have b3:=statesB_le Dd hto
 have b4:=posts_le 147 ((Λ 0).map (postsOf Dc)) fun l hl=>by
  obtain ⟨x,_,rfl⟩:=List.mem_map.1 hl
  exact postB_le (Nat.le_trans (postsOf_length Dc x) hD) fun d hd=>by have:=postsOf_lt Dc x d hd; omega
 rw [List.length_map] at b4
 refine ⟨?_,by omega,hto⟩
 unfold segB statesB
 simp only [List.length_append,List.length_cons,List.length_nil]
 omega
end Go.Proofs.Tl
namespace Go.Proofs.Tl
open Go Go.RowKit Go.Proofs.Ts
theorem written_seg (wb n:Nat) (xv mv nv bv:Value) (bc:List Value) (w:World) (hn:n≤1000000) (hub:w.heap[wb]?=some (.cells #[xv,mv,nv,bv] 32 (0,0))) (hrow:w.ownsRow 0 67 2 bv n bc)
  {own:Nat→Option Tag} {i:Nat} {e:SegE} (ho:SegOk w own i e):∃ L:List UInt8,L.length≤8000000 ∧
  Calls Tryz.prog 22 #[ptrV wb,ptrV e.sb,ptrV e.mb] w fun e w'=>e = .returned (.bool true) ∧ ∃ bv' va cv z,WritAt w w' wb n xv mv nv bv bv' va cv bc L z:=by
 obtain ⟨db,R,Λ,ρ,Dd,pv,ps,hb,hr⟩:=ho.ex
 have hr:=hr.out
 obtain ⟨T,ht,hT,hix⟩:=ho.index.out
 obtain ⟨b1,b2,b3⟩:=segB_le hr ho.few
 obtain ⟨hdi,g1,g2,_,h16,_⟩:=id hr
 obtain rfl:T=Λ 0:=terms_eq ht.rise g1 fun x=>(ht.mem x).trans (g2 x).symm
 have hst:=states_as hdi h16
 obtain ⟨V,hV,hrows⟩:=hdi.mem
 have hf:=ho.few
 refine ⟨_,by omega,written_law e.sb e.mb wb n Dd.length _ xv mv nv bv bc w hn (by omega) hub hrow (sbytes_law e.sb e.D e.kn db R Λ ρ Dd pv ps w hb hr (by omega) b2 b3 b1)
  (fun W hW=>bytesR_law 0 e.mb e.D.length (Λ 0) (postsOf e.D) Dd W (hix.below hW) hT h16 hst (by omega) b2 b3 (fun x _=>⟨Nat.le_trans (postsOf_length e.D x) (by omega),postsOf_rise e.D x,fun d hd=>by have:=postsOf_lt e.D x d hd; omega⟩) b1)
  (fun W hW=>sstates_law e.sb _ db pv e.kn V Dd W ((hW.block _ (lt_of_heap hb)).trans hb) ((hW.block _ (lt_of_heap hV)).trans hV) (hrows.kept fun k _ hk=>hW.block k hk))
  fun W hW=>(statesR_law 0 e.mb e.D.length (Λ 0) (postsOf e.D) W (hix.below hW) hT h16).mono fun e w' h=>by rwa [hst.1] at h⟩
set_option maxRecDepth 100000 in
set_option maxHeartbeats 4000000 in
theorem step_bytes (o:OpE) (hf:o.Fits) (hk:o.kind=2) (n wb:Nat) (Env:World→Prop) (w:World) (h:Plays n w wb Env) (hn:n≤1000000) :
  Calls Tryz.prog 13 #[ptrV wb,opV o] w fun e w'=>e = .returned (.bool true)∧Plays (n+1) w' wb Env:=by
 have hP:=h.box (.cells o.cells 37)
 have hm:=marks_player o hf n wb _ _ hP hn
 obtain ⟨kd,oa,ob,oc,qk,qa,qb,qn,dv,docs,os⟩:=o
 simp only at hk
 have HM:=Lib.hid hm
 have HF:=Lib.hid hf
 subst hk
 clear hm hP hf
 unfold ptrV opV OpE.cells strV at *
 simp only at HM ⊢
 have hdone:∀ (e:Ending) (W:World),(e = .returned (.bool true)∧Plays (n+1) W wb (fun W=>Env W∧W.heap[w.heap.size]?=some (.cells #[iV 2,iV oa,iV ob,iV oc,iV qk,.string ⟨qa.toArray⟩,.string ⟨qb.toArray⟩,iV qn,dv,.string ⟨os.toArray⟩] 37)))→e = .returned (.bool true)∧Plays (n+1) W wb Env:=fun e W h=>⟨h.1,h.2.weaken fun _ h=>h.1⟩
 refine Calls.mono ?_ hdone
 clear hdone
 go_enter Tryz.func13,Tryz.ntmps13
 go_upto_region 12 with (go_at_call 20; refine HM.out.mono ?_; rintro e w1 ⟨rfl,hp1⟩; have HP1:=Lib.hid hp1; clear hp1)
 obtain ⟨own,S,N,Bs,l1,l2,l3,hp⟩:=HP1.out
 obtain ⟨xv,mv,nv,bv,k1,k2,k3,k4,k5⟩:=hp.hub
 obtain ⟨xa,xc,rfl⟩:=ownsRow_form k2.1
 obtain ⟨ma,mc,rfl⟩:=ownsRow_form k3.1
 have c0:w1.cell? (aD wb 0)=some (.slice xa S.length xc):=cell_block k1
 have c1:w1.cell? (aD wb 1)=some (.slice ma S.length mc):=cell_block k1
 by_cases hS:S.length=0
 ·rw [hS] at c0
  clear hp k1 k2 k3 k4 k5
  go_wp2_with fail
  go_ret
  exact ⟨rfl,HP1.out.mono (by omega)⟩
 ·have hpos:0 < S.length:=by omega
  have hpick:=fun W=>pick_law oa S.length W HF.out.a ⟨hpos,by omega⟩
  have hlt:=pickL_lt oa hpos
  obtain ⟨i,hi⟩:∃ i,i=pickL oa S.length:=⟨_,rfl⟩
  rw [← hi] at hpick hlt
  have HPICK:=Lib.hid hpick
  clear hpick hi
  obtain ⟨e,he⟩:∃ e,S[i]?=some e:=⟨_,List.getElem?_eq_getElem hlt⟩
  obtain ⟨gx,cx,e1,x1⟩:=segRow_cell k2.1 he
  obtain ⟨gm,cm,e2,x2⟩:=segRow_cell k3.1 he
  simp only [Value.slice.injEq,true_and] at e1 e2
  obtain ⟨rfl,rfl⟩:=e1
  obtain ⟨rfl,rfl⟩:=e2
  have hop:=hp.env.out.2
  have p0:w1.cell? (aD w.heap.size 0)=some (iV 2):=cell_block hop
  have p1:w1.cell? (aD w.heap.size 1)=some (iV oa):=cell_block hop
  have z0:((S.length:Int) == 0)=false:=by rw [beq_eq_false_iff_ne]; omega
  have zi:(0:Int)≤(i:Int)∧(i:Int) < (S.length:Int):=by omega
  unfold ptrV at x1 x2
  have HHE:=Lib.hid he
  have HPP:=Lib.hid hp
  clear hop hp k1 k2 k3 k4 k5 he HP1
  go_upto_region 14 with fail
  go_quiet ((go_at_call 21; exact Calls.quiet_of_same (HPICK.out _)))
  obtain ⟨own2,hp2,_⟩:=HPP.out.kept ((Same.drewN w1 nq).below _)
  obtain ⟨xv,mv,nv,bv,k1,k2,k3,k4,k5⟩:=hp2.hub
  obtain ⟨L,hL,hw⟩:=written_seg wb Bs.length xv mv nv bv (bytCells Bs) _ (by omega) k1 k5.1 (hp2.segs i e HHE.out)
  unfold ptrV at hw
  have HW:=Lib.hid hw
  have HP2:=Lib.hid (And.intro hp2 (And.intro k1 hL))
  clear hw hp2 k1 k2 k3 k4 k5
  go_wp2_with (go_at_call 22; go_must (refine HW.mono ?_); rintro e9 w3 ⟨rfl,bv',va,cv,z,h9⟩; have H9:=Lib.hid h9; clear h9)
  go_ret
  obtain ⟨own3,hp3⟩:=HP2.out.1.keepB HP2.out.2.1 HP2.out.2.2 H9.out
  exact ⟨rfl,own3,S,N,_,by omega,by omega,by simp; omega,hp3⟩
end Go.Proofs.Tl
