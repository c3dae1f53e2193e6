/- Lemmas towards the statement Alike of termsearch: walks of the program's functions and plain laws on lists (TsLeastE, TsLang, TsLangB, TsMachP). Conditions: those that each theorem names. -/
import Derived.Test.YtglafkgakcfahaaGreatDoorAlikePO
import Derived.Test.YtglafkgakcfahaaGreatDoorAlikePM
import Derived.Test.YtglafkgakcfahaaGreatDoorAlikePK
import Derived.Test.YtglafkgakcfahaaGreatDoorAlikePE
set_option linter.unusedVariables false
set_option linter.unusedSimpArgs false
set_option linter.unusedSectionVars false
namespace Go.Proofs.Ts
open Go Go.RowKit
theorem Tryz.info4':(Tryz.prog.info? 4).map (fun i=>(i.zero,i.size,i.bytes))=some (some (.bool false),1,1):=by kernel_rfl
theorem made_falseL (n:Nat):madeCells #[.bool false] n=((List.replicate n false).map Value.bool).toArray:=by
 apply Array.toList_inj.1
 rw [toList_madeCells_one]
 simp
theorem made_nil (n:Nat):madeCells #[.slice none 0 0] n=(List.replicate n (.slice none 0 0)).toArray:=by
 apply Array.toList_inj.1
 rw [toList_madeCells_one]
set_option maxRecDepth 100000 in
set_option maxHeartbeats 16000000 in
theorem least_any (mb tb ib B:Nat) (M:PM) (L:Nat→Nat) (sv ov kv:Value) (rbs:List Nat) (sets:List PSet) (rows:List (List Int)) (w:World) (hM:MachIs w mb M) (hF:M.fit) (hok:TabOk M M.kinds sets rows) (hall:rows.length=sets.length) (hfew:sets.length≤400)
  (hT:TabMem B L tb ib sv ov kv rbs sets rows M.kinds w) :
  Calls Tryz.prog 89 #[ptrV mb,ptrV tb] w fun e w'=>∃ c:Nat,e = .returned (.int .i64 c)∧IsLeast M c∧Below w.heap.size w w':=by
 have hs0:0 < sets.length:=(List.getElem?_eq_some_iff.1 hok.first).1
 obtain ⟨sg,sc,hsv⟩:=ownsRow_headP hT.srow hs0
 obtain ⟨og,oc,hov⟩:=ownsRow_headP hT.orow (by omega)
 have hkl:M.kinds.length≤256:=kinds_len M 256
 have hk0:0 < M.kinds.length:=by
  obtain ⟨k,hk,_⟩:=kinds_has M 0 (by decide)
  exact List.length_pos_of_mem hk
 obtain ⟨kg,kc,hkv⟩:=ownsRow_headP hT.krow hk0
 have t1:w.cell? ⟨tb,1,none⟩=some sv:=cell_block hT.head
 have t2:w.cell? ⟨tb,2,none⟩=some ov:=cell_block hT.head
 rw [hsv] at t1
 rw [hov] at t2
 obtain ⟨n,hn⟩:∃ n,n=sets.length:=⟨_,rfl⟩
 rw [← hn] at t1 hfew hs0 hall
 rw [hall] at t2
 obtain ⟨i0,hi,hz0,hz1,hz2⟩:=info_parts Tryz.info4'
 have hmk:∀ W:World,(Instr.makeSlice 288 (.int .i64 n) (.int .i64 n)).run Tryz.prog W = .ok (.slice (some ⟨W.heap.size,0,none⟩) n n) (W.alloc (.cells (madeCells #[.bool false] n) 4)):=fun W=>by
  have:=run_make (P:=Tryz.prog) W 288 4 i0 (.bool false) Tryz.underlying288 hi hz0 .i64 .i64 n n (by omega) (Int.le_refl _) (by rw [hz2]; omega) (by omega)
  rw [hz1] at this
  simpa [Value.cells] using this
 clear hi hz0 hz1 hz2 i0
 obtain ⟨i0,hi,hz0,hz1,hz2⟩:=info_parts Tryz.info27'
 have hmk2:∀ W:World,(Instr.makeSlice 86 (.int .i64 n) (.int .i64 n)).run Tryz.prog W = .ok (.slice (some ⟨W.heap.size,0,none⟩) n n) (W.alloc (.cells (madeCells #[.slice none 0 0] n) 27)):=fun W=>by
  have:=run_make (P:=Tryz.prog) W 86 27 i0 (.slice none 0 0) Tryz.underlying86 hi hz0 .i64 .i64 n n (by omega) (Int.le_refl _) (by rw [hz2]; omega) (by omega)
  rw [hz1] at this
  simpa [Value.cells] using this
 have hH:=Lib.hid (show _∧_∧_∧_ from ⟨hM,hF,hok,hT⟩)
 have HV:=Lib.hid (show _∧_∧_∧_ from ⟨hsv,hov,hkv,hn⟩)
 clear hM hF hok hT hsv hov hkv hn hi hz0 hz1 hz2
 have htl:tb < w.heap.size:=lt_of_heap hH.out.2.2.2.head
 have HALL:=Lib.hid hall
 clear hall
 obtain ⟨W2,hW2⟩:∃ W2,W2=(w.alloc (.cells (madeCells #[.bool false] n) 4)).alloc (.cells #[.slice (some ⟨w.heap.size,0,none⟩) n n] 288):=⟨_,rfl⟩
 have hb2:Below w.heap.size w W2:=by rw [hW2]; exact ((Below.refl _ w).alloc (Nat.le_refl _) _).alloc (by simp) _
 have t1':W2.cell? ⟨tb,1,none⟩=some (.slice (some ⟨sg,0,none⟩) n sc):=(hb2.cell (p:=⟨tb,1,none⟩) htl).trans t1
 have t2':W2.cell? ⟨tb,2,none⟩=some (.slice (some ⟨og,0,none⟩) n oc):=(hb2.cell (p:=⟨tb,2,none⟩) htl).trans t2
 have hz2:W2.heap.size=w.heap.size+2:=by rw [hW2]; simp
 have HW2:=Lib.hid (show _∧_∧_ from ⟨hW2,hb2,hz2⟩)
 clear hW2 hb2 hz2
 unfold ptrV
 go_enter Tryz.func89,Tryz.ntmps89
 go_upto_region 2 with (fail)
 rw [← HW2.out.1]
 go_upto_region 3 with (fail)
 obtain ⟨W4,hW4⟩:∃ W4,W4=(W2.alloc (.cells (madeCells #[.slice none 0 0] n) 27)).alloc (.cells #[.slice (some ⟨W2.heap.size,0,none⟩) n n] 86):=⟨_,rfl⟩
 rw [← hW4]
 have hfa:FromAt w n (fun _=>0) (List.replicate n (.slice none 0 0)) (List.replicate n []) W4:=by
  obtain ⟨e2,hb2,hz2⟩:=HW2.out
  have o4:∀ b,b < W2.heap.size→W4.heap[b]?=W2.heap[b]?:=fun b hb=>by rw [hW4,Below.heap_alloc _ _ _ (by simp; omega),Below.heap_alloc _ _ _ hb]
  refine ⟨?_,?_,?_,?_,List.length_replicate,List.length_replicate,fun j v l hv hl=>?_,fun j v b hv hb=>?_,fun b hb=>absurd rfl hb,?_⟩
  ·rw [o4 _ (by omega),e2,Below.heap_alloc _ _ _ (by simp),← made_falseL]
   exact heap_alloc_new w _
  ·rw [o4 _ (by omega),e2]
   have:=heap_alloc_new (w.alloc (.cells (madeCells #[.bool false] n) 4)) (.cells #[.slice (some ⟨w.heap.size,0,none⟩) n n] 288)
   rw [World.size_alloc] at this
   exact this
  ·rw [hW4,Below.heap_alloc _ _ _ (by simp; omega),← hz2,← made_nil]
   exact heap_alloc_new W2 _
  ·rw [hW4,← hz2]
   have:=heap_alloc_new (W2.alloc (.cells (madeCells #[.slice none 0 0] n) 27)) (.cells #[.slice (some ⟨W2.heap.size,0,none⟩) n n] 86)
   rw [World.size_alloc,hz2] at this
   rw [hz2]
   exact this
  ·have h1:=List.eq_of_mem_replicate (List.mem_of_getElem? hv)
   have h2:=List.eq_of_mem_replicate (List.mem_of_getElem? hl)
   rw [h1,h2]
   exact World.ownsRow_nil _ _ _ _
  ·rw [List.eq_of_mem_replicate (List.mem_of_getElem? hv)] at hb
   cases hb
  ·rw [hW4]
   exact (hb2.alloc hb2.size _).alloc (by simp; have:=hb2.size; omega) _
 have t2':W4.cell? ⟨tb,2,none⟩=some (.slice (some ⟨og,0,none⟩) n oc):=(hfa.below.cell (p:=⟨tb,2,none⟩) htl).trans t2
 have HFA:=Lib.hid hfa
 have hz2:=HW2.out.2.2
 rw [hz2]
 clear hz2 hfa hW4 hmk hmk2 HW2 t1'
 rw [show w.heap.size+2+1=w.heap.size+3 from rfl]
 go_wp2_with fail
 obtain ⟨i3,hi,hz0,hz1,hz2⟩:=info_parts Tryz.info3'
 have hnz:(n:Int)≤400:=by omega
 go_loopw [48] (fun iv wr=>∃ (i:Nat) (L':Nat→Nat) (fvs:List Value) (fr:List (List Nat)),i≤n∧iv = .int .i64 i∧Hid (FromAt w n L' fvs fr wr∧FrIs rows n i 0 fr)) (fun iv _=>n - (intOf iv).toNat)
 case atStart=>exact ⟨0,_,_,_,by omega,rfl,HFA.out,FrIs.start rows n⟩
 case round =>
  obtain ⟨i,L',fvs,fr,hi',rfl,HR⟩:=hrel
  by_cases hlt:i < n
  ·have hall:=HALL.out
   obtain ⟨r,hr⟩:∃ r,rows[i]?=some r:=⟨_,List.getElem?_eq_getElem (by omega)⟩
   obtain ⟨rb,hrb⟩:∃ rb,rbs[i]?=some rb:=⟨_,List.getElem?_eq_getElem (by rw [hH.out.2.2.2.rlen]; omega)⟩
   obtain ⟨s,hs⟩:∃ s,sets[i]?=some s:=⟨_,List.getElem?_eq_getElem (by rw [← HV.out.2.2.2]; exact hlt)⟩
   have hrow:=hH.out.2.2.1.row i r s hr hs
   have hrl:=hrow.len
   obtain ⟨m,hm⟩:∃ m,m=M.kinds.length:=⟨_,rfl⟩
   rw [← hm] at hrl hkl hk0
   have kr:wr.cell? ⟨og,i,none⟩=some (.slice (some ⟨rb,0,none⟩) m m):=by
    have h1:=hH.out.2.2.2.orow
    rw [HV.out.2.1] at h1
    have h2:=ownsRow_cell0 h1 (j:=i) (u:=sliceV rb r.length) (by
     rw [List.getElem?_map,(List.getElem?_zip_eq_some (z:=(rb,r))).2 ⟨hrb,hr⟩]
     rfl)
    rw [hrl] at h2
    exact (HR.out.1.below.cell (p:=⟨og,i,none⟩) (lt_of_cell h2)).trans h2
   have kb:=hH.out.2.2.2.rblk i rb r hrb hr
   have kbw:=(HR.out.1.below.block rb (lt_of_heap kb)).trans kb
   have H1:=Lib.hid (show _∧_∧_∧_∧_∧_ from ⟨hr,hrow,hrl,kb,hs,hm⟩)
   have hiz:(i:Int) < (n:Int):=by omega
   have hiz0:(0:Int)≤(i:Int):=by omega
   clear hall hr hrb hs hrow hrl hm kb kbw
   go_wp2_with fail
   clear kr
   go_loopw [55] (fun kv wr=>∃ (k:Nat) (L':Nat→Nat) (fvs:List Value) (fr:List (List Nat)),k≤m∧kv = .int .i64 k∧Hid (FromAt w n L' fvs fr wr∧FrIs rows n i k fr)) (fun kv _=>m - (intOf kv).toNat)
   case atStart=>exact ⟨0,L',fvs,fr,by omega,rfl,HR⟩
   case round =>
    clear HR
    obtain ⟨k,L2,fv2,fr2,hk,rfl,HR2⟩:=hrel
    by_cases hkl2:k < m
    ·obtain ⟨z,hz⟩:∃ z,r[k]?=some z:=⟨_,List.getElem?_eq_getElem (by rw [H1.out.2.2.1]; exact hkl2)⟩
     have kz:wr.cell? ⟨rb,k,none⟩=some (.int .i64 z):=by
      have h2:w.cell? ⟨rb,k,none⟩=some (.int .i64 z):=by
       rw [cell_block H1.out.2.2.2.1]
       simp [intsV,hz]
      exact (HR2.out.1.below.cell (p:=⟨rb,k,none⟩) (lt_of_cell h2)).trans h2
     have hgo:=goes_at H1.out.1 hz
     obtain ⟨c,hc⟩:∃ c,M.kinds[k]?=some c:=⟨_,List.getElem?_eq_getElem (by rw [← H1.out.2.2.2.2.2]; exact hkl2)⟩
     obtain ⟨z',hz',hcell⟩:=H1.out.2.1.cell k c hc
     rw [hz] at hz'
     obtain rfl:=Option.some.inj hz'
     have hkz:(k:Int) < (m:Int):=by omega
     have hkz0:(0:Int)≤(k:Int):=by omega
     rcases hcell with ⟨_,rfl⟩ | ⟨_,y,rfl,hy⟩
     ·have hsk:=HR2.out.2.skip (by rw [hgo]; decide)
      have HN:=Lib.hid (And.intro HR2.out.1 hsk)
      clear hsk hgo hz hc hz'
      go_wp2_with fail
      exact ⟨⟨k+1,L2,fv2,fr2,by omega,by go_num,HN⟩,by simp [intOf]; omega⟩
     ·have hyn:y < n:=by rw [HV.out.2.2.2]; exact (List.getElem?_eq_some_iff.1 hy).1
      obtain ⟨v,hv⟩:∃ v,fv2[y]?=some v:=⟨_,List.getElem?_eq_getElem (by rw [HR2.out.1.flen]; exact hyn)⟩
      obtain ⟨l,hl⟩:∃ l,fr2[y]?=some l:=⟨_,List.getElem?_eq_getElem (by rw [HR2.out.1.rlen]; exact hyn)⟩
      have hrow:=HR2.out.1.rows y v l hv hl
      obtain ⟨va,vc,hvf⟩:=ownsRow_form hrow
      have hlf:l.length≤110000:=by
       have:=HR2.out.2.few l (List.mem_of_getElem? hl)
       omega
      have c6:wr.cell? ⟨w.heap.size+3,0,none⟩=some (.slice (some ⟨w.heap.size+2,0,none⟩) n n):=cell_block HR2.out.1.c6
      have cy:wr.cell? ⟨w.heap.size+2,y,none⟩=some (.slice va l.length vc):=by
       rw [cell_block HR2.out.1.fb]
       simp [hv,hvf]
      have hyz:(y:Int) < (n:Int):=by omega
      have hyz0:(0:Int)≤(y:Int):=by omega
      have hl6:=lt_of_heap HR2.out.1.c6
      have hlb:=lt_of_heap HR2.out.1.fb
      have hgk:goes rows i k=some y:=by rw [hgo,if_pos hyz0]; simp
      rw [hvf] at hrow
      have H2:=Lib.hid (show _∧_∧_∧_ from ⟨hv,hl,hvf,hgk⟩)
      clear hgo hz hc hz' hy hv hl hvf hgk
      go_wp2_with fail
      refine wp_region_ordT [(0,false),(1,false),(2,false),(3,false),(4,false),(5,false),(6,false),(7,true),(8,true),(9,false),(10,true)] 10
       (fun W'=>W'.cell? ⟨w.heap.size+3,0,none⟩=some (.slice (some ⟨w.heap.size+2,0,none⟩) n n)∧W'.cell? ⟨w.heap.size+2,y,none⟩=some (.slice va l.length vc)) (by kernel_rfl) (by kernel_rfl) ⟨c6,cy⟩ ?_
      iterate 7 (
       refine wpOrd_quiet ?_ rfl rfl (fun w' hS=>?_) ?_
       rotate_left
       ·obtain ⟨q0,q1⟩:=hS
        go_simp
        first | rfl | done
       simp only [put_lit,List.set_cons_succ,List.set_cons_zero])
      have hrow3:(wr.alloc (.cells #[.int .i64 i] 3)).drew.ownsRow 0 3 1 (.slice va l.length vc) l.length (l.map intV):=(hrow.alloc _).drew
      have hc3:∀ j u,[Value.int .i64 i][j]?=some u→(wr.alloc (.cells #[.int .i64 i] 3)).drew.cell? ((⟨wr.heap.size,0,none⟩:Addr).add j)=some u:=by
       intro j u hj
       match j,hj with
       | 0,hj=>simp at hj; subst hj; simp [Addr.add]
       | j+1,hj=>simp at hj
      have hS3:(wr.alloc (.cells #[.int .i64 i] 3)).drew.cell? ⟨w.heap.size+3,0,none⟩=some (.slice (some ⟨w.heap.size+2,0,none⟩) n n)∧(wr.alloc (.cells #[.int .i64 i] 3)).drew.cell? ⟨w.heap.size+2,y,none⟩=some (.slice va l.length vc) :=
       ⟨(World.cell?_alloc_lt _ _ _ hl6).trans c6,(World.cell?_alloc_lt _ _ _ hlb).trans cy⟩
      have hmv3:Moves wr (.slice va l.length vc) (wr.alloc (.cells #[.int .i64 i] 3)).drew (.slice va l.length vc):=(Moves.alloc wr _ _).trans (Moves.same _ (Same.drew _))
      have HM3:=Lib.hid (And.intro hmv3 hS3)
      clear hmv3 c6 cy
      refine wpOrd_loud rfl rfl (by decide) (fun K hK=>?_)
      have HK:=Lib.hid hK
      clear hK
      go_simp
      refine HK.out _ _ hS3 ?_
      clear HK K hS3
      refine wpOrd_loud rfl rfl (by decide) (fun K hK=>?_)
      have HK:=Lib.hid hK
      clear hK
      refine wp_append_lies _ _ 27 rfl 3 i3 (.int .i64 0) 1 8 Tryz.underlying27 hi hz0 hz1 hz2 rfl (by decide) _ _ _ rfl hrow3 ⟨wr.heap.size,0,none⟩ 1 1 [.int .i64 i] rfl rfl hc3
       (by simp [Value.oneCell']) (by decide) (by unfold maxLen; omega) (by omega) ?_
      intro v8 W8 hrow8 hgrow8 hlies8
      have hrow8':W8.ownsRow 0 3 1 v8 (l.length+1) ((l++[i]).map intV):=by
       rw [List.map_append]
       exact hrow8
      obtain ⟨g8,cap8,hv8⟩:=ownsRow_head hrow8'
      have hmv8:=HM3.out.1.trans (Moves.append hgrow8 hlies8)
      rw [← H2.out.2.2.1] at hmv8
      obtain ⟨L3,hfa3⟩:=HR2.out.1.add H2.out.1 H2.out.2.1 hmv8 hrow8'
      have hfr3:=HR2.out.2.add H2.out.2.2.2 H2.out.2.1
      have hnb:∀ b,v.ownBlock=some b→w.heap.size+4≤b:=fun b e=>(HR2.out.1.past b (by rw [HR2.out.1.lab y v b H2.out.1 e]; omega)).1
      have hb6:=(hmv8.block hl6 fun e=>by have:=hnb _ e; omega).trans HR2.out.1.c6
      have hbf:=(hmv8.block hlb fun e=>by have:=hnb _ e; omega).trans HR2.out.1.fb
      have hS8:W8.cell? ⟨w.heap.size+3,0,none⟩=some (.slice (some ⟨w.heap.size+2,0,none⟩) n n)∧W8.cell? ⟨w.heap.size+2,y,none⟩=some (.slice va l.length vc):=by
       refine ⟨cell_block hb6,?_⟩
       rw [cell_block hbf,← H2.out.2.2.1]
       have:=H2.out.1
       simp [this]
      have hf8:W8.frozen? ⟨w.heap.size+2,y,none⟩=false:=free_block hbf
      have HN:=Lib.hid (And.intro hfa3 hfr3)
      subst hv8
      clear hrow8 hrow8' hgrow8 hlies8 hmv8 hfa3 hfr3 hnb hb6 hbf hrow3 hc3 HM3
      refine HK.out _ _ hS8 ?_
      clear HK K
      simp only [put_lit,List.set_cons_succ,List.set_cons_zero]
      refine wpOrd_quiet ?_ rfl rfl (fun w' hS=>?_) ?_
      rotate_left
      ·obtain ⟨q0,q1⟩:=hS
       go_simp
       first | rfl | done
      simp only [put_lit,List.set_cons_succ,List.set_cons_zero]
      obtain ⟨q0,q1⟩:=hS8
      refine wpOrd_last rfl rfl (fun K hK=>?_)
      have HK:=Lib.hid hK
      clear hK
      go_simp
      refine HK.out _ _ ?_
      clear HK K q0 q1 hf8
      go_wp2_with fail
      exact ⟨⟨k+1,L3,_,_,by omega,by go_num,HN⟩,by simp [intOf]; omega⟩
    ·obtain rfl:k=m:=by omega
     go_wp2_with fail
     have hrw:=HR2.out.2
     rw [← H1.out.2.2.1] at hrw
     refine ⟨⟨i+1,L2,fv2,fr2,by omega,by go_num,HR2.out.1,hrw.row H1.out.1 (by rw [H1.out.2.2.1]; exact hkl)⟩,by simp [intOf]; omega⟩
  ·obtain rfl:i=n:=by omega
   have hmf:∀ (fn:Fn) (first cap:Array Value) (w:World),(Instr.makeFunc fn first cap).run Tryz.prog w = .ok (.func fn first cap) w:=fun _ _ _ _=>rfl
   obtain ⟨cb,hcb⟩:∃ cb,cb=wr.heap.size:=⟨_,rfl⟩
   have hlc6:=lt_of_heap HR.out.1.c6
   obtain ⟨W5,hW5⟩:∃ W5,W5=wr.alloc (.cells #[.func (.func 129) #[] #[.pointer (some ⟨w.heap.size+1,0,none⟩),.pointer (some ⟨w.heap.size+3,0,none⟩),.pointer (some ⟨wr.heap.size,0,none⟩)]] 280):=⟨_,rfl⟩
   have hb5:Below wr.heap.size wr W5:=by rw [hW5]; exact (Below.refl _ wr).alloc (Nat.le_refl _) _
   have hfa5:=HR.out.1.under hb5
   have hcb5:W5.heap[cb]?=some (.cells #[backFn (w.heap.size+1) (w.heap.size+3) cb] 280 (0,0)):=by rw [hW5,hcb]; exact heap_alloc_new wr _
   have hba:BackAt (w.heap.size+1) (w.heap.size+3) cb w.heap.size (w.heap.size+2) fvs fr (List.replicate i false) W5:=by
    have hrl:(List.replicate i false).length=i:=List.length_replicate
    refine ⟨by rw [hrl]; exact hfa5.c5,by rw [hrl]; exact hfa5.c6,hcb5,hfa5.lb,hfa5.fb,by rw [hrl]; exact hfa5.flen,by rw [hrl]; exact hfa5.rlen,fun j v l hv hl=>⟨hfa5.rows j v l hv hl,fun e=>?_⟩,fun l hl x hx=>?_,fun l hl=>?_,by omega,by omega,by omega,by omega⟩
    ·have h1:=hfa5.lab j v _ hv e
     have:=hfa5.past w.heap.size (by rw [h1]; omega)
     omega
    ·rw [hrl]
     obtain ⟨y,hy⟩:=List.mem_iff_getElem?.1 hl
     have hyn:y < i:=by rw [← HR.out.2.len]; exact (List.getElem?_eq_some_iff.1 hy).1
     have hg:fr.getD y []=l:=by rw [List.getD_eq_getElem?_getD,hy]; rfl
     rcases (HR.out.2.iff y hyn x).1 (by rw [hg]; exact hx) with ⟨h1,_⟩ | ⟨_,q,hq,_⟩
     ·exact h1
     ·omega
    ·have:=HR.out.2.few l hl; omega
   have t15:W5.cell? ⟨tb,1,none⟩=some (.slice (some ⟨sg,0,none⟩) i sc):=(hfa5.below.cell (p:=⟨tb,1,none⟩) htl).trans t1
   have H5:=Lib.hid (show _∧_∧_∧_ from ⟨hba,hfa5.below,HR.out.2,hcb5⟩)
   have HW5:=Lib.hid (And.intro hW5 hcb)
   have hcbl:w.heap.size+4≤cb:=by omega
   clear hba hfa5 hb5 hW5 hcb hcb5 hlt
   go_upto_region 15 with (fail)
   rw [← HW5.out.1]
   rw [← HW5.out.2]
   clear hmf
   go_wp2_with fail
   clear t15
   go_loopw [79] (fun jv wx=>∃ (j:Nat) (lv:List Bool),j≤i∧jv = .int .i64 j∧Hid (LiveTo M sets rows fr j lv∧BackAt (w.heap.size+1) (w.heap.size+3) cb w.heap.size (w.heap.size+2) fvs fr lv wx∧Below w.heap.size w wx)) (fun jv _=>i - (intOf jv).toNat)
   case atStart =>
    refine ⟨0,List.replicate i false,by omega,rfl,?_,H5.out.1,H5.out.2.1⟩
    rw [HV.out.2.2.2]
    exact LiveTo.start M sets rows fr
   case round =>
    obtain ⟨j,lv,hj,rfl,HJ⟩:=hrel
    by_cases hjl:j < i
    ·obtain ⟨s,hs⟩:∃ s,sets[j]?=some s:=⟨_,List.getElem?_eq_getElem (by rw [← HV.out.2.2.2]; exact hjl)⟩
     have hsr:=hH.out.2.2.2.srow
     rw [HV.out.1] at hsr
     have k0:∀ q u,(setCells sets)[j * 3+q]?=some u→wr.cell? ⟨sg,j * 3+q,none⟩=some u:=fun q u hu=>by
      have h2:=ownsRow_cell0 hsr hu
      exact (HJ.out.2.2.cell (p:=⟨sg,j * 3+q,none⟩) (lt_of_cell h2)).trans h2
     have s0:wr.cell? ⟨sg,j * 3,none⟩=some (.int .u64 s.a):=k0 0 _ (setCells_at _ _ _ hs 0 (by decide))
     have s1:wr.cell? ⟨sg,j * 3+1,none⟩=some (.int .u64 s.b):=k0 1 _ (setCells_at _ _ _ hs 1 (by decide))
     have s2:wr.cell? ⟨sg,j * 3+2,none⟩=some (.int .u64 s.c):=k0 2 _ (setCells_at _ _ _ hs 2 (by decide))
     have hsok:=((hH.out.2.2.1.reach s (List.mem_of_getElem? hs)).ok hH.out.1.1 hH.out.2.1).1
     obtain ⟨W6,hW6⟩:∃ W6,W6=wr.alloc (.cells #[.int .u64 s.a,.int .u64 s.b,.int .u64 s.c] 272):=⟨_,rfl⟩
     have hb6:Below wr.heap.size wr W6:=by rw [hW6]; exact (Below.refl _ wr).alloc (Nat.le_refl _) _
     have hbw6:=HJ.out.2.2.trans (hb6.mono HJ.out.2.2.size)
     have hM6:MachIs W6 mb M:=⟨hH.out.1.1,(hbw6.block mb (lt_of_heap hH.out.1.2)).trans hH.out.1.2⟩
     have hcall:=machEnds_any mb M s W6 hsok hM6
     obtain ⟨en,hen⟩:∃ en,en=M.ends s:=⟨_,rfl⟩
     rw [← hen] at hcall
     have HC:=Lib.hid (show _∧_∧_∧_∧_ from ⟨hcall,hs,hen,hb6,hbw6⟩)
     have HW6:=Lib.hid hW6
     have hjz:(j:Int) < (i:Int):=by omega
     have hjz0:(0:Int)≤(j:Int):=by omega
     clear hsr k0 hsok hM6 hb6 hbw6 hcall hs hen hW6
     go_wp2_with fail
     rw [← HW6.out]
     have hcall:=HC.out.1
     unfold ptrV PSet.val PSet.cells at hcall
     refine hcall.mono ?_
     clear hcall
     rintro en7 w7 ⟨rfl,hb7⟩
     have hb67:=HC.out.2.2.2.1.trans (hb7.mono HC.out.2.2.2.1.size)
     have hba7:=HJ.out.2.1.under hb67
     have hbw7:=HC.out.2.2.2.2.trans (hb7.mono HC.out.2.2.2.2.size)
     have H7:=Lib.hid (And.intro hba7 hbw7)
     clear hb67 hba7 hbw7 hb7 s0 s1 s2
     cases en
     ·have hsk:=HJ.out.1.skip HC.out.2.1 HC.out.2.2.1.symm
      have HN:=Lib.hid hsk
      clear hsk
      go_wp2_with fail
      exact ⟨⟨j+1,lv,by omega,by go_num,HN.out,H7.out.1,H7.out.2⟩,by simp [intOf]; omega⟩
     ·have k11:w7.cell? ⟨cb,0,none⟩=some (.func (.func 129) #[] #[.pointer (some ⟨w.heap.size+1,0,none⟩),.pointer (some ⟨w.heap.size+3,0,none⟩),.pointer (some ⟨cb,0,none⟩)]):=cell_block H7.out.1.cb
      have hlvl:lv.length=i:=by rw [HJ.out.1.len,← HV.out.2.2.2]
      have hcall:=back_any (w.heap.size+1) (w.heap.size+3) cb w.heap.size (w.heap.size+2) fvs fr (unmarked lv) lv j w7 (Nat.le_refl _) (by omega) (by omega) H7.out.1
      have HC8:=Lib.hid hcall
      clear hcall hlvl
      go_wp2_with fail
      have hcall:=HC8.out
      unfold ptrV at hcall
      refine hcall.mono ?_
      clear hcall
      rintro en8 w8 ⟨rfl,lv',hmk8,hba8,hmod8⟩
      have hfr:=H5.out.2.2.1
      have hall:=HALL.out
      rw [HV.out.2.2.2] at hfr hall
      have hlt8:=HJ.out.1.mark hfr hall HC.out.2.1 HC.out.2.2.1.symm hmk8
      have hbw8:Below w.heap.size w w8:=H7.out.2.trans (hmod8.toBelow H7.out.2.size (fun k e=>by omega))
      have HN:=Lib.hid (show _∧_∧_ from ⟨hlt8,hba8,hbw8⟩)
      clear hfr hall hlt8 hbw8 hmk8 hba8 hmod8 k11
      go_wp2_with fail
      exact ⟨⟨j+1,lv',by omega,by go_num,HN⟩,by simp [intOf]; omega⟩
    ·obtain rfl:j=i:=by omega
     have hlvl:lv.length=j:=by rw [HJ.out.1.len,← HV.out.2.2.2]
     have hfix:=LFix.of hH.out.1 hH.out.2.2.1 hH.out.2.2.2 HV.out.2.2.2 rfl HALL.out HV.out.1 HV.out.2.1 HV.out.2.2.1 hlvl HJ.out.2.1 HJ.out.2.2
     obtain ⟨m,hm⟩:∃ m,m=M.kinds.length:=⟨_,rfl⟩
     rw [← hm] at hfix
     obtain ⟨P,hPd⟩:∃ P:World→Prop,P=fun w'=>LFix w' mb tb (w.heap.size+1) sg sc og oc kg kc w.heap.size j m M sets rows lv∧Below w.heap.size w w':=⟨_,rfl⟩
     have hP:P wr:=by rw [hPd]; exact ⟨hfix,HJ.out.2.2⟩
     have HPS:Hid (Stable P):=Lib.hid (by
      rw [hPd]
      exact fun w1 w2 h hb=>⟨h.1.below hb,h.2.trans (hb.mono h.2.size)⟩)
     have HPI:Hid (∀ w',P w'→LFix w' mb tb (w.heap.size+1) sg sc og oc kg kc w.heap.size j m M sets rows lv∧Below w.heap.size w w'):=Lib.hid (fun w' h=>by rw [hPd] at h; exact h)
     have HLV:Hid (LiveTo M sets rows fr sets.length lv∧FrIs rows sets.length sets.length 0 fr):=Lib.hid (by
      have h1:=HJ.out.1
      have h2:=H5.out.2.2.1
      rw [HV.out.2.2.2] at h1 h2
      exact ⟨h1,h2⟩)
     have HM:=Lib.hid hm
     have hmk:∀ W:World,(Instr.makeSlice 27 (.int .i64 j) (.int .i64 j)).run Tryz.prog W = .ok (.slice (some ⟨W.heap.size,0,none⟩) j j) (W.alloc (.cells (madeCells #[.int .i64 0] j) 3)):=fun W=>by
      have:=run_make (P:=Tryz.prog) W 27 3 i3 (.int .i64 0) Tryz.underlying27 hi hz0 .i64 .i64 j j (by omega) (Int.le_refl _) (by rw [hz2]; omega) (by omega)
      rw [hz1] at this
      simpa [Value.cells] using this
     have t1:=hfix.t1
     have HWR:=Lib.hid hP
     clear hfix hPd hP hlvl hm hjl hi hz0 hz1 hz2
     go_upto_region 22 with (fail)
     obtain ⟨F,hF⟩:∃ F,F=wr.heap.size:=⟨_,rfl⟩
     obtain ⟨W8,hW8⟩:∃ W8,W8=wr.alloc (.cells (madeCells #[.int .i64 0] j) 3):=⟨_,rfl⟩
     have hst:Hid (IntRow W8 F (List.replicate j 0)∧Kept P F W8):=Lib.hid (by
      rw [hF,hW8,made_zeroL]
      exact ⟨heap_alloc_new wr _,(Kept.start HWR.out).on ((Below.refl _ wr).alloc (Nat.le_refl _) _)⟩)
     have HI0:Hid (InitTo M sets lv 0 (List.replicate j 0)):=Lib.hid (by
      rw [HV.out.2.2.2]
      exact InitTo.start M sets lv)
     rw [← hF,← hW8]
     have HMK:=Lib.hid hmk
     clear hF hW8 t1 HWR HJ hmk
     have t1:=(HPI.out _ (hst.out.2.now HPS.out)).1.t1
     go_wp2_with fail
     clear t1
     go_loopw [102] (fun iv wx=>∃ (i:Nat) (b:List Nat),i≤j∧iv = .int .i64 i∧Hid (InitTo M sets lv i b∧IntRow wx F b∧Kept P F wx)) (fun iv _=>j - (intOf iv).toNat)
     case atStart=>exact ⟨0,_,by omega,rfl,HI0.out,hst.out.1,hst.out.2⟩
     case round =>
      clear hst HI0
      obtain ⟨i,b,hi,rfl,HI⟩:=hrel
      by_cases hil:i < j
      ·obtain ⟨s,hs⟩:∃ s,sets[i]?=some s:=⟨_,List.getElem?_eq_getElem (by rw [← HV.out.2.2.2]; exact hil)⟩
       have hfx:=HPI.out _ (HI.out.2.2.now HPS.out)
       have s0:=hfx.1.set' i s hs 0 (by decide)
       have s1:=hfx.1.set' i s hs 1 (by decide)
       have s2:=hfx.1.set' i s hs 2 (by decide)
       have e0:s.word 0=s.a:=rfl
       have e1:s.word 1=s.b:=rfl
       have e2:s.word 2=s.c:=rfl
       rw [Nat.add_zero,e0] at s0
       rw [e1] at s1
       rw [e2] at s2
       have hsok:=((hH.out.2.2.1.reach s (List.mem_of_getElem? hs)).ok hH.out.1.1 hH.out.2.1).1
       obtain ⟨W6,hW6⟩:∃ W6,W6=wr.alloc (.cells #[.int .u64 s.a,.int .u64 s.b,.int .u64 s.c] 272):=⟨_,rfl⟩
       have hb6:Below wr.heap.size wr W6:=by rw [hW6]; exact (Below.refl _ wr).alloc (Nat.le_refl _) _
       have hk6:=HI.out.2.2.on (hb6.mono HI.out.2.2.size)
       have hr6:=HI.out.2.1.old (hb6.block F HI.out.2.1.lt)
       have hfx6:=(HPI.out _ (hk6.now HPS.out)).1
       have cl6:=hfx6.cl
       have cv6:=hfx6.lvc i hil
       have hcall:=machEnds_any mb M s W6 hsok hfx6.mach
       obtain ⟨en,hen⟩:∃ en,en=M.ends s:=⟨_,rfl⟩
       obtain ⟨l,hl⟩:∃ l,l=lv.getD i false:=⟨_,rfl⟩
       rw [← hen] at hcall
       rw [← hl] at cv6
       rw [hW6] at cl6 cv6
       have HC:=Lib.hid (show _∧_∧_∧_∧_∧_ from ⟨hcall,hs,hen,hl,hr6,hk6⟩)
       have HW6:=Lib.hid hW6
       have hiz:(i:Int) < (j:Int):=by omega
       have hiz0:(0:Int)≤(i:Int):=by omega
       clear hfx e0 e1 e2 hsok hb6 hk6 hr6 hfx6 hcall hs hen hl hW6
       cases l
       ·have HN:=Lib.hid (HI.out.1.skip HC.out.2.2.2.1.symm)
        go_wp2_with fail
        rw [← HW6.out]
        exact ⟨⟨i+1,b,by omega,by go_num,HN.out,HC.out.2.2.2.2.1,HC.out.2.2.2.2.2⟩,by simp [intOf]; omega⟩
       ·go_wp2_with fail
        rw [← HW6.out]
        have hcall:=HC.out.1
        unfold ptrV PSet.val PSet.cells at hcall
        refine hcall.mono ?_
        clear hcall
        rintro en7 w7 ⟨rfl,hb7⟩
        have hr7:=HC.out.2.2.2.2.1.old (hb7.block F HC.out.2.2.2.2.1.lt)
        have hk7:=HC.out.2.2.2.2.2.on (hb7.mono HC.out.2.2.2.2.2.size)
        have hlen:i < b.length:=by rw [HI.out.1.len,← HV.out.2.2.2]; exact hil
        have c7:=hr7.cell hlen
        have f7:=hr7.free i
        have hput:=HI.out.1.put HC.out.2.1
        have hiv:initV M lv i s=if en then 2 else 1:=by unfold initV; rw [← HC.out.2.2.2.1,← HC.out.2.2.1]; rfl
        rw [hiv] at hput
        have H7:=Lib.hid (show _∧_∧_ from ⟨hr7,hk7,hput⟩)
        clear hr7 hk7 hlen hput hiv hb7 s0 s1 s2 cl6 cv6
        cases en
        ·go_wp2_with fail
         exact ⟨⟨i+1,_,by omega,by go_num,H7.out.2.2,H7.out.1.set i 1,H7.out.2.1.on ((Below.refl _ _).setCell (p:=⟨F,i,none⟩) (Nat.le_refl _) _)⟩,by simp [intOf]; omega⟩
        ·go_wp2_with fail
         exact ⟨⟨i+1,_,by omega,by go_num,H7.out.2.2,H7.out.1.set i 2,H7.out.2.1.on ((Below.refl _ _).setCell (p:=⟨F,i,none⟩) (Nat.le_refl _) _)⟩,by simp [intOf]; omega⟩
      ·obtain rfl:j=i:=by omega
       have HB0:Hid (BlkOk M sets rows b):=Lib.hid (by
        have h:=HI.out.1
        rw [HV.out.2.2.2] at h
        exact h.ok HLV.out.1 HLV.out.2 (HALL.out.trans HV.out.2.2.2) hH.out.2.2.1)
       have HIR:=Lib.hid (show IntRow wr F b∧P wr from ⟨HI.out.2.1,HI.out.2.2.now HPS.out⟩)
       clear HI hil hi
       have hml:m≤256:=by rw [HM.out]; exact hkl
       go_wp2_with fail
       go_loopw [14,17] (fun bv nv wx=>∃ (B0 cnt:Nat) (b:List Nat),bv = .slice (some ⟨B0,0,none⟩) j j∧nv = .int .i64 cnt∧cnt≤j∧Hid (BlkOk M sets rows b∧(cnt=0∨BCnt b cnt)∧IntRow wx B0 b∧P wx)) (fun _ nv _=>j - (intOf nv).toNat)
       case atStart=>exact ⟨F,0,b,rfl,rfl,by omega,HB0.out,.inl rfl,HIR.out⟩
       case round =>
        clear HB0 HIR b
        obtain ⟨B0,cnt,b,rfl,rfl,hcj,HB⟩:=hrel
        have t3:=(HPI.out _ HB.out.2.2.2).1.t3
        go_wp2_with fail
        clear t3
        go_loopw [18,130] (fun nv kv wx=>∃ (k nb:Nat) (c:List Nat),k≤m∧kv = .int .i64 k∧nv = .slice (some ⟨nb,0,none⟩) j j∧Hid (Splits rows 0 k b c∧IntRow wx B0 b∧IntRow wx nb c∧P wx)) (fun _ kv _=>m - (intOf kv).toNat)
        case atStart=>exact ⟨0,B0,b,by omega,rfl,rfl,Splits.start rows b,HB.out.2.2.1,HB.out.2.2.1,HB.out.2.2.2⟩
        case round =>
         obtain ⟨k,nb,c,hk,rfl,rfl,HK⟩:=hrel
         by_cases hkm:k < m
         ·have hmm:=@run_makeMap Tryz.prog
          obtain ⟨W1,hrun1,hmap1,hg1,hz1⟩:=MapIs.update sign_law (MapIs.made signV wr) (0,0) trivial (fun _ _=>trivial) Tryz.underlying292 (intV 0)
          have hrun1':(Instr.mapUpdate 292 (.map (some wr.heap.size)) (.agg #[.int .i64 0,.int .i64 0]) (.int .i64 0)).run Tryz.prog (wr.alloc (.map #[] 0)) = .ok () W1:=hrun1
          have hmap1':MapIs signV W1 wr.heap.size (vals intV [((0,0),0)]):=hmap1
          obtain ⟨g,hg⟩:∃ g,g=wr.heap.size:=⟨_,rfl⟩
          have hz:W1.heap.size=g+1:=by rw [hz1,hg]; simp
          obtain ⟨W2,hW2⟩:∃ W2,W2=W1.alloc (.cells (madeCells #[.int .i64 0] j) 3):=⟨_,rfl⟩
          obtain ⟨PR,hPR⟩:∃ PR:World→Prop,PR=fun w'=>P w'∧IntRow w' B0 b∧IntRow w' nb c:=⟨_,rfl⟩
          have HRS:Hid (Stable PR):=Lib.hid (by
           rw [hPR]
           exact fun w1 w2 h hb=>⟨HPS.out _ _ h.1 hb,h.2.1.old (hb.block _ h.2.1.lt),h.2.2.old (hb.block _ h.2.2.lt)⟩)
          have HRI:Hid (∀ w',PR w'→P w'∧IntRow w' B0 b∧IntRow w' nb c):=Lib.hid (fun w' h=>by rw [hPR] at h; exact h)
          have hb1:Below g wr W1:=by
           have h0:Below wr.heap.size wr (wr.alloc (.map #[] 0)):=(Below.refl _ wr).alloc (Nat.le_refl _) _
           rw [hg]
           exact h0.grown hg1 h0.size fun b e=>by have:=Option.some.inj e; omega
          have hk2:Kept PR g W2:=by
           have h0:PR wr:=by rw [hPR]; exact ⟨HK.out.2.2.2,HK.out.2.1,HK.out.2.2.1⟩
           have h1:=Kept.start h0
           rw [← hg] at h1
           rw [hW2]
           exact h1.on (hb1.alloc (by omega) _)
          have hmap2:MapIs signV W2 g (vals intV [((0,0),0)]):=by
           rw [hW2,hg]
           exact hmap1'.of_block (Below.heap_alloc W1 _ _ (by omega))
          have hrow2:IntRow W2 (g+1) (List.replicate j 0):=by
           rw [hW2,← hz,made_zeroL]
           unfold IntRow
           rw [← made_zeroL]
           exact heap_alloc_new W1 _
          have hcl:c.length=j:=by rw [HK.out.1.len,HB.out.1.len,← HV.out.2.2.2]
          have hsp0:SplitTo rows b c k 0 [((0,0),0)] (List.replicate j 0):=by
           have:=SplitTo.start rows b c k
           rw [hcl] at this
           exact this
          have H2:=Lib.hid (show _∧_∧_∧_ from ⟨hsp0,hmap2,hrow2,hk2⟩)
          have HW2:=Lib.hid (And.intro hW2 (And.intro hg hz))
          have hmk:=HMK.out
          have HCL:=Lib.hid hcl
          have hkz:(k:Int) < (m:Int):=by omega
          have hkz0:(0:Int)≤(k:Int):=by omega
          clear hrun1 hmap1 hmap1' hz1 hg1 hb1 hk2 hmap2 hrow2 hsp0 hPR hW2 hg hz hcl
          go_wp2_with fail
          rw [← HW2.out.1,← HW2.out.2.1,HW2.out.2.2]
          clear hmk hmm hrun1' HW2
          go_loopw [141] (fun iv wx=>∃ (i:Nat) (ids:List ((Nat × Nat) × Nat)) (d:List Nat),i≤j∧iv = .int .i64 i∧Hid (SplitTo rows b c k i ids d∧MapIs signV wx g (vals intV ids)∧IntRow wx (g+1) d∧Kept PR g wx)) (fun iv _=>j - (intOf iv).toNat)
          case atStart=>exact ⟨0,_,_,by omega,rfl,H2.out⟩
          case round =>
           clear H2
           obtain ⟨i,ids,d,hi,rfl,HI⟩:=hrel
           by_cases hil:i < j
           ·obtain ⟨hp,hrb,hrc⟩:=HRI.out _ (HI.out.2.2.2.now HRS.out)
            have hfx:=(HPI.out _ hp).1
            obtain ⟨r,hr⟩:∃ r,rows[i]?=some r:=⟨_,List.getElem?_eq_getElem (by rw [HALL.out]; exact hil)⟩
            obtain ⟨s,hs⟩:∃ s,sets[i]?=some s:=⟨_,List.getElem?_eq_getElem (by rw [← HV.out.2.2.2]; exact hil)⟩
            obtain ⟨kc',hkc⟩:∃ c,M.kinds[k]?=some c:=⟨_,List.getElem?_eq_getElem (by rw [← HM.out]; exact hkm)⟩
            obtain ⟨z,hz,hcell⟩:=(hH.out.2.2.1.row i r s hr hs).cell k kc' hkc
            obtain ⟨rb,hrw,hrz⟩:=hfx.row i r hr
            have kz:=hrz k z hz
            have t2:=hfx.t2
            have hgo:=goes_at hr hz
            obtain ⟨t,ht⟩:∃ t,t=dest rows b i k:=⟨_,rfl⟩
            have HT:=Lib.hid ht
            have HNX:=Lib.hid (show _∧_∧_ from ⟨hp,hrb,hrc⟩)
            have hcl:wr.cell? ⟨w.heap.size+1,0,none⟩=some (.slice (some ⟨w.heap.size,0,none⟩) j j):=hfx.cl
            have hil0:(0:Int)≤(i:Int):=by omega
            have hilz:(i:Int) < (j:Int):=by omega
            have HRC:=Lib.hid hrc
            clear hp hrb hrc hr hs hkc hrz hz ht
            go_upto_region 41 with (fail)
            rename_i K1 hK1
            go_cut [24] from 143 to 194 (fun jv wy=>jv = .int .i64 z∧wy=wr)
            case first =>
             go_wp2_with fail
             go_meet
             exact ⟨rfl,rfl⟩
            case rest =>
            obtain ⟨rfl,rfl⟩:=hcut
            refine hK1 _ _ ?_
            clear hK1 K1
            go_cut [23] from 143 to 194 (fun tv wy=>tv = .int .i64 t∧wy=wc)
            case first =>
             rcases hcell with ⟨_,rfl⟩ | ⟨_,y,rfl,hy⟩
             ·have HT0:Hid (t=0):=Lib.hid (by
               rw [HT.out]
               unfold dest
               rw [hgo,if_neg (by decide)])
              clear hgo hfx
              go_wp2_with fail
              go_meet
              exact ⟨by rw [HT0.out]; rfl,rfl⟩
             ·have hyj:y < j:=by rw [HV.out.2.2.2]; exact (List.getElem?_eq_some_iff.1 hy).1
              have hdt:t=blk b y:=by
               rw [HT.out]
               unfold dest
               rw [hgo,if_pos (by omega)]
               simp
              have cv:=hfx.lvc y hyj
              have hmk:=HB.out.1.mark HLV.out.1 HLV.out.2 (HALL.out.trans HV.out.2.2.2) hH.out.2.2.1 (y:=y) (by rw [← HV.out.2.2.2]; exact hyj)
              have cb:=HNX.out.2.1.cell (i:=y) (by rw [HB.out.1.len,← HV.out.2.2.2]; exact hyj)
              rw [← hdt] at hmk cb
              obtain ⟨ly,hly⟩:∃ ly,ly=lv.getD y false:=⟨_,rfl⟩
              rw [← hly] at cv hmk
              have HMK2:=Lib.hid hmk
              have hy0:(0:Int)≤(y:Int):=by omega
              have hyz:(y:Int) < (j:Int):=by omega
              clear hgo hfx hdt hmk hly hy
              cases ly
              ·have HT0:Hid (t=0):=Lib.hid (by
                have:=HMK2.out
                exact Classical.byContradiction fun e=>by have:=this.1 e; cases this)
               go_wp2_with fail
               go_meet
               exact ⟨by rw [HT0.out]; rfl,rfl⟩
              ·go_wp2_with fail
               go_meet
               exact ⟨rfl,rfl⟩
            case rest =>
            obtain ⟨rfl,rfl⟩:=hcut
            clear hcell kz t2 hgo hrw hcl
            have cx:=HRC.out.cell (i:=i) (by rw [HCL.out]; exact hil)
            have hmk:=HB.out.1.mark HLV.out.1 HLV.out.2 (HALL.out.trans HV.out.2.2.2) hH.out.2.2.1 (y:=i) (by rw [← HV.out.2.2.2]; exact hil)
            have hzr:=HK.out.1.zero i (by rw [HB.out.1.len,← HV.out.2.2.2]; exact hil)
            rw [hmk] at hzr
            obtain ⟨k1,hk1⟩:∃ k1,k1=(signOf rows b c k i).1:=⟨_,rfl⟩
            obtain ⟨k2,hk2⟩:∃ k2,k2=(signOf rows b c k i).2:=⟨_,rfl⟩
            have HKEY:Hid (signOf rows b c k i=(k1,k2)):=Lib.hid (by rw [hk1,hk2])
            unfold signOf at hk1 hk2
            rw [← HT.out] at hk1 hk2
            obtain ⟨x,hx⟩:∃ x,x=blk c i:=⟨_,rfl⟩
            obtain ⟨l,hl⟩:∃ l,l=lv.getD i false:=⟨_,rfl⟩
            rw [← hx] at cx hzr hk1 hk2
            rw [← hl] at hzr
            obtain ⟨sgb,hsgb⟩:∃ q,q=wc.heap.size:=⟨_,rfl⟩
            obtain ⟨W3,hW3⟩:∃ W3,W3=wc.alloc (.cells #[.int .i64 x,.int .i64 t] 291):=⟨_,rfl⟩
            have hb3:Below sgb wc W3:=by rw [hW3,hsgb]; exact (Below.refl _ wc).alloc (Nat.le_refl _) _
            have hgs:g≤sgb:=by rw [hsgb]; exact HI.out.2.2.2.size
            have hk3:=HI.out.2.2.2.on (hb3.mono hgs)
            have hfx3:=(HPI.out _ (HRI.out _ (hk3.now HRS.out)).1).1
            have cl3:=hfx3.cl
            have cv3:=hfx3.lvc i hil
            have hs3:W3.heap[sgb]?=some (.cells #[.int .i64 x,.int .i64 t] 291 (0,0)):=by rw [hW3,hsgb]; exact heap_alloc_new wc _
            have hm3:MapIs signV W3 g (vals intV ids):=HI.out.2.1.of_block (hb3.block g (by rw [hsgb]; exact HI.out.2.1.lt))
            have hr3:=HI.out.2.2.1.old (hb3.block (g+1) (by rw [hsgb]; exact HI.out.2.2.1.lt))
            rw [← hl] at cv3
            have H3:=Lib.hid (show _∧_∧_∧_∧_ from ⟨hk3,hm3,hr3,hs3,hgs⟩)
            have H3b:Hid (g < sgb∧g+1 < sgb):=Lib.hid ⟨by rw [hsgb]; exact HI.out.2.1.lt,by rw [hsgb]; exact HI.out.2.2.1.lt⟩
            have HK12:=Lib.hid (And.intro hk1 hk2)
            have HX:=Lib.hid hzr
            have HSP:=Lib.hid HI.out.1
            have HWS:=Lib.hid (And.intro hW3 hsgb)
            clear hmk hzr hk1 hk2 hx hl hb3 hk3 hfx3 hs3 hm3 hr3 hgs HI HNX hfx hW3 hsgb
            go_upto_region 45 with (fail)
            rw [← HWS.out.1]
            rw [← HWS.out.2]
            rename_i K1 hK1
            clear HWS
            go_cut [176] from 143 to 194 (fun v wy=>v = .bool (!l)∧wy=W3)
            case first =>
             go_wp2_with fail
             go_meet
             exact ⟨rfl,rfl⟩
            case rest =>
            obtain ⟨rfl,hwe⟩:=hcut
            rw [hwe]
            clear hwe
            refine hK1 _ _ ?_
            clear hK1 K1 cl3 cv3 cx
            go_cut [] from 143 to 194 (fun wy=>Hid (wy.heap[sgb]?=some (.cells #[.int .i64 k1,.int .i64 k2] 291 (0,0))∧Below sgb W3 wy))
            case first =>
             have c0:W3.cell? ⟨sgb,0,none⟩=some (.int .i64 x):=cell_block H3.out.2.2.2.1
             have c1:W3.cell? ⟨sgb,1,none⟩=some (.int .i64 t):=cell_block H3.out.2.2.2.1
             have f0:W3.frozen? ⟨sgb,0,none⟩=false:=free_block H3.out.2.2.2.1
             have f1:W3.frozen? ⟨sgb,1,none⟩=false:=free_block H3.out.2.2.2.1
             clear t1 t2 t2' hnz hi' hj hml hcj hk hkm hkz hkz0 hi hil hil0 hilz hkl hk0 htl hlc6 hcbl hs0 hfew
             cases l
             ·have hx0:x=0:=Classical.byContradiction fun e=>absurd (HX.out.1 e) (by decide)
              have hkk:Hid (k1=0∧k2=0):=Lib.hid (by
               obtain ⟨h1,h2⟩:=HK12.out
               rw [if_pos hx0] at h1 h2
               exact ⟨h1,h2⟩)
              clear hx0
              go_wp2_with fail
              go_meet
              have g1:=heap_setCell_same W3 sgb 0 _ _ (.int .i64 0) H3.out.2.2.2.1
              have g2:=heap_setCell_same _ sgb 1 _ _ (.int .i64 0) g1
              refine Lib.hid ⟨?_,((Below.refl _ W3).setCell (p:=⟨sgb,0,none⟩) (Nat.le_refl _) _).setCell (p:=⟨sgb,1,none⟩) (Nat.le_refl _) _⟩
              rw [hkk.out.1,hkk.out.2]
              exact g2
             ·have hx0:x≠0:=HX.out.2 rfl
              have hkk:Hid (k1=x∧k2=t):=Lib.hid (by
               obtain ⟨h1,h2⟩:=HK12.out
               rw [if_neg hx0] at h1 h2
               exact ⟨h1,h2⟩)
              clear hx0
              go_wp2_with fail
              go_meet
              refine Lib.hid ⟨?_,Below.refl _ _⟩
              rw [hkk.out.1,hkk.out.2]
              exact H3.out.2.2.2.1
            case rest =>
            have HIL:=Lib.hid hil
            have hk4:=H3.out.1.on (hcut.out.2.mono H3.out.2.2.2.2)
            have hm4:MapIs signV wc g (vals intV ids):=H3.out.2.1.of_block (hcut.out.2.block g H3b.out.1)
            have hr4:IntRow wc (g+1) d:=H3.out.2.2.1.old (hcut.out.2.block (g+1) H3b.out.2)
            have c0:wc.cell? ⟨sgb,0,none⟩=some (.int .i64 k1):=cell_block hcut.out.1
            have c1:wc.cell? ⟨sgb,1,none⟩=some (.int .i64 k2):=cell_block hcut.out.1
            have hic:i < c.length:=by rw [HCL.out]; exact HIL.out
            have hid:i < d.length:=by rw [HSP.out.len]; exact hic
            refine opt_cases (get ids (k1,k2)) (fun hget=>?_) (fun y hget=>?_)
            ·have hlk:=sign_none hm4 hget
             have hln:=sign_len hm4
             obtain ⟨il,hil2⟩:∃ il,il=ids.length:=⟨_,rfl⟩
             rw [← hil2] at hln
             obtain ⟨W5,hrun5,hmap5,hg5⟩:=sign_put hm4 k1 k2 il
             have hsp:=HSP.out.new hic (by rw [HKEY.out]; exact hget)
             rw [HKEY.out,← hil2] at hsp
             have hr5:IntRow W5 (g+1) d:=hr4.old (hg5.block (g+1) hr4.lt (fun e=>by have:=Option.some.inj e; omega))
             have hk5:Kept PR g W5:=hk4.on (by
              have h0:Below g wc wc:=Below.refl _ _
              exact h0.grown hg5 hk4.size fun b e=>by have:=Option.some.inj e; omega)
             have c7:=hr5.cell hid
             have f7:=hr5.free i
             have HN:=Lib.hid (show _∧_∧_∧_ from ⟨hsp,hmap5,hr5,hk5⟩)
             clear hget hsp hm4 hr4 hk4 hic hid hmap5 hr5 hk5 hg5 hil2
             go_wp2_with fail
             exact ⟨⟨i+1,_,_,by have:=HIL.out; omega,by go_num,HN.out.1,HN.out.2.1.of_block (Below.heap_setCell W5 ⟨g+1,i,none⟩ (.int .i64 il) g (by show g≠g+1; omega)),HN.out.2.2.1.set i il,HN.out.2.2.2.on ((Below.refl _ _).setCell (p:=⟨g+1,i,none⟩) (by show g≤g+1; omega) _)⟩,by have:=HIL.out; simp [intOf]; omega⟩
            ·have hlk:=sign_some hm4 hget
             have hsp:=HSP.out.old hic (by rw [HKEY.out]; exact hget)
             have c7:=hr4.cell hid
             have f7:=hr4.free i
             have HN:=Lib.hid (show _∧_∧_∧_ from ⟨hsp,hm4,hr4,hk4⟩)
             clear hget hsp hm4 hr4 hk4 hic hid
             go_wp2_with fail
             exact ⟨⟨i+1,ids,_,by have:=HIL.out; omega,by go_num,HN.out.1,HN.out.2.1.of_block (Below.heap_setCell wc ⟨g+1,i,none⟩ (.int .i64 y) g (by show g≠g+1; omega)),HN.out.2.2.1.set i y,HN.out.2.2.2.on ((Below.refl _ _).setCell (p:=⟨g+1,i,none⟩) (by show g≤g+1; omega) _)⟩,by have:=HIL.out; simp [intOf]; omega⟩
           ·obtain rfl:j=i:=by omega
            obtain ⟨hp,hrb,hrc⟩:=HRI.out _ (HI.out.2.2.2.now HRS.out)
            have hsp:=HI.out.1
            rw [← HCL.out] at hsp
            have HN:=Lib.hid (show _∧_∧_∧_ from ⟨hsp.splits HK.out.1,hrb,HI.out.2.2.1,hp⟩)
            clear hp hrb hrc hsp
            go_wp2_with fail
            exact ⟨⟨k+1,g+1,d,by omega,by go_num,rfl,HN⟩,by simp [intOf]; omega⟩
         ·obtain rfl:m=k:=by omega
          have hmm:=@run_makeMap Tryz.prog
          have hcl:c.length=j:=by rw [HK.out.1.len,HB.out.1.len,← HV.out.2.2.2]
          have HCL:=Lib.hid hcl
          obtain ⟨g,hg⟩:∃ g,g=wr.heap.size:=⟨_,rfl⟩
          obtain ⟨PR,hPR⟩:∃ PR:World→Prop,PR=fun w'=>P w'∧IntRow w' nb c:=⟨_,rfl⟩
          have HRS:Hid (Stable PR):=Lib.hid (by
           rw [hPR]
           exact fun w1 w2 h hb=>⟨HPS.out _ _ h.1 hb,h.2.old (hb.block _ h.2.lt)⟩)
          have HRI:Hid (∀ w',PR w'→P w'∧IntRow w' nb c):=Lib.hid (fun w' h=>by rw [hPR] at h; exact h)
          obtain ⟨W2,hW2⟩:∃ W2,W2=wr.alloc (.map #[] 0):=⟨_,rfl⟩
          have hk2:Kept PR g W2:=by
           have h0:PR wr:=by rw [hPR]; exact ⟨HK.out.2.2.2,HK.out.2.2.1⟩
           have h1:=Kept.start h0
           rw [← hg] at h1
           rw [hW2]
           exact h1.on ((Below.refl _ wr).alloc (by omega) _)
          have hmap2:MapIs numV W2 g (vals intV ([]:List (Nat × Nat))):=by rw [hW2,hg]; exact MapIs.made numV wr
          have H2:=Lib.hid (show _∧_∧_ from ⟨SeenTo.start c,hmap2,hk2⟩)
          have HW2:=Lib.hid (And.intro hW2 hg)
          clear hcl hPR hW2 hk2 hmap2 hg
          go_wp2_with fail
          rw [← HW2.out.1,← HW2.out.2]
          clear HW2 hmm
          go_loopw [201] (fun iv wx=>∃ (i:Nat) (seen:List (Nat × Nat)),i≤j∧iv = .int .i64 i∧Hid (SeenTo c i seen∧MapIs numV wx g (vals intV seen)∧Kept PR g wx)) (fun iv _=>j - (intOf iv).toNat)
          case atStart=>exact ⟨0,[],by omega,rfl,H2.out⟩
          case round =>
           clear H2
           obtain ⟨i,seen,hi,rfl,HI⟩:=hrel
           by_cases hil:i < j
           ·obtain ⟨hp,hrc⟩:=HRI.out _ (HI.out.2.2.now HRS.out)
            have hfx:=(HPI.out _ hp).1
            have hcl:=hfx.cl
            have hcv:=hfx.lvc i hil
            have hic:i < c.length:=by rw [HCL.out]; exact hil
            have cx:=hrc.cell hic
            have hmk:=HB.out.1.mark HLV.out.1 HLV.out.2 (HALL.out.trans HV.out.2.2.2) hH.out.2.2.1 (y:=i) (by rw [← HV.out.2.2.2]; exact hil)
            have hzr:=HK.out.1.zero i (by rw [HB.out.1.len,← HV.out.2.2.2]; exact hil)
            rw [hmk] at hzr
            obtain ⟨l,hl⟩:∃ l,l=lv.getD i false:=⟨_,rfl⟩
            obtain ⟨x,hx⟩:∃ x,x=blk c i:=⟨_,rfl⟩
            rw [← hl] at hzr hcv
            rw [← hx] at hzr cx
            have HZR:=Lib.hid hzr
            have HXC:=Lib.hid (And.intro hx hic)
            have hil0:(0:Int)≤(i:Int):=by omega
            have hilz:(i:Int) < (j:Int):=by omega
            clear hp hrc hfx hmk hzr hl hx hic
            cases l
            ·have hsk:=HI.out.1.skip (show blk c i=0 from Classical.byContradiction fun e=>absurd (HZR.out.1 (by rw [HXC.out.1]; exact e)) (by decide))
             have HN:=Lib.hid hsk
             clear hsk
             go_wp2_with fail
             exact ⟨⟨i+1,seen,by omega,by go_num,HN.out,HI.out.2⟩,by simp [intOf]; omega⟩
            ·have hlk:=num_look (x:=x) HI.out.2.1
             obtain ⟨v,hv⟩:∃ v,v=(get seen x).getD 0:=⟨_,rfl⟩
             have hvi:v≤400:=by have:=HI.out.1.val x; omega
             rw [← hv] at hlk
             obtain ⟨W5,hrun5,hmap5,hg5⟩:=num_put HI.out.2.1 x (v+1)
             have e1:((v+1:Nat):Int)=(v:Int)+1:=by omega
             rw [e1] at hrun5
             have hadd:=HI.out.1.add (v:=v+1) HXC.out.2 (by rw [← HXC.out.1]; exact HZR.out.2 rfl) (by have:=HI.out.1.val x; omega)
             rw [← HXC.out.1] at hadd
             have hk5:Kept PR g W5:=HI.out.2.2.on (by
              have h0:Below g wr wr:=Below.refl _ _
              exact h0.grown hg5 HI.out.2.2.size fun b e=>by have:=Option.some.inj e; omega)
             have HN:=Lib.hid (show _∧_∧_ from ⟨hadd,hmap5,hk5⟩)
             clear hv hmap5 hg5 e1 hadd hk5
             go_wp2_with fail
             exact ⟨⟨i+1,_,by omega,by go_num,HN.out⟩,by simp [intOf]; omega⟩
           ·obtain rfl:j=i:=by omega
            obtain ⟨hp,hrc⟩:=HRI.out _ (HI.out.2.2.now HRS.out)
            have hln:=num_len HI.out.2.1
            have hsn:=HI.out.1
            rw [← HCL.out] at hsn
            have hb2:=hsn.cnt
            obtain ⟨n2,hn2⟩:∃ n2,n2=seen.length:=⟨_,rfl⟩
            rw [← hn2] at hln hb2
            have hn2j:n2≤j:=by have:=hb2.le; rw [HCL.out] at this; exact this
            have HN:=Lib.hid (show _∧_∧_∧_ from ⟨hb2,hrc,hp,hn2j⟩)
            have hall':=HALL.out.trans HV.out.2.2.2
            have HALL2:=Lib.hid hall'
            clear hb2 hrc hp hsn hn2 hil hi hall'
            by_cases hcc:n2=cnt
            ·have HCC:=Lib.hid hcc
             have g1:((n2:Int) == (cnt:Int))=true:=by rw [hcc]; simp
             clear hcc hn2j
             go_wp2_with fail
             go_ret
             refine ⟨cnt,rfl,?_,(HPI.out _ HN.out.2.2.1).2⟩
             have hb2:=HN.out.1
             rw [HCC.out] at hb2
             have hb1:BCnt b cnt:=by
              rcases HB.out.2.1 with h0 | h0
              ·subst h0; exact BCnt.none HK.out.1 hb2
              ·exact h0
             have hS:=HK.out.1
             rw [HM.out] at hS
             exact HB.out.1.least hH.out.2.2.1 HALL2.out hS hb1 hb2
            ·have HCC:=Lib.hid hcc
             have g1:((n2:Int) == (cnt:Int))=false:=by
              simp only [beq_eq_false_iff_ne,ne_eq]
              omega
             have hlt:cnt < n2:=by
              rcases HB.out.2.1 with h0 | h0
              ·omega
              ·have:=HK.out.1.mono h0 HN.out.1
               omega
             have HLT:=Lib.hid hlt
             have hrd:BlkOk M sets rows c:=by
              have hS:=HK.out.1
              rw [HM.out] at hS
              exact HB.out.1.round hH.out.2.2.1 HALL2.out hS
             have HRD:=Lib.hid hrd
             clear hcc hlt hrd hn2j
             go_wp2_with fail
             exact ⟨⟨nb,n2,c,rfl,rfl,HN.out.2.2.2,HRD.out,.inr HN.out.1,HN.out.2.1,HN.out.2.2.1⟩,by have:=HLT.out; have:=HN.out.2.2.2; simp [intOf]; omega⟩
end Go.Proofs.Ts
namespace Go.Proofs.Ts
open Go
def Ast.lang:Ast→List UInt8→Prop
 | .empty,t=>t=[]
 | .huge,t=>t=[]
 | .one s,t=>∃ c:UInt8,t=[c]∧s.has c.toNat=true
 | .seq a b,t=>∃ u v,t=u++v∧a.lang u∧b.lang v
 | .or a b,t=>a.lang t∨b.lang t
 | .many a sm,t=>∃ l:List (List UInt8),t=l.flatten∧(∀ u∈l,a.lang u)∧(sm=true→l≠[])
 | .maybe a,t=>t=[]∨a.lang t
def Ast.nul:Ast→Bool
 | .empty | .huge | .maybe _=>true
 | .one _=>false
 | .seq a b=>a.nul && b.nul
 | .or a b=>a.nul || b.nul
 | .many a sm=>a.nul || !sm
theorem Ast.nul_iff (e:Ast):e.nul=true↔e.lang []:=by
 induction e with
 | empty=>simp [nul,lang]
 | huge=>simp [nul,lang]
 | one s=>simp [nul,lang]
 | maybe a ih=>simp [nul,lang]
 | or a b iha ihb=>simp [nul,lang,iha,ihb]
 | seq a b iha ihb =>
  simp only [nul,lang,Bool.and_eq_true,iha,ihb]
  constructor
  ·exact fun h=>⟨[],[],rfl,h.1,h.2⟩
  ·rintro ⟨u,v,h,h1,h2⟩
   obtain ⟨rfl,rfl⟩:=List.append_eq_nil_iff.1 h.symm
   exact ⟨h1,h2⟩
 | many a sm ih =>
  simp only [nul,lang,Bool.or_eq_true,ih,Bool.not_eq_true']
  constructor
  ·rintro (h | h)
   ·exact ⟨[[]],rfl,by simpa using h,by simp⟩
   ·exact ⟨[],rfl,by simp,by simp [h]⟩
  ·rintro ⟨l,h,h1,h2⟩
   cases sm with
   | false=>exact .inr rfl
   | true =>
    match l,h2 rfl with
    | x :: l,_ =>
     have hx:x=[]:=by
      have:x++l.flatten=[]:=by simpa using h.symm
      exact (List.append_eq_nil_iff.1 this).1
     exact .inl (hx ▸ h1 x List.mem_cons_self)
/-! ### What is read, place by place. -/
def PM.fol (M:PM) (k k':Nat):Prop:=(M.follow.getD k PSet.zero).mem k'=true
def PM.takes (M:PM) (k:Nat) (c:UInt8):Prop:=(M.atc c.toNat).mem k=true
def PM.run (M:PM):List UInt8→Nat→Prop
 | [],k=>M.last.mem k=true
 | c :: t,k=>∃ k',k' < 192∧M.fol k k'∧M.takes k' c∧M.run t k'
def PM.via (M:PM) (P:Nat→Prop) (t:List UInt8):Prop:=∃ c t' k,t=c :: t'∧k < 192∧P k∧M.takes k c∧M.run t' k
theorem PM.via_or {M:PM} {P Q:Nat→Prop} {t:List UInt8}:M.via (fun k=>P k∨Q k) t↔M.via P t∨M.via Q t:=by
 constructor
 ·rintro ⟨c,t',k,h1,h2,h3 | h3,h4⟩
  ·exact .inl ⟨c,t',k,h1,h2,h3,h4⟩
  ·exact .inr ⟨c,t',k,h1,h2,h3,h4⟩
 ·rintro (⟨c,t',k,h1,h2,h3,h4⟩ | ⟨c,t',k,h1,h2,h3,h4⟩)
  ·exact ⟨c,t',k,h1,h2,.inl h3,h4⟩
  ·exact ⟨c,t',k,h1,h2,.inr h3,h4⟩
theorem PM.via_and {M:PM} {p:Prop} {Q:Nat→Prop} {t:List UInt8}:M.via (fun k=>p∧Q k) t↔p∧M.via Q t:=by
 constructor
 ·rintro ⟨c,t',k,h1,h2,h3,h4⟩
  exact ⟨h3.1,c,t',k,h1,h2,h3.2,h4⟩
 ·rintro ⟨hp,c,t',k,h1,h2,h3,h4⟩
  exact ⟨c,t',k,h1,h2,⟨hp,h3⟩,h4⟩
theorem PSet.zero_or {s:PSet} (h:s.ok):s = .zero ∨ ∃ k,k < 192∧s.mem k=true:=by
 by_cases e:∃ k,k < 192∧s.mem k=true
 ·exact .inr e
 ·refine .inl (PSet.ext h PSet.ok_zero fun k hk=>?_)
  rw [PSet.mem_zero]
  cases hm:s.mem k with
  | false=>rfl
  | true=>exact absurd ⟨k,hk,hm⟩ e
theorem PM.mem_next (M:PM) (l:List Nat) (k':Nat):(M.next l).mem k'=true ↔ ∃ k∈l,M.fol k k':=by
 unfold PM.next PM.fol
 have:∀ (l:List Nat) (t:PSet),(l.foldl (fun t k=>t.or (M.follow.getD k PSet.zero)) t).mem k'=true↔t.mem k'=true ∨ ∃ k∈l,(M.follow.getD k PSet.zero).mem k'=true:=fun l=>by
  induction l with
  | nil=>exact fun t=>by simp
  | cons a l ih =>
   intro t
   rw [List.foldl_cons,ih,PSet.mem_or,Bool.or_eq_true]
   simp [or_assoc]
 rw [this,PSet.mem_zero]
 simp
theorem PM.mem_step (M:PM) (s:PSet) (c:UInt8) (k':Nat):(M.step s c.toNat).mem k'=true↔(∃ k∈s.elems,M.fol k k')∧M.takes k' c:=by
 unfold PM.step PM.takes PM.atc
 rw [PSet.mem_and,Bool.and_eq_true,PM.mem_next]
theorem PM.reads_run {M:PM} (hM:M.ok):∀ (t:List UInt8) (s:PSet),s.ok→(M.reads s t=true ↔ ∃ k∈s.elems,M.run t k)
 | [],s,hs=>by
  show (M.ends s=true)↔_
  unfold PM.ends
  rw [Bool.not_eq_true',decide_eq_false_iff_not]
  constructor
  ·intro h
   rcases PSet.zero_or (PSet.ok_and hs hM.ol) with h1 | ⟨k,hk,h1⟩
   ·exact absurd h1 h
   ·rw [PSet.mem_and,Bool.and_eq_true] at h1
    exact ⟨k,(PSet.mem_elems s k).2 ⟨hk,h1.1⟩,h1.2⟩
  ·rintro ⟨k,hk,hr⟩ e
   have h1:=(PSet.mem_elems s k).1 hk
   have h2:=PSet.mem_zero k
   rw [← e,PSet.mem_and,h1.2] at h2
   have hr':M.last.mem k=true:=hr
   rw [hr'] at h2
   cases h2
 | c :: t,s,hs=>by
  have ih:=PM.reads_run hM t (M.step s c.toNat) (PM.ok_step hM s _)
  rw [reads_step]
  constructor
  ·intro h
   split at h
   ·cases h
   ·obtain ⟨k',hk',hr⟩:=ih.1 h
    obtain ⟨h1,h2⟩:=(PSet.mem_elems _ _).1 hk'
    obtain ⟨⟨k,hk,hf⟩,ht⟩:=(PM.mem_step M s c k').1 h2
    exact ⟨k,hk,k',h1,hf,ht,hr⟩
  ·rintro ⟨k,hk,k',h1,hf,ht,hr⟩
   have hm:=(PM.mem_step M s c k').2 ⟨⟨k,hk,hf⟩,ht⟩
   rw [if_neg (fun e=>by rw [e,PSet.mem_zero] at hm; cases hm)]
   exact ih.2 ⟨k',(PSet.mem_elems _ _).2 ⟨h1,hm⟩,hr⟩
/-! ### First and last places, and links, of a pattern whose places begin at n. -/
def Ast.fst:Ast→Nat→Nat→Prop
 | .empty,_,_ | .huge,_,_=>False
 | .one _,n,k=>k=n
 | .seq a b,n,k=>a.fst n k∨(a.nul=true∧b.fst (n+a.count) k)
 | .or a b,n,k=>a.fst n k∨b.fst (n+a.count) k
 | .many a _,n,k | .maybe a,n,k=>a.fst n k
def Ast.lst:Ast→Nat→Nat→Prop
 | .empty,_,_ | .huge,_,_=>False
 | .one _,n,k=>k=n
 | .seq a b,n,k=>b.lst (n+a.count) k∨(b.nul=true∧a.lst n k)
 | .or a b,n,k=>a.lst n k∨b.lst (n+a.count) k
 | .many a _,n,k | .maybe a,n,k=>a.lst n k
def Ast.lnk:Ast→Nat→Nat→Nat→Prop
 | .empty,_,_,_ | .huge,_,_,_ | .one _,_,_,_=>False
 | .seq a b,n,k,k'=>a.lnk n k k'∨b.lnk (n+a.count) k k'∨(a.lst n k∧b.fst (n+a.count) k')
 | .or a b,n,k,k'=>a.lnk n k k'∨b.lnk (n+a.count) k k'
 | .many a _,n,k,k'=>a.lnk n k k'∨(a.lst n k∧a.fst n k')
 | .maybe a,n,k,k'=>a.lnk n k k'
def Ast.tak:Ast→Nat→Nat→UInt8→Prop
 | .empty,_,_,_ | .huge,_,_,_=>False
 | .one s,n,k,c=>k=n∧s.has c.toNat=true
 | .seq a b,n,k,c | .or a b,n,k,c=>a.tak n k c∨b.tak (n+a.count) k c
 | .many a _,n,k,c | .maybe a,n,k,c=>a.tak n k c
theorem Ast.lst_in (e:Ast):∀ {n k:Nat},e.lst n k→n≤k∧k < n+e.count:=by
 induction e with
 | empty=>exact fun h=>h.elim
 | huge=>exact fun h=>h.elim
 | one s=>intro n k h; have h':k=n:=h; show n≤k∧k < n+1; omega
 | seq a b iha ihb =>
  intro n k h
  show n≤k∧k < n+(a.count+b.count)
  rcases h with h | ⟨_,h⟩
  ·have:=ihb h; omega
  ·have:=iha h; omega
 | or a b iha ihb =>
  intro n k h
  show n≤k∧k < n+(a.count+b.count)
  rcases h with h | h
  ·have:=iha h; omega
  ·have:=ihb h; omega
 | many a sm ih=>exact fun h=>ih h
 | maybe a ih=>exact fun h=>ih h
theorem Ast.lnk_in (e:Ast):∀ {n k k':Nat},e.lnk n k k'→n≤k∧k < n+e.count:=by
 induction e with
 | empty=>exact fun h=>h.elim
 | huge=>exact fun h=>h.elim
 | one s=>exact fun h=>h.elim
 | seq a b iha ihb =>
  intro n k k' h
  show n≤k∧k < n+(a.count+b.count)
  rcases h with h | h | ⟨h,_⟩
  ·have:=iha h; omega
  ·have:=ihb h; omega
  ·have:=a.lst_in h; omega
 | or a b iha ihb =>
  intro n k k' h
  show n≤k∧k < n+(a.count+b.count)
  rcases h with h | h
  ·have:=iha h; omega
  ·have:=ihb h; omega
 | many a sm ih =>
  intro n k k' h
  rcases h with h | ⟨h,_⟩
  ·exact ih h
  ·exact a.lst_in h
 | maybe a ih=>exact fun h=>ih h
theorem Ast.tak_in (e:Ast):∀ {n k:Nat} {c:UInt8},e.tak n k c→n≤k∧k < n+e.count:=by
 induction e with
 | empty=>exact fun h=>h.elim
 | huge=>exact fun h=>h.elim
 | one s=>intro n k c h; have h':k=n:=h.1; show n≤k∧k < n+1; omega
 | seq a b iha ihb =>
  intro n k c h
  show n≤k∧k < n+(a.count+b.count)
  rcases h with h | h
  ·have:=iha h; omega
  ·have:=ihb h; omega
 | or a b iha ihb =>
  intro n k c h
  show n≤k∧k < n+(a.count+b.count)
  rcases h with h | h
  ·have:=iha h; omega
  ·have:=ihb h; omega
 | many a sm ih=>exact fun h=>ih h
 | maybe a ih=>exact fun h=>ih h
structure WithinM (N:PM) (e:Ast) (n:Nat) (F:Nat→Prop) (acc:Prop):Prop where
 fol:∀ k k',n≤k→k < n+e.count→k' < 192→(N.fol k k'↔e.lnk n k k'∨(e.lst n k∧F k'))
 last:∀ k,n≤k→k < n+e.count→(N.last.mem k=true↔e.lst n k∧acc)
 takes:∀ k c,n≤k→k < n+e.count→(N.takes k c↔e.tak n k c)
def PM.tail (N:PM) (F:Nat→Prop) (acc:Prop) (t:List UInt8):Prop:=(t=[]∧acc)∨N.via F t
theorem glushkov (N:PM) (e:Ast):∀ (n:Nat) (F:Nat→Prop) (acc:Prop),n+e.count≤192→WithinM N e n F acc →
  ∀ t,N.via (e.fst n) t ↔ ∃ u v,u≠[]∧t=u++v∧e.lang u∧N.tail F acc v:=by
 induction e with
 | empty =>
  intro n F acc _ _ t
  constructor
  ·rintro ⟨_,_,_,_,_,h,_⟩; exact h.elim
  ·rintro ⟨u,v,h,_,h2,_⟩; exact absurd h2 h
 | huge =>
  intro n F acc _ _ t
  constructor
  ·rintro ⟨_,_,_,_,_,h,_⟩; exact h.elim
  ·rintro ⟨u,v,h,_,h2,_⟩; exact absurd h2 h
 | one s =>
  intro n F acc hn hW t
  have hin:n < n+(Ast.one s).count:=Nat.lt_succ_self n
  have hrun:∀ v,N.run v n↔N.tail F acc v:=fun v=>by
   cases v with
   | nil =>
    show N.last.mem n=true↔_
    rw [hW.last n (Nat.le_refl _) hin]
    constructor
    ·exact fun h => .inl ⟨rfl,h.2⟩
    ·rintro (⟨_,h⟩ | ⟨_,_,_,h,_⟩)
     ·exact ⟨rfl,h⟩
     ·cases h
   | cons c v =>
    constructor
    ·rintro ⟨k',hk',hf,ht,hr⟩
     rcases (hW.fol n k' (Nat.le_refl _) hin hk').1 hf with h | ⟨_,h⟩
     ·exact h.elim
     ·exact .inr ⟨c,v,k',rfl,hk',h,ht,hr⟩
    ·rintro (⟨h,_⟩ | ⟨c',v',k',he,hk',hF,ht,hr⟩)
     ·cases h
     ·cases he
      exact ⟨k',hk',(hW.fol n k' (Nat.le_refl _) hin hk').2 (.inr ⟨rfl,hF⟩),ht,hr⟩
  constructor
  ·rintro ⟨c,t',k,rfl,hk,rfl,ht,hr⟩
   exact ⟨[c],t',by simp,rfl,⟨c,rfl,((hW.takes k c (Nat.le_refl _) hin).1 ht).2⟩,(hrun t').1 hr⟩
  ·rintro ⟨u,v,_,rfl,⟨c,rfl,hc⟩,hv⟩
   exact ⟨c,v,n,rfl,by have:n+1≤192:=hn; omega,rfl,(hW.takes n c (Nat.le_refl _) hin).2 ⟨rfl,hc⟩,(hrun v).2 hv⟩
 | or a b iha ihb =>
  intro n F acc hn hW t
  have hn':n+(a.count+b.count)≤192:=hn
  have hc:(Ast.or a b).count=a.count+b.count:=rfl
  have ha:=iha n F acc (by omega) ⟨fun k k' h1 h2 h3=>by
   rw [hW.fol k k' h1 (by rw [hc]; omega) h3]
   show (a.lnk n k k'∨b.lnk _ k k')∨(a.lst n k∨b.lst _ k)∧F k'↔_
   have x1:¬ b.lnk (n+a.count) k k':=fun h=>by have:=b.lnk_in h; omega
   have x2:¬ b.lst (n+a.count) k:=fun h=>by have:=b.lst_in h; omega
   simp [x1,x2],fun k h1 h2=>by
   rw [hW.last k h1 (by rw [hc]; omega)]
   show (a.lst n k∨b.lst _ k)∧acc↔_
   have x2:¬ b.lst (n+a.count) k:=fun h=>by have:=b.lst_in h; omega
   simp [x2],fun k c h1 h2=>by
   rw [hW.takes k c h1 (by rw [hc]; omega)]
   show (a.tak n k c∨b.tak _ k c)↔_
   have x2:¬ b.tak (n+a.count) k c:=fun h=>by have:=b.tak_in h; omega
   simp [x2]⟩ t
  have hb:=ihb (n+a.count) F acc (by omega) ⟨fun k k' h1 h2 h3=>by
   rw [hW.fol k k' (by omega) (by rw [hc]; omega) h3]
   show (a.lnk n k k'∨b.lnk _ k k')∨(a.lst n k∨b.lst _ k)∧F k'↔_
   have x1:¬ a.lnk n k k':=fun h=>by have:=a.lnk_in h; omega
   have x2:¬ a.lst n k:=fun h=>by have:=a.lst_in h; omega
   simp [x1,x2],fun k h1 h2=>by
   rw [hW.last k (by omega) (by rw [hc]; omega)]
   show (a.lst n k∨b.lst _ k)∧acc↔_
   have x2:¬ a.lst n k:=fun h=>by have:=a.lst_in h; omega
   simp [x2],fun k c h1 h2=>by
   rw [hW.takes k c (by omega) (by rw [hc]; omega)]
   show (a.tak n k c∨b.tak _ k c)↔_
   have x2:¬ a.tak n k c:=fun h=>by have:=a.tak_in h; omega
   simp [x2]⟩ t
  show N.via (fun k=>a.fst n k∨b.fst (n+a.count) k) t↔_
  rw [PM.via_or,ha,hb]
  constructor
  ·rintro (⟨u,v,h1,h2,h3,h4⟩ | ⟨u,v,h1,h2,h3,h4⟩)
   ·exact ⟨u,v,h1,h2,.inl h3,h4⟩
   ·exact ⟨u,v,h1,h2,.inr h3,h4⟩
  ·rintro ⟨u,v,h1,h2,h3 | h3,h4⟩
   ·exact .inl ⟨u,v,h1,h2,h3,h4⟩
   ·exact .inr ⟨u,v,h1,h2,h3,h4⟩
 | seq a b iha ihb =>
  intro n F acc hn hW t
  have hn':n+(a.count+b.count)≤192:=hn
  have hc:(Ast.seq a b).count=a.count+b.count:=rfl
  have hb:=ihb (n+a.count) F acc (by omega) ⟨fun k k' h1 h2 h3=>by
   rw [hW.fol k k' (by omega) (by rw [hc]; omega) h3]
   show (a.lnk n k k'∨b.lnk _ k k'∨(a.lst n k∧_))∨(b.lst _ k∨(_∧a.lst n k))∧F k'↔_
   have x1:¬ a.lnk n k k':=fun h=>by have:=a.lnk_in h; omega
   have x2:¬ a.lst n k:=fun h=>by have:=a.lst_in h; omega
   simp [x1,x2],fun k h1 h2=>by
   rw [hW.last k (by omega) (by rw [hc]; omega)]
   show (b.lst _ k∨(_∧a.lst n k))∧acc↔_
   have x2:¬ a.lst n k:=fun h=>by have:=a.lst_in h; omega
   simp [x2],fun k c h1 h2=>by
   rw [hW.takes k c (by omega) (by rw [hc]; omega)]
   show (a.tak n k c∨b.tak _ k c)↔_
   have x2:¬ a.tak n k c:=fun h=>by have:=a.tak_in h; omega
   simp [x2]⟩
  have ha:=iha n (fun k'=>b.fst (n+a.count) k'∨(b.nul=true∧F k')) (b.nul=true∧acc) (by omega) ⟨fun k k' h1 h2 h3=>by
   rw [hW.fol k k' h1 (by rw [hc]; omega) h3]
   show (a.lnk n k k'∨b.lnk (n+a.count) k k'∨(a.lst n k∧b.fst (n+a.count) k'))∨(b.lst (n+a.count) k∨(b.nul=true∧a.lst n k))∧F k'↔_
   have x1:¬ b.lnk (n+a.count) k k':=fun h=>by have:=b.lnk_in h; omega
   have x2:¬ b.lst (n+a.count) k:=fun h=>by have:=b.lst_in h; omega
   simp only [x1,x2,false_or]
   constructor
   ·rintro ((h | h) | h)
    ·exact .inl h
    ·exact .inr ⟨h.1,.inl h.2⟩
    ·exact .inr ⟨h.1.2,.inr ⟨h.1.1,h.2⟩⟩
   ·rintro (h | ⟨h,h' | h'⟩)
    ·exact .inl (.inl h)
    ·exact .inl (.inr ⟨h,h'⟩)
    ·exact .inr ⟨⟨h'.1,h⟩,h'.2⟩,fun k h1 h2=>by
   rw [hW.last k h1 (by rw [hc]; omega)]
   show (b.lst (n+a.count) k∨(b.nul=true∧a.lst n k))∧acc↔_
   have x2:¬ b.lst (n+a.count) k:=fun h=>by have:=b.lst_in h; omega
   simp only [x2,false_or]
   constructor
   ·exact fun h=>⟨h.1.2,h.1.1,h.2⟩
   ·exact fun h=>⟨⟨h.2.1,h.1⟩,h.2.2⟩,fun k c h1 h2=>by
   rw [hW.takes k c h1 (by rw [hc]; omega)]
   show (a.tak n k c∨b.tak (n+a.count) k c)↔_
   have x2:¬ b.tak (n+a.count) k c:=fun h=>by have:=b.tak_in h; omega
   simp [x2]⟩ t
  have htail:∀ v,N.tail (fun k'=>b.fst (n+a.count) k'∨(b.nul=true∧F k')) (b.nul=true∧acc) v↔(b.nul=true∧N.tail F acc v)∨N.via (b.fst (n+a.count)) v:=fun v=>by
   unfold PM.tail
   rw [PM.via_or,PM.via_and]
   constructor
   ·rintro (⟨h1,h2,h3⟩ | h | ⟨h1,h2⟩)
    ·exact .inl ⟨h2,.inl ⟨h1,h3⟩⟩
    ·exact .inr h
    ·exact .inl ⟨h1,.inr h2⟩
   ·rintro (⟨h1,⟨h2,h3⟩ | h2⟩ | h)
    ·exact .inl ⟨h2,h1,h3⟩
    ·exact .inr (.inr ⟨h1,h2⟩)
    ·exact .inr (.inl h)
  show N.via (fun k=>a.fst n k∨(a.nul=true∧b.fst (n+a.count) k)) t↔_
  rw [PM.via_or,PM.via_and,ha,hb t]
  constructor
  ·rintro (⟨u,v,h1,rfl,h3,h4⟩ | ⟨h0,u,v,h1,rfl,h3,h4⟩)
   ·rcases (htail v).1 h4 with ⟨h5,h6⟩ | h5
    ·exact ⟨u,v,h1,rfl,⟨u,[],by simp,h3,b.nul_iff.1 h5⟩,h6⟩
    ·obtain ⟨u',v',h6,rfl,h7,h8⟩:=(hb v).1 h5
     exact ⟨u++u',v',by simp [h1],by simp,⟨u,u',rfl,h3,h7⟩,h8⟩
   ·exact ⟨u,v,h1,rfl,⟨[],u,rfl,a.nul_iff.1 h0,h3⟩,h4⟩
  ·rintro ⟨x,v,h1,rfl,⟨u,u',rfl,h3,h4⟩,h5⟩
   by_cases hu:u=[]
   ·subst hu
    exact .inr ⟨a.nul_iff.2 h3,u',v,by simpa using h1,rfl,h4,h5⟩
   ·refine .inl ⟨u,u'++v,hu,by simp,h3,(htail _).2 ?_⟩
    by_cases hu':u'=[]
    ·subst hu'
     exact .inl ⟨b.nul_iff.2 h4,h5⟩
    ·exact .inr ((hb _).2 ⟨u',v,hu',rfl,h4,h5⟩)
 | many a sm ih =>
  intro n F acc hn hW t
  have ha:=ih n (fun k'=>F k'∨a.fst n k') acc hn ⟨fun k k' h1 h2 h3=>by
   rw [hW.fol k k' h1 h2 h3]
   show (a.lnk n k k'∨(a.lst n k∧a.fst n k'))∨(a.lst n k∧F k')↔_
   constructor
   ·rintro ((h | h) | h)
    ·exact .inl h
    ·exact .inr ⟨h.1,.inr h.2⟩
    ·exact .inr ⟨h.1,.inl h.2⟩
   ·rintro (h | ⟨h,h' | h'⟩)
    ·exact .inl (.inl h)
    ·exact .inr ⟨h,h'⟩
    ·exact .inl (.inr ⟨h,h'⟩),hW.last,hW.takes⟩
  have htail:∀ v,N.tail (fun k'=>F k'∨a.fst n k') acc v↔N.tail F acc v∨N.via (a.fst n) v:=fun v=>by
   unfold PM.tail
   rw [PM.via_or]
   exact or_assoc.symm
  have hV:∀ (m:Nat) (t:List UInt8),t.length≤m→N.via (a.fst n) t → ∃ u v,u≠[]∧t=u++v∧(Ast.many a sm).lang u∧N.tail F acc v:=fun m=>by
   induction m with
   | zero =>
    rintro t ht ⟨_,_,_,h,_⟩
    subst h
    simp at ht
   | succ m ihm =>
    intro t ht hv
    obtain ⟨u,v,h1,rfl,h3,h4⟩:=(ha t).1 hv
    rcases (htail v).1 h4 with h5 | h5
    ·exact ⟨u,v,h1,rfl,⟨[u],by simp,by simpa using h3,by simp⟩,h5⟩
    ·have hl:v.length≤m:=by
      have:=List.length_pos_iff.2 h1
      rw [List.length_append] at ht
      omega
     obtain ⟨u',v',h6,rfl,⟨l,rfl,h7,_⟩,h8⟩:=ihm v hl h5
     refine ⟨u++l.flatten,v',by simp [h1],by simp,⟨u :: l,by simp,fun x hx=>?_,by simp⟩,h8⟩
     rcases List.mem_cons.1 hx with rfl | hx
     ·exact h3
     ·exact h7 x hx
  constructor
  ·exact fun h=>hV t.length t (Nat.le_refl _) h
  ·rintro ⟨u,v,h1,rfl,⟨l,rfl,h3,_⟩,h4⟩
   show N.via (a.fst n) _
   have key:∀ l:List (List UInt8),(∀ x∈l,a.lang x)→l.flatten≠[]→N.via (a.fst n) (l.flatten++v):=fun l=>by
    induction l with
    | nil=>exact fun _ h=>absurd rfl h
    | cons x l ihl =>
     intro hx hne
     have hl:=fun y hy=>hx y (List.mem_cons_of_mem _ hy)
     by_cases ex:x=[]
     ·subst ex
      have e:([] :: l).flatten=l.flatten:=by simp
      rw [e] at hne ⊢
      exact ihl hl hne
     ·rw [List.flatten_cons,List.append_assoc]
      refine (ha _).2 ⟨x,l.flatten++v,ex,rfl,hx x List.mem_cons_self,(htail _).2 ?_⟩
      by_cases e:l.flatten=[]
      ·rw [e]; exact .inl h4
      ·exact .inr (ihl hl e)
   exact key l h3 h1
 | maybe a ih =>
  intro n F acc hn hW t
  have ha:=ih n F acc hn ⟨hW.fol,hW.last,hW.takes⟩ t
  show N.via (a.fst n) t↔_
  rw [ha]
  constructor
  ·rintro ⟨u,v,h1,h2,h3,h4⟩
   exact ⟨u,v,h1,h2,.inr h3,h4⟩
  ·rintro ⟨u,v,h1,h2,h3 | h3,h4⟩
   ·exact absurd h3 h1
   ·exact ⟨u,v,h1,h2,h3,h4⟩
end Go.Proofs.Ts
namespace Go.Proofs.Ts
open Go
/-! ### What a part adds to a machine. -/
structure Adds (e:Ast) (M N:PM) (p:Part):Prop where
 first:∀ k,k < 192→(p.first.mem k=true↔e.fst M.n k)
 last:∀ k,k < 192→(p.last.mem k=true↔e.lst M.n k)
 none:p.none=e.nul
 fol:∀ k k',k' < 192→(N.fol k k'↔M.fol k k'∨e.lnk M.n k k')
 takes:∀ k c,k < 192→(N.takes k c↔M.takes k c∨e.tak M.n k c)
theorem PM.fol_put {M:PM} {k:Nat} {s:PSet} (hk:k < M.follow.length) (j k':Nat):(M.putFollow k s).fol j k'↔if j=k then s.mem k'=true else M.fol j k':=by
 unfold PM.fol
 show ((M.follow.set k s).getD j PSet.zero).mem k'=true↔_
 rw [List.getD_eq_getElem?_getD,List.getElem?_set,List.getD_eq_getElem?_getD]
 by_cases e:j=k
 ·subst e; simp [hk]
 ·simp [e,Ne.symm e]
theorem PM.fol_link (t:PSet) (k k':Nat):∀ (l:List Nat) (M:PM),(∀ x∈l,x < M.follow.length)→((M.link l t).fol k k'↔M.fol k k'∨(k∈l∧t.mem k'=true))
 | [],M,_=>by simp [PM.link]
 | x :: l,M,h=>by
  have hx:=h x List.mem_cons_self
  have ih:=PM.fol_link t k k' l (M.linkOne t x) fun y hy=>by
   show y < (M.follow.set x _).length
   rw [List.length_set]
   exact h y (List.mem_cons_of_mem _ hy)
  show ((M.linkOne t x).link l t).fol k k'↔_
  rw [ih]
  unfold PM.linkOne
  rw [PM.fol_put hx]
  by_cases e:k=x
  ·subst e
   rw [if_pos rfl,PSet.mem_or,Bool.or_eq_true]
   simp only [List.mem_cons,true_or,true_and]
   constructor
   ·rintro ((h1 | h1) | h1)
    ·exact .inl h1
    ·exact .inr h1
    ·exact .inr h1.2
   ·rintro (h1 | h1)
    ·exact .inl (.inl h1)
    ·exact .inl (.inr h1)
  ·rw [if_neg e]
   simp [e]
theorem PM.takes_link (t:PSet) (k:Nat) (c:UInt8):∀ (l:List Nat) (M:PM),((M.link l t).takes k c↔M.takes k c)
 | [],M=>Iff.rfl
 | x :: l,M=>PM.takes_link t k c l (M.linkOne t x)
theorem PM.takes_put {M:PM} (hM:M.ok) (hn:M.n < 192) (s:BSet) {k:Nat} (hk:k < 192) (c:UInt8):(M.putPlace s).takes k c↔M.takes k c∨(k=M.n∧s.has c.toNat=true):=by
 unfold PM.takes PM.atc
 show (((M.at'.zipIdx).map fun q=>if s.has q.2 then q.1.on M.n else q.1).getD c.toNat PSet.zero).mem k=true↔_
 have hc:c.toNat < M.at'.length:=by rw [hM.la]; exact c.toNat_lt
 rw [List.getD_eq_getElem?_getD,List.getElem?_map,List.getElem?_zipIdx,List.getD_eq_getElem?_getD,List.getElem?_eq_getElem hc]
 simp only [Option.map_some,Option.getD_some,Nat.zero_add]
 cases s.has c.toNat with
 | true =>
  simp only [if_true]
  rw [PSet.mem_on _ _ _ hn hk,Bool.or_eq_true,decide_eq_true_iff]
  simp [or_comm]
 | false=>simp
theorem last_lt {M N:PM} {p:Part} {c:Nat} (h:PartOk M N p c) (hn:M.n+c≤128) (L:PM) (hL:L.ok):∀ x∈p.last.elems,x < L.follow.length:=fun x hx=>by
 rw [hL.lf]
 have:=h.ul x hx
 rw [h.n] at this
 omega
theorem mem_last {p:Part} {P:Nat→Prop} (h:∀ k,k < 192→(p.last.mem k=true↔P k)) (hin:∀ k,P k→k < 192) (k:Nat):k∈p.last.elems↔P k:=by
 rw [PSet.mem_elems]
 constructor
 ·exact fun hk=>(h k hk.1).1 hk.2
 ·exact fun hk=>⟨hin k hk,(h k (hin k hk)).2 hk⟩
theorem part_adds (e:Ast):∀ (M:PM),M.ok→M.n+e.count≤128→Adds e M (PM.part e M).1 (PM.part e M).2:=by
 have z:∀ k,PSet.zero.mem k=true↔False:=fun k=>by rw [PSet.mem_zero]; simp
 induction e with
 | empty=>exact fun M h _=>⟨fun k _=>z k,fun k _=>z k,rfl,fun k k' _=>by simp [PM.part,Ast.lnk],fun k c _=>by simp [PM.part,Ast.tak]⟩
 | huge=>exact fun M h _=>⟨fun k _=>z k,fun k _=>z k,rfl,fun k k' _=>by simp [PM.part,Ast.lnk],fun k c _=>by simp [PM.part,Ast.tak]⟩
 | one s =>
  intro M hM hn
  have hn':M.n+1≤128:=hn
  have hon:∀ k,k < 192→((PSet.zero.on M.n).mem k=true↔k=M.n):=fun k hk=>by
   rw [PSet.mem_on _ _ _ (by omega) hk,PSet.mem_zero,Bool.or_false,decide_eq_true_iff]
  exact ⟨hon,hon,rfl,fun k k' _=>by simp [PM.part,Ast.lnk]; rfl,fun k c hk=>PM.takes_put hM (by omega) s hk c⟩
 | or a b iha ihb =>
  intro M hM hn
  have hn':M.n+(a.count+b.count)≤128:=hn
  have ka:=part_ok a M hM (by omega)
  have ha:=iha M hM (by omega)
  have hb:=ihb _ ka.mach (by rw [ka.n]; omega)
  rw [show (PM.part (Ast.or a b) M)=((PM.part b (PM.part a M).1).1,(PM.part a M).2.or (PM.part b (PM.part a M).1).2) from rfl]
  obtain ⟨N,p,hNp⟩:∃ N p,PM.part a M=(N,p):=⟨_,_,rfl⟩
  rw [hNp] at ka ha hb ⊢
  dsimp only at ka ha hb ⊢
  obtain ⟨L,q,hLq⟩:∃ L q,PM.part b N=(L,q):=⟨_,_,rfl⟩
  rw [hLq] at hb ⊢
  dsimp only at hb ⊢
  refine ⟨fun k hk=>?_,fun k hk=>?_,?_,fun k k' hk=>?_,fun k c hk=>?_⟩
  ·show (p.first.or q.first).mem k=true↔_
   rw [PSet.mem_or,Bool.or_eq_true,ha.first k hk,show q.first.mem k=true↔b.fst (M.n+a.count) k by have:=hb.first k hk; rwa [ka.n] at this]
   rfl
  ·show (p.last.or q.last).mem k=true↔_
   rw [PSet.mem_or,Bool.or_eq_true,ha.last k hk,show q.last.mem k=true↔b.lst (M.n+a.count) k by have:=hb.last k hk; rwa [ka.n] at this]
   rfl
  ·show (p.none || q.none)=(a.nul || b.nul)
   rw [ha.none,hb.none]
  ·rw [hb.fol k k' hk,ha.fol k k' hk,ka.n]
   exact or_assoc
  ·rw [hb.takes k c hk,ha.takes k c hk,ka.n]
   exact or_assoc
 | seq a b iha ihb =>
  intro M hM hn
  have hn':M.n+(a.count+b.count)≤128:=hn
  have ka:=part_ok a M hM (by omega)
  have kb:=part_ok b _ ka.mach (by rw [ka.n]; omega)
  have ha:=iha M hM (by omega)
  have hb:=ihb _ ka.mach (by rw [ka.n]; omega)
  have hlt:=last_lt ka (by omega) _ kb.mach
  rw [show (PM.part (Ast.seq a b) M)=((PM.part b (PM.part a M).1).1.link (PM.part a M).2.last.elems (PM.part b (PM.part a M).1).2.first,(PM.part a M).2.seq (PM.part b (PM.part a M).1).2) from rfl]
  obtain ⟨N,p,hNp⟩:∃ N p,PM.part a M=(N,p):=⟨_,_,rfl⟩
  rw [hNp] at ka kb ha hb hlt ⊢
  dsimp only at ka kb ha hb hlt ⊢
  obtain ⟨L,q,hLq⟩:∃ L q,PM.part b N=(L,q):=⟨_,_,rfl⟩
  rw [hLq] at kb hb hlt ⊢
  dsimp only at kb hb hlt ⊢
  have bf:∀ k,k < 192→(q.first.mem k=true↔b.fst (M.n+a.count) k):=fun k hk=>by have:=hb.first k hk; rwa [ka.n] at this
  have bl:∀ k,k < 192→(q.last.mem k=true↔b.lst (M.n+a.count) k):=fun k hk=>by have:=hb.last k hk; rwa [ka.n] at this
  have hml:=mem_last ha.last fun k h=>by have:=a.lst_in h; omega
  refine ⟨fun k hk=>?_,fun k hk=>?_,?_,fun k k' hk=>?_,fun k c hk=>?_⟩
  ·show (if p.none then p.first.or q.first else p.first).mem k=true↔a.fst M.n k∨(a.nul=true∧b.fst (M.n+a.count) k)
   rw [ha.none]
   cases a.nul with
   | true=>simp only [if_true,PSet.mem_or,Bool.or_eq_true,ha.first k hk,bf k hk,true_and]
   | false=>simpa using ha.first k hk
  ·show (if q.none then q.last.or p.last else q.last).mem k=true↔b.lst (M.n+a.count) k∨(b.nul=true∧a.lst M.n k)
   rw [hb.none]
   cases b.nul with
   | true=>simp only [if_true,PSet.mem_or,Bool.or_eq_true,ha.last k hk,bl k hk,true_and]
   | false=>simpa using bl k hk
  ·show (p.none && q.none)=(a.nul && b.nul)
   rw [ha.none,hb.none]
  ·rw [PM.fol_link _ _ _ _ _ hlt,hb.fol k k' hk,ha.fol k k' hk,ka.n,hml,bf k' hk]
   show _↔M.fol k k'∨a.lnk M.n k k'∨b.lnk (M.n+a.count) k k'∨(a.lst M.n k∧b.fst (M.n+a.count) k')
   simp only [or_assoc]
  ·rw [PM.takes_link,hb.takes k c hk,ha.takes k c hk,ka.n]
   exact or_assoc
 | many a sm ih =>
  intro M hM hn
  have ka:=part_ok a M hM hn
  have ha:=ih M hM hn
  have hlt:=last_lt ka hn _ ka.mach
  have hn':M.n+a.count≤128:=hn
  have hml:=mem_last ha.last fun k h=>by have:=a.lst_in h; omega
  refine ⟨ha.first,ha.last,?_,fun k k' hk=>?_,fun k c hk=>?_⟩
  ·show ((PM.part a M).2.none || !sm)=(a.nul || !sm)
   rw [ha.none]
  ·show ((PM.part a M).1.link _ _).fol k k'↔_
   rw [PM.fol_link _ _ _ _ _ hlt,ha.fol k k' hk,hml,ha.first k' hk]
   exact or_assoc
  ·show ((PM.part a M).1.link _ _).takes k c↔_
   rw [PM.takes_link]
   exact ha.takes k c hk
 | maybe a ih =>
  intro M hM hn
  have ha:=ih M hM hn
  exact ⟨ha.first,ha.last,rfl,ha.fol,ha.takes⟩
/-! ### The whole machine. -/
theorem zero_fol (k k':Nat):¬ PM.zero.fol k k':=by
 unfold PM.fol
 have:PM.zero.follow.getD k PSet.zero=PSet.zero:=by
  show (List.replicate 129 PSet.zero).getD k PSet.zero=PSet.zero
  rw [List.getD_eq_getElem?_getD,List.getElem?_replicate]
  split <;> rfl
 rw [this,PSet.mem_zero]
 simp
theorem zero_takes (k:Nat) (c:UInt8):¬ PM.zero.takes k c:=by
 unfold PM.takes PM.atc
 have:PM.zero.at'.getD c.toNat PSet.zero=PSet.zero:=by
  show (List.replicate 256 PSet.zero).getD c.toNat PSet.zero=PSet.zero
  rw [List.getD_eq_getElem?_getD,List.getElem?_replicate]
  split <;> rfl
 rw [this,PSet.mem_zero]
 simp
theorem begin_elems (k:Nat):k∈beginSet.elems↔k=128:=by
 rw [PSet.mem_elems]
 unfold beginSet
 constructor
 ·rintro ⟨h1,h2⟩
  rw [PSet.mem_on _ _ _ (by decide) h1,PSet.mem_zero,Bool.or_false,decide_eq_true_iff] at h2
  exact h2
 ·rintro rfl
  refine ⟨by decide,?_⟩
  rw [PSet.mem_on _ _ _ (by decide) (by decide)]
  simp
theorem compile_reads (e:Ast) (hn:e.count≤128) (t:List UInt8):(PM.compile e).reads beginSet t=true↔e.lang t:=by
 have hok:=compile_ok e hn
 have ka:=part_ok e PM.zero PM.ok_zero (by show 0+_≤128; omega)
 have ha:=part_adds e PM.zero PM.ok_zero (by show 0+_≤128; omega)
 rw [PM.reads_run hok t beginSet beginSet_ok]
 have hz:PM.zero.n=0:=rfl
 have hlt:(128:Nat) < (PM.part e PM.zero).1.follow.length:=by rw [ka.mach.lf]; decide
 have hfol:∀ k k',k' < 192→((PM.compile e).fol k k'↔if k=128 then e.fst 0 k' else e.lnk 0 k k'):=fun k k' hk=>by
  show ((PM.part e .zero).1.putFollow 128 (PM.part e .zero).2.first).fol k k'↔_
  rw [PM.fol_put hlt]
  by_cases h:k=128
  ·rw [if_pos h,if_pos h]; exact ha.first k' hk
  ·rw [if_neg h,if_neg h,ha.fol k k' hk]
   simp [zero_fol,hz]
 have htak:∀ k c,k < 192→((PM.compile e).takes k c↔e.tak 0 k c):=fun k c hk=>by
  show (PM.part e .zero).1.takes k c↔_
  rw [ha.takes k c hk]
  simp [zero_takes,hz]
 have hlast:∀ k,k < 192→((PM.compile e).last.mem k=true↔e.lst 0 k∨(k=128∧e.nul=true)):=fun k hk=>by
  show (if (PM.part e .zero).2.none then (PM.part e .zero).2.last.on 128 else (PM.part e .zero).2.last).mem k=true↔_
  rw [ha.none]
  cases e.nul with
  | true =>
   simp only [if_true]
   rw [PSet.mem_on _ _ _ (by decide) hk,Bool.or_eq_true,decide_eq_true_iff,ha.last k hk,hz]
   simp [or_comm]
  | false =>
   simp only [Bool.false_eq_true,if_false,and_false,or_false]
   exact ha.last k hk
 have hW:WithinM (PM.compile e) e 0 (fun _=>False) True:=⟨fun k k' h1 h2 h3=>by
  rw [hfol k k' h3,if_neg (by omega)]
  simp,fun k h1 h2=>by
  rw [hlast k (by omega)]
  have:¬ k=128:=by omega
  simp [this],fun k c h1 h2=>htak k c (by omega)⟩
 have hg:=glushkov (PM.compile e) e 0 (fun _=>False) True (by omega) hW
 have htail:∀ v,(PM.compile e).tail (fun _=>False) True v↔v=[]:=fun v=>by
  constructor
  ·rintro (⟨h,_⟩ | ⟨_,_,_,_,_,h,_⟩)
   ·exact h
   ·exact h.elim
  ·exact fun h => .inl ⟨h,trivial⟩
 have h1:(∃ k∈beginSet.elems,(PM.compile e).run t k)↔(PM.compile e).run t 128:=by
  constructor
  ·rintro ⟨k,hk,hr⟩
   rw [(begin_elems k).1 hk] at hr
   exact hr
  ·exact fun h=>⟨128,(begin_elems 128).2 rfl,h⟩
 rw [h1]
 cases t with
 | nil =>
  show ((PM.compile e).last.mem 128=true)↔_
  rw [hlast 128 (by decide),← e.nul_iff]
  constructor
  ·rintro (h | h)
   ·have:=e.lst_in h; omega
   ·exact h.2
  ·exact fun h => .inr ⟨rfl,h⟩
 | cons c t =>
  have h2:(PM.compile e).run (c :: t) 128↔(PM.compile e).via (e.fst 0) (c :: t):=by
   constructor
   ·rintro ⟨k',hk,hf,ht,hr⟩
    exact ⟨c,t,k',rfl,hk,by have:=(hfol 128 k' hk).1 hf; rwa [if_pos rfl] at this,ht,hr⟩
   ·rintro ⟨c',t',k',he,hk,hf,ht,hr⟩
    cases he
    exact ⟨k',hk,(hfol 128 k' hk).2 (by rw [if_pos rfl]; exact hf),ht,hr⟩
  rw [h2,hg]
  constructor
  ·rintro ⟨u,v,_,h3,h4,h5⟩
   have:=(htail v).1 h5
   subst this
   rw [h3]
   simpa using h4
  ·exact fun h=>⟨c :: t,[],by simp,by simp,h,(htail []).2 rfl⟩
/-! ### The least number of states, by the language. -/
end Go.Proofs.Ts
namespace Go.Proofs.Ts
open Go
def PM.wide (M:PM) (most:Nat):Prop:=∃ l:List PSet,l.Nodup∧(∀ s∈l,Met2 M s)∧most < l.length
def PM.slim (M:PM) (most:Nat):Prop:=∃ l:List PSet,(∀ s,Met2 M s→s∈l)∧l.length≤most
theorem PM.slim_wide {M:PM} {most:Nat} (h:M.slim most) (k:M.wide most):False:=by
 obtain ⟨l,h1,h2⟩:=h
 obtain ⟨l',k1,k2,k3⟩:=k
 have:=nodup_le l' l k1 fun s hs=>h1 s (k2 s hs)
 omega
inductive Mach where
 | fault (i:Nat)
 | big
 | ok (x:Ast) (c:Nat)
def MachOf (P:Parsed) (most:Nat):Mach→Prop
 | .fault i=>P = .fault i
 | .big=>P = .big ∨ ∃ x,P = .ok x∧(PM.compile x).wide most
 | .ok x c=>P = .ok x∧(PM.compile x).slim most∧IsLeast (PM.compile x) c
end Go.Proofs.Ts
