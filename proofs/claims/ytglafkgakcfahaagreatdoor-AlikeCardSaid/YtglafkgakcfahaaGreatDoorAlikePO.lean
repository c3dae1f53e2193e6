/- Lemmas towards the statement Alike of termsearch: walks of the program's functions and plain laws on lists (TsTabB, TsLeastD, TsLeastG). Conditions: those that each theorem names. -/
import Derived.Test.YtglafkgakcfahaaGreatDoorAlikePN
import Derived.Test.YtglafkgakcfahaaGreatDoorAlikePM
set_option linter.unusedVariables false
set_option linter.unusedSimpArgs false
set_option linter.unusedSectionVars false
namespace Go.Proofs.Ts
open Go Go.RowKit
theorem Tryz.info5':(Tryz.prog.info? 5).map (fun i=>(i.zero,i.size,i.bytes))=some (some (.int .u8 0),1,1):=by kernel_rfl
theorem Tryz.info3':(Tryz.prog.info? 3).map (fun i=>(i.zero,i.size,i.bytes))=some (some (.int .i64 0),1,8):=by kernel_rfl
theorem made_zeroI (n:Nat):madeCells #[.int .i64 0] n=(intsV (List.replicate n 0)).toArray:=by
 apply Array.toList_inj.1
 rw [toList_madeCells_one]
 simp [intsV]
theorem Tryz.info272':(Tryz.prog.info? 272).map (fun i=>(i.zero,i.size,i.bytes))=some (some (.agg #[.int .u64 0,.int .u64 0,.int .u64 0]),3,24):=by kernel_rfl
theorem Tryz.info27':(Tryz.prog.info? 27).map (fun i=>(i.zero,i.size,i.bytes))=some (some (.slice none 0 0),1,24):=by kernel_rfl
theorem MachIs.atv {w:World} {mb:Nat} {M:PM} (h:MachIs w mb M) {c:Nat} (hc:c < 256):(w.cell? ⟨mb,c * 3,none⟩=some (.int .u64 (M.atc c).a)∧w.cell? ⟨mb,c * 3+1,none⟩=some (.int .u64 (M.atc c).b)∧w.cell? ⟨mb,c * 3+2,none⟩=some (.int .u64 (M.atc c).c)):=by
 have hl:c < M.at'.length:=by rw [h.1.la]; exact hc
 have hget:M.at'[c]?=some (M.atc c):=by
  unfold PM.atc
  rw [List.getD_eq_getElem?_getD,List.getElem?_eq_getElem hl]
  rfl
 have:=h.atC hget
 exact ⟨(this 0 (by decide)).1,(this 1 (by decide)).1,(this 2 (by decide)).1⟩
structure KindsAt (w:World) (mb:Nat) (M:PM) (tb ib ab:Nat) (sv kv:Value) (L:Nat→Nat) (c:Nat) (wr:World):Prop where
 tab:TabMem w.heap.size L tb ib sv (.slice none 0 0) kv [] [beginSet] [] (M.kindsTo c) wr
 map:MapIs PSet.val wr ab (vals intV (M.alikeTo c))
 lab:L ab=8
 below:Below w.heap.size w wr
theorem kinds_yes {M:PM} {c:Nat} (h:(get (M.alikeTo c) (M.atc c)).isSome=true):M.alikeTo (c+1)=M.alikeTo c:=by
 show (if (get (M.alikeTo c) (M.atc c)).isSome then _ else _)=_
 rw [if_pos h]
theorem kinds_no {M:PM} {c:Nat} (h:get (M.alikeTo c) (M.atc c)=none):M.alikeTo (c+1)=M.alikeTo c++[(M.atc c,c)]:=by
 show (if (get (M.alikeTo c) (M.atc c)).isSome then _ else _)=_
 rw [if_neg (by rw [h]; decide)]
def TableOut (M:PM) (most:Nat) (w:World) (en:Ending) (w':World):Prop :=
 Below w.heap.size w w'∧((en = .returned (.pointer none) ∧ ∃ l:List PSet,l.Nodup∧(∀ s∈l,Met2 M s)∧most < l.length) ∨
  ∃ tb L ib sv ov kv rbs sets rows,en = .returned (ptrV tb)∧TabOk M M.kinds sets rows∧rows.length=sets.length∧sets.length≤most∧TabMem w.heap.size L tb ib sv ov kv rbs sets rows M.kinds w')
set_option maxRecDepth 100000 in
set_option maxHeartbeats 8000000 in
theorem table_any (mb most:Nat) (M:PM) (w:World) (hM:MachIs w mb M) (hF:M.fit) (hT:BitTab w) (hm1:1≤most) (hm4:most≤400) :
  Calls Tryz.prog 88 #[ptrV mb,.int .i64 most] w (TableOut M most w):=by
 have hmm:=@run_makeMap Tryz.prog
 have hcst:∀ W:World,Calls Tryz.prog 127 #[ptrV mb] W fun e w'=>e = .returned beginSet.val∧Below W.heap.size W w':=fun W=>machStart_any (ptrV mb) W
 have HC:=Lib.hid hcst
 have HM:=Lib.hid (show _∧_∧_ from ⟨hM,hF,hT⟩)
 clear hcst hM hF hT
 unfold ptrV
 go_enter Tryz.func88,Tryz.ntmps88
 go_wp2_with fail
 refine wp_region_ordV [1,5] [0,2,3,4,6,7] 6 [(8,false),(9,true),(10,false)] #[false,true,false,false,false,true,false,false,false,false,false] #[true,true,true,true,true,true,true,true,false,false,false] 1000
  (fun _=>True) (by kernel_rfl) (by kernel_rfl) trivial ?_
 simp only [List.map_cons,List.map_nil]
 iterate 2 (
  refine wpOrd_quiet ?_ rfl rfl (fun w' hS=>?_) ?_
  rotate_left
  ·go_simp
   first | rfl | done
  simp only [put_lit,List.set_cons_succ,List.set_cons_zero])
 refine wpOrd_nil ?_
 rintro -
 refine invL [18,20,21,23,24] [undef,undef,undef,undef,undef] (fun l vs w'=>∃ v1 v2 v3 v4 v5 g h,vs=[v1,v2,v3,v4,v5]∧TabStart w.drew l v1 v2 v3 v4 v5 g h w') (by unfold putsL; simp only [putsL,put_lit,List.set_cons_succ,List.set_cons_zero]) ?_ ?_ ?_ ?_
 ·exact ⟨_,_,_,_,_,0,0,rfl,Below.refl _ _,fun h=>absurd h (by decide),fun h=>absurd h (by decide),fun h=>absurd h (by decide),fun h=>absurd h (by decide),fun h=>absurd h (by decide),fun h=>absurd h (by decide),fun h=>absurd h (by decide),fun h=>absurd h (by decide)⟩
 ·rintro l vs w' i ⟨v1,v2,v3,v4,v5,g,h,rfl,hTS⟩ hi hr G HG
  simp only [List.mem_cons,List.not_mem_nil,or_false] at hi
  have HT:=Lib.hid (And.intro hTS hr)
  clear hTS hr
  rcases hi with rfl | rfl | rfl | rfl | rfl | rfl
  ·refine HG.out ?_
   simp only [putsL,put_lit,List.set_cons_succ,List.set_cons_zero]
   refine wpOp_loudK rfl rfl (fun K hK=>?_)
   go_simp
   exact hK.out _ _ ⟨fun _=>trivial,[_,_,_,_,_],rfl,_,_,_,_,_,_,_,rfl,HT.out.1.make HT.out.2⟩
  ·refine HG.out ?_
   simp only [putsL,put_lit,List.set_cons_succ,List.set_cons_zero]
   refine wpOp_loudK rfl rfl (fun K hK=>?_)
   go_simp
   refine (HC.out _).mono ?_
   rintro en w'' ⟨rfl,hb⟩
   exact hK.out _ _ ⟨fun _=>trivial,[_,_,_,_,_],rfl,_,_,_,_,_,_,_,rfl,HT.out.1.call HT.out.2 hb⟩
  ·have h0:l.getD 0 false=true:=waitsB_listed (x:=3) (i:=0) (by kernel_rfl) HT.out.2
   have h2:l.getD 2 false=true:=waitsB_listed (x:=3) (i:=2) (by kernel_rfl) HT.out.2
   have h3:=unlisted_of_ready HT.out.2
   obtain ⟨rfl,hg,hmp⟩:=HT.out.1.m0 h0
   obtain rfl:=HT.out.1.c1 h2
   rw [h3] at hmp
   obtain ⟨W1,hrun1,hmap1,hg1,hz1⟩:=MapIs.update set_law hmp beginSet trivial (fun _ _=>trivial) Tryz.underlying282 (intV 0)
   have hrun1':(Instr.mapUpdate 282 (.map (some g)) beginSet.val (.int .i64 0)).run Tryz.prog w' = .ok () W1:=hrun1
   have HX:=Lib.hid (show _∧_∧_∧_ from ⟨h0,h2,hg1,hmap1⟩)
   clear hrun1 h0 h2 hg1 hmap1 hz1 hmp h3 hg
   refine HG.out ?_
   simp only [putsL,put_lit,List.set_cons_succ,List.set_cons_zero]
   refine wpOp_loudK rfl rfl (fun K hK=>?_)
   go_simp
   exact hK.out _ _ ⟨fun _=>trivial,[_,_,_,_,_],rfl,_,_,_,_,_,_,_,rfl,HT.out.1.insert HT.out.2 HX.out.1 HX.out.2.1 HX.out.2.2.1 HX.out.2.2.2⟩
  ·have h3:l.getD 3 false=true:=waitsB_listed (x:=4) (i:=3) (by kernel_rfl) HT.out.2
   have h0:l.getD 0 false=true:=waitsB_listed (x:=4) (i:=0) (by kernel_rfl) HT.out.2
   have HX:=Lib.hid (show _∧_ from ⟨h0,h3⟩)
   clear h0 h3
   refine HG.out ?_
   simp only [putsL,put_lit,List.set_cons_succ,List.set_cons_zero]
   refine wpOp_loudK rfl rfl (fun K hK=>?_)
   go_simp
   exact hK.out _ _ ⟨fun _=>trivial,[_,_,_,_,_],rfl,_,_,_,_,_,_,_,rfl,HT.out.1.move HT.out.2 HX.out.1 HX.out.2⟩
  ·refine HG.out ?_
   simp only [putsL,put_lit,List.set_cons_succ,List.set_cons_zero]
   refine wpOp_loudK rfl rfl (fun K hK=>?_)
   go_simp
   refine (HC.out _).mono ?_
   rintro en w'' ⟨rfl,hb⟩
   exact hK.out _ _ ⟨fun _=>trivial,[_,_,_,_,_],rfl,_,_,_,_,_,_,_,rfl,HT.out.1.call2 HT.out.2 hb⟩
  ·have h6:l.getD 6 false=true:=waitsB_listed (x:=7) (i:=6) (by kernel_rfl) HT.out.2
   have h4:=HT.out.1.c2 h6
   obtain ⟨bs,hbs⟩:∃ bs,bs=beginSet:=⟨_,rfl⟩
   have hst:=HT.out.1.slice HT.out.2
   rw [← hbs] at hst h4
   subst h4
   have HX:=Lib.hid hst
   clear h6 hst hbs
   refine HG.out ?_
   simp only [putsL,put_lit,List.set_cons_succ,List.set_cons_zero]
   unfold PSet.val PSet.cells
   refine wpOp_loudK rfl rfl (fun K hK=>?_)
   go_simp
   exact hK.out _ _ ⟨fun _=>trivial,[_,_,_,_,_],rfl,_,_,_,_,_,_,_,rfl,HX.out⟩
 ·exact fun _ _ _=>trivial
 ·rintro vs w' ⟨v1,v2,v3,v4,v5,g,h,rfl,hTS⟩ G HG
  obtain ⟨rfl,hg,hmp⟩:=hTS.m0 (by decide)
  obtain rfl:=hTS.c1 (by decide)
  obtain rfl:=hTS.m1 (by decide)
  obtain rfl:=hTS.c2 (by decide)
  obtain ⟨rfl,hh,hhb⟩:=hTS.s1 (by decide)
  have hne:=hTS.ne (by decide) (by decide)
  rw [if_pos (by decide)] at hmp
  have hbel:=hTS.below
  clear hTS
  have hmbl:mb < w.heap.size:=lt_of_heap HM.out.1.2
  have hgl:=hmp.lt
  have hhl:=lt_of_heap hhb
  have hg':w.heap.size≤g:=hg
  have hh':w.heap.size≤h:=hh
  have hbw:Below w.heap.size w w':=(Same.drew w |>.below _).trans hbel
  have hsw:=hbw.size
  obtain ⟨W2,hW2⟩:∃ W2,W2=(w'.alloc (.cells #[.map (some g),.slice (some ⟨h,0,none⟩) 1 1,.slice none 0 0,.slice none 0 0] 285)).alloc (.map #[] 0):=⟨_,rfl⟩
  have hb2:Below w.heap.size w W2:=by rw [hW2]; exact (hbw.alloc hsw _).alloc (by simp; omega) _
  have old:∀ b,b < w'.heap.size→W2.heap[b]?=w'.heap[b]?:=fun b hb=>by
   rw [hW2,Below.heap_alloc _ _ _ (by simp; omega),Below.heap_alloc _ _ _ hb]
  have hz2:W2.heap.size=w'.heap.size+2:=by rw [hW2]; simp
  have hst:KindsAt w mb M w'.heap.size g (w'.heap.size+1) (.slice (some ⟨h,0,none⟩) 1 1) (.slice none 0 0) (fun b=>if b=w'.heap.size then 1 else if b=g then 2 else if b=h then 3 else if b=w'.heap.size+1 then 8 else 0) 0 W2:=by
   refine ⟨⟨?_,hmp.of_block (old g hgl),?_,World.ownsRow_nil _ _ _ _,World.ownsRow_nil _ _ _ _,rfl,fun j b r hb=>(by cases hb),if_pos rfl,?_,fun b e=>?_,fun b e=>(by cases e),fun b e=>(by cases e),fun b e=>(by cases e),fun b hb=>?_⟩,?_,?_,hb2⟩
   ·rw [hW2,Below.heap_alloc _ _ _ (by simp)]
    exact heap_alloc_new w' _
   ·exact ⟨rfl,.inr ⟨h,1,beginSet.cells.toArray,rfl,Nat.zero_le _,(old h hhl).trans hhb,Nat.le_refl _,by unfold maxLen; omega,rfl,rfl⟩⟩
   ·rw [if_neg (by omega),if_pos rfl]
   ·obtain rfl:h=b:=by cases e; rfl
    rw [if_neg (by omega),if_neg (fun e=>hne e.symm),if_pos rfl]
   ·rw [hz2]
    by_cases e1:b=w'.heap.size
    ·omega
    ·by_cases e2:b=g
     ·omega
     ·by_cases e3:b=h
      ·omega
      ·by_cases e4:b=w'.heap.size+1
       ·omega
       ·simp only [e1,e2,e3,e4,if_false] at hb
        exact absurd rfl hb
   ·rw [hW2]
    have:=MapIs.made PSet.val (w'.alloc (.cells #[.map (some g),.slice (some ⟨h,0,none⟩) 1 1,.slice none 0 0,.slice none 0 0] 285))
    rw [World.size_alloc] at this
    exact this
   ·rw [if_neg (by omega),if_neg (by omega),if_neg (by omega),if_pos rfl]
  have HST:=Lib.hid hst
  have HW2:=Lib.hid hW2
  have HSZ:=Lib.hid (show _∧_∧_∧_ from ⟨hsw,hg',hh',hmbl⟩)
  clear hst hW2 old hb2 hbw hbel hmp hhb hgl hhl hg hh hg' hh' hne hmm hz2 hsw hmbl
  refine HG.out ?_
  simp only [putsL,put_lit,List.set_cons_succ,List.set_cons_zero]
  refine wpOrd_quiet (.agg #[.map (some g),.slice (some ⟨h,0,none⟩) 1 1,.slice none 0 0,.slice none 0 0]) rfl rfl (fun w' hS=>?_) ?_
  ·go_simp
   first | rfl | done
  simp only [put_lit,List.set_cons_succ,List.set_cons_zero]
  refine wpOrd_loud rfl rfl (by decide) (fun K hK=>?_)
  go_simp
  refine hK _ _ trivial ?_
  clear hK K
  refine wpOrd_quiet ?_ rfl rfl (fun w' hS=>?_) ?_
  rotate_left
  ·go_simp
   first | rfl | done
  simp only [put_lit,List.set_cons_succ,List.set_cons_zero]
  refine wpOrd_nil ?_
  have hmm:=@run_makeMap Tryz.prog
  go_wp2_with fail
  rw [← HW2.out]
  clear hmm
  obtain ⟨tb,htb⟩:∃ tb,tb=w'.heap.size:=⟨_,rfl⟩
  have hsz:=HSZ.out
  rw [← htb] at hsz HST ⊢
  obtain ⟨hsw,hg',hh',hmbl⟩:=hsz
  clear htb HSZ HW2
  generalize W2=w2 at *
  obtain ⟨i0,hi,hz0,hz1,hz2⟩:=info_parts Tryz.info5'
  obtain ⟨sv,hsv⟩:∃ sv,sv=Value.slice (some ⟨h,0,none⟩) 1 1:=⟨_,rfl⟩
  rw [← hsv] at HST
  clear hsv
  go_loopw [28] (fun i wr=>∃ (c:Nat) (L:Nat→Nat) (kv:Value),c≤256∧i = .int .i64 c∧Hid (KindsAt w mb M tb g (tb+1) sv kv L c wr)) (fun i _=>256 - (intOf i).toNat)
  case atStart=>exact ⟨0,_,_,by omega,rfl,HST⟩
  case round =>
   clear HST
   obtain ⟨c,L,kv,hc,rfl,HK⟩:=hrel
   by_cases hlt:c < 256
   ·have hMr:MachIs wr mb M:=⟨HM.out.1.1,(HK.out.below.block mb hmbl).trans HM.out.1.2⟩
    obtain ⟨e0,e1,e2⟩:=hMr.atv hlt
    have hlk:=MapIs.lookup set_law HK.out.map (M.atc c) trivial (fun _ _=>trivial) Tryz.underlying282 (z := .int .i64 0) (by kernel_rfl) true
    rw [get_vals] at hlk
    obtain ⟨s,hs⟩:∃ s,s=M.atc c:=⟨_,rfl⟩
    rw [← hs] at e0 e1 e2 hlk
    have HS:=Lib.hid hs
    have hlz:(c:Int) < 256:=by omega
    have hgz:(0:Int)≤c:=by omega
    clear hMr hs
    cases hget:get (M.alikeTo c) s with
    | some k =>
     rw [hget] at hlk
     have hlk':(Instr.lookup 282 (.map (some (tb+1))) (.agg #[.int .u64 s.a,.int .u64 s.b,.int .u64 s.c]) true).run Tryz.prog wr = .ok (.tuple #[.int .i64 k,.bool true]) wr:=hlk
     clear hlk
     go_wp2_with fail
     go_roundw
     case rel =>
      refine ⟨c+1,L,kv,by omega,by go_num,?_⟩
      have he:=kinds_yes (M:=M) (c:=c) (by rw [← HS.out,hget]; rfl)
      exact ⟨by unfold PM.kindsTo; rw [he]; exact HK.out.tab,by rw [he]; exact HK.out.map,HK.out.lab,HK.out.below⟩
     case measure=>simp [intOf]; omega
    | none =>
     rw [hget] at hlk
     have hlk':(Instr.lookup 282 (.map (some (tb+1))) (.agg #[.int .u64 s.a,.int .u64 s.b,.int .u64 s.c]) true).run Tryz.prog wr = .ok (.tuple #[.int .i64 0,.bool false]) wr:=hlk
     clear hlk
     obtain ⟨W3,hrun3,hmap3,hg3,hz3⟩:=MapIs.update set_law HK.out.map s trivial (fun _ _=>trivial) Tryz.underlying282 (intV c)
     have hrun3':(Instr.mapUpdate 282 (.map (some (tb+1))) (.agg #[.int .u64 s.a,.int .u64 s.b,.int .u64 s.c]) (.int .i64 c)).run Tryz.prog wr = .ok () W3:=hrun3
     have hab:∀ b,L b≠0→L b≤6→W3.heap[b]?=wr.heap[b]?:=fun b h0 h6=>hg3.block b (HK.out.tab.lt h0) fun e=>by
      have e':=Option.some.inj e
      have:=HK.out.lab
      rw [← e'] at this
      omega
     have htab3:=HK.out.tab.kept hg3.size hab
     have hbel3:Below w.heap.size w W3:=HK.out.below.grown hg3 HK.out.below.size fun b e=>by have e':=Option.some.inj e; omega
     have hkr:=htab3.krow
     obtain ⟨ka,kc,hkv⟩:=ownsRow_form hkr
     have t3:W3.cell? ⟨tb,3,none⟩=some kv:=cell_block htab3.head
     have hwr:IntKind.u8.wrap (c:Int)=(c:Int):=IntWalk.u8_in _ (by omega)
     have hkl:=kinds_len M c
     rw [put_vals,length_put_none _ hget] at hmap3
     have H3:=Lib.hid (show _∧_∧_∧_ from ⟨htab3,hbel3,hmap3,hget⟩)
     have HK0:=Lib.hid HK.out.lab
     have hszr:tb < W3.heap.size:=lt_of_heap htab3.head
     have hrow4:(W3.alloc (.cells #[.int .u8 c] 5)).ownsRow 0 5 1 kv (M.kindsTo c).length ((M.kindsTo c).map kindV):=hkr.alloc _
     have hnew:∀ j u,[Value.int .u8 (c:Int)][j]?=some u→(W3.alloc (.cells #[.int .u8 c] 5)).cell? ((⟨W3.heap.size,0,none⟩:Addr).add j)=some u:=by
      intro j u hj
      match j,hj with
      | 0,hj=>simp at hj; subst hj; simp [Addr.add]
      | j+1,hj=>simp at hj
     have t4:(W3.alloc (.cells #[.int .u8 c] 5)).cell? ⟨tb,3,none⟩=some kv:=(World.cell?_alloc_lt _ _ _ (by show tb < _; omega)).trans t3
     clear hrun3 hab htab3 hbel3 hkr hmap3 hg3 hz3 HK
     subst hkv
     have hbt:(W3.alloc (.cells #[.int .u8 c] 5)).heap[tb]?=some (.cells #[.map (some g),sv,.slice none 0 0,.slice ka (M.kindsTo c).length kc] 285 (0,0)):=(Below.heap_alloc W3 _ _ hszr).trans H3.out.1.head
     have hkt:(Value.slice ka (M.kindsTo c).length kc).ownBlock≠some tb:=fun e=>by
      have:=H3.out.1.lK tb e
      rw [H3.out.1.lT] at this
      cases this
     have HBT:=Lib.hid (And.intro hbt hkt)
     clear hbt hkt
     go_wp2_with (at_builtin; refine wpList_append_slice rfl _ _ 61 rfl 5 i0 (.int .u8 0) 1 1 Tryz.underlying61 hi hz0 hz1 hz2 rfl (by decide) (.slice ka (M.kindsTo c).length kc) (M.kindsTo c).length ((M.kindsTo c).map kindV) rfl hrow4 ⟨W3.heap.size,0,none⟩ 1 1 [.int .u8 (c:Int)] rfl rfl hnew (by simp [Value.oneCell']) (by decide) (by unfold maxLen; omega) (by omega) ?_; intro g4 cap4 W4 hrow5 hgrow5 hlies5; simp only [put_lit,List.set_cons_succ,List.set_cons_zero]; have hb5:=(hgrow5.block tb (lt_of_heap HBT.out.1) (fun e=>HBT.out.2 e.symm)).trans HBT.out.1; have t5:W4.cell? ⟨tb,3,none⟩=some (.slice ka (M.kindsTo c).length kc):=cell_block hb5; have f5:W4.frozen? ⟨tb,3,none⟩=false:=free_block hb5; have HR5:=Lib.hid hrow5; have HM5:=Lib.hid ((Moves.alloc W3 (.slice ka (M.kindsTo c).length kc) _).trans (Moves.append hgrow5 hlies5)); clear hrow5 hgrow5 hlies5 hb5)
     have hrow6:W4.ownsRow 0 5 1 (.slice (some ⟨g4,0,none⟩) ((M.kindsTo c).length+1) cap4) ((M.kindsTo c).length+1) ((M.kindsTo c++[c]).map kindV):=by
      rw [List.map_append]
      exact HR5.out
     have hB3:w.heap.size≤W3.heap.size:=H3.out.2.1.size
     obtain ⟨L',hL',htab⟩:=H3.out.1.addKind HM5.out hB3 hrow6
     have hab:=H3.out.2.2.1.lt
     have hne8:(Value.slice ka (M.kindsTo c).length kc).ownBlock≠some (tb+1):=fun e=>by
      have:=H3.out.1.lK (tb+1) e
      rw [HK0.out] at this
      cases this
     have hmp6:MapIs PSet.val (W4.setCell ⟨tb,3,none⟩ (.slice (some ⟨g4,0,none⟩) ((M.kindsTo c).length+1) cap4)) (tb+1) (vals intV (M.alikeTo c++[(s,c)])):=by
      exact H3.out.2.2.1.of_block ((Below.heap_setCell W4 ⟨tb,3,none⟩ (.slice (some ⟨g4,0,none⟩) ((M.kindsTo c).length+1) cap4) (tb+1) (by show tb+1≠tb; omega)).trans (HM5.out.block hab hne8))
     have hbel6:Below w.heap.size w (W4.setCell ⟨tb,3,none⟩ (.slice (some ⟨g4,0,none⟩) ((M.kindsTo c).length+1) cap4)) :=
      (HM5.out.below (fun b e=>(H3.out.1.past b (by rw [H3.out.1.lK b e]; decide)).1) H3.out.2.1 hB3).setCell (p:=⟨tb,3,none⟩) (by show w.heap.size≤tb; omega) _
     have he:=kinds_no (M:=M) (c:=c) (by rw [← HS.out]; exact H3.out.2.2.2)
     rw [← HS.out] at he
     have hk1:M.kindsTo (c+1)=M.kindsTo c++[c]:=by unfold PM.kindsTo; rw [he,List.map_append]; rfl
     rw [← hk1] at htab
     rw [← he] at hmp6
     exact ⟨⟨c+1,L',_,by omega,by go_num,⟨htab,hmp6,by rw [hL' _ hab]; exact HK0.out,hbel6⟩⟩,by simp [intOf]; omega⟩
   ·obtain rfl:c=256:=by omega
    clear hlt hc
    have hkn:(M.kindsTo 256).length≤256:=kinds_len M 256
    obtain ⟨ks,hks⟩:∃ ks,ks=M.kinds:=⟨_,rfl⟩
    have hks':M.kindsTo 256=ks:=hks.symm
    have htab:=HK.out.tab
    rw [hks'] at htab hkn
    have HTB:=Lib.hid (show _∧_∧_ from ⟨htab,HK.out.below,hks⟩)
    clear htab hks hks' HK hi hz0 hz1 hz2
    rw [show ((256:Nat):Int)=(256:Int) from rfl]
    go_wp2_with fail
    go_loopw [10] (fun i wx=>∃ (sets:List PSet) (rows:List (List Int)) (rbs:List Nat) (L:Nat→Nat) (sv ov:Value),i = .int .i64 (rows.length:Nat)∧rows.length≤sets.length∧sets.length≤most∧Hid (TabOk M ks sets rows)∧Hid (TabMem w.heap.size L tb g sv ov kv rbs sets rows ks wx)∧Hid (Below w.heap.size w wx)) (fun i _=>most+1 - (intOf i).toNat)
    case atStart=>exact ⟨[beginSet],[],[],L,sv,.slice none 0 0,rfl,by decide,by simpa using hm1,Lib.hid (TabOk.start M ks),Lib.hid HTB.out.1,Lib.hid HTB.out.2.1⟩
    case round =>
     have HKS:=Lib.hid HTB.out.2.2
     clear HTB
     obtain ⟨sets,rows,rbs,L2,sv2,ov,rfl,hle,hmost,HOK,HTM,HBE⟩:=hrel
     have hk0:0 < ks.length:=by
      obtain ⟨k,hk,_⟩:=kinds_has M 0 (by decide)
      rw [HKS.out]
      exact List.length_pos_of_mem hk
     have hs0:0 < sets.length:=(List.getElem?_eq_some_iff.1 HOK.out.first).1
     obtain ⟨kg,kc,hkv⟩:=ownsRow_headP HTM.out.krow hk0
     obtain ⟨sg,sc,hsv⟩:=ownsRow_headP HTM.out.srow hs0
     have t1:wr.cell? ⟨tb,1,none⟩=some sv2:=cell_block HTM.out.head
     have t3:wr.cell? ⟨tb,3,none⟩=some kv:=cell_block HTM.out.head
     rw [hsv] at t1
     rw [hkv] at t3
     have HKV:=Lib.hid hkv
     have HSV:=Lib.hid hsv
     clear hkv hsv
     have hlz:(0:Int)≤(rows.length:Int):=by omega
     have hrz:(rows.length:Int)≤400:=by omega
     by_cases hlt:rows.length < sets.length
     ·obtain ⟨s,hs⟩:∃ s,sets[rows.length]?=some s:=⟨_,List.getElem?_eq_getElem hlt⟩
      obtain ⟨i1,hi,hz0,hz1,hz2⟩:=info_parts Tryz.info3'
      have hmk:∀ W:World,(Instr.makeSlice 27 (.int .i64 ks.length) (.int .i64 ks.length)).run Tryz.prog W = .ok (.slice (some ⟨W.heap.size,0,none⟩) ks.length ks.length) (W.alloc (.cells (madeCells #[.int .i64 0] ks.length) 3)):=fun W=>by
       have:=run_make (P:=Tryz.prog) W 27 3 i1 (.int .i64 0) Tryz.underlying27 hi hz0 .i64 .i64 ks.length ks.length (by omega) (Int.le_refl _) (by rw [hz2]; omega) (by omega)
       rw [hz1] at this
       simpa [Value.cells] using this
      clear hi hz0 hz1 hz2
      have htl:=lt_of_heap HTM.out.head
      have t3':(wr.alloc (.cells (madeCells #[.int .i64 0] ks.length) 3)).cell? ⟨tb,3,none⟩=some (.slice (some ⟨kg,0,none⟩) ks.length kc):=(World.cell?_alloc_lt _ _ _ htl).trans t3
      go_wp2_with fail
      clear hmk t3 t3' t1
      have hrl:wr.heap.size < (wr.alloc (.cells (madeCells #[.int .i64 0] ks.length) 3)).heap.size:=by simp
      have hL0:L2 wr.heap.size=0:=by
       rcases Nat.eq_zero_or_pos (L2 wr.heap.size) with h0 | h0
       ·exact h0
       ·have:=HTM.out.lt (b:=wr.heap.size) (by omega); omega
      have hin:InRow w.heap.size most M ks tb g wr.heap.size ov kv rbs rows s 0 sets (fun b=>if b=wr.heap.size then 7 else L2 b) sv2 (List.replicate ks.length 0) (wr.alloc (.cells (madeCells #[.int .i64 0] ks.length) 3)) :=
       ⟨HOK.out,hmost,hs,HTM.out.mark ((Below.refl _ wr).alloc (Nat.le_refl _) _) hL0 HBE.out.size hrl,if_pos rfl,by rw [made_zeroI]; exact heap_alloc_new wr _,List.length_replicate,fun j c hj=>absurd hj (by omega)⟩
      have hbin:Below w.heap.size w (wr.alloc (.cells (madeCells #[.int .i64 0] ks.length) 3)):=HBE.out.alloc HBE.out.size _
      have HIN:=Lib.hid (And.intro hin hbin)
      clear hin hbin hL0
      obtain ⟨rb,hrb⟩:∃ rb,rb=wr.heap.size:=⟨_,rfl⟩
      rw [← hrb] at HIN ⊢
      have hrb2:w.heap.size≤rb:=by rw [hrb]; exact HBE.out.size
      clear HTM HBE hs0 HSV hrl
      generalize wr.alloc (.cells (madeCells #[.int .i64 0] ks.length) 3)=w3 at *
      go_loopw [84] (fun i wx=>∃ (k:Nat) (sets':List PSet) (L':Nat→Nat) (sv':Value) (cur:List Int),k≤ks.length∧i = .int .i64 k∧Hid (InRow w.heap.size most M ks tb g rb ov kv rbs rows s k sets' L' sv' cur wx∧Below w.heap.size w wx)) (fun i _=>ks.length - (intOf i).toNat)
      case atStart=>exact ⟨0,sets,_,sv2,_,by omega,rfl,HIN⟩
      case round =>
       clear HIN hrb
       obtain ⟨k,sets',L',sv',cur,hk,rfl,HI⟩:=hrel
       by_cases hkl:k < ks.length
       ·obtain ⟨c,hc⟩:∃ c,ks[k]?=some c:=⟨_,List.getElem?_eq_getElem hkl⟩
        have hc256:c < 256:=by
         have:=List.mem_of_getElem? hc
         rw [HKS.out] at this
         exact kinds_lt M 256 this
        have hs0:0 < sets'.length:=(List.getElem?_eq_some_iff.1 HI.out.1.ok.first).1
        obtain ⟨sg,sc,hsv⟩:=ownsRow_headP HI.out.1.mem.srow hs0
        have hkc:wr.cell? ⟨kg,k,none⟩=some (.int .u8 c):=by
         have hkr:=HI.out.1.mem.krow
         rw [HKV.out] at hkr
         exact ownsRow_cell0 hkr (by rw [List.getElem?_map,hc]; rfl)
        have t1:wr.cell? ⟨tb,1,none⟩=some sv':=cell_block HI.out.1.mem.head
        rw [hsv] at t1
        have hcl:=HI.out.1.len
        obtain ⟨z0,hz0⟩:∃ z0,cur[k]?=some z0:=⟨_,List.getElem?_eq_getElem (by omega)⟩
        have r0:wr.cell? ⟨rb,k,none⟩=some (.int .i64 z0):=by
         rw [cell_block HI.out.1.row]
         simp [intsV,hz0]
        have rf:wr.frozen? ⟨rb,k,none⟩=false:=free_block HI.out.1.row
        have hi1:=HI.out.1.put (-1)
        have hb1:Below w.heap.size w (wr.setCell ⟨rb,k,none⟩ (.int .i64 (-1))):=HI.out.2.setCell (p:=⟨rb,k,none⟩) hrb2 _
        have hsr:=hi1.mem.srow
        rw [hsv] at hsr
        have hown:=hi1.own
        have s0:(wr.setCell ⟨rb,k,none⟩ (.int .i64 (-1))).cell? ⟨sg,rows.length * 3,none⟩=some (.int .u64 s.a):=ownsRow_cell0 hsr (by rw [← Nat.add_zero (rows.length * 3)]; exact setCells_at _ _ _ hown 0 (by decide))
        have s1:(wr.setCell ⟨rb,k,none⟩ (.int .i64 (-1))).cell? ⟨sg,rows.length * 3+1,none⟩=some (.int .u64 s.b):=ownsRow_cell0 hsr (setCells_at _ _ _ hown 1 (by decide))
        have s2:(wr.setCell ⟨rb,k,none⟩ (.int .i64 (-1))).cell? ⟨sg,rows.length * 3+2,none⟩=some (.int .u64 s.c):=ownsRow_cell0 hsr (setCells_at _ _ _ hown 2 (by decide))
        have t2:(wr.setCell ⟨rb,k,none⟩ (.int .i64 (-1))).cell? ⟨tb,1,none⟩=some (.slice (some ⟨sg,0,none⟩) sets'.length sc):=by
         rw [← hsv]
         exact cell_block hi1.mem.head
        have hrl3:rows.length < sets'.length:=(List.getElem?_eq_some_iff.1 hown).1
        have hM1:MachIs (wr.setCell ⟨rb,k,none⟩ (.int .i64 (-1))) mb M:=⟨HM.out.1.1,(hb1.block mb hmbl).trans HM.out.1.2⟩
        have hT1:BitTab (wr.setCell ⟨rb,k,none⟩ (.int .i64 (-1))):=HM.out.2.2.below hb1
        have hreach:=(HOK.out.reach s (List.mem_of_getElem? hs))
        have hsok:=hreach.ok HM.out.1.1 HM.out.2.1
        obtain ⟨c8,hc8⟩:∃ c8:UInt8,c8.toNat=c:=⟨UInt8.ofNat c,by simp; omega⟩
        have hcall:=machStep_any mb M s c8 _ hsok.1 hsok.2 hM1 hT1
        rw [hc8] at hcall
        obtain ⟨t,ht⟩:∃ t,t=M.step s c:=⟨_,rfl⟩
        rw [← ht] at hcall
        obtain ⟨bz,hbz⟩:∃ bz,bz = !decide (t=PSet.zero):=⟨_,rfl⟩
        rw [← hbz] at hcall
        have hlen400:sets'.length≤400:=Nat.le_trans HI.out.1.few hm4
        have H1:=Lib.hid (show _∧_∧_∧_∧_∧_∧_∧_ from ⟨hcall,hi1,hb1,hreach,ht,hbz,hc,hsv⟩)
        clear hcall hi1 hb1 hreach ht hbz hsok hM1 hT1 hown hsr hc8 hc hsv hz0 hs0
        have hkz:(k:Int) < (ks.length:Int):=by omega
        have hkz0:(0:Int)≤(k:Int):=by omega
        have hrz2:(rows.length:Int) < (sets'.length:Int):=by omega
        go_wp2_with fail
        have hcall:=H1.out.1
        unfold ptrV PSet.val PSet.cells at hcall
        refine hcall.mono ?_
        clear hcall
        rintro en w4 ⟨rfl,hb4⟩
        have hbA:=hb4.trans ((Below.refl _ w4).alloc hb4.size (.cells t.cells.toArray 272))
        have hi4:=H1.out.2.1.below hbA
        have hbw4:Below w.heap.size w (w4.alloc (.cells t.cells.toArray 272)):=H1.out.2.2.1.trans (hbA.mono H1.out.2.2.1.size)
        have hnew4:=heap_alloc_new w4 (.cells t.cells.toArray 272)
        obtain ⟨W5,hW5⟩:∃ W5,W5=w4.alloc (.cells t.cells.toArray 272):=⟨_,rfl⟩
        rw [← hW5] at hi4 hbw4 hnew4
        have hcl4:cur.length=ks.length:=hcl
        have hz5:W5.heap.size=w4.heap.size+1:=by rw [hW5]; simp
        have hw4:=hb4.size
        have H4:=Lib.hid (show _∧_∧_∧_∧_ from ⟨hi4,hbw4,hnew4,hz5,hw4⟩)
        clear hw4
        unfold PSet.cells at hW5
        have HW5:=Lib.hid hW5
        clear hb4 hbA hi4 hbw4 hnew4 hW5 hz5 hcl hkc t1 r0 rf s0 s1 s2 t2
        cases bz
        ·go_wp2_with fail
         rw [← HW5.out]
         refine ⟨⟨k+1,sets',L',sv',cur.set k (-1),by omega,by go_num,H4.out.1.next H1.out.2.2.2.2.2.2.1 (by rw [List.getElem?_set_self (by omega)]) (.inl ⟨?_,rfl⟩),H4.out.2.1⟩,by simp [intOf]; omega⟩
         rw [← H1.out.2.2.2.2.1]
         have:=H1.out.2.2.2.2.2.1
         simpa using this
        ·have htz:t≠PSet.zero:=by
          have:=H1.out.2.2.2.2.2.1
          simpa using this
         have hlk:=MapIs.lookup (w:=W5.drew) set_law (H4.out.1.mem.ids.of_block rfl) t trivial (fun _ _=>trivial) Tryz.underlying282 (z := .int .i64 0) (by kernel_rfl) true
         rw [get_vals] at hlk
         have x0:W5.cell? ⟨w4.heap.size,0,none⟩=some (.int .u64 t.a):=cell_block H4.out.2.2.1
         have x1:W5.cell? ⟨w4.heap.size,1,none⟩=some (.int .u64 t.b):=cell_block H4.out.2.2.1
         have x2:W5.cell? ⟨w4.heap.size,2,none⟩=some (.int .u64 t.c):=cell_block H4.out.2.2.1
         have x3:W5.cell? ⟨tb,0,none⟩=some (.map (some g)):=cell_block H4.out.1.mem.head
         have z5:W5.cell? ⟨rb,k,none⟩=some (.int .i64 (-1)):=by
          have hl:k < cur.length:=by omega
          rw [cell_block H4.out.1.row]
          simp [intsV,hl]
         have zf:W5.frozen? ⟨rb,k,none⟩=false:=free_block H4.out.1.row
         obtain ⟨ov2,hov2⟩:∃ r:Value,r=(.tuple #[((get (idsOf sets') t).map intV).getD (.int .i64 0),.bool ((get (idsOf sets') t).map intV).isSome]):=⟨_,rfl⟩
         have hlk2:(Instr.lookup 282 (.map (some g)) (.agg #[.int .u64 t.a,.int .u64 t.b,.int .u64 t.c]) true).run Tryz.prog W5.drew = .ok ov2 W5.drew:=by rw [hov2]; exact hlk
         have HOV:=Lib.hid hov2
         clear hlk hov2
         cases hget:get (idsOf sets') t with
         | some id =>
          have hov:=HOV.out
          rw [hget] at hov
          have hov':ov2 = .tuple #[.int .i64 id,.bool true]:=hov
          subst hov'
          clear HOV hov
          have hid:=idsOf_get hget
          have hidl:=(List.getElem?_eq_some_iff.1 hid).1
          have HID:=Lib.hid hid
          clear hget hid
          go_wp2_with fail
          rw [← HW5.out]
          refine wp_region_ordX [(0,false),(1,false),(2,false),(3,false),(4,false),(5,false),(6,false),(7,false),(8,false),(9,false),(10,false)] 1000
           (fun W'=>(W'.cell? ⟨w4.heap.size,0,none⟩=some (.int .u64 t.a)∧W'.cell? ⟨w4.heap.size,1,none⟩=some (.int .u64 t.b)∧W'.cell? ⟨w4.heap.size,2,none⟩=some (.int .u64 t.c))∧W'.cell? ⟨tb,0,none⟩=some (.map (some g)) ∧
            (Instr.lookup 282 (.map (some g)) (.agg #[.int .u64 t.a,.int .u64 t.b,.int .u64 t.c]) true).run Tryz.prog W' = .ok (.tuple #[.int .i64 id,.bool true]) W') (by kernel_rfl) (by kernel_rfl) ⟨⟨x0,x1,x2⟩,x3,hlk2⟩ ?_
          iterate 11 (
           refine wpOrd_quiet ?_ rfl rfl (fun w' hS=>?_) ?_
           rotate_left
           ·obtain ⟨⟨q0,q1,q2⟩,q3,q4⟩:=hS
            go_simp
            first | rfl | done
           simp only [put_lit,List.set_cons_succ,List.set_cons_zero])
          refine wpOrd_nil ?_
          have hi6:=(H4.out.1.put (id:Int)).below (Same.drew _ |>.below _)
          have hb6:Below w.heap.size w (W5.setCell ⟨rb,k,none⟩ (.int .i64 id)).drew:=(H4.out.2.1.setCell (p:=⟨rb,k,none⟩) hrb2 _).trans (Same.drew _ |>.below _)
          clear hlk2 x0 x1 x2 x3
          have HI6:=Lib.hid (And.intro hi6 hb6)
          clear hi6 hb6
          go_wp2_with fail
          refine ⟨⟨k+1,sets',L',sv',_,by omega,by go_num,HI6.out.1.next H1.out.2.2.2.2.2.2.1 (by rw [List.getElem?_set_self (by rw [List.length_set]; omega)]) (.inr ⟨?_,id,rfl,?_⟩),HI6.out.2⟩,by simp [intOf]; omega⟩
          ·rw [← H1.out.2.2.2.2.1]; exact htz
          ·rw [← H1.out.2.2.2.2.1]; exact HID.out
         | none =>
          have hov:=HOV.out
          rw [hget] at hov
          have hov':ov2 = .tuple #[.int .i64 0,.bool false]:=hov
          subst hov'
          clear HOV hov
          have hnotin:=idsOf_none hget
          have x4:W5.cell? ⟨tb,1,none⟩=some sv':=cell_block H4.out.1.mem.head
          rw [H1.out.2.2.2.2.2.2.2] at x4
          obtain ⟨W6,hrun6,hmap6,hg6,hz6⟩:=MapIs.update (w:=W5.drew.drew) set_law (H4.out.1.mem.ids.of_block rfl) t trivial (fun _ _=>trivial) Tryz.underlying282 (intV sets'.length)
          have hrun6':(Instr.mapUpdate 282 (.map (some g)) (.agg #[.int .u64 t.a,.int .u64 t.b,.int .u64 t.c]) (.int .i64 sets'.length)).run Tryz.prog W5.drew.drew = .ok () W6:=hrun6
          have H6:=Lib.hid (show _∧_∧_∧_ from ⟨hmap6,hg6,hnotin,hget⟩)
          clear hrun6 hmap6 hnotin hget hg6 hz6
          go_wp2_with fail
          rw [← HW5.out]
          refine wp_region_ordX [(0,false),(1,false),(2,false),(3,false),(4,false),(5,false),(6,false),(7,false),(8,false),(9,false),(10,false)] 1000
           (fun W'=>(W'.cell? ⟨w4.heap.size,0,none⟩=some (.int .u64 t.a)∧W'.cell? ⟨w4.heap.size,1,none⟩=some (.int .u64 t.b)∧W'.cell? ⟨w4.heap.size,2,none⟩=some (.int .u64 t.c))∧W'.cell? ⟨tb,0,none⟩=some (.map (some g)) ∧
            (Instr.lookup 282 (.map (some g)) (.agg #[.int .u64 t.a,.int .u64 t.b,.int .u64 t.c]) true).run Tryz.prog W' = .ok (.tuple #[.int .i64 0,.bool false]) W') (by kernel_rfl) (by kernel_rfl) ⟨⟨x0,x1,x2⟩,x3,hlk2⟩ ?_
          iterate 11 (
           refine wpOrd_quiet ?_ rfl rfl (fun w' hS=>?_) ?_
           rotate_left
           ·obtain ⟨⟨q0,q1,q2⟩,q3,q4⟩:=hS
            go_simp
            first | rfl | done
           simp only [put_lit,List.set_cons_succ,List.set_cons_zero])
          refine wpOrd_nil ?_
          clear hlk2
          go_wp2_with fail
          refine wp_region_ordT [(0,false),(1,false),(2,false),(3,false),(4,false),(5,false),(6,true)] 6
           (fun W'=>(W'.cell? ⟨w4.heap.size,0,none⟩=some (.int .u64 t.a)∧W'.cell? ⟨w4.heap.size,1,none⟩=some (.int .u64 t.b)∧W'.cell? ⟨w4.heap.size,2,none⟩=some (.int .u64 t.c))∧W'.cell? ⟨tb,0,none⟩=some (.map (some g))) (by kernel_rfl) (by kernel_rfl) ⟨⟨x0,x1,x2⟩,x3⟩ ?_
          iterate 6 (
           refine wpOrd_quiet ?_ rfl rfl (fun w' hS=>?_) ?_
           rotate_left
           ·obtain ⟨⟨q0,q1,q2⟩,q3⟩:=hS
            go_simp
            first | rfl | done
           simp only [put_lit,List.set_cons_succ,List.set_cons_zero])
          refine wpOrd_last rfl rfl (fun K hK=>?_)
          have HK7:=Lib.hid hK
          clear hK
          go_simp
          refine HK7.out _ _ ?_
          clear HK7 K hrun6'
          have hg6:W5.grownBy W6 (some g):=⟨H6.out.2.1.os,H6.out.2.1.tape,H6.out.2.1.output,H6.out.2.1.size,fun b hb hn=>H6.out.2.1.block b hb hn⟩
          have hgl5:=H4.out.1.mem.ids.lt
          have htg:tb≠g:=fun e=>by
           have:=H4.out.1.mem.lT
           rw [e,H4.out.1.mem.lI] at this
           cases this
          have hrg:rb≠g:=fun e=>by
           have:=H4.out.1.lab
           rw [e,H4.out.1.mem.lI] at this
           cases this
          have hxg:w4.heap.size≠g:=fun e=>map_ne_cells H4.out.1.mem.ids H4.out.2.2.1 e.symm
          have hbt6:=(hg6.block tb (lt_of_heap H4.out.1.mem.head) (fun e=>htg (Option.some.inj e))).trans H4.out.1.mem.head
          have hbx6:=(hg6.block w4.heap.size (lt_of_heap H4.out.2.2.1) (fun e=>hxg (Option.some.inj e))).trans H4.out.2.2.1
          have hbr6:=(hg6.block rb (lt_of_heap H4.out.1.row) (fun e=>hrg (Option.some.inj e))).trans H4.out.1.row
          have hsr6:W6.ownsRow 0 272 3 sv' sets'.length (setCells sets'):=ownsRow_block H4.out.1.mem.srow fun b e=>hg6.block b (H4.out.1.mem.srow.lt b e).2 fun e'=>by
           have h1:=H4.out.1.mem.lS b e
           rw [Option.some.inj e',H4.out.1.mem.lI] at h1
           cases h1
          have hbel6:Below w.heap.size w W6:=H4.out.2.1.grown hg6 H4.out.2.1.size fun b e=>by have e':=Option.some.inj e; omega
          have htl6:=lt_of_heap hbt6
          have hxl6:=lt_of_heap hbx6
          have hrl6:=lt_of_heap hbr6
          have y0:W6.cell? ⟨w4.heap.size,0,none⟩=some (.int .u64 t.a):=cell_block hbx6
          have y1:W6.cell? ⟨w4.heap.size,1,none⟩=some (.int .u64 t.b):=cell_block hbx6
          have y2:W6.cell? ⟨w4.heap.size,2,none⟩=some (.int .u64 t.c):=cell_block hbx6
          have y4:W6.cell? ⟨tb,1,none⟩=some sv':=cell_block hbt6
          rw [H1.out.2.2.2.2.2.2.2] at y4
          have H7:=Lib.hid (show _∧_∧_∧_∧_∧_ from ⟨hg6,hbt6,hbx6,hbr6,hsr6,hbel6⟩)
          clear hg6 hbt6 hbx6 hbr6 hsr6 hbel6 hgl5 htg hrg hxg x0 x1 x2 x3 x4 z5 zf
          go_wp2_with fail
          obtain ⟨i2,hi,hz0,hz1,hz2⟩:=info_parts Tryz.info272'
          refine wp_region_ordT [(0,false),(1,false),(2,false),(3,false),(4,false),(5,false),(6,true),(7,true),(8,false),(9,false),(10,true)] 10
           (fun W'=>(W'.cell? ⟨w4.heap.size,0,none⟩=some (.int .u64 t.a)∧W'.cell? ⟨w4.heap.size,1,none⟩=some (.int .u64 t.b)∧W'.cell? ⟨w4.heap.size,2,none⟩=some (.int .u64 t.c))∧W'.cell? ⟨tb,1,none⟩=some (.slice (some ⟨sg,0,none⟩) sets'.length sc)) (by kernel_rfl) (by kernel_rfl) ⟨⟨y0,y1,y2⟩,y4⟩ ?_
          iterate 6 (
           refine wpOrd_quiet ?_ rfl rfl (fun w' hS=>?_) ?_
           rotate_left
           ·obtain ⟨⟨q0,q1,q2⟩,q3⟩:=hS
            go_simp
            first | rfl | done
           simp only [put_lit,List.set_cons_succ,List.set_cons_zero])
          have hrow7:(W6.alloc (.cells #[.int .u64 t.a,.int .u64 t.b,.int .u64 t.c] 272)).drew.ownsRow 0 272 3 (.slice (some ⟨sg,0,none⟩) sets'.length sc) sets'.length (setCells sets'):=by
           have:=H7.out.2.2.2.2.1
           rw [H1.out.2.2.2.2.2.2.2] at this
           exact (this.alloc _).drew
          have hc7:∀ j u,[Value.int .u64 t.a,.int .u64 t.b,.int .u64 t.c][j]?=some u→(W6.alloc (.cells #[.int .u64 t.a,.int .u64 t.b,.int .u64 t.c] 272)).drew.cell? ((⟨W6.heap.size,0,none⟩:Addr).add j)=some u:=by
           have:=cell_three_new W6 (.int .u64 t.a) (.int .u64 t.b) (.int .u64 t.c) 272
           simpa using this
          have hS7:((W6.alloc (.cells #[.int .u64 t.a,.int .u64 t.b,.int .u64 t.c] 272)).drew.cell? ⟨w4.heap.size,0,none⟩=some (.int .u64 t.a)∧(W6.alloc (.cells #[.int .u64 t.a,.int .u64 t.b,.int .u64 t.c] 272)).drew.cell? ⟨w4.heap.size,1,none⟩=some (.int .u64 t.b)∧(W6.alloc (.cells #[.int .u64 t.a,.int .u64 t.b,.int .u64 t.c] 272)).drew.cell? ⟨w4.heap.size,2,none⟩=some (.int .u64 t.c))∧(W6.alloc (.cells #[.int .u64 t.a,.int .u64 t.b,.int .u64 t.c] 272)).drew.cell? ⟨tb,1,none⟩=some (.slice (some ⟨sg,0,none⟩) sets'.length sc) :=
           ⟨⟨(World.cell?_alloc_lt _ _ _ hxl6).trans y0,(World.cell?_alloc_lt _ _ _ hxl6).trans y1,(World.cell?_alloc_lt _ _ _ hxl6).trans y2⟩,(World.cell?_alloc_lt _ _ _ htl6).trans y4⟩
          have hmv7:Moves W6 (.slice (some ⟨sg,0,none⟩) sets'.length sc) (W6.alloc (.cells #[.int .u64 t.a,.int .u64 t.b,.int .u64 t.c] 272)).drew (.slice (some ⟨sg,0,none⟩) sets'.length sc):=(Moves.alloc W6 _ _).trans (Moves.same _ (Same.drew _))
          refine wpOrd_loud rfl rfl (by decide) (fun K hK=>?_)
          have HK8:=Lib.hid hK
          clear hK
          go_simp
          refine HK8.out _ _ hS7 ?_
          clear HK8 K
          have HC7:=Lib.hid (show _∧_ from ⟨hS7,hmv7⟩)
          clear hS7 hmv7 y0 y1 y2 y4
          refine wpOrd_loud rfl rfl (by decide) (fun K hK=>?_)
          have HK9:=Lib.hid hK
          clear hK
          refine wp_append_lies _ _ 283 rfl 272 i2 (.agg #[.int .u64 0,.int .u64 0,.int .u64 0]) 3 24 Tryz.underlying283 hi hz0 hz1 hz2 rfl (by decide) _ _ _ rfl hrow7 ⟨W6.heap.size,0,none⟩ 1 1 [.int .u64 t.a,.int .u64 t.b,.int .u64 t.c] rfl rfl hc7
           (by simp [Value.oneCell']) (by decide) (by unfold maxLen; omega) (by omega) ?_
          intro v8 W8 hrow8 hgrow8 hlies8
          have hrow8':W8.ownsRow 0 272 3 v8 (sets'.length+1) (setCells (sets'++[t])):=by
           have e:setCells (sets'++[t])=setCells sets'++[.int .u64 t.a,.int .u64 t.b,.int .u64 t.c]:=by simp [setCells,PSet.cells]
           rw [e]
           exact hrow8
          obtain ⟨g8,cap8,hv8⟩:=ownsRow_head hrow8'
          have hmv8:=HC7.out.2.trans (Moves.append hgrow8 hlies8)
          have hso:∀ b,(Value.slice (some ⟨sg,0,none⟩) sets'.length sc).ownBlock=some b→L' b=3:=fun b e=>H4.out.1.mem.lS b (by rw [H1.out.2.2.2.2.2.2.2]; exact e)
          have hnt:(Value.slice (some ⟨sg,0,none⟩) sets'.length sc).ownBlock≠some tb:=fun e=>by
           have:=hso tb e
           rw [H4.out.1.mem.lT] at this
           cases this
          have hnr:(Value.slice (some ⟨sg,0,none⟩) sets'.length sc).ownBlock≠some rb:=fun e=>by
           have:=hso rb e
           rw [H4.out.1.lab] at this
           cases this
          have hnx:(Value.slice (some ⟨sg,0,none⟩) sets'.length sc).ownBlock≠some w4.heap.size:=fun e=>by
           have h1:=hso _ e
           have h2:=H1.out.2.1.mem.lt (b:=w4.heap.size) (by rw [h1]; decide)
           have h3:=H4.out.2.2.2.2
           omega
          have hbt8:=(hmv8.block htl6 hnt).trans H7.out.2.1
          have hbr8:=(hmv8.block hrl6 hnr).trans H7.out.2.2.2.1
          have hbx8:=(hmv8.block hxl6 hnx).trans H7.out.2.2.1
          have hS8:(W8.cell? ⟨w4.heap.size,0,none⟩=some (.int .u64 t.a)∧W8.cell? ⟨w4.heap.size,1,none⟩=some (.int .u64 t.b)∧W8.cell? ⟨w4.heap.size,2,none⟩=some (.int .u64 t.c))∧W8.cell? ⟨tb,1,none⟩=some (.slice (some ⟨sg,0,none⟩) sets'.length sc):=by
           have q3:W8.cell? ⟨tb,1,none⟩=some sv':=cell_block hbt8
           rw [H1.out.2.2.2.2.2.2.2] at q3
           exact ⟨⟨cell_block hbx8,cell_block hbx8,cell_block hbx8⟩,q3⟩
          have hadd:=H4.out.1.mem.addSet H7.out.1 H6.out.1 H6.out.2.2.2 (sv2:=v8) (W:=W8) (by rw [H1.out.2.2.2.2.2.2.2]; exact hmv8) H4.out.2.1.size hrow8'
          obtain ⟨L8,hL8,htm8⟩:=hadd
          have hrow9:(W8.setCell ⟨tb,1,none⟩ v8).heap[rb]?=some (.cells (intsV (cur.set k (-1))).toArray 3 (0,0)):=(Below.heap_setCell W8 ⟨tb,1,none⟩ _ rb (fun e=>by
           have:=H4.out.1.lab
           rw [show rb=tb from e,H4.out.1.mem.lT] at this
           cases this)).trans hbr8
          have hlt5:=lt_of_heap H4.out.1.row
          have hbel9:Below w.heap.size w (W8.setCell ⟨tb,1,none⟩ v8):=(hmv8.below (fun b e=>(H4.out.1.mem.past b (by rw [hso b e]; decide)).1) H7.out.2.2.2.2.2 H7.out.2.2.2.2.2.size).setCell (p:=⟨tb,1,none⟩) hsw _
          have htab9:TabOk M ks (sets'++[t]) rows:=H4.out.1.ok.push H6.out.2.2.1 (by
           rw [H1.out.2.2.2.2.1] at htz ⊢
           exact .step s c H1.out.2.2.2.1 hc256 htz)
          have hft8:W8.frozen? ⟨tb,1,none⟩=false:=free_block hbt8
          have H9:=Lib.hid (show _∧_∧_∧_∧_ from ⟨hL8 rb hlt5,htm8,hrow9,hbel9,htab9⟩)
          subst hv8
          clear hrow8 hrow8' hgrow8 hlies8 hmv8 hso hnt hnr hnx hbt8 hbr8 hbx8 hL8 htm8 hrow9 hbel9 htab9 hlt5 hrow7 hc7 HC7 hi hz0 hz1 hz2
          refine HK9.out _ _ hS8 ?_
          clear HK9 K
          simp only [put_lit,List.set_cons_succ,List.set_cons_zero]
          iterate 2 (
           refine wpOrd_quiet ?_ rfl rfl (fun w' hS=>?_) ?_
           rotate_left
           ·obtain ⟨⟨q0,q1,q2⟩,q3⟩:=hS
            go_simp
            first | rfl | done
           simp only [put_lit,List.set_cons_succ,List.set_cons_zero])
          obtain ⟨⟨q0,q1,q2⟩,q3⟩:=hS8
          refine wpOrd_last rfl rfl (fun K hK=>?_)
          have HK10:=Lib.hid hK
          clear hK
          go_simp
          refine HK10.out _ _ ?_
          clear HK10 K q0 q1 q2 q3 hft8
          obtain ⟨W9,hW9⟩:∃ W9,W9=W8.setCell ⟨tb,1,none⟩ (.slice (some ⟨g8,0,none⟩) (sets'.length+1) cap8):=⟨_,rfl⟩
          rw [← hW9] at H9 ⊢
          clear hW9
          have hkc':k < cur.length:=by omega
          have z9:W9.cell? ⟨rb,k,none⟩=some (.int .i64 (-1)):=by
           rw [cell_block H9.out.2.2.1]
           simp [intsV,hkc']
          have zf9:W9.frozen? ⟨rb,k,none⟩=false:=free_block H9.out.2.2.1
          have t9:W9.cell? ⟨tb,1,none⟩=some (.slice (some ⟨g8,0,none⟩) (sets'.length+1) cap8):=cell_block H9.out.2.1.head
          have hmz:(most:Int)≤400:=by omega
          have hlz5:(sets'.length:Int)≤400:=by omega
          have hnl:((sets'.length+1:Nat):Int)=(sets'.length:Int)+1:=by omega
          have HNL:=Lib.hid hnl
          clear hnl
          by_cases hmo:most < sets'.length+1
          ·go_wp2_with fail
           go_ret
           refine ⟨H9.out.2.2.2.1,.inl ⟨rfl,sets'++[t],H9.out.2.2.2.2.nodup,H9.out.2.2.2.2.reach,by simp; omega⟩⟩
          ·have hmo':sets'.length+1≤most:=by omega
           have hin9:InRow w.heap.size most M ks tb g rb ov kv rbs rows s k (sets'++[t]) L8 (.slice (some ⟨g8,0,none⟩) (sets'.length+1) cap8) (cur.set k (-1)) W9 :=
            ⟨H9.out.2.2.2.2,by simpa using hmo',at_prefix (List.prefix_append _ _) H4.out.1.own,H9.out.2.1,by rw [H9.out.1]; exact H4.out.1.lab,H9.out.2.2.1,by rw [List.length_set]; omega,fun j c' hj hc'=>by
             obtain ⟨z,h1,h2⟩:=H4.out.1.done j c' hj hc'
             exact ⟨z,h1,h2.mono (List.prefix_append _ _)⟩⟩
           have hin10:=hin9.put (sets'.length:Int)
           have hb10:Below w.heap.size w (W9.setCell ⟨rb,k,none⟩ (.int .i64 (sets'.length:Nat))):=H9.out.2.2.2.1.setCell (p:=⟨rb,k,none⟩) hrb2 _
           have H10:=Lib.hid (And.intro hin10 hb10)
           clear hin9 hin10 hb10
           go_wp2_with fail
           refine ⟨⟨k+1,sets'++[t],L8,_,_,by omega,by go_num,H10.out.1.next H1.out.2.2.2.2.2.2.1 (by rw [List.getElem?_set_self (by rw [List.length_set]; omega)]) (.inr ⟨?_,sets'.length,rfl,?_⟩),H10.out.2⟩,by simp [intOf]; omega⟩
           ·rw [← H1.out.2.2.2.2.1]; exact htz
           ·rw [← H1.out.2.2.2.2.1,List.getElem?_concat_length]
       ·obtain rfl:k=ks.length:=by omega
        clear hkl hk
        obtain ⟨i3,hi,hz0,hz1,hz2⟩:=info_parts Tryz.info27'
        obtain ⟨oa,oc,hov⟩:=ownsRow_form HI.out.1.mem.orow
        have htl:=lt_of_heap HI.out.1.mem.head
        have o2:wr.cell? ⟨tb,2,none⟩=some ov:=cell_block HI.out.1.mem.head
        rw [hov] at o2
        have o2':(wr.alloc (.cells #[.slice (some ⟨rb,0,none⟩) ks.length ks.length] 27)).cell? ⟨tb,2,none⟩=some (.slice oa rows.length oc):=(World.cell?_alloc_lt _ _ _ htl).trans o2
        have hor:=HI.out.1.mem.orow
        rw [hov] at hor
        have hrow4:(wr.alloc (.cells #[.slice (some ⟨rb,0,none⟩) ks.length ks.length] 27)).ownsRow 0 27 1 (.slice oa rows.length oc) rows.length ((rbs.zip rows).map fun q=>sliceV q.1 q.2.length):=hor.alloc _
        have hnew:∀ j u,[Value.slice (some ⟨rb,0,none⟩) ks.length ks.length][j]?=some u→(wr.alloc (.cells #[.slice (some ⟨rb,0,none⟩) ks.length ks.length] 27)).cell? ((⟨wr.heap.size,0,none⟩:Addr).add j)=some u:=by
         intro j u hj
         match j,hj with
         | 0,hj=>simp at hj; subst hj; simp [Addr.add]
         | j+1,hj=>simp at hj
        have hbt:(wr.alloc (.cells #[.slice (some ⟨rb,0,none⟩) ks.length ks.length] 27)).heap[tb]?=some (.cells #[.map (some g),sv',ov,kv] 285 (0,0)):=(Below.heap_alloc wr _ _ htl).trans HI.out.1.mem.head
        have hno:(Value.slice oa rows.length oc).ownBlock≠some tb:=fun e=>by
         have:=HI.out.1.mem.lO tb (by rw [hov]; exact e)
         rw [HI.out.1.mem.lT] at this
         cases this
        have HBT:=Lib.hid (show _∧_∧_ from ⟨hbt,hno,hov⟩)
        clear hbt hno hor hov
        go_wp2_with (at_builtin; refine wpList_append_slice rfl _ _ 86 rfl 27 i3 (.slice none 0 0) 1 24 Tryz.underlying86 hi hz0 hz1 hz2 rfl (by decide) (.slice oa rows.length oc) rows.length ((rbs.zip rows).map fun q=>sliceV q.1 q.2.length) rfl hrow4 ⟨wr.heap.size,0,none⟩ 1 1 [.slice (some ⟨rb,0,none⟩) ks.length ks.length] rfl rfl hnew (by simp [Value.oneCell']) (by decide) (by unfold maxLen; omega) (by omega) ?_; intro g4 cap4 W4 hrow5 hgrow5 hlies5; simp only [put_lit,List.set_cons_succ,List.set_cons_zero]; have hb5:=(hgrow5.block tb (lt_of_heap HBT.out.1) (fun e=>HBT.out.2.1 e.symm)).trans HBT.out.1; have t5:W4.cell? ⟨tb,2,none⟩=some ov:=cell_block hb5; have f5:W4.frozen? ⟨tb,2,none⟩=false:=free_block hb5; have HR5:=Lib.hid hrow5; have HM5:=Lib.hid ((Moves.alloc wr (.slice oa rows.length oc) _).trans (Moves.append hgrow5 hlies5)); clear hrow5 hgrow5 hlies5 hb5)
        have hmv:Moves wr ov W4 (.slice (some ⟨g4,0,none⟩) (rows.length+1) cap4):=by rw [HBT.out.2.2]; exact HM5.out
        have hrow6:W4.ownsRow 0 27 1 (.slice (some ⟨g4,0,none⟩) (rows.length+1) cap4) (rows.length+1) ((rbs.zip rows).map (fun q=>sliceV q.1 q.2.length)++[sliceV rb cur.length]):=by
         have:=HR5.out
         rw [HI.out.1.len]
         exact this
        obtain ⟨L6,htm6⟩:=HI.out.1.mem.addRow (by rw [HI.out.1.lab]; decide) HI.out.1.row hmv HI.out.2.size hrow6
        have hbel6:Below w.heap.size w (W4.setCell ⟨tb,2,none⟩ (.slice (some ⟨g4,0,none⟩) (rows.length+1) cap4)):=(hmv.below (fun b e=>(HI.out.1.mem.past b (by rw [HI.out.1.mem.lO b e]; decide)).1) HI.out.2 HI.out.2.size).setCell (p:=⟨tb,2,none⟩) hsw _
        have hok6:TabOk M ks sets' (rows++[cur]):=HI.out.1.ok.row_done HI.out.1.own ⟨HI.out.1.len,fun j c hc=>HI.out.1.done j c (List.getElem?_eq_some_iff.1 hc).1 hc⟩
        have hle6:=hok6.le
        refine ⟨⟨sets',rows++[cur],rbs++[rb],L6,_,_,?_,hle6,HI.out.1.few,Lib.hid hok6,Lib.hid htm6,Lib.hid hbel6⟩,?_⟩
        ·rw [List.length_append]; go_num
        ·have:=HI.out.1.few
         rw [List.length_append] at hle6
         simp at hle6
         simp [intOf]; omega
     ·have hall:rows.length=sets.length:=by omega
      go_wp2_with fail
      go_ret
      exact ⟨HBE.out,.inr ⟨tb,L2,g,sv2,ov,kv,rbs,sets,rows,rfl,by rw [← HKS.out]; exact HOK.out,hall,hmost,by rw [← HKS.out]; exact HTM.out⟩⟩
end Go.Proofs.Ts
namespace Go.Proofs.Ts
open Go Go.RowKit
structure FromAt (w0:World) (n:Nat) (L:Nat→Nat) (fvs:List Value) (fr:List (List Nat)) (w:World):Prop where
 lb:w.heap[w0.heap.size]?=some (.cells ((List.replicate n false).map Value.bool).toArray 4 (0,0))
 c5:w.heap[w0.heap.size+1]?=some (.cells #[.slice (some ⟨w0.heap.size,0,none⟩) n n] 288 (0,0))
 fb:w.heap[w0.heap.size+2]?=some (.cells fvs.toArray 27 (0,0))
 c6:w.heap[w0.heap.size+3]?=some (.cells #[.slice (some ⟨w0.heap.size+2,0,none⟩) n n] 86 (0,0))
 flen:fvs.length=n
 rlen:fr.length=n
 rows:∀ (j:Nat) v l,fvs[j]?=some v→fr[j]?=some l→w.ownsRow 0 3 1 v l.length (l.map intV)
 lab:∀ (j:Nat) v b,fvs[j]?=some v→v.ownBlock=some b→L b=j+1
 past:∀ b,L b≠0→w0.heap.size+4≤b∧b < w.heap.size
 below:Below w0.heap.size w0 w
theorem FromAt.under {w0:World} {n:Nat} {L:Nat→Nat} {fvs:List Value} {fr:List (List Nat)} {w w':World} (h:FromAt w0 n L fvs fr w) (hb:Below w.heap.size w w'):FromAt w0 n L fvs fr w' :=
 ⟨(hb.block _ (lt_of_heap h.lb)).trans h.lb,(hb.block _ (lt_of_heap h.c5)).trans h.c5,(hb.block _ (lt_of_heap h.fb)).trans h.fb,(hb.block _ (lt_of_heap h.c6)).trans h.c6,h.flen,h.rlen,
  fun j v l hv hl=>ownsRow_block (h.rows j v l hv hl) fun b e=>hb.block b ((h.rows j v l hv hl).lt b e).2,h.lab,fun b hb'=>⟨(h.past b hb').1,Nat.lt_of_lt_of_le (h.past b hb').2 hb.size⟩,h.below.trans (hb.mono h.below.size)⟩
theorem FromAt.add {w0:World} {n y i:Nat} {L:Nat→Nat} {fvs:List Value} {fr:List (List Nat)} {w W:World} {v v2:Value} {l:List Nat} (h:FromAt w0 n L fvs fr w) (hv:fvs[y]?=some v) (hl:fr[y]?=some l) (hm:Moves w v W v2)
  (hrow:W.ownsRow 0 3 1 v2 (l.length+1) ((l++[i]).map intV)):∃ L',FromAt w0 n L' (fvs.set y v2) (fr.set y (l++[i])) (W.setCell ⟨w0.heap.size+2,y,none⟩ v2):=by
 have hB:w0.heap.size+4≤w.heap.size:=by have:=lt_of_heap h.c6; omega
 obtain ⟨L',h1,h2,h3⟩:=label_moves hm (fun b e=>h.lab y v b hv e) h.past hB (fun b hb=>(hrow.lt b hb).2)
 have hvp:∀ b,v.ownBlock=some b→w0.heap.size+4≤b:=fun b e=>(h.past b (by rw [h.lab y v b hv e]; omega)).1
 have old:∀ b,b < w0.heap.size+4→b≠w0.heap.size+2→(W.setCell ⟨w0.heap.size+2,y,none⟩ v2).heap[b]?=w.heap[b]?:=fun b hb hn =>
  (Below.heap_setCell W ⟨w0.heap.size+2,y,none⟩ _ b hn).trans (hm.block (by omega) fun e=>by have:=hvp b e; omega)
 have hyl:=(List.getElem?_eq_some_iff.1 hv).1
 refine ⟨L',(old _ (by omega) (by omega)).trans h.lb,(old _ (by omega) (by omega)).trans h.c5,?_,(old _ (by omega) (by omega)).trans h.c6,by rw [List.length_set]; exact h.flen,by rw [List.length_set]; exact h.rlen,fun j u m hu hm'=>?_,fun j u b hu hb=>?_,fun b hb=>?_,?_⟩
 ·have hf:=(hm.block (lt_of_heap h.fb) fun e=>by have:=hvp _ e; omega).trans h.fb
  rw [heap_setCell_same W (w0.heap.size+2) y _ _ v2 hf]
  simp
 ·by_cases e:j=y
  ·subst e
   rw [List.getElem?_set_self hyl] at hu
   rw [List.getElem?_set_self (by rw [h.rlen,← h.flen]; exact hyl)] at hm'
   cases hu
   cases hm'
   have:=ownsRow_block (w':=W.setCell ⟨w0.heap.size+2,j,none⟩ v2) hrow fun b e=>Below.heap_setCell W ⟨w0.heap.size+2,j,none⟩ _ b fun e'=>by
    have h4:=h3 b (by rw [h2 b e]; omega)
    rw [show b=w0.heap.size+2 from e'] at h4
    omega
   simpa using this
  ·rw [List.getElem?_set_ne (Ne.symm e)] at hu hm'
   have hr:=h.rows j u m hu hm'
   refine ownsRow_block hr fun b eb=>?_
   have hlb:=h.lab j u b hu eb
   have hp:=h.past b (by rw [hlb]; omega)
   refine (Below.heap_setCell W ⟨w0.heap.size+2,y,none⟩ _ b (by show b≠w0.heap.size+2; omega)).trans (hm.block hp.2 fun e2=>?_)
   have:=h.lab y v b hv e2
   omega
 ·by_cases e:j=y
  ·subst e
   rw [List.getElem?_set_self hyl] at hu
   cases hu
   exact h2 b hb
  ·rw [List.getElem?_set_ne (Ne.symm e)] at hu
   have hlb:=h.lab j u b hu hb
   rw [h1 b (h.past b (by rw [hlb]; omega)).2]
   exact hlb
 ·have:=h3 b hb
  rw [World.size_setCell]; exact this
 ·exact (hm.below (fun b e=>by have:=hvp b e; omega) h.below h.below.size).setCell (p:=⟨w0.heap.size+2,y,none⟩) (by show w0.heap.size≤w0.heap.size+2; omega) _
theorem BackAt.under {c5 c6 c11 lb fb:Nat} {fvs:List Value} {fr:List (List Nat)} {lv:List Bool} {w w':World} (h:BackAt c5 c6 c11 lb fb fvs fr lv w) (hb:Below w.heap.size w w'):BackAt c5 c6 c11 lb fb fvs fr lv w' :=
 h.kept ⟨hb.os,hb.tape,hb.output,hb.size,fun j hj _=>hb.block j hj⟩ rfl ((hb.block _ (lt_of_heap h.live)).trans h.live)
end Go.Proofs.Ts
namespace Go.Proofs.Ts
open Go Go.RowKit
structure LFix (w:World) (mb tb c5 sg sc og oc kg kc lb n m:Nat) (M:PM) (sets:List PSet) (rows:List (List Int)) (lv:List Bool):Prop where
 mach:MachIs w mb M
 t1:w.cell? ⟨tb,1,none⟩=some (.slice (some ⟨sg,0,none⟩) n sc)
 t2:w.cell? ⟨tb,2,none⟩=some (.slice (some ⟨og,0,none⟩) n oc)
 t3:w.cell? ⟨tb,3,none⟩=some (.slice (some ⟨kg,0,none⟩) m kc)
 cl:w.cell? ⟨c5,0,none⟩=some (.slice (some ⟨lb,0,none⟩) n n)
 lvc:∀ j,j < n→w.cell? ⟨lb,j,none⟩=some (.bool (lv.getD j false))
 set':∀ (j:Nat) s,sets[j]?=some s → ∀ q,q < 3→w.cell? ⟨sg,j * 3+q,none⟩=some (.int .u64 (s.word q))
 row:∀ (i:Nat) r,rows[i]?=some r → ∃ rb,w.cell? ⟨og,i,none⟩=some (.slice (some ⟨rb,0,none⟩) m m) ∧ ∀ (k:Nat) z,r[k]?=some z→w.cell? ⟨rb,k,none⟩=some (.int .i64 z)
theorem LFix.below {w w':World} {mb tb c5 sg sc og oc kg kc lb n m:Nat} {M:PM} {sets:List PSet} {rows:List (List Int)} {lv:List Bool} (h:LFix w mb tb c5 sg sc og oc kg kc lb n m M sets rows lv) (hb:Below w.heap.size w w'):LFix w' mb tb c5 sg sc og oc kg kc lb n m M sets rows lv:=by
 have c:∀ (b i:Nat) v,w.cell? ⟨b,i,none⟩=some v→w'.cell? ⟨b,i,none⟩=some v:=fun b i v hp=>(hb.cell (p:=⟨b,i,none⟩) (lt_of_cell hp)).trans hp
 exact ⟨h.mach.below hb,c _ _ _ h.t1,c _ _ _ h.t2,c _ _ _ h.t3,c _ _ _ h.cl,fun j hj=>c _ _ _ (h.lvc j hj),fun j s hs q hq=>c _ _ _ (h.set' j s hs q hq),fun i r hr=>by
  obtain ⟨rb,h1,h2⟩:=h.row i r hr
  exact ⟨rb,c _ _ _ h1,fun k z hz=>c _ _ _ (h2 k z hz)⟩⟩
theorem LFix.of {w0 w:World} {mb tb ib B cb n m:Nat} {M:PM} {L:Nat→Nat} {sv ov kv:Value} {rbs:List Nat} {sets:List PSet} {rows:List (List Int)} {fvs:List Value} {fr:List (List Nat)} {lv:List Bool} {sg sc og oc kg kc:Nat}
  (hM:MachIs w0 mb M) (hok:TabOk M M.kinds sets rows) (hT:TabMem B L tb ib sv ov kv rbs sets rows M.kinds w0) (hn:n=sets.length) (hm:m=M.kinds.length) (hall:rows.length=n) (hsv:sv = .slice (some ⟨sg,0,none⟩) sets.length sc) (hov:ov = .slice (some ⟨og,0,none⟩) rows.length oc) (hkv:kv = .slice (some ⟨kg,0,none⟩) M.kinds.length kc)
  (hlv:lv.length=n) (hB:BackAt (w0.heap.size+1) (w0.heap.size+3) cb w0.heap.size (w0.heap.size+2) fvs fr lv w) (hb:Below w0.heap.size w0 w):LFix w mb tb (w0.heap.size+1) sg sc og oc kg kc w0.heap.size n m M sets rows lv:=by
 have c:∀ (b i:Nat) v,w0.cell? ⟨b,i,none⟩=some v→w.cell? ⟨b,i,none⟩=some v:=fun b i v hp=>(hb.cell (p:=⟨b,i,none⟩) (lt_of_cell hp)).trans hp
 have t1:w0.cell? ⟨tb,1,none⟩=some sv:=cell_block hT.head
 have t2:w0.cell? ⟨tb,2,none⟩=some ov:=cell_block hT.head
 have t3:w0.cell? ⟨tb,3,none⟩=some kv:=cell_block hT.head
 rw [hsv,← hn] at t1
 rw [hov,hall] at t2
 rw [hkv,← hm] at t3
 refine ⟨hM.below hb,c _ _ _ t1,c _ _ _ t2,c _ _ _ t3,?_,fun j hj=>?_,fun j s hs q hq=>?_,fun i r hr=>?_⟩
 ·have:=cell_block (i:=0) hB.cl
  rw [hlv] at this
  exact this
 ·rw [cell_block hB.live]
  have hj':j < lv.length:=by omega
  simp [List.getElem?_eq_getElem hj',List.getD_eq_getElem?_getD]
 ·have hsr:=hT.srow
  rw [hsv] at hsr
  exact c _ _ _ (ownsRow_cell0 hsr (setCells_at _ _ _ hs q hq))
 ·have hil:=(List.getElem?_eq_some_iff.1 hr).1
  obtain ⟨rb,hrb⟩:∃ rb,rbs[i]?=some rb:=⟨_,List.getElem?_eq_getElem (by rw [hT.rlen]; exact hil)⟩
  obtain ⟨s,hs⟩:∃ s,sets[i]?=some s:=⟨_,List.getElem?_eq_getElem (by omega)⟩
  have hrl:=(hok.row i r s hr hs).len
  refine ⟨rb,c _ _ _ ?_,fun k z hz=>c _ _ _ ?_⟩
  ·have h1:=hT.orow
   rw [hov] at h1
   have h2:=ownsRow_cell0 h1 (j:=i) (u:=sliceV rb r.length) (by
    rw [List.getElem?_map,(List.getElem?_zip_eq_some (z:=(rb,r))).2 ⟨hrb,hr⟩]
    rfl)
   rw [hrl,← hm] at h2
   exact h2
  ·have kb:=hT.rblk i rb r hrb hr
   rw [cell_block kb]
   simp [intsV,hz]
def IntRow (w:World) (b:Nat) (l:List Nat):Prop:=w.heap[b]?=some (.cells (l.map intV).toArray 3 (0,0))
section
variable {w w':World} {b:Nat} {l:List Nat}
theorem IntRow.lt (h:IntRow w b l):b < w.heap.size:=lt_of_heap h
theorem IntRow.cell (h:IntRow w b l) {i:Nat} (hi:i < l.length):w.cell? ⟨b,i,none⟩=some (.int .i64 (blk l i:Nat)):=by
 rw [cell_block h]
 unfold blk
 simp [List.getElem?_eq_getElem hi,List.getD_eq_getElem?_getD,intV]
theorem IntRow.free (h:IntRow w b l) (i:Nat):w.frozen? ⟨b,i,none⟩=false:=free_block h
theorem IntRow.set (h:IntRow w b l) (i v:Nat):IntRow (w.setCell ⟨b,i,none⟩ (.int .i64 v)) b (l.set i v):=by
 unfold IntRow
 rw [heap_setCell_same w b i _ _ _ h]
 simp [intV,List.map_set]
theorem IntRow.old (h:IntRow w b l) (hb:w'.heap[b]?=w.heap[b]?):IntRow w' b l:=hb.trans h
end
def Kept (P:World→Prop) (F:Nat) (w:World):Prop:=∃ wF:World,F=wF.heap.size∧P wF∧Below F wF w
def Stable (P:World→Prop):Prop:=∀ w w',P w→Below w.heap.size w w'→P w'
section
variable {P:World→Prop} {F:Nat} {w w':World}
theorem Kept.now (h:Kept P F w) (hs:Stable P):P w:=by
 obtain ⟨wF,rfl,hp,hb⟩:=h
 exact hs _ _ hp hb
theorem Kept.on (h:Kept P F w) (hb:Below F w w'):Kept P F w':=by
 obtain ⟨wF,rfl,hp,hb0⟩:=h
 exact ⟨wF,rfl,hp,hb0.trans hb⟩
theorem Kept.size (h:Kept P F w):F≤w.heap.size:=by
 obtain ⟨wF,rfl,hp,hb0⟩:=h
 exact hb0.size
theorem Kept.start (h:P w):Kept P w.heap.size w:=⟨w,rfl,h,Below.refl _ _⟩
end
theorem made_zeroL (n:Nat):madeCells #[.int .i64 0] n=((List.replicate n 0).map intV).toArray:=by
 apply Array.toList_inj.1
 rw [toList_madeCells_one]
 simp [intV]
theorem MapIs.lenRun {α:Type} [DecidableEq α] {P:Program} {enc:α→Value} {w:World} {b:Nat} {m:List (α × Value)} (h:MapIs enc w b m) {T K E I:TypeId} (hT:P.underlying T=some (.map K E)) :
  (Builtin.len_ #[T] I #[.map (some b)]).run P w = .ok (.int .i64 m.length) w:=by
 obtain ⟨es,c,hb,hp,h1,h2⟩:=h
 have hl:es.size=m.length:=MapIs.len hb ⟨es,c,hb,hp,h1,h2⟩
 unfold Builtin.len_
 simp only [Sem.run_bind,List.getElem?_toArray,List.getElem?_cons_zero,run_underlying hT,Result.andThen_ok]
 rw [getObj_run hb,← hl]
 rfl
section
variable {w:World} {g k1 k2:Nat} {ids:List ((Nat × Nat) × Nat)}
theorem sign_some (h:MapIs signV w g (vals intV ids)) {y:Nat} (hy:get ids (k1,k2)=some y) :
  (Instr.lookup 292 (.map (some g)) (.agg #[.int .i64 k1,.int .i64 k2]) true).run Tryz.prog w = .ok (.tuple #[.int .i64 y,.bool true]) w:=by
 have hlk:=MapIs.lookup sign_law h (k1,k2) trivial (fun _ _=>trivial) Tryz.underlying292 (z := .int .i64 0) (by kernel_rfl) true
 rw [get_vals,hy] at hlk
 exact hlk
theorem sign_none (h:MapIs signV w g (vals intV ids)) (hy:get ids (k1,k2)=none) :
  (Instr.lookup 292 (.map (some g)) (.agg #[.int .i64 k1,.int .i64 k2]) true).run Tryz.prog w = .ok (.tuple #[.int .i64 0,.bool false]) w:=by
 have hlk:=MapIs.lookup sign_law h (k1,k2) trivial (fun _ _=>trivial) Tryz.underlying292 (z := .int .i64 0) (by kernel_rfl) true
 rw [get_vals,hy] at hlk
 exact hlk
theorem sign_len (h:MapIs signV w g (vals intV ids)):(Builtin.len_ #[292] 3 #[.map (some g)]).run Tryz.prog w = .ok (.int .i64 ids.length) w:=by
 have hln:=MapIs.lenRun (P:=Tryz.prog) (I:=3) h Tryz.underlying292
 rw [show (vals intV ids).length=ids.length from by unfold vals; simp] at hln
 exact hln
theorem sign_put (h:MapIs signV w g (vals intV ids)) (k1 k2 v:Nat):∃ W5:World,(Instr.mapUpdate 292 (.map (some g)) (.agg #[.int .i64 k1,.int .i64 k2]) (.int .i64 v)).run Tryz.prog w = .ok () W5∧MapIs signV W5 g (vals intV (put ids (k1,k2) v))∧w.grownBy W5 (some g):=by
 obtain ⟨W5,hrun5,hmap5,hg5,hz5⟩:=MapIs.update sign_law h (k1,k2) trivial (fun _ _=>trivial) Tryz.underlying292 (intV v)
 rw [put_vals] at hmap5
 exact ⟨W5,hrun5,hmap5,hg5⟩
end
theorem opt_cases {α:Type} {G:Prop} (o:Option α) (h0:o=none→G) (h1:∀ y,o=some y→G):G:=by
 cases o with
 | none=>exact h0 rfl
 | some y=>exact h1 y rfl
section
variable {w:World} {g x:Nat} {seen:List (Nat × Nat)}
def numV (n:Nat):Value := .int .i64 n
theorem num_look (h:MapIs numV w g (vals intV seen)):(Instr.lookup 129 (.map (some g)) (.int .i64 x) false).run Tryz.prog w = .ok (.int .i64 ((get seen x).getD 0:Nat)) w:=by
 have hlk:=MapIs.lookup int_law h x trivial (fun _ _=>trivial) Tryz.underlying129 (z := .int .i64 0) (by kernel_rfl) false
 rw [get_vals] at hlk
 cases hy:get seen x with
 | none=>rw [hy] at hlk; exact hlk
 | some v=>rw [hy] at hlk; exact hlk
theorem num_len (h:MapIs numV w g (vals intV seen)):(Builtin.len_ #[129] 3 #[.map (some g)]).run Tryz.prog w = .ok (.int .i64 seen.length) w:=by
 have hln:=MapIs.lenRun (P:=Tryz.prog) (I:=3) h Tryz.underlying129
 rw [show (vals intV seen).length=seen.length from by unfold vals; simp] at hln
 exact hln
theorem num_put (h:MapIs numV w g (vals intV seen)) (x v:Nat):∃ W5:World,(Instr.mapUpdate 129 (.map (some g)) (.int .i64 x) (.int .i64 v)).run Tryz.prog w = .ok () W5∧MapIs numV W5 g (vals intV (put seen x v))∧w.grownBy W5 (some g):=by
 obtain ⟨W5,hrun5,hmap5,hg5,hz5⟩:=MapIs.update int_law h x trivial (fun _ _=>trivial) Tryz.underlying129 (intV v)
 rw [put_vals] at hmap5
 exact ⟨W5,hrun5,hmap5,hg5⟩
theorem SeenTo.val {c:List Nat} {i:Nat} (h:SeenTo c i seen) (x:Nat):(get seen x).getD 0≤i:=by
 cases hy:get seen x with
 | none=>exact Nat.zero_le _
 | some v=>exact h.few _ (get_some_mem hy)
end
end Go.Proofs.Ts
