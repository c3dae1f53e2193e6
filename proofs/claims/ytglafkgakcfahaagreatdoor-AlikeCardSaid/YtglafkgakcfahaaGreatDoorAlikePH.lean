/- Lemmas towards the statement Alike of termsearch: walks of the program's functions and plain laws on lists (TsSetS, TsOrdT, TsLink, TsAst, TsParsP, TsOrdV). Conditions: those that each theorem names. -/
import Derived.Test.YtglafkgakcfahaaGreatDoorAlikePG
set_option linter.unusedVariables false
set_option linter.unusedSimpArgs false
set_option linter.unusedSectionVars false
namespace Go.Proofs.Ts
open Go Go.RowKit
attribute [local go_sem] Oper.semAt_some
def PM.next (M:PM) (l:List Nat):PSet:=l.foldl (fun t k=>t.or (M.follow.getD k PSet.zero)) PSet.zero
def PM.step (M:PM) (s:PSet) (c:Nat):PSet:=(M.next s.elems).and (M.at'.getD c PSet.zero)
theorem PM.next_snoc (M:PM) (l:List Nat) (k:Nat):M.next (l++[k])=(M.next l).or (M.follow.getD k PSet.zero):=by unfold PM.next; rw [List.foldl_append]; rfl
theorem PM.ok_follow {M:PM} (h:M.ok) (k:Nat):(M.follow.getD k PSet.zero).ok:=by
 rw [List.getD_eq_getElem?_getD]
 cases e:M.follow[k]? with
 | none=>exact PSet.ok_zero
 | some s=>exact h.of' s (List.mem_of_getElem? e)
theorem PM.ok_at {M:PM} (h:M.ok) (c:Nat):(M.at'.getD c PSet.zero).ok:=by
 rw [List.getD_eq_getElem?_getD]
 cases e:M.at'[c]? with
 | none=>exact PSet.ok_zero
 | some s=>exact h.oa s (List.mem_of_getElem? e)
theorem PM.ok_next {M:PM} (h:M.ok) (l:List Nat):(M.next l).ok:=by
 unfold PM.next
 have:∀ (l:List Nat) (t:PSet),t.ok→(l.foldl (fun t k=>t.or (M.follow.getD k PSet.zero)) t).ok:=fun l=>by
  induction l with
  | nil=>exact fun t ht=>ht
  | cons k l ih=>exact fun t ht=>ih _ (PSet.ok_or ht (M.ok_follow h k))
 exact this l _ PSet.ok_zero
theorem PM.ok_step {M:PM} (h:M.ok) (s:PSet) (c:Nat):(M.step s c).ok:=PSet.ok_and (M.ok_next h _) (M.ok_at h c)
theorem results_row_tmp {P:Program} {fn:Func} {p u:Tmp} {ty:TypeId} (h:fn.results=#[.cell p ty,.tmp u]) (tmps:Array Value) (w:World) (g:Nat) (t:TypeId) (cs:Array Value) (fr:Nat × Nat) (d:TypeDesc)
  (hp:tmps.getD p undef = .pointer (some ⟨g,0,none⟩)) (hg:w.heap[g]?=some (.cells cs t fr))
  (hu:P.underlying ty=some d) (hd:(match d with | .struct _ | .array _ _=>true | _=>false)=true) (hi:(P.info? ty).map (·.size)=some cs.size) :
  (results fn tmps).run P w = .ok (.tuple #[.agg cs,tmps.getD u undef]) w:=by
 have hp':tmps[p]?.getD undef = .pointer (some ⟨g,0,none⟩):=by simpa using hp
 simp [results,h,hp',asAddr,run_loadVar_row w g t ty cs fr d hg hu hd hi]
def PSet.fits (s:PSet):Prop:=∀ k∈s.elems,k < 129
set_option maxRecDepth 100000 in
set_option maxHeartbeats 2000000 in
theorem machStep_any (mb:Nat) (M:PM) (s:PSet) (c:UInt8) (w:World) (hs:s.ok) (hf:s.fits) (hM:MachIs w mb M) (hT:BitTab w) :
  Calls Tryz.prog 128 #[ptrV mb,s.val,.int .u8 c.toNat] w fun e w'=>e = .returned (.tuple #[(M.step s c.toNat).val,.bool (!decide (M.step s c.toNat=PSet.zero))])∧Below w.heap.size w w':=by
 have hmf:∀ (fn:Fn) (first cap:Array Value) (w:World),(Instr.makeFunc fn first cap).run Tryz.prog w = .ok (.func fn first cap) w:=fun _ _ _ _=>rfl
 have HS:=Lib.hid hs
 have HF:=Lib.hid hf
 have HM:=Lib.hid hM
 have HT:=Lib.hid hT
 clear hs hf hM hT
 refine (callsIn_wide (n:=5)).1 ?_
 refine callsIn_of_wp_marks Tryz.func128 rfl trivial ?_ rfl
 simp only [Tryz.ntmps128,List.size_toArray,List.length_cons,List.length_nil,Nat.reduceAdd,Nat.reduceSub,Array.replicate_succ,Array.replicate_zero,List.push_toArray,List.append_toArray,List.nil_append,List.cons_append]
 refine wpIn_wide.2 ?_
 unfold ptrV PSet.val PSet.cells
 go_wp2_with fail
 obtain ⟨W,hW⟩:∃ W,W=(((w.alloc (.cells #[.pointer (some ⟨mb,0,none⟩)] 115)).alloc (.cells #[.int .u64 s.a,.int .u64 s.b,.int .u64 s.c] 272)).alloc (.cells #[.int .u64 0,.int .u64 0,.int .u64 0] 272)).alloc (.cells #[.int .u64 0,.int .u64 0,.int .u64 0] 272):=⟨_,rfl⟩
 rw [← hW]
 have h0:W.heap[w.heap.size]?=some (.cells #[.pointer (some ⟨mb,0,none⟩)] 115 (0,0)):=by
  rw [hW,Below.heap_alloc _ _ _ (by simp; omega),Below.heap_alloc _ _ _ (by simp; omega),Below.heap_alloc _ _ _ (by simp)]
  exact heap_alloc_new w _
 have h2:W.heap[w.heap.size+1+1]?=some (.cells PSet.zero.cells.toArray 272 (0,0)):=by
  rw [hW,Below.heap_alloc _ _ _ (by simp)]
  have:=heap_alloc_new ((w.alloc (.cells #[.pointer (some ⟨mb,0,none⟩)] 115)).alloc (.cells #[.int .u64 s.a,.int .u64 s.b,.int .u64 s.c] 272)) (.cells #[.int .u64 0,.int .u64 0,.int .u64 0] 272)
  simp only [World.size_alloc] at this
  exact this
 have h3:W.heap[w.heap.size+1+1+1]?=some (.cells PSet.zero.cells.toArray 272 (0,0)):=by
  rw [hW]
  have:=heap_alloc_new (((w.alloc (.cells #[.pointer (some ⟨mb,0,none⟩)] 115)).alloc (.cells #[.int .u64 s.a,.int .u64 s.b,.int .u64 s.c] 272)).alloc (.cells #[.int .u64 0,.int .u64 0,.int .u64 0] 272)) (.cells #[.int .u64 0,.int .u64 0,.int .u64 0] 272)
  simp only [World.size_alloc] at this
  exact this
 have hb:Below w.heap.size w W:=by rw [hW]; exact ((((Below.refl _ w).alloc (Nat.le_refl _) _).alloc (by simp) _).alloc (by simp; omega) _).alloc (by simp; omega) _
 have hsz:W.heap.size=w.heap.size+4:=by rw [hW]; simp
 have hTW:=HT.out.below hb
 have H0:=Lib.hid (show _∧_∧_∧_ from ⟨h0,h2,h3,hb⟩)
 clear hW h0 h2 h3 hb
 obtain ⟨b0,hb0⟩:∃ b0,b0=w.heap.size:=⟨_,rfl⟩
 rw [← hb0] at H0 hsz ⊢
 have HB0:=Lib.hid hb0
 clear hb0
 refine wpIn_wide.1 (wpIn_rangeAll (F:=Fence.wide) (n:=5) rfl (by omega) (gf:=153) (fst:=#[s.val]) (lb:=#[]) rfl trivial (enters_of Tryz.func153 (by kernel_rfl) rfl) (b:=4) hTW.lt
  (setAll_gives 4 (by omega) s HS.out W hTW) (fun _=>rfl)
  (fun pre W'=>Below b0 w W'∧W'.heap[b0]?=some (.cells #[.pointer (some ⟨mb,0,none⟩)] 115 (0,0))∧W'.heap[b0+1+1]?=some (.cells PSet.zero.cells.toArray 272 (0,0))∧W'.heap[b0+1+1+1]?=some (.cells (M.next pre).cells.toArray 272 (0,0)))
  ?own ⟨H0.out.2.2.2,H0.out.1,H0.out.2.1,H0.out.2.2.1⟩
  (fun k=>{ tmps:=#[.pointer (some ⟨mb,0,none⟩),.agg #[.int .u64 s.a,.int .u64 s.b,.int .u64 s.c],.int .u8 c.toNat,.pointer (some ⟨b0,0,none⟩),.pointer (some ⟨b0+1,0,none⟩),undef,.pointer (some ⟨b0+1+1,0,none⟩),.bool false,.pointer (some ⟨b0+1+1+1,0,none⟩),.int .i64 k,
   .agg #[.int .u64 s.a,.int .u64 s.b,.int .u64 s.c],.func (.func 153) #[.agg #[.int .u64 s.a,.int .u64 s.b,.int .u64 s.c]] #[],.int .i64 k,undef,undef,undef,undef,undef,undef,undef,undef,undef,undef,undef,undef,undef,undef,undef,undef,undef,undef,undef,undef],defers:=[] })
  ?assign ?body ?done)
 case own =>
  exact (ownFrom_below (by rw [HB0.out]; exact Nat.le_refl _) (by omega)).and ((own_cells _ _ (fun _=>_) (fun _=>_) (fun _=>_)).and ((own_cells _ _ (fun _=>_) (fun _=>_) (fun _=>_)).and (own_cells _ _ (fun pre=>(M.next pre).cells.toArray) (fun _=>_) (fun _=>_))))
 case assign =>
  intro l x W' K' hK'
  unfold intV
  gi_wp2
  exact hK'
 case body =>
  rintro l pre k W1 ⟨hb,h0,h2,h3⟩ hpx
  have hkm:k∈s.elems:=hpx.subset (by simp)
  have hk:=HF.out k hkm
  have hM1:MachIs W1 mb M:=HM.out.below (HB0.out ▸ hb)
  obtain ⟨fk,hfk⟩:∃ fk,M.follow[k]?=some fk:=⟨_,List.getElem?_eq_getElem (by rw [hM1.1.lf]; exact hk)⟩
  have hfc:=hM1.followC hfk
  obtain ⟨T,hTd⟩:∃ T,T=M.next pre:=⟨_,rfl⟩
  have hTok:T.ok:=by rw [hTd]; exact M.ok_next hM1.1 pre
  have hfok:fk.ok:=hM1.1.of' fk (List.mem_of_getElem? hfk)
  have hnx:M.next (pre++[k])=T.or fk:=by rw [M.next_snoc,hTd,List.getD_eq_getElem?_getD,hfk]; rfl
  rw [← hTd] at h3
  have c0:W1.cell? ⟨b0+1+1+1,0,none⟩=some (.int .u64 T.a):=cell_block h3
  have c1:W1.cell? ⟨b0+1+1+1,1,none⟩=some (.int .u64 T.b):=cell_block h3
  have c2:W1.cell? ⟨b0+1+1+1,2,none⟩=some (.int .u64 T.c):=cell_block h3
  have f0:W1.frozen? ⟨b0+1+1+1,0,none⟩=false:=free_block h3
  have f1:W1.frozen? ⟨b0+1+1+1,1,none⟩=false:=free_block h3
  have f2:W1.frozen? ⟨b0+1+1+1,2,none⟩=false:=free_block h3
  have d0:W1.cell? ⟨b0,0,none⟩=some (.pointer (some ⟨mb,0,none⟩)):=cell_block h0
  have e0:W1.cell? ⟨mb,768+k * 3,none⟩=some (.int .u64 fk.a):=(hfc 0 (by decide)).1
  have e1:W1.cell? ⟨mb,768+k * 3+1,none⟩=some (.int .u64 fk.b):=(hfc 1 (by decide)).1
  have e2:W1.cell? ⟨mb,768+k * 3+2,none⟩=some (.int .u64 fk.c):=(hfc 2 (by decide)).1
  have hkz:(k:Int) < 129:=by omega
  have HI:=Lib.hid (show _∧_∧_∧_ from ⟨hb,h0,h2,h3⟩)
  have hor:=fun W'=>setOr_any T fk W' hTok hfok
  rw [hnx]
  have hall:Hid (∀ W',Below W1.heap.size W1 W'→(W'.cell? ⟨b0+1+1+1,0,none⟩=some (.int .u64 T.a)∧W'.cell? ⟨b0+1+1+1,1,none⟩=some (.int .u64 T.b)∧W'.cell? ⟨b0+1+1+1,2,none⟩=some (.int .u64 T.c)) ∧
    W'.cell? ⟨b0,0,none⟩=some (.pointer (some ⟨mb,0,none⟩))∧W'.cell? ⟨mb,768+k * 3,none⟩=some (.int .u64 fk.a)∧W'.cell? ⟨mb,768+k * 3+1,none⟩=some (.int .u64 fk.b)∧W'.cell? ⟨mb,768+k * 3+2,none⟩=some (.int .u64 fk.c)):=Lib.hid fun W' hbb=>by
   have go:∀ (b i:Nat) v,W1.cell? ⟨b,i,none⟩=some v→W'.cell? ⟨b,i,none⟩=some v:=fun b i v hv=>(hbb.cell (p:=⟨b,i,none⟩) (lt_of_cell hv)).trans hv
   exact ⟨⟨go _ _ _ c0,go _ _ _ c1,go _ _ _ c2⟩,go _ _ _ d0,go _ _ _ e0,go _ _ _ e1,go _ _ _ e2⟩
  have HOR:=Lib.hid hor
  clear hb h0 h2 h3 hM1 hfc hTd hTok hfok hnx hor hfk hkm hpx
  gi_wp2
  refine wpIn_region_ordX [(0,false),(1,false),(2,false),(3,false),(4,false),(5,false),(6,false),(7,true),(8,true)] 8
   (fun W'=>(W'.cell? ⟨b0+1+1+1,0,none⟩=some (.int .u64 T.a)∧W'.cell? ⟨b0+1+1+1,1,none⟩=some (.int .u64 T.b)∧W'.cell? ⟨b0+1+1+1,2,none⟩=some (.int .u64 T.c)) ∧
    W'.cell? ⟨b0,0,none⟩=some (.pointer (some ⟨mb,0,none⟩))∧W'.cell? ⟨mb,768+k * 3,none⟩=some (.int .u64 fk.a)∧W'.cell? ⟨mb,768+k * 3+1,none⟩=some (.int .u64 fk.b)∧W'.cell? ⟨mb,768+k * 3+2,none⟩=some (.int .u64 fk.c))
   (by kernel_rfl) (by kernel_rfl) (hall.out _ (Below.refl _ _).drew) ?_
  iterate 7 (
   refine wpOrd_quiet ?_ rfl rfl (fun w' hS=>?_) ?_
   rotate_left
   ·obtain ⟨⟨q0,q1,q2⟩,q3,q4,q5,q6⟩:=hS
    go_simp
    first | rfl | done
   simp only [put_lit,List.set_cons_succ,List.set_cons_zero])
  refine wpOrd_loud rfl rfl (by decide) (fun K hK=>?_)
  go_simp
  have hor:=HOR.out W1.drew
  unfold PSet.val PSet.cells at hor
  refine hor.mono ?_
  clear hor
  rintro e W6 ⟨rfl,hb6⟩
  have hb16:Below W1.heap.size W1 W6:=(Below.refl _ _).drew.trans hb6
  have hc6:=hall.out W6 hb16
  have h36:=(hb16.block _ (lt_of_heap HI.out.2.2.2)).trans HI.out.2.2.2
  have g0:W6.frozen? ⟨b0+1+1+1,0,none⟩=false:=free_block h36
  have g1:W6.frozen? ⟨b0+1+1+1,1,none⟩=false:=free_block h36
  have g2:W6.frozen? ⟨b0+1+1+1,2,none⟩=false:=free_block h36
  refine hK _ _ hc6 ?_
  have HB16:=Lib.hid hb16
  have H36:=Lib.hid h36
  clear hK K hb6 hb16 h36 hall c0 c1 c2 d0 e0 e1 e2 f0 f1 f2
  obtain ⟨⟨q0,q1,q2⟩,q3,q4,q5,q6⟩:=hc6
  refine wpOrd_last rfl rfl (fun K hK=>?_)
  go_simp
  refine hK _ _ ?_
  clear hK K
  gi_wp2
  have j0:Below b0 w W6:=HI.out.1.trans (HB16.out.mono (by have:=HI.out.1.size; rw [HB0.out]; exact this))
  have k1:=heap_setCell_same W6 (b0+1+1+1) 0 _ _ (.int .u64 ((T.or fk).a:Nat)) H36.out
  have k2:=heap_setCell_same _ (b0+1+1+1) 1 _ _ (.int .u64 ((T.or fk).b:Nat)) k1
  have k3:=heap_setCell_same _ (b0+1+1+1) 2 _ _ (.int .u64 ((T.or fk).c:Nat)) k2
  have oth:∀ q,q≠b0+1+1+1→(((W6.setCell ⟨b0+1+1+1,0,none⟩ (.int .u64 ((T.or fk).a:Nat))).setCell ⟨b0+1+1+1,1,none⟩ (.int .u64 ((T.or fk).b:Nat))).setCell ⟨b0+1+1+1,2,none⟩ (.int .u64 ((T.or fk).c:Nat))).heap[q]?=W6.heap[q]?:=fun q hq=>by
   rw [Below.heap_setCell _ ⟨_,2,none⟩ _ q hq,Below.heap_setCell _ ⟨_,1,none⟩ _ q hq,Below.heap_setCell _ ⟨_,0,none⟩ _ q hq]
  have szz:(((W6.setCell ⟨b0+1+1+1,0,none⟩ (.int .u64 ((T.or fk).a:Nat))).setCell ⟨b0+1+1+1,1,none⟩ (.int .u64 ((T.or fk).b:Nat))).setCell ⟨b0+1+1+1,2,none⟩ (.int .u64 ((T.or fk).c:Nat))).heap.size=W6.heap.size:=by simp
  have jj:Below b0 w (((W6.setCell ⟨b0+1+1+1,0,none⟩ (.int .u64 ((T.or fk).a:Nat))).setCell ⟨b0+1+1+1,1,none⟩ (.int .u64 ((T.or fk).b:Nat))).setCell ⟨b0+1+1+1,2,none⟩ (.int .u64 ((T.or fk).c:Nat))) :=
   ((j0.setCell (p:=⟨b0+1+1+1,0,none⟩) (by simp only; omega) _).setCell (p:=⟨b0+1+1+1,1,none⟩) (by simp only; omega) _).setCell (p:=⟨b0+1+1+1,2,none⟩) (by simp only; omega) _
  generalize ((W6.setCell ⟨b0+1+1+1,0,none⟩ (.int .u64 ((T.or fk).a:Nat))).setCell ⟨b0+1+1+1,1,none⟩ (.int .u64 ((T.or fk).b:Nat))).setCell ⟨b0+1+1+1,2,none⟩ (.int .u64 ((T.or fk).c:Nat))=W7 at *
  have o17:∀ q o,W1.heap[q]?=some o→q≠b0+1+1+1→W7.heap[q]?=some o:=fun q o ho hq=>(oth q hq).trans ((HB16.out.block q (lt_of_heap ho)).trans ho)
  refine ⟨⟨by rw [szz]; exact HB16.out.size,fun q o ho hoc=>o17 q o ho fun e=>?_⟩,?_,jj,o17 _ _ HI.out.2.1 (by omega),o17 _ _ HI.out.2.2.1 (by omega),k3⟩
  ·rw [e,HI.out.2.2.2] at ho
   cases ho
   cases hoc
  ·have hlt:=HT.out.lt
   rw [← HB0.out] at hlt
   have hq:4 < W1.heap.size:=by have:=HI.out.1.size; rw [← HB0.out] at this; omega
   rw [oth _ (by omega)]
   exact HB16.out.block _ hq
 case done =>
  rintro Dm W1 hD ⟨hb,h0,h2,h3⟩ hdf
  have hM1:MachIs W1 mb M:=HM.out.below (HB0.out ▸ hb)
  obtain ⟨ac,hac⟩:∃ ac,M.at'[c.toNat]?=some ac:=⟨_,List.getElem?_eq_getElem (by rw [hM1.1.la]; exact c.toNat_lt)⟩
  have hfc:=hM1.atC hac
  obtain ⟨T,hTd⟩:∃ T,T=M.next s.elems:=⟨_,rfl⟩
  have hTok:T.ok:=by rw [hTd]; exact M.ok_next hM1.1 _
  have hfok:ac.ok:=hM1.1.oa ac (List.mem_of_getElem? hac)
  have hnx:M.step s c.toNat=T.and ac:=by unfold PM.step; rw [hTd,List.getD_eq_getElem?_getD,hac]; rfl
  rw [← hTd] at h3
  have c0:W1.cell? ⟨b0+1+1+1,0,none⟩=some (.int .u64 T.a):=cell_block h3
  have c1:W1.cell? ⟨b0+1+1+1,1,none⟩=some (.int .u64 T.b):=cell_block h3
  have c2:W1.cell? ⟨b0+1+1+1,2,none⟩=some (.int .u64 T.c):=cell_block h3
  have d0:W1.cell? ⟨b0,0,none⟩=some (.pointer (some ⟨mb,0,none⟩)):=cell_block h0
  have e0:W1.cell? ⟨mb,c.toNat * 3,none⟩=some (.int .u64 ac.a):=(hfc 0 (by decide)).1
  have e1:W1.cell? ⟨mb,c.toNat * 3+1,none⟩=some (.int .u64 ac.b):=(hfc 1 (by decide)).1
  have e2:W1.cell? ⟨mb,c.toNat * 3+2,none⟩=some (.int .u64 ac.c):=(hfc 2 (by decide)).1
  have hcz:(c.toNat:Int) < 256:=by have:=c.toNat_lt; omega
  have HI:=Lib.hid (show _∧_∧_∧_∧_ from ⟨hb,h0,h2,h3,hdf⟩)
  have HAND:=Lib.hid (fun W'=>setAnd_any T ac W' hTok hfok)
  have HNX:=Lib.hid hnx
  have hall:Hid (∀ W',Below W1.heap.size W1 W'→(W'.cell? ⟨b0+1+1+1,0,none⟩=some (.int .u64 T.a)∧W'.cell? ⟨b0+1+1+1,1,none⟩=some (.int .u64 T.b)∧W'.cell? ⟨b0+1+1+1,2,none⟩=some (.int .u64 T.c)) ∧
    W'.cell? ⟨b0,0,none⟩=some (.pointer (some ⟨mb,0,none⟩))∧W'.cell? ⟨mb,c.toNat * 3,none⟩=some (.int .u64 ac.a)∧W'.cell? ⟨mb,c.toNat * 3+1,none⟩=some (.int .u64 ac.b)∧W'.cell? ⟨mb,c.toNat * 3+2,none⟩=some (.int .u64 ac.c)):=Lib.hid fun W' hbb=>by
   have go:∀ (b i:Nat) v,W1.cell? ⟨b,i,none⟩=some v→W'.cell? ⟨b,i,none⟩=some v:=fun b i v hv=>(hbb.cell (p:=⟨b,i,none⟩) (lt_of_cell hv)).trans hv
   exact ⟨⟨go _ _ _ c0,go _ _ _ c1,go _ _ _ c2⟩,go _ _ _ d0,go _ _ _ e0,go _ _ _ e1,go _ _ _ e2⟩
  clear hb h0 h2 h3 hM1 hfc hTd hTok hfok hnx hac hdf
  go_wp2_with fail
  refine wp_region_ordX [(0,false),(1,false),(2,false),(3,false),(4,false),(5,false),(6,false),(7,true),(8,true)] 8
   (fun W'=>(W'.cell? ⟨b0+1+1+1,0,none⟩=some (.int .u64 T.a)∧W'.cell? ⟨b0+1+1+1,1,none⟩=some (.int .u64 T.b)∧W'.cell? ⟨b0+1+1+1,2,none⟩=some (.int .u64 T.c)) ∧
    W'.cell? ⟨b0,0,none⟩=some (.pointer (some ⟨mb,0,none⟩))∧W'.cell? ⟨mb,c.toNat * 3,none⟩=some (.int .u64 ac.a)∧W'.cell? ⟨mb,c.toNat * 3+1,none⟩=some (.int .u64 ac.b)∧W'.cell? ⟨mb,c.toNat * 3+2,none⟩=some (.int .u64 ac.c))
   (by kernel_rfl) (by kernel_rfl) (hall.out _ (Below.refl _ _).drew) ?_
  iterate 7 (
   refine wpOrd_quiet ?_ rfl rfl (fun w' hS=>?_) ?_
   rotate_left
   ·obtain ⟨⟨q0,q1,q2⟩,q3,q4,q5,q6⟩:=hS
    go_simp
    first | rfl | done
   simp only [put_lit,List.set_cons_succ,List.set_cons_zero])
  refine wpOrd_loud rfl rfl (by decide) (fun K hK=>?_)
  go_simp
  have hand:=HAND.out W1.drew
  unfold PSet.val PSet.cells at hand
  refine hand.mono ?_
  clear hand
  rintro e W6 ⟨rfl,hb6⟩
  have hb16:Below W1.heap.size W1 W6:=(Below.refl _ _).drew.trans hb6
  have hc6:=hall.out W6 hb16
  have h36:=(hb16.block _ (lt_of_heap HI.out.2.2.2.1)).trans HI.out.2.2.2.1
  have g0:W6.frozen? ⟨b0+1+1+1,0,none⟩=false:=free_block h36
  have g1:W6.frozen? ⟨b0+1+1+1,1,none⟩=false:=free_block h36
  have g2:W6.frozen? ⟨b0+1+1+1,2,none⟩=false:=free_block h36
  refine hK _ _ hc6 ?_
  have HB16:=Lib.hid hb16
  have H36:=Lib.hid h36
  clear hK K hb6 hb16 h36 hall c0 c1 c2 d0 e0 e1 e2
  obtain ⟨⟨q0,q1,q2⟩,q3,q4,q5,q6⟩:=hc6
  refine wpOrd_last rfl rfl (fun K hK=>?_)
  go_simp
  refine hK _ _ ?_
  clear hK K q0 q1 q2 q3 q4 q5 q6 g0 g1 g2
  obtain ⟨V,hV⟩:∃ V,V=T.and ac:=⟨_,rfl⟩
  rw [← hV]
  have j0:Below b0 w W6:=HI.out.1.trans (HB16.out.mono (by have:=HI.out.1.size; rw [HB0.out]; exact this))
  have k1:=heap_setCell_same W6 (b0+1+1+1) 0 _ _ (.int .u64 (V.a:Nat)) H36.out
  have k2:=heap_setCell_same _ (b0+1+1+1) 1 _ _ (.int .u64 (V.b:Nat)) k1
  have k3:=heap_setCell_same _ (b0+1+1+1) 2 _ _ (.int .u64 (V.c:Nat)) k2
  have oth:∀ q,q≠b0+1+1+1→(((W6.setCell ⟨b0+1+1+1,0,none⟩ (.int .u64 (V.a:Nat))).setCell ⟨b0+1+1+1,1,none⟩ (.int .u64 (V.b:Nat))).setCell ⟨b0+1+1+1,2,none⟩ (.int .u64 (V.c:Nat))).heap[q]?=W6.heap[q]?:=fun q hq=>by
   rw [Below.heap_setCell _ ⟨_,2,none⟩ _ q hq,Below.heap_setCell _ ⟨_,1,none⟩ _ q hq,Below.heap_setCell _ ⟨_,0,none⟩ _ q hq]
  have jj:Below b0 w (((W6.setCell ⟨b0+1+1+1,0,none⟩ (.int .u64 (V.a:Nat))).setCell ⟨b0+1+1+1,1,none⟩ (.int .u64 (V.b:Nat))).setCell ⟨b0+1+1+1,2,none⟩ (.int .u64 (V.c:Nat))) :=
   ((j0.setCell (p:=⟨b0+1+1+1,0,none⟩) (by simp only; omega) _).setCell (p:=⟨b0+1+1+1,1,none⟩) (by simp only; omega) _).setCell (p:=⟨b0+1+1+1,2,none⟩) (by simp only; omega) _
  generalize ((W6.setCell ⟨b0+1+1+1,0,none⟩ (.int .u64 (V.a:Nat))).setCell ⟨b0+1+1+1,1,none⟩ (.int .u64 (V.b:Nat))).setCell ⟨b0+1+1+1,2,none⟩ (.int .u64 (V.c:Nat))=W7 at *
  have o17:∀ q o,W1.heap[q]?=some o→q≠b0+1+1+1→W7.heap[q]?=some o:=fun q o ho hq=>(oth q hq).trans ((HB16.out.block q (lt_of_heap ho)).trans ho)
  have r2:=o17 _ _ HI.out.2.2.1 (by omega)
  have r3:W7.heap[b0+1+1+1]?=some (.cells #[.int .u64 V.a,.int .u64 V.b,.int .u64 V.c] 272 (0,0)):=k3
  have rd:Dm≠b0+1+1+1→W7.heap[Dm]?=some (.deferred (some [])):=fun h=>o17 _ _ HI.out.2.2.2.2 h
  have hDne:Dm≠b0+1+1+1:=fun e=>by
   have:=HI.out.2.2.2.2
   rw [e,HI.out.2.2.2.1] at this
   cases this
  have HE:=Lib.hid (show _∧_∧_∧_ from ⟨r2,r3,rd hDne,jj⟩)
  have n0:W7.cell? ⟨b0+1+1+1,0,none⟩=some (.int .u64 V.a):=cell_block r3
  have n1:W7.cell? ⟨b0+1+1+1,1,none⟩=some (.int .u64 V.b):=cell_block r3
  have n2:W7.cell? ⟨b0+1+1+1,2,none⟩=some (.int .u64 V.c):=cell_block r3
  have u0:W7.frozen? ⟨b0+1+1,0,none⟩=false:=free_block r2
  have u1:W7.frozen? ⟨b0+1+1,1,none⟩=false:=free_block r2
  have u2:W7.frozen? ⟨b0+1+1,2,none⟩=false:=free_block r2
  have x0:W7.cell? ⟨b0+1+1,0,none⟩=some (.int .u64 0):=cell_block r2
  have x1:W7.cell? ⟨b0+1+1,1,none⟩=some (.int .u64 0):=cell_block r2
  have x2:W7.cell? ⟨b0+1+1,2,none⟩=some (.int .u64 0):=cell_block r2
  have hneq:=set_neq V PSet.zero
  have hgrd:=fun x y W=>set_guard x y V.cells.toArray PSet.zero.cells.toArray W
  unfold PSet.val PSet.cells at hneq
  unfold PSet.cells at hgrd
  have z:(PSet.zero.a:Int)=0∧(PSet.zero.b:Int)=0∧(PSet.zero.c:Int)=0:=⟨rfl,rfl,rfl⟩
  rw [z.1,z.2.1,z.2.2] at hneq hgrd
  obtain ⟨bb,hbb⟩:∃ bb,bb = !decide (V=PSet.zero):=⟨_,rfl⟩
  rw [← hbb] at hneq
  have HBB:=Lib.hid hbb
  have HVV:=Lib.hid hV
  clear z hbb hV k1 k2 k3 oth jj o17 r2 r3 rd hDne j0
  go_wp2_with fail
  go_region
  have m1:=heap_setCell_same W7 (b0+1+1) 0 _ _ (.int .u64 (V.a:Nat)) HE.out.1
  have m2:=heap_setCell_same _ (b0+1+1) 1 _ _ (.int .u64 (V.b:Nat)) m1
  have m3:=heap_setCell_same _ (b0+1+1) 2 _ _ (.int .u64 (V.c:Nat)) m2
  have oth:∀ q,q≠b0+1+1→((((W7.setCell ⟨b0+1+1,0,none⟩ (.int .u64 (V.a:Nat))).setCell ⟨b0+1+1,1,none⟩ (.int .u64 (V.b:Nat))).setCell ⟨b0+1+1,2,none⟩ (.int .u64 (V.c:Nat))).drew).heap[q]?=W7.heap[q]?:=fun q hq=>by
   show (((W7.setCell ⟨b0+1+1,0,none⟩ (.int .u64 (V.a:Nat))).setCell ⟨b0+1+1,1,none⟩ (.int .u64 (V.b:Nat))).setCell ⟨b0+1+1,2,none⟩ (.int .u64 (V.c:Nat))).heap[q]?=_
   rw [Below.heap_setCell _ ⟨_,2,none⟩ _ q hq,Below.heap_setCell _ ⟨_,1,none⟩ _ q hq,Below.heap_setCell _ ⟨_,0,none⟩ _ q hq]
  have jj:Below b0 w ((((W7.setCell ⟨b0+1+1,0,none⟩ (.int .u64 (V.a:Nat))).setCell ⟨b0+1+1,1,none⟩ (.int .u64 (V.b:Nat))).setCell ⟨b0+1+1,2,none⟩ (.int .u64 (V.c:Nat))).drew) :=
   (((HE.out.2.2.2.setCell (p:=⟨b0+1+1,0,none⟩) (by simp only; omega) _).setCell (p:=⟨b0+1+1,1,none⟩) (by simp only; omega) _).setCell (p:=⟨b0+1+1,2,none⟩) (by simp only; omega) _).drew
  have m3':((((W7.setCell ⟨b0+1+1,0,none⟩ (.int .u64 (V.a:Nat))).setCell ⟨b0+1+1,1,none⟩ (.int .u64 (V.b:Nat))).setCell ⟨b0+1+1,2,none⟩ (.int .u64 (V.c:Nat))).drew).heap[b0+1+1]?=some (.cells V.cells.toArray 272 (0,0)):=m3
  have go:∀ i v,W7.cell? ⟨b0+1+1+1,i,none⟩=some v→((((W7.setCell ⟨b0+1+1,0,none⟩ (.int .u64 (V.a:Nat))).setCell ⟨b0+1+1,1,none⟩ (.int .u64 (V.b:Nat))).setCell ⟨b0+1+1,2,none⟩ (.int .u64 (V.c:Nat))).drew).cell? ⟨b0+1+1+1,i,none⟩=some v:=fun i v hv=>(World.cell?_of_block (a:=⟨b0+1+1+1,i,none⟩) (oth (b0+1+1+1) (by omega))).trans hv
  have hdm:Dm≠b0+1+1:=fun e=>by
   have:=HE.out.2.2.1
   rw [e,HE.out.1] at this
   cases this
  have hD8:=(oth Dm hdm).trans HE.out.2.2.1
  clear go oth m1 m2 m3 n0 n1 n2 u0 u1 u2 x0 x1 x2
  generalize (((W7.setCell ⟨b0+1+1,0,none⟩ (.int .u64 (V.a:Nat))).setCell ⟨b0+1+1,1,none⟩ (.int .u64 (V.b:Nat))).setCell ⟨b0+1+1,2,none⟩ (.int .u64 (V.c:Nat))).drew=W8 at *
  go_wp2_with fail
  change LeavesInM Fence.wide 5 Tryz.prog Tryz.f128 _ _ [{ target := .collected Dm,args:=#[] }] .returning W8
  refine leaves_one Dm W8 hD8 fun w' hm=>?_
  have hv':=(hm.block _ (lt_of_heap m3') (fun e=>hdm e.symm)).trans m3'
  refine ⟨_,results_row_tmp rfl _ w' (b0+1+1) _ _ (0,0) _ rfl hv' Tryz.underlying272 rfl (by kernel_rfl),?_,?_⟩
  ·rw [HNX.out,← HVV.out,← HBB.out]
   rfl
  ·rw [← HB0.out]
   exact jj.trans (hm.toBelow (by have:=jj.size; rw [← HB0.out] at this; exact this) fun q hq=>by omega)
end Go.Proofs.Ts
namespace Go.Proofs.Ts
open Go Go.RowKit
section
variable {P:Program} {ops:Array Oper} {S:World→Prop} {Q:Exit→Act→World→Prop}
def waitsT (ops:Array Oper):Nat→Nat→Nat→Bool
 | 0,_,_=>false
 | f+1,x,i=>match ops[x]? with
  | none=>true
  | some o=>o.after.any fun e=>Region.binds .any e && (e.on == i || ((ops[e.on]?).isSome && waitsT ops f e.on i))
def Shut (ops:Array Oper) (listed:Array Bool):Prop:=∀ j,listed.getD j false=true → ∀ o,ops[j]?=some o → ∀ e∈o.after,Region.binds .any e=true→listed.getD e.on false=true
theorem getD_set_true {listed:Array Bool} {j k:Nat} (h:listed.getD k false=true):(listed.setIfInBounds j true).getD k false=true:=by
 by_cases e:j=k
 ·subst e
  have hk:j < listed.size:=by
   rcases Nat.lt_or_ge j listed.size with h' | h'
   ·exact h'
   ·simp [Array.getElem?_eq_none h'] at h
  simp [hk]
 ·simp only [Array.getD_eq_getD_getElem?] at h ⊢
  rw [Array.getElem?_setIfInBounds_ne e]
  exact h
theorem getD_set_old {listed:Array Bool} {j k:Nat} (hjk:j≠k) (h:(listed.setIfInBounds j true).getD k false=true):listed.getD k false=true:=by
 simp only [Array.getD_eq_getD_getElem?] at h ⊢
 rw [Array.getElem?_setIfInBounds_ne hjk] at h
 exact h
theorem Shut.step {listed:Array Bool} (h:Shut ops listed) {i:Nat} (hi:i∈Region.ready .any ops listed):Shut ops (listed.setIfInBounds i true):=by
 intro j hj o ho e he hb
 by_cases hij:i=j
 ·subst hij
  obtain ⟨_,o',ho',hall⟩:=mem_ready.1 hi
  rw [ho] at ho'
  cases ho'
  exact getD_set_true (hall e he hb)
 ·exact getD_set_true (h j (getD_set_old hij hj) o ho e he hb)
theorem waitsT_listed {i:Nat} {listed:Array Bool} (hs:Shut ops listed):∀ (f x:Nat),waitsT ops f x i=true→(∀ o,ops[x]?=some o → ∀ e∈o.after,Region.binds .any e=true→listed.getD e.on false=true)→(ops[x]?).isSome=true→listed.getD i false=true
 | 0,x,h,_,_=>by cases h
 | f+1,x,h,hx,hso=>by
  unfold waitsT at h
  cases ho:ops[x]? with
  | none=>rw [ho] at hso; cases hso
  | some o =>
   rw [ho] at h
   obtain ⟨e,he,hb⟩:=Array.any_eq_true'.1 h
   simp only [Bool.and_eq_true,Bool.or_eq_true,beq_iff_eq] at hb
   have hl:=hx o ho e he hb.1
   rcases hb.2 with h1 | ⟨h1,h2⟩
   ·rw [← h1]; exact hl
   ·exact waitsT_listed hs f e.on h2 (fun o' ho' e' he' hb'=>hs e.on hl o' ho' e' he' hb') h1
theorem anyX_firstT {x i:Nat} {oi:Oper} {v:Value} (hx:waitsT ops 64 x i=true∨ops[x]?=none) (hi:ops[i]?=some oi) (hsel:Region.noSelect ops=true)
  (hQ:∀ c a w,Q (.panic c) (a.put oi.dst v) w→Q (.panic c) a w) :
  ∀ (n:Nat) (listed:Array Bool) (a:Act) (w:World),Shut ops listed →
   (∀ j oj,ops[j]?=some oj→j≠i→listed.getD j true=false→(∀ e∈oj.after,Region.binds .any e=true→e.on≠i)→oi.apart ops oj=true) →
   i∈Region.ready .any ops listed→YieldsIf P ops S oi v a→S w →
   anyX P ops Q S x n (listed.setIfInBounds i true) (a.put oi.dst v) w→anyX P ops Q S x (n+1) listed a w:=by
 intro n
 induction n with
 | zero =>
  intro listed a w _ _ hr hy hS H
  refine ⟨fun h=>(by rw [h] at hr; cases hr),fun j hj=>?_⟩
  by_cases hji:j=i
  ·subst hji; exact hy.wpOp hi hS ⟨fun _=>hS,H⟩
  ·have hc:=ready_mono hj hji
   rw [H.1] at hc
   cases hc
 | succ n ih =>
  intro listed a w hsh hfree hr hy hS H
  refine ⟨fun h=>(by rw [h] at hr; cases hr),fun j hj=>?_⟩
  by_cases hji:j=i
  ·subst hji; exact hy.wpOp hi hS ⟨fun _=>hS,H⟩
  ·have hjx:j≠x:=by
    rintro rfl
    obtain ⟨_,o',ho',hall'⟩:=mem_ready.1 hj
    rcases hx with hx | hx
    ·have h1:=waitsT_listed hsh 64 j hx (fun o ho e he hb=>by rw [ho'] at ho; cases ho; exact hall' e he hb) (by rw [ho']; rfl)
     rw [unlisted_of_ready hr] at h1
     cases h1
    ·rw [hx] at ho'; cases ho'
   have h1:=H.2 j (ready_mono hj hji)
   obtain ⟨hjun,oj,hoj,hall⟩:=mem_ready.1 hj
   have hnot:∀ e∈oj.after,Region.binds .any e=true→e.on≠i:=fun e he hb heq=>by
    have h2:=hall e he hb
    rw [heq,unlisted_of_ready hr] at h2
    cases h2
   have h2:=wpOp_putIf hoj (hfree j oj hoj hji hjun hnot) (fun cs b=>Region.noSelect_spec hsel i oi cs b hi) (fun cs b=>Region.noSelect_spec hsel j oj cs b hoj) hQ hy h1
   have hfree':∀ k ok,ops[k]?=some ok→k≠i→(listed.setIfInBounds j true).getD k true=false→(∀ e∈ok.after,Region.binds .any e=true→e.on≠i)→oi.apart ops ok=true:=fun k ok hk hki hun hno=>by
    refine hfree k ok hk hki ?_ hno
    by_cases hjk:j=k
    ·subst hjk; exact hjun
    ·rw [getD_set_ne true hjk] at hun; exact hun
   refine wpOp_mono (fun a' w' h3=>⟨fun _=>h3.2.1 hjx,ih (listed.setIfInBounds j true) a' w' (hsh.step hj) hfree' (ready_mono hr (Ne.symm hji)) h3.1 (h3.2.1 hjx) ?_⟩) h2
   rw [Array.setIfInBounds_comm _ _ hji]
   exact h3.2.2
theorem wpOp_loud {lo:List Oper} {j:Nat} {o:Oper} {a:Act} {w:World} {K:Act→World→Prop} (ho:lo[j]?=some o) (hw:Region.wanted o (yielded lo.toArray a.tmps)=true)
  (h:o.wp P a w K (NoPanic fun _ _ _=>False)):wpOp P lo.toArray Q j K a w:=by
 unfold wpOp
 have ho':lo.toArray[j]?=some o:=by simpa using ho
 simp only [ho']
 rw [if_pos hw]
 refine .inl ?_
 unfold Oper.wp at h ⊢
 generalize (execOp a.eval o).run P w=r at *
 cases r with
 | ok n w' =>
  cases n <;> simp only [Oper.upon] at h ⊢
  case value=>exact h
  case skip=>exact h
  case defer=>exact h
  case row=>exact h
  case enter f args =>
   refine Calls.mono h fun e w'' he=>?_
   cases e with
   | returned v=>exact he
   | panicked c=>exact he.elim
   | outgrown=>obtain ⟨_,_,hx⟩:=he; exact hx.elim
  all_goals exact h
 | halt x w' =>
  cases x <;> simp only [Oper.upon] at h ⊢
  all_goals exact h.elim
theorem anyX_of_ordT {lo:List Oper} {x:Nat} (hs:Region.noSelect lo.toArray=true) {Q':Exit→Act→World→Prop} (hQ:∀ a w,Q .normal a w→Q' .normal a w) (hp:∀ c a w,¬ Q' (.panic c) a w) :
  ∀ (l:List (Nat × Bool)) (listed:Array Bool) (a:Act) (w:World),Shut lo.toArray listed→(∀ q∈l,q.2=false→waitsT lo.toArray 64 x q.1=true∨lo.toArray[x]?=none) →
  ordB lo.toArray l listed=true→S w→wpOrd P lo S x (Q .normal) l a w→anyX P lo.toArray Q' S x l.length listed a w
 | [],listed,a,w,_,_,hB,_,h=>by
  simp only [ordB,beq_iff_eq] at hB
  exact ⟨hB,hQ _ _ h⟩
 | (i,true) :: rest,listed,a,w,hsh,hl,hB,hS,h=>by
  simp only [ordB,Bool.and_eq_true,beq_iff_eq] at hB
  obtain ⟨hr,hB'⟩:=hB
  have ih:=anyX_of_ordT (x:=x) hs hQ hp rest (listed.setIfInBounds i true)
  refine ⟨fun h0=>(by rw [hr] at h0; cases h0),fun j hj=>?_⟩
  have hsh':=hsh.step hj
  rw [hr] at hj
  obtain rfl:j=i:=by simpa using hj
  unfold wpOrd at h
  split at h
  ·exact h.elim
  ·rename_i o ho
   by_cases hw:Region.wanted o (yielded lo.toArray a.tmps)=true
   ·rw [if_pos hw] at h
    refine wpOp_loud ho hw (Oper.wp_mono (fun a' w' hh=>⟨hh.1,?_⟩) h)
    by_cases hjx:j=x
    ·have:=hh.2.1 hjx
     subst this
     simp only [ordB,beq_iff_eq] at hB'
     exact ⟨hB',hQ _ _ hh.2.2⟩
    ·exact ih a' w' hsh' (fun q hq=>hl q (List.mem_cons_of_mem _ hq)) hB' (hh.1 hjx) hh.2.2
   ·rw [if_neg hw] at h
    unfold wpOp
    have ho':lo.toArray[j]?=some o:=by simpa using ho
    simp only [ho']
    rw [if_neg hw]
    exact ⟨fun _=>hS,ih _ _ hsh' (fun q hq=>hl q (List.mem_cons_of_mem _ hq)) hB' hS h⟩
 | (i,false) :: rest,listed,a,w,hsh,hl,hB,hS,h=>by
  simp only [ordB,Bool.and_eq_true] at hB
  obtain ⟨⟨hr,hf⟩,hB'⟩:=hB
  have hri:i∈Region.ready .any lo.toArray listed:=by simpa using hr
  have ih:=anyX_of_ordT (x:=x) hs hQ hp rest (listed.setIfInBounds i true)
  unfold wpOrd at h
  split at h
  ·exact h.elim
  ·rename_i o ho
   obtain ⟨v,hy,hk⟩:=h
   have ho':lo.toArray[i]?=some o:=by simpa using ho
   exact anyX_firstT (hl (i,false) List.mem_cons_self rfl) ho' hs (fun c a w hq=>(hp _ _ _ hq).elim) rest.length listed a w hsh (Region.free_spec ho' hf) hri hy hS (ih _ _ (hsh.step hri) (fun q hq=>hl q (List.mem_cons_of_mem _ hq)) hB' hS hk)
theorem shut_none (n:Nat):Shut ops (Array.replicate n false):=by
 intro j hj
 simp only [Array.getD_eq_getD_getElem?,Array.getElem?_replicate] at hj
 split at hj <;> simp at hj
theorem wp_region_ordT {id:Nat} {a:Act} {w:World} {l:List Oper} (order:List (Nat × Bool)) (x:Nat) (S:World→Prop) (hm:P.follows .mixedOrders=true)
  (hs:(Region.noSelect l.toArray && (order.all fun q=>q.2 || waitsT l.toArray 64 x q.1 || (l.toArray[x]?).isNone) && (order.length == l.length) && ordB l.toArray order (Array.replicate l.length false))=true) (hS:S w.drew)
  (h:wpOrd P l S x (Q .normal) order a w.drew):(Code.region id l.toArray true).wp P Q a w:=by
 simp only [Bool.and_eq_true,beq_iff_eq] at hs
 obtain ⟨⟨⟨h1,h3⟩,h4⟩,h5⟩:=hs
 have h3':∀ q∈order,q.2=false→waitsT l.toArray 64 x q.1=true∨l.toArray[x]?=none:=fun q hq hf=>by
  have:=List.all_eq_true.1 h3 q hq
  rw [hf] at this
  simpa using this
 refine wp_region_noPanic (wp_region_any hm (wpAny_of_anyX (S:=S) (x:=x) _ _ _ _ ?_))
 have:=anyX_of_ordT (Q:=Q) (Q':=NoPanic Q) h1 (fun _ _ h=>h) (fun _ _ _ h=>h) order (Array.replicate l.length false) a w.drew (shut_none _) h3' h5 hS h
 rw [h4] at this
 simpa using this
theorem wpIn_region_ordT {n l:Nat} {id:Nat} {a:Act} {w:World} {lo:List Oper} (order:List (Nat × Bool)) (x:Nat) (S:World→Prop) (hm:P.follows .mixedOrders=true)
  (hs:(Region.noSelect lo.toArray && (order.all fun q=>q.2 || waitsT lo.toArray 64 x q.1 || (lo.toArray[x]?).isNone) && (order.length == lo.length) && ordB lo.toArray order (Array.replicate lo.length false) && lo.all calmB)=true) (hS:S w.drew)
  (h:wpOrd P lo S x (Q .normal) order a w.drew):(Code.region id lo.toArray true).wpIn (Fence.wide.inRound l) n P Q a w:=by
 simp only [Bool.and_eq_true,beq_iff_eq] at hs
 obtain ⟨⟨⟨⟨h1,h3⟩,h4⟩,h5⟩,h6⟩:=hs
 have h3':∀ q∈order,q.2=false→waitsT lo.toArray 64 x q.1=true∨lo.toArray[x]?=none:=fun q hq hf=>by
  have:=List.all_eq_true.1 h3 q hq
  rw [hf] at this
  simpa using this
 refine wpIn_mono (Q:=Calm Q) (wpIn_region_any hm (wpAnyIn_of_wpAny (fun ⟨_,_,h⟩=>h) h6 _ _ _ _ (wpAny_of_anyX (S:=S) (x:=x) _ _ _ _ ?_))) ?_
 ·have:=anyX_of_ordT (Q:=Q) (Q':=Calm Q) h1 (fun _ _ h=>h) (fun _ _ _ h=>h) order (Array.replicate lo.length false) a w.drew (shut_none _) h3' h5 hS h
  rw [h4] at this
  simpa using this
 ·intro e a' w' h'
  cases e <;> first | exact h' | exact h'.elim
end
end Go.Proofs.Ts
namespace Go.Proofs.Ts
open Go Go.RowKit
attribute [local go_sem] Oper.semAt_some
def PM.putFollow (M:PM) (k:Nat) (s:PSet):PM:={ M with follow:=M.follow.set k s }
def PM.linkOne (M:PM) (tt:PSet) (k:Nat):PM:=M.putFollow k ((M.follow.getD k PSet.zero).or tt)
def PM.link (M:PM) (l:List Nat) (tt:PSet):PM:=l.foldl (fun M k=>M.linkOne tt k) M
theorem PM.link_snoc (M:PM) (l:List Nat) (tt:PSet) (k:Nat):M.link (l++[k]) tt=(M.link l tt).linkOne tt k:=by unfold PM.link; rw [List.foldl_append]; rfl
theorem PM.ok_putFollow {M:PM} (h:M.ok) (k:Nat) {s:PSet} (hs:s.ok):(M.putFollow k s).ok :=
 ⟨h.la,by show (M.follow.set k s).length=129; rw [List.length_set]; exact h.lf,h.oa,fun t ht=>by
  rcases List.mem_or_eq_of_mem_set ht with h1 | h1
  ·exact h.of' t h1
  ·rw [h1]; exact hs,h.ol⟩
theorem PM.ok_linkOne {M:PM} (h:M.ok) {tt:PSet} (ht:tt.ok) (k:Nat):(M.linkOne tt k).ok:=PM.ok_putFollow h k (PSet.ok_or (M.ok_follow h k) ht)
theorem PM.ok_link {M:PM} (h:M.ok) {tt:PSet} (ht:tt.ok) (l:List Nat):(M.link l tt).ok:=by
 unfold PM.link
 induction l generalizing M with
 | nil=>exact h
 | cons k l ih=>exact ih (PM.ok_linkOne h ht k)
theorem setCells_set:∀ (l:List PSet) (k:Nat) (s:PSet),k < l.length→(((setCells l).set (k * 3) (.int .u64 s.a)).set (k * 3+1) (.int .u64 s.b)).set (k * 3+2) (.int .u64 s.c)=setCells (l.set k s)
 | [],k,s,h=>by simp at h
 | y :: t,0,s,h=>by simp [setCells,PSet.cells]
 | y :: t,k+1,s,h=>by
  have ih:=setCells_set t k s (by simpa using h)
  have e:∀ l:List PSet,setCells (y :: l) = .int .u64 y.a :: .int .u64 y.b :: .int .u64 y.c :: setCells l:=fun l=>by simp [setCells,PSet.cells]
  rw [List.set_cons_succ,e,e,← ih,show (k+1) * 3=k * 3+1+1+1 by omega]
  simp only [List.set_cons_succ]
theorem PM.putFollow_cells {M:PM} (h:M.ok) {k:Nat} (hk:k < 129) (s:PSet) :
  ((M.cells.toArray.setIfInBounds (768+k * 3) (.int .u64 s.a)).setIfInBounds (768+k * 3+1) (.int .u64 s.b)).setIfInBounds (768+k * 3+2) (.int .u64 s.c)=(M.putFollow k s).cells.toArray:=by
 simp only [List.setIfInBounds_toArray]
 congr 1
 have h1:(setCells M.at').length=768:=by rw [setCells_len,h.la]
 have h2:=h.lf
 have h3:(setCells M.follow).length=387:=by rw [setCells_len,h.lf]
 unfold PM.cells PM.putFollow
 simp only
 rw [List.set_append_right _ _ (by omega),List.set_append_right _ _ (by omega),List.set_append_right _ _ (by omega),h1]
 rw [List.set_append_left _ _ (by omega),List.set_append_left _ _ (by rw [List.length_set]; omega),List.set_append_left _ _ (by rw [List.length_set,List.length_set]; omega)]
 rw [show 768+k * 3 - 768=k * 3 by omega,show 768+k * 3+1 - 768=k * 3+1 by omega,show 768+k * 3+2 - 768=k * 3+2 by omega,setCells_set _ _ _ (by omega)]
set_option maxRecDepth 100000 in
set_option maxHeartbeats 2000000 in
theorem machLink_any (mb:Nat) (M:PM) (s tt:PSet) (w:World) (hs:s.ok) (hf:s.fits) (ht:tt.ok) (hM:MachIs w mb M) (hT:BitTab w) :
  Calls Tryz.prog 152 #[ptrV mb,s.val,tt.val] w fun e w'=>e = .returned (.tuple #[])∧MachIs w' mb (M.link s.elems tt)∧Mod (fun j=>j=mb) w w':=by
 have hmf:∀ (fn:Fn) (first cap:Array Value) (w:World),(Instr.makeFunc fn first cap).run Tryz.prog w = .ok (.func fn first cap) w:=fun _ _ _ _=>rfl
 have HS:=Lib.hid hs
 have HF:=Lib.hid hf
 have HTT:=Lib.hid ht
 have HM:=Lib.hid hM
 have HT:=Lib.hid hT
 have hmb:=lt_of_heap hM.2
 have hgm:4≠mb:=fun e=>by
  obtain ⟨⟨cs,h1⟩,_⟩:=hT
  rw [e,hM.2] at h1
  cases h1
 clear hs hf ht hM hT
 refine (callsIn_wide (n:=5)).1 ?_
 refine callsIn_of_wp_marks Tryz.func152 rfl trivial ?_ rfl
 simp only [Tryz.ntmps152,List.size_toArray,List.length_cons,List.length_nil,Nat.reduceAdd,Nat.reduceSub,Array.replicate_succ,Array.replicate_zero,List.push_toArray,List.append_toArray,List.nil_append,List.cons_append]
 refine wpIn_wide.2 ?_
 unfold ptrV PSet.val PSet.cells
 go_wp2_with fail
 obtain ⟨W,hW⟩:∃ W,W=((w.alloc (.cells #[.pointer (some ⟨mb,0,none⟩)] 115)).alloc (.cells #[.int .u64 s.a,.int .u64 s.b,.int .u64 s.c] 272)).alloc (.cells #[.int .u64 tt.a,.int .u64 tt.b,.int .u64 tt.c] 272):=⟨_,rfl⟩
 rw [← hW]
 have h0:W.heap[w.heap.size]?=some (.cells #[.pointer (some ⟨mb,0,none⟩)] 115 (0,0)):=by
  rw [hW,Below.heap_alloc _ _ _ (by simp; omega),Below.heap_alloc _ _ _ (by simp)]
  exact heap_alloc_new w _
 have h2:W.heap[w.heap.size+1+1]?=some (.cells #[.int .u64 tt.a,.int .u64 tt.b,.int .u64 tt.c] 272 (0,0)):=by
  rw [hW]
  have:=heap_alloc_new ((w.alloc (.cells #[.pointer (some ⟨mb,0,none⟩)] 115)).alloc (.cells #[.int .u64 s.a,.int .u64 s.b,.int .u64 s.c] 272)) (.cells #[.int .u64 tt.a,.int .u64 tt.b,.int .u64 tt.c] 272)
  simp only [World.size_alloc] at this
  exact this
 have hb:Below w.heap.size w W:=by rw [hW]; exact (((Below.refl _ w).alloc (Nat.le_refl _) _).alloc (by simp) _).alloc (by simp; omega) _
 have hsz:W.heap.size=w.heap.size+3:=by rw [hW]; simp
 have hTW:=HT.out.below hb
 have hMW:=HM.out.below hb
 have hmod:Mod (fun j=>j=mb) w W:=⟨hb.os,hb.tape,hb.output,hb.size,fun j hj _=>hb.block j hj⟩
 have H0:=Lib.hid (show _∧_∧_∧_ from ⟨hmod,h0,h2,hMW⟩)
 clear hW h0 h2 hb hmod hMW
 obtain ⟨b0,hb0⟩:∃ b0,b0=w.heap.size:=⟨_,rfl⟩
 rw [← hb0] at H0 hsz hmb ⊢
 have HB0:=Lib.hid hb0
 clear hb0
 refine wpIn_wide.1 (wpIn_rangeAll (F:=Fence.wide) (n:=5) rfl (by omega) (gf:=153) (fst:=#[s.val]) (lb:=#[]) rfl trivial (enters_of Tryz.func153 (by kernel_rfl) rfl) (b:=4) hTW.lt
  (setAll_gives 4 (by omega) s HS.out W hTW) (fun _=>rfl)
  (fun pre W'=>Mod (fun j=>j=mb) w W'∧W'.heap[b0]?=some (.cells #[.pointer (some ⟨mb,0,none⟩)] 115 (0,0))∧W'.heap[b0+1+1]?=some (.cells #[.int .u64 tt.a,.int .u64 tt.b,.int .u64 tt.c] 272 (0,0))∧MachIs W' mb (M.link pre tt))
  ?own H0.out
  (fun k=>{ tmps:=#[.pointer (some ⟨mb,0,none⟩),.agg #[.int .u64 s.a,.int .u64 s.b,.int .u64 s.c],.agg #[.int .u64 tt.a,.int .u64 tt.b,.int .u64 tt.c],.pointer (some ⟨b0,0,none⟩),.pointer (some ⟨b0+1,0,none⟩),.pointer (some ⟨b0+1+1,0,none⟩),.int .i64 k,
   .agg #[.int .u64 s.a,.int .u64 s.b,.int .u64 s.c],.func (.func 153) #[.agg #[.int .u64 s.a,.int .u64 s.b,.int .u64 s.c]] #[],.int .i64 k,undef,undef,undef,undef,undef,undef,undef,undef,undef,undef,undef,undef,undef],defers:=[] })
  ?assign ?body ?done)
 case own =>
  refine OwnFrom.and ?_ ((own_cells _ _ (fun _=>_) (fun _=>_) (fun _=>_)).and ((own_cells _ _ (fun _=>_) (fun _=>_) (fun _=>_)).and ?_))
  ·intro x A B row hs hg hr
   refine ⟨hg.os.trans hs.os,hg.tape.trans hs.tape,hg.output.trans hs.output,Nat.le_trans hs.size hg.size,fun j hj hn=>(hg.block j (Nat.lt_of_lt_of_le hj hs.size) fun e=>?_).trans (hs.block j hj hn)⟩
   obtain ⟨h1,_⟩:=hr j e.symm
   rw [← HB0.out] at hj
   omega
  ·intro x A B row hs hg hr
   exact ⟨hs.1,(own_cells (β:=List Nat) W.heap.size mb (fun pre=>(M.link pre tt).cells.toArray) (fun _=>276) (fun _=>(0,0))) x A B row hs.2 hg hr⟩
 case assign =>
  intro l x W' K' hK'
  unfold intV
  gi_wp2
  exact hK'
 case body =>
  rintro l pre k W1 ⟨hmod,h0,h2,hM1⟩ hpx
  have hkm:k∈s.elems:=hpx.subset (by simp)
  have hk:=HF.out k hkm
  obtain ⟨N,hN⟩:∃ N,N=M.link pre tt:=⟨_,rfl⟩
  rw [PM.link_snoc,← hN]
  rw [← hN] at hM1
  obtain ⟨fk,hfk⟩:∃ fk,N.follow[k]?=some fk:=⟨_,List.getElem?_eq_getElem (by rw [hM1.1.lf]; exact hk)⟩
  have hfc:=hM1.followC hfk
  have hfok:fk.ok:=hM1.1.of' fk (List.mem_of_getElem? hfk)
  have hone:N.linkOne tt k=N.putFollow k (fk.or tt):=by unfold PM.linkOne; rw [List.getD_eq_getElem?_getD,hfk]; rfl
  have c0:W1.cell? ⟨b0+1+1,0,none⟩=some (.int .u64 tt.a):=cell_block h2
  have c1:W1.cell? ⟨b0+1+1,1,none⟩=some (.int .u64 tt.b):=cell_block h2
  have c2:W1.cell? ⟨b0+1+1,2,none⟩=some (.int .u64 tt.c):=cell_block h2
  have d0:W1.cell? ⟨b0,0,none⟩=some (.pointer (some ⟨mb,0,none⟩)):=cell_block h0
  have e0:W1.cell? ⟨mb,768+k * 3,none⟩=some (.int .u64 fk.a):=(hfc 0 (by decide)).1
  have e1:W1.cell? ⟨mb,768+k * 3+1,none⟩=some (.int .u64 fk.b):=(hfc 1 (by decide)).1
  have e2:W1.cell? ⟨mb,768+k * 3+2,none⟩=some (.int .u64 fk.c):=(hfc 2 (by decide)).1
  have hkz:(k:Int) < 129:=by omega
  rw [hone]
  have HI:=Lib.hid (show _∧_∧_∧_ from ⟨hmod,h0,h2,hM1⟩)
  have HOR:=Lib.hid (fun W'=>setOr_any fk tt W' hfok HTT.out)
  have hall:Hid (∀ W',Below W1.heap.size W1 W'→(W'.cell? ⟨b0+1+1,0,none⟩=some (.int .u64 tt.a)∧W'.cell? ⟨b0+1+1,1,none⟩=some (.int .u64 tt.b)∧W'.cell? ⟨b0+1+1,2,none⟩=some (.int .u64 tt.c)) ∧
    W'.cell? ⟨b0,0,none⟩=some (.pointer (some ⟨mb,0,none⟩))∧W'.cell? ⟨mb,768+k * 3,none⟩=some (.int .u64 fk.a)∧W'.cell? ⟨mb,768+k * 3+1,none⟩=some (.int .u64 fk.b)∧W'.cell? ⟨mb,768+k * 3+2,none⟩=some (.int .u64 fk.c)):=Lib.hid fun W' hbb=>by
   have go:∀ (b i:Nat) v,W1.cell? ⟨b,i,none⟩=some v→W'.cell? ⟨b,i,none⟩=some v:=fun b i v hv=>(hbb.cell (p:=⟨b,i,none⟩) (lt_of_cell hv)).trans hv
   exact ⟨⟨go _ _ _ c0,go _ _ _ c1,go _ _ _ c2⟩,go _ _ _ d0,go _ _ _ e0,go _ _ _ e1,go _ _ _ e2⟩
  have HFOK:=Lib.hid hfok
  clear hmod h0 h2 hM1 hfc hN hfok hone hfk hkm hpx
  gi_wp2
  refine wpIn_region_ordT [(0,false),(1,false),(2,false),(3,false),(4,false),(5,false),(6,false),(7,false),(8,false),(10,false),(11,false),(9,true),(12,true),(13,true)] 13
   (fun W'=>(W'.cell? ⟨b0+1+1,0,none⟩=some (.int .u64 tt.a)∧W'.cell? ⟨b0+1+1,1,none⟩=some (.int .u64 tt.b)∧W'.cell? ⟨b0+1+1,2,none⟩=some (.int .u64 tt.c)) ∧
    W'.cell? ⟨b0,0,none⟩=some (.pointer (some ⟨mb,0,none⟩))∧W'.cell? ⟨mb,768+k * 3,none⟩=some (.int .u64 fk.a)∧W'.cell? ⟨mb,768+k * 3+1,none⟩=some (.int .u64 fk.b)∧W'.cell? ⟨mb,768+k * 3+2,none⟩=some (.int .u64 fk.c))
   (by kernel_rfl) (by kernel_rfl) (hall.out _ (Below.refl _ _).drew) ?_
  iterate 11 (
   refine wpOrd_quiet ?_ rfl rfl (fun w' hS=>?_) ?_
   rotate_left
   ·obtain ⟨⟨q0,q1,q2⟩,q3,q4,q5,q6⟩:=hS
    go_simp
    first | rfl | done
   simp only [put_lit,List.set_cons_succ,List.set_cons_zero])
  refine wpOrd_loud rfl rfl (by decide) (fun K hK=>?_)
  go_simp
  have hor:=HOR.out W1.drew
  unfold PSet.val PSet.cells at hor
  refine hor.mono ?_
  clear hor
  rintro e W6 ⟨rfl,hb6⟩
  have hb16:Below W1.heap.size W1 W6:=(Below.refl _ _).drew.trans hb6
  have hc6:=hall.out W6 hb16
  have hM6:=HI.out.2.2.2.below hb16
  have g0:W6.frozen? ⟨mb,768+k * 3,none⟩=false:=hM6.free _
  have g1:W6.frozen? ⟨mb,768+k * 3+1,none⟩=false:=hM6.free _
  have g2:W6.frozen? ⟨mb,768+k * 3+2,none⟩=false:=hM6.free _
  refine hK _ _ hc6 ?_
  have HB16:=Lib.hid hb16
  have HM6:=Lib.hid hM6
  clear hK K hb6 hb16 hall c0 c1 c2 d0 e0 e1 e2 hM6
  refine wpOrd_loud rfl rfl (by decide) (fun K hK=>?_)
  go_simp
  refine hK _ _ hc6 ?_
  clear hK K
  obtain ⟨⟨q0,q1,q2⟩,q3,q4,q5,q6⟩:=hc6
  refine wpOrd_last rfl rfl (fun K hK=>?_)
  go_simp
  refine hK _ _ ?_
  clear hK K
  gi_wp2
  have k1:=heap_setCell_same W6 mb (768+k * 3) _ _ (.int .u64 ((fk.or tt).a:Nat)) HM6.out.2
  have k2:=heap_setCell_same _ mb (768+k * 3+1) _ _ (.int .u64 ((fk.or tt).b:Nat)) k1
  have k3:=heap_setCell_same _ mb (768+k * 3+2) _ _ (.int .u64 ((fk.or tt).c:Nat)) k2
  rw [PM.putFollow_cells HM6.out.1 hk] at k3
  have oth:∀ q,q≠mb→(((W6.setCell ⟨mb,768+k * 3,none⟩ (.int .u64 ((fk.or tt).a:Nat))).setCell ⟨mb,768+k * 3+1,none⟩ (.int .u64 ((fk.or tt).b:Nat))).setCell ⟨mb,768+k * 3+2,none⟩ (.int .u64 ((fk.or tt).c:Nat))).heap[q]?=W6.heap[q]?:=fun q hq=>by
   rw [Below.heap_setCell _ ⟨mb,768+k * 3+2,none⟩ _ q hq,Below.heap_setCell _ ⟨mb,768+k * 3+1,none⟩ _ q hq,Below.heap_setCell _ ⟨mb,768+k * 3,none⟩ _ q hq]
  have szz:(((W6.setCell ⟨mb,768+k * 3,none⟩ (.int .u64 ((fk.or tt).a:Nat))).setCell ⟨mb,768+k * 3+1,none⟩ (.int .u64 ((fk.or tt).b:Nat))).setCell ⟨mb,768+k * 3+2,none⟩ (.int .u64 ((fk.or tt).c:Nat))).heap.size=W6.heap.size:=by simp
  have hmod6:Mod (fun j=>j=mb) w W6:=HI.out.1.trans ⟨HB16.out.os,HB16.out.tape,HB16.out.output,HB16.out.size,fun j hj _=>HB16.out.block j hj⟩
  have jj:Mod (fun j=>j=mb) w (((W6.setCell ⟨mb,768+k * 3,none⟩ (.int .u64 ((fk.or tt).a:Nat))).setCell ⟨mb,768+k * 3+1,none⟩ (.int .u64 ((fk.or tt).b:Nat))).setCell ⟨mb,768+k * 3+2,none⟩ (.int .u64 ((fk.or tt).c:Nat))) :=
   ((hmod6.trans (Mod.setCell _ ⟨mb,_,none⟩ _ fun _=>rfl)).trans (Mod.setCell _ ⟨mb,_,none⟩ _ fun _=>rfl)).trans (Mod.setCell _ ⟨mb,_,none⟩ _ fun _=>rfl)
  generalize ((W6.setCell ⟨mb,768+k * 3,none⟩ (.int .u64 ((fk.or tt).a:Nat))).setCell ⟨mb,768+k * 3+1,none⟩ (.int .u64 ((fk.or tt).b:Nat))).setCell ⟨mb,768+k * 3+2,none⟩ (.int .u64 ((fk.or tt).c:Nat))=W7 at *
  have o17:∀ q o,W1.heap[q]?=some o→q≠mb→W7.heap[q]?=some o:=fun q o ho hq=>(oth q hq).trans ((HB16.out.block q (lt_of_heap ho)).trans ho)
  have hfok:=HI.out.2.2.2.1.of'
  refine ⟨⟨by rw [szz]; exact HB16.out.size,fun q o ho hoc=>o17 q o ho fun e=>?_⟩,?_,jj,o17 _ _ HI.out.2.1 (by omega),o17 _ _ HI.out.2.2.1 (by omega),?_,k3⟩
  ·rw [e,HI.out.2.2.2.2] at ho
   cases ho
   cases hoc
  ·have hq:4 < W1.heap.size:=by have:=HI.out.1.size; have:=HT.out.lt; omega
   rw [oth _ hgm]
   exact HB16.out.block _ hq
  ·exact PM.ok_putFollow HM6.out.1 k (PSet.ok_or HFOK.out HTT.out)
 case done =>
  rintro Dm W1 hD ⟨hmod,h0,h2,hM1⟩ hdf
  have HE:=Lib.hid (show _∧_∧_ from ⟨hmod,hM1,hdf⟩)
  clear hmod h0 h2 hM1 hdf
  go_wp2_with fail
  change LeavesInM Fence.wide 5 Tryz.prog Tryz.f152 _ _ [{ target := .collected Dm,args:=#[] }] .returning W1
  refine leaves_one Dm W1 HE.out.2.2 fun w' hm=>⟨_,results_none rfl _ _ _,rfl,⟨HE.out.2.1.1,(hm.block mb (lt_of_heap HE.out.2.1.2) fun e=>?_).trans HE.out.2.1.2⟩,⟨hm.os.trans HE.out.1.os,hm.tape.trans HE.out.1.tape,hm.output.trans HE.out.1.output,Nat.le_trans HE.out.1.size hm.size,fun j hj hn=>(hm.block j (Nat.lt_of_lt_of_le hj HE.out.1.size) fun e=>?_).trans (HE.out.1.block j hj hn)⟩⟩
  ·have:=HE.out.2.2
   rw [← e,HE.out.2.1.2] at this
   cases this
  ·rw [e,← HB0.out] at hj
   omega
end Go.Proofs.Ts
namespace Go.Proofs.Ts
open Go Go.RowKit
structure BSet where
 a:Nat
 b:Nat
 c:Nat
 d:Nat
 deriving DecidableEq,Inhabited
namespace BSet
def word (s:BSet):Nat→Nat
 | 0=>s.a
 | 1=>s.b
 | 2=>s.c
 | _=>s.d
def ok (s:BSet):Prop:=s.a < W64∧s.b < W64∧s.c < W64∧s.d < W64
def has (s:BSet) (c:Nat):Bool:=(s.word (c / 64)).testBit (c % 64)
def cells (s:BSet):List Value:=[.int .u64 s.a,.int .u64 s.b,.int .u64 s.c,.int .u64 s.d]
theorem ok_word {s:BSet} (h:s.ok) (i:Nat):s.word i < W64:=by
 obtain ⟨h1,h2,h3,h4⟩:=h
 match i with
 | 0=>exact h1
 | 1=>exact h2
 | 2=>exact h3
 | _+3=>exact h4
theorem cells_at (s:BSet) {j:Nat} (h:j < 4):s.cells.toArray[j]?=some (.int .u64 (s.word j)):=by
 match j with
 | 0=>rfl
 | 1=>rfl
 | 2=>rfl
 | 3=>rfl
 | n+4=>omega
end BSet
inductive Ast where
 | empty
 | huge
 | one (s:BSet)
 | seq (a b:Ast)
 | or (a b:Ast)
 | many (a:Ast) (sm:Bool)
 | maybe (a:Ast)
namespace Ast
def val:Ast→Value
 | empty => .iface 263 (.agg #[])
 | huge => .iface 326 (.agg #[])
 | one s => .iface 266 (.agg s.cells.toArray)
 | seq a b => .iface 331 (.agg #[a.val,b.val])
 | or a b => .iface 325 (.agg #[a.val,b.val])
 | many a sm => .iface 270 (.agg #[a.val,.bool sm])
 | maybe a => .iface 328 (.agg #[a.val])
def count:Ast→Nat
 | empty | huge=>0
 | one _=>1
 | seq a b | or a b=>a.count+b.count
 | many a _ | maybe a=>a.count
def ok:Ast→Prop
 | empty | huge=>True
 | one s=>s.ok
 | seq a b | or a b=>a.ok∧b.ok
 | many a _ | maybe a=>a.ok
end Ast
structure Part where
 first:PSet
 last:PSet
 none:Bool
def Part.cells (p:Part):List Value:=p.first.cells++(p.last.cells++[.bool p.none])
def Part.val (p:Part):Value := .agg p.cells.toArray
structure Part.ok (p:Part):Prop where
 f:p.first.ok
 l:p.last.ok
def PM.putPlace (M:PM) (s:BSet):PM:={ M with at':=(M.at'.zipIdx).map fun q=>if s.has q.2 then q.1.on M.n else q.1,n:=M.n+1 }
def Part.or (p q:Part):Part:=⟨p.first.or q.first,p.last.or q.last,p.none || q.none⟩
def Part.seq (p q:Part):Part:=⟨if p.none then p.first.or q.first else p.first,if q.none then q.last.or p.last else q.last,p.none && q.none⟩
def PM.part:Ast→PM→PM × Part
 | .empty,M=>(M,⟨.zero,.zero,true⟩)
 | .huge,M=>(M,⟨.zero,.zero,true⟩)
 | .one s,M=>(M.putPlace s,⟨PSet.zero.on M.n,PSet.zero.on M.n,false⟩)
 | .or a b,M=>((PM.part b (PM.part a M).1).1,(PM.part a M).2.or (PM.part b (PM.part a M).1).2)
 | .seq a b,M=>((PM.part b (PM.part a M).1).1.link (PM.part a M).2.last.elems (PM.part b (PM.part a M).1).2.first,(PM.part a M).2.seq (PM.part b (PM.part a M).1).2)
 | .many a sm,M=>((PM.part a M).1.link (PM.part a M).2.last.elems (PM.part a M).2.first,⟨(PM.part a M).2.first,(PM.part a M).2.last,(PM.part a M).2.none || !sm⟩)
 | .maybe a,M=>((PM.part a M).1,⟨(PM.part a M).2.first,(PM.part a M).2.last,true⟩)
theorem bit_and_one (x r:Nat):(x / 2 ^ r) &&& 1=if x.testBit r then 1 else 0:=by
 rw [Nat.and_one_is_mod,Nat.testBit_eq_decide_div_mod_eq]
 by_cases h:x / 2 ^ r % 2=1
 ·simp [h]
 ·simp [h]; omega
set_option maxRecDepth 100000 in
set_option maxHeartbeats 1000000 in
theorem setHas_any (s:BSet) (c:Nat) (w:World) (hs:s.ok) (hc:c < 256) :
  Calls Tryz.prog 150 #[.agg s.cells.toArray,.int .u8 c] w fun e w'=>e = .returned (.bool (s.has c))∧Below w.heap.size w w':=by
 obtain ⟨q,hq⟩:∃ q,q=c / 64:=⟨_,rfl⟩
 obtain ⟨r,hr⟩:∃ r,r=c % 64:=⟨_,rfl⟩
 have hq4:q < 4:=by omega
 have hr64:r < 64:=by omega
 obtain ⟨x,hx⟩:∃ x,x=s.word q:=⟨_,rfl⟩
 have hxl:x < W64:=by rw [hx]; exact BSet.ok_word hs q
 have hhas:s.has c=x.testBit r:=by unfold BSet.has; rw [hx,hq,hr]
 rw [hhas]
 have hb:(w.alloc (.cells #[.int .u64 s.a,.int .u64 s.b,.int .u64 s.c,.int .u64 s.d] 266)).heap[w.heap.size]?=some (.cells s.cells.toArray 266 (0,0)):=heap_alloc_new w _
 have hbe:Below w.heap.size w (w.alloc (.cells #[.int .u64 s.a,.int .u64 s.b,.int .u64 s.c,.int .u64 s.d] 266)):=(Below.refl _ w).alloc (Nat.le_refl _) _
 have c0:(w.alloc (.cells #[.int .u64 s.a,.int .u64 s.b,.int .u64 s.c,.int .u64 s.d] 266)).cell? ⟨w.heap.size,q,none⟩=some (.int .u64 x):=by rw [cell_block hb,BSet.cells_at _ hq4,hx]
 have d1:(c:Int) / 64=(q:Int):=by omega
 have d2:(c:Int) % 64=(r:Int):=by omega
 have d3:Int.tdiv (c:Int) 64=(q:Int):=by rw [Int.tdiv_eq_ediv_of_nonneg (by omega)]; exact d1
 have d4:Int.tmod (c:Int) 64=(r:Int):=by rw [Int.tmod_eq_emod_of_nonneg (by omega)]; exact d2
 have d5:(x:Int) / 2 ^ r=((x / 2 ^ r:Nat):Int):=by simp
 have hy:x / 2 ^ r < W64:=Nat.lt_of_le_of_lt (Nat.div_le_self _ _) hxl
 have hand:bits .and .u64 ((x / 2 ^ r:Nat):Int) ((1:Nat):Int)=(((x / 2 ^ r) &&& 1:Nat):Int):=bits_and_u64_nat _ 1 hy (by decide)
 rw [bit_and_one] at hand
 have d6:IntKind.u8.wrap (q:Int)=(q:Int):=IntWalk.u8_in _ (by omega)
 have d7:IntKind.u8.wrap (r:Int)=(r:Int):=IntWalk.u8_in _ (by omega)
 have d8:(q:Int) < 4:=by omega
 have d9:(r:Int)≤64:=by omega
 obtain ⟨t,ht⟩:∃ t,t=x.testBit r:=⟨_,rfl⟩
 rw [← ht] at hand ⊢
 rw [← d5] at hand
 have HBE:=Lib.hid hbe
 clear hs hx hq hr hxl hhas hb hbe hy ht d5
 unfold BSet.cells
 go_enter Tryz.func150,Tryz.ntmps150
 go_wp2_with fail
 go_ret
 refine ⟨?_,HBE.out⟩
 rw [show ((1:Nat):Int)=1 from rfl] at hand
 refine ret_bool ?_
 rw [hand]
 cases t <;> rfl
/-! ### What a part keeps. -/
theorem PM.ok_putPlace {M:PM} (h:M.ok) (s:BSet):(M.putPlace s).ok :=
 ⟨by show ((M.at'.zipIdx).map _).length=256; simp [h.la],h.lf,fun t ht=>by
  obtain ⟨q,hq,rfl⟩:=List.mem_map.1 ht
  have hm:q.1∈M.at':=by
   obtain ⟨h1,h2,h3⟩:=List.mem_zipIdx hq
   rw [h3]
   exact List.getElem_mem _
  by_cases hh:s.has q.2=true
  ·rw [if_pos hh]; exact PSet.ok_on (h.oa _ hm) _
  ·rw [if_neg hh]; exact h.oa _ hm,h.of',h.ol⟩
def PSet.under (s:PSet) (n:Nat):Prop:=∀ k∈s.elems,k < n
theorem PSet.under_or {s t:PSet} {n:Nat} (h:s.under n) (k:t.under n):(s.or t).under n:=fun j hj=>by
 rw [PSet.mem_elems,PSet.mem_or,Bool.or_eq_true] at hj
 rcases hj.2 with h1 | h1
 ·exact h j ((PSet.mem_elems _ _).2 ⟨hj.1,h1⟩)
 ·exact k j ((PSet.mem_elems _ _).2 ⟨hj.1,h1⟩)
theorem PSet.under_zero (n:Nat):PSet.zero.under n:=fun k hk=>by
 rw [PSet.mem_elems,PSet.mem_zero] at hk
 cases hk.2
theorem PSet.under_on {k n:Nat} (h:k < n) (hn:k < 192):(PSet.zero.on k).under n:=fun j hj=>by
 rw [PSet.mem_elems] at hj
 have:=hj.2
 rw [PSet.mem_on _ _ _ hn hj.1,PSet.mem_zero,Bool.or_false,decide_eq_true_iff] at this
 omega
theorem PSet.under.mono {s:PSet} {n m:Nat} (h:s.under n) (hm:n≤m):s.under m:=fun k hk=>Nat.lt_of_lt_of_le (h k hk) hm
theorem PM.link_n (M:PM) (l:List Nat) (tt:PSet):(M.link l tt).n=M.n:=by
 unfold PM.link
 induction l generalizing M with
 | nil=>rfl
 | cons k l ih=>rw [List.foldl_cons,ih]; rfl
structure PartOk (M N:PM) (p:Part) (c:Nat):Prop where
 mach:N.ok
 part:p.ok
 n:N.n=M.n+c
 uf:p.first.under N.n
 ul:p.last.under N.n
theorem Part.ok_or {p q:Part} (h:p.ok) (k:q.ok):(p.or q).ok:=⟨PSet.ok_or h.f k.f,PSet.ok_or h.l k.l⟩
theorem Part.ok_seq {p q:Part} (h:p.ok) (k:q.ok):(p.seq q).ok:=⟨by
 show (if p.none then p.first.or q.first else p.first).ok
 split
 ·exact PSet.ok_or h.f k.f
 ·exact h.f,by
 show (if q.none then q.last.or p.last else q.last).ok
 split
 ·exact PSet.ok_or k.l h.l
 ·exact k.l⟩
theorem Part.under_seq {p q:Part} {n:Nat} (h1:p.first.under n) (h2:p.last.under n) (k1:q.first.under n) (k2:q.last.under n):(p.seq q).first.under n∧(p.seq q).last.under n:=⟨by
 show (if p.none then p.first.or q.first else p.first).under n
 split
 ·exact PSet.under_or h1 k1
 ·exact h1,by
 show (if q.none then q.last.or p.last else q.last).under n
 split
 ·exact PSet.under_or k2 h2
 ·exact k2⟩
theorem PartOk.one {M:PM} (h:M.ok) (s:BSet) (hn:M.n+1≤128):PartOk M (M.putPlace s) ⟨PSet.zero.on M.n,PSet.zero.on M.n,false⟩ 1 where
 mach:=M.ok_putPlace h s
 part:=⟨PSet.ok_on PSet.ok_zero _,PSet.ok_on PSet.ok_zero _⟩
 n:=rfl
 uf:=PSet.under_on (Nat.lt_succ_self _) (by omega)
 ul:=PSet.under_on (Nat.lt_succ_self _) (by omega)
theorem PartOk.or {M N L:PM} {p q:Part} {c d:Nat} (ha:PartOk M N p c) (hb:PartOk N L q d):PartOk M L (p.or q) (c+d):=by
 have hm:N.n≤L.n:=by rw [hb.n]; omega
 exact ⟨hb.mach,Part.ok_or ha.part hb.part,by rw [hb.n,ha.n]; omega,PSet.under_or (ha.uf.mono hm) hb.uf,PSet.under_or (ha.ul.mono hm) hb.ul⟩
theorem PartOk.seq {M N L:PM} {p q:Part} {c d:Nat} (ha:PartOk M N p c) (hb:PartOk N L q d):PartOk M (L.link p.last.elems q.first) (p.seq q) (c+d):=by
 have hm:N.n≤L.n:=by rw [hb.n]; omega
 have hu:=Part.under_seq (ha.uf.mono hm) (ha.ul.mono hm) hb.uf hb.ul
 exact ⟨PM.ok_link hb.mach hb.part.f _,Part.ok_seq ha.part hb.part,by rw [PM.link_n,hb.n,ha.n]; omega,by rw [PM.link_n]; exact hu.1,by rw [PM.link_n]; exact hu.2⟩
theorem PartOk.many {M N:PM} {p:Part} {c:Nat} (ha:PartOk M N p c) (b:Bool):PartOk M (N.link p.last.elems p.first) ⟨p.first,p.last,b⟩ c :=
 ⟨PM.ok_link ha.mach ha.part.f _,⟨ha.part.f,ha.part.l⟩,by rw [PM.link_n]; exact ha.n,by rw [PM.link_n]; exact ha.uf,by rw [PM.link_n]; exact ha.ul⟩
theorem part_ok (e:Ast):∀ (M:PM),M.ok→M.n+e.count≤128→PartOk M (PM.part e M).1 (PM.part e M).2 e.count:=by
 induction e with
 | empty=>exact fun M h _=>⟨h,⟨PSet.ok_zero,PSet.ok_zero⟩,rfl,PSet.under_zero _,PSet.under_zero _⟩
 | huge=>exact fun M h _=>⟨h,⟨PSet.ok_zero,PSet.ok_zero⟩,rfl,PSet.under_zero _,PSet.under_zero _⟩
 | one s=>exact fun M h hn=>PartOk.one h s hn
 | or a b iha ihb =>
  intro M h hn
  have hn':M.n+(a.count+b.count)≤128:=hn
  have ha:=iha M h (by omega)
  exact ha.or (ihb _ ha.mach (by rw [ha.n]; omega))
 | seq a b iha ihb =>
  intro M h hn
  have hn':M.n+(a.count+b.count)≤128:=hn
  have ha:=iha M h (by omega)
  exact ha.seq (ihb _ ha.mach (by rw [ha.n]; omega))
 | many a sm ih=>exact fun M h hn=>(ih M h hn).many _
 | maybe a ih=>exact fun M h hn=>⟨(ih M h hn).mach,⟨(ih M h hn).part.f,(ih M h hn).part.l⟩,(ih M h hn).n,(ih M h hn).uf,(ih M h hn).ul⟩
end Go.Proofs.Ts
namespace Go.Proofs.Ts
open Go
/-! ### Sets of bytes. -/
def BSet.setw (s:BSet) (i v:Nat):BSet:=match i with
 | 0=>{ s with a:=v }
 | 1=>{ s with b:=v }
 | 2=>{ s with c:=v }
 | _=>{ s with d:=v }
def BSet.on (s:BSet) (k:Nat):BSet:=s.setw (k / 64) (s.word (k / 64) ||| 2 ^ (k % 64))
def BSet.addN (s:BSet) (lo:Nat):Nat→BSet
 | 0=>s
 | n+1=>(s.addN lo n).on (lo+n)
def BSet.add (s:BSet) (lo hi:Nat):BSet:=s.addN lo (hi+1 - lo)
def BSet.zero:BSet:=⟨0,0,0,0⟩
def BSet.notN (s:BSet):Nat→BSet
 | 0=>s
 | n+1=>(s.notN n).setw n (18446744073709551615 ^^^ (s.notN n).word n)
def BSet.not (s:BSet):BSet:=s.notN 4
/-! ### Patterns. -/
def Ast.places:Ast→Nat
 | .empty=>0
 | .huge=>129
 | .one _=>1
 | .seq a b | .or a b=>min (a.places+b.places) 129
 | .many a _ | .maybe a=>a.places
def Ast.join:Ast→Ast→Ast
 | .empty,b=>b
 | a,.empty=>a
 | a,b => .seq a b
def Ast.joinN (x y:Ast):Nat→Ast
 | 0=>x
 | n+1=>(x.joinN y n).join y
abbrev Times:=Ast→Nat→Nat→Bool→Ast
def onceT:Times:=fun a _ _ _=>a
def repeatT:Times:=fun a lo hi endless =>
 if a.places * (if endless then lo+1 else hi) > 128 then .huge
 else if endless then (Ast.joinN .empty a lo).join (.many a false)
 else (Ast.joinN .empty a lo).joinN (.maybe a) (hi - lo)
/-! ### The text. -/
def classOne (s:ByteArray) (o:BSet) (i:Nat):PR BSet :=
 if clsB s i then
  match singleP s i with
  | .fault e => .fault e
  | .ok lo j =>
   if isB s j 45 then
    if clsB s (j+1) then
     match singleP s (j+1) with
     | .fault e => .fault e
     | .ok hi k=>if hi < lo then .fault (k - 1) else .ok (o.add lo.toNat hi.toNat) k
    else .fault (j+1)
   else .ok (o.add lo.toNat lo.toNat) j
 else .fault i
def classP (s:ByteArray):Nat→Bool→BSet→Nat→PR BSet
 | 0,_,_,i => .fault i
 | f+1,first,o,i =>
  if first || !isB s i 93 then
   match classOne s o i with
   | .fault e => .fault e
   | .ok o' j=>classP s f false o' j
  else .ok o i
def setP (s:ByteArray) (i:Nat):PR BSet :=
 match classP s (s.size+1) true .zero (eatB s i 94) with
 | .fault e => .fault e
 | .ok o j => .ok (if isB s i 94 then o.not else o) (j+1)
def wrongB (c:UInt8):Bool:=c == 41 || c == 93 || c == 123 || c == 125 || c == 42 || c == 43 || c == 63 || c == 124
def atomP (A:Nat→PR Ast) (s:ByteArray) (i:Nat):PR Ast :=
 match s.data.toList[i]? with
 | none => .fault i
 | some c =>
  if c=40 then
   match A (i+1) with
   | .fault e => .fault e
   | .ok x j=>if isB s j 41 then .ok x (j+1) else .fault j
  else if c=46 then .ok (.one (BSet.zero.add 0 255)) (i+1)
  else if c=91 then
   match setP s (i+1) with
   | .fault e => .fault e
   | .ok o j => .ok (.one o) j
  else if wrongB c then .fault i
  else
   match singleP s i with
   | .fault e => .fault e
   | .ok d j => .ok (.one (BSet.zero.add d.toNat d.toNat)) j
def timesP (T:Times) (s:ByteArray) (a:Ast) (i:Nat):PR Ast :=
 match digitP s i 0 with
 | .fault e => .fault e
 | .ok lo j =>
  if isB s j 44 then
   if isB s (j+1) 125 then .ok (T a lo lo true) (j+2)
   else
    match digitP s (j+1) lo with
    | .fault e => .fault e
    | .ok hi k=>if isB s k 125 then .ok (T a lo hi false) (k+1) else .fault k
  else if isB s j 125 then .ok (T a lo lo false) (j+1) else .fault j
def behindP (T:Times) (s:ByteArray) (a:Ast) (i:Nat):PR Ast :=
 if isB s i 42 then .ok (.many a false) (i+1)
 else if isB s i 43 then .ok (.many a true) (i+1)
 else if isB s i 63 then .ok (.maybe a) (i+1)
 else if isB s i 123 then timesP T s a (i+1)
 else .ok a i
def repP (T:Times) (A:Nat→PR Ast) (s:ByteArray) (i:Nat):PR Ast :=
 match atomP A s i with
 | .fault e => .fault e
 | .ok a j=>behindP T s a j
def moreB (s:ByteArray) (i:Nat):Bool:=decide (i < s.size) && !isB s i 124 && !isB s i 41
def seqP (T:Times) (A:Nat→PR Ast) (s:ByteArray):Nat→Ast→Nat→PR Ast
 | 0,_,i => .fault i
 | f+1,x,i =>
  if moreB s i then
   match repP T A s i with
   | .fault e => .fault e
   | .ok y j=>seqP T A s f (x.join y) j
  else .ok x i
def orP (T:Times) (A:Nat→PR Ast) (s:ByteArray):Nat→Ast→Nat→PR Ast
 | 0,_,i => .fault i
 | f+1,x,i =>
  if isB s i 124 then
   match seqP T A s (s.size+1) .empty (i+1) with
   | .fault e => .fault e
   | .ok y j=>orP T A s f (.or x y) j
  else .ok x i
def altP (T:Times) (s:ByteArray):Nat→Nat→PR Ast
 | 0,i => .fault i
 | n+1,i =>
  match seqP T (altP T s n) s (s.size+1) .empty i with
  | .fault e => .fault e
  | .ok x j=>orP T (altP T s n) s (s.size+1) x j
inductive Parsed where
 | fault (i:Nat)
 | big
 | ok (x:Ast)
def parseP (s:ByteArray):Parsed :=
 match altP onceT s (s.size+1) 0 with
 | .fault e => .fault e
 | .ok _ j =>
  if j=s.size then
   match altP repeatT s (s.size+1) 0 with
   | .fault e => .fault e
   | .ok x _=>if x.places > 128 then .big else .ok x
  else .fault j
/-! ### Places rise. -/
theorem classOne_on (s:ByteArray) (o:BSet) (i:Nat) (h:i≤s.size):(classOne s o i).On s i:=by
 unfold classOne
 split
 ·have h1:=single_on s i h
  split
  ·rename_i he; rw [he] at h1; exact h1
  ·rename_i lo j he
   rw [he] at h1
   have h1':i < j∧j≤s.size:=h1
   split
   ·rename_i hd
    have hd':=isB_lt hd
    split
    ·have h2:=single_on s (j+1) (by omega)
     split
     ·rename_i he2; rw [he2] at h2; exact h2
     ·rename_i hi k he2
      rw [he2] at h2
      have h2':j+1 < k∧k≤s.size:=h2
      split
      ·show k - 1≤s.size; omega
      ·exact ⟨by omega,by omega⟩
    ·show j+1≤s.size; omega
   ·exact h1'
 ·exact h
theorem class_good (s:ByteArray):∀ (f:Nat) (first:Bool) (o:BSet) (i:Nat),i≤s.size→s.size < f+i→(classP s f first o i).Good s i ∧ ∀ o' j,classP s f first o i = .ok o' j→isB s j 93=true
 | 0,_,_,i,h,hf=>by omega
 | f+1,first,o,i,h,hf=>by
  unfold classP
  split
  ·have h1:=classOne_on s o i h
   cases he:classOne s o i with
   | fault e=>rw [he] at h1; exact ⟨h1,fun o' j hh=>by cases hh⟩
   | ok o' j =>
    rw [he] at h1
    have h1':i < j∧j≤s.size:=h1
    have ih:=class_good s f false o' j (by omega) (by omega)
    refine ⟨?_,ih.2⟩
    have ih1:=ih.1
    show (classP s f false o' j).Good s i
    cases hc:classP s f false o' j with
    | fault e=>rw [hc] at ih1; exact ih1
    | ok o2 j2 =>
     rw [hc] at ih1
     have ih1':j≤j2∧j2≤s.size:=ih1
     exact ⟨by omega,by omega⟩
  ·rename_i hn
   refine ⟨⟨Nat.le_refl _,h⟩,fun o' j hh=>?_⟩
   cases hh
   have hn':first=false∧isB s i 93=true:=by simpa using hn
   exact hn'.2
theorem set_on (s:ByteArray) (i:Nat) (h:i≤s.size):(setP s i).On s i:=by
 have h0:=eat_le s i 94 h
 have h1:=class_good s (s.size+1) true .zero (eatB s i 94) h0.2 (by omega)
 unfold setP
 cases he:classP s (s.size+1) true .zero (eatB s i 94) with
 | fault e=>rw [he] at h1; exact h1.1
 | ok o j =>
  have h2:=isB_lt (h1.2 o j he)
  rw [he] at h1
  have h1':eatB s i 94≤j∧j≤s.size:=h1.1
  exact ⟨by omega,by omega⟩
theorem atom_on (A:Nat→PR Ast) (s:ByteArray) (i:Nat) (h:i≤s.size) (hA:∀ j,i < j→j≤s.size→(A j).Good s j):(atomP A s i).On s i:=by
 unfold atomP
 split
 ·exact h
 ·rename_i c hc
  have hl:=lt_of_at hc
  split
  ·have h1:=hA (i+1) (by omega) (by omega)
   split
   ·rename_i he; rw [he] at h1; exact h1
   ·rename_i x j he
    rw [he] at h1
    have h1':i+1≤j∧j≤s.size:=h1
    split
    ·have:=isB_lt (by assumption)
     exact ⟨by omega,by omega⟩
    ·exact h1'.2
  ·split
   ·exact ⟨by omega,by omega⟩
   ·split
    ·have h1:=set_on s (i+1) (by omega)
     split
     ·rename_i he; rw [he] at h1; exact h1
     ·rename_i o j he
      rw [he] at h1
      have h1':i+1 < j∧j≤s.size:=h1
      exact ⟨by omega,by omega⟩
    ·split
     ·exact h
     ·have h1:=single_on s i h
      split
      ·rename_i he; rw [he] at h1; exact h1
      ·rename_i o j he; rw [he] at h1; exact h1
theorem times_good (T:Times) (s:ByteArray) (a:Ast) (i:Nat) (h:i≤s.size):(timesP T s a i).Good s i:=by
 unfold timesP
 have h1:=digit_on s i 0 h
 split
 ·rename_i he; rw [he] at h1; exact h1
 ·rename_i lo j he
  rw [he] at h1
  have h1':i < j∧j≤s.size:=h1
  split
  ·have:=isB_lt (by assumption)
   split
   ·have:=isB_lt (by assumption)
    exact ⟨by omega,by omega⟩
   ·have h2:=digit_on s (j+1) lo (by omega)
    split
    ·rename_i he2; rw [he2] at h2; exact h2
    ·rename_i hi k he2
     rw [he2] at h2
     have h2':j+1 < k∧k≤s.size:=h2
     split
     ·have:=isB_lt (by assumption)
      exact ⟨by omega,by omega⟩
     ·exact h2'.2
  ·split
   ·have:=isB_lt (by assumption)
    exact ⟨by omega,by omega⟩
   ·exact h1'.2
theorem behind_good (T:Times) (s:ByteArray) (a:Ast) (i:Nat) (h:i≤s.size):(behindP T s a i).Good s i:=by
 unfold behindP
 split
 ·have:=isB_lt (by assumption); exact ⟨by omega,by omega⟩
 ·split
  ·have:=isB_lt (by assumption); exact ⟨by omega,by omega⟩
  ·split
   ·have:=isB_lt (by assumption); exact ⟨by omega,by omega⟩
   ·split
    ·have:=isB_lt (by assumption)
     have h1:=times_good T s a (i+1) (by omega)
     cases he:timesP T s a (i+1) with
     | fault e=>rw [he] at h1; exact h1
     | ok x j =>
      rw [he] at h1
      have h1':i+1≤j∧j≤s.size:=h1
      exact ⟨by omega,by omega⟩
    ·exact ⟨Nat.le_refl _,h⟩
theorem rep_on (T:Times) (A:Nat→PR Ast) (s:ByteArray) (i:Nat) (h:i≤s.size) (hA:∀ j,i < j→j≤s.size→(A j).Good s j):(repP T A s i).On s i:=by
 unfold repP
 have h1:=atom_on A s i h hA
 split
 ·rename_i he; rw [he] at h1; exact h1
 ·rename_i a j he
  rw [he] at h1
  have h1':i < j∧j≤s.size:=h1
  have h2:=behind_good T s a j h1'.2
  cases hb:behindP T s a j with
  | fault e=>rw [hb] at h2; exact h2
  | ok x k =>
   rw [hb] at h2
   have h2':j≤k∧k≤s.size:=h2
   exact ⟨by omega,by omega⟩
theorem seq_good (T:Times) (A:Nat→PR Ast) (s:ByteArray) (hA:∀ j,j≤s.size→(A j).Good s j):∀ (f:Nat) (x:Ast) (i:Nat),i≤s.size→(seqP T A s f x i).Good s i
 | 0,_,i,h=>h
 | f+1,x,i,h=>by
  unfold seqP
  split
  ·have h1:=rep_on T A s i h fun j _=>hA j
   split
   ·rename_i he; rw [he] at h1; exact h1
   ·rename_i y j he
    rw [he] at h1
    have h1':i < j∧j≤s.size:=h1
    have ih:=seq_good T A s hA f (x.join y) j h1'.2
    cases hc:seqP T A s f (x.join y) j with
    | fault e=>rw [hc] at ih; exact ih
    | ok z k =>
     rw [hc] at ih
     have ih':j≤k∧k≤s.size:=ih
     exact ⟨by omega,by omega⟩
  ·exact ⟨Nat.le_refl _,h⟩
theorem or_good (T:Times) (A:Nat→PR Ast) (s:ByteArray) (hA:∀ j,j≤s.size→(A j).Good s j):∀ (f:Nat) (x:Ast) (i:Nat),i≤s.size→(orP T A s f x i).Good s i
 | 0,_,i,h=>h
 | f+1,x,i,h=>by
  unfold orP
  split
  ·have hl:=isB_lt (by assumption)
   have h1:=seq_good T A s hA (s.size+1) .empty (i+1) (by omega)
   split
   ·rename_i he; rw [he] at h1; exact h1
   ·rename_i y j he
    rw [he] at h1
    have h1':i+1≤j∧j≤s.size:=h1
    have ih:=or_good T A s hA f (.or x y) j h1'.2
    cases hc:orP T A s f (.or x y) j with
    | fault e=>rw [hc] at ih; exact ih
    | ok z k =>
     rw [hc] at ih
     have ih':j≤k∧k≤s.size:=ih
     exact ⟨by omega,by omega⟩
  ·exact ⟨Nat.le_refl _,h⟩
theorem alt_good (T:Times) (s:ByteArray):∀ (n i:Nat),i≤s.size→(altP T s n i).Good s i
 | 0,i,h=>h
 | n+1,i,h=>by
  have hA:=alt_good T s n
  unfold altP
  have h1:=seq_good T (altP T s n) s hA (s.size+1) .empty i h
  split
  ·rename_i he; rw [he] at h1; exact h1
  ·rename_i x j he
   rw [he] at h1
   have h1':i≤j∧j≤s.size:=h1
   have h2:=or_good T (altP T s n) s hA (s.size+1) x j h1'.2
   cases hc:orP T (altP T s n) s (s.size+1) x j with
   | fault e=>rw [hc] at h2; exact h2
   | ok z k =>
    rw [hc] at h2
    have h2':j≤k∧k≤s.size:=h2
    exact ⟨by omega,by omega⟩
end Go.Proofs.Ts
namespace Go.Proofs.Ts
open Go Go.RowKit
section
variable {P:Program} {ops:Array Oper} {S:World→Prop} {Q:Exit→Act→World→Prop}
def nextLev (ops:Array Oper) (ls:List (Array Bool)):List (Array Bool):=(ls.flatMap fun l=>(Region.ready .any ops l).map fun i=>l.setIfInBounds i true).eraseDups
def levOk (ops:Array Oper) (F:List Nat) (lF:Array Bool):Nat→List (Array Bool)→Bool
 | 0,ls=>ls.all (· == lF)
 | k+1,ls=>(ls.all fun l=>!(Region.ready .any ops l).isEmpty && (Region.ready .any ops l).all F.contains) && levOk ops F lF k (nextLev ops ls)
theorem anyX_free {x n':Nat} {F:List Nat} {lF:Array Bool} (Inv:Array Bool→Act→World→Prop)
  (hstep:∀ l a w i,Inv l a w→i∈F→i∈Region.ready .any ops l→wpOp P ops Q i (fun a' w'=>(i≠x→S w')∧Inv (l.setIfInBounds i true) a' w') a w)
  (hfin:∀ a w,Shut ops lF→Inv lF a w→anyX P ops Q S x n' lF a w) :
  ∀ (k:Nat) (ls:List (Array Bool)),levOk ops F lF k ls=true → ∀ l∈ls,Shut ops l → ∀ a w,Inv l a w→anyX P ops Q S x (n'+k) l a w
 | 0,ls,hL,l,hl,hsh,a,w,hI=>by
  have:=List.all_eq_true.1 hL l hl
  rw [beq_iff_eq] at this
  subst this
  exact hfin a w hsh hI
 | k+1,ls,hL,l,hl,hsh,a,w,hI=>by
  simp only [levOk,Bool.and_eq_true] at hL
  have h1:=List.all_eq_true.1 hL.1 l hl
  simp only [Bool.and_eq_true,Bool.not_eq_true',List.isEmpty_eq_false_iff] at h1
  refine ⟨fun h0=>absurd h0 h1.1,fun i hi=>?_⟩
  have hF:i∈F:=by
   have:=List.all_eq_true.1 h1.2 i hi
   simpa using this
  refine wpOp_mono (fun a' w' h=>⟨h.1,anyX_free Inv hstep hfin k (nextLev ops ls) hL.2 (l.setIfInBounds i true) ?_ (hsh.step hi) a' w' h.2⟩) (hstep l a w i hI hF hi)
  unfold nextLev
  rw [List.mem_eraseDups]
  exact List.mem_flatMap.2 ⟨l,hl,List.mem_map.2 ⟨i,hi,rfl⟩⟩
def preB (ops:Array Oper):List Nat→Array Bool→Array Bool→Bool
 | [],listed,l0=>listed == l0
 | i :: rest,listed,l0=>(Region.ready .any ops listed).contains i && Region.free .any ops listed i && preB ops rest (listed.setIfInBounds i true) l0
theorem anyX_of_pre {lo:List Oper} {x n:Nat} {l0:Array Bool} (hs:Region.noSelect lo.toArray=true) {Q':Exit→Act→World→Prop} (hp:∀ c a w,¬ Q' (.panic c) a w) :
  ∀ (l:List Nat) (listed:Array Bool) (a:Act) (w:World),Shut lo.toArray listed→(∀ q∈l,waitsT lo.toArray 64 x q=true∨lo.toArray[x]?=none) →
  preB lo.toArray l listed l0=true→S w→wpOrd P lo S x (fun a w=>Shut lo.toArray l0→S w→anyX P lo.toArray Q' S x n l0 a w) (l.map fun i=>(i,false)) a w→anyX P lo.toArray Q' S x (n+l.length) listed a w
 | [],listed,a,w,hsh,_,hB,hS,h=>by
  simp only [preB,beq_iff_eq] at hB
  subst hB
  exact h hsh hS
 | i :: rest,listed,a,w,hsh,hl,hB,hS,h=>by
  simp only [preB,Bool.and_eq_true] at hB
  obtain ⟨⟨hr,hf⟩,hB'⟩:=hB
  have hri:i∈Region.ready .any lo.toArray listed:=by simpa using hr
  have ih:=anyX_of_pre (x:=x) (n:=n) (l0:=l0) hs hp rest (listed.setIfInBounds i true)
  rw [List.map_cons] at h
  unfold wpOrd at h
  split at h
  ·exact h.elim
  ·rename_i o ho
   obtain ⟨v,hy,hk⟩:=h
   have ho':lo.toArray[i]?=some o:=by simpa using ho
   exact anyX_firstT (hl i List.mem_cons_self) ho' hs (fun c a w hq=>(hp _ _ _ hq).elim) (n+rest.length) listed a w hsh (Region.free_spec ho' hf) hri hy hS (ih _ _ (hsh.step hri) (fun q hq=>hl q (List.mem_cons_of_mem _ hq)) hB' hS hk)
theorem wpOrd_pre_mono {lo:List Oper} {x:Nat} {R R':Act→World→Prop} (h:∀ a w,R a w→R' a w):∀ (l:List Nat) (a:Act) (w:World),wpOrd P lo S x R (l.map fun i=>(i,false)) a w→wpOrd P lo S x R' (l.map fun i=>(i,false)) a w
 | [],a,w,hh=>h a w hh
 | i :: rest,a,w,hh=>by
  rw [List.map_cons] at hh ⊢
  unfold wpOrd at hh ⊢
  split at hh
  ·exact hh.elim
  ·rename_i o ho
   obtain ⟨v,hy,hk⟩:=hh
   exact ⟨v,hy,wpOrd_pre_mono h rest _ _ hk⟩
theorem ready_set {l:Array Bool} {i:Nat} (h:i∈Region.ready .any ops l) (j:Nat):(l.setIfInBounds i true).getD j false=if j=i then true else l.getD j false:=by
 have h1:=(mem_ready.1 h).1
 have hi:i < l.size:=by
  rcases Nat.lt_or_ge i l.size with h' | h'
  ·exact h'
  ·simp [Array.getElem?_eq_none h'] at h1
 by_cases e:j=i
 ·subst e
  simp [hi]
 ·rw [if_neg e]
  simp only [Array.getD_eq_getD_getElem?]
  rw [Array.getElem?_setIfInBounds_ne (Ne.symm e)]
theorem wp_region_ordV {id:Nat} {a:Act} {w:World} {lo:List Oper} (pre:List Nat) (F:List Nat) (k:Nat) (post:List (Nat × Bool)) (l0 lF:Array Bool) (x:Nat) (S:World→Prop) (hm:P.follows .mixedOrders=true)
  (hs:(Region.noSelect lo.toArray && (pre.all fun q=>waitsT lo.toArray 64 x q || (lo.toArray[x]?).isNone) && (post.all fun q=>q.2 || waitsT lo.toArray 64 x q.1 || (lo.toArray[x]?).isNone) && (pre.length+k+post.length == lo.length) &&
   preB lo.toArray pre (Array.replicate lo.length false) l0 && levOk lo.toArray F lF k [l0] && ordB lo.toArray post lF)=true) (hS:S w.drew)
  (hpre:wpOrd P lo S x (fun a w=>S w → ∃ Inv:Array Bool→Act→World→Prop,Inv l0 a w ∧
   (∀ (l:Array Bool) a w i,Inv l a w→i∈F→i∈Region.ready .any lo.toArray l→wpOp P lo.toArray (NoPanic Q) i (fun a' w'=>(i≠x→S w')∧Inv (l.setIfInBounds i true) a' w') a w) ∧
   ∀ a w,Inv lF a w→S w∧wpOrd P lo S x (Q .normal) post a w) (pre.map fun i=>(i,false)) a w.drew):(Code.region id lo.toArray true).wp P Q a w:=by
 simp only [Bool.and_eq_true,beq_iff_eq] at hs
 obtain ⟨⟨⟨⟨⟨⟨h1,h2⟩,h3⟩,h4⟩,h5⟩,h6⟩,h7⟩:=hs
 have h2':∀ q∈pre,waitsT lo.toArray 64 x q=true∨lo.toArray[x]?=none:=fun q hq=>by
  have:=List.all_eq_true.1 h2 q hq
  simpa using this
 have h3':∀ q∈post,q.2=false→waitsT lo.toArray 64 x q.1=true∨lo.toArray[x]?=none:=fun q hq hf=>by
  have:=List.all_eq_true.1 h3 q hq
  rw [hf] at this
  simpa using this
 refine wp_region_noPanic (wp_region_any hm (wpAny_of_anyX (S:=S) (x:=x) _ _ _ _ ?_))
 have key:=anyX_of_pre (P:=P) (S:=S) (lo:=lo) (x:=x) (n:=post.length+k) (l0:=l0) h1 (Q':=NoPanic Q) (fun _ _ _ h=>h) pre (Array.replicate lo.length false) a w.drew (shut_none _) h2' h5 hS ?_
 ·have e:post.length+k+pre.length=lo.length:=by omega
  rw [e] at key
  simpa using key
 ·refine wpOrd_pre_mono ?_ pre _ _ hpre
  intro a' w' hI hsh hS'
  obtain ⟨Inv,hI0,hstep,hpost⟩:=hI hS'
  exact anyX_free (P:=P) (Q:=NoPanic Q) (S:=S) (F:=F) (lF:=lF) Inv hstep (fun a w hsh hI=>anyX_of_ordT (Q:=Q) (Q':=NoPanic Q) h1 (fun _ _ h=>h) (fun _ _ _ h=>h) post lF a w hsh h3' h7 (hpost a w hI).1 (hpost a w hI).2) k [l0] h6 l0 (by simp) hsh a' w' hI0
theorem wpOp_loudK {lo:List Oper} {j:Nat} {o:Oper} {a:Act} {w:World} {K0:Act→World→Prop} (ho:lo[j]?=some o) (hw:Region.wanted o (yielded lo.toArray a.tmps)=true)
  (h:∀ K:Act→World→Prop,Hid (∀ a' w',K0 a' w'→K a' w')→o.wp P a w K (NoPanic fun _ _ _=>False)):wpOp P lo.toArray Q j K0 a w:=wpOp_loud ho hw (h K0 (Lib.hid fun _ _ h=>h))
def puts4 (a:Act) (s1 s2 s3 s4:Nat) (v1 v2 v3 v4:Value):Act:=(((a.put (some s1) v1).put (some s2) v2).put (some s3) v3).put (some s4) v4
theorem inv4 {lo:List Oper} {x:Nat} {F:List Nat} {l0 lF:Array Bool} {post:List (Nat × Bool)} {a0:Act} {w:World} {S:World→Prop} (s1 s2 s3 s4:Nat) (T:Array Bool→Value→Value→Value→Value→World→Prop)
  (hu:a0=puts4 a0 s1 s2 s3 s4 undef undef undef undef) (h0:T l0 undef undef undef undef w)
  (hstep:∀ l v1 v2 v3 v4 w' i,T l v1 v2 v3 v4 w'→i∈F→i∈Region.ready .any lo.toArray l →
   wpOp P lo.toArray (NoPanic Q) i (fun a' w''=>(i≠x→S w'') ∧ ∃ u1 u2 u3 u4,a'=puts4 a0 s1 s2 s3 s4 u1 u2 u3 u4∧T (l.setIfInBounds i true) u1 u2 u3 u4 w'') (puts4 a0 s1 s2 s3 s4 v1 v2 v3 v4) w')
  (hend:∀ v1 v2 v3 v4 w',T lF v1 v2 v3 v4 w'→S w')
  (hpost:∀ v1 v2 v3 v4 w',T lF v1 v2 v3 v4 w' → ∀ G:Prop,Hid (wpOrd P lo S x (Q .normal) post (puts4 a0 s1 s2 s3 s4 v1 v2 v3 v4) w'→G)→G) :
  ∃ Inv:Array Bool→Act→World→Prop,Inv l0 a0 w ∧
   (∀ (l:Array Bool) a w i,Inv l a w→i∈F→i∈Region.ready .any lo.toArray l→wpOp P lo.toArray (NoPanic Q) i (fun a' w'=>(i≠x→S w')∧Inv (l.setIfInBounds i true) a' w') a w) ∧
   ∀ a w,Inv lF a w→S w∧wpOrd P lo S x (Q .normal) post a w :=
 ⟨fun l a w'=>∃ u1 u2 u3 u4,a=puts4 a0 s1 s2 s3 s4 u1 u2 u3 u4∧T l u1 u2 u3 u4 w',⟨undef,undef,undef,undef,hu,h0⟩,fun l a w' i h hi hr=>by
  obtain ⟨v1,v2,v3,v4,rfl,hT⟩:=h
  exact hstep l v1 v2 v3 v4 w' i hT hi hr,fun a w' h=>by
  obtain ⟨v1,v2,v3,v4,rfl,hT⟩:=h
  exact ⟨hend v1 v2 v3 v4 w' hT,hpost v1 v2 v3 v4 w' hT _ (Lib.hid id)⟩⟩
def putsL (a:Act):List Nat→List Value→Act
 | s :: ss,v :: vs=>putsL (a.put (some s) v) ss vs
 | _,_=>a
theorem invL {lo:List Oper} {x:Nat} {F:List Nat} {l0 lF:Array Bool} {post:List (Nat × Bool)} {a0:Act} {w:World} {S:World→Prop} (ss:List Nat) (v0:List Value) (T:Array Bool→List Value→World→Prop)
  (hu:a0=putsL a0 ss v0) (h0:T l0 v0 w)
  (hstep:∀ l vs w' i,T l vs w'→i∈F→i∈Region.ready .any lo.toArray l → ∀ G:Prop,
   Hid (wpOp P lo.toArray (NoPanic Q) i (fun a' w''=>(i≠x→S w'') ∧ ∃ us,a'=putsL a0 ss us∧T (l.setIfInBounds i true) us w'') (putsL a0 ss vs) w'→G)→G)
  (hend:∀ vs w',T lF vs w'→S w')
  (hpost:∀ vs w',T lF vs w' → ∀ G:Prop,Hid (wpOrd P lo S x (Q .normal) post (putsL a0 ss vs) w'→G)→G) :
  ∃ Inv:Array Bool→Act→World→Prop,Inv l0 a0 w ∧
   (∀ (l:Array Bool) a w i,Inv l a w→i∈F→i∈Region.ready .any lo.toArray l→wpOp P lo.toArray (NoPanic Q) i (fun a' w'=>(i≠x→S w')∧Inv (l.setIfInBounds i true) a' w') a w) ∧
   ∀ a w,Inv lF a w→S w∧wpOrd P lo S x (Q .normal) post a w :=
 ⟨fun l a w'=>∃ us,a=putsL a0 ss us∧T l us w',⟨v0,hu,h0⟩,fun l a w' i h hi hr=>by
  obtain ⟨vs,rfl,hT⟩:=h
  exact hstep l vs w' i hT hi hr _ (Lib.hid id),fun a w' h=>by
  obtain ⟨vs,rfl,hT⟩:=h
  exact ⟨hend vs w' hT,hpost vs w' hT _ (Lib.hid id)⟩⟩
end
end Go.Proofs.Ts
