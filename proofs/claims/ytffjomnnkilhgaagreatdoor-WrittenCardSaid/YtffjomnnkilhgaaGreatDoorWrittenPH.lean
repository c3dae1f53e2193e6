/- Lemmas towards the statement Written of termsearch: walks of the program's functions and plain laws on lists (TlMarks, TlMarksB, TlTurn, TlBuilt, TlBuiltW, TlAsked, TlPair, TlStep, TlScript, TlPlays, TlCard, TlCardW, TlEnds, TlNumR, TlEdges). Conditions: those that each theorem names. -/
import Derived.Test.YtffjomnnkilhgaaGreatDoorWrittenPA
import Derived.Test.YtffjomnnkilhgaaGreatDoorWrittenPG
import Derived.Test.YtffjomnnkilhgaaGreatDoorWrittenPF
import Derived.Deep.Slices
import Derived.SizedLaws
import Derived.DataShut
set_option linter.unusedVariables false
set_option linter.unusedSimpArgs false
set_option linter.unusedSectionVars false
namespace Go.Proofs.Tl
open Go Go.RowKit Go.Proofs.Ts
structure OpE where
 kind:Int
 a:Int
 b:Int
 c:Int
 qk:Int
 qa:List UInt8
 qb:List UInt8
 qn:Int
 dv:Value
 docs:List ByteArray
 s:List UInt8
def OpE.cells (o:OpE):Array Value:=#[.int .i64 o.kind,.int .i64 o.a,.int .i64 o.b,.int .i64 o.c,.int .i64 o.qk,strV o.qa,strV o.qb,.int .i64 o.qn,o.dv,strV o.s]
def opV (o:OpE):Value := .agg o.cells
def I64 (x:Int):Prop:=-9223372036854775808≤x∧x≤9223372036854775807
structure OpE.Fits (o:OpE):Prop where
 kind:I64 o.kind
 a:I64 o.a
 b:I64 o.b
 c:I64 o.c
 qk:I64 o.qk
 qn:I64 o.qn
set_option maxRecDepth 100000 in
set_option maxHeartbeats 4000000 in
theorem marks_none (o:OpE) (wb:Nat) (w:World) (N Bs:Nat) (xv mv:Value) (na ba:Option Addr) (nc bc:Nat) (hub:w.heap[wb]?=some (.cells #[xv,mv,.slice na N nc,.slice ba Bs bc] 32 (0,0)))
  (h1:o.kind=10→N=0) (h2:o.kind=11→Bs=0) :
  Calls Tryz.prog 20 #[ptrV wb,opV o] w fun e w'=>e = .returned (.tuple #[])∧Below w.heap.size w w':=by
 obtain ⟨kd,oa,ob,oc,qk,qa,qb,qn,dv,docs,os⟩:=o
 simp only at h1 h2
 have HB:=Lib.hid ((Below.refl w.heap.size w).alloc (Nat.le_refl _) (.cells (OpE.mk kd oa ob oc qk qa qb qn dv docs os).cells 37))
 have hub1:(w.alloc (.cells (OpE.mk kd oa ob oc qk qa qb qn dv docs os).cells 37)).heap[wb]?=some (.cells #[xv,mv,.slice na N nc,.slice ba Bs bc] 32 (0,0)):=(Below.heap_alloc w _ wb (lt_of_heap hub)).trans hub
 have c2:(w.alloc (.cells (OpE.mk kd oa ob oc qk qa qb qn dv docs os).cells 37)).cell? (aD wb 2)=some (.slice na N nc):=cell_block hub1
 have c3:(w.alloc (.cells (OpE.mk kd oa ob oc qk qa qb qn dv docs os).cells 37)).cell? (aD wb 3)=some (.slice ba Bs bc):=cell_block hub1
 clear hub hub1
 unfold ptrV opV OpE.cells strV at *
 simp only at c2 c3 HB ⊢
 go_enter Tryz.func20,Tryz.ntmps20
 by_cases k10:kd=10
 ·subst k10
  obtain rfl:=h1 rfl
  go_wp2_with fail
  refine bodyPost_end (results_none rfl _ _ _) rfl ?_
  exact ⟨rfl,HB⟩
 ·have e1:(kd == 10)=false:=by simp [k10]
  by_cases k11:kd=11
  ·subst k11
   obtain rfl:=h2 rfl
   go_wp2_with fail
   refine bodyPost_end (results_none rfl _ _ _) rfl ?_
   exact ⟨rfl,HB⟩
  ·have e2:(kd == 11)=false:=by simp [k11]
   go_wp2_with fail
   refine bodyPost_end (results_none rfl _ _ _) rfl ?_
   exact ⟨rfl,HB⟩
theorem ints_set {w:World} {v:Value} {L:List Int} (h:IntsOf w v L) {g i:Nat} (hg:v.ownBlock=some g) (c:Int):IntsOf (w.setCell (aD g i) (iV c)) v (L.set i c):=by
 have:=row_set (k:=i) h hg (iV c)
 unfold IntsOf
 rw [List.length_set,List.map_set]
 exact this
set_option maxRecDepth 100000 in
set_option maxHeartbeats 4000000 in
theorem marks_num (o:OpE) (hf:o.Fits) (wb:Nat) (w:World) (N:List NumE) (xv mv nv bv:Value) (hub:w.heap[wb]?=some (.cells #[xv,mv,nv,bv] 32 (0,0))) (hrow:w.ownsRow 0 64 2 nv N.length (numCells N))
  (hk:o.kind=10) (hN:0 < N.length) (hN2:N.length≤1000000) (e:NumE) (he:N[pickL o.a N.length]?=some e) (hr:IntsOf w e.real e.L) (hw:IntsOf w e.want e.L) (hne:∀ k,e.real.ownBlock=some k→e.want.ownBlock≠some k) (hl:e.L.length≤1000) :
  Calls Tryz.prog 20 #[ptrV wb,opV o] w fun e' w'=>e' = .returned (.tuple #[]) ∧ ∃ L',L'.length=e.L.length∧IntsOf w' e.real L'∧IntsOf w' e.want L'∧Mod (fun k=>e.real.ownBlock=some k∨e.want.ownBlock=some k) w w':=by
 obtain ⟨kd,oa,ob,oc,qk,qa,qb,qn,dv,docs,os⟩:=o
 simp only at hk he
 subst hk
 obtain ⟨g,cap,rfl,c1,c2⟩:=numCell_at hrow he
 obtain ⟨rv,wv,L⟩:=e
 simp only at c1 c2 hr hw hne hl ⊢
 obtain ⟨ra,rc,rfl⟩:=ownsRow_form hr
 obtain ⟨va,vc,rfl⟩:=ownsRow_form hw
 obtain ⟨k,hk0⟩:∃ k,k=pickL oa N.length:=⟨_,rfl⟩
 rw [← hk0] at he c1 c2
 have hkl:=(List.getElem?_eq_some_iff.1 he).1
 have hpick:=fun W=>pick_law oa N.length W hf.a ⟨hN,by omega⟩
 rw [← hk0] at hpick
 have HPICK:=Lib.hid hpick
 obtain ⟨W,hW⟩:∃ W,W=w.alloc (.cells (OpE.mk 10 oa ob oc qk qa qb qn dv docs os).cells 37):=⟨_,rfl⟩
 have hB:Below w.heap.size w W:=by rw [hW]; exact (Below.refl w.heap.size w).alloc (Nat.le_refl _) _
 have hop:W.heap[w.heap.size]?=some (.cells (OpE.mk 10 oa ob oc qk qa qb qn dv docs os).cells 37 (0,0)):=by rw [hW]; exact heap_alloc_new w _
 have hub1:=(hB.block wb (lt_of_heap hub)).trans hub
 have d1:=(hB.cell (p:=(aD g (2 * k))) (lt_of_cell c1)).trans c1
 have d2:=(hB.cell (p:=(aD g (2 * k+1))) (lt_of_cell c2)).trans c2
 have HR1:=Lib.hid (hr.below hB)
 have HW1:=Lib.hid (hw.below hB)
 have z2:k * 2=2 * k:=by omega
 have zi:(0:Int)≤(k:Int)∧(k:Int) < (N.length:Int):=by omega
 have h2:W.cell? (aD wb 2)=some (sL g N.length cap):=cell_block hub1
 have p0:W.cell? (aD w.heap.size 0)=some (iV 10):=cell_block hop
 have p1:W.cell? (aD w.heap.size 1)=some (iV oa):=cell_block hop
 have p2:W.cell? (aD w.heap.size 2)=some (iV ob):=cell_block hop
 have p3:W.cell? (aD w.heap.size 3)=some (iV oc):=cell_block hop
 have hgN:decide ((0:Int) < (N.length:Int))=true:=decide_eq_true (by omega)
 have HB:=Lib.hid hB
 have HNE:=Lib.hid hne
 have HUB1:=Lib.hid hub1
 have HROW1:=Lib.hid (ownsRow_block hrow fun k e=>hB.block k (hrow.lt k e).2)
 have HOP:=Lib.hid hop
 have HF:=Lib.hid hf
 clear hub hub1 hrow hr hw hne hop hB c1 c2 hk0 hpick he hf
 unfold ptrV opV OpE.cells strV at *
 simp only at hW HF ⊢
 go_enter Tryz.func20,Tryz.ntmps20
 go_upto_region 1 with fail
 rw [← hW]
 clear hW
 go_upto_region 2 with fail
 go_quiet ((go_at_call 21; exact Calls.quiet_of_same (HPICK _)))
 have HS:=Lib.hid (Same.drewN W nq)
 by_cases hl0:L.length=0
 ·rw [hl0] at d1 d2
  go_wp2_with fail
  refine bodyPost_end (results_none rfl _ _ _) rfl ?_
  obtain rfl:L=[]:=List.eq_nil_of_length_eq_zero hl0
  exact ⟨rfl,HR1.keep (fun k _=>rfl),HW1.keep (fun k _=>rfl),(below_mod HB).trans (Mod.same HS)⟩
 ·have hgL:=decide_eq_true (by omega)
  obtain ⟨i,hi0⟩:∃ i,i=pickL ob L.length:=⟨_,rfl⟩
  have hil:i < L.length:=by rw [hi0]; exact pickL_lt _ (by omega)
  have hpick2:=fun W=>pick_law ob L.length W HF.b ⟨by omega,by omega⟩
  rw [← hi0] at hpick2
  have HPICK2:=Lib.hid hpick2
  clear hpick2 hi0
  obtain ⟨ga,cpa,ea,ca0,fa0⟩:=HR1.cellAt hil
  simp only [Value.slice.injEq] at ea
  obtain ⟨rfl,_,rfl⟩:=ea
  obtain ⟨gb,cpb,eb,cb0,fb0⟩:=HW1.cellAt hil
  simp only [Value.slice.injEq] at eb
  obtain ⟨rfl,_,rfl⟩:=eb
  have zj:(0:Int)≤(i:Int)∧(i:Int) < (L.length:Int):=by omega
  have hga:ga≠gb:=fun h=>HNE ga rfl (by rw [h]; rfl)
  generalize L.getD i 0=Av at *
  go_upto_region 6 with (go_at_call 21; refine (HPICK2 _).mono ?_; rintro e w' ⟨rfl,rfl⟩)
  have HR2:Hid (IntsOf (W.drewN nq) (sL ga L.length rc) L):=Lib.hid (HR1.keep fun k _=>rfl)
  have HW2:Hid (IntsOf (W.drewN nq) (sL gb L.length vc) L):=Lib.hid (HW1.keep fun k _=>rfl)
  have HM2:Hid (Mod (fun k=>(Value.slice (some (aD ga 0)) L.length rc).ownBlock=some k∨(Value.slice (some (aD gb 0)) L.length vc).ownBlock=some k) w (W.drewN nq)):=Lib.hid ((below_mod HB).trans (Mod.same HS))
  have HH2:Hid ((W.drewN nq).heap=W.heap):=Lib.hid rfl
  have k0:(W.drewN nq).cell? (aD wb 2)=some (sL g N.length cap):=h2
  have k1:(W.drewN nq).cell? (aD g (2 * k))=some (sL ga L.length rc):=d1
  have k2:(W.drewN nq).cell? (aD w.heap.size 3)=some (iV oc):=p3
  have k3:(W.drewN nq).cell? (aD ga i)=some (iV Av):=ca0
  have k4:(W.drewN nq).frozen? (aD ga i)=false:=fa0
  have k5:(W.drewN nq).cell? (aD g (2 * k+1))=some (sL gb L.length vc):=d2
  have k6:(W.drewN nq).cell? (aD gb i)=some (iV Av):=cb0
  have k7:(W.drewN nq).frozen? (aD gb i)=false:=fb0
  have t1:ga≠wb:=fun h=>by
   subst h
   have:=ownsRow_type HR1 rfl HUB1
   revert this
   decide
  have t2:ga≠w.heap.size:=fun h=>by
   subst h
   have:=ownsRow_type HR1 rfl HOP
   revert this
   decide
  have t4:gb≠w.heap.size:=fun h=>by
   subst h
   have:=ownsRow_type HW1 rfl HOP
   revert this
   decide
  have k8:(W.drewN nq).cell? (aD w.heap.size 0)=some (iV 10):=p0
  have t3:ga≠g:=fun h=>by
   subst h
   obtain ⟨cur,hcur⟩:=ownsRow_cells HROW1 rfl
   have:=ownsRow_type HR1 rfl hcur
   revert this
   decide
  generalize W.drewN nq=W2 at *
  clear h2 d1 d2 p0 p1 p2 p3 ca0 cb0 fa0 fb0
  refine wp_region_ordX [(0,false),(1,false),(2,false),(3,false),(4,false),(5,false),(6,false),(7,false),(8,false),(9,false),(10,false),(11,false),(12,true)] 12
   (fun w'=>w'.cell? (aD wb 2)=some (sL g N.length cap)∧w'.cell? (aD g (2 * k))=some (sL ga L.length rc)∧w'.cell? (aD w.heap.size 3)=some (iV oc)) (by kernel_rfl) (by kernel_rfl) ⟨k0,k1,k2⟩ ?_
  iterate 12 (
   refine wpOrd_quiet ?_ rfl rfl (fun w' hS=>?_) ?_
   rotate_left
   ·obtain ⟨f0,f1,f2⟩:=hS
    go_simp
    try rfl
   simp only [put_lit,List.set_cons_succ,List.set_cons_zero])
  refine wpOrd_last rfl rfl (fun K hK=>?_)
  have HK:=Lib.hid hK
  clear hK
  go_simp
  refine HK _ _ ?_
  clear HK K
  have HM3:=Lib.hid ((HM2.trans (Mod.setCell W2 (aD ga i) (iV oc) fun _ => .inl rfl)).trans (Mod.same (Same.drew (W2.setCell (aD ga i) (iV oc)))))
  have hr3:IntsOf (W2.setCell (aD ga i) (iV oc)).drew (sL ga L.length rc) (L.set i oc):=by
   have:=ints_set (i:=i) HR2 (g:=ga) rfl oc
   exact this.keep fun k _=>rfl
  have hother:∀ (b j:Nat),b≠ga→(W2.setCell (aD ga i) (iV oc)).drew.heap[b]?=W2.heap[b]?:=fun b j hb=>Below.heap_setCell W2 _ _ b hb
  have HW3:=Lib.hid (HW2.keep fun k e=>hother k 0 (fun h=>hga ((Option.some.inj e).trans h).symm))
  have cellO:∀ b j v,b≠ga→W2.cell? (aD b j)=some v→(W2.setCell (aD ga i) (iV oc)).drew.cell? (aD b j)=some v:=fun b j v hb hv=>(World.cell?_of_block (a:=(aD b j)) (hother b j hb)).trans hv
  have l0:=cellO _ _ _ (Ne.symm t1) k0
  have l2:=cellO _ _ _ (Ne.symm t2) k2
  have l8:=cellO _ _ _ (Ne.symm t2) k8
  have l5:=cellO _ _ _ (Ne.symm t3) k5
  have l6:=cellO _ _ _ (Ne.symm hga) k6
  have l7:(W2.setCell (aD ga i) (iV oc)).drew.frozen? (aD gb i)=false:=(World.frozen?_of_block (a:=(aD gb i)) (hother gb i (Ne.symm hga))).trans k7
  have HR3:=Lib.hid hr3
  clear hr3 hother cellO k8 k0 k1 k2 k3 k4 k5 k6 k7 HR2 HW2 HM2 HH2
  generalize (W2.setCell (aD ga i) (iV oc)).drew=W3 at *
  go_upto_region 7 with fail
  refine wp_region_ordX [(0,false),(1,false),(2,false),(3,false),(4,false),(5,false),(6,false),(7,false),(8,false),(9,false),(10,false),(11,false),(12,true)] 12
   (fun w'=>w'.cell? (aD wb 2)=some (sL g N.length cap)∧w'.cell? (aD g (2 * k+1))=some (sL gb L.length vc)∧w'.cell? (aD w.heap.size 3)=some (iV oc)) (by kernel_rfl) (by kernel_rfl) ⟨l0,l5,l2⟩ ?_
  iterate 12 (
   refine wpOrd_quiet ?_ rfl rfl (fun w' hS=>?_) ?_
   rotate_left
   ·obtain ⟨f0,f1,f2⟩:=hS
    go_simp
    try rfl
   simp only [put_lit,List.set_cons_succ,List.set_cons_zero])
  refine wpOrd_last rfl rfl (fun K hK=>?_)
  have HK:=Lib.hid hK
  clear hK
  go_simp
  refine HK _ _ ?_
  clear HK K
  have HM4:=Lib.hid (show Mod (fun k=>(Value.slice (some (aD ga 0)) L.length rc).ownBlock=some k∨(Value.slice (some (aD gb 0)) L.length vc).ownBlock=some k) w (W3.setCell (aD gb i) (iV oc)).drew from (HM3.trans (Mod.setCell W3 (aD gb i) (iV oc) fun _ => .inr rfl)).trans (Mod.same (Same.drew (W3.setCell (aD gb i) (iV oc)))))
  have hw4:IntsOf (W3.setCell (aD gb i) (iV oc)).drew (sL gb L.length vc) (L.set i oc):=by
   have:=ints_set (i:=i) HW3 (g:=gb) rfl oc
   exact this.keep fun k _=>rfl
  have hr4:IntsOf (W3.setCell (aD gb i) (iV oc)).drew (sL ga L.length rc) (L.set i oc):=by
   have hll:(Value.slice (some (aD ga 0)) L.length rc).ownBlock=some ga:=rfl
   exact HR3.keep fun k e=>(Below.heap_setCell W3 _ _ k (fun h=>hga ((Option.some.inj (hll.symm.trans e)).trans h)))
  have l8:(W3.setCell (aD gb i) (iV oc)).drew.cell? (aD w.heap.size 0)=some (iV 10):=(World.cell?_of_block (a:=(aD w.heap.size 0)) (Below.heap_setCell W3 (aD gb i) _ _ (Ne.symm t4))).trans l8
  have HR4:=Lib.hid hr4
  have HW4:=Lib.hid hw4
  clear hr4 hw4 l0 l2 l5 l6 l7 HM3 HR3 HW3
  generalize (W3.setCell (aD gb i) (iV oc)).drew=W4 at *
  go_wp2_with fail
  refine bodyPost_end (results_none rfl _ _ _) rfl ?_
  exact ⟨rfl,L.set i oc,by simp,HR4.out,HW4.out,HM4.out⟩
end Go.Proofs.Tl
namespace Go.Proofs.Tl
open Go Go.RowKit Go.Proofs.Ts
theorem bytes_kept {w w':World} {v:Value} {L:List Int} (h:BytesOf w v L) (hb:∀ k,v.ownBlock=some k→w'.heap[k]?=w.heap[k]?):BytesOf w' v L:=ownsRow_block h hb
theorem bytes_set {w:World} {v:Value} {L:List Int} (h:BytesOf w v L) {g i:Nat} (hg:v.ownBlock=some g) (c:Int):BytesOf (w.setCell (aD g i) (.int .u8 c)) v (L.set i c):=by
 have:=row_set (k:=i) h hg (.int .u8 c)
 unfold BytesOf
 rw [List.length_set,List.map_set]
 exact this
set_option maxRecDepth 100000 in
set_option maxHeartbeats 4000000 in
theorem marks_byt (o:OpE) (hf:o.Fits) (wb:Nat) (w:World) (N:List BytE) (xv mv bv nv:Value) (hub:w.heap[wb]?=some (.cells #[xv,mv,bv,nv] 32 (0,0))) (hrow:w.ownsRow 0 67 2 nv N.length (bytCells N))
  (hk:o.kind=11) (hN:0 < N.length) (hN2:N.length≤1000000) (e:BytE) (he:N[pickL o.a N.length]?=some e) (hr:BytesOf w e.real e.L) (hw:BytesOf w e.want e.L) (hne:∀ k,e.real.ownBlock=some k→e.want.ownBlock≠some k) (hl:e.L.length≤8000000) :
  Calls Tryz.prog 20 #[ptrV wb,opV o] w fun e' w'=>e' = .returned (.tuple #[]) ∧ ∃ L',L'.length=e.L.length∧BytesOf w' e.real L'∧BytesOf w' e.want L'∧Mod (fun k=>e.real.ownBlock=some k∨e.want.ownBlock=some k) w w':=by
 obtain ⟨kd,oa,ob,oc,qk,qa,qb,qn,dv,docs,os⟩:=o
 simp only at hk he
 subst hk
 obtain ⟨g,cap,rfl,c1,c2⟩:=bytCell_at hrow he
 obtain ⟨rv,wv,L⟩:=e
 simp only at c1 c2 hr hw hne hl ⊢
 obtain ⟨ra,rc,rfl⟩:=ownsRow_form hr
 obtain ⟨va,vc,rfl⟩:=ownsRow_form hw
 obtain ⟨k,hk0⟩:∃ k,k=pickL oa N.length:=⟨_,rfl⟩
 rw [← hk0] at he c1 c2
 have hkl:=(List.getElem?_eq_some_iff.1 he).1
 have hpick:=fun W=>pick_law oa N.length W hf.a ⟨hN,by omega⟩
 rw [← hk0] at hpick
 have HPICK:=Lib.hid hpick
 obtain ⟨W,hW⟩:∃ W,W=w.alloc (.cells (OpE.mk 11 oa ob oc qk qa qb qn dv docs os).cells 37):=⟨_,rfl⟩
 have hB:Below w.heap.size w W:=by rw [hW]; exact (Below.refl w.heap.size w).alloc (Nat.le_refl _) _
 have hop:W.heap[w.heap.size]?=some (.cells (OpE.mk 11 oa ob oc qk qa qb qn dv docs os).cells 37 (0,0)):=by rw [hW]; exact heap_alloc_new w _
 have hub1:=(hB.block wb (lt_of_heap hub)).trans hub
 have d1:=(hB.cell (p:=(aD g (2 * k))) (lt_of_cell c1)).trans c1
 have d2:=(hB.cell (p:=(aD g (2 * k+1))) (lt_of_cell c2)).trans c2
 have HR1:=Lib.hid (bytes_kept hr fun k e=>hB.block k (hr.lt k e).2)
 have HW1:=Lib.hid (bytes_kept hw fun k e=>hB.block k (hw.lt k e).2)
 have z2:k * 2=2 * k:=by omega
 have zi:(0:Int)≤(k:Int)∧(k:Int) < (N.length:Int):=by omega
 have h2:W.cell? (aD wb 3)=some (sL g N.length cap):=cell_block hub1
 have p0:W.cell? (aD w.heap.size 0)=some (iV 11):=cell_block hop
 have p1:W.cell? (aD w.heap.size 1)=some (iV oa):=cell_block hop
 have p2:W.cell? (aD w.heap.size 2)=some (iV ob):=cell_block hop
 have p3:W.cell? (aD w.heap.size 3)=some (iV oc):=cell_block hop
 have hgN:decide ((0:Int) < (N.length:Int))=true:=decide_eq_true (by omega)
 have HB:=Lib.hid hB
 have HNE:=Lib.hid hne
 have HUB1:=Lib.hid hub1
 have HROW1:=Lib.hid (ownsRow_block hrow fun k e=>hB.block k (hrow.lt k e).2)
 have HOP:=Lib.hid hop
 have HF:=Lib.hid hf
 clear hub hub1 hrow hr hw hne hop hB c1 c2 hk0 hpick he hf
 unfold ptrV opV OpE.cells strV at *
 simp only at hW HF ⊢
 go_enter Tryz.func20,Tryz.ntmps20
 go_upto_region 1 with fail
 rw [← hW]
 clear hW
 go_upto_region 9 with fail
 go_quiet ((go_at_call 21; exact Calls.quiet_of_same (HPICK _)))
 have HS:=Lib.hid (Same.drewN W nq)
 by_cases hl0:L.length=0
 ·rw [hl0] at d1 d2
  go_wp2_with fail
  refine bodyPost_end (results_none rfl _ _ _) rfl ?_
  obtain rfl:L=[]:=List.eq_nil_of_length_eq_zero hl0
  exact ⟨rfl,bytes_kept HR1 (fun k _=>rfl),bytes_kept HW1 (fun k _=>rfl),(below_mod HB).trans (Mod.same HS)⟩
 ·have hgL:=decide_eq_true (by omega)
  obtain ⟨i,hi0⟩:∃ i,i=pickL ob L.length:=⟨_,rfl⟩
  have hil:i < L.length:=by rw [hi0]; exact pickL_lt _ (by omega)
  have hpick2:=fun W=>pick_law ob L.length W HF.b ⟨by omega,by omega⟩
  rw [← hi0] at hpick2
  have HPICK2:=Lib.hid hpick2
  clear hpick2 hi0
  obtain ⟨ga,cpa,ea,ca0,fa0⟩:=HR1.cellAt hil
  simp only [Value.slice.injEq] at ea
  obtain ⟨rfl,_,rfl⟩:=ea
  obtain ⟨gb,cpb,eb,cb0,fb0⟩:=HW1.cellAt hil
  simp only [Value.slice.injEq] at eb
  obtain ⟨rfl,_,rfl⟩:=eb
  have zj:(0:Int)≤(i:Int)∧(i:Int) < (L.length:Int):=by omega
  have hga:ga≠gb:=fun h=>HNE ga rfl (by rw [h]; rfl)
  generalize L.getD i 0=Av at *
  go_upto_region 13 with (go_at_call 21; refine (HPICK2 _).mono ?_; rintro e w' ⟨rfl,rfl⟩)
  have HR2:Hid (BytesOf (W.drewN nq) (sL ga L.length rc) L):=Lib.hid (bytes_kept HR1 fun k _=>rfl)
  have HW2:Hid (BytesOf (W.drewN nq) (sL gb L.length vc) L):=Lib.hid (bytes_kept HW1 fun k _=>rfl)
  have HM2:Hid (Mod (fun k=>(Value.slice (some (aD ga 0)) L.length rc).ownBlock=some k∨(Value.slice (some (aD gb 0)) L.length vc).ownBlock=some k) w (W.drewN nq)):=Lib.hid ((below_mod HB).trans (Mod.same HS))
  have HH2:Hid ((W.drewN nq).heap=W.heap):=Lib.hid rfl
  have k0:(W.drewN nq).cell? (aD wb 3)=some (sL g N.length cap):=h2
  have k1:(W.drewN nq).cell? (aD g (2 * k))=some (sL ga L.length rc):=d1
  have k2:(W.drewN nq).cell? (aD w.heap.size 3)=some (iV oc):=p3
  have k3:(W.drewN nq).cell? (aD ga i)=some (.int .u8 Av):=ca0
  have k4:(W.drewN nq).frozen? (aD ga i)=false:=fa0
  have k5:(W.drewN nq).cell? (aD g (2 * k+1))=some (sL gb L.length vc):=d2
  have k6:(W.drewN nq).cell? (aD gb i)=some (.int .u8 Av):=cb0
  have k7:(W.drewN nq).frozen? (aD gb i)=false:=fb0
  have t1:ga≠wb:=fun h=>by
   subst h
   have:=ownsRow_type HR1 rfl HUB1
   revert this
   decide
  have t2:ga≠w.heap.size:=fun h=>by
   subst h
   have:=ownsRow_type HR1 rfl HOP
   revert this
   decide
  have t4:gb≠w.heap.size:=fun h=>by
   subst h
   have:=ownsRow_type HW1 rfl HOP
   revert this
   decide
  have k8:(W.drewN nq).cell? (aD w.heap.size 0)=some (iV 11):=p0
  have t3:ga≠g:=fun h=>by
   subst h
   obtain ⟨cur,hcur⟩:=ownsRow_cells HROW1 rfl
   have:=ownsRow_type HR1 rfl hcur
   revert this
   decide
  generalize W.drewN nq=W2 at *
  clear h2 d1 d2 p0 p1 p2 p3 ca0 cb0 fa0 fb0
  refine wp_region_ordX [(0,false),(1,false),(2,false),(3,false),(4,false),(5,false),(6,false),(7,false),(8,false),(9,false),(10,false),(11,false),(12,false),(13,true)] 13
   (fun w'=>w'.cell? (aD wb 3)=some (sL g N.length cap)∧w'.cell? (aD g (2 * k))=some (sL ga L.length rc)∧w'.cell? (aD w.heap.size 3)=some (iV oc)) (by kernel_rfl) (by kernel_rfl) ⟨k0,k1,k2⟩ ?_
  iterate 13 (
   refine wpOrd_quiet ?_ rfl rfl (fun w' hS=>?_) ?_
   rotate_left
   ·obtain ⟨f0,f1,f2⟩:=hS
    go_simp
    try rfl
   simp only [put_lit,List.set_cons_succ,List.set_cons_zero])
  refine wpOrd_last rfl rfl (fun K hK=>?_)
  have HK:=Lib.hid hK
  clear hK
  go_simp
  refine HK _ _ ?_
  clear HK K
  have HM3:=Lib.hid (show Mod (fun k=>(Value.slice (some (aD ga 0)) L.length rc).ownBlock=some k∨(Value.slice (some (aD gb 0)) L.length vc).ownBlock=some k) w (W2.setCell (aD ga i) (.int .u8 (IntKind.u8.wrap oc))).drew from (HM2.trans (Mod.setCell W2 (aD ga i) (.int .u8 (IntKind.u8.wrap oc)) fun _ => .inl rfl)).trans (Mod.same (Same.drew (W2.setCell (aD ga i) (.int .u8 (IntKind.u8.wrap oc))))))
  have hr3:BytesOf (W2.setCell (aD ga i) (.int .u8 (IntKind.u8.wrap oc))).drew (sL ga L.length rc) (L.set i (IntKind.u8.wrap oc)):=by
   have:=bytes_set (i:=i) HR2 (g:=ga) rfl (IntKind.u8.wrap oc)
   exact bytes_kept this fun k _=>rfl
  have hother:∀ (b j:Nat),b≠ga→(W2.setCell (aD ga i) (.int .u8 (IntKind.u8.wrap oc))).drew.heap[b]?=W2.heap[b]?:=fun b j hb=>Below.heap_setCell W2 _ _ b hb
  have HW3:=Lib.hid (show BytesOf (W2.setCell (aD ga i) (.int .u8 (IntKind.u8.wrap oc))).drew (sL gb L.length vc) L from bytes_kept HW2 fun k e=>hother k 0 (fun h=>hga ((Option.some.inj e).trans h).symm))
  have cellO:∀ b j v,b≠ga→W2.cell? (aD b j)=some v→(W2.setCell (aD ga i) (.int .u8 (IntKind.u8.wrap oc))).drew.cell? (aD b j)=some v:=fun b j v hb hv=>(World.cell?_of_block (a:=(aD b j)) (hother b j hb)).trans hv
  have l0:=cellO _ _ _ (Ne.symm t1) k0
  have l2:=cellO _ _ _ (Ne.symm t2) k2
  have l8:=cellO _ _ _ (Ne.symm t2) k8
  have l5:=cellO _ _ _ (Ne.symm t3) k5
  have l6:=cellO _ _ _ (Ne.symm hga) k6
  have l7:(W2.setCell (aD ga i) (.int .u8 (IntKind.u8.wrap oc))).drew.frozen? (aD gb i)=false:=(World.frozen?_of_block (a:=(aD gb i)) (hother gb i (Ne.symm hga))).trans k7
  have HR3:=Lib.hid hr3
  clear hr3 hother cellO k8 k0 k1 k2 k3 k4 k5 k6 k7 HR2 HW2 HM2 HH2
  generalize (W2.setCell (aD ga i) (.int .u8 (IntKind.u8.wrap oc))).drew=W3 at *
  go_upto_region 14 with fail
  refine wp_region_ordX [(0,false),(1,false),(2,false),(3,false),(4,false),(5,false),(6,false),(7,false),(8,false),(9,false),(10,false),(11,false),(12,false),(13,true)] 13
   (fun w'=>w'.cell? (aD wb 3)=some (sL g N.length cap)∧w'.cell? (aD g (2 * k+1))=some (sL gb L.length vc)∧w'.cell? (aD w.heap.size 3)=some (iV oc)) (by kernel_rfl) (by kernel_rfl) ⟨l0,l5,l2⟩ ?_
  iterate 13 (
   refine wpOrd_quiet ?_ rfl rfl (fun w' hS=>?_) ?_
   rotate_left
   ·obtain ⟨f0,f1,f2⟩:=hS
    go_simp
    try rfl
   simp only [put_lit,List.set_cons_succ,List.set_cons_zero])
  refine wpOrd_last rfl rfl (fun K hK=>?_)
  have HK:=Lib.hid hK
  clear hK
  go_simp
  refine HK _ _ ?_
  clear HK K
  have HM4:=Lib.hid (show Mod (fun k=>(Value.slice (some (aD ga 0)) L.length rc).ownBlock=some k∨(Value.slice (some (aD gb 0)) L.length vc).ownBlock=some k) w (W3.setCell (aD gb i) (.int .u8 (IntKind.u8.wrap oc))).drew from (HM3.trans (Mod.setCell W3 (aD gb i) (.int .u8 (IntKind.u8.wrap oc)) fun _ => .inr rfl)).trans (Mod.same (Same.drew (W3.setCell (aD gb i) (.int .u8 (IntKind.u8.wrap oc))))))
  have hw4:BytesOf (W3.setCell (aD gb i) (.int .u8 (IntKind.u8.wrap oc))).drew (sL gb L.length vc) (L.set i (IntKind.u8.wrap oc)):=by
   have:=bytes_set (i:=i) HW3 (g:=gb) rfl (IntKind.u8.wrap oc)
   exact bytes_kept this fun k _=>rfl
  have hr4:BytesOf (W3.setCell (aD gb i) (.int .u8 (IntKind.u8.wrap oc))).drew (sL ga L.length rc) (L.set i (IntKind.u8.wrap oc)):=by
   have hll:(Value.slice (some (aD ga 0)) L.length rc).ownBlock=some ga:=rfl
   exact bytes_kept HR3 fun k e=>(Below.heap_setCell W3 _ _ k (fun h=>hga ((Option.some.inj (hll.symm.trans e)).trans h)))
  have l8:(W3.setCell (aD gb i) (.int .u8 (IntKind.u8.wrap oc))).drew.cell? (aD w.heap.size 0)=some (iV 11):=(World.cell?_of_block (a:=(aD w.heap.size 0)) (Below.heap_setCell W3 (aD gb i) _ _ (Ne.symm t4))).trans l8
  have HR4:=Lib.hid hr4
  have HW4:=Lib.hid hw4
  clear hr4 hw4 l0 l2 l5 l6 l7 HM3 HR3 HW3
  generalize (W3.setCell (aD gb i) (.int .u8 (IntKind.u8.wrap oc))).drew=W4 at *
  go_wp2_with fail
  refine bodyPost_end (results_none rfl _ _ _) rfl ?_
  exact ⟨rfl,L.set i (IntKind.u8.wrap oc),by simp,HR4.out,HW4.out,HM4.out⟩
end Go.Proofs.Tl
namespace Go.Proofs.Tl
open Go Go.RowKit Go.Proofs.Ts
theorem numCells_set:∀ (N:List NumE) (i:Nat) (e:NumE) (L:List Int),N[i]?=some e→numCells (N.set i { e with L:=L })=numCells N
 | [],i,e,L,h=>by simp at h
 | a :: N,0,e,L,h=>by
  simp at h
  subst h
  rfl
 | a :: N,i+1,e,L,h=>by
  have ih:=numCells_set N i e L (by simpa using h)
  unfold numCells at *
  simp only [List.set_cons_succ,List.flatMap_cons,ih]
theorem bytCells_set:∀ (N:List BytE) (i:Nat) (e:BytE) (L:List Int),N[i]?=some e→bytCells (N.set i { e with L:=L })=bytCells N
 | [],i,e,L,h=>by simp at h
 | a :: N,0,e,L,h=>by
  simp at h
  subst h
  rfl
 | a :: N,i+1,e,L,h=>by
  have ih:=bytCells_set N i e L (by simpa using h)
  unfold bytCells at *
  simp only [List.set_cons_succ,List.flatMap_cons,ih]
section
variable {w w':World} {own:Nat→Option Tag} {wb:Nat} {S:List SegE} {N:List NumE} {Bs:List BytE} {Env:World→Prop}
theorem Player.num (h:Player w own wb S N Bs Env) {i:Nat} {e:NumE} (he:N[i]?=some e) {L':List Int} (hl:L'.length=e.L.length) (hr:IntsOf w' e.real L') (hw:IntsOf w' e.want L') (hm:Mod (fun k=>e.real.ownBlock=some k∨e.want.ownBlock=some k) w w') :
  ∃ own',Player w' own' wb S (N.set i { e with L:=L' }) Bs Env:=by
 have ho:=h.nums i e he
 have hil:=(List.getElem?_eq_some_iff.1 he).1
 have hfix:¬ Fix 3:=by decide
 obtain ⟨own',hs,ht,hn⟩:=Step.make (T:=fun t=>t = .real i∨t = .want i) (w:=w) (w':=w') (own:=own) h.dom hm.size (IOut.mod hm)
  (fun k hk hno=>hm.block k hk fun hc=>by
   rcases hc with hc | hc
   ·exact hno _ (ho.rtag k hc) (.inl rfl)
   ·exact hno _ (ho.wtag k hc) (.inr rfl))
  (fun k=>if e.want.ownBlock=some k then 1 else 0) [(.real i,e.real.ownBlock,0),(.want i,e.want.ownBlock,1)]
  (fun p hp k hk=>by
   rcases List.mem_cons.1 hp with rfl | hp
   ·have hrt:=ho.rtag k hk
    refine ⟨.inr ⟨hrt,.inl rfl⟩,(hr.lt k hk).2,Soft.row hr hfix hk,if_neg fun hc=>?_⟩
    have:=ho.wtag k hc
    rw [hrt] at this
    cases this
   ·obtain rfl:=List.mem_singleton.1 hp
    exact ⟨.inr ⟨ho.wtag k hk,.inr rfl⟩,(hw.lt k hk).2,Soft.row hw hfix hk,if_pos hk⟩)
  (by simp)
 obtain ⟨xv,mv,nv,bv,h1,h2,h3,h4,h5⟩:=h.hub
 refine ⟨own',hs.dom,hs.softs h.soft,hs.box h.env,(hs.keep _ _ h.tag (by simp)).1,⟨xv,mv,nv,bv,(hs.keep _ _ h.tag (by simp)).2.trans h1,h2.step hs (by simp),h3.step hs (by simp),?_,h5.step hs (by simp)⟩,
  fun j f hj=>(h.segs j f hj).step hs h.soft (by simp) (by simp),fun j f hj=>?_,fun j f hj=>(h.byts j f hj).step hs (by simp) (by simp)⟩
 ·rw [List.length_set,numCells_set N i e L' he]
  exact h4.step hs (by simp)
 ·rw [List.getElem?_set] at hj
  split at hj
  ·rename_i hij
   subst hij
   cases hj
   exact ⟨hr,hw,fun k hk=>ht _ List.mem_cons_self k hk,fun k hk=>ht _ (List.mem_cons_of_mem _ List.mem_cons_self) k hk,by simp only; rw [hl]; exact ho.few⟩
  ·rename_i hij
   exact (h.nums j f hj).step hs (by simp; omega) (by simp; omega)
theorem Player.byt (h:Player w own wb S N Bs Env) {i:Nat} {e:BytE} (he:Bs[i]?=some e) {L':List Int} (hl:L'.length=e.L.length) (hr:BytesOf w' e.real L') (hw:BytesOf w' e.want L') (hm:Mod (fun k=>e.real.ownBlock=some k∨e.want.ownBlock=some k) w w') :
  ∃ own',Player w' own' wb S N (Bs.set i { e with L:=L' }) Env:=by
 have ho:=h.byts i e he
 have hil:=(List.getElem?_eq_some_iff.1 he).1
 have hfix:¬ Fix 5:=by decide
 obtain ⟨own',hs,ht,hn⟩:=Step.make (T:=fun t=>t = .breal i∨t = .bwant i) (w:=w) (w':=w') (own:=own) h.dom hm.size (IOut.mod hm)
  (fun k hk hno=>hm.block k hk fun hc=>by
   rcases hc with hc | hc
   ·exact hno _ (ho.rtag k hc) (.inl rfl)
   ·exact hno _ (ho.wtag k hc) (.inr rfl))
  (fun k=>if e.want.ownBlock=some k then 1 else 0) [(.breal i,e.real.ownBlock,0),(.bwant i,e.want.ownBlock,1)]
  (fun p hp k hk=>by
   rcases List.mem_cons.1 hp with rfl | hp
   ·have hrt:=ho.rtag k hk
    refine ⟨.inr ⟨hrt,.inl rfl⟩,(hr.lt k hk).2,Soft.row hr hfix hk,if_neg fun hc=>?_⟩
    have:=ho.wtag k hc
    rw [hrt] at this
    cases this
   ·obtain rfl:=List.mem_singleton.1 hp
    exact ⟨.inr ⟨ho.wtag k hk,.inr rfl⟩,(hw.lt k hk).2,Soft.row hw hfix hk,if_pos hk⟩)
  (by simp)
 obtain ⟨xv,mv,nv,bv,h1,h2,h3,h4,h5⟩:=h.hub
 refine ⟨own',hs.dom,hs.softs h.soft,hs.box h.env,(hs.keep _ _ h.tag (by simp)).1,⟨xv,mv,nv,bv,(hs.keep _ _ h.tag (by simp)).2.trans h1,h2.step hs (by simp),h3.step hs (by simp),h4.step hs (by simp),?_⟩,
  fun j f hj=>(h.segs j f hj).step hs h.soft (by simp) (by simp),fun j f hj=>(h.nums j f hj).step hs (by simp) (by simp),fun j f hj=>?_⟩
 ·rw [List.length_set,bytCells_set Bs i e L' he]
  exact h5.step hs (by simp)
 ·rw [List.getElem?_set] at hj
  split at hj
  ·rename_i hij
   subst hij
   cases hj
   exact ⟨hr,hw,fun k hk=>ht _ List.mem_cons_self k hk,fun k hk=>ht _ (List.mem_cons_of_mem _ List.mem_cons_self) k hk,by simp only; rw [hl]; exact ho.few⟩
  ·rename_i hij
   exact (h.byts j f hj).step hs (by simp; omega) (by simp; omega)
end
theorem marks_player (o:OpE) (hf:o.Fits) (n wb:Nat) (Env:World→Prop) (w:World) (h:Plays n w wb Env) (hn:n≤1000000) :
  Calls Tryz.prog 20 #[ptrV wb,opV o] w fun e w'=>e = .returned (.tuple #[])∧Plays n w' wb Env:=by
 obtain ⟨own,S,N,Bs,h1,h2,h3,h4⟩:=h
 obtain ⟨xv,mv,nv,bv,k1,k2,k3,k4,k5⟩:=h4.hub
 obtain ⟨na,nc,rfl⟩:=ownsRow_form k4.1
 obtain ⟨ba,bc,rfl⟩:=ownsRow_form k5.1
 by_cases c10:o.kind=10∧0 < N.length
 ·have hl:=pickL_lt o.a c10.2
  obtain ⟨e,he⟩:∃ e,N[pickL o.a N.length]?=some e:=⟨_,List.getElem?_eq_getElem hl⟩
  have ho:=h4.nums _ e he
  refine (marks_num o hf wb w N xv mv _ _ k1 k4.1 c10.1 c10.2 (by omega) e he ho.real ho.want (fun k a b=>?_) ho.few).mono ?_
  ·have h1:=ho.rtag k a
   rw [ho.wtag k b] at h1
   cases h1
  ·rintro e' w' ⟨rfl,L',g1,g2,g3,g4⟩
   obtain ⟨own',h5⟩:=h4.num he g1 g2 g3 g4
   exact ⟨rfl,own',S,_,Bs,h1,by simpa using h2,h3,h5⟩
 ·by_cases c11:o.kind=11∧0 < Bs.length
  ·have hl:=pickL_lt o.a c11.2
   obtain ⟨e,he⟩:∃ e,Bs[pickL o.a Bs.length]?=some e:=⟨_,List.getElem?_eq_getElem hl⟩
   have ho:=h4.byts _ e he
   refine (marks_byt o hf wb w Bs xv mv _ _ k1 k5.1 c11.1 c11.2 (by omega) e he ho.real ho.want (fun k a b=>?_) ho.few).mono ?_
   ·have h1:=ho.rtag k a
    rw [ho.wtag k b] at h1
    cases h1
   ·rintro e' w' ⟨rfl,L',g1,g2,g3,g4⟩
    obtain ⟨own',h5⟩:=h4.byt he g1 g2 g3 g4
    exact ⟨rfl,own',S,N,_,h1,h2,by simpa using h3,h5⟩
  ·refine (marks_none o wb w N.length Bs.length xv mv na ba nc bc k1 (fun h=>?_) (fun h=>?_)).mono ?_
   ·rcases Nat.eq_zero_or_pos N.length with h0 | h0
    ·exact h0
    ·exact absurd ⟨h,h0⟩ c10
   ·rcases Nat.eq_zero_or_pos Bs.length with h0 | h0
    ·exact h0
    ·exact absurd ⟨h,h0⟩ c11
   ·rintro e' w' ⟨rfl,hb⟩
    obtain ⟨own',h5⟩:=h4.below hb
    exact ⟨rfl,own',S,N,Bs,h1,h2,h3,h5⟩
end Go.Proofs.Tl
namespace Go.Proofs.Tl
open Go Go.RowKit Go.Proofs.Ts
theorem rowsIn_typed {B:Nat} {w w':World} {V:Value} {D:List DS} (h:Ts.RowsIn B w V D) (hk:∀ (k:Nat) cs t r,w.heap[k]?=some (.cells cs t r)→Fix t→w'.heap[k]?=w.heap[k]?):Ts.RowsIn B w' V D :=
 ⟨ownsRow_typed h.row fun k cs r hk'=>hk _ _ _ _ hk' (by decide),h.past,fun i s hi=>ownsRow_typed (h.erow i s hi) fun k cs r hk'=>hk _ _ _ _ hk' (by decide),h.epast,h.apart,h.apartV⟩
theorem dict_typed {w w':World} {db:Nat} {R:Nat→Prop} {Λ:Nat→List Word} {ρ:Nat→Nat} {D:List DS} (h:DictIs w db R Λ ρ D) (hk:∀ (k:Nat) cs t r,w.heap[k]?=some (.cells cs t r)→Fix t→w'.heap[k]?=w.heap[k]?):DictIs w' db R Λ ρ D:=by
 obtain ⟨V,h1,h2⟩:=h.mem
 exact ⟨⟨V,(hk _ _ _ _ h1 (by decide)).trans h1,rowsIn_typed h2 hk⟩,h.root,h.state,h.ord⟩
theorem index_base {B C:Nat} {w:World} {mb:Nat} {D:List (List (List UInt8))} (h:IndexOf B w mb D) (hb:C≤B):IndexOf C w mb D:=by
 obtain ⟨T,h1,h2,h3⟩:=h
 obtain ⟨tv,pv,ps,a1,a2,a3,a4,a5,a6,a7⟩:=h3.ex
 exact ⟨T,h1,h2,Nat.le_trans hb h3.le,tv,pv,ps,a1,a2,fun k e=>Nat.le_trans hb (a3 k e),a4,fun k e=>Nat.le_trans hb (a5 k e),fun i v x hv hx=>⟨(a6 i v x hv hx).1,fun k e=>Nat.le_trans hb ((a6 i v x hv hx).2 k e)⟩,a7⟩
theorem index_kept {B:Nat} {w w':World} {mb:Nat} {D:List (List (List UInt8))} (h:IndexOf B w mb D) (hk:∀ k,B≤k→k < w.heap.size→w'.heap[k]?=w.heap[k]?):IndexOf B w' mb D:=by
 obtain ⟨T,h1,h2,h3⟩:=h
 exact ⟨T,h1,h2,h3.kept hk⟩
section
variable {w w1 w2 w3:World} {own:Nat→Option Tag} {wb:Nat} {S:List SegE} {N:List NumE} {Bs:List BytE} {Env:World→Prop}
theorem Player.joined (h:Player w own wb S N Bs Env) {sb mb:Nat} {D:List (List (List UInt8))} {xv mv nv bv xv' mv':Value} (hub:w.heap[wb]?=some (.cells #[xv,mv,nv,bv] 32 (0,0)))
  (hb1:Below w.heap.size w w1) (hsb:w.heap.size≤sb) (hseg:SegFar w.heap.size w1 sb D (.map none)) (hb2:Below w1.heap.size w1 w2) (hidx:IndexOf w1.heap.size w2 mb D) (hD:D.length≤48)
  (hub3:w3.heap[wb]?=some (.cells #[xv',mv',nv,bv] 32 (0,0))) (hx3:w3.ownsRow 0 49 1 xv' (S.length+1) ((S.map fun e=>ptrV e.sb)++[ptrV sb])) (hxp:∀ k,xv'.ownBlock=some k→xv.ownBlock=some k∨w2.heap.size≤k)
  (hm3:w3.ownsRow 0 50 1 mv' (S.length+1) ((S.map fun e=>ptrV e.mb)++[ptrV mb])) (hmp:∀ k,mv'.ownBlock=some k→mv.ownBlock=some k∨w2.heap.size≤k) (hm:Mod (fun k=>k=wb∨xv.ownBlock=some k∨mv.ownBlock=some k) w2 w3) :
  ∃ own',Player w3 own' wb (S++[⟨sb,mb,D,.map none⟩]) N Bs Env:=by
 obtain ⟨xv0,mv0,nv0,bv0,k1,k2,k3,k4,k5⟩:=h.hub
 rw [hub] at k1
 cases k1
 have hz1:=hb1.size
 have hz2:=hb2.size
 have hz3:=hm.size
 have hwb:=lt_of_heap hub
 have old:∀ k,k < w.heap.size→own k=some .hub∨own k=some .xs∨own k=some .ms∨w3.heap[k]?=w.heap[k]?:=fun k hk=>by
  by_cases hc:k=wb∨xv.ownBlock=some k∨mv.ownBlock=some k
  ·rcases hc with rfl | hc | hc
   ·exact .inl h.tag
   ·exact .inr (.inl (k2.2 k hc))
   ·exact .inr (.inr (.inl (k3.2 k hc)))
  ·exact .inr (.inr (.inr ((hm.block k (by omega) hc).trans ((hb2.block k (by omega)).trans (hb1.block k hk)))))
 have nw:∀ k,w.heap.size≤k→k < w2.heap.size→w3.heap[k]?=w2.heap[k]?:=fun k hk hk2=>hm.block k hk2 fun hc=>by
  rcases hc with rfl | hc | hc
  ·omega
  ·have:=(k2.1.lt k hc).2
   omega
  ·have:=(k3.1.lt k hc).2
   omega
 obtain ⟨db,R,Λ,ρ,Dd,pv,ps,hfar,hsg⟩:=id hseg
 have hsb1:=lt_of_heap hsg.1
 have hsg3:w3.heap[sb]?=some (segObj D.length db pv 0 (.map none)):=(nw sb hsb (by omega)).trans ((hb2.block sb hsb1).trans hsg.1)
 obtain ⟨own',hs,ht,hn⟩:=Step.make (T:=fun t=>t = .hub∨t = .xs∨t = .ms) (w:=w) (w':=w3) (own:=own) h.dom (by omega) (((IOut.below hb1).trans (IOut.below hb2)).trans (IOut.mod hm))
  (fun k hk hno=>by
   rcases old k hk with hc | hc | hc | hc
   ·exact absurd (.inl rfl) (hno _ hc)
   ·exact absurd (.inr (.inl rfl)) (hno _ hc)
   ·exact absurd (.inr (.inr rfl)) (hno _ hc)
   ·exact hc)
  (tyNo w3) [(.hub,some wb,32+1),(.xs,xv'.ownBlock,49+1),(.ms,mv'.ownBlock,50+1),(.seg S.length,some sb,168+1)]
  (fun p hp k hk=>by
   simp only [List.mem_cons,List.not_mem_nil,or_false] at hp
   rcases hp with rfl | rfl | rfl | rfl
   ·cases hk
    exact ⟨.inr ⟨h.tag,.inl rfl⟩,lt_of_heap hub3,Soft.cells hub3 (by decide),tyNo_cells hub3⟩
   ·refine ⟨?_,(hx3.lt k hk).2,Soft.row hx3 (by decide) hk,tyNo_row hx3 hk⟩
    rcases hxp k hk with hc | hc
    ·exact .inr ⟨k2.2 k hc,.inr (.inl rfl)⟩
    ·exact .inl (by omega)
   ·refine ⟨?_,(hm3.lt k hk).2,Soft.row hm3 (by decide) hk,tyNo_row hm3 hk⟩
    rcases hmp k hk with hc | hc
    ·exact .inr ⟨k3.2 k hc,.inr (.inr rfl)⟩
    ·exact .inl (by omega)
   ·cases hk
    exact ⟨.inl hsb,lt_of_heap hsg3,Soft.cells hsg3 (by decide),tyNo_cells hsg3⟩)
  (by simp)
 have tg:∀ p∈[(Tag.hub,some wb,32+1),(.xs,xv'.ownBlock,49+1),(.ms,mv'.ownBlock,50+1),(.seg S.length,some sb,168+1)],∀ k,p.2.1=some k→own' k=some p.1:=ht
 have fresh:∀ k,w.heap.size≤k→own' k≠none→k=sb∨w2.heap.size≤k:=fun k hk hc=>by
  rcases hn k hc with ⟨t,h1,_⟩ | ⟨p,hp,hpk⟩
  ·have:=h.dom k (by rw [h1]; simp)
   omega
  ·simp only [List.mem_cons,List.not_mem_nil,or_false] at hp
   rcases hp with rfl | rfl | rfl | rfl
   ·cases hpk
    omega
   ·rcases hxp k hpk with hc | hc
    ·have:=(k2.1.lt k hc).2
     omega
    ·exact .inr hc
   ·rcases hmp k hpk with hc | hc
    ·have:=(k3.1.lt k hc).2
     omega
    ·exact .inr hc
   ·cases hpk
    exact .inl rfl
 have hsoft:=hs.softs h.soft
 refine ⟨own',hs.dom,hsoft,hs.box h.env,tg _ List.mem_cons_self wb rfl,⟨xv',mv',nv,bv,hub3,⟨?_,fun k hk=>tg (.xs,xv'.ownBlock,49+1) (by simp) k hk⟩,⟨?_,fun k hk=>tg (.ms,mv'.ownBlock,50+1) (by simp) k hk⟩,k4.step hs (by simp),k5.step hs (by simp)⟩,
  fun j f hj=>?_,fun j f hj=>(h.nums j f hj).step hs (by simp) (by simp),fun j f hj=>(h.byts j f hj).step hs (by simp) (by simp)⟩
 ·rw [List.length_append,List.length_singleton,List.map_append]
  exact hx3
 ·rw [List.length_append,List.length_singleton,List.map_append]
  exact hm3
 ·rcases Nat.lt_or_ge j S.length with hjl | hjl
  ·rw [List.getElem?_append_left hjl] at hj
   exact (h.segs j f hj).step hs h.soft (by simp) (by simp)
  ·rw [List.getElem?_append_right hjl] at hj
   have hj0:j - S.length=0:=by
    have:=(List.getElem?_eq_some_iff.1 hj).1
    simp at this
    omega
   rw [hj0] at hj
   cases hj
   obtain rfl:j=S.length:=by omega
   -- what lies still of the new segment
   have still:∀ W,Keeps (Mut own') w3 W → ∀ (k:Nat) cs t r,w1.heap[k]?=some (.cells cs t r)→Fix t∨(w.heap.size≤k∧k≠sb)→W.heap[k]?=w1.heap[k]?:=fun W hW k cs t r hk hc=>by
    have hk1:=lt_of_heap hk
    have h12:=hb2.block k hk1
    have hno:own' k=none:=Classical.byContradiction fun hno=>by
     rcases hc with hc | ⟨hc,hc2⟩
     ·refine hsoft k hno cs t r ?_ hc
      rcases Nat.lt_or_ge k w.heap.size with hkw | hkw
      ·have hw:w.heap[k]?=some (.cells cs t r):=(hb1.block k hkw).symm.trans hk
       rcases old k hkw with ho | ho | ho | ho
       ·exact absurd hc (h.soft k (by rw [ho]; simp) _ _ _ hw)
       ·exact absurd hc (h.soft k (by rw [ho]; simp) _ _ _ hw)
       ·exact absurd hc (h.soft k (by rw [ho]; simp) _ _ _ hw)
       ·exact ho.trans hw
      ·exact (nw k hkw (by omega)).trans (h12.trans hk)
     ·rcases fresh k hc hno with h' | h'
      ·exact hc2 h'
      ·omega
    have h23:w3.heap[k]?=w2.heap[k]?:=by
     rcases Nat.lt_or_ge k w.heap.size with hkw | hkw
     ·have hon:own k=none:=by
       cases ho:own k with
       | none=>rfl
       | some t0 =>
        have hw:w.heap[k]?=some (.cells cs t r):=(hb1.block k hkw).symm.trans hk
        rcases hc with hc | hc
        ·exact absurd hc (h.soft k (by rw [ho]; simp) _ _ _ hw)
        ·omega
      have:=(hs.rest k hkw hon).1
      exact this.trans ((hb1.block k hkw).symm.trans h12.symm)
     ·exact nw k hkw (by omega)
    exact (hW.block k (by omega) (fun hm=>hm hno)).trans (h23.trans h12)
   refine ⟨⟨db,R,Λ,ρ,Dd,pv,ps,hsg3,fun W hW=>?_⟩,tg (.seg S.length,some sb,168+1) (by simp) sb rfl,(fun k hk=>by cases hk),.inl rfl,fun W hW=>?_,hD⟩
   ·obtain ⟨_,h2,h3,h4,h5,h6,h7,h8⟩:=hsg
    refine ⟨dict_typed h2 fun k cs t r hk hf=>still W hW k cs t r hk (.inl hf),h3,h4,h5,h6,ownsRow_typed h7 fun k cs r hk=>still W hW k cs _ r hk (.inl (by decide)),fun i v x hv hx=>?_⟩
    have h9:=h8 i v x hv hx
    refine ownsRow_block h9 fun k hk=>?_
    obtain ⟨cur,hcur⟩:=ownsRow_cells h9 hk
    refine still W hW k _ _ _ hcur (.inr ⟨hfar v (List.mem_of_getElem? hv) k hk,fun e=>?_⟩)
    subst e
    have:=hsg3
    rw [(nw k hsb (by omega)).trans ((hb2.block k hsb1)),hcur] at this
    cases this
   ·refine index_base (index_kept hidx fun k hk hk2=>?_) (Nat.zero_le _)
    have hno:own' k=none:=Classical.byContradiction fun hno=>by
     rcases fresh k (by omega) hno with h' | h'
     ·omega
     ·omega
    exact (hW.block k (by omega) (fun hm=>hm hno)).trans (nw k (by omega) hk2)
end
end Go.Proofs.Tl
namespace Go.Proofs.Tl
open Go Go.RowKit Go.Proofs.Ts
structure EnvOk (w:World):Prop where
 err:ErrAt w
 bits:BitTab w
 tabs:TabsIn w
theorem strs_below {w w':World} {v:Value} {docs:List ByteArray} (h:StrsIs w v docs) (hb:Below w.heap.size w w'):StrsIs w' v docs:=by
 obtain ⟨a,cap,rfl,hc⟩:=h
 refine ⟨a,cap,rfl,fun i hi=>?_⟩
 obtain ⟨b,off,e,hcell⟩:=hc i hi
 exact ⟨b,off,e,(hb.cell (p:=(aD b (off+i))) (lt_of_cell hcell)).trans hcell⟩
set_option maxRecDepth 100000 in
set_option maxHeartbeats 4000000 in
theorem built_player (docs:List ByteArray) (dv:Value) (n wb:Nat) (Env:World→Prop) (w:World) (h:Plays n w wb Env) (hn:n≤1000000) (hE:ErrAt w) (hd:StrsIs w dv docs) (hl:docs.length≤1000000) :
  Calls Tryz.prog 15 #[ptrV wb,dv] w fun e w'=>e = .returned (.bool true)∧Plays (n+1) w' wb Env:=by
 have HPB:=Lib.hid (plainBuild_law docs dv w hd hl hE.1)
 have HRB:=Lib.hid (fun W hW=>refBuild_law docs dv W hW hl)
 have HP:=Lib.hid h
 have HD:=Lib.hid hd
 clear h hd
 obtain ⟨bn,hbn⟩:∃ bn,bn=buildNum docs:=⟨_,rfl⟩
 have HBN:=Lib.hid hbn
 clear hbn
 unfold ptrV
 go_enter Tryz.func15,Tryz.ntmps15
 go_upto_region 2 with (go_at_call 34; refine HPB.mono ?_; rintro e w1 ⟨hb1,sv,ev,rfl,hbu⟩; have HB1:=Lib.hid hb1; have HBU:=Lib.hid hbu; rw [← HBN]; clear hb1 hbu)
 go_upto_region 3 with (go_at_call 35; refine (HRB w1 (strs_below HD HB1)).mono ?_; rintro e w2 ⟨hb2,hru⟩; rw [← HBN] at hru; have HB2:=Lib.hid hb2; clear hb2; rcases hru with ⟨hz,rfl⟩ | ⟨hz,mb,rfl,hidx⟩)
 ·have hsv:sv = .pointer none:=by
   rcases HBU.out with ⟨_,h,_⟩ | ⟨h,_⟩
   ·exact h
   ·exact absurd (HBN.trans h) hz
  subst hsv
  go_wp2_with fail
  go_ret
  exact ⟨rfl,((HP.below HB1).below HB2).mono (by omega)⟩
 ·subst hz
  obtain ⟨sb,rfl,hsb,hseg⟩:∃ sb,sv=ptrV sb∧w.heap.size≤sb∧SegFar w.heap.size w1 sb (docs.map wordsB) (.map none):=by
   rcases HBU.out with ⟨h,_⟩ | ⟨_,_,h⟩
   ·exact absurd HBN.symm h
   ·exact h
  have hD:(docs.map wordsB).length≤48:=by
   have h0:=HBN.out
   unfold buildNum at h0
   split at h0
   ·cases h0
   ·simp; omega
  obtain ⟨own,S,N,Bs,l1,l2,l3,hp⟩:=HP.out
  obtain ⟨own1,hp1⟩:=hp.below HB1
  obtain ⟨own2,hp2⟩:=hp1.below HB2
  obtain ⟨xv,mv,nv,bv,k1,k2,k3,k4,k5⟩:=hp.hub
  have k1':w2.heap[wb]?=some (.cells #[xv,mv,nv,bv] 32 (0,0)):=(HB2.block wb (by have:=lt_of_heap k1; have:=HB1.size; omega)).trans ((HB1.block wb (lt_of_heap k1)).trans k1)
  have hr:∀ {e size m:Nat} {v:Value} {xs:List Value},w.ownsRow 0 e size v m xs→w2.ownsRow 0 e size v m xs:=fun hr=>ownsRow_block hr fun k e=>(HB2.block k (by have:=(hr.lt k e).2; have:=HB1.size; omega)).trans (HB1.block k (hr.lt k e).2)
  have HJ:=Lib.hid (join_law sb mb wb S.length xv mv nv bv _ _ w2 (by omega) k1' (hr k2.1) (hr k3.1))
  have HIX:=Lib.hid hidx
  have HSG:=Lib.hid (And.intro hsb hseg)
  have HPP:=Lib.hid (And.intro hp k1)
  clear hidx hsb hseg hp k1 k1' hr k2 k3 k4 k5 hp1 hp2 HBU HPB HRB
  unfold ptrV at *
  go_wp2_with (go_at_call 36; refine HJ.mono ?_; rintro e w3 ⟨rfl,xv',mv',g1,g2,g3,g4,g5,g6⟩; have HG:=Lib.hid (And.intro g1 (And.intro g2 (And.intro g3 (And.intro g4 (And.intro g5 g6))))); clear g1 g2 g3 g4 g5 g6)
  go_ret
  obtain ⟨g1,g2,g3,g4,g5,g6⟩:=HG.out
  obtain ⟨own',h'⟩:=HPP.1.joined HPP.2 HB1 HSG.1 HSG.2 HB2 HIX hD g1 g2 g3 g4 g5 g6
  exact ⟨rfl,own',_,N,Bs,by simp; omega,by omega,by omega,h'⟩
end Go.Proofs.Tl
namespace Go.Proofs.Tl
open Go Go.RowKit Go.Proofs.Ts
section
variable {w w1 w':World} {own:Nat→Option Tag} {wb:Nat} {S:List SegE} {N:List NumE} {Bs:List BytE} {Env:World→Prop}
theorem Player.kept (h:Player w own wb S N Bs Env) (hb:Below w.heap.size w w'):∃ own',Player w' own' wb S N Bs Env∧(∀ k t,own k=some t→own' k=some t) ∧ ∀ k,own' k≠none→own k≠none:=by
 have hs:=Step.base (T:=fun _=>False) h.dom hb.size (IOut.below hb) fun k hk _=>hb.block k hk
 obtain ⟨xv,mv,nv,bv,h1,h2,h3,h4,h5⟩:=h.hub
 exact ⟨_,⟨hs.dom,hs.softs h.soft,hs.box h.env,(hs.keep _ _ h.tag id).1,⟨xv,mv,nv,bv,(hs.keep _ _ h.tag id).2.trans h1,h2.step hs id,h3.step hs id,h4.step hs id,h5.step hs id⟩,
  fun i e he=>(h.segs i e he).step hs h.soft id id,fun i e he=>(h.nums i e he).step hs id id,fun i e he=>(h.byts i e he).step hs id id⟩,fun k t ht=>(hs.keep k t ht id).1,fun k hk hn=>hk (drop_none hn)⟩
end
end Go.Proofs.Tl
namespace Go.Proofs.Tl
open Go Go.RowKit Go.Proofs.Ts
theorem Plays.box {n:Nat} {w:World} {wb:Nat} {Env:World→Prop} (h:Plays n w wb Env) (o:Obj):Plays n (w.alloc o) wb (fun W=>Env W∧W.heap[w.heap.size]?=some o):=by
 obtain ⟨own,S,N,Bs,h1,h2,h3,h4⟩:=h
 obtain ⟨own',h5,h6,h7⟩:=h4.kept ((Below.refl w.heap.size w).alloc (Nat.le_refl _) o)
 refine ⟨own',S,N,Bs,h1,h2,h3,⟨h5.dom,h5.soft,fun W hW=>⟨h5.env W hW,?_⟩,h5.tag,h5.hub,h5.segs,h5.nums,h5.byts⟩⟩
 rw [hW.block w.heap.size (by simp) fun hm=>?_]
 ·exact heap_alloc_new w o
 ·have:=h4.dom _ (h7 _ hm)
  omega
theorem Plays.weaken {n:Nat} {w:World} {wb:Nat} {Env Env':World→Prop} (h:Plays n w wb Env) (f:∀ W,Env W→Env' W):Plays n w wb Env':=by
 obtain ⟨own,S,N,Bs,h1,h2,h3,h4⟩:=h
 exact ⟨own,S,N,Bs,h1,h2,h3,⟨h4.dom,h4.soft,h4.env.mono f,h4.tag,h4.hub,h4.segs,h4.nums,h4.byts⟩⟩
end Go.Proofs.Tl
namespace Go.Proofs.Tl
open Go Go.RowKit Go.Proofs.Ts
def OpE.q (o:OpE):Asked:=⟨o.qk,o.qa,o.qb,o.qn,o.b⟩
theorem segRow_cell {w:World} {v:Value} {S:List SegE} {t:TypeId} {f:SegE→Nat} (h:w.ownsRow 0 t 1 v S.length (S.map fun e=>ptrV (f e))) {i:Nat} {e:SegE} (he:S[i]?=some e):∃ g cap,v=sL g S.length cap∧w.cell? (aD g i)=some (ptrV (f e)):=by
 obtain ⟨g,cap,h1,h2⟩:=ownsRow_cell h (j:=i) (u:=ptrV (f e)) (by rw [List.getElem?_map,he]; rfl)
 exact ⟨g,cap,h1,h2⟩
theorem Plays.same {n:Nat} {w w':World} {wb:Nat} {Env:World→Prop} (h:Plays n w wb Env) (hs:Same w w'):Plays n w' wb Env:=h.below (hs.below _)
set_option maxRecDepth 100000 in
set_option maxHeartbeats 4000000 in
theorem step_build (o:OpE) (hk:o.kind=1) (n wb:Nat) (Env:World→Prop) (w:World) (h:Plays n w wb Env) (hn:n≤1000000) (hE:∀ W,Env W→EnvOk W∧StrsIs W o.dv o.docs) (hl:o.docs.length≤1000000) :
  Calls Tryz.prog 13 #[ptrV wb,opV o] w fun e w'=>e = .returned (.bool true)∧Plays (n+1) w' wb Env:=by
 obtain ⟨kd,oa,ob,oc,qk,qa,qb,qn,dv,docs,os⟩:=o
 simp only at hk hE hl
 subst hk
 have hP:=h.box (.cells (OpE.mk 1 oa ob oc qk qa qb qn dv docs os).cells 37)
 have HB:=Lib.hid (built_player docs dv n wb Env (w.alloc (.cells (OpE.mk 1 oa ob oc qk qa qb qn dv docs os).cells 37)) (hP.weaken fun _ h=>h.1) hn (hE _ hP.env.1).1.err (hE _ hP.env.1).2 hl)
 obtain ⟨a0,cap0,rfl,_⟩:=(hE _ h.env).2
 clear hP hE
 unfold ptrV opV OpE.cells strV at *
 simp only at HB ⊢
 go_enter Tryz.func13,Tryz.ntmps13
 go_wp2_with (go_at_call 15; refine HB.mono ?_; rintro e w1 ⟨rfl,hp1⟩; have HP1:=Lib.hid hp1; clear hp1)
 go_ret
 exact ⟨rfl,HP1⟩
set_option maxRecDepth 100000 in
set_option maxHeartbeats 4000000 in
theorem step_mark (o:OpE) (hf:o.Fits) (hk:o.kind=10∨o.kind=11) (n wb:Nat) (Env:World→Prop) (w:World) (h:Plays n w wb Env) (hn:n≤1000000) :
  Calls Tryz.prog 13 #[ptrV wb,opV o] w fun e w'=>e = .returned (.bool true)∧Plays n w' wb Env:=by
 have hP:=h.box (.cells o.cells 37)
 have hm:=marks_player o hf n wb _ _ hP hn
 obtain ⟨kd,oa,ob,oc,qk,qa,qb,qn,dv,docs,os⟩:=o
 simp only at hk
 have HM:=Lib.hid hm
 have HF:=Lib.hid hf
 clear hm hP hf
 unfold ptrV opV OpE.cells strV at *
 simp only at HM ⊢
 have hdone:∀ (e:Ending) (W:World),(e = .returned (.bool true)∧Plays n W wb (fun W=>Env W∧W.heap[w.heap.size]?=some (.cells #[iV kd,iV oa,iV ob,iV oc,iV qk,.string ⟨qa.toArray⟩,.string ⟨qb.toArray⟩,iV qn,dv,.string ⟨os.toArray⟩] 37)))→e = .returned (.bool true)∧Plays n W wb Env:=fun e W h=>⟨h.1,h.2.weaken fun _ h=>h.1⟩
 refine Calls.mono ?_ hdone
 clear hdone
 rcases hk with rfl | rfl
 all_goals
  go_enter Tryz.func13,Tryz.ntmps13
  go_upto_region 12 with (go_at_call 20; refine HM.out.mono ?_; rintro e w1 ⟨rfl,hp1⟩; have HP1:=Lib.hid hp1; clear hp1)
  obtain ⟨own,S,N,Bs,l1,l2,l3,hp⟩:=HP1.out
  obtain ⟨xv,mv,nv,bv,k1,k2,k3,k4,k5⟩:=hp.hub
  obtain ⟨xa,xc,rfl⟩:=ownsRow_form k2.1
  obtain ⟨ma,mc,rfl⟩:=ownsRow_form k3.1
  have c0:w1.cell? (aD wb 0)=some (.slice xa S.length xc):=cell_block k1
  have c1:w1.cell? (aD wb 1)=some (.slice ma S.length mc):=cell_block k1
  by_cases hS:S.length=0
  ·rw [hS] at c0
   clear hp k1 k2 k3 k4 k5
   go_wp2_with fail
   go_ret
   exact ⟨rfl,HP1.out⟩
  ·have hpos:0 < S.length:=by omega
   have hpick:=fun W=>pick_law oa S.length W HF.out.a ⟨hpos,by omega⟩
   have hlt:=pickL_lt oa hpos
   obtain ⟨i,hi⟩:∃ i,i=pickL oa S.length:=⟨_,rfl⟩
   rw [← hi] at hpick hlt
   have HPICK:=Lib.hid hpick
   clear hpick hi
   obtain ⟨e,he⟩:∃ e,S[i]?=some e:=⟨_,List.getElem?_eq_getElem hlt⟩
   obtain ⟨gx,cx,e1,x1⟩:=segRow_cell k2.1 he
   obtain ⟨gm,cm,e2,x2⟩:=segRow_cell k3.1 he
   simp only [Value.slice.injEq,true_and] at e1 e2
   obtain ⟨rfl,rfl⟩:=e1
   obtain ⟨rfl,rfl⟩:=e2
   have hop:=hp.env.out.2
   have p0:w1.cell? (aD w.heap.size 0)=some (iV _):=cell_block hop
   have p1:w1.cell? (aD w.heap.size 1)=some (iV oa):=cell_block hop
   have z0:((S.length:Int) == 0)=false:=by rw [beq_eq_false_iff_ne]; omega
   have zi:(0:Int)≤(i:Int)∧(i:Int) < (S.length:Int):=by omega
   unfold ptrV at x1 x2
   clear hop hp k1 k2 k3 k4 k5 he
   go_upto_region 14 with fail
   go_quiet ((go_at_call 21; exact Calls.quiet_of_same (HPICK.out _)))
   go_wp2_with fail
   go_ret
   exact ⟨rfl,HP1.out.same (Same.drewN _ _)⟩
end Go.Proofs.Tl
namespace Go.Proofs.Tl
open Go Go.RowKit Go.Proofs.Ts
def Tame (n:Nat):Prop:=n≤281474976710656
structure OpE.Sized (o:OpE):Prop where
 a:Tame o.qa.length
 b:Tame o.qb.length
 s:Tame o.s.length
 docs:Tame o.docs.length
 doc:∀ d∈o.docs,Tame d.size
theorem sum_in {n a b c d:Nat} (hn:n≤65536) (ha:Tame a) (hb:Tame b) (hc:Tame c) (hd:Tame d) :
  IntKind.i64.wrap ((n:Int)+a)=(n:Int)+a∧IntKind.i64.wrap ((n:Int)+a+b)=(n:Int)+a+b∧IntKind.i64.wrap ((n:Int)+a+b+c)=(n:Int)+a+b+c∧IntKind.i64.wrap ((n:Int)+a+b+c+d)=(n:Int)+a+b+c+d:=by
 unfold Tame at *
 exact ⟨IntWalk.i64_in _ (by omega),IntWalk.i64_in _ (by omega),IntWalk.i64_in _ (by omega),IntWalk.i64_in _ (by omega)⟩
theorem one_in {n a:Nat} (hn:n≤65536) (ha:Tame a):IntKind.i64.wrap ((n:Int)+a)=(n:Int)+a:=by
 unfold Tame at *
 exact IntWalk.i64_in _ (by omega)
def ScriptIs (w:World) (v:Value) (ops:List OpE):Prop :=
 ∃ a cap,v = .slice a ops.length cap ∧ ∀ i (h:i < ops.length),(∃ b off,a=some ⟨b,off,none⟩ ∧ ∀ (j:Nat) u,ops[i].cells[j]?=some u→w.cell? ⟨b,off+i * 10+j,none⟩=some u)∧StrsIs w ops[i].dv ops[i].docs∧ops[i].Fits∧ops[i].Sized
theorem strs_cells {w w':World} {v:Value} {docs:List ByteArray} (h:StrsIs w v docs) (hb:∀ (b j:Nat) u,w.cell? (aD b j)=some u→w'.cell? (aD b j)=some u):StrsIs w' v docs:=by
 obtain ⟨a,cap,rfl,hc⟩:=h
 refine ⟨a,cap,rfl,fun i hi=>?_⟩
 obtain ⟨b,off,e,hcell⟩:=hc i hi
 exact ⟨b,off,e,hb _ _ _ hcell⟩
theorem ScriptIs.cells {w w':World} {v:Value} {ops:List OpE} (h:ScriptIs w v ops) (hb:∀ (b j:Nat) u,w.cell? (aD b j)=some u→w'.cell? (aD b j)=some u):ScriptIs w' v ops:=by
 obtain ⟨a,cap,rfl,hc⟩:=h
 refine ⟨a,cap,rfl,fun i hi=>?_⟩
 obtain ⟨⟨b,off,e,h1⟩,h2,h3,h4⟩:=hc i hi
 exact ⟨⟨b,off,e,fun j u hu=>hb _ _ _ (h1 j u hu)⟩,strs_cells h2 hb,h3,h4⟩
set_option maxRecDepth 100000 in
set_option maxHeartbeats 4000000 in
theorem small_law (ops:List OpE) (v:Value) (w:World) (hv:ScriptIs w v ops) (hl:Tame ops.length) :
  Calls Tryz.prog 12 #[v] w fun e w'=>Same w w'∧(e = .returned (.bool false)∨(e = .returned (.bool true)∧ops.length≤65536 ∧ ∀ o∈ops,o.docs.length≤65536)):=by
 obtain ⟨a,cap,rfl,hc⟩:=hv
 have HC:=Lib.hid hc
 have HL:=Lib.hid hl
 clear hc hl
 go_enter Tryz.func12,Tryz.ntmps12
 by_cases h0:65536 < ops.length
 ·have g0:=decide_eq_true (by omega)
  go_wp2_with fail
  go_ret
  exact ⟨Same.refl _,.inl rfl⟩
 ·have g0:=decide_eq_false (by omega)
  go_wp2_with fail
  go_loopw [3,4] (fun nv iv wr=>∃ i n:Nat,i≤ops.length∧iv = .int .i64 (i:Int)∧nv = .int .i64 (n:Int)∧n≤65536∧Hid (∀ o∈ops.take i,o.docs.length≤65536)∧Hid (Same w wr)) (fun _ iv _=>ops.length - (intOf iv).toNat)
  case atStart=>exact ⟨0,ops.length,Nat.zero_le _,rfl,rfl,by omega,Lib.hid (fun o h=>by simp at h),Lib.hid (Same.refl _)⟩
  case round =>
   obtain ⟨i,n,hi,rfl,rfl,hn,HA,HS⟩:=hrel
   have q1:IntKind.i64.wrap ((i:Int)+1)=(i:Int)+1:=IntWalk.i64_in _ (by omega)
   by_cases hil:i < ops.length
   ·obtain ⟨⟨b,off,rfl,hcell⟩,hstr,_,hsz⟩:=HC.out i hil
    have HA2:Hid (ops[i].docs.length≤65536 → ∀ o∈ops.take (i+1),o.docs.length≤65536):=Lib.hid fun h o ho=>by
     rw [List.take_succ_eq_append_getElem hil] at ho
     rcases List.mem_append.1 ho with ho | ho
     ·exact HA o ho
     ·rw [List.mem_singleton.1 ho]; exact h
    generalize ops[i]=o at *
    obtain ⟨kd,oa,ob,oc,qk,qa,qb,qn,dv,docs,os⟩:=o
    obtain ⟨da,dcap,hdv,hd⟩:=hstr
    simp only at hdv
    subst hdv
    have d5:wr.cell? (aD b (off+i * 10+5))=some (.string ⟨qa.toArray⟩):=(HS.cell _).trans (hcell 5 _ rfl)
    have d6:wr.cell? (aD b (off+i * 10+6))=some (.string ⟨qb.toArray⟩):=(HS.cell _).trans (hcell 6 _ rfl)
    have d8:wr.cell? (aD b (off+i * 10+8))=some (.slice da docs.length dcap):=(HS.cell _).trans (hcell 8 _ rfl)
    have d9:wr.cell? (aD b (off+i * 10+9))=some (.string ⟨os.toArray⟩):=(HS.cell _).trans (hcell 9 _ rfl)
    have HD:=Lib.hid hd
    have HSZ:=Lib.hid hsz
    obtain ⟨s1,s2,s3,s4⟩:=sum_in hn hsz.s hsz.a hsz.b hsz.docs
    simp only at s1 s2 s3 s4 HA2
    have zi:(0:Int)≤(i:Int)∧(i:Int) < (ops.length:Int):=by omega
    clear hcell hd hsz
    go_upto_region 7 with fail
    go_quiet (fail)
    have HS2:=Lib.hid (HS.trans (Same.drewN wr nq))
    by_cases hgt:65536 < n+os.length+qa.length+qb.length+docs.length
    ·have g1:=decide_eq_true (by omega)
     go_wp2_with fail
     go_ret
     exact ⟨HS2,.inl rfl⟩
    ·have g1:=decide_eq_false (by omega)
     obtain ⟨m,hm⟩:∃ m:Nat,m=n+os.length+qa.length+qb.length+docs.length:=⟨_,rfl⟩
     have hmi:(n:Int)+os.length+qa.length+qb.length+docs.length=(m:Int):=by omega
     have HA3:=Lib.hid (HA2 (by omega))
     have hm2:m≤65536:=by omega
     have hdl:docs.length≤65536:=by omega
     have HM:=Lib.hid hm
     clear hm HA2 HA s1 s2 s3 s4
     go_upto_region 10 with fail
     rw [hmi]
     clear hmi g1
     go_upto_region 11 with fail
     generalize hW:wr.drewN nq=W at *
     have e5:W.cell? (aD b (off+i * 10+8))=some (.slice da docs.length dcap):=by rw [← hW]; exact d8
     clear hW d5 d6 d8 d9
     go_loopw [3,5] (fun nv kv wq=>∃ k n:Nat,k≤docs.length∧kv = .int .i64 (k:Int)∧nv = .int .i64 (n:Int)∧n≤65536∧Hid (Same W wq)) (fun _ kv _=>docs.length - (intOf kv).toNat)
     case atStart=>exact ⟨0,m,Nat.zero_le _,rfl,rfl,hm2,Lib.hid (Same.refl _)⟩
     case round =>
      obtain ⟨k,n2,hk,rfl,rfl,hn2,HQ⟩:=hrel
      have q2:IntKind.i64.wrap ((k:Int)+1)=(k:Int)+1:=IntWalk.i64_in _ (by omega)
      have f5:=(HQ.cell (aD b (off+i * 10+8))).trans e5
      by_cases hkl:k < docs.length
      ·obtain ⟨db,doff,rfl,hdc⟩:=HD.out k hkl
       have hdsz:=HSZ.doc docs[k] (List.getElem_mem hkl)
       have f6:=(HQ.cell _).trans ((HS2.cell _).trans hdc)
       have s5:=one_in hn2 hdsz
       generalize docs[k]=dd at *
       have zk:(0:Int)≤(k:Int)∧(k:Int) < (docs.length:Int):=by omega
       clear hdc
       by_cases hgt2:65536 < n2+dd.size
       ·have g2:=decide_eq_true (by omega)
        clear hdsz
        go_wp2_with fail
        go_ret
        exact ⟨HS2.trans HQ,.inl rfl⟩
       ·have g2:=decide_eq_false (by omega)
        clear hdsz
        go_wp2_with fail
        go_roundw
        case rel=>exact ⟨k+1,n2+dd.size,by omega,by go_num,by go_num,by omega,HQ⟩
        case measure=>(simp [intOf]) <;> omega
      ·obtain rfl:k=docs.length:=by omega
       go_wp2_with fail
       go_roundw
       case rel=>exact ⟨i+1,n2,by omega,by go_num,rfl,hn2,HA3,Lib.hid (HS2.trans HQ)⟩
       case measure=>(simp [intOf]) <;> omega
   ·obtain rfl:i=ops.length:=by omega
    rw [List.take_length] at HA
    go_wp2_with fail
    go_ret
    exact ⟨HS,.inr ⟨rfl,by omega,HA⟩⟩
end Go.Proofs.Tl
namespace Go.Proofs.Tl
open Go Go.RowKit Go.Proofs.Ts
def inB (kd:Int) (ks:List Int):Bool:=(kd == 1 || kd == 10 || kd == 11) || ks.any fun k=>kd == k
def askB (kd:Int):Bool:=kd == 5 || kd == 6 || kd == 7
def playB (ks qs:List Int) (o:OpE):Bool:=inB o.kind ks && (qs.isEmpty || !askB o.kind || qs.any fun k=>o.qk == k)
structure PlayEnv (w0:World) (v kv qv:Value) (ops:List OpE) (ks qs:List Int) (w:World):Prop where
 base:Below w0.heap.size w0 w
 env:EnvOk w
 script:ScriptIs w v ops
 kinds:IntsOf w kv ks
 queries:IntsOf w qv qs
theorem EnvOk.kept {w w':World} (h:EnvOk w) (hk:∀ k,k < w.heap.size→w'.heap[k]?=w.heap[k]?):EnvOk w':=by
 obtain ⟨_,cs,t,r,h2,_⟩:=id h.err
 obtain ⟨c1,h3⟩:=h.tabs.first
 obtain ⟨c2,h4⟩:=h.tabs.accept
 exact ⟨h.err.kept (hk _ (lt_of_heap h2)),h.bits.kept (hk _ h.bits.lt),h.tabs.kept (hk _ (lt_of_heap h3)) (hk _ (lt_of_heap h4))⟩
theorem PlayEnv.kept {w0:World} {v kv qv:Value} {ops:List OpE} {ks qs:List Int} {w w':World} (h:PlayEnv w0 v kv qv ops ks qs w) (hb:Below w.heap.size w w'):PlayEnv w0 v kv qv ops ks qs w' :=
 ⟨h.base.trans (hb.mono h.base.size),h.env.kept hb.block,h.script.cells fun b j u hu=>(World.cell?_of_block (a:=(aD b j)) (hb.block _ (lt_of_cell hu))).trans hu,h.kinds.keep fun k e=>hb.block k (h.kinds.lt k e).2,h.queries.keep fun k e=>hb.block k (h.queries.lt k e).2⟩
theorem Plays.start {w0:World} {v kv qv:Value} {ops:List OpE} {ks qs:List Int} {w:World} (h:PlayEnv w0 v kv qv ops ks qs w) :
  Plays 0 (w.alloc (.cells #[.slice none 0 0,.slice none 0 0,.slice none 0 0,.slice none 0 0] 32)) w.heap.size (PlayEnv w0 v kv qv ops ks qs):=by
 have hwb:=heap_alloc_new w (.cells #[.slice none 0 0,.slice none 0 0,.slice none 0 0,.slice none 0 0] 32)
 refine ⟨fun k=>if k=w.heap.size then some .hub else none,[],[],[],Nat.le_refl _,Nat.le_refl _,Nat.le_refl _,⟨fun k hk=>?_,fun k hk=>?_,fun W hW=>?_,if_pos rfl,⟨_,_,_,_,hwb,⟨World.ownsRow_nil _ _ _ _,fun k e=>by cases e⟩,⟨World.ownsRow_nil _ _ _ _,fun k e=>by cases e⟩,⟨World.ownsRow_nil _ _ _ _,fun k e=>by cases e⟩,⟨World.ownsRow_nil _ _ _ _,fun k e=>by cases e⟩⟩,fun i e he=>by simp at he,fun i e he=>by simp at he,fun i e he=>by simp at he⟩⟩
 ·by_cases e:k=w.heap.size
  ·subst e; simp
  ·exact absurd (if_neg e) hk
 ·by_cases e:k=w.heap.size
  ·subst e
   exact Soft.cells hwb (by decide)
  ·exact absurd (if_neg e) hk
 ·refine h.kept ⟨hW.io.os,hW.io.tape,hW.io.output,Nat.le_trans (by simp) hW.size,fun k hk=>?_⟩
  rw [hW.block k (by simp; omega) (fun hm=>hm (if_neg (by omega)))]
  exact Below.heap_alloc w _ k hk
set_option maxRecDepth 100000 in
set_option maxHeartbeats 8000000 in
theorem plays_law (ops:List OpE) (ks qs:List Int) (v kv qv:Value) (w:World) (hE:PlayEnv w v kv qv ops ks qs w) (hl:Tame ops.length) (hk:ks.length≤100) (hq:qs.length≤100)
  (hstep:∀ o∈ops,playB ks qs o=true→o.docs.length≤65536 → ∀ n wb W,n≤65536→Plays n W wb (PlayEnv w v kv qv ops ks qs) →
   Calls Tryz.prog 13 #[ptrV wb,opV o] W fun e w'=>e = .returned (.bool true)∧Plays (n+1) w' wb (PlayEnv w v kv qv ops ks qs)) :
  Calls Tryz.prog 11 #[v,kv,qv] w fun e w'=>e = .returned (.bool true)∧Below w.heap.size w w':=by
 have HSM:=Lib.hid (small_law ops v w hE.script hl)
 obtain ⟨a,cap,rfl,_⟩:=hE.script
 obtain ⟨ka,kc,rfl⟩:=ownsRow_form hE.kinds
 obtain ⟨qa0,qc,rfl⟩:=ownsRow_form hE.queries
 have HE:=Lib.hid hE
 have HSTEP:=Lib.hid hstep
 have HL:=Lib.hid hl
 clear hE hstep hl
 go_enter Tryz.func11,Tryz.ntmps11
 go_upto_region 2 with (go_at_call 12; refine HSM.mono ?_; rintro e w1 ⟨hs1,hres⟩; have HS1:=Lib.hid hs1; clear hs1; rcases hres with rfl | ⟨rfl,h65,hd65⟩)
 ·go_wp2_with fail
  go_ret
  exact ⟨rfl,HS1.below _⟩
 ·have HD65:=Lib.hid hd65
  clear hd65
  have HP0:=Lib.hid (Plays.start (HE.kept (w':=w1) (HS1.below _)))
  have HB1:Hid (Below w.heap.size w (w1.alloc (.cells #[.slice none 0 0,.slice none 0 0,.slice none 0 0,.slice none 0 0] 32))):=Lib.hid ((HS1.below _).alloc (by rw [HS1.heap]; exact Nat.le_refl _) _)
  obtain ⟨wb,hwb⟩:∃ wb,wb=w1.heap.size:=⟨_,rfl⟩
  rw [← hwb] at HP0
  go_upto_region 6 with fail
  rw [← hwb]
  clear hwb
  generalize (w1.alloc (.cells #[.slice none 0 0,.slice none 0 0,.slice none 0 0,.slice none 0 0] 32))=w2 at *
  go_loopw [9] (fun iv wr=>∃ i:Nat,i≤ops.length∧iv = .int .i64 (i:Int)∧Hid (Plays i wr wb (PlayEnv w (.slice a ops.length cap) (.slice ka ks.length kc) (.slice qa0 qs.length qc) ops ks qs))∧Hid (Below w.heap.size w wr)) (fun iv _=>ops.length - (intOf iv).toNat)
  case atStart=>exact ⟨0,Nat.zero_le _,rfl,HP0,HB1⟩
  case round =>
   obtain ⟨i,hi,rfl,HP,HB⟩:=hrel
   have q1:IntKind.i64.wrap ((i:Int)+1)=(i:Int)+1:=IntWalk.i64_in _ (by omega)
   by_cases hil:i < ops.length
   ·have henv:=HP.env
    obtain ⟨a',cap',e1,hsc⟩:=henv.script
    simp only [Value.slice.injEq,true_and] at e1
    obtain ⟨rfl,rfl⟩:=e1
    obtain ⟨⟨b,off,rfl,hcell⟩,hstr,_,_⟩:=hsc i hil
    have hmem:=List.getElem_mem hil
    have HST:=Lib.hid (HSTEP ops[i] hmem)
    have hdoc:=HD65 ops[i] hmem
    generalize ops[i]=o at *
    obtain ⟨kd,oa,ob,oc,qk,qa,qb,qn,dv,docs,os⟩:=o
    obtain ⟨da,dcap,hdv,_⟩:=hstr
    simp only at hdv
    subst hdv
    have c0:wr.cell? (aD b (off+i * 10+0))=some (iV kd):=hcell 0 _ rfl
    have c1:wr.cell? (aD b (off+i * 10+1))=some (iV oa):=hcell 1 _ rfl
    have c2:wr.cell? (aD b (off+i * 10+2))=some (iV ob):=hcell 2 _ rfl
    have c3:wr.cell? (aD b (off+i * 10+3))=some (iV oc):=hcell 3 _ rfl
    have c4:wr.cell? (aD b (off+i * 10+4))=some (iV qk):=hcell 4 _ rfl
    have c5:wr.cell? (aD b (off+i * 10+5))=some (.string ⟨qa.toArray⟩):=hcell 5 _ rfl
    have c6:wr.cell? (aD b (off+i * 10+6))=some (.string ⟨qb.toArray⟩):=hcell 6 _ rfl
    have c7:wr.cell? (aD b (off+i * 10+7))=some (iV qn):=hcell 7 _ rfl
    have c8:wr.cell? (aD b (off+i * 10+8))=some (.slice da docs.length dcap):=hcell 8 _ rfl
    have c9:wr.cell? (aD b (off+i * 10+9))=some (.string ⟨os.toArray⟩):=hcell 9 _ rfl
    have zi:(0:Int)≤(i:Int)∧(i:Int) < (ops.length:Int):=by omega
    simp only [Nat.add_zero] at c0
    have HENV:=Lib.hid henv
    clear hcell hsc henv hmem
    go_upto_region 9 with fail
    rename_i K1 hK1
    have hop:=heap_alloc_new wr (.cells #[iV kd,iV oa,iV ob,iV oc,iV qk,.string ⟨qa.toArray⟩,.string ⟨qb.toArray⟩,iV qn,.slice da docs.length dcap,.string ⟨os.toArray⟩] 37)
    have HBR:=Lib.hid ((Below.refl wr.heap.size wr).alloc (Nat.le_refl _) (.cells #[iV kd,iV oa,iV ob,iV oc,iV qk,.string ⟨qa.toArray⟩,.string ⟨qb.toArray⟩,iV qn,.slice da docs.length dcap,.string ⟨os.toArray⟩] 37))
    obtain ⟨g,hg⟩:∃ g,g=wr.heap.size:=⟨_,rfl⟩
    rw [← hg] at hop
    have HG:=Lib.hid hg
    rw [← hg]
    clear hg c0 c1 c2 c3 c4 c5 c6 c7 c8 c9
    generalize (wr.alloc (.cells #[iV kd,iV oa,iV ob,iV oc,iV qk,.string ⟨qa.toArray⟩,.string ⟨qb.toArray⟩,iV qn,.slice da docs.length dcap,.string ⟨os.toArray⟩] 37))=W at *
    have p0:W.cell? (aD g 0)=some (iV kd):=cell_block hop
    have p1:W.cell? (aD g 1)=some (iV oa):=cell_block hop
    have p2:W.cell? (aD g 2)=some (iV ob):=cell_block hop
    have p3:W.cell? (aD g 3)=some (iV oc):=cell_block hop
    have p4:W.cell? (aD g 4)=some (iV qk):=cell_block hop
    have p5:W.cell? (aD g 5)=some (.string ⟨qa.toArray⟩):=cell_block hop
    have p6:W.cell? (aD g 6)=some (.string ⟨qb.toArray⟩):=cell_block hop
    have p7:W.cell? (aD g 7)=some (iV qn):=cell_block hop
    have p8:W.cell? (aD g 8)=some (.slice da docs.length dcap):=cell_block hop
    have p9:W.cell? (aD g 9)=some (.string ⟨os.toArray⟩):=cell_block hop
    have HPW:=Lib.hid (HP.below HBR)
    have HKI:=Lib.hid (HENV.kinds.below HBR)
    have HQU:=Lib.hid (HENV.queries.below HBR)
    clear hop HENV
    go_cut [11] from 31 to 109 (fun t wy=>t = .bool (kd == 1 || kd == 10 || kd == 11)∧W=wy)
    case first =>
     by_cases k1:kd=1
     ·subst k1
      go_wp2_with fail
      go_meet
      exact ⟨rfl,rfl⟩
     ·have e1:=beq_eq_false_iff_ne.2 k1
      by_cases k10:kd=10
      ·subst k10
       go_wp2_with fail
       go_meet
       exact ⟨rfl,rfl⟩
      ·have e10:=beq_eq_false_iff_ne.2 k10
       by_cases k11:kd=11
       ·subst k11
        go_wp2_with fail
        go_meet
        exact ⟨rfl,rfl⟩
       ·have e11:(kd == 11)=false:=beq_eq_false_iff_ne.2 k11
        go_wp2_with fail
        go_meet
        exact ⟨by rw [e1,e10,e11]; rfl,rfl⟩
    case rest =>
    obtain ⟨rfl,rfl⟩:=hcut
    refine hK1 _ _ ?_
    clear hK1
    obtain ⟨b0,hb0⟩:∃ b0,b0=(kd == 1 || kd == 10 || kd == 11):=⟨_,rfl⟩
    rw [← hb0]
    have HB0:=Lib.hid hb0
    clear hb0
    go_upto_region 11 with fail
    go_loopw [11,12] (fun bv jv wq=>∃ j:Nat,j≤ks.length∧jv = .int .i64 (j:Int)∧bv = .bool (b0 || (ks.take j).any fun k=>kd == k)∧Hid (Same W wq)) (fun _ jv _=>ks.length - (intOf jv).toNat)
    case atStart=>exact ⟨0,Nat.zero_le _,rfl,by simp,Lib.hid (Same.refl _)⟩
    case round =>
     obtain ⟨j,hj,rfl,rfl,HS⟩:=hrel
     have q2:IntKind.i64.wrap ((j:Int)+1)=(j:Int)+1:=IntWalk.i64_in _ (by omega)
     by_cases hjl:j < ks.length
     ·obtain ⟨g2,cp2,e2,hc2,_⟩:=HKI.cellAt hjl
      simp only [Value.slice.injEq,true_and] at e2
      obtain ⟨rfl,rfl⟩:=e2
      have hnext:(b0 || (ks.take (j+1)).any fun k=>kd == k)=((b0 || (ks.take j).any fun k=>kd == k) || (kd == ks.getD j 0)):=by
       rw [List.take_succ_eq_append_getElem hjl,List.any_append,List.getD_eq_getElem?_getD,List.getElem?_eq_getElem hjl]
       simp [Bool.or_assoc]
      have r1:=(HS.cell _).trans hc2
      have r2:=(HS.cell _).trans p0
      have zj:(0:Int)≤(j:Int)∧(j:Int) < (ks.length:Int):=by omega
      have HNX:=Lib.hid hnext
      generalize (b0 || (ks.take j).any fun k=>kd == k)=bj at *
      generalize ks.getD j 0=kj at *
      clear hc2 hnext
      go_upto_region 13 with fail
      cases bj with
      | true =>
       go_quiet (fail)
       go_wp2_with fail
       go_roundw
       case rel=>exact ⟨j+1,by omega,by go_num,by rw [HNX]; rfl,Lib.hid (HS.trans (Same.drewN _ _))⟩
       case measure=>(simp [intOf]) <;> omega
      | false =>
       go_quiet (fail)
       go_wp2_with fail
       go_roundw
       case rel=>exact ⟨j+1,by omega,by go_num,by rw [HNX,Bool.false_or],Lib.hid (HS.trans (Same.drewN _ _))⟩
       case measure=>(simp [intOf]) <;> omega
     ·obtain rfl:j=ks.length:=by omega
      have hin:(b0 || (ks.take ks.length).any fun k=>kd == k)=inB kd ks:=by
       rw [List.take_length,HB0]
       rfl
      rw [hin]
      clear hin
      have t0:=(HS.cell _).trans p0
      have t4:=(HS.cell _).trans p4
      obtain ⟨ib,hib⟩:∃ ib,ib=inB kd ks:=⟨_,rfl⟩
      rw [← hib]
      have HIB:=Lib.hid hib
      clear hib
      go_upto_region 14 with fail
      rename_i K2 hK2 K1 hK1
      go_cut [77] from 60 to 109 (fun t wy=>t = .bool (decide (0 < qs.length) && askB kd)∧wr=wy)
      case first =>
       by_cases hq0:qs.length=0
       ·have g1:decide ((0:Int) < (qs.length:Int))=false:=decide_eq_false (by omega)
        have g2:decide (0 < qs.length)=false:=decide_eq_false (by omega)
        go_wp2_with fail
        go_meet
        exact ⟨by rw [g2]; rfl,rfl⟩
       ·have g1:decide ((0:Int) < (qs.length:Int))=true:=decide_eq_true (by omega)
        have g2:decide (0 < qs.length)=true:=decide_eq_true (by omega)
        by_cases k5:kd=5
        ·subst k5
         go_wp2_with fail
         go_meet
         exact ⟨by rw [g2]; rfl,rfl⟩
        ·have e5:(kd == 5)=false:=beq_eq_false_iff_ne.2 k5
         by_cases k6:kd=6
         ·subst k6
          go_wp2_with fail
          go_meet
          exact ⟨by rw [g2]; rfl,rfl⟩
         ·have e6:(kd == 6)=false:=beq_eq_false_iff_ne.2 k6
          by_cases k7:kd=7
          ·subst k7
           go_wp2_with fail
           go_meet
           exact ⟨by rw [g2]; rfl,rfl⟩
          ·have e7:(kd == 7)=false:=beq_eq_false_iff_ne.2 k7
           go_wp2_with fail
           go_meet
           exact ⟨by rw [g2]; unfold askB; rw [e5,e6,e7]; rfl,rfl⟩
      case rest =>
      obtain ⟨rfl,rfl⟩:=hcut
      refine hK1 _ _ ?_
      clear hK1
      obtain ⟨cb,hcb⟩:∃ cb,cb=(decide (0 < qs.length) && askB kd):=⟨_,rfl⟩
      rw [← hcb]
      have HCB:=Lib.hid hcb
      clear hcb
      go_cut [11] from 78 to 109 (fun t wy=>t = .bool (if cb then ib && qs.any (fun k=>qk == k) else ib)∧Hid (Same W wy))
      case first =>
       cases cb with
       | false =>
        go_wp2_with fail
        go_meet
        exact ⟨rfl,HS⟩
       | true =>
        go_upto_region 17 with fail
        go_loopw [13,14] (fun bv jv wq=>∃ j:Nat,j≤qs.length∧jv = .int .i64 (j:Int)∧bv = .bool ((qs.take j).any fun k=>qk == k)∧Hid (Same W wq)) (fun _ jv _=>qs.length - (intOf jv).toNat)
        case atStart=>exact ⟨0,Nat.zero_le _,rfl,by simp,HS⟩
        case round =>
         obtain ⟨j,hj,rfl,rfl,HS⟩:=hrel
         have q2:IntKind.i64.wrap ((j:Int)+1)=(j:Int)+1:=IntWalk.i64_in _ (by omega)
         by_cases hjl:j < qs.length
         ·obtain ⟨g2,cp2,e2,hc2,_⟩:=HQU.cellAt hjl
          simp only [Value.slice.injEq,true_and] at e2
          obtain ⟨rfl,rfl⟩:=e2
          have hnext:((qs.take (j+1)).any fun k=>qk == k)=(((qs.take j).any fun k=>qk == k) || (qk == qs.getD j 0)):=by
           rw [List.take_succ_eq_append_getElem hjl,List.any_append,List.getD_eq_getElem?_getD,List.getElem?_eq_getElem hjl]
           simp
          have r1:=(HS.cell _).trans hc2
          have r2:=(HS.cell _).trans p4
          have zj:(0:Int)≤(j:Int)∧(j:Int) < (qs.length:Int):=by omega
          have HNX:=Lib.hid hnext
          generalize ((qs.take j).any fun k=>qk == k)=bj at *
          generalize qs.getD j 0=kj at *
          clear hc2 hnext
          go_upto_region 19 with fail
          cases bj with
          | true =>
           go_quiet (fail)
           go_wp2_with fail
           go_roundw
           case rel=>exact ⟨j+1,by omega,by go_num,by rw [HNX]; rfl,Lib.hid (HS.trans (Same.drewN _ _))⟩
           case measure=>(simp [intOf]) <;> omega
          | false =>
           go_quiet (fail)
           go_wp2_with fail
           go_roundw
           case rel=>exact ⟨j+1,by omega,by go_num,by rw [HNX,Bool.false_or],Lib.hid (HS.trans (Same.drewN _ _))⟩
           case measure=>(simp [intOf]) <;> omega
         ·obtain rfl:j=qs.length:=by omega
          rw [List.take_length]
          generalize (qs.any fun k=>qk == k)=mine at *
          cases ib with
          | true =>
           go_wp2_with fail
           go_meet
           exact ⟨by simp,HS⟩
          | false =>
           go_wp2_with fail
           go_meet
           exact ⟨by simp,HS⟩
      case rest =>
      obtain ⟨rfl,HS3⟩:=hcut
      refine hK2 _ _ ?_
      clear hK2
      have hpb:(if cb then ib && qs.any (fun k=>qk == k) else ib)=playB ks qs ⟨kd,oa,ob,oc,qk,qa,qb,qn,.slice da docs.length dcap,docs,os⟩:=by
       unfold playB
       simp only
       rw [HCB,HIB]
       cases qs with
       | nil=>simp
       | cons x t=>cases askB kd <;> simp
      rw [hpb]
      clear hpb
      cases hpl:playB ks qs ⟨kd,oa,ob,oc,qk,qa,qb,qn,.slice da docs.length dcap,docs,os⟩ with
      | false =>
       clear hpl
       go_wp2_with fail
       refine ⟨⟨i+1,by omega,by go_num,Lib.hid ((HPW.same HS3.out).mono (by omega)),Lib.hid ((HB.trans (HBR.mono HB.size)).trans (HS3.below _))⟩,by simp [intOf]; omega⟩
      | true =>
       have r0:=(HS3.cell _).trans p0
       have r1:=(HS3.cell _).trans p1
       have r2:=(HS3.cell _).trans p2
       have r3:=(HS3.cell _).trans p3
       have r4:=(HS3.cell _).trans p4
       have r5:=(HS3.cell _).trans p5
       have r6:=(HS3.cell _).trans p6
       have r7:=(HS3.cell _).trans p7
       have r8:=(HS3.cell _).trans p8
       have r9:=(HS3.cell _).trans p9
       have hst:=HST hpl hdoc i wb wc (by omega) (HPW.same HS3)
       unfold ptrV opV OpE.cells strV at hst
       simp only at hst
       have HS4:=Lib.hid hst
       have HBC:Hid (Below w.heap.size w wc):=Lib.hid ((HB.trans (HBR.mono HB.size)).trans (HS3.below _))
       clear hst hpl p0 p1 p2 p3 p4 p5 p6 p7 p8 p9
       go_upto_region 23 with (go_at_call 13; refine HS4.mono ?_; rintro e w5 ⟨rfl,hp5⟩; have HP5:=Lib.hid hp5; clear hp5)
       obtain ⟨own,S,N,Bs,l1,l2,l3,hp⟩:=HP5.out
       have hlk:=looks_law own wb S N Bs _ w5 hp (by omega) (by omega)
       unfold ptrV at hlk
       have HLK:=Lib.hid hlk
       clear hlk hp
       go_wp2_with (go_at_call 14; refine HLK.mono ?_; rintro e w6 ⟨rfl,hs6⟩; have HS6:=Lib.hid hs6; clear hs6)
       have hfin:=HP5.same HS6
       exact ⟨⟨i+1,by omega,by go_num,Lib.hid hfin,Lib.hid hfin.env.base⟩,by simp [intOf]; omega⟩
   ·obtain rfl:i=ops.length:=by omega
    go_wp2_with fail
    go_ret
    exact ⟨rfl,HB⟩
end Go.Proofs.Tl
namespace Go.Proofs.YtffjomnnkilhgaaGreatDoor.card
open Go Go.ChangeShapes Go.WideShapes Go.ChangeAt Go.RowKit Go.Deep
theorem cellsI:Tryz.prog.cellsOf 3=1:=by kernel_rfl
theorem cellsQ:Tryz.prog.cellsOf 34=4:=by kernel_rfl
theorem cellsD:Tryz.prog.cellsOf 35=1:=by kernel_rfl
theorem cellsOp:Tryz.prog.cellsOf 37=10:=by kernel_rfl
theorem reach_tame {n:Nat} (h:n≤reachBytes):Tl.Tame n:=by
 unfold Tl.Tame
 unfold reachBytes at h
 omega
section
variable {W:World} {base:Nat} {spare:Nat→Bool} {held:Bool} {H:Type} {enc:TypeId × Value→H}
theorem weights_all {P:Program} {e:TypeId}:∀ {l:List (DataW H)} {d:DataW H} {n:Nat},d∈l→n∈d.weights P e→n∈DataW.weightsAll P e l
 | [],d,n,h,_=>by cases h
 | a :: l,d,n,h,hn=>by
  unfold DataW.weightsAll
  rw [List.mem_append]
  rcases List.mem_cons.1 h with rfl | h
  ·exact .inl hn
  ·exact .inr (weights_all h hn)
theorem weights_elem {P:Program} {t e:TypeId} {elems sp:List (DataW H)} {d:DataW H} {n:Nat} (ht:P.underlying t=some (.slice e)) (hd:d∈elems) (hn:n∈d.weights P e):n∈(DataW.slice elems sp).weights P t:=by
 unfold DataW.weights
 rw [ht]
 exact List.mem_cons_of_mem _ (List.mem_append.2 (.inl (weights_all hd hn)))
theorem weights_len {P:Program} {t e:TypeId} {elems sp:List (DataW H)} (ht:P.underlying t=some (.slice e)):(elems.length+sp.length) * P.bytesOf e∈(DataW.slice elems sp).weights P t:=by
 unfold DataW.weights
 rw [ht]
 exact List.mem_cons_self
theorem weights_part {P:Program} {t:TypeId} {fs:Array Field} {parts:List (DataW H)} {j:Nat} {f:Field} {d:DataW H} {n:Nat} (ht:P.underlying t=some (.struct fs)) (hf:fs[j]?=some f) (hd:parts[j]?=some d) (hn:n∈d.weights P f.type):n∈(DataW.agg parts).weights P t:=by
 unfold DataW.weights
 rw [ht]
 exact DataW.weights_mem_each (j:=j) (by rw [List.getElem?_map,Array.getElem?_toList,hf]; rfl) hd n hn
theorem strs_sized {v:Value} {x:DataW H × List MemPlace} {fuel:Nat} (h:DataW.trod enc Tryz.prog W base spare held fuel 35 [v]=some x) (hw:∀ n∈x.1.weights Tryz.prog 35,n≤reachBytes) :
  ∃ docs:List ByteArray,Ts.StrsIs W v docs∧docs.length≤reachBytes ∧ ∀ d∈docs,d.size≤reachBytes:=by
 rcases open_strings Tryz.underlying35 Tryz.underlying9 cellsS h with ⟨hv,_⟩ | ⟨a,len,cap,ss,hv,_,hl,hc,hlen,hx,hcell,_⟩
 ·simp only [List.cons.injEq,and_true] at hv
  subst hv
  exact ⟨[],⟨none,0,rfl,fun i hi=>absurd hi (Nat.not_lt_zero i)⟩,Nat.zero_le _,fun d hd=>by cases hd⟩
 ·simp only [List.cons.injEq,and_true] at hv
  subst hv
  have hle:len≤ss.length:=by rw [hlen]; split <;> omega
  rw [hx] at hw
  have hb:Tryz.prog.bytesOf 9=16:=by kernel_rfl
  refine ⟨ss.take len,⟨some a,cap,by rw [List.length_take,Nat.min_eq_left hle],fun i hi=>?_⟩,?_,fun d hd=>?_⟩
  ·rw [List.length_take] at hi
   have hc:=hcell i (by omega)
   obtain ⟨b,off,spot⟩:=a
   have hs:spot=none:=by simpa [Addr.add] using World.cell?_spot (hcell 0 (by omega))
   subst hs
   refine ⟨b,off,rfl,?_⟩
   have he:(ss.take len)[i]'(by rw [List.length_take]; omega)=ss.getD i ByteArray.empty:=by
    rw [List.getElem_take,List.getD_eq_getElem?_getD,List.getElem?_eq_getElem (by omega)]
    rfl
   rw [he,← hc]
   by_cases h0:i=0
   ·subst h0; simp [Addr.add]
   ·simp [Addr.add,h0]
  ·have:=hw _ (weights_len Tryz.underlying35)
   rw [hb] at this
   unfold strs at this
   rw [List.length_map] at this
   omega
  ·have:=hw d.data.toList.length (weights_elem Tryz.underlying35 (d := .lit (.string d.data.toList)) (List.mem_map.2 ⟨d,hd,rfl⟩) (by unfold DataW.weights; exact List.mem_cons_self))
   have e:d.data.toList.length=d.size:=Array.length_toList
   rw [e] at this
   exact this
theorem int_is {c:Value} {x:DataW H × List MemPlace} {fuel:Nat} (h:DataW.trod enc Tryz.prog W base spare held fuel 3 [c]=some x):∃ n,c = .int .i64 n∧Tl.I64 n:=by
 obtain ⟨n,h1,_,h2⟩:=DataW.trod_int Tryz.underlying3 h
 simp only [List.cons.injEq,and_true] at h1
 refine ⟨n,h1,?_⟩
 unfold Tl.I64
 exact (Lit.wf_int_iff .i64 n).1 h2
theorem str_is {c:Value} {x:DataW H × List MemPlace} {fuel:Nat} (h:DataW.trod enc Tryz.prog W base spare held fuel 9 [c]=some x) (hw:∀ n∈x.1.weights Tryz.prog 9,n≤reachBytes):∃ s:List UInt8,c=Ts.strV s∧s.length≤reachBytes:=by
 obtain ⟨s,h1,h2,_⟩:=DataW.trod_string Tryz.underlying9 h
 simp only [List.cons.injEq,and_true] at h1
 refine ⟨s.data.toList,by rw [h1]; unfold Ts.strV; cases s; simp,?_⟩
 rw [h2] at hw
 exact hw _ (by unfold DataW.weights; exact List.mem_cons_self)
theorem ten {α:Type} {l:List α} (h:l.length=10):∃ a b c d e f g i j k,l=[a,b,c,d,e,f,g,i,j,k]:=by
 match l,h with
 | [a,b,c,d,e,f,g,i,j,k],_=>exact ⟨a,b,c,d,e,f,g,i,j,k,rfl⟩
theorem weights_at {P:Program} {t:TypeId} {fs:Array Field} {ys:List (DataW H × List MemPlace)} {j:Nat} {f:Field} {y:DataW H × List MemPlace} (ht:P.underlying t=some (.struct fs)) (hf:fs[j]?=some f) (hy:ys[j]?=some y)
  (hw:∀ n∈(DataW.agg (ys.map (·.1))).weights P t,n≤reachBytes):∀ n∈y.1.weights P f.type,n≤reachBytes:=fun n hn=>hw n (weights_part ht hf (by rw [List.getElem?_map,hy]; rfl) hn)
set_option maxRecDepth 100000 in
theorem op_is {cs:List Value} {x:DataW H × List MemPlace} {fuel:Nat} (h:DataW.trod enc Tryz.prog W base spare held fuel 37 cs=some x) (hw:∀ n∈x.1.weights Tryz.prog 37,n≤reachBytes) :
  ∃ o:Tl.OpE,o.cells.toList=cs∧Ts.StrsIs W o.dv o.docs∧o.Fits∧o.Sized:=by
 obtain ⟨ys,n,_,rfl,hlen,hyl,hf⟩:=DataW.trod_struct Tryz.underlying37 h
 rw [cellsOp] at hlen
 obtain ⟨c0,c1,c2,c3,c4,c5,c6,c7,c8,c9,rfl⟩:=ten hlen
 have hyl7:ys.length=7:=hyl
 have at':∀ j,j < 7 → ∃ y,ys[j]?=some y:=fun j hj=>⟨_,List.getElem?_eq_getElem (by omega)⟩
 obtain ⟨y0,e0⟩:=at' 0 (by omega)
 obtain ⟨y1,e1⟩:=at' 1 (by omega)
 obtain ⟨y2,e2⟩:=at' 2 (by omega)
 obtain ⟨y3,e3⟩:=at' 3 (by omega)
 obtain ⟨y4,e4⟩:=at' 4 (by omega)
 obtain ⟨y5,e5⟩:=at' 5 (by omega)
 obtain ⟨y6,e6⟩:=at' 6 (by omega)
 have f0:=hf 0 _ rfl
 have f1:=hf 1 _ rfl
 have f2:=hf 2 _ rfl
 have f3:=hf 3 _ rfl
 have f4:=hf 4 _ rfl
 have f5:=hf 5 _ rfl
 have f6:=hf 6 _ rfl
 simp only [cellsI,cellsQ,cellsD,cellsS,e0,e1,e2,e3,e4,e5,e6,List.drop_succ_cons,List.drop_zero,List.take_succ_cons,List.take_zero] at f0 f1 f2 f3 f4 f5 f6
 obtain ⟨k0,rfl,g0⟩:=int_is f0
 obtain ⟨k1,rfl,g1⟩:=int_is f1
 obtain ⟨k2,rfl,g2⟩:=int_is f2
 obtain ⟨k3,rfl,g3⟩:=int_is f3
 have w4:=weights_at Tryz.underlying37 (j:=4) rfl e4 hw
 have w5:=weights_at Tryz.underlying37 (j:=5) rfl e5 hw
 have w6:=weights_at Tryz.underlying37 (j:=6) rfl e6 hw
 obtain ⟨docs,hs,hd1,hd2⟩:=strs_sized f5 w5
 obtain ⟨s,rfl,hs1⟩:=str_is f6 w6
 obtain ⟨zs,n4,_,rfl,_,hzl,hz⟩:=DataW.trod_struct Tryz.underlying34 f4
 have hzl4:zs.length=4:=hzl
 have at4:∀ j,j < 4 → ∃ y,zs[j]?=some y:=fun j hj=>⟨_,List.getElem?_eq_getElem (by omega)⟩
 obtain ⟨z0,i0⟩:=at4 0 (by omega)
 obtain ⟨z1,i1⟩:=at4 1 (by omega)
 obtain ⟨z2,i2⟩:=at4 2 (by omega)
 obtain ⟨z3,i3⟩:=at4 3 (by omega)
 have l0:=hz 0 _ rfl
 have l1:=hz 1 _ rfl
 have l2:=hz 2 _ rfl
 have l3:=hz 3 _ rfl
 simp only [cellsI,cellsS,i0,i1,i2,i3,List.drop_succ_cons,List.drop_zero,List.take_succ_cons,List.take_zero] at l0 l1 l2 l3
 obtain ⟨k4,rfl,g4⟩:=int_is l0
 obtain ⟨qa,rfl,hqa⟩:=str_is l1 (weights_at Tryz.underlying34 (j:=1) rfl i1 w4)
 obtain ⟨qb,rfl,hqb⟩:=str_is l2 (weights_at Tryz.underlying34 (j:=2) rfl i2 w4)
 obtain ⟨k7,rfl,g7⟩:=int_is l3
 exact ⟨⟨k0,k1,k2,k3,k4,qa,qb,k7,c8,docs,s⟩,rfl,hs,⟨g0,g1,g2,g3,g4,g7⟩,⟨reach_tame hqa,reach_tame hqb,reach_tame hs1,reach_tame hd1,fun d hd=>reach_tame (hd2 d hd)⟩⟩
theorem add_at (b off n:Nat):(⟨b,off,none⟩:Addr).add n=⟨b,off+n,none⟩:=by
 unfold Addr.add
 split
 ·rename_i h
  subst h
  rfl
 ·rfl
theorem script_is {v:Value} {d:DataW H} {p:List MemPlace} (h:DataW.Trod enc Tryz.prog W base spare held 22 v d p) (hv:∃ a0 len cap,v = .slice a0 len cap) (hw:∀ n∈d.weights Tryz.prog 22,n≤reachBytes) :
  ∃ ops:List Tl.OpE,Tl.ScriptIs W v ops∧Tl.Tame ops.length:=by
 obtain ⟨a0,len0,cap0,rfl⟩:=hv
 obtain ⟨fuel,h⟩:=h
 have hcells:(Value.slice a0 len0 cap0).cells.toList=[.slice a0 len0 cap0]:=by simp [Value.cells]
 rw [hcells] at h
 rcases open_slice Tryz.underlying22 h with ⟨hcs,_⟩ | ⟨a,len,cap,m,n,D,Pl,hcs,_,hl,_,hm,hx,hi⟩
 ·simp only [List.cons.injEq,Value.slice.injEq,and_true] at hcs
  obtain ⟨rfl,rfl,rfl⟩:=hcs
  exact ⟨[],⟨none,0,rfl,fun i hi=>absurd hi (Nat.not_lt_zero i)⟩,Nat.zero_le _⟩
 ·simp only [List.cons.injEq,Value.slice.injEq,and_true] at hcs
  obtain ⟨rfl,rfl,rfl⟩:=hcs
  rw [cellsOp] at hi
  simp only [Prod.mk.injEq] at hx
  have hdw:=hx.1
  subst hdw
  have hle:len0≤m:=by rw [hm]; split <;> omega
  have hel:∀ i,i < len0 → ∃ o:Tl.OpE,(∀ (j:Nat) u,o.cells[j]?=some u→W.cell? (a.add (i * 10+j))=some u)∧Ts.StrsIs W o.dv o.docs∧o.Fits∧o.Sized:=fun i hil=>by
   obtain ⟨cs',hc,ht⟩:=hi i (by omega)
   obtain ⟨o,ho,h1,h2,h3⟩:=op_is ht fun n hn=>hw n (weights_elem Tryz.underlying22 (List.mem_map.2 ⟨i,List.mem_range.2 hil,rfl⟩) hn)
   refine ⟨o,fun j u hu=>?_,h1,h2,h3⟩
   obtain ⟨_,_,hat⟩:=World.cells?_some hc
   have hj:j < 10:=(Array.getElem?_eq_some_iff.1 hu).1
   have:=hat j hj
   rw [← ho,Array.getElem?_toList,hu,Go.Deep.add_add] at this
   exact this
  have hch:∃ f:Nat→Tl.OpE,∀ i,i < len0→(∀ (j:Nat) u,(f i).cells[j]?=some u→W.cell? (a.add (i * 10+j))=some u)∧Ts.StrsIs W (f i).dv (f i).docs∧(f i).Fits∧(f i).Sized:=by
   classical
   refine ⟨fun i=>if hil:i < len0 then Classical.choose (hel i hil) else ⟨0,0,0,0,0,[],[],0,.nilIface,[],[]⟩,fun i hil=>?_⟩
   have:=Classical.choose_spec (hel i hil)
   simpa only [dif_pos hil] using this
  obtain ⟨f,hf⟩:=hch
  refine ⟨(List.range len0).map f,⟨some a,cap0,by simp,fun i hil=>?_⟩,?_⟩
  ·have hil':i < len0:=by simpa using hil
   have he:((List.range len0).map f)[i]=f i:=by simp
   rw [he]
   obtain ⟨h1,h2,h3,h4⟩:=hf i hil'
   refine ⟨?_,h2,h3,h4⟩
   obtain ⟨b,off,spot⟩:=a
   have hs:spot=none:=by
    have:=World.cell?_spot ((hf 0 (by omega)).1 0 _ rfl)
    simpa [Addr.add] using this
   subst hs
   refine ⟨b,off,rfl,fun j u hu=>?_⟩
   have:=h1 j u hu
   rw [add_at] at this
   rw [Nat.add_assoc]
   exact this
  ·have:=hw _ (weights_len Tryz.underlying22)
   have hb:Tryz.prog.bytesOf 37=120:=by kernel_rfl
   rw [hb] at this
   rw [List.length_map,List.length_range] at this ⊢
   exact reach_tame (by omega)
end
end Go.Proofs.YtffjomnnkilhgaaGreatDoor.card
namespace Go.Proofs.YtffjomnnkilhgaaGreatDoor.card
open Go Go.ChangeShapes Go.WideShapes Go.ChangeAt Go.RowKit
noncomputable def laidWorldL (os:Os):World :=
 let w0:=laidWorld os
 let h1:=w0.heap.modify 1 fun
   | .cells _ t frozen => .cells #[.iface 463 (.pointer (some ⟨w0.heap.size,0,none⟩))] t frozen
   | o=>o
 { w0 with heap:=h1.push (.cells #[.string ⟨#[118,97,114,105,110,116,58,32,98,97,100,32,98,121,116,101,115]⟩] 485 (0,0)) }
theorem laid_metL (os:Os) (args:Array Value):laidMetH Tryz.prog Rows.simpleRow.laid ((laidWorldL os).forCall (fun _ _=>0) ⟨#[],args,[]⟩).memory :=
 laidMetH_of_parts (laidMet_of_run' 8 (by kernel_rfl) (by kernel_rfl)) (by kernel_rfl)
theorem shaped_err {W:World} (hS:W.ShapedOpen Tryz.prog):∃ cs t r,W.heap[0]?=some (.cells cs t r)∧t≠168:=by
 obtain ⟨z1,e1⟩:=row_type (P:=Tryz.prog) (g:=0) (t:=222) (by kernel_rfl)
 obtain ⟨cs,h⟩:=shaped_block hS (of_decide_eq_true (by kernel_rfl)) e1
 exact ⟨cs,_,_,h,by decide⟩
end Go.Proofs.YtffjomnnkilhgaaGreatDoor.card
namespace Go.Proofs.Tl
open Go Go.RowKit Go.Proofs.Ts
def endR (T:List (List UInt8)) (p:List UInt8):List (List UInt8):=(T.filter fun t=>decide (p <+: t)).map fun t=>t.drop p.length
theorem endR_succ (T:List (List UInt8)) (p:List UInt8) (i:Nat) (h:i < T.length):endR (T.take (i+1)) p=endR (T.take i) p++if decide (p <+: T[i]) then [T[i].drop p.length] else []:=by
 unfold endR
 rw [List.take_succ_eq_append_getElem h,List.filter_append,List.map_append,List.filter_cons]
 by_cases hp:p <+: T[i] <;> simp [hp]
theorem endR_length (T:List (List UInt8)) (p:List UInt8):(endR T p).length≤T.length:=by
 unfold endR
 rw [List.length_map]
 exact List.length_filter_le _ _
theorem extract_tail (t:List UInt8) (n:Nat):(⟨(ByteArray.extract ⟨t.toArray⟩ n t.length).data⟩:ByteArray)=⟨(t.drop n).toArray⟩:=by
 congr 1
 apply Array.ext'
 simp only [ByteArray.data_extract,Array.toList_extract,List.extract_eq_take_drop]
 rw [List.take_of_length_le (by simp)]
set_option maxRecDepth 100000 in
set_option maxHeartbeats 4000000 in
theorem endings_law (p:List UInt8) (B mb n:Nat) (T:List (List UInt8)) (L:List UInt8→List Nat) (w:World) (hx:IndexIs B w mb n T L) (hT:T.length≤1000000) (h16:∀ t∈T,t.length≤16) (hp:p.length≤1000) :
  Calls Tryz.prog 50 #[ptrV mb,strV p] w fun e w'=>∃ ov,e = .returned ov∧StrRow w w' ov (endR T p):=by
 obtain ⟨tv,pv,ps,a1,a2,a3,a4,a5,a6,a7⟩:=hx.ex
 obtain ⟨i2,hi2,hw0,hx1,hx2⟩:=info_parts Tryz.info9
 obtain ⟨ta,tc,rfl⟩:=ownsRow_form a2
 have c1:w.cell? ⟨mb,1,none⟩=some (.slice ta T.length tc):=cell_block a1
 have A2:=Lib.hid a2
 have H16:=Lib.hid h16
 clear a1 a2 a3 a4 a5 a6 a7 hx h16
 have HR1:=Lib.hid (RowAt.start 9 1 w)
 unfold ptrV strV
 go_enter Tryz.func50,Tryz.ntmps50
 go_wp2_with fail
 go_loopw [5,6] (fun ov iv wr=>∃ i:Nat,i≤T.length∧iv = .int .i64 (i:Int)∧Hid (StrRow w wr ov (endR (T.take i) p))) (fun _ iv _=>T.length - (intOf iv).toNat)
 case atStart=>exact ⟨0,Nat.zero_le _,rfl,HR1⟩
 case round =>
  obtain ⟨i,hiT,rfl,HR⟩:=hrel
  have q1:IntKind.i64.wrap ((i:Int)+1)=(i:Int)+1:=IntWalk.i64_in _ (by omega)
  have d1:wr.cell? ⟨mb,1,none⟩=some (.slice ta T.length tc):=(HR.out.below.cell (p:=⟨mb,1,none⟩) (lt_of_cell c1)).trans c1
  by_cases hlt:i < T.length
  ·obtain ⟨g,cap,e1,hc⟩:=strRow_cell A2.out hlt
   simp only [Value.slice.injEq,true_and] at e1
   obtain ⟨rfl,rfl⟩:=e1
   have d2:wr.cell? ⟨g,i,none⟩=some (.string ⟨T[i].toArray⟩):=(HR.out.below.cell (p:=⟨g,i,none⟩) (lt_of_cell hc)).trans hc
   have z1:(0:Int)≤(i:Int)∧(i:Int) < (T.length:Int):=by omega
   have h16:=H16.out T[i] (List.getElem_mem hlt)
   have hns:=endR_succ T p i hlt
   have hnl:=endR_length (T.take i) p
   rw [List.length_take] at hnl
   have HNS:=Lib.hid hns
   generalize T[i]=t at *
   clear hns hc
   by_cases hl:p.length≤t.length
   ·have g1:decide ((p.length:Int)≤(t.length:Int))=true:=decide_eq_true (by omega)
    have hz:(0:Int)≤(p.length:Int)∧(p.length:Int)≤(t.length:Int):=by omega
    have hpre:=pre_take hl
    by_cases hpp:p <+: t
    ·have hq:((ByteArray.extract ⟨t.toArray⟩ 0 p.length).toList == p)=true:=by rw [← hpre]; exact decide_eq_true hpp
     have hrow:=HR.out.row.alloc (.cells #[.string (ByteArray.extract ⟨t.toArray⟩ p.length t.length)] 9)
     have HR3:=Lib.hid (HR.out.alloc (.cells #[.string (ByteArray.extract ⟨t.toArray⟩ p.length t.length)] 9))
     go_wp2_with (at_builtin; refine wpList_append_lies rfl _ _ 35 rfl 9 i2 (.string ⟨#[]⟩) 1 16 Tryz.underlying35 hi2 hw0 hx1 hx2 rfl (by decide) u5 (endR (T.take i) p).length ((endR (T.take i) p).map strV) rfl hrow ⟨wr.heap.size,0,none⟩ 1 1 [.string (ByteArray.extract ⟨t.toArray⟩ p.length t.length)] rfl rfl (cell_one_new wr _ _) (by simp [Value.oneCell']) (by decide) (by unfold maxLen; omega) (by omega) ?_; intro v4 W4 hrow4 hgrow4 hlies4; have HR4:=Lib.hid (HR3.out.moves (Moves.append hgrow4 hlies4) hrow4 (by omega)); clear hrow4 hgrow4 hlies4 hrow)
     go_roundw
     case rel =>
      refine ⟨i+1,by omega,by go_num,Lib.hid ?_⟩
      rw [HNS.out,if_pos (decide_eq_true hpp)]
      unfold StrRow
      rw [List.length_append,List.map_append]
      have he:[Value.string (ByteArray.extract ⟨t.toArray⟩ p.length t.length)]=[t.drop p.length].map strV:=by
       unfold strV
       rw [List.map_cons,List.map_nil,← extract_tail]
      have:=HR4.out
      rw [he] at this
      exact this
     case measure=>(simp [intOf]) <;> omega
    ·have hq:((ByteArray.extract ⟨t.toArray⟩ 0 p.length).toList == p)=false:=by rw [← hpre]; exact decide_eq_false hpp
     go_wp2_with fail
     refine ⟨⟨i+1,by omega,by go_num,Lib.hid ?_⟩,by simp [intOf]; omega⟩
     rw [HNS.out,if_neg (by simp [hpp]),List.append_nil]
     exact HR.out
   ·have g1:decide ((p.length:Int)≤(t.length:Int))=false:=decide_eq_false (by omega)
    have hnp:¬ p <+: t:=fun h=>hl h.length_le
    go_wp2_with fail
    refine ⟨⟨i+1,by omega,by go_num,Lib.hid ?_⟩,by simp [intOf]; omega⟩
    rw [HNS.out,if_neg (by simp [hnp]),List.append_nil]
    exact HR.out
  ·obtain rfl:i=T.length:=by omega
   go_wp2_with fail
   go_ret
   rw [List.take_length] at HR
   exact ⟨_,rfl,HR.out⟩
end Go.Proofs.Tl
namespace Go.Proofs.Tl
open Go Go.RowKit Go.Proofs.Ts
def StrsAt (w:World) (v:Value) (L:List (List UInt8)):Prop:=w.ownsRow 0 9 1 v L.length (L.map strV)
theorem StrsAt.keep {w w':World} {v:Value} {L:List (List UInt8)} (h:StrsAt w v L) (hb:∀ k,v.ownBlock=some k→w'.heap[k]?=w.heap[k]?):StrsAt w' v L:=ownsRow_block h hb
theorem StrsAt.cell {w:World} {v:Value} {T:List (List UInt8)} (h:StrsAt w v T) {i:Nat} (hi:i < T.length):∃ g cap,v = .slice (some ⟨g,0,none⟩) T.length cap∧w.cell? ⟨g,i,none⟩=some (.string ⟨T[i].toArray⟩):=strRow_cell h hi
set_option maxRecDepth 100000 in
set_option maxHeartbeats 4000000 in
theorem sameR_law (A B:List (List UInt8)) (va vb:Value) (w:World) (ha:StrsAt w va A) (hb:StrsAt w vb B) (hla:A.length≤1000000) (hlb:B.length≤1000000) :
  Calls Tryz.prog 82 #[va,vb] w fun e w'=>e = .returned (.bool (decide (A=B)))∧Same w w':=by
 obtain ⟨aa,ac,rfl⟩:=ownsRow_form ha
 obtain ⟨ba,bc,rfl⟩:=ownsRow_form hb
 have HA:=Lib.hid ha
 have HB:=Lib.hid hb
 clear ha hb
 go_enter Tryz.func82,Tryz.ntmps82
 by_cases hl:A.length=B.length
 ·have g0:((A.length:Int) != (B.length:Int))=false:=by rw [hl]; simp
  go_wp2_with fail
  go_loopw [5] (fun iv wr=>∃ i:Nat,i≤A.length∧iv = .int .i64 (i:Int)∧Hid (A.take i=B.take i)∧Hid (Same w wr)) (fun iv _=>A.length - (intOf iv).toNat)
  case atStart=>exact ⟨0,Nat.zero_le _,rfl,Lib.hid rfl,Lib.hid (Same.refl _)⟩
  case round =>
   obtain ⟨i,hia,rfl,HE,HO⟩:=hrel
   have q1:IntKind.i64.wrap ((i:Int)+1)=(i:Int)+1:=IntWalk.i64_in _ (by omega)
   by_cases hil:i < A.length
   ·have hil2:i < B.length:=by omega
    obtain ⟨ga,cpa,ea,ca0⟩:=HA.out.cell hil
    simp only [Value.slice.injEq,true_and] at ea
    obtain ⟨rfl,rfl⟩:=ea
    obtain ⟨gb,cpb,eb,cb0⟩:=HB.out.cell hil2
    simp only [Value.slice.injEq,true_and] at eb
    obtain ⟨rfl,rfl⟩:=eb
    have ca:=(HO.out.cell ⟨ga,i,none⟩).trans ca0
    have cb:=(HO.out.cell ⟨gb,i,none⟩).trans cb0
    have zi:(0:Int)≤(i:Int)∧(i:Int) < (A.length:Int):=by omega
    have zi2:(0:Int)≤(i:Int)∧(i:Int) < (B.length:Int):=by omega
    have hnx:A.take (i+1)=A.take i++[A[i]]:=List.take_succ_eq_append_getElem hil
    have hnx2:B.take (i+1)=B.take i++[B[i]]:=List.take_succ_eq_append_getElem hil2
    by_cases heq:A[i]=B[i]
    ·have HE2:Hid (A.take (i+1)=B.take (i+1)):=Lib.hid (by rw [hnx,hnx2,HE.out,heq])
     have b1:(A[i] == B[i])=true:=by rw [heq]; simp
     generalize A[i]=x at *
     generalize B[i]=y at *
     clear ca0 cb0 hnx hnx2
     subst heq
     go_upto_region 6 with fail
     go_quiet (fail)
     go_wp2_with fail
     go_roundw
     case rel=>exact ⟨i+1,by omega,by go_num,HE2,Lib.hid (HO.out.trans (Same.drewN _ _))⟩
     case measure=>(simp [intOf]) <;> omega
    ·have HNE:Hid (A≠B):=Lib.hid fun h=>heq (by subst h; rfl)
     have b1:(A[i] == B[i])=false:=beq_eq_false_iff_ne.2 heq
     generalize A[i]=x at *
     generalize B[i]=y at *
     clear ca0 cb0 hnx hnx2
     go_upto_region 6 with fail
     go_quiet (fail)
     go_wp2_with fail
     go_ret
     exact ⟨ret_bool (decide_eq_false HNE.out).symm,HO.out.trans (Same.drewN _ _)⟩
   ·obtain rfl:i=A.length:=by omega
    have hAB:A=B:=by
     have:=HE.out
     rw [List.take_length,hl,List.take_length] at this
     exact this
    go_wp2_with fail
    go_ret
    exact ⟨ret_bool (decide_eq_true hAB).symm,HO.out⟩
 ·have g0:((A.length:Int) != (B.length:Int))=true:=by rw [bne_iff_ne]; omega
  go_wp2_with fail
  go_ret
  exact ⟨ret_bool (decide_eq_false (fun h=>hl (by rw [h]))).symm,Same.refl _⟩
def EndsIs (w:World) (v:Value) (Es:List (List (List UInt8))):Prop :=
 ∃ vs,w.ownsRow 0 35 1 v Es.length vs ∧ ∀ (i:Nat) u E,vs[i]?=some u→Es[i]?=some E→StrsAt w u E
theorem EndsIs.at {w:World} {v:Value} {Es:List (List (List UInt8))} (h:EndsIs w v Es) {i:Nat} (hi:i < Es.length):∃ g cap u,v = .slice (some ⟨g,0,none⟩) Es.length cap∧w.cell? ⟨g,i,none⟩=some u∧StrsAt w u Es[i]:=by
 obtain ⟨vs,h1,h2⟩:=h
 have hl:vs.length=Es.length:=by have:=h1.1; omega
 obtain ⟨u,hu⟩:∃ u,vs[i]?=some u:=⟨_,List.getElem?_eq_getElem (by omega)⟩
 obtain ⟨g,cap,e,hc⟩:=ownsRow_cell h1 hu
 exact ⟨g,cap,u,e,hc,h2 i u _ hu (List.getElem?_eq_getElem hi)⟩
def numR (Es:List (List (List UInt8))) (E:List (List UInt8)):Int:=match Es.idxOf? E with
 | some i=>i
 | none=>-1
theorem numR_none {Es:List (List (List UInt8))} {E:List (List UInt8)} (h:E ∉ Es):numR Es E = -1:=by
 unfold numR
 rw [List.idxOf?_eq_none_iff.2 h]
theorem numR_at {Es:List (List (List UInt8))} {E:List (List UInt8)} {i:Nat} (hi:i < Es.length) (h:Es[i]=E) (hn:E ∉ Es.take i):numR Es E=i:=by
 unfold numR
 have:Es.idxOf? E=some i:=by
  rw [List.idxOf?_eq_some_iff]
  refine ⟨hi,by simp [h],fun j hj=>?_⟩
  have:Es[j]≠E:=fun e=>hn (by rw [← e]; exact List.mem_take_iff_getElem.2 ⟨j,by omega,rfl⟩)
  simpa using this
 rw [this]
set_option maxRecDepth 100000 in
set_option maxHeartbeats 4000000 in
theorem number_law (Es:List (List (List UInt8))) (E:List (List UInt8)) (v ev:Value) (w:World) (hv:EndsIs w v Es) (he:StrsAt w ev E) (hl:Es.length≤1000000) (hls:∀ X∈Es,X.length≤1000000) (hlE:E.length≤1000000) :
  Calls Tryz.prog 51 #[v,ev] w fun e w'=>e = .returned (.int .i64 (numR Es E))∧Same w w':=by
 have hform:∃ a cap,v = .slice a Es.length cap:=by obtain ⟨vs,h1,_⟩:=hv; exact ownsRow_form h1
 obtain ⟨a,cap,rfl⟩:=hform
 obtain ⟨ea,ec,rfl⟩:=ownsRow_form he
 have HV:=Lib.hid hv
 have HE:=Lib.hid he
 have HLS:=Lib.hid hls
 clear hv he hls
 go_enter Tryz.func51,Tryz.ntmps51
 go_wp2_with fail
 go_loopw [5] (fun iv wr=>∃ i:Nat,i≤Es.length∧iv = .int .i64 (i:Int)∧Hid (E ∉ Es.take i)∧Hid (Same w wr)) (fun iv _=>Es.length - (intOf iv).toNat)
 case atStart=>exact ⟨0,Nat.zero_le _,rfl,Lib.hid (by simp),Lib.hid (Same.refl _)⟩
 case round =>
  obtain ⟨i,hia,rfl,HN,HO⟩:=hrel
  have q1:IntKind.i64.wrap ((i:Int)+1)=(i:Int)+1:=IntWalk.i64_in _ (by omega)
  by_cases hil:i < Es.length
  ·obtain ⟨g,cp,u,e1,hc,hu⟩:=HV.out.at hil
   simp only [Value.slice.injEq,true_and] at e1
   obtain ⟨rfl,rfl⟩:=e1
   have d1:=(HO.out.cell ⟨g,i,none⟩).trans hc
   have zi:(0:Int)≤(i:Int)∧(i:Int) < (Es.length:Int):=by omega
   have hsame:=sameR_law Es[i] E u _ wr (hu.keep fun k _=>by rw [HO.out.heap]) (HE.out.keep fun k _=>by rw [HO.out.heap]) (HLS.out _ (List.getElem_mem hil)) hlE
   have HSAME:=Lib.hid hsame
   obtain ⟨ua,uc,rfl⟩:=ownsRow_form hu
   have hnx:Es.take (i+1)=Es.take i++[Es[i]]:=List.take_succ_eq_append_getElem hil
   by_cases heq:Es[i]=E
   ·have hnum:=numR_at hil heq HN.out
    have HNUM:=Lib.hid hnum
    have hd:decide (Es[i]=E)=true:=decide_eq_true heq
    clear hnum hsame hc hu heq hnx
    go_upto_region 5 with (go_at_call 82; refine HSAME.out.mono ?_; rintro e w2 ⟨rfl,hs2⟩; have HS2:=Lib.hid hs2; clear hs2)
    go_wp2_with fail
    go_ret
    exact ⟨by rw [HNUM.out]; rfl,HO.out.trans HS2.out⟩
   ·have HN2:Hid (E ∉ Es.take (i+1)):=Lib.hid (by rw [hnx,List.mem_append,List.mem_singleton]; exact fun h=>h.elim HN.out fun h=>heq h.symm)
    have hd:decide (Es[i]=E)=false:=decide_eq_false heq
    clear hsame hc hu heq hnx
    go_upto_region 5 with (go_at_call 82; refine HSAME.out.mono ?_; rintro e w2 ⟨rfl,hs2⟩; have HS2:=Lib.hid hs2; clear hs2)
    go_wp2_with fail
    exact ⟨⟨i+1,by omega,by go_num,HN2,Lib.hid (HO.out.trans HS2.out)⟩,by simp [intOf]; omega⟩
  ·obtain rfl:i=Es.length:=by omega
   have hn:E ∉ Es:=by have:=HN.out; rw [List.take_length] at this; exact this
   have HNUM:=Lib.hid (numR_none hn)
   clear hn
   go_wp2_with fail
   go_ret
   exact ⟨by rw [HNUM.out]; rfl,HO.out⟩
end Go.Proofs.Tl
namespace Go.Proofs.Tl
open Go Go.RowKit Go.Proofs.Ts
def edgeStep (out:List UInt8) (e:List UInt8):List UInt8:=match e with
 | []=>out
 | c :: _=>if out.getLast?=some c then out else out++[c]
def edgesR (E:List (List UInt8)):List UInt8:=E.foldl edgeStep []
theorem edgesR_succ (E:List (List UInt8)) (i:Nat) (h:i < E.length):edgesR (E.take (i+1))=edgeStep (edgesR (E.take i)) E[i]:=by
 unfold edgesR
 rw [List.take_succ_eq_append_getElem h,List.foldl_append]
 rfl
theorem edgeStep_length (out:List UInt8) (e:List UInt8):(edgeStep out e).length≤out.length+1:=by
 unfold edgeStep
 split
 ·omega
 ·split
  ·omega
  ·simp
theorem edgesR_length (E:List (List UInt8)):∀ i,i≤E.length→(edgesR (E.take i)).length≤i
 | 0,_=>by simp [edgesR]
 | i+1,h=>by
  rw [edgesR_succ E i (by omega)]
  have h1:=edgesR_length E i (by omega)
  have h2:=edgeStep_length (edgesR (E.take i)) E[i]
  omega
def byteV (c:UInt8):Value := .int .u8 (c.toNat:Int)
abbrev ByteRow (w0 W:World) (v:Value) (L:List UInt8):Prop:=RowAt 5 1 w0 W v L.length (L.map byteV)
theorem Tryz.info5L:(Tryz.prog.info? 5).map (fun i=>(i.zero,i.size,i.bytes))=some (some (.int .u8 0),1,1):=by kernel_rfl
set_option maxRecDepth 100000 in
set_option maxHeartbeats 4000000 in
theorem edges_law (E:List (List UInt8)) (v:Value) (w:World) (hv:StrsAt w v E) (hl:E.length≤1000000) :
  Calls Tryz.prog 49 #[v] w fun e w'=>∃ ov,e = .returned ov∧ByteRow w w' ov (edgesR E):=by
 obtain ⟨i2,hi2,hw0,hx1,hx2⟩:=info_parts Tryz.info5L
 obtain ⟨ea,ec,rfl⟩:=ownsRow_form hv
 have HV:=Lib.hid hv
 have HR1:=Lib.hid (RowAt.start 5 1 w)
 clear hv
 go_enter Tryz.func49,Tryz.ntmps49
 go_wp2_with fail
 go_loopw [3,4] (fun ov iv wr=>∃ i:Nat,i≤E.length∧iv = .int .i64 (i:Int)∧Hid (ByteRow w wr ov (edgesR (E.take i)))) (fun _ iv _=>E.length - (intOf iv).toNat)
 case atStart=>exact ⟨0,Nat.zero_le _,rfl,HR1⟩
 case round =>
  obtain ⟨i,hiT,rfl,HR⟩:=hrel
  have q1:IntKind.i64.wrap ((i:Int)+1)=(i:Int)+1:=IntWalk.i64_in _ (by omega)
  by_cases hlt:i < E.length
  ·obtain ⟨g,cap,e1,hc⟩:=HV.out.cell hlt
   simp only [Value.slice.injEq,true_and] at e1
   obtain ⟨rfl,rfl⟩:=e1
   have d2:wr.cell? ⟨g,i,none⟩=some (.string ⟨E[i].toArray⟩):=(HR.out.below.cell (p:=⟨g,i,none⟩) (lt_of_cell hc)).trans hc
   have z1:(0:Int)≤(i:Int)∧(i:Int) < (E.length:Int):=by omega
   have hns:=edgesR_succ E i hlt
   have hnl:=edgesR_length E i (by omega)
   obtain ⟨out,hout⟩:∃ out,out=edgesR (E.take i):=⟨_,rfl⟩
   rw [← hout] at hns hnl HR
   have HNS:=Lib.hid hns
   generalize E[i]=t at *
   clear hns hc hout
   obtain ⟨va,vc,hva⟩:=ownsRow_form HR.out.row
   subst hva
   cases t with
   | nil =>
    have g0:(([]:List UInt8) != [])=false:=rfl
    go_upto_region 5 with fail
    go_quiet (fail)
    go_wp2_with fail
    exact ⟨⟨i+1,by omega,by go_num,Lib.hid (by rw [HNS.out]; exact HR.out.same (Same.drewN _ _))⟩,by simp [intOf]; omega⟩
   | cons c t =>
    have gidx:∀ h,((⟨(c :: t).toArray⟩:ByteArray)[0]'h)=c:=fun h=>rfl
    rcases List.eq_nil_or_concat out with h0 | ⟨o2,lc,h0⟩
    ·have hol:out.length=0:=by rw [h0]; rfl
     have hlast:¬ out.getLast?=some c:=by rw [h0]; simp
     clear h0
     rw [hol]
     go_upto_region 5 with fail
     go_quiet (fail)
     rw [← hol]
     have hrow:=(HR.out.same (Same.drewN wr nq)).row.alloc (.cells #[.int .u8 c.toNat] 5)
     have HR3:=Lib.hid ((HR.out.same (Same.drewN wr nq)).alloc (.cells #[.int .u8 c.toNat] 5))
     have HEX:Hid (∀ W4 v4,RowAt 5 1 w W4 v4 (out.length+1) (out.map byteV++[.int .u8 c.toNat])→ByteRow w W4 v4 (edgesR (E.take (i+1)))):=Lib.hid fun W4 v4 h=>by
      rw [HNS.out]
      unfold edgeStep ByteRow
      simp only
      rw [if_neg hlast,List.length_append,List.map_append]
      exact h
     clear hlast
     go_wp2_with (at_builtin; refine wpList_append_lies rfl _ _ 42 rfl 5 i2 (.int .u8 0) 1 1 Tryz.underlying42 hi2 hw0 hx1 hx2 rfl (by decide) _ out.length (out.map byteV) rfl hrow ⟨wr.heap.size,0,none⟩ 1 1 [.int .u8 c.toNat] rfl rfl (cell_one_new (wr.drewN nq) _ _) (by simp [Value.oneCell']) (by decide) (by unfold maxLen; omega) (by omega) ?_; intro v4 W4 hrow4 hgrow4 hlies4; have HR4:=Lib.hid (HR3.out.moves (Moves.append hgrow4 hlies4) hrow4 (by omega)); clear hrow4 hgrow4 hlies4 hrow)
     go_roundw
     case rel=>exact ⟨i+1,by omega,by go_num,Lib.hid (HEX.out _ _ HR4.out)⟩
     case measure=>(simp [intOf]) <;> omega
    ·rw [List.concat_eq_append] at h0
     have hol:out.length=o2.length+1:=by rw [h0]; simp
     have hle:out.getLast?=some lc:=by rw [h0]; simp
     obtain ⟨gb,cb,eb,hcb⟩:=ownsRow_cell HR.out.row (j:=o2.length) (u:=byteV lc) (by rw [h0,List.getElem?_map]; simp)
     simp only [Value.slice.injEq,true_and] at eb
     obtain ⟨rfl,rfl⟩:=eb
     unfold byteV at hcb
     have q2:IntKind.i64.wrap ((o2.length:Int)+1 - 1)=(o2.length:Int):=by rw [IntWalk.i64_in _ (by omega)]; omega
     have q3:(0:Int)≤(o2.length:Int)∧(o2.length:Int) < (o2.length:Int)+1:=by omega
     have q4:(((o2.length:Int)+1) == 0)=false:=by rw [beq_eq_false_iff_ne]; omega
     clear h0
     by_cases hlc:lc=c
     ·subst hlc
      rw [hol]
      go_upto_region 5 with fail
      go_quiet (fail)
      rw [← hol]
      go_wp2_with fail
      refine ⟨⟨i+1,by omega,by go_num,Lib.hid ?_⟩,by simp [intOf]; omega⟩
      rw [HNS.out]
      unfold edgeStep
      simp only
      rw [if_pos hle]
      exact HR.out.same (Same.drewN _ _)
     have hlast:¬ out.getLast?=some c:=by rw [hle]; exact fun h=>hlc (Option.some.inj h)
     have g3:((lc.toNat:Int) != (c.toNat:Int))=true:=by rw [bne_iff_ne]; exact fun h=>hlc (UInt8.toNat_inj.1 (by omega))
     rw [hol]
     go_upto_region 5 with fail
     go_quiet (fail)
     rw [← hol]
     have hrow:=(HR.out.same (Same.drewN wr nq)).row.alloc (.cells #[.int .u8 c.toNat] 5)
     have HR3:=Lib.hid ((HR.out.same (Same.drewN wr nq)).alloc (.cells #[.int .u8 c.toNat] 5))
     have HEX:Hid (∀ W4 v4,RowAt 5 1 w W4 v4 (out.length+1) (out.map byteV++[.int .u8 c.toNat])→ByteRow w W4 v4 (edgesR (E.take (i+1)))):=Lib.hid fun W4 v4 h=>by
      rw [HNS.out]
      unfold edgeStep ByteRow
      simp only
      rw [if_neg hlast,List.length_append,List.map_append]
      exact h
     clear hlast
     go_wp2_with (at_builtin; refine wpList_append_lies rfl _ _ 42 rfl 5 i2 (.int .u8 0) 1 1 Tryz.underlying42 hi2 hw0 hx1 hx2 rfl (by decide) _ out.length (out.map byteV) rfl hrow ⟨wr.heap.size,0,none⟩ 1 1 [.int .u8 c.toNat] rfl rfl (cell_one_new (wr.drewN nq) _ _) (by simp [Value.oneCell']) (by decide) (by unfold maxLen; omega) (by omega) ?_; intro v4 W4 hrow4 hgrow4 hlies4; have HR4:=Lib.hid (HR3.out.moves (Moves.append hgrow4 hlies4) hrow4 (by omega)); clear hrow4 hgrow4 hlies4 hrow)
     go_roundw
     case rel=>exact ⟨i+1,by omega,by go_num,Lib.hid (HEX.out _ _ HR4.out)⟩
     case measure=>(simp [intOf]) <;> omega
  ·obtain rfl:i=E.length:=by omega
   go_wp2_with fail
   go_ret
   rw [List.take_length] at HR
   exact ⟨_,rfl,HR.out⟩
end Go.Proofs.Tl
