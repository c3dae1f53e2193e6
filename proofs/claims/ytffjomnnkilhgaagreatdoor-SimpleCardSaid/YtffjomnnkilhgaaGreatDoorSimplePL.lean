/- Lemmas towards the statement Simple of termsearch: walks of the program's functions and plain laws on lists (TlMatch, TlChecked, TsErrsB, TsErrsC, TsErrsP, TsToldB, TsAskE, TlAskP, TlBox, TlPlayer, TlBuildP). Conditions: those that each theorem names. -/
import Derived.Test.YtffjomnnkilhgaaGreatDoorSimplePK
import Derived.Test.YtffjomnnkilhgaaGreatDoorSimplePJ
import Derived.Deep.RegionWith
import Derived.BigQuiet
import Derived.Test.YtffjomnnkilhgaaGreatDoorSimplePI
set_option linter.unusedVariables false
set_option linter.unusedSimpArgs false
set_option linter.unusedSectionVars false
namespace Go.Proofs.Tl
open Go Go.RowKit Go.Proofs.Ts
set_option maxRecDepth 100000 in
set_option maxHeartbeats 4000000 in
theorem matchR_law (i B mb n:Nat) (T:List (List UInt8)) (L:List UInt8→List Nat) (w:World) (hx:IndexIs B w mb n T L) (hi:i < T.length) (hT:T.length≤1000000) :
  Calls Tryz.prog 56 #[ptrV mb,.int .i64 i] w fun e w'=>e = .returned (.agg #[strV T[i],.int .i64 (L T[i]).length])∧Below w.heap.size w w':=by
 obtain ⟨tv,pv,ps,a1,a2,a3,a4,a5,a6,a7⟩:=hx.ex
 obtain ⟨g,tc,rfl,hc1⟩:=strRow_cell a2 hi
 have hpl:ps.length=T.length:=by have:=a4.1; omega
 obtain ⟨v,hv⟩:∃ v,ps[i]?=some v:=⟨_,List.getElem?_eq_getElem (by omega)⟩
 obtain ⟨gp,pc,rfl,hcp⟩:=ownsRow_cell a4 hv
 obtain ⟨hrow,_⟩:=a6 i v T[i] hv (List.getElem?_eq_getElem hi)
 obtain ⟨va,vc,rfl⟩:=ownsRow_form hrow
 have c1:w.cell? ⟨mb,1,none⟩=some (.slice (some ⟨g,0,none⟩) T.length tc):=cell_block a1
 have c2:w.cell? ⟨mb,2,none⟩=some (.slice (some ⟨gp,0,none⟩) T.length pc):=cell_block a1
 have z1:(0:Int)≤(i:Int)∧(i:Int) < (T.length:Int):=by omega
 clear a1 a2 a3 a4 a5 a6 a7 hx hrow hv
 obtain ⟨m,hm⟩:∃ m,m=(L T[i]).length:=⟨_,rfl⟩
 rw [← hm] at hcp ⊢
 generalize T[i]=t at *
 clear hm
 unfold ptrV strV
 go_enter Tryz.func56,Tryz.ntmps56
 go_upto_region 1 with fail
 have hb1:Below w.heap.size w (w.alloc (.cells #[.string ⟨#[]⟩,.int .i64 0] 103)):=(Below.refl _ w).alloc (Nat.le_refl _) _
 have hm0:=heap_alloc_new w (.cells #[.string ⟨#[]⟩,.int .i64 0] 103)
 have hne:∀ b j u,w.cell? ⟨b,j,none⟩=some u→b≠w.heap.size:=fun b j u hu e=>by have:b < w.heap.size:=lt_of_cell hu; omega
 have n1:=hne _ _ _ c1
 have n2:=hne _ _ _ c2
 have n3:=hne _ _ _ hc1
 have n4:=hne _ _ _ hcp
 have d1:=(hb1.cell (p:=⟨mb,1,none⟩) (lt_of_cell c1)).trans c1
 have d2:=(hb1.cell (p:=⟨mb,2,none⟩) (lt_of_cell c2)).trans c2
 have d3:=(hb1.cell (p:=⟨g,i,none⟩) (lt_of_cell hc1)).trans hc1
 have d4:=(hb1.cell (p:=⟨gp,i,none⟩) (lt_of_cell hcp)).trans hcp
 have HB1:=Lib.hid hb1
 have M0:=Lib.hid hm0
 clear c1 c2 hc1 hcp hb1 hm0 hne
 generalize (w.alloc (.cells #[.string ⟨#[]⟩,.int .i64 0] 103))=w2 at *
 refine wp_region_ordX [(0,false),(1,false),(2,false),(3,false),(4,false),(5,false),(6,false),(7,false),(8,false),(9,false),(10,false),(11,false),(12,false),(13,false),(14,false),(15,false),(16,true)] 16
  (fun w'=>w'.cell? ⟨mb,1,none⟩=some (.slice (some ⟨g,0,none⟩) T.length tc)∧w'.cell? ⟨mb,2,none⟩=some (.slice (some ⟨gp,0,none⟩) T.length pc)∧w'.cell? ⟨g,i,none⟩=some (.string ⟨t.toArray⟩)∧w'.cell? ⟨gp,i,none⟩=some (.slice va m vc)) (by kernel_rfl) (by kernel_rfl) ⟨d1,d2,d3,d4⟩ ?_
 iterate 16 (
  refine wpOrd_quiet ?_ rfl rfl (fun w' hS=>?_) ?_
  rotate_left
  ·obtain ⟨e0,e1,e2,e3⟩:=hS
   go_simp
   first | rfl | done
  simp only [put_lit,List.set_cons_succ,List.set_cons_zero])
 refine wpOrd_last rfl rfl (fun K hK=>?_)
 have k0:w2.cell? ⟨w.heap.size,0,none⟩=some (.string ⟨#[]⟩):=cell_block M0.out
 have k1:w2.cell? ⟨w.heap.size,1,none⟩=some (.int .i64 0):=cell_block M0.out
 have k2:w2.frozen? ⟨w.heap.size,0,none⟩=false:=free_block M0.out
 have k3:w2.frozen? ⟨w.heap.size,1,none⟩=false:=free_block M0.out
 have HK:=Lib.hid hK
 clear hK d1 d2 d3 d4
 go_simp
 have hb3:Below w.heap.size w ((w2.setCell ⟨w.heap.size,0,none⟩ (.string ⟨t.toArray⟩)).setCell ⟨w.heap.size,1,none⟩ (.int .i64 m)):=(HB1.out.setCell (p:=⟨w.heap.size,0,none⟩) (Nat.le_refl _) _).setCell (p:=⟨w.heap.size,1,none⟩) (Nat.le_refl _) _
 have hm3:((w2.setCell ⟨w.heap.size,0,none⟩ (.string ⟨t.toArray⟩)).setCell ⟨w.heap.size,1,none⟩ (.int .i64 m)).heap[w.heap.size]?=some (.cells #[.string ⟨t.toArray⟩,.int .i64 m] 103 (0,0)):=by
  have h1:=heap_setCell_same w2 (w.heap.size) 0 _ _ (.string ⟨t.toArray⟩) M0.out
  exact heap_setCell_same _ (w.heap.size) 1 _ _ (.int .i64 m) h1
 refine HK.out _ _ ?_
 clear HK K k0 k1 k2 k3
 generalize ((w2.setCell ⟨w.heap.size,0,none⟩ (.string ⟨t.toArray⟩)).setCell ⟨w.heap.size,1,none⟩ (.int .i64 m))=W3 at *
 have r0:W3.cell? ⟨w.heap.size,0,none⟩=some (.string ⟨t.toArray⟩):=cell_block hm3
 have r1:W3.cell? ⟨w.heap.size,1,none⟩=some (.int .i64 m):=cell_block hm3
 go_wp2_with fail
 refine bodyPost_ret (results_cell_row rfl _ _ (w.heap.size) _ _ _ _ rfl hm3 Tryz.underlying103 rfl (by kernel_rfl)) rfl ?_
 exact ⟨rfl,hb3.drew⟩
def foundOf (L:List UInt8→List Nat) (T:List (List UInt8)) (l:List Nat):List (List UInt8 × Nat):=l.map fun i=>(T.getD i [],(L (T.getD i [])).length)
theorem foundOf_succ (L:List UInt8→List Nat) (T:List (List UInt8)) (l:List Nat) (j:Nat) (h:j < l.length):foundOf L T (l.take (j+1))=foundOf L T (l.take j)++[(T.getD l[j] [],(L (T.getD l[j] [])).length)]:=by
 unfold foundOf
 rw [List.take_succ_eq_append_getElem h,List.map_append]
 rfl
theorem foundCells_app (a:List (List UInt8 × Nat)) (t:List UInt8) (c:Nat):foundCells (a++[(t,c)])=foundCells a++[.string ⟨t.toArray⟩,.int .i64 c]:=by
 unfold foundCells
 rw [List.flatMap_append]
 rfl
set_option maxRecDepth 100000 in
set_option maxHeartbeats 4000000 in
theorem refMatches_law (q:Asked) (st most:Int) (r:Ans) (B mb n:Nat) (T:List (List UInt8)) (L:List UInt8→List Nat) (w:World) (hx:IndexIs B w mb n T L) (hT:T.length≤1000000) (h16:∀ t∈T,t.length≤16) (hc:CheckedIs w q st r) :
  Calls Tryz.prog 28 #[ptrV mb,askV q,.int .i64 st,.int .i64 most] w fun e w'=>Below w.heap.size w w' ∧
   match limited st most r T with
   | .err n p=>e = .returned (.tuple #[.slice none 0 0,.int .i64 n,.int .i64 p])
   | .ok acc=>∃ ov,e = .returned (.tuple #[ov,.int .i64 0,.int .i64 0])∧RowAt 103 2 w w' ov (numsOf acc T T.length).length (foundCells (foundOf L T (numsOf acc T T.length))):=by
 obtain ⟨i0,hi,hz0,hz1,hz2⟩:=info_parts Tryz.info103
 have HX:=Lib.hid hx
 have hb1:Below w.heap.size w (w.alloc (.cells #[.int .i64 q.kind,.string ⟨q.a.toArray⟩,.string ⟨q.b.toArray⟩,.int .i64 q.n] 34)):=(Below.refl _ w).alloc (Nat.le_refl _) _
 have hask:=asked_any q st most r B mb n T L _ (hx.below hb1) hT h16 (fun W hW=>hc W (hb1.trans (hW.mono hb1.size)))
 have HB1:=Lib.hid hb1
 clear hb1 hx hc
 cases hlim:limited st most r T with
 | err en ep =>
  rw [hlim] at hask
  have HASK:=Lib.hid hask
  clear hask hlim
  unfold askV strV ptrV at *
  go_enter Tryz.func28,Tryz.ntmps28
  go_upto_region 3 with (go_at_call 53; refine HASK.out.mono ?_; rintro e w2 ⟨hb2,hn0,rfl⟩; have HB2:=Lib.hid hb2; clear hb2)
  go_wp2_with fail
  go_loopw [14,15] (fun mv iv wr=>mv = .slice none 0 0∧iv = .int .i64 0∧w2=wr) (fun _ _ _=>0)
  case atStart=>exact ⟨rfl,rfl,rfl⟩
  case round =>
   obtain ⟨rfl,rfl,rfl⟩:=hrel
   go_wp2_with fail
   go_ret3
   exact ⟨HB1.out.trans (HB2.out.mono HB1.out.size),rfl⟩
 | ok acc =>
  rw [hlim] at hask
  have HASK:=Lib.hid hask
  clear hask hlim
  unfold askV strV ptrV at *
  go_enter Tryz.func28,Tryz.ntmps28
  go_upto_region 3 with (go_at_call 53; refine HASK.out.mono ?_; rintro e w2 ⟨hb2,ov,rfl,hr2⟩; have HB2:=Lib.hid hb2; have HR2:=Lib.hid hr2; clear hb2 hr2)
  have hbw:Below w.heap.size w w2:=HB1.out.trans (HB2.out.mono HB1.out.size)
  have hnl:=numsOf_length acc T T.length
  have hlt:∀ i∈numsOf acc T T.length,i < T.length:=fun i hi=>numsOf_lt hi
  have HX2:=Lib.hid (HX.out.below hbw)
  have HBW:=Lib.hid hbw
  have HROW:=Lib.hid HR2.out.row
  have HST:=Lib.hid (RowAt.start 103 2 w2)
  obtain ⟨l,hl⟩:∃ l,l=numsOf acc T T.length:=⟨_,rfl⟩
  rw [← hl] at hnl hlt HROW
  have HLT:=Lib.hid hlt
  have HLL:=Lib.hid hl
  clear hl hlt hbw HR2 HB1 HB2 HX
  obtain ⟨oa,oc,rfl⟩:=ownsRow_form HROW.out
  go_wp2_with fail
  go_loopw [14,15] (fun mv iv wr=>∃ j:Nat,j≤l.length∧iv = .int .i64 (j:Int)∧Hid (RowAt 103 2 w2 wr mv j (foundCells (foundOf L T (l.take j))))) (fun _ iv _=>l.length - (intOf iv).toNat)
  case atStart=>exact ⟨0,Nat.zero_le _,rfl,HST⟩
  case round =>
   obtain ⟨j,hj,rfl,HR⟩:=hrel
   have q1:IntKind.i64.wrap ((j:Int)+1)=(j:Int)+1:=IntWalk.i64_in _ (by omega)
   by_cases hjl:j < l.length
   ·obtain ⟨g,cap,e1,hc⟩:=NatsOf.cell HROW.out hjl
    simp only [Value.slice.injEq,true_and] at e1
    obtain ⟨rfl,rfl⟩:=e1
    have hiT:=HLT.out l[j] (List.getElem_mem hjl)
    have hfs:=foundOf_succ L T l j hjl
    generalize l[j]=i at *
    have d1:wr.cell? ⟨g,j,none⟩=some (.int .i64 i):=(HR.out.below.cell (p:=⟨g,j,none⟩) (lt_of_cell hc)).trans hc
    have z1:(0:Int)≤(j:Int)∧(j:Int) < (l.length:Int):=by omega
    have hm:=matchR_law i B mb n T L wr (HX2.out.below HR.out.below) hiT hT
    have e3:T.getD i []=T[i]:=by rw [List.getD_eq_getElem?_getD,List.getElem?_eq_getElem hiT]; rfl
    rw [e3] at hfs
    generalize T[i]=t at *
    generalize (L t).length=c at *
    unfold strV ptrV at hm
    have HM:=Lib.hid hm
    have HFS:=Lib.hid hfs
    clear hm hfs e3 hc
    go_upto_region 7 with (go_at_call 56; refine HM.out.mono ?_; rintro e w3 ⟨rfl,hb3⟩; have HR3:=Lib.hid (HR.out.kept hb3); clear hb3)
    have hrow4:=(HR3.out.row.alloc (.cells #[.string ⟨t.toArray⟩,.int .i64 c] 103)).alloc (.cells #[.string ⟨t.toArray⟩,.int .i64 c] 103)
    have HR4:=Lib.hid ((HR3.out.alloc (.cells #[.string ⟨t.toArray⟩,.int .i64 c] 103)).alloc (.cells #[.string ⟨t.toArray⟩,.int .i64 c] 103))
    have hnew:∀ j u,[Value.string ⟨t.toArray⟩,.int .i64 c][j]?=some u→((w3.alloc (.cells #[.string ⟨t.toArray⟩,.int .i64 c] 103)).alloc (.cells #[.string ⟨t.toArray⟩,.int .i64 c] 103)).cell? ((⟨w3.heap.size+1,0,none⟩:Addr).add j)=some u:=fun j u hu=>by
     have:=cell_two_new (w3.alloc (.cells #[.string ⟨t.toArray⟩,.int .i64 c] 103)) (.string ⟨t.toArray⟩) (.int .i64 c) 103 j u hu
     simpa using this
    go_wp2_with (at_builtin; refine wpList_append_lies rfl _ _ 57 rfl 103 i0 (.agg #[.string ⟨#[]⟩,.int .i64 0]) 2 24 Tryz.underlying57 hi hz0 hz1 hz2 rfl (by decide) u14 j (foundCells (foundOf L T (l.take j))) rfl hrow4 ⟨w3.heap.size+1,0,none⟩ 1 1 [.string ⟨t.toArray⟩,.int .i64 c] rfl rfl hnew (by simp [Value.oneCell']) (by decide) (by unfold maxLen; omega) (by omega) ?_; intro v5 W5 hrow5 hgrow5 hlies5; have HR5:=Lib.hid (HR4.out.moves (Moves.append hgrow5 hlies5) hrow5 (by omega)); clear hrow5 hgrow5 hlies5 hnew hrow4)
    go_roundw
    case rel =>
     refine ⟨j+1,by omega,by go_num,Lib.hid ?_⟩
     rw [HFS.out,foundCells_app]
     exact HR5.out
    case measure=>(simp [intOf]) <;> omega
   ·obtain rfl:j=l.length:=by omega
    go_wp2_with fail
    go_ret3
    have:=HR.out
    rw [List.take_length,HLL.out] at this
    exact ⟨HBW.out.trans (this.below.mono HBW.out.size),_,rfl,this.base HBW.out⟩
end Go.Proofs.Tl
namespace Go.Proofs.Tl
open Go Go.RowKit Go.Proofs.Ts
def ansS (q:Asked):Ans:=if 40 < q.a.length∨(q.kind=3∧40 < q.b.length) then .err 2 0 else .ok (accS q.kind q.a q.b)
set_option maxRecDepth 100000 in
set_option maxHeartbeats 4000000 in
theorem checked_simple (q:Asked) (st:Int) (w:World) (hk:q.kind=1∨q.kind=2∨q.kind=3):CheckedIs w q st (ansS q):=by
 intro W hW
 obtain ⟨k,a,b,n,s0⟩:=q
 simp only at hk
 have hgoal:∀ (e:Ending) (w':World),(Below W.heap.size W w'∧((40 < a.length∨(k=3∧40 < b.length))∧e = .returned (.tuple #[.pointer none,.int .i64 2,.int .i64 0])∨(¬ (40 < a.length∨(k=3∧40 < b.length)) ∧ ∃ nb,e = .returned (.tuple #[ptrV nb,.int .i64 0,.int .i64 0])))) →
   Below W.heap.size W w'∧match ansS ⟨k,a,b,n,s0⟩ with
  | .err n p=>n≠0∧e = .returned (.tuple #[.pointer none,.int .i64 n,.int .i64 p])
  | .ok acc=>∃ nb,e = .returned (.tuple #[ptrV nb,.int .i64 0,.int .i64 0])∧MeetsIs w' ⟨k,a,b,n,s0⟩ (ptrV nb) acc:=by
  rintro e w' ⟨h1,h2⟩
  refine ⟨h1,?_⟩
  unfold ansS
  rcases h2 with ⟨h3,h4⟩ | ⟨h3,nb,h4⟩
  ·rw [if_pos h3]
   exact ⟨by decide,h4⟩
  ·rw [if_neg h3]
   refine ⟨nb,h4,fun W' hW' t ht=>?_⟩
   exact meets_simple k n a b t _ W' hk (by omega)
 refine Calls.mono ?_ hgoal
 clear hgoal
 unfold askV strV
 simp only
 by_cases ha:40 < a.length
 ·go_enter Tryz.func41,Tryz.ntmps41
  rcases hk with rfl | rfl | rfl
  all_goals go_wp2_with fail
  all_goals go_ret3
  all_goals exact ⟨(Below.refl _ W).alloc (Nat.le_refl _) _,rfl⟩
 ·by_cases hb:k=3∧40 < b.length
  ·obtain ⟨rfl,hb⟩:=hb
   clear hk
   go_enter Tryz.func41,Tryz.ntmps41
   go_wp2_with fail
   go_ret3
   exact ⟨(Below.refl _ W).alloc (Nat.le_refl _) _,.inl ⟨.inr ⟨trivial,hb⟩,rfl⟩⟩
  ·have hor:¬ (40 < a.length∨(k=3∧40 < b.length)):=fun h=>h.elim ha hb
   have hgoal:∀ (e:Ending) (w':World),(Below W.heap.size W w' ∧ ∃ nb,e = .returned (.tuple #[ptrV nb,.int .i64 0,.int .i64 0]))→Below W.heap.size W w'∧((40 < a.length∨(k=3∧40 < b.length))∧e = .returned (.tuple #[.pointer none,.int .i64 2,.int .i64 0])∨(¬ (40 < a.length∨(k=3∧40 < b.length)) ∧ ∃ nb,e = .returned (.tuple #[ptrV nb,.int .i64 0,.int .i64 0]))) :=
    fun e w' h=>⟨h.1,.inr ⟨hor,h.2⟩⟩
   refine Calls.mono ?_ hgoal
   clear hgoal hor
   unfold ptrV
   rcases hk with rfl | rfl | rfl
   ·go_enter Tryz.func41,Tryz.ntmps41
    go_wp2_with fail
    go_ret3
    exact ⟨((Below.refl _ W).alloc (Nat.le_refl _) _).alloc (by simp) _,_,rfl⟩
   ·go_enter Tryz.func41,Tryz.ntmps41
    go_wp2_with fail
    go_ret3
    exact ⟨((Below.refl _ W).alloc (Nat.le_refl _) _).alloc (by simp) _,_,rfl⟩
   ·have hb':¬ 40 < b.length:=fun h=>hb ⟨rfl,h⟩
    clear hb
    go_enter Tryz.func41,Tryz.ntmps41
    go_wp2_with fail
    go_ret3
    exact ⟨((Below.refl _ W).alloc (Nat.le_refl _) _).alloc (by simp) _,_,rfl⟩
end Go.Proofs.Tl
namespace Go.Proofs.Ts
open Go Go.RowKit Go.Extern.Stop Go.Stop Go.Extern
theorem rl_valueOfB (b:Nat) (w:World):(ReflectliteValue.unpack (.iface 131 (.pointer (some ⟨b,0,none⟩)))).run Tryz.prog w = .ok (.agg #[.pointer (some ⟨5,131,none⟩),.pointer (some ⟨w.heap.size,0,none⟩),.int .u64 150]) (w.alloc (.cells #[.pointer (some ⟨b,0,none⟩)] 131)):=by kernel_rfl
theorem rl_typeB (a : Addr) (w : World) : (ReflectliteValue.methodAny (ReflectliteValue.valueError "reflectlite.Value.Type" 0) (fun t _ _ _ => ReflectliteType.toType t) #[.agg #[.pointer (some ⟨5, 131, none⟩), .pointer (some a), .int .u64 150]]).run Tryz.prog w
  = .ok (.iface 327 (.agg #[.pointer (some ⟨5,131,none⟩)])) w:=by kernel_rfl
theorem rl_kindB (w:World):((ReflectliteType.abiMethod fun t=>(fun a:Nat=>Value.int IntKind.u8 (a:Int)) <$> Rtype.kind t) #[.pointer (some ⟨5,131,none⟩)]).run Tryz.prog w = .ok (.int .u8 22) w:=by kernel_rfl
theorem rl_kindP (w:World):((ReflectliteType.abiMethod fun t=>(fun a:Nat=>Value.int IntKind.u8 (a:Int)) <$> Rtype.kind t) #[.pointer (some ⟨5,129,none⟩)]).run Tryz.prog w = .ok (.int .u8 22) w:=by kernel_rfl
theorem rl_partsB (a:Addr) (w:World):(ReflectliteValue.parts (.agg #[.pointer (some ⟨5,131,none⟩),.pointer (some a),.int .u64 150])).run Tryz.prog w = .ok (some (131,a,150)) w:=by kernel_rfl
theorem rl_isNilB (a p:Addr) (W:World) (ha:W.cell? a=some (.pointer (some p))) :
  (ReflectliteValue.method (ReflectliteValue.valueError "reflectlite.Value.IsNil" 0) ReflectliteValue.isNil #[.agg #[.pointer (some ⟨5, 131, none⟩), .pointer (some a), .int .u64 150]]).run Tryz.prog W = .ok (.bool false) W := by
 rw [rlm]
 simp only [Sem.run_bind,rl_partsB,Result.andThen]
 simp [ReflectliteValue.isNil,loadVar,isAgg,underlying,Tryz.underlying131,ha,Result.andThen]
theorem rl_elemB (w:World):(ReflectliteType.method ReflectliteType.elem #[.agg #[.pointer (some ⟨5,131,none⟩)]]).run Tryz.prog w = .ok (.iface 327 (.agg #[.pointer (some ⟨5,129,none⟩)])) w:=by kernel_rfl
theorem rl_implementsP (w : World) : (ReflectliteType.relation "Implements" ReflectliteType.implements_ #[.agg #[.pointer (some ⟨5, 129, none⟩)], .iface 327 (.agg #[.pointer (some ⟨5, 76, none⟩)])]).run Tryz.prog w = .ok (.bool true) w := by kernel_rfl
theorem rl_assignableP (w : World) : (ReflectliteType.relation "AssignableTo" ReflectliteType.assignableTo #[.agg #[.pointer (some ⟨5, 43, none⟩)], .iface 327 (.agg #[.pointer (some ⟨5, 129, none⟩)])]).run Tryz.prog w = .ok (.bool false) w := by kernel_rfl
theorem rl_noAs (v:Value) (xT:TypeId) (w:World):(Instr.typeAssert (.iface 43 v) xT 331 true).run Tryz.prog w = .ok (.tuple #[.nilIface,.bool false]) w:=run_typeAssert_lacksB Tryz.underlying331 (by kernel_rfl) (by kernel_rfl) v xT w
theorem rl_noUnwrap (v:Value) (xT:TypeId) (w:World):(Instr.typeAssert (.iface 43 v) xT 334 true).run Tryz.prog w = .ok (.tuple #[.nilIface,.bool false]) w:=run_typeAssert_lacksB Tryz.underlying334 (by kernel_rfl) (by kernel_rfl) v xT w
theorem rl_noUnwraps (v:Value) (xT:TypeId) (w:World):(Instr.typeAssert (.iface 43 v) xT 336 true).run Tryz.prog w = .ok (.tuple #[.nilIface,.bool false]) w:=run_typeAssert_lacksB Tryz.underlying336 (by kernel_rfl) (by kernel_rfl) v xT w
set_option maxHeartbeats 4000000 in
theorem as_bad (k:Int) (b:Nat) (w:World) (hg:ErrIn w) :
  Calls Tryz.prog 69 #[.iface 43 (.int .i64 k),.iface 131 (.pointer (some ⟨b,0,none⟩))] w fun ev w'=>ev = .returned (.bool false)∧Below w.heap.size w w':=by
 have h6:=@run_callFunc_extern Tryz.prog 108 _ (fun args=>ReflectliteValue.unpack (args.getD 0 (.tuple #[]))) Tryz.func108 (by kernel_rfl) (by kernel_rfl) (by kernel_rfl) (by kernel_rfl)
 have h7 := @run_callFunc_extern Tryz.prog 109 _ (ReflectliteValue.methodAny (ReflectliteValue.valueError "reflectlite.Value.Type" 0) (fun t _ _ _ => ReflectliteType.toType t)) Tryz.func109 (by kernel_rfl) (by kernel_rfl) (by kernel_rfl) (by kernel_rfl)
 have h8 := @run_callFunc_extern Tryz.prog 110 _ (ReflectliteValue.method (ReflectliteValue.valueError "reflectlite.Value.IsNil" 0) ReflectliteValue.isNil) Tryz.func110 (by kernel_rfl) (by kernel_rfl) (by kernel_rfl) (by kernel_rfl)
 have h27:=@run_callFunc_extern Tryz.prog 281 _ (ReflectliteType.abiMethod fun t=>do pure (.int .u8 (← Rtype.kind t))) Tryz.func281 (by kernel_rfl) (by kernel_rfl) (by kernel_rfl) (by kernel_rfl)
 have h37:=@run_callFunc_extern Tryz.prog 304 _ (ReflectliteType.method ReflectliteType.elem) Tryz.func304 (by kernel_rfl) (by kernel_rfl) (by kernel_rfl) (by kernel_rfl)
 have h38 := @run_callFunc_extern Tryz.prog 305 _ (ReflectliteType.relation "Implements" ReflectliteType.implements_) Tryz.func305 (by kernel_rfl) (by kernel_rfl) (by kernel_rfl) (by kernel_rfl)
 have h10:=@run_callFunc_extern Tryz.prog 112 _ ReflectliteType.typeOf Tryz.func112 (by kernel_rfl) (by kernel_rfl) (by kernel_rfl) (by kernel_rfl)
 have h35 := @run_callFunc_extern Tryz.prog 302 _ (ReflectliteType.relation "AssignableTo" ReflectliteType.assignableTo) Tryz.func302 (by kernel_rfl) (by kernel_rfl) (by kernel_rfl) (by kernel_rfl)
 have h11 := @run_callFunc_extern Tryz.prog 157 _ (ReflectliteValue.method (ReflectliteValue.valueError "reflectlite.Value.Elem" 0) ReflectliteValue.elem) Tryz.func157 (by kernel_rfl) (by kernel_rfl) (by kernel_rfl) (by kernel_rfl)
 have h12:=@run_callFunc_extern Tryz.prog 158 _ ReflectliteValue.set Tryz.func158 (by kernel_rfl) (by kernel_rfl) (by kernel_rfl) (by kernel_rfl)
 have tO:=rl_typeOfN
 have mA:=rl_methodAssignable
 have a25:=rl_assignableP
 have f6:=rl_valueOfB
 have f7:=rl_typeB
 have mK:=rl_methodKind
 have mE:=rl_methodElem
 have mI:=rl_methodImplements
 have k27:=rl_kindB
 have k25:=rl_kindP
 have e27:=rl_elemB
 have i25:=rl_implementsP
 have n8:=rl_isNilB ⟨w.heap.size,0,none⟩ ⟨b,0,none⟩ ((w.alloc (.cells #[.pointer (some ⟨b,0,none⟩)] 131)).alloc (.cells #[.pointer (some ⟨5,131,none⟩),.pointer (some ⟨w.heap.size,0,none⟩),.int .u64 150] 219)) (by simp)
 have hlt:0 < w.heap.size:=lt_of_cell hg
 unfold ErrIn at hg
 have hg2:((w.alloc (.cells #[.pointer (some ⟨b,0,none⟩)] 131)).alloc (.cells #[.pointer (some ⟨5,131,none⟩),.pointer (some ⟨w.heap.size,0,none⟩),.int .u64 150] 219)).cell? ⟨0,0,none⟩=some (.iface 327 (.agg #[.pointer (some ⟨5,76,none⟩)])):=by
  rw [World.cell?_alloc_lt _ _ ⟨0,0,none⟩ (by simp),World.cell?_alloc_lt _ _ ⟨0,0,none⟩ hlt]; exact hg
 have n1:=rl_noAs
 have n2:=rl_noUnwrap
 have n3:=rl_noUnwraps
 go_enter Tryz.func69,Tryz.ntmps69
 go_wp2
 refine wp_loop_rounds 1 ?_
 rw [rounds_succ]
 go_wp2
 go_ret
 exact ⟨rfl,(((Below.refl _ w).alloc (Nat.le_refl _) _).alloc (by simp) _).alloc (by simp; omega) _⟩
end Go.Proofs.Ts
namespace Go.Proofs.Ts
open Go Go.RowKit Go.Extern.Stop Go.Stop Go.Extern
theorem rl_comparableN (w : World) : (ReflectliteType.method (fun t => do Rtype.noPackHeld "Comparable" t; (fun a => Value.bool a.comparable) <$> typeInfo t) #[.agg #[.pointer (some ⟨5, 43, none⟩)]]).run Tryz.prog w = .ok (.bool true) w := by kernel_rfl
theorem errno_comparable:(Tryz.prog.info? 43).map (·.comparable)=some true:=by kernel_rfl
theorem run_eql_iface_int {P:Program} {ti tp:TypeId} {ms:Array (String × TypeId)} {i:TypeInfo} {kk:IntKind} (k:Int) (w:World) (hi:P.underlying ti=some (.interface ms)) (hp:P.underlying tp=some (.int kk)) (hinfo:P.info? tp=some i) (hcomp:i.comparable=true) :
  (binOp .eql ti (.iface tp (.int .i64 k)) (.iface tp (.int .i64 k))).run P w = .ok (.bool true) w:=by
 have h:∀ d:Nat,(Op.equalIn (d+2) ti (.iface tp (.int .i64 k)) (.iface tp (.int .i64 k))).run P w = .ok true w:=fun d=>by
  simp [Op.equalIn,run_underlying hi,run_underlying hp,typeInfo,hinfo,hcomp]
 simp only [binOp]
 simp [Op.equal,Op.maxDepth,h 9998]
theorem eq_errno (k:Int) (w:World):(binOp BinOp.eql 76 (.iface 43 (.int .i64 k)) (.iface 43 (.int .i64 k))).run Tryz.prog w = .ok (.bool true) w:=by
 obtain ⟨i,hi,hc⟩:=Option.map_eq_some_iff.1 errno_comparable
 exact run_eql_iface_int k w Tryz.underlying76 Tryz.underlying43 hi hc
set_option maxRecDepth 100000 in
set_option maxHeartbeats 4000000 in
theorem is_self (k:Int) (w:World):Calls Tryz.prog 70 #[.iface 43 (.int .i64 k),.iface 43 (.int .i64 k)] w fun ev w'=>ev = .returned (.bool true)∧Below w.heap.size w w':=by
 have h10:=@run_callFunc_extern Tryz.prog 112 _ ReflectliteType.typeOf Tryz.func112 (by kernel_rfl) (by kernel_rfl) (by kernel_rfl) (by kernel_rfl)
 have h35 := @run_callFunc_extern Tryz.prog 303 _ (ReflectliteType.method (fun t => do Rtype.noPackHeld "Comparable" t; pure (.bool (← typeInfo t).comparable))) Tryz.func303 (by kernel_rfl) (by kernel_rfl) (by kernel_rfl) (by kernel_rfl)
 have tO:=rl_typeOfN
 have mC:=rl_methodComparable
 have cN:=rl_comparableN
 have eE:=eq_errno
 go_enter Tryz.func70,Tryz.ntmps70
 go_wp2
 refine wp_loop_rounds 1 ?_
 rw [rounds_succ]
 go_wp2
 go_ret
 exact ⟨rfl,Below.refl _ _⟩
set_option maxRecDepth 100000 in
set_option maxHeartbeats 4000000 in
theorem told_errno (k:Int) (w:World) (hg:ErrIn w):Calls Tryz.prog 40 #[.iface 43 (.int .i64 k)] w fun e w'=>e = .returned (.tuple #[.int .i64 k,.int .i64 (-1)])∧Below w.heap.size w w':=by
 have HG:=Lib.hid hg
 clear hg
 go_enter Tryz.func40,Tryz.ntmps40
 go_upto_region 5 with fail
 have hbe:Below w.heap.size w ((w.alloc (.cells #[.pointer none] 129)).alloc (.cells #[.int .i64 0] 43)):=((Below.refl _ w).alloc (Nat.le_refl _) _).alloc (by simp) _
 have hb5:=heap_alloc_new (w.alloc (.cells #[.pointer none] 129)) (.cells #[.int .i64 0] 43)
 rw [World.size_alloc] at hb5
 generalize ((w.alloc (.cells #[.pointer none] 129)).alloc (.cells #[.int .i64 0] 43))=W at *
 have HBE:=Lib.hid hbe
 have HB5:=Lib.hid hb5
 clear hbe hb5
 go_upto_region 7 with (go_at_call 69; refine (as_bad k w.heap.size W (HG.out.below HBE.out)).mono ?_; rintro e w1 ⟨rfl,hb1⟩)
 have hb51:=(hb1.block _ (lt_of_heap HB5.out)).trans HB5.out
 have hbw1:Below w.heap.size w w1:=HBE.out.trans (hb1.mono HBE.out.size)
 have hit:=as_hit k (w.heap.size+1) _ w1 (HG.out.below hbw1) (cell_block (i:=0) hb51) (free_block hb51)
 have HIT:=Lib.hid hit
 have HBW1:=Lib.hid hbw1
 have HB51:=Lib.hid hb51
 clear hit hbw1 hb1 hb51
 go_wp2_with (first
  | (go_at_call 69; refine HIT.out.mono ?_; rintro e w2 ⟨rfl,w3,hb3,rfl⟩; have hb53:=(hb3.block _ (lt_of_heap HB51.out)).trans HB51.out; have cE:(w3.setCell ⟨w.heap.size+1,0,none⟩ (.int .i64 k)).cell? ⟨w.heap.size+1,0,none⟩=some (.int .i64 k):=World.cell?_setCell_same' _ _ _ (by rw [cell_block hb53]; rfl); have HB3:=Lib.hid hb3; clear hb3 hb53)
  | (go_at_call 70; refine (is_self k _).mono ?_; rintro e w4 ⟨rfl,hb4⟩; have cE4:=(hb4.cell (p:=⟨w.heap.size+1,0,none⟩) (lt_of_cell cE)).trans cE; have HB4:=Lib.hid hb4; clear hb4))
 go_ret2
 have h1:Below w.heap.size w w3:=HBW1.out.trans (HB3.out.mono HBW1.out.size)
 have h2:Below w.heap.size w (w3.setCell ⟨w.heap.size+1,0,none⟩ (.int .i64 k)):=h1.setCell (p:=⟨w.heap.size+1,0,none⟩) (by simp) _
 exact ⟨rfl,h2.trans (HB4.out.mono h2.size)⟩
end Go.Proofs.Ts
namespace Go.Proofs.Ts
open Go Go.RowKit Go.Extern.Stop Go.Stop Go.Extern
theorem rl_typeOfP (v:Value) (w:World):(ReflectliteType.typeOf #[.iface 129 v]).run Tryz.prog w = .ok (.iface 327 (.agg #[.pointer (some ⟨5,129,none⟩)])) w:=by kernel_rfl
theorem rl_assignablePP (w : World) : (ReflectliteType.relation "AssignableTo" ReflectliteType.assignableTo #[.agg #[.pointer (some ⟨5, 129, none⟩)], .iface 327 (.agg #[.pointer (some ⟨5, 129, none⟩)])]).run Tryz.prog w = .ok (.bool true) w := by kernel_rfl
theorem rl_valueOfP (p:Addr) (w:World):(ReflectliteValue.unpack (.iface 129 (.pointer (some p)))).run Tryz.prog w = .ok (.agg #[.pointer (some ⟨5,129,none⟩),.pointer (some ⟨w.heap.size,0,none⟩),.int .u64 150]) (w.alloc (.cells #[.pointer (some p)] 129)):=by kernel_rfl
theorem rl_elemOfB (w:World):(Rtype.elem? 131).run Tryz.prog w = .ok (some 129) w:=by kernel_rfl
theorem rl_mkP (p:Addr) (w:World):(ReflectliteValue.mk 129 p ReflectliteValue.flagAddr).run Tryz.prog w = .ok (.agg #[.pointer (some ⟨5,129,none⟩),.pointer (some p),.int .u64 406]) w:=by kernel_rfl
theorem rl_elemVB (a p:Addr) (W:World) (ha:W.cell? a=some (.pointer (some p))) :
  (ReflectliteValue.method (ReflectliteValue.valueError "reflectlite.Value.Elem" 0) ReflectliteValue.elem #[.agg #[.pointer (some ⟨5, 131, none⟩), .pointer (some a), .int .u64 150]]).run Tryz.prog W
   = .ok (.agg #[.pointer (some ⟨5,129,none⟩),.pointer (some p),.int .u64 406]) W:=by
 rw [rlm]
 simp only [Sem.run_bind,rl_partsB,Result.andThen]
 simp [ReflectliteValue.elem,loadVar,isAgg,underlying,Tryz.underlying131,ha,Result.andThen,rl_elemOfB,rl_mkP]
theorem rl_partsPa (a:Addr) (w:World):(ReflectliteValue.parts (.agg #[.pointer (some ⟨5,129,none⟩),.pointer (some a),.int .u64 406])).run Tryz.prog w = .ok (some (129,a,406)) w:=by kernel_rfl
theorem rl_partsP (a:Addr) (w:World):(ReflectliteValue.parts (.agg #[.pointer (some ⟨5,129,none⟩),.pointer (some a),.int .u64 150])).run Tryz.prog w = .ok (some (129,a,150)) w:=by kernel_rfl
theorem rl_directP (w:World):(Rtype.directlyAssignable 129 129).run Tryz.prog w = .ok true w:=by kernel_rfl
theorem rl_setP (ta b:Addr) (p:Addr) (old:Value) (W:World) (hb:W.cell? b=some (.pointer (some p))) (ht:W.cell? ta=some old) (hf:W.frozen? ta=false) :
  (ReflectliteValue.set #[.agg #[.pointer (some ⟨5,129,none⟩),.pointer (some ta),.int .u64 406],.agg #[.pointer (some ⟨5,129,none⟩),.pointer (some b),.int .u64 150]]).run Tryz.prog W
   = .ok (.tuple #[]) (W.setCell ta (.pointer (some p))):=by
 rw [rls]
 simp only [Sem.run_bind,rl_partsPa,rl_partsP,Result.andThen]
 simp [ReflectliteValue.flagAddr,loadVar,isAgg,underlying,Tryz.underlying129,hb,Result.andThen,rl_directP,storeVar,Value.cells,storeCells,Addr.add]
 rw [run_store Tryz.prog W ta _ _ (by rfl)]
 simp [ht,hf]
set_option maxHeartbeats 4000000 in
theorem as_hitB (p:Addr) (b:Nat) (old:Value) (w:World) (hg:ErrIn w) (ht0:w.cell? ⟨b,0,none⟩=some old) (hf0:w.frozen? ⟨b,0,none⟩=false) :
  Calls Tryz.prog 69 #[.iface 129 (.pointer (some p)),.iface 131 (.pointer (some ⟨b,0,none⟩))] w fun ev w'=>ev = .returned (.bool true) ∧ ∃ w1,Below w.heap.size w w1∧w'=w1.setCell ⟨b,0,none⟩ (.pointer (some p)):=by
 have h6:=@run_callFunc_extern Tryz.prog 108 _ (fun args=>ReflectliteValue.unpack (args.getD 0 (.tuple #[]))) Tryz.func108 (by kernel_rfl) (by kernel_rfl) (by kernel_rfl) (by kernel_rfl)
 have h7 := @run_callFunc_extern Tryz.prog 109 _ (ReflectliteValue.methodAny (ReflectliteValue.valueError "reflectlite.Value.Type" 0) (fun t _ _ _ => ReflectliteType.toType t)) Tryz.func109 (by kernel_rfl) (by kernel_rfl) (by kernel_rfl) (by kernel_rfl)
 have h8 := @run_callFunc_extern Tryz.prog 110 _ (ReflectliteValue.method (ReflectliteValue.valueError "reflectlite.Value.IsNil" 0) ReflectliteValue.isNil) Tryz.func110 (by kernel_rfl) (by kernel_rfl) (by kernel_rfl) (by kernel_rfl)
 have h27:=@run_callFunc_extern Tryz.prog 281 _ (ReflectliteType.abiMethod fun t=>do pure (.int .u8 (← Rtype.kind t))) Tryz.func281 (by kernel_rfl) (by kernel_rfl) (by kernel_rfl) (by kernel_rfl)
 have h37:=@run_callFunc_extern Tryz.prog 304 _ (ReflectliteType.method ReflectliteType.elem) Tryz.func304 (by kernel_rfl) (by kernel_rfl) (by kernel_rfl) (by kernel_rfl)
 have h38 := @run_callFunc_extern Tryz.prog 305 _ (ReflectliteType.relation "Implements" ReflectliteType.implements_) Tryz.func305 (by kernel_rfl) (by kernel_rfl) (by kernel_rfl) (by kernel_rfl)
 have h10:=@run_callFunc_extern Tryz.prog 112 _ ReflectliteType.typeOf Tryz.func112 (by kernel_rfl) (by kernel_rfl) (by kernel_rfl) (by kernel_rfl)
 have h35 := @run_callFunc_extern Tryz.prog 302 _ (ReflectliteType.relation "AssignableTo" ReflectliteType.assignableTo) Tryz.func302 (by kernel_rfl) (by kernel_rfl) (by kernel_rfl) (by kernel_rfl)
 have h11 := @run_callFunc_extern Tryz.prog 157 _ (ReflectliteValue.method (ReflectliteValue.valueError "reflectlite.Value.Elem" 0) ReflectliteValue.elem) Tryz.func157 (by kernel_rfl) (by kernel_rfl) (by kernel_rfl) (by kernel_rfl)
 have h12:=@run_callFunc_extern Tryz.prog 158 _ ReflectliteValue.set Tryz.func158 (by kernel_rfl) (by kernel_rfl) (by kernel_rfl) (by kernel_rfl)
 have tO:=rl_typeOfP
 have mA:=rl_methodAssignable
 have a25:=rl_assignablePP
 have v25:=rl_valueOfP
 have f6:=rl_valueOfB
 have f7:=rl_typeB
 have mK:=rl_methodKind
 have mE:=rl_methodElem
 have mI:=rl_methodImplements
 have k27:=rl_kindB
 have k25:=rl_kindP
 have e27:=rl_elemB
 have i25:=rl_implementsP
 have n8:=rl_isNilB ⟨w.heap.size,0,none⟩ ⟨b,0,none⟩ ((w.alloc (.cells #[.pointer (some ⟨b,0,none⟩)] 131)).alloc (.cells #[.pointer (some ⟨5,131,none⟩),.pointer (some ⟨w.heap.size,0,none⟩),.int .u64 150] 219)) (by simp)
 have hlt:0 < w.heap.size:=lt_of_cell hg
 unfold ErrIn at hg
 have hg2:((w.alloc (.cells #[.pointer (some ⟨b,0,none⟩)] 131)).alloc (.cells #[.pointer (some ⟨5,131,none⟩),.pointer (some ⟨w.heap.size,0,none⟩),.int .u64 150] 219)).cell? ⟨0,0,none⟩=some (.iface 327 (.agg #[.pointer (some ⟨5,76,none⟩)])):=by
  rw [World.cell?_alloc_lt _ _ ⟨0,0,none⟩ (by simp),World.cell?_alloc_lt _ _ ⟨0,0,none⟩ hlt]; exact hg
 have htl:b < w.heap.size:=lt_of_cell ht0
 have el:=rl_elemVB ⟨w.heap.size,0,none⟩ ⟨b,0,none⟩ (((w.alloc (.cells #[.pointer (some ⟨b,0,none⟩)] 131)).alloc (.cells #[.pointer (some ⟨5,131,none⟩),.pointer (some ⟨w.heap.size,0,none⟩),.int .u64 150] 219)).alloc (.cells #[.pointer (some ⟨5,131,none⟩),.pointer (some ⟨w.heap.size,0,none⟩),.int .u64 150] 219)) (by rw [World.cell?_alloc_lt _ _ ⟨w.heap.size,0,none⟩ (by simp; omega)]; simp)
 have st:=rl_setP ⟨b,0,none⟩ ⟨w.heap.size+1+1+1,0,none⟩ p old ((((w.alloc (.cells #[.pointer (some ⟨b,0,none⟩)] 131)).alloc (.cells #[.pointer (some ⟨5,131,none⟩),.pointer (some ⟨w.heap.size,0,none⟩),.int .u64 150] 219)).alloc (.cells #[.pointer (some ⟨5,131,none⟩),.pointer (some ⟨w.heap.size,0,none⟩),.int .u64 150] 219)).alloc (.cells #[.pointer (some p)] 129))
  (by rw [World.cell?_alloc_at _ _ _ _ (by simp)]; rfl)
  (by rw [World.cell?_alloc_lt _ _ ⟨b,0,none⟩ (by simp; omega),World.cell?_alloc_lt _ _ ⟨b,0,none⟩ (by simp; omega),World.cell?_alloc_lt _ _ ⟨b,0,none⟩ (by simp; omega),World.cell?_alloc_lt _ _ ⟨b,0,none⟩ htl]; exact ht0)
  (by rw [World.frozen?_alloc_old _ _ ⟨b,0,none⟩ (by simp; omega),World.frozen?_alloc_old _ _ ⟨b,0,none⟩ (by simp; omega),World.frozen?_alloc_old _ _ ⟨b,0,none⟩ (by simp; omega),World.frozen?_alloc_old _ _ ⟨b,0,none⟩ (Nat.ne_of_lt htl)]; exact hf0)
 go_enter Tryz.func69,Tryz.ntmps69
 go_wp2
 refine wp_loop_rounds 1 ?_
 rw [rounds_succ]
 go_wp2
 go_ret
 refine ⟨rfl,_,?_,rfl⟩
 exact ((((Below.refl _ w).alloc (Nat.le_refl _) _).alloc (by simp) _).alloc (by simp; omega) _).alloc (by simp; omega) _
theorem rl_methodUnwrap (fu : Nat) (v : Value) (w : World) : (Go.method (fu + 1) 129 v "Unwrap").run Tryz.prog w = .ok (286, v) w := by kernel_rfl
theorem rl_noIsB (v:Value) (xT:TypeId) (w:World):(Instr.typeAssert (.iface 129 v) xT 339 true).run Tryz.prog w = .ok (.tuple #[.nilIface,.bool false]) w:=run_typeAssert_lacksB Tryz.underlying339 (by kernel_rfl) (by kernel_rfl) v xT w
theorem rl_hasUnwrapB (v:Value) (xT:TypeId) (w:World):(Instr.typeAssert (.iface 129 v) xT 334 true).run Tryz.prog w = .ok (.tuple #[.iface 129 v,.bool true]) w:=run_typeAssert_hasB Tryz.underlying334 (by kernel_rfl) v xT w
theorem eq_bad (v:Value) (k:Int) (w:World):(binOp BinOp.eql 76 (.iface 129 v) (.iface 43 (.int .i64 k))).run Tryz.prog w = .ok (.bool false) w:=by kernel_rfl
set_option maxRecDepth 100000 in
set_option maxHeartbeats 4000000 in
theorem is_bad (k t:Int) (b:Nat) (w:World) (hb:w.heap[b]?=some (.cells #[.int .i64 k,.int .i64 t] 134 (0,0))) :
  Calls Tryz.prog 70 #[.iface 129 (.pointer (some ⟨b,0,none⟩)),.iface 43 (.int .i64 k)] w fun ev w'=>ev = .returned (.bool true)∧Below w.heap.size w w':=by
 have h10:=@run_callFunc_extern Tryz.prog 112 _ ReflectliteType.typeOf Tryz.func112 (by kernel_rfl) (by kernel_rfl) (by kernel_rfl) (by kernel_rfl)
 have h35 := @run_callFunc_extern Tryz.prog 303 _ (ReflectliteType.method (fun t => do Rtype.noPackHeld "Comparable" t; pure (.bool (← typeInfo t).comparable))) Tryz.func303 (by kernel_rfl) (by kernel_rfl) (by kernel_rfl) (by kernel_rfl)
 have c0:w.cell? ⟨b,0,none⟩=some (.int .i64 k):=cell_block hb
 have tO:=rl_typeOfN
 have mC:=rl_methodComparable
 have cN:=rl_comparableN
 have eE:=eq_errno
 have eB:=eq_bad
 have n1:=rl_noIsB
 have n2:=rl_hasUnwrapB
 have mU:=rl_methodUnwrap
 clear hb
 go_enter Tryz.func70,Tryz.ntmps70
 go_wp2
 refine wp_loop_rounds 2 ?_
 rw [rounds_succ]
 go_wp2
 rw [rounds_succ]
 go_wp2
 go_ret
 exact ⟨rfl,Below.refl _ _⟩
end Go.Proofs.Ts
namespace Go.Proofs.Ts
open Go Go.RowKit Go.Extern.Stop Go.Stop Go.Extern
set_option maxRecDepth 100000 in
set_option maxHeartbeats 4000000 in
theorem told_bad (k t:Int) (b:Nat) (w:World) (hg:ErrIn w) (hb:w.heap[b]?=some (.cells #[.int .i64 k,.int .i64 t] 134 (0,0))) :
    Calls Tryz.prog 40 #[.iface 129 (.pointer (some ⟨b,0,none⟩))] w fun e w'=>e = .returned (.tuple #[.int .i64 k,.int .i64 t])∧Below w.heap.size w w':=by
  have HG:=Lib.hid hg
  have HB:=Lib.hid hb
  clear hg hb
  go_enter Tryz.func40,Tryz.ntmps40
  go_upto_region 5 with fail
  have hbe:Below w.heap.size w ((w.alloc (.cells #[.pointer none] 129)).alloc (.cells #[.int .i64 0] 43)):=((Below.refl _ w).alloc (Nat.le_refl _) _).alloc (by simp) _
  have hb4:((w.alloc (.cells #[.pointer none] 129)).alloc (.cells #[.int .i64 0] 43)).heap[w.heap.size]?=some (.cells #[.pointer none] 129 (0,0)):=(((Below.refl _ _).alloc (Nat.le_refl _) (.cells #[.int .i64 0] 43)).block _ (by simp)).trans (heap_alloc_new w (.cells #[.pointer none] 129))
  generalize ((w.alloc (.cells #[.pointer none] 129)).alloc (.cells #[.int .i64 0] 43))=W at *
  have hit:=as_hitB ⟨b,0,none⟩ w.heap.size _ W (HG.out.below hbe) (cell_block (i:=0) hb4) (free_block hb4)
  have HIT:=Lib.hid hit
  have HBE:=Lib.hid hbe
  have HB4:=Lib.hid hb4
  clear hbe hb4 hit
  go_upto_region 6 with (first
    | (go_at_call 69; refine HIT.out.mono ?_; rintro e w2 ⟨rfl,w3,hb3,rfl⟩
       have h34:=(hb3.block _ (lt_of_heap HB4.out)).trans HB4.out
       have hw3:Below w.heap.size w (w3.setCell ⟨w.heap.size,0,none⟩ (.pointer (some ⟨b,0,none⟩))):=(HBE.out.trans (hb3.mono HBE.out.size)).setCell (p:=⟨w.heap.size,0,none⟩) (Nat.le_refl _) _
       have hbb:=(hw3.block _ (lt_of_heap HB.out)).trans HB.out
       have cP:(w3.setCell ⟨w.heap.size,0,none⟩ (.pointer (some ⟨b,0,none⟩))).cell? ⟨w.heap.size,0,none⟩=some (.pointer (some ⟨b,0,none⟩)):=World.cell?_setCell_same' _ _ _ (by rw [cell_block h34]; rfl)
       have cK:(w3.setCell ⟨w.heap.size,0,none⟩ (.pointer (some ⟨b,0,none⟩))).cell? ⟨b,0,none⟩=some (.int .i64 k):=cell_block hbb
       have HW3:=Lib.hid (And.intro hw3 hbb)
       clear hb3 h34 hw3 hbb
       generalize w3.setCell ⟨w.heap.size,0,none⟩ (.pointer (some ⟨b,0,none⟩))=W5 at *)
    | (go_at_call 70; refine (is_bad k t b _ HW3.out.2).mono ?_; rintro e w4 ⟨rfl,hb4⟩
       have hP:=(hb4.cell (p:=⟨w.heap.size,0,none⟩) (lt_of_cell cP)).trans cP
       have hbb:=(hb4.block _ (lt_of_heap HW3.out.2)).trans HW3.out.2
       have HW4:=Lib.hid (And.intro (HW3.out.1.trans (hb4.mono HW3.out.1.size)) hbb)
       clear hb4 cP cK
       have cP:=hP
       have cK:w4.cell? ⟨b,0,none⟩=some (.int .i64 k):=cell_block hbb
       have cT:w4.cell? ⟨b,1,none⟩=some (.int .i64 t):=cell_block hbb
       clear hP hbb))
  go_quiet (fail)
  go_wp2_with fail
  go_ret2
  exact ⟨rfl,HW4.out.1.trans ((Same.drewN _ _).below _)⟩
end Go.Proofs.Ts
namespace Go.Proofs.Ts
open Go Go.RowKit
set_option maxRecDepth 100000 in
set_option maxHeartbeats 2000000 in
theorem terms_err (B:Nat) (q:Asked) (k:EV) (most sb:Nat) (D:List (List (List UInt8))) (kn:Value) (db:Nat) (R:Nat→Prop) (Λ:Nat→List Word) (ρ:Nat→Nat) (Dd:List DS) (pv:Value) (ps:List Value) (w:World)
  (hB:B≤w.heap.size) (hsb:B≤sb) (hseg:SegAt w sb D kn db R Λ ρ Dd pv ps) (hkn:KnownIs B w kn) (st:Nat) (hst:q.states=st) (hst1:1≤st∧st≤400) (hcomp:CompileOk w q) (herr:errOf q=some k) :
  Calls Tryz.prog 83 #[ptrV sb,askV q,.int .i64 st,.int .i64 most] w fun e w'=>∃ kn' ev,e = .returned (.tuple #[.slice none 0 0,ev])∧ErrIs w' ev k∧SegAt w' sb D kn' db R Λ ρ Dd pv ps∧KnownIs B w' kn'∧Below B w w'∧Cells w w'∧Mod (fun j=>j=sb∨kn = .map (some j)) w w'∧KnNew w kn kn':=by
 have hsbl:=lt_of_heap hseg.1
 have g1:decide ((st:Int) < 1)=false:=by simp <;> omega
 have g2:decide ((400:Int) < (st:Int))=false:=by simp <;> omega
 have g3:decide ((most:Int) < 0)=false:=by simp
 have HSEG:=Lib.hid hseg
 have HKN:=Lib.hid hkn
 clear hseg hkn
 unfold ptrV askV strV
 go_enter Tryz.func83,Tryz.ntmps83
 go_wp2_with fail
 clear g1 g2 g3
 have hal:Below w.heap.size w ((w.alloc (.cells #[.int .i64 q.kind,.string ⟨q.a.toArray⟩,.string ⟨q.b.toArray⟩,.int .i64 q.n] 34)).alloc (.cells #[.int .i64 most] 3)):=((Below.refl _ w).alloc (Nat.le_refl _) _).alloc (by simp) _
 generalize ((w.alloc (.cells #[.int .i64 q.kind,.string ⟨q.a.toArray⟩,.string ⟨q.b.toArray⟩,.int .i64 q.n] 34)).alloc (.cells #[.int .i64 most] 3))=w2 at *
 have hseg2:=HSEG.out.below hal
 have hplan:=plan_any B q sb D.length db pv kn w2 (Nat.le_trans hB hal.size) hsb hseg2.1 (HKN.out.below hal) (hcomp.kept (Cells.below hal))
 have HSEG2:=Lib.hid hseg2
 have HAL:=Lib.hid hal
 clear hseg2 hal
 rw [hst] at hplan
 unfold ptrV askV strV at hplan
 refine hplan.mono ?_
 clear hplan
 rintro e w1 ⟨pb,kn',rfl,hpf,hce,hbe,hsg1,hkn1,hmo,hkw⟩
 obtain ⟨fv,ev,hpb,hev⟩:=hpf.errs k herr
 obtain ⟨eT,ew,hevv⟩:=hev.some
 have HEV:=Lib.hid (And.intro hev hevv)
 rw [hevv] at hpb
 have hseg1:=HSEG2.out.kept hce hsg1
 have p1:w1.cell? ⟨pb,1,none⟩=some (.iface eT ew):=cell_block hpb
 have HSEG1:=Lib.hid hseg1
 have HMO:=Lib.hid (Mod.trans (below_mod HAL.out) hmo)
 have HKW:=Lib.hid (hkw.up HAL.out.size)
 clear hmo hkw
 have HKN1:=Lib.hid hkn1
 have HBE:=Lib.hid hbe
 have HCE:=Lib.hid ((Cells.below HAL.out).trans hce)
 clear hpf hseg1 hkn1 hbe hce HSEG2 hpb hsg1 hev hevv
 go_wp2_with fail
 go_quiet (fail)
 go_wp2_with fail
 go_ret2
 have hbq:Below w1.heap.size w1 (w1.drewN nq):=below_drewNv (Below.refl _ _) _
 exact ⟨kn',.iface eT ew,rfl,by rw [← HEV.out.2]; exact HEV.out.1.kept fun k' cs t r hk _=>hbq.block k' (lt_of_heap hk),HSEG1.out.below hbq,HKN1.out.below hbq,((HAL.out.mono hB).trans HBE.out).trans (hbq.mono (by have:=HBE.out.size; have:=HAL.out.size; omega)),HCE.out.trans (Cells.below hbq),HMO.out.trans (below_mod hbq),HKW.out⟩
theorem told_err {w:World} {ev:Value} {k:EV} (h:ErrIs w ev k) (hg:ErrIn w):Calls Tryz.prog 40 #[ev] w fun e w'=>e = .returned (.tuple #[.int .i64 k.num,.int .i64 k.place])∧Below w.heap.size w w':=by
 cases k with
 | no k =>
  have h':ev=errnoV k:=h
  subst h'
  exact told_errno k w hg
 | bad k i =>
  obtain ⟨b,rfl,hb⟩:=h
  exact told_bad k i b w hg hb
end Go.Proofs.Ts
namespace Go.Proofs.Tl
open Go Go.RowKit Go.Proofs.Ts
inductive PAns where
 | err (k:EV)
 | ok (acc:List UInt8→Bool)
def ProgIs (w:World) (q:Asked):PAns→Prop
 | .err k=>CompileOk w q∧errOf q=some k
 | .ok acc=>CompileOk w q∧accOf q=some acc
theorem ProgIs.kept {w w':World} {q:Asked} {r:PAns} (h:ProgIs w q r) (hc:Cells w w'):ProgIs w' q r:=by
 cases r with
 | err k=>exact ⟨h.1.kept hc,h.2⟩
 | ok acc=>exact ⟨h.1.kept hc,h.2⟩
def limitP (st most:Int) (r:PAns) (T:List (List UInt8)):PAns :=
 if st < 1∨400 < st∨most < 0 then .err (.no 4) else match r with
  | .err k => .err k
  | .ok acc=>if most < ((hits acc T 0).length:Int) then .err (.no 10) else .ok acc
set_option maxRecDepth 100000 in
set_option maxHeartbeats 2000000 in
theorem terms_limit (q:Asked) (st most:Int) (sb:Nat) (w:World) (h:st < 1∨400 < st∨most < 0) :
  Calls Tryz.prog 83 #[ptrV sb,askV q,.int .i64 st,.int .i64 most] w fun e w'=>e = .returned (.tuple #[.slice none 0 0,errnoV 4])∧Below w.heap.size w w':=by
 unfold ptrV askV strV
 by_cases h1:st < 1
 ·go_enter Tryz.func83,Tryz.ntmps83
  go_wp2_with fail
  go_ret2
  exact ⟨rfl,((Below.refl _ w).alloc (Nat.le_refl _) _).alloc (by simp) _⟩
 ·by_cases h2:400 < st
  ·go_enter Tryz.func83,Tryz.ntmps83
   go_wp2_with fail
   go_ret2
   exact ⟨rfl,((Below.refl _ w).alloc (Nat.le_refl _) _).alloc (by simp) _⟩
  ·have h3:most < 0:=by omega
   go_enter Tryz.func83,Tryz.ntmps83
   go_wp2_with fail
   go_ret2
   exact ⟨rfl,((Below.refl _ w).alloc (Nat.le_refl _) _).alloc (by simp) _⟩
structure Looked (B:Nat) (w w':World) (sb:Nat) (D:List (List (List UInt8))) (kn kn':Value) (db:Nat) (R:Nat→Prop) (Λ:Nat→List Word) (ρ:Nat→Nat) (Dd:List DS) (pv:Value) (ps:List Value):Prop where
 seg:SegAt w' sb D kn' db R Λ ρ Dd pv ps
 known:KnownIs B w' kn'
 below:Below B w w'
 cells:Cells w w'
 mod:Mod (fun j=>j=sb∨kn = .map (some j)) w w'
 new:KnNew w kn kn'
section
variable {B:Nat} {w w' w0:World} {sb:Nat} {D:List (List (List UInt8))} {kn kn':Value} {db:Nat} {R:Nat→Prop} {Λ:Nat→List Word} {ρ:Nat→Nat} {Dd:List DS} {pv:Value} {ps:List Value}
theorem Looked.refl (h:SegAt w sb D kn db R Λ ρ Dd pv ps) (hk:KnownIs B w kn) (hb:Below w.heap.size w w') (hB:B≤w.heap.size):Looked B w w' sb D kn kn db R Λ ρ Dd pv ps :=
 ⟨h.below hb,hk.below hb,hb.mono hB,Cells.below hb,below_mod hb,.inl rfl⟩
theorem Looked.front (h:Looked B w w' sb D kn kn' db R Λ ρ Dd pv ps) (hb:Below w0.heap.size w0 w) (hB:B≤w0.heap.size):Looked B w0 w' sb D kn kn' db R Λ ρ Dd pv ps :=
 ⟨h.seg,h.known,(hb.mono hB).trans h.below,(Cells.below hb).trans h.cells,(below_mod hb).trans h.mod,h.new.up hb.size⟩
theorem Looked.back (h:Looked B w0 w sb D kn kn' db R Λ ρ Dd pv ps) (hb:Below w.heap.size w w') (hB:B≤w0.heap.size):Looked B w0 w' sb D kn kn' db R Λ ρ Dd pv ps :=
 ⟨h.seg.below hb,h.known.below hb,h.below.trans (hb.mono (Nat.le_trans hB h.below.size)),h.cells.trans (Cells.below hb),h.mod.trans (below_mod hb),h.new⟩
end
theorem termsP_law (B:Nat) (q:Asked) (st most:Int) (r:PAns) (sb:Nat) (D:List (List (List UInt8))) (kn:Value) (db:Nat) (R:Nat→Prop) (Λ:Nat→List Word) (ρ:Nat→Nat) (Dd:List DS) (pv:Value) (ps:List Value) (w:World)
  (hB:B≤w.heap.size) (hsb:B≤sb) (hseg:SegAt w sb D kn db R Λ ρ Dd pv ps) (hkn:KnownIs B w kn) (hst:q.states=st) (hp:1≤st∧st≤400→ProgIs w q r) :
  Calls Tryz.prog 83 #[ptrV sb,askV q,.int .i64 st,.int .i64 most] w fun e w'=>∃ kn',Looked B w w' sb D kn kn' db R Λ ρ Dd pv ps ∧
   match limitP st most r (Λ 0) with
   | .err k=>∃ ev,e = .returned (.tuple #[.slice none 0 0,ev])∧ErrIs w' ev k
   | .ok acc=>∃ fv,e = .returned (.tuple #[fv,.nilIface])∧w'.ownsRow 0 182 2 fv (hits acc (Λ 0) 0).length (foundCells (hits acc (Λ 0) 0)):=by
 by_cases hlim:st < 1∨400 < st∨most < 0
 ·have hl:limitP st most r (Λ 0) = .err (.no 4):=by unfold limitP; rw [if_pos hlim]
  rw [hl]
  refine (terms_limit q st most sb w hlim).mono ?_
  rintro e w' ⟨rfl,hb⟩
  exact ⟨kn,Looked.refl hseg hkn hb hB,_,rfl,rfl⟩
 ·obtain ⟨s,hs⟩:∃ s:Nat,st=s:=⟨st.toNat,by omega⟩
  obtain ⟨m,hm⟩:∃ m:Nat,most=m:=⟨most.toNat,by omega⟩
  subst hs
  subst hm
  replace hp:=hp ⟨by omega,by omega⟩
  cases r with
  | err k =>
   have hl:limitP s m (.err k) (Λ 0) = .err k:=by unfold limitP; rw [if_neg hlim]
   rw [hl]
   refine (terms_err B q k m sb D kn db R Λ ρ Dd pv ps w hB hsb hseg hkn s hst (by omega) hp.1 hp.2).mono ?_
   rintro e w' ⟨kn',ev,rfl,h1,h2,h3,h4,h5,h6,h7⟩
   exact ⟨kn',⟨h2,h3,h4,h5,h6,h7⟩,ev,rfl,h1⟩
  | ok acc =>
   have hl:limitP s m (.ok acc) (Λ 0)=if (m:Int) < ((hits acc (Λ 0) 0).length:Int) then .err (.no 10) else .ok acc:=by unfold limitP; rw [if_neg hlim]
   rw [hl]
   refine (terms_any B q acc m sb D kn db R Λ ρ Dd pv ps w hB hsb hseg hkn s hst (by omega) hp.1 hp.2).mono ?_
   rintro e w' ⟨fv,er,kn',rfl,h2,h3,h4,h5,h6,h7,h8⟩
   refine ⟨kn',⟨h2,h3,h4,h5,h6,h7⟩,?_⟩
   rcases h8 with ⟨h8,rfl,h9,_⟩ | ⟨h8,rfl,rfl⟩
   ·rw [if_neg (by omega)]
    exact ⟨fv,rfl,h9⟩
   ·rw [if_pos (by omega)]
    exact ⟨_,rfl,rfl⟩
structure NewRow (e:TypeId) (size:Nat) (w w':World) (v:Value) (n:Nat) (xs:List Value):Prop where
 row:w'.ownsRow 0 e size v n xs
 past:Past w.heap.size v
 nil:n=0→v = .slice none 0 0
theorem NewRow.below {e:TypeId} {size:Nat} {w w' w2:World} {v:Value} {n:Nat} {xs:List Value} (h:NewRow e size w w' v n xs) (hb:Below w'.heap.size w' w2):NewRow e size w w2 v n xs :=
 ⟨ownsRow_block h.row fun k e=>hb.block k (h.row.lt k e).2,h.past,h.nil⟩
theorem NewRow.up {e:TypeId} {size:Nat} {w w' w0:World} {v:Value} {n:Nat} {xs:List Value} (h:NewRow e size w w' v n xs) (hs:w0.heap.size≤w.heap.size):NewRow e size w0 w' v n xs :=
 ⟨h.row,fun k hk=>Nat.le_trans hs (h.past k hk),h.nil⟩
set_option maxRecDepth 100000 in
set_option maxHeartbeats 4000000 in
theorem searchP_law (B:Nat) (q:Asked) (st most:Int) (r:PAns) (sb:Nat) (D:List (List (List UInt8))) (kn:Value) (db:Nat) (R:Nat→Prop) (Λ:Nat→List Word) (ρ:Nat→Nat) (Dd:List DS) (pv:Value) (ps:List Value) (w:World)
  (hB:B≤w.heap.size) (hsb:B≤sb) (hseg:SegAt w sb D kn db R Λ ρ Dd pv ps) (hkn:KnownIs B w kn) (hst:q.states=st) (hp:1≤st∧st≤400→ProgIs w q r) (hD:D.length≤1000) :
  Calls Tryz.prog 52 #[ptrV sb,askV q,.int .i64 st,.int .i64 most] w fun e w'=>∃ kn',Looked B w w' sb D kn kn' db R Λ ρ Dd pv ps ∧
   match limitP st most r (Λ 0) with
   | .err k=>∃ ev,e = .returned (.tuple #[.slice none 0 0,ev])∧ErrIs w' ev k
   | .ok acc=>∃ ov,e = .returned (.tuple #[ov,.nilIface])∧NewRow 3 1 w w' ov (docsOf D acc).length ((docsOf D acc).map intV):=by
 have hal:Below w.heap.size w (w.alloc (.cells #[.int .i64 q.kind,.string ⟨q.a.toArray⟩,.string ⟨q.b.toArray⟩,.int .i64 q.n] 34)):=(Below.refl _ w).alloc (Nat.le_refl _) _
 have hterms:=termsP_law B q st most r sb D kn db R Λ ρ Dd pv ps _ (Nat.le_trans hB hal.size) hsb (hseg.below hal) (hkn.below hal) hst (fun h=>(hp h).kept (Cells.below hal))
 have HAL:=Lib.hid hal
 have HSEG:=Lib.hid hseg
 clear hal hseg hkn hp
 unfold ptrV askV strV at *
 cases hlim:limitP st most r (Λ 0) with
 | err k =>
  rw [hlim] at hterms
  have HT:=Lib.hid hterms
  clear hterms hlim
  go_enter Tryz.func52,Tryz.ntmps52
  go_wp2_with (go_at_call 83; refine HT.out.mono ?_; rintro e w3 ⟨kn',hlo,ev,rfl,hev⟩; obtain ⟨eT,ew,hevv⟩:=hev.some; subst hevv; have HLO:=Lib.hid hlo; have HEV:=Lib.hid hev; clear hlo hev)
  go_ret2
  exact ⟨kn',HLO.out.front HAL.out hB,_,rfl,HEV.out⟩
 | ok acc =>
  rw [hlim] at hterms
  have HT:=Lib.hid hterms
  clear hterms hlim
  go_enter Tryz.func52,Tryz.ntmps52
  go_upto_region 4 with (go_at_call 83; refine HT.out.mono ?_; rintro e w3 ⟨kn',hlo,fv,rfl,hrow⟩; have HLO:=Lib.hid hlo; have HROW:=Lib.hid hrow; clear hlo hrow)
  have hun:=union_any D sb pv fv _ w3 (HLO.out.seg.terms HROW.out) hD
  unfold ptrV at hun
  have HUN:=Lib.hid hun
  clear hun
  go_wp2_with (go_at_call 84; refine HUN.out.mono ?_; rintro e w4 ⟨ov,rfl,hb4,hrow4,hpast4,hnil4⟩; have HB4:=Lib.hid hb4; have HR4:=Lib.hid (And.intro hrow4 (And.intro hpast4 hnil4)); clear hb4 hrow4 hpast4 hnil4)
  go_ret2
  have hdo:=docsOf_terms HSEG.out.2.2.2.1 acc
  obtain ⟨r1,r2,r3⟩:=HR4.out
  rw [hdo] at r1 r3
  exact ⟨kn',(HLO.out.front HAL.out hB).back HB4.out hB,_,rfl,r1,fun k e=>by have:=r2 k e; have:=HAL.out.size; have:=HLO.out.below.size; omega,fun e=>r3 (List.eq_nil_of_length_eq_zero e)⟩
end Go.Proofs.Tl
namespace Go.Proofs.Tl
open Go Go.RowKit Go.Proofs.Ts
structure iOq (w w':World):Prop where
 os:w'.os=w.os
 tape:w'.tape=w.tape
 output:w'.output=w.output
theorem iOq.refl (w:World):iOq w w:=⟨rfl,rfl,rfl⟩
theorem iOq.trans {a b c:World} (h:iOq a b) (k:iOq b c):iOq a c:=⟨k.os.trans h.os,k.tape.trans h.tape,k.output.trans h.output⟩
theorem iOq.below {B:Nat} {a b:World} (h:Below B a b):iOq a b:=⟨h.os,h.tape,h.output⟩
theorem iOq.mod {S:Nat→Prop} {a b:World} (h:Mod S a b):iOq a b:=⟨h.os,h.tape,h.output⟩
structure Keeps (M:Nat→Prop) (w w':World):Prop where
 io:iOq w w'
 size:w.heap.size≤w'.heap.size
 block:∀ k,k < w.heap.size → ¬ M k→w'.heap[k]?=w.heap[k]?
theorem Keeps.refl (M:Nat→Prop) (w:World):Keeps M w w:=⟨iOq.refl _,Nat.le_refl _,fun _ _ _=>rfl⟩
def Box (M:Nat→Prop) (X:World→Prop) (w:World):Prop:=∀ w',Keeps M w w'→X w'
section
variable {M M':Nat→Prop} {X Y:World→Prop} {w w':World}
theorem Box.out (h:Box M X w):X w:=h w (Keeps.refl _ _)
theorem Box.wider (h:Box M X w) (hk:Keeps M w w') (hM:∀ k,k < w.heap.size→M' k→M k):Box M' X w':=fun w2 h2 =>
 h w2 ⟨hk.io.trans h2.io,Nat.le_trans hk.size h2.size,fun k hl hn=>(h2.block k (Nat.lt_of_lt_of_le hl hk.size) fun hm=>hn (hM k hl hm)).trans (hk.block k hl hn)⟩
theorem Box.mono (h:Box M X w) (f:∀ w,X w→Y w):Box M Y w:=fun w2 h2=>f w2 (h w2 h2)
end
inductive Tag where
 | hub | xs | ms | ns | bs
 | seg (i:Nat) | known (i:Nat)
 | real (i:Nat) | want (i:Nat)
 | breal (i:Nat) | bwant (i:Nat)
deriving DecidableEq
def Mut (own:Nat→Option Tag) (k:Nat):Prop:=own k≠none
def Fix (ty:Nat):Prop:=Still ty∨ty=24
instance (t:Nat):Decidable (Fix t):=inferInstanceAs (Decidable (_∨_))
def Soft (w:World) (k:Nat):Prop:=∀ cs ty r,w.heap[k]?=some (.cells cs ty r) → ¬ Fix ty
theorem Soft.of_block {w w':World} {k:Nat} (h:Soft w k) (hb:w'.heap[k]?=w.heap[k]?):Soft w' k:=fun cs ty r e=>h cs ty r (hb.symm.trans e)
theorem Soft.cells {w:World} {k:Nat} {cs:Array Value} {ty:TypeId} {r:Nat × Nat} (h:w.heap[k]?=some (.cells cs ty r)) (ht:¬ Fix ty):Soft w k:=fun cs' ty' r' e=>by
 rw [h] at e
 cases e
 exact ht
theorem Soft.map {enc:Asked→Value} {w:World} {k:Nat} {m:List (Asked × Value)} (h:MapIs enc w k m):Soft w k:=fun cs ty r e=>by
 obtain ⟨es,c,h1,_⟩:=h
 rw [h1] at e
 cases e
theorem Soft.row {w:World} {B e size n:Nat} {v:Value} {xs:List Value} (h:w.ownsRow B e size v n xs) (he:¬ Fix e) {k:Nat} (hk:v.ownBlock=some k):Soft w k:=by
 rcases h.2 with ⟨rfl,_⟩ | ⟨g,cap,cur,rfl,_,hg,_⟩
 ·cases hk
 ·cases hk
  exact Soft.cells hg he
open Classical in
noncomputable def drop (T:Tag→Prop) (own:Nat→Option Tag) (k:Nat):Option Tag:=match own k with
 | some t=>if T t then none else some t
 | none=>none
theorem drop_none {T:Tag→Prop} {own:Nat→Option Tag} {k:Nat} (h:own k=none):drop T own k=none:=by unfold drop; rw [h]
theorem drop_off {T:Tag→Prop} {own:Nat→Option Tag} {k:Nat} {t:Tag} (h:own k=some t) (ht:T t):drop T own k=none:=by unfold drop; rw [h]; exact if_pos ht
theorem drop_on {T:Tag→Prop} {own:Nat→Option Tag} {k:Nat} {t:Tag} (h:own k=some t) (ht:¬ T t):drop T own k=some t:=by unfold drop; rw [h]; exact if_neg ht
theorem drop_some {T:Tag→Prop} {own:Nat→Option Tag} {k:Nat} {t:Tag} (h:drop T own k=some t):own k=some t ∧ ¬ T t:=by
 cases ho:own k with
 | none=>rw [drop_none ho] at h; cases h
 | some s =>
  by_cases hs:T s
  ·rw [drop_off ho hs] at h; cases h
  ·rw [drop_on ho hs] at h
   cases h
   exact ⟨rfl,hs⟩
structure Step (T:Tag→Prop) (w:World) (own:Nat→Option Tag) (w':World) (own':Nat→Option Tag):Prop where
 io:iOq w w'
 size:w.heap.size≤w'.heap.size
 keep:∀ k t,own k=some t → ¬ T t→own' k=some t∧w'.heap[k]?=w.heap[k]?
 rest:∀ k,k < w.heap.size→own k=none→w'.heap[k]?=w.heap[k]?∧own' k=none
 dom:∀ k,own' k≠none→k < w'.heap.size
 soft:∀ k t,own' k=some t→(own k=some t ∧ ¬ T t)∨Soft w' k
section
variable {T:Tag→Prop} {w w':World} {own own':Nat→Option Tag}
theorem Step.base (hd:∀ k,own k≠none→k < w.heap.size) (hs:w.heap.size≤w'.heap.size) (hio:iOq w w') (hk:∀ k,k < w.heap.size→(∀ t,own k=some t → ¬ T t)→w'.heap[k]?=w.heap[k]?):Step T w own w' (drop T own):=by
 refine ⟨hio,hs,fun k t h ht=>⟨drop_on h ht,hk k (hd k (by rw [h]; simp)) fun s h'=>by rw [h] at h'; cases h'; exact ht⟩,fun k hl h=>⟨hk k hl (fun s h'=>by rw [h] at h'; cases h'),drop_none h⟩,fun k h=>?_,fun k t h => .inl (drop_some h)⟩
 cases ho:drop T own k with
 | none=>exact absurd ho h
 | some t=>exact Nat.lt_of_lt_of_le (hd k (by rw [(drop_some ho).1]; simp)) hs
def tagged (own:Nat→Option Tag) (t:Tag) (b:Option Nat) (k:Nat):Option Tag:=if b=some k then some t else own k
theorem tagged_at {t:Tag} {b:Option Nat} {k:Nat} (h:b=some k):tagged own t b k=some t:=if_pos h
theorem tagged_off {t:Tag} {b:Option Nat} {k:Nat} (h:b≠some k):tagged own t b k=own k:=if_neg h
theorem Step.tag (h:Step T w own w' own') (t:Tag) (b:Option Nat) (hb:∀ k,b=some k→(w.heap.size≤k∨own k=some t)∧k < w'.heap.size∧own' k=none∧Soft w' k):Step T w own w' (tagged own' t b):=by
 refine ⟨h.io,h.size,fun k s hk hs=>?_,fun k hl hk=>?_,fun k hk=>?_,fun k s hk=>?_⟩
 ·have h1:=h.keep k s hk hs
  refine ⟨?_,h1.2⟩
  rw [tagged_off,h1.1]
  intro e
  have:=(hb k e).2.2.1
  rw [h1.1] at this
  cases this
 ·have h1:=h.rest k hl hk
  refine ⟨h1.1,?_⟩
  rw [tagged_off,h1.2]
  intro e
  rcases (hb k e).1 with h2 | h2
  ·omega
  ·rw [hk] at h2; cases h2
 ·by_cases e:b=some k
  ·exact (hb k e).2.1
  ·rw [tagged_off e] at hk
   exact h.dom k hk
 ·by_cases e:b=some k
  ·exact .inr (hb k e).2.2.2
  ·rw [tagged_off e] at hk
   exact h.soft k s hk
theorem Step.keeps (h:Step T w own w' own'):Keeps (Mut own) w w':=⟨h.io,h.size,fun k hl hn=>(h.rest k hl (Classical.not_not.1 hn)).1⟩
theorem Step.box {X:World→Prop} (h:Step T w own w' own') (hx:Box (Mut own) X w):Box (Mut own') X w':=hx.wider h.keeps fun k hl hm he=>hm (h.rest k hl he).2
theorem Step.still (h:Step T w own w' own') (hs:∀ k,own k≠none→Soft w k):StillKept w w':=fun k cs t r hk ht=>(h.rest k (lt_of_heap hk) (Classical.byContradiction fun hn=>hs k hn cs t r hk (.inl ht))).1
theorem Step.softs (h:Step T w own w' own') (hs:∀ k,own k≠none→Soft w k):∀ k,own' k≠none→Soft w' k:=fun k hk=>by
 obtain ⟨t,ht⟩:=Option.ne_none_iff_exists'.1 hk
 rcases h.soft k t ht with ⟨h1,h2⟩ | h1
 ·exact (hs k (by rw [h1]; simp)).of_block (h.keep k t h1 h2).2
 ·exact h1
end
def tyNo (w:World) (k:Nat):Nat:=match w.heap[k]? with
 | some (.cells _ t _)=>t+1
 | _=>0
def clsNo (w:World) (z k:Nat):Nat:=if (tyNo w k=3+1∨tyNo w k=5+1)∧z≤k then 100000 else tyNo w k
theorem tyNo_cells {w:World} {k:Nat} {cs:Array Value} {t:TypeId} {r:Nat × Nat} (h:w.heap[k]?=some (.cells cs t r)):tyNo w k=t+1:=by unfold tyNo; rw [h]
theorem tyNo_row {w:World} {B e size n k:Nat} {v:Value} {xs:List Value} (h:w.ownsRow B e size v n xs) (hk:v.ownBlock=some k):tyNo w k=e+1:=by
 rcases h.2 with ⟨rfl,_⟩ | ⟨g,cap,cur,rfl,_,hg,_⟩
 ·cases hk
 ·cases hk
  exact tyNo_cells hg
theorem tyNo_map {enc:Asked→Value} {w:World} {k:Nat} {m:List (Asked × Value)} (h:MapIs enc w k m):tyNo w k=0:=by
 obtain ⟨es,c,h1,_⟩:=h
 unfold tyNo
 rw [h1]
theorem clsNo_far {w:World} {z k:Nat} (h:tyNo w k=3+1∨tyNo w k=5+1) (hz:z≤k):clsNo w z k=100000:=if_pos ⟨h,hz⟩
theorem clsNo_near {w:World} {z k n:Nat} (h:tyNo w k=n) (hz:k < z∨(n≠3+1∧n≠5+1)):clsNo w z k=n:=by
 unfold clsNo
 rw [if_neg,h]
 rintro ⟨h1,h2⟩
 rw [h] at h1
 omega
theorem Step.make {T:Tag→Prop} {w w':World} {own:Nat→Option Tag} (hd:∀ k,own k≠none→k < w.heap.size) (hs:w.heap.size≤w'.heap.size) (hio:iOq w w') (hk:∀ k,k < w.heap.size→(∀ t,own k=some t → ¬ T t)→w'.heap[k]?=w.heap[k]?) (c:Nat→Nat) :
  ∀ (l:List (Tag × Option Nat × Nat)),(∀ p∈l,∀ k,p.2.1=some k→(w.heap.size≤k∨(own k=some p.1∧T p.1))∧k < w'.heap.size∧Soft w' k∧c k=p.2.2)→(l.map (·.2.2)).Nodup →
  ∃ own',Step T w own w' own'∧(∀ p∈l,∀ k,p.2.1=some k→own' k=some p.1) ∧ ∀ k,own' k≠none→(∃ t,own k=some t ∧ ¬ T t) ∨ ∃ p∈l,p.2.1=some k
 | [],_,_=>⟨_,Step.base hd hs hio hk,(fun p hp=>by cases hp),fun k h=>by
  obtain ⟨t,ht⟩:=Option.ne_none_iff_exists'.1 h
  exact .inl ⟨t,drop_some ht⟩⟩
 | p :: l,hl,hn=>by
  rw [List.map_cons,List.nodup_cons] at hn
  obtain ⟨own1,h1,h2,h3⟩:=Step.make hd hs hio hk c l (fun q hq=>hl q (List.mem_cons_of_mem _ hq)) hn.2
  have hoff:∀ k,p.2.1=some k→own1 k=none:=fun k e=>by
   obtain ⟨a1,a2,a3,a4⟩:=hl p List.mem_cons_self k e
   refine Classical.byContradiction fun hc=>?_
   rcases h3 k hc with ⟨t,h4,h5⟩ | ⟨q,hq,h4⟩
   ·rcases a1 with a1 | ⟨a1,a5⟩
    ·have:=hd k (by rw [h4]; simp)
     omega
    ·rw [h4] at a1
     cases a1
     exact h5 a5
   ·have:=(hl q (List.mem_cons_of_mem _ hq) k h4).2.2.2
    rw [a4] at this
    exact hn.1 (by rw [this]; exact List.mem_map.2 ⟨q,hq,rfl⟩)
  refine ⟨_,h1.tag p.1 p.2.1 fun k e=>?_,fun q hq k e=>?_,fun k e=>?_⟩
  ·obtain ⟨a1,a2,a3,a4⟩:=hl p List.mem_cons_self k e
   exact ⟨a1.imp id (·.1),a2,hoff k e,a3⟩
  ·rcases List.mem_cons.1 hq with rfl | hq
   ·exact tagged_at e
   ·by_cases hp:p.2.1=some k
    ·have:=hoff k hp
     rw [h2 q hq k e] at this
     cases this
    ·rw [tagged_off hp]
     exact h2 q hq k e
  ·by_cases hp:p.2.1=some k
   ·exact .inr ⟨p,List.mem_cons_self,hp⟩
   ·rw [tagged_off hp] at e
    rcases h3 k e with h | ⟨q,hq,h⟩
    ·exact .inl h
    ·exact .inr ⟨q,List.mem_cons_of_mem _ hq,h⟩
end Go.Proofs.Tl
namespace Go.Proofs.Tl
open Go Go.RowKit Go.Proofs.Ts
structure SegE where
 sb:Nat
 mb:Nat
 D:List (List (List UInt8))
 kn:Value
structure NumE where
 real:Value
 want:Value
 L:List Int
structure BytE where
 real:Value
 want:Value
 L:List Int
def SegRest (w:World) (D:List (List (List UInt8))) (db:Nat) (R:Nat→Prop) (Λ:Nat→List Word) (ρ:Nat→Nat) (Dd:List DS) (pv:Value) (ps:List Value):Prop :=
 DictIs w db R Λ ρ Dd∧(Λ 0).Pairwise (fun a b=>a < b)∧(∀ x,x∈Λ 0↔postsOf D x≠[])∧(Λ 0).length≤10000∧(∀ x∈Λ 0,x.length≤16) ∧
  w.ownsRow 0 24 1 pv (Λ 0).length ps ∧ ∀ (i:Nat) v x,ps[i]?=some v→(Λ 0)[i]?=some x→w.ownsRow 0 3 1 v (postsOf D x).length ((postsOf D x).map intV)
theorem SegRest.at {w:World} {sb:Nat} {D:List (List (List UInt8))} {kn:Value} {db:Nat} {R:Nat→Prop} {Λ:Nat→List Word} {ρ:Nat→Nat} {Dd:List DS} {pv:Value} {ps:List Value} (h:SegRest w D db R Λ ρ Dd pv ps) (hb:w.heap[sb]?=some (segObj D.length db pv 0 kn)):SegAt w sb D kn db R Λ ρ Dd pv ps:=⟨hb,h⟩
def RowT (w:World) (own:Nat→Option Tag) (t:Tag) (e size n:Nat) (v:Value) (xs:List Value):Prop:=w.ownsRow 0 e size v n xs ∧ ∀ k,v.ownBlock=some k→own k=some t
theorem RowT.step {T:Tag→Prop} {w w':World} {own own':Nat→Option Tag} {t:Tag} {e size n:Nat} {v:Value} {xs:List Value} (h:RowT w own t e size n v xs) (hs:Step T w own w' own') (ht:¬ T t):RowT w' own' t e size n v xs :=
 ⟨ownsRow_block h.1 fun k hk=>(hs.keep k t (h.2 k hk) ht).2,fun k hk=>(hs.keep k t (h.2 k hk) ht).1⟩
structure SegOk (w:World) (own:Nat→Option Tag) (i:Nat) (e:SegE):Prop where
 ex:∃ db R Λ ρ Dd pv ps,w.heap[e.sb]?=some (segObj e.D.length db pv 0 e.kn)∧Box (Mut own) (fun w=>SegRest w e.D db R Λ ρ Dd pv ps) w
 tag:own e.sb=some (.seg i)
 ktag:∀ k,e.kn = .map (some k)→own k=some (.known i)
 known:KnownIs 0 w e.kn
 index:Box (Mut own) (fun w=>IndexOf 0 w e.mb e.D) w
 few:e.D.length≤48
theorem known_turn {B:Nat} {w w':World} {kn:Value} (h:KnownIs B w kn) (hs:StillKept w w') (hm:∀ km,kn = .map (some km)→w'.heap[km]?=w.heap[km]?):KnownIs B w' kn:=by
 rcases h with h | ⟨km,m,h1,hB,h2,h3,h4⟩
 ·exact .inl h
 ·exact .inr ⟨km,m,h1,hB,h2.of_block (hm km h1),h3,fun q v hv=>by
   obtain ⟨pb,e,hp⟩:=h4 q v hv
   exact ⟨pb,e,hp.still hs⟩⟩
theorem SegOk.step {T:Tag→Prop} {w w':World} {own own':Nat→Option Tag} {i:Nat} {e:SegE} (h:SegOk w own i e) (hs:Step T w own w' own') (hf:∀ k,own k≠none→Soft w k) (h1:¬ T (.seg i)) (h2:¬ T (.known i)):SegOk w' own' i e:=by
 obtain ⟨db,R,Λ,ρ,Dd,pv,ps,hb,hr⟩:=h.ex
 exact ⟨⟨db,R,Λ,ρ,Dd,pv,ps,(hs.keep _ _ h.tag h1).2.trans hb,hs.box hr⟩,(hs.keep _ _ h.tag h1).1,fun k hk=>(hs.keep _ _ (h.ktag k hk) h2).1,known_turn h.known (hs.still hf) fun k hk=>(hs.keep _ _ (h.ktag k hk) h2).2,hs.box h.index,h.few⟩
structure NumOk (w:World) (own:Nat→Option Tag) (i:Nat) (e:NumE):Prop where
 real:IntsOf w e.real e.L
 want:IntsOf w e.want e.L
 rtag:∀ k,e.real.ownBlock=some k→own k=some (.real i)
 wtag:∀ k,e.want.ownBlock=some k→own k=some (.want i)
 few:e.L.length≤1000
theorem NumOk.step {T:Tag→Prop} {w w':World} {own own':Nat→Option Tag} {i:Nat} {e:NumE} (h:NumOk w own i e) (hs:Step T w own w' own') (h1:¬ T (.real i)) (h2:¬ T (.want i)):NumOk w' own' i e :=
 ⟨h.real.keep fun k hk=>(hs.keep _ _ (h.rtag k hk) h1).2,h.want.keep fun k hk=>(hs.keep _ _ (h.wtag k hk) h2).2,fun k hk=>(hs.keep _ _ (h.rtag k hk) h1).1,fun k hk=>(hs.keep _ _ (h.wtag k hk) h2).1,h.few⟩
def u8V (x:Int):Value := .int .u8 x
def BytesOf (w:World) (v:Value) (L:List Int):Prop:=w.ownsRow 0 5 1 v L.length (L.map u8V)
structure BytOk (w:World) (own:Nat→Option Tag) (i:Nat) (e:BytE):Prop where
 real:BytesOf w e.real e.L
 want:BytesOf w e.want e.L
 rtag:∀ k,e.real.ownBlock=some k→own k=some (.breal i)
 wtag:∀ k,e.want.ownBlock=some k→own k=some (.bwant i)
 few:e.L.length≤1000000
theorem BytOk.step {T:Tag→Prop} {w w':World} {own own':Nat→Option Tag} {i:Nat} {e:BytE} (h:BytOk w own i e) (hs:Step T w own w' own') (h1:¬ T (.breal i)) (h2:¬ T (.bwant i)):BytOk w' own' i e :=
 ⟨ownsRow_block h.real fun k hk=>(hs.keep _ _ (h.rtag k hk) h1).2,ownsRow_block h.want fun k hk=>(hs.keep _ _ (h.wtag k hk) h2).2,fun k hk=>(hs.keep _ _ (h.rtag k hk) h1).1,fun k hk=>(hs.keep _ _ (h.wtag k hk) h2).1,h.few⟩
def numCells (N:List NumE):List Value:=N.flatMap fun e=>[e.real,e.want]
def bytCells (N:List BytE):List Value:=N.flatMap fun e=>[e.real,e.want]
theorem numCells_snoc (N:List NumE) (e:NumE):numCells (N++[e])=numCells N++[e.real,e.want]:=by unfold numCells; rw [List.flatMap_append]; rfl
theorem pairs_get {α:Type} (f g:α→Value):∀ (N:List α) (i:Nat) (e:α),N[i]?=some e→(N.flatMap fun e=>[f e,g e])[2 * i]?=some (f e)∧(N.flatMap fun e=>[f e,g e])[2 * i+1]?=some (g e)
 | [],i,e,h=>by simp at h
 | a :: N,0,e,h=>by simp at h; subst h; simp
 | a :: N,i+1,e,h=>by
  have ih:=pairs_get f g N i e (by simpa using h)
  have e1:2 * (i+1)=2 * i+1+1:=by omega
  rw [List.flatMap_cons,e1]
  simpa using ih
structure Player (w:World) (own:Nat→Option Tag) (wb:Nat) (S:List SegE) (N:List NumE) (Bs:List BytE) (Env:World→Prop):Prop where
 dom:∀ k,own k≠none→k < w.heap.size
 soft:∀ k,own k≠none→Soft w k
 env:Box (Mut own) Env w
 tag:own wb=some .hub
 hub:∃ xv mv nv bv,w.heap[wb]?=some (.cells #[xv,mv,nv,bv] 32 (0,0)) ∧
  RowT w own .xs 49 1 S.length xv (S.map fun e=>ptrV e.sb)∧RowT w own .ms 50 1 S.length mv (S.map fun e=>ptrV e.mb) ∧
  RowT w own .ns 64 2 N.length nv (numCells N)∧RowT w own .bs 67 2 Bs.length bv (bytCells Bs)
 segs:∀ i e,S[i]?=some e→SegOk w own i e
 nums:∀ i e,N[i]?=some e→NumOk w own i e
 byts:∀ i e,Bs[i]?=some e→BytOk w own i e
theorem Player.below {w w':World} {own:Nat→Option Tag} {wb:Nat} {S:List SegE} {N:List NumE} {Bs:List BytE} {Env:World→Prop} (h:Player w own wb S N Bs Env) (hb:Below w.heap.size w w'):∃ own',Player w' own' wb S N Bs Env:=by
 have hs:=Step.base (T:=fun _=>False) h.dom hb.size (iOq.below hb) fun k hk _=>hb.block k hk
 obtain ⟨xv,mv,nv,bv,h1,h2,h3,h4,h5⟩:=h.hub
 exact ⟨_,hs.dom,hs.softs h.soft,hs.box h.env,(hs.keep _ _ h.tag id).1,⟨xv,mv,nv,bv,(hs.keep _ _ h.tag id).2.trans h1,h2.step hs id,h3.step hs id,h4.step hs id,h5.step hs id⟩,
  fun i e he=>(h.segs i e he).step hs h.soft id id,fun i e he=>(h.nums i e he).step hs id id,fun i e he=>(h.byts i e he).step hs id id⟩
def Plays (n:Nat) (w:World) (wb:Nat) (Env:World→Prop):Prop:=∃ own S N Bs,S.length≤n∧N.length≤n∧Bs.length≤n∧Player w own wb S N Bs Env
theorem Plays.below {n:Nat} {w w':World} {wb:Nat} {Env:World→Prop} (h:Plays n w wb Env) (hb:Below w.heap.size w w'):Plays n w' wb Env:=by
 obtain ⟨own,S,N,Bs,h1,h2,h3,h4⟩:=h
 obtain ⟨own',h5⟩:=h4.below hb
 exact ⟨own',S,N,Bs,h1,h2,h3,h5⟩
theorem Plays.mono {n m:Nat} {w:World} {wb:Nat} {Env:World→Prop} (h:Plays n w wb Env) (hm:n≤m):Plays m w wb Env:=by
 obtain ⟨own,S,N,Bs,h1,h2,h3,h4⟩:=h
 exact ⟨own,S,N,Bs,by omega,by omega,by omega,h4⟩
theorem Plays.env {n:Nat} {w:World} {wb:Nat} {Env:World→Prop} (h:Plays n w wb Env):Env w:=by
 obtain ⟨own,S,N,Bs,h1,h2,h3,h4⟩:=h
 exact h4.env.out
end Go.Proofs.Tl
namespace Go.Proofs.Tl
open Go Go.RowKit Go.Proofs.Ts
theorem far_below {B:Nat} {w w':World} {sb:Nat} {D:List (List (List UInt8))} {kn:Value} (h:SegFar B w sb D kn) (hb:Below w.heap.size w w'):SegFar B w' sb D kn:=by
 obtain ⟨db,R,Λ,ρ,Dd,pv,ps,h1,h2⟩:=h
 have hat:SegAt w sb D kn db R Λ ρ Dd pv ps:=h2
 exact ⟨db,R,Λ,ρ,Dd,pv,ps,h1,hat.below hb⟩
theorem far_base {B C:Nat} {w:World} {sb:Nat} {D:List (List (List UInt8))} {kn:Value} (h:SegFar B w sb D kn) (hb:C≤B):SegFar C w sb D kn:=by
 obtain ⟨db,R,Λ,ρ,Dd,pv,ps,h1,h2⟩:=h
 exact ⟨db,R,Λ,ρ,Dd,pv,ps,fun v hv k hk=>Nat.le_trans hb (h1 v hv k hk),h2⟩
theorem far_strKept {B:Nat} {w w':World} {sb:Nat} {D:List (List (List UInt8))} {kn:Value} (h:SegFar B w sb D kn) (hk:∀ (k:Nat) cs t r,w.heap[k]?=some (.cells cs t r)→t≠9→w'.heap[k]?=w.heap[k]?):SegFar B w' sb D kn:=by
 obtain ⟨db,R,Λ,ρ,Dd,pv,ps,h0,h1,h2,h3,h4,h5,h6,h7,h8⟩:=h
 exact ⟨db,R,Λ,ρ,Dd,pv,ps,h0,(hk _ _ _ _ h1 (by decide)).trans h1,h2.strKept hk,h3,h4,h5,h6,ownsRow_typed h7 fun k cs r hk'=>hk k cs _ r hk' (by decide),fun i v x hv hx=>ownsRow_typed (h8 i v x hv hx) fun k cs r hk'=>hk k cs _ r hk' (by decide)⟩
def Built (docs:List ByteArray) (w w':World) (sv ev:Value):Prop :=
 (buildNum docs≠0∧sv = .pointer none∧ev=errnoV (buildNum docs))∨(buildNum docs=0∧ev = .nilIface ∧ ∃ sb,sv=ptrV sb∧w.heap.size≤sb∧SegFar w.heap.size w' sb (docs.map wordsB) (.map none))
theorem first_bad:∀ (docs:List ByteArray),∃ m,m≤docs.length∧(∀ d∈docs.take m,d.size≤200) ∧ ∀ h:m < docs.length,200 < docs[m].size
 | []=>⟨0,Nat.le_refl _,by simp,fun h=>by simp at h⟩
 | d :: ds=>by
  by_cases h:200 < d.size
  ·exact ⟨0,Nat.zero_le _,by simp,fun _=>h⟩
  ·obtain ⟨m,h1,h2,h3⟩:=first_bad ds
   refine ⟨m+1,by simp; omega,fun x hx=>?_,fun hm=>h3 (by simpa using hm)⟩
   rw [List.take_succ_cons,List.mem_cons] at hx
   rcases hx with rfl | hx
   ·omega
   ·exact h2 x hx
set_option maxRecDepth 100000 in
set_option maxHeartbeats 2000000 in
theorem build_law (docs:List ByteArray) (v:Value) (w:World) (hv:StrsIs w v docs) :
  Calls Tryz.prog 61 #[v] w fun e w'=>Below w.heap.size w w' ∧ ∃ sv ev,e = .returned (.tuple #[sv,ev])∧Built docs w w' sv ev:=by
 by_cases h48:48 < docs.length
 ·have hn:buildNum docs=1:=by unfold buildNum; rw [if_pos h48]
  obtain ⟨a0,cap0,rfl,hc⟩:=hv
  clear hc
  go_enter Tryz.func61,Tryz.ntmps61
  go_wp2_with fail
  go_ret2
  exact ⟨Below.refl _ _,_,_,rfl,.inl ⟨by rw [hn]; decide,rfl,by rw [hn]; rfl⟩⟩
 ·obtain ⟨m,hm,h1,h2⟩:=first_bad docs
  refine (build_gen docs v w hv (by omega) m hm h1 h2).mono ?_
  rintro e w' ⟨hb,⟨he,sb,rfl,h3,h4⟩ | ⟨hlt,rfl⟩⟩
  ·have hall:∀ d∈docs,d.size≤200:=by rw [he,List.take_length] at h1; exact h1
   have hn:buildNum docs=0:=by
    unfold buildNum
    rw [if_neg h48,if_neg]
    rintro ⟨d,hd,h⟩
    have:=hall d hd
    omega
   exact ⟨hb,_,_,rfl,.inr ⟨hn,rfl,sb,rfl,h3,h4⟩⟩
  ·have hn:buildNum docs=2:=by
    unfold buildNum
    rw [if_neg h48,if_pos ⟨docs[m],List.getElem_mem hlt,h2 hlt⟩]
   exact ⟨hb,_,_,rfl,.inl ⟨by rw [hn]; decide,rfl,by rw [hn]; rfl⟩⟩
set_option maxRecDepth 100000 in
set_option maxHeartbeats 2000000 in
theorem plainBuild_law (docs:List ByteArray) (v:Value) (w:World) (hv:StrsIs w v docs) (hl:docs.length≤1000000) (hg:ErrIn w) :
  Calls Tryz.prog 34 #[v] w fun e w'=>Below w.heap.size w w' ∧ ∃ sv ev,e = .returned (.tuple #[sv,.int .i64 (buildNum docs),.bool true])∧Built docs w w' sv ev:=by
 obtain ⟨a,cap,rfl,hc⟩:=hv
 obtain ⟨i0,hi,hz0,hz1,hz2⟩:=info_parts Tryz.info9
 have HC:=Lib.hid hc
 have HG:=Lib.hid hg
 obtain ⟨bn,hbn⟩:∃ bn,bn=buildNum docs:=⟨_,rfl⟩
 rw [← hbn]
 have HBN:=Lib.hid hbn
 clear hc hg hbn
 go_enter Tryz.func34,Tryz.ntmps34
 go_wp2_with (at_builtin; refine wpList_append_copy rfl _ _ 35 rfl 9 i0 (.string ⟨#[]⟩) 1 16 Tryz.underlying35 hi hz0 hz1 hz2 rfl (by decide) rfl a docs.length cap (docs.map Value.string) rfl (by simp) ?c1 (by simp [Value.oneCell']) (by unfold maxLen; omega) (by omega) ?_)
 case c1 =>
  intro j u hj
  rw [List.getElem?_map] at hj
  obtain ⟨d,hd,rfl⟩:=Option.map_eq_some_iff.1 hj
  obtain ⟨hjl,hd⟩:=List.getElem?_eq_some_iff.1 hd
  obtain ⟨b,off,rfl,hcell⟩:=HC.out j hjl
  refine ⟨_,rfl,?_⟩
  rw [← hd]
  by_cases h0:j=0
  ·subst h0; simpa [Addr.add] using hcell
  ·simpa [Addr.add,h0] using hcell
 intro ov w1 hrow hb1 hpast
 have hs1:=ownsRow_strs hrow
 obtain ⟨oa,oc,rfl⟩:=ownsRow_form hrow
 have HROW:=Lib.hid hrow
 have HB1:=Lib.hid hb1
 have HP:=Lib.hid hpast
 clear hrow hb1 hpast hi hz0 hz1 hz2
 go_wp2_with fail
 refine (build_law docs _ w1 hs1).mono ?_
 rintro e w2 ⟨hb2,sv,ev,rfl,hseg2⟩
 have HB2:=Lib.hid hb2
 have HS2:=Lib.hid hseg2
 have htold:Calls Tryz.prog 40 #[ev] w2 fun e w'=>e = .returned (.tuple #[.int .i64 (buildNum docs),.int .i64 (-1)])∧Below w2.heap.size w2 w':=by
  rcases hseg2 with ⟨h1,_,rfl⟩ | ⟨h1,rfl,_⟩
  ·exact told_errno _ w2 ((HG.out.below HB1.out).below HB2.out)
  ·rw [h1]; exact told_nil w2
 have HTOLD:=Lib.hid htold
 clear hs1 hb2 hseg2 htold
 rw [← HBN.out] at HTOLD
 go_wp2_with fail
 refine HTOLD.out.mono ?_
 rintro e w3 ⟨rfl,hb3⟩
 have HB3:=Lib.hid hb3
 clear hb3
 go_wp2_with fail
 have hb13:Below w1.heap.size w1 w3:=HB2.out.trans (HB3.out.mono HB2.out.size)
 have hown:Ts.Own (.slice oa docs.length oc) docs w3 0 w3:=⟨Mod.refl _ _,fun og ho=>by
  rcases HROW.out.2 with ⟨h,_⟩ | ⟨g,cap',cur,h,_,hg,_,_,hcs,htake⟩
  ·rw [h] at ho; cases ho
  ·rw [h] at ho
   cases ho
   refine ⟨cur,(hb13.block _ (lt_of_heap hg)).trans hg,fun j hj _=>?_⟩
   have h1:(docs.map Value.string)[j]?=some (.string docs[j]):=by simp [hj]
   rw [← htake] at h1
   rw [List.getElem?_take_of_lt (by simp; omega)] at h1
   simpa using h1⟩
 have HOWN:=Lib.hid hown
 have HB13:=Lib.hid hb13
 clear hown hb13
 go_loopw [10,26] (fun sm i wr=>∃ k:Nat,k≤docs.length∧i = .int .i64 k∧sm = .bool true∧Hid (Ts.Own (.slice oa docs.length oc) docs w3 k wr)) (fun _ i _=>docs.length - (intOf i).toNat)
 case atStart=>exact ⟨0,Nat.zero_le _,rfl,rfl,HOWN⟩
 case round =>
  obtain ⟨k,hk,rfl,rfl,HO⟩:=hrel
  by_cases hlt:k < docs.length
  ·obtain ⟨b,off,rfl,hcell⟩:=HC.out k hlt
   obtain ⟨g,cap',e,_⟩:=ownsRow_cell HROW.out (j:=k) (u := .string docs[k]) (by simp [hlt])
   simp only [Value.slice.injEq,true_and] at e
   obtain ⟨rfl,rfl⟩:=e
   have hgw:w.heap.size≤g:=HP.out g rfl
   have hbl:=lt_of_cell hcell
   have hs1:=HB1.out.size
   have hs3:=HB13.out.size
   obtain ⟨cur,hcur,hrest⟩:=HO.out.2 g rfl
   have c1:wr.cell? ⟨b,off+k,none⟩=some (.string docs[k]):=by
    have h1:=(HB1.out.cell (p:=⟨b,off+k,none⟩) hbl).trans hcell
    have h2:=(HB13.out.cell (p:=⟨b,off+k,none⟩) (by simp only; omega)).trans h1
    exact (HO.out.1.cell (p:=⟨b,off+k,none⟩) (by simp only; omega) (fun h=>by have h9:g=b:=Option.some.inj h; omega)).trans h2
   have c2:wr.cell? ⟨g,k,none⟩=some (.string docs[k]):=(cell_block hcur).trans (hrest k hlt (Nat.le_refl _))
   have c3:wr.frozen? ⟨g,k,none⟩=false:=free_block hcur
   have q1:(docs[k] == docs[k])=true:=by rw [beq_toListBytes]; simp
   clear hcell hrest
   go_wp2_with fail
   go_quiet (fail)
   go_wp2_with fail
   exact ⟨⟨k+1,by omega,by go_num,rfl,(HO.out.same (Same.drewN _ _)).step rfl⟩,by simp [intOf]; omega⟩
  ·obtain rfl:k=docs.length:=by omega
   go_wp2_with fail
   go_ret3
   have hs1:=HB1.out.size
   have hs3:=HB13.out.size
   have hmod:=HO.out.1
   refine ⟨(HB1.out.trans (HB13.out.mono hs1)).trans (hmod.toBelow (by omega) fun k h=>HP.out k h),sv,ev,rfl,?_⟩
   rcases HS2.out with ⟨h1,h2,h3⟩ | ⟨h1,h2,sb,h3,h4,h5⟩
   ·exact .inl ⟨h1,h2,h3⟩
   ·refine .inr ⟨h1,h2,sb,h3,by omega,far_strKept (far_below (far_base h5 hs1) HB3.out) fun k cs t r h ht=>hmod.block k (lt_of_heap h) fun ho=>ht ?_⟩
    obtain ⟨cur,hcur⟩:=ownsRow_cells4 HROW.out ho
    have hcur3:=(HB13.out.block _ (lt_of_heap hcur)).trans hcur
    rw [h] at hcur3
    cases hcur3
    rfl
end Go.Proofs.Tl
