/- Lemmas towards the statement Simple of termsearch: walks of the program's functions and plain laws on lists (TlCardW, TsBetween, TsBetA, TsGoesW, TlTold, TlSimple, TlSimpleLift, TlSimpleFacts). Conditions: those that each theorem names. -/
import Derived.Test.YtffjomnnkilhgaaGreatDoorSimplePN
import Derived.Test.YtffjomnnkilhgaaGreatDoorSimplePH
import Derived.Test.YtffjomnnkilhgaaGreatDoorSimplePF
import Derived.Test.YtffjomnnkilhgaaGreatDoorSimplePG
import Derived.Defers
import Derived.Recover
import Derived.Test.YtffjomnnkilhgaaGreatDoorSimplePA
import Derived.ChangeMaps5
import Derived.Test.YtffjomnnkilhgaaGreatDoorRows
import Derived.JoinedCond
set_option linter.unusedVariables false
set_option linter.unusedSimpArgs false
set_option linter.unusedSectionVars false
namespace Go.Proofs.YtffjomnnkilhgaaGreatDoor.card
open Go Go.ChangeShapes Go.WideShapes Go.ChangeAt Go.RowKit
noncomputable def laidWorldL (os:Os):World :=
 let w0:=laidWorld os
 let h1:=w0.heap.modify 1 fun
   | .cells _ t frozen => .cells #[.iface 463 (.pointer (some ⟨w0.heap.size,0,none⟩))] t frozen
   | o=>o
 { w0 with heap:=h1.push (.cells #[.string ⟨#[118,97,114,105,110,116,58,32,98,97,100,32,98,121,116,101,115]⟩] 485 (0,0)) }
theorem laid_metL (os:Os) (args:Array Value):laidMetH Tryz.prog Rows.simpleRow.laid ((laidWorldL os).forCall (fun _ _=>0) ⟨#[],args,[]⟩).memory :=
 laidMetH_of_parts (laidMet_of_run' 8 (by kernel_rfl) (by kernel_rfl)) (by kernel_rfl)
theorem shaped_err {W:World} (hS:W.ShapedOpen Tryz.prog):∃ cs t r,W.heap[0]?=some (.cells cs t r)∧t≠168:=by
 obtain ⟨z1,e1⟩:=row_type (P:=Tryz.prog) (g:=0) (t:=222) (by kernel_rfl)
 obtain ⟨cs,h⟩:=shaped_block hS (of_decide_eq_true (by kernel_rfl)) e1
 exact ⟨cs,_,_,h,by decide⟩
end Go.Proofs.YtffjomnnkilhgaaGreatDoor.card
namespace Go.Proofs.Ts
open Go Go.RowKit
structure BetAt (B:Nat) (w W:World) (b s r:Nat) (lo hi:ByteArray) (a0 a1:Value):Prop where
 kb:W.heap[b]?=some (.cells #[.string lo,.string hi] 406 (0,0))
 ks:W.heap[s]?=some (.cells #[a0,a1] 404 (0,0))
 kr:W.heap[r]?=some (.cells #[.int .i64 0,.int .i64 0] 404 (0,0))
 bs:b≠s
 rs:r≠s
 sB:B≤s
 rB:B≤r
 below:Below B w W
section
variable {B:Nat} {w W:World} {b s r:Nat} {lo hi:ByteArray} {a0 a1:Value}
theorem BetAt.set0 (k:BetAt B w W b s r lo hi a0 a1) (v:Value):BetAt B w (W.setCell ⟨s,0,none⟩ v) b s r lo hi v a1 :=
 ⟨by rw [Below.heap_setCell _ _ _ _ k.bs]; exact k.kb,by have:=heap_setCell_same W s 0 _ _ v k.ks; simpa using this,by rw [Below.heap_setCell _ _ _ _ k.rs]; exact k.kr,k.bs,k.rs,k.sB,k.rB,k.below.setCell (p:=⟨s,0,none⟩) k.sB _⟩
theorem BetAt.set1 (k:BetAt B w W b s r lo hi a0 a1) (v:Value):BetAt B w (W.setCell ⟨s,1,none⟩ v) b s r lo hi a0 v :=
 ⟨by rw [Below.heap_setCell _ _ _ _ k.bs]; exact k.kb,by have:=heap_setCell_same W s 1 _ _ v k.ks; simpa using this,by rw [Below.heap_setCell _ _ _ _ k.rs]; exact k.kr,k.bs,k.rs,k.sB,k.rB,k.below.setCell (p:=⟨s,1,none⟩) k.sB _⟩
theorem BetAt.out (k:BetAt B w W b s r lo hi a0 a1) (v u:Value):((W.setCell ⟨r,0,none⟩ v).setCell ⟨r,1,none⟩ u).heap[r]?=some (.cells #[v,u] 404 (0,0))∧Below B w ((W.setCell ⟨r,0,none⟩ v).setCell ⟨r,1,none⟩ u):=by
 have h1:=heap_setCell_same W r 0 _ _ v k.kr
 have h2:=heap_setCell_same _ r 1 _ _ u h1
 exact ⟨by simpa using h2,(k.below.setCell (p:=⟨r,0,none⟩) k.rB _).setCell (p:=⟨r,1,none⟩) k.rB _⟩
end
set_option maxRecDepth 100000 in
set_option maxHeartbeats 4000000 in
theorem betStep_any (lo hi:ByteArray) (l h:Option Nat) (c:UInt8) (w:World) (hlo:lo.size≤1000000) (hhi:hi.size≤1000000) (hl:∀ k,l=some k→k≤lo.size) (hh:∀ k,h=some k→k≤hi.size) :
  Calls Tryz.prog 324 #[.agg #[.string lo,.string hi],.agg #[.int .i64 (optI l),.int .i64 (optI h)],.int .u8 c.toNat] w fun e w' =>
   ∃ l' h',e = .returned (.tuple #[.agg #[.int .i64 (optI l'),.int .i64 (optI h')],.bool (betStep lo.data.toList hi.data.toList ⟨l,h⟩ c).isSome])∧(∀ u,betStep lo.data.toList hi.data.toList ⟨l,h⟩ c=some u→u=⟨l',h'⟩)∧Below w.heap.size w w':=by
 obtain ⟨R,hR⟩:∃ R,R=betStep lo.data.toList hi.data.toList ⟨l,h⟩ c:=⟨_,rfl⟩
 rw [← hR]
 unfold betStep at hR
 have HR:=Lib.hid hR
 clear hR
 go_enter Tryz.func324,Tryz.ntmps324
 go_upto_region 1 with fail
 obtain ⟨W,hW⟩:∃ W,W=((w.alloc (.cells #[.string lo,.string hi] 406)).alloc (.cells #[.int .i64 (optI l),.int .i64 (optI h)] 404)).alloc (.cells #[.int .i64 0,.int .i64 0] 404):=⟨_,rfl⟩
 rw [← hW]
 obtain ⟨b,hb⟩:∃ b,b=w.heap.size:=⟨_,rfl⟩
 obtain ⟨s,hs⟩:∃ s,s=w.heap.size+1:=⟨_,rfl⟩
 obtain ⟨r,hr⟩:∃ r,r=w.heap.size+1+1:=⟨_,rfl⟩
 have hB:BetAt w.heap.size w W b s r lo hi (.int .i64 (optI l)) (.int .i64 (optI h)):=by
  have g0:=heap_alloc_new w (.cells #[.string lo,.string hi] 406)
  have g1:=heap_alloc_new (w.alloc (.cells #[.string lo,.string hi] 406)) (.cells #[.int .i64 (optI l),.int .i64 (optI h)] 404)
  have g2:=heap_alloc_new ((w.alloc (.cells #[.string lo,.string hi] 406)).alloc (.cells #[.int .i64 (optI l),.int .i64 (optI h)] 404)) (.cells #[.int .i64 0,.int .i64 0] 404)
  rw [World.size_alloc] at g1
  rw [World.size_alloc,World.size_alloc] at g2
  refine ⟨?_,?_,?_,by omega,by omega,by omega,by omega,?_⟩
  ·rw [hW,hb,Below.heap_alloc _ _ _ (by simp; omega),Below.heap_alloc _ _ _ (by simp)]
   exact g0
  ·rw [hW,hs,Below.heap_alloc _ _ _ (by simp)]
   exact g1
  ·rw [hW,hr]; exact g2
  ·rw [hW]; exact (((Below.refl _ w).alloc (Nat.le_refl _) _).alloc (by simp) _).alloc (by simp; omega) _
 rw [← hr,← hs,← hb]
 clear hW hb hs hr
 have HB:=Lib.hid hB
 have Ab0:(W).cell? ⟨b,0,none⟩=some (.string lo):=cell_block hB.kb
 have Ab1:(W).cell? ⟨b,1,none⟩=some (.string hi):=cell_block hB.kb
 have As0:(W).cell? ⟨s,0,none⟩=some (.int .i64 (optI l)):=cell_block hB.ks
 have As1:(W).cell? ⟨s,1,none⟩=some (.int .i64 (optI h)):=cell_block hB.ks
 have Ar0:(W).cell? ⟨r,0,none⟩=some (.int .i64 0):=cell_block hB.kr
 have Ar1:(W).cell? ⟨r,1,none⟩=some (.int .i64 0):=cell_block hB.kr
 have Af0:(W).frozen? ⟨s,0,none⟩=false:=free_block hB.ks
 have Af1:(W).frozen? ⟨s,1,none⟩=false:=free_block hB.ks
 have Ag0:(W).frozen? ⟨r,0,none⟩=false:=free_block hB.kr
 have Ag1:(W).frozen? ⟨r,1,none⟩=false:=free_block hB.kr
 have Bb0:∀ v:Value,(W.setCell ⟨s,0,none⟩ v).cell? ⟨b,0,none⟩=some (.string lo):=fun v=>cell_block (hB.set0 v).kb
 have Bb1:∀ v:Value,(W.setCell ⟨s,0,none⟩ v).cell? ⟨b,1,none⟩=some (.string hi):=fun v=>cell_block (hB.set0 v).kb
 have Bs0:∀ v:Value,(W.setCell ⟨s,0,none⟩ v).cell? ⟨s,0,none⟩=some v:=fun v=>cell_block (hB.set0 v).ks
 have Bs1:∀ v:Value,(W.setCell ⟨s,0,none⟩ v).cell? ⟨s,1,none⟩=some (.int .i64 (optI h)):=fun v=>cell_block (hB.set0 v).ks
 have Br0:∀ v:Value,(W.setCell ⟨s,0,none⟩ v).cell? ⟨r,0,none⟩=some (.int .i64 0):=fun v=>cell_block (hB.set0 v).kr
 have Br1:∀ v:Value,(W.setCell ⟨s,0,none⟩ v).cell? ⟨r,1,none⟩=some (.int .i64 0):=fun v=>cell_block (hB.set0 v).kr
 have Bf0:∀ v:Value,(W.setCell ⟨s,0,none⟩ v).frozen? ⟨s,0,none⟩=false:=fun v=>free_block (hB.set0 v).ks
 have Bf1:∀ v:Value,(W.setCell ⟨s,0,none⟩ v).frozen? ⟨s,1,none⟩=false:=fun v=>free_block (hB.set0 v).ks
 have Bg0:∀ v:Value,(W.setCell ⟨s,0,none⟩ v).frozen? ⟨r,0,none⟩=false:=fun v=>free_block (hB.set0 v).kr
 have Bg1:∀ v:Value,(W.setCell ⟨s,0,none⟩ v).frozen? ⟨r,1,none⟩=false:=fun v=>free_block (hB.set0 v).kr
 have Cb0:∀ u:Value,(W.setCell ⟨s,1,none⟩ u).cell? ⟨b,0,none⟩=some (.string lo):=fun u=>cell_block (hB.set1 u).kb
 have Cb1:∀ u:Value,(W.setCell ⟨s,1,none⟩ u).cell? ⟨b,1,none⟩=some (.string hi):=fun u=>cell_block (hB.set1 u).kb
 have Cs0:∀ u:Value,(W.setCell ⟨s,1,none⟩ u).cell? ⟨s,0,none⟩=some (.int .i64 (optI l)):=fun u=>cell_block (hB.set1 u).ks
 have Cs1:∀ u:Value,(W.setCell ⟨s,1,none⟩ u).cell? ⟨s,1,none⟩=some u:=fun u=>cell_block (hB.set1 u).ks
 have Cr0:∀ u:Value,(W.setCell ⟨s,1,none⟩ u).cell? ⟨r,0,none⟩=some (.int .i64 0):=fun u=>cell_block (hB.set1 u).kr
 have Cr1:∀ u:Value,(W.setCell ⟨s,1,none⟩ u).cell? ⟨r,1,none⟩=some (.int .i64 0):=fun u=>cell_block (hB.set1 u).kr
 have Cf0:∀ u:Value,(W.setCell ⟨s,1,none⟩ u).frozen? ⟨s,0,none⟩=false:=fun u=>free_block (hB.set1 u).ks
 have Cf1:∀ u:Value,(W.setCell ⟨s,1,none⟩ u).frozen? ⟨s,1,none⟩=false:=fun u=>free_block (hB.set1 u).ks
 have Cg0:∀ u:Value,(W.setCell ⟨s,1,none⟩ u).frozen? ⟨r,0,none⟩=false:=fun u=>free_block (hB.set1 u).kr
 have Cg1:∀ u:Value,(W.setCell ⟨s,1,none⟩ u).frozen? ⟨r,1,none⟩=false:=fun u=>free_block (hB.set1 u).kr
 have Db0:∀ v u:Value,((W.setCell ⟨s,0,none⟩ v).setCell ⟨s,1,none⟩ u).cell? ⟨b,0,none⟩=some (.string lo):=fun v u=>cell_block ((hB.set0 v).set1 u).kb
 have Db1:∀ v u:Value,((W.setCell ⟨s,0,none⟩ v).setCell ⟨s,1,none⟩ u).cell? ⟨b,1,none⟩=some (.string hi):=fun v u=>cell_block ((hB.set0 v).set1 u).kb
 have Ds0:∀ v u:Value,((W.setCell ⟨s,0,none⟩ v).setCell ⟨s,1,none⟩ u).cell? ⟨s,0,none⟩=some v:=fun v u=>cell_block ((hB.set0 v).set1 u).ks
 have Ds1:∀ v u:Value,((W.setCell ⟨s,0,none⟩ v).setCell ⟨s,1,none⟩ u).cell? ⟨s,1,none⟩=some u:=fun v u=>cell_block ((hB.set0 v).set1 u).ks
 have Dr0:∀ v u:Value,((W.setCell ⟨s,0,none⟩ v).setCell ⟨s,1,none⟩ u).cell? ⟨r,0,none⟩=some (.int .i64 0):=fun v u=>cell_block ((hB.set0 v).set1 u).kr
 have Dr1:∀ v u:Value,((W.setCell ⟨s,0,none⟩ v).setCell ⟨s,1,none⟩ u).cell? ⟨r,1,none⟩=some (.int .i64 0):=fun v u=>cell_block ((hB.set0 v).set1 u).kr
 have Df0:∀ v u:Value,((W.setCell ⟨s,0,none⟩ v).setCell ⟨s,1,none⟩ u).frozen? ⟨s,0,none⟩=false:=fun v u=>free_block ((hB.set0 v).set1 u).ks
 have Df1:∀ v u:Value,((W.setCell ⟨s,0,none⟩ v).setCell ⟨s,1,none⟩ u).frozen? ⟨s,1,none⟩=false:=fun v u=>free_block ((hB.set0 v).set1 u).ks
 have Dg0:∀ v u:Value,((W.setCell ⟨s,0,none⟩ v).setCell ⟨s,1,none⟩ u).frozen? ⟨r,0,none⟩=false:=fun v u=>free_block ((hB.set0 v).set1 u).kr
 have Dg1:∀ v u:Value,((W.setCell ⟨s,0,none⟩ v).setCell ⟨s,1,none⟩ u).frozen? ⟨r,1,none⟩=false:=fun v u=>free_block ((hB.set0 v).set1 u).kr
 clear hB
 cases l with
 | none =>
  have e0:optI none = -1:=rfl
  rw [e0] at As0 Cs0
  have hlo':loStep lo.data.toList none c=some none:=rfl
  cases h with
  | none =>
   have e1:optI none = -1:=rfl
   rw [e1] at As1 Bs1
   have hhi:hiStep hi.data.toList none c=some none:=rfl
   go_wp2_with fail
   have ho:=(HB.out).out (.int .i64 (-1)) (.int .i64 (-1))
   have hRv:R=some ⟨none,none⟩:=by
    rw [HR.out]
    simp only [hlo',hhi]
   subst hRv
   refine bodyPost_ret (results_pair rfl _ _ r _ _ (0,0) _ _ rfl rfl ho.1 Tryz.underlying404 rfl (by kernel_rfl)) rfl ?_
   exact ⟨none,none,rfl,fun u hu=>(by cases hu; rfl),ho.2⟩
  | some j =>
   have e1:optI (some j)=(j:Int):=rfl
   rw [e1] at As1 Bs1
   by_cases hj:j < hi.size
   case pos =>
    have hjt:hi.data.toList[j]?=some hi[j]:=at_str hi j hj
    have hhi0:=hiStep_some (c:=c) hjt
    have y1:((j:Int) == (hi.size:Int))=false:=beq_eq_false_iff_ne.2 (by omega)
    have y2:decide ((j:Int) < (hi.size:Int))=true:=decide_eq_true (by omega)
    by_cases z1:hi[j] < c
    case pos =>
     have y3:decide ((hi[j]).toNat < c.toNat)=true:=decide_eq_true (UInt8.lt_iff_toNat_lt.1 z1)
     have hhi:hiStep hi.data.toList (some j) c=none:=by rw [hhi0,if_pos z1]
     go_wp2_with fail
     have ho:=(HB.out).out (.int .i64 (-1)) (.int .i64 j)
     have hRv:R=none:=by
      rw [HR.out]
      simp only [hlo',hhi]
     subst hRv
     refine bodyPost_ret (results_pair rfl _ _ r _ _ (0,0) _ _ rfl rfl ho.1 Tryz.underlying404 rfl (by kernel_rfl)) rfl ?_
     exact ⟨none,(some j),rfl,fun u hu=>(by cases hu),ho.2⟩
    case neg =>
     have y3:decide ((hi[j]).toNat < c.toNat)=false:=decide_eq_false fun h=>z1 (UInt8.lt_iff_toNat_lt.2 h)
     by_cases z2:c < hi[j]
     case pos =>
      have y4:decide (c.toNat < (hi[j]).toNat)=true:=decide_eq_true (UInt8.lt_iff_toNat_lt.1 z2)
      have hhi:hiStep hi.data.toList (some j) c=some none:=by rw [hhi0,if_neg z1,if_pos z2]
      go_wp2_with fail
      have ho:=((HB.out).set1 (.int .i64 (-1))).out (.int .i64 (-1)) (.int .i64 (-1))
      have hRv:R=some ⟨none,none⟩:=by
       rw [HR.out]
       simp only [hlo',hhi]
      subst hRv
      refine bodyPost_ret (results_pair rfl _ _ r _ _ (0,0) _ _ rfl rfl ho.1 Tryz.underlying404 rfl (by kernel_rfl)) rfl ?_
      exact ⟨none,none,rfl,fun u hu=>(by cases hu; rfl),ho.2⟩
     case neg =>
      have y4:decide (c.toNat < (hi[j]).toNat)=false:=decide_eq_false fun h=>z2 (UInt8.lt_iff_toNat_lt.2 h)
      have y5:IntKind.i64.wrap ((j:Int)+1)=(j:Int)+1:=IntWalk.i64_in _ (by omega)
      have hhi:hiStep hi.data.toList (some j) c=some (some (j+1)):=by rw [hhi0,if_neg z1,if_neg z2]
      go_wp2_with fail
      have ho:=((HB.out).set1 (.int .i64 ((j:Int)+1))).out (.int .i64 (-1)) (.int .i64 ((j:Int)+1))
      have hRv:R=some ⟨none,(some (j+1))⟩:=by
       rw [HR.out]
       simp only [hlo',hhi]
      subst hRv
      refine bodyPost_ret (results_pair rfl _ _ r _ _ (0,0) _ _ rfl rfl ho.1 Tryz.underlying404 rfl (by kernel_rfl)) rfl ?_
      exact ⟨none,(some (j+1)),rfl,fun u hu=>(by cases hu; rfl),ho.2⟩
   case neg =>
    have hjz:j=hi.size:=by have:=hh j rfl; omega
    subst hjz
    have hhi:hiStep hi.data.toList (some hi.size) c=none:=hiStep_none (at_end hi hi.size (Nat.le_refl _))
    go_wp2_with fail
    have ho:=(HB.out).out (.int .i64 (-1)) (.int .i64 hi.size)
    have hRv:R=none:=by
     rw [HR.out]
     simp only [hlo',hhi]
    subst hRv
    refine bodyPost_ret (results_pair rfl _ _ r _ _ (0,0) _ _ rfl rfl ho.1 Tryz.underlying404 rfl (by kernel_rfl)) rfl ?_
    exact ⟨none,(some hi.size),rfl,fun u hu=>(by cases hu),ho.2⟩
 | some k =>
  have e0:optI (some k)=(k:Int):=rfl
  rw [e0] at As0 Cs0
  by_cases hk:k < lo.size
  case pos =>
   have hat:lo.data.toList[k]?=some lo[k]:=at_str lo k hk
   have hlo0:=loStep_some (c:=c) hat
   have q1:((k:Int) == (lo.size:Int))=false:=beq_eq_false_iff_ne.2 (by omega)
   have q2:decide ((k:Int) < (lo.size:Int))=true:=decide_eq_true (by omega)
   by_cases h1:lo[k] < c
   case pos =>
    have q3:decide ((lo[k]).toNat < c.toNat)=true:=decide_eq_true (UInt8.lt_iff_toNat_lt.1 h1)
    have hlo':loStep lo.data.toList (some k) c=some none:=by rw [hlo0,if_pos h1]
    cases h with
    | none =>
     have e1:optI none = -1:=rfl
     rw [e1] at As1 Bs1
     have hhi:hiStep hi.data.toList none c=some none:=rfl
     go_wp2_with fail
     have ho:=(HB.out.set0 (.int .i64 (-1))).out (.int .i64 (-1)) (.int .i64 (-1))
     have hRv:R=some ⟨none,none⟩:=by
      rw [HR.out]
      simp only [hlo',hhi]
     subst hRv
     refine bodyPost_ret (results_pair rfl _ _ r _ _ (0,0) _ _ rfl rfl ho.1 Tryz.underlying404 rfl (by kernel_rfl)) rfl ?_
     exact ⟨none,none,rfl,fun u hu=>(by cases hu; rfl),ho.2⟩
    | some j =>
     have e1:optI (some j)=(j:Int):=rfl
     rw [e1] at As1 Bs1
     by_cases hj:j < hi.size
     case pos =>
      have hjt:hi.data.toList[j]?=some hi[j]:=at_str hi j hj
      have hhi0:=hiStep_some (c:=c) hjt
      have y1:((j:Int) == (hi.size:Int))=false:=beq_eq_false_iff_ne.2 (by omega)
      have y2:decide ((j:Int) < (hi.size:Int))=true:=decide_eq_true (by omega)
      by_cases z1:hi[j] < c
      case pos =>
       have y3:decide ((hi[j]).toNat < c.toNat)=true:=decide_eq_true (UInt8.lt_iff_toNat_lt.1 z1)
       have hhi:hiStep hi.data.toList (some j) c=none:=by rw [hhi0,if_pos z1]
       go_wp2_with fail
       have ho:=(HB.out.set0 (.int .i64 (-1))).out (.int .i64 (-1)) (.int .i64 j)
       have hRv:R=none:=by
        rw [HR.out]
        simp only [hlo',hhi]
       subst hRv
       refine bodyPost_ret (results_pair rfl _ _ r _ _ (0,0) _ _ rfl rfl ho.1 Tryz.underlying404 rfl (by kernel_rfl)) rfl ?_
       exact ⟨none,(some j),rfl,fun u hu=>(by cases hu),ho.2⟩
      case neg =>
       have y3:decide ((hi[j]).toNat < c.toNat)=false:=decide_eq_false fun h=>z1 (UInt8.lt_iff_toNat_lt.2 h)
       by_cases z2:c < hi[j]
       case pos =>
        have y4:decide (c.toNat < (hi[j]).toNat)=true:=decide_eq_true (UInt8.lt_iff_toNat_lt.1 z2)
        have hhi:hiStep hi.data.toList (some j) c=some none:=by rw [hhi0,if_neg z1,if_pos z2]
        go_wp2_with fail
        have ho:=((HB.out.set0 (.int .i64 (-1))).set1 (.int .i64 (-1))).out (.int .i64 (-1)) (.int .i64 (-1))
        have hRv:R=some ⟨none,none⟩:=by
         rw [HR.out]
         simp only [hlo',hhi]
        subst hRv
        refine bodyPost_ret (results_pair rfl _ _ r _ _ (0,0) _ _ rfl rfl ho.1 Tryz.underlying404 rfl (by kernel_rfl)) rfl ?_
        exact ⟨none,none,rfl,fun u hu=>(by cases hu; rfl),ho.2⟩
       case neg =>
        have y4:decide (c.toNat < (hi[j]).toNat)=false:=decide_eq_false fun h=>z2 (UInt8.lt_iff_toNat_lt.2 h)
        have y5:IntKind.i64.wrap ((j:Int)+1)=(j:Int)+1:=IntWalk.i64_in _ (by omega)
        have hhi:hiStep hi.data.toList (some j) c=some (some (j+1)):=by rw [hhi0,if_neg z1,if_neg z2]
        go_wp2_with fail
        have ho:=((HB.out.set0 (.int .i64 (-1))).set1 (.int .i64 ((j:Int)+1))).out (.int .i64 (-1)) (.int .i64 ((j:Int)+1))
        have hRv:R=some ⟨none,(some (j+1))⟩:=by
         rw [HR.out]
         simp only [hlo',hhi]
        subst hRv
        refine bodyPost_ret (results_pair rfl _ _ r _ _ (0,0) _ _ rfl rfl ho.1 Tryz.underlying404 rfl (by kernel_rfl)) rfl ?_
        exact ⟨none,(some (j+1)),rfl,fun u hu=>(by cases hu; rfl),ho.2⟩
     case neg =>
      have hjz:j=hi.size:=by have:=hh j rfl; omega
      subst hjz
      have hhi:hiStep hi.data.toList (some hi.size) c=none:=hiStep_none (at_end hi hi.size (Nat.le_refl _))
      go_wp2_with fail
      have ho:=(HB.out.set0 (.int .i64 (-1))).out (.int .i64 (-1)) (.int .i64 hi.size)
      have hRv:R=none:=by
       rw [HR.out]
       simp only [hlo',hhi]
      subst hRv
      refine bodyPost_ret (results_pair rfl _ _ r _ _ (0,0) _ _ rfl rfl ho.1 Tryz.underlying404 rfl (by kernel_rfl)) rfl ?_
      exact ⟨none,(some hi.size),rfl,fun u hu=>(by cases hu),ho.2⟩
   case neg =>
    have q3:decide ((lo[k]).toNat < c.toNat)=false:=decide_eq_false fun h=>h1 (UInt8.lt_iff_toNat_lt.2 h)
    by_cases h2:c < lo[k]
    case pos =>
     have q4:decide (c.toNat < (lo[k]).toNat)=true:=decide_eq_true (UInt8.lt_iff_toNat_lt.1 h2)
     have hlo':loStep lo.data.toList (some k) c=none:=by rw [hlo0,if_neg h1,if_pos h2]
     go_wp2_with fail
     have ho:=(HB.out).out (.int .i64 k) (.int .i64 (optI h))
     have hRv:R=none:=by
      rw [HR.out]
      simp only [hlo']
     subst hRv
     refine bodyPost_ret (results_pair rfl _ _ r _ _ (0,0) _ _ rfl rfl ho.1 Tryz.underlying404 rfl (by kernel_rfl)) rfl ?_
     exact ⟨(some k),h,rfl,fun u hu=>(by cases hu),ho.2⟩
    case neg =>
     have q4:decide (c.toNat < (lo[k]).toNat)=false:=decide_eq_false fun h=>h2 (UInt8.lt_iff_toNat_lt.2 h)
     have q5:IntKind.i64.wrap ((k:Int)+1)=(k:Int)+1:=IntWalk.i64_in _ (by omega)
     have hlo':loStep lo.data.toList (some k) c=some (some (k+1)):=by rw [hlo0,if_neg h1,if_neg h2]
     cases h with
     | none =>
      have e1:optI none = -1:=rfl
      rw [e1] at As1 Bs1
      have hhi:hiStep hi.data.toList none c=some none:=rfl
      go_wp2_with fail
      have ho:=(HB.out.set0 (.int .i64 ((k:Int)+1))).out (.int .i64 ((k:Int)+1)) (.int .i64 (-1))
      have hRv:R=some ⟨(some (k+1)),none⟩:=by
       rw [HR.out]
       simp only [hlo',hhi]
      subst hRv
      refine bodyPost_ret (results_pair rfl _ _ r _ _ (0,0) _ _ rfl rfl ho.1 Tryz.underlying404 rfl (by kernel_rfl)) rfl ?_
      exact ⟨(some (k+1)),none,rfl,fun u hu=>(by cases hu; rfl),ho.2⟩
     | some j =>
      have e1:optI (some j)=(j:Int):=rfl
      rw [e1] at As1 Bs1
      by_cases hj:j < hi.size
      case pos =>
       have hjt:hi.data.toList[j]?=some hi[j]:=at_str hi j hj
       have hhi0:=hiStep_some (c:=c) hjt
       have y1:((j:Int) == (hi.size:Int))=false:=beq_eq_false_iff_ne.2 (by omega)
       have y2:decide ((j:Int) < (hi.size:Int))=true:=decide_eq_true (by omega)
       by_cases z1:hi[j] < c
       case pos =>
        have y3:decide ((hi[j]).toNat < c.toNat)=true:=decide_eq_true (UInt8.lt_iff_toNat_lt.1 z1)
        have hhi:hiStep hi.data.toList (some j) c=none:=by rw [hhi0,if_pos z1]
        go_wp2_with fail
        have ho:=(HB.out.set0 (.int .i64 ((k:Int)+1))).out (.int .i64 ((k:Int)+1)) (.int .i64 j)
        have hRv:R=none:=by
         rw [HR.out]
         simp only [hlo',hhi]
        subst hRv
        refine bodyPost_ret (results_pair rfl _ _ r _ _ (0,0) _ _ rfl rfl ho.1 Tryz.underlying404 rfl (by kernel_rfl)) rfl ?_
        exact ⟨(some (k+1)),(some j),rfl,fun u hu=>(by cases hu),ho.2⟩
       case neg =>
        have y3:decide ((hi[j]).toNat < c.toNat)=false:=decide_eq_false fun h=>z1 (UInt8.lt_iff_toNat_lt.2 h)
        by_cases z2:c < hi[j]
        case pos =>
         have y4:decide (c.toNat < (hi[j]).toNat)=true:=decide_eq_true (UInt8.lt_iff_toNat_lt.1 z2)
         have hhi:hiStep hi.data.toList (some j) c=some none:=by rw [hhi0,if_neg z1,if_pos z2]
         go_wp2_with fail
         have ho:=((HB.out.set0 (.int .i64 ((k:Int)+1))).set1 (.int .i64 (-1))).out (.int .i64 ((k:Int)+1)) (.int .i64 (-1))
         have hRv:R=some ⟨(some (k+1)),none⟩:=by
          rw [HR.out]
          simp only [hlo',hhi]
         subst hRv
         refine bodyPost_ret (results_pair rfl _ _ r _ _ (0,0) _ _ rfl rfl ho.1 Tryz.underlying404 rfl (by kernel_rfl)) rfl ?_
         exact ⟨(some (k+1)),none,rfl,fun u hu=>(by cases hu; rfl),ho.2⟩
        case neg =>
         have y4:decide (c.toNat < (hi[j]).toNat)=false:=decide_eq_false fun h=>z2 (UInt8.lt_iff_toNat_lt.2 h)
         have y5:IntKind.i64.wrap ((j:Int)+1)=(j:Int)+1:=IntWalk.i64_in _ (by omega)
         have hhi:hiStep hi.data.toList (some j) c=some (some (j+1)):=by rw [hhi0,if_neg z1,if_neg z2]
         go_wp2_with fail
         have ho:=((HB.out.set0 (.int .i64 ((k:Int)+1))).set1 (.int .i64 ((j:Int)+1))).out (.int .i64 ((k:Int)+1)) (.int .i64 ((j:Int)+1))
         have hRv:R=some ⟨(some (k+1)),(some (j+1))⟩:=by
          rw [HR.out]
          simp only [hlo',hhi]
         subst hRv
         refine bodyPost_ret (results_pair rfl _ _ r _ _ (0,0) _ _ rfl rfl ho.1 Tryz.underlying404 rfl (by kernel_rfl)) rfl ?_
         exact ⟨(some (k+1)),(some (j+1)),rfl,fun u hu=>(by cases hu; rfl),ho.2⟩
      case neg =>
       have hjz:j=hi.size:=by have:=hh j rfl; omega
       subst hjz
       have hhi:hiStep hi.data.toList (some hi.size) c=none:=hiStep_none (at_end hi hi.size (Nat.le_refl _))
       go_wp2_with fail
       have ho:=(HB.out.set0 (.int .i64 ((k:Int)+1))).out (.int .i64 ((k:Int)+1)) (.int .i64 hi.size)
       have hRv:R=none:=by
        rw [HR.out]
        simp only [hlo',hhi]
       subst hRv
       refine bodyPost_ret (results_pair rfl _ _ r _ _ (0,0) _ _ rfl rfl ho.1 Tryz.underlying404 rfl (by kernel_rfl)) rfl ?_
       exact ⟨(some (k+1)),(some hi.size),rfl,fun u hu=>(by cases hu),ho.2⟩
  case neg =>
   have hkz:k=lo.size:=by have:=hl k rfl; omega
   subst hkz
   have hlo':loStep lo.data.toList (some lo.size) c=some none:=loStep_none (at_end lo lo.size (Nat.le_refl _))
   cases h with
   | none =>
    have e1:optI none = -1:=rfl
    rw [e1] at As1 Bs1
    have hhi:hiStep hi.data.toList none c=some none:=rfl
    go_wp2_with fail
    have ho:=(HB.out.set0 (.int .i64 (-1))).out (.int .i64 (-1)) (.int .i64 (-1))
    have hRv:R=some ⟨none,none⟩:=by
     rw [HR.out]
     simp only [hlo',hhi]
    subst hRv
    refine bodyPost_ret (results_pair rfl _ _ r _ _ (0,0) _ _ rfl rfl ho.1 Tryz.underlying404 rfl (by kernel_rfl)) rfl ?_
    exact ⟨none,none,rfl,fun u hu=>(by cases hu; rfl),ho.2⟩
   | some j =>
    have e1:optI (some j)=(j:Int):=rfl
    rw [e1] at As1 Bs1
    by_cases hj:j < hi.size
    case pos =>
     have hjt:hi.data.toList[j]?=some hi[j]:=at_str hi j hj
     have hhi0:=hiStep_some (c:=c) hjt
     have y1:((j:Int) == (hi.size:Int))=false:=beq_eq_false_iff_ne.2 (by omega)
     have y2:decide ((j:Int) < (hi.size:Int))=true:=decide_eq_true (by omega)
     by_cases z1:hi[j] < c
     case pos =>
      have y3:decide ((hi[j]).toNat < c.toNat)=true:=decide_eq_true (UInt8.lt_iff_toNat_lt.1 z1)
      have hhi:hiStep hi.data.toList (some j) c=none:=by rw [hhi0,if_pos z1]
      go_wp2_with fail
      have ho:=(HB.out.set0 (.int .i64 (-1))).out (.int .i64 (-1)) (.int .i64 j)
      have hRv:R=none:=by
       rw [HR.out]
       simp only [hlo',hhi]
      subst hRv
      refine bodyPost_ret (results_pair rfl _ _ r _ _ (0,0) _ _ rfl rfl ho.1 Tryz.underlying404 rfl (by kernel_rfl)) rfl ?_
      exact ⟨none,(some j),rfl,fun u hu=>(by cases hu),ho.2⟩
     case neg =>
      have y3:decide ((hi[j]).toNat < c.toNat)=false:=decide_eq_false fun h=>z1 (UInt8.lt_iff_toNat_lt.2 h)
      by_cases z2:c < hi[j]
      case pos =>
       have y4:decide (c.toNat < (hi[j]).toNat)=true:=decide_eq_true (UInt8.lt_iff_toNat_lt.1 z2)
       have hhi:hiStep hi.data.toList (some j) c=some none:=by rw [hhi0,if_neg z1,if_pos z2]
       go_wp2_with fail
       have ho:=((HB.out.set0 (.int .i64 (-1))).set1 (.int .i64 (-1))).out (.int .i64 (-1)) (.int .i64 (-1))
       have hRv:R=some ⟨none,none⟩:=by
        rw [HR.out]
        simp only [hlo',hhi]
       subst hRv
       refine bodyPost_ret (results_pair rfl _ _ r _ _ (0,0) _ _ rfl rfl ho.1 Tryz.underlying404 rfl (by kernel_rfl)) rfl ?_
       exact ⟨none,none,rfl,fun u hu=>(by cases hu; rfl),ho.2⟩
      case neg =>
       have y4:decide (c.toNat < (hi[j]).toNat)=false:=decide_eq_false fun h=>z2 (UInt8.lt_iff_toNat_lt.2 h)
       have y5:IntKind.i64.wrap ((j:Int)+1)=(j:Int)+1:=IntWalk.i64_in _ (by omega)
       have hhi:hiStep hi.data.toList (some j) c=some (some (j+1)):=by rw [hhi0,if_neg z1,if_neg z2]
       go_wp2_with fail
       have ho:=((HB.out.set0 (.int .i64 (-1))).set1 (.int .i64 ((j:Int)+1))).out (.int .i64 (-1)) (.int .i64 ((j:Int)+1))
       have hRv:R=some ⟨none,(some (j+1))⟩:=by
        rw [HR.out]
        simp only [hlo',hhi]
       subst hRv
       refine bodyPost_ret (results_pair rfl _ _ r _ _ (0,0) _ _ rfl rfl ho.1 Tryz.underlying404 rfl (by kernel_rfl)) rfl ?_
       exact ⟨none,(some (j+1)),rfl,fun u hu=>(by cases hu; rfl),ho.2⟩
    case neg =>
     have hjz:j=hi.size:=by have:=hh j rfl; omega
     subst hjz
     have hhi:hiStep hi.data.toList (some hi.size) c=none:=hiStep_none (at_end hi hi.size (Nat.le_refl _))
     go_wp2_with fail
     have ho:=(HB.out.set0 (.int .i64 (-1))).out (.int .i64 (-1)) (.int .i64 hi.size)
     have hRv:R=none:=by
      rw [HR.out]
      simp only [hlo',hhi]
     subst hRv
     refine bodyPost_ret (results_pair rfl _ _ r _ _ (0,0) _ _ rfl rfl ho.1 Tryz.underlying404 rfl (by kernel_rfl)) rfl ?_
     exact ⟨none,(some hi.size),rfl,fun u hu=>(by cases hu),ho.2⟩
--TAIL
end Go.Proofs.Ts
namespace Go.Proofs.Ts
open Go Go.RowKit
set_option maxRecDepth 100000 in
set_option maxHeartbeats 1000000 in
theorem betEnds_any (lo hi:ByteArray) (s:BSt) (w:World) (hlo:lo.size≤1000000) :
  Calls Tryz.prog 322 #[.agg #[.string lo,.string hi],.agg s.cells] w fun e w'=>e = .returned (.bool (betEnds lo.data.toList s))∧Below w.heap.size w w':=by
 obtain ⟨l,h⟩:=s
 unfold BSt.cells
 have hb:Below w.heap.size w ((w.alloc (.cells #[.string lo,.string hi] 406)).alloc (.cells #[.int .i64 (optI l),.int .i64 (optI h)] 404)):=((Below.refl _ w).alloc (Nat.le_refl _) _).alloc (by simp) _
 have HB:=Lib.hid hb
 clear hb
 cases l with
 | none =>
  have e0:optI none = -1:=rfl
  simp only [e0] at HB ⊢
  go_enter Tryz.func322,Tryz.ntmps322
  go_wp2_with fail
  go_ret
  exact ⟨rfl,HB.out⟩
 | some k =>
  have e0:optI (some k)=(k:Int):=rfl
  simp only [e0] at HB ⊢
  have hbe:betEnds lo.data.toList ⟨some k,h⟩=((k:Int) == (lo.size:Int)):=by
   unfold betEnds
   rw [eq_nat]
   simp
  rw [hbe]
  have g0:decide ((k:Int) < 0)=false:=decide_eq_false (by omega)
  go_enter Tryz.func322,Tryz.ntmps322
  go_wp2_with fail
  go_ret
  exact ⟨rfl,HB.out⟩
set_option maxRecDepth 100000 in
set_option maxHeartbeats 1000000 in
theorem betStart_any (lo hi:ByteArray) (w:World) (hhi:hi.size≤1000000) :
  Calls Tryz.prog 323 #[.agg #[.string lo,.string hi]] w fun e w'=>e = .returned (.agg (betStart hi.data.toList).cells)∧Below w.heap.size w w':=by
 have g0:=heap_alloc_new w (.cells #[.string lo,.string hi] 406)
 have g1:=heap_alloc_new (w.alloc (.cells #[.string lo,.string hi] 406)) (.cells #[.int .i64 0,.int .i64 0] 404)
 rw [World.size_alloc] at g1
 have hb:Below w.heap.size w ((w.alloc (.cells #[.string lo,.string hi] 406)).alloc (.cells #[.int .i64 0,.int .i64 0] 404)):=((Below.refl _ w).alloc (Nat.le_refl _) _).alloc (by simp) _
 have HH:=Lib.hid (And.intro g1 hb)
 clear g0 g1 hb
 by_cases h:hi=⟨#[]⟩
 ·have hst:betStart hi.data.toList=⟨some 0,none⟩:=by rw [h]; rfl
  rw [hst]
  subst h
  go_enter Tryz.func323,Tryz.ntmps323
  go_wp2_with fail
  have k:=heap_alloc_new (w.alloc (.cells #[.string lo,.string ⟨#[]⟩] 406)) (.cells #[.int .i64 0,(.int .i64 (-1))] 404)
  rw [World.size_alloc] at k
  have kb:Below w.heap.size w ((w.alloc (.cells #[.string lo,.string ⟨#[]⟩] 406)).alloc (.cells #[.int .i64 0,(.int .i64 (-1))] 404)):=((Below.refl _ w).alloc (Nat.le_refl _) _).alloc (by simp) _
  refine bodyPost_ret (results_cell_row rfl _ _ (w.heap.size+1) _ _ (0,0) _ rfl k Tryz.underlying404 rfl (by kernel_rfl)) rfl ?_
  exact ⟨rfl,kb⟩
 ·have hst:betStart hi.data.toList=⟨some 0,some 0⟩:=by
   unfold betStart
   rw [if_neg]
   intro e
   exact h (by cases hi; simp at e; rw [e])
  rw [hst]
  have hq:hi.toList.isEmpty=false:=by
   rw [Lib.toList_data]
   cases e:hi.data.toList with
   | nil=>exact absurd (by cases hi; simp at e; rw [e]) h
   | cons x r=>rfl
  go_enter Tryz.func323,Tryz.ntmps323
  go_wp2_with fail
  have k:=heap_alloc_new (w.alloc (.cells #[.string lo,.string hi] 406)) (.cells #[.int .i64 0,(.int .i64 0)] 404)
  rw [World.size_alloc] at k
  have kb:Below w.heap.size w ((w.alloc (.cells #[.string lo,.string hi] 406)).alloc (.cells #[.int .i64 0,(.int .i64 0)] 404)):=((Below.refl _ w).alloc (Nat.le_refl _) _).alloc (by simp) _
  refine bodyPost_ret (results_cell_row rfl _ _ (w.heap.size+1) _ _ (0,0) _ rfl k Tryz.underlying404 rfl (by kernel_rfl)) rfl ?_
  exact ⟨rfl,kb⟩
end Go.Proofs.Ts
namespace Go.Proofs.Ts
open Go Go.RowKit
theorem between_aut (lo hi:ByteArray) (hlo:lo.size≤1000000) (hhi:hi.size≤1000000):B.AutI BSt.cells (fun _=>True) (.iface 406 (.agg #[.string lo,.string hi])) (fun s=>s.ok lo.data.toList hi.data.toList) (betStep lo.data.toList hi.data.toList) (betEnds lo.data.toList) where
 ex:=⟨406,.agg #[.string lo,.string hi],322,324,.agg #[.string lo,.string hi],.agg #[.string lo,.string hi],rfl,fun fu w=>by kernel_rfl,fun fu w=>by kernel_rfl,
  enters_of Tryz.func322 (by kernel_rfl) rfl,enters_of Tryz.func324 (by kernel_rfl) rfl,fun s w _ hs=>betEnds_any lo hi s w hlo,
  fun s c w _ hs=>(betStep_any lo hi s.l s.h c w hlo hhi (fun k hk=>by have:=hs.1 k hk; simpa using this) (fun k hk=>by have:=hs.2 k hk; simpa using this)).mono fun e w' ⟨l',h',h1,h2,hb⟩=>⟨⟨⟨l',h'⟩,h1,rfl,by simp [BSt.cells,Value.oneCell'],fun u hu=>(h2 u hu).symm⟩,hb⟩⟩
 next:=fun s c t hs h=>betStep_ok hs h
 keep:=fun w w' h hk=>trivial
 size:=fun s _=>rfl
theorem between_start (lo hi:ByteArray) (hhi:hi.size≤1000000):B.AutS BSt.cells (fun _=>True) (.iface 406 (.agg #[.string lo,.string hi])) (betStart hi.data.toList) :=
 ⟨_,_,323,.agg #[.string lo,.string hi],rfl,fun fu w=>by kernel_rfl,enters_of Tryz.func323 (by kernel_rfl) rfl,fun w _=>betStart_any lo hi w hhi⟩
theorem goes_between {lo hi:ByteArray} (hlo:lo.size≤1000000) (hhi:hi.size≤1000000) {w:World} {ab:Nat} (hab:w.heap[ab]?=some (.cells #[.iface 406 (.agg #[.string lo,.string hi])] 440 (0,0))) :
  Goes w (.func (.func 241) #[] #[ptrV ab]) (fun u=>accA (betStep lo.data.toList hi.data.toList) (betEnds lo.data.toList) (betStart hi.data.toList) u):=by
 refine ⟨_,ab,[(ab,#[.iface 406 (.agg #[.string lo,.string hi])],440)],rfl,fun q hq=>?_,enters_of Tryz.func241 (by kernel_rfl) rfl,fun w1 hb db R Λ ρ D gg lb eg hd hl J Jx hJ hY hj0=>?_⟩
 ·obtain rfl:=List.mem_singleton.1 hq
  exact ⟨hab,of_decide_eq_true rfl⟩
 ·exact Go.Proofs.Ts.B.over_any (between_aut lo hi hlo hhi) (between_start lo hi hhi) (betStart_ok _ _) gg lb eg ab w1 trivial hd hl (hb _ List.mem_cons_self) J Jx hJ hY hj0
set_option maxRecDepth 100000 in
set_option maxHeartbeats 1000000 in
theorem compile_range (a b:ByteArray) (n:Int) (st:Int) (w:World) (ha:a.size≤40) (hb:b.size≤40) :
  Calls Tryz.prog 167 #[queryV 3 a b n,.int .i64 st] w fun e w'=>∃ pb ab,e = .returned (ptrV pb)∧Below w.heap.size w w'∧w.heap.size≤pb∧w'.heap[pb]?=some (.cells #[.func (.func 241) #[] #[ptrV ab],.nilIface] 248 (0,0)) ∧
   w'.heap[ab]?=some (.cells #[.iface 406 (.agg #[.string a,.string b])] 440 (0,0)):=by
 have g1:decide ((40:Int) < (a.size:Int))=false:=by simp; omega
 have g2:decide ((40:Int) < (b.size:Int))=false:=by simp; omega
 unfold queryV
 go_enter Tryz.func167,Tryz.ntmps167
 go_wp2_with (go_at_call 209; refine (B.over_make _ _ ⟨_,_,rfl⟩).mono ?_; rintro e w3 ⟨rfl,rfl⟩; unfold ptrV)
 go_ret
 obtain ⟨W,hW⟩:∃ W,W=w.alloc (.cells #[.int .i64 3,.string a,.string b,.int .i64 n] 34):=⟨_,rfl⟩
 have hbW:Below w.heap.size w W:=by rw [hW]; exact (Below.refl _ w).alloc (Nat.le_refl _) _
 have hsz:W.heap.size=w.heap.size+1:=by rw [hW,World.size_alloc]
 have k1:=heap_alloc_new W (.cells #[.iface 406 (.agg #[.string a,.string b])] 440)
 have k2:=heap_alloc_new (W.alloc (.cells #[.iface 406 (.agg #[.string a,.string b])] 440)) (.cells #[.func (.func 241) #[] #[ptrV (w.heap.size+1)],.nilIface] 248)
 rw [World.size_alloc,hsz] at k2
 rw [hsz] at k1
 have hb2:Below w.heap.size w ((W.alloc (.cells #[.iface 406 (.agg #[.string a,.string b])] 440)).alloc (.cells #[.func (.func 241) #[] #[ptrV (w.heap.size+1)],.nilIface] 248)):=(hbW.alloc hbW.size _).alloc (by simp; omega) _
 rw [hW] at k1 k2 hb2
 refine ⟨w.heap.size+1+1,w.heap.size+1,rfl,hb2,by omega,k2,?_⟩
 refine Eq.trans ?_ k1
 exact Below.heap_alloc _ _ _ (by simp)
theorem acc_range {a b:List UInt8} {n st:Int} (ha:a.length≤40) (hb:b.length≤40):accOf ⟨3,a,b,n,st⟩=some fun u=>accA (betStep a b) (betEnds a) (betStart b) u:=by
 have h31:¬ (3:Int)=1:=by decide
 have h32:¬ (3:Int)=2:=by decide
 have h36:¬ (3:Int)=6:=by decide
 have h35:¬ (3:Int)=5:=by decide
 have h34:¬ (3:Int)=4:=by decide
 simp only [accOf,if_pos ha,if_neg h31,if_neg h32,h36,h35,h34,hb,false_and,and_self,if_false,if_true]
theorem compile_three {w0:World} {a b:List UInt8} {n st:Int} (ha:a.length≤40) (hb:b.length≤40):CompileOk w0 ⟨3,a,b,n,st⟩:=fun w _=>by
 have hs:ByteArray.size ⟨a.toArray⟩=a.length:=by simp [ByteArray.size]
 have hs2:ByteArray.size ⟨b.toArray⟩=b.length:=by simp [ByteArray.size]
 refine (compile_range ⟨a.toArray⟩ ⟨b.toArray⟩ n st w (by omega) (by omega)).mono ?_
 rintro e w' ⟨pb,ab,he,hbw,hp,h1,h2⟩
 refine ⟨pb,he,hbw,hp,⟨fun acc hacc=>⟨_,h1,?_⟩,fun k hk=>?_⟩⟩
 ·rw [acc_range ha hb] at hacc
  cases hacc
  have k:=goes_between (lo:=⟨a.toArray⟩) (hi:=⟨b.toArray⟩) (by omega) (by omega) h2
  simpa using k
 ·have h36:¬ (3:Int)=6:=by decide
  have h35:¬ (3:Int)=5:=by decide
  have h34:¬ (3:Int)=4:=by decide
  have hnb:¬ 40 < b.length:=by omega
  simp only [errOf,if_pos ha,h36,h35,h34,hnb,and_false,if_false] at hk
  cases hk
end Go.Proofs.Ts
namespace Go.Proofs.Tl
open Go Go.RowKit Go.Proofs.Ts
set_option maxRecDepth 100000 in
set_option maxHeartbeats 1000000 in
theorem compile_longS (k:Nat) (a b:ByteArray) (n:Int) (st:Int) (w:World) (hk:k=1∨k=2∨k=3∨k=4∨k=6) (ha:40 < a.size) :
  Calls Tryz.prog 167 #[queryV k a b n,.int .i64 st] w fun e w'=>∃ pb,e = .returned (ptrV pb)∧Below w.heap.size w w'∧w.heap.size≤pb∧w'.heap[pb]?=some (.cells #[.nilFunc,errnoV 2] 248 (0,0)):=by
 have g1:decide ((40:Int) < (a.size:Int))=true:=decide_eq_true (by omega)
 unfold queryV
 have hgo:∀ k:Int,Below w.heap.size w ((w.alloc (.cells #[.int .i64 k,.string a,.string b,.int .i64 n] 34)).alloc (.cells #[.nilFunc,errnoV 2] 248))∧((w.alloc (.cells #[.int .i64 k,.string a,.string b,.int .i64 n] 34)).alloc (.cells #[.nilFunc,errnoV 2] 248)).heap[w.heap.size+1]?=some (.cells #[.nilFunc,errnoV 2] 248 (0,0)):=fun k=>by
  have hb0:Below w.heap.size w (w.alloc (.cells #[.int .i64 k,.string a,.string b,.int .i64 n] 34)):=(Below.refl _ w).alloc (Nat.le_refl _) _
  have k1:=heap_alloc_new (w.alloc (.cells #[.int .i64 k,.string a,.string b,.int .i64 n] 34)) (.cells #[.nilFunc,errnoV 2] 248)
  rw [World.size_alloc] at k1
  exact ⟨hb0.alloc hb0.size _,k1⟩
 have HGO:=Lib.hid hgo
 clear hgo
 rcases hk with rfl | rfl | rfl | rfl | rfl
 all_goals
  go_enter Tryz.func167,Tryz.ntmps167
  go_wp2_with fail
  go_ret
  exact ⟨w.heap.size+1,rfl,(HGO.out _).1,Nat.le_succ _,(HGO.out _).2⟩
set_option maxRecDepth 100000 in
set_option maxHeartbeats 1000000 in
theorem compile_longB (a b:ByteArray) (n:Int) (st:Int) (w:World) (ha:a.size≤40) (hb:40 < b.size) :
  Calls Tryz.prog 167 #[queryV 3 a b n,.int .i64 st] w fun e w'=>∃ pb,e = .returned (ptrV pb)∧Below w.heap.size w w'∧w.heap.size≤pb∧w'.heap[pb]?=some (.cells #[.nilFunc,errnoV 2] 248 (0,0)):=by
 have g1:decide ((40:Int) < (a.size:Int))=false:=decide_eq_false (by omega)
 have g2:decide ((40:Int) < (b.size:Int))=true:=decide_eq_true (by omega)
 unfold queryV
 go_enter Tryz.func167,Tryz.ntmps167
 go_wp2_with fail
 go_ret
 have hb0:Below w.heap.size w (w.alloc (.cells #[.int .i64 3,.string a,.string b,.int .i64 n] 34)):=(Below.refl _ w).alloc (Nat.le_refl _) _
 refine ⟨w.heap.size+1,rfl,hb0.alloc hb0.size _,Nat.le_succ _,?_⟩
 have k:=heap_alloc_new (w.alloc (.cells #[.int .i64 3,.string a,.string b,.int .i64 n] 34)) (.cells #[.nilFunc,errnoV 2] 248)
 rw [World.size_alloc] at k
 exact k
theorem prog_long {k:Nat} {a b:List UInt8} {n st:Int} (w:World) (hk:k=1∨k=2∨k=3∨k=4∨k=6) (ha:40 < a.length):ProgIs w ⟨(k:Int),a,b,n,st⟩ (.err (.no 2)):=by
 have hna:¬ a.length≤40:=by omega
 have hk6:(1:Int)≤(k:Int)∧(k:Int)≤6:=by omega
 have he:errOf ⟨(k:Int),a,b,n,st⟩=some (.no 2):=by simp only [errOf,if_neg hna,if_pos hk6]
 refine ⟨fun w0 _=>?_,he⟩
 have hs:ByteArray.size ⟨a.toArray⟩=a.length:=by simp [ByteArray.size]
 refine (compile_longS k ⟨a.toArray⟩ ⟨b.toArray⟩ n st w0 hk (by omega)).mono ?_
 rintro e w' ⟨pb,he',hb,hp,h1⟩
 refine ⟨pb,he',hb,hp,⟨fun acc hacc=>?_,fun k hk=>?_⟩⟩
 ·simp only [accOf,if_neg hna] at hacc
  cases hacc
 ·rw [he] at hk
  cases hk
  exact ⟨_,_,h1,rfl⟩
theorem prog_longB {a b:List UInt8} {n st:Int} (w:World) (ha:a.length≤40) (hb:40 < b.length):ProgIs w ⟨3,a,b,n,st⟩ (.err (.no 2)):=by
 have h36:¬ (3:Int)=6:=by decide
 have h35:¬ (3:Int)=5:=by decide
 have h34:¬ (3:Int)=4:=by decide
 have he:errOf ⟨3,a,b,n,st⟩=some (.no 2):=by simp only [errOf,if_pos ha,h36,h35,h34,if_false,hb,and_self,if_true]
 refine ⟨fun w0 _=>?_,he⟩
 have hs:ByteArray.size ⟨a.toArray⟩=a.length:=by simp [ByteArray.size]
 have hs2:ByteArray.size ⟨b.toArray⟩=b.length:=by simp [ByteArray.size]
 refine (compile_longB ⟨a.toArray⟩ ⟨b.toArray⟩ n st w0 (by omega) (by omega)).mono ?_
 rintro e w' ⟨pb,he',hb',hp,h1⟩
 refine ⟨pb,he',hb',hp,⟨fun acc hacc=>?_,fun k hk=>?_⟩⟩
 ·have hnb:¬ b.length≤40:=by omega
  have h31:¬ (3:Int)=1:=by decide
  have h32:¬ (3:Int)=2:=by decide
  simp only [accOf,if_pos ha,h31,h32,h36,h35,h34,hnb,false_and,and_false,if_false] at hacc
  cases hacc
 ·rw [he] at hk
  cases hk
  exact ⟨_,_,h1,rfl⟩
theorem leB_not:∀ (x y:List UInt8),leB x y = !decide (y < x)
 | [],y=>by simp [leB]
 | a :: x,[]=>by simp [leB]
 | a :: x,b :: y=>by
  rw [leB_cons,leB_not x y]
  by_cases h1:a < b
  ·have h2:¬ b < a:=fun h=>by have:=UInt8.lt_iff_toNat_lt.1 h; have:=UInt8.lt_iff_toNat_lt.1 h1; omega
   have h3:¬ b=a:=fun h=>by subst h; exact UInt8.lt_irrefl _ h1
   rw [if_pos h1]
   simp [List.cons_lt_cons_iff,h2,h3]
  ·rw [if_neg h1]
   by_cases h2:b < a
   ·rw [if_pos h2]
    simp [List.cons_lt_cons_iff,h2]
   ·rw [if_neg h2]
    have h3:b=a:=UInt8.toNat_inj.1 (by
     have k1:¬ a.toNat < b.toNat:=fun h=>h1 (UInt8.lt_iff_toNat_lt.2 h)
     have k2:¬ b.toNat < a.toNat:=fun h=>h2 (UInt8.lt_iff_toNat_lt.2 h)
     omega)
    subst h3
    simp [List.cons_lt_cons_iff,h1]
theorem told_simple (q:Asked) (st:Int) (hq:q.states=st) (hk:q.kind=1∨q.kind=2∨q.kind=3):Told q st:=by
 obtain ⟨k,a,b,n,s0⟩:=q
 simp only at hq hk
 subst hq
 by_cases ha:40 < a.length
 ·obtain ⟨m,rfl⟩:∃ m:Nat,k=m:=⟨k.toNat,by omega⟩
  refine ⟨ansS ⟨m,a,b,n,s0⟩,.err (.no 2),?_,fun w _=>⟨checked_simple _ _ _ hk,fun _=>prog_long w (by omega) ha⟩⟩
  unfold ansS
  rw [if_pos (.inl ha)]
  exact (by decide:toldB 2 (-1) 2 0=true)
 ·by_cases hb:k=3∧40 < b.length
  ·obtain ⟨rfl,hb⟩:=hb
   refine ⟨ansS ⟨3,a,b,n,s0⟩,.err (.no 2),?_,fun w _=>⟨checked_simple _ _ _ hk,fun _=>prog_longB w (by omega) hb⟩⟩
   unfold ansS
   rw [if_pos (.inr ⟨rfl,hb⟩)]
   exact (by decide:toldB 2 (-1) 2 0=true)
  ·have ha':a.length≤40:=by omega
   have hans:ansS ⟨k,a,b,n,s0⟩ = .ok (accS k a b):=by
    unfold ansS
    rw [if_neg]
    rintro (h | h)
    ·exact ha h
    ·exact hb h
   rcases hk with rfl | rfl | rfl
   ·refine ⟨_,.ok fun u=>decide (u=a),?_,fun w _=>⟨checked_simple _ _ _ (.inl rfl),fun _=>⟨compile_one ha',?_⟩⟩⟩
    ·rw [hans]
     intro t _
     rfl
    ·simp only [accOf,if_pos ha',if_true]
   ·refine ⟨_,.ok fun u=>decide (a <+: u),?_,fun w _=>⟨checked_simple _ _ _ (.inr (.inl rfl)),fun _=>⟨compile_two ha',?_⟩⟩⟩
    ·rw [hans]
     intro t _
     rfl
    ·have h21:¬ (2:Int)=1:=by decide
     simp only [accOf,if_pos ha',if_neg h21,if_true]
   ·have hb':b.length≤40:=by
     have:=fun h=>hb ⟨rfl,h⟩
     omega
    refine ⟨_,.ok fun u=>accA (betStep a b) (betEnds a) (betStart b) u,?_,fun w _=>⟨checked_simple _ _ _ (.inr (.inr rfl)),fun _=>⟨compile_three ha' hb',acc_range ha' hb'⟩⟩⟩
    rw [hans]
    intro t _
    show accA (betStep a b) (betEnds a) (betStart b) t=_
    rw [between_reads a b t _ (betStart_ok a b)]
    unfold within betStart accS
    have h31:¬ (3:Int)=1:=by decide
    have h32:¬ (3:Int)=2:=by decide
    rw [if_neg h31,if_neg h32]
    simp only [List.drop_zero,leB_not]
    by_cases h0:b=[]
    ·simp [h0]
    ·simp [h0,leB_not]
end Go.Proofs.Tl
namespace Go.Proofs.Tl
open Go Go.RowKit Go.Proofs.Ts
theorem ints_new {w:World} {g:Nat} {L:List Int} {cs:Array Value} (hc:cs=(L.map i64V).toArray) (h:w.heap[g]?=some (.cells cs 3 (0,0))) (hl:L.length≤100):IntsOf w (.slice (some ⟨g,0,none⟩) L.length L.length) L:=by
 subst hc
 refine ⟨by simp,.inr ⟨g,L.length,_,rfl,Nat.zero_le _,h,Nat.le_refl _,by unfold maxLen; omega,by simp,by simp [List.take_of_length_le]⟩⟩
theorem steps_asked (w0:World) (v kv qv:Value) (ops:List OpE) (ks qs:List Int) (hks:∀ k∈ks,k=5∨k=6) (ht:∀ o∈ops,playB ks qs o=true→o.kind=5∨o.kind=6→Told o.q o.b) :
  ∀ o∈ops,playB ks qs o=true→o.docs.length≤65536 → ∀ n wb W,n≤65536→Plays n W wb (PlayEnv w0 v kv qv ops ks qs) →
   Calls Tryz.prog 13 #[ptrV wb,opV o] W fun e w'=>e = .returned (.bool true)∧Plays (n+1) w' wb (PlayEnv w0 v kv qv ops ks qs):=by
 intro o ho hp hd n wb W hn hP
 obtain ⟨i,hi,he⟩:=List.getElem_of_mem ho
 have hsc:∀ W,PlayEnv w0 v kv qv ops ks qs W→StrsIs W o.dv o.docs∧o.Fits:=fun W hW=>by
  obtain ⟨a,cap,_,hc⟩:=hW.script
  obtain ⟨_,h2,h3,_⟩:=hc i hi
  rw [he] at h2 h3
  exact ⟨h2,h3⟩
 have hf:=(hsc W hP.env).2
 have hin:o.kind=1∨o.kind=10∨o.kind=11∨o.kind∈ks:=by
  unfold playB inB at hp
  rw [Bool.and_eq_true,Bool.or_eq_true,Bool.or_eq_true,Bool.or_eq_true,beq_iff_eq,beq_iff_eq,beq_iff_eq,List.any_eq_true] at hp
  rcases hp.1 with ((h | h) | h) | ⟨k,hk,h⟩
  ·exact .inl h
  ·exact .inr (.inl h)
  ·exact .inr (.inr (.inl h))
  ·rw [beq_iff_eq] at h
   exact .inr (.inr (.inr (h ▸ hk)))
 rcases hin with h | h | h | h
 ·exact step_build o h n wb _ W hP (by omega) (fun W hW=>⟨hW.env,(hsc W hW).1⟩) (by omega)
 ·exact (step_mark o hf (.inl h) n wb _ W hP (by omega)).mono fun e w' ⟨h1,h2⟩=>⟨h1,h2.mono (by omega)⟩
 ·exact (step_mark o hf (.inr h) n wb _ W hP (by omega)).mono fun e w' ⟨h1,h2⟩=>⟨h1,h2.mono (by omega)⟩
 ·rcases hks _ h with h5 | h6
  ·exact step_search o hf h5 n wb _ W hP (by omega) (fun W hW=>hW.env) (ht o ho hp (.inl h5))
  ·exact step_matches o hf h6 n wb _ W hP (by omega) (fun W hW=>hW.env) (ht o ho hp (.inr h6))
theorem playB_query {ks qs:List Int} {o:OpE} (h:playB ks qs o=true) (hk:o.kind=5∨o.kind=6) (hq:qs≠[]):o.qk∈qs:=by
 unfold playB at h
 rw [Bool.and_eq_true,Bool.or_eq_true,Bool.or_eq_true,List.any_eq_true] at h
 rcases h.2 with (h1 | h1) | ⟨k,h1,h2⟩
 ·rw [List.isEmpty_iff] at h1
  exact absurd h1 hq
 ·unfold askB at h1
  rcases hk with e | e <;> rw [e] at h1 <;> exact absurd h1 (by decide)
 ·rw [beq_iff_eq] at h2
  rw [h2]
  exact h1
set_option maxRecDepth 100000 in
set_option maxHeartbeats 4000000 in
theorem simple_any (ops:List OpE) (v:Value) (w:World) (hE:EnvOk w) (hS:ScriptIs w v ops) (hl:Tame ops.length) :
  Calls Tryz.prog 7 #[v] w fun e w'=>e = .returned (.bool true)∧Below w.heap.size w w':=by
 have hb:=((Below.refl w.heap.size w).alloc (Nat.le_refl _) (.cells #[.int .i64 5,.int .i64 6] 3)).alloc (by simp) (.cells #[.int .i64 1,.int .i64 2,.int .i64 3] 3)
 have h1:((w.alloc (.cells #[.int .i64 5,.int .i64 6] 3)).alloc (.cells #[.int .i64 1,.int .i64 2,.int .i64 3] 3)).heap[w.heap.size]?=some (.cells #[.int .i64 5,.int .i64 6] 3 (0,0)):=(Below.heap_alloc _ _ _ (by simp)).trans (heap_alloc_new w _)
 have h2:((w.alloc (.cells #[.int .i64 5,.int .i64 6] 3)).alloc (.cells #[.int .i64 1,.int .i64 2,.int .i64 3] 3)).heap[w.heap.size+1]?=some (.cells #[.int .i64 1,.int .i64 2,.int .i64 3] 3 (0,0)):=by
  have:=heap_alloc_new (w.alloc (.cells #[.int .i64 5,.int .i64 6] 3)) (.cells #[.int .i64 1,.int .i64 2,.int .i64 3] 3)
  rw [World.size_alloc] at this
  exact this
 have hpe:PlayEnv ((w.alloc (.cells #[.int .i64 5,.int .i64 6] 3)).alloc (.cells #[.int .i64 1,.int .i64 2,.int .i64 3] 3)) v (.slice (some ⟨w.heap.size,0,none⟩) 2 2) (.slice (some ⟨w.heap.size+1,0,none⟩) 3 3) ops [5,6] [1,2,3] ((w.alloc (.cells #[.int .i64 5,.int .i64 6] 3)).alloc (.cells #[.int .i64 1,.int .i64 2,.int .i64 3] 3)) :=
  ⟨Below.refl _ _,hE.kept hb.block,hS.cells fun b j u hu=>(hb.cell (p:=⟨b,j,none⟩) (lt_of_cell hu)).trans hu,ints_new (L:=[5,6]) rfl h1 (by decide),ints_new (L:=[1,2,3]) rfl h2 (by decide)⟩
 have hpl:=plays_law ops [5,6] [1,2,3] v _ _ _ hpe hl (by decide) (by decide) (steps_asked _ _ _ _ _ _ _ (by simp) fun o ho hp hk=>told_simple o.q o.b rfl (by
  have:=playB_query hp hk (by simp)
  simpa [OpE.q] using this))
 have HPL:=Lib.hid hpl
 have HB:=Lib.hid hb
 obtain ⟨a,cap,rfl,_⟩:=hS
 clear hpl hpe h1 h2 hb hE
 go_enter Tryz.func7,Tryz.ntmps7
 go_wp2_with (go_at_call 11; refine HPL.out.mono ?_; rintro e w1 ⟨rfl,hb1⟩; have HB1:=Lib.hid hb1; clear hb1)
 go_ret
 exact ⟨rfl,HB.out.trans (HB1.out.mono HB.out.size)⟩
end Go.Proofs.Tl
namespace Go.Proofs.YtffjomnnkilhgaaGreatDoor.simple
open Go Go.ChangeShapes Go.ChangeMaps Go.WideShapes Go.ChangeAt Go.RowKit
theorem reads (os:Os) {H:Type} (enc:TypeId × Value→H):(DataW.whole enc Tryz.prog ((card.laidWorldL os).forCall (fun _ _=>0) ⟨#[],#[.slice none 0 0],[]⟩).memory Tryz.f7.params.toList Rows.simpleSpec.vars false #[Value.slice none 0 0].toList 8).isSome=true:=by kernel_rfl
set_option maxRecDepth 100000 in
theorem contract (H:Type) (enc:TypeId × Value→H) (W:World) (base:Nat) (args:Array Value) (ds gs:List (DataW H)) (before:List MemPlace)
  (hval:∀ (j:Nat) t v,Tryz.f7.params[j]?=some t→args[j]?=some v→Value.okWide Tryz.prog W .any base t v)
  (hW:DataW.Whole enc Tryz.prog Tryz.f7.params.toList Rows.simpleSpec.vars false W args.toList ds gs before)
  (vt:List TypeId) (hwt:(DataW.weightsEach Tryz.prog (Tryz.f7.params.toList++vt) (ds++gs)).all (· ≤ reachBytes)=true) (hE:Tl.EnvOk W) :
  Calls Tryz.prog 7 args W fun e W'=>∃ v,e = .returned v∧Rows.simpleSpec.post enc Tryz.prog Tryz.f7 false true false false W args v W':=by
 have hW':=hW
 obtain ⟨p,q,hA0,hV,rfl,_,_⟩:=hW
 have hA:DataW.TrodAll enc Tryz.prog W 0 (fun _=>true) true Tryz.f7.params.toList args.toList ds p:=hA0
 rw [Tryz.params7] at hA hval hwt
 obtain ⟨v0,d0,rfl,rfl,h0⟩:=trodAll_one hA
 obtain ⟨rfl,rfl⟩:=trodVars_none hV
 have hsl:=okWide_slice Tryz.underlying22 (hval 0 22 v0 rfl rfl)
 have h0k:=h0
 have hw0:∀ n∈d0.weights Tryz.prog 22,n≤reachBytes:=fun n hn=>by
  rw [List.all_eq_true] at hwt
  have:=hwt n (DataW.weights_mem_each (j:=0) rfl rfl n hn)
  simpa using this
 obtain ⟨ops,hops,hol⟩:=card.script_is h0 hsl hw0
 clear hA0
 simp only [List.append_nil] at hW'
 have hlt:∀ x∈p,x.block < W.heap.size:=fun x hx=>by simpa using hW'.lt x hx
 refine (Tl.simple_any ops v0 W hE hops hol).mono ?_
 rintro e W' ⟨rfl,hb⟩
 refine ⟨_,rfl,_,_,_,[],p,[],hW',?_,?_,rfl,hb.frame _,fun h=>by cases h⟩
 ·exact trodAll_mk1 (shut_bool Tryz.underlying4 true)
 ·exact trodAll_mk1 (Below.trod card.laidOut (by kernel_rfl) (of_decide_eq_true (by kernel_rfl)) h0k hb hlt)
set_option maxRecDepth 100000 in
theorem lifted (os:Os) (started:os.Started) (H:Type) (enc:TypeId × Value→H) (F:Stop.Interp) :
  ReturnsInHanded {} Tryz.checked os 7 .any ((OpenSpec.ofChange Rows.simpleSpec).preRow enc Tryz.prog Tryz.f7 Rows.simpleRow.domain false Rows.simpleRow.laid) (((OpenSpec.ofChange Rows.simpleSpec).at F).post enc Tryz.prog Tryz.f7 false true false false):=by
 obtain ⟨x,hx⟩:=Option.isSome_iff_exists.1 (reads os enc)
 refine returnsInHanded_of_row (C:=Tryz.checked) (s:=OpenSpec.ofChange Rows.simpleSpec) card.own started (by kernel_rfl) Tryz.func7
  (witness_row_at (enc:=enc) (C:=Tryz.checked) false (card.laidWorldL os) #[.slice none 0 0] rfl (by kernel_rfl) (by kernel_rfl) (by kernel_rfl)
   (OpenSpec.preRow_of_cond 8 hx rfl (fun k hk=>by cases hk) (by kernel_rfl) (card.laid_metL os _))) ?_
 intro W base args ds gs before hval hW _ _ hwt hL hSh _
 exact contract H enc W base args ds gs before hval hW _ hwt ⟨⟨card.err_in hL (List.mem_filter.2 ⟨.tail _ (.tail _ (.head _)),by kernel_rfl⟩),card.shaped_err hSh⟩,card.bits_in hL hSh (List.mem_filter.2 ⟨.head _,by kernel_rfl⟩),
  card.tabs_in hL hSh (List.mem_filter.2 ⟨.tail _ (.tail _ (.tail _ (.tail _ (.head _)))),by kernel_rfl⟩) (List.mem_filter.2 ⟨.tail _ (.head _),by kernel_rfl⟩)⟩
end Go.Proofs.YtffjomnnkilhgaaGreatDoor.simple
namespace Go.Proofs.YtffjomnnkilhgaaGreatDoor.simple
open Go Go.ChangeShapes Go.ChangeMaps Go.WideShapes Go.ChangeAt
set_option maxHeartbeats 0 in
set_option maxRecDepth 100000 in
theorem closed:joinedFacts Tryz.pinned.checked.prog 7 Tryz.f7 (OpenSpec.ofChange Rows.simpleSpec).bare Rows.simpleRow=true:=by
 unfold joinedFacts
 simp only [Bool.and_eq_true]
 and_intros
 all_goals (as_aux_lemma=>kernel_rfl)
end Go.Proofs.YtffjomnnkilhgaaGreatDoor.simple
