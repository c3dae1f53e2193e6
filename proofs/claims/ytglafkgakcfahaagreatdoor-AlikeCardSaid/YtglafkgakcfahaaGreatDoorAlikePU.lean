/- Lemmas towards the statement Alike of termsearch: walks of the program's functions and plain laws on lists (TsBetween, TsBetA, TsGoesW, TsBoth, TsRowOf, TsAlike). Conditions: those that each theorem names. -/
import Derived.Test.YtglafkgakcfahaaGreatDoorAlikePQ
import Derived.Test.YtglafkgakcfahaaGreatDoorAlikePF
import Derived.Test.YtglafkgakcfahaaGreatDoorAlikePG
import Derived.Test.YtglafkgakcfahaaGreatDoorAlikePT
import Derived.Test.YtglafkgakcfahaaGreatDoorAlikePS
import Derived.Test.YtglafkgakcfahaaGreatDoorAlikePR
set_option linter.unusedVariables false
set_option linter.unusedSimpArgs false
set_option linter.unusedSectionVars false
namespace Go.Proofs.Ts
open Go Go.RowKit
structure BetAt (B:Nat) (w W:World) (b s r:Nat) (lo hi:ByteArray) (a0 a1:Value):Prop where
 kb:W.heap[b]?=some (.cells #[.string lo,.string hi] 315 (0,0))
 ks:W.heap[s]?=some (.cells #[a0,a1] 313 (0,0))
 kr:W.heap[r]?=some (.cells #[.int .i64 0,.int .i64 0] 313 (0,0))
 bs:b≠s
 rs:r≠s
 sB:B≤s
 rB:B≤r
 below:Below B w W
section
variable {B:Nat} {w W:World} {b s r:Nat} {lo hi:ByteArray} {a0 a1:Value}
theorem BetAt.set0 (k:BetAt B w W b s r lo hi a0 a1) (v:Value):BetAt B w (W.setCell ⟨s,0,none⟩ v) b s r lo hi v a1 :=
 ⟨by rw [Below.heap_setCell _ _ _ _ k.bs]; exact k.kb,by have:=heap_setCell_same W s 0 _ _ v k.ks; simpa using this,by rw [Below.heap_setCell _ _ _ _ k.rs]; exact k.kr,k.bs,k.rs,k.sB,k.rB,k.below.setCell (p:=⟨s,0,none⟩) k.sB _⟩
theorem BetAt.set1 (k:BetAt B w W b s r lo hi a0 a1) (v:Value):BetAt B w (W.setCell ⟨s,1,none⟩ v) b s r lo hi a0 v :=
 ⟨by rw [Below.heap_setCell _ _ _ _ k.bs]; exact k.kb,by have:=heap_setCell_same W s 1 _ _ v k.ks; simpa using this,by rw [Below.heap_setCell _ _ _ _ k.rs]; exact k.kr,k.bs,k.rs,k.sB,k.rB,k.below.setCell (p:=⟨s,1,none⟩) k.sB _⟩
theorem BetAt.out (k:BetAt B w W b s r lo hi a0 a1) (v u:Value):((W.setCell ⟨r,0,none⟩ v).setCell ⟨r,1,none⟩ u).heap[r]?=some (.cells #[v,u] 313 (0,0))∧Below B w ((W.setCell ⟨r,0,none⟩ v).setCell ⟨r,1,none⟩ u):=by
 have h1:=heap_setCell_same W r 0 _ _ v k.kr
 have h2:=heap_setCell_same _ r 1 _ _ u h1
 exact ⟨by simpa using h2,(k.below.setCell (p:=⟨r,0,none⟩) k.rB _).setCell (p:=⟨r,1,none⟩) k.rB _⟩
end
set_option maxRecDepth 100000 in
set_option maxHeartbeats 4000000 in
theorem betStep_any (lo hi:ByteArray) (l h:Option Nat) (c:UInt8) (w:World) (hlo:lo.size≤1000000) (hhi:hi.size≤1000000) (hl:∀ k,l=some k→k≤lo.size) (hh:∀ k,h=some k→k≤hi.size) :
  Calls Tryz.prog 243 #[.agg #[.string lo,.string hi],.agg #[.int .i64 (optI l),.int .i64 (optI h)],.int .u8 c.toNat] w fun e w' =>
   ∃ l' h',e = .returned (.tuple #[.agg #[.int .i64 (optI l'),.int .i64 (optI h')],.bool (betStep lo.data.toList hi.data.toList ⟨l,h⟩ c).isSome])∧(∀ u,betStep lo.data.toList hi.data.toList ⟨l,h⟩ c=some u→u=⟨l',h'⟩)∧Below w.heap.size w w':=by
 obtain ⟨R,hR⟩:∃ R,R=betStep lo.data.toList hi.data.toList ⟨l,h⟩ c:=⟨_,rfl⟩
 rw [← hR]
 unfold betStep at hR
 have HR:=Lib.hid hR
 clear hR
 go_enter Tryz.func243,Tryz.ntmps243
 go_upto_region 1 with fail
 obtain ⟨W,hW⟩:∃ W,W=((w.alloc (.cells #[.string lo,.string hi] 315)).alloc (.cells #[.int .i64 (optI l),.int .i64 (optI h)] 313)).alloc (.cells #[.int .i64 0,.int .i64 0] 313):=⟨_,rfl⟩
 rw [← hW]
 obtain ⟨b,hb⟩:∃ b,b=w.heap.size:=⟨_,rfl⟩
 obtain ⟨s,hs⟩:∃ s,s=w.heap.size+1:=⟨_,rfl⟩
 obtain ⟨r,hr⟩:∃ r,r=w.heap.size+1+1:=⟨_,rfl⟩
 have hB:BetAt w.heap.size w W b s r lo hi (.int .i64 (optI l)) (.int .i64 (optI h)):=by
  have g0:=heap_alloc_new w (.cells #[.string lo,.string hi] 315)
  have g1:=heap_alloc_new (w.alloc (.cells #[.string lo,.string hi] 315)) (.cells #[.int .i64 (optI l),.int .i64 (optI h)] 313)
  have g2:=heap_alloc_new ((w.alloc (.cells #[.string lo,.string hi] 315)).alloc (.cells #[.int .i64 (optI l),.int .i64 (optI h)] 313)) (.cells #[.int .i64 0,.int .i64 0] 313)
  rw [World.size_alloc] at g1
  rw [World.size_alloc,World.size_alloc] at g2
  refine ⟨?_,?_,?_,by omega,by omega,by omega,by omega,?_⟩
  ·rw [hW,hb,Below.heap_alloc _ _ _ (by simp; omega),Below.heap_alloc _ _ _ (by simp)]
   exact g0
  ·rw [hW,hs,Below.heap_alloc _ _ _ (by simp)]
   exact g1
  ·rw [hW,hr]; exact g2
  ·rw [hW]; exact (((Below.refl _ w).alloc (Nat.le_refl _) _).alloc (by simp) _).alloc (by simp; omega) _
 rw [← hr,← hs,← hb]
 clear hW hb hs hr
 have HB:=Lib.hid hB
 have Ab0:(W).cell? ⟨b,0,none⟩=some (.string lo):=cell_block hB.kb
 have Ab1:(W).cell? ⟨b,1,none⟩=some (.string hi):=cell_block hB.kb
 have As0:(W).cell? ⟨s,0,none⟩=some (.int .i64 (optI l)):=cell_block hB.ks
 have As1:(W).cell? ⟨s,1,none⟩=some (.int .i64 (optI h)):=cell_block hB.ks
 have Ar0:(W).cell? ⟨r,0,none⟩=some (.int .i64 0):=cell_block hB.kr
 have Ar1:(W).cell? ⟨r,1,none⟩=some (.int .i64 0):=cell_block hB.kr
 have Af0:(W).frozen? ⟨s,0,none⟩=false:=free_block hB.ks
 have Af1:(W).frozen? ⟨s,1,none⟩=false:=free_block hB.ks
 have Ag0:(W).frozen? ⟨r,0,none⟩=false:=free_block hB.kr
 have Ag1:(W).frozen? ⟨r,1,none⟩=false:=free_block hB.kr
 have Bb0:∀ v:Value,(W.setCell ⟨s,0,none⟩ v).cell? ⟨b,0,none⟩=some (.string lo):=fun v=>cell_block (hB.set0 v).kb
 have Bb1:∀ v:Value,(W.setCell ⟨s,0,none⟩ v).cell? ⟨b,1,none⟩=some (.string hi):=fun v=>cell_block (hB.set0 v).kb
 have Bs0:∀ v:Value,(W.setCell ⟨s,0,none⟩ v).cell? ⟨s,0,none⟩=some v:=fun v=>cell_block (hB.set0 v).ks
 have Bs1:∀ v:Value,(W.setCell ⟨s,0,none⟩ v).cell? ⟨s,1,none⟩=some (.int .i64 (optI h)):=fun v=>cell_block (hB.set0 v).ks
 have Br0:∀ v:Value,(W.setCell ⟨s,0,none⟩ v).cell? ⟨r,0,none⟩=some (.int .i64 0):=fun v=>cell_block (hB.set0 v).kr
 have Br1:∀ v:Value,(W.setCell ⟨s,0,none⟩ v).cell? ⟨r,1,none⟩=some (.int .i64 0):=fun v=>cell_block (hB.set0 v).kr
 have Bf0:∀ v:Value,(W.setCell ⟨s,0,none⟩ v).frozen? ⟨s,0,none⟩=false:=fun v=>free_block (hB.set0 v).ks
 have Bf1:∀ v:Value,(W.setCell ⟨s,0,none⟩ v).frozen? ⟨s,1,none⟩=false:=fun v=>free_block (hB.set0 v).ks
 have Bg0:∀ v:Value,(W.setCell ⟨s,0,none⟩ v).frozen? ⟨r,0,none⟩=false:=fun v=>free_block (hB.set0 v).kr
 have Bg1:∀ v:Value,(W.setCell ⟨s,0,none⟩ v).frozen? ⟨r,1,none⟩=false:=fun v=>free_block (hB.set0 v).kr
 have Cb0:∀ u:Value,(W.setCell ⟨s,1,none⟩ u).cell? ⟨b,0,none⟩=some (.string lo):=fun u=>cell_block (hB.set1 u).kb
 have Cb1:∀ u:Value,(W.setCell ⟨s,1,none⟩ u).cell? ⟨b,1,none⟩=some (.string hi):=fun u=>cell_block (hB.set1 u).kb
 have Cs0:∀ u:Value,(W.setCell ⟨s,1,none⟩ u).cell? ⟨s,0,none⟩=some (.int .i64 (optI l)):=fun u=>cell_block (hB.set1 u).ks
 have Cs1:∀ u:Value,(W.setCell ⟨s,1,none⟩ u).cell? ⟨s,1,none⟩=some u:=fun u=>cell_block (hB.set1 u).ks
 have Cr0:∀ u:Value,(W.setCell ⟨s,1,none⟩ u).cell? ⟨r,0,none⟩=some (.int .i64 0):=fun u=>cell_block (hB.set1 u).kr
 have Cr1:∀ u:Value,(W.setCell ⟨s,1,none⟩ u).cell? ⟨r,1,none⟩=some (.int .i64 0):=fun u=>cell_block (hB.set1 u).kr
 have Cf0:∀ u:Value,(W.setCell ⟨s,1,none⟩ u).frozen? ⟨s,0,none⟩=false:=fun u=>free_block (hB.set1 u).ks
 have Cf1:∀ u:Value,(W.setCell ⟨s,1,none⟩ u).frozen? ⟨s,1,none⟩=false:=fun u=>free_block (hB.set1 u).ks
 have Cg0:∀ u:Value,(W.setCell ⟨s,1,none⟩ u).frozen? ⟨r,0,none⟩=false:=fun u=>free_block (hB.set1 u).kr
 have Cg1:∀ u:Value,(W.setCell ⟨s,1,none⟩ u).frozen? ⟨r,1,none⟩=false:=fun u=>free_block (hB.set1 u).kr
 have Db0:∀ v u:Value,((W.setCell ⟨s,0,none⟩ v).setCell ⟨s,1,none⟩ u).cell? ⟨b,0,none⟩=some (.string lo):=fun v u=>cell_block ((hB.set0 v).set1 u).kb
 have Db1:∀ v u:Value,((W.setCell ⟨s,0,none⟩ v).setCell ⟨s,1,none⟩ u).cell? ⟨b,1,none⟩=some (.string hi):=fun v u=>cell_block ((hB.set0 v).set1 u).kb
 have Ds0:∀ v u:Value,((W.setCell ⟨s,0,none⟩ v).setCell ⟨s,1,none⟩ u).cell? ⟨s,0,none⟩=some v:=fun v u=>cell_block ((hB.set0 v).set1 u).ks
 have Ds1:∀ v u:Value,((W.setCell ⟨s,0,none⟩ v).setCell ⟨s,1,none⟩ u).cell? ⟨s,1,none⟩=some u:=fun v u=>cell_block ((hB.set0 v).set1 u).ks
 have Dr0:∀ v u:Value,((W.setCell ⟨s,0,none⟩ v).setCell ⟨s,1,none⟩ u).cell? ⟨r,0,none⟩=some (.int .i64 0):=fun v u=>cell_block ((hB.set0 v).set1 u).kr
 have Dr1:∀ v u:Value,((W.setCell ⟨s,0,none⟩ v).setCell ⟨s,1,none⟩ u).cell? ⟨r,1,none⟩=some (.int .i64 0):=fun v u=>cell_block ((hB.set0 v).set1 u).kr
 have Df0:∀ v u:Value,((W.setCell ⟨s,0,none⟩ v).setCell ⟨s,1,none⟩ u).frozen? ⟨s,0,none⟩=false:=fun v u=>free_block ((hB.set0 v).set1 u).ks
 have Df1:∀ v u:Value,((W.setCell ⟨s,0,none⟩ v).setCell ⟨s,1,none⟩ u).frozen? ⟨s,1,none⟩=false:=fun v u=>free_block ((hB.set0 v).set1 u).ks
 have Dg0:∀ v u:Value,((W.setCell ⟨s,0,none⟩ v).setCell ⟨s,1,none⟩ u).frozen? ⟨r,0,none⟩=false:=fun v u=>free_block ((hB.set0 v).set1 u).kr
 have Dg1:∀ v u:Value,((W.setCell ⟨s,0,none⟩ v).setCell ⟨s,1,none⟩ u).frozen? ⟨r,1,none⟩=false:=fun v u=>free_block ((hB.set0 v).set1 u).kr
 clear hB
 cases l with
 | none =>
  have e0:optI none = -1:=rfl
  rw [e0] at As0 Cs0
  have hlo':loStep lo.data.toList none c=some none:=rfl
  cases h with
  | none =>
   have e1:optI none = -1:=rfl
   rw [e1] at As1 Bs1
   have hhi:hiStep hi.data.toList none c=some none:=rfl
   go_wp2_with fail
   have ho:=(HB.out).out (.int .i64 (-1)) (.int .i64 (-1))
   have hRv:R=some ⟨none,none⟩:=by
    rw [HR.out]
    simp only [hlo',hhi]
   subst hRv
   refine bodyPost_ret (results_pair rfl _ _ r _ _ (0,0) _ _ rfl rfl ho.1 Tryz.underlying313 rfl (by kernel_rfl)) rfl ?_
   exact ⟨none,none,rfl,fun u hu=>(by cases hu; rfl),ho.2⟩
  | some j =>
   have e1:optI (some j)=(j:Int):=rfl
   rw [e1] at As1 Bs1
   by_cases hj:j < hi.size
   case pos =>
    have hjt:hi.data.toList[j]?=some hi[j]:=at_str hi j hj
    have hhi0:=hiStep_some (c:=c) hjt
    have y1:((j:Int) == (hi.size:Int))=false:=beq_eq_false_iff_ne.2 (by omega)
    have y2:decide ((j:Int) < (hi.size:Int))=true:=decide_eq_true (by omega)
    by_cases z1:hi[j] < c
    case pos =>
     have y3:decide ((hi[j]).toNat < c.toNat)=true:=decide_eq_true (UInt8.lt_iff_toNat_lt.1 z1)
     have hhi:hiStep hi.data.toList (some j) c=none:=by rw [hhi0,if_pos z1]
     go_wp2_with fail
     have ho:=(HB.out).out (.int .i64 (-1)) (.int .i64 j)
     have hRv:R=none:=by
      rw [HR.out]
      simp only [hlo',hhi]
     subst hRv
     refine bodyPost_ret (results_pair rfl _ _ r _ _ (0,0) _ _ rfl rfl ho.1 Tryz.underlying313 rfl (by kernel_rfl)) rfl ?_
     exact ⟨none,(some j),rfl,fun u hu=>(by cases hu),ho.2⟩
    case neg =>
     have y3:decide ((hi[j]).toNat < c.toNat)=false:=decide_eq_false fun h=>z1 (UInt8.lt_iff_toNat_lt.2 h)
     by_cases z2:c < hi[j]
     case pos =>
      have y4:decide (c.toNat < (hi[j]).toNat)=true:=decide_eq_true (UInt8.lt_iff_toNat_lt.1 z2)
      have hhi:hiStep hi.data.toList (some j) c=some none:=by rw [hhi0,if_neg z1,if_pos z2]
      go_wp2_with fail
      have ho:=((HB.out).set1 (.int .i64 (-1))).out (.int .i64 (-1)) (.int .i64 (-1))
      have hRv:R=some ⟨none,none⟩:=by
       rw [HR.out]
       simp only [hlo',hhi]
      subst hRv
      refine bodyPost_ret (results_pair rfl _ _ r _ _ (0,0) _ _ rfl rfl ho.1 Tryz.underlying313 rfl (by kernel_rfl)) rfl ?_
      exact ⟨none,none,rfl,fun u hu=>(by cases hu; rfl),ho.2⟩
     case neg =>
      have y4:decide (c.toNat < (hi[j]).toNat)=false:=decide_eq_false fun h=>z2 (UInt8.lt_iff_toNat_lt.2 h)
      have y5:IntKind.i64.wrap ((j:Int)+1)=(j:Int)+1:=IntWalk.i64_in _ (by omega)
      have hhi:hiStep hi.data.toList (some j) c=some (some (j+1)):=by rw [hhi0,if_neg z1,if_neg z2]
      go_wp2_with fail
      have ho:=((HB.out).set1 (.int .i64 ((j:Int)+1))).out (.int .i64 (-1)) (.int .i64 ((j:Int)+1))
      have hRv:R=some ⟨none,(some (j+1))⟩:=by
       rw [HR.out]
       simp only [hlo',hhi]
      subst hRv
      refine bodyPost_ret (results_pair rfl _ _ r _ _ (0,0) _ _ rfl rfl ho.1 Tryz.underlying313 rfl (by kernel_rfl)) rfl ?_
      exact ⟨none,(some (j+1)),rfl,fun u hu=>(by cases hu; rfl),ho.2⟩
   case neg =>
    have hjz:j=hi.size:=by have:=hh j rfl; omega
    subst hjz
    have hhi:hiStep hi.data.toList (some hi.size) c=none:=hiStep_none (at_end hi hi.size (Nat.le_refl _))
    go_wp2_with fail
    have ho:=(HB.out).out (.int .i64 (-1)) (.int .i64 hi.size)
    have hRv:R=none:=by
     rw [HR.out]
     simp only [hlo',hhi]
    subst hRv
    refine bodyPost_ret (results_pair rfl _ _ r _ _ (0,0) _ _ rfl rfl ho.1 Tryz.underlying313 rfl (by kernel_rfl)) rfl ?_
    exact ⟨none,(some hi.size),rfl,fun u hu=>(by cases hu),ho.2⟩
 | some k =>
  have e0:optI (some k)=(k:Int):=rfl
  rw [e0] at As0 Cs0
  by_cases hk:k < lo.size
  case pos =>
   have hat:lo.data.toList[k]?=some lo[k]:=at_str lo k hk
   have hlo0:=loStep_some (c:=c) hat
   have q1:((k:Int) == (lo.size:Int))=false:=beq_eq_false_iff_ne.2 (by omega)
   have q2:decide ((k:Int) < (lo.size:Int))=true:=decide_eq_true (by omega)
   by_cases h1:lo[k] < c
   case pos =>
    have q3:decide ((lo[k]).toNat < c.toNat)=true:=decide_eq_true (UInt8.lt_iff_toNat_lt.1 h1)
    have hlo':loStep lo.data.toList (some k) c=some none:=by rw [hlo0,if_pos h1]
    cases h with
    | none =>
     have e1:optI none = -1:=rfl
     rw [e1] at As1 Bs1
     have hhi:hiStep hi.data.toList none c=some none:=rfl
     go_wp2_with fail
     have ho:=(HB.out.set0 (.int .i64 (-1))).out (.int .i64 (-1)) (.int .i64 (-1))
     have hRv:R=some ⟨none,none⟩:=by
      rw [HR.out]
      simp only [hlo',hhi]
     subst hRv
     refine bodyPost_ret (results_pair rfl _ _ r _ _ (0,0) _ _ rfl rfl ho.1 Tryz.underlying313 rfl (by kernel_rfl)) rfl ?_
     exact ⟨none,none,rfl,fun u hu=>(by cases hu; rfl),ho.2⟩
    | some j =>
     have e1:optI (some j)=(j:Int):=rfl
     rw [e1] at As1 Bs1
     by_cases hj:j < hi.size
     case pos =>
      have hjt:hi.data.toList[j]?=some hi[j]:=at_str hi j hj
      have hhi0:=hiStep_some (c:=c) hjt
      have y1:((j:Int) == (hi.size:Int))=false:=beq_eq_false_iff_ne.2 (by omega)
      have y2:decide ((j:Int) < (hi.size:Int))=true:=decide_eq_true (by omega)
      by_cases z1:hi[j] < c
      case pos =>
       have y3:decide ((hi[j]).toNat < c.toNat)=true:=decide_eq_true (UInt8.lt_iff_toNat_lt.1 z1)
       have hhi:hiStep hi.data.toList (some j) c=none:=by rw [hhi0,if_pos z1]
       go_wp2_with fail
       have ho:=(HB.out.set0 (.int .i64 (-1))).out (.int .i64 (-1)) (.int .i64 j)
       have hRv:R=none:=by
        rw [HR.out]
        simp only [hlo',hhi]
       subst hRv
       refine bodyPost_ret (results_pair rfl _ _ r _ _ (0,0) _ _ rfl rfl ho.1 Tryz.underlying313 rfl (by kernel_rfl)) rfl ?_
       exact ⟨none,(some j),rfl,fun u hu=>(by cases hu),ho.2⟩
      case neg =>
       have y3:decide ((hi[j]).toNat < c.toNat)=false:=decide_eq_false fun h=>z1 (UInt8.lt_iff_toNat_lt.2 h)
       by_cases z2:c < hi[j]
       case pos =>
        have y4:decide (c.toNat < (hi[j]).toNat)=true:=decide_eq_true (UInt8.lt_iff_toNat_lt.1 z2)
        have hhi:hiStep hi.data.toList (some j) c=some none:=by rw [hhi0,if_neg z1,if_pos z2]
        go_wp2_with fail
        have ho:=((HB.out.set0 (.int .i64 (-1))).set1 (.int .i64 (-1))).out (.int .i64 (-1)) (.int .i64 (-1))
        have hRv:R=some ⟨none,none⟩:=by
         rw [HR.out]
         simp only [hlo',hhi]
        subst hRv
        refine bodyPost_ret (results_pair rfl _ _ r _ _ (0,0) _ _ rfl rfl ho.1 Tryz.underlying313 rfl (by kernel_rfl)) rfl ?_
        exact ⟨none,none,rfl,fun u hu=>(by cases hu; rfl),ho.2⟩
       case neg =>
        have y4:decide (c.toNat < (hi[j]).toNat)=false:=decide_eq_false fun h=>z2 (UInt8.lt_iff_toNat_lt.2 h)
        have y5:IntKind.i64.wrap ((j:Int)+1)=(j:Int)+1:=IntWalk.i64_in _ (by omega)
        have hhi:hiStep hi.data.toList (some j) c=some (some (j+1)):=by rw [hhi0,if_neg z1,if_neg z2]
        go_wp2_with fail
        have ho:=((HB.out.set0 (.int .i64 (-1))).set1 (.int .i64 ((j:Int)+1))).out (.int .i64 (-1)) (.int .i64 ((j:Int)+1))
        have hRv:R=some ⟨none,(some (j+1))⟩:=by
         rw [HR.out]
         simp only [hlo',hhi]
        subst hRv
        refine bodyPost_ret (results_pair rfl _ _ r _ _ (0,0) _ _ rfl rfl ho.1 Tryz.underlying313 rfl (by kernel_rfl)) rfl ?_
        exact ⟨none,(some (j+1)),rfl,fun u hu=>(by cases hu; rfl),ho.2⟩
     case neg =>
      have hjz:j=hi.size:=by have:=hh j rfl; omega
      subst hjz
      have hhi:hiStep hi.data.toList (some hi.size) c=none:=hiStep_none (at_end hi hi.size (Nat.le_refl _))
      go_wp2_with fail
      have ho:=(HB.out.set0 (.int .i64 (-1))).out (.int .i64 (-1)) (.int .i64 hi.size)
      have hRv:R=none:=by
       rw [HR.out]
       simp only [hlo',hhi]
      subst hRv
      refine bodyPost_ret (results_pair rfl _ _ r _ _ (0,0) _ _ rfl rfl ho.1 Tryz.underlying313 rfl (by kernel_rfl)) rfl ?_
      exact ⟨none,(some hi.size),rfl,fun u hu=>(by cases hu),ho.2⟩
   case neg =>
    have q3:decide ((lo[k]).toNat < c.toNat)=false:=decide_eq_false fun h=>h1 (UInt8.lt_iff_toNat_lt.2 h)
    by_cases h2:c < lo[k]
    case pos =>
     have q4:decide (c.toNat < (lo[k]).toNat)=true:=decide_eq_true (UInt8.lt_iff_toNat_lt.1 h2)
     have hlo':loStep lo.data.toList (some k) c=none:=by rw [hlo0,if_neg h1,if_pos h2]
     go_wp2_with fail
     have ho:=(HB.out).out (.int .i64 k) (.int .i64 (optI h))
     have hRv:R=none:=by
      rw [HR.out]
      simp only [hlo']
     subst hRv
     refine bodyPost_ret (results_pair rfl _ _ r _ _ (0,0) _ _ rfl rfl ho.1 Tryz.underlying313 rfl (by kernel_rfl)) rfl ?_
     exact ⟨(some k),h,rfl,fun u hu=>(by cases hu),ho.2⟩
    case neg =>
     have q4:decide (c.toNat < (lo[k]).toNat)=false:=decide_eq_false fun h=>h2 (UInt8.lt_iff_toNat_lt.2 h)
     have q5:IntKind.i64.wrap ((k:Int)+1)=(k:Int)+1:=IntWalk.i64_in _ (by omega)
     have hlo':loStep lo.data.toList (some k) c=some (some (k+1)):=by rw [hlo0,if_neg h1,if_neg h2]
     cases h with
     | none =>
      have e1:optI none = -1:=rfl
      rw [e1] at As1 Bs1
      have hhi:hiStep hi.data.toList none c=some none:=rfl
      go_wp2_with fail
      have ho:=(HB.out.set0 (.int .i64 ((k:Int)+1))).out (.int .i64 ((k:Int)+1)) (.int .i64 (-1))
      have hRv:R=some ⟨(some (k+1)),none⟩:=by
       rw [HR.out]
       simp only [hlo',hhi]
      subst hRv
      refine bodyPost_ret (results_pair rfl _ _ r _ _ (0,0) _ _ rfl rfl ho.1 Tryz.underlying313 rfl (by kernel_rfl)) rfl ?_
      exact ⟨(some (k+1)),none,rfl,fun u hu=>(by cases hu; rfl),ho.2⟩
     | some j =>
      have e1:optI (some j)=(j:Int):=rfl
      rw [e1] at As1 Bs1
      by_cases hj:j < hi.size
      case pos =>
       have hjt:hi.data.toList[j]?=some hi[j]:=at_str hi j hj
       have hhi0:=hiStep_some (c:=c) hjt
       have y1:((j:Int) == (hi.size:Int))=false:=beq_eq_false_iff_ne.2 (by omega)
       have y2:decide ((j:Int) < (hi.size:Int))=true:=decide_eq_true (by omega)
       by_cases z1:hi[j] < c
       case pos =>
        have y3:decide ((hi[j]).toNat < c.toNat)=true:=decide_eq_true (UInt8.lt_iff_toNat_lt.1 z1)
        have hhi:hiStep hi.data.toList (some j) c=none:=by rw [hhi0,if_pos z1]
        go_wp2_with fail
        have ho:=(HB.out.set0 (.int .i64 ((k:Int)+1))).out (.int .i64 ((k:Int)+1)) (.int .i64 j)
        have hRv:R=none:=by
         rw [HR.out]
         simp only [hlo',hhi]
        subst hRv
        refine bodyPost_ret (results_pair rfl _ _ r _ _ (0,0) _ _ rfl rfl ho.1 Tryz.underlying313 rfl (by kernel_rfl)) rfl ?_
        exact ⟨(some (k+1)),(some j),rfl,fun u hu=>(by cases hu),ho.2⟩
       case neg =>
        have y3:decide ((hi[j]).toNat < c.toNat)=false:=decide_eq_false fun h=>z1 (UInt8.lt_iff_toNat_lt.2 h)
        by_cases z2:c < hi[j]
        case pos =>
         have y4:decide (c.toNat < (hi[j]).toNat)=true:=decide_eq_true (UInt8.lt_iff_toNat_lt.1 z2)
         have hhi:hiStep hi.data.toList (some j) c=some none:=by rw [hhi0,if_neg z1,if_pos z2]
         go_wp2_with fail
         have ho:=((HB.out.set0 (.int .i64 ((k:Int)+1))).set1 (.int .i64 (-1))).out (.int .i64 ((k:Int)+1)) (.int .i64 (-1))
         have hRv:R=some ⟨(some (k+1)),none⟩:=by
          rw [HR.out]
          simp only [hlo',hhi]
         subst hRv
         refine bodyPost_ret (results_pair rfl _ _ r _ _ (0,0) _ _ rfl rfl ho.1 Tryz.underlying313 rfl (by kernel_rfl)) rfl ?_
         exact ⟨(some (k+1)),none,rfl,fun u hu=>(by cases hu; rfl),ho.2⟩
        case neg =>
         have y4:decide (c.toNat < (hi[j]).toNat)=false:=decide_eq_false fun h=>z2 (UInt8.lt_iff_toNat_lt.2 h)
         have y5:IntKind.i64.wrap ((j:Int)+1)=(j:Int)+1:=IntWalk.i64_in _ (by omega)
         have hhi:hiStep hi.data.toList (some j) c=some (some (j+1)):=by rw [hhi0,if_neg z1,if_neg z2]
         go_wp2_with fail
         have ho:=((HB.out.set0 (.int .i64 ((k:Int)+1))).set1 (.int .i64 ((j:Int)+1))).out (.int .i64 ((k:Int)+1)) (.int .i64 ((j:Int)+1))
         have hRv:R=some ⟨(some (k+1)),(some (j+1))⟩:=by
          rw [HR.out]
          simp only [hlo',hhi]
         subst hRv
         refine bodyPost_ret (results_pair rfl _ _ r _ _ (0,0) _ _ rfl rfl ho.1 Tryz.underlying313 rfl (by kernel_rfl)) rfl ?_
         exact ⟨(some (k+1)),(some (j+1)),rfl,fun u hu=>(by cases hu; rfl),ho.2⟩
      case neg =>
       have hjz:j=hi.size:=by have:=hh j rfl; omega
       subst hjz
       have hhi:hiStep hi.data.toList (some hi.size) c=none:=hiStep_none (at_end hi hi.size (Nat.le_refl _))
       go_wp2_with fail
       have ho:=(HB.out.set0 (.int .i64 ((k:Int)+1))).out (.int .i64 ((k:Int)+1)) (.int .i64 hi.size)
       have hRv:R=none:=by
        rw [HR.out]
        simp only [hlo',hhi]
       subst hRv
       refine bodyPost_ret (results_pair rfl _ _ r _ _ (0,0) _ _ rfl rfl ho.1 Tryz.underlying313 rfl (by kernel_rfl)) rfl ?_
       exact ⟨(some (k+1)),(some hi.size),rfl,fun u hu=>(by cases hu),ho.2⟩
  case neg =>
   have hkz:k=lo.size:=by have:=hl k rfl; omega
   subst hkz
   have hlo':loStep lo.data.toList (some lo.size) c=some none:=loStep_none (at_end lo lo.size (Nat.le_refl _))
   cases h with
   | none =>
    have e1:optI none = -1:=rfl
    rw [e1] at As1 Bs1
    have hhi:hiStep hi.data.toList none c=some none:=rfl
    go_wp2_with fail
    have ho:=(HB.out.set0 (.int .i64 (-1))).out (.int .i64 (-1)) (.int .i64 (-1))
    have hRv:R=some ⟨none,none⟩:=by
     rw [HR.out]
     simp only [hlo',hhi]
    subst hRv
    refine bodyPost_ret (results_pair rfl _ _ r _ _ (0,0) _ _ rfl rfl ho.1 Tryz.underlying313 rfl (by kernel_rfl)) rfl ?_
    exact ⟨none,none,rfl,fun u hu=>(by cases hu; rfl),ho.2⟩
   | some j =>
    have e1:optI (some j)=(j:Int):=rfl
    rw [e1] at As1 Bs1
    by_cases hj:j < hi.size
    case pos =>
     have hjt:hi.data.toList[j]?=some hi[j]:=at_str hi j hj
     have hhi0:=hiStep_some (c:=c) hjt
     have y1:((j:Int) == (hi.size:Int))=false:=beq_eq_false_iff_ne.2 (by omega)
     have y2:decide ((j:Int) < (hi.size:Int))=true:=decide_eq_true (by omega)
     by_cases z1:hi[j] < c
     case pos =>
      have y3:decide ((hi[j]).toNat < c.toNat)=true:=decide_eq_true (UInt8.lt_iff_toNat_lt.1 z1)
      have hhi:hiStep hi.data.toList (some j) c=none:=by rw [hhi0,if_pos z1]
      go_wp2_with fail
      have ho:=(HB.out.set0 (.int .i64 (-1))).out (.int .i64 (-1)) (.int .i64 j)
      have hRv:R=none:=by
       rw [HR.out]
       simp only [hlo',hhi]
      subst hRv
      refine bodyPost_ret (results_pair rfl _ _ r _ _ (0,0) _ _ rfl rfl ho.1 Tryz.underlying313 rfl (by kernel_rfl)) rfl ?_
      exact ⟨none,(some j),rfl,fun u hu=>(by cases hu),ho.2⟩
     case neg =>
      have y3:decide ((hi[j]).toNat < c.toNat)=false:=decide_eq_false fun h=>z1 (UInt8.lt_iff_toNat_lt.2 h)
      by_cases z2:c < hi[j]
      case pos =>
       have y4:decide (c.toNat < (hi[j]).toNat)=true:=decide_eq_true (UInt8.lt_iff_toNat_lt.1 z2)
       have hhi:hiStep hi.data.toList (some j) c=some none:=by rw [hhi0,if_neg z1,if_pos z2]
       go_wp2_with fail
       have ho:=((HB.out.set0 (.int .i64 (-1))).set1 (.int .i64 (-1))).out (.int .i64 (-1)) (.int .i64 (-1))
       have hRv:R=some ⟨none,none⟩:=by
        rw [HR.out]
        simp only [hlo',hhi]
       subst hRv
       refine bodyPost_ret (results_pair rfl _ _ r _ _ (0,0) _ _ rfl rfl ho.1 Tryz.underlying313 rfl (by kernel_rfl)) rfl ?_
       exact ⟨none,none,rfl,fun u hu=>(by cases hu; rfl),ho.2⟩
      case neg =>
       have y4:decide (c.toNat < (hi[j]).toNat)=false:=decide_eq_false fun h=>z2 (UInt8.lt_iff_toNat_lt.2 h)
       have y5:IntKind.i64.wrap ((j:Int)+1)=(j:Int)+1:=IntWalk.i64_in _ (by omega)
       have hhi:hiStep hi.data.toList (some j) c=some (some (j+1)):=by rw [hhi0,if_neg z1,if_neg z2]
       go_wp2_with fail
       have ho:=((HB.out.set0 (.int .i64 (-1))).set1 (.int .i64 ((j:Int)+1))).out (.int .i64 (-1)) (.int .i64 ((j:Int)+1))
       have hRv:R=some ⟨none,(some (j+1))⟩:=by
        rw [HR.out]
        simp only [hlo',hhi]
       subst hRv
       refine bodyPost_ret (results_pair rfl _ _ r _ _ (0,0) _ _ rfl rfl ho.1 Tryz.underlying313 rfl (by kernel_rfl)) rfl ?_
       exact ⟨none,(some (j+1)),rfl,fun u hu=>(by cases hu; rfl),ho.2⟩
    case neg =>
     have hjz:j=hi.size:=by have:=hh j rfl; omega
     subst hjz
     have hhi:hiStep hi.data.toList (some hi.size) c=none:=hiStep_none (at_end hi hi.size (Nat.le_refl _))
     go_wp2_with fail
     have ho:=(HB.out.set0 (.int .i64 (-1))).out (.int .i64 (-1)) (.int .i64 hi.size)
     have hRv:R=none:=by
      rw [HR.out]
      simp only [hlo',hhi]
     subst hRv
     refine bodyPost_ret (results_pair rfl _ _ r _ _ (0,0) _ _ rfl rfl ho.1 Tryz.underlying313 rfl (by kernel_rfl)) rfl ?_
     exact ⟨none,(some hi.size),rfl,fun u hu=>(by cases hu),ho.2⟩
--TAIL
end Go.Proofs.Ts
namespace Go.Proofs.Ts
open Go Go.RowKit
set_option maxRecDepth 100000 in
set_option maxHeartbeats 1000000 in
theorem betEnds_any (lo hi:ByteArray) (s:BSt) (w:World) (hlo:lo.size≤1000000) :
  Calls Tryz.prog 241 #[.agg #[.string lo,.string hi],.agg s.cells] w fun e w'=>e = .returned (.bool (betEnds lo.data.toList s))∧Below w.heap.size w w':=by
 obtain ⟨l,h⟩:=s
 unfold BSt.cells
 have hb:Below w.heap.size w ((w.alloc (.cells #[.string lo,.string hi] 315)).alloc (.cells #[.int .i64 (optI l),.int .i64 (optI h)] 313)):=((Below.refl _ w).alloc (Nat.le_refl _) _).alloc (by simp) _
 have HB:=Lib.hid hb
 clear hb
 cases l with
 | none =>
  have e0:optI none = -1:=rfl
  simp only [e0] at HB ⊢
  go_enter Tryz.func241,Tryz.ntmps241
  go_wp2_with fail
  go_ret
  exact ⟨rfl,HB.out⟩
 | some k =>
  have e0:optI (some k)=(k:Int):=rfl
  simp only [e0] at HB ⊢
  have hbe:betEnds lo.data.toList ⟨some k,h⟩=((k:Int) == (lo.size:Int)):=by
   unfold betEnds
   rw [eq_nat]
   simp
  rw [hbe]
  have g0:decide ((k:Int) < 0)=false:=decide_eq_false (by omega)
  go_enter Tryz.func241,Tryz.ntmps241
  go_wp2_with fail
  go_ret
  exact ⟨rfl,HB.out⟩
set_option maxRecDepth 100000 in
set_option maxHeartbeats 1000000 in
theorem betStart_any (lo hi:ByteArray) (w:World) (hhi:hi.size≤1000000) :
  Calls Tryz.prog 242 #[.agg #[.string lo,.string hi]] w fun e w'=>e = .returned (.agg (betStart hi.data.toList).cells)∧Below w.heap.size w w':=by
 have g0:=heap_alloc_new w (.cells #[.string lo,.string hi] 315)
 have g1:=heap_alloc_new (w.alloc (.cells #[.string lo,.string hi] 315)) (.cells #[.int .i64 0,.int .i64 0] 313)
 rw [World.size_alloc] at g1
 have hb:Below w.heap.size w ((w.alloc (.cells #[.string lo,.string hi] 315)).alloc (.cells #[.int .i64 0,.int .i64 0] 313)):=((Below.refl _ w).alloc (Nat.le_refl _) _).alloc (by simp) _
 have HH:=Lib.hid (And.intro g1 hb)
 clear g0 g1 hb
 by_cases h:hi=⟨#[]⟩
 ·have hst:betStart hi.data.toList=⟨some 0,none⟩:=by rw [h]; rfl
  rw [hst]
  subst h
  go_enter Tryz.func242,Tryz.ntmps242
  go_wp2_with fail
  have k:=heap_alloc_new (w.alloc (.cells #[.string lo,.string ⟨#[]⟩] 315)) (.cells #[.int .i64 0,(.int .i64 (-1))] 313)
  rw [World.size_alloc] at k
  have kb:Below w.heap.size w ((w.alloc (.cells #[.string lo,.string ⟨#[]⟩] 315)).alloc (.cells #[.int .i64 0,(.int .i64 (-1))] 313)):=((Below.refl _ w).alloc (Nat.le_refl _) _).alloc (by simp) _
  refine bodyPost_ret (results_cell_row rfl _ _ (w.heap.size+1) _ _ (0,0) _ rfl k Tryz.underlying313 rfl (by kernel_rfl)) rfl ?_
  exact ⟨rfl,kb⟩
 ·have hst:betStart hi.data.toList=⟨some 0,some 0⟩:=by
   unfold betStart
   rw [if_neg]
   intro e
   exact h (by cases hi; simp at e; rw [e])
  rw [hst]
  have hq:hi.toList.isEmpty=false:=by
   rw [Lib.toList_data]
   cases e:hi.data.toList with
   | nil=>exact absurd (by cases hi; simp at e; rw [e]) h
   | cons x r=>rfl
  go_enter Tryz.func242,Tryz.ntmps242
  go_wp2_with fail
  have k:=heap_alloc_new (w.alloc (.cells #[.string lo,.string hi] 315)) (.cells #[.int .i64 0,(.int .i64 0)] 313)
  rw [World.size_alloc] at k
  have kb:Below w.heap.size w ((w.alloc (.cells #[.string lo,.string hi] 315)).alloc (.cells #[.int .i64 0,(.int .i64 0)] 313)):=((Below.refl _ w).alloc (Nat.le_refl _) _).alloc (by simp) _
  refine bodyPost_ret (results_cell_row rfl _ _ (w.heap.size+1) _ _ (0,0) _ rfl k Tryz.underlying313 rfl (by kernel_rfl)) rfl ?_
  exact ⟨rfl,kb⟩
end Go.Proofs.Ts
namespace Go.Proofs.Ts
open Go Go.RowKit
theorem compile_four {w0:World} {a b:List UInt8} {n:Int} {st:Nat} (ha:a.length≤40) (hT:BitTab w0) (h1:1≤st) (h4:st≤400):CompileOk w0 ⟨4,a,b,n,st⟩:=fun w hw=>by
 have hTw:BitTab w:=hT.keepG hw.g
 have hs:ByteArray.size ⟨a.toArray⟩=a.length:=by simp [ByteArray.size]
 have h51:¬ (4:Int)=1:=by decide
 have h52:¬ (4:Int)=2:=by decide
 have h56:¬ (4:Int)=6:=by decide
 have h55:¬ (4:Int)=5:=by decide
 have hA:accOf ⟨4,a,b,n,st⟩=patAcc (wildP ⟨a.toArray⟩) st:=by
  simp only [accOf,if_pos ha,if_neg h51,if_neg h52,h56,h55,false_and,if_false,if_true,Int.toNat_natCast]
 have hE:errOf ⟨4,a,b,n,st⟩=patErr (wildP ⟨a.toArray⟩) st:=by
  simp only [errOf,if_pos ha,h56,h55,if_false,if_true,Int.toNat_natCast]
 refine (compile_wl ⟨a.toArray⟩ ⟨b.toArray⟩ n st w (by omega) hTw h1 h4).mono ?_
 rintro e w' ⟨pb,r,he,hbw,hp,hr,hpl⟩
 refine ⟨pb,he,hbw,hp,?_⟩
 cases r with
 | ok x c =>
  obtain ⟨hx,hsl,_⟩:=hr
  obtain ⟨ab,mb,p1,p2,p3⟩:=hpl
  have hnw:¬ (PM.compile x).wide st:=fun hw=>PM.slim_wide hsl hw
  refine ⟨fun acc hacc=>?_,fun k hk=>?_⟩
  ·rw [hA,hx] at hacc
   unfold patAcc at hacc
   simp only [if_neg hnw,Option.some.injEq] at hacc
   subst hacc
   have hc:x.count≤128:=by have:=(wildP_ok hx).2; omega
   exact ⟨_,p1,goes_set (compile_ok x hc) (compile_fit x hc) p2 p3 (hTw.below hbw)⟩
  ·rw [hE,hx] at hk
   unfold patErr at hk
   simp only [if_neg hnw] at hk
   cases hk
 | big =>
  have p1:w'.heap[pb]?=some (.cells #[.nilFunc,.iface 33 (.int .i64 9)] 165 (0,0)):=hpl
  refine ⟨fun acc hacc=>?_,fun k hk=>?_⟩
  ·rw [hA] at hacc
   rcases hr with hx | ⟨x,hx,hw⟩
   ·rw [hx] at hacc; cases hacc
   ·rw [hx] at hacc
    unfold patAcc at hacc
    simp only [if_pos hw] at hacc
    cases hacc
  ·have hk9:k = .no 9:=by
    rw [hE] at hk
    rcases hr with hx | ⟨x,hx,hw⟩
    ·rw [hx] at hk; cases hk; rfl
    ·rw [hx] at hk
     unfold patErr at hk
     simp only [if_pos hw] at hk
     cases hk; rfl
   subst hk9
   exact ⟨_,_,p1,rfl⟩
 | fault i =>
  have hx:wildP ⟨a.toArray⟩ = .fault i:=hr
  obtain ⟨b2,p1,p2⟩:=hpl
  refine ⟨fun acc hacc=>?_,fun k hk=>?_⟩
  ·rw [hA,hx] at hacc; cases hacc
  ·rw [hE,hx] at hk
   cases hk
   exact ⟨_,_,p1,b2,rfl,p2⟩
theorem between_aut (lo hi:ByteArray) (hlo:lo.size≤1000000) (hhi:hi.size≤1000000):B.AutI BSt.cells (fun _=>True) (.iface 315 (.agg #[.string lo,.string hi])) (fun s=>s.ok lo.data.toList hi.data.toList) (betStep lo.data.toList hi.data.toList) (betEnds lo.data.toList) where
 ex:=⟨315,.agg #[.string lo,.string hi],241,243,.agg #[.string lo,.string hi],.agg #[.string lo,.string hi],rfl,fun fu w=>by kernel_rfl,fun fu w=>by kernel_rfl,
  enters_of Tryz.func241 (by kernel_rfl) rfl,enters_of Tryz.func243 (by kernel_rfl) rfl,fun s w _ hs=>betEnds_any lo hi s w hlo,
  fun s c w _ hs=>(betStep_any lo hi s.l s.h c w hlo hhi (fun k hk=>by have:=hs.1 k hk; simpa using this) (fun k hk=>by have:=hs.2 k hk; simpa using this)).mono fun e w' ⟨l',h',h1,h2,hb⟩=>⟨⟨⟨l',h'⟩,h1,rfl,by simp [BSt.cells,Value.oneCell'],fun u hu=>(h2 u hu).symm⟩,hb⟩⟩
 next:=fun s c t hs h=>betStep_ok hs h
 keep:=fun w w' h hk=>trivial
 size:=fun s _=>rfl
theorem between_start (lo hi:ByteArray) (hhi:hi.size≤1000000):B.AutS BSt.cells (fun _=>True) (.iface 315 (.agg #[.string lo,.string hi])) (betStart hi.data.toList) :=
 ⟨_,_,242,.agg #[.string lo,.string hi],rfl,fun fu w=>by kernel_rfl,enters_of Tryz.func242 (by kernel_rfl) rfl,fun w _=>betStart_any lo hi w hhi⟩
theorem goes_between {lo hi:ByteArray} (hlo:lo.size≤1000000) (hhi:hi.size≤1000000) {w:World} {ab:Nat} (hab:w.heap[ab]?=some (.cells #[.iface 315 (.agg #[.string lo,.string hi])] 347 (0,0))) :
  Goes w (.func (.func 167) #[] #[ptrV ab]) (fun u=>accA (betStep lo.data.toList hi.data.toList) (betEnds lo.data.toList) (betStart hi.data.toList) u):=by
 refine ⟨_,ab,[(ab,#[.iface 315 (.agg #[.string lo,.string hi])],347)],rfl,fun q hq=>?_,enters_of Tryz.func167 (by kernel_rfl) rfl,fun w1 hb db R Λ ρ D gg lb eg hd hl J Jx hJ hY hj0=>?_⟩
 ·obtain rfl:=List.mem_singleton.1 hq
  exact ⟨hab,of_decide_eq_true rfl⟩
 ·exact Go.Proofs.Ts.B.over_any (between_aut lo hi hlo hhi) (between_start lo hi hhi) (betStart_ok _ _) gg lb eg ab w1 trivial hd hl (hb _ List.mem_cons_self) J Jx hJ hY hj0
set_option maxRecDepth 100000 in
set_option maxHeartbeats 1000000 in
theorem compile_range (a b:ByteArray) (n:Int) (st:Int) (w:World) (ha:a.size≤40) (hb:b.size≤40) :
  Calls Tryz.prog 102 #[queryV 3 a b n,.int .i64 st] w fun e w'=>∃ pb ab,e = .returned (ptrV pb)∧Below w.heap.size w w'∧w.heap.size≤pb∧w'.heap[pb]?=some (.cells #[.func (.func 167) #[] #[ptrV ab],.nilIface] 165 (0,0)) ∧
   w'.heap[ab]?=some (.cells #[.iface 315 (.agg #[.string a,.string b])] 347 (0,0)):=by
 have g1:decide ((40:Int) < (a.size:Int))=false:=by simp; omega
 have g2:decide ((40:Int) < (b.size:Int))=false:=by simp; omega
 unfold queryV
 go_enter Tryz.func102,Tryz.ntmps102
 go_wp2_with (go_at_call 141; refine (B.over_make _ _ ⟨_,_,rfl⟩).mono ?_; rintro e w3 ⟨rfl,rfl⟩; unfold ptrV)
 go_ret
 obtain ⟨W,hW⟩:∃ W,W=w.alloc (.cells #[.int .i64 3,.string a,.string b,.int .i64 n] 37):=⟨_,rfl⟩
 have hbW:Below w.heap.size w W:=by rw [hW]; exact (Below.refl _ w).alloc (Nat.le_refl _) _
 have hsz:W.heap.size=w.heap.size+1:=by rw [hW,World.size_alloc]
 have k1:=heap_alloc_new W (.cells #[.iface 315 (.agg #[.string a,.string b])] 347)
 have k2:=heap_alloc_new (W.alloc (.cells #[.iface 315 (.agg #[.string a,.string b])] 347)) (.cells #[.func (.func 167) #[] #[ptrV (w.heap.size+1)],.nilIface] 165)
 rw [World.size_alloc,hsz] at k2
 rw [hsz] at k1
 have hb2:Below w.heap.size w ((W.alloc (.cells #[.iface 315 (.agg #[.string a,.string b])] 347)).alloc (.cells #[.func (.func 167) #[] #[ptrV (w.heap.size+1)],.nilIface] 165)):=(hbW.alloc hbW.size _).alloc (by simp; omega) _
 rw [hW] at k1 k2 hb2
 refine ⟨w.heap.size+1+1,w.heap.size+1,rfl,hb2,by omega,k2,?_⟩
 refine Eq.trans ?_ k1
 exact Below.heap_alloc _ _ _ (by simp)
theorem acc_range {a b:List UInt8} {n st:Int} (ha:a.length≤40) (hb:b.length≤40):accOf ⟨3,a,b,n,st⟩=some fun u=>accA (betStep a b) (betEnds a) (betStart b) u:=by
 have h31:¬ (3:Int)=1:=by decide
 have h32:¬ (3:Int)=2:=by decide
 have h36:¬ (3:Int)=6:=by decide
 have h35:¬ (3:Int)=5:=by decide
 have h34:¬ (3:Int)=4:=by decide
 simp only [accOf,if_pos ha,if_neg h31,if_neg h32,h36,h35,h34,hb,false_and,and_self,if_false,if_true]
theorem compile_three {w0:World} {a b:List UInt8} {n st:Int} (ha:a.length≤40) (hb:b.length≤40):CompileOk w0 ⟨3,a,b,n,st⟩:=fun w _=>by
 have hs:ByteArray.size ⟨a.toArray⟩=a.length:=by simp [ByteArray.size]
 have hs2:ByteArray.size ⟨b.toArray⟩=b.length:=by simp [ByteArray.size]
 refine (compile_range ⟨a.toArray⟩ ⟨b.toArray⟩ n st w (by omega) (by omega)).mono ?_
 rintro e w' ⟨pb,ab,he,hbw,hp,h1,h2⟩
 refine ⟨pb,he,hbw,hp,⟨fun acc hacc=>⟨_,h1,?_⟩,fun k hk=>?_⟩⟩
 ·rw [acc_range ha hb] at hacc
  cases hacc
  have k:=goes_between (lo:=⟨a.toArray⟩) (hi:=⟨b.toArray⟩) (by omega) (by omega) h2
  simpa using k
 ·have h36:¬ (3:Int)=6:=by decide
  have h35:¬ (3:Int)=5:=by decide
  have h34:¬ (3:Int)=4:=by decide
  have hnb:¬ 40 < b.length:=by omega
  simp only [errOf,if_pos ha,h36,h35,h34,hnb,and_false,if_false] at hk
  cases hk
theorem acc_wild {a b:List UInt8} {n:Int} {st:Nat} (ha:a.length≤40):accOf ⟨4,a,b,n,st⟩=patAcc (wildP ⟨a.toArray⟩) st:=by
 have h51:¬ (4:Int)=1:=by decide
 have h52:¬ (4:Int)=2:=by decide
 have h56:¬ (4:Int)=6:=by decide
 have h55:¬ (4:Int)=5:=by decide
 simp only [accOf,if_pos ha,if_neg h51,if_neg h52,h56,h55,false_and,if_false,if_true,Int.toNat_natCast]
end Go.Proofs.Ts
namespace Go.Proofs.Ts
open Go Go.RowKit
theorem docsOf_len (D:List (List (List UInt8))) (f:List UInt8→Bool):(docsOf D f).length≤D.length:=by
 unfold docsOf
 exact Nat.le_trans (List.length_filter_le _ _) (by simp)
def RowOf (w:World) (v:Value) (a:List Nat):Prop:=w.ownsRow 0 3 1 v a.length (a.map intV)
theorem RowOf.cell {w w':World} {v:Value} {a:List Nat} (h:RowOf w v a) (hb:Below w.heap.size w w') {i:Nat} (hi:i < a.length):∃ g cap,v = .slice (some ⟨g,0,none⟩) a.length cap∧w'.cell? ⟨g,i,none⟩=some (.int .i64 ((a.getD i 0:Nat):Int)):=by
 obtain ⟨g,cap,e,hc⟩:=ownsRow_cell h (j:=i) (u:=intV (a.getD i 0)) (by rw [List.getElem?_map,List.getD_eq_getElem?_getD,List.getElem?_eq_getElem hi]; rfl)
 exact ⟨g,cap,e,(hb.cell (p:=⟨g,i,none⟩) (lt_of_cell hc)).trans hc⟩
set_option maxRecDepth 100000 in
set_option maxHeartbeats 4000000 in
theorem same_eq (a:List Nat) (va vb:Value) (w:World) (ha:RowOf w va a) (hb:RowOf w vb a) (hla:a.length≤1000) :
  Calls Tryz.prog 16 #[va,vb] w fun e w'=>e = .returned (.bool true)∧Below w.heap.size w w':=by
 obtain ⟨aa,ac,rfl⟩:=ownsRow_form ha
 obtain ⟨ba,bc,rfl⟩:=ownsRow_form hb
 have HA:=Lib.hid ha
 have HB:=Lib.hid hb
 clear ha hb
 go_enter Tryz.func16,Tryz.ntmps16
 go_wp2_with fail
 go_loopw [5] (fun iv wr=>∃ i:Nat,i≤a.length∧iv = .int .i64 (i:Int)∧Hid (Below w.heap.size w wr)) (fun iv _=>a.length - (intOf iv).toNat)
 case atStart=>exact ⟨0,Nat.zero_le _,rfl,Lib.hid (Below.refl _ _)⟩
 case round =>
  obtain ⟨i,hia,rfl,HO⟩:=hrel
  have q1:IntKind.i64.wrap ((i:Int)+1)=(i:Int)+1:=IntWalk.i64_in _ (by omega)
  by_cases hil:i < a.length
  ·obtain ⟨ga,cpa,ea,ca⟩:=HA.out.cell HO.out hil
   simp only [Value.slice.injEq] at ea
   obtain ⟨rfl,_,rfl⟩:=ea
   obtain ⟨gb,cpb,eb,cb⟩:=HB.out.cell HO.out hil
   simp only [Value.slice.injEq] at eb
   obtain ⟨rfl,_,rfl⟩:=eb
   have zi:(0:Int)≤(i:Int)∧(i:Int) < (a.length:Int):=by omega
   generalize a.getD i 0=Av at *
   go_upto_region 6 with fail
   go_quiet (fail)
   go_wp2_with fail
   go_roundw
   case rel=>exact ⟨i+1,by omega,by go_num,Lib.hid (below_drewNv HO.out _)⟩
   case measure=>(simp [intOf]) <;> omega
  ·obtain rfl:i=a.length:=by omega
   go_wp2_with fail
   go_ret
   exact ⟨rfl,HO.out⟩
end Go.Proofs.Ts
namespace Go.Proofs.Ts
open Go Go.RowKit
theorem RowOf.cells {w w':World} {v:Value} {a:List Nat} (h:RowOf w v a) (hc:Cells w w'):RowOf w' v a:=ownsRow_typed h fun k cs r hk=>hc.2 k cs _ r hk (by decide)
theorem RowOf.below {w w':World} {v:Value} {a:List Nat} (h:RowOf w v a) (hb:Below w.heap.size w w'):RowOf w' v a:=ownsRow_block h fun k e=>hb.block k (h.lt k e).2
theorem list_str (x:ByteArray):(⟨x.data.toList.toArray⟩:ByteArray)=x:=by cases x; simp
end Go.Proofs.Ts
namespace Go.Proofs.Ts
open Go Go.RowKit
theorem ask_str (B:Nat) (kind:Int) (a b:ByteArray) (f:List UInt8→Bool) (sb:Nat) (D:List (List (List UInt8))) (w:World)
  (hB:B≤w.heap.size) (hseg:Seg B w sb D) (hD:D.length≤1000) (hcomp:CompileOk w ⟨kind,a.data.toList,b.data.toList,0,400⟩) (hacc:accOf ⟨kind,a.data.toList,b.data.toList,0,400⟩=some f) :
  Calls Tryz.prog 14 #[ptrV sb,.int .i64 kind,.string a,.string b,.int .i64 0] w fun e w'=>∃ ov,e = .returned (.tuple #[ov,.bool true])∧Seg B w' sb D∧Below B w w'∧Cells w w'∧RowOf w' ov (docsOf D f):=by
 have h:=ask_any B kind 0 a.data.toList b.data.toList f sb D w hB hseg hD hcomp hacc
 unfold strV at h
 rw [list_str,list_str] at h
 exact h
set_option maxRecDepth 100000 in
set_option maxHeartbeats 4000000 in
theorem alike_any (docs:List ByteArray) (x:ByteArray) (v:Value) (w:World) (hT:BitTab w) (hv:StrsIs w v docs) (hl:docs.length≤9223372036854775807) (hx:x.size≤9223372036854775807) :
  Calls Tryz.prog 4 #[v,.string x] w fun e w'=>e = .returned (.bool true)∧Below w.heap.size w w':=by
 obtain ⟨va,vc,rfl,hc⟩:=id hv
 have HV:=Lib.hid hv
 have HT:=Lib.hid hT
 clear hv hc hT
 go_enter Tryz.func4,Tryz.ntmps4
 go_wp2_with fail
 refine (keepBuild_any docs _ w HV.out hl).mono ?_
 rintro e w1 ⟨hb1,hres⟩
 have HB1:=Lib.hid hb1
 clear hb1
 rcases hres with ⟨_,rfl⟩ | ⟨hsm,sb,rfl,hs1⟩
 ·go_wp2_with fail
  go_ret
  exact ⟨rfl,HB1.out⟩
 ·have hparts:docs.length≤48:=by
   unfold smallW at hsm
   simp at hsm
   exact hsm.1
  have HS1:=Lib.hid hs1
  clear hs1 hsm
  obtain ⟨D,hD⟩:∃ D,D=docs.map wordsB:=⟨_,rfl⟩
  have hDl:D.length≤48:=by rw [hD]; simpa using hparts
  rw [← hD] at HS1
  clear hD hparts
  have hwo:=word_any x w1 hx
  obtain ⟨ok,hok⟩:∃ ok,ok=wordW x.data.toList:=⟨_,rfl⟩
  rw [← hok] at hwo
  have HOK:=Lib.hid hok
  have HWO:=Lib.hid hwo
  clear hok hwo
  unfold ptrV
  go_upto_region 5 with (go_at_call 13; refine HWO.out.mono ?_; rintro e w2 ⟨rfl,hsw⟩)
  have H2:=Lib.hid (And.intro (HB1.out.trans (hsw.below _)) (HS1.out.below (hsw.below _)))
  clear hsw HWO
  cases ok with
  | false =>
   go_wp2_with fail
   go_ret
   exact ⟨rfl,H2.out.1⟩
  | true =>
   by_cases h12:x.size≤12
   case neg =>
    have g1:decide ((12:Int) < (x.size:Int))=true:=decide_eq_true (by omega)
    go_wp2_with fail
    go_ret
    exact ⟨rfl,H2.out.1⟩
   case pos =>
    have g1:decide ((12:Int) < (x.size:Int))=false:=decide_eq_false (by omega)
    go_wp2_with fail
    clear g1 hx
    go_loopw [8,9] (fun lv iv wr=>∃ (k:Nat) (lb:ByteArray),k≤x.size∧iv = .int .i64 k∧lv = .string lb∧lb.size=2 * k∧Hid (lb.data.toList=litL (x.data.toList.take k))∧Same w2 wr) (fun lv iv _=>x.size - (intOf iv).toNat)
    case atStart=>exact ⟨0,_,Nat.zero_le _,rfl,rfl,rfl,Lib.hid rfl,Same.refl _⟩
    case round =>
     obtain ⟨k,lb,hk,rfl,rfl,hlb,HLB,hS⟩:=hrel
     by_cases hlt:k < x.size
     ·have g2:decide ((k:Int) < (x.size:Int))=true:=decide_eq_true (by omega)
      go_wp2_with fail
      have hxe:(x.extract k (k+1)).data.toList=[x[k]]:=by
       have e:=take_succ_str x k hlt
       have e2:(x.extract k (k+1)).data.toList=(x.data.toList.take (k+1)).drop k:=by simp [ByteArray.data_extract,List.drop_take]
       rw [e2,e,List.drop_append_of_le_length (by simp; omega),List.drop_of_length_le (by simp; omega)]
       rfl
      have hlb2:(lb++⟨#[92]⟩++x.extract k (k+1)).data.toList=litL (x.data.toList.take (k+1)):=by
       rw [take_succ_str x k hlt,litL_app,← HLB.out]
       simp only [ByteArray.data_append,Array.toList_append,hxe,List.append_assoc]
       rfl
      have hsz:(lb++⟨#[92]⟩++x.extract k (k+1)).size=2 * (k+1):=by
       have e:=congrArg List.length hlb2
       rw [len_list,litL_len,List.length_take,len_list] at e
       omega
      exact ⟨⟨k+1,_,by omega,by go_num,rfl,hsz,Lib.hid hlb2,hS⟩,by simp [intOf]; omega⟩
     ·obtain rfl:k=x.size:=by omega
      have hlit:lb.data.toList=litL x.data.toList:=by
       rw [HLB.out,List.take_of_length_le (by simp)]
      have hlen:=len_list x
      have hxne:x.data.toList≠[]:=by
       intro e
       have:=HOK.out
       rw [e] at this
       cases this
      have hs20:x.data.toList.length≤40:=by omega
      have hl40:lb.data.toList.length≤40:=by rw [len_list]; omega
      have hllist:(⟨lb.data.toList.toArray⟩:ByteArray)=lb:=list_str lb
      obtain ⟨wd,hwd⟩:∃ wd,wd=x.data.toList:=⟨_,rfl⟩
      rw [← hwd] at hlit hlen hxne hs20
      have hct:=litA_count hxne hs20
      have hx1:Hid (x.data.toList.length≤40∧x.data.toList=wd):=Lib.hid ⟨by rw [← hwd]; exact hs20,hwd.symm⟩
      have hA1:accOf ⟨1,wd,[],0,400⟩=some fun u=>decide (u=wd):=by simp only [accOf,if_pos hs20,if_true]
      have hA5:accOf ⟨5,lb.data.toList,[],0,400⟩=some fun u=>decide (u=wd):=by
       rw [show accOf ⟨5,lb.data.toList,[],0,400⟩=_ from acc_pat (st:=400) hl40,hllist]
       exact patAcc_of (lit_parse hlit hs20) (litA_slim hxne hs20) hct.1 fun u=>by rw [litA_lang,decide_eq_true_eq]
      have hA3:accOf ⟨3,wd,wd,0,400⟩=some fun u=>decide (u=wd):=by
       rw [acc_range hs20 hs20]
       congr 1
       funext u
       exact between_one wd u hxne
      have hA4:accOf ⟨4,lb.data.toList,[],0,400⟩=some fun u=>decide (u=wd):=by
       rw [show accOf ⟨4,lb.data.toList,[],0,400⟩=_ from acc_wild (st:=400) hl40,hllist]
       exact patAcc_of (lit_wild hlit) (litA_slim hxne hs20) hct.1 fun u=>by rw [litA_lang,decide_eq_true_eq]
      have hA2:accOf ⟨2,wd,[],0,400⟩=some fun u=>decide (wd <+: u):=by
       have h21:¬ (2:Int)=1:=by decide
       simp only [accOf,if_pos hs20,if_neg h21,if_true]
      have hA4s:∀ s:ByteArray,s.data.toList=litL wd++[42]→s.data.toList.length≤40→accOf ⟨4,s.data.toList,[],0,400⟩=some fun u=>decide (wd <+: u):=fun s hs h40=>by
       rw [show accOf ⟨4,s.data.toList,[],0,400⟩=_ from acc_wild (st:=400) h40,list_str]
       exact patAcc_of (litAny_wild hs) (litAnyA_slim hxne hs20) hct.2 fun u=>by rw [litAnyA_lang,decide_eq_true_eq]
      have hA5s:∀ s:ByteArray,s.data.toList=litL wd++[46,42]→s.data.toList.length≤40→accOf ⟨5,s.data.toList,[],0,400⟩=some fun u=>decide (wd <+: u):=fun s hs h40=>by
       rw [show accOf ⟨5,s.data.toList,[],0,400⟩=_ from acc_pat (st:=400) h40,list_str]
       exact patAcc_of (litAny_parse hs hs20) (litAnyA_slim hxne hs20) hct.2 fun u=>by rw [litAnyA_lang,decide_eq_true_eq]
      have HA:=Lib.hid (And.intro hA1 (And.intro hA5 (And.intro hA3 (And.intro hA4 (And.intro hA2 (And.intro hA4s hA5s))))))
      have HL:=Lib.hid (And.intro hlit (And.intro hl40 hs20))
      have hf1:∃ f1,f1=fun u:List UInt8=>decide (u=wd):=⟨_,rfl⟩
      have lf1:=docsOf_len D fun u=>decide (u=wd)
      have lf2:=docsOf_len D fun u=>decide (wd <+: u)
      have H3:Hid (Below w.heap.size w wr∧Seg w.heap.size wr sb D):=Lib.hid ⟨H2.out.1.trans (hS.below _),H2.out.2.below (hS.below _)⟩
      clear hA1 hA5 hA3 hA4 hA2 hA4s hA5s hlit hl40 hllist hct hwd hxne hf1 HLB HOK
      have g2:decide ((x.size:Int) < (x.size:Int))=false:=decide_eq_false (by omega)
      go_wp2_with fail
      refine (ask_str w.heap.size 1 x ⟨#[]⟩ (fun u=>decide (u=wd)) sb D wr H3.out.1.size H3.out.2 (by omega) (compile_one hx1.out.1) (by rw [hx1.out.2]; exact HA.out.1)).mono ?_
      rintro e w4 ⟨o1,rfl,hs,hb,hc,hr⟩
      have H4:=Lib.hid (And.intro (H3.out.1.trans hb) hs)
      have Ro14:Hid (RowOf w4 o1 (docsOf D (fun u=>decide (u=wd)))):=Lib.hid hr
      clear hs hb hc hr
      go_wp2_with fail
      refine (ask_str w.heap.size 5 lb ⟨#[]⟩ (fun u=>decide (u=wd)) sb D w4 H4.out.1.size H4.out.2 (by omega) (compile_five (st:=400) HL.out.2.1 (HT.out.below H4.out.1) (by omega) (by omega)) HA.out.2.1).mono ?_
      rintro e w5 ⟨o2,rfl,hs,hb,hc,hr⟩
      have H5:=Lib.hid (And.intro (H4.out.1.trans hb) hs)
      have Ro15:Hid (RowOf w5 o1 (docsOf D (fun u=>decide (u=wd)))):=Lib.hid (Ro14.out.cells hc)
      have Ro25:Hid (RowOf w5 o2 (docsOf D (fun u=>decide (u=wd)))):=Lib.hid hr
      clear hs hb hc hr
      go_wp2_with fail
      refine (ask_str w.heap.size 3 x x (fun u=>decide (u=wd)) sb D w5 H5.out.1.size H5.out.2 (by omega) (compile_three hx1.out.1 hx1.out.1) (by rw [hx1.out.2]; exact HA.out.2.2.1)).mono ?_
      rintro e w6 ⟨o3,rfl,hs,hb,hc,hr⟩
      have H6:=Lib.hid (And.intro (H5.out.1.trans hb) hs)
      have Ro16:Hid (RowOf w6 o1 (docsOf D (fun u=>decide (u=wd)))):=Lib.hid (Ro15.out.cells hc)
      have Ro26:Hid (RowOf w6 o2 (docsOf D (fun u=>decide (u=wd)))):=Lib.hid (Ro25.out.cells hc)
      have Ro36:Hid (RowOf w6 o3 (docsOf D (fun u=>decide (u=wd)))):=Lib.hid hr
      clear hs hb hc hr
      go_wp2_with fail
      refine (ask_str w.heap.size 4 lb ⟨#[]⟩ (fun u=>decide (u=wd)) sb D w6 H6.out.1.size H6.out.2 (by omega) (compile_four (st:=400) HL.out.2.1 (HT.out.below H6.out.1) (by omega) (by omega)) HA.out.2.2.2.1).mono ?_
      rintro e w7 ⟨o4,rfl,hs,hb,hc,hr⟩
      have H7:=Lib.hid (And.intro (H6.out.1.trans hb) hs)
      have Ro17:Hid (RowOf w7 o1 (docsOf D (fun u=>decide (u=wd)))):=Lib.hid (Ro16.out.cells hc)
      have Ro27:Hid (RowOf w7 o2 (docsOf D (fun u=>decide (u=wd)))):=Lib.hid (Ro26.out.cells hc)
      have Ro37:Hid (RowOf w7 o3 (docsOf D (fun u=>decide (u=wd)))):=Lib.hid (Ro36.out.cells hc)
      have Ro47:Hid (RowOf w7 o4 (docsOf D (fun u=>decide (u=wd)))):=Lib.hid hr
      clear hs hb hc hr
      go_wp2_with fail
      refine (same_eq _ _ _ w7 Ro17.out Ro27.out (by omega)).mono ?_
      rintro e w8 ⟨rfl,hb⟩
      have H8:=Lib.hid (And.intro (H7.out.1.trans (hb.mono H7.out.1.size)) (H7.out.2.below hb))
      have Ro18:Hid (RowOf w8 o1 (docsOf D (fun u=>decide (u=wd)))):=Lib.hid (Ro17.out.below hb)
      have Ro28:Hid (RowOf w8 o2 (docsOf D (fun u=>decide (u=wd)))):=Lib.hid (Ro27.out.below hb)
      have Ro38:Hid (RowOf w8 o3 (docsOf D (fun u=>decide (u=wd)))):=Lib.hid (Ro37.out.below hb)
      have Ro48:Hid (RowOf w8 o4 (docsOf D (fun u=>decide (u=wd)))):=Lib.hid (Ro47.out.below hb)
      clear hb
      go_wp2_with fail
      refine (same_eq _ _ _ w8 Ro18.out Ro38.out (by omega)).mono ?_
      rintro e w9 ⟨rfl,hb⟩
      have H9:=Lib.hid (And.intro (H8.out.1.trans (hb.mono H8.out.1.size)) (H8.out.2.below hb))
      have Ro19:Hid (RowOf w9 o1 (docsOf D (fun u=>decide (u=wd)))):=Lib.hid (Ro18.out.below hb)
      have Ro29:Hid (RowOf w9 o2 (docsOf D (fun u=>decide (u=wd)))):=Lib.hid (Ro28.out.below hb)
      have Ro39:Hid (RowOf w9 o3 (docsOf D (fun u=>decide (u=wd)))):=Lib.hid (Ro38.out.below hb)
      have Ro49:Hid (RowOf w9 o4 (docsOf D (fun u=>decide (u=wd)))):=Lib.hid (Ro48.out.below hb)
      clear hb
      go_wp2_with fail
      refine (same_eq _ _ _ w9 Ro19.out Ro49.out (by omega)).mono ?_
      rintro e w10 ⟨rfl,hb⟩
      have H10:=Lib.hid (And.intro (H9.out.1.trans (hb.mono H9.out.1.size)) (H9.out.2.below hb))
      have Ro110:Hid (RowOf w10 o1 (docsOf D (fun u=>decide (u=wd)))):=Lib.hid (Ro19.out.below hb)
      have Ro210:Hid (RowOf w10 o2 (docsOf D (fun u=>decide (u=wd)))):=Lib.hid (Ro29.out.below hb)
      have Ro310:Hid (RowOf w10 o3 (docsOf D (fun u=>decide (u=wd)))):=Lib.hid (Ro39.out.below hb)
      have Ro410:Hid (RowOf w10 o4 (docsOf D (fun u=>decide (u=wd)))):=Lib.hid (Ro49.out.below hb)
      clear hb
      go_wp2_with fail
      refine (ask_str w.heap.size 2 x ⟨#[]⟩ (fun u=>decide (wd <+: u)) sb D w10 H10.out.1.size H10.out.2 (by omega) (compile_two hx1.out.1) (by rw [hx1.out.2]; exact HA.out.2.2.2.2.1)).mono ?_
      rintro e w11 ⟨o5,rfl,hs,hb,hc,hr⟩
      have H11:=Lib.hid (And.intro (H10.out.1.trans hb) hs)
      have Ro511:Hid (RowOf w11 o5 (docsOf D (fun u=>decide (wd <+: u)))):=Lib.hid hr
      clear hs hb hc hr
      obtain ⟨s6,hs6⟩:∃ s:ByteArray,s=lb++⟨#[42]⟩:=⟨_,rfl⟩
      have hl6:s6.data.toList=litL wd++[42]:=by rw [hs6,← HL.out.1]; simp
      have hz6:s6.data.toList.length≤40:=by rw [hl6,List.length_append,litL_len]; simp; omega
      have HS6:=Lib.hid (And.intro hl6 hz6)
      have HE6:=Lib.hid hs6
      clear hl6 hz6 hs6
      go_wp2_with fail
      rw [← HE6.out]
      refine (ask_str w.heap.size 4 s6 ⟨#[]⟩ (fun u=>decide (wd <+: u)) sb D w11 H11.out.1.size H11.out.2 (by omega) (compile_four (st:=400) HS6.out.2 (HT.out.below H11.out.1) (by omega) (by omega)) (HA.out.2.2.2.2.2.1 s6 HS6.out.1 HS6.out.2)).mono ?_
      rintro e w12 ⟨o6,rfl,hs,hb,hc,hr⟩
      have H12:=Lib.hid (And.intro (H11.out.1.trans hb) hs)
      have Ro512:Hid (RowOf w12 o5 (docsOf D (fun u=>decide (wd <+: u)))):=Lib.hid (Ro511.out.cells hc)
      have Ro612:Hid (RowOf w12 o6 (docsOf D (fun u=>decide (wd <+: u)))):=Lib.hid hr
      clear hs hb hc hr
      obtain ⟨s7,hs7⟩:∃ s:ByteArray,s=lb++⟨#[46,42]⟩:=⟨_,rfl⟩
      have hl7:s7.data.toList=litL wd++[46,42]:=by rw [hs7,← HL.out.1]; simp
      have hz7:s7.data.toList.length≤40:=by rw [hl7,List.length_append,litL_len]; simp; omega
      have HS7:=Lib.hid (And.intro hl7 hz7)
      have HE7:=Lib.hid hs7
      clear hl7 hz7 hs7
      go_wp2_with fail
      rw [← HE7.out]
      refine (ask_str w.heap.size 5 s7 ⟨#[]⟩ (fun u=>decide (wd <+: u)) sb D w12 H12.out.1.size H12.out.2 (by omega) (compile_five (st:=400) HS7.out.2 (HT.out.below H12.out.1) (by omega) (by omega)) (HA.out.2.2.2.2.2.2 s7 HS7.out.1 HS7.out.2)).mono ?_
      rintro e w13 ⟨o7,rfl,hs,hb,hc,hr⟩
      have H13:=Lib.hid (And.intro (H12.out.1.trans hb) hs)
      have Ro513:Hid (RowOf w13 o5 (docsOf D (fun u=>decide (wd <+: u)))):=Lib.hid (Ro512.out.cells hc)
      have Ro613:Hid (RowOf w13 o6 (docsOf D (fun u=>decide (wd <+: u)))):=Lib.hid (Ro612.out.cells hc)
      have Ro713:Hid (RowOf w13 o7 (docsOf D (fun u=>decide (wd <+: u)))):=Lib.hid hr
      clear hs hb hc hr
      go_wp2_with fail
      refine (same_eq _ _ _ w13 Ro513.out Ro613.out (by omega)).mono ?_
      rintro e w14 ⟨rfl,hb⟩
      have H14:=Lib.hid (And.intro (H13.out.1.trans (hb.mono H13.out.1.size)) (H13.out.2.below hb))
      have Ro514:Hid (RowOf w14 o5 (docsOf D (fun u=>decide (wd <+: u)))):=Lib.hid (Ro513.out.below hb)
      have Ro614:Hid (RowOf w14 o6 (docsOf D (fun u=>decide (wd <+: u)))):=Lib.hid (Ro613.out.below hb)
      have Ro714:Hid (RowOf w14 o7 (docsOf D (fun u=>decide (wd <+: u)))):=Lib.hid (Ro713.out.below hb)
      clear hb
      go_wp2_with fail
      refine (same_eq _ _ _ w14 Ro514.out Ro714.out (by omega)).mono ?_
      rintro e w15 ⟨rfl,hb⟩
      have H15:=Lib.hid (And.intro (H14.out.1.trans (hb.mono H14.out.1.size)) (H14.out.2.below hb))
      have Ro515:Hid (RowOf w15 o5 (docsOf D (fun u=>decide (wd <+: u)))):=Lib.hid (Ro514.out.below hb)
      have Ro615:Hid (RowOf w15 o6 (docsOf D (fun u=>decide (wd <+: u)))):=Lib.hid (Ro614.out.below hb)
      have Ro715:Hid (RowOf w15 o7 (docsOf D (fun u=>decide (wd <+: u)))):=Lib.hid (Ro714.out.below hb)
      clear hb
      go_wp2_with fail
      go_ret
      exact ⟨rfl,H15.out.1⟩
end Go.Proofs.Ts
