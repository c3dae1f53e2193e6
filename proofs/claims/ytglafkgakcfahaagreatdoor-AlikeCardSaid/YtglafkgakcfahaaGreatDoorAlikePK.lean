/- Lemmas towards the statement Alike of termsearch: walks of the program's functions and plain laws on lists (TsSeq, TsParsB, TsParsC, TsAlt, TsAtom, TsAltAny, TsCatch, TsParse, TsParsOk, TsPartB). Conditions: those that each theorem names. -/
import Derived.Test.YtglafkgakcfahaaGreatDoorAlikePI
import Derived.Test.YtglafkgakcfahaaGreatDoorAlikePJ
import Derived.Test.YtglafkgakcfahaaGreatDoorAlikePH
import Derived.Test.YtglafkgakcfahaaGreatDoorAlikePG
import Derived.Defers
import Derived.Recover
set_option linter.unusedVariables false
set_option linter.unusedSimpArgs false
set_option linter.unusedSectionVars false
namespace Go.Proofs.Ts
open Go Go.RowKit
set_option maxRecDepth 100000 in
set_option maxHeartbeats 8000000 in
theorem sequence_any (rb:Nat) (s:ByteArray) (i:Nat) (tv:Value) (T:Times) (A:Nat→PR Ast) (w:World) (hR:RdIs w rb s i)
  (hon:∀ q,q≤s.size→(repP T A s q).On s q)
  (hA:∀ q w,RdIs w rb s q→i≤q→Calls Tryz.prog 173 #[ptrV rb,tv] w (Reads Ast.val rb s w (repP T A s q))) :
  Calls Tryz.prog 148 #[ptrV rb,tv] w (Reads Ast.val rb s w (seqP T A s (s.size+1) .empty i)):=by
 obtain ⟨R,hRd⟩:∃ R,R=seqP T A s (s.size+1) .empty i:=⟨_,rfl⟩
 rw [← hRd]
 have H0:Hid (R=seqP T A s (s.size+1) .empty i∧s.size < s.size+1+i∧RdIs w rb s i∧Mod (fun j=>j=rb) w w):=Lib.hid ⟨hRd,by omega,hR,Mod.refl _ _⟩
 have HREP:=Lib.hid hA
 have HON:=Lib.hid hon
 clear hRd hR hA hon
 unfold ptrV
 go_enter Tryz.func148,Tryz.ntmps148
 go_wp2_with fail
 go_loopw [5] (fun v wr=>∃ (f:Nat) (x:Ast) (q:Nat),v=x.val∧Hid (i≤q)∧Hid (R=seqP T A s f x q∧s.size < f+q∧RdIs wr rb s q∧Mod (fun j=>j=rb) w wr)) (fun _ wr=>s.size - rdAt wr rb)
 case atStart=>exact ⟨_,.empty,i,rfl,Lib.hid (Nat.le_refl _),H0⟩
 case round =>
  clear H0
  obtain ⟨f0,x,q,rfl,HIQ,HI⟩:=hrel
  obtain ⟨f,rfl⟩:∃ f,f0=f+1:=⟨f0 - 1,by have:=HI.out.2.1; have:=HI.out.2.2.1.2.1; omega⟩
  have HS:=Lib.hid (show RdIs wr.drew rb s q∧Mod (fun j=>j=rb) w wr.drew from ⟨HI.out.2.2.1.same (Same.drew _),HI.out.2.2.2.trans (Mod.same (Same.drew _))⟩)
  go_wp2_with fail
  by_cases hlt:q < s.size
  ·obtain ⟨b1,hb1⟩:∃ b,b=isB s q 124:=⟨_,rfl⟩
   have HB1:=Lib.hid hb1
   clear hb1
   cases b1
   ·obtain ⟨b2,hb2⟩:∃ b,b=isB s q 41:=⟨_,rfl⟩
    have HB2:=Lib.hid hb2
    clear hb2
    cases b2
    ·have HM:Hid (moreB s q=true):=Lib.hid (by
      unfold moreB
      rw [decide_eq_true hlt,← HB1.out,← HB2.out]
      rfl)
     refine wp_region_ordP [(0,false),(1,false),(2,false),(3,false),(4,false),(5,false),(6,false),(7,false),(8,false),(9,false),(10,false),(11,false),(12,true),(13,false),(14,false),(15,false),(16,false),(17,true),(18,false),(19,false)]
      (fun w'=>RdIs w' rb s q∧Mod (fun j=>j=rb) w w') (fun c w'=>False) (fun c a w' hd h=>h.elim) (by kernel_rfl) (by kernel_rfl) HS.out ?_
     iterate 12 (
      refine wpOrdP_quiet ?_ rfl rfl (fun w' hS=>?_) ?_
      rotate_left
      ·have e0:=hS.1.c0
       have e1:=hS.1.c1
       go_simp
       first | rfl | done
      simp only [put_lit,List.set_cons_succ,List.set_cons_zero])
     refine wpOrdP_loud rfl rfl (by decide) (fun K hK=>?_)
     have HK:=Lib.hid hK
     clear hK
     go_simp
     have hcall:=is_any rb s q 124 _ HS.out.1
     unfold ptrV at hcall
     refine hcall.mono ?_
     clear hcall
     rintro e wb ⟨rfl,hsb⟩
     rw [← HB1.out]
     have HSb:=Lib.hid (show RdIs wb rb s q∧Mod (fun j=>j=rb) w wb from ⟨HS.out.1.same hsb,HS.out.2.trans (Mod.same hsb)⟩)
     clear hsb HS
     have HS:=HSb
     clear HSb
     refine HK.out _ _ HS.out ?_
     clear HK K
     iterate 4 (
      refine wpOrdP_quiet ?_ rfl rfl (fun w' hS=>?_) ?_
      rotate_left
      ·have e0:=hS.1.c0
       have e1:=hS.1.c1
       go_simp
       first | rfl | done
      simp only [put_lit,List.set_cons_succ,List.set_cons_zero])
     refine wpOrdP_loud rfl rfl (by decide) (fun K hK=>?_)
     have HK:=Lib.hid hK
     clear hK
     go_simp
     have hcall:=is_any rb s q 41 _ HS.out.1
     unfold ptrV at hcall
     refine hcall.mono ?_
     clear hcall
     rintro e wb ⟨rfl,hsb⟩
     rw [← HB2.out]
     have HSb:=Lib.hid (show RdIs wb rb s q∧Mod (fun j=>j=rb) w wb from ⟨HS.out.1.same hsb,HS.out.2.trans (Mod.same hsb)⟩)
     clear hsb HS
     have HS:=HSb
     clear HSb
     refine HK.out _ _ HS.out ?_
     clear HK K
     iterate 2 (
      refine wpOrdP_quiet ?_ rfl rfl (fun w' hS=>?_) ?_
      rotate_left
      ·have e0:=hS.1.c0
       have e1:=hS.1.c1
       go_simp
       first | rfl | done
      simp only [put_lit,List.set_cons_succ,List.set_cons_zero])
     refine wpOrdP_nil ?_
     go_wp2_with fail
     have hcall:=HREP.out q _ HS.out.1 HIQ.out
     unfold ptrV at hcall
     refine hcall.mono ?_
     clear hcall
     have hon:=HON.out q HS.out.1.2.1
     have HF:Hid (∀ p,repP T A s q = .fault p→R = .fault p):=Lib.hid fun p hp=>by rw [HI.out.1,seqP,if_pos HM.out,hp]
     have HO:Hid (∀ y j,repP T A s q = .ok y j→R=seqP T A s f (x.join y) j):=Lib.hid fun y j hp=>by rw [HI.out.1,seqP,if_pos HM.out,hp]
     obtain ⟨D,hD⟩:∃ D,D=repP T A s q:=⟨_,rfl⟩
     rw [← hD] at hon HF HO ⊢
     have HD:=Lib.hid (And.intro hD hon)
     clear hD hon
     cases D with
     | fault p =>
      rintro e wd ⟨rfl,hmd⟩
      refine ⟨rfl,?_⟩
      rw [HF.out p rfl]
      exact ⟨rfl,HS.out.2.trans hmd⟩
     | ok y j =>
      rintro e wd ⟨rfl,hrd,hmd⟩
      have HJ:Hid (q < j∧j≤s.size):=Lib.hid HD.out.2
      have HSd:=Lib.hid (And.intro hrd (HS.out.2.trans hmd))
      clear hrd hmd
      have hcall:=join_any x y wd
      go_wp2_with fail
      refine hcall.mono ?_
      clear hcall
      rintro e we ⟨rfl,hbe⟩
      have HN:Hid (R=seqP T A s f (x.join y) j∧s.size < f+j∧RdIs we rb s j∧Mod (fun j=>j=rb) w we):=Lib.hid ⟨HO.out y j rfl,by have:=HI.out.2.1; have:=HJ.out; omega,HSd.out.1.below hbe,HSd.out.2.trans (below_mod hbe)⟩
      have HMS:Hid (s.size - rdAt we rb < s.size - rdAt wr rb):=Lib.hid (by
       rw [rdAt_is HN.out.2.2.1,rdAt_is HI.out.2.2.1]
       have:=HJ.out
       omega)
      clear hbe
      go_wp2_with fail
      exact ⟨⟨f,_,j,rfl,Lib.hid (by have:=HIQ.out; have:=HJ.out; omega),HN⟩,HMS.out⟩
    ·have HM:Hid (moreB s q=false):=Lib.hid (by
      unfold moreB
      rw [decide_eq_true hlt,← HB1.out,← HB2.out]
      rfl)
     refine wp_region_ordP [(0,false),(1,false),(2,false),(3,false),(4,false),(5,false),(6,false),(7,false),(8,false),(9,false),(10,false),(11,false),(12,true),(13,false),(14,false),(15,false),(16,false),(17,true),(18,false),(19,false)]
      (fun w'=>RdIs w' rb s q∧Mod (fun j=>j=rb) w w') (fun c w'=>False) (fun c a w' hd h=>h.elim) (by kernel_rfl) (by kernel_rfl) HS.out ?_
     iterate 12 (
      refine wpOrdP_quiet ?_ rfl rfl (fun w' hS=>?_) ?_
      rotate_left
      ·have e0:=hS.1.c0
       have e1:=hS.1.c1
       go_simp
       first | rfl | done
      simp only [put_lit,List.set_cons_succ,List.set_cons_zero])
     refine wpOrdP_loud rfl rfl (by decide) (fun K hK=>?_)
     have HK:=Lib.hid hK
     clear hK
     go_simp
     have hcall:=is_any rb s q 124 _ HS.out.1
     unfold ptrV at hcall
     refine hcall.mono ?_
     clear hcall
     rintro e wb ⟨rfl,hsb⟩
     rw [← HB1.out]
     have HSb:=Lib.hid (show RdIs wb rb s q∧Mod (fun j=>j=rb) w wb from ⟨HS.out.1.same hsb,HS.out.2.trans (Mod.same hsb)⟩)
     clear hsb HS
     have HS:=HSb
     clear HSb
     refine HK.out _ _ HS.out ?_
     clear HK K
     iterate 4 (
      refine wpOrdP_quiet ?_ rfl rfl (fun w' hS=>?_) ?_
      rotate_left
      ·have e0:=hS.1.c0
       have e1:=hS.1.c1
       go_simp
       first | rfl | done
      simp only [put_lit,List.set_cons_succ,List.set_cons_zero])
     refine wpOrdP_loud rfl rfl (by decide) (fun K hK=>?_)
     have HK:=Lib.hid hK
     clear hK
     go_simp
     have hcall:=is_any rb s q 41 _ HS.out.1
     unfold ptrV at hcall
     refine hcall.mono ?_
     clear hcall
     rintro e wb ⟨rfl,hsb⟩
     rw [← HB2.out]
     have HSb:=Lib.hid (show RdIs wb rb s q∧Mod (fun j=>j=rb) w wb from ⟨HS.out.1.same hsb,HS.out.2.trans (Mod.same hsb)⟩)
     clear hsb HS
     have HS:=HSb
     clear HSb
     refine HK.out _ _ HS.out ?_
     clear HK K
     iterate 2 (
      refine wpOrdP_quiet ?_ rfl rfl (fun w' hS=>?_) ?_
      rotate_left
      ·have e0:=hS.1.c0
       have e1:=hS.1.c1
       go_simp
       first | rfl | done
      simp only [put_lit,List.set_cons_succ,List.set_cons_zero])
     refine wpOrdP_nil ?_
     have hRr:R = .ok x q:=by rw [HI.out.1]; unfold seqP; rw [if_neg (by rw [HM.out]; decide)]
     subst hRr
     go_wp2_with fail
     go_ret
     exact ⟨rfl,HS.out⟩
   ·have HM:Hid (moreB s q=false):=Lib.hid (by
     unfold moreB
     rw [decide_eq_true hlt,← HB1.out]
     rfl)
    refine wp_region_ordP [(0,false),(1,false),(2,false),(3,false),(4,false),(5,false),(6,false),(7,false),(8,false),(9,false),(10,false),(11,false),(12,true),(13,false),(14,false),(15,false),(16,false),(17,true),(18,false),(19,false)]
     (fun w'=>RdIs w' rb s q∧Mod (fun j=>j=rb) w w') (fun c w'=>False) (fun c a w' hd h=>h.elim) (by kernel_rfl) (by kernel_rfl) HS.out ?_
    iterate 12 (
     refine wpOrdP_quiet ?_ rfl rfl (fun w' hS=>?_) ?_
     rotate_left
     ·have e0:=hS.1.c0
      have e1:=hS.1.c1
      go_simp
      first | rfl | done
     simp only [put_lit,List.set_cons_succ,List.set_cons_zero])
    refine wpOrdP_loud rfl rfl (by decide) (fun K hK=>?_)
    have HK:=Lib.hid hK
    clear hK
    go_simp
    have hcall:=is_any rb s q 124 _ HS.out.1
    unfold ptrV at hcall
    refine hcall.mono ?_
    clear hcall
    rintro e wb ⟨rfl,hsb⟩
    rw [← HB1.out]
    have HSb:=Lib.hid (show RdIs wb rb s q∧Mod (fun j=>j=rb) w wb from ⟨HS.out.1.same hsb,HS.out.2.trans (Mod.same hsb)⟩)
    clear hsb HS
    have HS:=HSb
    clear HSb
    refine HK.out _ _ HS.out ?_
    clear HK K
    iterate 3 (
     refine wpOrdP_quiet ?_ rfl rfl (fun w' hS=>?_) ?_
     rotate_left
     ·have e0:=hS.1.c0
      have e1:=hS.1.c1
      go_simp
      first | rfl | done
     simp only [put_lit,List.set_cons_succ,List.set_cons_zero])
    iterate 1 (
     refine wpOrdP_skip rfl rfl ?_
     simp only [put_lit,List.set_cons_succ,List.set_cons_zero])
    refine wpOrdP_loudskip rfl rfl ?_
    simp only [put_lit,List.set_cons_succ,List.set_cons_zero]
    iterate 1 (
     refine wpOrdP_skip rfl rfl ?_
     simp only [put_lit,List.set_cons_succ,List.set_cons_zero])
    iterate 1 (
     refine wpOrdP_quiet ?_ rfl rfl (fun w' hS=>?_) ?_
     rotate_left
     ·have e0:=hS.1.c0
      have e1:=hS.1.c1
      go_simp
      first | rfl | done
     simp only [put_lit,List.set_cons_succ,List.set_cons_zero])
    refine wpOrdP_nil ?_
    have hRr:R = .ok x q:=by rw [HI.out.1]; unfold seqP; rw [if_neg (by rw [HM.out]; decide)]
    subst hRr
    go_wp2_with fail
    go_ret
    exact ⟨rfl,HS.out⟩
  ·have HM:Hid (moreB s q=false):=Lib.hid (by
    unfold moreB
    rw [decide_eq_false hlt]
    rfl)
   have q2:decide (q < s.size)=false:=decide_eq_false hlt
   clear hlt
   refine wp_region_ordP [(0,false),(1,false),(2,false),(3,false),(4,false),(5,false),(6,false),(7,false),(8,false),(9,false),(10,false),(11,false),(12,true),(13,false),(14,false),(15,false),(16,false),(17,true),(18,false),(19,false)]
    (fun w'=>RdIs w' rb s q∧Mod (fun j=>j=rb) w w') (fun c w'=>False) (fun c a w' hd h=>h.elim) (by kernel_rfl) (by kernel_rfl) HS.out ?_
   iterate 11 (
    refine wpOrdP_quiet ?_ rfl rfl (fun w' hS=>?_) ?_
    rotate_left
    ·have e0:=hS.1.c0
     have e1:=hS.1.c1
     go_simp
     first | rfl | done
    simp only [put_lit,List.set_cons_succ,List.set_cons_zero])
   iterate 1 (
    refine wpOrdP_skip rfl rfl ?_
    simp only [put_lit,List.set_cons_succ,List.set_cons_zero])
   refine wpOrdP_loudskip rfl rfl ?_
   simp only [put_lit,List.set_cons_succ,List.set_cons_zero]
   iterate 1 (
    refine wpOrdP_skip rfl rfl ?_
    simp only [put_lit,List.set_cons_succ,List.set_cons_zero])
   iterate 2 (
    refine wpOrdP_quiet ?_ rfl rfl (fun w' hS=>?_) ?_
    rotate_left
    ·have e0:=hS.1.c0
     have e1:=hS.1.c1
     go_simp
     first | rfl | done
    simp only [put_lit,List.set_cons_succ,List.set_cons_zero])
   iterate 1 (
    refine wpOrdP_skip rfl rfl ?_
    simp only [put_lit,List.set_cons_succ,List.set_cons_zero])
   refine wpOrdP_loudskip rfl rfl ?_
   simp only [put_lit,List.set_cons_succ,List.set_cons_zero]
   iterate 1 (
    refine wpOrdP_skip rfl rfl ?_
    simp only [put_lit,List.set_cons_succ,List.set_cons_zero])
   iterate 1 (
    refine wpOrdP_quiet ?_ rfl rfl (fun w' hS=>?_) ?_
    rotate_left
    ·have e0:=hS.1.c0
     have e1:=hS.1.c1
     go_simp
     first | rfl | done
    simp only [put_lit,List.set_cons_succ,List.set_cons_zero])
   refine wpOrdP_nil ?_
   have hRr:R = .ok x q:=by rw [HI.out.1]; unfold seqP; rw [if_neg (by rw [HM.out]; decide)]
   subst hRr
   go_wp2_with fail
   go_ret
   exact ⟨rfl,HS.out⟩
end Go.Proofs.Ts
namespace Go.Proofs.Ts
open Go
/-! ### Whatever becomes of repeats, the places are the same. -/
def PR.Sim {α β:Type}:PR α→PR β→Prop
 | .fault e,.fault e'=>e=e'
 | .ok _ j,.ok _ j'=>j=j'
 | _,_=>False
theorem PR.sim_refl {α:Type} (r:PR α):r.Sim r:=by cases r <;> rfl
section
variable {T T':Times} {A A':Nat→PR Ast} {s:ByteArray}
theorem atom_sim (hA:∀ j,(A j).Sim (A' j)) (i:Nat):(atomP A s i).Sim (atomP A' s i):=by
 unfold atomP
 split
 ·rfl
 ·rename_i c hc
  split
  ·have h:=hA (i+1)
   cases h1:A (i+1) <;> cases h2:A' (i+1) <;> rw [h1,h2] at h
   ·exact h
   ·exact h.elim
   ·exact h.elim
   ·have h':_=_:=h
    subst h'
    dsimp only
    split <;> rfl
  ·split
   ·rfl
   ·exact PR.sim_refl _
theorem times_sim (a a':Ast) (i:Nat):(timesP T s a i).Sim (timesP T' s a' i):=by
 unfold timesP
 cases digitP s i 0 with
 | fault e=>rfl
 | ok lo j =>
  dsimp only
  split
  ·split
   ·rfl
   ·cases digitP s (j+1) lo with
    | fault e=>rfl
    | ok hi k=>dsimp only; split <;> rfl
  ·split <;> rfl
theorem behind_sim (a a':Ast) (i:Nat):(behindP T s a i).Sim (behindP T' s a' i):=by
 unfold behindP
 split
 ·rfl
 ·split
  ·rfl
  ·split
   ·rfl
   ·split
    ·exact times_sim a a' (i+1)
    ·rfl
theorem rep_sim (hA:∀ j,(A j).Sim (A' j)) (i:Nat):(repP T A s i).Sim (repP T' A' s i):=by
 unfold repP
 have h:=atom_sim (s:=s) hA i
 cases h1:atomP A s i <;> cases h2:atomP A' s i <;> rw [h1,h2] at h
 ·exact h
 ·exact h.elim
 ·exact h.elim
 ·have h':_=_:=h
  subst h'
  exact behind_sim _ _ _
theorem seq_sim (hA:∀ j,(A j).Sim (A' j)):∀ (f:Nat) (x x':Ast) (i:Nat),(seqP T A s f x i).Sim (seqP T' A' s f x' i)
 | 0,_,_,i=>rfl
 | f+1,x,x',i=>by
  unfold seqP
  split
  ·have h:=rep_sim (T:=T) (T':=T') (s:=s) hA i
   cases h1:repP T A s i <;> cases h2:repP T' A' s i <;> rw [h1,h2] at h
   ·exact h
   ·exact h.elim
   ·exact h.elim
   ·have h':_=_:=h
    subst h'
    exact seq_sim hA f _ _ _
  ·rfl
theorem or_sim (hA:∀ j,(A j).Sim (A' j)):∀ (f:Nat) (x x':Ast) (i:Nat),(orP T A s f x i).Sim (orP T' A' s f x' i)
 | 0,_,_,i=>rfl
 | f+1,x,x',i=>by
  unfold orP
  split
  ·have h:=seq_sim (T:=T) (T':=T') (s:=s) hA (s.size+1) .empty .empty (i+1)
   cases h1:seqP T A s (s.size+1) .empty (i+1) <;> cases h2:seqP T' A' s (s.size+1) .empty (i+1) <;> rw [h1,h2] at h
   ·exact h
   ·exact h.elim
   ·exact h.elim
   ·have h':_=_:=h
    subst h'
    exact or_sim hA f _ _ _
  ·rfl
theorem alt_sim (T T':Times) (s:ByteArray):∀ (n i:Nat),(altP T s n i).Sim (altP T' s n i)
 | 0,i=>rfl
 | n+1,i=>by
  have hA:=alt_sim T T' s n
  unfold altP
  have h:=seq_sim (T:=T) (T':=T') (s:=s) hA (s.size+1) .empty .empty i
  cases h1:seqP T (altP T s n) s (s.size+1) .empty i <;> cases h2:seqP T' (altP T' s n) s (s.size+1) .empty i <;> rw [h1,h2] at h
  ·exact h
  ·exact h.elim
  ·exact h.elim
  ·have h':_=_:=h
   subst h'
   exact or_sim hA _ _ _ _
end
/-! ### Within another text, ahead of a closing bracket. -/
section
variable {p s:ByteArray} {k:Nat}
end
/-! ### Patterns in brackets. -/
def AltIs (T:Times) (p:ByteArray) (x:Ast):Prop:=altP T p (p.size+1) 0 = .ok x p.size
end Go.Proofs.Ts
namespace Go.Proofs.Ts
open Go
theorem len_list (s:ByteArray):s.data.toList.length=s.size:=by simp
theorem isB_none {s:ByteArray} {i:Nat} (h:s.data.toList[i]?=none) (c:UInt8):isB s i c=false:=by unfold isB; rw [h]; rfl
theorem isB_some {s:ByteArray} {i:Nat} {d:UInt8} (h:s.data.toList[i]?=some d) (c:UInt8):isB s i c=decide (d=c):=by
 unfold isB
 rw [h]
 by_cases e:d=c
 ·subst e; simp
 ·simp [e]
theorem more_some {s:ByteArray} {i:Nat} {d:UInt8} (h:s.data.toList[i]?=some d):moreB s i=(!decide (d=124) && !decide (d=41)):=by
 unfold moreB
 rw [isB_some h,isB_some h,decide_eq_true (lt_of_at h)]
 rfl
theorem more_end {s:ByteArray}:moreB s s.size=false:=by
 unfold moreB
 rw [decide_eq_false (Nat.lt_irrefl _)]
 rfl
theorem or_end {T:Times} {A:Nat→PR Ast} {s:ByteArray} {f i:Nat} {x:Ast} (h:isB s i 124=false):orP T A s (f+1) x i = .ok x i:=by
 unfold orP
 rw [if_neg (by rw [h]; decide)]
theorem isB_end (s:ByteArray) (c:UInt8):isB s s.size c=false:=isB_none (at_end s s.size (Nat.le_refl _)) c
theorem behind_end {T:Times} {s:ByteArray} {a:Ast} {i:Nat} (h:∀ c,c=42∨c=43∨c=63∨c=123→isB s i c=false):behindP T s a i = .ok a i:=by
 unfold behindP
 rw [h 42 (by simp),h 43 (by simp),h 63 (by simp),h 123 (by simp)]
 simp
section
variable {T:Times} {p q s:ByteArray} {x y:Ast}
theorem parse_ok (h:parseP s = .ok x):∃ y,AltIs onceT s y∧AltIs repeatT s x∧x.places≤128:=by
 unfold parseP at h
 split at h
 ·cases h
 ·rename_i y j he
  split at h
  ·rename_i hj
   subst hj
   split at h
   ·cases h
   ·rename_i x' j' he2
    have hsim:=alt_sim onceT repeatT s (s.size+1) 0
    rw [he,he2] at hsim
    have hj:s.size=j':=hsim
    subst hj
    split at h
    ·cases h
    ·cases h
     exact ⟨y,he,he2,by omega⟩
  ·cases h
theorem parse_of (h1:AltIs onceT s y) (h2:AltIs repeatT s x):parseP s=if x.places > 128 then .big else .ok x:=by
 unfold parseP
 have h1':altP onceT s (s.size+1) 0 = .ok y s.size:=h1
 have h2':altP repeatT s (s.size+1) 0 = .ok x s.size:=h2
 rw [h1',h2']
 dsimp only
 rw [if_pos rfl]
end
theorem places_count (x:Ast) (h:x.places≤128):x.count=x.places:=by
 induction x with
 | empty=>rfl
 | huge=>exact absurd h (by decide)
 | one s=>rfl
 | seq a b iha ihb =>
  have h':min (a.places+b.places) 129≤128:=h
  show a.count+b.count=min (a.places+b.places) 129
  rw [iha (by omega),ihb (by omega)]
  omega
 | or a b iha ihb =>
  have h':min (a.places+b.places) 129≤128:=h
  show a.count+b.count=min (a.places+b.places) 129
  rw [iha (by omega),ihb (by omega)]
  omega
 | many a sm ih=>exact ih h
 | maybe a ih=>exact ih h
end Go.Proofs.Ts
namespace Go.Proofs.Ts
open Go Go.RowKit
set_option maxRecDepth 100000 in
set_option maxHeartbeats 4000000 in
theorem alternatives_any (rb:Nat) (s:ByteArray) (i:Nat) (tv:Value) (T:Times) (A:Nat→PR Ast) (w:World) (hR:RdIs w rb s i) (R:PR Ast)
  (hRf:∀ p,seqP T A s (s.size+1) .empty i = .fault p→R = .fault p) (hRo:∀ x j,seqP T A s (s.size+1) .empty i = .ok x j→R=orP T A s (s.size+1) x j)
  (hg:∀ q,q≤s.size→(seqP T A s (s.size+1) .empty q).Good s q)
  (hS:∀ q w,RdIs w rb s q→i≤q→Calls Tryz.prog 148 #[ptrV rb,tv] w (Reads Ast.val rb s w (seqP T A s (s.size+1) .empty q))) :
  Calls Tryz.prog 118 #[ptrV rb,tv] w (Reads Ast.val rb s w R):=by
 have hcall:=hS i w hR (Nat.le_refl _)
 have hgi:=hg i hR.2.1
 obtain ⟨D,hD⟩:∃ D,D=seqP T A s (s.size+1) .empty i:=⟨_,rfl⟩
 rw [← hD] at hcall hRf hRo hgi
 have HC:=Lib.hid hcall
 have HS:=Lib.hid hS
 have HG:=Lib.hid hg
 have HR:=Lib.hid (And.intro hRf hRo)
 have HGI:=Lib.hid hgi
 clear hcall hS hg hRf hRo hgi hD hR
 unfold ptrV
 go_enter Tryz.func118,Tryz.ntmps118
 go_wp2_with fail
 have hcall:=HC.out
 unfold ptrV at hcall
 refine hcall.mono ?_
 clear hcall HC
 cases D with
 | fault p =>
  rintro e w1 ⟨rfl,hm1⟩
  refine ⟨rfl,?_⟩
  rw [HR.out.1 p rfl]
  exact ⟨rfl,hm1⟩
 | ok x0 j0 =>
  rintro e w1 ⟨rfl,hr1,hm1⟩
  have hgi:=HGI.out
  have hgi':i≤j0∧j0≤s.size:=hgi
  have H0:Hid (R=orP T A s (s.size+1) x0 j0∧s.size < s.size+1+j0∧RdIs w1 rb s j0∧Mod (fun j=>j=rb) w w1):=Lib.hid ⟨HR.out.2 x0 j0 rfl,by omega,hr1,hm1⟩
  have HIJ:Hid (i≤j0):=Lib.hid hgi'.1
  clear hr1 hm1 hgi hgi' HGI HR
  go_wp2_with fail
  go_loopw [5] (fun v wr=>∃ (f:Nat) (x:Ast) (q:Nat),v=x.val∧Hid (i≤q)∧Hid (R=orP T A s f x q∧s.size < f+q∧RdIs wr rb s q∧Mod (fun j=>j=rb) w wr)) (fun _ wr=>s.size - rdAt wr rb)
  case atStart=>exact ⟨_,x0,j0,rfl,HIJ,H0⟩
  case round =>
   clear H0 HIJ
   obtain ⟨f0,x,q,rfl,HIQ,HI⟩:=hrel
   obtain ⟨f,rfl⟩:∃ f,f0=f+1:=⟨f0 - 1,by have:=HI.out.2.1; have:=HI.out.2.2.1.2.1; omega⟩
   obtain ⟨Tx,vx,hvx,_⟩:=asserts_isEmpty x
   have HVX:=Lib.hid hvx
   rw [hvx]
   clear hvx
   go_wp2_with fail
   have hcall:=eat_any rb s q 124 _ HI.out.2.2.1
   unfold ptrV at hcall
   refine hcall.mono ?_
   clear hcall
   obtain ⟨b,hb⟩:∃ b,b=isB s q 124:=⟨_,rfl⟩
   unfold eatB
   rw [← hb]
   have HB:=Lib.hid hb.symm
   clear hb
   rintro e w2 ⟨rfl,hr2,hm2⟩
   have HS2:=Lib.hid (And.intro hr2 (HI.out.2.2.2.trans hm2))
   clear hr2 hm2
   cases b
   case false =>
    have hRr:R = .ok x q:=by rw [HI.out.1]; exact or_end HB.out
    subst hRr
    go_wp2_with fail
    go_ret
    refine ⟨?_,HS2.out⟩
    show _=Ending.returned x.val
    rw [HVX.out]
    rfl
   case true =>
   go_wp2_with fail
   have hcall:=HS.out (q+1) _ HS2.out.1 (by have:=HIQ.out; omega)
   unfold ptrV at hcall
   refine hcall.mono ?_
   clear hcall
   have hg:=HG.out (q+1) HS2.out.1.2.1
   have HF:Hid (∀ p,seqP T A s (s.size+1) .empty (q+1) = .fault p→R = .fault p):=Lib.hid fun p hp=>by rw [HI.out.1,orP,if_pos HB.out,hp]
   have HO:Hid (∀ y j,seqP T A s (s.size+1) .empty (q+1) = .ok y j→R=orP T A s f (.or x y) j):=Lib.hid fun y j hp=>by rw [HI.out.1,orP,if_pos HB.out,hp]
   obtain ⟨D,hD⟩:∃ D,D=seqP T A s (s.size+1) .empty (q+1):=⟨_,rfl⟩
   rw [← hD] at hg HF HO ⊢
   have HGD:=Lib.hid hg
   clear hD hg
   cases D with
   | fault p =>
    rintro e w3 ⟨rfl,hm3⟩
    refine ⟨rfl,?_⟩
    rw [HF.out p rfl]
    exact ⟨rfl,HS2.out.2.trans hm3⟩
   | ok y j =>
    rintro e w3 ⟨rfl,hr3,hm3⟩
    have HJ:Hid (q+1≤j∧j≤s.size):=Lib.hid HGD.out
    have HN:Hid (R=orP T A s f (.or x y) j∧s.size < f+j∧RdIs w3 rb s j∧Mod (fun j=>j=rb) w w3):=Lib.hid ⟨HO.out y j rfl,by have:=HI.out.2.1; have:=HJ.out; omega,hr3,HS2.out.2.trans hm3⟩
    have HMS:Hid (s.size - rdAt w3 rb < s.size - rdAt wr rb):=Lib.hid (by
     rw [rdAt_is HN.out.2.2.1,rdAt_is HI.out.2.2.1]
     have:=HJ.out
     omega)
    obtain ⟨Ty,vy,hvy,_⟩:=asserts_isEmpty y
    have HVY:=Lib.hid hvy
    rw [hvy]
    clear hr3 hm3 hvy
    go_wp2_with fail
    refine ⟨⟨f,.or x y,j,?_,Lib.hid (by have:=HIQ.out; have:=HJ.out; omega),HN⟩,HMS.out⟩
    show _=Value.iface 325 (.agg #[x.val,y.val])
    rw [HVX.out,HVY.out]
end Go.Proofs.Ts
namespace Go.Proofs.Ts
open Go Go.RowKit
theorem mod_new {w a b:World} {rb ob:Nat} (h:Mod (fun j=>j=rb) w a) (k:Mod (fun j=>j=ob) a b) (ho:w.heap.size≤ob):Mod (fun j=>j=rb) w b :=
 ⟨k.os.trans h.os,k.tape.trans h.tape,k.output.trans h.output,Nat.le_trans h.size k.size,fun j hj hn=>(k.block j (Nat.lt_of_lt_of_le hj h.size) (fun e=>by have e':j=ob:=e; omega)).trans (h.block j hj hn)⟩
theorem mod_new2 {w a b:World} {rb ob:Nat} (h:Mod (fun j=>j=rb) w a) (k:Mod (fun j=>j=rb∨j=ob) a b) (ho:w.heap.size≤ob):Mod (fun j=>j=rb) w b :=
 ⟨k.os.trans h.os,k.tape.trans h.tape,k.output.trans h.output,Nat.le_trans h.size k.size,fun j hj hn=>(k.block j (Nat.lt_of_lt_of_le hj h.size) (fun e=>by rcases e with e | e; exact hn e; have e':j=ob:=e; omega)).trans (h.block j hj hn)⟩
set_option maxRecDepth 100000 in
set_option maxHeartbeats 4000000 in
theorem atom_any (rb:Nat) (s:ByteArray) (i:Nat) (tv:Value) (A:Nat→PR Ast) (w:World) (hR:RdIs w rb s i)
  (hA:∀ w,RdIs w rb s (i+1)→Calls Tryz.prog 118 #[ptrV rb,tv] w (Reads Ast.val rb s w (A (i+1)))) :
  Calls Tryz.prog 185 #[ptrV rb,tv] w (Reads Ast.val rb s w (atomP A s i)):=by
 obtain ⟨R,hRd⟩:∃ R,R=atomP A s i:=⟨_,rfl⟩
 rw [← hRd]
 unfold atomP at hRd
 have hs:=hR.2.2
 have HA:=Lib.hid hA
 have HR:=Lib.hid hR
 have HRd:=Lib.hid hRd
 clear hRd hA hR
 unfold ptrV
 go_enter Tryz.func185,Tryz.ntmps185
 go_wp2_with fail
 obtain ⟨ok,hok⟩:∃ ok,ok=decide (i < s.size):=⟨_,rfl⟩
 have HOK:=Lib.hid hok
 clear hok
 refine wp_region_ordP [(0,false),(1,false),(2,false),(3,false),(4,false),(5,false),(6,false),(7,false),(8,false),(9,false),(10,false),(11,true)]
  (fun w'=>RdIs w' rb s i∧Mod (fun j=>j=rb) w w') (fun c w'=>Reads Ast.val rb s w R (.panicked c) w') (fun c a w' hd h=>⟨hd,h⟩) (by kernel_rfl) (by kernel_rfl) ?_ ?_
 ·exact ⟨HR.out.same (Same.drew _),Mod.same (Same.drew _)⟩
 iterate 11 (
  refine wpOrdP_quiet ?_ rfl rfl (fun w' hS=>?_) ?_
  rotate_left
  ·have e0:=hS.1.c0
   have e1:=hS.1.c1
   go_simp
   first | rfl | done
  simp only [put_lit,List.set_cons_succ,List.set_cons_zero])
 refine wpOrdP_loud rfl rfl (by decide) (fun K hK=>?_)
 have HK:=Lib.hid hK
 clear hK
 go_simp
 rw [← HOK.out]
 have hcall:=must_any rb s i ok _ (HR.out.same (Same.drew w))
 unfold ptrV at hcall
 refine hcall.mono ?_
 clear hcall
 rintro e w2 ⟨rfl,hs2⟩
 have hS2:RdIs w2 rb s i∧Mod (fun j=>j=rb) w w2:=⟨(HR.out.same (Same.drew _)).same hs2,(Mod.same (Same.drew _)).trans (Mod.same hs2)⟩
 cases ok
 ·refine ⟨rfl,?_⟩
  have hRr:R = .fault i:=by rw [HRd.out,at_end s i (by simpa using HOK.out)]
  rw [hRr]
  exact ⟨rfl,hS2.2⟩
 ·refine HK.out _ _ hS2 ?_
  have hlt:i < s.size:=by simpa using HOK.out
  obtain ⟨c,hc⟩:∃ c,c=s[i]:=⟨_,rfl⟩
  have hat:s.data.toList[i]?=some c:=by rw [hc]; exact at_str s i hlt
  obtain ⟨W3,hW3⟩:∃ W3,W3=w2.alloc (.cells #[.int .u64 0,.int .u64 0,.int .u64 0,.int .u64 0] 266):=⟨_,rfl⟩
  have hb3:Below w2.heap.size w2 W3:=by rw [hW3]; exact (Below.refl _ w2).alloc (Nat.le_refl _) _
  have hbs:BSetIs W3 w2.heap.size .zero:=⟨BSet.ok_zero,by rw [hW3]; exact heap_alloc_new w2 _⟩
  have H3:=Lib.hid (show _∧_∧_∧_ from ⟨hS2.1.below hb3,hS2.2.trans (below_mod hb3),hbs,hS2.1.lt⟩)
  have HRR:Hid (R=if c=40 then (match A (i+1) with | .fault e => .fault e | .ok x j=>if isB s j 41 then .ok x (j+1) else .fault j) else if c=46 then .ok (.one (BSet.zero.add 0 255)) (i+1) else if c=91 then (match setP s (i+1) with | .fault e => .fault e | .ok o j => .ok (.one o) j) else if wrongB c then .fault i else (match singleP s i with | .fault e => .fault e | .ok d j => .ok (.one (BSet.zero.add d.toNat d.toNat)) j)):=Lib.hid (by
   rw [HRd.out,hat]
   rfl)
  have c0:=H3.out.1.c0
  have c1:=H3.out.1.c1
  have HSZ:Hid (w.heap.size≤w2.heap.size):=Lib.hid hS2.2.size
  have HW3:=Lib.hid hW3
  have HCC:=Lib.hid hc
  clear HK K hS2 hs2 hb3 hbs hW3 hat HR HRd
  refine wpOrdP_nil ?_
  go_upto_region 3 with (fail)
  rw [← HW3.out]
  go_quiet (fail)
  rw [← HCC.out]
  have hS4:RdIs (W3.drewN nq) rb s i∧Mod (fun j=>j=rb) w (W3.drewN nq)∧BSetIs (W3.drewN nq) w2.heap.size .zero∧rb < w2.heap.size:=⟨H3.out.1.same (Same.drewN _ _),H3.out.2.1.trans (Mod.same (Same.drewN _ _)),H3.out.2.2.1.same (Same.drewN _ _),H3.out.2.2.2⟩
  have H4:=Lib.hid hS4
  clear hS4 c0 c1 H3 HW3
  generalize W3.drewN nq=W4 at *
  have c0:=H4.out.1.c0
  have c1:=H4.out.1.c1
  have hf:=H4.out.1.free 1
  have hset:=H4.out.1.set (j:=i+1) (by omega)
  have ei:((i+1:Nat):Int)=(i:Int)+1:=by omega
  rw [ei] at hset
  have HSET:Hid (RdIs (W4.setCell ⟨rb,1,none⟩ (.int .i64 ((i:Int)+1))) rb s (i+1)∧Mod (fun j=>j=rb) w (W4.setCell ⟨rb,1,none⟩ (.int .i64 ((i:Int)+1)))):=Lib.hid ⟨hset,H4.out.2.1.trans (Mod.setCell _ _ _ fun _=>rfl)⟩
  clear hset ei
  by_cases h40:c=40
  ·have e40:(c.toNat:Int)=40:=by rw [h40]; rfl
   rw [e40]
   rw [if_pos h40] at HRR
   clear e40 h40 HCC
   go_wp2_with fail
   have hcall:=HA.out _ HSET.out.1
   unfold ptrV at hcall
   refine hcall.mono ?_
   clear hcall
   obtain ⟨D,hD⟩:∃ D,D=A (i+1):=⟨_,rfl⟩
   have HF:Hid (∀ p,D = .fault p→R = .fault p):=Lib.hid fun p hp=>by rw [HRR.out,← hD,hp]
   have HO:Hid (∀ x j,D = .ok x j→R=if isB s j 41 then .ok x (j+1) else .fault j):=Lib.hid fun x j hp=>by rw [HRR.out,← hD,hp]
   rw [← hD]
   clear hD HRR
   cases D with
   | fault p =>
    rintro e w5 ⟨rfl,hm5⟩
    refine ⟨rfl,?_⟩
    rw [HF.out p rfl]
    exact ⟨rfl,HSET.out.2.trans hm5⟩
   | ok x j =>
    rintro e w5 ⟨rfl,hr5,hm5⟩
    have HS5:=Lib.hid (And.intro hr5 (HSET.out.2.trans hm5))
    clear hr5 hm5
    go_wp2_with fail
    have hcall:=eat_any rb s j 41 _ HS5.out.1
    unfold ptrV at hcall
    refine hcall.mono ?_
    clear hcall
    obtain ⟨b8,hb8⟩:∃ b,b=isB s j 41:=⟨_,rfl⟩
    unfold eatB
    rw [← hb8]
    have HB8:=Lib.hid hb8.symm
    clear hb8
    rintro e w8 ⟨rfl,hr8,hm8⟩
    have HS8:=Lib.hid (And.intro hr8 (HS5.out.2.trans hm8))
    clear hr8 hm8
    go_wp2_with fail
    have hcall:=must_any rb s _ b8 _ HS8.out.1
    unfold ptrV at hcall
    refine hcall.mono ?_
    clear hcall
    rintro e w9 ⟨rfl,hs9⟩
    have HS9:=Lib.hid (And.intro (HS8.out.1.same hs9) (HS8.out.2.trans (Mod.same hs9)))
    clear hs9 HS8
    cases b8
    case false =>
     refine ⟨rfl,?_⟩
     have hRr:R = .fault j:=by rw [HO.out x j rfl,if_neg (by rw [HB8.out]; decide)]
     rw [hRr]
     exact ⟨rfl,HS9.out.2⟩
    case true =>
    have hRr:R = .ok x (j+1):=by rw [HO.out x j rfl,if_pos HB8.out]
    subst hRr
    go_wp2_with fail
    go_ret
    exact ⟨rfl,HS9.out⟩
  ·by_cases h46:c=46
   ·have e46:(c.toNat:Int)=46:=by rw [h46]; rfl
    rw [e46]
    have hRr:R = .ok (.one (BSet.zero.add 0 255)) (i+1):=by rw [HRR.out,if_neg h40,if_pos h46]
    clear e46 h46 h40 HCC HRR
    subst hRr
    go_wp2_with fail
    have hbz:BSetIs (W4.setCell ⟨rb,1,none⟩ (.int .i64 ((i:Int)+1))) w2.heap.size .zero:=H4.out.2.2.1.mod (Mod.setCell (S:=fun j=>j=rb) W4 _ _ fun _=>rfl) (fun e=>by have e':w2.heap.size=rb:=e; have:=H4.out.2.2.2; omega)
    have hcall:=add_any w2.heap.size 0 255 .zero _ hbz (by decide) (by decide)
    unfold ptrV at hcall
    refine hcall.mono ?_
    clear hcall hbz
    rintro e w5 ⟨rfl,hb5,hm5⟩
    have hrd:=HSET.out.1.mod hm5 (fun e=>by have e':rb=w2.heap.size:=e; have:=H4.out.2.2.2; omega)
    obtain ⟨o,ho⟩:∃ o,o=BSet.zero.add 0 255:=⟨_,rfl⟩
    rw [← ho] at hb5 ⊢
    have k0:w5.cell? ⟨w2.heap.size,0,none⟩=some (.int .u64 o.a):=cell_block hb5.2
    have k1:w5.cell? ⟨w2.heap.size,1,none⟩=some (.int .u64 o.b):=cell_block hb5.2
    have k2:w5.cell? ⟨w2.heap.size,2,none⟩=some (.int .u64 o.c):=cell_block hb5.2
    have k3:w5.cell? ⟨w2.heap.size,3,none⟩=some (.int .u64 o.d):=cell_block hb5.2
    have HN:=Lib.hid (And.intro hrd hm5)
    have HO:=Lib.hid ho
    clear hb5 hm5 hrd ho
    go_wp2_with fail
    go_ret
    refine ⟨?_,HN.out.1,mod_new HSET.out.2 HN.out.2 ?_⟩
    ·show _=Ending.returned (Ast.one (BSet.zero.add 0 255)).val
     rw [← HO.out]
     rfl
    ·exact HSZ.out
   ·by_cases h91:c=91
    ·have e91:(c.toNat:Int)=91:=by rw [h91]; rfl
     rw [e91]
     rw [if_neg h40,if_neg h46,if_pos h91] at HRR
     clear e91 h91 h46 h40 HCC
     go_wp2_with fail
     have hbz:BSetIs (W4.setCell ⟨rb,1,none⟩ (.int .i64 ((i:Int)+1))) w2.heap.size .zero:=H4.out.2.2.1.mod (Mod.setCell (S:=fun j=>j=rb) W4 _ _ fun _=>rfl) (fun e=>by have e':w2.heap.size=rb:=e; have:=H4.out.2.2.2; omega)
     have hcall:=class_any rb w2.heap.size s (i+1) _ HSET.out.1 hbz (by have:=H4.out.2.2.2; omega)
     unfold ptrV at hcall
     refine hcall.mono ?_
     clear hcall hbz
     obtain ⟨D,hD⟩:∃ D,D=setP s (i+1):=⟨_,rfl⟩
     have HF:Hid (∀ p,D = .fault p→R = .fault p):=Lib.hid fun p hp=>by rw [HRR.out,← hD,hp]
     have HO:Hid (∀ o j,D = .ok o j→R = .ok (.one o) j):=Lib.hid fun o j hp=>by rw [HRR.out,← hD,hp]
     rw [← hD]
     clear hD HRR
     cases D with
     | fault p =>
      rintro e w5 ⟨rfl,hm5⟩
      refine ⟨rfl,?_⟩
      rw [HF.out p rfl]
      exact ⟨rfl,mod_new2 HSET.out.2 hm5 HSZ.out⟩
     | ok o j =>
      have hRr:R = .ok (.one o) j:=HO.out o j rfl
      subst hRr
      rintro e w5 ⟨rfl,hr5,hb5,hm5⟩
      have k0:w5.cell? ⟨w2.heap.size,0,none⟩=some (.int .u64 o.a):=cell_block hb5.2
      have k1:w5.cell? ⟨w2.heap.size,1,none⟩=some (.int .u64 o.b):=cell_block hb5.2
      have k2:w5.cell? ⟨w2.heap.size,2,none⟩=some (.int .u64 o.c):=cell_block hb5.2
      have k3:w5.cell? ⟨w2.heap.size,3,none⟩=some (.int .u64 o.d):=cell_block hb5.2
      have HN:=Lib.hid (And.intro hr5 hm5)
      clear hb5 hm5 hr5 HF HO
      go_wp2_with fail
      go_ret
      exact ⟨rfl,HN.out.1,mod_new2 HSET.out.2 HN.out.2 HSZ.out⟩
    ·by_cases hwr:wrongB c=true
     ·rw [if_neg h40,if_neg h46,if_neg h91,if_pos hwr] at HRR
      have hor:c=41∨c=93∨c=123∨c=125∨c=42∨c=43∨c=63∨c=124:=by
       simpa [wrongB,or_assoc] using hwr
      have hRr:R = .fault i:=HRR.out
      clear hwr h40 h46 h91 HRR
      subst hRr
      rcases hor with h | h | h | h | h | h | h | h
      ·have ec:(c.toNat:Int)=41:=by rw [h]; rfl
       rw [ec]
       clear ec h HCC HSET
       go_wp2_with fail
       have hcall:=must_any rb s i false _ H4.out.1
       unfold ptrV at hcall
       refine hcall.mono ?_
       clear hcall
       rintro e w9 ⟨rfl,hs9⟩
       exact ⟨rfl,rfl,H4.out.2.1.trans (Mod.same hs9)⟩
      ·have ec:(c.toNat:Int)=93:=by rw [h]; rfl
       rw [ec]
       clear ec h HCC HSET
       go_wp2_with fail
       have hcall:=must_any rb s i false _ H4.out.1
       unfold ptrV at hcall
       refine hcall.mono ?_
       clear hcall
       rintro e w9 ⟨rfl,hs9⟩
       exact ⟨rfl,rfl,H4.out.2.1.trans (Mod.same hs9)⟩
      ·have ec:(c.toNat:Int)=123:=by rw [h]; rfl
       rw [ec]
       clear ec h HCC HSET
       go_wp2_with fail
       have hcall:=must_any rb s i false _ H4.out.1
       unfold ptrV at hcall
       refine hcall.mono ?_
       clear hcall
       rintro e w9 ⟨rfl,hs9⟩
       exact ⟨rfl,rfl,H4.out.2.1.trans (Mod.same hs9)⟩
      ·have ec:(c.toNat:Int)=125:=by rw [h]; rfl
       rw [ec]
       clear ec h HCC HSET
       go_wp2_with fail
       have hcall:=must_any rb s i false _ H4.out.1
       unfold ptrV at hcall
       refine hcall.mono ?_
       clear hcall
       rintro e w9 ⟨rfl,hs9⟩
       exact ⟨rfl,rfl,H4.out.2.1.trans (Mod.same hs9)⟩
      ·have ec:(c.toNat:Int)=42:=by rw [h]; rfl
       rw [ec]
       clear ec h HCC HSET
       go_wp2_with fail
       have hcall:=must_any rb s i false _ H4.out.1
       unfold ptrV at hcall
       refine hcall.mono ?_
       clear hcall
       rintro e w9 ⟨rfl,hs9⟩
       exact ⟨rfl,rfl,H4.out.2.1.trans (Mod.same hs9)⟩
      ·have ec:(c.toNat:Int)=43:=by rw [h]; rfl
       rw [ec]
       clear ec h HCC HSET
       go_wp2_with fail
       have hcall:=must_any rb s i false _ H4.out.1
       unfold ptrV at hcall
       refine hcall.mono ?_
       clear hcall
       rintro e w9 ⟨rfl,hs9⟩
       exact ⟨rfl,rfl,H4.out.2.1.trans (Mod.same hs9)⟩
      ·have ec:(c.toNat:Int)=63:=by rw [h]; rfl
       rw [ec]
       clear ec h HCC HSET
       go_wp2_with fail
       have hcall:=must_any rb s i false _ H4.out.1
       unfold ptrV at hcall
       refine hcall.mono ?_
       clear hcall
       rintro e w9 ⟨rfl,hs9⟩
       exact ⟨rfl,rfl,H4.out.2.1.trans (Mod.same hs9)⟩
      ·have ec:(c.toNat:Int)=124:=by rw [h]; rfl
       rw [ec]
       clear ec h HCC HSET
       go_wp2_with fail
       have hcall:=must_any rb s i false _ H4.out.1
       unfold ptrV at hcall
       refine hcall.mono ?_
       clear hcall
       rintro e w9 ⟨rfl,hs9⟩
       exact ⟨rfl,rfl,H4.out.2.1.trans (Mod.same hs9)⟩
     ·rw [if_neg h40,if_neg h46,if_neg h91,if_neg hwr] at HRR
      have hno:∀ z:UInt8,(z == 40 || z == 46 || z == 91 || wrongB z)=true→((c.toNat:Int) == (z.toNat:Int))=false:=fun z hz=>by
       rw [beq_eq_false_iff_ne]
       intro e
       have e':c=z:=UInt8.toNat_inj.1 (by exact_mod_cast e)
       subst e'
       simp [h40,h46,h91,hwr] at hz
      have n40:((c.toNat:Int) == 40)=false:=hno 40 (by decide)
      have n46:((c.toNat:Int) == 46)=false:=hno 46 (by decide)
      have n91:((c.toNat:Int) == 91)=false:=hno 91 (by decide)
      have n41:((c.toNat:Int) == 41)=false:=hno 41 (by decide)
      have n93:((c.toNat:Int) == 93)=false:=hno 93 (by decide)
      have n123:((c.toNat:Int) == 123)=false:=hno 123 (by decide)
      have n125:((c.toNat:Int) == 125)=false:=hno 125 (by decide)
      have n42:((c.toNat:Int) == 42)=false:=hno 42 (by decide)
      have n43:((c.toNat:Int) == 43)=false:=hno 43 (by decide)
      have n63:((c.toNat:Int) == 63)=false:=hno 63 (by decide)
      have n124:((c.toNat:Int) == 124)=false:=hno 124 (by decide)
      clear hno hwr h40 h46 h91 HCC HSET
      generalize (c.toNat:Int)=ci at *
      go_wp2_with fail
      have hcall:=single_any rb s i _ H4.out.1
      unfold ptrV at hcall
      refine hcall.mono ?_
      clear hcall
      obtain ⟨D,hD⟩:∃ D,D=singleP s i:=⟨_,rfl⟩
      have HF:Hid (∀ p,D = .fault p→R = .fault p):=Lib.hid fun p hp=>by rw [HRR.out,← hD,hp]
      have HO:Hid (∀ d j,D = .ok d j→R = .ok (.one (BSet.zero.add d.toNat d.toNat)) j):=Lib.hid fun d j hp=>by rw [HRR.out,← hD,hp]
      rw [← hD]
      clear hD HRR n40 n46 n91 n41 n93 n123 n125 n42 n43 n63 n124
      cases D with
      | fault p =>
       rintro e w5 ⟨rfl,hm5⟩
       refine ⟨rfl,?_⟩
       rw [HF.out p rfl]
       exact ⟨rfl,H4.out.2.1.trans hm5⟩
      | ok d j =>
       have hRr:R = .ok (.one (BSet.zero.add d.toNat d.toNat)) j:=HO.out d j rfl
       subst hRr
       rintro e w5 ⟨rfl,hr5,hm5⟩
       have hbz5:BSetIs w5 w2.heap.size .zero:=H4.out.2.2.1.mod hm5 (fun e=>by have e':w2.heap.size=rb:=e; have:=H4.out.2.2.2; omega)
       have H5:=Lib.hid (And.intro hr5 (And.intro hbz5 (H4.out.2.1.trans hm5)))
       have hdl:d.toNat < 256:=d.toNat_lt
       have hadd:=add_any w2.heap.size d.toNat d.toNat .zero w5 hbz5 hdl hdl
       have HADD:=Lib.hid hadd
       clear hr5 hm5 hbz5 hadd HF HO
       obtain ⟨o,ho⟩:∃ o,o=BSet.zero.add d.toNat d.toNat:=⟨_,rfl⟩
       have HOO:=Lib.hid ho
       clear ho
       generalize hdi:d.toNat=dn at *
       go_wp2_with fail
       have hcall:=HADD.out
       unfold ptrV at hcall
       refine hcall.mono ?_
       clear hcall HADD
       rintro e w6 ⟨rfl,hb6,hm6⟩
       rw [← HOO.out] at hb6 ⊢
       have hrd:=H5.out.1.mod hm6 (fun e=>by have e':rb=w2.heap.size:=e; have:=H4.out.2.2.2; omega)
       have k0:w6.cell? ⟨w2.heap.size,0,none⟩=some (.int .u64 o.a):=cell_block hb6.2
       have k1:w6.cell? ⟨w2.heap.size,1,none⟩=some (.int .u64 o.b):=cell_block hb6.2
       have k2:w6.cell? ⟨w2.heap.size,2,none⟩=some (.int .u64 o.c):=cell_block hb6.2
       have k3:w6.cell? ⟨w2.heap.size,3,none⟩=some (.int .u64 o.d):=cell_block hb6.2
       have HN:=Lib.hid (And.intro hrd hm6)
       clear hb6 hm6 hrd
       go_wp2_with fail
       go_ret
       refine ⟨?_,HN.out.1,mod_new H5.out.2.2 HN.out.2 ?_⟩
       ·show _=Ending.returned (Ast.one (BSet.zero.add dn dn)).val
        rw [← HOO.out]
        rfl
       ·exact HSZ.out
end Go.Proofs.Ts
namespace Go.Proofs.Ts
open Go
theorem alt_any (rb:Nat) (s:ByteArray) (tv:Value) (T:Times) (hT:TimesIs tv T):∀ (n i:Nat) (w:World),s.size < n+i→RdIs w rb s i →
  Calls Tryz.prog 118 #[ptrV rb,tv] w (Reads Ast.val rb s w (altP T s n i))
 | 0,i,w,h,hR=>absurd hR.2.1 (by omega)
 | n+1,i,w,h,hR =>
  alternatives_any rb s i tv T (altP T s n) w hR (altP T s (n+1) i) (fun p hp=>by simp only [altP,hp]) (fun x j hp=>by simp only [altP,hp])
   (fun q hq=>seq_good T (altP T s n) s (alt_good T s n) _ .empty q hq)
   (fun q w hRq hq=>sequence_any rb s q tv T (altP T s n) w hRq (fun q hq=>rep_on T (altP T s n) s q hq fun j _=>alt_good T s n j)
    (fun q' w hRq' hq'=>repeated_any rb s q' tv T (altP T s n) w hT hRq' (fun w hRa=>atom_any rb s q' tv (altP T s n) w hRa
     (fun w hR'=>alt_any rb s tv T hT n (q'+1) w (by omega) hR'))))
end Go.Proofs.Ts
namespace Go.Proofs.Ts
open Go Go.RowKit
theorem tmps_at (x y v:Value):#[x,y]++(Array.replicate 18 undef).setIfInBounds 4 v=#[x,y,undef,undef,undef,undef,v,undef,undef,undef,undef,undef,undef,undef,undef,undef,undef,undef,undef,undef]:=by
 apply Array.toList_inj.mp
 simp [List.replicate]
theorem asserts_faultF (v:Value) (w:World):(Instr.typeAssert (.iface 255 v) 20 255 true).run Tryz.prog w = .ok (.tuple #[v,.bool true]) w:=by kernel_rfl
theorem asserts_bigF (v:Value) (w:World):(Instr.typeAssert (.iface 256 v) 20 255 true).run Tryz.prog w = .ok (.tuple #[.int .i64 0,.bool false]) w:=by kernel_rfl
theorem asserts_bigB (v:Value) (w:World):(Instr.typeAssert (.iface 256 v) 20 256 true).run Tryz.prog w = .ok (.tuple #[v,.bool true]) w:=by kernel_rfl
set_option maxRecDepth 100000 in
set_option maxHeartbeats 1000000 in
theorem catch_none (xa ea:Nat) (w:World) :
  CallsD Tryz.prog 117 #[.pointer (some ⟨xa,0,none⟩),.pointer (some ⟨ea,0,none⟩)] .returning w fun e u' w'=>e = .returned (.tuple #[])∧u' = .returning∧w'=w:=by
 refine callsD_of_wpS Tryz.func117 rfl fun c₀ cs hu=>?_
 apply wpS_seq
 apply wpS_region
 simp [wpOpsS,go_sem,recoverD,hu,Tryz.ntmps117,Exit.thenS]
 refine wpS_of_wp ?_
 generalize hQ:(fun (e:Exit) (a':Act) (w':World)=>bodyPostS Tryz.prog Tryz.f117 c₀ cs _ e a' (_ :: cs) w')=Q
 rw [tmps_at]
 go_wp2_with fail
 rw [← hQ]
 refine ⟨rfl,.returning,?_,_,results_none rfl _ _ _,rfl,rfl,rfl⟩
 cases c₀
 cases hu
 rfl
structure Two (w:World) (xa ea:Nat) (v1 v2:Value):Prop where
 ne:xa≠ea
 x:w.heap[xa]?=some (.cells #[v1] 199 (0,0))
 e:w.heap[ea]?=some (.cells #[v2] 69 (0,0))
theorem Two.set {w:World} {xa ea:Nat} {v1 v2:Value} (h:Two w xa ea v1 v2) (y1 y2:Value):Two ((w.setCell ⟨xa,0,none⟩ y1).setCell ⟨ea,0,none⟩ y2) xa ea y1 y2 where
 ne:=h.ne
 x:=by
  rw [Below.heap_setCell _ _ _ _ h.ne]
  have k:=heap_setCell_same w xa 0 _ _ y1 h.x
  simpa using k
 e:=by
  have k:=heap_setCell_same (w.setCell ⟨xa,0,none⟩ y1) ea 0 _ _ y2 (by rw [Below.heap_setCell _ _ _ _ fun e=>h.ne e.symm]; exact h.e)
  simpa using k
theorem Two.below {w w':World} {xa ea:Nat} {v1 v2:Value} (h:Two w xa ea v1 v2) (hb:Below w.heap.size w w'):Two w' xa ea v1 v2 :=
 ⟨h.ne,(hb.block _ (lt_of_heap h.x)).trans h.x,(hb.block _ (lt_of_heap h.e)).trans h.e⟩
theorem Two.alloc {w:World} {xa ea:Nat} {v1 v2:Value} (h:Two w xa ea v1 v2) (o:Obj):Two (w.alloc o) xa ea v1 v2:=h.below ((Below.refl _ w).alloc (Nat.le_refl _) _)
theorem Two.one {w:World} {xa ea:Nat} {v1 v2:Value} (h:Two w xa ea v1 v2) (y:Value):Two (w.setCell ⟨xa,0,none⟩ y) xa ea y v2 where
 ne:=h.ne
 x:=by
  have k:=heap_setCell_same w xa 0 _ _ y h.x
  simpa using k
 e:=by rw [Below.heap_setCell _ _ _ _ fun e=>h.ne e.symm]; exact h.e
set_option maxRecDepth 100000 in
set_option maxHeartbeats 1000000 in
theorem catch_fault (xa ea i:Nat) (w:World) (v1 v2:Value) (h:Two w xa ea v1 v2) :
  CallsD Tryz.prog 117 #[.pointer (some ⟨xa,0,none⟩),.pointer (some ⟨ea,0,none⟩)] (.panicking (faultP i)) w fun e u' w'=>e = .returned (.tuple #[])∧u' = .panicking [{ v := .iface 255 (.int .i64 i),recovered:=true }] ∧
   w'=((w.alloc (.cells #[.int .i64 6,.int .i64 i] 108)).setCell ⟨xa,0,none⟩ .nilIface).setCell ⟨ea,0,none⟩ (.iface 103 (.pointer (some ⟨w.heap.size,0,none⟩))):=by
 refine callsD_of_wpS Tryz.func117 rfl fun c₀ cs hu=>?_
 unfold faultP at hu
 apply wpS_seq
 apply wpS_region
 simp [wpOpsS,go_sem,recoverD,hu,Tryz.ntmps117,Exit.thenS]
 refine wpS_of_wp ?_
 generalize hQ:(fun (e:Exit) (a':Act) (w':World)=>bodyPostS Tryz.prog Tryz.f117 c₀ cs _ e a' (_ :: cs) w')=Q
 rw [tmps_at]
 have c1:∀ o,(w.alloc o).cell? ⟨xa,0,none⟩=some v1:=fun o=>cell_block (h.alloc o).x
 have f1:∀ o,(w.alloc o).frozen? ⟨xa,0,none⟩=false:=fun o=>free_block (h.alloc o).x
 have c2:∀ o y,((w.alloc o).setCell ⟨xa,0,none⟩ y).cell? ⟨ea,0,none⟩=some v2:=fun o y=>cell_block (h.alloc o |>.one y).e
 have f2:∀ o y,((w.alloc o).setCell ⟨xa,0,none⟩ y).frozen? ⟨ea,0,none⟩=false:=fun o y=>free_block (h.alloc o |>.one y).e
 have hta:=asserts_faultF
 have HQ:=Lib.hid hQ
 clear hQ h
 go_wp2_with fail
 rw [← HQ.out]
 refine ⟨rfl,_,rfl,_,results_none rfl _ _ _,rfl,rfl,rfl⟩
set_option maxRecDepth 100000 in
set_option maxHeartbeats 1000000 in
theorem catch_big (xa ea:Nat) (w:World) (v1 v2:Value) (h:Two w xa ea v1 v2) :
  CallsD Tryz.prog 117 #[.pointer (some ⟨xa,0,none⟩),.pointer (some ⟨ea,0,none⟩)] (.panicking [{ v := .iface 256 (.agg #[]),recovered:=false }]) w fun e u' w'=>e = .returned (.tuple #[])∧u' = .panicking [{ v := .iface 256 (.agg #[]),recovered:=true }] ∧
   w'=((w.alloc (.cells #[] 256)).setCell ⟨xa,0,none⟩ .nilIface).setCell ⟨ea,0,none⟩ (.iface 33 (.int .i64 9)):=by
 refine callsD_of_wpS Tryz.func117 rfl fun c₀ cs hu=>?_
 apply wpS_seq
 apply wpS_region
 simp [wpOpsS,go_sem,recoverD,hu,Tryz.ntmps117,Exit.thenS]
 refine wpS_of_wp ?_
 generalize hQ:(fun (e:Exit) (a':Act) (w':World)=>bodyPostS Tryz.prog Tryz.f117 c₀ cs _ e a' (_ :: cs) w')=Q
 rw [tmps_at]
 have c1:∀ o,(w.alloc o).cell? ⟨xa,0,none⟩=some v1:=fun o=>cell_block (h.alloc o).x
 have f1:∀ o,(w.alloc o).frozen? ⟨xa,0,none⟩=false:=fun o=>free_block (h.alloc o).x
 have c2:∀ o y,((w.alloc o).setCell ⟨xa,0,none⟩ y).cell? ⟨ea,0,none⟩=some v2:=fun o y=>cell_block (h.alloc o |>.one y).e
 have f2:∀ o y,((w.alloc o).setCell ⟨xa,0,none⟩ y).frozen? ⟨ea,0,none⟩=false:=fun o y=>free_block (h.alloc o |>.one y).e
 have hta:=asserts_bigF
 have htb:=asserts_bigB
 have HQ:=Lib.hid hQ
 clear hQ h
 go_wp2_with fail
 rw [← HQ.out]
 refine ⟨rfl,_,rfl,_,results_none rfl _ _ _,rfl,rfl,rfl⟩
end Go.Proofs.Ts
namespace Go.Proofs.Ts
open Go Go.RowKit
def ParseEnd (w:World) (r:Parsed) (e:Ending) (w':World):Prop:=Below w.heap.size w w'∧match r with
 | .ok x=>e = .returned (.tuple #[x.val,.nilIface])
 | .big=>e = .returned (.tuple #[.nilIface,.iface 33 (.int .i64 9)])
 | .fault i=>∃ b,w.heap.size≤b∧e = .returned (.tuple #[.nilIface,.iface 103 (ptrV b)])∧w'.heap[b]?=some (.cells #[.int .i64 6,.int .i64 i] 108 (0,0))
theorem mod_below {W w2:World} {rb B:Nat} (h:Mod (fun j=>j=rb) W w2) (hB:B≤rb) (hs:B≤W.heap.size):Below B W w2 :=
 ⟨h.os,h.tape,h.output,h.size,fun j hj=>h.block j (Nat.lt_of_lt_of_le hj hs) (fun e=>by have e':j=rb:=e; omega)⟩
theorem Two.mod {w w':World} {xa ea rb:Nat} {v1 v2:Value} (h:Two w xa ea v1 v2) (k:Mod (fun j=>j=rb) w w') (h1:xa≠rb) (h2:ea≠rb):Two w' xa ea v1 v2 :=
 ⟨h.ne,(k.block _ (lt_of_heap h.x) h1).trans h.x,(k.block _ (lt_of_heap h.e) h2).trans h.e⟩
theorem parse_results {tmps:Array Value} {W:World} {xa ea:Nat} {v1 v2:Value} (h:Two W xa ea v1 v2) (h2:tmps[2]?.getD undef = .pointer (some ⟨xa,0,none⟩)) (h3:tmps[3]?.getD undef = .pointer (some ⟨ea,0,none⟩)) :
  (results Tryz.f85 tmps).run Tryz.prog W = .ok (.tuple #[v1,v2]) W:=by
 have c1:W.cell? ⟨xa,0,none⟩=some v1:=cell_block h.x
 have c2:W.cell? ⟨ea,0,none⟩=some v2:=cell_block h.e
 have e:Tryz.f85.results=#[.cell 2 199,.cell 3 69]:=rfl
 simp [results,e,go_sem,c1,c2,h2,h3]
theorem fault_door {w w2:World} {xa ea p:Nat} {v1 v2:Value} {tmps:Array Value} (hxa:w.heap.size≤xa) (hea:w.heap.size≤ea) (hb:Below w.heap.size w w2) (h:Two w2 xa ea v1 v2) (h2:tmps[2]?.getD undef = .pointer (some ⟨xa,0,none⟩)) (h3:tmps[3]?.getD undef = .pointer (some ⟨ea,0,none⟩)) :
  CallsD Tryz.prog 117 #[.pointer (some ⟨xa,0,none⟩),.pointer (some ⟨ea,0,none⟩)] (.panicking (faultP p)) w2 fun
   | .returned _,u',w'=>Leaves Tryz.prog Tryz.f85 tmps (ParseEnd w (.fault p)) [] (settle u') w'
   | .panicked chain,u',w'=>Leaves Tryz.prog Tryz.f85 tmps (ParseEnd w (.fault p)) [] (raised u' chain) w'
   | .outgrown,_,w'=>ParseEnd w (.fault p) .outgrown w':=by
 refine (catch_fault xa ea p w2 v1 v2 h).mono ?_
 rintro e u' w' ⟨rfl,rfl,rfl⟩
 have hba:Below w2.heap.size w2 (w2.alloc (.cells #[.int .i64 6,.int .i64 p] 108)):=(Below.refl _ w2).alloc (Nat.le_refl _) _
 have h':=(h.alloc (.cells #[.int .i64 6,.int .i64 p] 108)).set .nilIface (.iface 103 (.pointer (some ⟨w2.heap.size,0,none⟩)))
 have hn:=heap_alloc_new w2 (.cells #[.int .i64 6,.int .i64 p] 108)
 have hx:=lt_of_heap h.x
 have he:=lt_of_heap h.e
 refine ⟨_,parse_results h' h2 h3,?_,w2.heap.size,hb.size,rfl,?_⟩
 ·exact (((hb.trans (hba.mono hb.size))).setCell (p:=⟨xa,0,none⟩) hxa _).setCell (p:=⟨ea,0,none⟩) hea _
 ·rw [Below.heap_setCell _ _ _ _ (by show w2.heap.size≠ea; omega),Below.heap_setCell _ _ _ _ (by show w2.heap.size≠xa; omega)]
  exact hn
theorem big_door {w w2:World} {xa ea:Nat} {v1 v2:Value} {tmps:Array Value} (hxa:w.heap.size≤xa) (hea:w.heap.size≤ea) (hb:Below w.heap.size w w2) (h:Two w2 xa ea v1 v2) (h2:tmps[2]?.getD undef = .pointer (some ⟨xa,0,none⟩)) (h3:tmps[3]?.getD undef = .pointer (some ⟨ea,0,none⟩)) :
  CallsD Tryz.prog 117 #[.pointer (some ⟨xa,0,none⟩),.pointer (some ⟨ea,0,none⟩)] (.panicking [{ v := .iface 256 (.agg #[]),recovered:=false }]) w2 fun
   | .returned _,u',w'=>Leaves Tryz.prog Tryz.f85 tmps (ParseEnd w .big) [] (settle u') w'
   | .panicked chain,u',w'=>Leaves Tryz.prog Tryz.f85 tmps (ParseEnd w .big) [] (raised u' chain) w'
   | .outgrown,_,w'=>ParseEnd w .big .outgrown w':=by
 refine (catch_big xa ea w2 v1 v2 h).mono ?_
 rintro e u' w' ⟨rfl,rfl,rfl⟩
 have hba:Below w2.heap.size w2 (w2.alloc (.cells #[] 256)):=(Below.refl _ w2).alloc (Nat.le_refl _) _
 have h':=(h.alloc (.cells #[] 256)).set .nilIface (.iface 33 (.int .i64 9))
 refine ⟨_,parse_results h' h2 h3,?_,rfl⟩
 exact (((hb.trans (hba.mono hb.size))).setCell (p:=⟨xa,0,none⟩) hxa _).setCell (p:=⟨ea,0,none⟩) hea _
theorem ok_door {w w2:World} {xa ea:Nat} {x:Ast} {tmps:Array Value} (hb:Below w.heap.size w w2) (h:Two w2 xa ea x.val .nilIface) (h2:tmps[2]?.getD undef = .pointer (some ⟨xa,0,none⟩)) (h3:tmps[3]?.getD undef = .pointer (some ⟨ea,0,none⟩)) :
  CallsD Tryz.prog 117 #[.pointer (some ⟨xa,0,none⟩),.pointer (some ⟨ea,0,none⟩)] .returning w2 fun
   | .returned _,u',w'=>Leaves Tryz.prog Tryz.f85 tmps (ParseEnd w (.ok x)) [] (settle u') w'
   | .panicked chain,u',w'=>Leaves Tryz.prog Tryz.f85 tmps (ParseEnd w (.ok x)) [] (raised u' chain) w'
   | .outgrown,_,w'=>ParseEnd w (.ok x) .outgrown w':=by
 refine (catch_none xa ea w2).mono ?_
 rintro e u' w' ⟨rfl,rfl,rfl⟩
 exact ⟨_,parse_results h h2 h3,hb,rfl⟩
set_option maxRecDepth 100000 in
set_option maxHeartbeats 4000000 in
theorem parse_any (s:ByteArray) (w:World) (hs:s.size≤1000000) :
  Calls Tryz.prog 85 #[.string s] w (ParseEnd w (parseP s)):=by
 obtain ⟨R,hR⟩:∃ R,R=parseP s:=⟨_,rfl⟩
 rw [← hR]
 have HR:=Lib.hid hR
 clear hR
 have hmf:∀ (fn:Fn) (first cap:Array Value) (w:World),(Instr.makeFunc fn first cap).run Tryz.prog w = .ok (.func fn first cap) w:=fun _ _ _ _=>rfl
 go_enter_defers Tryz.func85,Tryz.ntmps85
 go_wp2_with fail
 obtain ⟨W,hW⟩:∃ W,W=((w.alloc (.cells #[.nilIface] 199)).alloc (.cells #[.nilIface] 69)).alloc (.cells #[.string s,.int .i64 0] 259):=⟨_,rfl⟩
 have hbW:Below w.heap.size w W:=by
  rw [hW]
  exact (((Below.refl _ w).alloc (Nat.le_refl _) _).alloc (by simp) _).alloc (by simp; omega) _
 have htW:Two W w.heap.size (w.heap.size+1) .nilIface .nilIface:=by
  rw [hW]
  refine Two.alloc ⟨by omega,?_,?_⟩ _
  ·exact (((Below.refl _ _).alloc (Nat.le_refl _) (.cells #[.nilIface] 69)).block _ (by simp)).trans (heap_alloc_new w (.cells #[.nilIface] 199))
  ·have k:=heap_alloc_new (w.alloc (.cells #[.nilIface] 199)) (.cells #[.nilIface] 69)
   rw [World.size_alloc] at k
   exact k
 have hrW:RdIs W (w.heap.size+1+1) s 0:=by
  refine ⟨?_,by omega,hs⟩
  rw [hW]
  have k:=heap_alloc_new ((w.alloc (.cells #[.nilIface] 199)).alloc (.cells #[.nilIface] 69)) (.cells #[.string s,.int .i64 0] 259)
  rw [World.size_alloc,World.size_alloc] at k
  exact k
 rw [← hW]
 have HW:=Lib.hid (And.intro hbW (And.intro htW hrW))
 clear hW hbW htW hrW
 have hcall:=alt_any (w.heap.size+1+1) s _ onceT once_times (s.size+1) 0 W (by omega) HW.out.2.2
 unfold ptrV at hcall
 refine hcall.mono ?_
 clear hcall
 obtain ⟨D,hD⟩:∃ D,D=altP onceT s (s.size+1) 0:=⟨_,rfl⟩
 have HF:Hid (∀ p,D = .fault p→R = .fault p):=Lib.hid fun p hp=>by
  rw [HR.out]
  unfold parseP
  rw [← hD,hp]
 have HN:Hid (∀ x j,D = .ok x j→j≠s.size→R = .fault j):=Lib.hid fun x j hp hj=>by
  rw [HR.out]
  unfold parseP
  rw [← hD,hp]
  exact if_neg hj
 have HO:Hid (∀ x j,D = .ok x j→j=s.size→((∀ p,altP repeatT s (s.size+1) 0 = .fault p→R = .fault p) ∧ ∀ y k,altP repeatT s (s.size+1) 0 = .ok y k→R=if y.places > 128 then .big else .ok y)):=Lib.hid fun x j hp hj=>by
  refine ⟨fun p hq=>?_,fun y k hq=>?_⟩
  all_goals (
   rw [HR.out]
   unfold parseP
   rw [← hD,hp,hq]
   exact if_pos hj)
 rw [← hD]
 clear hD HR
 cases D with
 | fault p =>
  have hRr:R = .fault p:=HF.out p rfl
  subst hRr
  clear HF HN HO
  rintro e w2 ⟨rfl,hm2⟩
  have hb2:=HW.out.1.trans (mod_below hm2 (by omega) HW.out.1.size)
  have ht2:=HW.out.2.1.mod hm2 (by omega) (by omega)
  refine leaves_cons (f:=117) (args:=#[.pointer (some ⟨w.heap.size,0,none⟩),.pointer (some ⟨w.heap.size+1,0,none⟩)]) (by simp) (by simp [go_sem]) ?_
  exact fault_door (Nat.le_refl _) (Nat.le_succ _) hb2 ht2 rfl rfl
 | ok x j =>
  rintro e w2 ⟨rfl,hr2,hm2⟩
  have H2:=Lib.hid (And.intro hr2 (And.intro (HW.out.1.trans (mod_below hm2 (by omega) HW.out.1.size)) (HW.out.2.1.mod hm2 (by omega) (by omega))))
  clear hm2 HF
  have c0:=hr2.c0
  have c1:=hr2.c1
  clear hr2
  go_wp2_with fail
  have hd:((j:Int) == (s.size:Int))=decide (j=s.size):=by
   by_cases h:j=s.size
   ·rw [h]; simp
   ·rw [decide_eq_false h,beq_eq_false_iff_ne]; exact fun e=>h (by omega)
  rw [hd]
  have hcall:=must_any (w.heap.size+1+1) s j (decide (j=s.size)) w2 H2.out.1
  unfold ptrV at hcall
  refine hcall.mono ?_
  clear hcall hd
  rintro e w3 ⟨rfl,hs3⟩
  have H3:=Lib.hid (And.intro (H2.out.2.1.trans (hs3.below _)) (H2.out.2.2.below (hs3.below _)))
  clear hs3
  by_cases hj:j=s.size
  ·rw [decide_eq_true hj]
   have HP:=Lib.hid (HO.out x j rfl hj)
   clear HO HN H2 hj
   go_wp2_with fail
   obtain ⟨W4,hW4⟩:∃ W4,W4=w3.alloc (.cells #[.string s,.int .i64 0] 259):=⟨_,rfl⟩
   have hb4:Below w3.heap.size w3 W4:=by rw [hW4]; exact (Below.refl _ w3).alloc (Nat.le_refl _) _
   have hr4:RdIs W4 w3.heap.size s 0:=⟨by rw [hW4]; exact heap_alloc_new w3 _,by omega,hs⟩
   rw [← hW4]
   have hx3:=lt_of_heap H3.out.2.x
   have he3:=lt_of_heap H3.out.2.e
   have H4:=Lib.hid (And.intro (H3.out.1.trans (hb4.mono H3.out.1.size)) (And.intro (H3.out.2.below hb4) (And.intro hr4 (And.intro hx3 (And.intro he3 hb4.size)))))
   clear hW4 hb4 hr4 hx3 he3
   have hcall:=alt_any w3.heap.size s _ repeatT repeat_times (s.size+1) 0 W4 (by omega) H4.out.2.2.1
   unfold ptrV at hcall
   refine hcall.mono ?_
   clear hcall
   obtain ⟨D2,hD2⟩:∃ D2,D2=altP repeatT s (s.size+1) 0:=⟨_,rfl⟩
   rw [← hD2] at HP ⊢
   clear hD2
   have hmo:∀ w5:World,Mod (fun q=>q=w3.heap.size) W4 w5→Below w.heap.size w w5∧Two w5 w.heap.size (w.heap.size+1) .nilIface .nilIface:=fun w5 hm5=>by
    have h1:=H4.out.2.2.2.1
    have h2:=H4.out.2.2.2.2.1
    exact ⟨H4.out.1.trans (mod_below hm5 H3.out.1.size H4.out.1.size),H4.out.2.1.mod hm5 (by omega) (by omega)⟩
   have HMO:=Lib.hid hmo
   clear hmo
   cases D2 with
   | fault p =>
    have hRr:R = .fault p:=HP.out.1 p rfl
    subst hRr
    rintro e w5 ⟨rfl,hm5⟩
    refine leaves_cons (f:=117) (args:=#[.pointer (some ⟨w.heap.size,0,none⟩),.pointer (some ⟨w.heap.size+1,0,none⟩)]) (by simp) (by simp [go_sem]) ?_
    exact fault_door (Nat.le_refl _) (Nat.le_succ _) (HMO.out _ hm5).1 (HMO.out _ hm5).2 rfl rfl
   | ok y k =>
    rintro e w5 ⟨rfl,hr5,hm5⟩
    have H5:=Lib.hid (HMO.out _ hm5)
    have HR2:=Lib.hid (HP.out.2 y k rfl)
    obtain ⟨Ty,vy,fy,ry,hv,hmy,hcy,hpy⟩:=places_any y
    have HV:=Lib.hid hv
    have HPY:=Lib.hid hpy
    rw [hv]
    clear hr5 hm5 HP HMO H4 H3 hv hpy
    have hx5:=cell_block (i:=0) H5.out.2.x
    have fx5:=free_block (i:=0) H5.out.2.x
    have he5:=lt_of_heap H5.out.2.x
    have h6:=H5.out.2.one (.iface Ty vy)
    have hb6:=H5.out.1.setCell (p:=⟨w.heap.size,0,none⟩) (Nat.le_refl _) (.iface Ty vy)
    have H6:=Lib.hid (And.intro hb6 h6)
    clear h6 hb6
    go_upto_region 7 with fail
    generalize w5.setCell ⟨w.heap.size,0,none⟩ (.iface Ty vy)=W6 at *
    clear hx5 fx5 he5 H5
    have hx6:=cell_block (i:=0) H6.out.2.x
    go_wp2_with fail
    refine (HPY.out _).mono ?_
    rintro e w7 ⟨rfl,hb7⟩
    have H7:=Lib.hid (And.intro (H6.out.1.trans (hb7.mono H6.out.1.size)) (H6.out.2.below hb7))
    have hx7:=cell_block (i:=0) H7.out.2.x
    have hxl:=lt_of_heap H7.out.2.x
    have hel:=lt_of_heap H7.out.2.e
    have ce7:=cell_block (i:=0) H7.out.2.e
    have fx7:=free_block (i:=0) H7.out.2.x
    have fe7:=free_block (i:=0) H7.out.2.e
    clear hb7 hx6 H6
    by_cases hp:y.places > 128
    ·have hRr:R = .big:=by rw [HR2.out]; exact if_pos hp
     subst hRr
     have hgt:decide ((y.places:Int) > 128)=true:=decide_eq_true (by omega)
     have hgt2:(128:Int) < (y.places:Int):=by omega
     go_wp2_with fail
     refine leaves_cons (f:=117) (args:=#[.pointer (some ⟨w.heap.size,0,none⟩),.pointer (some ⟨w.heap.size+1,0,none⟩)]) (by simp) (by simp [go_sem]) ?_
     exact big_door (Nat.le_refl _) (Nat.le_succ _) H7.out.1 H7.out.2 rfl rfl
    ·have hRr:R = .ok y:=by rw [HR2.out]; exact if_neg hp
     subst hRr
     have hgt2:¬ (128:Int) < (y.places:Int):=by omega
     go_wp2_with fail
     have hb8:=(H7.out.1.setCell (p:=⟨w.heap.size,0,none⟩) (Nat.le_refl _) y.val).setCell (p:=⟨w.heap.size+1,0,none⟩) (Nat.le_succ _) .nilIface
     have ht8:=H7.out.2.set y.val .nilIface
     rw [HV.out] at hb8 ht8
     refine leaves_cons (f:=117) (args:=#[.pointer (some ⟨w.heap.size,0,none⟩),.pointer (some ⟨w.heap.size+1,0,none⟩)]) (by simp) (by simp [go_sem]) ?_
     refine ok_door hb8 ?_ rfl rfl
     rw [HV.out]
     exact ht8
  ·rw [decide_eq_false hj]
   have hRr:R = .fault j:=HN.out x j rfl hj
   subst hRr
   refine leaves_cons (f:=117) (args:=#[.pointer (some ⟨w.heap.size,0,none⟩),.pointer (some ⟨w.heap.size+1,0,none⟩)]) (by simp) (by simp [go_sem]) ?_
   exact fault_door (Nat.le_refl _) (Nat.le_succ _) H3.out.1 H3.out.2 rfl rfl
end Go.Proofs.Ts
namespace Go.Proofs.Ts
open Go
theorem BSet.ok_notN {s:BSet} (h:s.ok):∀ n,(s.notN n).ok
 | 0=>h
 | n+1=>BSet.ok_setw (BSet.ok_notN h n) _ (by
  have h1:=BSet.ok_word (BSet.ok_notN h n) n
  exact Nat.xor_lt_two_pow (n:=64) (by decide) h1)
theorem classOne_okS {s:ByteArray} {o o':BSet} {i j:Nat} (h:o.ok) (hc:classOne s o i = .ok o' j):o'.ok:=by
 unfold classOne at hc
 split at hc
 ·split at hc
  ·cases hc
  ·split at hc
   ·split at hc
    ·split at hc
     ·cases hc
     ·split at hc
      ·cases hc
      ·cases hc; exact BSet.ok_add h _ _
    ·cases hc
   ·cases hc; exact BSet.ok_add h _ _
 ·cases hc
theorem classP_okS {s:ByteArray}:∀ (f:Nat) {first:Bool} {o o':BSet} {i j:Nat},o.ok→classP s f first o i = .ok o' j→o'.ok
 | 0,first,o,o',i,j,h,hc=>by cases hc
 | f+1,first,o,o',i,j,h,hc=>by
  unfold classP at hc
  split at hc
  ·split at hc
   ·cases hc
   ·rename_i o1 j1 he
    exact classP_okS f (classOne_okS h he) hc
  ·cases hc; exact h
theorem setP_okS {s:ByteArray} {o:BSet} {i j:Nat} (hc:setP s i = .ok o j):o.ok:=by
 unfold setP at hc
 split at hc
 ·cases hc
 ·rename_i o1 j1 he
  have h1:=classP_okS _ BSet.ok_zero he
  cases hc
  split
  ·exact BSet.ok_notN h1 4
  ·exact h1
theorem Ast.ok_join {a b:Ast} (ha:a.ok) (hb:b.ok):(a.join b).ok:=by
 cases a <;> cases b <;> first | exact hb | exact ha | exact ⟨ha,hb⟩
theorem Ast.ok_joinN {a b:Ast} (ha:a.ok) (hb:b.ok):∀ n,(a.joinN b n).ok
 | 0=>ha
 | n+1=>Ast.ok_join (Ast.ok_joinN ha hb n) hb
def Times.Keeps (T:Times):Prop:=∀ (a:Ast) lo hi en,a.ok→(T a lo hi en).ok
theorem ok_empty:Ast.empty.ok:=trivial
theorem ok_huge:Ast.huge.ok:=trivial
theorem repeatT_keeps:Times.Keeps repeatT:=fun a lo hi en h=>by
 unfold repeatT
 by_cases h1:a.places * (if en then lo+1 else hi) > 128
 ·rw [if_pos h1]; exact ok_huge
 ·rw [if_neg h1]
  cases en
  ·exact Ast.ok_joinN (Ast.ok_joinN ok_empty h lo) (show (Ast.maybe a).ok from h) _
  ·exact Ast.ok_join (Ast.ok_joinN ok_empty h lo) (show (Ast.many a false).ok from h)
section
variable {T:Times} {A:Nat→PR Ast} {s:ByteArray}
theorem atomP_okS (hA:∀ i x j,A i = .ok x j→x.ok) {i j:Nat} {x:Ast} (hc:atomP A s i = .ok x j):x.ok:=by
 unfold atomP at hc
 split at hc
 ·cases hc
 ·split at hc
  ·split at hc
   ·cases hc
   ·rename_i y k he
    split at hc
    ·cases hc; exact hA _ _ _ he
    ·cases hc
  ·split at hc
   ·cases hc; exact BSet.ok_add BSet.ok_zero _ _
   ·split at hc
    ·split at hc
     ·cases hc
     ·rename_i o k he
      cases hc; exact setP_okS he
    ·split at hc
     ·cases hc
     ·split at hc
      ·cases hc
      ·cases hc; exact BSet.ok_add BSet.ok_zero _ _
theorem timesP_okS (hT:T.Keeps) {a x:Ast} {i j:Nat} (ha:a.ok) (hc:timesP T s a i = .ok x j):x.ok:=by
 unfold timesP at hc
 split at hc
 ·cases hc
 ·split at hc
  ·split at hc
   ·cases hc; exact hT _ _ _ _ ha
   ·split at hc
    ·cases hc
    ·split at hc
     ·cases hc; exact hT _ _ _ _ ha
     ·cases hc
  ·split at hc
   ·cases hc; exact hT _ _ _ _ ha
   ·cases hc
theorem behindP_okS (hT:T.Keeps) {a x:Ast} {i j:Nat} (ha:a.ok) (hc:behindP T s a i = .ok x j):x.ok:=by
 unfold behindP at hc
 split at hc
 ·cases hc; exact ha
 ·split at hc
  ·cases hc; exact ha
  ·split at hc
   ·cases hc; exact ha
   ·split at hc
    ·exact timesP_okS hT ha hc
    ·cases hc; exact ha
theorem repP_okS (hT:T.Keeps) (hA:∀ i x j,A i = .ok x j→x.ok) {i j:Nat} {x:Ast} (hc:repP T A s i = .ok x j):x.ok:=by
 unfold repP at hc
 split at hc
 ·cases hc
 ·rename_i a k he
  exact behindP_okS hT (atomP_okS hA he) hc
theorem seqP_okS (hT:T.Keeps) (hA:∀ i x j,A i = .ok x j→x.ok):∀ (f:Nat) {y x:Ast} {i j:Nat},y.ok→seqP T A s f y i = .ok x j→x.ok
 | 0,y,x,i,j,h,hc=>by cases hc
 | f+1,y,x,i,j,h,hc=>by
  unfold seqP at hc
  split at hc
  ·split at hc
   ·cases hc
   ·rename_i z k he
    exact seqP_okS hT hA f (Ast.ok_join h (repP_okS hT hA he)) hc
  ·cases hc; exact h
theorem orP_okS (hT:T.Keeps) (hA:∀ i x j,A i = .ok x j→x.ok):∀ (f:Nat) {y x:Ast} {i j:Nat},y.ok→orP T A s f y i = .ok x j→x.ok
 | 0,y,x,i,j,h,hc=>by cases hc
 | f+1,y,x,i,j,h,hc=>by
  unfold orP at hc
  split at hc
  ·split at hc
   ·cases hc
   ·rename_i z k he
    exact orP_okS hT hA f (show (Ast.or y z).ok from ⟨h,seqP_okS hT hA _ ok_empty he⟩) hc
  ·cases hc; exact h
theorem altP_okS (hT:T.Keeps):∀ (n:Nat) {x:Ast} {i j:Nat},altP T s n i = .ok x j→x.ok
 | 0,x,i,j,hc=>by cases hc
 | n+1,x,i,j,hc=>by
  have hA:∀ i x j,altP T s n i = .ok x j→x.ok:=fun i x j h=>altP_okS hT n h
  unfold altP at hc
  split at hc
  ·cases hc
  ·rename_i y k he
   exact orP_okS hT hA _ (seqP_okS hT hA _ ok_empty he) hc
end
theorem parseP_okS {s:ByteArray} {x:Ast} (h:parseP s = .ok x):x.ok:=by
 obtain ⟨_,_,h2,_⟩:=parse_ok h
 exact altP_okS repeatT_keeps _ h2
theorem parseP_count {s:ByteArray} {x:Ast} (h:parseP s = .ok x):x.count≤128:=by
 obtain ⟨_,_,_,h3⟩:=parse_ok h
 rw [places_count x h3]; exact h3
end Go.Proofs.Ts
namespace Go.Proofs.Ts
open Go Go.RowKit
theorem BitTab.mod {mb:Nat} {M:PM} {w w':World} (hT:BitTab w) (hM:MachIs w mb M) (hm:Mod (fun j=>j=mb) w w'):BitTab w':=by
 refine hT.kept (hm.block _ hT.lt fun e=>?_)
 obtain ⟨⟨cs,h1⟩,_⟩:=hT
 rw [e,hM.2] at h1
 cases h1
theorem PSet.under.fits {s:PSet} {n:Nat} (h:s.under n) (hn:n≤128):s.fits:=fun k hk=>by have:=h k hk; omega
theorem Part.cells_eq (p:Part):p.cells.toArray=#[.int .u64 p.first.a,.int .u64 p.first.b,.int .u64 p.first.c,.int .u64 p.last.a,.int .u64 p.last.b,.int .u64 p.last.c,.bool p.none]:=rfl
set_option maxRecDepth 100000 in
set_option maxHeartbeats 4000000 in
theorem part_many (e:Ast) (sm:Bool) (ih:PartGives e):PartGives (.many e sm):=by
 intro mb M w hM hT hn
 have hmb:=lt_of_heap hM.2
 have hok:=part_ok e M hM.1 hn
 have hn':M.n+e.count≤128:=hn
 have hnn:(PM.part e M).1.n≤128:=by rw [hok.n]; exact hn
 obtain ⟨a1,a2,a3,a4⟩:=asserts_many (.agg #[e.val,.bool sm])
 simp only [Asserts,zOne,zTwo,zMany,zMaybe] at a1 a2 a3 a4
 obtain ⟨xt,xv,hx⟩:=e.val_iface
 obtain ⟨W,hW⟩:∃ W,W=(w.alloc (.cells z7 278)).alloc (.cells #[.iface xt xv,.bool sm] 270):=⟨_,rfl⟩
 have h0:W.heap[w.heap.size]?=some (.cells z7 278 (0,0)):=by
  rw [hW,Below.heap_alloc _ _ _ (by simp)]
  exact heap_alloc_new w _
 have h1:W.heap[w.heap.size+1]?=some (.cells #[.iface xt xv,.bool sm] 270 (0,0)):=by
  rw [hW]
  have:=heap_alloc_new (w.alloc (.cells z7 278)) (.cells #[.iface xt xv,.bool sm] 270)
  rw [World.size_alloc] at this
  exact this
 have hb:Below w.heap.size w W:=by rw [hW]; exact ((Below.refl _ w).alloc (Nat.le_refl _) _).alloc (by simp) _
 have hsz:W.heap.size=w.heap.size+2:=by rw [hW]; simp
 have hcall:=ih mb M W (hM.below hb) (hT.below hb) hn
 rw [hx] at a1 a2 a3 a4 hcall
 have hc1:W.cell? ⟨w.heap.size+1,0,none⟩=some (.iface xt xv):=cell_block h1
 obtain ⟨p,hp⟩:∃ p,p=(PM.part e M).2:=⟨_,rfl⟩
 obtain ⟨r,hr⟩:∃ r,r=(p.none || !sm):=⟨_,rfl⟩
 obtain ⟨N,hN⟩:∃ N,N=(PM.part e M).1:=⟨_,rfl⟩
 have hval:(PM.part (.many e sm) M).2.val=Part.val ⟨p.first,p.last,r⟩:=by rw [hr,hp]; rfl
 have hmach:(PM.part (.many e sm) M).1=N.link p.last.elems p.first:=by rw [hN,hp]; rfl
 rw [hval,hmach]
 rw [← hp,← hN] at hcall hok
 rw [← hN] at hnn
 have H:=Lib.hid (show _∧_∧_∧_∧_∧_∧_ from ⟨hcall,h0,hb,hM.below hb,hT.below hb,hok,h1⟩)
 have HW:=Lib.hid hW
 have HR:=Lib.hid hr
 rw [show (Ast.many e sm).val = .iface 270 (.agg #[e.val,.bool sm]) from rfl,hx]
 unfold ptrV z7 at *
 clear hM hT hn hn' hb hval hmach hp hcall h0 h1 ih hx hW hok hr hN
 go_enter Tryz.func125,Tryz.ntmps125
 go_wp2_with fail
 rw [← HW.out]
 go_wp2_with fail
 refine H.out.1.mono ?_
 rintro en w1 ⟨rfl,hm1,hmod1⟩
 have hc0:=(hmod1.block (w.heap.size) (by omega) (by omega)).trans H.out.2.1
 have hcx:=(hmod1.block (w.heap.size+1) (by omega) (by omega)).trans H.out.2.2.2.2.2.2
 have hsz1:=hmod1.size
 have hT1:=H.out.2.2.2.2.1.mod H.out.2.2.2.1 hmod1
 have hbA:=(Below.refl w1.heap.size w1).alloc (Nat.le_refl _) (.cells p.cells.toArray 278)
 have hlink:=machLink_any mb N p.last p.first (w1.alloc (.cells p.cells.toArray 278)) H.out.2.2.2.2.2.1.part.l (H.out.2.2.2.2.2.1.ul.fits hnn) H.out.2.2.2.2.2.1.part.f (hm1.below hbA) (hT1.below hbA)
 have HL:=Lib.hid (show _∧_∧_∧_∧_ from ⟨hlink,hmod1,hm1,hc0,hcx⟩)
 clear hlink hmod1 hm1 hc0 hcx hT1 hbA
 rw [Part.val_eq p]
 go_wp2_with fail
 have hl:=HL.out.1
 rw [Part.cells_eq] at hl
 unfold ptrV PSet.val PSet.cells at hl
 refine hl.mono ?_
 clear hl
 rintro en w3 ⟨rfl,hm3,hmod3⟩
 have hsz3:=hmod3.size
 rw [World.size_alloc] at hsz3
 have hmod13:Mod (fun j=>j=mb) w1 w3:=(Mod.alloc _ w1 _).trans hmod3
 have g0:=(hmod13.block (w.heap.size) (by omega) (by omega)).trans HL.out.2.2.2.1
 have gx:=(hmod13.block (w.heap.size+1) (by omega) (by omega)).trans HL.out.2.2.2.2
 have g1:=(hmod3.block w1.heap.size (by simp) (by omega)).trans (heap_alloc_new w1 _)
 have hmodw:Mod (fun j=>j=mb) w w3:=((below_mod H.out.2.2.1).trans HL.out.2.1).trans hmod13
 have hk:=Cells7.of g1
 obtain ⟨e0,e1,e2,e3,e4,e5,e6,k0,k1,k2,k3,k4,k5,k6⟩:=hk.all
 have hcs:w3.cell? ⟨w.heap.size+1,1,none⟩=some (.bool sm):=cell_block gx
 have s1:=heap_setCell_same w3 w1.heap.size 6 _ _ (.bool r) g1
 simp only [List.setIfInBounds_toArray,List.set_cons_zero,List.set_cons_succ] at s1
 have s0:=(Below.heap_setCell w3 ⟨w1.heap.size,6,none⟩ (.bool r) w.heap.size (by show w.heap.size≠w1.heap.size; omega)).trans g0
 have sm3:MachIs (w3.setCell ⟨w1.heap.size,6,none⟩ (.bool r)) mb (N.link p.last.elems p.first):=⟨hm3.1,(Below.heap_setCell w3 ⟨w1.heap.size,6,none⟩ (.bool r) mb (by show mb≠w1.heap.size; omega)).trans hm3.2⟩
 have smod:=hmodw.past (show w.heap.size≤w1.heap.size by omega) 6 (.bool r)
 obtain ⟨W5,hW5,hfin⟩:=part_out ⟨p.first,p.last,r⟩ s0 sm3 smod (Nat.le_refl _) hmb
 have hrr:r=(p.none || !sm):=HR.out
 have HF:=Lib.hid (show _∧_∧_∧_ from ⟨hfin,s0,s1,hW5⟩)
 obtain ⟨d0,d1,d2,d3,d4,d5,d6,f0,f1,f2,f3,f4,f5,f6⟩:=(Cells7.of s0).all
 clear hfin s0 s1 hW5 sm3 smod hmodw hmod13 hmod3 hm3 g0 gx g1 hk HL
 generalize p.none=pn at *
 cases pn <;> cases sm
 all_goals
  simp only [Bool.or_false,Bool.or_true,Bool.not_true,Bool.not_false,Bool.false_or,Bool.true_or] at hrr
  subst hrr
  go_wp2_with fail
 all_goals
  have e3:=HF.out.2.2.2
  unfold set7 at e3
  rw [← e3]
  clear e3
  refine bodyPost_ret (results_cell_row rfl _ _ w.heap.size _ _ (0,0) _ rfl HF.out.1.1 Tryz.underlying278 rfl (by kernel_rfl)) rfl ?_
  exact ⟨rfl,HF.out.1.2⟩
end Go.Proofs.Ts
