/- Lemmas towards the statement Alike of termsearch: walks of the program's functions and plain laws on lists (TsClass). Conditions: those that each theorem names. -/
import Derived.Test.YtglafkgakcfahaaGreatDoorAlikePI
set_option linter.unusedVariables false
set_option linter.unusedSimpArgs false
set_option linter.unusedSectionVars false
namespace Go.Proofs.Ts
open Go Go.RowKit
section
variable {s:ByteArray} {o:BSet} {q j k p:Nat} {lo hi:UInt8}
theorem classOne_bad (h:clsB s q=false):classOne s o q = .fault q:=by unfold classOne; rw [if_neg (by rw [h]; decide)]
theorem classOne_single (h:clsB s q=true) (h1:singleP s q = .fault p):classOne s o q = .fault p:=by unfold classOne; rw [if_pos h,h1]
theorem classOne_plain (h:clsB s q=true) (h1:singleP s q = .ok lo j) (h2:isB s j 45=false):classOne s o q = .ok (o.add lo.toNat lo.toNat) j:=by unfold classOne; rw [if_pos h,h1]; dsimp only; rw [if_neg (by rw [h2]; decide)]
theorem classOne_bad2 (h:clsB s q=true) (h1:singleP s q = .ok lo j) (h2:isB s j 45=true) (h3:clsB s (j+1)=false):classOne s o q = .fault (j+1):=by unfold classOne; rw [if_pos h,h1]; dsimp only; rw [if_pos h2,if_neg (by rw [h3]; decide)]
theorem classOne_single2 (h:clsB s q=true) (h1:singleP s q = .ok lo j) (h2:isB s j 45=true) (h3:clsB s (j+1)=true) (h4:singleP s (j+1) = .fault p):classOne s o q = .fault p:=by unfold classOne; rw [if_pos h,h1]; dsimp only; rw [if_pos h2,if_pos h3,h4]
theorem classOne_less (h:clsB s q=true) (h1:singleP s q = .ok lo j) (h2:isB s j 45=true) (h3:clsB s (j+1)=true) (h4:singleP s (j+1) = .ok hi k) (h5:hi < lo):classOne s o q = .fault (k - 1):=by unfold classOne; rw [if_pos h,h1]; dsimp only; rw [if_pos h2,if_pos h3,h4]; dsimp only; rw [if_pos h5]
theorem classOne_range (h:clsB s q=true) (h1:singleP s q = .ok lo j) (h2:isB s j 45=true) (h3:clsB s (j+1)=true) (h4:singleP s (j+1) = .ok hi k) (h5:¬ hi < lo):classOne s o q = .ok (o.add lo.toNat hi.toNat) k:=by unfold classOne; rw [if_pos h,h1]; dsimp only; rw [if_pos h2,if_pos h3,h4]; dsimp only; rw [if_neg h5]
end
def ClsEnd (rb ob:Nat) (s:ByteArray) (w:World) (C:PR BSet) (e:Ending) (w':World):Prop :=
 match C with
 | .fault p=>e = .panicked (faultP p)∧Mod (fun j=>j=rb∨j=ob) w w'
 | .ok o j=>e = .returned (.tuple #[])∧RdIs w' rb s j∧BSetIs w' ob o∧Mod (fun j=>j=rb∨j=ob) w w'
def ClsAt (rb ob:Nat) (s:ByteArray) (w:World) (D:PR BSet) (f:Nat) (first:Bool) (o:BSet) (q:Nat) (wr:World):Prop :=
 D=classP s f first o q∧s.size < f+q∧RdIs wr rb s q∧BSetIs wr ob o∧Mod (fun j=>j=rb∨j=ob) w wr
def rdAt (w:World) (rb:Nat):Nat:=match w.cell? ⟨rb,1,none⟩ with
 | some (.int _ i)=>i.toNat
 | _=>0
theorem rdAt_is {w:World} {rb i:Nat} {s:ByteArray} (h:RdIs w rb s i):rdAt w rb=i:=by
 unfold rdAt
 rw [h.c1]
 simp
theorem RdIs.mod {w w':World} {rb i:Nat} {s:ByteArray} {S:Nat→Prop} (h:RdIs w rb s i) (k:Mod S w w') (hn:¬ S rb):RdIs w' rb s i:=⟨(k.block rb h.lt hn).trans h.1,h.2⟩
theorem classP_go {s:ByteArray} {f:Nat} {first:Bool} {o:BSet} {q:Nat} (h:(first || !isB s q 93)=true):(∀ p,classOne s o q = .fault p→classP s (f+1) first o q = .fault p) ∧ ∀ o' j,classOne s o q = .ok o' j→classP s (f+1) first o q=classP s f false o' j:=by
 constructor
 ·intro p hp; unfold classP; rw [if_pos h,hp]
 ·intro o' j hp; rw [classP,if_pos h,hp]
theorem classP_end {s:ByteArray} {f:Nat} {o:BSet} {q:Nat} (h:isB s q 93=true):classP s (f+1) false o q = .ok o q:=by unfold classP; rw [if_neg (by rw [h]; decide)]
set_option maxRecDepth 100000 in
set_option maxHeartbeats 8000000 in
theorem class_any (rb ob:Nat) (s:ByteArray) (i:Nat) (w:World) (hR:RdIs w rb s i) (hO:BSetIs w ob .zero) (hne:ob≠rb) :
  Calls Tryz.prog 187 #[ptrV rb,ptrV ob] w (ClsEnd rb ob s w (setP s i)):=by
 obtain ⟨C,hC⟩:∃ C,C=setP s i:=⟨_,rfl⟩
 obtain ⟨i1,hi1⟩:∃ i1,i1=eatB s i 94:=⟨_,rfl⟩
 obtain ⟨nt,hnt⟩:∃ nt,nt=isB s i 94:=⟨_,rfl⟩
 obtain ⟨D,hD⟩:∃ D,D=classP s (s.size+1) true .zero i1:=⟨_,rfl⟩
 have HDC0:Hid (∀ p,D = .fault p→C = .fault p):=Lib.hid fun p hp=>by
  rw [hC]
  unfold setP
  rw [← hi1,← hD,hp]
 have HCok:Hid (∀ o j,D = .ok o j→C = .ok (if nt then o.not else o) (j+1)):=Lib.hid fun o j hp=>by
  rw [hC]
  unfold setP
  rw [← hi1,← hD,hp,hnt]
 rw [← hC]
 have HNE:=Lib.hid hne
 have hle:i1≤s.size:=by rw [hi1]; exact (eat_le s i 94 hR.2.1).2
 have HE:=Lib.hid (show D.Good s i1 ∧ ∀ o' j,D = .ok o' j→isB s j 93=true from by
  rw [hD]
  by_cases h0:0 < i1+1
  ·exact class_good s (s.size+1) true .zero i1 hle (by omega)
  ·omega)
 have hcall:=eat_any rb s i 94 w hR
 rw [← hi1,← hnt] at hcall
 have HCALL:=Lib.hid hcall
 have HDD:=Lib.hid hD
 have HO:=Lib.hid hO
 clear hC hi1 hnt hD hR hO hne hcall hle
 unfold ptrV
 go_enter Tryz.func187,Tryz.ntmps187
 go_wp2_with fail
 have hcall:=HCALL.out
 unfold ptrV at hcall
 refine hcall.mono ?_
 clear hcall HCALL
 rintro e w1 ⟨rfl,hr1,hm1⟩
 have HA:Hid (ClsAt rb ob s w D (s.size+1) true .zero i1 w1):=Lib.hid ⟨HDD.out,by omega,hr1,HO.out.mod hm1 (fun e=>HNE.out e),hm1.mono fun _ _ h => .inl h⟩
 clear hr1 hm1 HDD HO
 go_wp2_with fail
 go_loopw [5] (fun v wr=>∃ (f:Nat) (first:Bool) (o:BSet) (q:Nat),v = .bool first∧Hid (ClsAt rb ob s w D f first o q wr)) (fun _ wr=>s.size - rdAt wr rb)
 case atStart=>exact ⟨_,true,.zero,i1,rfl,HA⟩
 case round =>
  clear HA
  obtain ⟨f0,first,o,q,rfl,HI⟩:=hrel
  obtain ⟨f,rfl⟩:∃ f,f0=f+1:=⟨f0 - 1,by have:=HI.out.2.1; have:=HI.out.2.2.1.2.1; omega⟩
  have HS:=Lib.hid (show RdIs wr rb s (q)∧BSetIs wr ob o∧Mod (fun j=>j=rb∨j=ob) w wr from HI.out.2.2)
  cases first
  ·go_wp2_with fail
   have hcall:=is_any rb s q 93 _ HS.out.1
   unfold ptrV at hcall
   refine hcall.mono ?_
   clear hcall
   obtain ⟨d93,hd93⟩:∃ b,b=isB s q 93:=⟨_,rfl⟩
   rw [← hd93]
   have HD93:=Lib.hid hd93.symm
   clear hd93
   rintro e wa ⟨rfl,hsa⟩
   have HSb:=Lib.hid (show RdIs wa rb s (q)∧BSetIs wa ob o∧Mod (fun j=>j=rb∨j=ob) w wa from ⟨HS.out.1.same hsa,HS.out.2.1.same hsa,HS.out.2.2.trans (Mod.same hsa)⟩)
   clear hsa HS
   have HS:=HSb
   clear HSb
   cases d93
   ·have HDf:Hid (∀ p,classOne s o q = .fault p→C = .fault p):=Lib.hid fun p hp=>HDC0.out p (HI.out.1.trans ((classP_go (by rw [HD93.out]; rfl)).1 p hp))
    have HDo:Hid (∀ o' j,classOne s o q = .ok o' j→D=classP s f false o' j):=Lib.hid fun o' j hp=>HI.out.1.trans ((classP_go (by rw [HD93.out]; rfl)).2 o' j hp)
    go_wp2_with fail
    have HSd:=Lib.hid (show RdIs wa.drew rb s (q)∧BSetIs wa.drew ob o∧Mod (fun j=>j=rb∨j=ob) w wa.drew from ⟨HS.out.1.same (Same.drew _),HS.out.2.1.same (Same.drew _),HS.out.2.2.trans (Mod.same (Same.drew _))⟩)
    clear HS
    have HS:=HSd
    clear HSd
    by_cases hlt:q < s.size
    ·obtain ⟨b45,hb45⟩:∃ b,b=isB s (q) 45:=⟨_,rfl⟩
     have HB45:=Lib.hid hb45
     clear hb45
     cases b45
     ·obtain ⟨b93,hb93⟩:∃ b,b=isB s (q) 93:=⟨_,rfl⟩
      have HB93:=Lib.hid hb93
      clear hb93
      cases b93
      ·refine wp_region_ordP [(0,false),(1,false),(2,false),(3,false),(4,false),(5,false),(6,false),(7,false),(8,false),(9,false),(10,false),(11,false),(12,false),(13,true),(14,false),(15,false),(16,false),(17,false),(18,true),(19,false),(20,false),(21,true)]
        (fun w'=>RdIs w' rb s (q)∧BSetIs w' ob o∧Mod (fun j=>j=rb∨j=ob) w w') (fun c w'=>ClsEnd rb ob s w C (.panicked c) w') (fun c a w' hd h=>⟨hd,h⟩) (by kernel_rfl) (by kernel_rfl) HS.out ?_
       iterate 13 (
        refine wpOrdP_quiet ?_ rfl rfl (fun w' hS=>?_) ?_
        rotate_left
        ·have e0:=hS.1.c0
         have e1:=hS.1.c1
         go_simp
         first | rfl | done
        simp only [put_lit,List.set_cons_succ,List.set_cons_zero])
       refine wpOrdP_loud rfl rfl (by decide) (fun K hK=>?_)
       have HK:=Lib.hid hK
       clear hK
       go_simp
       have hcall:=is_any rb s (q) 45 _ HS.out.1
       unfold ptrV at hcall
       refine hcall.mono ?_
       clear hcall
       rintro e wb ⟨rfl,hsb⟩
       rw [← HB45.out]
       have HSb:=Lib.hid (show RdIs wb rb s (q)∧BSetIs wb ob o∧Mod (fun j=>j=rb∨j=ob) w wb from ⟨HS.out.1.same hsb,HS.out.2.1.same hsb,HS.out.2.2.trans (Mod.same hsb)⟩)
       clear hsb HS
       have HS:=HSb
       clear HSb
       refine HK.out _ _ HS.out ?_
       clear HK K
       iterate 4 (
        refine wpOrdP_quiet ?_ rfl rfl (fun w' hS=>?_) ?_
        rotate_left
        ·have e0:=hS.1.c0
         have e1:=hS.1.c1
         go_simp
         first | rfl | done
        simp only [put_lit,List.set_cons_succ,List.set_cons_zero])
       refine wpOrdP_loud rfl rfl (by decide) (fun K hK=>?_)
       have HK:=Lib.hid hK
       clear hK
       go_simp
       have hcall:=is_any rb s (q) 93 _ HS.out.1
       unfold ptrV at hcall
       refine hcall.mono ?_
       clear hcall
       rintro e wb ⟨rfl,hsb⟩
       rw [← HB93.out]
       have HSb:=Lib.hid (show RdIs wb rb s (q)∧BSetIs wb ob o∧Mod (fun j=>j=rb∨j=ob) w wb from ⟨HS.out.1.same hsb,HS.out.2.1.same hsb,HS.out.2.2.trans (Mod.same hsb)⟩)
       clear hsb HS
       have HS:=HSb
       clear HSb
       refine HK.out _ _ HS.out ?_
       clear HK K
       iterate 2 (
        refine wpOrdP_quiet ?_ rfl rfl (fun w' hS=>?_) ?_
        rotate_left
        ·have e0:=hS.1.c0
         have e1:=hS.1.c1
         go_simp
         first | rfl | done
        simp only [put_lit,List.set_cons_succ,List.set_cons_zero])
       refine wpOrdP_loud rfl rfl (by decide) (fun K hK=>?_)
       have HK:=Lib.hid hK
       clear hK
       go_simp
       have hcall:=must_any rb s (q) true _ HS.out.1
       unfold ptrV at hcall
       refine hcall.mono ?_
       clear hcall
       rintro e wb ⟨rfl,hsb⟩
       have HSb:=Lib.hid (show RdIs wb rb s (q)∧BSetIs wb ob o∧Mod (fun j=>j=rb∨j=ob) w wb from ⟨HS.out.1.same hsb,HS.out.2.1.same hsb,HS.out.2.2.trans (Mod.same hsb)⟩)
       clear hsb HS
       have HS:=HSb
       clear HSb
       refine HK.out _ _ HS.out ?_
       clear HK K
       have HCL:Hid (clsB s (q)=true):=Lib.hid (by
        unfold clsB
        rw [decide_eq_true hlt,← HB45.out,← HB93.out]
        rfl)
       clear HB45 HB93 hlt
       refine wpOrdP_nil ?_
       go_wp2_with fail
       have hcall:=single_any rb s (q) _ HS.out.1
       unfold ptrV at hcall
       refine hcall.mono ?_
       clear hcall
       obtain ⟨R1,hR1⟩:∃ r,r=singleP s (q):=⟨_,rfl⟩
       rw [← hR1]
       have HR1:=Lib.hid hR1.symm
       clear hR1
       cases R1 with
       | fault p =>
        rintro e wb ⟨rfl,hmb⟩
        refine ⟨rfl,?_⟩
        have HC:Hid (C = .fault p):=Lib.hid (HDf.out _ (classOne_single HCL.out HR1.out))
        rw [HC.out]
        exact ⟨rfl,HS.out.2.2.trans (hmb.mono fun _ _ h => .inl h)⟩
       | ok lo j =>
        rintro e wb ⟨rfl,hrb,hmb⟩
        have hon:=single_on s q HI.out.2.2.1.2.1
        rw [HR1.out] at hon
        have hon':q < j∧j≤s.size:=hon
        have HJ:=Lib.hid hon'
        clear hon hon'
        have HSb:=Lib.hid (show RdIs wb rb s (j)∧BSetIs wb ob o∧Mod (fun j=>j=rb∨j=ob) w wb from ⟨hrb,HS.out.2.1.mod hmb (fun e=>HNE.out e),HS.out.2.2.trans (hmb.mono fun _ _ h => .inl h)⟩)
        clear hrb hmb HS
        have HS:=HSb
        clear HSb
        go_wp2_with fail
        have hcall:=eat_any rb s j 45 _ HS.out.1
        unfold ptrV at hcall
        refine hcall.mono ?_
        clear hcall
        obtain ⟨d45,hd45⟩:∃ b,b=isB s j 45:=⟨_,rfl⟩
        unfold eatB
        rw [← hd45]
        have HD45:=Lib.hid hd45
        clear hd45
        rintro e w5 ⟨rfl,hr5,hm5⟩
        cases d45
        ·have HSb:=Lib.hid (show RdIs w5 rb s (j)∧BSetIs w5 ob o∧Mod (fun j=>j=rb∨j=ob) w w5 from ⟨hr5,HS.out.2.1.mod hm5 (fun e=>HNE.out e),HS.out.2.2.trans (hm5.mono fun _ _ h => .inl h)⟩)
         clear hr5 hm5 HS
         have HS:=HSb
         clear HSb
         go_wp2_with fail
         have hcall:=add_any ob lo.toNat lo.toNat o _ HS.out.2.1 lo.toNat_lt lo.toNat_lt
         unfold ptrV at hcall
         refine hcall.mono ?_
         clear hcall
         rintro e wz ⟨rfl,hbz,hmz⟩
         have HN:Hid (ClsAt rb ob s w D f false (o.add lo.toNat lo.toNat) (j) wz):=Lib.hid ⟨HDo.out _ _ (classOne_plain HCL.out HR1.out HD45.out.symm),by have:=HJ.out; have:=HI.out.2.1; omega,HS.out.1.mod hmz (fun e=>HNE.out e.symm),hbz,HS.out.2.2.trans (hmz.mono fun _ _ h => .inr h)⟩
         have HM:Hid (s.size - rdAt wz rb < s.size - rdAt wr rb):=Lib.hid (by
          rw [rdAt_is HN.out.2.2.1,rdAt_is HI.out.2.2.1]
          have:=HJ.out
          have:=HN.out.2.2.1.2.1
          omega)
         clear hbz hmz
         go_wp2_with fail
         exact ⟨⟨f,false,_,_,rfl,HN⟩,HM.out⟩
        ·have HSb:=Lib.hid (show RdIs w5 rb s (j+1)∧BSetIs w5 ob o∧Mod (fun j=>j=rb∨j=ob) w w5 from ⟨hr5,HS.out.2.1.mod hm5 (fun e=>HNE.out e),HS.out.2.2.trans (hm5.mono fun _ _ h => .inl h)⟩)
         clear hr5 hm5 HS
         have HS:=HSb
         clear HSb
         go_wp2_with fail
         have HSd:=Lib.hid (show RdIs w5.drew rb s (j+1)∧BSetIs w5.drew ob o∧Mod (fun j=>j=rb∨j=ob) w w5.drew from ⟨HS.out.1.same (Same.drew _),HS.out.2.1.same (Same.drew _),HS.out.2.2.trans (Mod.same (Same.drew _))⟩)
         clear HS
         have HS:=HSd
         clear HSd
         by_cases hlt:j+1 < s.size
         ·have hltz:(j:Int)+1 < (s.size:Int):=by omega
          obtain ⟨b45,hb45⟩:∃ b,b=isB s (j+1) 45:=⟨_,rfl⟩
          have HB45:=Lib.hid hb45
          clear hb45
          cases b45
          ·obtain ⟨b93,hb93⟩:∃ b,b=isB s (j+1) 93:=⟨_,rfl⟩
           have HB93:=Lib.hid hb93
           clear hb93
           cases b93
           ·refine wp_region_ordP [(0,false),(1,false),(2,false),(3,false),(4,false),(5,false),(6,false),(7,false),(8,false),(9,false),(10,false),(11,false),(12,false),(13,true),(14,false),(15,false),(16,false),(17,false),(18,true),(19,false),(20,false),(21,true)]
             (fun w'=>RdIs w' rb s (j+1)∧BSetIs w' ob o∧Mod (fun j=>j=rb∨j=ob) w w') (fun c w'=>ClsEnd rb ob s w C (.panicked c) w') (fun c a w' hd h=>⟨hd,h⟩) (by kernel_rfl) (by kernel_rfl) HS.out ?_
            iterate 13 (
             refine wpOrdP_quiet ?_ rfl rfl (fun w' hS=>?_) ?_
             rotate_left
             ·have e0:=hS.1.c0
              have e1:=hS.1.c1
              go_simp
              first | rfl | done
             simp only [put_lit,List.set_cons_succ,List.set_cons_zero])
            refine wpOrdP_loud rfl rfl (by decide) (fun K hK=>?_)
            have HK:=Lib.hid hK
            clear hK
            go_simp
            have hcall:=is_any rb s (j+1) 45 _ HS.out.1
            unfold ptrV at hcall
            refine hcall.mono ?_
            clear hcall
            rintro e wb ⟨rfl,hsb⟩
            rw [← HB45.out]
            have HSb:=Lib.hid (show RdIs wb rb s (j+1)∧BSetIs wb ob o∧Mod (fun j=>j=rb∨j=ob) w wb from ⟨HS.out.1.same hsb,HS.out.2.1.same hsb,HS.out.2.2.trans (Mod.same hsb)⟩)
            clear hsb HS
            have HS:=HSb
            clear HSb
            refine HK.out _ _ HS.out ?_
            clear HK K
            iterate 4 (
             refine wpOrdP_quiet ?_ rfl rfl (fun w' hS=>?_) ?_
             rotate_left
             ·have e0:=hS.1.c0
              have e1:=hS.1.c1
              go_simp
              first | rfl | done
             simp only [put_lit,List.set_cons_succ,List.set_cons_zero])
            refine wpOrdP_loud rfl rfl (by decide) (fun K hK=>?_)
            have HK:=Lib.hid hK
            clear hK
            go_simp
            have hcall:=is_any rb s (j+1) 93 _ HS.out.1
            unfold ptrV at hcall
            refine hcall.mono ?_
            clear hcall
            rintro e wb ⟨rfl,hsb⟩
            rw [← HB93.out]
            have HSb:=Lib.hid (show RdIs wb rb s (j+1)∧BSetIs wb ob o∧Mod (fun j=>j=rb∨j=ob) w wb from ⟨HS.out.1.same hsb,HS.out.2.1.same hsb,HS.out.2.2.trans (Mod.same hsb)⟩)
            clear hsb HS
            have HS:=HSb
            clear HSb
            refine HK.out _ _ HS.out ?_
            clear HK K
            iterate 2 (
             refine wpOrdP_quiet ?_ rfl rfl (fun w' hS=>?_) ?_
             rotate_left
             ·have e0:=hS.1.c0
              have e1:=hS.1.c1
              go_simp
              first | rfl | done
             simp only [put_lit,List.set_cons_succ,List.set_cons_zero])
            refine wpOrdP_loud rfl rfl (by decide) (fun K hK=>?_)
            have HK:=Lib.hid hK
            clear hK
            go_simp
            have hcall:=must_any rb s (j+1) true _ HS.out.1
            unfold ptrV at hcall
            refine hcall.mono ?_
            clear hcall
            rintro e wb ⟨rfl,hsb⟩
            have HSb:=Lib.hid (show RdIs wb rb s (j+1)∧BSetIs wb ob o∧Mod (fun j=>j=rb∨j=ob) w wb from ⟨HS.out.1.same hsb,HS.out.2.1.same hsb,HS.out.2.2.trans (Mod.same hsb)⟩)
            clear hsb HS
            have HS:=HSb
            clear HSb
            refine HK.out _ _ HS.out ?_
            clear HK K
            have HCL2:Hid (clsB s (j+1)=true):=Lib.hid (by
             unfold clsB
             rw [decide_eq_true hlt,← HB45.out,← HB93.out]
             rfl)
            clear HB45 HB93 hlt
            refine wpOrdP_nil ?_
            go_wp2_with fail
            have hcall:=single_any rb s (j+1) _ HS.out.1
            unfold ptrV at hcall
            refine hcall.mono ?_
            clear hcall
            obtain ⟨R2,hR2⟩:∃ r,r=singleP s (j+1):=⟨_,rfl⟩
            rw [← hR2]
            have HR2:=Lib.hid hR2.symm
            clear hR2
            cases R2 with
            | fault p =>
             rintro e wb ⟨rfl,hmb⟩
             refine ⟨rfl,?_⟩
             have HC:Hid (C = .fault p):=Lib.hid (HDf.out _ (classOne_single2 HCL.out HR1.out HD45.out.symm HCL2.out HR2.out))
             rw [HC.out]
             exact ⟨rfl,HS.out.2.2.trans (hmb.mono fun _ _ h => .inl h)⟩
            | ok hi k =>
             rintro e wb ⟨rfl,hrb,hmb⟩
             have hon:=single_on s (j+1) HS.out.1.2.1
             rw [HR2.out] at hon
             have hon':j+1 < k∧k≤s.size:=hon
             have HJ2:Hid (q < k∧k≤s.size∧j+1 < k):=Lib.hid ⟨by have:=HJ.out; omega,hon'.2,hon'.1⟩
             clear HJ hon hon'
             have HJ:=HJ2
             clear HJ2
             have HSb:=Lib.hid (show RdIs wb rb s (k)∧BSetIs wb ob o∧Mod (fun j=>j=rb∨j=ob) w wb from ⟨hrb,HS.out.2.1.mod hmb (fun e=>HNE.out e),HS.out.2.2.trans (hmb.mono fun _ _ h => .inl h)⟩)
             clear hrb hmb HS
             have HS:=HSb
             clear HSb
             by_cases hhl:hi < lo
             ·have hhz:(hi.toNat:Int) < (lo.toNat:Int):=by have:=UInt8.lt_iff_toNat_lt.1 hhl; omega
              have HC:Hid (C = .fault (k - 1)):=Lib.hid (HDf.out _ (classOne_less HCL.out HR1.out HD45.out.symm HCL2.out HR2.out hhl))
              have c1:=HS.out.1.c1
              have hf:=HS.out.1.free 1
              have hsz:=HS.out.1.2.2
              have hkz:(1:Int)≤(k:Int):=by have:=HJ.out; omega
              have hks:k≤1000000:=by have:=HJ.out; omega
              go_wp2_with fail
              have hset:=HS.out.1.set (j:=k - 1) (by have:=HJ.out; omega)
              have ek:((k - 1:Nat):Int)=(k:Int) - 1:=by omega
              rw [ek] at hset
              have hcall:=must_any rb s (k - 1) false _ hset
              unfold ptrV at hcall
              refine hcall.mono ?_
              clear hcall
              rintro e wc ⟨rfl,hsc⟩
              refine ⟨rfl,?_⟩
              rw [HC.out]
              exact ⟨rfl,(HS.out.2.2.trans (Mod.setCell _ _ _ fun _ => .inl rfl)).trans (Mod.same hsc)⟩
             ·have hhz:decide ((hi.toNat:Int) < (lo.toNat:Int))=false:=by
               have:¬ hi.toNat < lo.toNat:=fun e=>hhl (UInt8.lt_iff_toNat_lt.2 e)
               simp; omega
              go_wp2_with fail
              have hcall:=add_any ob lo.toNat hi.toNat o _ HS.out.2.1 lo.toNat_lt hi.toNat_lt
              unfold ptrV at hcall
              refine hcall.mono ?_
              clear hcall
              rintro e wz ⟨rfl,hbz,hmz⟩
              have HN:Hid (ClsAt rb ob s w D f false (o.add lo.toNat hi.toNat) (k) wz):=Lib.hid ⟨HDo.out _ _ (classOne_range HCL.out HR1.out HD45.out.symm HCL2.out HR2.out hhl),by have:=HJ.out; have:=HI.out.2.1; omega,HS.out.1.mod hmz (fun e=>HNE.out e.symm),hbz,HS.out.2.2.trans (hmz.mono fun _ _ h => .inr h)⟩
              have HM:Hid (s.size - rdAt wz rb < s.size - rdAt wr rb):=Lib.hid (by
               rw [rdAt_is HN.out.2.2.1,rdAt_is HI.out.2.2.1]
               have:=HJ.out
               have:=HN.out.2.2.1.2.1
               omega)
              clear hbz hmz
              go_wp2_with fail
              exact ⟨⟨f,false,_,_,rfl,HN⟩,HM.out⟩
           ·have hcls:clsB s (j+1)=false:=by
             unfold clsB
             rw [decide_eq_true hlt,← HB45.out,← HB93.out]
             rfl
            have HC:Hid (C = .fault (j+1)):=Lib.hid (HDf.out _ (classOne_bad2 HCL.out HR1.out HD45.out.symm hcls))
            clear hcls
            refine wp_region_ordP [(0,false),(1,false),(2,false),(3,false),(4,false),(5,false),(6,false),(7,false),(8,false),(9,false),(10,false),(11,false),(12,false),(13,true),(14,false),(15,false),(16,false),(17,false),(18,true),(19,false),(20,false),(21,true)]
             (fun w'=>RdIs w' rb s (j+1)∧BSetIs w' ob o∧Mod (fun j=>j=rb∨j=ob) w w') (fun c w'=>ClsEnd rb ob s w C (.panicked c) w') (fun c a w' hd h=>⟨hd,h⟩) (by kernel_rfl) (by kernel_rfl) HS.out ?_
            iterate 13 (
             refine wpOrdP_quiet ?_ rfl rfl (fun w' hS=>?_) ?_
             rotate_left
             ·have e0:=hS.1.c0
              have e1:=hS.1.c1
              go_simp
              first | rfl | done
             simp only [put_lit,List.set_cons_succ,List.set_cons_zero])
            refine wpOrdP_loud rfl rfl (by decide) (fun K hK=>?_)
            have HK:=Lib.hid hK
            clear hK
            go_simp
            have hcall:=is_any rb s (j+1) 45 _ HS.out.1
            unfold ptrV at hcall
            refine hcall.mono ?_
            clear hcall
            rintro e wb ⟨rfl,hsb⟩
            rw [← HB45.out]
            have HSb:=Lib.hid (show RdIs wb rb s (j+1)∧BSetIs wb ob o∧Mod (fun j=>j=rb∨j=ob) w wb from ⟨HS.out.1.same hsb,HS.out.2.1.same hsb,HS.out.2.2.trans (Mod.same hsb)⟩)
            clear hsb HS
            have HS:=HSb
            clear HSb
            refine HK.out _ _ HS.out ?_
            clear HK K
            iterate 4 (
             refine wpOrdP_quiet ?_ rfl rfl (fun w' hS=>?_) ?_
             rotate_left
             ·have e0:=hS.1.c0
              have e1:=hS.1.c1
              go_simp
              first | rfl | done
             simp only [put_lit,List.set_cons_succ,List.set_cons_zero])
            refine wpOrdP_loud rfl rfl (by decide) (fun K hK=>?_)
            have HK:=Lib.hid hK
            clear hK
            go_simp
            have hcall:=is_any rb s (j+1) 93 _ HS.out.1
            unfold ptrV at hcall
            refine hcall.mono ?_
            clear hcall
            rintro e wb ⟨rfl,hsb⟩
            rw [← HB93.out]
            have HSb:=Lib.hid (show RdIs wb rb s (j+1)∧BSetIs wb ob o∧Mod (fun j=>j=rb∨j=ob) w wb from ⟨HS.out.1.same hsb,HS.out.2.1.same hsb,HS.out.2.2.trans (Mod.same hsb)⟩)
            clear hsb HS
            have HS:=HSb
            clear HSb
            refine HK.out _ _ HS.out ?_
            clear HK K
            iterate 2 (
             refine wpOrdP_quiet ?_ rfl rfl (fun w' hS=>?_) ?_
             rotate_left
             ·have e0:=hS.1.c0
              have e1:=hS.1.c1
              go_simp
              first | rfl | done
             simp only [put_lit,List.set_cons_succ,List.set_cons_zero])
            refine wpOrdP_loud rfl rfl (by decide) (fun K hK=>?_)
            have HK:=Lib.hid hK
            clear hK
            go_simp
            have hcall:=must_any rb s (j+1) false _ HS.out.1
            unfold ptrV at hcall
            refine hcall.mono ?_
            clear hcall
            rintro e wb ⟨rfl,hsb⟩
            have HSb:=Lib.hid (show RdIs wb rb s (j+1)∧BSetIs wb ob o∧Mod (fun j=>j=rb∨j=ob) w wb from ⟨HS.out.1.same hsb,HS.out.2.1.same hsb,HS.out.2.2.trans (Mod.same hsb)⟩)
            clear hsb HS
            have HS:=HSb
            clear HSb
            refine ⟨rfl,?_⟩
            rw [HC.out]
            exact ⟨rfl,HS.out.2.2⟩
          ·have hcls:clsB s (j+1)=false:=by
            unfold clsB
            rw [decide_eq_true hlt,← HB45.out]
            rfl
           have HC:Hid (C = .fault (j+1)):=Lib.hid (HDf.out _ (classOne_bad2 HCL.out HR1.out HD45.out.symm hcls))
           clear hcls
           refine wp_region_ordP [(0,false),(1,false),(2,false),(3,false),(4,false),(5,false),(6,false),(7,false),(8,false),(9,false),(10,false),(11,false),(12,false),(13,true),(14,false),(15,false),(16,false),(17,false),(18,true),(19,false),(20,false),(21,true)]
            (fun w'=>RdIs w' rb s (j+1)∧BSetIs w' ob o∧Mod (fun j=>j=rb∨j=ob) w w') (fun c w'=>ClsEnd rb ob s w C (.panicked c) w') (fun c a w' hd h=>⟨hd,h⟩) (by kernel_rfl) (by kernel_rfl) HS.out ?_
           iterate 13 (
            refine wpOrdP_quiet ?_ rfl rfl (fun w' hS=>?_) ?_
            rotate_left
            ·have e0:=hS.1.c0
             have e1:=hS.1.c1
             go_simp
             first | rfl | done
            simp only [put_lit,List.set_cons_succ,List.set_cons_zero])
           refine wpOrdP_loud rfl rfl (by decide) (fun K hK=>?_)
           have HK:=Lib.hid hK
           clear hK
           go_simp
           have hcall:=is_any rb s (j+1) 45 _ HS.out.1
           unfold ptrV at hcall
           refine hcall.mono ?_
           clear hcall
           rintro e wb ⟨rfl,hsb⟩
           rw [← HB45.out]
           have HSb:=Lib.hid (show RdIs wb rb s (j+1)∧BSetIs wb ob o∧Mod (fun j=>j=rb∨j=ob) w wb from ⟨HS.out.1.same hsb,HS.out.2.1.same hsb,HS.out.2.2.trans (Mod.same hsb)⟩)
           clear hsb HS
           have HS:=HSb
           clear HSb
           refine HK.out _ _ HS.out ?_
           clear HK K
           iterate 3 (
            refine wpOrdP_quiet ?_ rfl rfl (fun w' hS=>?_) ?_
            rotate_left
            ·have e0:=hS.1.c0
             have e1:=hS.1.c1
             go_simp
             first | rfl | done
            simp only [put_lit,List.set_cons_succ,List.set_cons_zero])
           iterate 1 (
            refine wpOrdP_skip rfl rfl ?_
            simp only [put_lit,List.set_cons_succ,List.set_cons_zero])
           refine wpOrdP_loudskip rfl rfl ?_
           simp only [put_lit,List.set_cons_succ,List.set_cons_zero]
           iterate 1 (
            refine wpOrdP_skip rfl rfl ?_
            simp only [put_lit,List.set_cons_succ,List.set_cons_zero])
           iterate 1 (
            refine wpOrdP_quiet ?_ rfl rfl (fun w' hS=>?_) ?_
            rotate_left
            ·have e0:=hS.1.c0
             have e1:=hS.1.c1
             go_simp
             first | rfl | done
            simp only [put_lit,List.set_cons_succ,List.set_cons_zero])
           refine wpOrdP_loud rfl rfl (by decide) (fun K hK=>?_)
           have HK:=Lib.hid hK
           clear hK
           go_simp
           have hcall:=must_any rb s (j+1) false _ HS.out.1
           unfold ptrV at hcall
           refine hcall.mono ?_
           clear hcall
           rintro e wb ⟨rfl,hsb⟩
           have HSb:=Lib.hid (show RdIs wb rb s (j+1)∧BSetIs wb ob o∧Mod (fun j=>j=rb∨j=ob) w wb from ⟨HS.out.1.same hsb,HS.out.2.1.same hsb,HS.out.2.2.trans (Mod.same hsb)⟩)
           clear hsb HS
           have HS:=HSb
           clear HSb
           refine ⟨rfl,?_⟩
           rw [HC.out]
           exact ⟨rfl,HS.out.2.2⟩
         ·have q2z:decide ((j:Int)+1 < (s.size:Int))=false:=by simp; omega
          have hcls:clsB s (j+1)=false:=by
           unfold clsB
           rw [decide_eq_false hlt]
           rfl
          have q2:decide (j+1 < s.size)=false:=decide_eq_false hlt
          have HC:Hid (C = .fault (j+1)):=Lib.hid (HDf.out _ (classOne_bad2 HCL.out HR1.out HD45.out.symm hcls))
          clear hcls hlt
          refine wp_region_ordP [(0,false),(1,false),(2,false),(3,false),(4,false),(5,false),(6,false),(7,false),(8,false),(9,false),(10,false),(11,false),(12,false),(13,true),(14,false),(15,false),(16,false),(17,false),(18,true),(19,false),(20,false),(21,true)]
           (fun w'=>RdIs w' rb s (j+1)∧BSetIs w' ob o∧Mod (fun j=>j=rb∨j=ob) w w') (fun c w'=>ClsEnd rb ob s w C (.panicked c) w') (fun c a w' hd h=>⟨hd,h⟩) (by kernel_rfl) (by kernel_rfl) HS.out ?_
          iterate 12 (
           refine wpOrdP_quiet ?_ rfl rfl (fun w' hS=>?_) ?_
           rotate_left
           ·have e0:=hS.1.c0
            have e1:=hS.1.c1
            go_simp
            first | rfl | done
           simp only [put_lit,List.set_cons_succ,List.set_cons_zero])
          iterate 1 (
           refine wpOrdP_skip rfl rfl ?_
           simp only [put_lit,List.set_cons_succ,List.set_cons_zero])
          refine wpOrdP_loudskip rfl rfl ?_
          simp only [put_lit,List.set_cons_succ,List.set_cons_zero]
          iterate 1 (
           refine wpOrdP_skip rfl rfl ?_
           simp only [put_lit,List.set_cons_succ,List.set_cons_zero])
          iterate 2 (
           refine wpOrdP_quiet ?_ rfl rfl (fun w' hS=>?_) ?_
           rotate_left
           ·have e0:=hS.1.c0
            have e1:=hS.1.c1
            go_simp
            first | rfl | done
           simp only [put_lit,List.set_cons_succ,List.set_cons_zero])
          iterate 1 (
           refine wpOrdP_skip rfl rfl ?_
           simp only [put_lit,List.set_cons_succ,List.set_cons_zero])
          refine wpOrdP_loudskip rfl rfl ?_
          simp only [put_lit,List.set_cons_succ,List.set_cons_zero]
          iterate 1 (
           refine wpOrdP_skip rfl rfl ?_
           simp only [put_lit,List.set_cons_succ,List.set_cons_zero])
          iterate 1 (
           refine wpOrdP_quiet ?_ rfl rfl (fun w' hS=>?_) ?_
           rotate_left
           ·have e0:=hS.1.c0
            have e1:=hS.1.c1
            go_simp
            first | rfl | done
           simp only [put_lit,List.set_cons_succ,List.set_cons_zero])
          refine wpOrdP_loud rfl rfl (by decide) (fun K hK=>?_)
          have HK:=Lib.hid hK
          clear hK
          go_simp
          have hcall:=must_any rb s (j+1) false _ HS.out.1
          unfold ptrV at hcall
          refine hcall.mono ?_
          clear hcall
          rintro e wb ⟨rfl,hsb⟩
          have HSb:=Lib.hid (show RdIs wb rb s (j+1)∧BSetIs wb ob o∧Mod (fun j=>j=rb∨j=ob) w wb from ⟨HS.out.1.same hsb,HS.out.2.1.same hsb,HS.out.2.2.trans (Mod.same hsb)⟩)
          clear hsb HS
          have HS:=HSb
          clear HSb
          refine ⟨rfl,?_⟩
          rw [HC.out]
          exact ⟨rfl,HS.out.2.2⟩
      ·have hcls:clsB s (q)=false:=by
        unfold clsB
        rw [decide_eq_true hlt,← HB45.out,← HB93.out]
        rfl
       have HC:Hid (C = .fault (q)):=Lib.hid (HDf.out _ (classOne_bad hcls))
       clear hcls
       refine wp_region_ordP [(0,false),(1,false),(2,false),(3,false),(4,false),(5,false),(6,false),(7,false),(8,false),(9,false),(10,false),(11,false),(12,false),(13,true),(14,false),(15,false),(16,false),(17,false),(18,true),(19,false),(20,false),(21,true)]
        (fun w'=>RdIs w' rb s (q)∧BSetIs w' ob o∧Mod (fun j=>j=rb∨j=ob) w w') (fun c w'=>ClsEnd rb ob s w C (.panicked c) w') (fun c a w' hd h=>⟨hd,h⟩) (by kernel_rfl) (by kernel_rfl) HS.out ?_
       iterate 13 (
        refine wpOrdP_quiet ?_ rfl rfl (fun w' hS=>?_) ?_
        rotate_left
        ·have e0:=hS.1.c0
         have e1:=hS.1.c1
         go_simp
         first | rfl | done
        simp only [put_lit,List.set_cons_succ,List.set_cons_zero])
       refine wpOrdP_loud rfl rfl (by decide) (fun K hK=>?_)
       have HK:=Lib.hid hK
       clear hK
       go_simp
       have hcall:=is_any rb s (q) 45 _ HS.out.1
       unfold ptrV at hcall
       refine hcall.mono ?_
       clear hcall
       rintro e wb ⟨rfl,hsb⟩
       rw [← HB45.out]
       have HSb:=Lib.hid (show RdIs wb rb s (q)∧BSetIs wb ob o∧Mod (fun j=>j=rb∨j=ob) w wb from ⟨HS.out.1.same hsb,HS.out.2.1.same hsb,HS.out.2.2.trans (Mod.same hsb)⟩)
       clear hsb HS
       have HS:=HSb
       clear HSb
       refine HK.out _ _ HS.out ?_
       clear HK K
       iterate 4 (
        refine wpOrdP_quiet ?_ rfl rfl (fun w' hS=>?_) ?_
        rotate_left
        ·have e0:=hS.1.c0
         have e1:=hS.1.c1
         go_simp
         first | rfl | done
        simp only [put_lit,List.set_cons_succ,List.set_cons_zero])
       refine wpOrdP_loud rfl rfl (by decide) (fun K hK=>?_)
       have HK:=Lib.hid hK
       clear hK
       go_simp
       have hcall:=is_any rb s (q) 93 _ HS.out.1
       unfold ptrV at hcall
       refine hcall.mono ?_
       clear hcall
       rintro e wb ⟨rfl,hsb⟩
       rw [← HB93.out]
       have HSb:=Lib.hid (show RdIs wb rb s (q)∧BSetIs wb ob o∧Mod (fun j=>j=rb∨j=ob) w wb from ⟨HS.out.1.same hsb,HS.out.2.1.same hsb,HS.out.2.2.trans (Mod.same hsb)⟩)
       clear hsb HS
       have HS:=HSb
       clear HSb
       refine HK.out _ _ HS.out ?_
       clear HK K
       iterate 2 (
        refine wpOrdP_quiet ?_ rfl rfl (fun w' hS=>?_) ?_
        rotate_left
        ·have e0:=hS.1.c0
         have e1:=hS.1.c1
         go_simp
         first | rfl | done
        simp only [put_lit,List.set_cons_succ,List.set_cons_zero])
       refine wpOrdP_loud rfl rfl (by decide) (fun K hK=>?_)
       have HK:=Lib.hid hK
       clear hK
       go_simp
       have hcall:=must_any rb s (q) false _ HS.out.1
       unfold ptrV at hcall
       refine hcall.mono ?_
       clear hcall
       rintro e wb ⟨rfl,hsb⟩
       have HSb:=Lib.hid (show RdIs wb rb s (q)∧BSetIs wb ob o∧Mod (fun j=>j=rb∨j=ob) w wb from ⟨HS.out.1.same hsb,HS.out.2.1.same hsb,HS.out.2.2.trans (Mod.same hsb)⟩)
       clear hsb HS
       have HS:=HSb
       clear HSb
       refine ⟨rfl,?_⟩
       rw [HC.out]
       exact ⟨rfl,HS.out.2.2⟩
     ·have hcls:clsB s (q)=false:=by
       unfold clsB
       rw [decide_eq_true hlt,← HB45.out]
       rfl
      have HC:Hid (C = .fault (q)):=Lib.hid (HDf.out _ (classOne_bad hcls))
      clear hcls
      refine wp_region_ordP [(0,false),(1,false),(2,false),(3,false),(4,false),(5,false),(6,false),(7,false),(8,false),(9,false),(10,false),(11,false),(12,false),(13,true),(14,false),(15,false),(16,false),(17,false),(18,true),(19,false),(20,false),(21,true)]
       (fun w'=>RdIs w' rb s (q)∧BSetIs w' ob o∧Mod (fun j=>j=rb∨j=ob) w w') (fun c w'=>ClsEnd rb ob s w C (.panicked c) w') (fun c a w' hd h=>⟨hd,h⟩) (by kernel_rfl) (by kernel_rfl) HS.out ?_
      iterate 13 (
       refine wpOrdP_quiet ?_ rfl rfl (fun w' hS=>?_) ?_
       rotate_left
       ·have e0:=hS.1.c0
        have e1:=hS.1.c1
        go_simp
        first | rfl | done
       simp only [put_lit,List.set_cons_succ,List.set_cons_zero])
      refine wpOrdP_loud rfl rfl (by decide) (fun K hK=>?_)
      have HK:=Lib.hid hK
      clear hK
      go_simp
      have hcall:=is_any rb s (q) 45 _ HS.out.1
      unfold ptrV at hcall
      refine hcall.mono ?_
      clear hcall
      rintro e wb ⟨rfl,hsb⟩
      rw [← HB45.out]
      have HSb:=Lib.hid (show RdIs wb rb s (q)∧BSetIs wb ob o∧Mod (fun j=>j=rb∨j=ob) w wb from ⟨HS.out.1.same hsb,HS.out.2.1.same hsb,HS.out.2.2.trans (Mod.same hsb)⟩)
      clear hsb HS
      have HS:=HSb
      clear HSb
      refine HK.out _ _ HS.out ?_
      clear HK K
      iterate 3 (
       refine wpOrdP_quiet ?_ rfl rfl (fun w' hS=>?_) ?_
       rotate_left
       ·have e0:=hS.1.c0
        have e1:=hS.1.c1
        go_simp
        first | rfl | done
       simp only [put_lit,List.set_cons_succ,List.set_cons_zero])
      iterate 1 (
       refine wpOrdP_skip rfl rfl ?_
       simp only [put_lit,List.set_cons_succ,List.set_cons_zero])
      refine wpOrdP_loudskip rfl rfl ?_
      simp only [put_lit,List.set_cons_succ,List.set_cons_zero]
      iterate 1 (
       refine wpOrdP_skip rfl rfl ?_
       simp only [put_lit,List.set_cons_succ,List.set_cons_zero])
      iterate 1 (
       refine wpOrdP_quiet ?_ rfl rfl (fun w' hS=>?_) ?_
       rotate_left
       ·have e0:=hS.1.c0
        have e1:=hS.1.c1
        go_simp
        first | rfl | done
       simp only [put_lit,List.set_cons_succ,List.set_cons_zero])
      refine wpOrdP_loud rfl rfl (by decide) (fun K hK=>?_)
      have HK:=Lib.hid hK
      clear hK
      go_simp
      have hcall:=must_any rb s (q) false _ HS.out.1
      unfold ptrV at hcall
      refine hcall.mono ?_
      clear hcall
      rintro e wb ⟨rfl,hsb⟩
      have HSb:=Lib.hid (show RdIs wb rb s (q)∧BSetIs wb ob o∧Mod (fun j=>j=rb∨j=ob) w wb from ⟨HS.out.1.same hsb,HS.out.2.1.same hsb,HS.out.2.2.trans (Mod.same hsb)⟩)
      clear hsb HS
      have HS:=HSb
      clear HSb
      refine ⟨rfl,?_⟩
      rw [HC.out]
      exact ⟨rfl,HS.out.2.2⟩
    ·have hcls:clsB s (q)=false:=by
      unfold clsB
      rw [decide_eq_false hlt]
      rfl
     have q2:decide (q < s.size)=false:=decide_eq_false hlt
     have HC:Hid (C = .fault (q)):=Lib.hid (HDf.out _ (classOne_bad hcls))
     clear hcls hlt
     refine wp_region_ordP [(0,false),(1,false),(2,false),(3,false),(4,false),(5,false),(6,false),(7,false),(8,false),(9,false),(10,false),(11,false),(12,false),(13,true),(14,false),(15,false),(16,false),(17,false),(18,true),(19,false),(20,false),(21,true)]
      (fun w'=>RdIs w' rb s (q)∧BSetIs w' ob o∧Mod (fun j=>j=rb∨j=ob) w w') (fun c w'=>ClsEnd rb ob s w C (.panicked c) w') (fun c a w' hd h=>⟨hd,h⟩) (by kernel_rfl) (by kernel_rfl) HS.out ?_
     iterate 12 (
      refine wpOrdP_quiet ?_ rfl rfl (fun w' hS=>?_) ?_
      rotate_left
      ·have e0:=hS.1.c0
       have e1:=hS.1.c1
       go_simp
       first | rfl | done
      simp only [put_lit,List.set_cons_succ,List.set_cons_zero])
     iterate 1 (
      refine wpOrdP_skip rfl rfl ?_
      simp only [put_lit,List.set_cons_succ,List.set_cons_zero])
     refine wpOrdP_loudskip rfl rfl ?_
     simp only [put_lit,List.set_cons_succ,List.set_cons_zero]
     iterate 1 (
      refine wpOrdP_skip rfl rfl ?_
      simp only [put_lit,List.set_cons_succ,List.set_cons_zero])
     iterate 2 (
      refine wpOrdP_quiet ?_ rfl rfl (fun w' hS=>?_) ?_
      rotate_left
      ·have e0:=hS.1.c0
       have e1:=hS.1.c1
       go_simp
       first | rfl | done
      simp only [put_lit,List.set_cons_succ,List.set_cons_zero])
     iterate 1 (
      refine wpOrdP_skip rfl rfl ?_
      simp only [put_lit,List.set_cons_succ,List.set_cons_zero])
     refine wpOrdP_loudskip rfl rfl ?_
     simp only [put_lit,List.set_cons_succ,List.set_cons_zero]
     iterate 1 (
      refine wpOrdP_skip rfl rfl ?_
      simp only [put_lit,List.set_cons_succ,List.set_cons_zero])
     iterate 1 (
      refine wpOrdP_quiet ?_ rfl rfl (fun w' hS=>?_) ?_
      rotate_left
      ·have e0:=hS.1.c0
       have e1:=hS.1.c1
       go_simp
       first | rfl | done
      simp only [put_lit,List.set_cons_succ,List.set_cons_zero])
     refine wpOrdP_loud rfl rfl (by decide) (fun K hK=>?_)
     have HK:=Lib.hid hK
     clear hK
     go_simp
     have hcall:=must_any rb s (q) false _ HS.out.1
     unfold ptrV at hcall
     refine hcall.mono ?_
     clear hcall
     rintro e wb ⟨rfl,hsb⟩
     have HSb:=Lib.hid (show RdIs wb rb s (q)∧BSetIs wb ob o∧Mod (fun j=>j=rb∨j=ob) w wb from ⟨HS.out.1.same hsb,HS.out.2.1.same hsb,HS.out.2.2.trans (Mod.same hsb)⟩)
     clear hsb HS
     have HS:=HSb
     clear HSb
     refine ⟨rfl,?_⟩
     rw [HC.out]
     exact ⟨rfl,HS.out.2.2⟩
   ·have HX:Hid (D = .ok o q):=Lib.hid (HI.out.1.trans (classP_end HD93.out))
    have c1:=HS.out.1.c1
    have hf:=HS.out.1.free 1
    have hsz:=HS.out.1.2.2
    have hql:=isB_lt HD93.out
    have hset:=HS.out.1.set (j:=q+1) (by omega)
    have ek:((q+1:Nat):Int)=(q:Int)+1:=by omega
    rw [ek] at hset
    have HT:=Lib.hid (show RdIs (wa.setCell ⟨rb,1,none⟩ (.int .i64 ((q:Int)+1))) rb s (q+1)∧BSetIs (wa.setCell ⟨rb,1,none⟩ (.int .i64 ((q:Int)+1))) ob o∧Mod (fun j=>j=rb∨j=ob) w (wa.setCell ⟨rb,1,none⟩ (.int .i64 ((q:Int)+1))) from
     ⟨hset,HS.out.2.1.mod (Mod.setCell (S:=fun j=>j=rb) wa _ _ fun _=>rfl) (fun e=>HNE.out e),HS.out.2.2.trans (Mod.setCell _ _ _ fun _ => .inl rfl)⟩)
    have HCC:Hid (C = .ok (if nt then o.not else o) (q+1)):=Lib.hid (HCok.out o q HX.out)
    have hq6:q≤1000000:=by omega
    clear hset ek hql HDC0 HCok HE HI HX
    cases nt
    ·go_wp2_with fail
     refine bodyPost_end (results_none rfl _ _ _) rfl ?_
     rw [HCC.out]
     exact ⟨rfl,HT.out⟩
    ·go_wp2_with fail
     generalize wa.setCell ⟨rb,1,none⟩ (.int .i64 ((q:Int)+1))=wt at *
     clear HS c1 hf hq6
     go_loopw [92] (fun iv wr=>∃ (n:Nat),n≤4∧iv = .int .i64 n∧Hid (RdIs wr rb s (q+1)∧BSetIs wr ob (o.notN n)∧Mod (fun j=>j=rb∨j=ob) w wr)) (fun iv _=>4 - (intOf iv).toNat)
     case atStart=>exact ⟨0,by decide,rfl,HT.out⟩
     case round =>
      clear HT
      obtain ⟨n,hn,rfl,HR⟩:=hrel
      by_cases h4:n < 4
      ·have hb:=HR.out.2.1
       obtain ⟨t,ht⟩:∃ t,t=o.notN n:=⟨_,rfl⟩
       rw [← ht] at hb
       obtain ⟨x,hx⟩:∃ x,x=t.word n:=⟨_,rfl⟩
       have c0:wr.cell? ⟨ob,n,none⟩=some (.int .u64 x):=by rw [cell_block hb.2,BSet.cells_at _ h4,hx]
       have f0:wr.frozen? ⟨ob,n,none⟩=false:=free_block hb.2
       have hxl:x < W64:=by rw [hx]; exact BSet.ok_word hb.1 _
       have hxor:bits .xor .u64 (if IntKind.u64.signed=true then -1 else IntKind.u64.max) (x:Int)=((18446744073709551615 ^^^ x:Nat):Int):=bits_xor_u64_nat 18446744073709551615 x (by decide) hxl
       have hyl:(18446744073709551615 ^^^ x:Nat) < W64:=Nat.xor_lt_two_pow (n:=64) (by decide) hxl
       obtain ⟨y,hy⟩:∃ y,y=(18446744073709551615 ^^^ x:Nat):=⟨_,rfl⟩
       rw [← hy] at hxor hyl
       have hnew:BSetIs ((wr.setCell ⟨ob,n,none⟩ (.int .u64 y)).drew) ob (o.notN (n+1)):=by
        refine ⟨BSet.ok_setw HR.out.2.1.1 _ (by rw [← ht,← hx,← hy]; exact hyl),?_⟩
        show (wr.setCell ⟨ob,n,none⟩ (.int .u64 y)).heap[ob]?=_
        rw [heap_setCell_same wr ob n _ _ _ hb.2,BSet.setw_cells t h4]
        show _=some (Obj.cells ((o.notN n).setw n (18446744073709551615 ^^^ (o.notN n).word n)).cells.toArray _ _)
        rw [← ht,← hx,← hy]
       have hmod:Mod (fun j=>j=rb∨j=ob) wr ((wr.setCell ⟨ob,n,none⟩ (.int .u64 y)).drew):=(Mod.setCell _ _ _ fun _ => .inr rfl).trans (Mod.same (Same.drew _))
       have hmod2:Mod (fun j=>j=ob) wr ((wr.setCell ⟨ob,n,none⟩ (.int .u64 y)).drew):=(Mod.setCell (S:=fun j=>j=ob) _ _ _ fun _=>rfl).trans (Mod.same (Same.drew _))
       have HN:=Lib.hid (show _∧_∧_ from ⟨HR.out.1.mod hmod2 (fun e=>HNE.out e.symm),hnew,HR.out.2.2.trans hmod⟩)
       have hnz:(n:Int) < 4:=by omega
       clear hb hx hxl hyl hy ht hnew hmod hmod2
       go_wp2_with fail
       refine wp_region_ordX [(0,false),(1,false),(2,false),(3,false),(4,false),(5,false),(6,false),(7,false),(8,false),(9,true),(10,true),(11,true),(12,true)] 12
        (fun w'=>w'.cell? ⟨ob,n,none⟩=some (.int .u64 x)) (by kernel_rfl) (by kernel_rfl) c0 ?_
       iterate 9 (
        refine wpOrd_quiet ?_ rfl rfl (fun w' hS=>?_) ?_
        rotate_left
        ·go_simp
         first | rfl | done
        simp only [put_lit,List.set_cons_succ,List.set_cons_zero])
       iterate 3 (
        refine wpOrd_loud rfl rfl (by decide) (fun K hK=>?_)
        have HK:=Lib.hid hK
        clear hK
        go_simp
        refine HK.out _ _ c0 ?_
        clear HK K)
       refine wpOrd_last rfl rfl (fun K hK=>?_)
       have HK:=Lib.hid hK
       clear hK
       go_simp
       refine HK.out _ _ ?_
       clear HK K
       go_wp2_with fail
       exact ⟨⟨n+1,by omega,by go_num,HN⟩,by simp [intOf]; omega⟩
      ·obtain rfl:n=4:=by omega
       go_wp2_with fail
       refine bodyPost_end (results_none rfl _ _ _) rfl ?_
       rw [HCC.out]
       exact ⟨rfl,HR.out⟩
  ·have HDf:Hid (∀ p,classOne s o q = .fault p→C = .fault p):=Lib.hid fun p hp=>HDC0.out p (HI.out.1.trans ((classP_go rfl).1 p hp))
   have HDo:Hid (∀ o' j,classOne s o q = .ok o' j→D=classP s f false o' j):=Lib.hid fun o' j hp=>HI.out.1.trans ((classP_go rfl).2 o' j hp)
   go_wp2_with fail
   have HSd:=Lib.hid (show RdIs wr.drew rb s (q)∧BSetIs wr.drew ob o∧Mod (fun j=>j=rb∨j=ob) w wr.drew from ⟨HS.out.1.same (Same.drew _),HS.out.2.1.same (Same.drew _),HS.out.2.2.trans (Mod.same (Same.drew _))⟩)
   clear HS
   have HS:=HSd
   clear HSd
   by_cases hlt:q < s.size
   ·obtain ⟨b45,hb45⟩:∃ b,b=isB s (q) 45:=⟨_,rfl⟩
    have HB45:=Lib.hid hb45
    clear hb45
    cases b45
    ·obtain ⟨b93,hb93⟩:∃ b,b=isB s (q) 93:=⟨_,rfl⟩
     have HB93:=Lib.hid hb93
     clear hb93
     cases b93
     ·refine wp_region_ordP [(0,false),(1,false),(2,false),(3,false),(4,false),(5,false),(6,false),(7,false),(8,false),(9,false),(10,false),(11,false),(12,false),(13,true),(14,false),(15,false),(16,false),(17,false),(18,true),(19,false),(20,false),(21,true)]
       (fun w'=>RdIs w' rb s (q)∧BSetIs w' ob o∧Mod (fun j=>j=rb∨j=ob) w w') (fun c w'=>ClsEnd rb ob s w C (.panicked c) w') (fun c a w' hd h=>⟨hd,h⟩) (by kernel_rfl) (by kernel_rfl) HS.out ?_
      iterate 13 (
       refine wpOrdP_quiet ?_ rfl rfl (fun w' hS=>?_) ?_
       rotate_left
       ·have e0:=hS.1.c0
        have e1:=hS.1.c1
        go_simp
        first | rfl | done
       simp only [put_lit,List.set_cons_succ,List.set_cons_zero])
      refine wpOrdP_loud rfl rfl (by decide) (fun K hK=>?_)
      have HK:=Lib.hid hK
      clear hK
      go_simp
      have hcall:=is_any rb s (q) 45 _ HS.out.1
      unfold ptrV at hcall
      refine hcall.mono ?_
      clear hcall
      rintro e wb ⟨rfl,hsb⟩
      rw [← HB45.out]
      have HSb:=Lib.hid (show RdIs wb rb s (q)∧BSetIs wb ob o∧Mod (fun j=>j=rb∨j=ob) w wb from ⟨HS.out.1.same hsb,HS.out.2.1.same hsb,HS.out.2.2.trans (Mod.same hsb)⟩)
      clear hsb HS
      have HS:=HSb
      clear HSb
      refine HK.out _ _ HS.out ?_
      clear HK K
      iterate 4 (
       refine wpOrdP_quiet ?_ rfl rfl (fun w' hS=>?_) ?_
       rotate_left
       ·have e0:=hS.1.c0
        have e1:=hS.1.c1
        go_simp
        first | rfl | done
       simp only [put_lit,List.set_cons_succ,List.set_cons_zero])
      refine wpOrdP_loud rfl rfl (by decide) (fun K hK=>?_)
      have HK:=Lib.hid hK
      clear hK
      go_simp
      have hcall:=is_any rb s (q) 93 _ HS.out.1
      unfold ptrV at hcall
      refine hcall.mono ?_
      clear hcall
      rintro e wb ⟨rfl,hsb⟩
      rw [← HB93.out]
      have HSb:=Lib.hid (show RdIs wb rb s (q)∧BSetIs wb ob o∧Mod (fun j=>j=rb∨j=ob) w wb from ⟨HS.out.1.same hsb,HS.out.2.1.same hsb,HS.out.2.2.trans (Mod.same hsb)⟩)
      clear hsb HS
      have HS:=HSb
      clear HSb
      refine HK.out _ _ HS.out ?_
      clear HK K
      iterate 2 (
       refine wpOrdP_quiet ?_ rfl rfl (fun w' hS=>?_) ?_
       rotate_left
       ·have e0:=hS.1.c0
        have e1:=hS.1.c1
        go_simp
        first | rfl | done
       simp only [put_lit,List.set_cons_succ,List.set_cons_zero])
      refine wpOrdP_loud rfl rfl (by decide) (fun K hK=>?_)
      have HK:=Lib.hid hK
      clear hK
      go_simp
      have hcall:=must_any rb s (q) true _ HS.out.1
      unfold ptrV at hcall
      refine hcall.mono ?_
      clear hcall
      rintro e wb ⟨rfl,hsb⟩
      have HSb:=Lib.hid (show RdIs wb rb s (q)∧BSetIs wb ob o∧Mod (fun j=>j=rb∨j=ob) w wb from ⟨HS.out.1.same hsb,HS.out.2.1.same hsb,HS.out.2.2.trans (Mod.same hsb)⟩)
      clear hsb HS
      have HS:=HSb
      clear HSb
      refine HK.out _ _ HS.out ?_
      clear HK K
      have HCL:Hid (clsB s (q)=true):=Lib.hid (by
       unfold clsB
       rw [decide_eq_true hlt,← HB45.out,← HB93.out]
       rfl)
      clear HB45 HB93 hlt
      refine wpOrdP_nil ?_
      go_wp2_with fail
      have hcall:=single_any rb s (q) _ HS.out.1
      unfold ptrV at hcall
      refine hcall.mono ?_
      clear hcall
      obtain ⟨R1,hR1⟩:∃ r,r=singleP s (q):=⟨_,rfl⟩
      rw [← hR1]
      have HR1:=Lib.hid hR1.symm
      clear hR1
      cases R1 with
      | fault p =>
       rintro e wb ⟨rfl,hmb⟩
       refine ⟨rfl,?_⟩
       have HC:Hid (C = .fault p):=Lib.hid (HDf.out _ (classOne_single HCL.out HR1.out))
       rw [HC.out]
       exact ⟨rfl,HS.out.2.2.trans (hmb.mono fun _ _ h => .inl h)⟩
      | ok lo j =>
       rintro e wb ⟨rfl,hrb,hmb⟩
       have hon:=single_on s q HI.out.2.2.1.2.1
       rw [HR1.out] at hon
       have hon':q < j∧j≤s.size:=hon
       have HJ:=Lib.hid hon'
       clear hon hon'
       have HSb:=Lib.hid (show RdIs wb rb s (j)∧BSetIs wb ob o∧Mod (fun j=>j=rb∨j=ob) w wb from ⟨hrb,HS.out.2.1.mod hmb (fun e=>HNE.out e),HS.out.2.2.trans (hmb.mono fun _ _ h => .inl h)⟩)
       clear hrb hmb HS
       have HS:=HSb
       clear HSb
       go_wp2_with fail
       have hcall:=eat_any rb s j 45 _ HS.out.1
       unfold ptrV at hcall
       refine hcall.mono ?_
       clear hcall
       obtain ⟨d45,hd45⟩:∃ b,b=isB s j 45:=⟨_,rfl⟩
       unfold eatB
       rw [← hd45]
       have HD45:=Lib.hid hd45
       clear hd45
       rintro e w5 ⟨rfl,hr5,hm5⟩
       cases d45
       ·have HSb:=Lib.hid (show RdIs w5 rb s (j)∧BSetIs w5 ob o∧Mod (fun j=>j=rb∨j=ob) w w5 from ⟨hr5,HS.out.2.1.mod hm5 (fun e=>HNE.out e),HS.out.2.2.trans (hm5.mono fun _ _ h => .inl h)⟩)
        clear hr5 hm5 HS
        have HS:=HSb
        clear HSb
        go_wp2_with fail
        have hcall:=add_any ob lo.toNat lo.toNat o _ HS.out.2.1 lo.toNat_lt lo.toNat_lt
        unfold ptrV at hcall
        refine hcall.mono ?_
        clear hcall
        rintro e wz ⟨rfl,hbz,hmz⟩
        have HN:Hid (ClsAt rb ob s w D f false (o.add lo.toNat lo.toNat) (j) wz):=Lib.hid ⟨HDo.out _ _ (classOne_plain HCL.out HR1.out HD45.out.symm),by have:=HJ.out; have:=HI.out.2.1; omega,HS.out.1.mod hmz (fun e=>HNE.out e.symm),hbz,HS.out.2.2.trans (hmz.mono fun _ _ h => .inr h)⟩
        have HM:Hid (s.size - rdAt wz rb < s.size - rdAt wr rb):=Lib.hid (by
         rw [rdAt_is HN.out.2.2.1,rdAt_is HI.out.2.2.1]
         have:=HJ.out
         have:=HN.out.2.2.1.2.1
         omega)
        clear hbz hmz
        go_wp2_with fail
        exact ⟨⟨f,false,_,_,rfl,HN⟩,HM.out⟩
       ·have HSb:=Lib.hid (show RdIs w5 rb s (j+1)∧BSetIs w5 ob o∧Mod (fun j=>j=rb∨j=ob) w w5 from ⟨hr5,HS.out.2.1.mod hm5 (fun e=>HNE.out e),HS.out.2.2.trans (hm5.mono fun _ _ h => .inl h)⟩)
        clear hr5 hm5 HS
        have HS:=HSb
        clear HSb
        go_wp2_with fail
        have HSd:=Lib.hid (show RdIs w5.drew rb s (j+1)∧BSetIs w5.drew ob o∧Mod (fun j=>j=rb∨j=ob) w w5.drew from ⟨HS.out.1.same (Same.drew _),HS.out.2.1.same (Same.drew _),HS.out.2.2.trans (Mod.same (Same.drew _))⟩)
        clear HS
        have HS:=HSd
        clear HSd
        by_cases hlt:j+1 < s.size
        ·have hltz:(j:Int)+1 < (s.size:Int):=by omega
         obtain ⟨b45,hb45⟩:∃ b,b=isB s (j+1) 45:=⟨_,rfl⟩
         have HB45:=Lib.hid hb45
         clear hb45
         cases b45
         ·obtain ⟨b93,hb93⟩:∃ b,b=isB s (j+1) 93:=⟨_,rfl⟩
          have HB93:=Lib.hid hb93
          clear hb93
          cases b93
          ·refine wp_region_ordP [(0,false),(1,false),(2,false),(3,false),(4,false),(5,false),(6,false),(7,false),(8,false),(9,false),(10,false),(11,false),(12,false),(13,true),(14,false),(15,false),(16,false),(17,false),(18,true),(19,false),(20,false),(21,true)]
            (fun w'=>RdIs w' rb s (j+1)∧BSetIs w' ob o∧Mod (fun j=>j=rb∨j=ob) w w') (fun c w'=>ClsEnd rb ob s w C (.panicked c) w') (fun c a w' hd h=>⟨hd,h⟩) (by kernel_rfl) (by kernel_rfl) HS.out ?_
           iterate 13 (
            refine wpOrdP_quiet ?_ rfl rfl (fun w' hS=>?_) ?_
            rotate_left
            ·have e0:=hS.1.c0
             have e1:=hS.1.c1
             go_simp
             first | rfl | done
            simp only [put_lit,List.set_cons_succ,List.set_cons_zero])
           refine wpOrdP_loud rfl rfl (by decide) (fun K hK=>?_)
           have HK:=Lib.hid hK
           clear hK
           go_simp
           have hcall:=is_any rb s (j+1) 45 _ HS.out.1
           unfold ptrV at hcall
           refine hcall.mono ?_
           clear hcall
           rintro e wb ⟨rfl,hsb⟩
           rw [← HB45.out]
           have HSb:=Lib.hid (show RdIs wb rb s (j+1)∧BSetIs wb ob o∧Mod (fun j=>j=rb∨j=ob) w wb from ⟨HS.out.1.same hsb,HS.out.2.1.same hsb,HS.out.2.2.trans (Mod.same hsb)⟩)
           clear hsb HS
           have HS:=HSb
           clear HSb
           refine HK.out _ _ HS.out ?_
           clear HK K
           iterate 4 (
            refine wpOrdP_quiet ?_ rfl rfl (fun w' hS=>?_) ?_
            rotate_left
            ·have e0:=hS.1.c0
             have e1:=hS.1.c1
             go_simp
             first | rfl | done
            simp only [put_lit,List.set_cons_succ,List.set_cons_zero])
           refine wpOrdP_loud rfl rfl (by decide) (fun K hK=>?_)
           have HK:=Lib.hid hK
           clear hK
           go_simp
           have hcall:=is_any rb s (j+1) 93 _ HS.out.1
           unfold ptrV at hcall
           refine hcall.mono ?_
           clear hcall
           rintro e wb ⟨rfl,hsb⟩
           rw [← HB93.out]
           have HSb:=Lib.hid (show RdIs wb rb s (j+1)∧BSetIs wb ob o∧Mod (fun j=>j=rb∨j=ob) w wb from ⟨HS.out.1.same hsb,HS.out.2.1.same hsb,HS.out.2.2.trans (Mod.same hsb)⟩)
           clear hsb HS
           have HS:=HSb
           clear HSb
           refine HK.out _ _ HS.out ?_
           clear HK K
           iterate 2 (
            refine wpOrdP_quiet ?_ rfl rfl (fun w' hS=>?_) ?_
            rotate_left
            ·have e0:=hS.1.c0
             have e1:=hS.1.c1
             go_simp
             first | rfl | done
            simp only [put_lit,List.set_cons_succ,List.set_cons_zero])
           refine wpOrdP_loud rfl rfl (by decide) (fun K hK=>?_)
           have HK:=Lib.hid hK
           clear hK
           go_simp
           have hcall:=must_any rb s (j+1) true _ HS.out.1
           unfold ptrV at hcall
           refine hcall.mono ?_
           clear hcall
           rintro e wb ⟨rfl,hsb⟩
           have HSb:=Lib.hid (show RdIs wb rb s (j+1)∧BSetIs wb ob o∧Mod (fun j=>j=rb∨j=ob) w wb from ⟨HS.out.1.same hsb,HS.out.2.1.same hsb,HS.out.2.2.trans (Mod.same hsb)⟩)
           clear hsb HS
           have HS:=HSb
           clear HSb
           refine HK.out _ _ HS.out ?_
           clear HK K
           have HCL2:Hid (clsB s (j+1)=true):=Lib.hid (by
            unfold clsB
            rw [decide_eq_true hlt,← HB45.out,← HB93.out]
            rfl)
           clear HB45 HB93 hlt
           refine wpOrdP_nil ?_
           go_wp2_with fail
           have hcall:=single_any rb s (j+1) _ HS.out.1
           unfold ptrV at hcall
           refine hcall.mono ?_
           clear hcall
           obtain ⟨R2,hR2⟩:∃ r,r=singleP s (j+1):=⟨_,rfl⟩
           rw [← hR2]
           have HR2:=Lib.hid hR2.symm
           clear hR2
           cases R2 with
           | fault p =>
            rintro e wb ⟨rfl,hmb⟩
            refine ⟨rfl,?_⟩
            have HC:Hid (C = .fault p):=Lib.hid (HDf.out _ (classOne_single2 HCL.out HR1.out HD45.out.symm HCL2.out HR2.out))
            rw [HC.out]
            exact ⟨rfl,HS.out.2.2.trans (hmb.mono fun _ _ h => .inl h)⟩
           | ok hi k =>
            rintro e wb ⟨rfl,hrb,hmb⟩
            have hon:=single_on s (j+1) HS.out.1.2.1
            rw [HR2.out] at hon
            have hon':j+1 < k∧k≤s.size:=hon
            have HJ2:Hid (q < k∧k≤s.size∧j+1 < k):=Lib.hid ⟨by have:=HJ.out; omega,hon'.2,hon'.1⟩
            clear HJ hon hon'
            have HJ:=HJ2
            clear HJ2
            have HSb:=Lib.hid (show RdIs wb rb s (k)∧BSetIs wb ob o∧Mod (fun j=>j=rb∨j=ob) w wb from ⟨hrb,HS.out.2.1.mod hmb (fun e=>HNE.out e),HS.out.2.2.trans (hmb.mono fun _ _ h => .inl h)⟩)
            clear hrb hmb HS
            have HS:=HSb
            clear HSb
            by_cases hhl:hi < lo
            ·have hhz:(hi.toNat:Int) < (lo.toNat:Int):=by have:=UInt8.lt_iff_toNat_lt.1 hhl; omega
             have HC:Hid (C = .fault (k - 1)):=Lib.hid (HDf.out _ (classOne_less HCL.out HR1.out HD45.out.symm HCL2.out HR2.out hhl))
             have c1:=HS.out.1.c1
             have hf:=HS.out.1.free 1
             have hsz:=HS.out.1.2.2
             have hkz:(1:Int)≤(k:Int):=by have:=HJ.out; omega
             have hks:k≤1000000:=by have:=HJ.out; omega
             go_wp2_with fail
             have hset:=HS.out.1.set (j:=k - 1) (by have:=HJ.out; omega)
             have ek:((k - 1:Nat):Int)=(k:Int) - 1:=by omega
             rw [ek] at hset
             have hcall:=must_any rb s (k - 1) false _ hset
             unfold ptrV at hcall
             refine hcall.mono ?_
             clear hcall
             rintro e wc ⟨rfl,hsc⟩
             refine ⟨rfl,?_⟩
             rw [HC.out]
             exact ⟨rfl,(HS.out.2.2.trans (Mod.setCell _ _ _ fun _ => .inl rfl)).trans (Mod.same hsc)⟩
            ·have hhz:decide ((hi.toNat:Int) < (lo.toNat:Int))=false:=by
              have:¬ hi.toNat < lo.toNat:=fun e=>hhl (UInt8.lt_iff_toNat_lt.2 e)
              simp; omega
             go_wp2_with fail
             have hcall:=add_any ob lo.toNat hi.toNat o _ HS.out.2.1 lo.toNat_lt hi.toNat_lt
             unfold ptrV at hcall
             refine hcall.mono ?_
             clear hcall
             rintro e wz ⟨rfl,hbz,hmz⟩
             have HN:Hid (ClsAt rb ob s w D f false (o.add lo.toNat hi.toNat) (k) wz):=Lib.hid ⟨HDo.out _ _ (classOne_range HCL.out HR1.out HD45.out.symm HCL2.out HR2.out hhl),by have:=HJ.out; have:=HI.out.2.1; omega,HS.out.1.mod hmz (fun e=>HNE.out e.symm),hbz,HS.out.2.2.trans (hmz.mono fun _ _ h => .inr h)⟩
             have HM:Hid (s.size - rdAt wz rb < s.size - rdAt wr rb):=Lib.hid (by
              rw [rdAt_is HN.out.2.2.1,rdAt_is HI.out.2.2.1]
              have:=HJ.out
              have:=HN.out.2.2.1.2.1
              omega)
             clear hbz hmz
             go_wp2_with fail
             exact ⟨⟨f,false,_,_,rfl,HN⟩,HM.out⟩
          ·have hcls:clsB s (j+1)=false:=by
            unfold clsB
            rw [decide_eq_true hlt,← HB45.out,← HB93.out]
            rfl
           have HC:Hid (C = .fault (j+1)):=Lib.hid (HDf.out _ (classOne_bad2 HCL.out HR1.out HD45.out.symm hcls))
           clear hcls
           refine wp_region_ordP [(0,false),(1,false),(2,false),(3,false),(4,false),(5,false),(6,false),(7,false),(8,false),(9,false),(10,false),(11,false),(12,false),(13,true),(14,false),(15,false),(16,false),(17,false),(18,true),(19,false),(20,false),(21,true)]
            (fun w'=>RdIs w' rb s (j+1)∧BSetIs w' ob o∧Mod (fun j=>j=rb∨j=ob) w w') (fun c w'=>ClsEnd rb ob s w C (.panicked c) w') (fun c a w' hd h=>⟨hd,h⟩) (by kernel_rfl) (by kernel_rfl) HS.out ?_
           iterate 13 (
            refine wpOrdP_quiet ?_ rfl rfl (fun w' hS=>?_) ?_
            rotate_left
            ·have e0:=hS.1.c0
             have e1:=hS.1.c1
             go_simp
             first | rfl | done
            simp only [put_lit,List.set_cons_succ,List.set_cons_zero])
           refine wpOrdP_loud rfl rfl (by decide) (fun K hK=>?_)
           have HK:=Lib.hid hK
           clear hK
           go_simp
           have hcall:=is_any rb s (j+1) 45 _ HS.out.1
           unfold ptrV at hcall
           refine hcall.mono ?_
           clear hcall
           rintro e wb ⟨rfl,hsb⟩
           rw [← HB45.out]
           have HSb:=Lib.hid (show RdIs wb rb s (j+1)∧BSetIs wb ob o∧Mod (fun j=>j=rb∨j=ob) w wb from ⟨HS.out.1.same hsb,HS.out.2.1.same hsb,HS.out.2.2.trans (Mod.same hsb)⟩)
           clear hsb HS
           have HS:=HSb
           clear HSb
           refine HK.out _ _ HS.out ?_
           clear HK K
           iterate 4 (
            refine wpOrdP_quiet ?_ rfl rfl (fun w' hS=>?_) ?_
            rotate_left
            ·have e0:=hS.1.c0
             have e1:=hS.1.c1
             go_simp
             first | rfl | done
            simp only [put_lit,List.set_cons_succ,List.set_cons_zero])
           refine wpOrdP_loud rfl rfl (by decide) (fun K hK=>?_)
           have HK:=Lib.hid hK
           clear hK
           go_simp
           have hcall:=is_any rb s (j+1) 93 _ HS.out.1
           unfold ptrV at hcall
           refine hcall.mono ?_
           clear hcall
           rintro e wb ⟨rfl,hsb⟩
           rw [← HB93.out]
           have HSb:=Lib.hid (show RdIs wb rb s (j+1)∧BSetIs wb ob o∧Mod (fun j=>j=rb∨j=ob) w wb from ⟨HS.out.1.same hsb,HS.out.2.1.same hsb,HS.out.2.2.trans (Mod.same hsb)⟩)
           clear hsb HS
           have HS:=HSb
           clear HSb
           refine HK.out _ _ HS.out ?_
           clear HK K
           iterate 2 (
            refine wpOrdP_quiet ?_ rfl rfl (fun w' hS=>?_) ?_
            rotate_left
            ·have e0:=hS.1.c0
             have e1:=hS.1.c1
             go_simp
             first | rfl | done
            simp only [put_lit,List.set_cons_succ,List.set_cons_zero])
           refine wpOrdP_loud rfl rfl (by decide) (fun K hK=>?_)
           have HK:=Lib.hid hK
           clear hK
           go_simp
           have hcall:=must_any rb s (j+1) false _ HS.out.1
           unfold ptrV at hcall
           refine hcall.mono ?_
           clear hcall
           rintro e wb ⟨rfl,hsb⟩
           have HSb:=Lib.hid (show RdIs wb rb s (j+1)∧BSetIs wb ob o∧Mod (fun j=>j=rb∨j=ob) w wb from ⟨HS.out.1.same hsb,HS.out.2.1.same hsb,HS.out.2.2.trans (Mod.same hsb)⟩)
           clear hsb HS
           have HS:=HSb
           clear HSb
           refine ⟨rfl,?_⟩
           rw [HC.out]
           exact ⟨rfl,HS.out.2.2⟩
         ·have hcls:clsB s (j+1)=false:=by
           unfold clsB
           rw [decide_eq_true hlt,← HB45.out]
           rfl
          have HC:Hid (C = .fault (j+1)):=Lib.hid (HDf.out _ (classOne_bad2 HCL.out HR1.out HD45.out.symm hcls))
          clear hcls
          refine wp_region_ordP [(0,false),(1,false),(2,false),(3,false),(4,false),(5,false),(6,false),(7,false),(8,false),(9,false),(10,false),(11,false),(12,false),(13,true),(14,false),(15,false),(16,false),(17,false),(18,true),(19,false),(20,false),(21,true)]
           (fun w'=>RdIs w' rb s (j+1)∧BSetIs w' ob o∧Mod (fun j=>j=rb∨j=ob) w w') (fun c w'=>ClsEnd rb ob s w C (.panicked c) w') (fun c a w' hd h=>⟨hd,h⟩) (by kernel_rfl) (by kernel_rfl) HS.out ?_
          iterate 13 (
           refine wpOrdP_quiet ?_ rfl rfl (fun w' hS=>?_) ?_
           rotate_left
           ·have e0:=hS.1.c0
            have e1:=hS.1.c1
            go_simp
            first | rfl | done
           simp only [put_lit,List.set_cons_succ,List.set_cons_zero])
          refine wpOrdP_loud rfl rfl (by decide) (fun K hK=>?_)
          have HK:=Lib.hid hK
          clear hK
          go_simp
          have hcall:=is_any rb s (j+1) 45 _ HS.out.1
          unfold ptrV at hcall
          refine hcall.mono ?_
          clear hcall
          rintro e wb ⟨rfl,hsb⟩
          rw [← HB45.out]
          have HSb:=Lib.hid (show RdIs wb rb s (j+1)∧BSetIs wb ob o∧Mod (fun j=>j=rb∨j=ob) w wb from ⟨HS.out.1.same hsb,HS.out.2.1.same hsb,HS.out.2.2.trans (Mod.same hsb)⟩)
          clear hsb HS
          have HS:=HSb
          clear HSb
          refine HK.out _ _ HS.out ?_
          clear HK K
          iterate 3 (
           refine wpOrdP_quiet ?_ rfl rfl (fun w' hS=>?_) ?_
           rotate_left
           ·have e0:=hS.1.c0
            have e1:=hS.1.c1
            go_simp
            first | rfl | done
           simp only [put_lit,List.set_cons_succ,List.set_cons_zero])
          iterate 1 (
           refine wpOrdP_skip rfl rfl ?_
           simp only [put_lit,List.set_cons_succ,List.set_cons_zero])
          refine wpOrdP_loudskip rfl rfl ?_
          simp only [put_lit,List.set_cons_succ,List.set_cons_zero]
          iterate 1 (
           refine wpOrdP_skip rfl rfl ?_
           simp only [put_lit,List.set_cons_succ,List.set_cons_zero])
          iterate 1 (
           refine wpOrdP_quiet ?_ rfl rfl (fun w' hS=>?_) ?_
           rotate_left
           ·have e0:=hS.1.c0
            have e1:=hS.1.c1
            go_simp
            first | rfl | done
           simp only [put_lit,List.set_cons_succ,List.set_cons_zero])
          refine wpOrdP_loud rfl rfl (by decide) (fun K hK=>?_)
          have HK:=Lib.hid hK
          clear hK
          go_simp
          have hcall:=must_any rb s (j+1) false _ HS.out.1
          unfold ptrV at hcall
          refine hcall.mono ?_
          clear hcall
          rintro e wb ⟨rfl,hsb⟩
          have HSb:=Lib.hid (show RdIs wb rb s (j+1)∧BSetIs wb ob o∧Mod (fun j=>j=rb∨j=ob) w wb from ⟨HS.out.1.same hsb,HS.out.2.1.same hsb,HS.out.2.2.trans (Mod.same hsb)⟩)
          clear hsb HS
          have HS:=HSb
          clear HSb
          refine ⟨rfl,?_⟩
          rw [HC.out]
          exact ⟨rfl,HS.out.2.2⟩
        ·have q2z:decide ((j:Int)+1 < (s.size:Int))=false:=by simp; omega
         have hcls:clsB s (j+1)=false:=by
          unfold clsB
          rw [decide_eq_false hlt]
          rfl
         have q2:decide (j+1 < s.size)=false:=decide_eq_false hlt
         have HC:Hid (C = .fault (j+1)):=Lib.hid (HDf.out _ (classOne_bad2 HCL.out HR1.out HD45.out.symm hcls))
         clear hcls hlt
         refine wp_region_ordP [(0,false),(1,false),(2,false),(3,false),(4,false),(5,false),(6,false),(7,false),(8,false),(9,false),(10,false),(11,false),(12,false),(13,true),(14,false),(15,false),(16,false),(17,false),(18,true),(19,false),(20,false),(21,true)]
          (fun w'=>RdIs w' rb s (j+1)∧BSetIs w' ob o∧Mod (fun j=>j=rb∨j=ob) w w') (fun c w'=>ClsEnd rb ob s w C (.panicked c) w') (fun c a w' hd h=>⟨hd,h⟩) (by kernel_rfl) (by kernel_rfl) HS.out ?_
         iterate 12 (
          refine wpOrdP_quiet ?_ rfl rfl (fun w' hS=>?_) ?_
          rotate_left
          ·have e0:=hS.1.c0
           have e1:=hS.1.c1
           go_simp
           first | rfl | done
          simp only [put_lit,List.set_cons_succ,List.set_cons_zero])
         iterate 1 (
          refine wpOrdP_skip rfl rfl ?_
          simp only [put_lit,List.set_cons_succ,List.set_cons_zero])
         refine wpOrdP_loudskip rfl rfl ?_
         simp only [put_lit,List.set_cons_succ,List.set_cons_zero]
         iterate 1 (
          refine wpOrdP_skip rfl rfl ?_
          simp only [put_lit,List.set_cons_succ,List.set_cons_zero])
         iterate 2 (
          refine wpOrdP_quiet ?_ rfl rfl (fun w' hS=>?_) ?_
          rotate_left
          ·have e0:=hS.1.c0
           have e1:=hS.1.c1
           go_simp
           first | rfl | done
          simp only [put_lit,List.set_cons_succ,List.set_cons_zero])
         iterate 1 (
          refine wpOrdP_skip rfl rfl ?_
          simp only [put_lit,List.set_cons_succ,List.set_cons_zero])
         refine wpOrdP_loudskip rfl rfl ?_
         simp only [put_lit,List.set_cons_succ,List.set_cons_zero]
         iterate 1 (
          refine wpOrdP_skip rfl rfl ?_
          simp only [put_lit,List.set_cons_succ,List.set_cons_zero])
         iterate 1 (
          refine wpOrdP_quiet ?_ rfl rfl (fun w' hS=>?_) ?_
          rotate_left
          ·have e0:=hS.1.c0
           have e1:=hS.1.c1
           go_simp
           first | rfl | done
          simp only [put_lit,List.set_cons_succ,List.set_cons_zero])
         refine wpOrdP_loud rfl rfl (by decide) (fun K hK=>?_)
         have HK:=Lib.hid hK
         clear hK
         go_simp
         have hcall:=must_any rb s (j+1) false _ HS.out.1
         unfold ptrV at hcall
         refine hcall.mono ?_
         clear hcall
         rintro e wb ⟨rfl,hsb⟩
         have HSb:=Lib.hid (show RdIs wb rb s (j+1)∧BSetIs wb ob o∧Mod (fun j=>j=rb∨j=ob) w wb from ⟨HS.out.1.same hsb,HS.out.2.1.same hsb,HS.out.2.2.trans (Mod.same hsb)⟩)
         clear hsb HS
         have HS:=HSb
         clear HSb
         refine ⟨rfl,?_⟩
         rw [HC.out]
         exact ⟨rfl,HS.out.2.2⟩
     ·have hcls:clsB s (q)=false:=by
       unfold clsB
       rw [decide_eq_true hlt,← HB45.out,← HB93.out]
       rfl
      have HC:Hid (C = .fault (q)):=Lib.hid (HDf.out _ (classOne_bad hcls))
      clear hcls
      refine wp_region_ordP [(0,false),(1,false),(2,false),(3,false),(4,false),(5,false),(6,false),(7,false),(8,false),(9,false),(10,false),(11,false),(12,false),(13,true),(14,false),(15,false),(16,false),(17,false),(18,true),(19,false),(20,false),(21,true)]
       (fun w'=>RdIs w' rb s (q)∧BSetIs w' ob o∧Mod (fun j=>j=rb∨j=ob) w w') (fun c w'=>ClsEnd rb ob s w C (.panicked c) w') (fun c a w' hd h=>⟨hd,h⟩) (by kernel_rfl) (by kernel_rfl) HS.out ?_
      iterate 13 (
       refine wpOrdP_quiet ?_ rfl rfl (fun w' hS=>?_) ?_
       rotate_left
       ·have e0:=hS.1.c0
        have e1:=hS.1.c1
        go_simp
        first | rfl | done
       simp only [put_lit,List.set_cons_succ,List.set_cons_zero])
      refine wpOrdP_loud rfl rfl (by decide) (fun K hK=>?_)
      have HK:=Lib.hid hK
      clear hK
      go_simp
      have hcall:=is_any rb s (q) 45 _ HS.out.1
      unfold ptrV at hcall
      refine hcall.mono ?_
      clear hcall
      rintro e wb ⟨rfl,hsb⟩
      rw [← HB45.out]
      have HSb:=Lib.hid (show RdIs wb rb s (q)∧BSetIs wb ob o∧Mod (fun j=>j=rb∨j=ob) w wb from ⟨HS.out.1.same hsb,HS.out.2.1.same hsb,HS.out.2.2.trans (Mod.same hsb)⟩)
      clear hsb HS
      have HS:=HSb
      clear HSb
      refine HK.out _ _ HS.out ?_
      clear HK K
      iterate 4 (
       refine wpOrdP_quiet ?_ rfl rfl (fun w' hS=>?_) ?_
       rotate_left
       ·have e0:=hS.1.c0
        have e1:=hS.1.c1
        go_simp
        first | rfl | done
       simp only [put_lit,List.set_cons_succ,List.set_cons_zero])
      refine wpOrdP_loud rfl rfl (by decide) (fun K hK=>?_)
      have HK:=Lib.hid hK
      clear hK
      go_simp
      have hcall:=is_any rb s (q) 93 _ HS.out.1
      unfold ptrV at hcall
      refine hcall.mono ?_
      clear hcall
      rintro e wb ⟨rfl,hsb⟩
      rw [← HB93.out]
      have HSb:=Lib.hid (show RdIs wb rb s (q)∧BSetIs wb ob o∧Mod (fun j=>j=rb∨j=ob) w wb from ⟨HS.out.1.same hsb,HS.out.2.1.same hsb,HS.out.2.2.trans (Mod.same hsb)⟩)
      clear hsb HS
      have HS:=HSb
      clear HSb
      refine HK.out _ _ HS.out ?_
      clear HK K
      iterate 2 (
       refine wpOrdP_quiet ?_ rfl rfl (fun w' hS=>?_) ?_
       rotate_left
       ·have e0:=hS.1.c0
        have e1:=hS.1.c1
        go_simp
        first | rfl | done
       simp only [put_lit,List.set_cons_succ,List.set_cons_zero])
      refine wpOrdP_loud rfl rfl (by decide) (fun K hK=>?_)
      have HK:=Lib.hid hK
      clear hK
      go_simp
      have hcall:=must_any rb s (q) false _ HS.out.1
      unfold ptrV at hcall
      refine hcall.mono ?_
      clear hcall
      rintro e wb ⟨rfl,hsb⟩
      have HSb:=Lib.hid (show RdIs wb rb s (q)∧BSetIs wb ob o∧Mod (fun j=>j=rb∨j=ob) w wb from ⟨HS.out.1.same hsb,HS.out.2.1.same hsb,HS.out.2.2.trans (Mod.same hsb)⟩)
      clear hsb HS
      have HS:=HSb
      clear HSb
      refine ⟨rfl,?_⟩
      rw [HC.out]
      exact ⟨rfl,HS.out.2.2⟩
    ·have hcls:clsB s (q)=false:=by
      unfold clsB
      rw [decide_eq_true hlt,← HB45.out]
      rfl
     have HC:Hid (C = .fault (q)):=Lib.hid (HDf.out _ (classOne_bad hcls))
     clear hcls
     refine wp_region_ordP [(0,false),(1,false),(2,false),(3,false),(4,false),(5,false),(6,false),(7,false),(8,false),(9,false),(10,false),(11,false),(12,false),(13,true),(14,false),(15,false),(16,false),(17,false),(18,true),(19,false),(20,false),(21,true)]
      (fun w'=>RdIs w' rb s (q)∧BSetIs w' ob o∧Mod (fun j=>j=rb∨j=ob) w w') (fun c w'=>ClsEnd rb ob s w C (.panicked c) w') (fun c a w' hd h=>⟨hd,h⟩) (by kernel_rfl) (by kernel_rfl) HS.out ?_
     iterate 13 (
      refine wpOrdP_quiet ?_ rfl rfl (fun w' hS=>?_) ?_
      rotate_left
      ·have e0:=hS.1.c0
       have e1:=hS.1.c1
       go_simp
       first | rfl | done
      simp only [put_lit,List.set_cons_succ,List.set_cons_zero])
     refine wpOrdP_loud rfl rfl (by decide) (fun K hK=>?_)
     have HK:=Lib.hid hK
     clear hK
     go_simp
     have hcall:=is_any rb s (q) 45 _ HS.out.1
     unfold ptrV at hcall
     refine hcall.mono ?_
     clear hcall
     rintro e wb ⟨rfl,hsb⟩
     rw [← HB45.out]
     have HSb:=Lib.hid (show RdIs wb rb s (q)∧BSetIs wb ob o∧Mod (fun j=>j=rb∨j=ob) w wb from ⟨HS.out.1.same hsb,HS.out.2.1.same hsb,HS.out.2.2.trans (Mod.same hsb)⟩)
     clear hsb HS
     have HS:=HSb
     clear HSb
     refine HK.out _ _ HS.out ?_
     clear HK K
     iterate 3 (
      refine wpOrdP_quiet ?_ rfl rfl (fun w' hS=>?_) ?_
      rotate_left
      ·have e0:=hS.1.c0
       have e1:=hS.1.c1
       go_simp
       first | rfl | done
      simp only [put_lit,List.set_cons_succ,List.set_cons_zero])
     iterate 1 (
      refine wpOrdP_skip rfl rfl ?_
      simp only [put_lit,List.set_cons_succ,List.set_cons_zero])
     refine wpOrdP_loudskip rfl rfl ?_
     simp only [put_lit,List.set_cons_succ,List.set_cons_zero]
     iterate 1 (
      refine wpOrdP_skip rfl rfl ?_
      simp only [put_lit,List.set_cons_succ,List.set_cons_zero])
     iterate 1 (
      refine wpOrdP_quiet ?_ rfl rfl (fun w' hS=>?_) ?_
      rotate_left
      ·have e0:=hS.1.c0
       have e1:=hS.1.c1
       go_simp
       first | rfl | done
      simp only [put_lit,List.set_cons_succ,List.set_cons_zero])
     refine wpOrdP_loud rfl rfl (by decide) (fun K hK=>?_)
     have HK:=Lib.hid hK
     clear hK
     go_simp
     have hcall:=must_any rb s (q) false _ HS.out.1
     unfold ptrV at hcall
     refine hcall.mono ?_
     clear hcall
     rintro e wb ⟨rfl,hsb⟩
     have HSb:=Lib.hid (show RdIs wb rb s (q)∧BSetIs wb ob o∧Mod (fun j=>j=rb∨j=ob) w wb from ⟨HS.out.1.same hsb,HS.out.2.1.same hsb,HS.out.2.2.trans (Mod.same hsb)⟩)
     clear hsb HS
     have HS:=HSb
     clear HSb
     refine ⟨rfl,?_⟩
     rw [HC.out]
     exact ⟨rfl,HS.out.2.2⟩
   ·have hcls:clsB s (q)=false:=by
     unfold clsB
     rw [decide_eq_false hlt]
     rfl
    have q2:decide (q < s.size)=false:=decide_eq_false hlt
    have HC:Hid (C = .fault (q)):=Lib.hid (HDf.out _ (classOne_bad hcls))
    clear hcls hlt
    refine wp_region_ordP [(0,false),(1,false),(2,false),(3,false),(4,false),(5,false),(6,false),(7,false),(8,false),(9,false),(10,false),(11,false),(12,false),(13,true),(14,false),(15,false),(16,false),(17,false),(18,true),(19,false),(20,false),(21,true)]
     (fun w'=>RdIs w' rb s (q)∧BSetIs w' ob o∧Mod (fun j=>j=rb∨j=ob) w w') (fun c w'=>ClsEnd rb ob s w C (.panicked c) w') (fun c a w' hd h=>⟨hd,h⟩) (by kernel_rfl) (by kernel_rfl) HS.out ?_
    iterate 12 (
     refine wpOrdP_quiet ?_ rfl rfl (fun w' hS=>?_) ?_
     rotate_left
     ·have e0:=hS.1.c0
      have e1:=hS.1.c1
      go_simp
      first | rfl | done
     simp only [put_lit,List.set_cons_succ,List.set_cons_zero])
    iterate 1 (
     refine wpOrdP_skip rfl rfl ?_
     simp only [put_lit,List.set_cons_succ,List.set_cons_zero])
    refine wpOrdP_loudskip rfl rfl ?_
    simp only [put_lit,List.set_cons_succ,List.set_cons_zero]
    iterate 1 (
     refine wpOrdP_skip rfl rfl ?_
     simp only [put_lit,List.set_cons_succ,List.set_cons_zero])
    iterate 2 (
     refine wpOrdP_quiet ?_ rfl rfl (fun w' hS=>?_) ?_
     rotate_left
     ·have e0:=hS.1.c0
      have e1:=hS.1.c1
      go_simp
      first | rfl | done
     simp only [put_lit,List.set_cons_succ,List.set_cons_zero])
    iterate 1 (
     refine wpOrdP_skip rfl rfl ?_
     simp only [put_lit,List.set_cons_succ,List.set_cons_zero])
    refine wpOrdP_loudskip rfl rfl ?_
    simp only [put_lit,List.set_cons_succ,List.set_cons_zero]
    iterate 1 (
     refine wpOrdP_skip rfl rfl ?_
     simp only [put_lit,List.set_cons_succ,List.set_cons_zero])
    iterate 1 (
     refine wpOrdP_quiet ?_ rfl rfl (fun w' hS=>?_) ?_
     rotate_left
     ·have e0:=hS.1.c0
      have e1:=hS.1.c1
      go_simp
      first | rfl | done
     simp only [put_lit,List.set_cons_succ,List.set_cons_zero])
    refine wpOrdP_loud rfl rfl (by decide) (fun K hK=>?_)
    have HK:=Lib.hid hK
    clear hK
    go_simp
    have hcall:=must_any rb s (q) false _ HS.out.1
    unfold ptrV at hcall
    refine hcall.mono ?_
    clear hcall
    rintro e wb ⟨rfl,hsb⟩
    have HSb:=Lib.hid (show RdIs wb rb s (q)∧BSetIs wb ob o∧Mod (fun j=>j=rb∨j=ob) w wb from ⟨HS.out.1.same hsb,HS.out.2.1.same hsb,HS.out.2.2.trans (Mod.same hsb)⟩)
    clear hsb HS
    have HS:=HSb
    clear HSb
    refine ⟨rfl,?_⟩
    rw [HC.out]
    exact ⟨rfl,HS.out.2.2⟩
end Go.Proofs.Ts
