/- Lemmas towards the statement Least of termsearch: walks of the program's functions and plain laws on lists (TlGram, TlGramB, TlGramC, TlMachP, TlNormP, TlParD, TlSeqR, TlAltR, TlAtomN, TlAgain, TlRepR, TlAddR, TlTimesP, TlTimesR, TlParR, TlCountP, TlScanP, TlCtrP, TlCtrA, TlCtrB, TlPattern, TlWild, TlOf, TlFind). Conditions: those that each theorem names. -/
import Derived.Test.YtffjomnnkilhgaaGreatDoorLeastPA
import Derived.Test.YtffjomnnkilhgaaGreatDoorLeastPH
import Derived.Test.YtffjomnnkilhgaaGreatDoorLeastPF
import Derived.Test.YtffjomnnkilhgaaGreatDoorLeastPD
import Derived.Test.YtffjomnnkilhgaaGreatDoorLeastPE
set_option linter.unusedVariables false
set_option linter.unusedSimpArgs false
set_option linter.unusedSectionVars false
set_option maxRecDepth 100000
set_option maxHeartbeats 32000000
open And renaming intro->aA
open Bool renaming and_eq_true->cR,eq_iff_iff->jf,false_eq_true->jP,not_eq_true'->afP,not_false->jO,true_and->gP
open Go renaming Calls->aX,Ending->rY,Value->ay,World->ak
open Go.IntWalk renaming i64_in->aK
open Go.Lib renaming hid->ae
open Go.Proofs.Tryz renaming func118->asq,func159->asj,func200->asf,func203->FK,func204->ase,func229->Uz,func255->asb,func72->JR,ntmps118->aoT,ntmps159->aoN,ntmps200->aoJ,ntmps203->Dr,ntmps204->aoI,ntmps229->Q5,ntmps255->aoG,ntmps72->FH,prog->ah,underlying144->nQ,zeroCells138->jl
open Go.RowKit renaming Below->aI
open Go.RowKit.Below renaming heap_setCell->az,refl->aB
open Go.World renaming ownsRow_nil->bS,size_alloc->bM
open Iff renaming rfl->FR
open List renaming append_assoc->kP,append_nil->gv,ext_getElem->agx,getD_eq_getElem?_getD->aw,getElem?_append_left->dF,getElem?_append_right->gA,getElem?_eq_getElem->ar,getElem?_eq_none->iI,length_append->bh,length_replicate->bK,mem_append->jM,replicate->aQ,replicate_succ->abr,replicate_succ'->Za,replicate_zero->abq,set_append->Y9,set_cons_succ->ai,set_cons_zero->aj
open Nat renaming add_le_add->AV,le_add_left->ajY,le_of_lt->ij,le_refl->au,le_trans->aZ,lt_of_lt_of_le->bI,min_le_right->agv,mul_comm->asv,sub_self->mG,zero_le->aW
open Option.some renaming inj->aJ
open UInt8 renaming ofNat->cS,toNat_lt->ia
namespace Go.Proofs.Tl
open Go Go.RowKit Go.Proofs.Ts
def Gx(w:ak)(gb pb:Nat):Prop:=w.heap[gb]?=some (.cells #[.pointer (some ⟨pb,0,none⟩)] 235 (0,0))
def zq(gb pb:Nat)(s:ByteArray)(w0:ak)(i:Nat)(bad:Bool)(w:ak):Prop:=Gx w gb pb/\bO w pb s i bad/\Mod (λk=>k=pb) w0 w
section
variable{gb pb:Nat}{s:ByteArray}{w0 w w':ak}{i j:Nat}{bad y9:Bool}
theorem Gx.ne(h:Gx w gb pb)(hp:bO w pb s i bad):gb≠pb:=λe=>by subst e;have:=(show w.heap[gb]?=_ from h).symm.trans hp.1;simp at this
theorem zq.c(h:zq gb pb s w0 i bad w):w.cell? (aD gb 0)=some (pT pb):=aq h.1
theorem zq.step(h:zq gb pb s w0 i bad w)(hp:bO w' pb s j y9)(hm:Mod (λk=>k=pb) w w'):zq gb pb s w0 j y9 w':=⟨(hm.block gb (lt_of_heap h.1) (h.1.ne h.2.1)).trans h.1,hp,h.2.2.trans hm⟩
theorem zq.same(h:zq gb pb s w0 i bad w)(k:Same w w'):zq gb pb s w0 i bad w':=h.step (h.2.1.same k) (Mod.same k)
theorem zq.fail(h:zq gb pb s w0 i bad w):zq gb pb s w0 i true (w.setCell (aD pb 2) (.bool true)):=h.step h.2.1.fail (Mod.setCell _ _ _ λ_=>rfl)
end
def oD{α:Type}(gb pb:Nat)(s:ByteArray)(w:ak)(C:PR α)(e:rY)(w':ak):Prop:=e= .returned (.tuple #[])/\Mod (λk=>k=pb) w w'/\Hu pb s w' C
theorem dR(pb:Nat)(s:ByteArray)(i:Nat)(bad:Bool)(c:UInt8)(b:Bool)(w:ak)(hR:bO w pb s i bad)(hb:(!bad&&cH s i c)=b):aX ah 160 #[pT pb,.int .u8 c.toNat] w λe w'=>e= .returned (.bool b)/\bO w' pb s (if b then i+1 else i) bad/\Mod (λk=>k=pb) w w':=by have:=rK pb s i bad c w hR;rw[hb]at this;refine this.mono λe w' h=>⟨h.1,?_,h.2.2⟩;have h2:=h.2.1;cases bad with
 |true=>
  have:b=false:=by rw[<-hb];rfl
  rw[this];exact h2|false=>
  have hb':cH s i c=b:=by simpa using hb
  unfold gL at h2;rw[hb']at h2;exact h2
theorem Hh(A:Nat->PR bC)(gb pb:Nat)(s:ByteArray)(i:Nat)(w:ak)(hG:Gx w gb pb)(hR:bO w pb s i false)(hA:∀W,zq gb pb s w (i+1) false W->aX ah 114 #[pT gb] W (oD gb pb s W (A (i+1)))):aX ah 200 #[aP gb] w (oD gb pb s w (eY A s i)):=by
 have HS:Hid (zq gb pb s w i false w):=ae ⟨hG,hR,Mod.refl _ _⟩;have HA:=ae hA;unfold aP;by_cases nH:s.data.toList[i]?=some 40;·
  have hb:cH s i 40=true:=by rw[jD nH,decide_eq_true rfl]
  have hC:∀r,A (i+1)=r->eY A s i=match r with| .fault e=> .fault e| .ok x j=>if cH s j 41 then .ok x (j+1)else .fault j:=λr hr=>by unfold eY;rw[nH,<-hr];rfl
  have HC:=ae hC;have HB:=ae hb;go_enter asf,aoJ;have hone:=dR pb s (i) false 40 true w HS.2.1 (by rw[HB];rfl);have cD:=ae hone;have cgw:=HS.c;go_upto_region 1 with(go_at_call 160;refine cD.mono ?_;rintro e w1⟨rfl,hp,hm⟩;have kL:=ae (HS.step hp hm));have hal:=HA w1 kL;unfold oD at hal;obtain⟨R,hR⟩:∃R,A (i+1)=R:=⟨_,rfl⟩;rw[hR]at hal;have HR:=ae (HC R hR);cases R with|fault p=>have HAL:=ae hal;go_upto_region 2 with(go_at_call 114;refine HAL.mono ?_;rintro e w2⟨rfl,hm,hp⟩;have ju:=ae (kL.step hp hm));have hone:=dR pb s (p) true 41 false w2 ju.2.1 (rfl);have cD:=ae hone;have ai5:=ju.c;go_upto_region 3 with(go_at_call 160;refine cD.mono ?_;rintro e w3⟨rfl,hp,hm⟩;have iH:=ae (ju.step hp hm));have cg3:=iH.c;have f2:=iH.2.1.free 2;have e2:=iH.2.1.c2;go_wp2_with fail;refine bodyPost_end (results_none rfl _ _ _) rfl ?_;rw[HR];exact⟨rfl,iH.fail.2.2,iH.fail.2.1⟩|ok x j=>have HAL:=ae hal;go_upto_region 2 with(go_at_call 114;refine HAL.mono ?_;rintro e w2⟨rfl,hm,hp⟩;have ju:=ae (kL.step hp hm));cases aiF:cH s j 41 with|true=>have Yu:=ae aiF;have hone:=dR pb s (j) false 41 true w2 ju.2.1 (by rw[Yu];rfl);have cD:=ae hone;have ai5:=ju.c;go_upto_region 3 with(go_at_call 160;refine cD.mono ?_;rintro e w3⟨rfl,hp,hm⟩;have iH:=ae (ju.step hp hm));go_wp2_with fail;refine bodyPost_end (results_none rfl _ _ _) rfl ?_;rw[HR,Yu,if_pos rfl];exact⟨rfl,iH.2.2,iH.2.1⟩|false=>have Yu:=ae aiF;have hone:=dR pb s (j) false 41 false w2 ju.2.1 (by rw[Yu];rfl);have cD:=ae hone;have ai5:=ju.c;go_upto_region 3 with(go_at_call 160;refine cD.mono ?_;rintro e w3⟨rfl,hp,hm⟩;have iH:=ae (ju.step hp hm));have cg3:=iH.c;have f2:=iH.2.1.free 2;have e2:=iH.2.1.c2;go_wp2_with fail;refine bodyPost_end (results_none rfl _ _ _) rfl ?_;rw[HR,Yu,if_neg (by decide)];exact⟨rfl,iH.fail.2.2,iH.fail.2.1⟩
 ·have hb:cH s i 40=false:=by unfold cH;rw[decide_eq_false nH]
  have HB:=ae hb;have H40:=ae nH;go_enter asf,aoJ;have hone:=dR pb s (i) false 40 false w HS.2.1 (by rw[HB];rfl);have cD:=ae hone;have cgw:=HS.c;go_upto_region 5 with(go_at_call 160;refine cD.mono ?_;rintro e w1⟨rfl,hp,hm⟩;have kL:=ae (HS.step hp hm));have hat:=Mq A pb s i w1 kL.2.1 H40;unfold aP at hat;have HAT:=ae hat;have cg1:=kL.c;go_wp2_with(go_at_call 228;refine HAT.mono ?_;rintro e w2⟨v,rfl,hm,hp,_⟩;have ju:=ae (aA hm hp));refine bodyPost_end (results_none rfl _ _ _) rfl ?_;exact⟨rfl,kL.2.2.trans ju.1,ju.2⟩
theorem LU{s:ByteArray}{i p:Nat}(h:dI s i 0= .fault p):p=i:=by
 unfold dI at h;split at h;·cases h;rfl
 ·split at h;·cases h
  ·cases h;rfl
theorem oZ(s:ByteArray)(i lo:Nat):dI s i lo=match dI s i 0 with| .fault e=> .fault e| .ok x j=>if x<lo then .fault i else .ok x j:=by
 unfold dI;split;·rfl
 ·rename_i c hc;by_cases h1:48+lo<=c.toNat/\c.toNat<=57;·rw[if_pos h1,if_pos (by omega)];simp only;rw[if_neg (by omega)]
  ·rw[if_neg h1];by_cases h2:48+0<=c.toNat/\c.toNat<=57;·rw[if_pos h2];simp only;rw[if_pos (by omega)]
   ·rw[if_neg h2]
theorem Xn (T:dU) (A:Nat->PR bC) (gb pb:Nat) (s:ByteArray) (i:Nat) (w:ak) (hG:Gx w gb pb) (hR:bO w pb s i false)
  (hat:∀ W,zq gb pb s w i false W->aX ah 200 #[pT gb] W (oD gb pb s W (eY A s i))) :
  aX ah 159 #[aP gb] w (oD gb pb s w (gq T A s i)):=by
 have HS:Hid (zq gb pb s w i false w):=ae ⟨hG,hR,Mod.refl _ _⟩
 have aaC:=hat w HS
 unfold oD at aaC
 unfold aP
 obtain ⟨R,hR⟩:∃ R,eY A s i=R:=⟨_,rfl⟩
 rw [hR] at aaC
 have HR:=ae hR
 cases R with
 | fault p =>
  have HAT:=ae aaC
  go_enter asj,aoN
  go_upto_region 1 with (go_at_call 200; refine HAT.mono ?_; rintro e w1 ⟨rfl,hm,hp⟩; have kL:=ae (HS.step hp hm); clear hp hm)
  have cg1:=kL.c
  have e1:=kL.2.1.c2
  go_wp2_with fail
  refine bodyPost_ret (results_none rfl _ _ _) rfl ?_
  have hy:gq T A s i = .fault p:=by
   unfold gq
   rw [HR]
  rw [hy]
  exact ⟨rfl,kL.2.2,kL.2.1⟩
 | ok a j =>
  have HAT:=ae aaC
  obtain ⟨b42,aiE⟩:∃ b,cH s j 42=b:=⟨_,rfl⟩
  obtain ⟨b43,aiD⟩:∃ b,cH s j 43=b:=⟨_,rfl⟩
  obtain ⟨b63,aiA⟩:∃ b,cH s j 63=b:=⟨_,rfl⟩
  have HQ:Hid (∀ (z:Int) (b:Bool) (W:ak),zq gb pb s w j false W->((z=42/\b=b42)\/(z=43/\b=b43)\/(z=63/\b=b63))->aX ah 160 #[pT pb,.int .u8 z] W fun e w'=>e = .returned (.bool b)/\bO w' pb s (if b then j+1 else j) false/\Mod (fun k=>k=pb) W w'):=ae (by
   rintro z b W h (⟨rfl,rfl⟩ | ⟨rfl,rfl⟩ | ⟨rfl,rfl⟩)
   ·exact dR pb s j false 42 b W h.2.1 (by rw [aiE]; rfl)
   ·exact dR pb s j false 43 b W h.2.1 (by rw [aiD]; rfl)
   ·exact dR pb s j false 63 b W h.2.1 (by rw [aiA]; rfl))
  have JP:=ae aiE
  have MH:=ae aiD
  have PQ:=ae aiA
  go_enter asj,aoN
  go_upto_region 1 with (go_at_call 200; refine HAT.mono ?_; rintro e w1 ⟨rfl,hm,hp⟩; have kL:=ae (HS.step hp hm); clear hp hm)
  have cg1:=kL.c
  have e1:=kL.2.1.c2
  cases b42 with
  | true =>
   go_wp2_with (go_at_call 160; refine (HQ _ _ _ (by first | exact FC | exact kL) (by first | exact .inl ⟨rfl,rfl⟩ | exact .inr (.inl ⟨rfl,rfl⟩) | exact .inr (.inr ⟨rfl,rfl⟩))).mono ?_; rintro e wn ⟨rfl,hp,hm⟩; have FC:=ae (zq.step (by first | exact FC | exact kL) hp hm); have cgn:=FC.c; clear hp hm)
   refine bodyPost_ret (results_none rfl _ _ _) rfl ?_
   have hy:gq T A s i = .ok (.many a false) (j+1):=by
    unfold gq
    rw [HR]
    simp only
    unfold dY
    rw [JP,if_pos rfl]
   rw [hy]
   exact ⟨rfl,FC.2.2,FC.2.1⟩
  | false =>
   cases b43 with
   | true =>
    go_wp2_with (go_at_call 160; refine (HQ _ _ _ (by first | exact FC | exact kL) (by first | exact .inl ⟨rfl,rfl⟩ | exact .inr (.inl ⟨rfl,rfl⟩) | exact .inr (.inr ⟨rfl,rfl⟩))).mono ?_; rintro e wn ⟨rfl,hp,hm⟩; have FC:=ae (zq.step (by first | exact FC | exact kL) hp hm); have cgn:=FC.c; clear hp hm)
    refine bodyPost_ret (results_none rfl _ _ _) rfl ?_
    have hy:gq T A s i = .ok (.many a true) (j+1):=by
     unfold gq
     rw [HR]
     simp only
     unfold dY
     rw [JP,MH,if_neg (by decide),if_pos rfl]
    rw [hy]
    exact ⟨rfl,FC.2.2,FC.2.1⟩
   | false =>
    cases b63 with
    | true =>
     go_wp2_with (go_at_call 160; refine (HQ _ _ _ (by first | exact FC | exact kL) (by first | exact .inl ⟨rfl,rfl⟩ | exact .inr (.inl ⟨rfl,rfl⟩) | exact .inr (.inr ⟨rfl,rfl⟩))).mono ?_; rintro e wn ⟨rfl,hp,hm⟩; have FC:=ae (zq.step (by first | exact FC | exact kL) hp hm); have cgn:=FC.c; clear hp hm)
     refine bodyPost_ret (results_none rfl _ _ _) rfl ?_
     have hy:gq T A s i = .ok (.maybe a) (j+1):=by
      unfold gq
      rw [HR]
      simp only
      unfold dY
      rw [JP,MH,PQ,if_neg (by decide),if_neg (by decide),if_pos rfl]
     rw [hy]
     exact ⟨rfl,FC.2.2,FC.2.1⟩
    | false =>
     go_upto_region 2 with (go_at_call 160; refine (HQ _ _ _ (by first | exact FC | exact kL) (by first | exact .inl ⟨rfl,rfl⟩ | exact .inr (.inl ⟨rfl,rfl⟩) | exact .inr (.inr ⟨rfl,rfl⟩))).mono ?_; rintro e wn ⟨rfl,hp,hm⟩; have FC:=ae (zq.step (by first | exact FC | exact kL) hp hm); have cgn:=FC.c; clear hp hm)
     have ju:=ae FC
     cases aci:cH s j 123 with
     | false =>
      have MI:=ae aci
      have hone:=dR pb s (j) false 123 false wn ju.2.1 (by rw [MI]; rfl)
      have cD:=ae hone
      have aeR:=ju.c
      go_wp2_with (go_at_call 160; refine cD.mono ?_; rintro e w3 ⟨rfl,hp,hm⟩; have iH:=ae (ju.step hp hm); clear hp hm aeR)
      refine bodyPost_end (results_none rfl _ _ _) rfl ?_
      have hy:gq T A s i = .ok a j:=by
       unfold gq
       rw [HR]
       simp only
       unfold dY
       rw [JP,MH,PQ,MI,if_neg (by decide),if_neg (by decide),if_neg (by decide),if_neg (by decide)]
      rw [hy]
      exact ⟨rfl,iH.2.2,iH.2.1⟩
     | true =>
      have MI:=ae aci
      have hone:=dR pb s (j) false 123 true wn ju.2.1 (by rw [MI]; rfl)
      have cD:=ae hone
      have aeR:=ju.c
      go_upto_region 3 with (go_at_call 160; refine cD.mono ?_; rintro e w3 ⟨rfl,hp,hm⟩; have iH:=ae (ju.step hp hm); clear hp hm aeR)
      obtain ⟨j1,hj1⟩:∃ j1,j1=j+1:=⟨_,rfl⟩
      rw [<- hj1] at iH
      have EK:gq T A s i=gQ T s a j1:=by
       unfold gq
       rw [HR]
       simp only
       unfold dY
       rw [JP,MH,PQ,MI,if_neg (by decide),if_neg (by decide),if_neg (by decide),if_pos rfl,<- hj1]
      have AG:=ae EK
      cases hD1:dI s j1 0 with
      | fault p =>
       have HD1:=ae hD1
       have vE:=kX pb s (j1) w3 iH.2.1
       unfold je aP at vE
       rw [HD1] at vE
       have Hw:Hid (aX ah 201 #[pT pb] w3 fun e w'=>e = .returned (iV 0)/\bO w' pb s (p) true/\Mod (fun k=>k=pb) w3 w'):=ae (vE.mono fun e w' h=>⟨h.2.2,h.1,h.2.1⟩)
       have aeS:=iH.c
       go_upto_region 4 with (go_at_call 201; refine Hw.mono ?_; rintro e w4 ⟨rfl,hp,hm⟩; have pF:=ae (iH.step hp hm); clear hp hm aeS)
       have hone:=dR pb s (p) true 44 false w4 pF.2.1 (rfl)
       have cD:=ae hone
       have aaP:=pF.c
       go_upto_region 10 with (go_at_call 160; refine cD.mono ?_; rintro e w5 ⟨rfl,hp,hm⟩; have sO:=ae (pF.step hp hm); clear hp hm aaP)
       have hone:=dR pb s (p) true 125 false w5 sO.2.1 (rfl)
       have cD:=ae hone
       have O6:=sO.c
       go_upto_region 11 with (go_at_call 160; refine cD.mono ?_; rintro e wz ⟨rfl,hp,hm⟩; have uS:=ae (sO.step hp hm); clear hp hm O6)
       have cgz:=uS.c
       have fz:=uS.2.1.free 2
       have ez:=uS.2.1.c2
       go_wp2_with fail
       refine bodyPost_end (results_none rfl _ _ _) rfl ?_
       have hy:gq T A s i = .fault (p):=by rw [AG]; unfold gQ; rw [HD1]
       rw [hy]
       exact ⟨rfl,uS.fail.2.2,uS.fail.2.1⟩
      | ok lo k =>
       have HD1:=ae hD1
       have vE:=kX pb s (j1) w3 iH.2.1
       unfold je aP at vE
       rw [HD1] at vE
       have Hw:Hid (aX ah 201 #[pT pb] w3 fun e w'=>e = .returned (iV (lo:Int))/\bO w' pb s (k) false/\Mod (fun k=>k=pb) w3 w'):=ae (vE.mono fun e w' h=>⟨h.2.2,h.1,h.2.1⟩)
       have aeS:=iH.c
       go_upto_region 4 with (go_at_call 201; refine Hw.mono ?_; rintro e w4 ⟨rfl,hp,hm⟩; have pF:=ae (iH.step hp hm); clear hp hm aeS)
       cases aiC:cH s k 44 with
       | false =>
        have PS:=ae aiC
        have hone:=dR pb s (k) false 44 false w4 pF.2.1 (by rw [PS]; rfl)
        have cD:=ae hone
        have aaP:=pF.c
        go_upto_region 10 with (go_at_call 160; refine cD.mono ?_; rintro e w5 ⟨rfl,hp,hm⟩; have sO:=ae (pF.step hp hm); clear hp hm aaP)
        cases hbc:cH s (k) 125 with
        | true =>
         have Un:=ae hbc
         have hone:=dR pb s (k) false 125 true w5 sO.2.1 (by rw [Un]; rfl)
         have cD:=ae hone
         have O6:=sO.c
         go_upto_region 11 with (go_at_call 160; refine cD.mono ?_; rintro e wz ⟨rfl,hp,hm⟩; have uS:=ae (sO.step hp hm); clear hp hm O6)
         go_wp2_with fail
         refine bodyPost_end (results_none rfl _ _ _) rfl ?_
         obtain ⟨y,hy⟩:∃ y,gq T A s i = .ok y (k+1):=⟨T a lo lo false,by rw [AG.out]; unfold gQ; rw [HD1.out]; simp only; rw [PS.out,if_neg (by decide),Un.out,if_pos rfl]⟩
         rw [hy]
         exact ⟨rfl,uS.2.2,uS.2.1⟩
        | false =>
         have Un:=ae hbc
         have hone:=dR pb s (k) false 125 false w5 sO.2.1 (by rw [Un]; rfl)
         have cD:=ae hone
         have O6:=sO.c
         go_upto_region 11 with (go_at_call 160; refine cD.mono ?_; rintro e wz ⟨rfl,hp,hm⟩; have uS:=ae (sO.step hp hm); clear hp hm O6)
         have cgz:=uS.c
         have fz:=uS.2.1.free 2
         have ez:=uS.2.1.c2
         go_wp2_with fail
         refine bodyPost_end (results_none rfl _ _ _) rfl ?_
         have hy:gq T A s i = .fault (k):=by rw [AG.out]; unfold gQ; rw [HD1.out]; simp only; rw [PS.out,if_neg (by decide),Un.out,if_neg (by decide)]
         rw [hy]
         exact ⟨rfl,uS.fail.2.2,uS.fail.2.1⟩
       | true =>
        have PS:=ae aiC
        obtain ⟨k1,hk1⟩:∃ k1,k1=k+1:=⟨_,rfl⟩
        have hone:=dR pb s k false 44 true w4 pF.2.1 (by rw [PS]; rfl)
        have cD:Hid (aX ah 160 #[pT pb,.int .u8 44] w4 fun e w'=>e = .returned (.bool true)/\bO w' pb s k1 false/\Mod (fun k=>k=pb) w4 w'):=ae (by rw [hk1]; exact hone)
        have HK1:=ae hk1
        obtain ⟨ai7,Xg⟩:∃ b,cH s k1 125=b:=⟨_,rfl⟩
        have vk:Hid (∀ W,bO W pb s k1 false->aX ah 202 #[pT pb,.int .u8 125] W fun e w'=>e = .returned (.bool ai7)/\Same W w'):=ae fun W h=>by
         have:=rG pb s k1 false 125 W h
         simp only [jO,gP] at this
         rw [Xg] at this
         exact this
        have Yw:=ae Xg
        clear hone hk1 Xg
        have aaP:=pF.c
        cases ai7 with
        | true =>
         go_upto_region 10 with (first | (go_at_call 160; refine cD.mono ?_; rintro e w5 ⟨rfl,hp,hm⟩; have sO:=ae (pF.step hp hm); have O6:=sO.c; clear hp hm) | (go_at_call 202; refine (vk _ sO.2.1).mono ?_; rintro e w6 ⟨rfl,hs⟩; have q9:=ae (sO.same hs); clear hs))
         have hone:=dR pb s (k1) false 125 true w6 q9.2.1 (by rw [Yw]; rfl)
         have cD:=ae hone
         have XF:=q9.c
         go_upto_region 11 with (go_at_call 160; refine cD.mono ?_; rintro e wz ⟨rfl,hp,hm⟩; have uS:=ae (q9.step hp hm); clear hp hm XF)
         go_wp2_with fail
         refine bodyPost_end (results_none rfl _ _ _) rfl ?_
         have hy:gq T A s i = .ok (T a lo lo true) (k1+1):=by
          have h1:=Yw.out
          have h2:=HK1.out
          rw [AG]
          unfold gQ
          rw [HD1]
          simp only
          rw [PS,if_pos rfl,<- h2,h1,if_pos rfl,h2]
         rw [hy]
         exact ⟨rfl,uS.2.2,uS.2.1⟩
        | false =>
         go_upto_region 5 with (first | (go_at_call 160; refine cD.mono ?_; rintro e w5 ⟨rfl,hp,hm⟩; have sO:=ae (pF.step hp hm); have O6:=sO.c; clear hp hm) | (go_at_call 202; refine (vk _ sO.2.1).mono ?_; rintro e w6 ⟨rfl,hs⟩; have q9:=ae (sO.same hs); clear hs))
         have htm:gQ T s a j1=match dI s k1 lo with
           | .fault e => .fault e
           | .ok hi k=>if cH s k 125 then .ok (T a lo hi false) (k+1) else .fault k:=by
          have h1:=Yw.out
          have h2:=HK1.out
          unfold gQ
          rw [HD1]
          simp only
          rw [PS,if_pos rfl,<- h2,h1,if_neg (by decide)]
          cases dI s k1 lo <;> rfl
         have Hv:=ae htm
         have c1:=q9.2.1.c1
         have cg6:=q9.c
         go_upto_region 6 with fail
         cases OX:dI s k1 0 with
         | fault p =>
          have hp1:=LU OX
          have Yo:=ae OX
          have Ye:=ae hp1
          have vE:=kX pb s (k1) w6 q9.2.1
          unfold je aP at vE
          rw [Yo] at vE
          have Hw:Hid (aX ah 201 #[pT pb] w6 fun e w'=>e = .returned (iV 0)/\bO w' pb s (p) true/\Mod (fun k=>k=pb) w6 w'):=ae (vE.mono fun e w' h=>⟨h.2.2,h.1,h.2.1⟩)
          have XF:=q9.c
          go_upto_region 7 with (go_at_call 201; refine Hw.mono ?_; rintro e w7 ⟨rfl,hp,hm⟩; have ye:=ae (q9.step hp hm); clear hp hm XF)
          have cg7:=ye.c
          have e7:=ye.2.1.c2
          go_upto_region 10 with fail
          have cD:=ae (dR pb s (p) true 125 false w7 ye.2.1 (rfl))
          have XE:=ye.c
          go_upto_region 11 with (go_at_call 160; refine cD.mono ?_; rintro e wz ⟨rfl,hp,hm⟩; have uS:=ae (ye.step hp hm); clear hp hm XE)
          clear cD
          have cgz:=uS.c
          have fz:=uS.2.1.free 2
          have ez:=uS.2.1.c2
          go_wp2_with fail
          refine bodyPost_end (results_none rfl _ _ _) rfl ?_
          have hy:gq T A s i = .fault (p):=by rw [AG,Hv,oZ,Yo]
          rw [hy]
          exact ⟨rfl,uS.fail.2.2,uS.fail.2.1⟩
         | ok hi m =>
          have Yo:=ae OX
          clear OX
          have vE:=kX pb s (k1) w6 q9.2.1
          unfold je aP at vE
          rw [Yo] at vE
          have Hw:Hid (aX ah 201 #[pT pb] w6 fun e w'=>e = .returned (iV (hi:Int))/\bO w' pb s (m) false/\Mod (fun k=>k=pb) w6 w'):=ae (vE.mono fun e w' h=>⟨h.2.2,h.1,h.2.1⟩)
          clear vE
          have XF:=q9.c
          go_upto_region 7 with (go_at_call 201; refine Hw.mono ?_; rintro e w7 ⟨rfl,hp,hm⟩; have ye:=ae (q9.step hp hm); clear hp hm XF)
          clear Hw
          have cg7:=ye.c
          have e7:=ye.2.1.c2
          by_cases hlt:hi < lo
          ·have m1:decide (hi < lo)=true:=by simpa using hlt
           have m2:decide ((hi:Int) < (lo:Int))=true:=by simp; omega
           have f7:=ye.2.1.free 2
           have f8:=ye.2.1.free 1
           have e8:=ye.2.1.c1
           go_upto_region 10 with fail
           obtain ⟨w8,hw8⟩:∃ w8,w8=(w7.setCell (aD pb 2) (.bool true)).setCell (aD pb 1) (iV (k1:Int)):=⟨_,rfl⟩
           have zl:Hid (zq gb pb s w k1 true w8):=ae (by
            rw [hw8]
            exact ye.fail.step (ye.fail.2.1.set q9.2.1.2.1) (Mod.setCell _ _ _ fun _=>rfl))
           rw [<- hw8]
           clear hw8 e7 e8 f7 f8
           have cD:=ae (dR pb s (k1) true 125 false w8 zl.2.1 (rfl))
           have anD:=zl.c
           go_upto_region 11 with (go_at_call 160; refine cD.mono ?_; rintro e wz ⟨rfl,hp,hm⟩; have uS:=ae (zl.step hp hm); clear hp hm anD)
           clear cD
           have cgz:=uS.c
           have fz:=uS.2.1.free 2
           have ez:=uS.2.1.c2
           go_wp2_with fail
           refine bodyPost_end (results_none rfl _ _ _) rfl ?_
           have hy:gq T A s i = .fault (k1):=by rw [AG.out,Hv.out,oZ,Yo.out]; simp only; rw [if_pos hlt]
           rw [hy]
           exact ⟨rfl,uS.fail.2.2,uS.fail.2.1⟩
          ·have m1:decide (hi < lo)=false:=by simpa using hlt
           have m2:decide ((hi:Int) < (lo:Int))=false:=by simp; omega
           go_upto_region 10 with fail
           clear e7
           cases hbc:cH s (m) 125 with
           | true =>
            have Un:=ae hbc
            clear hbc
            have hone:=dR pb s (m) false 125 true w7 ye.2.1 (by rw [Un]; rfl)
            have cD:=ae hone
            clear hone
            have XE:=ye.c
            go_upto_region 11 with (go_at_call 160; refine cD.mono ?_; rintro e wz ⟨rfl,hp,hm⟩; have uS:=ae (ye.step hp hm); clear hp hm XE)
            clear cD
            go_wp2_with fail
            refine bodyPost_end (results_none rfl _ _ _) rfl ?_
            obtain ⟨y,hy⟩:∃ y,gq T A s i = .ok y (m+1):=⟨T a lo hi false,by rw [AG.out,Hv.out,oZ,Yo.out]; simp only; rw [if_neg hlt]; simp only; rw [Un.out,if_pos rfl]⟩
            rw [hy]
            exact ⟨rfl,uS.2.2,uS.2.1⟩
           | false =>
            have Un:=ae hbc
            clear hbc
            have hone:=dR pb s (m) false 125 false w7 ye.2.1 (by rw [Un]; rfl)
            have cD:=ae hone
            clear hone
            have XE:=ye.c
            go_upto_region 11 with (go_at_call 160; refine cD.mono ?_; rintro e wz ⟨rfl,hp,hm⟩; have uS:=ae (ye.step hp hm); clear hp hm XE)
            clear cD
            have cgz:=uS.c
            have fz:=uS.2.1.free 2
            have ez:=uS.2.1.c2
            go_wp2_with fail
            refine bodyPost_end (results_none rfl _ _ _) rfl ?_
            have hy:gq T A s i = .fault (m):=by rw [AG.out,Hv.out,oZ,Yo.out]; simp only; rw [if_neg hlt]; simp only; rw [Un.out,if_neg (by decide)]
            rw [hy]
            exact ⟨rfl,uS.fail.2.2,uS.fail.2.1⟩
def sF(T:dU)(A:Nat->PR bC)(s:ByteArray)(g:Nat)(X:bC->bC):PR bC->PR bC| .fault e=> .fault e| .ok y j=>vC T A s g (X y) j
theorem BQ(T:dU)(s:ByteArray)(n i:Nat):eP T s (n+1) i=sF T (eP T s n) s (s.size+1) id (fU T (eP T s n) s (s.size+1) .empty i):=by unfold eP;cases fU T (eP T s n) s (s.size+1) .empty i<;>rfl
theorem mX{T:dU}{A:Nat->PR bC}{s:ByteArray}{f q:Nat}{x:bC}(h:gY s q=false):fU T A s (f+1) x q= .ok x q:=by unfold fU;rw[if_neg (by rw[h];decide)]
theorem zJ{T:dU}{A:Nat->PR bC}{s:ByteArray}{f q:Nat}{x:bC}(h:gY s q=true):fU T A s (f+1) x q=match gq T A s q with| .fault e=> .fault e| .ok y j=>fU T A s f (x.join y) j:=by rw[fU,if_pos h];cases gq T A s q<;>rfl
theorem zN{T:dU}{A:Nat->PR bC}{s:ByteArray}{g q:Nat}{x:bC}(h:cH s q 124=false):vC T A s (g+1) x q= .ok x q:=by unfold vC;rw[if_neg (by rw[h];decide)]
theorem Dv{T:dU}{A:Nat->PR bC}{s:ByteArray}{g q:Nat}{x:bC}(h:cH s q 124=true):vC T A s (g+1) x q=sF T A s g (.or x) (fU T A s (s.size+1) .empty (q+1)):=by rw[vC,if_pos h];cases fU T A s (s.size+1) .empty (q+1)<;>rfl
def Yy(T:dU)(A:Nat->PR bC)(gb pb:Nat)(s:ByteArray)(w0:ak)(R:PR bC)(q0:Nat)(W:ak):Prop:=∃q bad,zq gb pb s w0 q bad W/\((bad=false/\q0<=q/\∃g X f x,R=sF T A s (g+1) X (fU T A s (f+1) x q)/\s.size<f+1+q/\s.size<g+1+q)\/(bad=true/\R= .fault q))
theorem SS(T:dU)(A:Nat->PR bC)(gb pb:Nat)(s:ByteArray)(i:Nat)(w:ak)(R:PR bC)(hG:Gx w gb pb)(hR:bO w pb s i false)(EK:∀q W,zq gb pb s w q false W->i<=q->q<s.size->aX ah 159 #[pT gb] W (oD gb pb s W (gq T A s q)))(rC:∀q,q<=s.size->(gq T A s q).On s q)(hC:R=sF T A s (s.size+1) id (fU T A s (s.size+1) .empty i)):aX ah 114 #[aP gb] w (oD gb pb s w R):=by
 have HS:Hid (zq gb pb s w i false w):=ae ⟨hG,hR,Mod.refl _ _⟩;have AG:=ae EK;have HON:=ae rC;have HL0:Hid (Yy T A gb pb s w R i w/\True):=ae ⟨⟨i,false,HS,.inl ⟨rfl,au _,s.size,id,s.size,.empty,hC,by omega,by omega⟩⟩,trivial⟩;have hsz:=hR.2.2;unfold aP;go_enter Tryz.func114,Tryz.ntmps114;go_wp2_with fail;go_loopw[2](λ_ wr=>∃q:Nat,Hid (zq gb pb s w q false wr/\i<=q/\∃g X f x,R=sF T A s (g+1) X (fU T A s (f+1) x q)/\s.size<f+1+q/\s.size<g+1+q))(λ_ wr=>Ek s pb wr);case atStart=>
  refine⟨i,ae ?_⟩;obtain⟨⟨q,bad,h1,h3⟩,_⟩:=HL0.out;rcases h3 with⟨rfl,h2,h3⟩|⟨rfl,_⟩;·
   have e:q=i:=by have e1:=h1.2.1.1.symm.trans HS.2.1.1;simp at e1;omega
   subst e;exact⟨h1,au _,h3⟩
  ·have e1:=h1.2.1.1.symm.trans HS.2.1.1;simp at e1
 case round=>as_aux_lemma=>
  obtain⟨q0,HO⟩:=hrel;have hleft:=HO.1.2.1.left;obtain⟨Wo,hWo⟩:∃Wo,Wo=wr:=⟨_,rfl⟩;rw[<-hWo]at hleft;have AH:=ae hleft;have HI0:Hid (Yy T A gb pb s w R q0 wr/\i<=q0):=ae ⟨⟨q0,false,HO.1,.inl ⟨rfl,au _,HO.2.2⟩⟩,HO.2.1⟩;rw[<-hWo]at HI0⊢;go_wp2_with fail;go_loopw[3](λ_ wr=>Hid (Yy T A gb pb s w R q0 wr/\i<=q0))(λ_ wr=>Ek s pb wr);case atStart=>exact HI0
  case round=>
   obtain⟨⟨q,bad,hat,LH⟩,hiq⟩:=hrel.out;have HA:=ae (show _/\_ from⟨hat,hiq⟩);have cg:=hat.c;have c0:=hat.2.1.c0;have c1:=hat.2.1.c1;have c2:=hat.2.1.c2;have hl2:=hat.2.1.left;obtain⟨Wi,OT⟩:∃Wi,Wi=wr:=⟨_,rfl⟩;subst OT;have HL2:=ae hl2;rcases LH with⟨rfl,hqq,g,X,f,x,hR,hf,hg⟩|⟨rfl,hR⟩;·
    have HQQ:=ae hqq;by_cases hlt:q<s.size;·
     obtain⟨c,hc⟩:∃c,s.data.toList[q]?=some c:=⟨_,iP s q hlt⟩;obtain⟨cn,hcn⟩:∃cn,c.toNat=cn:=⟨_,rfl⟩;have n1:decide ((q:Int)<(s.size:Int))=true:=by simp;omega
     have aaL:∀h,((s[q]'h).toNat:Int)=(cn:Int):=λh=>by
      have e:s[q]=c:=by have h1:=iP s q hlt;rw[hc]at h1;exact(aJ h1).symm
      rw[e,hcn]
     have z1:(0:Int)<=(q:Int)/\(q:Int)<(s.size:Int):=by omega
     by_cases tq:c=124;·
      have hb:cH s q 124=true:=by rw[jD hc,decide_eq_true tq]
      have aeP:cn=124:=by rw[<-hcn,tq];rfl
      have MF:=ae hb;have zm:Hid (R=sF T A s (g+1) X (.ok x q)):=ae (by rw[hR,mX (by unfold gY;rw[hb];simp)]);subst aeP;go_upto_region 0 with fail;go_quiet(fail);go_upto_region 2 with fail;obtain⟨wa,oL⟩:∃wa,wa=Wi.drewN nq:=⟨_,rfl⟩;have mR:Hid (zq gb pb s w q false wa):=ae (by rw[oL];exact HA.1.same (Same.drewN _ _));rw[<-oL];clear oL cg c0 c1 c2;have hone:=dR pb s (q) false 124 true wa mR.2.1 (by rw[MF];rfl);have cD:=ae hone;have cga:=mR.c;go_wp2_with(go_at_call 160;refine cD.mono ?_;rintro e wb⟨rfl,hp,hm⟩;have kq:=ae (mR.step hp hm);clear hp hm cga);clear cD;refine⟨⟨q+1,ae ⟨kq.out,by have:=HQQ.out;have:=HA.2;omega,g-1,.or (X x),s.size,.empty,?_,by omega,by omega⟩⟩,?_⟩;·rw[zm];show vC T A s (g+1) (X x) q=_;rw[Dv MF,show g-1+1=g by omega]
      ·have h1:=kq.2.1.left;have h2:=AH.out;have h3:=HQQ.out;simp at h1 h2;omega
     ·have hb:cH s q 124=false:=by rw[jD hc,decide_eq_false tq]
      have n124:cn≠124:=λe=>tq (UInt8.toNat_inj.1 (by rw[hcn,e];rfl));have m1:((cn:Int)!=124)=true:=by rw[bne_iff_ne];omega
      have MF:=ae hb;by_cases sB:c=41;·
       have hb2:cH s q 41=true:=by rw[jD hc,decide_eq_true sB]
       have e41:cn=41:=by rw[<-hcn,sB];rfl
       have zm:Hid (R=sF T A s (g+1) X (.ok x q)):=ae (by rw[hR,mX (by unfold gY;rw[hb2];simp)]);clear hR;clear hb hb2 tq sB hc hcn n124 m1;subst e41;go_upto_region 0 with fail;go_quiet(fail);go_upto_region 2 with fail;obtain⟨wa,oL⟩:∃wa,wa=Wi.drewN nq:=⟨_,rfl⟩;have mR:Hid (zq gb pb s w q false wa):=ae (by rw[oL];exact HA.1.same (Same.drewN _ _));rw[<-oL];clear oL cg c0 c1 c2;have hone:=dR pb s (q) false 124 false wa mR.2.1 (by rw[MF];rfl);have cD:=ae hone;clear hone;have cga:=mR.c;go_wp2_with(go_at_call 160;refine cD.mono ?_;rintro e wb⟨rfl,hp,hm⟩;have kq:=ae (mR.step hp hm);clear hp hm cga);clear cD;refine bodyPost_ret (results_none rfl _ _ _) rfl ?_;have hy:R= .ok (X x) q:=by rw[zm];show vC T A s (g+1) (X x) q=_;rw[zN MF]
       rw[hy];exact⟨rfl,kq.2.2,kq.2.1⟩
      ·have hb2:cH s q 41=false:=by rw[jD hc,decide_eq_false sB]
       have n41:cn≠41:=λe=>sB (UInt8.toNat_inj.1 (by rw[hcn,e];rfl));have m2:((cn:Int)!=41)=true:=by rw[bne_iff_ne];omega
       have LB:gY s q=true:=by unfold gY;rw[hb,hb2,decide_eq_true hlt];rfl
       rw[zJ LB]at hR;have Fw:=ae hR;clear hb hb2 tq sB hc hcn hR LB;go_upto_region 0 with fail;go_quiet(fail);go_upto_region 1 with fail;obtain⟨wa,oL⟩:∃wa,wa=Wi.drewN nq:=⟨_,rfl⟩;have mR:Hid (zq gb pb s w q false wa):=ae (by rw[oL];exact HA.1.same (Same.drewN _ _));rw[<-oL];clear oL cg c0 c1 c2;have hrp:=AG.out q wa mR.out (by have:=HQQ.out;have:=HA.2;omega) hlt;have rC:=HON q (ij hlt);unfold oD at hrp;obtain⟨S1,hS1⟩:∃r,gq T A s q=r:=⟨_,rfl⟩;rw[hS1]at hrp rC;have kL:=ae hS1;clear hS1;cases S1 with
        |fault p=>
         have HRP:=ae hrp;clear hrp rC;go_wp2_with(go_at_call 159;refine HRP.mono ?_;rintro e wb⟨rfl,hm,hp⟩;have kq:=ae (mR.step hp hm);clear hp hm);refine⟨ae ⟨⟨p,true,kq,.inr ⟨rfl,?_⟩⟩,HA.2⟩,?_⟩;·rw[Fw,kL];rfl
         ·have h1:=kq.2.1.left;have h2:=HL2.out;simp at h1 h2;omega|ok y j=>
         have HJ:=ae (show q<j/\j<=s.size from rC);have HRP:=ae hrp;clear hrp rC;go_wp2_with(go_at_call 159;refine HRP.mono ?_;rintro e wb⟨rfl,hm,hp⟩;have kq:=ae (mR.step hp hm);clear hp hm);have hj:=HJ.out;refine⟨ae ⟨⟨j,false,kq.out,.inl ⟨rfl,by have:=HQQ.out;omega,g,X,f-1,x.join y,?_,by omega,by omega⟩⟩,HA.2⟩,?_⟩;·rw[Fw,kL,show f-1+1=f by omega]
         ·have h1:=kq.2.1.left;have h2:=HL2.out;simp at h1 h2;omega
    ·have n1:decide ((q:Int)<(s.size:Int))=false:=by simp;omega
     have hb:cH s q 124=false:=by unfold cH;rw[at_end s q (by omega)];simp
     have MF:=ae hb;have zm:Hid (R=sF T A s (g+1) X (.ok x q)):=ae (by rw[hR,mX (by unfold gY;rw[decide_eq_false hlt];rfl)]);clear hR;clear hb;go_upto_region 0 with fail;go_quiet(fail);go_upto_region 2 with fail;obtain⟨wa,oL⟩:∃wa,wa=Wi.drewN nq:=⟨_,rfl⟩;have mR:Hid (zq gb pb s w q false wa):=ae (by rw[oL];exact HA.1.same (Same.drewN _ _));rw[<-oL];clear oL cg c0 c1 c2;have hone:=dR pb s (q) false 124 false wa mR.2.1 (by rw[MF];rfl);have cD:=ae hone;clear hone;have cga:=mR.c;go_wp2_with(go_at_call 160;refine cD.mono ?_;rintro e wb⟨rfl,hp,hm⟩;have kq:=ae (mR.step hp hm);clear hp hm cga);clear cD;refine bodyPost_ret (results_none rfl _ _ _) rfl ?_;have hy:R= .ok (X x) q:=by rw[zm];show vC T A s (g+1) (X x) q=_;rw[zN MF]
     rw[hy];exact⟨rfl,kq.2.2,kq.2.1⟩
   ·have HRF:=ae hR;clear hR;go_upto_region 0 with fail;go_quiet(fail);go_upto_region 2 with fail;obtain⟨wa,oL⟩:∃wa,wa=Wi.drewN nq:=⟨_,rfl⟩;have mR:Hid (zq gb pb s w q true wa):=ae (by rw[oL];exact HA.1.same (Same.drewN _ _));rw[<-oL];clear oL cg c0 c1 c2;have cD:=ae (dR pb s (q) true 124 false wa mR.2.1 (rfl));have cga:=mR.c;go_wp2_with(go_at_call 160;refine cD.mono ?_;rintro e wb⟨rfl,hp,hm⟩;have kq:=ae (mR.step hp hm);clear hp hm cga);clear cD;refine bodyPost_ret (results_none rfl _ _ _) rfl ?_;rw[HRF];exact⟨rfl,kq.2.2,kq.2.1⟩
theorem ET(T:dU)(gb pb:Nat)(s:ByteArray):∀(n i:Nat)(w:ak),Gx w gb pb->bO w pb s i false->s.size<n+i->aX ah 114 #[aP gb] w (oD gb pb s w (eP T s n i))|0,i,w,hG,hR,hn=>absurd hR.2.1 (by omega)|n+1,i,w,hG,hR,hn=>SS T (eP T s n) gb pb s i w (eP T s (n+1) i) hG hR (λq W hat hiq hq=>Xn T (eP T s n) gb pb s q W hat.1 hat.2.1 λW2 h2=>Hh (eP T s n) gb pb s q W2 h2.1 h2.2.1 λW3 h3=>ET T gb pb s n (q+1) W3 h3.1 h3.2.1 (by omega)) (λq hq=>Bj T (eP T s n) s q hq λj _ hj=>nA T s n j hj) (BQ T s n i)
section
variable{e:bC}(hn:e.count<=128)
include hn
theorem wS(k k':Nat)(hk:k'<192):(PM.compile e).Ak k k'↔if k=128 then e.fst 0 k' else e.xA 0 k k':=by
 have ka:=jR e PM.zero PM.dL (by show 0+_<=128;omega);have ha:=Bl e PM.zero PM.dL (by show 0+_<=128;omega);have hz:PM.zero.n=0:=rfl;have hlt:(128:Nat)<(PM.part e PM.zero).1.follow.length:=by rw[ka.jZ.lf];decide
 show((PM.part e .zero).1.gB 128 (PM.part e .zero).2.first).Ak k k'↔_;rw[PM.Qu hlt];by_cases h:k=128;·rw[if_pos h,if_pos h];exact ha.first k' hk
 ·rw[if_neg h,if_neg h,ha.Ak k k' hk];simp[UY,hz]
theorem xY(k:Nat)(c:UInt8)(hk:k<192):(PM.compile e).takes k c↔e.yD 0 k c:=by have ha:=Bl e PM.zero PM.dL (by show 0+_<=128;omega);have hz:PM.zero.n=0:=rfl;show(PM.part e .zero).1.takes k c↔_;rw[ha.takes k c hk];simp[M9,hz]
theorem uw(k:Nat)(hk:k<192):(PM.compile e).last.mem k=true↔e.uh 0 k\/(k=128/\e.qH=true):=by have ha:=Bl e PM.zero PM.dL (by show 0+_<=128;omega);have hz:PM.zero.n=0:=rfl;show(if(PM.part e .zero).2.none then(PM.part e .zero).2.last.on 128 else(PM.part e .zero).2.last).mem k=true↔_;rw[ha.none];cases e.qH with|true=>simp only[if_true];rw[aH.wG _ _ _ (by decide) hk,Bool.or_eq_true,decide_eq_true_iff,ha.last k hk,hz];simp[or_comm]|false=>simp only[jP,if_false,and_false,or_false];exact ha.last k hk
theorem Kn(s:aH)(b:UInt8)(k:Nat)(hk:k<192):((PM.compile e).step s b.toNat).mem k=true↔e.yD 0 k b/\((s.mem 128=true/\e.fst 0 k)\/∃j,j<e.count/\s.mem j=true/\e.xA 0 j k):=by
 rw[PM.VN,xY hn k b hk,And.comm];refine and_congr_right λ_=>?_;constructor;·
  rintro⟨j,hj,hf⟩;obtain⟨hj1,hj2⟩:=(aH.fO s j).1 hj;rw[wS hn j k hk]at hf;by_cases h:j=128;·rw[if_pos h]at hf;exact .inl ⟨h▸hj2,hf⟩
  ·rw[if_neg h]at hf;have:=e.adq hf;exact .inr ⟨j,by omega,hj2,hf⟩
 ·rintro(⟨h1,h2⟩|⟨j,hj,h1,h2⟩);·exact⟨128,(aH.fO s 128).2 ⟨by decide,h1⟩,by rw[wS hn 128 k hk,if_pos rfl];exact h2⟩
  ·exact⟨j,(aH.fO s j).2 ⟨by omega,h1⟩,by rw[wS hn j k hk,if_neg (by omega)];exact h2⟩
theorem Io(s:aH)(b:UInt8)(k:Nat)(hk:k<192)(h:((PM.compile e).step s b.toNat).mem k=true):k<e.count:=by have:=((Kn hn s b k hk).1 h).1;have:=e.Be this;omega
end
def flagsOf(c:Nat)(s:aH):List Bool:=(List.range c).map s.mem++[s.mem 128]
theorem kW(c:Nat)(s:aH):(flagsOf c s).length=c+1:=by unfold flagsOf;simp
theorem qU(c:Nat)(s:aH){k:Nat}(hk:k<c):(flagsOf c s).getD k false=s.mem k:=by unfold flagsOf;rw[aw,dF (by simpa using hk)];simp[hk]
theorem nr(c:Nat)(s:aH):(flagsOf c s).getD c false=s.mem 128:=by unfold flagsOf;rw[aw,gA (by simp)];simp
def Inside(c:Nat)(s:aH):Prop:=s.ok/\∀k,k<192->s.mem k=true->k<c\/k=128
theorem LO{c:Nat}(hc:c<=128){s t:aH}(hs:Inside c s)(ht:Inside c t)(h:flagsOf c s=flagsOf c t):s=t:=by
 refine aH.ext hs.1 ht.1 λk hk=>?_;by_cases h1:k<c;·rw[<-qU c s h1,<-qU c t h1,h]
 ·by_cases h2:k=128;·rw[h2,<-nr c s,<-nr c t,h]
  ·have e1:s.mem k=false:=by cases e:s.mem k with|false=>rfl|true=>rcases hs.2 k hk e with h|h<;>omega
   have e2:t.mem k=false:=by cases e:t.mem k with|false=>rfl|true=>rcases ht.2 k hk e with h|h<;>omega
   rw[e1,e2]
theorem BN(k:Nat)(hk:k<192):bN.mem k=true↔k=128:=by have:=Mm k;rw[aH.fO]at this;simpa[hk]using this
theorem JB(c:Nat):Inside c bN:=⟨CR,λk hk h=> .inr ((BN k hk).1 h)⟩
theorem Ck{e:bC}(hn:e.count<=128)(s:aH)(b:UInt8):Inside e.count ((PM.compile e).step s b.toNat):=⟨PM.IP (ot e hn) s _,λk hk h=> .inl (Io hn s b k hk h)⟩
theorem Od{e:bC}(hn:e.count<=128){s:aH}(h:sI (PM.compile e) s):Inside e.count s:=by cases h with
 |start=>exact JB _|step s c _ hc _=>
  have:=Ck hn s (cS c);have e1:(cS c).toNat=c:=by simp;omega
  rwa[e1]at this
theorem LN(c:Nat)(hc:c<=128):flagsOf c bN=aQ c false++[true]:=by
 unfold flagsOf;have h1:(List.range c).map bN.mem=aQ c false:=by rw[List.eq_replicate_iff];refine⟨by simp,λb hb=>?_⟩;obtain⟨k,hk,rfl⟩:=List.mem_map.1 hb;have hk':=List.mem_range.1 hk;cases h:bN.mem k with|false=>rfl|true=>exact absurd ((BN k (by omega)).1 h) (by omega)
 have h2:bN.mem 128=true:=(BN 128 (by decide)).2 rfl;rw[h1,h2]
theorem Jq{e:bC}(hn:e.count<=128){s:aH}(hs:s.ok):(PM.compile e).ends s=true↔(s.mem 128=true/\e.qH=true)\/∃k,k<e.count/\s.mem k=true/\e.uh 0 k:=by
 have hM:=ot e hn;have h0:(PM.compile e).ends s=true↔∃k,k<192/\s.mem k=true/\(PM.compile e).last.mem k=true:=by
  unfold PM.ends;rw[afP,decide_eq_false_iff_not];constructor;·
   intro h;rcases aH.zero_or (aH.VH hs hM.ol)with h1|⟨k,hk,h1⟩;·exact absurd h1 h
   ·rw[aH.Dw,cR]at h1;exact⟨k,hk,h1.1,h1.2⟩
  ·rintro⟨k,hk,h1,h3⟩h;have h2:=aH.jC k;rw[<-h,aH.Dw,h1,h3]at h2;cases h2
 rw[h0];constructor;·
  rintro⟨k,hk,h1,h2⟩;rcases(uw hn k hk).1 h2 with h|⟨rfl,h⟩;·have:=e.yM h;exact .inr ⟨k,by omega,h1,h⟩
  ·exact .inl ⟨h1,h⟩
 ·rintro(⟨h1,h2⟩|⟨k,hk,h1,h2⟩);·exact⟨128,by decide,h1,(uw hn 128 (by decide)).2 (.inr ⟨rfl,h2⟩)⟩
  ·exact⟨k,by omega,h1,(uw hn k (by omega)).2 (.inl h2)⟩
theorem Rp{e:bC}(hn:e.count<=128)(s:aH)(b:UInt8):(PM.compile e).step s b.toNat≠aH.zero↔∃k,k<e.count/\((PM.compile e).step s b.toNat).mem k=true:=by
 constructor;·
  intro h;rcases aH.zero_or (PM.IP (ot e hn) s b.toNat)with h1|⟨k,hk,h1⟩;·exact absurd h1 h
  ·exact⟨k,Io hn s b k hk h1,h1⟩
 ·rintro⟨k,hk,h1⟩h;rw[h,aH.jC]at h1;cases h1
theorem O0{c:Nat}{s:aH}{m:List Bool}(hl:m.length=c+1)(h:∀k,k<c->(m.getD k false=true↔s.mem k=true))(h2:m.getD c false=s.mem 128):m=flagsOf c s:=by
 apply agx (by rw[hl,kW]);intro i h3 h4;have e1:∀(l:List Bool)(hi:i<l.length),l[i]=l.getD i false:=λl hi=>by rw[aw,ar hi];rfl
 rw[e1 _ h3,e1 _ h4];by_cases hi:i<c;·rw[qU c s hi,jf];exact h i hi
 ·obtain rfl:i=c:=by omega
  rw[nr,h2]
def uQ(e:bC)(b d:Nat):Prop:=∀k,k<e.count->(e.yD 0 k (cS b)↔e.yD 0 k (cS d))
theorem ofNat_toNat{b:Nat}(hb:b<256):(cS b).toNat=b:=by simp;omega
theorem VG{M:PM}(hM:M.ok)(b:Nat):(M.za b).ok:=by unfold PM.za;rw[aw];cases h:M.at'[b]? with|none=>exact aH.dL|some s=>exact hM.oa s (List.mem_of_getElem? h)
theorem G5{e:bC}(hn:e.count<=128){b d:Nat}(hb:b<256)(hd:d<256):uQ e b d↔(PM.compile e).za b=(PM.compile e).za d:=by
 have ht:∀k c,k<192->c<256->(((PM.compile e).za c).mem k=true↔e.yD 0 k (cS c)):=λk c hk hc=>by have:=xY hn k (cS c) hk;unfold PM.takes at this;rwa[ofNat_toNat hc]at this
 constructor;·
  intro h;refine aH.ext (VG (ot e hn) b) (VG (ot e hn) d) λk hk=>?_;rw[jf,ht k b hk hb,ht k d hk hd];by_cases hc:k<e.count;·exact h k hc
  ·constructor;·intro h;have:=e.Be h;omega
   ·intro h;have:=e.Be h;omega
 ·intro h k hk;rw[<-ht k b (by omega) hb,<-ht k d (by omega) hd,h]
theorem ED{e:bC}(hn:e.count<=128){b:Nat}(hb:b<256):(∃d∈(PM.compile e).dD b,uQ e d b)↔(get ((PM.compile e).fP b) ((PM.compile e).za b)).isSome=true:=by
 constructor;·rintro⟨d,hd,hl⟩;obtain⟨p,hp,rfl⟩:=List.mem_map.1 hd;obtain⟨h1,h2⟩:=tE (PM.compile e) b p hp;have:=(G5 hn (by omega) hb).1 hl;obtain⟨k,hk⟩:=BR (PM.compile e) b p.2 h2;rw[<-this,hk];rfl
 ·intro h;obtain⟨k,hk⟩:=Option.isSome_iff_exists.1 h;have hm:=dX hk;obtain⟨h1,h2⟩:=tE (PM.compile e) b _ hm;exact⟨k,List.mem_map.2 ⟨_,hm,rfl⟩,(G5 hn (by simp at h2;omega) hb).2 h1.symm⟩
theorem I2{e:bC}(hn:e.count<=128){b:Nat}(hb:b<256)(h:∃d∈(PM.compile e).dD b,uQ e d b):(PM.compile e).dD (b+1)=(PM.compile e).dD b:=by have h2:=(ED hn hb).1 h;unfold PM.dD;rw[PM.fP,if_pos h2]
theorem Ll{e:bC}(hn:e.count<=128){b:Nat}(hb:b<256)(h:¬∃d∈(PM.compile e).dD b,uQ e d b):(PM.compile e).dD (b+1)=(PM.compile e).dD b++[b]:=by have h2:=λk=>h ((ED hn hb).2 k);unfold PM.dD;rw[PM.fP,if_neg h2];simp
def norm:bC->bC| .empty=> .empty| .iW=> .iW| .one s=> .one s| .or a b=> .or (norm a) (norm b)| .seq a b=>(norm a).join (norm b)| .many a sm=> .many (norm a) sm| .maybe a=> .maybe (norm a)
theorem qK(a:bC):a.join .empty=a:=by cases a<;>rfl
theorem oo(a:bC):bC.empty.join a=a:=by cases a<;>rfl
theorem wJ{a b:bC}(ha:a≠ .empty)(hb:b≠ .empty):a.join b= .seq a b:=by cases a<;>cases b<;>first|rfl|exact absurd rfl ha|exact absurd rfl hb
theorem or_zero(s:aH):s.or .zero=s:=by cases s;simp[aH.or,aH.zero]
theorem zero_or(s:aH):aH.zero.or s=s:=by cases s;simp[aH.or,aH.zero]
theorem Na:aH.zero.elems=[]:=by rw[List.eq_nil_iff_forall_not_mem];intro k hk;have:=((aH.fO _ k).1 hk).2;rw[aH.jC]at this;cases this
theorem Ve{α:Type}(l:List α)(k:Nat)(d:α):l.set k (l.getD k d)=l:=by
 apply List.ext_getElem?;intro i;rw[List.getElem?_set];split;·
  subst_vars;split;·rename_i h;rw[aw,ar h];rfl
  ·rename_i h;exact(iI (by omega)).symm
 ·rfl
theorem Sa(l:List Nat)(M:PM):M.link l .zero=M:=by unfold PM.link;induction l with
 |nil=>rfl|cons k l ih=>
  rw[List.foldl_cons];have:M.mY .zero k=M:=by unfold PM.mY PM.gB;rw[or_zero,Ve]
  rw[this];exact ih
theorem jB:∀(y:bC)(M:PM),PM.part (norm y) M=PM.part y M
 | .empty,M=>rfl| .iW,M=>rfl| .one s,M=>rfl| .or a b,M=>by show PM.part (.or (norm a) (norm b)) M=_;simp only[PM.part,jB a,jB b]| .many a sm,M=>by show PM.part (.many (norm a) sm) M=_;simp only[PM.part,jB a]| .maybe a,M=>by show PM.part (.maybe (norm a)) M=_;simp only[PM.part,jB a]| .seq a b,M=>by
  show PM.part ((norm a).join (norm b)) M=_;by_cases ha:norm a= .empty;·
   rw[ha,oo,jB b M];have h1:PM.part a M=(M,⟨.zero,.zero,true⟩):=by rw[<-jB a M,ha];rfl
   rw[PM.part,h1];simp only[Na,Part.seq,zero_or,or_zero,gP,if_true];show _=((PM.part b M).1.link [] (PM.part b M).2.first,_);simp only[PM.link,List.foldl_nil,ite_self]
  ·by_cases hb:norm b= .empty;·
    rw[hb,qK,jB a M];have h1:∀M,PM.part b M=(M,⟨.zero,.zero,true⟩):=λM=>by rw[<-jB b M,hb];rfl
    rw[PM.part,h1];simp only[Part.seq,zero_or,or_zero,Bool.and_true,if_true,ite_self,Sa]
   ·rw[wJ ha hb];simp only[PM.part,jB a,jB b]
theorem Jp(y:bC):PM.compile (norm y)=PM.compile y:=by unfold PM.compile;rw[jB]
theorem uk(a b:bC):(a.join b).count=a.count+b.count:=by
 by_cases ha:a= .empty;·subst ha;rw[oo];simp[bC.count]
 ·by_cases hb:b= .empty;·subst hb;rw[qK];simp[bC.count]
  ·rw[wJ ha hb];rfl
theorem mJ:∀y:bC,(norm y).count=y.count| .empty=>rfl| .iW=>rfl| .one s=>rfl| .or a b=>by show(norm a).count+(norm b).count=a.count+b.count;rw[mJ a,mJ b]| .seq a b=>by show((norm a).join (norm b)).count=a.count+b.count;rw[uk,mJ a,mJ b]| .many a sm=>mJ a| .maybe a=>mJ a
theorem Sm(a b:bC)(t:List UInt8):(a.join b).rB t↔(bC.seq a b).rB t:=by
 by_cases ha:a= .empty;·
  subst ha;rw[oo];constructor;·exactλh=>⟨[],t,rfl,rfl,h⟩
  ·rintro⟨u,v,rfl,h1,h2⟩;have h1':u=[]:=h1;subst h1';exact h2
 ·by_cases hb:b= .empty;·
   subst hb;rw[qK];constructor;·exactλh=>⟨t,[],by simp,h,rfl⟩
   ·rintro⟨u,v,rfl,h1,h2⟩;have h2':v=[]:=h2;subst h2';rw[gv];exact h1
  ·rw[wJ ha hb]
theorem kx:∀(y:bC)(t:List UInt8),(norm y).rB t↔y.rB t
 | .empty,t=>FR| .iW,t=>FR| .one s,t=>FR| .or a b,t=>or_congr (kx a t) (kx b t)| .maybe a,t=>or_congr FR (kx a t)| .many a sm,t=>by
  constructor;·rintro⟨l,h1,h2,h3⟩;exact⟨l,h1,λu hu=>(kx a u).1 (h2 u hu),h3⟩
  ·rintro⟨l,h1,h2,h3⟩;exact⟨l,h1,λu hu=>(kx a u).2 (h2 u hu),h3⟩| .seq a b,t=>by
  show((norm a).join (norm b)).rB t↔_;rw[Sm];constructor;·rintro⟨u,v,h,h1,h2⟩;exact⟨u,v,h,(kx a u).1 h1,(kx b v).1 h2⟩
  ·rintro⟨u,v,h,h1,h2⟩;exact⟨u,v,h,(kx a u).2 h1,(kx b v).2 h2⟩
def full:bC->Prop| .seq a b=>a≠ .empty/\full a/\full b| .or a b=>full a/\full b| .many a _=>full a| .maybe a=>full a|_=>True
def fX:bC->Prop| .iW=>False| .seq a b=>fX a/\fX b| .or a b=>fX a/\fX b| .many a _=>fX a| .maybe a=>fX a|_=>True
theorem xf{a b:bC}:fX (a.join b)↔fX a/\fX b:=by
 by_cases ha:a= .empty;·subst ha;rw[oo];exact⟨λh=>⟨trivial,h⟩,λh=>h.2⟩
 ·by_cases hb:b= .empty;·subst hb;rw[qK];exact⟨λh=>⟨h,trivial⟩,λh=>h.1⟩
  ·rw[wJ ha hb];exact FR
theorem KF{T:dU}{A:Nat->PR bC}{s:ByteArray}:∀{f:Nat}{x z:bC}{q j:Nat},fU T A s f x q= .ok z j->fX z->fX x|0,_,_,_,_,h,_=>by cases h|f+1,x,z,q,j,h,hz=>by cases hm:gY s q with|false=>rw[mX hm]at h;cases h;exact hz|true=>rw[zJ hm]at h;cases hr:gq T A s q with|fault e=>rw[hr]at h;cases h|ok y k=>rw[hr]at h;exact(xf.1 (KF h hz)).1
def iA(pb:Nat)(s:ByteArray)(w:ak)(x:bC)(j:Nat)(e:rY)(w':ak):Prop:=∃nb y,e= .returned (aP nb)/\bu w' y nb/\norm y=x/\full y/\bO w' pb s j false/\Mod (λk=>k=pb) w w'
theorem bu.mod{w w':ak}{pb:Nat}{s:ByteArray}{q:Nat}{bad:Bool}(hp:bO w pb s q bad)(hm:Mod (λk=>k=pb) w w'):∀{x:bC}{nb:Nat},bu w x nb->bu w' x nb| .empty,nb,h=>bP.old h (hm.block nb (bP.lt h) (hp.ne h))| .iW,_,h=>h.elim| .one s,nb,⟨hs,h1,h2⟩=>⟨hs,h1.old (hm.block nb h1.lt (hp.ne h1)),h2⟩| .seq x y,nb,⟨hs,a,b,h1,h2,h3⟩=>⟨hs,a,b,h1.old (hm.block nb h1.lt (hp.ne h1)),bu.mod hp hm h2,bu.mod hp hm h3⟩| .or x y,nb,⟨hs,a,b,h1,h2,h3⟩=>⟨hs,a,b,h1.old (hm.block nb h1.lt (hp.ne h1)),bu.mod hp hm h2,bu.mod hp hm h3⟩| .many x sm,nb,⟨hs,a,h1,h2⟩=>⟨hs,a,h1.old (hm.block nb h1.lt (hp.ne h1)),bu.mod hp hm h2⟩| .maybe x,nb,⟨hs,a,h1,h2⟩=>⟨hs,a,h1.old (hm.block nb h1.lt (hp.ne h1)),bu.mod hp hm h2⟩
def QL(T:dU)(A:Nat->PR bC)(pb:Nat)(s:ByteArray)(w0:ak)(i:Nat)(x:bC)(j nb:Nat)(W:ak):Prop:=∃q y f,bO W pb s q false/\bu W y nb/\full y/\Mod (λk=>k=pb) w0 W/\i<=q/\fU T A s (f+1) (norm y) q= .ok x j/\s.size<f+1+q
theorem Vh(T:dU)(A:Nat->PR bC)(pb:Nat)(s:ByteArray)(i:Nat)(w:ak)(x:bC)(j:Nat)(hR:bO w pb s i false)(EK:∀q W y k,bO W pb s q false->gq T A s q= .ok y k->fX y->i<=q->aX ah 205 #[pT pb] W (iA pb s W y k))(rC:∀q,q<=s.size->(gq T A s q).On s q)(hS:fU T A s (s.size+1) .empty i= .ok x j)(hx:fX x):aX ah 162 #[aP pb] w (iA pb s w x j):=by
 have AG:=ae EK;have HON:=ae rC;have HX:=ae hx;have hsz:=hR.2.2;obtain⟨W1,hW1⟩:∃W1,W1=w.alloc (.cells jl 138):=⟨_,rfl⟩;have H0:Hid (QL T A pb s w i x j w.heap.size W1):=ae ⟨i,.empty,s.size,by rw[hW1];exact hR.below ((aB _ _).alloc (au _) _),by rw[hW1,Tryz.DX];exact⟨bK,heap_alloc_new _ _⟩,trivial,by rw[hW1];exact Mod.alloc _ _ _,au _,hS,by omega⟩;have tH:=ae hW1;clear hR EK rC hS hx hW1;unfold aP;go_enter Tryz.func162,Tryz.ntmps162;go_upto_region 2 with fail;rw[<-tH];clear tH;go_loopw[3](λnv wr=>∃nb:Nat,nv=pT nb/\Hid (QL T A pb s w i x j nb wr))(λ_ wr=>Ek s pb wr);case atStart=>exact⟨_,rfl,H0⟩
 case round=>as_aux_lemma=>
  clear H0;obtain⟨nb,rfl,HI⟩:=hrel;obtain⟨q,y,f,hp,hn,hfu,hm,hiq,hS,hf⟩:=HI.out;have HA:=ae (show _/\_/\_/\_/\_ from⟨hp,hn,hfu,hm,hiq⟩);have c0:=hp.c0;have c1:=hp.c1;have c2:=hp.c2;have HL2:=ae hp.left;obtain⟨Wi,OT⟩:∃Wi,Wi=wr:=⟨_,rfl⟩;subst OT;clear hp hn hfu hm hiq HI;by_cases hlt:q<s.size;·
   obtain⟨c,hc⟩:∃c,s.data.toList[q]?=some c:=⟨_,iP s q hlt⟩;obtain⟨cn,hcn⟩:∃cn,c.toNat=cn:=⟨_,rfl⟩;have n1:decide ((q:Int)<(s.size:Int))=true:=by simp;omega
   have aaL:∀h,((s[q]'h).toNat:Int)=(cn:Int):=λh=>by
    have e:s[q]=c:=by have h1:=iP s q hlt;rw[hc]at h1;exact(aJ h1).symm
    rw[e,hcn]
   have z1:(0:Int)<=(q:Int)/\(q:Int)<(s.size:Int):=by omega
   by_cases tq:c=124;·
    have hb:cH s q 124=true:=by rw[jD hc,decide_eq_true tq]
    have aeP:cn=124:=by rw[<-hcn,tq];rfl
    have hst:=mX (T:=T) (A:=A) (f:=f) (x:=norm y) (show gY s q=false by unfold gY;rw[hb];simp);rw[hst]at hS;have zm:Hid (norm y=x/\q=j):=ae (by cases hS;exact⟨rfl,rfl⟩);clear hS hst;clear hb tq hc hcn;subst aeP;go_upto_region 2 with fail;go_quiet(fail);go_upto_region 7 with fail;obtain⟨wa,oL⟩:∃wa,wa=Wi.drewN nq:=⟨_,rfl⟩;have mR:Hid (bO wa pb s q false/\bu wa y nb/\Mod (λk=>k=pb) w wa):=ae (by rw[oL];exact⟨HA.1.same (Same.drewN _ _),bu.mod HA.1 (Mod.same (Same.drewN _ _)) HA.2.1,HA.2.2.2.1.trans (Mod.same (Same.drewN _ _))⟩);rw[<-oL];clear oL c0 c1 c2;go_wp2_with fail;go_ret;exact⟨nb,y,rfl,mR.2.1,zm.1,HA.2.2.1,by rw[<-zm.2];exact mR.1,mR.2.2⟩
   ·have hb:cH s q 124=false:=by rw[jD hc,decide_eq_false tq]
    have n124:cn≠124:=λe=>tq (UInt8.toNat_inj.1 (by rw[hcn,e];rfl));have m1:((cn:Int)!=124)=true:=by rw[bne_iff_ne];omega
    by_cases sB:c=41;·
     have hb2:cH s q 41=true:=by rw[jD hc,decide_eq_true sB]
     have e41:cn=41:=by rw[<-hcn,sB];rfl
     have hst:=mX (T:=T) (A:=A) (f:=f) (x:=norm y) (show gY s q=false by unfold gY;rw[hb2];simp);rw[hst]at hS;have zm:Hid (norm y=x/\q=j):=ae (by cases hS;exact⟨rfl,rfl⟩);clear hS hst;clear hb hb2 tq sB hc hcn n124 m1;subst e41;go_upto_region 2 with fail;go_quiet(fail);go_upto_region 7 with fail;obtain⟨wa,oL⟩:∃wa,wa=Wi.drewN nq:=⟨_,rfl⟩;have mR:Hid (bO wa pb s q false/\bu wa y nb/\Mod (λk=>k=pb) w wa):=ae (by rw[oL];exact⟨HA.1.same (Same.drewN _ _),bu.mod HA.1 (Mod.same (Same.drewN _ _)) HA.2.1,HA.2.2.2.1.trans (Mod.same (Same.drewN _ _))⟩);rw[<-oL];clear oL c0 c1 c2;go_wp2_with fail;go_ret;exact⟨nb,y,rfl,mR.2.1,zm.1,HA.2.2.1,by rw[<-zm.2];exact mR.1,mR.2.2⟩
    ·have hb2:cH s q 41=false:=by rw[jD hc,decide_eq_false sB]
     have n41:cn≠41:=λe=>sB (UInt8.toNat_inj.1 (by rw[hcn,e];rfl));have m2:((cn:Int)!=41)=true:=by rw[bne_iff_ne];omega
     have LB:gY s q=true:=by unfold gY;rw[hb,hb2,decide_eq_true hlt];rfl
     rw[zJ LB]at hS;have rC:=HON q (ij hlt);obtain⟨S1,hS1⟩:∃r,gq T A s q=r:=⟨_,rfl⟩;rw[hS1]at hS rC;clear hb hb2 tq sB hc hcn LB;cases S1 with
      |fault p=>cases hS|ok ym k=>
       have Qq:fU T A s f ((norm y).join ym) k= .ok x j:=hS;have hkk:q<k/\k<=s.size:=rC;have Qk:=(xf.1 (KF Qq HX)).2;have pG:=ae (λW h=>AG q W ym k h hS1 Qk HA.2.2.2.2);have PE:=ae (show _/\_ from⟨Qq,hkk⟩);clear hS rC hS1 Qq Qk;go_upto_region 2 with fail;go_quiet(fail);go_upto_region 3 with fail;obtain⟨wa,oL⟩:∃wa,wa=Wi.drewN nq:=⟨_,rfl⟩;have mR:Hid (bO wa pb s q false/\bu wa y nb/\Mod (λk=>k=pb) w wa):=ae (by rw[oL];exact⟨HA.1.same (Same.drewN _ _),bu.mod HA.1 (Mod.same (Same.drewN _ _)) HA.2.1,HA.2.2.2.1.trans (Mod.same (Same.drewN _ _))⟩);rw[<-oL];clear oL c0 c1 c2;have BZ:=ae (pG wa mR.1);go_upto_region 4 with(go_at_call 205;refine BZ.mono ?_;rintro e wb⟨mb,y2,rfl,h1,h2,h3,h4,h5⟩;have kq:=ae (show _/\_/\_/\_/\_ from⟨h1,h2,h3,h4,h5⟩);clear h1 h2 h3 h4 h5;unfold aP);have hnb:=bu.mod mR.1 kq.2.2.2.2 mR.2.1;have hmb:=mR.2.2.trans kq.2.2.2.2;have HNB:=ae (aA hnb hmb);by_cases ZV:y= .empty;·subst ZV;have d0:=hnb.Bg;clear hnb hmb;have wY:Hid (QL T A pb s w i x j mb wb):=ae ⟨k,y2,f-1,kq.2.2.2.1,kq.1,kq.2.2.1,HNB.2,by have:=HA.2.2.2.2;have:=PE.2;omega,by have h1:=PE.1;rw[show f-1+1=f by have:=PE.2;omega,kq.2.1];exact h1,by have:=PE.2;omega⟩;go_wp2_with fail;exact⟨⟨mb,rfl,wY⟩,by have h1:=kq.2.2.2.1.left;have h2:=HL2.out;have h3:=PE.2;simp at h1 h2;omega⟩
       ·obtain⟨kk,d0,ck⟩:=hnb.shape ZV;clear hnb hmb;have HYE:=ae ZV;clear ZV;obtain⟨W2,hW2⟩:∃W2,W2=wb.alloc (.cells (((Tryz.zeroCells138.setIfInBounds 0 (iV 2)).setIfInBounds 257 (pT nb)).setIfInBounds 258 (pT mb)) 138):=⟨_,rfl⟩;have wY:Hid (QL T A pb s w i x j wb.heap.size W2/\bO W2 pb s k false):=ae (by rw[hW2];have hb:=(aB wb.heap.size wb).alloc (au _) (.cells (((Tryz.zeroCells138.setIfInBounds 0 (iV 2)).setIfInBounds 257 (pT nb)).setIfInBounds 258 (pT mb)) 138);refine⟨⟨k,.seq y y2,f-1,kq.2.2.2.1.below hb,⟨dW,nb,mb,xg wb 2 _ _,HNB.1.below hb,kq.1.below hb⟩,⟨HYE.out,HA.2.2.1,kq.2.2.1⟩,HNB.2.trans (Mod.alloc _ _ _),by have:=HA.2.2.2.2;have:=PE.2;omega,?_,by have:=PE.2;omega⟩,kq.2.2.2.1.below hb⟩;have h1:=PE.1;rw[show f-1+1=f by have:=PE.2;omega];show fU T A s f ((norm y).join (norm y2)) k=_;rw[kq.2.1];exact h1);go_wp2_with fail;rw[<-hW2];exact⟨⟨wb.heap.size,rfl,ae wY.1⟩,by have h1:=wY.2.left;have h2:=HL2.out;have h3:=PE.2;simp at h1 h2;omega⟩
  ·have n1:decide ((q:Int)<(s.size:Int))=false:=by simp;omega
   have hst:=mX (T:=T) (A:=A) (f:=f) (x:=norm y) (show gY s q=false by unfold gY;rw[decide_eq_false hlt];rfl);rw[hst]at hS;have zm:Hid (norm y=x/\q=j):=ae (by cases hS;exact⟨rfl,rfl⟩);clear hS hst;go_upto_region 2 with fail;go_quiet(fail);go_upto_region 7 with fail;obtain⟨wa,oL⟩:∃wa,wa=Wi.drewN nq:=⟨_,rfl⟩;have mR:Hid (bO wa pb s q false/\bu wa y nb/\Mod (λk=>k=pb) w wa):=ae (by rw[oL];exact⟨HA.1.same (Same.drewN _ _),bu.mod HA.1 (Mod.same (Same.drewN _ _)) HA.2.1,HA.2.2.2.1.trans (Mod.same (Same.drewN _ _))⟩);rw[<-oL];clear oL c0 c1 c2;go_wp2_with fail;go_ret;exact⟨nb,y,rfl,mR.2.1,zm.1,HA.2.2.1,by rw[<-zm.2];exact mR.1,mR.2.2⟩
theorem IK{T:dU}{A:Nat->PR bC}{s:ByteArray}:∀{f:Nat}{x z:bC}{q j:Nat},vC T A s f x q= .ok z j->fX z->fX x|0,_,_,_,_,h,_=>by cases h|f+1,x,z,q,j,h,hz=>by cases hm:cH s q 124 with|false=>rw[zN hm]at h;cases h;exact hz|true=>rw[Dv hm]at h;cases hr:fU T A s (s.size+1) .empty (q+1)with|fault e=>rw[hr]at h;cases h|ok y k=>rw[hr]at h;exact(IK (f:=f) (x:= .or x y) h hz).1
def X4(T:dU)(A:Nat->PR bC)(pb:Nat)(s:ByteArray)(w0:ak)(i:Nat)(x:bC)(j nb:Nat)(W:ak):Prop:=∃q y g,bO W pb s q false/\bu W y nb/\full y/\Mod (λk=>k=pb) w0 W/\i<=q/\vC T A s (g+1) (norm y) q= .ok x j/\s.size<g+1+q
theorem XW(T:dU)(A:Nat->PR bC)(pb:Nat)(s:ByteArray)(i:Nat)(w:ak)(x:bC)(j:Nat)(hR:bO w pb s i false)(hseq:∀q W y k,bO W pb s q false->fU T A s (s.size+1) .empty q= .ok y k->fX y->i<=q->aX ah 162 #[pT pb] W (iA pb s W y k))(Af:∀q,q<=s.size->(fU T A s (s.size+1) .empty q).Good s q)(hC:sF T A s (s.size+1) id (fU T A s (s.size+1) .empty i)= .ok x j)(hx:fX x):aX ah 116 #[aP pb] w (iA pb s w x j):=by obtain⟨S0,hS0⟩:∃r,fU T A s (s.size+1) .empty i=r:=⟨_,rfl⟩;have hg0:=Af i hR.2.1;rw[hS0]at hC hg0;cases S0 with
 |fault p=>cases hC|ok y0 k0=>
  have hC':=hC;have hk0:=hg0;have hcall:=hseq i w y0 k0 hR hS0 (IK hC' hx) (au _);have pG:=ae hcall;have an0:=ae hseq;have acF:=ae Af;have HX:=ae (aA hx hC');have hsz:=hR.2.2;have HK0:=ae hk0;unfold aP;go_enter Tryz.func116,Tryz.ntmps116;go_upto_region 2 with(go_at_call 162;refine pG.mono ?_;rintro e w1⟨n0,y1,rfl,h1,h2,h3,h4,h5⟩;have kL:Hid (X4 T A pb s w i x j n0 w1):=ae ⟨k0,y1,s.size,h4,h1,h3,h5,HK0.1,by rw[h2];exact HX.2,by omega⟩;unfold aP);go_loopw[3](λnv wr=>∃nb:Nat,nv=pT nb/\Hid (X4 T A pb s w i x j nb wr))(λ_ wr=>Ek s pb wr);case atStart=>exact⟨_,rfl,kL⟩
  case round=>as_aux_lemma=>obtain⟨nb,rfl,HI⟩:=hrel;obtain⟨q,y,g,hp,hn,hfu,hm,hiq,hS,hf⟩:=HI.out;have HA:=ae (show _/\_/\_/\_/\_ from⟨hp,hn,hfu,hm,hiq⟩);have hl2:=hp.left;have HL2:=ae hl2;obtain⟨Wi,OT⟩:∃Wi,Wi=wr:=⟨_,rfl⟩;subst OT;cases hb:cH s q 124 with|false=>rw[zN hb]at hS;have zm:Hid (norm y=x/\q=j):=ae (by cases hS;exact⟨rfl,rfl⟩);have hone:=dR pb s q false 124 false Wi hp (by rw[hb];rfl);have cD:=ae hone;go_wp2_with(go_at_call 160;refine cD.mono ?_;rintro e wa⟨rfl,h1,h2⟩;have mR:=ae (aA h1 h2));go_ret;exact⟨nb,y,rfl,bu.mod HA.1 mR.2 HA.2.1,zm.1,HA.2.2.1,by rw[<-zm.2];exact mR.1,HA.2.2.2.1.trans mR.2⟩|true=>have hlt:=gu hb;rw[Dv hb]at hS;have hgd:=acF (q+1) (by omega);obtain⟨S1,hS1⟩:∃r,fU T A s (s.size+1) .empty (q+1)=r:=⟨_,rfl⟩;rw[hS1]at hS hgd;cases S1 with|fault p=>cases hS|ok ym k=>have Qq:=hS;have hkk:q+1<=k/\k<=s.size:=hgd;have Qk:=(IK Qq HX.1).2;have hcall:=λW h=>an0 (q+1) W ym k h hS1 Qk (by omega);have afC:=ae hcall;have PE:=ae (show _/\_ from⟨Qq,hkk⟩);have hone:=dR pb s q false 124 true Wi hp (by rw[hb];rfl);have cD:=ae hone;go_upto_region 3 with(go_at_call 160;refine cD.mono ?_;rintro e wa⟨rfl,h1,h2⟩;have mR:=ae (aA h1 h2));have hc9:=afC wa mR.1;have BZ:=ae hc9;go_upto_region 4 with(go_at_call 162;refine BZ.mono ?_;rintro e wb⟨mb,y2,rfl,h1,h2,h3,h4,h5⟩;have kq:=ae (show _/\_/\_/\_/\_ from⟨h1,h2,h3,h4,h5⟩);unfold aP);obtain⟨W2,hW2⟩:∃W2,W2=wb.alloc (.cells (((Tryz.zeroCells138.setIfInBounds 0 (iV 3)).setIfInBounds 257 (pT nb)).setIfInBounds 258 (pT mb)) 138):=⟨_,rfl⟩;have wY:Hid (X4 T A pb s w i x j wb.heap.size W2/\bO W2 pb s k false):=ae (by rw[hW2];have hb:=(aB wb.heap.size wb).alloc (au _) (.cells (((Tryz.zeroCells138.setIfInBounds 0 (iV 3)).setIfInBounds 257 (pT nb)).setIfInBounds 258 (pT mb)) 138);have hmm:=mR.2.trans kq.2.2.2.2;refine⟨⟨k,.or y y2,g-1,kq.2.2.2.1.below hb,⟨dW,nb,mb,xg wb 3 _ _,(bu.mod HA.1 hmm HA.2.1).below hb,kq.1.below hb⟩,⟨HA.2.2.1,kq.2.2.1⟩,(HA.2.2.2.1.trans hmm).trans (Mod.alloc _ _ _),by have:=HA.2.2.2.2;have:=PE.2;omega,?_,by have:=PE.2;omega⟩,kq.2.2.2.1.below hb⟩;have h1:=PE.1;rw[show g-1+1=g by omega];show vC T A s g (.or (norm y) (norm y2)) k=_;rw[kq.2.1];exact h1);go_wp2_with fail;rw[<-hW2];exact⟨⟨wb.heap.size,rfl,ae wY.1⟩,by have h1:=wY.2.left;have h2:=HL2.out;have h3:=PE.2;simp at h1 h2;omega⟩
theorem Pq(pb:Nat)(s:ByteArray)(i k:Nat)(x:bC)(w:ak)(hR:bO w pb s i false)(hc:s.data.toList[i]?=some 40)(hcl:cH s k 41=true)(hA:∀W,bO W pb s (i+1) false->aX ah 116 #[pT pb] W (iA pb s W x k)):aX ah 228 #[aP pb] w (iA pb s w x (k+1)):=by
 have his:=iy hc;have c0:=hR.c0;have c1:=hR.c1;have c2:=hR.c2;have n1:decide (s.size<=i)=false:=by simp;omega
 have n2:decide ((i:Int)>=(s.size:Int))=false:=by simp;omega
 have HR:=ae hR;have AK:=ae hc;have HA:=ae hA;have Yq:=ae hcl;clear hR hc hA hcl;unfold aP;go_enter Tryz.func228,Tryz.ntmps228;go_upto_region 1 with fail;go_quiet(fail);go_upto_region 4 with fail;obtain⟨wa,oL⟩:∃wa,wa=w.drewN nq:=⟨_,rfl⟩;have mR:Hid (bO wa pb s i false/\Mod (λk=>k=pb) w wa):=ae (by rw[oL];exact⟨HR.same (Same.drewN _ _),Mod.same (Same.drewN _ _)⟩);rw[<-oL];clear oL c0 c1 c2 n1 n2;have hone:=IM AK wa mR.1;have cD:Hid (aX ah 160 #[pT pb,.int .u8 40] wa λe w'=>e= .returned (.bool true)/\bO w' pb s (i+1) false/\Mod (λk=>k=pb) wa w'):=ae hone;clear hone;go_upto_region 5 with(go_at_call 160;refine cD.mono ?_;rintro e wb⟨rfl,h1,h2⟩;have kq:=ae (aA h1 (mR.2.trans h2));clear h1 h2);have HAL:=ae (HA wb kq.1);go_upto_region 6 with(go_at_call 116;refine HAL.mono ?_;rintro e wc⟨nb,y,rfl,h1,h2,h3,h4,h5⟩;have HSc:=ae (show _/\_/\_/\_/\_ from⟨h1,h2,h3,h4,kq.2.trans h5⟩);clear h1 h2 h3 h4 h5;unfold aP);have hone:=dR pb s k false 41 true wc HSc.2.2.2.1 (by rw[Yq];rfl);have ajv:Hid (aX ah 160 #[pT pb,.int .u8 41] wc λe w'=>e= .returned (.bool true)/\bO w' pb s (k+1) false/\Mod (λk=>k=pb) wc w'):=ae hone;clear hone;go_wp2_with(go_at_call 160;refine ajv.mono ?_;rintro e wd⟨rfl,h1,h2⟩;have HSd:=ae (aA h1 h2);clear h1 h2);go_ret;exact⟨nb,y,rfl,bu.mod HSc.2.2.2.1 HSd.2 HSc.1,HSc.2.1,HSc.2.2.1,HSd.1,HSc.2.2.2.2.trans HSd.2⟩
theorem XS{A:Nat->PR bC}{s:ByteArray}{i j:Nat}{x:bC}(nH:s.data.toList[i]?≠some 40)(h:eY A s i= .ok x j):∃o,x= .one o:=by unfold eY at h;cases hc:s.data.toList[i]? with
 |none=>rw[hc]at h;cases h|some c=>
  rw[hc]at h nH;simp only at h;rw[if_neg (λe=>nH (by rw[e]))]at h;split at h;·cases h;exact⟨_,rfl⟩
  ·split at h;·
    split at h;·cases h
    ·cases h;exact⟨_,rfl⟩
   ·split at h;·cases h
    ·split at h;·cases h
     ·cases h;exact⟨_,rfl⟩
theorem Pr{A:Nat->PR bC}{s:ByteArray}{i j:Nat}{x:bC}(nH:s.data.toList[i]?=some 40)(h:eY A s i= .ok x j):∃k,A (i+1)= .ok x k/\cH s k 41=true/\j=k+1:=by unfold eY at h;rw[nH]at h;simp only at h;rw[if_pos trivial]at h;cases hA:A (i+1)with
 |fault e=>rw[hA]at h;cases h|ok y k=>
  rw[hA]at h;simp only at h;split at h;·cases h;exact⟨k,rfl,by assumption,rfl⟩
  ·cases h
theorem Tw(A:Nat->PR bC)(pb:Nat)(s:ByteArray)(i j:Nat)(x:bC)(w:ak)(hR:bO w pb s i false)(hC:eY A s i= .ok x j)(hA:∀W y k,bO W pb s (i+1) false->A (i+1)= .ok y k->y=x->aX ah 116 #[pT pb] W (iA pb s W y k)):aX ah 228 #[aP pb] w (iA pb s w x j):=by
 by_cases nH:s.data.toList[i]?=some 40;·obtain⟨k,h1,h2,rfl⟩:=Pr nH hC;exact Pq pb s i k x w hR nH h2 λW hW=>hA W x k hW h1 rfl
 ·obtain⟨o,rfl⟩:=XS nH hC;have:=Mq A pb s i w hR nH;rw[hC]at this;refine this.mono ?_;rintro e w'⟨v,rfl,hm,hp,hn⟩;obtain⟨nb,rfl,hy⟩:=hn _ _ rfl;exact⟨nb,.one o,rfl,hy,rfl,trivial,hp,hm⟩
def qZ(x:bC)(W:ak)(e:rY)(w':ak):Prop:=∃nb y,e= .returned (aP nb)/\bu w' y nb/\norm y=x/\full y/\aI W.heap.size W w'
theorem Tz(A:Nat->PR bC)(pb:Nat)(s:ByteArray)(i j q:Nat)(bad:Bool)(x:bC)(W:ak)(hp:bO W pb s q bad)(hi:i<=s.size)(hC:eY A s i= .ok x j)(hA:∀pb' W' y k,bO W' pb' s (i+1) false->A (i+1)= .ok y k->y=x->aX ah 116 #[pT pb'] W' (iA pb' s W' y k)):aX ah 230 #[aP pb,iV (i:Int)] W (qZ x W):=by
 have c0:=hp.c0;obtain⟨W1,hW1⟩:∃W1,W1=W.alloc (.cells #[.string s,iV (i:Int),.bool false] 232):=⟨_,rfl⟩;have hp1:bO W1 W.heap.size s i false:=by rw[hW1];exact⟨heap_alloc_new _ _,hi,hp.2.2⟩
 have hb1:aI W.heap.size W W1:=by rw[hW1];exact(aB _ _).alloc (au _) _
 have hat:=Tw A W.heap.size s i j x W1 hp1 hC (λW' y k h1 h2 h3=>hA _ W' y k h1 h2 h3);unfold aP at hat;have HAT:=ae hat;have HB:=ae hb1;have tH:=ae hW1;clear hat hb1 hp1 hp hC hA hW1;unfold aP;go_enter Tryz.func230,Tryz.ntmps230;go_upto_region 2 with fail;rw[<-tH];clear tH c0;go_wp2_with(go_at_call 228;refine HAT.mono ?_;rintro e w2⟨nb,y,rfl,h1,h2,h3,h4,h5⟩;have HS:=ae (show _/\_/\_/\_ from⟨h1,h2,h3,h5⟩);clear h1 h2 h3 h4 h5;unfold aP);go_ret;refine⟨nb,y,rfl,HS.1,HS.2.1,HS.2.2.1,HB.trans ?_⟩;exact HS.2.2.2.toBelow HB.size λk hk=>by omega
theorem qM{s:ByteArray}{k:Nat}{c d:UInt8}(h:cH s k c=true)(hd:c≠d):cH s k d=false:=by unfold cH at h⊢;rw[decide_eq_true_iff]at h;rw[h,decide_eq_false];exactλe=>hd (aJ e)
theorem JA{T:dU}{s:ByteArray}{a x:bC}{k j:Nat}(h:dY T s a k= .ok x j):(cH s k 123=true/\gQ T s a (k+1)= .ok x j)\/(cH s k 123=false/\((cH s k 42=true/\x= .many a false/\j=k+1)\/(cH s k 42=false/\((cH s k 43=true/\x= .many a true/\j=k+1)\/(cH s k 43=false/\((cH s k 63=true/\x= .maybe a/\j=k+1)\/(cH s k 63=false/\x=a/\j=k))))))):=by unfold dY at h;cases YR:cH s k 42 with|true=>rw[YR,if_pos rfl]at h;cases h;exact .inr ⟨qM YR (by decide),.inl ⟨rfl,rfl,rfl⟩⟩|false=>rw[YR,if_neg (by decide)]at h;cases h43:cH s k 43 with|true=>rw[h43,if_pos rfl]at h;cases h;exact .inr ⟨qM h43 (by decide),.inr ⟨rfl,.inl ⟨rfl,rfl,rfl⟩⟩⟩|false=>rw[h43,if_neg (by decide)]at h;cases h63:cH s k 63 with|true=>rw[h63,if_pos rfl]at h;cases h;exact .inr ⟨qM h63 (by decide),.inr ⟨rfl,.inr ⟨rfl,.inl ⟨rfl,rfl,rfl⟩⟩⟩⟩|false=>rw[h63,if_neg (by decide)]at h;cases Aj:cH s k 123 with|true=>rw[Aj,if_pos rfl]at h;exact .inl ⟨rfl,h⟩|false=>rw[Aj,if_neg (by decide)]at h;cases h;exact .inr ⟨rfl,.inr ⟨rfl,.inr ⟨rfl,.inr ⟨rfl,rfl,rfl⟩⟩⟩⟩
theorem Vq(T:dU)(A:Nat->PR bC)(pb:Nat)(s:ByteArray)(i j k:Nat)(a x:bC)(w:ak)(hR:bO w pb s i false)(hat:eY A s i= .ok a k)(Xe:dY T s a k= .ok x j)(hx:fX x)(T8:∀gb W,Gx W gb pb->bO W pb s i false->aX ah 200 #[pT gb] W (oD gb pb s W (eY A s i)))(hag:∀W q,bO W pb s q false->fX a->aX ah 230 #[pT pb,iV (i:Int)] W (qZ a W))(hti:∀W,bO W pb s (k+1) false->gQ T s a (k+1)= .ok x j->aX ah 229 #[pT pb,iV (i:Int)] W (iA pb s W x j)):aX ah 205 #[aP pb] w (iA pb s w x j):=by
 have HR:=ae hR;have HAG:=ae hag;have HTI:=ae hti;have c1:=hR.c1;obtain⟨W1,hW1⟩:∃W1,W1=w.alloc (.cells #[pT pb] 235):=⟨_,rfl⟩;have hb1:aI w.heap.size w W1:=by rw[hW1];exact(aB _ _).alloc (au _) _
 have hg1:Gx W1 w.heap.size pb:=by rw[hW1];exact heap_alloc_new _ _
 have aap:=T8 w.heap.size W1 hg1 (hR.below hb1);rw[hat]at aap;unfold oD at aap;have HGA:=ae aap;have YX:Hid (Mod (λk=>k=pb) w W1):=ae (by rw[hW1];exact Mod.alloc _ _ _);have tH:=ae hW1;have hcs:=JA Xe;clear hR hag hti hb1 hg1 aap T8 hat Xe hW1;unfold aP;go_enter Tryz.func205,Tryz.ntmps205;go_upto_region 3 with fail;rw[<-tH];go_upto_region 4 with(go_at_call 200;refine HGA.mono ?_;rintro e w2⟨rfl,h1,h2⟩;have ju:=ae (aA h2 (YX.trans h1)));have c2:=ju.1.c2;go_upto_region 6 with fail;rcases hcs with⟨aeV,htm⟩|⟨aeV,hcs⟩;·have HB:=ae aeV;have hcall:=λW h=>HTI W h htm;have pG:=ae hcall;have hone:=dR pb s (k) false 123 true w2 ju.1 (by rw[HB];rfl);have cD:=ae hone;go_upto_region 7 with(go_at_call 160;refine cD.mono ?_;rintro e w3⟨rfl,h1,h2⟩;have iH:=ae (aA h1 (ju.2.trans h2)));have hc9:=pG w3 iH.1;have BZ:=ae hc9;go_wp2_with(go_at_call 229;refine BZ.mono ?_;rintro e w4⟨nb,y,rfl,h1,h2,h3,h4,h5⟩;have pF:=ae (show _/\_/\_/\_/\_ from⟨h1,h2,h3,h4,h5⟩);unfold aP);go_ret;exact⟨nb,y,rfl,pF.1,pF.2.1,pF.2.2.1,pF.2.2.2.1,iH.2.trans pF.2.2.2.2⟩
 ·have HB:=ae aeV;have hsa:fX a:=by
   rcases hcs with⟨_,rfl,_⟩|⟨_,⟨_,rfl,_⟩|⟨_,⟨_,rfl,_⟩|⟨_,rfl,_⟩⟩⟩;·exact hx
   ·exact hx
   ·exact hx
   ·exact hx
  have HCS:=ae hcs;have JN:=ae hsa;have hone:=dR pb s (k) false 123 false w2 ju.1 (by rw[HB];rfl);have cD:=ae hone;go_upto_region 8 with(go_at_call 160;refine cD.mono ?_;rintro e w3⟨rfl,h1,h2⟩;have iH:=ae (aA h1 (ju.2.trans h2)));have hc9:=HAG w3 k iH.1 JN;have BZ:=ae hc9;go_upto_region 9 with(go_at_call 230;refine BZ.mono ?_;rintro e w4⟨nb,y,rfl,h1,h2,h3,h4⟩;have ajb:=ae h1;have HN:=ae (aA h2 h3);have pF:Hid (bO w4 pb s k false/\Mod (λk=>k=pb) w w4):=ae ⟨iH.1.below h4,iH.2.trans ⟨h4.os,h4.tape,h4.output,h4.size,λb hb _=>h4.block b hb⟩⟩;unfold aP);rcases HCS.out with⟨b42,hx2⟩|⟨b42,hcs⟩;·
   have JP:=ae b42;have HX:=ae hx2;have hone:=dR pb s (k) false 42 true w4 pF.1 (by rw[JP];rfl);have cD:=ae hone;go_upto_region 10 with(go_at_call 160;refine cD.mono ?_;rintro e w5⟨rfl,h1,h2⟩;have sO:=ae (aA h1 (pF.2.trans h2));have afp:=ae h2);have aa4:=ae (bu.mod pF.1 afp ajb);obtain⟨W9,vG⟩:∃W9,W9=w5.alloc (.cells ((Tryz.zeroCells138.setIfInBounds 0 (iV 4)).setIfInBounds 257 (pT nb)) 138):=⟨_,rfl⟩;have H9:Hid (bu W9 (.many y false) w5.heap.size/\bO W9 pb s (k+1) false/\Mod (λk=>k=pb) w W9):=ae (by rw[vG];have hb:=(aB w5.heap.size w5).alloc (au _) (.cells ((Tryz.zeroCells138.setIfInBounds 0 (iV 4)).setIfInBounds 257 (pT nb)) 138);exact⟨⟨dW,nb,pV w5 4 _,aa4.below hb⟩,sO.1.below hb,sO.2.trans (Mod.alloc _ _ _)⟩);go_wp2_with fail;go_ret;rw[<-vG];refine⟨_,.many y false,rfl,H9.1,?_,HN.2,?_,H9.2.2⟩;·show bC.many (norm y) false=x;rw[HN.1];exact HX.1.symm
   ·rw[HX.2];exact H9.2.1
  ·have JP:=ae b42;have hone:=dR pb s (k) false 42 false w4 pF.1 (by rw[JP];rfl);have cD:=ae hone;go_upto_region 11 with(go_at_call 160;refine cD.mono ?_;rintro e w5⟨rfl,h1,h2⟩;have sO:=ae (aA h1 (pF.2.trans h2));have afp:=ae h2);have aa4:=ae (bu.mod pF.1 afp ajb);rcases hcs with⟨b43,hx2⟩|⟨b43,hcs⟩;·
    have MH:=ae b43;have HX:=ae hx2;have hone:=dR pb s (k) false 43 true w5 sO.1 (by rw[MH];rfl);have cD:=ae hone;go_upto_region 12 with(go_at_call 160;refine cD.mono ?_;rintro e w6⟨rfl,h1,h2⟩;have q9:=ae (aA h1 (sO.2.trans h2));have afo:=ae h2);have aa3:=ae (bu.mod sO.1 afo aa4);obtain⟨W9,vG⟩:∃W9,W9=w6.alloc (.cells ((Tryz.zeroCells138.setIfInBounds 0 (iV 5)).setIfInBounds 257 (pT nb)) 138):=⟨_,rfl⟩;have H9:Hid (bu W9 (.many y true) w6.heap.size/\bO W9 pb s (k+1) false/\Mod (λk=>k=pb) w W9):=ae (by rw[vG];have hb:=(aB w6.heap.size w6).alloc (au _) (.cells ((Tryz.zeroCells138.setIfInBounds 0 (iV 5)).setIfInBounds 257 (pT nb)) 138);exact⟨⟨dW,nb,pV w6 5 _,aa3.below hb⟩,q9.1.below hb,q9.2.trans (Mod.alloc _ _ _)⟩);go_wp2_with fail;go_ret;rw[<-vG];refine⟨_,.many y true,rfl,H9.1,?_,HN.2,?_,H9.2.2⟩;·show bC.many (norm y) true=x;rw[HN.1];exact HX.1.symm
    ·rw[HX.2];exact H9.2.1
   ·have MH:=ae b43;have hone:=dR pb s (k) false 43 false w5 sO.1 (by rw[MH];rfl);have cD:=ae hone;go_upto_region 13 with(go_at_call 160;refine cD.mono ?_;rintro e w6⟨rfl,h1,h2⟩;have q9:=ae (aA h1 (sO.2.trans h2));have afo:=ae h2);have aa3:=ae (bu.mod sO.1 afo aa4);rcases hcs with⟨b63,hx2⟩|⟨b63,hx2⟩;·
     have PQ:=ae b63;have HX:=ae hx2;have hone:=dR pb s (k) false 63 true w6 q9.1 (by rw[PQ];rfl);have cD:=ae hone;go_upto_region 14 with(go_at_call 160;refine cD.mono ?_;rintro e w7⟨rfl,h1,h2⟩;have ye:=ae (aA h1 (q9.2.trans h2));have afn:=ae h2);have ae7:=ae (bu.mod q9.1 afn aa3);obtain⟨W9,vG⟩:∃W9,W9=w7.alloc (.cells ((Tryz.zeroCells138.setIfInBounds 0 (iV 6)).setIfInBounds 257 (pT nb)) 138):=⟨_,rfl⟩;have H9:Hid (bu W9 (.maybe y) w7.heap.size/\bO W9 pb s (k+1) false/\Mod (λk=>k=pb) w W9):=ae (by rw[vG];have hb:=(aB w7.heap.size w7).alloc (au _) (.cells ((Tryz.zeroCells138.setIfInBounds 0 (iV 6)).setIfInBounds 257 (pT nb)) 138);exact⟨⟨dW,nb,pV w7 6 _,ae7.below hb⟩,ye.1.below hb,ye.2.trans (Mod.alloc _ _ _)⟩);go_wp2_with fail;go_ret;rw[<-vG];refine⟨_,.maybe y,rfl,H9.1,?_,HN.2,?_,H9.2.2⟩;·show bC.maybe (norm y)=x;rw[HN.1];exact HX.1.symm
     ·rw[HX.2];exact H9.2.1
    ·have PQ:=ae b63;have HX:=ae hx2;have hone:=dR pb s (k) false 63 false w6 q9.1 (by rw[PQ];rfl);have cD:=ae hone;go_wp2_with(go_at_call 160;refine cD.mono ?_;rintro e w7⟨rfl,h1,h2⟩;have ye:=ae (aA h1 (q9.2.trans h2));have afn:=ae h2);have ae7:=ae (bu.mod q9.1 afn aa3);go_ret;exact⟨nb,y,rfl,ae7,HN.1.trans HX.1.symm,HN.2,by rw[HX.2];exact ye.1,ye.2⟩
def E9:bC->bC->bC| .empty,b=>b|a,b=> .seq a b
theorem Jv{a b:bC}(h:a≠ .empty):E9 a b= .seq a b:=by cases a<;>first|rfl|exact absurd rfl h
theorem tB(a b:bC):norm (E9 a b)=(norm a).join (norm b):=by
 by_cases h:a= .empty;·subst h;exact(oo _).symm
 ·rw[Jv h];rfl
theorem Tf{a b:bC}(ha:full a)(hb:full b):full (E9 a b):=by
 by_cases h:a= .empty;·subst h;exact hb
 ·rw[Jv h];exact⟨h,ha,hb⟩
def CX(w:ak)(cb nb:Nat):Prop:=w.heap[cb]?=some (.cells #[.pointer (some ⟨nb,0,none⟩)] 81 (0,0))
theorem bu.QC{w w':ak}{cb n0:Nat}(hc:CX w cb n0)(hm:Mod (λk=>k=cb) w w'):∀{x:bC}{nb:Nat},bu w x nb->bu w' x nb:=by
 have hne:∀{nb k:Nat}{hs:List Bool}{a b:ay},bP w nb k hs a b->nb≠cb:=λh e=>by subst e;have:=h.2.symm.trans hc;simp at this
 intro x;induction x with|empty=>exactλh=>bP.old h (hm.block _ (bP.lt h) (hne h))|iW=>exactλh=>h.elim|one s=>exactλ⟨hs,h1,h2⟩=>⟨hs,h1.old (hm.block _ h1.lt (hne h1)),h2⟩|seq x y ihx ihy=>exactλ⟨hs,a,b,h1,h2,h3⟩=>⟨hs,a,b,h1.old (hm.block _ h1.lt (hne h1)),ihx h2,ihy h3⟩|or x y ihx ihy=>exactλ⟨hs,a,b,h1,h2,h3⟩=>⟨hs,a,b,h1.old (hm.block _ h1.lt (hne h1)),ihx h2,ihy h3⟩|many x sm ih=>exactλ⟨hs,a,h1,h2⟩=>⟨hs,a,h1.old (hm.block _ h1.lt (hne h1)),ih h2⟩|maybe x ih=>exactλ⟨hs,a,h1,h2⟩=>⟨hs,a,h1.old (hm.block _ h1.lt (hne h1)),ih h2⟩
theorem wV(cb nb mb:Nat)(y y2:bC)(W:ak)(hc:CX W cb nb)(hy:bu W y nb)(h2:bu W y2 mb):aX ah 255 #[pT mb,pT cb] W λe w'=>e= .returned (.tuple #[])/\(∃n2,CX w' cb n2/\bu w' (E9 y y2) n2)/\Mod (λk=>k=cb) W w':=by
 have d0:W.cell? (aD cb 0)=some (pT nb):=aq hc;have d1:W.frozen? (aD cb 0)=false:=aU hc;have HH:=ae (show _/\_/\_ from⟨hc,hy,h2⟩);by_cases ZV:y= .empty;·subst ZV;have d2:=hy.Bg;clear hc hy h2;go_enter asb,aoG;go_wp2_with fail;refine bodyPost_end (results_none rfl _ _ _) rfl ?_;have hm:Mod (λk=>k=cb) W (W.setCell (aD cb 0) (pT mb)):=Mod.setCell _ _ _ λ_=>rfl;refine⟨rfl,⟨mb,?_,bu.QC HH.1 hm HH.2.2⟩,hm⟩;unfold CX;rw[heap_setCell_same W cb 0 _ _ _ HH.1];rfl
 ·obtain⟨kk,d2,ck⟩:=hy.shape ZV;have HYE:=ae ZV;clear hc hy h2 ZV;obtain⟨W2,hW2⟩:∃W2,W2=W.alloc (.cells (((Tryz.zeroCells138.setIfInBounds 0 (iV 2)).setIfInBounds 257 (pT nb)).setIfInBounds 258 (pT mb)) 138):=⟨_,rfl⟩;have H2:Hid (bu W2 (.seq y y2) W.heap.size/\CX W2 cb nb/\Mod (λk=>k=cb) W W2):=ae (by rw[hW2];have hb:=(aB W.heap.size W).alloc (au _) (.cells (((Tryz.zeroCells138.setIfInBounds 0 (iV 2)).setIfInBounds 257 (pT nb)).setIfInBounds 258 (pT mb)) 138);exact⟨⟨dW,nb,mb,xg W 2 _ _,HH.2.1.below hb,HH.2.2.below hb⟩,(hb.block cb (lt_of_heap HH.1)).trans HH.1,Mod.alloc _ _ _⟩);have vh:=ae hW2;have e0:W2.cell? (aD cb 0)=some (pT nb):=aq H2.2.1;have e1:W2.frozen? (aD cb 0)=false:=aU H2.2.1;rw[hW2]at e0 e1;clear hW2;go_enter asb,aoG;go_wp2_with fail;refine bodyPost_end (results_none rfl _ _ _) rfl ?_;rw[<-vh];have hm:Mod (λk=>k=cb) W2 (W2.setCell (aD cb 0) (pT W.heap.size)):=Mod.setCell _ _ _ λ_=>rfl;refine⟨rfl,⟨W.heap.size,?_,?_⟩,H2.2.2.trans hm⟩;·unfold CX;rw[heap_setCell_same W2 cb 0 _ _ _ H2.2.1];rfl
  ·rw[Jv HYE];exact bu.QC H2.2.1 hm H2.1
theorem Ch {T:dU} {s:ByteArray} {a x:bC} {k j:Nat} (h:gQ T s a k = .ok x j):∃ lo k2,dI s k 0 = .ok lo k2 /\
    ((cH s k2 44=true/\((cH s (k2+1) 125=true/\x=T a lo lo true/\j=k2+2) \/
      (cH s (k2+1) 125=false /\ ∃ hi k3,dI s (k2+1) 0 = .ok hi k3/\lo<=hi/\cH s k3 125=true/\x=T a lo hi false/\j=k3+1))) \/
     (cH s k2 44=false/\cH s k2 125=true/\x=T a lo lo false/\j=k2+1)):=by
  unfold gQ at h
  cases hd:dI s k 0 with
  | fault e=>rw [hd] at h; cases h
  | ok lo k2 =>
    rw [hd] at h
    simp only at h
    refine ⟨lo,k2,rfl,?_⟩
    cases xq:cH s k2 44 with
    | false =>
      rw [xq,if_neg (by decide)] at h
      cases hc:cH s k2 125 with
      | false=>rw [hc,if_neg (by decide)] at h; cases h
      | true =>
        rw [hc,if_pos rfl] at h
        cases h
        exact .inr ⟨rfl,rfl,rfl,rfl⟩
    | true =>
      rw [xq,if_pos rfl] at h
      refine .inl ⟨rfl,?_⟩
      cases hc:cH s (k2+1) 125 with
      | true =>
        rw [hc,if_pos rfl] at h
        cases h
        exact .inl ⟨rfl,rfl,rfl⟩
      | false =>
        rw [hc,if_neg (by decide),oZ] at h
        cases hd2:dI s (k2+1) 0 with
        | fault e=>rw [hd2] at h; cases h
        | ok hi k3 =>
          rw [hd2] at h
          simp only at h
          by_cases hlt:hi < lo
          · rw [if_pos hlt] at h
            cases h
          · rw [if_neg hlt] at h
            simp only at h
            cases hc3:cH s k3 125 with
            | false=>rw [hc3,if_neg (by decide)] at h; cases h
            | true =>
              rw [hc3,if_pos rfl] at h
              cases h
              exact .inr ⟨rfl,hi,k3,rfl,by omega,hc3,rfl,rfl⟩
theorem ua{a:bC}{lo hi:Nat}{e:Bool}(h:fX (bJ a lo hi e)):bJ a lo hi e=if e then(bC.gH .empty a lo).join (.many a false)else(bC.gH .empty a lo).gH (.maybe a) (hi-lo):=by
 unfold bJ at h⊢;by_cases hb:a.places*(if e then lo+1 else hi)>128;·rw[if_pos hb]at h;exact h.elim
 ·rw[if_neg hb]
theorem yP{x y:bC}:∀{n:Nat},fX (x.gH y n)->fX x/\(0<n->fX y)|0,h=>⟨h,λh=>absurd h (Nat.lt_irrefl _)⟩|n+1,h=>by have h2:=xf.1 (show fX ((x.gH y n).join y)from h);exact⟨(yP h2.1).1,λ_=>h2.2⟩
theorem oQ{a:bC}{lo hi:Nat}{e:Bool}(h:fX (bJ a lo hi e))(hn:0<lo\/e=true\/lo<hi):fX a:=by have h1:=h;rw[ua h]at h1;cases e with
 |true=>exact(xf.1 h1).2|false=>
  have h2:=yP (show fX ((bC.gH .empty a lo).gH (.maybe a) (hi-lo))from h1);rcases hn with hn|hn|hn;·exact(yP h2.1).2 hn
  ·cases hn
  ·exact h2.2 (by omega)
def Gv(pb:Nat)(s:ByteArray)(w0:ak)(q cb:Nat)(y:bC)(n0:Nat)(W:ak):Prop:=bO W pb s q false/\CX W cb n0/\bu W y n0/\full y/\Mod (λk=>k=pb) w0 W/\w0.heap.size<=cb
theorem Gv.below{pb:Nat}{s:ByteArray}{w0 W W':ak}{q cb n0:Nat}{y:bC}(h:Gv pb s w0 q cb y n0 W)(hb:aI W.heap.size W W'):Gv pb s w0 q cb y n0 W':=by obtain⟨h1,h2,h3,h4,h5,h6⟩:=h;exact⟨h1.below hb,(hb.block _ (lt_of_heap h2)).trans h2,h3.below hb,h4,h5.trans ⟨hb.os,hb.tape,hb.output,hb.size,λb hl _=>hb.block b hl⟩,h6⟩
theorem Gv.add{pb:Nat}{s:ByteArray}{w0 W W':ak}{q cb n0 n2:Nat}{y y2:bC}(h:Gv pb s w0 q cb y n0 W)(k1:CX W' cb n2)(k2:bu W' (E9 y y2) n2)(k3:Mod (λk=>k=cb) W W')(k4:full y2):Gv pb s w0 q cb (E9 y y2) n2 W':=by
 obtain⟨h1,h2,h3,h4,h5,h6⟩:=h;have hne:pb≠cb:=λe=>by subst e;have:=h1.1.symm.trans h2;simp at this
 exact⟨h1.old (k3.block pb h1.lt hne),k1,k2,Tf h4 k4,xj h5 (k3.mono λ_ _ e=> .inr e) h6,h6⟩
theorem Gv.start{pb:Nat}{s:ByteArray}{w0 W:ak}{q:Nat}(hp:bO W pb s q false)(hm:Mod (λk=>k=pb) w0 W):Gv pb s w0 q (W.heap.size+1) .empty W.heap.size ((W.alloc (.cells jl 138)).alloc (.cells #[pT W.heap.size] 81)):=by have hb:aI W.heap.size W ((W.alloc (.cells jl 138)).alloc (.cells #[pT W.heap.size] 81)):=((aB _ _).alloc (au _) _).alloc (by simp) _;refine⟨hp.below hb,heap_alloc2_new W _ _,?_,trivial,(hm.trans (Mod.alloc _ _ _)).trans (Mod.alloc _ _ _),by have:=hm.size;omega⟩;rw[Tryz.DX];exact⟨bK,heap_alloc2_old W _ _⟩
theorem Rl(pb:Nat)(s:ByteArray)(i k1 k2 lo kz:Nat)(a:bC)(w:ak)(hR:bO w pb s k1 false)(hx:fX (bJ a lo lo false))(hd:dI s k1 0= .ok lo k2)(xq:cH s k2 44=false)(kO:cH s k2 125=true)(hag:∀W q,bO W pb s q false->fX a->aX ah 230 #[pT pb,iV (i:Int)] W (qZ a W)):aX ah 229 #[aP pb,iV (i:Int)] w (iA pb s w (bJ a lo lo false) (k2+1)):=by
 have HS:Hid (bO w pb s k1 false/\Mod (λk=>k=pb) w w):=ae ⟨hR,Mod.refl _ _⟩;have HAG:=ae hag;have Yf:=ae (ua hx);have HD:=ae hd;have Mz:=ae λh=>oQ hx (.inl h);have hlo:=(ny hd).2;have H44:=ae xq;have TM:=ae kO;clear xq kO;clear hR hag hx hd;obtain⟨q,hq⟩:∃q,q=k2+1:=⟨_,rfl⟩;have HQ:=ae hq;clear hq;unfold aP;go_enter Uz,Q5;have vE:=kX pb s (k1) w HS.1;unfold je aP at vE;rw[HD]at vE;have Hw:Hid (aX ah 201 #[pT pb] w λe w'=>e= .returned (iV (lo:Int))/\bO w' pb s (k2) false/\Mod (λk=>k=pb) w w'):=ae (vE.mono λe w' h=>⟨h.2.2,h.1,h.2.1⟩);clear vE;go_upto_region 4 with(go_at_call 201;refine Hw.mono ?_;rintro e w1⟨rfl,h1,h2⟩;have kL:=ae (aA h1 (HS.2.trans h2));clear h1 h2);clear Hw;have hone:=dR pb s (k2) false 44 false w1 kL.1 (by rw[H44];rfl);have cD:=ae hone;clear hone;go_upto_region 12 with(go_at_call 160;refine cD.mono ?_;rintro e w2⟨rfl,h1,h2⟩;have ju:=ae (aA h1 (kL.2.trans h2));clear h1 h2);clear cD;have hone:=dR pb s (k2) false 125 true w2 ju.1 (by rw[TM];rfl);have cD:=ae hone;clear hone;go_upto_region 13 with(go_at_call 160;refine cD.mono ?_;rintro e w3⟨rfl,h1,h2⟩;have iH:=ae (aA h1 (ju.2.trans h2));clear h1 h2);clear cD;rw[<-HQ]at iH;have e5:=iH.1.c2;have ajj:=iH;obtain⟨W7,wO⟩:∃W7,W7=(w3.alloc (.cells jl 138)).alloc (.cells #[pT w3.heap.size] 81):=⟨_,rfl⟩;obtain⟨cb,hcb⟩:∃cb,cb=w3.heap.size+1:=⟨_,rfl⟩;have HT7:Hid (Gv pb s w q cb .empty w3.heap.size W7):=ae (by rw[wO,hcb];exact Gv.start iH.1 iH.2);have TB:=ae (aA wO hcb);clear wO hcb;go_upto_region 19 with fail;rw[<-TB.1,<-TB.2];clear TB e5;go_wp2_with fail;go_loopw[12](λcv wr=>∃n:Nat,n<=lo/\cv= .int .i64 (n:Int)/\Hid (∃y n0,Gv pb s w q cb y n0 wr/\norm y=bC.gH .empty a n))(λcv _=>lo-(intOf cv).toNat);case atStart=>exact⟨0,aW _,rfl,ae ⟨_,_,HT7,rfl⟩⟩
 case round=>as_aux_lemma=>
  clear HT7;obtain⟨n,hn,rfl,HI⟩:=hrel;have q1:IntKind.i64.wrap ((n:Int)+1)=(n:Int)+1:=aK _ (by omega);by_cases hlt:n<lo;·have PG:=ae (Mz (by omega));obtain⟨Wi,OT⟩:∃Wi,Wi=wr:=⟨_,rfl⟩;subst OT;obtain⟨y,n0,wL,zh⟩:=HI.out;have Fu:=ae (aA wL zh);have BZ:=ae (HAG Wi q wL.1 PG);clear wL zh;go_upto_region 23 with(go_at_call 230;refine BZ.mono ?_;rintro e wb⟨mb,y2,rfl,h1,h2,h3,h4⟩;have rh:=ae (show _/\_/\_/\_ from⟨h1,h2,h3,h4⟩);clear h1 h2 h3 h4;unfold aP);have xU:=Fu.1.below rh.2.2.2;have HAD:=ae (wV cb n0 mb y y2 wb xU.2.1 xU.2.2.1 rh.1);have xE:=ae xU;clear xU;go_wp2_with(go_at_call 255;refine HAD.mono ?_;rintro e wc⟨rfl,⟨n2,h1,h2⟩,h3⟩;have BX:=ae (xE.add h1 h2 h3 rh.2.2.1);clear h1 h2 h3);have Fx:Hid (norm (E9 y y2)=(norm y).join a):=ae (by rw[tB,rh.2.1]);exact⟨⟨n+1,by omega,by go_num,ae ⟨_,_,BX.out,by rw[Fx.out,Fu.2];rfl⟩⟩,by simp[intOf];omega⟩
  ·obtain rfl:lo=n:=by omega
   have HJ:=HI;go_wp2_with fail;go_loopw[15](λcv wr=>∃m:Nat,lo<=m/\m<=lo/\cv= .int .i64 (m:Int)/\Hid (∃y n0,Gv pb s w q cb y n0 wr/\norm y=(bC.gH .empty a lo).gH (.maybe a) (m-lo)))(λcv _=>lo-(intOf cv).toNat);case atStart=>exact⟨lo,au _,by omega,rfl,ae (by rw[mG];exact HJ)⟩
   case round=>as_aux_lemma=>
    clear HJ;obtain⟨m,hm1,hm2,rfl,HI⟩:=hrel;have q2:IntKind.i64.wrap ((m:Int)+1)=(m:Int)+1:=aK _ (by omega);by_cases hmh:m<lo;·omega
    ·obtain⟨y,n0,wL,zh⟩:=HI.out;have e9:wr.cell? (aD cb 0)=some (pT n0):=aq wL.2.1;have Fu:=ae (aA wL zh);have HEQ:Hid (m=lo):=ae (by omega);clear wL zh HI;go_wp2_with fail;go_ret;obtain⟨h1,h2,h3,h4,h5,h6⟩:=Fu.1;refine⟨n0,y,rfl,h3,?_,h4,by rw[HQ]at h1;exact h1,h5⟩;rw[Fu.2,Yf,HEQ];rw[mG];rfl
theorem Ni(pb:Nat)(s:ByteArray)(i k1 k2 lo kz:Nat)(a:bC)(w:ak)(hR:bO w pb s k1 false)(hx:fX (bJ a lo lo true))(hd:dI s k1 0= .ok lo k2)(xq:cH s k2 44=true)(kO:cH s (k2+1) 125=true)(hag:∀W q,bO W pb s q false->fX a->aX ah 230 #[pT pb,iV (i:Int)] W (qZ a W)):aX ah 229 #[aP pb,iV (i:Int)] w (iA pb s w (bJ a lo lo true) (k2+1+1)):=by
 have HS:Hid (bO w pb s k1 false/\Mod (λk=>k=pb) w w):=ae ⟨hR,Mod.refl _ _⟩;have HAG:=ae hag;have Yf:=ae (ua hx);have HD:=ae hd;have Mz:=ae λh=>oQ hx (.inl h);have hlo:=(ny hd).2;have H44:=ae xq;have TM:=ae kO;have aff:=ae (oQ hx (.inr (.inl rfl)));clear xq kO;clear hR hag hx hd;obtain⟨q,hq⟩:∃q,q=k2+1+1:=⟨_,rfl⟩;have HQ:=ae hq;clear hq;unfold aP;go_enter Uz,Q5;have vE:=kX pb s (k1) w HS.1;unfold je aP at vE;rw[HD]at vE;have Hw:Hid (aX ah 201 #[pT pb] w λe w'=>e= .returned (iV (lo:Int))/\bO w' pb s (k2) false/\Mod (λk=>k=pb) w w'):=ae (vE.mono λe w' h=>⟨h.2.2,h.1,h.2.1⟩);clear vE;go_upto_region 4 with(go_at_call 201;refine Hw.mono ?_;rintro e w1⟨rfl,h1,h2⟩;have kL:=ae (aA h1 (HS.2.trans h2));clear h1 h2);clear Hw;have hone:=dR pb s (k2) false 44 true w1 kL.1 (by rw[H44];rfl);have cD:=ae hone;clear hone;go_upto_region 5 with(go_at_call 160;refine cD.mono ?_;rintro e w2⟨rfl,h1,h2⟩;have ju:=ae (aA h1 (kL.2.trans h2));clear h1 h2);clear cD;have tj:=rG pb s (k2+1) false 125 w2 ju.1;simp only[jO,gP]at tj;rw[TM]at tj;have vk:=ae tj;clear tj;go_upto_region 6 with(go_at_call 202;refine vk.mono ?_;rintro e w3⟨rfl,h1⟩;have iH:=ae (aA (ju.1.same h1) (ju.2.trans (Mod.same h1)));clear h1);clear vk;have hone:=dR pb s (k2+1) false 125 true w3 iH.1 (by rw[TM];rfl);have cD:=ae hone;clear hone;go_upto_region 13 with(go_at_call 160;refine cD.mono ?_;rintro e w4⟨rfl,h1,h2⟩;have pF:=ae (aA h1 (iH.2.trans h2));clear h1 h2);clear cD;rw[<-HQ]at pF;have e5:=pF.1.c2;have ajj:=pF;obtain⟨W7,wO⟩:∃W7,W7=(w4.alloc (.cells jl 138)).alloc (.cells #[pT w4.heap.size] 81):=⟨_,rfl⟩;obtain⟨cb,hcb⟩:∃cb,cb=w4.heap.size+1:=⟨_,rfl⟩;have HT7:Hid (Gv pb s w q cb .empty w4.heap.size W7):=ae (by rw[wO,hcb];exact Gv.start pF.1 pF.2);have TB:=ae (aA wO hcb);clear wO hcb;go_upto_region 19 with fail;rw[<-TB.1,<-TB.2];clear TB e5;go_wp2_with fail;go_loopw[12](λcv wr=>∃n:Nat,n<=lo/\cv= .int .i64 (n:Int)/\Hid (∃y n0,Gv pb s w q cb y n0 wr/\norm y=bC.gH .empty a n))(λcv _=>lo-(intOf cv).toNat);case atStart=>exact⟨0,aW _,rfl,ae ⟨_,_,HT7,rfl⟩⟩
 case round=>as_aux_lemma=>
  clear HT7;obtain⟨n,hn,rfl,HI⟩:=hrel;have q1:IntKind.i64.wrap ((n:Int)+1)=(n:Int)+1:=aK _ (by omega);by_cases hlt:n<lo;·have PG:=ae (Mz (by omega));obtain⟨Wi,OT⟩:∃Wi,Wi=wr:=⟨_,rfl⟩;subst OT;obtain⟨y,n0,wL,zh⟩:=HI.out;have Fu:=ae (aA wL zh);have BZ:=ae (HAG Wi q wL.1 PG);clear wL zh;go_upto_region 23 with(go_at_call 230;refine BZ.mono ?_;rintro e wb⟨mb,y2,rfl,h1,h2,h3,h4⟩;have rh:=ae (show _/\_/\_/\_ from⟨h1,h2,h3,h4⟩);clear h1 h2 h3 h4;unfold aP);have xU:=Fu.1.below rh.2.2.2;have HAD:=ae (wV cb n0 mb y y2 wb xU.2.1 xU.2.2.1 rh.1);have xE:=ae xU;clear xU;go_wp2_with(go_at_call 255;refine HAD.mono ?_;rintro e wc⟨rfl,⟨n2,h1,h2⟩,h3⟩;have BX:=ae (xE.add h1 h2 h3 rh.2.2.1);clear h1 h2 h3);have Fx:Hid (norm (E9 y y2)=(norm y).join a):=ae (by rw[tB,rh.2.1]);exact⟨⟨n+1,by omega,by go_num,ae ⟨_,_,BX.out,by rw[Fx.out,Fu.2];rfl⟩⟩,by simp[intOf];omega⟩
  ·obtain rfl:lo=n:=by omega
   have PG:=ae aff;obtain⟨Wi,OT⟩:∃Wi,Wi=wr:=⟨_,rfl⟩;subst OT;obtain⟨y,n0,wL,zh⟩:=HI.out;have Fu:=ae (aA wL zh);have BZ:=ae (HAG Wi q wL.1 PG);clear wL zh;go_upto_region 26 with(go_at_call 230;refine BZ.mono ?_;rintro e wb⟨mb,y2,rfl,h1,h2,h3,h4⟩;have rh:=ae (show _/\_/\_/\_ from⟨h1,h2,h3,h4⟩);clear h1 h2 h3 h4;unfold aP);obtain⟨wz,hwz⟩:∃wz,wz=wb.alloc (.cells ((Tryz.zeroCells138.setIfInBounds 0 (iV 4)).setIfInBounds 257 (pT mb)) 138):=⟨_,rfl⟩;have hbz:aI wb.heap.size wb wz:=by rw[hwz];exact(aB _ _).alloc (au _) _
   have hnz:bu wz (.many y2 false) wb.heap.size:=⟨dW,mb,by rw[hwz];exact pV wb 4 _,rh.1.below hbz⟩;have xU:=(Fu.1.below rh.2.2.2).below hbz;have had:=wV cb n0 wb.heap.size y (.many y2 false) wz xU.2.1 xU.2.2.1 hnz;rw[hwz]at had;have HAD:=ae had;have xE:=ae xU;have HWZ:=ae hwz;clear had xU hbz hnz hwz;go_upto_region 27 with(go_at_call 255;refine HAD.mono ?_;rw[<-HWZ];rintro e wc⟨rfl,⟨n2,h1,h2⟩,h3⟩;have BX:=ae (xE.add h1 h2 h3 rh.2.2.1);clear h1 h2 h3);have Fx:Hid (norm (E9 y (.many y2 false))=(norm y).join (.many a false)):=ae (by rw[tB];show(norm y).join (.many (norm y2) false)=_;rw[rh.2.1]);have HJ:Hid (∃y n0,Gv pb s w q cb y n0 wc/\norm y=(bC.gH .empty a lo).join (.many a false)):=ae ⟨_,_,BX,by rw[Fx,Fu.2]⟩;clear BX Fx;go_wp2_with fail;go_loopw[15](λcv wr=>∃m:Nat,lo<=m/\m<=lo/\cv= .int .i64 (m:Int)/\Hid (∃y n0,Gv pb s w q cb y n0 wr/\norm y=((bC.gH .empty a lo).join (.many a false)).gH (.maybe a) (m-lo)))(λcv _=>lo-(intOf cv).toNat);case atStart=>exact⟨lo,au _,by omega,rfl,ae (by rw[mG];exact HJ)⟩
   case round=>as_aux_lemma=>
    clear HJ;obtain⟨m,hm1,hm2,rfl,HI⟩:=hrel;have q2:IntKind.i64.wrap ((m:Int)+1)=(m:Int)+1:=aK _ (by omega);by_cases hmh:m<lo;·omega
    ·obtain⟨y,n0,wL,zh⟩:=HI.out;have e9:wr.cell? (aD cb 0)=some (pT n0):=aq wL.2.1;have Fu:=ae (aA wL zh);have HEQ:Hid (m=lo):=ae (by omega);clear wL zh HI;go_wp2_with fail;go_ret;obtain⟨h1,h2,h3,h4,h5,h6⟩:=Fu.1;refine⟨n0,y,rfl,h3,?_,h4,by rw[HQ]at h1;exact h1,h5⟩;rw[Fu.2,Yf,HEQ];rw[mG];rfl
theorem Kl(pb:Nat)(s:ByteArray)(i k1 k2 lo hi k3:Nat)(a:bC)(w:ak)(hR:bO w pb s k1 false)(hx:fX (bJ a lo hi false))(hd:dI s k1 0= .ok lo k2)(xq:cH s k2 44=true)(kO:cH s (k2+1) 125=false)(hd2:dI s (k2+1) 0= .ok hi k3)(hlh:lo<=hi)(h3:cH s k3 125=true)(hag:∀W q,bO W pb s q false->fX a->aX ah 230 #[pT pb,iV (i:Int)] W (qZ a W)):aX ah 229 #[aP pb,iV (i:Int)] w (iA pb s w (bJ a lo hi false) (k3+1)):=by
 have HS:Hid (bO w pb s k1 false/\Mod (λk=>k=pb) w w):=ae ⟨hR,Mod.refl _ _⟩;have HAG:=ae hag;have Yf:=ae (ua hx);have HD:=ae hd;have Mz:=ae λh=>oQ hx (.inl h);have hlo:=(ny hd).2;have H44:=ae xq;have TM:=ae kO;have Yo:=ae hd2;have H3:=ae h3;have hhi:=(ny hd2).2;have afe:=ae λh=>oQ hx (.inr (.inr h));clear xq kO hd2 h3;clear hR hag hx hd;obtain⟨q,hq⟩:∃q,q=k3+1:=⟨_,rfl⟩;have HQ:=ae hq;clear hq;unfold aP;go_enter Uz,Q5;have vE:=kX pb s (k1) w HS.1;unfold je aP at vE;rw[HD]at vE;have Hw:Hid (aX ah 201 #[pT pb] w λe w'=>e= .returned (iV (lo:Int))/\bO w' pb s (k2) false/\Mod (λk=>k=pb) w w'):=ae (vE.mono λe w' h=>⟨h.2.2,h.1,h.2.1⟩);clear vE;go_upto_region 4 with(go_at_call 201;refine Hw.mono ?_;rintro e w1⟨rfl,h1,h2⟩;have kL:=ae (aA h1 (HS.2.trans h2));clear h1 h2);clear Hw;have hone:=dR pb s (k2) false 44 true w1 kL.1 (by rw[H44];rfl);have cD:=ae hone;clear hone;go_upto_region 5 with(go_at_call 160;refine cD.mono ?_;rintro e w2⟨rfl,h1,h2⟩;have ju:=ae (aA h1 (kL.2.trans h2));clear h1 h2);clear cD;have tj:=rG pb s (k2+1) false 125 w2 ju.1;simp only[jO,gP]at tj;rw[TM]at tj;have vk:=ae tj;clear tj;go_upto_region 6 with(go_at_call 202;refine vk.mono ?_;rintro e w3⟨rfl,h1⟩;have iH:=ae (aA (ju.1.same h1) (ju.2.trans (Mod.same h1)));clear h1);clear vk;have c1:=iH.1.c1;go_upto_region 8 with fail;clear c1;have vE:=kX pb s (k2+1) w3 iH.1;unfold je aP at vE;rw[Yo]at vE;have Hw:Hid (aX ah 201 #[pT pb] w3 λe w'=>e= .returned (iV (hi:Int))/\bO w' pb s (k3) false/\Mod (λk=>k=pb) w3 w'):=ae (vE.mono λe w' h=>⟨h.2.2,h.1,h.2.1⟩);clear vE;go_upto_region 9 with(go_at_call 201;refine Hw.mono ?_;rintro e w4⟨rfl,h1,h2⟩;have pF:=ae (aA h1 (iH.2.trans h2));clear h1 h2);clear Hw;have c2:=pF.1.c2;have m1:decide (hi<lo)=false:=by simp;omega
 have m2:decide ((hi:Int)<(lo:Int))=false:=by simp;omega
 go_upto_region 12 with fail;clear c2 m1 m2;have hone:=dR pb s (k3) false 125 true w4 pF.1 (by rw[H3];rfl);have cD:=ae hone;clear hone;go_upto_region 13 with(go_at_call 160;refine cD.mono ?_;rintro e w5⟨rfl,h1,h2⟩;have sO:=ae (aA h1 (pF.2.trans h2));clear h1 h2);clear cD;rw[<-HQ]at sO;have e5:=sO.1.c2;have ajj:=sO;obtain⟨W7,wO⟩:∃W7,W7=(w5.alloc (.cells jl 138)).alloc (.cells #[pT w5.heap.size] 81):=⟨_,rfl⟩;obtain⟨cb,hcb⟩:∃cb,cb=w5.heap.size+1:=⟨_,rfl⟩;have HT7:Hid (Gv pb s w q cb .empty w5.heap.size W7):=ae (by rw[wO,hcb];exact Gv.start sO.1 sO.2);have TB:=ae (aA wO hcb);clear wO hcb;go_upto_region 19 with fail;rw[<-TB.1,<-TB.2];clear TB e5;go_wp2_with fail;go_loopw[12](λcv wr=>∃n:Nat,n<=lo/\cv= .int .i64 (n:Int)/\Hid (∃y n0,Gv pb s w q cb y n0 wr/\norm y=bC.gH .empty a n))(λcv _=>lo-(intOf cv).toNat);case atStart=>exact⟨0,aW _,rfl,ae ⟨_,_,HT7,rfl⟩⟩
 case round=>as_aux_lemma=>
  clear HT7;obtain⟨n,hn,rfl,HI⟩:=hrel;have q1:IntKind.i64.wrap ((n:Int)+1)=(n:Int)+1:=aK _ (by omega);by_cases hlt:n<lo;·have PG:=ae (Mz (by omega));obtain⟨Wi,OT⟩:∃Wi,Wi=wr:=⟨_,rfl⟩;subst OT;obtain⟨y,n0,wL,zh⟩:=HI.out;have Fu:=ae (aA wL zh);have BZ:=ae (HAG Wi q wL.1 PG);clear wL zh;go_upto_region 23 with(go_at_call 230;refine BZ.mono ?_;rintro e wb⟨mb,y2,rfl,h1,h2,h3,h4⟩;have rh:=ae (show _/\_/\_/\_ from⟨h1,h2,h3,h4⟩);clear h1 h2 h3 h4;unfold aP);have xU:=Fu.1.below rh.2.2.2;have HAD:=ae (wV cb n0 mb y y2 wb xU.2.1 xU.2.2.1 rh.1);have xE:=ae xU;clear xU;go_wp2_with(go_at_call 255;refine HAD.mono ?_;rintro e wc⟨rfl,⟨n2,h1,h2⟩,h3⟩;have BX:=ae (xE.add h1 h2 h3 rh.2.2.1);clear h1 h2 h3);have Fx:Hid (norm (E9 y y2)=(norm y).join a):=ae (by rw[tB,rh.2.1]);exact⟨⟨n+1,by omega,by go_num,ae ⟨_,_,BX.out,by rw[Fx.out,Fu.2];rfl⟩⟩,by simp[intOf];omega⟩
  ·obtain rfl:lo=n:=by omega
   have HJ:=HI;go_wp2_with fail;go_loopw[15](λcv wr=>∃m:Nat,lo<=m/\m<=hi/\cv= .int .i64 (m:Int)/\Hid (∃y n0,Gv pb s w q cb y n0 wr/\norm y=(bC.gH .empty a lo).gH (.maybe a) (m-lo)))(λcv _=>hi-(intOf cv).toNat);case atStart=>exact⟨lo,au _,by omega,rfl,ae (by rw[mG];exact HJ)⟩
   case round=>as_aux_lemma=>
    clear HJ;obtain⟨m,hm1,hm2,rfl,HI⟩:=hrel;have q2:IntKind.i64.wrap ((m:Int)+1)=(m:Int)+1:=aK _ (by omega);by_cases hmh:m<hi;·
     have PG:=ae (afe (by omega));obtain⟨Wi,OT⟩:∃Wi,Wi=wr:=⟨_,rfl⟩;subst OT;obtain⟨y,n0,wL,zh⟩:=HI.out;have Fu:=ae (aA wL zh);have BZ:=ae (HAG Wi q wL.1 PG);clear wL zh;go_upto_region 31 with(go_at_call 230;refine BZ.mono ?_;rintro e wb⟨mb,y2,rfl,h1,h2,h3,h4⟩;have rh:=ae (show _/\_/\_/\_ from⟨h1,h2,h3,h4⟩);clear h1 h2 h3 h4;unfold aP);obtain⟨wz,hwz⟩:∃wz,wz=wb.alloc (.cells ((Tryz.zeroCells138.setIfInBounds 0 (iV 6)).setIfInBounds 257 (pT mb)) 138):=⟨_,rfl⟩;have hbz:aI wb.heap.size wb wz:=by rw[hwz];exact(aB _ _).alloc (au _) _
     have hnz:bu wz (.maybe y2) wb.heap.size:=⟨dW,mb,by rw[hwz];exact pV wb 6 _,rh.1.below hbz⟩;have xU:=(Fu.1.below rh.2.2.2).below hbz;have had:=wV cb n0 wb.heap.size y (.maybe y2) wz xU.2.1 xU.2.2.1 hnz;rw[hwz]at had;have HAD:=ae had;have xE:=ae xU;have HWZ:=ae hwz;clear had xU hbz hnz hwz;go_wp2_with(go_at_call 255;refine HAD.mono ?_;rw[<-HWZ];rintro e wc⟨rfl,⟨n2,h1,h2⟩,h3⟩;have BX:=ae (xE.add h1 h2 h3 rh.2.2.1);clear h1 h2 h3);have Fx:Hid (norm (E9 y (.maybe y2))=(norm y).join (.maybe a)):=ae (by rw[tB];show(norm y).join (.maybe (norm y2))=_;rw[rh.2.1]);exact⟨⟨m+1,by omega,by omega,by go_num,ae ⟨_,_,BX.out,by rw[Fx.out,Fu.2,show m+1-lo=(m-lo)+1 by omega];rfl⟩⟩,by simp[intOf];omega⟩
    ·obtain⟨y,n0,wL,zh⟩:=HI.out;have e9:wr.cell? (aD cb 0)=some (pT n0):=aq wL.2.1;have Fu:=ae (aA wL zh);have HEQ:Hid (m=hi):=ae (by omega);clear wL zh HI;go_wp2_with fail;go_ret;obtain⟨h1,h2,h3,h4,h5,h6⟩:=Fu.1;refine⟨n0,y,rfl,h3,?_,h4,by rw[HQ]at h1;exact h1,h5⟩;rw[Fu.2,Yf,HEQ];rfl
theorem Nk(pb:Nat)(s:ByteArray)(i k j:Nat)(a x:bC)(w:ak)(hR:bO w pb s k false)(hT:gQ bJ s a k= .ok x j)(hx:fX x)(hag:∀W q,bO W pb s q false->fX a->aX ah 230 #[pT pb,iV (i:Int)] W (qZ a W)):aX ah 229 #[pT pb,iV (i:Int)] w (iA pb s w x j):=by
 obtain⟨lo,k2,hd,h|h⟩:=Ch hT;·
  obtain⟨xq,h|h⟩:=h;·obtain⟨kO,rfl,rfl⟩:=h;exact Ni pb s i k k2 lo 0 a w hR hx hd xq kO hag
  ·obtain⟨kO,hi,k3,hd2,hlh,h3,rfl,rfl⟩:=h;exact Kl pb s i k k2 lo hi k3 a w hR hx hd xq kO hd2 hlh h3 hag
 ·obtain⟨xq,kO,rfl,rfl⟩:=h;exact Rl pb s i k k2 lo 0 a w hR hx hd xq kO hag
theorem GS{T:dU}{A:Nat->PR bC}{s:ByteArray}{i j:Nat}{x:bC}(h:gq T A s i= .ok x j):∃a k,eY A s i= .ok a k/\dY T s a k= .ok x j:=by unfold gq at h;cases ha:eY A s i with|fault e=>rw[ha]at h;cases h|ok a k=>rw[ha]at h;exact⟨a,k,rfl,h⟩
theorem KZ(s:ByteArray):∀(n pb i:Nat)(w:ak)(x:bC)(j:Nat),bO w pb s i false->eP bJ s n i= .ok x j->fX x->s.size<n+i->aX ah 116 #[pT pb] w (iA pb s w x j)|0,pb,i,w,x,j,hR,h,hx,hn=>absurd hR.2.1 (by omega)|n+1,pb,i,w,x,j,hR,h,hx,hn=>by refine XW bJ (eP bJ s n) pb s i w x j hR ?_ (λq hq=>qB bJ (eP bJ s n) s (λj hj=>nA bJ s n j hj) (s.size+1) .empty q hq) (by rw[<-BQ];exact h) hx;intro q W y k hW hS hy hiq;refine Vh bJ (eP bJ s n) pb s q W y k hW ?_ (λq hq=>Bj bJ (eP bJ s n) s q hq λj _ hj=>nA bJ s n j hj) hS hy;intro q' W' y' k' hW' hrp hy' hqq;obtain⟨a,k0,hat,Xe⟩:=GS hrp;have hag:∀W q,bO W pb s q false->fX a->aX ah 230 #[pT pb,iV (q':Int)] W (qZ a W):=λW qq hp ha=>Tz (eP bJ s n) pb s q' k0 qq false a W hp hW'.2.1 hat λpb' W2 y2 k2 hp' hA heq=>KZ s n pb' (q'+1) W2 y2 k2 hp' hA (heq▸ha) (by omega);exact Vq bJ (eP bJ s n) pb s q' k' k0 a y' W' hW' hat Xe hy' (λgb W g hp=>Hh (eP bJ s n) gb pb s q' W g hp λW2 h2=>ET bJ gb pb s n (q'+1) W2 h2.1 h2.2.1 (by omega)) hag (λW hp htm=>Nk pb s q' (k0+1) k' a y' W hp htm hy' hag)
theorem fE:∀x:bC,x.places<=129| .empty=>by decide| .iW=>by decide| .one _=>by show(1:Nat)<=129;decide| .seq a b=>agv _ _| .or a b=>agv _ _| .many a _=>fE a| .maybe a=>fE a
theorem wj(a b:bC):(a.join b).places=min (a.places+b.places) 129:=by
 by_cases ha:a= .empty;·subst ha;rw[oo];have:=fE b;show b.places=min (0+b.places) 129;omega
 ·by_cases hb:b= .empty;·subst hb;rw[qK];have:=fE a;show a.places=min (a.places+0) 129;omega
  ·rw[wJ ha hb];rfl
theorem pK(x y:bC):∀n,(x.gH y n).places=min (x.places+n*y.places) 129|0=>by have:=fE x;show x.places=min (x.places+0*y.places) 129;omega|n+1=>by show((x.gH y n).join y).places=_;rw[wj,pK x y n,Nat.succ_mul];omega
theorem sx(a:bC)(lo hi:Nat)(e:Bool)(h:e=false->lo<=hi):(bJ a lo hi e).places=min (a.places*(if e then lo+1 else hi)) 129:=by
 unfold bJ;by_cases hb:a.places*(if e then lo+1 else hi)>128;·rw[if_pos hb];show(129:Nat)=_;omega
 ·rw[if_neg hb];cases e with
  |true=>simp only[if_true]at hb⊢;rw[wj,pK];show min (min (0+lo*a.places) 129+a.places) 129=_;rw[asv lo,Nat.mul_succ]at*;omega|false=>
   simp only[jP,if_false]at hb⊢;rw[pK,pK];show min (min (0+lo*a.places) 129+(hi-lo)*a.places) 129=_;have h1:=h rfl;have h2:lo*a.places+(hi-lo)*a.places=a.places*hi:=by rw[<-Nat.add_mul,show lo+(hi-lo)=hi by omega,asv]
   omega
theorem VM(n:Nat)(w:ak):aX ah 204 #[iV (n:Int)] w λe w'=>e= .returned (iV ((min n 129:Nat):Int))/\Same w w':=by
 by_cases h:n>128;·
  have m1:decide (128<n)=true:=by simpa using h
  have m2:decide ((n:Int)>128)=true:=by simp;omega
  have hr:Hid (min n 129=129):=ae (by omega);go_enter ase,aoI;go_wp2_with fail;go_ret;exact⟨by rw[hr];rfl,Same.refl _⟩
 ·have m1:decide (128<n)=false:=by simp;omega
  have m2:decide ((n:Int)>128)=false:=by simp;omega
  have hr:Hid (min n 129=n):=ae (by omega);go_enter ase,aoI;go_wp2_with fail;go_ret;exact⟨by rw[hr];rfl,Same.refl _⟩
inductive uA(s:ByteArray):Nat->Nat->Prop|stop(j:Nat):cH s j 93=true->uA s j j|esc(i j:Nat):cH s i 92=true->i+1<s.size->uA s (i+2) j->uA s i j|step(i j:Nat):cH s i 92=false->cH s i 93=false->i<s.size->uA s (i+1) j->uA s i j
theorem uA.lt{s:ByteArray}{i j:Nat}(h:uA s i j):i<=j/\cH s j 93=true:=by induction h with|stop j h=>exact⟨au _,h⟩|esc i j _ _ _ ih=>exact⟨by omega,ih.2⟩|step i j _ _ _ _ ih=>exact⟨by omega,ih.2⟩
theorem S4{s:ByteArray}{q:Nat}(h:lW s q=true):q<s.size/\cH s q 45=false/\cH s q 93=false:=by unfold lW at h;simp only[cR,decide_eq_true_iff,afP]at h;exact⟨h.1.1,h.1.2,h.2⟩
theorem vU {s:ByteArray} {q k j:Nat} {c:UInt8} (h:cZ s q = .ok c k) (hq:lW s q=true) (hs:uA s k j):uA s q j:=by
 obtain ⟨h1,_,h3⟩:=S4 hq
 unfold cZ at h
 cases hb:cH s q 92 with
 | true =>
  have e:gL s q 92=q+1:=by unfold gL; rw [hb]; rfl
  rw [e] at h
  cases hg:s.data.toList[q+1]? with
  | none=>rw [hg] at h; cases h
  | some d =>
   rw [hg] at h
   cases h
   exact .esc q j hb (iy hg) hs
 | false =>
  have e:gL s q 92=q:=by unfold gL; rw [hb]; rfl
  rw [e] at h
  cases hg:s.data.toList[q]? with
  | none=>rw [hg] at h; cases h
  | some d =>
   rw [hg] at h
   cases h
   exact .step q j hb h3 h1 hs
theorem VE{s:ByteArray}{o o':bG}{q k j:Nat}(h:cB s o q= .ok o' k)(hs:uA s k j):uA s q j:=by
 unfold cB at h;split at h;·rename_i hq;cases h1:cZ s q with
  |fault e=>rw[h1]at h;cases h|ok lo j1=>
   rw[h1]at h;simp only at h;split at h;·
    rename_i h45;split at h;·rename_i hq2;cases h2:cZ s (j1+1)with
     |fault e=>rw[h2]at h;cases h|ok hi k2=>
      rw[h2]at h;simp only at h;split at h;·cases h
      ·cases h;have h3:=vU h2 hq2 hs;exact vU h1 hq (.step j1 j (qM h45 (by decide)) (qM h45 (by decide)) (gu h45) h3)
    ·cases h
   ·cases h;exact vU h1 hq hs
 ·cases h
theorem E3 {s:ByteArray}:∀ {f:Nat} {first:Bool} {o o':bG} {q j:Nat},fB s f first o q = .ok o' j->uA s q j
 | 0,_,_,_,_,_,h=>by cases h
 | f+1,first,o,o',q,j,h=>by
  cases hg:(first || !cH s q 93) with
  | true =>
   cases h1:cB s o q with
   | fault e=>rw [(qd hg).1 e h1] at h; cases h
   | ok o2 k =>
    rw [(qd hg).2 o2 k h1] at h
    exact VE h1 (E3 h)
  | false =>
   have h1:first=false/\cH s q 93=true:=by simpa using hg
   obtain ⟨rfl,h2⟩:=h1
   rw [y8 h2] at h
   cases h
   exact .stop _ h2
theorem Vd{s:ByteArray}{i j:Nat}{o:bG}(h:nW s i= .ok o j):∃j0,j=j0+1/\uA s i j0:=by unfold nW at h;cases hc:fB s (s.size+1) true .zero (gL s i 94)with
 |fault e=>rw[hc]at h;cases h|ok o2 j0=>rw[hc]at h;have h1:=E3 hc;cases hb:cH s i 94 with
  |true=>
   have e:gL s i 94=i+1:=by unfold gL;rw[hb];rfl
   rw[e]at h1;cases h;exact⟨j0,rfl,.step i j0 (qM hb (by decide)) (qM hb (by decide)) (gu hb) h1⟩|false=>
   have e:gL s i 94=i:=by unfold gL;rw[hb];rfl
   rw[e]at h1;cases h;exact⟨j0,rfl,h1⟩
def pd(w:ak)(cb:Nat)(s:ByteArray)(i:Nat):Prop:=w.heap[cb]?=some (.cells #[.string s,.int .i64 (i:Int)] 344 (0,0))/\i<=s.size/\s.size<=1000000
section
variable{w w':ak}{cb i:Nat}{s:ByteArray}
theorem pd.c0(h:pd w cb s i):w.cell? (aD cb 0)=some (.string s):=aq h.1
theorem pd.c1(h:pd w cb s i):w.cell? (aD cb 1)=some (iV (i:Int)):=aq h.1
theorem pd.free(h:pd w cb s i)(k:Nat):w.frozen? (aD cb k)=false:=aU h.1
theorem pd.same(h:pd w cb s i)(k:Same w w'):pd w' cb s i:=⟨by rw[k.heap];exact h.1,h.2⟩
theorem pd.set(h:pd w cb s i){j:Nat}(hj:j<=s.size):pd (w.setCell (aD cb 1) (iV (j:Int))) cb s j:=⟨by rw[heap_setCell_same w cb 1 _ _ _ h.1];simp,hj,h.2.2⟩
end
def tQ(cb:Nat)(s:ByteArray)(w0:ak)(i:Nat)(w:ak):Prop:=pd w cb s i/\Mod (λk=>k=cb) w0 w
section
variable{cb i:Nat}{s:ByteArray}{w0 w w':ak}
theorem tQ.same(h:tQ cb s w0 i w)(k:Same w w'):tQ cb s w0 i w':=⟨h.1.same k,h.2.trans (Mod.same k)⟩
theorem tQ.set(h:tQ cb s w0 i w){j:Nat}(hj:j<=s.size):tQ cb s w0 j (w.setCell (aD cb 1) (iV (j:Int))):=⟨h.1.set hj,h.2.trans (Mod.setCell _ _ _ λ_=>rfl)⟩
theorem tQ.refl(h:pd w cb s i):tQ cb s w i w:=⟨h,Mod.refl _ _⟩
theorem tQ.step{w1:ak}{j:Nat}(h:tQ cb s w0 i w)(k:tQ cb s w j w1):tQ cb s w0 j w1:=⟨k.1,h.2.trans k.2⟩
end
def pA(cb:Nat)(s:ByteArray)(w:ak)(N j:Nat)(e:rY)(w':ak):Prop:=e= .returned (.int .i64 (N:Int))/\tQ cb s w j w'
def pg(A:Nat->PR bC)(s:ByteArray)(z:bC)(j:Nat)(q N:Nat):Prop:=∃g X f x,(.ok z j:PR bC)=sF bJ A s (g+1) X (fU bJ A s (f+1) x q)/\N=(X x).places/\(∀y:bC,(X y).places=min ((X .empty).places+y.places) 129)/\s.size<f+1+q/\s.size<g+1+q
section
variable{A:Nat->PR bC}{s:ByteArray}{z:bC}{j q N:Nat}
theorem pg.le(h:pg A s z j q N):N<=129:=by obtain⟨g,X,f,x,_,rfl,_⟩:=h;exact fE _
theorem pg.start{n i:Nat}(hi:i<=s.size)(h:eP bJ s (n+1) i= .ok z j):pg (eP bJ s n) s z j i 0:=by
 refine⟨s.size,id,s.size,.empty,?_,rfl,λy=>?_,by omega,by omega⟩;·rw[<-h,BQ]
 ·have:=fE y;show y.places=min (0+y.places) 129;omega
theorem pg.more(hm:gY s q=true)(rC:(gq bJ A s q).On s q)(h:pg A s z j q N):∃y k,gq bJ A s q= .ok y k/\q<k/\k<=s.size/\pg A s z j k (min (N+y.places) 129):=by obtain⟨g,X,f,x,hR,hN,hX,hf,hg⟩:=h;rw[zJ hm]at hR;cases hr:gq bJ A s q with
 |fault e=>rw[hr]at hR;cases hR|ok y k=>
  rw[hr]at hR rC;have ahq:q<k/\k<=s.size:=rC;refine⟨y,k,rfl,ahq.1,ahq.2,g,X,f-1,x.join y,?_,?_,hX,by omega,by omega⟩;·rw[show f-1+1=f by omega];exact hR
  ·rw[hX,wj,hN,hX x];have:=fE x;omega
theorem pg.bar(hb:cH s q 124=true)(h:pg A s z j q N):pg A s z j (q+1) N:=by
 obtain⟨g,X,f,x,hR,hN,hX,hf,hg⟩:=h;have hlt:=gu hb;rw[mX (by unfold gY;rw[hb];simp)]at hR;have hR2:(.ok z j:PR bC)=vC bJ A s (g+1) (X x) q:=hR;rw[Dv hb]at hR2;refine⟨g-1,.or (X x),s.size,.empty,?_,?_,λy=>?_,by omega,by omega⟩;·rw[show g-1+1=g by omega];exact hR2
 ·have h1:=fE (X x);rw[hN];show _=min ((X x).places+0) 129;omega
 ·have h1:=fE (X x);show min ((X x).places+y.places) 129=min (min ((X x).places+0) 129+y.places) 129;omega
theorem pg.stop(hm:gY s q=false)(hb:cH s q 124=false)(h:pg A s z j q N):j=q/\N=z.places:=by obtain⟨g,X,f,x,hR,hN,hX,hf,hg⟩:=h;rw[mX hm]at hR;have hR2:(.ok z j:PR bC)=vC bJ A s (g+1) (X x) q:=hR;rw[zN hb]at hR2;cases hR2;exact⟨rfl,hN⟩
end
theorem Gr{s:ByteArray}{a y:bC}{k0 k:Nat}(h:dY bJ s a k0= .ok y k):(cH s k0 123=false/\(cH s k0 42=true\/cH s k0 43=true\/cH s k0 63=true)/\k=k0+1/\y.places=a.places)\/(cH s k0 123=false/\cH s k0 42=false/\cH s k0 43=false/\cH s k0 63=false/\k=k0/\y.places=a.places)\/(cH s k0 123=true/\∃lo k2 t,dI s (k0+1) 0= .ok lo k2/\y.places=min (a.places*t) 129/\t<=10/\((cH s k2 44=false/\t=lo/\cH s k2 125=true/\k=k2+1)\/(cH s k2 44=true/\cH s (k2+1) 125=true/\t=lo+1/\k=k2+2)\/(cH s k2 44=true/\cH s (k2+1) 125=false/\∃k3,dI s (k2+1) 0= .ok t k3/\cH s k3 125=true/\k=k3+1))):=by unfold dY at h;cases h1:cH s k0 42 with
 |true=>rw[if_pos h1]at h;cases h;exact .inl ⟨qM h1 (by decide),.inl rfl,rfl,rfl⟩|false=>rw[if_neg (by rw[h1];decide)]at h;cases h2:cH s k0 43 with
  |true=>rw[if_pos h2]at h;cases h;exact .inl ⟨qM h2 (by decide),.inr (.inl rfl),rfl,rfl⟩|false=>rw[if_neg (by rw[h2];decide)]at h;cases h3:cH s k0 63 with
   |true=>rw[if_pos h3]at h;cases h;exact .inl ⟨qM h3 (by decide),.inr (.inr rfl),rfl,rfl⟩|false=>rw[if_neg (by rw[h3];decide)]at h;cases h4:cH s k0 123 with
    |false=>rw[if_neg (by rw[h4];decide)]at h;cases h;exact .inr (.inl ⟨rfl,rfl,rfl,rfl,rfl,rfl⟩)|true=>
     rw[if_pos h4]at h;refine .inr (.inr ⟨rfl,?_⟩);obtain⟨lo,k2,hd,h|h⟩:=Ch h;·
      have hl:=ny hd;obtain⟨xq,h|h⟩:=h;·obtain⟨kO,rfl,rfl⟩:=h;refine⟨lo,k2,lo+1,hd,?_,by omega,.inr (.inl ⟨xq,kO,rfl,rfl⟩)⟩;exact sx a lo lo true (λe=>by cases e)
      ·obtain⟨kO,hi,k3,hd2,hlh,h3,rfl,rfl⟩:=h;refine⟨lo,k2,hi,hd,?_,?_,.inr (.inr ⟨xq,kO,k3,hd2,h3,rfl⟩)⟩;·exact sx a lo hi false (λ_=>by omega)
       ·have:=ny hd2;omega
     ·have hl:=ny hd;obtain⟨xq,kO,rfl,rfl⟩:=h;refine⟨lo,k2,lo,hd,?_,by omega,.inl ⟨xq,rfl,kO,rfl⟩⟩;exact sx a lo lo false (λ_=>au _)
theorem uA.cases{s:ByteArray}{q j:Nat}(h:uA s q j):(cH s q 93=true/\q=j)\/(cH s q 92=true/\q+1<s.size/\uA s (q+2) j)\/(cH s q 92=false/\cH s q 93=false/\q<s.size/\uA s (q+1) j):=by cases h with|stop _ h=>exact .inl ⟨h,rfl⟩|esc _ _ h1 h2 h3=>exact .inr (.inl ⟨h1,h2,h3⟩)|step _ _ h1 h2 h3 h4=>exact .inr (.inr ⟨h1,h2,h3,h4⟩)
theorem mo{s:ByteArray}{i:Nat}{c:UInt8}(h:cH s i c=true):s.data.toList[i]?=some c:=by unfold cH at h;simpa using h
theorem aaS{s:ByteArray}{i cn:Nat}{c d:UInt8}(h:cH s i d=false)(hc:s.data.toList[i]?=some c)(hn:c.toNat=cn):cn≠d.toNat:=λe=>by
 rw[jD hc]at h;have:c≠d:=by simpa using h
 exact this (UInt8.toNat_inj.1 (by rw[hn,e]))
theorem ZP{s:ByteArray}{i:Nat}(h:s.size<=i)(c:UInt8):cH s i c=false:=by unfold cH;rw[at_end s i h];simp
def xZ(s:ByteArray)(cb:Nat)(w:ak):Nat:=match w.cell? ⟨cb,1,none⟩with|some (.int _ i)=>s.size-i.toNat|_=>0
theorem pd.left{w:ak}{cb i:Nat}{s:ByteArray}(h:pd w cb s i):xZ s cb w=s.size-i:=by unfold xZ;rw[h.c1];simp
theorem pd.facts{w:ak}{cb i:Nat}{s:ByteArray}(h:pd w cb s i):w.cell? (aD cb 0)=some (.string s)/\w.cell? (aD cb 1)=some (iV (i:Int))/\w.frozen? (aD cb 1)=false/\i<=s.size/\s.size<=1000000/\IntKind.i64.wrap ((i:Int)+1)=(i:Int)+1/\IntKind.i64.wrap ((i:Int)+1+1)=(i:Int)+1+1/\IntKind.i64.wrap ((i:Int)+2)=(i:Int)+2:=by have:=h.2;exact⟨h.c0,h.c1,h.free 1,h.2.1,h.2.2,aK _ (by omega),aK _ (by omega),aK _ (by omega)⟩
theorem iQ{s:ByteArray}{i:Nat}{c:UInt8}(h:s.data.toList[i]?=some c)(n:Nat)(hn:c.toNat=n):(∀h,((s[i]'h).toNat:Int)=(n:Int))/\((0:Int)<=(i:Int)/\(i:Int)<(s.size:Int))/\i<s.size:=by have hl:=iy h;refine⟨λh2=>?_,by omega,hl⟩;have h1:=iP s i h2;rw[h]at h1;rw[<-aJ h1,hn]
theorem Au{s:ByteArray}{i:Nat}(hi:i<s.size)(l:List UInt8)(h:∀d∈l,cH s i d=false):∃n:Nat,(∀h,((s[i]'h).toNat:Int)=(n:Int))/\((0:Int)<=(i:Int)/\(i:Int)<(s.size:Int))/\∀d∈l,((n:Int)==((d.toNat:Nat):Int))=false/\((n:Int)!=((d.toNat:Nat):Int))=true:=by
 have hc:=iP s i hi;obtain⟨g,z,_⟩:=iQ hc _ rfl;refine⟨_,g,z,λd hd=>?_⟩;have h1:=aaS (h d hd) hc rfl;have h2:(((s[i]).toNat:Int)==(d.toNat:Int))=false:=by rw[beq_eq_false_iff_ne];omega
 exact⟨h2,by rw[bne,h2];rfl⟩
theorem S9(cb:Nat)(s:ByteArray)(i k N:Nat)(w:ak)(hC:pd w cb s i)(hi:s.data.toList[i]?=some 40)(hk:k<s.size)(hA:∀W,tQ cb s w (i+1) W->aX ah 161 #[pT cb] W (pA cb s W N k)):aX ah 203 #[pT cb] w (pA cb s w N (k+1)):=by obtain⟨c0,c1,fr,_,_,q1,_⟩:=hC.facts;obtain⟨g,z,hl⟩:=iQ hi 40 rfl;have H:=ae (aA hA (aA hC hk));clear hA hC hi hk;go_enter FK,Dr;go_wp2_with(first|go_quiet(fail)|(go_at_call 161;refine(H.1 _ (((tQ.refl H.2.1).same (Same.drewN _ _)).set (j:=i+1) hl)).mono ?_;rintro e wc⟨rfl,hc⟩;obtain⟨d0,d1,fs,_,_,q3,_⟩:=hc.1.facts;have HS:=ae hc;clear hc));go_ret;exact⟨rfl,((((tQ.refl H.2.1).same (Same.drewN _ _)).set (j:=i+1) hl).step HS).set (j:=k+1) H.2.2⟩
theorem Td(cb:Nat)(s:ByteArray)(i:Nat)(w:ak)(hC:pd w cb s i)(hi:s.data.toList[i]?=some 92)(hk:i+1<s.size):aX ah 203 #[pT cb] w (pA cb s w 1 (i+2)):=by obtain⟨c0,c1,fr,_,_,q1,q2,_⟩:=hC.facts;obtain⟨g,z,hl⟩:=iQ hi 92 rfl;have H:=ae (tQ.refl hC);clear hC hi;go_enter FK,Dr;go_wp2_with(go_quiet(fail));go_ret;exact⟨rfl,((H.same (Same.drewN _ _)).set (j:=i+1) hl).set (j:=i+2) hk⟩
theorem Hm(cb:Nat)(s:ByteArray)(i:Nat)(w:ak)(hC:pd w cb s i)(hi:i<s.size)(nH:cH s i 40=false)(uN:cH s i 91=false)(tP:cH s i 92=false):aX ah 203 #[pT cb] w (pA cb s w 1 (i+1)):=by obtain⟨c0,c1,fr,_,_,q1,_⟩:=hC.facts;obtain⟨n,g,z,hm⟩:=Au hi [40,91,92] (by simp[nH,uN,tP]);have m40:((n:Int)==40)=false:=(hm 40 (by simp)).1;have m91:((n:Int)==91)=false:=(hm 91 (by simp)).1;have m92:((n:Int)==92)=false:=(hm 92 (by simp)).1;have H:=ae (tQ.refl hC);clear hC nH uN tP hm;go_enter FK,Dr;go_wp2_with(go_quiet(fail));go_ret;exact⟨rfl,(H.same (Same.drewN _ _)).set (j:=i+1) hi⟩
theorem E8{cb q q2:Nat}{s:ByteArray}{w W W2:ak}(h:xZ s cb W=s.size-q)(h2:tQ cb s w q2 W2)(hl:q<q2):tQ cb s w q2 W2/\xZ s cb W2<xZ s cb W:=by have:=h2.1.left;have:=h2.1.2.1;exact⟨h2,by omega⟩
theorem S8(cb:Nat)(s:ByteArray)(i j:Nat)(w:ak)(hC:pd w cb s i)(hi:s.data.toList[i]?=some 91)(hj:uA s (i+1) j):aX ah 203 #[pT cb] w (pA cb s w 1 (j+1)):=by
 obtain⟨c0,c1,fr,_,_,q1,_⟩:=hC.facts;obtain⟨g,z,hl⟩:=iQ hi 91 rfl;have H:=ae (aA (tQ.refl hC) hj);clear hC hi hj;go_enter FK,Dr;go_wp2_with(go_quiet(fail));go_loopw[41](λ_ wr=>∃q:Nat,Hid (tQ cb s w q wr/\uA s q j))(λ_ wr=>xZ s cb wr);case atStart=>exact⟨i+1,ae ⟨(H.1.same (Same.drewN _ _)).set (j:=i+1) hl,H.2⟩⟩
 case round=>as_aux_lemma=>
  obtain⟨q,HO⟩:=hrel;clear H c0 c1 fr q1 g z;obtain⟨c0,c1,fr,_,_,q1,q2,_⟩:=HO.1.1.facts;have L:=ae HO.1.1.left;have hqj:=HO.2.lt;rcases HO.2.cases with⟨CE,rfl⟩|⟨tP,h1,hs⟩|⟨tP,CE,h1,hs⟩;·obtain⟨g,z,hl⟩:=iQ (mo CE) 93 rfl;clear CE hqj;go_wp2_with(go_quiet(fail));go_ret;exact⟨rfl,(HO.1.same (Same.drewN _ _)).set (j:=q+1) hl⟩
  ·obtain⟨g,z,hl⟩:=iQ (mo tP) 92 rfl;have HS:=ae (aA (λn=>E8 L.out (((HO.1.same (Same.drewN wr n)).set (j:=q+1) hl).set (j:=q+2) h1) (by omega)) hs);clear tP hqj hs;go_wp2_with(go_quiet(fail));exact⟨⟨q+2,ae ⟨(HS.1 _).1,HS.2⟩⟩,(HS.1 _).2⟩
  ·obtain⟨n,g,z,hm⟩:=Au h1 [93,92] (by simp[CE,tP]);have m93:((n:Int)!=93)=true:=(hm 93 (by simp)).2;have m92:((n:Int)==92)=false:=(hm 92 (by simp)).1;have HS:=ae (aA (λn=>E8 L.out ((HO.1.same (Same.drewN wr n)).set (j:=q+1) h1) (by omega)) hs);clear tP CE hqj hs hm;go_wp2_with(go_quiet(fail));exact⟨⟨q+1,ae ⟨(HS.1 _).1,HS.2⟩⟩,(HS.1 _).2⟩
theorem Tc(A:Nat->PR bC)(cb:Nat)(s:ByteArray)(i j:Nat)(x:bC)(w:ak)(hC:pd w cb s i)(h:eY A s i= .ok x j)(hA:∀W y k,tQ cb s w (i+1) W->A (i+1)= .ok y k->aX ah 161 #[pT cb] W (pA cb s W y.places k)):aX ah 203 #[pT cb] w (pA cb s w x.places j):=by unfold eY at h;cases hc:s.data.toList[i]? with
 |none=>rw[hc]at h;cases h|some c=>
  rw[hc]at h;simp only at h;have hlt:=iy hc;split at h;·rename_i nH;subst nH;cases ha:A (i+1)with
   |fault e=>rw[ha]at h;cases h|ok y k=>
    rw[ha]at h;simp only at h;split at h;·rename_i Ud;cases h;exact S9 cb s i k x.places w hC hc (gu Ud) λW hW=>hA W _ _ hW ha
    ·cases h
  ·rename_i nH;have b40:cH s i 40=false:=by rw[jD hc];exact decide_eq_false nH
   split at h;·rename_i uY;subst uY;cases h;exact Hm cb s i w hC hlt b40 (by rw[jD hc];rfl) (by rw[jD hc];rfl)
   ·split at h;·rename_i uN;subst uN;cases hs:nW s (i+1)with|fault e=>rw[hs]at h;cases h|ok o k=>rw[hs]at h;cases h;obtain⟨j0,rfl,hsc⟩:=Vd hs;exact S8 cb s i j0 w hC hc hsc
    ·rename_i uN;have b91:cH s i 91=false:=by rw[jD hc];exact decide_eq_false uN
     split at h;·cases h
     ·cases hs:cZ s i with
      |fault e=>rw[hs]at h;cases h|ok d k=>
       rw[hs]at h;cases h;unfold cZ at hs;by_cases tP:c=92;·
        subst tP;have b92:cH s i 92=true:=by rw[jD hc];rfl
        have e:gL s i 92=i+1:=by unfold gL;rw[b92];rfl
        rw[e]at hs;cases hg:s.data.toList[i+1]? with|none=>rw[hg]at hs;cases hs|some d2=>rw[hg]at hs;cases hs;exact Td cb s i w hC hc (iy hg)
       ·have b92:cH s i 92=false:=by rw[jD hc];exact decide_eq_false tP
        have e:gL s i 92=i:=by unfold gL;rw[b92];rfl
        rw[e,hc]at hs;cases hs;exact Hm cb s i w hC hlt b40 b91 b92
theorem xQ(v:Int)(n:Nat)(h:v=(n:Int))(w:ak):aX ah 204 #[iV v] w λe w'=>∃m:Nat,m=min n 129/\e= .returned (iV (m:Int))/\Same w w':=by subst h;exact(VM n w).mono λe w' h=>⟨_,rfl,h⟩
theorem LV{s:ByteArray}{i lo k2:Nat}(h:dI s i 0= .ok lo k2):∃c,s.data.toList[i]?=some c/\48<=c.toNat/\c.toNat<=57/\lo=c.toNat-48/\k2=i+1:=by
 unfold dI at h;split at h;·cases h
 ·rename_i c hc;split at h;·rename_i hr;cases h;exact⟨c,hc,by omega,hr.2,rfl,rfl⟩
  ·cases h
theorem dlt{a b:Nat}(h:a<b):decide ((a:Int)<(b:Int))=true:=by simp;exact h
theorem dge{a b:Nat}(h:¬a<b):decide ((a:Int)<(b:Int))=false:=by simp;omega
theorem Zp{s:ByteArray}{i:Nat}(h:cH s i 42=true\/cH s i 43=true\/cH s i 63=true):∃n:Nat,i<s.size/\(∀h,((s[i]'h).toNat:Int)=(n:Int))/\((0:Int)<=(i:Int)/\(i:Int)<(s.size:Int))/\((n:Int)==123)=false/\(((n:Int)==42)=true\/((n:Int)==42)=false/\(((n:Int)==43)=true\/((n:Int)==43)=false/\((n:Int)==63)=true)):=by
 rcases h with h|h|h;·obtain⟨g,z,hl⟩:=iQ (mo h) 42 rfl;exact⟨42,hl,g,z,rfl,.inl rfl⟩
 ·obtain⟨g,z,hl⟩:=iQ (mo h) 43 rfl;exact⟨43,hl,g,z,rfl,.inr ⟨rfl,.inl rfl⟩⟩
 ·obtain⟨g,z,hl⟩:=iQ (mo h) 63 rfl;exact⟨63,hl,g,z,rfl,.inr ⟨rfl,.inr ⟨rfl,rfl⟩⟩⟩
theorem qV{A:Nat->PR bC}{cb i j q k N P K m1 m2:Nat}{s:ByteArray}{z:bC}{w wr W:ak}(h:tQ cb s w k W)(h2:m2=min (N+m1) 129)(h1:m1=min K 129)(hK:min K 129=P)(hN:q<k/\pg A s z j k (min (N+P) 129)/\i<=k)(hL:xZ s cb wr=s.size-q):(∃q' N':Nat,Value.int .i64 (m2:Int)=iV (N':Int)/\Hid (tQ cb s w q' W/\pg A s z j q' N'/\i<=q'))/\xZ s cb W<xZ s cb wr:=by
 have e:m2=min (N+P) 129:=by omega
 have:=h.1.left;have:=h.1.2.1;exact⟨⟨k,m2,rfl,ae ⟨h,by rw[e];exact hN.2.1,hN.2.2⟩⟩,by omega⟩
theorem Tg(A:Nat->PR bC)(cb:Nat)(s:ByteArray)(i j:Nat)(z:bC)(w:ak)(hC:pd w cb s i)(hL:pg A s z j i 0)(hat:∀q W a k,tQ cb s w q W->q<s.size->i<=q->eY A s q= .ok a k->aX ah 203 #[pT cb] W (pA cb s W a.places k))(rC:∀q,q<=s.size->(gq bJ A s q).On s q):aX ah 161 #[pT cb] w (pA cb s w z.places j):=by
 have H:=ae (aA hat (aA rC (aA (tQ.refl hC) hL)));have hsz:=hC.2.2;clear hC hat rC hL;go_enter Tryz.func161,Tryz.ntmps161;go_wp2_with fail;go_loopw[3](λnv wr=>∃q N:Nat,nv= .int .i64 (N:Int)/\Hid (tQ cb s w q wr/\pg A s z j q N/\i<=q))(λ_ wr=>xZ s cb wr);case atStart=>exact⟨i,0,rfl,ae ⟨H.2.2.1,H.2.2.2,au _⟩⟩
 case round=>as_aux_lemma=>
  obtain⟨q,N,rfl,HO⟩:=hrel;obtain⟨c0,c1,fr,hqs,_,q1,_⟩:=HO.1.1.facts;have L:=ae HO.1.1.left;have hNL:=HO.2.1.le;by_cases hlt:q<s.size;·
   have n1:=dlt hlt;by_cases sB:cH s q 41=true;·obtain⟨rfl,rfl⟩:=HO.2.1.stop (by unfold gY;rw[sB];simp) (qM sB (by decide));obtain⟨g,zz,_⟩:=iQ (mo sB) 41 rfl;clear sB H;go_wp2_with(go_quiet(fail));go_ret;exact⟨rfl,HO.1.same (Same.drewN _ _)⟩
   ·by_cases tq:cH s q 124=true;·obtain⟨g,zz,hl⟩:=iQ (mo tq) 124 rfl;have HX:=ae (aA (HO.2.1.bar tq) (λn=>E8 L.out ((HO.1.same (Same.drewN wr n)).set (j:=q+1) hl) (Nat.lt_succ_self q)));clear tq sB H;go_wp2_with(go_quiet(fail));exact⟨⟨q+1,N,rfl,ae ⟨(HX.2 _).1,HX.1,Nat.le_succ_of_le HO.2.2⟩⟩,(HX.2 _).2⟩
    ·have Ud:cH s q 41=false:=by simpa using sB
     have OY:cH s q 124=false:=by simpa using tq
     obtain⟨y,k,EK,hqk,hks,wM⟩:=HO.2.1.more (by unfold gY;rw[OY,Ud,decide_eq_true hlt];rfl) (H.2.1 q hqs);have HN:=ae (aA hqk (aA wM (ij (Nat.lt_of_le_of_lt HO.2.2 hqk))));obtain⟨a,k0,acj,aix⟩:=GS EK;have hb:=Gr aix;obtain⟨v,g,zz,hm⟩:=Au hlt [41,124] (by simp[Ud,OY]);have m41:((v:Int)!=41)=true:=(hm 41 (by simp)).2;have atd:((v:Int)==124)=false:=(hm 124 (by simp)).1;have hcall:=λW hW=>H.1 q W a k0 hW hlt HO.2.2 acj;obtain⟨ka,hka⟩:∃ka,a.places=ka:=⟨_,rfl⟩;have amm:ka<=129:=by rw[<-hka];exact fE a
     rw[hka]at hb hcall;have hk0:k0<=1000000:=by
      rcases hb with⟨_,_,rfl,_⟩|⟨_,_,_,_,rfl,_⟩|⟨h,_⟩;·omega
      ·omega
      ·have:=gu h;omega
     have r1:IntKind.i64.wrap ((k0:Int)+1)=(k0:Int)+1:=aK _ (by omega);have r2:IntKind.i64.wrap ((k0:Int)+2)=(k0:Int)+2:=aK _ (by omega);have r3:IntKind.i64.wrap ((k0:Int)+2+1)=(k0:Int)+2+1:=aK _ (by omega);have r4:IntKind.i64.wrap ((k0:Int)+2+1+1)=(k0:Int)+2+1+1:=aK _ (by omega);have r5:IntKind.i64.wrap ((k0:Int)+2+1+1+1)=(k0:Int)+2+1+1+1:=aK _ (by omega);unfold pA at hcall;have HA:=ae hcall;clear hcall hka acj aix EK wM hm Ud OY sB tq hqk H;rcases hb with⟨Aj,hs,rfl,hy⟩|⟨Aj,YR,h43,h63,rfl,hy⟩|⟨Aj,lo,k2,t,hd,hy,ht,hr⟩;·obtain⟨u,hl,g2,z2,e1,e2⟩:=Zp hs;have n2:=dlt hl;have HK:Hid (min ka 129=y.places):=ae (by omega);obtain⟨K,rfl⟩:∃K,K=ka:=⟨_,rfl⟩;clear Aj hs hy;rcases e2 with e2|⟨e2,e3|⟨e3,e4⟩⟩;all_goals as_aux_lemma=>go_wp2_with(first|go_quiet(fail)|(go_at_call 203;refine(HA.out _ (HO.1.same (Same.drewN _ _))).mono ?_;rintro e wb⟨rfl,hc⟩;obtain⟨d0,d1,fs,_⟩:=hc.1.facts;have HB:=ae ((HO.1.same (Same.drewN _ _)).step hc);clear hc c0 c1 fr)|(go_at_call 204;first|(refine(xQ _ K (by omega) _).mono ?_;rintro e wx⟨m1,hm,rfl,hx⟩;have HX:=ae (aA (((HB.same (Same.drewN _ _)).set (j:=k0+1) hl).same hx) hm);have qs:IntKind.i64.wrap ((N:Int)+(m1:Int))=(N:Int)+(m1:Int):=aK _ (by omega);clear hx hm)|(refine(xQ _ (N+m1) (by omega) _).mono ?_;rintro e wy⟨m2,hm,rfl,hx⟩;have HY:=ae (aA (HX.1.same hx) hm);clear hx hm)));exact qV HY.1 HY.2 HX.2 HK HN L
     ·have HK:Hid (min ka 129=y.places):=ae (by omega);obtain⟨K,rfl⟩:∃K,K=ka:=⟨_,rfl⟩;by_cases hl:k<s.size;case' pos=>have n2:=dlt hl;obtain⟨u,g2,z2,hm⟩:=Au hl [123,42,43,63] (by simp[Aj,YR,h43,h63]);have e1:((u:Int)==123)=false:=(hm 123 (by simp)).1;have e2:((u:Int)==42)=false:=(hm 42 (by simp)).1;have e3:((u:Int)==43)=false:=(hm 43 (by simp)).1;have e4:((u:Int)==63)=false:=(hm 63 (by simp)).1;clear hm
      case' neg=>have n2:=dge hl
      all_goals clear Aj YR h43 h63 hy;go_wp2_with(first|go_quiet(fail)|(go_at_call 203;refine(HA.out _ (HO.1.same (Same.drewN _ _))).mono ?_;rintro e wb⟨rfl,hc⟩;obtain⟨d0,d1,fs,_⟩:=hc.1.facts;have HB:=ae ((HO.1.same (Same.drewN _ _)).step hc);clear hc c0 c1 fr)|(go_at_call 204;first|(refine(xQ _ K (by omega) _).mono ?_;rintro e wx⟨m1,hm,rfl,hx⟩;have HX:=ae (aA ((HB.same (Same.drewN _ _)).same hx) hm);have qs:IntKind.i64.wrap ((N:Int)+(m1:Int))=(N:Int)+(m1:Int):=aK _ (by omega);clear hx hm)|(refine(xQ _ (N+m1) (by omega) _).mono ?_;rintro e wy⟨m2,hm,rfl,hx⟩;have HY:=ae (aA (HX.1.same hx) hm);clear hx hm)));exact qV HY.1 HY.2 HX.2 HK HN L
     ·obtain⟨cl,hcl,l0,l9,rfl,rfl⟩:=LV hd;obtain⟨g2,z2,hl⟩:=iQ (mo Aj) 123 rfl;have n2:=dlt hl;obtain⟨ln,Jb⟩:∃ln,cl.toNat=ln:=⟨_,rfl⟩;obtain⟨g3,z3',_⟩:=iQ hcl ln Jb;have z3:(0:Int)<=(k0:Int)+1/\(k0:Int)+1<(s.size:Int):=z3';rw[Jb]at l0 l9 hr;obtain⟨lo,hlo⟩:∃lo,ln-48=lo:=⟨_,rfl⟩;rw[hlo]at hr;have s1:IntKind.u8.wrap ((ln:Int)-48)=(lo:Int):=by show((ln:Int)-48)%256=_;omega
      have at5:lo<=9:=by omega
      obtain⟨K,hK⟩:∃K,K=ka*t:=⟨_,rfl⟩;have hK9:K<=129*10:=by rw[hK];exact Nat.mul_le_mul amm ht
      have HK:Hid (min K 129=y.places):=ae (by rw[hy,<-hK]);have sK:∀v:Int,v=(t:Int)->IntKind.i64.wrap ((ka:Int)*v)=(K:Int):=λv hv=>by rw[hv,show(ka:Int)*(t:Int)=(K:Int)by rw[hK];push_cast;rfl];exact aK _ (by omega)
      have s2:IntKind.i64.wrap ((lo:Int)+1)=(lo:Int)+1:=aK _ (by omega);clear Aj hcl Jb hlo hd hy hK z3' l0 l9;rcases hr with⟨xq,rfl,kO,rfl⟩|⟨xq,kO,rfl,rfl⟩|⟨xq,kO,k3,hd2,h6,rfl⟩;·obtain⟨g4,z4',hl2⟩:=iQ (mo kO) 125 rfl;have z4:(0:Int)<=(k0:Int)+2/\(k0:Int)+2<(s.size:Int):=z4';have sk:=sK _ rfl;have HL:=ae hl2;clear xq kO z4' sK;go_wp2_with(first|go_quiet(fail)|(go_at_call 203;refine(HA.out _ (HO.1.same (Same.drewN _ _))).mono ?_;rintro e wb⟨rfl,hc⟩;obtain⟨d0,d1,fs,_⟩:=hc.1.facts;have HB:=ae ((HO.1.same (Same.drewN _ _)).step hc);clear hc c0 c1 fr)|(go_at_call 204;first|(refine(xQ _ K (by omega) _).mono ?_;rintro e wx⟨m1,hm,rfl,hx⟩;have HX:=ae (aA (((((HB.same (Same.drewN _ _)).set (j:=k0+2) (ij HL.out)).same (Same.drewN _ _)).set (j:=k0+2+1) HL.out).same hx) hm);have qs:IntKind.i64.wrap ((N:Int)+(m1:Int))=(N:Int)+(m1:Int):=aK _ (by omega);clear hx hm)|(refine(xQ _ (N+m1) (by omega) _).mono ?_;rintro e wy⟨m2,hm,rfl,hx⟩;have HY:=ae (aA (HX.1.same hx) hm);clear hx hm)));exact qV HY.1 HY.2 HX.2 HK HN L
      ·obtain⟨g4,z4',hl2⟩:=iQ (mo xq) 44 rfl;obtain⟨g5,z5',hl3⟩:=iQ (mo kO) 125 rfl;have z4:(0:Int)<=(k0:Int)+2/\(k0:Int)+2<(s.size:Int):=z4';have z5:(0:Int)<=(k0:Int)+2+1/\(k0:Int)+2+1<(s.size:Int):=z5';have sk:=sK ((lo:Int)+1) (by omega);have HL:=ae (aA hl2 hl3);clear xq kO z4' z5' sK;go_wp2_with(first|go_quiet(fail)|(go_at_call 203;refine(HA.out _ (HO.1.same (Same.drewN _ _))).mono ?_;rintro e wb⟨rfl,hc⟩;obtain⟨d0,d1,fs,_⟩:=hc.1.facts;have HB:=ae ((HO.1.same (Same.drewN _ _)).step hc);clear hc c0 c1 fr)|(go_at_call 204;first|(refine(xQ _ K (by omega) _).mono ?_;rintro e wx⟨m1,hm,rfl,hx⟩;have HX:=ae (aA (((((((HB.same (Same.drewN _ _)).set (j:=k0+2) (ij HL.1)).same (Same.drewN _ _)).set (j:=k0+2+1) HL.1).same (Same.drewN _ _)).set (j:=k0+2+1+1) HL.2).same hx) hm);have qs:IntKind.i64.wrap ((N:Int)+(m1:Int))=(N:Int)+(m1:Int):=aK _ (by omega);clear hx hm)|(refine(xQ _ (N+m1) (by omega) _).mono ?_;rintro e wy⟨m2,hm,rfl,hx⟩;have HY:=ae (aA (HX.1.same hx) hm);clear hx hm)));exact qV HY.1 HY.2 HX.2 HK HN L
      ·obtain⟨ch,hch,t0,t9,rfl,rfl⟩:=LV hd2;obtain⟨g4,z4',hl2⟩:=iQ (mo xq) 44 rfl;obtain⟨hn,hhn⟩:∃hn,ch.toNat=hn:=⟨_,rfl⟩;obtain⟨g5,z5',hl3⟩:=iQ hch hn hhn;have z4:(0:Int)<=(k0:Int)+2/\(k0:Int)+2<(s.size:Int):=z4';have z5:(0:Int)<=(k0:Int)+2+1/\(k0:Int)+2+1<(s.size:Int):=z5';rw[hhn]at t0 t9 sK ht;have atb:((hn:Int)==125)=false:=by rw[beq_eq_false_iff_ne];omega
       obtain⟨t,ht2⟩:∃t,hn-48=t:=⟨_,rfl⟩;rw[ht2]at sK;have ht9:t<=9:=by omega
       have s3:IntKind.u8.wrap ((hn:Int)-48)=(t:Int):=by show((hn:Int)-48)%256=_;omega
       have sk:=sK _ rfl;have HL:=ae (aA hl2 (aA hl3 (gu h6)));clear xq kO z4' z5' sK hd2 hch hhn t0 t9 ht2 h6;go_upto_region 15 with(first|go_quiet(fail)|(go_at_call 203;refine(HA _ (HO.1.same (Same.drewN _ _))).mono ?_;rintro e wb⟨rfl,hc⟩;obtain⟨d0,d1,fs,_⟩:=hc.1.facts;have HB:=ae ((HO.1.same (Same.drewN _ _)).step hc);clear hc c0 c1 fr));refine(?_:∀W,tQ cb s w (k0+2+1) W->Code.wp _ _ _ _ W) _ (((((HB.same (Same.drewN _ _)).set (j:=k0+2) (ij HL.1)).same (Same.drewN _ _)).set (j:=k0+2+1) HL.1).same ((Same.drewN _ _).trans (Same.drewN _ _)));intro W hW;clear d0 d1 fs;obtain⟨d0,d1',fs,_⟩:=hW.1.facts;have d1:W.cell? (aD cb 1)=some (iV ((k0:Int)+2+1)):=d1';have HW:=ae hW;clear hW d1';go_wp2_with(first|go_quiet(fail)|(go_at_call 203;refine(HA.out _ (HO.1.same (Same.drewN _ _))).mono ?_;rintro e wb⟨rfl,hc⟩;obtain⟨d0,d1,fs,_⟩:=hc.1.facts;have HB:=ae ((HO.1.same (Same.drewN _ _)).step hc);clear hc c0 c1 fr)|(go_at_call 204;first|(refine(xQ _ K (by omega) _).mono ?_;rintro e wx⟨m1,hm,rfl,hx⟩;have HX:=ae (aA (((HW.set (j:=k0+2+1+1) HL.2.1).set (j:=k0+2+1+1+1) HL.2.2).same hx) hm);have qs:IntKind.i64.wrap ((N:Int)+(m1:Int))=(N:Int)+(m1:Int):=aK _ (by omega);clear hx hm)|(refine(xQ _ (N+m1) (by omega) _).mono ?_;rintro e wy⟨m2,hm,rfl,hx⟩;have HY:=ae (aA (HX.1.same hx) hm);clear hx hm)));exact qV HY.1 HY.2 HX.2 HK HN L
  ·have n1:=dge hlt;obtain⟨rfl,rfl⟩:=HO.2.1.stop (by unfold gY;rw[decide_eq_false hlt];rfl) (ZP (by omega) 124);clear H;go_wp2_with(go_quiet(fail));go_ret;exact⟨rfl,HO.1.same (Same.drewN _ _)⟩
theorem Md(cb:Nat)(s:ByteArray):∀(n i j:Nat)(z:bC)(w:ak),pd w cb s i->eP bJ s n i= .ok z j->s.size<n+i->aX ah 161 #[pT cb] w (pA cb s w z.places j)|0,i,j,z,w,hC,h,hn=>absurd hC.2.1 (by omega)|n+1,i,j,z,w,hC,h,hn=>Tg (eP bJ s n) cb s i j z w hC (pg.start hC.2.1 h) (λq W a k hW hq hiq ha=>Tc (eP bJ s n) cb s q k a W hW.1 ha λW2 y k2 h2 hA=>Md cb s n (q+1) k2 y W2 h2.1 hA (by omega)) (λq hq=>Bj bJ (eP bJ s n) s q hq λj _ hj=>nA bJ s n j hj)
theorem Kj(s:ByteArray)(hs:s.size<=1000000)(j:Nat)(z:bC)(w:ak)(h:eP bJ s (s.size+1) 0= .ok z j):aX ah 115 #[.string s] w λe w'=>e= .returned (iV (z.places:Int))/\aI w.heap.size w w':=by have hct:pd (w.alloc (.cells #[.string s,iV 0] 344)) w.heap.size s 0:=⟨heap_alloc_new _ _,aW _,hs⟩;have hb:aI w.heap.size w (w.alloc (.cells #[.string s,iV 0] 344)):=(aB _ w).alloc (au _) _;obtain⟨w1,hw1⟩:∃w1,w1=w.alloc (.cells #[.string s,iV 0] 344):=⟨_,rfl⟩;rw[<-hw1]at hct hb;have hcall:=Md w.heap.size s (s.size+1) 0 j z w1 hct h (by omega);unfold pA at hcall;obtain⟨n,hn⟩:∃n,z.places=n:=⟨_,rfl⟩;rw[hn]at hcall⊢;obtain⟨pb,hpb⟩:∃pb,pb=w.heap.size:=⟨_,rfl⟩;have HB:=ae hb;have HPB:=ae hpb;have pG:Hid (aX ah 161 #[pT w.heap.size] w1 λe w'=>e= .returned (iV (n:Int))/\tQ w.heap.size s w1 j w'):=ae hcall;clear hcall hct hb hpb h hn;go_enter Tryz.func115,Tryz.ntmps115;go_upto_region 2 with fail;rw[<-hw1];clear hw1;go_wp2_with(go_at_call 161;refine pG.mono ?_;rintro e w2⟨rfl,ain⟩;have Yr:=ae ain;clear ain);go_ret;exact⟨rfl,HB.trans (Yr.2.toBelow HB.size λk hk=>by rw[hk];exact au _)⟩
theorem tX:∀{x:bC},x.places<=128->fX x| .empty,_=>trivial| .iW,h=>by have:(129:Nat)<=128:=h;omega| .one _,_=>trivial| .seq a b,h=>by have h1:min (a.places+b.places) 129<=128:=h;exact⟨tX (by omega),tX (by omega)⟩| .or a b,h=>by have h1:min (a.places+b.places) 129<=128:=h;exact⟨tX (by omega),tX (by omega)⟩| .many a _,h=>tX (x:=a) h| .maybe a,h=>tX (x:=a) h
def ae4(w:ak)(R:kE)(e:rY)(w':ak):Prop:=aI w.heap.size w w'/\match R with| .fault i=>e= .returned (.tuple #[.pointer none,.int .i64 6,.int .i64 i])| .big=>e= .returned (.tuple #[.pointer none,.int .i64 9,.int .i64 0])| .ok x=>∃nb y,e= .returned (.tuple #[aP nb,.int .i64 0,.int .i64 0])/\bu w' y nb/\norm y=x/\full y
theorem KY{s:ByteArray}{p:Nat}(h:eP qG s (s.size+1) 0= .fault p):gD s= .fault p:=by unfold gD;rw[h]
theorem KX{s:ByteArray}{x:bC}{j:Nat}(h:eP qG s (s.size+1) 0= .ok x j)(hj:j≠s.size):gD s= .fault j:=by unfold gD;rw[h];simp only;rw[if_neg hj]
theorem KW{s:ByteArray}{x:bC}(h:eP qG s (s.size+1) 0= .ok x s.size):∃z,eP bJ s (s.size+1) 0= .ok z s.size/\gD s=if z.places>128 then .big else .ok z:=by have Ls:=JG qG bJ s (s.size+1) 0;rw[h]at Ls;cases hz:eP bJ s (s.size+1) 0 with|fault e=>rw[hz]at Ls;exact Ls.elim|ok z j=>rw[hz]at Ls;have hj:s.size=j:=Ls;subst hj;exact⟨z,rfl,Vz h hz⟩
theorem KV(s:ByteArray)(hsl:s.size<=1000)(w:ak):aX ah 72 #[.string s] w (ae4 w (gD s)):=by
 obtain⟨w1,hw1⟩:∃w1,w1=w.alloc (.cells #[.string s,iV 0,.bool false] 232):=⟨_,rfl⟩;obtain⟨w2,hw2⟩:∃w2,w2=w1.alloc (.cells #[pT w.heap.size] 235):=⟨_,rfl⟩;have hz1:w1.heap.size=w.heap.size+1:=by rw[hw1,bM]
 have hp1:bO w1 w.heap.size s 0 false:=by rw[hw1];exact⟨heap_alloc_new _ _,aW _,by omega⟩
 have hb1:aI w.heap.size w w1:=by rw[hw1];exact(aB _ _).alloc (au _) _
 have yV:aI w1.heap.size w1 w2:=by rw[hw2];exact(aB _ _).alloc (au _) _
 have kN:=ae (hb1.trans (yV.mono hb1.size));have hp2:=hp1.below yV;have hg2:Gx w2 (w.heap.size+1) w.heap.size:=by have:=heap_alloc_new w1 (.cells #[pT w.heap.size] 235);rw[<-hw2,hz1]at this;exact this
 have hgr:=ET qG (w.heap.size+1) w.heap.size s (s.size+1) 0 w2 hg2 hp2 (by omega);unfold oD aP at hgr;have tH:=ae hw1;have vh:=ae hw2;have HZ1:=ae hz1;obtain⟨R,hR⟩:∃R,eP qG s (s.size+1) 0=R:=⟨_,rfl⟩;rw[hR]at hgr;clear hw1 hw2 hz1 hp1 hb1 yV hp2 hg2;have HR:=ae hR;cases R with
  |fault p=>have hP:=KY HR;have HGR:=ae hgr;rw[hP];go_enter JR,FH;go_upto_region 3 with fail;rw[<-tH,<-vh];go_upto_region 4 with(go_at_call 114;refine HGR.mono ?_;rintro e w3⟨rfl,hm,hp⟩;have iH:=ae (show _/\_ from⟨hm,hp⟩);clear hm hp;have e1:=iH.2.c1;have e2:=iH.2.c2);go_upto_region 5 with fail;go_quiet(fail);go_wp2_with fail;go_ret3;refine⟨kN.trans ?_,rfl⟩;exact(iH.1.toBelow kN.size λk hk=>by omega).trans ((Same.drewN _ _).below _)|ok x j=>
   have HGR:=ae hgr;by_cases hj:j=s.size;·
    obtain⟨z,hz,hP⟩:=KW (x:=x) (by rw[HR,hj]);have htm:=Kj s (by omega) s.size z;obtain⟨zn,hzn⟩:∃zn,z.places=zn:=⟨_,rfl⟩;have hz9:zn<=129:=by rw[<-hzn];exact fE z
    rw[hzn]at htm;have Hv:=ae λW=>htm W hz;have HZ:=ae hz;have HZN:=ae hzn;subst hj;by_cases hbig:zn>128;·
     rw[if_pos (by rw[HZN];exact hbig)]at hP;rw[hP];have b1:decide ((zn:Int)>128)=true:=by simp;omega
     go_enter JR,FH;go_upto_region 3 with fail;rw[<-tH,<-vh];go_upto_region 4 with(go_at_call 114;refine HGR.mono ?_;rintro e w3⟨rfl,hm,hp⟩;have iH:=ae (show _/\_ from⟨hm,hp⟩);clear hm hp;have e1:=iH.2.c1;have e2:=iH.2.c2);go_upto_region 6 with fail;go_wp2_with(go_at_call 115;refine(Hv _).mono ?_;rintro e w4⟨rfl,hb4⟩;have TK:=ae hb4;clear hb4 e1 e2);go_ret3;refine⟨kN.trans ?_,rfl⟩;have h3:=iH.1.toBelow kN.size λk hk=>by omega
     exact h3.trans (TK.mono (aZ kN.size iH.1.size))
    ·rw[if_neg (by rw[HZN];exact hbig)]at hP;rw[hP];have b1:decide ((zn:Int)>128)=false:=by simp;omega
     have PG:Hid (fX z):=ae (tX (by rw[HZN];omega));go_enter JR,FH;go_upto_region 3 with fail;rw[<-tH,<-vh];clear tH vh;go_upto_region 4 with(go_at_call 114;refine HGR.mono ?_;rintro e w3⟨rfl,hm,hp⟩;have iH:=ae (show _/\_ from⟨hm,hp⟩);clear hm hp;have e1:=iH.2.c1;have e2:=iH.2.c2);go_upto_region 6 with fail;go_upto_region 10 with(go_at_call 115;refine(Hv _).mono ?_;rintro e w4⟨rfl,hb4⟩;have TK:=ae hb4;clear hb4 e1 e2);obtain⟨w5,hw5⟩:∃w5,w5=w4.alloc (.cells #[.string s,iV 0,.bool false] 232):=⟨_,rfl⟩;have hp5:bO w5 w4.heap.size s 0 false:=by rw[hw5];exact⟨heap_alloc_new _ _,aW _,by omega⟩
     have hb5:aI w4.heap.size w4 w5:=by rw[hw5];exact(aB _ _).alloc (au _) _
     have HPR:=ae (KZ s (s.size+1) w4.heap.size 0 w5 z s.size hp5 HZ PG (by omega));have Y0:=ae hb5;rw[<-hw5];clear hw5 hp5 hb5;go_wp2_with(go_at_call 116;refine HPR.mono ?_;rintro e w6⟨nb,y,rfl,h1,h2,h3,h4,h5⟩;have q9:=ae (show _/\_/\_/\_ from⟨h1,h2,h3,h5⟩);clear h1 h2 h3 h4 h5;unfold aP);go_ret3;have h3:=iH.1.toBelow kN.size λk hk=>by omega
     have h24:=aZ (aZ kN.size iH.1.size) TK.size;refine⟨kN.trans (h3.trans ((TK.mono (aZ kN.size iH.1.size)).trans ((Y0.mono h24).trans ?_))),nb,y,rfl,q9.1,q9.2.1,q9.2.2.1⟩;exact q9.2.2.2.toBelow (aZ h24 Y0.size) λk hk=>by omega
   ·have hP:=KX HR hj;rw[hP];have hjs:j<s.size:=by have h1:=nA qG s (s.size+1) 0 (aW _);rw[HR]at h1;have h2:0<=j/\j<=s.size:=h1;omega
    have n1:decide ((j:Int)<(s.size:Int))=true:=by simp;omega
    clear hP;go_enter JR,FH;go_upto_region 3 with fail;rw[<-tH,<-vh];clear tH vh;go_upto_region 4 with(go_at_call 114;refine HGR.mono ?_;rintro e w3⟨rfl,hm,hp⟩;have iH:=ae (show _/\_ from⟨hm,hp⟩);clear hm hp;have e1:=iH.2.c1;have e2:=iH.2.c2);go_upto_region 5 with fail;go_quiet(fail);go_wp2_with fail;go_ret3;refine⟨kN.trans ?_,rfl⟩;exact(iH.1.toBelow kN.size λk hk=>by omega).trans ((Same.drewN _ _).below _)
def aa1(w:ak)(R:kE)(e:rY)(w':ak):Prop:=aI w.heap.size w w'/\match R with| .fault i=>e= .returned (.tuple #[.pointer none,.int .i64 6,.int .i64 i])| .big=>False| .ok x=>∃nb,e= .returned (.tuple #[aP nb,.int .i64 0,.int .i64 0])/\bu w' x nb
def acs(s:ByteArray)(R:kE)(w:ak)(nv iv:ay)(wr:ak):Prop:=∃(i f nb:Nat)(x:bC),nv= .pointer (some ⟨nb,0,none⟩)/\iv= .int .i64 (i:Int)/\i<=s.size/\s.size-i<f/\bu wr x nb/\aI w.heap.size w wr/\R=ey s f x i
theorem U1(s:ByteArray)(hsl:s.size<=1000)(w:ak):aX ah 71 #[.string s] w (aa1 w (qo s)):=by
 have DK:Hid (s.data.toList.length=s.size):=ae (by rw[Array.length_toList];rfl);obtain⟨R,hR⟩:∃R,R=qo s:=⟨_,rfl⟩;rw[<-hR];have H0:Hid (acs s R w (pT w.heap.size) (iV 0) (w.alloc (.cells (fN 0 dW (.pointer none) (.pointer none)).toArray 138))):=ae ⟨0,s.size+1,w.heap.size,.empty,rfl,rfl,aW _,by omega,⟨bK,heap_alloc_new _ _⟩,(aB _ w).alloc (au _) _,hR⟩;rw[<-Tryz.DX]at H0;go_enter Tryz.func71,Tryz.ntmps71;go_upto_region 3 with fail;generalize w.alloc (.cells jl 138)=W1 at*;go_loopw[5,6](λnv iv wr=>Hid (acs s R w nv iv wr))(λ_ iv _=>s.size-(intOf iv).toNat);case atStart=>exact H0
 case round=>
  obtain⟨i,f,nb,x,rfl,rfl,hi,hf,hN,hb,hR⟩:=hrel.out;have HI:=ae (aA hN (aA hb hR));by_cases hlt:i<s.size;·
   obtain⟨f,rfl⟩:∃g,f=g+1:=⟨f-1,by omega⟩;have q2:IntKind.i64.wrap ((i:Int)+1)=(i:Int)+1:=aK _ (by omega);have z1:(0:Int)<=(i:Int)/\(i:Int)<(s.size:Int):=by omega
   have hget:s.data.toList[i]?=some s[i]:=by rw[ar (by rw[DK];exact hlt)];rfl
   have AK:=ae hget;have hb2:aI wr.heap.size wr (wr.alloc (.cells (Tryz.zeroCells138.setIfInBounds 0 (iV 1)) 138)):=(aB _ wr).alloc (au _) _;have hm:=qI wr;have HM:=ae (aA hb2 hm);have hc:∀k:Nat,k<256->∀d:UInt8,d.toNat=k->∀j(hj:j<s.size),s[j]≠d->((s[j].toNat:Int)==(k:Int))=false:=λk hk d hd j hj hne=>by rw[beq_eq_false_iff_ne];exactλh=>hne (UInt8.toNat_inj.1 (by omega))
   have HC:=ae hc;by_cases JW:s[i]=92;case pos=>
    have e92:(s[i].toNat:Int)=92:=by rw[JW];rfl
    have n42:¬s[i]=42:=by rw[JW];decide
    have n63:¬s[i]=63:=by rw[JW];decide
    have HN9:=ae (aA JW (aA n42 n63));by_cases hlt2:i+1<s.size;case pos=>
     have g1:((i:Int)+1==(s.size:Int))=false:=by rw[beq_eq_false_iff_ne];omega
     have q3:IntKind.i64.wrap ((i:Int)+1+1)=(i:Int)+2:=by rw[aK _ (by omega)];omega
     have z5:(0:Int)<=(i:Int)+1/\(i:Int)+1<(s.size:Int):=by omega
     have ah3:s.data.toList[i+1]?=some s[i+1]:=by rw[ar (by rw[DK];exact hlt2)];rfl
     have ajG:=ae ah3;go_upto_region 11 with fail;obtain⟨hb2,hm⟩:=HM.out;generalize wr.alloc (.cells (Tryz.zeroCells138.setIfInBounds 0 (iV 1)) 138)=W2 at*;have k0:=hm.flag (c:=s[i+1].toNat) (ia _);have k1:=hm.free (1+s[i+1].toNat);have HSH:=ae hm.shape;have z4:(0:Int)<=((s[i+1].toNat:Nat):Int)/\((s[i+1].toNat:Nat):Int)<256:=by have:=ia s[i+1];omega
     refine bB [(0,false),(1,false),(2,false),(3,false),(4,false),(5,false),(6,false),(7,true)] 1000 (λw'=>True) (by kernel_rfl) (by kernel_rfl) trivial ?_;iterate 7(
 refine aR ?_ rfl rfl (λw' hS=>?_) ?_;rotate_left;·go_simp;try rfl
 simp only[aN,ai,aj])
     refine bg rfl rfl (by decide) (λK hK=>?_);have HK:=ae hK;go_simp;refine HK _ _ trivial ?_;refine cV ?_;have H3:Hid (aI wr.heap.size wr (W2.setCell (aD wr.heap.size (1+s[i+1].toNat)) (.bool true)).drew/\bu (W2.setCell (aD wr.heap.size (1+s[i+1].toNat)) (.bool true)).drew (.one (wA s[i+1])) wr.heap.size):=ae (by obtain⟨hb2,hm⟩:=HM.out;exact⟨(hb2.setCell (au _) _).drew,Bt ((hm.set s[i+1].toNat true (ia _)).same (Same.drew _))⟩);generalize(W2.setCell (aD wr.heap.size (1+s[i+1].toNat)) (.bool true)).drew=W3 at*;obtain⟨mb,hmb⟩:∃mb,mb=wr.heap.size:=⟨_,rfl⟩;rw[<-hmb];have QW:Hid (bu W3 (.one (wA s[i+1])) mb):=ae (by rw[hmb];exact H3.2);clear k0 k1 HM hmb;have hb3:=HI.2.1.trans (H3.1.mono HI.2.1.size);have hx3:=HI.1.below H3.1;have hstep:=HI.2.2.trans (D7 AK HN9.2.1 HN9.2.2 HN9.1 ajG);have H4:=ae (aA hb3 (aA hx3 hstep));clear hb3 hx3 hstep;by_cases F8:x= .empty;·subst F8;have c0:=H4.2.1.Bg;go_wp2_with fail;exact⟨ae ⟨i+2,f,mb,(.one (wA s[i+1])),rfl,by go_num,by omega,by omega,QW.out,H4.1,H4.2.2⟩,by simp[intOf];omega⟩
     ·obtain⟨kk,c0,ck⟩:=H4.2.1.shape F8;have HXE:=ae F8;clear F8;go_wp2_with fail;exact⟨ae ⟨i+2,f,W3.heap.size,x.join (.one (wA s[i+1])),rfl,by go_num,by omega,by omega,bu.cat H4.2.1 QW.out HXE.out (by simp),H4.1.alloc H4.1.size _,H4.2.2⟩,by simp[intOf];omega⟩
    case neg=>
     have MR:i+1=s.size:=by omega
     have g1:((i:Int)+1==(s.size:Int))=true:=by rw[beq_iff_eq];omega
     have hbad:Hid (R= .fault (i+1)):=ae (HI.2.2.trans (Kc AK HN9.2.1 HN9.2.2 HN9.1 (iI (by rw[DK];omega))));go_wp2_with fail;go_ret3;rw[hbad];exact⟨HI.2.1.trans (HM.1.mono HI.2.1.size),rfl⟩
   case neg=>
    have g92:=HC 92 (by decide) 92 rfl i hlt JW;by_cases Hn:s[i]=42;case pos=>
     have e42:(s[i].toNat:Int)=42:=by rw[Hn];rfl
     have Uj:=ae Hn;clear Hn JW;go_upto_region 13 with fail;go_wp2_with fail;obtain⟨hb2,hm⟩:=HM.out;generalize wr.alloc (.cells (Tryz.zeroCells138.setIfInBounds 0 (iV 1)) 138)=W2 at*;have HS:Hid (bP W2 wr.heap.size 1 dW (.pointer none) (.pointer none)/\aI wr.heap.size wr W2):=ae ⟨hm,hb2⟩;clear hb2 hm HM;obtain⟨mb,hmb⟩:∃mb,mb=wr.heap.size:=⟨_,rfl⟩;rw[<-hmb]at HS⊢;obtain⟨wz,hwz⟩:∃wz,wz=wr:=⟨_,rfl⟩;rw[<-hwz]at HI HS hmb;have rh:=ae hmb;have HWZ:=ae hwz;clear hmb hwz;go_loopw[9](λkv wx=>∃k:Nat,k<=256/\kv= .int .i64 (k:Int)/\Hid (bP wx mb 1 (aQ k true++aQ (256-k) false) (.pointer none) (.pointer none)/\aI mb wz wx))(λkv _=>256-(intOf kv).toNat);case atStart=>exact⟨0,by omega,rfl,HS.1,HS.2⟩
     case round=>
      clear HS;obtain⟨k,hk,rfl,HX⟩:=hrel;by_cases hk2:k<256;·
       have r2:IntKind.i64.wrap ((k:Int)+1)=(k:Int)+1:=aK _ (by omega);have k0:=HX.1.flag (c:=k) hk2;have k1:=HX.1.free (1+k);have y1:(0:Int)<=(k:Int)/\(k:Int)<256:=by omega
       have MW:Hid (bP (wr.setCell (aD mb (1+k)) (.bool true)) mb 1 (aQ (k+1) true++aQ (256-(k+1)) false) (.pointer none) (.pointer none)/\aI mb wz (wr.setCell (aD mb (1+k)) (.bool true))):=ae (by refine⟨?_,HX.2.setCell (au _) _⟩;have:=HX.1.set k true hk2;rw[Y9,if_neg (by rw[bK];omega),bK,mG,show 256-k=(256-(k+1))+1 by omega,abr,aj]at this;rw[Za,kP];exact this);go_wp2_with fail;exact⟨⟨k+1,by omega,by go_num,MW⟩,by simp[intOf];omega⟩
      ·obtain rfl:k=256:=by omega
       obtain⟨W3,hW3⟩:∃W3,W3=wr:=⟨_,rfl⟩;have H3:Hid (aI mb wz W3/\bP W3 mb 1 (aQ 256 true) (.pointer none) (.pointer none)):=ae (by rw[hW3];refine⟨HX.2,?_⟩;have:=HX.1;rwa[show 256-256=0 from rfl,abq,gv]at this);rw[<-hW3];clear HX hW3 wr;go_upto_region 20 with fail;obtain⟨W5,uM⟩:∃W5,W5=W3.alloc (.cells ((Tryz.zeroCells138.setIfInBounds 0 (iV 4)).setIfInBounds 257 (pT mb)) 138):=⟨_,rfl⟩;have H5:Hid (aI mb wz W5/\bu W5 (.many (.one allB) false) W3.heap.size):=ae (by have hs:=H3.1.size;rw[uM];have hbn:aI W3.heap.size W3 (W3.alloc (.cells ((Tryz.zeroCells138.setIfInBounds 0 (iV 4)).setIfInBounds 257 (pT mb)) 138)):=(aB _ W3).alloc (au _) _;exact⟨H3.1.alloc (by rw[rh];exact H3.1.size) _,dW,mb,pV W3 4 _,(Bu H3.2).below hbn⟩);rw[<-uM];obtain⟨mc,hmc⟩:∃mc,mc=W3.heap.size:=⟨_,rfl⟩;rw[<-hmc]at H5⊢;clear H3 uM hmc W3;obtain⟨W3,hW3⟩:∃W3,W3=W5:=⟨_,rfl⟩;rw[<-hW3]at H5⊢;clear hW3 W5;have H3:=H5;have QW:=ae H5.2;clear H5;have hb3:aI w.heap.size w W3:=HI.2.1.trans (by have h:=H3.1;rw[rh]at h;exact h.mono HI.2.1.size);have hx3:bu W3 x nb:=HI.1.below (by have h:=H3.1;rw[rh]at h;exact h);have hstep:=HI.2.2.trans (xe AK Uj);have H4:=ae (aA hb3 (aA hx3 hstep));clear hb3 hx3 hstep;by_cases F8:x= .empty;·subst F8;have c0:=H4.2.1.Bg;go_wp2_with fail;exact⟨ae ⟨i+1,f,mc,(.many (.one allB) false),rfl,by go_num,by omega,by omega,QW.out,H4.1,H4.2.2⟩,by simp[intOf];omega⟩
       ·obtain⟨kk,c0,ck⟩:=H4.2.1.shape F8;have HXE:=ae F8;clear F8;go_wp2_with fail;exact⟨ae ⟨i+1,f,W3.heap.size,x.join (.many (.one allB) false),rfl,by go_num,by omega,by omega,bu.cat H4.2.1 QW.out HXE.out (by simp),H4.1.alloc H4.1.size _,H4.2.2⟩,by simp[intOf];omega⟩
    case neg=>
     have g42:((s[i].toNat:Int)==42)=false:=HC 42 (by decide) 42 rfl i hlt Hn;by_cases Pb:s[i]=63;case pos=>
      have e63:(s[i].toNat:Int)=63:=by rw[Pb];rfl
      have Uj:=ae (aA Hn Pb);clear Hn Pb JW;go_upto_region 13 with fail;go_wp2_with fail;obtain⟨hb2,hm⟩:=HM.out;generalize wr.alloc (.cells (Tryz.zeroCells138.setIfInBounds 0 (iV 1)) 138)=W2 at*;have HS:Hid (bP W2 wr.heap.size 1 dW (.pointer none) (.pointer none)/\aI wr.heap.size wr W2):=ae ⟨hm,hb2⟩;clear hb2 hm HM;obtain⟨mb,hmb⟩:∃mb,mb=wr.heap.size:=⟨_,rfl⟩;rw[<-hmb]at HS⊢;obtain⟨wz,hwz⟩:∃wz,wz=wr:=⟨_,rfl⟩;rw[<-hwz]at HI HS hmb;have rh:=ae hmb;have HWZ:=ae hwz;clear hmb hwz;go_loopw[9](λkv wx=>∃k:Nat,k<=256/\kv= .int .i64 (k:Int)/\Hid (bP wx mb 1 (aQ k true++aQ (256-k) false) (.pointer none) (.pointer none)/\aI mb wz wx))(λkv _=>256-(intOf kv).toNat);case atStart=>exact⟨0,by omega,rfl,HS.1,HS.2⟩
      case round=>
       clear HS;obtain⟨k,hk,rfl,HX⟩:=hrel;by_cases hk2:k<256;·
        have r2:IntKind.i64.wrap ((k:Int)+1)=(k:Int)+1:=aK _ (by omega);have k0:=HX.1.flag (c:=k) hk2;have k1:=HX.1.free (1+k);have y1:(0:Int)<=(k:Int)/\(k:Int)<256:=by omega
        have MW:Hid (bP (wr.setCell (aD mb (1+k)) (.bool true)) mb 1 (aQ (k+1) true++aQ (256-(k+1)) false) (.pointer none) (.pointer none)/\aI mb wz (wr.setCell (aD mb (1+k)) (.bool true))):=ae (by refine⟨?_,HX.2.setCell (au _) _⟩;have:=HX.1.set k true hk2;rw[Y9,if_neg (by rw[bK];omega),bK,mG,show 256-k=(256-(k+1))+1 by omega,abr,aj]at this;rw[Za,kP];exact this);go_wp2_with fail;exact⟨⟨k+1,by omega,by go_num,MW⟩,by simp[intOf];omega⟩
       ·obtain rfl:k=256:=by omega
        obtain⟨W3,hW3⟩:∃W3,W3=wr:=⟨_,rfl⟩;have H3:Hid (aI mb wz W3/\bP W3 mb 1 (aQ 256 true) (.pointer none) (.pointer none)):=ae (by rw[hW3];refine⟨HX.2,?_⟩;have:=HX.1;rwa[show 256-256=0 from rfl,abq,gv]at this);rw[<-hW3];clear HX hW3 wr;go_upto_region 20 with fail;have QW:=ae (Bu H3.2);have hb3:aI w.heap.size w W3:=HI.2.1.trans (by have h:=H3.1;rw[rh]at h;exact h.mono HI.2.1.size);have hx3:bu W3 x nb:=HI.1.below (by have h:=H3.1;rw[rh]at h;exact h);have hstep:=HI.2.2.trans (GD AK Uj.1 Uj.2);have H4:=ae (aA hb3 (aA hx3 hstep));clear hb3 hx3 hstep;by_cases F8:x= .empty;·subst F8;have c0:=H4.2.1.Bg;go_wp2_with fail;exact⟨ae ⟨i+1,f,mb,(.one allB),rfl,by go_num,by omega,by omega,QW.out,H4.1,H4.2.2⟩,by simp[intOf];omega⟩
        ·obtain⟨kk,c0,ck⟩:=H4.2.1.shape F8;have HXE:=ae F8;clear F8;go_wp2_with fail;exact⟨ae ⟨i+1,f,W3.heap.size,x.join (.one allB),rfl,by go_num,by omega,by omega,bu.cat H4.2.1 QW.out HXE.out (by simp),H4.1.alloc H4.1.size _,H4.2.2⟩,by simp[intOf];omega⟩
     case neg=>
      have g63:=HC 63 (by decide) 63 rfl i hlt Pb;have Uj:=ae (aA Hn (aA Pb JW));clear Hn Pb JW;go_upto_region 19 with fail;obtain⟨hb2,hm⟩:=HM.out;generalize wr.alloc (.cells (Tryz.zeroCells138.setIfInBounds 0 (iV 1)) 138)=W2 at*;have k0:=hm.flag (c:=s[i].toNat) (ia _);have k1:=hm.free (1+s[i].toNat);have HSH:=ae hm.shape;have z4:(0:Int)<=((s[i].toNat:Nat):Int)/\((s[i].toNat:Nat):Int)<256:=by have:=ia s[i];omega
      clear hb2 hm;go_upto_region 20 with fail;have H3:Hid (aI wr.heap.size wr (W2.setCell (aD wr.heap.size (1+s[i].toNat)) (.bool true))/\bu (W2.setCell (aD wr.heap.size (1+s[i].toNat)) (.bool true)) (.one (wA s[i])) wr.heap.size):=ae (by obtain⟨hb2,hm⟩:=HM.out;exact⟨hb2.setCell (au _) _,Bt (hm.set s[i].toNat true (ia _))⟩);generalize(W2.setCell (aD wr.heap.size (1+s[i].toNat)) (.bool true))=W3 at*;obtain⟨mb,hmb⟩:∃mb,mb=wr.heap.size:=⟨_,rfl⟩;rw[<-hmb];have QW:Hid (bu W3 (.one (wA s[i])) mb):=ae (by rw[hmb];exact H3.2);clear k0 k1 HM hmb;have hb3:=HI.2.1.trans (H3.1.mono HI.2.1.size);have hx3:=HI.1.below H3.1;have hstep:=HI.2.2.trans (Ka AK Uj.1 Uj.2.1 Uj.2.2);have H4:=ae (aA hb3 (aA hx3 hstep));clear hb3 hx3 hstep;by_cases F8:x= .empty;·subst F8;have c0:=H4.2.1.Bg;go_wp2_with fail;exact⟨ae ⟨i+1,f,mb,(.one (wA s[i])),rfl,by go_num,by omega,by omega,QW.out,H4.1,H4.2.2⟩,by simp[intOf];omega⟩
      ·obtain⟨kk,c0,ck⟩:=H4.2.1.shape F8;have HXE:=ae F8;clear F8;go_wp2_with fail;exact⟨ae ⟨i+1,f,W3.heap.size,x.join (.one (wA s[i])),rfl,by go_num,by omega,by omega,bu.cat H4.2.1 QW.out HXE.out (by simp),H4.1.alloc H4.1.size _,H4.2.2⟩,by simp[intOf];omega⟩
  ·obtain rfl:i=s.size:=by omega
   obtain⟨f,rfl⟩:∃g,f=g+1:=⟨f-1,by omega⟩;have hend:Hid (R= .ok x):=ae (HI.2.2.trans (Kb (iI (by rw[DK];omega))));go_wp2_with fail;go_ret3;rw[hend];exact⟨HI.2.1,nb,rfl,HI.1⟩
def ji(w w':ak):Prop:=∀(k:Nat)cs t r,w.heap[k]?=some (.cells cs t r)->(t=3\/t=138\/t=144)->w'.heap[k]?=w.heap[k]?
theorem ji.refl(w:ak):ji w w:=λ_ _ _ _ _ _=>rfl
theorem ji.trans{a b c:ak}(h:ji a b)(k:ji b c):ji a c:=λn cs t r hn ht=>by have e:=h n cs t r hn ht;exact(k n cs t r (e.trans hn) ht).trans e
theorem dQ.V6{w w':ak}(h:dQ w w'):ji w w':=λk cs t r hk ht=>h k cs t r hk (by rcases ht with rfl|rfl|rfl<;>decide)
theorem ji.below{w w':ak}(h:aI w.heap.size w w'):ji w w':=λk cs t r hk _=>h.block k (lt_of_heap hk)
theorem ji.ints{w w':ak}(h:ji w w'){v:ay}{l:List Nat}(hv:dE w v l):dE w' v l:=bT hv λk cs r hk=>h k cs _ r hk (.inl rfl)
theorem ji.nodeAt{w w':ak}(h:ji w w'){nb k:Nat}{hs:List Bool}{a b:ay}(hn:bP w nb k hs a b):bP w' nb k hs a b:=hn.old (h _ _ _ _ hn.2 (.inr (.inl rfl)))
theorem ji.node{w w':ak}(h:ji w w'):∀{x:bC}{nb:Nat},bu w x nb->bu w' x nb| .empty,nb,hn=>h.nodeAt hn| .iW,_,hn=>hn.elim| .one s,nb,⟨hs,h1,h2⟩=>⟨hs,h.nodeAt h1,h2⟩| .seq x y,nb,⟨hs,a,b,h1,h2,h3⟩=>⟨hs,a,b,h.nodeAt h1,h.node h2,h.node h3⟩| .or x y,nb,⟨hs,a,b,h1,h2,h3⟩=>⟨hs,a,b,h.nodeAt h1,h.node h2,h.node h3⟩| .many x sm,nb,⟨hs,a,h1,h2⟩=>⟨hs,a,h.nodeAt h1,h.node h2⟩| .maybe x,nb,⟨hs,a,h1,h2⟩=>⟨hs,a,h.nodeAt h1,h.node h2⟩
theorem dQ.below{w w':ak}(h:aI w.heap.size w w'):dQ w w':=λk cs t r hk _=>h.block k (lt_of_heap hk)
theorem eA.below{w w':ak}{sb c:Nat}{ns fs:List Nat}{rows:List (List Bool)}(h:eA w sb c ns fs rows)(hb:aI w.heap.size w w'):eA w' sb c ns fs rows:=h.keep (dQ.below hb) rows rfl λi f l hf hl=>⟨(h.row i f l hf hl).1.below hb,(h.row i f l hf hl).2⟩
structure acu (B sb c:Nat) (ns fs:List Nat) (rows:List (List Bool)) (x:bC) (w:ak) (fv lv:ay) (w':ak):Prop where
 below:aI B w w'
 grows:w.heap.size<=w'.heap.size
 kept:ji w w'
 first:∃ f,dE w' fv f/\f.length<=x.count /\ ∀ k,k∈f↔x.fst ns.length k
 last:∃ l,dE w' lv l/\l.length<=x.count /\ ∀ k,k∈l↔x.uh ns.length k
 spread:∃ ms rows',eA w' sb c (ns++ms) fs rows'/\ms.length=x.count/\(∀ a b,jg rows' a b=true↔jg rows a b=true\/x.xA ns.length a b) /\
  ∀ k m,ms[k]?=some m -> ∃ hs,bP w' m 1 hs (.pointer none) (.pointer none) /\ ∀ d:UInt8,hs.getD d.toNat false=true↔x.yD ns.length (ns.length+k) d
def TA(B sb c:Nat)(fs:List Nat)(x:bC):Prop:=∀(ns:List Nat)(rows:List (List Bool))(nb:Nat)(w:ak),eA w sb c ns fs rows->bu w x nb->ns.length+x.count<=c->B<=w.heap.size->B<=sb->(∀f∈fs,B<=f)->(∃hv fv,w.heap[sb]?=some (.cells #[hv,fv] 150 (0,0))/\kp B hv)->aX ah 118 #[aP sb,aP nb] w λe w'=>∃fv lv,e= .returned (.agg #[fv,lv,.bool x.qH])/\acu B sb c ns fs rows x w fv lv w'/\(∃hv fv,w'.heap[sb]?=some (.cells #[hv,fv] 150 (0,0))/\kp B hv)
theorem eA.part{w w':ak}{sb c:Nat}{ns fs:List Nat}{rows:List (List Bool)}(h:eA w sb c ns fs rows)(hk:∀(k:Nat)cs t r,w.heap[k]?=some (.cells cs t r)->t≠144->w'.heap[k]?=w.heap[k]?):eA w' sb c ns fs rows:=by obtain⟨hv5,fv5,q1,q2,q3⟩:=h.ex;exact⟨⟨hv5,fv5,(hk _ _ _ _ q1 (by decide)).trans q1,bT q2 λk cs r hk'=>hk k cs _ r hk' (by decide),bT q3 λk cs r hk'=>hk k cs _ r hk' (by decide)⟩,h.nd,h.len,λi f l hf hl=>by obtain⟨k1,k2⟩:=h.row i f l hf hl;exact⟨k1.old (hk _ _ _ _ k1 (by decide)),k2⟩⟩
theorem Cx{W:ak}{pb:Nat}{a0 a1 a2:ay}(h:W.heap[pb]?=some (.cells #[a0,a1,a2] 144 (0,0)))(x y z:ay):(((W.setCell (aD pb 0) x).setCell (aD pb 1) y).setCell (aD pb 2) z).heap[pb]?=some (.cells #[x,y,z] 144 (0,0))/\(∀k,k≠pb->(((W.setCell (aD pb 0) x).setCell (aD pb 1) y).setCell (aD pb 2) z).heap[k]?=W.heap[k]?)/\∀(B:Nat)(w:ak),aI B w W->B<=pb->aI B w (((W.setCell (aD pb 0) x).setCell (aD pb 1) y).setCell (aD pb 2) z):=by have h1:=heap_setCell_same W pb 0 _ _ x h;have h2:=heap_setCell_same _ pb 1 _ _ y h1;have h3:=heap_setCell_same _ pb 2 _ _ z h2;exact⟨h3,λk hk=>((az _ _ _ k hk).trans (az _ _ _ k hk)).trans (az _ _ _ k hk),λB w hb hp=>((hb.setCell hp _).setCell hp _).setCell hp _⟩
theorem Ld(w:ak)(n:Nat):dE (w.alloc (.cells #[iV (n:Int)] 3)) (sL w.heap.size 1 1) [n]:=⟨rfl,.inr ⟨w.heap.size,1,_,rfl,aW _,heap_alloc_new _ _,au _,by decide,rfl,rfl⟩⟩
theorem Tryz.ag3:(Tryz.prog.info? 81).map (λi=>(i.zero,i.size,i.bytes))=some (some (.pointer none),1,8):=by kernel_rfl
structure gg (B sb c:Nat) (ns fs:List Nat) (w:ak) (ms:List Nat) (T:Nat->UInt8->Prop) (R:List (List Bool)) (W:ak):Prop where
 below:aI B w W
 low:B<=w.heap.size
 more:w.heap.size < W.heap.size
 kept:ji w W
 zero:W.heap[w.heap.size]?=some (.cells #[.slice none 0 0,.slice none 0 0,.bool false] 144 (0,0))
 spread:eA W sb c (ns++ms) fs R
 tin:∀ k d,T k d->k < ns.length+ms.length
 Zn:∀ k m,ms[k]?=some m -> ∃ hs,bP W m 1 hs (.pointer none) (.pointer none) /\ ∀ d:UInt8,hs.getD d.toNat false=true↔T (ns.length+k) d
 past:∃ hv fv,W.heap[sb]?=some (.cells #[hv,fv] 150 (0,0))/\kp B hv
structure uC (W:ak) (p:Nat) (x:bC) (n:Nat) (vf vl:ay) (z:Bool) (f l:List Nat):Prop where
 blk:W.heap[p]?=some (.cells #[vf,vl,.bool z] 144 (0,0))
 nf:dE W vf f
 nl:dE W vl l
 ff:f.length<=x.count /\ ∀ k,k∈f↔x.fst n k
 ll:l.length<=x.count /\ ∀ k,k∈l↔x.uh n k
theorem uC.keep{W W':ak}{p n:Nat}{x:bC}{vf vl:ay}{z:Bool}{f l:List Nat}(h:uC W p x n vf vl z f l)(k:ji W W'):uC W' p x n vf vl z f l:=⟨(k _ _ _ _ h.blk (.inr (.inr rfl))).trans h.blk,k.ints h.nf,k.ints h.nl,h.ff,h.ll⟩
theorem oV{W:ak}{p:Nat}{cs:Array ay}{v:ay}{l:List Nat}(h:dE W v l)(hp:W.heap[p]?=some (.cells cs 144 (0,0)))(i:Nat)(u:ay):dE (W.setCell (aD p i) u) v l:=bT h λk cs r hk=>az W _ _ k λe=>by subst e;rw[hp]at hk;cases hk
theorem uC.set{W:ak}{p q n:Nat}{x:bC}{vf vl:ay}{z:Bool}{f l:List Nat}{cs:Array ay}(h:uC W q x n vf vl z f l)(hp:W.heap[p]?=some (.cells cs 144 (0,0)))(hne:q≠p)(i:Nat)(u:ay):uC (W.setCell (aD p i) u) q x n vf vl z f l:=⟨(az W _ _ q hne).trans h.blk,oV h.nf hp i u,oV h.nl hp i u,h.ff,h.ll⟩
section
variable{B sb c:Nat}{ns fs:List Nat}{w W W':ak}{ms:List Nat}{T:Nat->UInt8->Prop}{R R':List (List Bool)}
theorem gg.own(h:gg B sb c ns fs w ms T R W):W.cell? (aD w.heap.size 0)=some (.slice none 0 0)/\W.cell? (aD w.heap.size 1)=some (.slice none 0 0)/\W.cell? (aD w.heap.size 2)=some (.bool false)/\W.frozen? (aD w.heap.size 0)=false/\W.frozen? (aD w.heap.size 1)=false/\W.frozen? (aD w.heap.size 2)=false:=⟨aq h.zero,aq h.zero,aq h.zero,aU h.zero,aU h.zero,aU h.zero⟩
theorem gg.start(hs:eA w sb c ns fs R)(hB:B<=w.heap.size)(hp:∃hv fv,w.heap[sb]?=some (.cells #[hv,fv] 150 (0,0))/\kp B hv)(e:W=w.alloc (.cells #[.slice none 0 0,.slice none 0 0,.bool false] 144)):gg B sb c ns fs w [] (λ_ _=>False) R W:=by
 have hb:aI w.heap.size w W:=by rw[e];exact(aB _ w).alloc (au _) _
 refine⟨hb.mono hB,hB,by rw[e];simp,ji.below hb,by rw[e];exact heap_alloc_new _ _,by rw[gv];exact hs.below hb,λ_ _ h=>h.elim,λk m e=>by simp at e,?_⟩;obtain⟨hv,fv,k1,k2⟩:=hp;exact⟨hv,fv,(hb.block sb (lt_of_heap k1)).trans k1,k2⟩
theorem gg.keep(h:gg B sb c ns fs w ms T R W)(hb:aI B W W')(hk:∀(k:Nat)cs t r,W.heap[k]?=some (.cells cs t r)->(t=144->k<=w.heap.size)->W'.heap[k]?=W.heap[k]?):gg B sb c ns fs w ms T R W':=by
 have hp:∀(k:Nat)cs t r,W.heap[k]?=some (.cells cs t r)->t≠144->W'.heap[k]?=W.heap[k]?:=λk cs t r e ht=>hk k cs t r e λe'=>absurd e' ht;refine⟨h.below.trans hb,h.low,bI h.more hb.size,λk cs t r e ht=>?_,(hk _ _ _ _ h.zero λ_=>au _).trans h.zero,h.spread.part hp,h.tin,λk m e=>?_,?_⟩;·have e1:=h.kept k cs t r e ht;exact(hk k cs t r (e1.trans e) λ_=>ij (lt_of_heap e)).trans e1
 ·obtain⟨hs,a,b⟩:=h.Zn k m e;exact⟨hs,a.old (hp _ _ _ _ a.2 (by decide)),b⟩
 ·obtain⟨hv,fv,a,b⟩:=h.past;exact⟨hv,fv,(hp _ _ _ _ a (by decide)).trans a,b⟩
theorem gg.rest(h:gg B sb c ns fs w ms T R W)(hb:aI W.heap.size W W'):gg B sb c ns fs w ms T R W':=h.keep (hb.mono (aZ h.low (ij h.more))) λk cs t r e _=>hb.block k (lt_of_heap e)
theorem gg.set(h:gg B sb c ns fs w ms T R W){p:Nat}{cs:Array ay}(hp:W.heap[p]?=some (.cells cs 144 (0,0)))(hl:w.heap.size<p)(i:Nat)(v:ay):gg B sb c ns fs w ms T R (W.setCell (aD p i) v):=h.keep ((aB B W).setCell (aZ h.low (ij hl)) _) λk cs' t r e ht=>az _ _ _ k λe'=>by subst e';rw[hp]at e;cases e;have:=ht rfl;omega
theorem gg.rows(h:gg B sb c ns fs w ms T R W)(hb:aI B W W')(hn:dQ W W')(hs:eA W' sb c (ns++ms) fs R'):gg B sb c ns fs w ms T R' W':=by refine⟨h.below.trans hb,h.low,bI h.more hb.size,h.kept.trans hn.V6,(hn _ _ _ _ h.zero (by decide)).trans h.zero,hs,h.tin,λk m e=>(h.Zn k m e).imp λhs a=>⟨hn.V6.nodeAt a.1,a.2⟩,?_⟩;obtain⟨hv,fv,a,b⟩:=h.past;exact⟨hv,fv,(hn _ _ _ _ a (by decide)).trans a,b⟩
theorem gg.ask(h:gg B sb c ns fs w ms T R W){x:bC}{xb n:Nat}(hx:TA B sb c fs x)(hn:bu W x xb)(hl:n=ns.length+ms.length)(hc:n+x.count<=c)(TY:B<=sb/\∀f∈fs,B<=f):aX ah 118 #[pT sb,pT xb] W λe w'=>∃(af al:Option Addr)(cf cl:Nat)(f l ms2:List Nat)(R':List (List Bool))(z:Bool),e= .returned (.agg #[.slice af f.length cf,.slice al l.length cl,.bool z])/\f.length<=c/\l.length<=c/\w.heap.size<w'.heap.size/\Hid (z=x.qH/\ms2.length=x.count/\(∀a b,jg R' a b=true↔jg R a b=true\/x.xA n a b)/\∀V,V=w'.alloc (.cells #[.slice af f.length cf,.slice al l.length cl,.bool z] 144)->ji W V/\gg B sb c ns fs w (ms++ms2) (λk d=>T k d\/x.yD n k d) R' V/\uC V w'.heap.size x n (.slice af f.length cf) (.slice al l.length cl) z f l):=by
 subst hl;refine(hx (ns++ms) R xb W h.spread hn (by rw[bh];exact hc) (aZ h.low (ij h.more)) TY.1 TY.2 h.past).mono λe w' he=>?_;obtain⟨fv,lv,rfl,hE,hP⟩:=he;obtain⟨f,hf1,hf2⟩:=hE.first;obtain⟨l,JU,hl2⟩:=hE.last;obtain⟨af,cf,rfl⟩:=ownsRow_form hf1;obtain⟨al,cl,rfl⟩:=ownsRow_form JU;obtain⟨ms2,R',hs,hl,hb,ht⟩:=hE.spread;rw[bh]at hb ht hf2 hl2;refine⟨_,_,_,_,f,l,ms2,R',_,rfl,by omega,by omega,bI h.more hE.grows,ae ⟨rfl,hl,hb,λV hV=>?_⟩⟩;have hbV:aI w'.heap.size w' V:=by rw[hV];exact(aB _ _).alloc (au _) _
 refine⟨hE.kept.trans (ji.below hbV),gg.rest ⟨h.below.trans hE.below,h.low,bI h.more hE.grows,h.kept.trans hE.kept,(hE.kept _ _ _ _ h.zero (.inr (.inr rfl))).trans h.zero,by rw[<-kP];exact hs,?_,?_,hP⟩ hbV,by rw[hV];exact heap_alloc_new _ _,hf1.below hbV,JU.below hbV,hf2,hl2⟩;·
  intro k d hk;rw[bh];rcases hk with hk|hk;·have:=h.tin _ _ hk;omega
  ·have:=bC.Be x hk;omega
 ·intro k m e;by_cases hlt:k<ms.length;·rw[dF hlt]at e;obtain⟨hs,a,b⟩:=h.Zn k m e;refine⟨hs,hE.kept.nodeAt a,λd=>(b d).trans ⟨.inl,λg=>g.elim id λg=>?_⟩⟩;have:=bC.Be x g;omega
  ·rw[gA (by omega)]at e;obtain⟨hs,a,b⟩:=ht _ m e;rw[show ns.length+ms.length+(k-ms.length)=ns.length+k by omega]at b;refine⟨hs,a,λd=>(b d).trans ⟨.inr,λg=>g.elim (λg=>?_) id⟩⟩;have:=h.tin _ _ g;omega
theorem gg.join(h:gg B sb c ns fs w ms T R W){f l:List Nat}{vf vl:ay}(hf:dE W vf f)(hl:dE W vl l)(hn:f.length+l.length<=100000){F:List Nat}(hF:F=f++l):aX ah 163 #[vf,vl] W λe w'=>∃a cc,e= .returned (.slice a F.length cc)/\Hid (dE w' (.slice a F.length cc) F/\ji W w'/\gg B sb c ns fs w ms T R w'):=(XJ f l vf vl W hf hl hn).mono λe w' he=>by obtain⟨v,rfl,h1,_,h2⟩:=he;rw[<-hF]at h1;obtain⟨a,cc,rfl⟩:=ownsRow_form h1;exact⟨a,cc,rfl,ae ⟨h1,ji.below h2,h.rest h2⟩⟩
theorem gg.tie(h:gg B sb c ns fs w ms T R W){F L:List Nat}{vF vL:ay}(hF:dE W vF F)(hL:dE W vL L)(hFl:∀f∈F,f<c)(hLl:∀l∈L,l<c)(hFn:F.length<=c)(hLn:L.length<=c)(hc:c<=1000)(hfc:fs.length=c)(OM:B<=sb/\∀f∈fs,B<=f):aX ah 164 #[pT sb,vF,vL] W λe w'=>e= .returned (.tuple #[])/\Hid (ji W w'/\∃R',gg B sb c ns fs w ms T R' w'/\∀a b,jg R' a b=true↔jg R a b=true\/(a∈F/\b∈L)):=(VV sb c B (ns++ms) fs R F L vF vL W h.spread hF hL (by rw[hfc];exact hFl) hLl (by omega) (by omega) hc (by omega) (aZ h.low (ij h.more)) OM.2).mono λe w' he=>by obtain⟨rfl,h1,h2,R',h3,h4⟩:=he;exact⟨rfl,ae ⟨h2.V6,R',h.rows h1 h2 h3,h4⟩⟩
theorem gg.done(h:gg B sb c ns fs w ms T R' W){y:bC}{f l:List Nat}{vf vl:ay}(hF:dE W vf f)(hL:dE W vl l)(hf:f.length<=y.count/\∀k,k∈f↔y.fst ns.length k)(hl:l.length<=y.count/\∀k,k∈l↔y.uh ns.length k)(hm:ms.length=y.count)(hb:∀a b,jg R' a b=true↔jg R a b=true\/y.xA ns.length a b)(hT:∀k d,T k d↔y.yD ns.length k d)(z:Bool)(V:ak)(hV:V=((W.setCell (aD w.heap.size 0) vf).setCell (aD w.heap.size 1) vl).setCell (aD w.heap.size 2) (.bool z)):V.heap[w.heap.size]?=some (.cells #[vf,vl,.bool z] 144 (0,0))/\acu B sb c ns fs R y w vf vl V/\∃hv fv,V.heap[sb]?=some (.cells #[hv,fv] 150 (0,0))/\kp B hv:=by
 obtain⟨h1,hoth,yU⟩:=Cx h.zero vf vl (.bool z);have hsz:W.heap.size<=V.heap.size:=by rw[hV];simp only[World.size_setCell];exact au _
 rw[<-hV]at h1 hoth yU;have hp:∀(k:Nat)cs t r,W.heap[k]?=some (.cells cs t r)->t≠144->V.heap[k]?=W.heap[k]?:=λk cs t r e ht=>hoth k λe'=>by subst e';rw[h.zero]at e;cases e;exact ht rfl
 have ahx:∀v L,dE W v L->dE V v L:=λv L hv=>bT hv λk cs r hk=>hp k cs _ r hk (by decide);refine⟨h1,⟨yU B w h.below h.low,by have:=h.more;omega,λk cs t r e ht=>(hoth k (by have:=lt_of_heap e;omega)).trans (h.kept k cs t r e ht),⟨f,ahx _ _ hF,hf⟩,⟨l,ahx _ _ hL,hl⟩,⟨ms,R',h.spread.part hp,hm,hb,λk m e=>?_⟩⟩,?_⟩;·obtain⟨hs,a,b⟩:=h.Zn k m e;exact⟨hs,a.old (hp _ _ _ _ a.2 (by decide)),λd=>(b d).trans (hT _ _)⟩
 ·obtain⟨hv,fv,a,b⟩:=h.past;exact⟨hv,fv,(hp _ _ _ _ a (by decide)).trans a,b⟩
theorem gg.push(h:gg B sb c ns fs w [] (λ_ _=>False) R W){nb:Nat}{b:bG}{ea:Option Addr}{ec g:Nat}{cap:Nat}{fv:ay}{W4:ak}(hn:bu W (.one b) nb)(TY:B<=sb)(e1:W.heap[sb]?=some (.cells #[.slice ea ns.length ec,fv] 150 (0,0)))(e2:W.ownsRow 0 81 1 (.slice ea ns.length ec) ns.length (ns.map aP))(e3:W.ownsRow 0 151 1 fv fs.length (fs.map λf=>ja f c))(hm:bL (W.alloc (.cells #[aP nb] 81)) (.slice ea ns.length ec) W4 (sL g (ns.length+1) cap))(hr:W4.ownsRow 0 81 1 (sL g (ns.length+1) cap) (ns.length+1) (ns.map aP++[aP nb])):W4.heap[sb]?=some (.cells #[.slice ea ns.length ec,fv] 150 (0,0))/\gg B sb c ns fs w [nb] (λk d=>(bC.one b).yD ns.length k d) R (W4.setCell (aD sb 0) (sL g (ns.length+1) cap)):=by
 have hpv:kp B (.slice ea ns.length ec):=by obtain⟨hv,fv',k1,k2⟩:=h.past;rw[e1]at k1;cases k1;exact k2
 have hB1:=aZ h.low (ij h.more);have Hg:aI W.heap.size W (W.alloc (.cells #[aP nb] 81)):=(aB _ _).alloc (au _) _;have hk4:∀(k:Nat)cs t r,W.heap[k]?=some (.cells cs t r)->t≠81->W4.heap[k]?=W.heap[k]?:=λk cs t r hk ht=>(hm.block (lt_of_heap ((Hg.block k (lt_of_heap hk)).trans hk)) λe=>ht (cz e2 e hk)).trans (Hg.block k (lt_of_heap hk));have hs4:=(hk4 _ _ _ _ e1 (by decide)).trans e1;obtain⟨V,hV⟩:∃V,V=W4.setCell (aD sb 0) (sL g (ns.length+1) cap):=⟨_,rfl⟩;have hsV:=heap_setCell_same W4 sb 0 _ _ (sL g (ns.length+1) cap) hs4;have hne:∀k,k≠sb->V.heap[k]?=W4.heap[k]?:=λk hk=>by rw[hV];exact az W4 _ _ k hk
 rw[<-hV]at hsV⊢;have hk:∀(k:Nat)cs t r,W.heap[k]?=some (.cells cs t r)->t≠81->t≠150->V.heap[k]?=W.heap[k]?:=λk cs t r hk ht h2=>(hne k λe=>by subst e;rw[e1]at hk;cases hk;exact h2 rfl).trans (hk4 k cs t r hk ht);have hb4:=hm.below hpv (((aB B W).trans (Hg.mono hB1))) (aZ hB1 Hg.size);have hb5:aI B W V:=by rw[hV];exact hb4.setCell TY _
 have hgs:g≠sb:=λe=>by subst e;have:=cz hr rfl hs4;revert this;decide
 have hs:=h.spread;rw[gv]at hs;refine⟨hs4,h.below.trans hb5,h.low,bI h.more hb5.size,λk cs t r e ht=>?_,(hk _ _ _ _ h.zero (by decide) (by decide)).trans h.zero,⟨⟨_,_,hsV,?_,bT e3 λk cs r e=>hk k cs _ r e (by decide) (by decide)⟩,hs.nd,hs.len,λi f l hf hl=>?_⟩,λk d e=>?_,λk m e=>?_,_,_,hsV,λk e=>?_⟩;·have e1:=h.kept k cs t r e ht;exact(hk k cs t r (e1.trans e) (by rcases ht with rfl|rfl|rfl<;>decide) (by rcases ht with rfl|rfl|rfl<;>decide)).trans e1
 ·rw[bh,List.map_append];exact aO hr λk e=>hne k λe'=>hgs ((aJ e).trans e')
 ·obtain⟨k1,k2⟩:=hs.row i f l hf hl;exact⟨k1.old (hk _ _ _ _ k1 (by decide) (by decide)),k2⟩
 ·exact(bC.Be (.one b) e).2
 ·obtain⟨hs,a,bb⟩:=hn;match k,e with|0,e=>cases e;exact⟨hs,a.old (hk _ _ _ _ a.2 (by decide) (by decide)),λd=>by rw[bb d.toNat d.toNat_lt];simp[bC.yD]⟩
 ·cases e;exact hm.past hpv (aZ hB1 Hg.size) g rfl
end
def X3(kd:Nat)(lk nn:Bool)(x y:bC):Prop:=(kd=4/\lk=true/\nn=true/\y= .many x false)\/(kd=5/\lk=true/\nn=false/\y= .many x true)\/(kd=6/\lk=false/\nn=true/\y= .maybe x)
theorem X3.facts{kd:Nat}{lk nn:Bool}{x y:bC}(h:X3 kd lk nn x y):(∀W nb,bu W y nb->∃hs a,bP W nb kd hs (aP a) (.pointer none)/\bu W x a)/\y.count=x.count/\y.fst=x.fst/\y.uh=x.uh/\y.yD=x.yD/\y.qH=(nn||x.qH)/\∀n a b,y.xA n a b↔x.xA n a b\/lk=true/\x.uh n a/\x.fst n b:=by rcases h with⟨rfl,rfl,rfl,rfl⟩|⟨rfl,rfl,rfl,rfl⟩|⟨rfl,rfl,rfl,rfl⟩<;>exact⟨λW nb h=>h,rfl,rfl,rfl,rfl,by simp[bC.qH],λn a b=>by simp[bC.xA]⟩
theorem N9(B sb c:Nat)(fs:List Nat)(hc9:c<=1000)(hfc:fs.length=c)(kd:Nat)(lk nn:Bool)(x y:bC)(hk:X3 kd lk nn x y)(hx:TA B sb c fs x):TA B sb c fs y:=by
 intro ns rows nb w hs hN hc hB TY OM mZ;obtain⟨W1,hW1⟩:∃W1,W1=w.alloc (.cells #[.slice none 0 0,.slice none 0 0,.bool false] 144):=⟨_,rfl⟩;have hr:=gg.start hs hB mZ hW1;obtain⟨hf1,hf2,hf3,hf4,hf5,hf6,hf7⟩:=hk.facts;obtain⟨pX,xb,hn,hnx⟩:=hf1 _ _ (hr.kept.node hN);have HB:=ae (aA TY OM);have c0:=hn.shape;have c1:=hn.left;rw[hf2]at hc;have HX:=ae (hr.ask hx hnx rfl (by simpa using hc) HB);have HY:=ae (show _/\_/\_/\_/\_/\_ from⟨hf2,hf3,hf4,hf5,hf6,hf7⟩);have Fx:=ae hn;have hk':(kd=6/\lk=false/\nn=true)\/(kd=4/\lk=true/\nn=true)\/(kd=5/\lk=true/\nn=false):=by rcases hk with⟨h1,h2,h3,_⟩|⟨h1,h2,h3,_⟩|⟨h1,h2,h3,_⟩<;>simp[h1,h2,h3]
 clear hs hN hB TY OM mZ hr hx hn hnx hf1 hf2 hf3 hf4 hf5 hf6 hf7 hk;unfold aP;go_enter asq,aoT;rcases hk' with⟨rfl,rfl,rfl⟩|⟨rfl,rfl,rfl⟩|⟨rfl,rfl,rfl⟩;all_goals go_upto_region 1 with fail;rw[<-hW1];clear hW1;go_upto_region 25 with(go_at_call 118;refine HX.mono ?_;rintro e w2⟨af,al,cf,cl,f,l,ms,R2,xn,rfl,hf,hl,ho2,HG⟩;clear HX);obtain⟨W3,hW3⟩:∃W3,W3=w2.alloc (.cells #[.slice af f.length cf,.slice al l.length cl,.bool xn] 144):=⟨_,rfl⟩;rw[<-hW3];obtain⟨k3,r3,p3⟩:=HG.2.2.2 W3 hW3;have c0:=(k3.nodeAt Fx).shape;have H3:=ae (show _/\_/\_ from⟨r3,p3,k3⟩);clear hW3 k3 c1
 obtain⟨w4,hw4⟩:∃w4,w4=W3:=⟨_,rfl⟩;rw[<-hw4]at c0⊢;have H4:Hid (ji W3 w4/\∃R',gg B sb c ns fs w ms (λk d=>False\/x.yD ns.length k d) R' w4/\∀a b,jg R' a b=true↔jg rows a b=true\/y.xA ns.length a b):=ae (by rw[hw4];exact⟨ji.refl _,R2,H3.1,λa b=>by rw[HG.2.2.1,HY.2.2.2.2.2];simp⟩);clear hw4 r3 p3;iterate 2(rotate_left;focus(have r0:W3.cell? (aD w2.heap.size 1)=some (.slice al l.length cl):=aq p3.blk;have r1:W3.cell? (aD w2.heap.size 0)=some (.slice af f.length cf):=aq p3.blk;have HT:=ae (r3.tie p3.nl p3.nf (λk hk=>by have:=bC.yM x ((p3.ll.2 k).1 hk);simp at this hc;omega) (λk hk=>by have:=bC.Xq x ((p3.ff.2 k).1 hk);simp at this hc;omega) hl hf hc9 hfc HB);have HM:=ae (aA p3.ll.2 p3.ff.2);clear r3 p3;go_upto_region 27 with(go_at_call 164;refine HT.mono ?_;rintro e w4⟨rfl,HG4⟩;clear HT r0 r1);have c0:=((HG4.1).nodeAt (H3.2.2.nodeAt Fx)).shape;have H4:Hid (ji W3 w4/\∃R',gg B sb c ns fs w ms (λk d=>False\/x.yD ns.length k d) R' w4/\∀a b,jg R' a b=true↔jg rows a b=true\/y.xA ns.length a b):=ae (by obtain⟨k4,R4,r4,hb4⟩:=HG4.out;exact⟨k4,R4,r4,λa b=>by rw[hb4,HG.2.2.1,HY.2.2.2.2.2,HM.1,HM.2];simp[or_assoc]⟩);clear HG4 HM))
 all_goals
  obtain⟨k4,R4,r4,hb4⟩:=H4.out;have p4:=H3.2.1.keep k4;have g2:w4.cell? (aD w2.heap.size 2)=some (.bool xn):=aq p4.blk;have g3:w4.frozen? (aD w2.heap.size 2)=false:=aU p4.blk;have PK:=ae (aA r4 p4);have ME:=ae hb4;clear r4 p4 k4 hb4 H4;go_upto_region 29 with fail;first|(obtain⟨V,hV⟩:∃V,V=w4.setCell (aD w2.heap.size 2) (.bool true):=⟨_,rfl⟩;rw[<-hV];have HV:Hid (gg B sb c ns fs w ms (λk d=>False\/x.yD ns.length k d) R4 V/\V.heap[w2.heap.size]?=some (.cells #[.slice af f.length cf,.slice al l.length cl,.bool true] 144 (0,0))/\dE V (.slice af f.length cf) f/\dE V (.slice al l.length cl) l):=ae (by rw[hV];exact⟨PK.1.set PK.2.blk ho2 _ _,heap_setCell_same w4 w2.heap.size 2 _ _ _ PK.2.blk,oV PK.2.nf PK.2.blk _ _,oV PK.2.nl PK.2.blk _ _⟩);have q2:V.cell? (aD w2.heap.size 2)=some (.bool true):=aq HV.2.1;have q0:V.cell? (aD w2.heap.size 0)=some (.slice af f.length cf):=aq HV.2.1;have q1:V.cell? (aD w2.heap.size 1)=some (.slice al l.length cl):=aq HV.2.1)|(obtain⟨V,hV⟩:∃V,V=w4:=⟨_,rfl⟩;rw[<-hV]at PK⊢;have HV:Hid (gg B sb c ns fs w ms (λk d=>False\/x.yD ns.length k d) R4 V/\V.heap[w2.heap.size]?=some (.cells #[.slice af f.length cf,.slice al l.length cl,.bool xn] 144 (0,0))/\dE V (.slice af f.length cf) f/\dE V (.slice al l.length cl) l):=ae ⟨PK.1,PK.2.blk,PK.2.nf,PK.2.nl⟩;have q2:V.cell? (aD w2.heap.size 2)=some (.bool xn):=aq HV.2.1;have q0:V.cell? (aD w2.heap.size 0)=some (.slice af f.length cf):=aq HV.2.1;have q1:V.cell? (aD w2.heap.size 1)=some (.slice al l.length cl):=aq HV.2.1)
  clear hV g2 g3 c0;have HZ:=ae HV.1;have HD:=ae (HZ.done (R:=rows) (y:=y) HV.2.2.1 HV.2.2.2 (by rw[HY.1,HY.2.1];exact H3.2.1.ff) (by rw[HY.1,HY.2.2.1];exact H3.2.1.ll) (by rw[HY.1];exact HG.2.1) ME (λk d=>by rw[HY.2.2.2.1];simp));have HN:=ae HY.2.2.2.2.1;obtain⟨k0,k1,k2,f0,f1,f2⟩:=HZ.own;go_wp2_with fail;obtain⟨hW,hE,hP⟩:=HD _ _ rfl;refine bodyPost_ret (results_cell_row rfl _ _ (w.heap.size) _ _ _ _ rfl hW nQ rfl (by kernel_rfl)) rfl ?_;exact⟨_,_,by rw[HN,<-HG.1];rfl,hE,hP⟩
def Kid:bC->bC->Prop| .seq x y,a| .or x y,a=>a=x\/a=y|_,_=>False
theorem Ew(B sb c:Nat)(fs:List Nat)(hc9:c<=1000)(hfc:fs.length=c)(z:bC)(hne:∀x sm,z≠ .many x sm/\z≠ .maybe x)(ih:∀y,Kid z y->TA B sb c fs y):TA B sb c fs z:=by intro ns rows nb w hs hN hc hB TY OM mZ;obtain⟨W1,hW1⟩:∃W1,W1=w.alloc (.cells #[.slice none 0 0,.slice none 0 0,.bool false] 144):=⟨_,rfl⟩;have hr:=gg.start hs hB mZ hW1;have hn:=hr.kept.node hN;have HR:=ae hr;have HI:=ae ih;have HB:=ae (aA TY OM);clear hs hN hB TY OM mZ hr ih;unfold aP;go_enter asq,aoT;cases z with
 |iW=>exact hn.elim|empty=>have c0:=bP.shape hn;go_upto_region 1 with fail;rw[<-hW1];clear hW1;have HZ:Hid (gg B sb c ns fs w [] (λ_ _=>False) rows W1):=HR;have HD:=ae (HR.done (R:=rows) (y:= .empty) (f:=[]) (l:=[]) (vf:= .slice none 0 0) (vl:= .slice none 0 0) (bS _ _ _ _) (bS _ _ _ _) ⟨au _,λk=>by simp[bC.fst]⟩ ⟨au _,λk=>by simp[bC.uh]⟩ rfl (λa b=>by simp[bC.xA]) (λk d=>by simp[bC.yD]));have HN:Hid (bC.empty.qH=true):=ae rfl;obtain⟨k0,k1,k2,f0,f1,f2⟩:=HZ.own;go_wp2_with fail;obtain⟨hW,hE,hP⟩:=HD _ _ rfl;refine bodyPost_ret (results_cell_row rfl _ _ (w.heap.size) _ _ _ _ rfl hW nQ rfl (by kernel_rfl)) rfl ?_;exact⟨_,_,by rw[HN];try rfl,hE,hP⟩|one b=>
  obtain⟨i0,hi,hz0,hz1,hz2⟩:=info_parts Tryz.ag3;have QT:=ae hn;obtain⟨pX,hn,rP⟩:=hn;have c0:=hn.shape;have hs:=HR.spread;rw[gv]at hs;obtain⟨hv,fv,e1,e2,e3⟩:=hs.ex;obtain⟨ea,ec,rfl⟩:=ownsRow_form e2;have d0:W1.cell? (aD sb 0)=some (.slice ea ns.length ec):=aq e1;have hrow:=e2.alloc (.cells #[aP nb] 81);have hnl:ns.length+1<=c:=hc;have HP:=ae λg cap W4=>HR.push (g:=g) (cap:=cap) (W4:=W4) QT HB.1 e1 e2 e3;clear hs e1 e2 e3 rP hn;unfold aP at hrow;go_upto_region 1 with fail;rw[<-hW1];clear hW1;go_upto_region 7 with(at_builtin;refine wpList_append_lies rfl _ _ 147 rfl 81 i0 (.pointer none) 1 8 Tryz.underlying147 hi hz0 hz1 hz2 rfl (by decide) (.slice ea ns.length ec) ns.length (ns.map aP) rfl hrow (aD W1.heap.size 0) 1 1 [pT nb] rfl rfl (cell_one_new W1 _ _) (by simp[Value.oneCell']) (by decide) (by unfold maxLen;omega) (by omega) ?_;intro v4 W4 hrow4 cM dS;obtain⟨g4,wU,rfl⟩:=bX hrow4;obtain⟨hs4,hr4⟩:=HP g4 wU W4 (bL.append cM dS) hrow4;have y0:W4.cell? (aD sb 0)=some (.slice ea ns.length ec):=aq hs4;have y1:W4.frozen? (aD sb 0)=false:=aU hs4;have H4:=ae hr4;clear hs4 hr4 hrow4 cM dS);obtain⟨W5,uM⟩:∃W5,W5=W4.setCell (aD sb 0) (sL g4 (ns.length+1) wU):=⟨_,rfl⟩;rw[<-uM]at H4⊢;clear uM y0 y1 c0 d0 hrow;obtain⟨W7,wO⟩:∃W7,W7=(W5.alloc (.cells #[iV (ns.length:Int)] 3)).alloc (.cells #[iV (ns.length:Int)] 3):=⟨_,rfl⟩;have lC:aI W5.heap.size W5 W7:=by rw[wO];exact((aB _ W5).alloc (au _) _).alloc (by simp) _
  have HZ:=ae (H4.rest lC);have a1:=(Ld W5 ns.length).below ((aB _ _).alloc (au _) (.cells #[iV (ns.length:Int)] 3));have a2:=Ld (W5.alloc (.cells #[iV (ns.length:Int)] 3)) ns.length;rw[bM]at a2;rw[<-wO]at a1 a2;have HD:=ae (HZ.done (R:=rows) (y:= .one b) a1 a2 ⟨au _,λk=>by simp[bC.fst]⟩ ⟨au _,λk=>by simp[bC.uh]⟩ rfl (λa b=>by simp[bC.xA]) (λk d=>FR));have HN:Hid ((bC.one b).qH=false):=ae rfl;rw[wO]at HZ;clear a1 a2 lC;obtain⟨k0,k1,k2,f0,f1,f2⟩:=HZ.own;go_wp2_with fail;rw[<-wO];obtain⟨hW,hE,hP⟩:=HD _ _ rfl;refine bodyPost_ret (results_cell_row rfl _ _ (w.heap.size) _ _ _ _ rfl hW nQ rfl (by kernel_rfl)) rfl ?_;exact⟨_,_,by rw[HN];try rfl,hE,hP⟩|or x y=>obtain⟨pX,xb,yb,hn,hnx,zh⟩:=hn;have hcc:ns.length+(x.count+y.count)<=c:=hc;have c0:=hn.shape;have c1:=hn.left;have HX:=ae (HR.ask (HI x (.inl rfl)) hnx rfl (by simp;omega) HB);have Fx:=ae (aA hn zh);clear hn hnx zh;go_upto_region 1 with fail;rw[<-hW1];clear hW1;go_upto_region 10 with(go_at_call 118;refine HX.mono ?_;rintro e w2⟨af,al,cf,cl,f,l,ms,R2,xn,rfl,hf,hl,ho2,HG⟩;clear HX);obtain⟨W3,hW3⟩:∃W3,W3=w2.alloc (.cells #[.slice af f.length cf,.slice al l.length cl,.bool xn] 144):=⟨_,rfl⟩;rw[<-hW3];obtain⟨k3,r3,p3⟩:=HG.2.2.2 W3 hW3;have c2:=(k3.nodeAt Fx.1).right;have HY:=ae (r3.ask (HI y (.inr rfl)) (k3.node Fx.2) rfl (by simp[HG.2.1];omega) HB);have H3:=ae p3;clear k3 r3 p3 hW3 c0 c1;go_upto_region 11 with(go_at_call 118;refine HY.mono ?_;rintro e w4⟨ag,am,cg,cm,g,m,ms2,R4,yn,rfl,hg,hm,ho4,HG2⟩;clear HY);obtain⟨W5,uM⟩:∃W5,W5=w4.alloc (.cells #[.slice ag g.length cg,.slice am m.length cm,.bool yn] 144):=⟨_,rfl⟩;rw[<-uM];obtain⟨k5,r5,p5⟩:=HG2.2.2.2 W5 uM;have p3:=H3.keep k5;have r0:W5.cell? (aD w2.heap.size 0)=some (.slice af f.length cf):=aq p3.blk;have r1:W5.cell? (aD w4.heap.size 0)=some (.slice ag g.length cg):=aq p5.blk;obtain⟨F,hF⟩:∃F,F=f++g:=⟨_,rfl⟩;have HJ:=ae (r5.join p3.nf p5.nf (by omega) hF);have H5:=ae (aA p3 p5);have HFF:=ae hF;clear k5 r5 p3 p5 uM c2 hF;go_upto_region 12 with(go_at_call 163;refine HJ.mono ?_;rintro e w6⟨aF,cF,rfl,J6⟩;clear HJ r0 r1);have p3:=H5.1.keep J6.2.1;have p5:=H5.2.keep J6.2.1;have r0:w6.cell? (aD w2.heap.size 1)=some (.slice al l.length cl):=aq p3.blk;have r1:w6.cell? (aD w4.heap.size 1)=some (.slice am m.length cm):=aq p5.blk;obtain⟨L,hL⟩:∃L,L=l++m:=⟨_,rfl⟩;have HJ:=ae (J6.2.2.join p3.nl p5.nl (by omega) hL);have H6:=ae (aA p3 p5);have HLL:=ae hL;clear p3 p5 hL;go_upto_region 13 with(go_at_call 163;refine HJ.mono ?_;rintro e w7⟨aL,cL,rfl,J7⟩;clear HJ r0 r1);have p3:=H6.1.keep J7.2.1;have p5:=H6.2.keep J7.2.1;have r0:w7.cell? (aD w2.heap.size 2)=some (.bool xn):=aq p3.blk;have r1:w7.cell? (aD w4.heap.size 2)=some (.bool yn):=aq p5.blk;have HZ:=ae J7.2.2;have HD:=ae (HZ.done (R:=rows) (y:= .or x y) (J7.2.1.ints J6.1) J7.1 (by rw[HFF,bh];exact⟨AV p3.ff.1 p5.ff.1,λk=>by rw[jM,p3.ff.2,p5.ff.2];simp[bC.fst,HG.2.1]⟩) (by rw[HLL,bh];exact⟨AV p3.ll.1 p5.ll.1,λk=>by rw[jM,p3.ll.2,p5.ll.2];simp[bC.uh,HG.2.1]⟩) (by simp[HG.2.1,HG2.2.1,bC.count]) (λa b=>by rw[HG2.2.2.1,HG.2.2.1];simp[bC.xA,HG.2.1,or_assoc]) (λk d=>by simp[bC.yD,HG.2.1]));have HN:Hid ((bC.or x y).qH=(xn||yn)):=ae (by rw[HG.1,HG2.1];rfl);clear p3 p5;cases xn;all_goals obtain⟨k0,k1,k2,f0,f1,f2⟩:=HZ.own;go_wp2_with fail;obtain⟨hW,hE,hP⟩:=HD _ _ rfl;refine bodyPost_ret (results_cell_row rfl _ _ (w.heap.size) _ _ _ _ rfl hW nQ rfl (by kernel_rfl)) rfl ?_;exact⟨_,_,by rw[HN];try rfl,hE,hP⟩|seq x y=>
  obtain⟨pX,xb,yb,hn,hnx,zh⟩:=hn;have hcc:ns.length+(x.count+y.count)<=c:=hc;have c0:=hn.shape;have c1:=hn.left;have HX:=ae (HR.ask (HI x (.inl rfl)) hnx rfl (by simp;omega) HB);have Fx:=ae (aA hn zh);clear hn hnx zh;go_upto_region 1 with fail;rw[<-hW1];clear hW1;go_upto_region 16 with(go_at_call 118;refine HX.mono ?_;rintro e w2⟨af,al,cf,cl,f,l,ms,R2,xn,rfl,hf,hl,ho2,HG⟩;clear HX);obtain⟨W3,hW3⟩:∃W3,W3=w2.alloc (.cells #[.slice af f.length cf,.slice al l.length cl,.bool xn] 144):=⟨_,rfl⟩;rw[<-hW3];obtain⟨k3,r3,p3⟩:=HG.2.2.2 W3 hW3;have c2:=(k3.nodeAt Fx.1).right;have HY:=ae (r3.ask (HI y (.inr rfl)) (k3.node Fx.2) rfl (by simp[HG.2.1];omega) HB);have H3:=ae p3;clear k3 r3 p3 hW3 c0 c1;go_upto_region 17 with(go_at_call 118;refine HY.mono ?_;rintro e w4⟨ag,am,cg,cm,g,m,ms2,R4,yn,rfl,hg,hm,ho4,HG2⟩;clear HY);obtain⟨W5,uM⟩:∃W5,W5=w4.alloc (.cells #[.slice ag g.length cg,.slice am m.length cm,.bool yn] 144):=⟨_,rfl⟩;rw[<-uM];obtain⟨k5,r5,p5⟩:=HG2.2.2.2 W5 uM;have p3:=H3.keep k5;have r0:W5.cell? (aD w2.heap.size 1)=some (.slice al l.length cl):=aq p3.blk;have r1:W5.cell? (aD w4.heap.size 0)=some (.slice ag g.length cg):=aq p5.blk;have HT:=ae (r5.tie p3.nl p5.nf (λk hk=>by have:=bC.yM x ((p3.ll.2 k).1 hk);simp at this;omega) (λk hk=>by have:=bC.Xq y ((p5.ff.2 k).1 hk);simp[HG.2.1]at this;omega) hl hg hc9 hfc HB);have H5:=ae (aA p3 p5);clear k5 r5 p3 p5 uM c2;go_upto_region 18 with(go_at_call 164;refine HT.mono ?_;rintro e w6⟨rfl,HG6⟩;clear HT);obtain⟨k6,R6,r6,acf⟩:=HG6.out;have p3:=H5.1.keep k6;have p5:=H5.2.keep k6;have a0:w6.cell? (aD w2.heap.size 0)=some (.slice af f.length cf):=aq p3.blk;have a2:w6.cell? (aD w2.heap.size 2)=some (.bool xn):=aq p3.blk;have d1:w6.cell? (aD w4.heap.size 1)=some (.slice am m.length cm):=aq p5.blk;have d2:w6.cell? (aD w4.heap.size 2)=some (.bool yn):=aq p5.blk;have atY:=lt_of_heap p3.blk;have atW:=lt_of_heap p5.blk;obtain⟨zn,hzn⟩:∃zn,zn=(xn&&yn):=⟨_,rfl⟩;have ho6:=r6.more;obtain⟨W7,wO⟩:∃W7,W7=w6.alloc (.cells #[.slice af f.length cf,.slice am m.length cm,.bool zn] 144):=⟨_,rfl⟩;have lC:aI w6.heap.size w6 W7:=by rw[wO];exact(aB _ _).alloc (au _) _
  have hp7:W7.heap[w6.heap.size]?=some (.cells #[.slice af f.length cf,.slice am m.length cm,.bool zn] 144 (0,0)):=by rw[wO];exact heap_alloc_new _ _
  have H7:=ae (show _/\_/\_/\_ from⟨r6.rest lC,p3.keep (ji.below lC),p5.keep (ji.below lC),hp7⟩);have ME:=ae acf;have Fx:Hid ((bC.seq x y).qH=zn):=ae (by rw[hzn,HG.1,HG2.1];rfl);clear k6 r6 p3 p5 lC hp7 acf r0 r1;have Jd:∀k,k∈f↔x.fst ns.length k:=H7.2.1.ff.2;have hgs:∀k,k∈g↔y.fst (ns.length+x.count) k:=λk=>(H7.2.2.1.ff.2 k).trans (by simp[HG.2.1]);have hls:∀k,k∈l↔x.uh ns.length k:=H7.2.1.ll.2;have hms:∀k,k∈m↔y.uh (ns.length+x.count) k:=λk=>(H7.2.2.1.ll.2 k).trans (by simp[HG.2.1]);have hlen:f.length<=x.count/\g.length<=y.count/\l.length<=x.count/\m.length<=y.count:=⟨H7.2.1.ff.1,H7.2.2.1.ff.1,H7.2.1.ll.1,H7.2.2.1.ll.1⟩;have xG:=ae (show _/\_/\_/\_/\_ from⟨Jd,hgs,hls,hms,hlen⟩);clear Jd hgs hls hms hlen;obtain⟨Q,hQ⟩:∃Q:ak->(Nat->Prop)->(Nat->Prop)->Prop,∀V G H,Q V G H↔∃(aF aL:Option Addr)(cF cL:Nat)(F L:List Nat),V.heap[w6.heap.size]?=some (.cells #[.slice aF F.length cF,.slice aL L.length cL,.bool zn] 144 (0,0))/\dE V (.slice aF F.length cF) F/\dE V (.slice aL L.length cL) L/\gg B sb c ns fs w (ms++ms2) (λk d=>(False\/x.yD ns.length k d)\/y.yD (ns.length+ms.length) k d) R6 V/\uC V w2.heap.size x ns.length (.slice af f.length cf) (.slice al l.length cl) xn f l/\uC V w4.heap.size y (ns.length+ms.length) (.slice ag g.length cg) (.slice am m.length cm) yn g m/\(F.length<=(bC.seq x y).count/\∀k,k∈F↔G k)/\L.length<=(bC.seq x y).count/\∀k,k∈L↔H k:=⟨_,λ_ _ _=>FR⟩;have HQ:=ae hQ;have HZN:=ae hzn;clear hQ hzn;cases xn;case' false=>go_upto_region 19 with fail;rw[show zn=false from HZN]at wO;rw[<-wO];clear wO;have H8:=ae ((HQ W7 ((bC.seq x y).fst ns.length) (y.uh (ns.length+x.count))).2 ⟨af,am,cf,cm,f,m,H7.2.2.2,H7.2.1.nf,H7.2.2.1.nl,H7.1,H7.2.1,H7.2.2.1,⟨aZ xG.2.2.2.2.1 (Nat.le_add_right _ _),λk=>by rw[xG.1];simp[bC.fst,<-HG.1]⟩,aZ xG.2.2.2.2.2.2.2 (ajY _ _),xG.2.2.2.1⟩);obtain⟨V8,hV8⟩:∃V,V=W7:=⟨_,rfl⟩;rw[<-hV8]at H8⊢;have e2:V8.cell? (aD w2.heap.size 2)=some (.bool false):=by rw[hV8];exact aq H7.2.1.blk
  case' true=>go_upto_region 19 with fail;rw[show zn=yn from HZN]at wO;rw[<-wO];clear wO;have e2:W7.cell? (aD w2.heap.size 2)=some (.bool true):=aq H7.2.1.blk;have r0:W7.cell? (aD w2.heap.size 0)=some (.slice af f.length cf):=aq H7.2.1.blk;have r1:W7.cell? (aD w4.heap.size 0)=some (.slice ag g.length cg):=aq H7.2.2.1.blk;obtain⟨F,hF⟩:∃F,F=f++g:=⟨_,rfl⟩;have HJ:=ae (H7.1.join H7.2.1.nf H7.2.2.1.nf (by omega) hF);have HFF:=ae hF;clear hF;go_upto_region 21 with(go_at_call 163;refine HJ.mono ?_;rintro e w8⟨aF,cF,rfl,J8⟩;clear HJ r0 r1 e2;have hp8:=(J8.2.1 _ _ _ _ H7.2.2.2 (.inr (.inr rfl))).trans H7.2.2.2;have y0:w8.cell? (aD w6.heap.size 0)=some (.slice af f.length cf):=aq hp8;have y1:w8.frozen? (aD w6.heap.size 0)=false:=aU hp8;have HP8:=ae hp8;clear hp8);obtain⟨V8,hV8⟩:∃V,V=w8.setCell (aD w6.heap.size 0) (.slice aF F.length cF):=⟨_,rfl⟩;have H8:=ae ((HQ V8 ((bC.seq x y).fst ns.length) (y.uh (ns.length+x.count))).2 (by rw[hV8];exact⟨aF,am,cF,cm,F,m,heap_setCell_same w8 w6.heap.size 0 _ _ _ HP8,oV J8.1 HP8 _ _,oV (J8.2.1.ints H7.2.2.1.nl) HP8 _ _,J8.2.2.set HP8 ho6 _ _,(H7.2.1.keep J8.2.1).set HP8 (by omega) _ _,(H7.2.2.1.keep J8.2.1).set HP8 (by omega) _ _,⟨by rw[HFF,bh];exact AV xG.2.2.2.2.1 xG.2.2.2.2.2.1,λk=>by rw[HFF,jM,xG.1,xG.2.1];simp[bC.fst,<-HG.1]⟩,aZ xG.2.2.2.2.2.2.2 (ajY _ _),xG.2.2.2.1⟩));rw[<-hV8];clear y0 y1
  all_goals
   clear hV8;obtain⟨aF,aL,cF,cL,F,L,q0,q1,q2,q3,qa,qb,qF,qL⟩:=(HQ _ _ _).1 H8;have e3:V8.cell? (aD w4.heap.size 2)=some (.bool yn):=aq qb.blk;have HV:=ae (show _/\_/\_/\_/\_/\_/\_/\_ from⟨q0,q1,q2,q3,qa,qb,qF,qL⟩);cases yn;case' false=>
    have H9:=ae ((HQ V8 ((bC.seq x y).fst ns.length) ((bC.seq x y).uh ns.length)).2 ⟨aF,aL,cF,cL,F,L,q0,q1,q2,q3,qa,qb,qF,qL.1,λk=>by rw[qL.2];simp[bC.uh,<-HG2.1]⟩);obtain⟨V9,hV9⟩:∃V,V=V8:=⟨_,rfl⟩;have e4:V9.cell? (aD w4.heap.size 2)=some (.bool false):=by rw[hV9];exact e3
    have e5:=(show V8.cell? (aD w2.heap.size 2)=_ from aq qa.blk);rw[<-hV9]at H9 e5⊢
   case' true=>have r0:V8.cell? (aD w2.heap.size 1)=some (.slice al l.length cl):=aq qa.blk;have r1:V8.cell? (aD w4.heap.size 1)=some (.slice am m.length cm):=aq qb.blk;obtain⟨G,hG⟩:∃G,G=l++m:=⟨_,rfl⟩;have HJ:=ae (q3.join qa.nl qb.nl (by omega) hG);have HGG:=ae hG;clear hG q0 q1 q2 q3 qa qb;go_upto_region 23 with(go_at_call 163;refine HJ.mono ?_;rintro e w9⟨aG,cG,rfl,J9⟩;clear HJ r0 r1 e3;(try clear e2);have hp9:=(J9.2.1 _ _ _ _ HV.1 (.inr (.inr rfl))).trans HV.1;have y0:w9.cell? (aD w6.heap.size 1)=some (.slice aL L.length cL):=aq hp9;have y1:w9.frozen? (aD w6.heap.size 1)=false:=aU hp9;have HP9:=ae hp9;clear hp9);obtain⟨V9,hV9⟩:∃V,V=w9.setCell (aD w6.heap.size 1) (.slice aG G.length cG):=⟨_,rfl⟩;have H9:=ae ((HQ V9 ((bC.seq x y).fst ns.length) ((bC.seq x y).uh ns.length)).2 (by rw[hV9];exact⟨aF,aG,cF,cG,F,G,heap_setCell_same w9 w6.heap.size 1 _ _ _ HP9,oV (J9.2.1.ints HV.2.1) HP9 _ _,oV J9.1 HP9 _ _,J9.2.2.set HP9 ho6 _ _,(HV.2.2.2.2.1.keep J9.2.1).set HP9 (by omega) _ _,(HV.2.2.2.2.2.1.keep J9.2.1).set HP9 (by omega) _ _,HV.2.2.2.2.2.2.1,by rw[HGG,bh];exact AV xG.2.2.2.2.2.2.1 xG.2.2.2.2.2.2.2,λk=>by rw[HGG,jM,xG.2.2.1,xG.2.2.2.1,or_comm];simp[bC.uh,<-HG2.1]⟩));rw[<-hV9];clear y0 y1
   all_goals clear hV9;obtain⟨aF,aL,cF,cL,F,L,q0,q1,q2,HZ,-,-,qF,qL⟩:=(HQ _ _ _).1 H9;replace HZ:=ae HZ;have g0:V9.cell? (aD w6.heap.size 0)=some (.slice aF F.length cF):=aq q0;have g1:V9.cell? (aD w6.heap.size 1)=some (.slice aL L.length cL):=aq q0;have g2:V9.cell? (aD w6.heap.size 2)=some (.bool zn):=aq q0;have HD:=ae (HZ.done (R:=rows) (y:= .seq x y) q1 q2 qF qL (by simp[HG.2.1,HG2.2.1,bC.count]) (λa b=>by rw[ME,HG2.2.2.1,HG.2.2.1,xG.2.2.1,xG.2.1];simp[bC.xA,HG.2.1,or_assoc]) (λk d=>by simp[bC.yD,HG.2.1]));have HN:=Fx;clear q0 q1 q2 qF qL;obtain⟨k0,k1,k2,f0,f1,f2⟩:=HZ.own;go_wp2_with fail;obtain⟨hW,hE,hP⟩:=HD _ _ rfl;refine bodyPost_ret (results_cell_row rfl _ _ (w.heap.size) _ _ _ _ rfl hW nQ rfl (by kernel_rfl)) rfl ?_;exact⟨_,_,by rw[HN];try rfl,hE,hP⟩|many x sm=>exact absurd rfl (hne x sm).1|maybe x=>exact absurd rfl (hne x true).2
theorem wC(B sb c:Nat)(fs:List Nat)(hc:c<=1000)(hfc:fs.length=c):∀x:bC,TA B sb c fs x| .empty=>Ew B sb c fs hc hfc _ (λ_ _=>⟨nofun,nofun⟩) λ_ h=>h.elim| .iW=>Ew B sb c fs hc hfc _ (λ_ _=>⟨nofun,nofun⟩) λ_ h=>h.elim| .one b=>Ew B sb c fs hc hfc _ (λ_ _=>⟨nofun,nofun⟩) λ_ h=>h.elim| .seq x y=>Ew B sb c fs hc hfc _ (λ_ _=>⟨nofun,nofun⟩) λ_ h=>h.elim (λe=>e▸wC B sb c fs hc hfc x) λe=>e▸wC B sb c fs hc hfc y| .or x y=>Ew B sb c fs hc hfc _ (λ_ _=>⟨nofun,nofun⟩) λ_ h=>h.elim (λe=>e▸wC B sb c fs hc hfc x) λe=>e▸wC B sb c fs hc hfc y| .many x true=>N9 B sb c fs hc hfc 5 true false x _ (.inr (.inl ⟨rfl,rfl,rfl,rfl⟩)) (wC B sb c fs hc hfc x)| .many x false=>N9 B sb c fs hc hfc 4 true true x _ (.inl ⟨rfl,rfl,rfl,rfl⟩) (wC B sb c fs hc hfc x)| .maybe x=>N9 B sb c fs hc hfc 6 false true x _ (.inr (.inr ⟨rfl,rfl,rfl,rfl⟩)) (wC B sb c fs hc hfc x)
structure tK (w:ak) (v:ay) (n:Nat) (gs:List Nat) (L:List (List Bool)):Prop where
 row:w.ownsRow 0 151 1 v gs.length (gs.map fun g=>ja g n)
 len:L.length=gs.length
 each:∀ (i:Nat) g l,gs[i]?=some g->L[i]?=some l->bY w g l/\l.length=n
def Yz(w:ak)(m:List Bool)(L:List (List Bool))(e:rY)(w':ak):Prop:=Same w w'/\((∃i:Nat,e= .returned (.int .i64 (i:Int))/\L[i]?=some m)\/(e= .returned (.int .i64 (-1))/\m∉L))
theorem SU{l m:List Bool}{n:Nat}(hl:l.length=n)(hm:m.length=n)(h:∀k,k<n->l.getD k false=m.getD k false):l=m:=by apply agx (hl.trans hm.symm);intro i h1 h2;have:=h i (by omega);rwa[aw,aw,ar h1,ar h2]at this
theorem Xv(n:Nat)(hn:n<=100000)(gs:List Nat)(hgl:gs.length<=100000)(L:List (List Bool))(v:ay)(sb:Nat)(m:List Bool)(w:ak)(hL:tK w v n gs L)(hM:bY w sb m)(SB:m.length=n):aX ah 77 #[v,ja sb n] w (Yz w m L):=by
 obtain⟨ea,ec,rfl⟩:=ownsRow_form hL.row;have HS:=ae (show _/\_/\_ from⟨hL,hM,SB⟩);clear hL hM SB;unfold ja;go_enter Tryz.func77,Tryz.ntmps77;go_wp2_with fail;go_loopw[5](λiv wr=>∃i:Nat,i<=gs.length/\iv= .int .i64 (i:Int)/\Hid (m∉L.take i)/\Hid (Same w wr))(λiv _=>gs.length-(intOf iv).toNat);case atStart=>exact⟨0,aW _,rfl,ae (by simp),ae (Same.refl _)⟩
 case round=>
  obtain⟨i,hi,rfl,HN,HW⟩:=hrel;have q1:IntKind.i64.wrap ((i:Int)+1)=(i:Int)+1:=aK _ (by omega);by_cases hlt:i<gs.length;·
   have z1:(0:Int)<=(i:Int)/\(i:Int)<(gs.length:Int):=by omega
   obtain⟨gb,hgb⟩:∃gb,gs[i]?=some gb:=⟨_,ar hlt⟩;obtain⟨l,hl⟩:∃l,L[i]?=some l:=⟨_,ar (by have:=HS.out.1.len;omega)⟩;have HI:=ae (show gs[i]?=some gb/\L[i]?=some l from⟨hgb,hl⟩);clear hgb hl;go_wp2_with fail;go_loopw[6,7](λev kv wx=>∃(k:Nat)(eq:Bool),k<=n/\ev= .bool eq/\kv= .int .i64 (k:Int)/\Hid (eq=true↔∀j,j<k->l.getD j false=m.getD j false)/\Hid (Same w wx))(λ_ kv _=>n-(intOf kv).toNat);case atStart=>exact⟨0,true,aW _,rfl,rfl,ae ⟨λ_ j hj=>absurd hj (Nat.not_lt_zero _),λ_=>rfl⟩,HW⟩
   case round=>
    clear HW;obtain⟨k,eq,hk,rfl,rfl,HE,HX⟩:=hrel;have q2:IntKind.i64.wrap ((k:Int)+1)=(k:Int)+1:=aK _ (by omega);by_cases hlk:k<n;·
     have z2:(0:Int)<=(k:Int)/\(k:Int)<(n:Int):=by omega
     obtain⟨hL,hM,SB⟩:=HS.out;obtain⟨hgb,hl⟩:=HI.out;obtain⟨hr1,hr2⟩:=hL.each i gb l hgb hl;obtain⟨gf,kf,ef,cf⟩:=dh hL.row (j:=i) (u:=ja gb n) (by rw[List.getElem?_map,hgb];rfl);simp only[Value.slice.injEq,true_and]at ef;obtain⟨rfl,rfl⟩:=ef;have c1:wr.cell? (aD gf i)=some (sL gb n n):=(HX.out.cell _).trans cf;have c2:=(HX.out.cell (aD gb k)).trans (hr1.cell (i:=k) (by omega));have c3:=(HX.out.cell (aD sb k)).trans (hM.cell (i:=k) (by omega));obtain⟨xv,hx⟩:∃xv,xv=l.getD k false:=⟨_,rfl⟩;obtain⟨yv,hy⟩:∃yv,yv=m.getD k false:=⟨_,rfl⟩;rw[<-hx]at c2;rw[<-hy]at c3;have hE2:∀z:Bool,z=(eq&&(xv==yv))->Hid (z=true↔∀j,j<k+1->l.getD j false=m.getD j false):=λz hz=>ae (by
      rw[hz,cR,HE.out,beq_iff_eq,hx,hy];constructor;·
       rintro⟨h1,h2⟩j hj;by_cases hjk:j=k;·rw[hjk];exact h2
       ·exact h1 j (by omega)
      ·exactλh=>⟨λj hj=>h j (by omega),h k (by omega)⟩);have HE2:=ae hE2;clear hE2 hx hy hL hM SB hgb hl hr1 hr2 cf;cases eq with
      |false=>
       go_upto_region 8 with fail;refine bB [(0,false),(1,false),(2,false),(3,false),(4,false),(5,false),(6,false),(7,false),(8,false),(9,false),(10,false),(11,false),(12,false),(13,false),(14,false),(15,false)] 1000 (λw'=>Same w w') (by kernel_rfl) (by kernel_rfl) (HX.out.trans (Same.drew _)) ?_;iterate 2(
 refine aR ?_ rfl rfl (λw' hS=>?_) ?_;rotate_left;·go_simp;try rfl
 simp only[aN,ai,aj])
       iterate 12(refine jn rfl rfl ?_;simp only[aN,ai,aj])
       iterate 2(
 refine aR ?_ rfl rfl (λw' hS=>?_) ?_;rotate_left;·go_simp;try rfl
 simp only[aN,ai,aj])
       refine cV ?_;go_wp2_with fail;exact⟨⟨k+1,false,by omega,rfl,by go_num,HE2.out false (by simp),ae (HX.out.trans (Same.drew _))⟩,by simp[intOf];omega⟩|true=>
       go_upto_region 8 with fail;refine bB [(0,false),(1,false),(2,false),(3,false),(4,false),(5,false),(6,false),(7,false),(8,false),(9,false),(10,false),(11,false),(12,false),(13,false),(14,false),(15,false)] 1000 (λw'=>w'.cell? (aD gf i)=some (sL gb n n)/\w'.cell? (aD gb k)=some (.bool xv)/\w'.cell? (aD sb k)=some (.bool yv)) (by kernel_rfl) (by kernel_rfl) ⟨c1,c2,c3⟩ ?_;iterate 16(
 refine aR ?_ rfl rfl (λw' hS=>?_) ?_;rotate_left;·obtain⟨f0,f1,f2⟩:=hS;go_simp;try rfl
 simp only[aN,ai,aj])
       refine cV ?_;go_wp2_with fail;exact⟨⟨k+1,xv==yv,by omega,by cases xv<;>cases yv<;>rfl,by go_num,HE2.out _ (by simp),ae (HX.out.trans (Same.drew _))⟩,by simp[intOf];omega⟩
    ·obtain rfl:k=n:=by omega
     cases eq with
      |false=>have HN2:Hid (m∉L.take (i+1)):=ae (by
       obtain⟨hL,hM,SB⟩:=HS.out;obtain⟨hgb,hl⟩:=HI.out;obtain⟨hil,rfl⟩:=List.getElem?_eq_some_iff.1 hl;rw[List.take_succ_eq_append_getElem hil,jM,List.mem_singleton];rintro(h|h);·exact HN.out h
       ·have:=HE.out.2 (λj _=>by rw[<-h]);cases this);go_wp2_with fail;exact⟨⟨i+1,by omega,by go_num,HN2,ae HX.out⟩,by simp[intOf];omega⟩|true=>have HL:Hid (L[i]?=some m):=ae (by obtain⟨hL,hM,SB⟩:=HS.out;obtain⟨hgb,hl⟩:=HI.out;obtain⟨hr1,hr2⟩:=hL.each i gb l hgb hl;rw[hl,SU hr2 SB (HE.out.1 rfl)]);clear HE;go_wp2_with fail;go_ret;exact⟨HX.out,.inl ⟨i,rfl,HL.out⟩⟩
  ·obtain rfl:i=gs.length:=by omega
   go_wp2_with fail;go_ret;refine⟨HW.out,.inr ⟨rfl,?_⟩⟩;have:=HN.out;rwa[List.take_of_length_le (by rw[HS.out.1.len];exact au _)]at this
end Go.Proofs.Tl
