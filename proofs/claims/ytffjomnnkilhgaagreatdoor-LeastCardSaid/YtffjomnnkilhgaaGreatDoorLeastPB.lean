/- Lemmas towards the statement Least of termsearch: walks of the program's functions and plain laws on lists (TsFields, TsIterA, TsIter, TsRange, TsPosts). Conditions: those that each theorem names. -/
import Derived.Test.YtffjomnnkilhgaaGreatDoorLeastPA
import Derived.Shelf.GgClosure.GivesRunes
import Derived.RangeFuncNested
import Derived.RangeFuncBound
import Derived.RangeFuncCalls
import Derived.RangeFuncLeaves
import Derived.Shelf.Abstract
import Derived.Shelf.RegionOpen
import Derived.OwnWalkIn
import Derived.TacticsInMore
import Derived.LoopNIn
import Derived.LoopIn
import Derived.Laws.IdiomStrings
import Derived.Test.YtffjomnnkilhgaaGreatDoorShelf
import Derived.Maps.RangeRun
import Derived.Below
set_option linter.unusedVariables false
set_option linter.unusedSimpArgs false
set_option linter.unusedSectionVars false
set_option maxRecDepth 100000
set_option maxHeartbeats 32000000
open Classical renaming byContradiction->dP
open Go renaming Oper->gV,Value->ay,World->ak
open Go.Lib renaming closeSpans->AZ,decodeN->oG,goFieldsP->kQ,openPiece->jN,pieceU->tV,pieceU_ne->aoV,spansFromP->alb
open Go.Proofs.Tryz renaming func135->asp,ntmps135->aoS,prog->ah
open Go.RowKit.Below renaming heap_alloc->aC
open Go.Utf8 renaming decode->jb
open List renaming drop_eq_getElem_cons->zt,drop_eq_nil_of_le->UQ,filter_append->qm,getD_eq_getElem?_getD->aw,getElem?_eq_getElem->ar,getElem?_inj->FQ,getElem?_map->bp,getElem?_of_mem->nR,length_append->bh,map_append->cQ,mem_of_getElem?->aS,mem_range->acZ,mem_singleton->iL,nil_append->eZ,take_append_drop->FP,take_of_length_le->vJ,take_succ_eq_append_getElem->bH
open Nat renaming le_refl->au
open Ne renaming symm->dB
open Option renaming map_some->Y6
open Option.some renaming inj->aJ,injEq->vI
open Prod.mk renaming injEq->ML
open UInt8 renaming ofNat->cS
namespace Go.Proofs.Ts
open Go
def jF(x:Nat):Bool:=decide (x<128)&&iD (cS x)
theorem Jm(n b0 b1 b2 b3:Nat)(h:128<=b0):128<=(oG n b0 b1 b2 b3).1/\(2<=(oG n b0 b1 b2 b3).2->128<=b1)/\(3<=(oG n b0 b1 b2 b3).2->128<=b2)/\(4<=(oG n b0 b1 b2 b3).2->128<=b3)/\(oG n b0 b1 b2 b3).2<=4:=by
 unfold oG;repeat' split
 all_goals(simp only;omega)
theorem LX(n b0 b1 b2 b3:Nat)(h:b0<128):oG n b0 b1 b2 b3=(b0,1):=by unfold oG;rw[if_pos h]
theorem Gc{c:UInt8}(h:128<=c.toNat):iD c=false:=by
 have n(x:UInt8)(k:UInt8):(x==k)=decide (x.toNat=k.toNat):=by rw[Bool.eq_iff_iff];simp[UInt8.toNat_inj]
 simp only[iD,n];simp;omega
theorem CQ(c:UInt8)(h:c.toNat<128):jF c.toNat=iD c:=by simp[jF,h]
theorem CJ:∀(u r cur:List UInt8),(∀c∈u,iD c=false)->fields (u++r) cur=fields r (cur++u)
 |[],r,cur,_=>by simp|c::u,r,cur,h=>by
  have hc:=h c (by simp);rw[List.cons_append];conv=>lhs;unfold fields
  rw[if_neg (by simp[hc]),CJ u r (cur++[c]) λx hx=>h x (by simp[hx])];simp
theorem NK(s:ByteArray)(pos:Nat)(h:pos<s.size):(jF (jb s pos).1=true->(jb s pos).2=1/\iD (s.data.toList.getD pos 0)=true)/\(jF (jb s pos).1=false->∀c∈(s.data.toList.drop pos).take (jb s pos).2,iD c=false):=by
 have hd:=Lib.decode_N s pos;by_cases h0:(s.data.toList.getD pos 0).toNat<128;·
  rw[LX _ _ _ _ _ h0]at hd;rw[hd];simp only;rw[CQ _ h0];refine⟨λhb=>⟨trivial,hb⟩,λhb c hc=>?_⟩;have hl:pos<s.data.toList.length:=by simpa using h
  rw[zt hl]at hc;simp only[List.take_succ_cons,List.take_zero,iL]at hc;subst hc;rw[aw,ar hl]at hb;exact hb
 ·obtain⟨h1,h2,h3,h4,h5⟩:=Jm (s.data.toList.length-pos) (s.data.toList.getD pos 0).toNat (s.data.toList.getD (pos+1) 0).toNat (s.data.toList.getD (pos+2) 0).toNat (s.data.toList.getD (pos+3) 0).toNat (by omega);rw[<-hd]at h1 h2 h3 h4 h5;refine⟨λhb=>?_,λ_ c hc=>?_⟩;·unfold jF at hb;rw[decide_eq_false (by omega)]at hb;cases hb
  ·obtain⟨j,hj⟩:=nR hc;rw[List.getElem?_take]at hj;split at hj;·
    rename_i hjk;rw[List.getElem?_drop]at hj;apply Gc;have e:s.data.toList.getD (pos+j) 0=c:=by rw[aw,hj];rfl
    rw[<-e];rcases j with _|_|_|_|j;·simpa using(by omega:128<=(s.data.toList.getD pos 0).toNat)
    ·exact h2 (by omega)
    ·exact h3 (by omega)
    ·exact h4 (by omega)
    ·omega
   ·cases hj
theorem Kv (s:ByteArray):∀ (f pos:Nat) (st:Option Nat) (acc:List (Nat × Nat)),s.size<=pos+f->pos<=s.size->(∀ a,st=some a->a < pos) ->
  acc.map (fun p=>tV s.data.toList p.1 p.2)++fields (s.data.toList.drop pos) (jN s.data.toList st pos)=(AZ s (alb jF s f pos st acc)).map (fun p=>tV s.data.toList p.1 p.2):=by
 intro f
 have close:∀ (st:Option Nat) (acc:List (Nat × Nat)),(∀ a,st=some a->a < s.size) ->
   acc.map (fun p=>tV s.data.toList p.1 p.2)++fields [] (jN s.data.toList st s.size)=(AZ s (acc,st)).map (fun p=>tV s.data.toList p.1 p.2):=by
  intro st acc hst
  cases st with
  | none=>simp [fields,AZ,jN]
  | some a =>
   have:=aoV s.data.toList a s.size (hst a rfl) (by simp)
   simp [fields,AZ,jN,this]
 induction f with
 | zero =>
  intro pos st acc h hp hst
  obtain rfl:pos=s.size:=by omega
  have hd:s.data.toList.drop s.size=[]:=UQ (by simp)
  rw [hd]
  exact close st acc hst
 | succ f ih =>
  intro pos st acc h hp hst
  by_cases hlt:pos < s.size
  ·have hw:=Lib.width_pos s pos
   have hwn:pos+(jb s pos).2<=s.size:=by
    have:=Lib.decodeN_le_n' (s.size - pos) (s.get! pos).toNat (s.get! (pos+1)).toNat (s.get! (pos+2)).toNat (s.get! (pos+3)).toNat (by omega)
    rw [<- Lib.decode_at] at this
    omega
   obtain ⟨hb1,hb2⟩:=NK s pos hlt
   have hl:pos < s.data.toList.length:=by simpa using hlt
   simp only [alb,if_pos hlt]
   cases hsp:jF (jb s pos).1 with
   | true =>
    obtain ⟨hk,hb⟩:=hb1 hsp
    have hdr:s.data.toList.drop pos=s.data.toList.getD pos 0 :: s.data.toList.drop (pos+1):=by
     rw [zt hl,aw,ar hl]
     rfl
    rw [hdr]
    conv=>lhs; rhs; unfold fields
    rw [if_pos hb]
    simp only [if_true]
    rw [hk] at hwn ⊢
    cases st with
    | none =>
     have ih:=ih (pos+1) none acc (by omega) hwn (fun a h=>by cases h)
     simpa [jN] using ih
    | some a =>
     have Dy:=aoV s.data.toList a pos (hst a rfl) (by simpa using hp)
     have ih:=ih (pos+1) none (acc++[(a,pos)]) (by omega) hwn (fun a h=>by cases h)
     simpa [jN,Dy] using ih
   | false =>
    have hnb:=hb2 hsp
    have adH:s.data.toList.drop pos=(s.data.toList.drop pos).take (jb s pos).2++s.data.toList.drop (pos+(jb s pos).2):=by
     rw [<- List.drop_drop,FP]
    rw [adH,CJ _ _ _ hnb]
    simp only [Bool.false_eq_true,if_false]
    cases st with
    | none =>
     have ih:=ih (pos+(jb s pos).2) (some pos) acc (by omega) hwn (fun a h=>by cases h; omega)
     have e:([]:List UInt8)++(s.data.toList.drop pos).take (jb s pos).2=tV s.data.toList pos (pos+(jb s pos).2):=by
      unfold tV
      rw [eZ,Nat.add_sub_cancel_left]
     simp only [jN] at ih ⊢
     rw [e]
     exact ih
    | some a =>
     have ih:=ih (pos+(jb s pos).2) (some a) acc (by omega) hwn (fun b h=>by cases h; have:=hst a rfl; omega)
     simp only [jN] at ih ⊢
     rw [Lib.pieceU_grow _ _ _ _ (Nat.le_of_lt (hst a rfl))]
     exact ih
  ·obtain rfl:pos=s.size:=by omega
   have hd:s.data.toList.drop s.size=[]:=UQ (by simp)
   rw [hd,Lib.spansFromP_end _ _ _ _ _ _ hlt]
   exact close st acc hst
theorem goFields_eq(s:ByteArray):(kQ jF s).map (λb=>b.data.toList)=fields s.data.toList []:=by have h:=Kv s s.size 0 none [] (by omega) (Nat.zero_le _) (λa h=>by cases h);simp only[List.map_nil,eZ,List.drop_zero,jN]at h;rw[h];unfold kQ Lib.spansOfP;rw[List.map_map];refine List.map_congr_left λp _=>?_;simp only[Function.comp,tV];exact Lib.extract_data s p.1 p.2
theorem nu:∀(l cur:List UInt8),(fields l cur).length<=l.length+1
 |[],cur=>by unfold fields;split<;>simp|c::r,cur=>by
  unfold fields;split;·
   split;·have:=nu r [];simp;omega
   ·have:=nu r [];simp;omega
  ·have:=nu r (cur++[c]);simp;omega
theorem Gh(s f:ByteArray)(h:f∈kQ jF s):f.size<=s.size:=by unfold kQ at h;obtain⟨x,_,rfl⟩:=List.mem_map.1 h;rw[ByteArray.size_extract];omega
open Go.RowKit
theorem Pg(c:UInt8)(w:ak):Calls ah 136 #[.int .u8 c.toNat] w λe w'=>e= .returned (.bool (iD c))/\Same w w':=by rw[CP];go_enter Tryz.func136,Tryz.ntmps136;go_wp2;all_goals go_ret;exact⟨gS (by simp[*]),Same.refl _⟩
theorem Pe(x:Nat)(hx:x<=1114111)(w:ak):Calls ah 135 #[.int .i32 x] w λe w'=>e= .returned (.bool (jF x))/\Same w w':=by
 by_cases h:x<128;·
  obtain⟨c,hc⟩:∃c:UInt8,c.toNat=x:=⟨cS x,by simp;omega⟩;have hb:=Lib.hid (CQ c (by omega));subst hc;clear hx;go_enter asp,aoS;have q1:IntKind.u8.wrap (c.toNat:Int)=(c.toNat:Int):=by exact IntWalk.u8_in _ (by omega)
  go_wp2_with(go_at_call 136;refine(Pg c _).mono ?_;rintro e w1⟨rfl,hS1⟩);go_ret;exact⟨gS hb.symm,hS1⟩
 ·have hb:Hid (jF x=false):=by refine Lib.hid ?_;unfold jF;rw[decide_eq_false h];rfl
  clear hx;go_enter asp,aoS;go_wp2;go_ret;exact⟨gS hb.symm,Same.refl _⟩
theorem Pd(w:ak):PredAtRunes ah 135 #[] jF w:=λW x hx hb=>(Pe x hx W).mono λ_ _ h=>h
open Go.Shelf
def dc(d:ByteArray):List (List UInt8):=((fields d.data.toList []).map iq).filter λw=>decide (w.length<=16)
def upto(fs:List (List UInt8))(k:Nat):List (List UInt8):=((fs.take k).map iq).filter λw=>decide (w.length<=16)
theorem Kf(fs:List (List UInt8))(k:Nat)(h:k<fs.length)(Ue:fs[k].length<=16):upto fs (k+1)=upto fs k++[iq fs[k]]:=by unfold upto;rw[bH h,cQ,qm];simp[iq,Ue]
theorem Zi(fs:List (List UInt8))(k:Nat)(h:k<fs.length)(Ue:¬fs[k].length<=16):upto fs (k+1)=upto fs k:=by unfold upto;rw[bH h,cQ,qm];simp[iq,Ue]
theorem U3(d:ByteArray)(fs:List (List UInt8))(h:fs=fields d.data.toList []):upto fs fs.length=dc d:=by unfold upto dc;rw[vJ (au _),h]
theorem Zk(fs:List (List UInt8))(k:Nat):(upto fs k).length<=(upto fs fs.length).length:=by
 unfold upto;rw[vJ (au fs.length)];conv=>rhs;rw[<-FP k fs,cQ,qm,bh]
 omega
theorem Zj(fs:List (List UInt8))(k:Nat)(h:k<fs.length)(Ue:fs[k].length<=16):(upto fs k).length<(upto fs fs.length).length:=by have h1:=Kf fs k h Ue;have h2:=Zk fs (k+1);rw[h1,bh]at h2;simp at h2;omega
def jy(w w':ak):Prop:=∀(k:Nat)cs r,w.heap[k]?=some (.cells cs 9 r)->w'.heap[k]?=w.heap[k]?
theorem jy.trans{a b c:ak}(h:jy a b)(k:jy b c):jy a c:=λj cs r hj=>(k j cs r ((h j cs r hj).trans hj)).trans (h j cs r hj)
theorem jy.below{a b:ak}(h:Below a.heap.size a b):jy a b:=λj cs r hj=>h.block j (Array.getElem?_eq_some_iff.1 hj).1
theorem jy.put{w:ak}(W:ak)(l:Nat)(o o':Obj)(_:w.heap.size<=l)(h:W.heap[l]?=some o)(hc:o.isCells=false)(_:o.isWalk=false):jy W (W.putObj l o'):=by intro j cs r hj;refine(grownBy_putObj' W l o').block j (Array.getElem?_eq_some_iff.1 hj).1 ?_;intro e;cases e;rw[h]at hj;cases hj;cases hc
theorem jy.row{w w':ak}{B n:Nat}{v:ay}{xs:List ay}(h:jy w w')(hr:w.ownsRow B 9 1 v n xs):w'.ownsRow B 9 1 v n xs:=aO hr λk hk=>by
 rcases hr.2 with⟨rfl,_⟩|⟨g,cap,cur,rfl,_,hg,_⟩;·cases hk
 ·cases hk;exact h _ _ _ hg
def PU(w:ak)(A:Nat)(l:List UInt8):Prop:=A<w.heap.size/\∀(j:Nat)(h:j<l.length),w.cell? ⟨A,j,none⟩=some (.int .u8 l[j].toNat)/\w.frozen? ⟨A,j,none⟩=false
theorem PU.store{w:ak}{A:Nat}{l:List UInt8}(h:PU w A l)(i:Nat)(hi:i<l.length)(c:UInt8):PU (w.setCell (aD A i) (.int .u8 c.toNat)) A (l.set i c):=by
 refine⟨by simpa using h.1,λj hj=>?_⟩;have hj':j<l.length:=by simpa using hj
 obtain⟨h1,h2⟩:=h.2 j hj';refine⟨?_,by rw[World.frozen?_setCell];exact h2⟩;by_cases e:i=j;·subst e;rw[List.getElem_set_self];exact World.cell?_setCell_same' _ _ _ (by rw[h1];rfl)
 ·rw[List.getElem_set_ne e];rw[World.cell?_setCell_other _ _ _ _ (λe'=>e (congrArg Addr.off e'))];exact h1
theorem O4(s:ByteArray)(w:ak):∃cap w1,(convert 9 42 (.string s)).run ah w= .ok (sL w.heap.size s.size cap) w1/\PU w1 w.heap.size s.data.toList/\Below w.heap.size w w1/\w1.heap.size=w.heap.size+1:=by
 have h:=run_bytes_of_string (P:=ah) w 9 42 5 s Tryz.underlying9 Tryz.underlying42 Tryz.underlying5;refine⟨_,_,h,⟨by simp,λj hj=>?_⟩,((Below.refl _ w).drew).alloc (au _) _,by simp⟩;have hj':j<s.data.size:=by simpa using hj
 have hw:w.drew.heap.size=w.heap.size:=rfl;constructor;·have:=World.cell?_alloc_mark w.drew (bytesRow s (grownCap w s.size 0 5)) 5 ((bytesRow s (grownCap w s.size 0 5)).size,(bytesRow s (grownCap w s.size 0 5)).size+1) j;rw[hw]at this;rw[this,bytesRow_at s _ j hj'];rfl
 ·have:=World.frozen?_alloc_mark w.drew (bytesRow s (grownCap w s.size 0 5)) 5 (bytesRow s (grownCap w s.size 0 5)).size ((bytesRow s (grownCap w s.size 0 5)).size+1) j;rw[hw]at this;rw[this];have hsz:j<(bytesRow s (grownCap w s.size 0 5)).size:=by unfold bytesRow;rw[Array.size_append,Array.size_map];omega
  rw[decide_eq_false (by omega)];rfl
theorem DZ{F:Fence}{n:Nat}{P:Program}{ops:Array gV}{Q:Exit->Act->ak->Prop}{rest:List gV}{o:gV}{a:Act}{w w1:ak}{v:ay}(hgd:o.guard=none)(hnd:∀c,o.op≠ .defer c)(hab:o.about P w a.eval=none)(hr:(execOp a.eval o).run P w= .ok (.value v) w1)(h:wpListIn F n P ops Q rest (a.put o.dst v) w1):wpListIn F n P ops Q (o::rest) a w:=by refine wpListIn_plain hgd λK hK=>?_;refine⟨λf hf=>(by rw[hab]at hf;cases hf),?_⟩;rw[Oper.semAt_eq _ _ _ hnd,hr];exact hK _ _ h
theorem FU{F:Fence}{n:Nat}{ops:Array gV}{Q:Exit->Act->ak->Prop}{rest:List gV}{o:gV}{a:Act}{w:ak}(x:Operand)(hgd:o.guard=none)(ho:o.op= .convert 9 42 x)(s:ByteArray)(hx:a.eval x= .string s)(h:∀cap w1,PU w1 w.heap.size s.data.toList->Below w.heap.size w w1->w1.heap.size=w.heap.size+1->wpListIn F n ah ops Q rest (a.put o.dst (sL w.heap.size s.size cap)) w1):wpListIn F n ah ops Q (o::rest) a w:=by obtain⟨cap,w1,h1,h2,h3,h4⟩:=O4 s w;refine DZ hgd (λc e=>by rw[ho]at e;cases e) (by unfold Oper.about;rw[ho]) (v:=sL w.heap.size s.size cap) (w1:=w1) ?_ (h cap w1 h2 h3 h4);unfold execOp;simp only[ho,hx,Sem.run_bind,h1,Result.andThen_ok,Sem.run_pure]
theorem Ri(d:ByteArray)(w:ak):Calls ah 92 #[.string d] w λe w'=>e= .returned (.func (.func 133) #[] #[pT w.heap.size])/\w'=w.alloc (.cells #[.string d] 9):=by have hmf:∀(fn:Fn)(first cap:Array ay)(w:ak),(Instr.makeFunc fn first cap).run ah w= .ok (.func fn first cap) w:=λ_ _ _ _=>rfl;go_enter Tryz.func92,Tryz.ntmps92;go_wp2;go_ret;exact⟨rfl,rfl⟩
open Go.ChangeMaps(setBlock)
section
variable{P:Program}{α:Type}[DecidableEq α]{enc:α->ay}
def sN(enc:α->ay)(w:ak)(b r:Nat)(m:List (α×ay))(ts:List α):Prop:=∃es clock seen,w.heap[b]?=some (.map es clock)/\pairs enc es.toList m/\(∀e∈es.toList,e.born<clock)/\(es.toList.map (·.born)).Nodup/\w.heap[r]?=some (.mapIter (some b) clock seen clock)/\∀(i:Nat)e p,es.toList[i]?=some e->m[i]?=some p->(e.born∈seen↔p.1∈ts)
theorem K3{es:List MapEntry}{m:List (α×ay)}(h:pairs enc es m)(i:Nat):(∀e,es[i]?=some e->∃p,m[i]?=some p/\e.key=enc p.1/\e.val=p.2)/\(∀p,m[i]?=some p->∃e,es[i]?=some e/\e.key=enc p.1/\e.val=p.2):=by
 have hi:(es.map λe=>(e.key,e.val))[i]?=(m.map λp=>(enc p.1,p.2))[i]?:=by rw[h]
 rw[bp,bp]at hi;constructor;·intro e he;rw[he]at hi;cases hp:m[i]? with|none=>rw[hp]at hi;cases hi|some p=>rw[hp]at hi;simp only[Y6,vI,ML]at hi;exact⟨p,rfl,hi.1,hi.2⟩
 ·intro p hp;rw[hp]at hi;cases he:es[i]? with|none=>rw[he]at hi;cases hi|some e=>rw[he]at hi;simp only[Y6,vI,ML]at hi;exact⟨e,rfl,hi.1,hi.2⟩
theorem RG{w:ak}{b:Nat}{m:List (α×ay)}(h:bV enc w b m){T K E:TypeId}(hT:P.underlying T=some (.map K E)):∃w',(Instr.range T (.map (some b))).run P w= .ok (pT w.heap.size) w'/\sN enc w' b w.heap.size m []/\w.grownBy w' none/\w'.heap.size=w.heap.size+1:=by
 obtain⟨es,clock,hb,hp,hl,hn⟩:=h;refine⟨_,run_range_map (P:=P) w T K E b es clock hT hb,⟨es,clock,#[],?_,hp,hl,hn,heap_alloc_new w _,?_⟩,⟨rfl,rfl,rfl,by simp,λk hk _=>aC w _ k hk⟩,by simp⟩;·rw[aC w _ _ (Array.getElem?_eq_some_iff.1 hb).1];exact hb
 ·intro i e p _ _;simp
theorem sN.kept{w w':ak}{b r:Nat}{m:List (α×ay)}{ts:List α}(h:sN enc w b r m ts)(h1:w'.heap[b]?=w.heap[b]?)(h2:w'.heap[r]?=w.heap[r]?):sN enc w' b r m ts:=by obtain⟨es,clock,seen,a1,a2,a3,a4,a5,a6⟩:=h;exact⟨es,clock,seen,h1.trans a1,a2,a3,a4,h2.trans a5,a6⟩
theorem sN.apart{w:ak}{b r:Nat}{m:List (α×ay)}{ts:List α}(h:sN enc w b r m ts):b≠r/\b<w.heap.size/\r<w.heap.size:=by obtain⟨es,clock,seen,a1,a2,a3,a4,a5,a6⟩:=h;refine⟨λe=>?_,(Array.getElem?_eq_some_iff.1 a1).1,(Array.getElem?_eq_some_iff.1 a5).1⟩;subst e;rw[a1]at a5;cases a5
theorem VL(ty:TypeId){w:ak}{b r:Nat}{m:List (α×ay)}{ts:List α}(h:sN enc w b r m ts)(hA:Apart m):((∀p∈m,p.1∈ts)/\(Instr.next (pT r) false ty).run P w= .ok (.tuple #[.bool false]) w)\/∃k v w',(k,v)∈m/\k∉ts/\(Instr.next (pT r) false ty).run P w= .ok (.tuple #[.bool true,enc k,v]) w'/\sN enc w' b r m (ts++[k])/\(Instr.entry (pT r)).run P w'= .ok (.tuple #[enc k,v]) w'/\w.grownBy w' (some r)/\w'.heap.size=w.heap.size:=by
 have hap:=h.apart;obtain⟨es,clock,seen,a1,a2,a3,a4,a5,a6⟩:=h;rcases run_next_at (P:=P) w ty r b clock clock seen es clock a5 a1 a3 (au _)with⟨h0,hrun⟩|⟨e,he,w1,hw1,hrun⟩;·
  left;refine⟨λp hp=>?_,hrun⟩;obtain⟨i,hi⟩:=nR hp;obtain⟨e,he,_,_⟩:=(K3 a2 i).2 p hi;refine(a6 i e p he hi).1 ?_;apply dP;intro hno;have hm:e∈leftOf es seen:=by unfold leftOf;rw[Array.mem_filter];refine⟨by rw[<-Array.mem_toList_iff];exact aS he,?_⟩;simpa using hno
  have:=Array.size_pos_of_mem hm;omega
 ·right;have hem:e∈es/\e.born∉seen:=by have:=he;unfold leftOf at this;simpa using this
  have ah9:e∈es.toList:=by simpa using hem.1
  obtain⟨i,hi⟩:=nR ah9;obtain⟨⟨k,v⟩,hp,hk,hv⟩:=(K3 a2 i).1 e hi;simp only at hk hv;have hh:w1.heap=w.heap:=by rcases hw1 with rfl|rfl<;>rfl
  have kD:∀o:Obj,(setBlock w1 r o).heap[r]?=some o:=λo=>by unfold setBlock;simp[hh,hap.2.2]
  have iO:∀(o:Obj)j,j≠r->(setBlock w1 r o).heap[j]?=w.heap[j]?:=λo j hj=>by unfold setBlock;simp[hh,dB hj]
  refine⟨k,v,_,aS hp,λhin=>hem.2 ((a6 i e _ hi hp).2 hin),by rw[hrun,hk,hv],⟨es,clock,seen.push e.born,(iO _ _ hap.1).trans a1,a2,a3,a4,kD _,?_⟩,?_,⟨?_,?_,?_,?_,?_⟩,?_⟩;·
   intro j e' p' he' hp';rw[Array.mem_push,List.mem_append,iL];have hk':=a6 j e' p' he' hp';constructor;·
    rintro(h1|h1);·exact .inl (hk'.1 h1)
    ·right;have:e'=e:=by
      have h2:(es.toList.map (·.born))[j]?=some e.born:=by rw[bp,he',<-h1];rfl
      have h3:(es.toList.map (·.born))[i]?=some e.born:=by rw[bp,hi];rfl
      have hij:j=i:=(FQ (List.getElem?_eq_some_iff.1 h2).1 a4).1 (h2.trans h3.symm);subst hij;rw[hi]at he';exact(aJ he').symm
     subst this;have hij:j=i:=by
      have h2:(es.toList.map (·.born))[j]?=some e'.born:=by rw[bp,he'];rfl
      have h3:(es.toList.map (·.born))[i]?=some e'.born:=by rw[bp,hi];rfl
      exact(FQ (List.getElem?_eq_some_iff.1 h2).1 a4).1 (h2.trans h3.symm)
     subst hij;rw[hp]at hp';cases hp';rfl
   ·rintro(h1|h1);·exact .inl (hk'.2 h1)
    ·right;have h2:(m.map (·.1))[j]?=some k:=by rw[bp,hp',<-h1];rfl
     have h3:(m.map (·.1))[i]?=some k:=by rw[bp,hp];rfl
     have hij:j=i:=(FQ (List.getElem?_eq_some_iff.1 h2).1 hA).1 (h2.trans h3.symm);subst hij;rw[hi]at he';rw[aJ he']
  ·have:=run_entry_at (P:=P) (setBlock w1 r (.mapIter (some b) clock (seen.push e.born) clock)) r b clock seen es clock e (kD _) ((iO _ _ hap.1).trans a1) ah9 a4;rw[this,hk,hv]
  ·rcases hw1 with rfl|rfl<;>rfl
  ·rcases hw1 with rfl|rfl<;>rfl
  ·rcases hw1 with rfl|rfl<;>rfl
  ·unfold setBlock;simp[hh]
  ·intro j hj hne;exact iO _ j λe=>hne (by rw[e])
  ·unfold setBlock;simp[hh]
end
def bU(D:List (List (List UInt8)))(x:List UInt8):List Nat:=(List.range D.length).filter λj=>decide (x∈D.getD j [])
theorem gI(D:List (List (List UInt8)))(ws:List (List UInt8))(x:List UInt8):bU (D++[ws]) x=bU D x++(if x∈ws then[D.length]else[]):=by
 unfold bU;rw[bh,List.length_singleton,List.range_succ,qm];congr 1;·apply List.filter_congr;intro j hj;rw[acZ]at hj;rw[aw,List.getElem?_append_left hj,<-aw]
 ·have:(D++[ws]).getD D.length []=ws:=by rw[aw,List.getElem?_append_right (au _)];simp
  rw[List.filter_cons,this];by_cases h:x∈ws<;>simp[h]
theorem Ep(D:List (List (List UInt8)))(x:List UInt8):∀j∈bU D x,j<D.length:=by intro j hj;unfold bU at hj;have:=List.mem_filter.1 hj;simpa using this.1
theorem qD(D:List (List (List UInt8)))(x:List UInt8):(bU D x).length<=D.length:=by unfold bU;have:=List.length_filter_le (λj=>decide (x∈D.getD j [])) (List.range D.length);simpa using this
theorem KU(D:List (List (List UInt8)))(x:List UInt8)(j:Nat):j∈bU D x↔∃ws,D[j]?=some ws/\x∈ws:=by
 unfold bU;rw[List.mem_filter,acZ,decide_eq_true_eq,aw];constructor;·rintro⟨h1,h2⟩;rw[ar h1,Option.getD_some]at h2;exact⟨_,ar h1,h2⟩
 ·rintro⟨ws,h1,h2⟩;exact⟨(List.getElem?_eq_some_iff.1 h1).1,by rw[h1];exact h2⟩
theorem wh(D:List (List (List UInt8))):bU (D++[[]])=bU D:=by funext x;rw[gI];simp
theorem Cv(D:List (List (List UInt8)))(pre:List (List UInt8))(x:List UInt8)(h:x∈pre):bU (D++[pre++[x]])=bU (D++[pre]):=by
 funext y;rw[gI,gI];by_cases e:y=x;·subst e;simp[h]
 ·simp[e]
theorem Cw(D:List (List (List UInt8)))(pre:List (List UInt8))(x:List UInt8)(h:x∉pre):bU (D++[pre++[x]])=λy=>if y=x then bU (D++[pre]) x++[D.length]else bU (D++[pre]) y:=by
 funext y;rw[gI];by_cases e:y=x;·subst e;rw[gI];simp[h]
 ·rw[if_neg e,gI];simp[e]
structure fQ (B mb:Nat) (w:ak) (m:List (List UInt8 × ay)) (L:List UInt8->List Nat):Prop where
 map:bV dC w mb m
 G8:Apart m
 row:∀ y v,get m y=some v->w.ownsRow 0 3 1 v (L y).length ((L y).map cJ)/\L y≠[]
 keys:∀ y,L y≠[] -> ∃ v,get m y=some v
 past:∀ y v g,get m y=some v->v.ownBlock=some g->B<=g
 aeQ:∀ y z u v g,y≠z->get m y=some u->get m z=some v->u.ownBlock=some g->v.ownBlock≠some g
 lt:mb < B
theorem fQ.made(B:Nat)(w:ak)(hB:w.heap.size<B):fQ B w.heap.size (w.alloc (.map #[] 0)) [] (λ_=>[]):=⟨bV.made dC w,by simp[Apart],(λ_ _ h=>by cases h),(λ_ h=>absurd rfl h),(λ_ _ _ h=>by cases h),(λ_ _ _ _ _ _ h=>by cases h),hB⟩
theorem fQ.kept{B mb:Nat}{w w':ak}{m:List (List UInt8×ay)}{L:List UInt8->List Nat}(h:fQ B mb w m L)(hm:w'.heap[mb]?=w.heap[mb]?)(hk:∀k,B<=k->(∃y v,get m y=some v/\v.ownBlock=some k)->w'.heap[k]?=w.heap[k]?):fQ B mb w' m L:=⟨h.map.of_block hm,h.G8,λy v hv=>⟨aO (h.row y v hv).1 λk e=>hk k (h.past y v k hv e) ⟨y,v,hv,e⟩,(h.row y v hv).2⟩,h.keys,h.past,h.aeQ,h.lt⟩
theorem fQ.Dx{B mb:Nat}{w w':ak}{m:List (List UInt8×ay)}{L:List UInt8->List Nat}(h:fQ B mb w m L)(hk:∀k,k<w.heap.size->w'.heap[k]?=w.heap[k]?):fQ B mb w' m L:=h.kept (hk _ h.map.lt) λk _⟨y,v,hv,e⟩=>hk k ((h.row y v hv).1.lt k e).2
theorem fQ.same{B mb:Nat}{w w':ak}{m:List (List UInt8×ay)}{L:List UInt8->List Nat}(h:fQ B mb w m L)(hS:Same w w'):fQ B mb w' m L:=by obtain⟨n,rfl⟩:=hS;exact h.Dx λ_ _=>rfl
theorem fQ.grown{B mb:Nat}{w w':ak}{m:List (List UInt8×ay)}{L:List UInt8->List Nat}{row:Option Nat}(h:fQ B mb w m L)(hg:w.grownBy w' row)(hr:∀r,row=some r->r≠mb/\∃o:Obj,w.heap[r]?=some o/\o.isCells=false):fQ B mb w' m L:=by
 refine h.kept (hg.block _ h.map.lt λe=>(hr mb e.symm).1 rfl) λk _⟨y,v,hv,e⟩=>hg.block k ((h.row y v hv).1.lt k e).2 λe'=>?_;obtain⟨_,o,ho,hc⟩:=hr k e'.symm;rcases(h.row y v hv).1.2 with⟨rfl,_⟩|⟨g,cap,cur,rfl,_,hg',_⟩;·cases e
 ·cases e;rw[ho]at hg';cases hg';cases hc
def iw(m:List (List UInt8×ay))(x:List UInt8):ay:=(get m x).getD (.slice none 0 0)
theorem fQ.KH{B mb:Nat}{w:ak}{m:List (List UInt8×ay)}{L:List UInt8->List Nat}(h:fQ B mb w m L)(x:List UInt8):w.ownsRow 0 3 1 (iw m x) (L x).length ((L x).map cJ):=by unfold iw;cases hx:get m x with
 |some v=>exact(h.row x v hx).1|none=>
  have:L x=[]:=dP λhn=>by obtain⟨v,hv⟩:=h.keys x hn;rw[hx]at hv;cases hv
  rw[this];exact World.ownsRow_nil _ _ _ _
theorem fQ.lookup{B mb:Nat}{w:ak}{m:List (List UInt8×ay)}{L:List UInt8->List Nat}(h:fQ B mb w m L)(x:List UInt8):(Instr.lookup 190 (.map (some mb)) (dC x) false).run ah w= .ok (iw m x) w:=by have:=bV.lookup Ik h.map x trivial (λ_ _=>trivial) Tryz.underlying190 (z:= .slice none 0 0) (by kernel_rfl) false;simpa[iw]using this
theorem fQ.add{B mb:Nat}{w w1 w2:ak}{m:List (List UInt8×ay)}{L:List UInt8->List Nat}{x:List UInt8}{i:Nat}{v1:ay}(h:fQ B mb w m L)(hB:B<=w.heap.size)(hmv:bL w (iw m x) w1 v1)(hrow:w1.ownsRow 0 3 1 v1 ((L x).length+1) ((L x++[i]).map cJ))(hg:w1.grownBy w2 (some mb))(hmap:bV dC w2 mb (put m x v1)):fQ B mb w2 (put m x v1) (λy=>if y=x then L x++[i]else L y):=by
 have hpv:kp B (iw m x):=λk e=>by unfold iw at e;cases hx:get m x with|none=>rw[hx]at e;cases e|some v=>rw[hx]at e;exact h.past x v k hx e
 have hp1:=hmv.past hpv hB;have iO:∀y v g,y≠x->get m y=some v->v.ownBlock=some g->w2.heap[g]?=w.heap[g]?/\v1.ownBlock≠some g:=λy v g hy hv e=>by
  have hg1:=((h.row y v hv).1.lt g e).2;have hne:(iw m x).ownBlock≠some g:=λe'=>by unfold iw at e';cases hx:get m x with|none=>rw[hx]at e';cases e'|some u=>rw[hx]at e';exact h.aeQ x y u v g (dB hy) hx hv e' e
  have hmg:g≠mb:=by have:=h.past y v g hv e;have:=h.lt;omega
  refine⟨(hg.block g (Nat.lt_of_lt_of_le hg1 hmv.size) λe'=>hmg (aJ e')).trans (hmv.block hg1 hne),λe'=>?_⟩;rcases hmv.lies with h1|⟨g',h1,h2⟩;·exact hne (h1▸e')
  ·rw[h1]at e';have:=aJ e';omega
 refine⟨hmap,h.G8.put x v1,λy v hv=>?_,λy hy=>?_,λy v g hv e=>?_,λy z u v g hyz hu hv e=>?_,h.lt⟩;·
  rw[mq]at hv;by_cases hxy:y=x;·
   subst hxy;rw[if_pos rfl]at hv;cases hv;rw[if_pos rfl];refine⟨?_,by simp⟩;have hl:(L y++[i]).length=(L y).length+1:=by simp
   rw[hl];exact aO hrow λk e=>hg.block k (hrow.lt k e).2 λe'=>by have:=hp1 k e;have:=h.lt;have:=aJ e';omega
  ·rw[if_neg (dB hxy)]at hv;rw[if_neg hxy];exact⟨aO (h.row y v hv).1 λk e=>(iO y v k hxy hv e).1,(h.row y v hv).2⟩
 ·rw[mq];by_cases hxy:x=y;·rw[if_pos hxy];exact⟨_,rfl⟩
  ·rw[if_neg hxy];rw[if_neg (dB hxy)]at hy;exact h.keys y hy
 ·rw[mq]at hv;split at hv;·cases hv;exact hp1 g e
  ·exact h.past y v g hv e
 ·rw[mq]at hu hv;split at hu;·rename_i hxy;subst hxy;cases hu;rw[if_neg hyz]at hv;exactλe'=>(iO z v g (dB hyz) hv e').2 e
  ·rename_i hxy;split at hv;·cases hv;exact(iO y u g (dB hxy) hu e).2
   ·exact h.aeQ y z u v g hyz hu hv e
end Go.Proofs.Ts
