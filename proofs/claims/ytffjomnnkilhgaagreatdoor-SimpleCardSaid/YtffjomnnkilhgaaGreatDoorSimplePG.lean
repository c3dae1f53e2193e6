/- Lemmas towards the statement Simple of termsearch: walks of the program's functions and plain laws on lists (TsIterB, TsSetI, TsOrdIn, TsSetS, TsLink, TsAst, TsParsP, TsPart, TsJoin, TsParsOk, TsPartH, TsWalkS, TsOverS, TsTabP, TsLeastP, TsLang, TsMachP, TsWildP, TsWalkB, TsOverB). Conditions: those that each theorem names. -/
import Derived.Test.YtffjomnnkilhgaaGreatDoorSimplePC
import Derived.Test.YtffjomnnkilhgaaGreatDoorSimplePB
import Derived.Test.YtffjomnnkilhgaaGreatDoorSimplePA
import Derived.Test.YtffjomnnkilhgaaGreatDoorSimplePF
import Derived.RangeFuncFrom
import Derived.RangeFuncBound
import Derived.RangeFuncLeaves
import Derived.Test.YtffjomnnkilhgaaGreatDoorShelf
import Derived.OrdersIn
import Derived.RangeFuncCalls
import Derived.Test.YtffjomnnkilhgaaGreatDoorSimplePE
set_option linter.unusedVariables false
set_option linter.unusedSimpArgs false
set_option linter.unusedSectionVars false
namespace Go.Proofs.Ts
open Go Go.RowKit Go.Shelf
attribute [local go_sem] Oper.semAt_some
def lowTo (f:List UInt8) (i:Nat):List UInt8:=lowL (f.take i)++f.drop i
theorem lowTo_zero (f:List UInt8):lowTo f 0=f:=by simp [lowTo,lowL]
theorem lowTo_all (f:List UInt8):lowTo f f.length=lowL f:=by simp [lowTo]
theorem lowTo_length (f:List UInt8) (i:Nat):(lowTo f i).length=f.length:=by simp [lowTo,lowL]; omega
theorem lowTo_get (f:List UInt8) (i:Nat) (h:i < f.length):(lowTo f i)[i]'(by rw [lowTo_length]; exact h)=f[i]:=by
 unfold lowTo
 rw [List.getElem_append_right (by simp [lowL]; omega)]
 simp [lowL,Nat.min_eq_left (Nat.le_of_lt h)]
theorem lowTo_succ (f:List UInt8) (i:Nat) (h:i < f.length):lowTo f (i+1)=(lowTo f i).set i (low1 f[i]):=by
 unfold lowTo
 rw [List.take_succ_eq_append_getElem h,List.drop_eq_getElem_cons h]
 have hl:(lowL (f.take i)).length=i:=by simp [lowL]; omega
 rw [List.set_append_right _ _ (by omega),hl,Nat.sub_self,List.set_cons_zero]
 have e:lowL (f.take i++[f[i]])=lowL (f.take i)++[low1 f[i]]:=by unfold lowL; rw [List.map_append]; rfl
 rw [e,List.append_assoc]
 rfl
theorem lowTo_same (f:List UInt8) (i:Nat) (h:i < f.length) (hc:low1 f[i]=f[i]):lowTo f (i+1)=lowTo f i:=by
 rw [lowTo_succ f i h,hc]
 apply List.ext_getElem?
 intro j
 rw [List.getElem?_set]
 split
 ·rename_i e
  subst e
  rw [if_pos (by rw [lowTo_length]; exact h),List.getElem?_eq_getElem (by rw [lowTo_length]; exact h),lowTo_get f i h]
 ·rfl
set_option maxRecDepth 100000 in
set_option maxHeartbeats 4000000 in
theorem words1_any (n:Nat) (hn:1≤n) (l Bn:Nat) (d:ByteArray) (hd:d.size≤1000000) (J Jx:List (List UInt8)→World→Prop) (W:World) (hJ:AbidesFrom W.heap.size J)
  (hY:∀ pre x W1,J pre W1→pre.length < (wordsB d).length→YieldAt Fence.wide (n - 1) Tryz.prog l #[strV x] W1 fun e W' =>
   (e = .returned (.bool true)∧J (pre++[x]) W'∧KeepStr W1 W')∨(e = .returned (.bool false)∧Jx (pre++[x]) W'))
  (hBn:W.cell? ⟨Bn,0,none⟩=some (.string d)) (h0:J [] W) :
  CallsIn Fence.wide n Tryz.prog 133 #[.func (.yield l) #[] #[],.pointer (some ⟨Bn,0,none⟩)] W fun e W'=>(∃ v,e = .returned v) ∧
   ((∃ ys,ys=wordsB d∧J ys W')∨(∃ pre,True∧Jx pre W')):=by
 obtain ⟨fs,hfs⟩:∃ fs,fs=fields d.data.toList []:=⟨_,rfl⟩
 have hall:=upto_all d fs hfs
 have hgf:=goFields_eq d
 have hfl:fs.length≤1000001:=by rw [hfs]; have:=fields_count d.data.toList []; simp at this; omega
 rw [← hfs] at hgf
 have hlen:(Lib.goFieldsP blankR d).length=fs.length:=by rw [← hgf]; simp
 have HY:=Lib.hid hY
 have HGF:=Lib.hid hgf
 have HALL:=Lib.hid hall
 have HLEN:=Lib.hid hlen
 have HJ:=Lib.hid hJ
 clear hY hgf hall hlen hfs hJ
 refine callsIn_of_wp Tryz.func133 rfl trivial ?_ rfl
 simp only [Tryz.ntmps133,List.size_toArray,List.length_cons,List.length_nil,Nat.reduceAdd,Nat.reduceSub,Array.replicate_succ,Array.replicate_zero,List.push_toArray,List.append_toArray,List.nil_append,List.cons_append]
 gi_wp2_with (refine ⟨trivial,?_⟩; gi_at_call 134; refine (callsIn_wide.2 (Tryz.strings_FieldsFunc_runes 135 #[] (enters_of Tryz.func135 (by kernel_rfl) rfl) blankR d _ (by omega) (blank_pays _))).mono ?_; rintro e w1 ⟨A,rfl,hA,hrow,hb1⟩)
 have hJ1:J [] w1:=HJ.out _ _ _ none h0 ⟨hb1.os,hb1.tape,hb1.output,hb1.size,fun k hk _=>hb1.block k hk⟩ (fun r e=>by cases e)
 have hrow1:w1.ownsRow 0 9 1 (.slice (some ⟨A,0,none⟩) fs.length fs.length) fs.length ((Lib.goFieldsP blankR d).map Value.string):=by
  have:=ownsRow_zero hrow
  rw [HLEN.out] at this
  exact this
 have HB1:=Lib.hid hb1
 have hJW:AbidesFrom w1.heap.size J:=fun s A B row hs hg hr=>HJ.out s A B row hs hg (fun r e=>by obtain ⟨h1,h2⟩:=hr r e; exact ⟨Nat.le_trans HB1.out.size h1,h2⟩)
 have HJW:=Lib.hid hJW
 rw [HLEN.out]
 clear hrow hb1 hJW HJ h0
 gi_loopw [11] (fun i wr=>∃ k:Nat,k≤fs.length∧i = .int .i64 k∧Hid (J (upto fs k) wr)∧wr.ownsRow 0 9 1 (.slice (some ⟨A,0,none⟩) fs.length fs.length) fs.length ((Lib.goFieldsP blankR d).map Value.string)) (fun i _=>fs.length - (intOf i).toNat)
 case atStart=>exact ⟨0,Nat.zero_le _,rfl,hJ1,hrow1⟩
 case round =>
  obtain ⟨wo,rfl⟩:∃ wo:World,wo=wr:=⟨_,rfl⟩
  obtain ⟨k,hk,rfl,HJk,hrow⟩:=hrel
  by_cases hlt:k < fs.length
  ·obtain ⟨f,hf⟩:∃ f,(Lib.goFieldsP blankR d)[k]?=some f:=⟨_,List.getElem?_eq_getElem (by rw [HLEN.out]; exact hlt)⟩
   have hfl:f.data.toList=fs[k]:=by
    have h1:((Lib.goFieldsP blankR d).map fun b=>b.data.toList)[k]?=some f.data.toList:=by rw [List.getElem?_map,hf]; rfl
    have h2:=List.getElem?_eq_getElem hlt
    have h3:fs[k]?=some f.data.toList:=by
     conv=>lhs; rw [← HGF.out]
     exact h1
    rw [h2] at h3
    exact (Option.some.inj h3).symm
   have hck:wo.cell? ⟨A,0+k,none⟩=some (.string f):=by
    have:=hrow.cellAt k (by omega)
    rw [Nat.zero_add]
    rw [this,List.getElem?_map,hf]
    rfl
   rw [Nat.zero_add] at hck
   have HROW:=Lib.hid hrow
   have HFL:=Lib.hid hfl
   have hcap:A < wo.heap.size:=lt_of_cell hck
   have hfd:f.size≤1000000:=Nat.le_trans (goFields_size d f (List.mem_of_getElem? hf)) hd
   have hfs:Hid (f.data.toList.length=f.size):=Lib.hid (by simp)
   clear hrow hfl hf hrow1 hJ1
   gi_wp2_with (refine wpListIn_conv _ rfl rfl f rfl ?_; intro cap w2 hbr hb2 hs2; have HBR:=Lib.hid hbr; have HB2:=Lib.hid hb2; have HS2:=Lib.hid hs2; clear hbr hb2 hs2; simp only [put_lit,List.set_cons_succ,List.set_cons_zero])
   gi_loopw [19] (fun i wi=>∃ j:Nat,j≤f.size∧i = .int .i64 j∧BRow wi wo.heap.size (lowTo f.data.toList j)∧Below wo.heap.size wo wi) (fun i _=>f.size - (intOf i).toNat)
   case atStart=>exact ⟨0,Nat.zero_le _,rfl,by rw [lowTo_zero]; exact HBR.out,HB2.out⟩
   case round =>
    obtain ⟨j,hj,rfl,hbr,hb3⟩:=hrel
    have HBR3:=Lib.hid hbr
    have HB3:=Lib.hid hb3
    clear hbr hb3
    by_cases hjl:j < f.size
    ·have hjl':j < f.data.toList.length:=by rw [hfs.out]; exact hjl
     obtain ⟨c,hc⟩:∃ c,c=f.data.toList[j]:=⟨_,rfl⟩
     have hcell:wr.cell? ⟨wo.heap.size,j,none⟩=some (.int .u8 c.toNat):=by
      obtain ⟨h1,_⟩:=HBR3.out.2 j (by rw [lowTo_length]; exact hjl')
      rw [lowTo_get _ _ hjl',← hc] at h1
      exact h1
     have hfr:wr.frozen? ⟨wo.heap.size,j,none⟩=false:=(HBR3.out.2 j (by rw [lowTo_length]; exact hjl')).2
     have hc256:c.toNat < 256:=c.toNat_lt
     have hl1:=Lib.hid (low1_toNat c)
     have HC:=Lib.hid hc
     clear hc
     by_cases hA1:65≤c.toNat
     ·by_cases hA2:c.toNat≤90
      ·have hst:=Lib.hid (HBR3.out.store j (by rw [lowTo_length]; exact hjl') (low1 f.data.toList[j]))
       have hv:((low1 c).toNat:Int)=(c.toNat:Int)+32:=by rw [hl1.out,if_pos ⟨hA1,hA2⟩]
       have q1:(c.toNat:Int)+97 - 65=(c.toNat:Int)+32:=by omega
       have HV:=Lib.hid hv
       clear hv
       rw [← lowTo_succ f.data.toList j hjl',← HC.out] at hst
       gi_wp2
       exact ⟨⟨j+1,by omega,by go_num,by rw [← HV.out]; exact hst.out,HB3.out.setCell (p:=⟨wo.heap.size,j,none⟩) (Nat.le_refl _) _⟩,by simp [intOf]; omega⟩
      ·have hno:Hid (lowTo f.data.toList (j+1)=lowTo f.data.toList j):=Lib.hid (lowTo_same f.data.toList j hjl' (by rw [← HC.out]; apply UInt8.toNat_inj.1; have:=hl1.out; rw [if_neg (by omega)] at this; omega))
       gi_wp2
       go_roundw
       case rel=>exact ⟨j+1,by omega,by go_num,by rw [hno.out]; exact HBR3.out,HB3.out⟩
       case measure=>simp [intOf]; omega
     ·have hno:Hid (lowTo f.data.toList (j+1)=lowTo f.data.toList j):=Lib.hid (lowTo_same f.data.toList j hjl' (by rw [← HC.out]; apply UInt8.toNat_inj.1; have:=hl1.out; rw [if_neg (by omega)] at this; omega))
      gi_wp2
      go_roundw
      case rel=>exact ⟨j+1,by omega,by go_num,by rw [hno.out]; exact HBR3.out,HB3.out⟩
      case measure=>simp [intOf]; omega
    ·obtain rfl:j=f.size:=by omega
     have hbr:BRow wr wo.heap.size (lowL f.data.toList):=by
      have:=HBR3.out
      rw [← hfs.out,lowTo_all] at this
      exact this
     have hJr:J (upto fs k) wr:=HJW.out _ _ _ none HJk.out ⟨HB3.out.os,HB3.out.tape,HB3.out.output,HB3.out.size,fun k hk _=>HB3.out.block k hk⟩ (fun r e=>by cases e)
     have hrow3:wr.ownsRow 0 9 1 (.slice (some ⟨A,0,none⟩) fs.length fs.length) fs.length ((Lib.goFieldsP blankR d).map Value.string):=(KeepStr.below HB3.out).row HROW.out
     have hlen2:(lowL f.data.toList).length=f.size:=by unfold lowL; rw [List.length_map]; exact hfs.out
     by_cases h16:f.size≤16
     ·have hup:=Lib.hid (upto_yes fs k hlt (by rw [← HFL.out,hfs.out]; exact h16))
      have hnl:=upto_lt fs k hlt (by rw [← HFL.out,hfs.out]; exact h16)
      rw [HALL.out] at hnl
      obtain ⟨fn,tmps,assign,body,hy,hR⟩:=HY.out (upto fs k) (lowL f.data.toList) wr hJr hnl
      have hback:=run_convert_bytes_back (P:=Tryz.prog) wr 42 9 5 ⟨wo.heap.size,0,none⟩ cap (lowL f.data.toList) Tryz.underlying42 Tryz.underlying5 Tryz.underlying9 (fun j hj=>by
       have:=(hbr.2 j hj).1
       rw [show (⟨wo.heap.size,0,none⟩:Addr).add j=⟨wo.heap.size,j,none⟩ by unfold Addr.add; split <;> simp_all]
       exact this)
      rw [hlen2] at hback
      unfold strV at hy
      have HROW3:=Lib.hid hrow3
      have hszr:wo.heap.size≤wr.heap.size:=HB3.out.size
      clear hbr hJr hrow3 hlen2 hnl
      gi_wp2
      refine hR.mono ?_
      rintro e W3 (⟨rfl,hJ3,hk3⟩ | ⟨rfl,hJx3⟩)
      ·have hJ3':Hid (J (upto fs (k+1)) W3):=Lib.hid (by have h:=hJ3; rw [HFL.out] at h; rw [hup.out]; exact h)
       have hrow3:=hk3.row HROW3.out
       have HROWX:=Lib.hid hrow3
       have hA3:=(hrow3.lt A rfl).2
       clear hJ3 hk3 hrow3
       gi_wp2
       exact ⟨⟨k+1,by omega,by go_num,hJ3',HROWX.out⟩,by simp [intOf]; omega⟩
      ·have HJX:=Lib.hid hJx3
       clear hJx3
       gi_wp2
       refine bodyPost_ret (results_none rfl _ _ _) rfl ?_
       exact ⟨⟨_,rfl⟩,.inr ⟨_,trivial,HJX.out⟩⟩
     ·have hup:=Lib.hid (upto_no fs k hlt (by rw [← HFL.out,hfs.out]; exact h16))
      have HJr:=Lib.hid hJr
      have hszr:wo.heap.size≤wr.heap.size:=HB3.out.size
      clear hbr hJr hlen2
      have HROW3:=Lib.hid hrow3
      clear hrow3
      gi_wp2
      refine ⟨fun _ h=>(by cases h),?_⟩
      gi_wp2
      exact ⟨⟨k+1,by omega,by go_num,Lib.hid (hup.out.symm ▸ HJr.out),HROW3.out⟩,by simp [intOf]; omega⟩
  ·obtain rfl:k=fs.length:=by omega
   have hJd:Hid (J (wordsB d) wo):=Lib.hid (by have:=HJk.out; rw [HALL.out] at this; exact this)
   clear hrow hrow1 hJ1
   gi_wp2
   go_end0
   exact ⟨⟨_,rfl⟩,.inl ⟨_,rfl,hJd.out⟩⟩
theorem words_stops (n:Nat) (hn:1≤n) (Bn:Nat) (d:ByteArray) (hd:d.size≤1000000) (w:World) (hB:Bn < w.heap.size) (hc:w.cell? ⟨Bn,0,none⟩=some (.string d)) :
  SeqStopsK Fence.wide n Tryz.prog 133 #[.pointer (some ⟨Bn,0,none⟩)] (fun x:List UInt8=>#[strV x]) KeepStr (fun ys=>ys=wordsB d) (fun _=>True) (wordsB d).length w :=
 fun l J Jx W hW hJ _ hY h0=>words1_any n hn l Bn d hd J Jx W hJ hY ((hW.cell (p:=⟨Bn,0,none⟩) hB).trans hc) h0
end Go.Proofs.Ts
namespace Go.Proofs.Ts
open Go Go.RowKit
def bitsOf (x:Nat):List Nat:=(List.range 64).filter x.testBit
def PSet.elemsTo (s:PSet) (i:Nat):List Nat:=(List.range i).flatMap fun j=>(bitsOf (s.word j)).map (64 * j + ·)
def PSet.elems (s:PSet):List Nat:=s.elemsTo 3
def BitTab (w:World):Prop:=(∃ cs,w.heap[4]?=some (.cells cs 456 (0,0)))∧TabAt 4 Lib.deBruijn64tab w
theorem BitTab.kept {w w':World} (h:BitTab w) (hb:w'.heap[4]?=w.heap[4]?):BitTab w':=by
 obtain ⟨⟨cs,h1⟩,h2⟩:=h
 refine ⟨⟨cs,hb.trans h1⟩,fun j hj=>?_⟩
 rw [World.cell?_of_block (a:=⟨4,j,none⟩) hb]
 exact h2 j hj
theorem BitTab.lt {w:World} (h:BitTab w):4 < w.heap.size:=by
 obtain ⟨⟨cs,h1⟩,_⟩:=h
 exact lt_of_heap h1
end Go.Proofs.Ts
namespace Go.Proofs.Ts
open Go Go.RowKit
section
variable {P:Program} {ops:Array Oper} {Q:Exit→Act→World→Prop} {n l:Nat}
def calmB (o:Oper):Bool:=match o.op with | .defer _=>false | _=>true
theorem operIn_of_wp {o:Oper} {a:Act} {w:World} {K:Act→World→Prop} (hnd:calmB o=true) (h:o.wp P a w K Q):o.wpIn (Fence.wide.inRound l) n P a w K Q:=by
 have hd:∀ c,o.op ≠ .defer c:=fun c e=>by unfold calmB at hnd; rw [e] at hnd; cases hnd
 refine ⟨fun _ _=>trivial,?_⟩
 rw [Oper.semAt_eq _ _ _ hd]
 unfold Oper.wp at h
 generalize (execOp a.eval o).run P w=r at *
 cases r with
 | ok x w' =>
  cases x <;> simp only [Oper.upon,Oper.uponIn] at h ⊢
  case value=>exact h
  case skip=>exact h
  case defer=>exact h
  case enter f args=>exact ⟨fun hx=>(by cases hx),CallsIn.inRound l (callsIn_wide.2 h)⟩
  case row r args =>
   refine ⟨fun hx=>(by cases hx),fun c cs _=>?_⟩
   obtain ⟨v,w'',h1,h2⟩:=h c cs
   exact ⟨v,w'',h1,stepsIn_wide.2 h2⟩
  all_goals exact h.elim
 | halt x w'=>cases x <;> simp only [Oper.upon,Oper.uponIn] at h ⊢ <;> exact h
def Calm (Q:Exit→Act→World→Prop):Exit→Act→World→Prop
 | .normal,a,w=>Q .normal a w
 | _,_,_=>False
theorem wpOpIn_of_wpOp (hno:¬ LetsOut Q) (hall:(ops.toList.all calmB)=true) {i:Nat} {K:Act→World→Prop} {a:Act} {w:World} (h:wpOp P ops Q i K a w):wpOpIn (Fence.wide.inRound l) n P ops Q i K a w:=by
 unfold wpOpIn
 unfold wpOp at h
 cases ho:ops[i]? with
 | none=>rw [ho] at h; exact h
 | some o =>
  rw [ho] at h
  simp only at h ⊢
  have hc:calmB o=true:=by
   rw [List.all_eq_true] at hall
   exact hall o (by rw [Array.mem_toList_iff]; exact Array.mem_of_getElem? ho)
  split
  ·rename_i hw
   rw [if_pos hw] at h
   rcases h with h | ⟨_,h⟩
   ·exact operIn_of_wp hc h
   ·exact (hno h).elim
  ·rename_i hw
   rw [if_neg hw] at h
   exact ⟨fun _ _=>trivial,h⟩
theorem wpAnyIn_of_wpAny (hno:¬ LetsOut Q) (hall:(ops.toList.all calmB)=true):∀ (fuel:Nat) (listed:Array Bool) (a:Act) (w:World),wpAny P .any ops Q fuel listed a w→wpAnyIn (Fence.wide.inRound l) n P .any ops Q fuel listed a w
 | 0,_,_,_,h=>h
 | fuel+1,listed,a,w,h=>⟨h.1,fun i hi=>wpOpIn_mono (fun a' w' h'=>wpAnyIn_of_wpAny hno hall fuel _ a' w' h') (wpOpIn_of_wpOp hno hall (h.2 i hi))⟩
theorem wpIn_region_ordX {id:Nat} {a:Act} {w:World} {lo:List Oper} (order:List (Nat × Bool)) (x:Nat) (S:World→Prop) (hm:P.follows .mixedOrders=true)
  (hs:(Region.noSelect lo.toArray && (order.all fun q=>q.2 || waitsB lo.toArray x q.1) && (order.length == lo.length) && ordB lo.toArray order (Array.replicate lo.length false) && lo.all calmB)=true) (hS:S w.drew)
  (h:wpOrd P lo S x (Q .normal) order a w.drew):(Code.region id lo.toArray true).wpIn (Fence.wide.inRound l) n P Q a w:=by
 simp only [Bool.and_eq_true,beq_iff_eq] at hs
 obtain ⟨⟨⟨⟨h1,h3⟩,h4⟩,h5⟩,h6⟩:=hs
 have h3':∀ q∈order,q.2=false→waitsB lo.toArray x q.1=true:=fun q hq hf=>by
  have:=List.all_eq_true.1 h3 q hq
  rw [hf] at this
  simpa using this
 refine wpIn_mono (Q:=Calm Q) (wpIn_region_any hm (wpAnyIn_of_wpAny (fun ⟨_,_,h⟩=>h) h6 _ _ _ _ (wpAny_of_anyX (S:=S) (x:=x) _ _ _ _ ?_))) ?_
 ·have:=anyX_of_ord (Q:=Q) (Q':=Calm Q) h1 (fun _ _ h=>h) (fun _ _ _ h=>h) order (Array.replicate lo.length false) a w.drew h3' h5 hS h
  rw [h4] at this
  simpa using this
 ·intro e a w h
  cases e <;> first | exact h | exact h.elim
end
end Go.Proofs.Ts
namespace Go.Proofs.Ts
open Go Go.RowKit
attribute [local go_sem] Oper.semAt_some
def PM.next (M:PM) (l:List Nat):PSet:=l.foldl (fun t k=>t.or (M.follow.getD k PSet.zero)) PSet.zero
def PM.step (M:PM) (s:PSet) (c:Nat):PSet:=(M.next s.elems).and (M.at'.getD c PSet.zero)
end Go.Proofs.Ts
namespace Go.Proofs.Ts
open Go Go.RowKit
attribute [local go_sem] Oper.semAt_some
def PM.putFollow (M:PM) (k:Nat) (s:PSet):PM:={ M with follow:=M.follow.set k s }
def PM.linkOne (M:PM) (tt:PSet) (k:Nat):PM:=M.putFollow k ((M.follow.getD k PSet.zero).or tt)
def PM.link (M:PM) (l:List Nat) (tt:PSet):PM:=l.foldl (fun M k=>M.linkOne tt k) M
end Go.Proofs.Ts
namespace Go.Proofs.Ts
open Go Go.RowKit
structure BSet where
 a:Nat
 b:Nat
 c:Nat
 d:Nat
 deriving DecidableEq,Inhabited
namespace BSet
def word (s:BSet):Nat→Nat
 | 0=>s.a
 | 1=>s.b
 | 2=>s.c
 | _=>s.d
def ok (s:BSet):Prop:=s.a < W64∧s.b < W64∧s.c < W64∧s.d < W64
def has (s:BSet) (c:Nat):Bool:=(s.word (c / 64)).testBit (c % 64)
def cells (s:BSet):List Value:=[.int .u64 s.a,.int .u64 s.b,.int .u64 s.c,.int .u64 s.d]
end BSet
inductive Ast where
 | empty
 | huge
 | one (s:BSet)
 | seq (a b:Ast)
 | or (a b:Ast)
 | many (a:Ast) (sm:Bool)
 | maybe (a:Ast)
namespace Ast
def val:Ast→Value
 | empty => .iface 296 (.agg #[])
 | huge => .iface 388 (.agg #[])
 | one s => .iface 300 (.agg s.cells.toArray)
 | seq a b => .iface 393 (.agg #[a.val,b.val])
 | or a b => .iface 387 (.agg #[a.val,b.val])
 | many a sm => .iface 304 (.agg #[a.val,.bool sm])
 | maybe a => .iface 390 (.agg #[a.val])
def count:Ast→Nat
 | empty | huge=>0
 | one _=>1
 | seq a b | or a b=>a.count+b.count
 | many a _ | maybe a=>a.count
def ok:Ast→Prop
 | empty | huge=>True
 | one s=>s.ok
 | seq a b | or a b=>a.ok∧b.ok
 | many a _ | maybe a=>a.ok
end Ast
structure Part where
 first:PSet
 last:PSet
 none:Bool
def Part.cells (p:Part):List Value:=p.first.cells++(p.last.cells++[.bool p.none])
def Part.val (p:Part):Value := .agg p.cells.toArray
structure Part.ok (p:Part):Prop where
 f:p.first.ok
 l:p.last.ok
def PM.putPlace (M:PM) (s:BSet):PM:={ M with at':=(M.at'.zipIdx).map fun q=>if s.has q.2 then q.1.on M.n else q.1,n:=M.n+1 }
def Part.or (p q:Part):Part:=⟨p.first.or q.first,p.last.or q.last,p.none || q.none⟩
def Part.seq (p q:Part):Part:=⟨if p.none then p.first.or q.first else p.first,if q.none then q.last.or p.last else q.last,p.none && q.none⟩
def PM.part:Ast→PM→PM × Part
 | .empty,M=>(M,⟨.zero,.zero,true⟩)
 | .huge,M=>(M,⟨.zero,.zero,true⟩)
 | .one s,M=>(M.putPlace s,⟨PSet.zero.on M.n,PSet.zero.on M.n,false⟩)
 | .or a b,M=>((PM.part b (PM.part a M).1).1,(PM.part a M).2.or (PM.part b (PM.part a M).1).2)
 | .seq a b,M=>((PM.part b (PM.part a M).1).1.link (PM.part a M).2.last.elems (PM.part b (PM.part a M).1).2.first,(PM.part a M).2.seq (PM.part b (PM.part a M).1).2)
 | .many a sm,M=>((PM.part a M).1.link (PM.part a M).2.last.elems (PM.part a M).2.first,⟨(PM.part a M).2.first,(PM.part a M).2.last,(PM.part a M).2.none || !sm⟩)
 | .maybe a,M=>((PM.part a M).1,⟨(PM.part a M).2.first,(PM.part a M).2.last,true⟩)
/-! ### What a part keeps. -/
def PSet.under (s:PSet) (n:Nat):Prop:=∀ k∈s.elems,k < n
end Go.Proofs.Ts
namespace Go.Proofs.Ts
open Go
/-! ### Sets of bytes. -/
def BSet.setw (s:BSet) (i v:Nat):BSet:=match i with
 | 0=>{ s with a:=v }
 | 1=>{ s with b:=v }
 | 2=>{ s with c:=v }
 | _=>{ s with d:=v }
def BSet.on (s:BSet) (k:Nat):BSet:=s.setw (k / 64) (s.word (k / 64) ||| 2 ^ (k % 64))
def BSet.addN (s:BSet) (lo:Nat):Nat→BSet
 | 0=>s
 | n+1=>(s.addN lo n).on (lo+n)
def BSet.add (s:BSet) (lo hi:Nat):BSet:=s.addN lo (hi+1 - lo)
def BSet.zero:BSet:=⟨0,0,0,0⟩
def BSet.notN (s:BSet):Nat→BSet
 | 0=>s
 | n+1=>(s.notN n).setw n (18446744073709551615 ^^^ (s.notN n).word n)
def BSet.not (s:BSet):BSet:=s.notN 4
/-! ### Patterns. -/
def Ast.places:Ast→Nat
 | .empty=>0
 | .huge=>129
 | .one _=>1
 | .seq a b | .or a b=>min (a.places+b.places) 129
 | .many a _ | .maybe a=>a.places
def Ast.join:Ast→Ast→Ast
 | .empty,b=>b
 | a,.empty=>a
 | a,b => .seq a b
def Ast.joinN (x y:Ast):Nat→Ast
 | 0=>x
 | n+1=>(x.joinN y n).join y
abbrev Times:=Ast→Nat→Nat→Bool→Ast
def onceT:Times:=fun a _ _ _=>a
def repeatT:Times:=fun a lo hi endless =>
 if a.places * (if endless then lo+1 else hi) > 128 then .huge
 else if endless then (Ast.joinN .empty a lo).join (.many a false)
 else (Ast.joinN .empty a lo).joinN (.maybe a) (hi - lo)
/-! ### The text. -/
def classOne (s:ByteArray) (o:BSet) (i:Nat):PR BSet :=
 if clsB s i then
  match singleP s i with
  | .fault e => .fault e
  | .ok lo j =>
   if isB s j 45 then
    if clsB s (j+1) then
     match singleP s (j+1) with
     | .fault e => .fault e
     | .ok hi k=>if hi < lo then .fault (k - 1) else .ok (o.add lo.toNat hi.toNat) k
    else .fault (j+1)
   else .ok (o.add lo.toNat lo.toNat) j
 else .fault i
def classP (s:ByteArray):Nat→Bool→BSet→Nat→PR BSet
 | 0,_,_,i => .fault i
 | f+1,first,o,i =>
  if first || !isB s i 93 then
   match classOne s o i with
   | .fault e => .fault e
   | .ok o' j=>classP s f false o' j
  else .ok o i
def setP (s:ByteArray) (i:Nat):PR BSet :=
 match classP s (s.size+1) true .zero (eatB s i 94) with
 | .fault e => .fault e
 | .ok o j => .ok (if isB s i 94 then o.not else o) (j+1)
def wrongB (c:UInt8):Bool:=c == 41 || c == 93 || c == 123 || c == 125 || c == 42 || c == 43 || c == 63 || c == 124
def atomP (A:Nat→PR Ast) (s:ByteArray) (i:Nat):PR Ast :=
 match s.data.toList[i]? with
 | none => .fault i
 | some c =>
  if c=40 then
   match A (i+1) with
   | .fault e => .fault e
   | .ok x j=>if isB s j 41 then .ok x (j+1) else .fault j
  else if c=46 then .ok (.one (BSet.zero.add 0 255)) (i+1)
  else if c=91 then
   match setP s (i+1) with
   | .fault e => .fault e
   | .ok o j => .ok (.one o) j
  else if wrongB c then .fault i
  else
   match singleP s i with
   | .fault e => .fault e
   | .ok d j => .ok (.one (BSet.zero.add d.toNat d.toNat)) j
def timesP (T:Times) (s:ByteArray) (a:Ast) (i:Nat):PR Ast :=
 match digitP s i 0 with
 | .fault e => .fault e
 | .ok lo j =>
  if isB s j 44 then
   if isB s (j+1) 125 then .ok (T a lo lo true) (j+2)
   else
    match digitP s (j+1) lo with
    | .fault e => .fault e
    | .ok hi k=>if isB s k 125 then .ok (T a lo hi false) (k+1) else .fault k
  else if isB s j 125 then .ok (T a lo lo false) (j+1) else .fault j
def behindP (T:Times) (s:ByteArray) (a:Ast) (i:Nat):PR Ast :=
 if isB s i 42 then .ok (.many a false) (i+1)
 else if isB s i 43 then .ok (.many a true) (i+1)
 else if isB s i 63 then .ok (.maybe a) (i+1)
 else if isB s i 123 then timesP T s a (i+1)
 else .ok a i
def repP (T:Times) (A:Nat→PR Ast) (s:ByteArray) (i:Nat):PR Ast :=
 match atomP A s i with
 | .fault e => .fault e
 | .ok a j=>behindP T s a j
def moreB (s:ByteArray) (i:Nat):Bool:=decide (i < s.size) && !isB s i 124 && !isB s i 41
def seqP (T:Times) (A:Nat→PR Ast) (s:ByteArray):Nat→Ast→Nat→PR Ast
 | 0,_,i => .fault i
 | f+1,x,i =>
  if moreB s i then
   match repP T A s i with
   | .fault e => .fault e
   | .ok y j=>seqP T A s f (x.join y) j
  else .ok x i
def orP (T:Times) (A:Nat→PR Ast) (s:ByteArray):Nat→Ast→Nat→PR Ast
 | 0,_,i => .fault i
 | f+1,x,i =>
  if isB s i 124 then
   match seqP T A s (s.size+1) .empty (i+1) with
   | .fault e => .fault e
   | .ok y j=>orP T A s f (.or x y) j
  else .ok x i
def altP (T:Times) (s:ByteArray):Nat→Nat→PR Ast
 | 0,i => .fault i
 | n+1,i =>
  match seqP T (altP T s n) s (s.size+1) .empty i with
  | .fault e => .fault e
  | .ok x j=>orP T (altP T s n) s (s.size+1) x j
inductive Parsed where
 | fault (i:Nat)
 | big
 | ok (x:Ast)
def parseP (s:ByteArray):Parsed :=
 match altP onceT s (s.size+1) 0 with
 | .fault e => .fault e
 | .ok _ j =>
  if j=s.size then
   match altP repeatT s (s.size+1) 0 with
   | .fault e => .fault e
   | .ok x _=>if x.places > 128 then .big else .ok x
  else .fault j
/-! ### Places rise. -/
end Go.Proofs.Ts
namespace Go.Proofs.Ts
open Go Go.RowKit
def Asserts (T:TypeId) (v:Value) (A:TypeId) (z:Value) (hit:Bool):Prop:=∀ w,(Instr.typeAssert (.iface T v) 210 A true).run Tryz.prog w = .ok (.tuple #[z,.bool hit]) w
theorem below_mod {w w':World} (h:Below w.heap.size w w') {S:Nat→Prop}:Mod S w w':=⟨h.os,h.tape,h.output,h.size,fun j hj _=>h.block j hj⟩
end Go.Proofs.Ts
namespace Go.Proofs.Ts
open Go Go.RowKit
def Ast.isEmpty:Ast→Bool
 | .empty=>true
 | _=>false
end Go.Proofs.Ts
namespace Go.Proofs.Ts
open Go
def Times.Keeps (T:Times):Prop:=∀ (a:Ast) lo hi en,a.ok→(T a lo hi en).ok
section
variable {T:Times} {A:Nat→PR Ast} {s:ByteArray}
end
end Go.Proofs.Ts
namespace Go.Proofs.Ts
open Go Go.RowKit
def PM.zero:PM:=⟨List.replicate 256 PSet.zero,List.replicate 129 PSet.zero,PSet.zero,0⟩
def PM.setLast (M:PM) (s:PSet):PM:={ M with last:=s }
def PM.compile (e:Ast):PM:=((PM.part e .zero).1.putFollow 128 (PM.part e .zero).2.first).setLast (if (PM.part e .zero).2.none then (PM.part e .zero).2.last.on 128 else (PM.part e .zero).2.last)
end Go.Proofs.Ts
namespace Go.Proofs.Ts.S
open Go Go.RowKit Go.Proofs.Ts
variable {σ:Type} {ec:σ→Array Value}
def cellsN:Nat:=3
structure AutI (ec:σ→Array Value) (H:World→Prop) (iv:Value) (ok:σ→Prop) (step:σ→UInt8→Option σ) (ends:σ→Bool):Prop where
 ex : ∃ T v fE fT rE rT, iv = .iface T v ∧ (∀ fu w, (method (fu + 1) T v "Ends").run Tryz.prog w = .ok (fE, rE) w) ∧ (∀ fu w, (method (fu + 1) T v "Step").run Tryz.prog w = .ok (fT, rT) w) ∧
  (∀ args w,(callFunc fE args).run Tryz.prog w = .ok (.enter fE args) w)∧(∀ args w,(callFunc fT args).run Tryz.prog w = .ok (.enter fT args) w) ∧
  (∀ s w,H w→ok s→Calls Tryz.prog fE #[rE,.agg (ec s)] w fun e w'=>e = .returned (.bool (ends s))∧Below w.heap.size w w') ∧
  ∀ s c w,H w→ok s→Calls Tryz.prog fT #[rT,.agg (ec s),.int .u8 (UInt8.toNat c)] w fun e w'=>(∃ t:σ,e = .returned (.tuple #[.agg (ec t),.bool (step s c).isSome])∧(ec t).size=cellsN∧(ec t).all (·.oneCell')=true ∧ ∀ u,step s c=some u→t=u)∧Below w.heap.size w w'
 next:∀ s c t,ok s→step s c=some t→ok t
 keep:∀ w w',H w→KeepG w w'→H w'
 size:∀ s,ok s→(ec s).size=cellsN
structure WM (V:Value) (D:List DS) (db:Nat) (iv yf:Value) (bd ba by' bw:Nat) (w:World):Prop where
 dct:w.heap[db]?=some (.cells #[V] 172 (0,0))
 rows:RowsIn 0 w V D
 bxd:w.heap[bd]?=some (.cells #[ptrV db] 158 (0,0))
 bxa:w.heap[ba]?=some (.cells #[iv] 447 (0,0))
 bxy:w.heap[by']?=some (.cells #[yf] 249 (0,0))
 bxw:w.heap[bw]?=some (.cells #[.func (.func 244) #[] #[ptrV bd,ptrV ba,ptrV by',ptrV bw]] 448 (0,0))
structure WAt (V:Value) (D:List DS) (db:Nat) (iv yf:Value) (bd ba by' bw B:Nat) (p:List UInt8) (pv:Value) (J:List (List UInt8 × Nat)→World→Prop) (w0:World) (ys:List (List UInt8 × Nat)) (w:World):Prop where
 wm:WM V D db iv yf bd ba by' bw w
 row:w.ownsRow 0 5 1 pv p.length (bytesV p)
 keep:KeepB pv w0 w
 j:J ys w
 size:B≤w.heap.size
section
variable {V:Value} {D:List DS} {db:Nat} {iv yf:Value} {bd ba by' bw B:Nat} {p:List UInt8} {pv pv':Value} {J J':List (List UInt8 × Nat)→World→Prop} {w0:World} {ys ys':List (List UInt8 × Nat)} {Wb Wc W4 W5:World} {c:UInt8}
end
end Go.Proofs.Ts.S
namespace Go.Proofs.Ts.S
open Go Go.RowKit Go.Proofs.Ts
variable {σ:Type} {ec:σ→Array Value}
def AutS (ec : σ → Array Value) (H : World → Prop) (iv : Value) (s0 : σ) : Prop := ∃ T v fS rS, iv = .iface T v ∧ (∀ fu w, (method (fu + 1) T v "Start").run Tryz.prog w = .ok (fS, rS) w) ∧ (∀ args w, (callFunc fS args).run Tryz.prog w = .ok (.enter fS args) w) ∧
 ∀ w,H w→Calls Tryz.prog fS #[rS] w fun e w'=>e = .returned (.agg (ec s0))∧Below w.heap.size w w'
def walkFn (bd ba by' bw:Nat):Value := .func (.func 244) #[] #[.pointer (some ⟨bd,0,none⟩),.pointer (some ⟨ba,0,none⟩),.pointer (some ⟨by',0,none⟩),.pointer (some ⟨bw,0,none⟩)]
def overStart (w:World) (db g:Nat) (lb:Array Value) (ba:Nat):World :=
 ((w.alloc (.cells #[.pointer (some ⟨db,0,none⟩)] 158)).alloc (.cells #[.func (.func g) #[] lb] 249)).alloc (.cells #[walkFn w.heap.size ba (w.heap.size+1) (w.heap.size+1+1)] 448)
end Go.Proofs.Ts.S
namespace Go.Proofs.Ts
open Go Go.RowKit
def PM.atc (M:PM) (c:Nat):PSet:=M.at'.getD c .zero
def PM.alikeTo (M:PM):Nat→List (PSet × Nat)
 | 0=>[]
 | c+1=>if (get (M.alikeTo c) (M.atc c)).isSome then M.alikeTo c else M.alikeTo c++[(M.atc c,c)]
def PM.kindsTo (M:PM) (c:Nat):List Nat:=(M.alikeTo c).map (·.2)
def PM.kinds (M:PM):List Nat:=M.kindsTo 256
inductive Met2 (M:PM):PSet→Prop
 | start:Met2 M beginSet
 | step (s:PSet) (c:Nat):Met2 M s→c < 256→M.step s c≠PSet.zero→Met2 M (M.step s c)
/-! ### All places at a byte lie below 128. -/
def PM.small (M:PM):Prop:=∀ s∈M.at',s.under M.n
end Go.Proofs.Ts
namespace Go.Proofs.Ts
open Go Go.RowKit
def PM.reads (M:PM) (s:PSet):List UInt8→Bool
 | []=>M.ends s
 | c :: t=>if M.step s c.toNat=PSet.zero then false else M.reads (M.step s c.toNat) t
def PM.live (M:PM) (s:PSet):Prop:=∃ t,M.reads s t=true
def goes (rows:List (List Int)) (i k:Nat):Option Nat :=
 match rows[i]? with
 | none=>none
 | some r=>match r[k]? with
  | none=>none
  | some z=>if 0≤z then some z.toNat else none
/-! ### Rounds. -/
section
variable {M:PM} {sets:List PSet} {rows:List (List Int)} {b b':List Nat} {n m:Nat}
end
end Go.Proofs.Ts
namespace Go.Proofs.Ts
open Go
def Ast.nul:Ast→Bool
 | .empty | .huge | .maybe _=>true
 | .one _=>false
 | .seq a b=>a.nul && b.nul
 | .or a b=>a.nul || b.nul
 | .many a sm=>a.nul || !sm
/-! ### What is read, place by place. -/
def PM.fol (M:PM) (k k':Nat):Prop:=(M.follow.getD k PSet.zero).mem k'=true
def PM.takes (M:PM) (k:Nat) (c:UInt8):Prop:=(M.atc c.toNat).mem k=true
def PM.run (M:PM):List UInt8→Nat→Prop
 | [],k=>M.last.mem k=true
 | c :: t,k=>∃ k',k' < 192∧M.fol k k'∧M.takes k' c∧M.run t k'
def PM.via (M:PM) (P:Nat→Prop) (t:List UInt8):Prop:=∃ c t' k,t=c :: t'∧k < 192∧P k∧M.takes k c∧M.run t' k
/-! ### First and last places, and links, of a pattern whose places begin at n. -/
def Ast.fst:Ast→Nat→Nat→Prop
 | .empty,_,_ | .huge,_,_=>False
 | .one _,n,k=>k=n
 | .seq a b,n,k=>a.fst n k∨(a.nul=true∧b.fst (n+a.count) k)
 | .or a b,n,k=>a.fst n k∨b.fst (n+a.count) k
 | .many a _,n,k | .maybe a,n,k=>a.fst n k
def PM.tail (N:PM) (F:Nat→Prop) (acc:Prop) (t:List UInt8):Prop:=(t=[]∧acc)∨N.via F t
end Go.Proofs.Ts
namespace Go.Proofs.Ts
open Go
def PM.wide (M:PM) (most:Nat):Prop:=∃ l:List PSet,l.Nodup∧(∀ s∈l,Met2 M s)∧most < l.length
inductive Mach where
 | fault (i:Nat)
 | big
 | ok (x:Ast) (c:Nat)
def Mach.num:Mach→Int
 | .ok _ c=>c
 | _=>0
def Mach.err:Mach→Int
 | .fault _=>6
 | .big=>9
 | .ok _ _=>0
def Mach.place:Mach→Int
 | .fault i=>i
 | _=>-1
end Go.Proofs.Ts
namespace Go.Proofs.Ts
open Go
def allB:BSet:=BSet.zero.add 0 255
def oneB (c:UInt8):BSet:=BSet.zero.add c.toNat c.toNat
def wildFrom (s:ByteArray):Nat→Ast→Nat→Parsed
 | 0,x,_ => .ok x
 | f+1,x,i=>match s.data.toList[i]? with
  | none => .ok x
  | some c =>
   if c=42 then wildFrom s f (x.join (.many (.one allB) false)) (i+1)
   else if c=63 then wildFrom s f (x.join (.one allB)) (i+1)
   else if c=92 then match s.data.toList[i+1]? with
    | none => .fault (i+1)
    | some d=>wildFrom s f (x.join (.one (oneB d))) (i+2)
   else wildFrom s f (x.join (.one (oneB c))) (i+1)
def wildP (s:ByteArray):Parsed:=wildFrom s (s.size+1) .empty 0
section
variable {s:ByteArray} {f i:Nat} {x:Ast} {c d:UInt8}
end
/-! ### What is read is a pattern of few places. -/
end Go.Proofs.Ts
namespace Go.Proofs.Ts.B
open Go Go.RowKit Go.Proofs.Ts
variable {σ:Type} {ec:σ→Array Value}
def cellsN:Nat:=2
theorem cells_info:(Tryz.prog.info? 404).map (·.size)=some cellsN:=by kernel_rfl
structure AutI (ec:σ→Array Value) (H:World→Prop) (iv:Value) (ok:σ→Prop) (step:σ→UInt8→Option σ) (ends:σ→Bool):Prop where
 ex : ∃ T v fE fT rE rT, iv = .iface T v ∧ (∀ fu w, (method (fu + 1) T v "Ends").run Tryz.prog w = .ok (fE, rE) w) ∧ (∀ fu w, (method (fu + 1) T v "Step").run Tryz.prog w = .ok (fT, rT) w) ∧
  (∀ args w,(callFunc fE args).run Tryz.prog w = .ok (.enter fE args) w)∧(∀ args w,(callFunc fT args).run Tryz.prog w = .ok (.enter fT args) w) ∧
  (∀ s w,H w→ok s→Calls Tryz.prog fE #[rE,.agg (ec s)] w fun e w'=>e = .returned (.bool (ends s))∧Below w.heap.size w w') ∧
  ∀ s c w,H w→ok s→Calls Tryz.prog fT #[rT,.agg (ec s),.int .u8 (UInt8.toNat c)] w fun e w'=>(∃ t:σ,e = .returned (.tuple #[.agg (ec t),.bool (step s c).isSome])∧(ec t).size=cellsN∧(ec t).all (·.oneCell')=true ∧ ∀ u,step s c=some u→t=u)∧Below w.heap.size w w'
 next:∀ s c t,ok s→step s c=some t→ok t
 keep:∀ w w',H w→KeepG w w'→H w'
 size:∀ s,ok s→(ec s).size=cellsN
structure WM (V:Value) (D:List DS) (db:Nat) (iv yf:Value) (bd ba by' bw:Nat) (w:World):Prop where
 dct:w.heap[db]?=some (.cells #[V] 172 (0,0))
 rows:RowsIn 0 w V D
 bxd:w.heap[bd]?=some (.cells #[ptrV db] 158 (0,0))
 bxa:w.heap[ba]?=some (.cells #[iv] 440 (0,0))
 bxy:w.heap[by']?=some (.cells #[yf] 249 (0,0))
 bxw:w.heap[bw]?=some (.cells #[.func (.func 242) #[] #[ptrV bd,ptrV ba,ptrV by',ptrV bw]] 441 (0,0))
theorem WM.kept {V:Value} {D:List DS} {db:Nat} {iv yf:Value} {bd ba by' bw n:Nat} {w w':World} {v:Value} {xs:List Value} (h:WM V D db iv yf bd ba by' bw w) (hr:w.ownsRow 0 5 1 v n xs) (hk:KeepB v w w'):WM V D db iv yf bd ba by' bw w':=by
 have ne:∀ (k:Nat) cs t r,w.heap[k]?=some (.cells cs t r)→t≠5→v.ownBlock≠some k:=fun k cs t r h1 h2 e=>by
  rcases hr.2 with ⟨rfl,_⟩ | ⟨g,cap,cur,rfl,_,hg,_⟩
  ·cases e
  ·cases e
   rw [hg] at h1
   cases h1
   exact h2 rfl
 have go:∀ (k:Nat) cs t r,w.heap[k]?=some (.cells cs t r)→leansOn t=true→t≠5→w'.heap[k]?=some (.cells cs t r):=fun k cs t r h1 h2 h3=>(hk.2 k cs t r h1 h2 (ne k cs t r h1 h3)).trans h1
 have gr:∀ {e size n:Nat} {u:Value} {ys:List Value},leansOn e=true→e≠5→w.ownsRow 0 e size u n ys→w'.ownsRow 0 e size u n ys:=fun h1 h2 h3=>ownsRow_typed h3 fun k cs r h4=>(go k cs _ r h4 h1 h2).trans h4.symm
 exact ⟨go _ _ _ _ h.dct (by decide) (by decide),⟨gr (by decide) (by decide) h.rows.row,h.rows.past,fun i s hi=>gr (by decide) (by decide) (h.rows.erow i s hi),h.rows.epast,h.rows.apart,h.rows.apartV⟩,go _ _ _ _ h.bxd (by decide) (by decide),go _ _ _ _ h.bxa (by decide) (by decide),go _ _ _ _ h.bxy (by decide) (by decide),go _ _ _ _ h.bxw (by decide) (by decide)⟩
structure WAt (V:Value) (D:List DS) (db:Nat) (iv yf:Value) (bd ba by' bw B:Nat) (p:List UInt8) (pv:Value) (J:List (List UInt8 × Nat)→World→Prop) (w0:World) (ys:List (List UInt8 × Nat)) (w:World):Prop where
 wm:WM V D db iv yf bd ba by' bw w
 row:w.ownsRow 0 5 1 pv p.length (bytesV p)
 keep:KeepB pv w0 w
 j:J ys w
 size:B≤w.heap.size
theorem WAt.same {V:Value} {D:List DS} {db:Nat} {iv yf:Value} {bd ba by' bw B:Nat} {p:List UInt8} {pv:Value} {J:List (List UInt8 × Nat)→World→Prop} {w0:World} {ys:List (List UInt8 × Nat)} {w w':World} (h:WAt V D db iv yf bd ba by' bw B p pv J w0 ys w)
  (hJ:∀ ys w w',J ys w→StepsB B w w'→J ys w') (hS:Same w w'):WAt V D db iv yf bd ba by' bw B p pv J w0 ys w' :=
 ⟨h.wm.kept h.row ((KeepT.same hS).toB pv),(KeepT.same hS).row (by decide) h.row,h.keep.trans ((KeepT.same hS).toB pv),hJ _ _ _ h.j (StepsB.same hS),by rw [hS.heap]; exact h.size⟩
theorem WAt.below {V:Value} {D:List DS} {db:Nat} {iv yf:Value} {bd ba by' bw B:Nat} {p:List UInt8} {pv:Value} {J:List (List UInt8 × Nat)→World→Prop} {w0:World} {ys:List (List UInt8 × Nat)} {w w':World} (h:WAt V D db iv yf bd ba by' bw B p pv J w0 ys w)
  (hJ:∀ ys w w',J ys w→StepsB B w w'→J ys w') (hS:Below w.heap.size w w'):WAt V D db iv yf bd ba by' bw B p pv J w0 ys w' :=
 ⟨h.wm.kept h.row ((KeepT.below hS).toB pv),(KeepT.below hS).row (by decide) h.row,h.keep.trans ((KeepT.below hS).toB pv),hJ _ _ _ h.j (StepsB.below hS),Nat.le_trans h.size hS.size⟩
theorem WAt.alloc {V:Value} {D:List DS} {db:Nat} {iv yf:Value} {bd ba by' bw B:Nat} {p:List UInt8} {pv:Value} {J:List (List UInt8 × Nat)→World→Prop} {w0:World} {ys:List (List UInt8 × Nat)} {w:World} (h:WAt V D db iv yf bd ba by' bw B p pv J w0 ys w)
  (hJ:∀ ys w w',J ys w→StepsB B w w'→J ys w') (o:Obj):WAt V D db iv yf bd ba by' bw B p pv J w0 ys (w.alloc o) :=
 ⟨h.wm.kept h.row ((KeepT.alloc w o).toB pv),(KeepT.alloc w o).row (by decide) h.row,h.keep.trans ((KeepT.alloc w o).toB pv),hJ _ _ _ h.j (StepsB.alloc B w o),by have:=h.size; simp; omega⟩
theorem WAt.yields {V:Value} {D:List DS} {db:Nat} {iv yf:Value} {bd ba by' bw B:Nat} {p:List UInt8} {pv:Value} {J J':List (List UInt8 × Nat)→World→Prop} {w0:World} {ys ys':List (List UInt8 × Nat)} {w w':World} (h:WAt V D db iv yf bd ba by' bw B p pv J w0 ys w)
  (hK:KeepT w w') (hj:J' ys' w'):WAt V D db iv yf bd ba by' bw B p pv J' w0 ys' w' :=
 ⟨h.wm.kept h.row (hK.toB pv),hK.row (by decide) h.row,h.keep.trans (hK.toB pv),hj,Nat.le_trans h.size hK.1⟩
section
variable {V:Value} {D:List DS} {db:Nat} {iv yf:Value} {bd ba by' bw B:Nat} {p:List UInt8} {pv pv':Value} {J J':List (List UInt8 × Nat)→World→Prop} {w0:World} {ys ys':List (List UInt8 × Nat)} {Wb Wc W4 W5:World} {c:UInt8}
theorem WAt.grow (h:WAt V D db iv yf bd ba by' bw B p pv J w0 ys Wb) (hJ:∀ ys w w',J ys w→StepsB B w w'→J ys w') (hp:Past B pv) (hmv:Moves Wb pv W4 pv') (hrow4:W4.ownsRow 0 5 1 pv' (p.length+1) (bytesV p++[.int .u8 c.toNat])) :
  WM V D db iv yf bd ba by' bw W4∧W4.ownsRow 0 5 1 pv' (p++[c]).length (bytesV (p++[c]))∧Past B pv'∧B≤W4.heap.size∧J ys W4:=by
 refine ⟨h.wm.kept h.row (KeepB.moves hmv),?_,hmv.past hp h.size,Nat.le_trans h.size hmv.size,hJ _ _ _ h.j (StepsB.moves hmv h.row hp)⟩
 rw [List.length_append,List.length_singleton]
 unfold bytesV at *
 rw [List.map_append]
 exact hrow4
theorem WAt.back (h:WAt V D db iv yf bd ba by' bw B p pv J w0 ys Wb) (hmv:Moves Wb pv W4 pv') (hcs:Wb.heap.size≤Wc.heap.size) (hold:∀ k,k < Wb.heap.size→Wc.heap[k]?=Wb.heap[k]?) (hl:Lies Wc W4 pv pv') (hel:Elder 5 1 pv pv' p.length (bytesV p))
  (hwm4:WM V D db iv yf bd ba by' bw W4) (hrow4:W4.ownsRow 0 5 1 pv' (p++[c]).length (bytesV (p++[c]))) (hk5:KeepB pv' W4 W5) (hrow5:W5.ownsRow 0 5 1 pv' (p++[c]).length (bytesV (p++[c]))) (hj5:J' ys' W5) :
  WAt V D db iv yf bd ba by' bw B p pv J' w0 ys' W5:=by
 refine ⟨hwm4.kept hrow4 hk5,?_,⟨Nat.le_trans h.keep.1 (Nat.le_trans hmv.size hk5.1),fun k cs t r h1 h2 h3=>?_⟩,hj5,Nat.le_trans h.size (Nat.le_trans hmv.size hk5.1)⟩
 ·rcases hl with ⟨hb,_⟩ | ⟨hb,hg,_⟩
  ·refine hel W5 1 [.int .u8 c.toNat] hb ?_
   unfold bytesV at *
   rw [List.length_append,List.map_append] at hrow5
   exact hrow5
  ·have hne:∀ g,pv.ownBlock=some g→pv'.ownBlock≠some g:=fun g e e'=>by
    rw [hb] at e'
    have:=Option.some.inj e'
    have:=(h.row.lt g e).2
    omega
   refine ownsRow_typed h.row fun k cs r hk=>?_
   have hkl:=(Array.getElem?_eq_some_iff.1 hk).1
   have h4:W4.heap[k]?=Wb.heap[k]?:=(hg.block k (by omega) (by simp)).trans (hold k hkl)
   refine (hk5.2 k cs _ r (h4.trans hk) (by decide) fun e=>?_).trans h4
   rw [hb] at e
   have:=Option.some.inj e
   omega
 ·have hb0:=h.keep.2 k cs t r h1 h2 h3
  have hkl:k < Wb.heap.size:=(Array.getElem?_eq_some_iff.1 (hb0.trans h1)).1
  have h4:W4.heap[k]?=Wb.heap[k]?:=hmv.block hkl h3
  refine ((hk5.2 k cs t r (h4.trans (hb0.trans h1)) h2 fun e=>?_).trans h4).trans hb0
  rcases hmv.lies with hb | ⟨g,hb,hg⟩
  ·exact h3 (hb ▸ e)
  ·rw [hb] at e
   have:=Option.some.inj e
   omega
end
set_option maxRecDepth 100000 in
set_option maxHeartbeats 4000000 in
theorem walk_any {V:Value} {D:List DS} {db:Nat} {R:Nat→Prop} {Λ:Nat→List Word} {ρ:Nat→Nat} {iv:Value} {H:World→Prop} {ok:σ→Prop} {step:σ→UInt8→Option σ} {ends:σ→Bool} (hA:AutI ec H iv ok step ends)
  (hD:∀ i,R i → ∃ s,D[i]?=some s∧Asc s.edges∧s.below=(Λ i).length∧Λ i=wordsAt s.final s.edges Λ ∧ ∀ e∈s.edges,R e.2∧ρ e.2 < ρ i)
  (g:Nat) (lb:Array Value) (eg:∀ args w,(callFunc g args).run Tryz.prog w = .ok (.enter g args) w) (bd ba by' bw B:Nat) (J Jx:List (List UInt8 × Nat)→World→Prop) (F:List (List UInt8 × Nat))
  (hJ:∀ ys w w',J ys w→StepsB B w w'→J ys w')
  (hY:∀ ys t i w,J ys w→ys++[(t,i)] <+: F→Calls Tryz.prog g (#[strV t,intV i]++lb) w fun e w'=>KeepT w w'∧((e = .returned (.bool true)∧J (ys++[(t,i)]) w')∨(e = .returned (.bool false)∧Jx (ys++[(t,i)]) w'))) :
  ∀ (r k:Nat) (s:σ) (p:List UInt8) (pv:Value) (n:Nat) (ys:List (List UInt8 × Nat)) (w:World),ρ k < r→R k→ok s→WM V D db iv (.func (.func g) #[] lb) bd ba by' bw w →
   w.ownsRow 0 5 1 pv p.length (bytesV p)→Past B pv→B≤w.heap.size→H w→p.length+ρ k≤1000000→n+(Λ k).length≤1000000→J ys w →
   ys++pre p (hits (accA step ends s) (Λ k) n) <+: F →
  Calls Tryz.prog 242 #[intV k,.agg (ec s),pv,intV n,ptrV bd,ptrV ba,ptrV by',ptrV bw] w fun e w' =>
   KeepB pv w w'∧w'.ownsRow 0 5 1 pv p.length (bytesV p)∧w.heap.size≤w'.heap.size ∧
   ((e = .returned (.bool true)∧J (ys++pre p (hits (accA step ends s) (Λ k) n)) w')∨(e = .returned (.bool false) ∧ ∃ zs,zs <+: F∧Jx zs w')):=by
 obtain ⟨T,v,fE,fT,rE,rT,rfl,hmE,hmT,eE,eT,hcE,hcT⟩:=hA.ex
 intro r
 induction r using Nat.strongRecOn with
 | _ r ih =>
  intro k s p pv n ys w0 hr hRk hok hwm0 hrow0 hpast hB0 hH0 hp hn hj0 hF
  have IH:=Lib.hid ih
  have HD:=Lib.hid hD
  have HJ:=Lib.hid hJ
  have HY:=Lib.hid hY
  have HCE:=Lib.hid hcE
  have HCT:=Lib.hid hcT
  have HF:=Lib.hid hF
  have HA:=Lib.hid hA
  have HWM0:=Lib.hid hwm0
  have HROWZ:=Lib.hid hrow0
  have HH0:=Lib.hid hH0
  have HJ0:=Lib.hid hj0
  have HPAST:=Lib.hid hpast
  have HSZ:=Lib.hid (cells_info.trans (congrArg some (hA.size s hok).symm))
  clear ih hD hJ hY hcE hcT hF hA hwm0 hH0 hj0 hpast
  obtain ⟨ap,capp,hpv⟩:=ownsRow_form hrow0
  have HPV:=Lib.hid hpv
  clear hrow0 hpv
  unfold intV ptrV at *
  go_enter Tryz.func242,Tryz.ntmps242
  go_upto_region 1 with fail
  have hpre:KeepB pv w0 (w0.alloc (.cells (ec s) 404)):=(KeepT.alloc _ _).toB pv
  have hwm:=HWM0.out.kept HROWZ.out hpre
  have hrow:=(KeepT.alloc w0 (.cells (ec s) 404)).row (by decide) HROWZ.out
  have hB:B≤(w0.alloc (.cells (ec s) 404)).heap.size:=by simp; omega
  have hH:=HA.out.keep _ _ HH0.out (KeepT.alloc w0 (.cells (ec s) 404)).g
  have hj:=HJ.out _ _ _ HJ0.out (StepsB.alloc B w0 (.cells (ec s) 404))
  have hsb:(w0.alloc (.cells (ec s) 404)).heap[w0.heap.size]?=some (.cells (ec s) 404 (0,0)):=heap_alloc_new _ _
  generalize (w0.alloc (.cells (ec s) 404))=w at *
  have HPRZ:=Lib.hid hpre
  have HROW0:=Lib.hid hrow
  have HWM:=Lib.hid hwm
  have HH:=Lib.hid hH
  have HK:Hid (∀ wz,KeepG w wz→H wz):=Lib.hid fun wz hk=>HA.out.keep w wz HH.out hk
  have HSB:Hid (∀ wz,KeepG w wz→wz.heap[w0.heap.size]?=some (.cells (ec s) 404 (0,0))):=Lib.hid fun wz hk=>(hk _ _ _ _ hsb (by decide) (by decide)).trans hsb
  have HSB0:=Lib.hid hsb
  clear hwm hH hpre hsb HJ0 HH0 HWM0
  obtain ⟨sd,hsd,hasc,hbel,hwords,hedges⟩:=HD.out k hRk
  obtain ⟨gV,capV,hV,q0,q1,q2,qf1,qf2⟩:=HWM.out.rows.cells hsd
  have hkl:=(List.getElem?_eq_some_iff.1 hsd).1
  have c0:w.cell? ⟨bd,0,none⟩=some (.pointer (some ⟨db,0,none⟩)):=cell_block HWM.out.bxd
  have c1:w.cell? ⟨db,0,none⟩=some (.slice (some ⟨gV,0,none⟩) D.length capV):=by rw [← hV]; exact cell_block HWM.out.dct
  have c2:w.cell? ⟨ba,0,none⟩=some (.iface T v):=cell_block HWM.out.bxa
  have c3:w.cell? ⟨by',0,none⟩=some (.func (.func g) #[] lb):=cell_block HWM.out.bxy
  have c4:w.cell? ⟨bw,0,none⟩=some (.func (.func 242) #[] #[ptrV bd,ptrV ba,ptrV by',ptrV bw]):=cell_block HWM.out.bxw
  have z1:(0:Int)≤(k:Int)∧(k:Int) < (D.length:Int):=by omega
  have HV:=Lib.hid hV
  have HSD:=Lib.hid hsd
  have HBEL:=Lib.hid hbel
  have HWORDS:=Lib.hid hwords
  have HEDGES:=Lib.hid hedges
  clear hV hsd hbel hwords hedges
  have hat:WAt V D db (.iface T v) (.func (.func g) #[] lb) bd ba by' bw B p pv J w ys w:=⟨HWM.out,hrow,KeepB.refl _ _,hj,hB⟩
  have HAT:=Lib.hid hat
  have hP0:=partOf_zero step ends Λ sd.final sd.edges s p n
  have HP0:=Lib.hid hP0
  clear hat hrow hj hP0
  unfold ptrV at *
  obtain ⟨n1,hn1⟩:∃ n1:Nat,n1=n+(if sd.final then 1 else 0):=⟨_,rfl⟩
  have HN1:=Lib.hid hn1
  clear hn1
  go_upto_if 24 with (fail)
  go_cut [3] (fun n3 wy=>n3 = .int .i64 (n1:Int)∧Hid (WAt V D db (.iface T v) (.func (.func g) #[] lb) bd ba by' bw B p pv J w (ys++partOf step ends Λ sd.final sd.edges s p n 0) wy))
  case first =>
   cases hf:sd.final with
   | true =>
    cases he:ends s with
    | true =>
     have hp1:partOf step ends Λ sd.final sd.edges s p n 0=[(p,n)]:=by rw [HP0.out,hf,he]; rfl
     have hpre:ys++[(p,n)] <+: F:=by
      have h1:=HF.out
      rw [HWORDS.out,← partOf_all] at h1
      have h2:=partOf_prefix step ends Λ sd.final sd.edges s p n 0 (Nat.zero_le _)
      rw [hp1] at h2
      exact ((List.prefix_append_right_inj ys).2 h2).trans h1
     have HPRE:=Lib.hid hpre
     have HP1:=Lib.hid hp1
     clear hpre hp1
     go_wp2_with (refine wpList_load_row rfl 404 (.tmp 9) rfl w0.heap.size rfl _ _ (0,0) _ HSB0.out Tryz.underlying404 rfl HSZ.out ?_)
     refine (HCE.out s w HH.out hok).mono ?_
     rintro e w1 ⟨rfl,hS1⟩
     have hat1:=HAT.out.below HJ.out hS1
     have hcb:=conv_back hat1.row
     have c31:w1.cell? ⟨by',0,none⟩=some (.func (.func g) #[] lb):=cell_block hat1.wm.bxy
     have HAT1:=Lib.hid hat1
     rw [he]
     clear hat1 hS1 c0 c1 c2 c3 c4 q0 q1 q2 qf1 qf2
     go_wp2_with fail
     have hy:=HY.out ys p n w1 HAT1.out.j HPRE.out
     unfold strV at hy
     refine hy.mono ?_
     rintro e w2 ⟨hk2,⟨rfl,hj2⟩ | ⟨rfl,hj2⟩⟩
     ·have hat2:=HAT1.out.yields (J':=J) hk2 hj2
      rw [← HP1.out] at hat2
      have HAT2:=Lib.hid hat2
      clear hat2 hk2 hj2
      go_wp2_with fail
      go_meet
      exact ⟨by rw [HN1.out,hf]; rfl,HAT2⟩
     ·have hat2:=HAT1.out.yields (J':=Jx) hk2 hj2
      have HAT2:=Lib.hid hat2
      clear hat2 hk2 hj2
      go_wp2_with fail
      go_ret
      exact ⟨HPRZ.out.trans HAT2.out.keep,HAT2.out.row,Nat.le_trans HPRZ.out.1 HAT2.out.keep.1,.inr ⟨rfl,_,HPRE.out,HAT2.out.j⟩⟩
    | false =>
     have hp1:partOf step ends Λ sd.final sd.edges s p n 0=[]:=by rw [HP0.out,hf,he]; rfl
     have HP1:=Lib.hid hp1
     clear hp1
     go_wp2_with (refine wpList_load_row rfl 404 (.tmp 9) rfl w0.heap.size rfl _ _ (0,0) _ HSB0.out Tryz.underlying404 rfl HSZ.out ?_)
     refine (HCE.out s w HH.out hok).mono ?_
     rintro e w1 ⟨rfl,hS1⟩
     have HAT1:=Lib.hid (HAT.out.below HJ.out hS1)
     rw [he]
     clear hS1 c0 c1 c2 c3 c4 q0 q1 q2 qf1 qf2
     go_wp2_with fail
     go_meet
     exact ⟨by rw [HN1.out,hf]; rfl,Lib.hid (by rw [HP1.out,List.append_nil]; exact HAT1.out)⟩
   | false =>
    have hp1:partOf step ends Λ sd.final sd.edges s p n 0=[]:=by rw [HP0.out,hf]; rfl
    have HP1:=Lib.hid hp1
    clear hp1
    go_wp2_with fail
    go_meet
    exact ⟨by rw [HN1.out,hf]; rfl,Lib.hid (by rw [HP1.out,List.append_nil]; exact HAT.out)⟩
  case rest =>
   obtain ⟨rfl,HAT0⟩:=hcut
   clear c0 c1 c2 c3 c4 q0 q1 q2 qf1 qf2 HAT HWM HP0
   have srow:=HAT0.out.wm.rows.erow k _ HSD.out
   obtain ⟨a5,cap5,hv5⟩:=ownsRow_form srow
   obtain ⟨gV',capV',hV',q0,q1,q2,qf1,qf2⟩:=HAT0.out.wm.rows.cells HSD.out
   rw [HV.out] at hV'
   cases hV'
   rw [hv5] at q1
   have c0:wc.cell? ⟨bd,0,none⟩=some (.pointer (some ⟨db,0,none⟩)):=cell_block HAT0.out.wm.bxd
   have c1:wc.cell? ⟨db,0,none⟩=some (.slice (some ⟨gV,0,none⟩) D.length capV):=by rw [← HV.out]; exact cell_block HAT0.out.wm.dct
   have hwl:(if sd.final then 1 else 0)+(edgeWords Λ sd.edges).length=(Λ k).length:=by
    rw [HWORDS.out]
    unfold wordsAt edgeWords
    rw [List.length_append]
    congr 1
    split <;> rfl
   have HV5:=Lib.hid hv5
   have HWL:=Lib.hid hwl
   have hel:sd.edges.length≤256:=asc_few hasc
   clear srow hv5 hwl
   go_wp2_with fail
   clear c0 c1 q0 q1 q2 qf1 qf2
   go_loopw [3,47] (fun n3 i wz=>∃ j:Nat,j≤sd.edges.length∧i = .int .i64 j∧n3 = .int .i64 ((n1+(edgeWords Λ (sd.edges.take j)).length:Nat):Int) ∧
    Hid (WAt V D db (.iface T v) (.func (.func g) #[] lb) bd ba by' bw B p pv J w (ys++partOf step ends Λ sd.final sd.edges s p n j) wz)) (fun _ i _=>sd.edges.length - (intOf i).toNat)
   case atStart=>exact ⟨0,Nat.zero_le _,rfl,by simp [edgeWords],HAT0⟩
   case round =>
    obtain ⟨j,hj,rfl,rfl,HAT⟩:=hrel
    by_cases hjl:j < sd.edges.length
    ·obtain ⟨ch,t,hct⟩:∃ ch t,sd.edges[j]?=some (ch,t):=⟨_,_,List.getElem?_eq_getElem hjl⟩
     obtain ⟨g1,cap1',e1,ek0,ek1⟩:=HAT.out.wm.rows.edgeCells HSD.out hct
     rw [HV5.out] at e1
     simp only [Value.slice.injEq] at e1
     obtain ⟨rfl,_,rfl⟩:=e1
     obtain ⟨hRt,hρt⟩:=HEDGES.out (ch,t) (List.mem_of_getElem? hct)
     simp only at hRt hρt ek0 ek1
     unfold intV at ek1
     obtain ⟨sd2,hsd2,_,hbel2,_⟩:=HD.out t hRt
     have hps:=partOf_succ step ends Λ sd.final sd.edges s p n j hct
     have hew:edgeWords Λ (sd.edges.take (j+1))=edgeWords Λ (sd.edges.take j)++(Λ t).map (ch :: ·):=by
      have he:sd.edges[j]=(ch,t):=(List.getElem?_eq_some_iff.1 hct).2
      rw [List.take_succ_eq_append_getElem hjl,he,edgeWords_snoc]
     have hewl:(edgeWords Λ (sd.edges.take (j+1))).length=(edgeWords Λ (sd.edges.take j)).length+(Λ t).length:=by rw [hew]; simp
     have hewle:=edgeWords_le Λ sd.edges (j+1)
     have hnb:n1+(edgeWords Λ (sd.edges.take j)).length+(Λ t).length≤1000000:=by
      have h1:=HN1.out
      have h2:=HWL.out
      omega
     obtain ⟨ew,hewj⟩:∃ ew,ew=(edgeWords Λ (sd.edges.take j)).length:=⟨_,rfl⟩
     rw [← hewj] at hnb hewl ⊢
     have HEWJ:=Lib.hid hewj
     have HEWL:=Lib.hid hewl
     have HPS:=Lib.hid hps
     have HSD2:=Lib.hid hsd2
     have HBEL2:=Lib.hid hbel2
     have HCTE:=Lib.hid hct
     have c2:wr.cell? ⟨ba,0,none⟩=some (.iface T v):=cell_block HAT.out.wm.bxa
     have c2':(wr.alloc (.cells #[.int .u8 ch.toNat,.int .i64 t] 242)).cell? ⟨ba,0,none⟩=some (.iface T v):=(World.cell?_alloc_lt wr _ _ (lt_of_cell c2)).trans c2
     clear hps hew hewl hewle hewj hsd2 hbel2 hct
     have hsbr:=HSB.out _ ((HAT.out.alloc HJ.out (.cells #[.int .u8 ch.toNat,.int .i64 t] 242)).keep.g HROW0.out)
     have HSBR:=Lib.hid hsbr
     clear hsbr
     go_wp2_with (refine wpList_load_row rfl 404 (.tmp 9) rfl w0.heap.size rfl _ _ (0,0) _ HSBR.out Tryz.underlying404 rfl HSZ.out ?_)
     have hata:=HAT.out.alloc HJ.out (.cells #[.int .u8 ch.toNat,.int .i64 t] 242)
     have HATA:=Lib.hid hata
     clear hata ek0 ek1 c2 c2'
     refine (HCT.out s ch _ (HK.out _ (HATA.out.keep.g HROW0.out)) hok).mono ?_
     rintro e w1 ⟨⟨s',rfl,hsz1,hone1,hs'⟩,hS1⟩
     have HSZ1:=Lib.hid (cells_info.trans (congrArg some hsz1.symm))
     have HSZL:=Lib.hid hsz1
     have HONE:=Lib.hid hone1
     clear hsz1 hone1 HSBR
     go_upto_region 9 with (refine wpList_store_row rfl 404 (.tmp 15) (.tmp 57) rfl w1.heap.size (ec s') rfl rfl 404 _ (heap_alloc_new w1 _) HSZ1.out (by first | exact zeroRows_size.trans HSZL.out.symm | exact HSZL.out.symm) HONE.out ?_)
     rw [World.setRow_alloc_new]
     have hS2:Below (wr.alloc (.cells #[.int .u8 ch.toNat,.int .i64 t] 242)).heap.size (wr.alloc (.cells #[.int .u8 ch.toNat,.int .i64 t] 242)) (w1.alloc (.cells (ec s') 404)):=hS1.alloc hS1.size _
     have hbt:(w1.alloc (.cells (ec s') 404)).heap[w1.heap.size]?=some (.cells (ec s') 404 (0,0)):=heap_alloc_new _ _
     clear hS1
     generalize (w1.alloc (.cells (ec s') 404))=W1 at *
     generalize w1.heap.size=bt at *
     have HBT:=Lib.hid hbt
     have hbtl:=lt_of_heap hbt
     clear hbt
     have hat1:=HATA.out.below HJ.out hS2
     have heb:W1.heap[wr.heap.size]?=some (.cells #[.int .u8 ch.toNat,.int .i64 t] 242 (0,0)):=by
      exact (hS2.block _ (by simp)).trans (heap_alloc_new wr _)
     have ce0:W1.cell? ⟨wr.heap.size,0,none⟩=some (.int .u8 ch.toNat):=cell_block heb
     have ce1:W1.cell? ⟨wr.heap.size,1,none⟩=some (.int .i64 t):=cell_block heb
     have cbw:W1.cell? ⟨bw,0,none⟩=some (.func (.func 242) #[] #[ptrV bd,ptrV ba,ptrV by',ptrV bw]):=cell_block hat1.wm.bxw
     unfold ptrV at cbw
     have HAT1:=Lib.hid hat1
     have HEB:=Lib.hid heb
     clear hat1 heb HATA
     cases hst:step s ch with
     | none =>
      have hps0:=HPS.out
      rw [hst] at hps0
      simp only [List.append_nil] at hps0
      have HPS0:=Lib.hid hps0
      clear hps0 hs' hst
      refine wp_region_ord [(0,false),(1,false),(2,false),(3,false),(4,false),(5,false),(6,false),(7,false),(8,false),(11,false),(9,true),(10,true),(12,true),(13,false),(14,false)]
       (fun w'=>w'.cell? ⟨bw,0,none⟩=some (.func (.func 242) #[] #[.pointer (some ⟨bd,0,none⟩),.pointer (some ⟨ba,0,none⟩),.pointer (some ⟨by',0,none⟩),.pointer (some ⟨bw,0,none⟩)])∧w'.cell? ⟨wr.heap.size,0,none⟩=some (.int .u8 ch.toNat)∧w'.cell? ⟨wr.heap.size,1,none⟩=some (.int .i64 t)) (by kernel_rfl) (by kernel_rfl) ⟨cbw,ce0,ce1⟩ ?_
      iterate 2 (
       refine wpOrd_quiet ?_ rfl rfl (fun w' hS=>?_) ?_
       rotate_left
       ·go_simp
        first | rfl | done
       simp only [put_lit,List.set_cons_succ,List.set_cons_zero])
      iterate 8 (
       refine wpOrd_skip rfl rfl ?_
       simp only [put_lit,List.set_cons_succ,List.set_cons_zero])
      iterate 3 (
       refine wpOrd_skipT rfl rfl ?_
       simp only [put_lit,List.set_cons_succ,List.set_cons_zero])
      refine wpOrd_skip rfl rfl ?_
      simp only [put_lit,List.set_cons_succ,List.set_cons_zero]
      refine wpOrd_quiet ?_ rfl rfl (fun w' hS=>?_) ?_
      rotate_left
      ·go_simp
       first | rfl | done
      simp only [put_lit,List.set_cons_succ,List.set_cons_zero]
      refine wpOrd_nil ?_
      go_wp2_with fail
      have hatx:=HAT1.out.same HJ.out (Same.drew W1)
      rw [← HPS0.out] at hatx
      have ce1x:W1.drew.cell? ⟨wr.heap.size,1,none⟩=some (.int .i64 t):=ce1
      clear HAT1 ce0 ce1 cbw HEB
      generalize W1.drew=wx at *
      have HATX:=Lib.hid hatx
      clear hatx
      obtain ⟨gV2,capV2,hV2,_,_,p2,_,_⟩:=HATX.out.wm.rows.cells HSD2.out
      rw [HV.out] at hV2
      simp only [Value.slice.injEq,Option.some.injEq,Addr.mk.injEq] at hV2
      obtain ⟨⟨rfl,_⟩,_,rfl⟩:=hV2
      unfold intV at p2
      rw [HBEL2.out] at p2
      have d0:=cell_block (i:=0) HATX.out.wm.bxd
      have d1:=cell_block (i:=0) HATX.out.wm.dct
      rw [HV.out] at d1
      unfold ptrV at d0
      have htl:t < D.length:=(List.getElem?_eq_some_iff.1 HSD2.out).1
      have y1:(0:Int)≤(t:Int)∧(t:Int) < (D.length:Int):=by omega
      obtain ⟨ln,hln⟩:∃ ln,ln=(Λ t).length:=⟨_,rfl⟩
      rw [← hln] at p2 hnb
      have HLN:=Lib.hid hln
      have y2:IntKind.i64.wrap (((n1+ew:Nat):Int)+(ln:Int))=((n1+ew:Nat):Int)+(ln:Int):=IntWalk.i64_in _ (by omega)
      clear hln
      go_quiet (fail)
      go_wp2_with fail
      have hnx:(edgeWords Λ (sd.edges.take (j+1))).length=ew+ln:=by rw [HEWL.out,HLN.out]
      have HNX:=Lib.hid hnx
      clear hnx
      go_roundw
      case rel =>
       exact ⟨j+1,by omega,by go_num,congrArg (Value.int .i64) (by have:=HNX.out; omega),Lib.hid (HATX.out.same HJ.out (Same.drewN _ _))⟩
      case measure=>(simp [intOf]) <;> omega
     | some s2 =>
      obtain rfl:=hs' s2 hst
      have hok2:=HA.out.next s ch s' hok hst
      have hps1:partOf step ends Λ sd.final sd.edges s p n (j+1)=partOf step ends Λ sd.final sd.edges s p n j++pre (p++[ch]) (hits (accA step ends s') (Λ t) (n1+ew)):=by
       have h1:=HPS.out
       rw [hst] at h1
       simp only at h1
       rw [h1,HN1.out,HEWJ.out]
      have hpf:(ys++partOf step ends Λ sd.final sd.edges s p n j)++pre (p++[ch]) (hits (accA step ends s') (Λ t) (n1+ew)) <+: F:=by
       rw [List.append_assoc,← hps1]
       have h1:=HF.out
       rw [HWORDS.out,← partOf_all] at h1
       exact ((List.prefix_append_right_inj ys).2 (partOf_prefix step ends Λ sd.final sd.edges s p n (j+1) hjl)).trans h1
      have HPS1:=Lib.hid hps1
      have HPF:=Lib.hid hpf
      clear hps1 hpf hs' hst
      refine wp_region_ord [(0,false),(1,false),(2,false),(3,false),(4,false),(5,false),(6,false),(7,false),(8,false),(11,false),(9,true),(10,true),(12,true),(13,false),(14,false)]
       (fun w'=>w'.cell? ⟨bw,0,none⟩=some (.func (.func 242) #[] #[.pointer (some ⟨bd,0,none⟩),.pointer (some ⟨ba,0,none⟩),.pointer (some ⟨by',0,none⟩),.pointer (some ⟨bw,0,none⟩)])∧w'.cell? ⟨wr.heap.size,0,none⟩=some (.int .u8 ch.toNat)∧w'.cell? ⟨wr.heap.size,1,none⟩=some (.int .i64 t)∧w'.heap[bt]?=some (.cells (ec s') 404 (0,0))) (by kernel_rfl) (by kernel_rfl) ⟨cbw,ce0,ce1,HBT.out⟩ ?_
      iterate 5 (
       refine wpOrd_quiet ?_ rfl rfl (fun w' hS=>?_) ?_
       rotate_left
       ·obtain ⟨f0,f1,f2,_⟩:=hS
        go_simp
        first | rfl | done
       simp only [put_lit,List.set_cons_succ,List.set_cons_zero])
      refine wpOrd_row 404 (.tmp 15) bt _ _ (0,0) _ rfl rfl rfl rfl (fun w' hS=>hS.2.2.2) Tryz.underlying404 rfl HSZ1.out ?_
      simp only [put_lit,List.set_cons_succ,List.set_cons_zero]
      iterate 4 (
       refine wpOrd_quiet ?_ rfl rfl (fun w' hS=>?_) ?_
       rotate_left
       ·obtain ⟨f0,f1,f2,_⟩:=hS
        go_simp
        first | rfl | done
       simp only [put_lit,List.set_cons_succ,List.set_cons_zero])
      refine wpOrd_loud rfl rfl (by decide) (fun K5 hK5=>?_)
      go_simp
      have hbwl:=lt_of_cell cbw
      have hebl:=lt_of_cell ce0
      refine hK5 _ _ ⟨(World.cell?_alloc_lt W1 _ _ hbwl).trans cbw,(World.cell?_alloc_lt W1 _ _ hebl).trans ce0,(World.cell?_alloc_lt W1 _ _ hebl).trans ce1,(Below.heap_alloc W1 _ _ hbtl).trans HBT.out⟩ ?_
      clear hK5 K5
      refine wpOrd_loud rfl rfl (by decide) (fun K5 hK5=>?_)
      obtain ⟨i0,hi,hz0,hz1,hz2⟩:=info_parts Tryz.info5
      have hrowc:((W1.alloc (.cells #[.int .u8 ch.toNat] 5)).drew).ownsRow 0 5 1 pv p.length (bytesV p):=(HAT1.out.row.alloc _).drew
      refine wp_append_elder _ _ 42 rfl 5 i0 (.int .u8 0) 1 1 Tryz.underlying42 hi hz0 hz1 hz2 rfl (by decide) pv p.length (bytesV p) rfl hrowc ⟨W1.heap.size,0,none⟩ 1 1 [.int .u8 ch.toNat] rfl rfl (cell_one_new W1 _ _)
       (by simp [Value.oneCell']) (by decide) (by unfold maxLen; omega) (by omega) ?_
      intro pv' W4 hrow4 hgrow4 hlies4 hel4
      have hmv:Moves W1 pv W4 pv':=((Moves.alloc W1 _ _).trans (Moves.same _ (Same.drew _))).trans (Moves.append hgrow4 hlies4)
      obtain ⟨hwm4,hrow4',hp4,hB4,hj4⟩:=HAT1.out.grow HJ.out HPAST.out hmv hrow4
      have hpe:pv.ownBlock≠some wr.heap.size:=fun e=>by
       have:=(HAT.out.row.lt _ e).2
       omega
      have heb4:W4.heap[wr.heap.size]?=some (.cells #[.int .u8 ch.toNat,.int .i64 t] 242 (0,0)):=(hmv.block hebl hpe).trans HEB.out
      have cbw4:W4.cell? ⟨bw,0,none⟩=some (.func (.func 242) #[] #[ptrV bd,ptrV ba,ptrV by',ptrV bw]):=cell_block hwm4.bxw
      unfold ptrV at cbw4
      have hpbt:pv.ownBlock≠some bt:=fun e=>by
       obtain ⟨cur,hcur⟩:=ownsRow_cells4 HAT1.out.row e
       have h:=HBT.out
       rw [h] at hcur
       cases hcur
      have hbt4:W4.heap[bt]?=some (.cells (ec s') 404 (0,0)):=(hmv.block hbtl hpbt).trans HBT.out
      refine hK5 _ _ ⟨cbw4,cell_block heb4,cell_block heb4,hbt4⟩ ?_
      clear hK5 K5
      simp only [put_lit,List.set_cons_succ,List.set_cons_zero]
      refine wpOrd_loud rfl rfl (by decide) (fun K5 hK5=>?_)
      have hne4:pv'.ownBlock≠some wr.heap.size:=fun e=>by
       obtain ⟨cur,hcur⟩:=ownsRow_cells4 hrow4' e
       rw [heb4] at hcur
       cases hcur
      have hneb:pv'.ownBlock≠some bt:=fun e=>by
       obtain ⟨cur,hcur⟩:=ownsRow_cells4 hrow4' e
       rw [hbt4] at hcur
       cases hcur
      have HBT4:=Lib.hid hbt4
      have HGROW:=Lib.hid hgrow4
      have HLIES:=Lib.hid hlies4
      have HEL:=Lib.hid hel4
      have HMV:=Lib.hid hmv
      have HWM4:=Lib.hid hwm4
      have HROW4:=Lib.hid hrow4'
      have HEB4:=Lib.hid heb4
      clear hbt4 hgrow4 hlies4 hel4 hmv hrow4 hrowc heb4 cbw4 ce0 ce1 cbw
      go_simp
      have hih:=IH.out (ρ k) hr t s' (p++[ch]) pv' (n1+ew) (ys++partOf step ends Λ sd.final sd.edges s p n j) W4 hρt hRt hok2 HWM4.out HROW4.out hp4 hB4 (HK.out _ ((HAT1.out.keep.trans (KeepB.moves HMV.out)).g HROW0.out)) (by rw [List.length_append,List.length_singleton]; omega) hnb hj4 HPF.out
      have ecast:((n1+ew:Nat):Int)=(n1:Int)+(ew:Int):=by omega
      rw [ecast] at hih
      refine hih.mono ?_
      clear hih ecast
      rintro e W5 ⟨hk5,hrow5,hsz5,hres⟩
      have cbw5:∀ W,WM V D db (.iface T v) (.func (.func g) #[] lb) bd ba by' bw W→W.cell? ⟨bw,0,none⟩=some (.func (.func 242) #[] #[.pointer (some ⟨bd,0,none⟩),.pointer (some ⟨ba,0,none⟩),.pointer (some ⟨by',0,none⟩),.pointer (some ⟨bw,0,none⟩)]):=fun W h=>cell_block h.bxw
      have heb5:W5.heap[wr.heap.size]?=some (.cells #[.int .u8 ch.toNat,.int .i64 t] 242 (0,0)):=(hk5.2 _ _ _ _ HEB4.out (by decide) hne4).trans HEB4.out
      have hcs:W1.heap.size≤((W1.alloc (.cells #[.int .u8 ch.toNat] 5)).drew).heap.size:=by simp
      rcases hres with ⟨rfl,hj5⟩ | ⟨rfl,zs,hzs,hj5⟩
      ·rw [List.append_assoc,← HPS1.out] at hj5
       have hat5:=HAT1.out.back (J':=J) HMV.out hcs (fun k hk=>Below.heap_alloc W1 _ k hk) HLIES.out HEL.out HWM4.out HROW4.out hk5 hrow5 hj5
       refine hK5 _ _ ⟨cbw5 W5 hat5.wm,cell_block heb5,cell_block heb5,(hk5.2 _ _ _ _ HBT4.out (by decide) hneb).trans HBT4.out⟩ ?_
       clear hK5 K5
       have ce1x:W5.cell? ⟨wr.heap.size,1,none⟩=some (.int .i64 t):=cell_block heb5
       have HATX:=Lib.hid hat5
       clear hat5 hk5 hrow5 hsz5 hj5 cbw5 heb5 HAT1 HMV HLIES HEL HWM4 HROW4 HEB4 hj4 HGROW hwm4
       iterate 2 (
        refine wpOrd_quiet ?_ rfl rfl (fun w' hS=>?_) ?_
        rotate_left
        ·go_simp
         first | rfl | done
        simp only [put_lit,List.set_cons_succ,List.set_cons_zero])
       refine wpOrd_nil ?_
       go_wp2_with fail
       obtain ⟨gV2,capV2,hV2,_,_,p2,_,_⟩:=HATX.out.wm.rows.cells HSD2.out
       rw [HV.out] at hV2
       simp only [Value.slice.injEq,Option.some.injEq,Addr.mk.injEq] at hV2
       obtain ⟨⟨rfl,_⟩,_,rfl⟩:=hV2
       unfold intV at p2
       rw [HBEL2.out] at p2
       have d0:=cell_block (i:=0) HATX.out.wm.bxd
       have d1:=cell_block (i:=0) HATX.out.wm.dct
       rw [HV.out] at d1
       unfold ptrV at d0
       have htl:t < D.length:=(List.getElem?_eq_some_iff.1 HSD2.out).1
       have y1:(0:Int)≤(t:Int)∧(t:Int) < (D.length:Int):=by omega
       obtain ⟨ln,hln⟩:∃ ln,ln=(Λ t).length:=⟨_,rfl⟩
       rw [← hln] at p2 hnb
       have HLN:=Lib.hid hln
       have y2:IntKind.i64.wrap (((n1+ew:Nat):Int)+(ln:Int))=((n1+ew:Nat):Int)+(ln:Int):=IntWalk.i64_in _ (by omega)
       clear hln
       go_quiet (fail)
       go_wp2_with fail
       have hnx:(edgeWords Λ (sd.edges.take (j+1))).length=ew+ln:=by rw [HEWL.out,HLN.out]
       have HNX:=Lib.hid hnx
       clear hnx
       go_roundw
       case rel =>
        exact ⟨j+1,by omega,by go_num,congrArg (Value.int .i64) (by have:=HNX.out; omega),Lib.hid (HATX.out.same HJ.out (Same.drewN _ _))⟩
       case measure=>(simp [intOf]) <;> omega
      ·have hat5:=HAT1.out.back (J':=fun _ W=>Jx zs W) (ys':=[]) HMV.out hcs (fun k hk=>Below.heap_alloc W1 _ k hk) HLIES.out HEL.out HWM4.out HROW4.out hk5 hrow5 hj5
       refine hK5 _ _ ⟨cbw5 W5 hat5.wm,cell_block heb5,cell_block heb5,(hk5.2 _ _ _ _ HBT4.out (by decide) hneb).trans HBT4.out⟩ ?_
       clear hK5 K5
       have HATX:=Lib.hid hat5
       clear hat5 hk5 hrow5 hsz5 hj5 cbw5 heb5 HAT1 HMV HLIES HEL HWM4 HROW4 HEB4 hj4 HGROW hwm4
       iterate 2 (
        refine wpOrd_quiet ?_ rfl rfl (fun w' hS=>?_) ?_
        rotate_left
        ·go_simp
         first | rfl | done
        simp only [put_lit,List.set_cons_succ,List.set_cons_zero])
       refine wpOrd_nil ?_
       go_wp2_with fail
       go_ret
       exact ⟨HPRZ.out.trans HATX.out.keep,HATX.out.row,Nat.le_trans HPRZ.out.1 HATX.out.keep.1,.inr ⟨rfl,zs,hzs,HATX.out.j⟩⟩
    ·obtain rfl:j=sd.edges.length:=by omega
     have hfin:Hid (J (ys++pre p (hits (accA step ends s) (Λ k) n)) wr):=Lib.hid (by
      rw [HWORDS.out,← partOf_all]
      exact HAT.out.j)
     go_wp2_with fail
     go_ret
     exact ⟨HPRZ.out.trans HAT.out.keep,HAT.out.row,Nat.le_trans HPRZ.out.1 HAT.out.keep.1,.inl ⟨rfl,hfin.out⟩⟩
end Go.Proofs.Ts.B
namespace Go.Proofs.Ts.B
open Go Go.RowKit Go.Proofs.Ts
variable {σ:Type} {ec:σ→Array Value}
def AutS (ec : σ → Array Value) (H : World → Prop) (iv : Value) (s0 : σ) : Prop := ∃ T v fS rS, iv = .iface T v ∧ (∀ fu w, (method (fu + 1) T v "Start").run Tryz.prog w = .ok (fS, rS) w) ∧ (∀ args w, (callFunc fS args).run Tryz.prog w = .ok (.enter fS args) w) ∧
 ∀ w,H w→Calls Tryz.prog fS #[rS] w fun e w'=>e = .returned (.agg (ec s0))∧Below w.heap.size w w'
theorem over_make (iv:Value) (w:World) (hiv:∃ T v,iv = .iface T v) :
  Calls Tryz.prog 209 #[iv] w fun e w'=>e = .returned (.func (.func 241) #[] #[ptrV w.heap.size])∧w'=w.alloc (.cells #[iv] 440):=by
 have hmf:∀ (fn:Fn) (first cap:Array Value) (w:World),(Instr.makeFunc fn first cap).run Tryz.prog w = .ok (.func fn first cap) w:=fun _ _ _ _=>rfl
 obtain ⟨T,v,rfl⟩:=hiv
 go_enter Tryz.func209,Tryz.ntmps209
 go_wp2
 go_ret
 exact ⟨rfl,rfl⟩
def walkFn (bd ba by' bw:Nat):Value := .func (.func 242) #[] #[.pointer (some ⟨bd,0,none⟩),.pointer (some ⟨ba,0,none⟩),.pointer (some ⟨by',0,none⟩),.pointer (some ⟨bw,0,none⟩)]
def overStart (w:World) (db g:Nat) (lb:Array Value) (ba:Nat):World :=
 ((w.alloc (.cells #[.pointer (some ⟨db,0,none⟩)] 158)).alloc (.cells #[.func (.func g) #[] lb] 249)).alloc (.cells #[walkFn w.heap.size ba (w.heap.size+1) (w.heap.size+1+1)] 441)
theorem overStart_old (w:World) (db g:Nat) (lb:Array Value) (ba j:Nat) (h:j < w.heap.size):(overStart w db g lb ba).heap[j]?=w.heap[j]?:=by
 unfold overStart
 rw [Below.heap_alloc _ _ _ (by simp; omega),Below.heap_alloc _ _ _ (by simp; omega),Below.heap_alloc _ _ _ h]
theorem overStart_size (w:World) (db g:Nat) (lb:Array Value) (ba:Nat):(overStart w db g lb ba).heap.size=w.heap.size+3:=by unfold overStart; simp
theorem overStart_keep (w:World) (db g:Nat) (lb:Array Value) (ba:Nat):KeepT w (overStart w db g lb ba):=((KeepT.alloc _ _).trans (KeepT.alloc _ _)).trans (KeepT.alloc _ _)
theorem overStart_steps (w:World) (db g:Nat) (lb:Array Value) (ba B:Nat):StepsB B w (overStart w db g lb ba):=((StepsB.alloc _ _ _).trans (StepsB.alloc _ _ _)).trans (StepsB.alloc _ _ _)
theorem overStart_wm {w:World} {db g:Nat} {lb:Array Value} {ba:Nat} {V iv:Value} {D:List DS} (h1:w.heap[db]?=some (.cells #[V] 172 (0,0))) (h2:RowsIn 0 w V D) (h3:w.heap[ba]?=some (.cells #[iv] 440 (0,0))) :
  WM V D db iv (.func (.func g) #[] lb) w.heap.size ba (w.heap.size+1) (w.heap.size+1+1) (overStart w db g lb ba):=by
 have l1:=(Array.getElem?_eq_some_iff.1 h1).1
 have l3:=(Array.getElem?_eq_some_iff.1 h3).1
 refine ⟨(overStart_old w db g lb ba _ l1).trans h1,h2.cellsKept fun k cs t r hk _=>overStart_old w db g lb ba k (Array.getElem?_eq_some_iff.1 hk).1,?_,(overStart_old w db g lb ba _ l3).trans h3,?_,?_⟩
 ·unfold overStart
  rw [Below.heap_alloc _ _ _ (by simp; omega),Below.heap_alloc _ _ _ (by simp)]
  exact heap_alloc_new w _
 ·unfold overStart
  rw [Below.heap_alloc _ _ _ (by simp)]
  have:=heap_alloc_new (w.alloc (.cells #[.pointer (some ⟨db,0,none⟩)] 158)) (.cells #[.func (.func g) #[] lb] 249)
  simpa using this
 ·unfold overStart
  have:=heap_alloc_new ((w.alloc (.cells #[.pointer (some ⟨db,0,none⟩)] 158)).alloc (.cells #[.func (.func g) #[] lb] 249)) (.cells #[walkFn w.heap.size ba (w.heap.size+1) (w.heap.size+1+1)] 441)
  unfold walkFn at *
  unfold ptrV
  simpa using this
set_option maxRecDepth 100000 in
set_option maxHeartbeats 2000000 in
theorem over_any {db:Nat} {R:Nat→Prop} {Λ:Nat→List Word} {ρ:Nat→Nat} {D:List DS} {iv:Value} {H:World→Prop} {ok:σ→Prop} {step:σ→UInt8→Option σ} {ends:σ→Bool} {s0:σ} (hA:AutI ec H iv ok step ends) (hS0:AutS ec H iv s0) (hok0:ok s0)
  (g:Nat) (lb:Array Value) (eg:∀ args w,(callFunc g args).run Tryz.prog w = .ok (.enter g args) w) (ba:Nat) (w:World) (hH:H w) (hdi:DictIs w db R Λ ρ D) (hlen:(Λ 0).length≤1000000) (hba:w.heap[ba]?=some (.cells #[iv] 440 (0,0)))
  (J Jx:List (List UInt8 × Nat)→World→Prop) (hJ:∀ ys w1 w',J ys w1→StepsB w.heap.size w1 w'→J ys w')
  (hY:∀ ys t i w1,J ys w1→ys++[(t,i)] <+: hits (accA step ends s0) (Λ 0) 0→Calls Tryz.prog g (#[strV t,intV i]++lb) w1 fun e w'=>KeepT w1 w'∧((e = .returned (.bool true)∧J (ys++[(t,i)]) w')∨(e = .returned (.bool false)∧Jx (ys++[(t,i)]) w')))
  (hj0:J [] w) :
  Calls Tryz.prog 241 #[ptrV db,.func (.func g) #[] lb,ptrV ba] w fun e w'=>e = .returned (.tuple #[])∧KeepT w w' ∧
   (J (hits (accA step ends s0) (Λ 0) 0) w' ∨ ∃ zs,zs <+: hits (accA step ends s0) (Λ 0) 0∧Jx zs w'):=by
 have hmf:∀ (fn:Fn) (first cap:Array Value) (w:World),(Instr.makeFunc fn first cap).run Tryz.prog w = .ok (.func fn first cap) w:=fun _ _ _ _=>rfl
 obtain ⟨T,v,fS,rS,rfl,hmS,eS,hcS⟩:=hS0
 obtain ⟨V,hdct,hrows⟩:=hdi.mem
 have hbal:=(Array.getElem?_eq_some_iff.1 hba).1
 have HDI:=Lib.hid hdi
 have HROWS:=Lib.hid hrows
 have HDCT:=Lib.hid hdct
 have HBA:=Lib.hid hba
 have HJ:=Lib.hid hJ
 have HY:=Lib.hid hY
 have HCS:=Lib.hid hcS
 have HJ0:=Lib.hid hj0
 have HK:Hid (∀ wz,KeepG w wz→H wz):=Lib.hid fun wz hk=>hA.keep w wz hH hk
 clear hH hdi hrows hdct hba hJ hY hcS hj0
 unfold ptrV
 go_enter Tryz.func241,Tryz.ntmps241
 go_wp2_with fail
 have hwm:=overStart_wm (g:=g) (lb:=lb) HDCT.out HROWS.out HBA.out
 have hks:=overStart_keep w db g lb ba
 have hst:=overStart_steps w db g lb ba w.heap.size
 have hsz:=overStart_size w db g lb ba
 have hj1:=HJ.out _ _ _ HJ0.out hst
 have hW:(((w.alloc (.cells #[.pointer (some ⟨db,0,none⟩)] 158)).alloc (.cells #[.func (.func g) #[] lb] 249)).alloc (.cells #[.func (.func 242) #[] #[.pointer (some ⟨w.heap.size,0,none⟩),.pointer (some ⟨ba,0,none⟩),.pointer (some ⟨w.heap.size+1,0,none⟩),.pointer (some ⟨w.heap.size+1+1,0,none⟩)]] 441))=overStart w db g lb ba:=rfl
 rw [hW]
 clear hW
 generalize overStart w db g lb ba=W3 at *
 have c1:W3.cell? ⟨w.heap.size+1+1,0,none⟩=some (walkFn w.heap.size ba (w.heap.size+1) (w.heap.size+1+1)):=cell_block hwm.bxw
 have c2:W3.cell? ⟨ba,0,none⟩=some (.iface T v):=cell_block hwm.bxa
 have HWM:=Lib.hid hwm
 have HKS:=Lib.hid hks
 have HJ1:=Lib.hid hj1
 clear hwm hks hst hj1
 unfold walkFn at c1
 have c1':=c1
 have c2':=c2
 refine wp_region_ord [(0,false),(1,false),(2,true),(3,true)] (fun w'=>w'.cell? ⟨w.heap.size+1+1,0,none⟩=some (.func (.func 242) #[] #[.pointer (some ⟨w.heap.size,0,none⟩),.pointer (some ⟨ba,0,none⟩),.pointer (some ⟨w.heap.size+1,0,none⟩),.pointer (some ⟨w.heap.size+1+1,0,none⟩)]) ∧
  w'.cell? ⟨ba,0,none⟩=some (.iface T v)) (by kernel_rfl) (by kernel_rfl) ⟨c1,c2⟩ ?_
 iterate 2 (
  refine wpOrd_quiet ?_ rfl rfl (fun w' hS=>?_) ?_
  rotate_left
  ·obtain ⟨d1,d2⟩:=hS
   go_simp
   first | rfl | done
  simp only [put_lit,List.set_cons_succ,List.set_cons_zero])
 refine wpOrd_loud rfl rfl (by decide) (fun K5 hK5=>?_)
 go_simp
 refine (HCS.out _ (HK.out _ (HKS.out.g.trans (KeepG.below (show Below W3.heap.size W3 W3.drew from (Below.refl _ _).drew))))).mono ?_
 rintro e w1 ⟨rfl,hS1⟩
 have hS:Below W3.heap.size W3 w1:=(show Below W3.heap.size W3 W3.drew from (Below.refl _ _).drew).trans hS1
 refine hK5 _ _ ⟨(hS.cell (p:=⟨_,_,none⟩) (lt_of_cell c1)).trans c1,(hS.cell (p:=⟨_,_,none⟩) (lt_of_cell c2)).trans c2⟩ ?_
 clear hK5 K5
 refine wpOrd_loud rfl rfl (by decide) (fun K5 hK5=>?_)
 go_simp
 have hwm1:=HWM.out.kept (v := .slice none 0 0) (World.ownsRow_nil _ _ _ _:W3.ownsRow 0 5 1 (.slice none 0 0) 0 []) ((KeepT.below hS).toB _)
 have hst0:=HDI.out.state
 have hroot:=HDI.out.root
 have hrun:=walk_any hA hst0 g lb eg w.heap.size ba (w.heap.size+1) (w.heap.size+1+1) w.heap.size J Jx (hits (accA step ends s0) (Λ 0) 0) HJ.out HY.out (ρ 0+1) 0 s0 [] (.slice none 0 0) 0 [] w1 (Nat.lt_succ_self _) hroot.1 hok0 hwm1
  (World.ownsRow_nil _ _ _ _) (fun k e=>by cases e) (by have:=hS.size; omega) (HK.out _ (HKS.out.g.trans (KeepG.below hS))) (by simpa using hroot.2) (by omega) (HJ.out _ _ _ HJ1.out (StepsB.below hS)) (by rw [List.nil_append,pre_nil]; exact List.prefix_refl _)
 unfold intV ptrV at hrun
 refine hrun.mono ?_
 rintro e W5 ⟨hk5,_,_,hres⟩
 have hkt:KeepT w W5:=HKS.out.trans ((KeepT.below hS).trans ⟨hk5.1,fun k cs t r h1 h2=>hk5.2 k cs t r h1 h2 (fun e=>by cases e)⟩)
 rw [List.nil_append,pre_nil] at hres
 have hk1:KeepT W3 W5:=(KeepT.below hS).trans ⟨hk5.1,fun k cs t r h1 h2=>hk5.2 k cs t r h1 h2 (fun e=>by cases e)⟩
 have d1:W5.cell? ⟨w.heap.size+1+1,0,none⟩=_:=cell_block ((hk1.2 _ _ _ _ HWM.out.bxw (by decide)).trans HWM.out.bxw)
 have d2:W5.cell? ⟨ba,0,none⟩=_:=cell_block ((hk1.2 _ _ _ _ HWM.out.bxa (by decide)).trans HWM.out.bxa)
 have hd:_∧_:=⟨d1,d2⟩
 have HKT:=Lib.hid hkt
 clear hrun hk5 hkt hwm1 hst0 hroot
 rcases hres with ⟨rfl,hj5⟩ | ⟨rfl,zs,hzs,hj5⟩
 ·have HJ5:=Lib.hid hj5
  clear hj5
  refine hK5 _ _ hd ?_
  clear hK5 K5 hd d1 d2
  refine wpOrd_nil ?_
  go_wp2_with fail
  refine bodyPost_end (results_none rfl _ _ _) rfl ?_
  exact ⟨rfl,HKT.out,.inl HJ5.out⟩
 ·have HJ5:=Lib.hid hj5
  clear hj5
  refine hK5 _ _ hd ?_
  clear hK5 K5 hd d1 d2
  refine wpOrd_nil ?_
  go_wp2_with fail
  refine bodyPost_end (results_none rfl _ _ _) rfl ?_
  exact ⟨rfl,HKT.out,.inr ⟨zs,hzs,HJ5.out⟩⟩
end Go.Proofs.Ts.B
