/- Lemmas towards the statement Written of termsearch: walks of the program's functions and plain laws on lists (TsFields, TsIterA, TsIter, TsRange, TsPosts). Conditions: those that each theorem names. -/
import Derived.Test.YtffjomnnkilhgaaGreatDoorWrittenPB
import Derived.Shelf.GgClosure.GivesRunes
import Derived.Test.YtffjomnnkilhgaaGreatDoorWrittenPA
import Derived.RangeFuncNested
import Derived.RangeFuncBound
import Derived.RangeFuncCalls
import Derived.RangeFuncLeaves
import Derived.Shelf.Abstract
import Derived.Shelf.RegionOpen
import Derived.OwnWalkIn
import Derived.TacticsInMore
import Derived.LoopNIn
import Derived.LoopIn
import Derived.Laws.IdiomStrings
import Derived.Test.YtffjomnnkilhgaaGreatDoorShelf
import Derived.Maps.RangeRun
import Derived.Below
set_option linter.unusedVariables false
set_option linter.unusedSimpArgs false
set_option linter.unusedSectionVars false
namespace Go.Proofs.Ts
open Go
def blankR (x:Nat):Bool:=decide (x < 128) && isBlank (UInt8.ofNat x)
theorem decodeN_high (n b0 b1 b2 b3:Nat) (h:128≤b0):128≤(Lib.decodeN n b0 b1 b2 b3).1∧(2≤(Lib.decodeN n b0 b1 b2 b3).2→128≤b1)∧(3≤(Lib.decodeN n b0 b1 b2 b3).2→128≤b2) ∧
  (4≤(Lib.decodeN n b0 b1 b2 b3).2→128≤b3)∧(Lib.decodeN n b0 b1 b2 b3).2≤4:=by
 unfold Lib.decodeN
 repeat' split
 all_goals (simp only; omega)
theorem decodeN_low (n b0 b1 b2 b3:Nat) (h:b0 < 128):Lib.decodeN n b0 b1 b2 b3=(b0,1):=by
 unfold Lib.decodeN
 rw [if_pos h]
theorem high_no_blank {c:UInt8} (h:128≤c.toNat):isBlank c=false:=by
 have n (x:UInt8) (k:UInt8):(x == k)=decide (x.toNat=k.toNat):=by rw [Bool.eq_iff_iff]; simp [UInt8.toNat_inj]
 simp only [isBlank,n]
 simp
 omega
theorem blankR_byte (c:UInt8) (h:c.toNat < 128):blankR c.toNat=isBlank c:=by simp [blankR,h]
theorem fields_skip:∀ (u r cur:List UInt8),(∀ c∈u,isBlank c=false)→fields (u++r) cur=fields r (cur++u)
 | [],r,cur,_=>by simp
 | c :: u,r,cur,h=>by
  have hc:=h c (by simp)
  rw [List.cons_append]
  conv=>lhs; unfold fields
  rw [if_neg (by simp [hc]),fields_skip u r (cur++[c]) fun x hx=>h x (by simp [hx])]
  simp
theorem rune_bytes (s:ByteArray) (pos:Nat) (h:pos < s.size) :
  (blankR (Utf8.decode s pos).1=true→(Utf8.decode s pos).2=1∧isBlank (s.data.toList.getD pos 0)=true) ∧
  (blankR (Utf8.decode s pos).1=false → ∀ c∈(s.data.toList.drop pos).take (Utf8.decode s pos).2,isBlank c=false):=by
 have hd:=Lib.decode_N s pos
 by_cases h0:(s.data.toList.getD pos 0).toNat < 128
 ·rw [decodeN_low _ _ _ _ _ h0] at hd
  rw [hd]
  simp only
  rw [blankR_byte _ h0]
  refine ⟨fun hb=>⟨trivial,hb⟩,fun hb c hc=>?_⟩
  have hl:pos < s.data.toList.length:=by simpa using h
  rw [List.drop_eq_getElem_cons hl] at hc
  simp only [List.take_succ_cons,List.take_zero,List.mem_singleton] at hc
  subst hc
  rw [List.getD_eq_getElem?_getD,List.getElem?_eq_getElem hl] at hb
  exact hb
 ·obtain ⟨h1,h2,h3,h4,h5⟩:=decodeN_high (s.data.toList.length - pos) (s.data.toList.getD pos 0).toNat (s.data.toList.getD (pos+1) 0).toNat (s.data.toList.getD (pos+2) 0).toNat (s.data.toList.getD (pos+3) 0).toNat (by omega)
  rw [← hd] at h1 h2 h3 h4 h5
  refine ⟨fun hb=>?_,fun _ c hc=>?_⟩
  ·unfold blankR at hb
   rw [decide_eq_false (by omega)] at hb
   cases hb
  ·obtain ⟨j,hj⟩:=List.getElem?_of_mem hc
   rw [List.getElem?_take] at hj
   split at hj
   ·rename_i hjk
    rw [List.getElem?_drop] at hj
    apply high_no_blank
    have e:s.data.toList.getD (pos+j) 0=c:=by rw [List.getD_eq_getElem?_getD,hj]; rfl
    rw [← e]
    rcases j with _ | _ | _ | _ | j
    ·simpa using (by omega:128≤(s.data.toList.getD pos 0).toNat)
    ·exact h2 (by omega)
    ·exact h3 (by omega)
    ·exact h4 (by omega)
    ·omega
   ·cases hj
theorem spans_blank (s:ByteArray):∀ (f pos:Nat) (st:Option Nat) (acc:List (Nat × Nat)),s.size≤pos+f→pos≤s.size→(∀ a,st=some a→a < pos) →
  acc.map (fun p=>Lib.pieceU s.data.toList p.1 p.2)++fields (s.data.toList.drop pos) (Lib.openPiece s.data.toList st pos)=(Lib.closeSpans s (Lib.spansFromP blankR s f pos st acc)).map (fun p=>Lib.pieceU s.data.toList p.1 p.2):=by
 intro f
 have close:∀ (st:Option Nat) (acc:List (Nat × Nat)),(∀ a,st=some a→a < s.size) →
   acc.map (fun p=>Lib.pieceU s.data.toList p.1 p.2)++fields [] (Lib.openPiece s.data.toList st s.size)=(Lib.closeSpans s (acc,st)).map (fun p=>Lib.pieceU s.data.toList p.1 p.2):=by
  intro st acc hst
  cases st with
  | none=>simp [fields,Lib.closeSpans,Lib.openPiece]
  | some a =>
   have:=Lib.pieceU_ne s.data.toList a s.size (hst a rfl) (by simp)
   simp [fields,Lib.closeSpans,Lib.openPiece,this]
 induction f with
 | zero =>
  intro pos st acc h hp hst
  obtain rfl:pos=s.size:=by omega
  have hd:s.data.toList.drop s.size=[]:=List.drop_eq_nil_of_le (by simp)
  rw [hd]
  exact close st acc hst
 | succ f ih =>
  intro pos st acc h hp hst
  by_cases hlt:pos < s.size
  ·have hw:=Lib.width_pos s pos
   have hwn:pos+(Utf8.decode s pos).2≤s.size:=by
    have:=Lib.decodeN_le_n' (s.size - pos) (s.get! pos).toNat (s.get! (pos+1)).toNat (s.get! (pos+2)).toNat (s.get! (pos+3)).toNat (by omega)
    rw [← Lib.decode_at] at this
    omega
   obtain ⟨hb1,hb2⟩:=rune_bytes s pos hlt
   have hl:pos < s.data.toList.length:=by simpa using hlt
   simp only [Lib.spansFromP,if_pos hlt]
   cases hsp:blankR (Utf8.decode s pos).1 with
   | true =>
    obtain ⟨hk,hb⟩:=hb1 hsp
    have hdr:s.data.toList.drop pos=s.data.toList.getD pos 0 :: s.data.toList.drop (pos+1):=by
     rw [List.drop_eq_getElem_cons hl,List.getD_eq_getElem?_getD,List.getElem?_eq_getElem hl]
     rfl
    rw [hdr]
    conv=>lhs; rhs; unfold fields
    rw [if_pos hb]
    simp only [if_true]
    rw [hk] at hwn ⊢
    cases st with
    | none =>
     have ih:=ih (pos+1) none acc (by omega) hwn (fun a h=>by cases h)
     simpa [Lib.openPiece] using ih
    | some a =>
     have hpn:=Lib.pieceU_ne s.data.toList a pos (hst a rfl) (by simpa using hp)
     have ih:=ih (pos+1) none (acc++[(a,pos)]) (by omega) hwn (fun a h=>by cases h)
     simpa [Lib.openPiece,hpn] using ih
   | false =>
    have hnb:=hb2 hsp
    have hsplit:s.data.toList.drop pos=(s.data.toList.drop pos).take (Utf8.decode s pos).2++s.data.toList.drop (pos+(Utf8.decode s pos).2):=by
     rw [← List.drop_drop,List.take_append_drop]
    rw [hsplit,fields_skip _ _ _ hnb]
    simp only [Bool.false_eq_true,if_false]
    cases st with
    | none =>
     have ih:=ih (pos+(Utf8.decode s pos).2) (some pos) acc (by omega) hwn (fun a h=>by cases h; omega)
     have e:([]:List UInt8)++(s.data.toList.drop pos).take (Utf8.decode s pos).2=Lib.pieceU s.data.toList pos (pos+(Utf8.decode s pos).2):=by
      unfold Lib.pieceU
      rw [List.nil_append,Nat.add_sub_cancel_left]
     simp only [Lib.openPiece] at ih ⊢
     rw [e]
     exact ih
    | some a =>
     have ih:=ih (pos+(Utf8.decode s pos).2) (some a) acc (by omega) hwn (fun b h=>by cases h; have:=hst a rfl; omega)
     simp only [Lib.openPiece] at ih ⊢
     rw [Lib.pieceU_grow _ _ _ _ (Nat.le_of_lt (hst a rfl))]
     exact ih
  ·obtain rfl:pos=s.size:=by omega
   have hd:s.data.toList.drop s.size=[]:=List.drop_eq_nil_of_le (by simp)
   rw [hd,Lib.spansFromP_end _ _ _ _ _ _ hlt]
   exact close st acc hst
theorem goFields_eq (s:ByteArray):(Lib.goFieldsP blankR s).map (fun b=>b.data.toList)=fields s.data.toList []:=by
 have h:=spans_blank s s.size 0 none [] (by omega) (Nat.zero_le _) (fun a h=>by cases h)
 simp only [List.map_nil,List.nil_append,List.drop_zero,Lib.openPiece] at h
 rw [h]
 unfold Lib.goFieldsP Lib.spansOfP
 rw [List.map_map]
 refine List.map_congr_left fun p _=>?_
 simp only [Function.comp,Lib.pieceU]
 exact Lib.extract_data s p.1 p.2
theorem fields_count:∀ (l cur:List UInt8),(fields l cur).length≤l.length+1
 | [],cur=>by unfold fields; split <;> simp
 | c :: r,cur=>by
  unfold fields
  split
  ·split
   ·have:=fields_count r []; simp; omega
   ·have:=fields_count r []; simp; omega
  ·have:=fields_count r (cur++[c]); simp; omega
theorem goFields_size (s f:ByteArray) (h:f∈Lib.goFieldsP blankR s):f.size≤s.size:=by
 unfold Lib.goFieldsP at h
 obtain ⟨x,_,rfl⟩:=List.mem_map.1 h
 rw [ByteArray.size_extract]
 omega
end Go.Proofs.Ts
namespace Go.Proofs.Ts
open Go Go.RowKit
theorem blankB_any (c:UInt8) (w:World) :
  Calls Tryz.prog 136 #[.int .u8 c.toNat] w fun e w'=>e = .returned (.bool (isBlank c))∧Same w w':=by
 rw [blank_toNat]
 go_enter Tryz.func136,Tryz.ntmps136
 go_wp2
 all_goals
  go_ret
  exact ⟨ret_bool (by simp [*]),Same.refl _⟩
set_option maxRecDepth 100000 in
theorem blankR_any (x:Nat) (hx:x≤1114111) (w:World) :
  Calls Tryz.prog 135 #[.int .i32 x] w fun e w'=>e = .returned (.bool (blankR x))∧Same w w':=by
 by_cases h:x < 128
 ·obtain ⟨c,hc⟩:∃ c:UInt8,c.toNat=x:=⟨UInt8.ofNat x,by simp; omega⟩
  have hb:=Lib.hid (blankR_byte c (by omega))
  subst hc
  clear hx
  go_enter Tryz.func135,Tryz.ntmps135
  have q1:IntKind.u8.wrap (c.toNat:Int)=(c.toNat:Int):=by
   exact IntWalk.u8_in _ (by omega)
  go_wp2_with (go_at_call 136; refine (blankB_any c _).mono ?_; rintro e w1 ⟨rfl,hS1⟩)
  go_ret
  exact ⟨ret_bool hb.symm,hS1⟩
 ·have hb:Hid (blankR x=false):=by
   refine Lib.hid ?_
   unfold blankR
   rw [decide_eq_false h]
   rfl
  clear hx
  go_enter Tryz.func135,Tryz.ntmps135
  go_wp2
  go_ret
  exact ⟨ret_bool hb.symm,Same.refl _⟩
theorem blank_pays (w:World):PredAtRunes Tryz.prog 135 #[] blankR w :=
 fun W x hx hb=>(blankR_any x hx W).mono fun _ _ h=>h
end Go.Proofs.Ts
namespace Go.Proofs.Ts
open Go Go.RowKit Go.Shelf
def wordsB (d:ByteArray):List (List UInt8):=((fields d.data.toList []).map lowL).filter fun w=>decide (w.length≤16)
def upto (fs:List (List UInt8)) (k:Nat):List (List UInt8):=((fs.take k).map lowL).filter fun w=>decide (w.length≤16)
theorem upto_yes (fs:List (List UInt8)) (k:Nat) (h:k < fs.length) (h16:fs[k].length≤16):upto fs (k+1)=upto fs k++[lowL fs[k]]:=by
 unfold upto
 rw [List.take_succ_eq_append_getElem h,List.map_append,List.filter_append]
 simp [lowL,h16]
theorem upto_no (fs:List (List UInt8)) (k:Nat) (h:k < fs.length) (h16:¬ fs[k].length≤16):upto fs (k+1)=upto fs k:=by
 unfold upto
 rw [List.take_succ_eq_append_getElem h,List.map_append,List.filter_append]
 simp [lowL,h16]
theorem upto_all (d:ByteArray) (fs:List (List UInt8)) (h:fs=fields d.data.toList []):upto fs fs.length=wordsB d:=by
 unfold upto wordsB
 rw [List.take_of_length_le (Nat.le_refl _),h]
theorem upto_le (fs:List (List UInt8)) (k:Nat):(upto fs k).length≤(upto fs fs.length).length:=by
 unfold upto
 rw [List.take_of_length_le (Nat.le_refl fs.length)]
 conv=>rhs; rw [← List.take_append_drop k fs,List.map_append,List.filter_append,List.length_append]
 omega
theorem upto_lt (fs:List (List UInt8)) (k:Nat) (h:k < fs.length) (h16:fs[k].length≤16):(upto fs k).length < (upto fs fs.length).length:=by
 have h1:=upto_yes fs k h h16
 have h2:=upto_le fs (k+1)
 rw [h1,List.length_append] at h2
 simp at h2
 omega
def KeepStr (w w':World):Prop:=∀ (k:Nat) cs r,w.heap[k]?=some (.cells cs 9 r)→w'.heap[k]?=w.heap[k]?
theorem KeepStr.trans {a b c:World} (h:KeepStr a b) (k:KeepStr b c):KeepStr a c:=fun j cs r hj=>(k j cs r ((h j cs r hj).trans hj)).trans (h j cs r hj)
theorem KeepStr.below {a b:World} (h:Below a.heap.size a b):KeepStr a b:=fun j cs r hj=>h.block j (Array.getElem?_eq_some_iff.1 hj).1
theorem KeepStr.put {w:World} (W:World) (l:Nat) (o o':Obj) (_:w.heap.size≤l) (h:W.heap[l]?=some o) (hc:o.isCells=false) (_:o.isWalk=false):KeepStr W (W.putObj l o'):=by
 intro j cs r hj
 refine (grownBy_putObj' W l o').block j (Array.getElem?_eq_some_iff.1 hj).1 ?_
 intro e
 cases e
 rw [h] at hj
 cases hj
 cases hc
theorem KeepStr.row {w w':World} {B n:Nat} {v:Value} {xs:List Value} (h:KeepStr w w') (hr:w.ownsRow B 9 1 v n xs):w'.ownsRow B 9 1 v n xs :=
 ownsRow_block hr fun k hk=>by
  rcases hr.2 with ⟨rfl,_⟩ | ⟨g,cap,cur,rfl,_,hg,_⟩
  ·cases hk
  ·cases hk; exact h _ _ _ hg
def BRow (w:World) (A:Nat) (l:List UInt8):Prop:=A < w.heap.size ∧ ∀ (j:Nat) (h:j < l.length),w.cell? ⟨A,j,none⟩=some (.int .u8 l[j].toNat)∧w.frozen? ⟨A,j,none⟩=false
theorem BRow.store {w:World} {A:Nat} {l:List UInt8} (h:BRow w A l) (i:Nat) (hi:i < l.length) (c:UInt8):BRow (w.setCell (aD A i) (.int .u8 c.toNat)) A (l.set i c):=by
 refine ⟨by simpa using h.1,fun j hj=>?_⟩
 have hj':j < l.length:=by simpa using hj
 obtain ⟨h1,h2⟩:=h.2 j hj'
 refine ⟨?_,by rw [World.frozen?_setCell]; exact h2⟩
 by_cases e:i=j
 ·subst e
  rw [List.getElem_set_self]
  exact World.cell?_setCell_same' _ _ _ (by rw [h1]; rfl)
 ·rw [List.getElem_set_ne e]
  rw [World.cell?_setCell_other _ _ _ _ (fun e'=>e (congrArg Addr.off e'))]
  exact h1
theorem conv_bytes (s:ByteArray) (w:World):∃ cap w1,(convert 9 42 (.string s)).run Tryz.prog w = .ok (sL w.heap.size s.size cap) w1∧BRow w1 w.heap.size s.data.toList∧Below w.heap.size w w1∧w1.heap.size=w.heap.size+1:=by
 have h:=run_bytes_of_string (P:=Tryz.prog) w 9 42 5 s Tryz.underlying9 Tryz.underlying42 Tryz.underlying5
 refine ⟨_,_,h,⟨by simp,fun j hj=>?_⟩,((Below.refl _ w).drew).alloc (Nat.le_refl _) _,by simp⟩
 have hj':j < s.data.size:=by simpa using hj
 have hw:w.drew.heap.size=w.heap.size:=rfl
 constructor
 ·have:=World.cell?_alloc_mark w.drew (bytesRow s (grownCap w s.size 0 5)) 5 ((bytesRow s (grownCap w s.size 0 5)).size,(bytesRow s (grownCap w s.size 0 5)).size+1) j
  rw [hw] at this
  rw [this,bytesRow_at s _ j hj']
  rfl
 ·have:=World.frozen?_alloc_mark w.drew (bytesRow s (grownCap w s.size 0 5)) 5 (bytesRow s (grownCap w s.size 0 5)).size ((bytesRow s (grownCap w s.size 0 5)).size+1) j
  rw [hw] at this
  rw [this]
  have hsz:j < (bytesRow s (grownCap w s.size 0 5)).size:=by
   unfold bytesRow
   rw [Array.size_append,Array.size_map]
   omega
  rw [decide_eq_false (by omega)]
  rfl
theorem wpListIn_value {F:Fence} {n:Nat} {P:Program} {ops:Array Oper} {Q:Exit→Act→World→Prop} {rest:List Oper} {o:Oper} {a:Act} {w w1:World} {v:Value} (hgd:o.guard=none) (hnd:∀ c,o.op ≠ .defer c)
  (hab:o.about P w a.eval=none) (hr:(execOp a.eval o).run P w = .ok (.value v) w1) (h:wpListIn F n P ops Q rest (a.put o.dst v) w1):wpListIn F n P ops Q (o :: rest) a w:=by
 refine wpListIn_plain hgd fun K hK=>?_
 refine ⟨fun f hf=>(by rw [hab] at hf; cases hf),?_⟩
 rw [Oper.semAt_eq _ _ _ hnd,hr]
 exact hK _ _ h
theorem wpListIn_conv {F:Fence} {n:Nat} {ops:Array Oper} {Q:Exit→Act→World→Prop} {rest:List Oper} {o:Oper} {a:Act} {w:World} (x:Operand) (hgd:o.guard=none) (ho:o.op = .convert 9 42 x) (s:ByteArray) (hx:a.eval x = .string s)
  (h:∀ cap w1,BRow w1 w.heap.size s.data.toList→Below w.heap.size w w1→w1.heap.size=w.heap.size+1→wpListIn F n Tryz.prog ops Q rest (a.put o.dst (sL w.heap.size s.size cap)) w1) :
  wpListIn F n Tryz.prog ops Q (o :: rest) a w:=by
 obtain ⟨cap,w1,h1,h2,h3,h4⟩:=conv_bytes s w
 refine wpListIn_value hgd (fun c e=>by rw [ho] at e; cases e) (by unfold Oper.about; rw [ho]) (v:=sL w.heap.size s.size cap) (w1:=w1) ?_ (h cap w1 h2 h3 h4)
 unfold execOp
 simp only [ho,hx,Sem.run_bind,h1,Result.andThen_ok,Sem.run_pure]
theorem words_any (d:ByteArray) (w:World) :
  Calls Tryz.prog 92 #[.string d] w fun e w'=>e = .returned (.func (.func 133) #[] #[pT w.heap.size])∧w'=w.alloc (.cells #[.string d] 9):=by
 have hmf:∀ (fn:Fn) (first cap:Array Value) (w:World),(Instr.makeFunc fn first cap).run Tryz.prog w = .ok (.func fn first cap) w:=fun _ _ _ _=>rfl
 go_enter Tryz.func92,Tryz.ntmps92
 go_wp2
 go_ret
 exact ⟨rfl,rfl⟩
end Go.Proofs.Ts
namespace Go.Proofs.Ts
open Go Go.RowKit
open Go.ChangeMaps (setBlock)
section
variable {P:Program} {α:Type} [DecidableEq α] {enc:α→Value}
def IterIs (enc:α→Value) (w:World) (b r:Nat) (m:List (α × Value)) (ts:List α):Prop :=
 ∃ es clock seen,w.heap[b]?=some (.map es clock)∧pairs enc es.toList m∧(∀ e∈es.toList,e.born < clock)∧(es.toList.map (·.born)).Nodup ∧
  w.heap[r]?=some (.mapIter (some b) clock seen clock) ∧ ∀ (i:Nat) e p,es.toList[i]?=some e→m[i]?=some p→(e.born∈seen↔p.1∈ts)
theorem pairs_at {es:List MapEntry} {m:List (α × Value)} (h:pairs enc es m) (i:Nat):(∀ e,es[i]?=some e → ∃ p,m[i]?=some p∧e.key=enc p.1∧e.val=p.2)∧(∀ p,m[i]?=some p → ∃ e,es[i]?=some e∧e.key=enc p.1∧e.val=p.2):=by
 have hi:(es.map fun e=>(e.key,e.val))[i]?=(m.map fun p=>(enc p.1,p.2))[i]?:=by rw [h]
 rw [List.getElem?_map,List.getElem?_map] at hi
 constructor
 ·intro e he
  rw [he] at hi
  cases hp:m[i]? with
  | none=>rw [hp] at hi; cases hi
  | some p =>
   rw [hp] at hi
   simp only [Option.map_some,Option.some.injEq,Prod.mk.injEq] at hi
   exact ⟨p,rfl,hi.1,hi.2⟩
 ·intro p hp
  rw [hp] at hi
  cases he:es[i]? with
  | none=>rw [he] at hi; cases hi
  | some e =>
   rw [he] at hi
   simp only [Option.map_some,Option.some.injEq,Prod.mk.injEq] at hi
   exact ⟨e,rfl,hi.1,hi.2⟩
theorem range_run {w:World} {b:Nat} {m:List (α × Value)} (h:MapIs enc w b m) {T K E:TypeId} (hT:P.underlying T=some (.map K E)) :
  ∃ w',(Instr.range T (.map (some b))).run P w = .ok (pT w.heap.size) w'∧IterIs enc w' b w.heap.size m []∧w.grownBy w' none∧w'.heap.size=w.heap.size+1:=by
 obtain ⟨es,clock,hb,hp,hl,hn⟩:=h
 refine ⟨_,run_range_map (P:=P) w T K E b es clock hT hb,⟨es,clock,#[],?_,hp,hl,hn,heap_alloc_new w _,?_⟩,⟨rfl,rfl,rfl,by simp,fun k hk _=>Below.heap_alloc w _ k hk⟩,by simp⟩
 ·rw [Below.heap_alloc w _ _ (Array.getElem?_eq_some_iff.1 hb).1]; exact hb
 ·intro i e p _ _
  simp
theorem IterIs.kept {w w':World} {b r:Nat} {m:List (α × Value)} {ts:List α} (h:IterIs enc w b r m ts) (h1:w'.heap[b]?=w.heap[b]?) (h2:w'.heap[r]?=w.heap[r]?):IterIs enc w' b r m ts:=by
 obtain ⟨es,clock,seen,a1,a2,a3,a4,a5,a6⟩:=h
 exact ⟨es,clock,seen,h1.trans a1,a2,a3,a4,h2.trans a5,a6⟩
theorem IterIs.apart {w:World} {b r:Nat} {m:List (α × Value)} {ts:List α} (h:IterIs enc w b r m ts):b≠r∧b < w.heap.size∧r < w.heap.size:=by
 obtain ⟨es,clock,seen,a1,a2,a3,a4,a5,a6⟩:=h
 refine ⟨fun e=>?_,(Array.getElem?_eq_some_iff.1 a1).1,(Array.getElem?_eq_some_iff.1 a5).1⟩
 subst e
 rw [a1] at a5
 cases a5
theorem next_run (ty:TypeId) {w:World} {b r:Nat} {m:List (α × Value)} {ts:List α} (h:IterIs enc w b r m ts) (hA:Apart m) :
  ((∀ p∈m,p.1∈ts)∧(Instr.next (pT r) false ty).run P w = .ok (.tuple #[.bool false]) w) ∨
  ∃ k v w',(k,v)∈m∧k ∉ ts∧(Instr.next (pT r) false ty).run P w = .ok (.tuple #[.bool true,enc k,v]) w'∧IterIs enc w' b r m (ts++[k]) ∧
   (Instr.entry (pT r)).run P w' = .ok (.tuple #[enc k,v]) w'∧w.grownBy w' (some r)∧w'.heap.size=w.heap.size:=by
 have hap:=h.apart
 obtain ⟨es,clock,seen,a1,a2,a3,a4,a5,a6⟩:=h
 rcases run_next_at (P:=P) w ty r b clock clock seen es clock a5 a1 a3 (Nat.le_refl _) with ⟨h0,hrun⟩ | ⟨e,he,w1,hw1,hrun⟩
 ·left
  refine ⟨fun p hp=>?_,hrun⟩
  obtain ⟨i,hi⟩:=List.getElem?_of_mem hp
  obtain ⟨e,he,_,_⟩:=(pairs_at a2 i).2 p hi
  refine (a6 i e p he hi).1 ?_
  apply Classical.byContradiction
  intro hno
  have hm:e∈leftOf es seen:=by
   unfold leftOf
   rw [Array.mem_filter]
   refine ⟨by rw [← Array.mem_toList_iff]; exact List.mem_of_getElem? he,?_⟩
   simpa using hno
  have:=Array.size_pos_of_mem hm
  omega
 ·right
  have hem:e∈es∧e.born ∉ seen:=by
   have:=he
   unfold leftOf at this
   simpa using this
  have hem':e∈es.toList:=by simpa using hem.1
  obtain ⟨i,hi⟩:=List.getElem?_of_mem hem'
  obtain ⟨⟨k,v⟩,hp,hk,hv⟩:=(pairs_at a2 i).1 e hi
  simp only at hk hv
  have hh:w1.heap=w.heap:=by rcases hw1 with rfl | rfl <;> rfl
  have hset:∀ o:Obj,(setBlock w1 r o).heap[r]?=some o:=fun o=>by
   unfold setBlock
   simp [hh,hap.2.2]
  have hother:∀ (o:Obj) j,j≠r→(setBlock w1 r o).heap[j]?=w.heap[j]?:=fun o j hj=>by
   unfold setBlock
   simp [hh,Ne.symm hj]
  refine ⟨k,v,_,List.mem_of_getElem? hp,fun hin=>hem.2 ((a6 i e _ hi hp).2 hin),by rw [hrun,hk,hv],⟨es,clock,seen.push e.born,(hother _ _ hap.1).trans a1,a2,a3,a4,hset _,?_⟩,?_,⟨?_,?_,?_,?_,?_⟩,?_⟩
  ·intro j e' p' he' hp'
   rw [Array.mem_push,List.mem_append,List.mem_singleton]
   have hk':=a6 j e' p' he' hp'
   constructor
   ·rintro (h1 | h1)
    ·exact .inl (hk'.1 h1)
    ·right
     have:e'=e:=by
      have h2:(es.toList.map (·.born))[j]?=some e.born:=by rw [List.getElem?_map,he',← h1]; rfl
      have h3:(es.toList.map (·.born))[i]?=some e.born:=by rw [List.getElem?_map,hi]; rfl
      have hij:j=i:=(List.getElem?_inj (List.getElem?_eq_some_iff.1 h2).1 a4).1 (h2.trans h3.symm)
      subst hij
      rw [hi] at he'
      exact (Option.some.inj he').symm
     subst this
     have hij:j=i:=by
      have h2:(es.toList.map (·.born))[j]?=some e'.born:=by rw [List.getElem?_map,he']; rfl
      have h3:(es.toList.map (·.born))[i]?=some e'.born:=by rw [List.getElem?_map,hi]; rfl
      exact (List.getElem?_inj (List.getElem?_eq_some_iff.1 h2).1 a4).1 (h2.trans h3.symm)
     subst hij
     rw [hp] at hp'
     cases hp'
     rfl
   ·rintro (h1 | h1)
    ·exact .inl (hk'.2 h1)
    ·right
     have h2:(m.map (·.1))[j]?=some k:=by rw [List.getElem?_map,hp',← h1]; rfl
     have h3:(m.map (·.1))[i]?=some k:=by rw [List.getElem?_map,hp]; rfl
     have hij:j=i:=(List.getElem?_inj (List.getElem?_eq_some_iff.1 h2).1 hA).1 (h2.trans h3.symm)
     subst hij
     rw [hi] at he'
     rw [Option.some.inj he']
  ·have:=run_entry_at (P:=P) (setBlock w1 r (.mapIter (some b) clock (seen.push e.born) clock)) r b clock seen es clock e (hset _) ((hother _ _ hap.1).trans a1) hem' a4
   rw [this,hk,hv]
  ·rcases hw1 with rfl | rfl <;> rfl
  ·rcases hw1 with rfl | rfl <;> rfl
  ·rcases hw1 with rfl | rfl <;> rfl
  ·unfold setBlock; simp [hh]
  ·intro j hj hne
   exact hother _ j fun e=>hne (by rw [e])
  ·unfold setBlock; simp [hh]
end
end Go.Proofs.Ts
namespace Go.Proofs.Ts
open Go Go.RowKit
def postsOf (D:List (List (List UInt8))) (x:List UInt8):List Nat:=(List.range D.length).filter fun j=>decide (x∈D.getD j [])
theorem postsOf_snoc (D:List (List (List UInt8))) (ws:List (List UInt8)) (x:List UInt8):postsOf (D++[ws]) x=postsOf D x++(if x∈ws then [D.length] else []):=by
 unfold postsOf
 rw [List.length_append,List.length_singleton,List.range_succ,List.filter_append]
 congr 1
 ·apply List.filter_congr
  intro j hj
  rw [List.mem_range] at hj
  rw [List.getD_eq_getElem?_getD,List.getElem?_append_left hj,← List.getD_eq_getElem?_getD]
 ·have:(D++[ws]).getD D.length []=ws:=by rw [List.getD_eq_getElem?_getD,List.getElem?_append_right (Nat.le_refl _)]; simp
  rw [List.filter_cons,this]
  by_cases h:x∈ws <;> simp [h]
theorem postsOf_lt (D:List (List (List UInt8))) (x:List UInt8):∀ j∈postsOf D x,j < D.length:=by
 intro j hj
 unfold postsOf at hj
 have:=List.mem_filter.1 hj
 simpa using this.1
theorem postsOf_length (D:List (List (List UInt8))) (x:List UInt8):(postsOf D x).length≤D.length:=by
 unfold postsOf
 have:=List.length_filter_le (fun j=>decide (x∈D.getD j [])) (List.range D.length)
 simpa using this
theorem postsOf_mem (D:List (List (List UInt8))) (x:List UInt8) (j:Nat):j∈postsOf D x ↔ ∃ ws,D[j]?=some ws∧x∈ws:=by
 unfold postsOf
 rw [List.mem_filter,List.mem_range,decide_eq_true_eq,List.getD_eq_getElem?_getD]
 constructor
 ·rintro ⟨h1,h2⟩
  rw [List.getElem?_eq_getElem h1,Option.getD_some] at h2
  exact ⟨_,List.getElem?_eq_getElem h1,h2⟩
 ·rintro ⟨ws,h1,h2⟩
  exact ⟨(List.getElem?_eq_some_iff.1 h1).1,by rw [h1]; exact h2⟩
theorem postsOf_nil (D:List (List (List UInt8))):postsOf (D++[[]])=postsOf D:=by
 funext x
 rw [postsOf_snoc]
 simp
theorem postsOf_old (D:List (List (List UInt8))) (pre:List (List UInt8)) (x:List UInt8) (h:x∈pre):postsOf (D++[pre++[x]])=postsOf (D++[pre]):=by
 funext y
 rw [postsOf_snoc,postsOf_snoc]
 by_cases e:y=x
 ·subst e; simp [h]
 ·simp [e]
theorem postsOf_new (D:List (List (List UInt8))) (pre:List (List UInt8)) (x:List UInt8) (h:x ∉ pre):postsOf (D++[pre++[x]])=fun y=>if y=x then postsOf (D++[pre]) x++[D.length] else postsOf (D++[pre]) y:=by
 funext y
 rw [postsOf_snoc]
 by_cases e:y=x
 ·subst e; rw [postsOf_snoc]; simp [h]
 ·rw [if_neg e,postsOf_snoc]; simp [e]
structure PostsIn (B mb:Nat) (w:World) (m:List (List UInt8 × Value)) (L:List UInt8→List Nat):Prop where
 map:MapIs strV w mb m
 keysA:Apart m
 row:∀ y v,get m y=some v→w.ownsRow 0 3 1 v (L y).length ((L y).map intV)∧L y≠[]
 keys:∀ y,L y≠[] → ∃ v,get m y=some v
 past:∀ y v g,get m y=some v→v.ownBlock=some g→B≤g
 disj:∀ y z u v g,y≠z→get m y=some u→get m z=some v→u.ownBlock=some g→v.ownBlock≠some g
 lt:mb < B
theorem PostsIn.made (B:Nat) (w:World) (hB:w.heap.size < B):PostsIn B w.heap.size (w.alloc (.map #[] 0)) [] (fun _=>[]) :=
 ⟨MapIs.made strV w,by simp [Apart],(fun _ _ h=>by cases h),(fun _ h=>absurd rfl h),(fun _ _ _ h=>by cases h),(fun _ _ _ _ _ _ h=>by cases h),hB⟩
theorem PostsIn.kept {B mb:Nat} {w w':World} {m:List (List UInt8 × Value)} {L:List UInt8→List Nat} (h:PostsIn B mb w m L) (hm:w'.heap[mb]?=w.heap[mb]?)
  (hk:∀ k,B≤k→(∃ y v,get m y=some v∧v.ownBlock=some k)→w'.heap[k]?=w.heap[k]?):PostsIn B mb w' m L :=
 ⟨h.map.of_block hm,h.keysA,fun y v hv=>⟨ownsRow_block (h.row y v hv).1 fun k e=>hk k (h.past y v k hv e) ⟨y,v,hv,e⟩,(h.row y v hv).2⟩,h.keys,h.past,h.disj,h.lt⟩
theorem PostsIn.keptAll {B mb:Nat} {w w':World} {m:List (List UInt8 × Value)} {L:List UInt8→List Nat} (h:PostsIn B mb w m L) (hk:∀ k,k < w.heap.size→w'.heap[k]?=w.heap[k]?):PostsIn B mb w' m L :=
 h.kept (hk _ h.map.lt) fun k _ ⟨y,v,hv,e⟩=>hk k ((h.row y v hv).1.lt k e).2
theorem PostsIn.same {B mb:Nat} {w w':World} {m:List (List UInt8 × Value)} {L:List UInt8→List Nat} (h:PostsIn B mb w m L) (hS:Same w w'):PostsIn B mb w' m L:=by
 obtain ⟨n,rfl⟩:=hS
 exact h.keptAll fun _ _=>rfl
theorem PostsIn.grown {B mb:Nat} {w w':World} {m:List (List UInt8 × Value)} {L:List UInt8→List Nat} {row:Option Nat} (h:PostsIn B mb w m L) (hg:w.grownBy w' row)
  (hr:∀ r,row=some r→r≠mb ∧ ∃ o:Obj,w.heap[r]?=some o∧o.isCells=false):PostsIn B mb w' m L:=by
 refine h.kept (hg.block _ h.map.lt fun e=>(hr mb e.symm).1 rfl) fun k _ ⟨y,v,hv,e⟩=>hg.block k ((h.row y v hv).1.lt k e).2 fun e'=>?_
 obtain ⟨_,o,ho,hc⟩:=hr k e'.symm
 rcases (h.row y v hv).1.2 with ⟨rfl,_⟩ | ⟨g,cap,cur,rfl,_,hg',_⟩
 ·cases e
 ·cases e
  rw [ho] at hg'
  cases hg'
  cases hc
def postV (m:List (List UInt8 × Value)) (x:List UInt8):Value:=(get m x).getD (.slice none 0 0)
theorem PostsIn.rowV {B mb:Nat} {w:World} {m:List (List UInt8 × Value)} {L:List UInt8→List Nat} (h:PostsIn B mb w m L) (x:List UInt8) :
  w.ownsRow 0 3 1 (postV m x) (L x).length ((L x).map intV):=by
 unfold postV
 cases hx:get m x with
 | some v=>exact (h.row x v hx).1
 | none =>
  have:L x=[]:=Classical.byContradiction fun hn=>by obtain ⟨v,hv⟩:=h.keys x hn; rw [hx] at hv; cases hv
  rw [this]
  exact World.ownsRow_nil _ _ _ _
theorem PostsIn.lookup {B mb:Nat} {w:World} {m:List (List UInt8 × Value)} {L:List UInt8→List Nat} (h:PostsIn B mb w m L) (x:List UInt8) :
  (Instr.lookup 190 (.map (some mb)) (strV x) false).run Tryz.prog w = .ok (postV m x) w:=by
 have:=MapIs.lookup str_law h.map x trivial (fun _ _=>trivial) Tryz.underlying190 (z := .slice none 0 0) (by kernel_rfl) false
 simpa [postV] using this
theorem PostsIn.add {B mb:Nat} {w w1 w2:World} {m:List (List UInt8 × Value)} {L:List UInt8→List Nat} {x:List UInt8} {i:Nat} {v1:Value} (h:PostsIn B mb w m L) (hB:B≤w.heap.size)
  (hmv:Moves w (postV m x) w1 v1) (hrow:w1.ownsRow 0 3 1 v1 ((L x).length+1) ((L x++[i]).map intV)) (hg:w1.grownBy w2 (some mb)) (hmap:MapIs strV w2 mb (put m x v1)) :
  PostsIn B mb w2 (put m x v1) (fun y=>if y=x then L x++[i] else L y):=by
 have hpv:Past B (postV m x):=fun k e=>by
  unfold postV at e
  cases hx:get m x with
  | none=>rw [hx] at e; cases e
  | some v=>rw [hx] at e; exact h.past x v k hx e
 have hp1:=hmv.past hpv hB
 have hother:∀ y v g,y≠x→get m y=some v→v.ownBlock=some g→w2.heap[g]?=w.heap[g]?∧v1.ownBlock≠some g:=fun y v g hy hv e=>by
  have hg1:=((h.row y v hv).1.lt g e).2
  have hne:(postV m x).ownBlock≠some g:=fun e'=>by
   unfold postV at e'
   cases hx:get m x with
   | none=>rw [hx] at e'; cases e'
   | some u=>rw [hx] at e'; exact h.disj x y u v g (Ne.symm hy) hx hv e' e
  have hmg:g≠mb:=by have:=h.past y v g hv e; have:=h.lt; omega
  refine ⟨(hg.block g (Nat.lt_of_lt_of_le hg1 hmv.size) fun e'=>hmg (Option.some.inj e')).trans (hmv.block hg1 hne),fun e'=>?_⟩
  rcases hmv.lies with h1 | ⟨g',h1,h2⟩
  ·exact hne (h1 ▸ e')
  ·rw [h1] at e'
   have:=Option.some.inj e'
   omega
 refine ⟨hmap,h.keysA.put x v1,fun y v hv=>?_,fun y hy=>?_,fun y v g hv e=>?_,fun y z u v g hyz hu hv e=>?_,h.lt⟩
 ·rw [get_put] at hv
  by_cases hxy:y=x
  ·subst hxy
   rw [if_pos rfl] at hv
   cases hv
   rw [if_pos rfl]
   refine ⟨?_,by simp⟩
   have hl:(L y++[i]).length=(L y).length+1:=by simp
   rw [hl]
   exact ownsRow_block hrow fun k e=>hg.block k (hrow.lt k e).2 fun e'=>by have:=hp1 k e; have:=h.lt; have:=Option.some.inj e'; omega
  ·rw [if_neg (Ne.symm hxy)] at hv
   rw [if_neg hxy]
   exact ⟨ownsRow_block (h.row y v hv).1 fun k e=>(hother y v k hxy hv e).1,(h.row y v hv).2⟩
 ·rw [get_put]
  by_cases hxy:x=y
  ·rw [if_pos hxy]; exact ⟨_,rfl⟩
  ·rw [if_neg hxy]
   rw [if_neg (Ne.symm hxy)] at hy
   exact h.keys y hy
 ·rw [get_put] at hv
  split at hv
  ·cases hv; exact hp1 g e
  ·exact h.past y v g hv e
 ·rw [get_put] at hu hv
  split at hu
  ·rename_i hxy
   subst hxy
   cases hu
   rw [if_neg hyz] at hv
   exact fun e'=>(hother z v g (Ne.symm hyz) hv e').2 e
  ·rename_i hxy
   split at hv
   ·cases hv
    exact (hother y u g (Ne.symm hxy) hu e).2
   ·exact h.disj y z u v g hyz hu hv e
end Go.Proofs.Ts
