/- Lemmas towards the statement Simple of termsearch: walks of the program's functions and plain laws on lists (TsBetP, TsGoes, TsPlan, TsFind, TsMerge, TsUnionA). Conditions: those that each theorem names. -/
import Derived.Test.YtffjomnnkilhgaaGreatDoorSimplePG
import Derived.Test.YtffjomnnkilhgaaGreatDoorSimplePF
import Derived.Defers
import Derived.Recover
import Derived.Test.YtffjomnnkilhgaaGreatDoorSimplePA
import Derived.Test.YtffjomnnkilhgaaGreatDoorLocks
import Derived.Conc.MuLone
import Derived.Test.YtffjomnnkilhgaaGreatDoorSimplePB
set_option linter.unusedVariables false
set_option linter.unusedSimpArgs false
set_option linter.unusedSectionVars false
namespace Go.Proofs.Ts
open Go
structure BSt where
 l:Option Nat
 h:Option Nat
def optI:Option Nat→Int
 | none=>-1
 | some k=>k
def BSt.cells (s:BSt):Array Value:=#[.int .i64 (optI s.l),.int .i64 (optI s.h)]
def loStep (lo:List UInt8):Option Nat→UInt8→Option (Option Nat)
 | none,_=>some none
 | some k,c=>match lo[k]? with
  | none=>some none
  | some b=>if b < c then some none else if c < b then none else some (some (k+1))
def hiStep (hi:List UInt8):Option Nat→UInt8→Option (Option Nat)
 | none,_=>some none
 | some k,c=>match hi[k]? with
  | none=>none
  | some b=>if b < c then none else if c < b then some none else some (some (k+1))
section
variable {lo hi:List UInt8} {k:Nat} {c b:UInt8}
theorem loStep_none (hb:lo[k]?=none):loStep lo (some k) c=some none:=by simp only [loStep,hb]
theorem loStep_some (hb:lo[k]?=some b):loStep lo (some k) c=if b < c then some none else if c < b then none else some (some (k+1)):=by simp only [loStep,hb]
theorem hiStep_none (hb:hi[k]?=none):hiStep hi (some k) c=none:=by simp only [hiStep,hb]
theorem hiStep_some (hb:hi[k]?=some b):hiStep hi (some k) c=if b < c then none else if c < b then some none else some (some (k+1)):=by simp only [hiStep,hb]
end
def betStep (lo hi:List UInt8) (s:BSt) (c:UInt8):Option BSt:=match loStep lo s.l c with
 | none=>none
 | some l=>match hiStep hi s.h c with
  | none=>none
  | some h=>some ⟨l,h⟩
def betEnds (lo:List UInt8) (s:BSt):Bool:=match s.l with
 | none=>true
 | some k=>decide (k=lo.length)
def betStart (hi:List UInt8):BSt:=⟨some 0,if hi=[] then none else some 0⟩
def leB:List UInt8→List UInt8→Bool
 | [],_=>true
 | _ :: _,[]=>false
 | a :: x,b :: y=>if a < b then true else if b < a then false else leB x y
theorem leB_cons (a b:UInt8) (x y:List UInt8):leB (a :: x) (b :: y)=if a < b then true else if b < a then false else leB x y:=rfl
def within (lo hi:List UInt8) (s:BSt) (u:List UInt8):Bool :=
 (match s.l with | none=>true | some k=>leB (lo.drop k) u) && (match s.h with | none=>true | some k=>leB u (hi.drop k))
theorem drop_cons {α:Type} {l:List α} {k:Nat} {b:α} (h:l[k]?=some b):l.drop k=b :: l.drop (k+1):=by
 obtain ⟨hk,rfl⟩:=List.getElem?_eq_some_iff.1 h
 exact List.drop_eq_getElem_cons hk
theorem drop_none {α:Type} {l:List α} {k:Nat} (h:l[k]?=none):l.drop k=[]:=List.drop_eq_nil_of_le (List.getElem?_eq_none_iff.1 h)
def BSt.ok (lo hi:List UInt8) (s:BSt):Prop:=(∀ k,s.l=some k→k≤lo.length) ∧ ∀ k,s.h=some k→k≤hi.length
theorem within_step (lo hi:List UInt8) (s:BSt) (c:UInt8) (u:List UInt8):within lo hi s (c :: u)=match betStep lo hi s c with
  | none=>false
  | some t=>within lo hi t u:=by
 obtain ⟨l,h⟩:=s
 have e1:(match l with | none=>true | some k=>leB (lo.drop k) (c :: u))=match loStep lo l c with
   | none=>false
   | some l'=>match l' with | none=>true | some k=>leB (lo.drop k) u:=by
  cases l with
  | none=>rfl
  | some k =>
   cases hb:lo[k]? with
   | none =>
    simp only
    rw [drop_none hb,loStep_none hb]
    rfl
   | some b =>
    simp only
    rw [drop_cons hb,loStep_some hb,leB_cons]
    split
    ·rfl
    ·split
     ·rfl
     ·rfl
 have e2:(match h with | none=>true | some k=>leB (c :: u) (hi.drop k))=match hiStep hi h c with
   | none=>false
   | some h'=>match h' with | none=>true | some k=>leB u (hi.drop k):=by
  cases h with
  | none=>rfl
  | some k =>
   cases hb:hi[k]? with
   | none =>
    simp only
    rw [drop_none hb,hiStep_none hb]
    rfl
   | some b =>
    simp only
    rw [drop_cons hb,hiStep_some hb,leB_cons]
    by_cases h1:b < c
    ·have h2:¬ c < b:=fun h=>by have:=UInt8.lt_iff_toNat_lt.1 h; have:=UInt8.lt_iff_toNat_lt.1 h1; omega
     rw [if_neg h2,if_pos h1,if_pos h1]
    ·by_cases h2:c < b
     ·rw [if_pos h2,if_neg h1,if_pos h2]
     ·rw [if_neg h2,if_neg h1,if_neg h1,if_neg h2]
 unfold within betStep
 simp only
 rw [e1,e2]
 cases loStep lo l c with
 | none=>rfl
 | some l' =>
  cases hiStep hi h c with
  | none=>simp
  | some h'=>rfl
theorem betStep_ok {lo hi:List UInt8} {s t:BSt} {c:UInt8} (hs:s.ok lo hi) (h:betStep lo hi s c=some t):t.ok lo hi:=by
 obtain ⟨l,h'⟩:=s
 unfold betStep at h
 split at h
 ·cases h
 ·rename_i l' hl'
  split at h
  ·cases h
  ·rename_i h'' hh'
   cases h
   refine ⟨fun k hk=>?_,fun k hk=>?_⟩
   ·have hk':l'=some k:=hk
    subst hk'
    simp only at hl'
    unfold loStep at hl'
    split at hl'
    ·cases hl'
    ·rename_i j
     split at hl'
     ·cases hl'
     ·rename_i b hb
      have:=(List.getElem?_eq_some_iff.1 hb).1
      split at hl'
      ·cases hl'
      ·split at hl'
       ·cases hl'
       ·cases hl'; omega
   ·have hk':h''=some k:=hk
    subst hk'
    simp only at hh'
    unfold hiStep at hh'
    split at hh'
    ·cases hh'
    ·rename_i j
     split at hh'
     ·cases hh'
     ·rename_i b hb
      have:=(List.getElem?_eq_some_iff.1 hb).1
      split at hh'
      ·cases hh'
      ·split at hh'
       ·cases hh'
       ·cases hh'; omega
theorem between_reads (lo hi:List UInt8):∀ (u:List UInt8) (s:BSt),s.ok lo hi→accA (betStep lo hi) (betEnds lo) s u=within lo hi s u
 | [],s,hs=>by
  unfold accA betEnds within
  obtain ⟨l,h⟩:=s
  have e2:∀ k,leB [] (hi.drop k)=true:=fun k=>rfl
  have e1:∀ k,l=some k→decide (k=lo.length)=leB (lo.drop k) []:=fun k e=>by
   have hk:=hs.1 k e
   cases hd:lo.drop k with
   | nil =>
    have:=congrArg List.length hd
    simp at this
    rw [decide_eq_true (by omega)]
    rfl
   | cons b r =>
    have:=congrArg List.length hd
    simp at this
    rw [decide_eq_false (by omega)]
    rfl
  cases l with
  | none =>
   cases h with
   | none=>rfl
   | some k=>rfl
  | some k =>
   simp only
   rw [e1 k rfl]
   cases h with
   | none=>simp
   | some j=>simp only; rw [e2,Bool.and_true]
 | c :: u,s,hs=>by
  unfold accA
  rw [within_step]
  cases h:betStep lo hi s c with
  | none=>rfl
  | some t =>
   exact between_reads lo hi u t (betStep_ok hs h)
theorem betStart_ok (lo hi:List UInt8):(betStart hi).ok lo hi:=by
 refine ⟨fun k hk=>?_,fun k hk=>?_⟩
 ·cases hk; exact Nat.zero_le _
 ·unfold betStart at hk
  simp only at hk
  split at hk
  ·cases hk
  ·cases hk; exact Nat.zero_le _
end Go.Proofs.Ts
namespace Go.Proofs.Ts
open Go Go.RowKit
def Cells (w w':World):Prop:=w.heap.size≤w'.heap.size ∧ ∀ (k:Nat) cs t r,w.heap[k]?=some (.cells cs t r)→t≠168→w'.heap[k]?=w.heap[k]?
theorem Cells.trans {a b c:World} (h:Cells a b) (k:Cells b c):Cells a c:=⟨Nat.le_trans h.1 k.1,fun j cs t r h1 h2=>(k.2 j cs t r ((h.2 j cs t r h1 h2).trans h1) h2).trans (h.2 j cs t r h1 h2)⟩
theorem Cells.below {w w':World} (h:Below w.heap.size w w'):Cells w w':=⟨h.size,fun k cs t r hk _=>h.block k (Array.getElem?_eq_some_iff.1 hk).1⟩
def stillT:List Nat:=[436,352,447,440,412,415,456,21,310,248,134,207,242,172]
def Still (t:Nat):Prop:=t∈stillT
instance (t:Nat):Decidable (Still t):=inferInstanceAs (Decidable (t∈stillT))
def StillKept (w w':World):Prop:=∀ (k:Nat) cs t r,w.heap[k]?=some (.cells cs t r)→Still t→w'.heap[k]?=w.heap[k]?
def BlockIn (w:World) (q:Nat × Array Value × TypeId):Prop:=w.heap[q.1]?=some (.cells q.2.1 q.2.2 (0,0))
structure Goes (w:World) (fv:Value) (acc:List UInt8→Bool):Prop where
 ex:∃ (f ab:Nat) (bl:List (Nat × Array Value × TypeId)),fv = .func (.func f) #[] #[ptrV ab]∧(∀ q∈bl,BlockIn w q∧(q.2.2≠168∧Still q.2.2))∧(∀ args w,(callFunc f args).run Tryz.prog w = .ok (.enter f args) w) ∧
  ∀ w1,(∀ q∈bl,BlockIn w1 q) → ∀ (db:Nat) (R:Nat→Prop) (Λ:Nat→List Word) (ρ:Nat→Nat) (D:List DS) (g:Nat) (lb:Array Value),(∀ args w,(callFunc g args).run Tryz.prog w = .ok (.enter g args) w) →
   DictIs w1 db R Λ ρ D→(Λ 0).length≤1000000 → ∀ J Jx:List (List UInt8 × Nat)→World→Prop,(∀ ys wa wb,J ys wa→StepsB w1.heap.size wa wb→J ys wb) →
   (∀ ys t i wa,J ys wa→ys++[(t,i)] <+: hits acc (Λ 0) 0→Calls Tryz.prog g (#[strV t,intV i]++lb) wa fun e wb=>KeepT wa wb∧((e = .returned (.bool true)∧J (ys++[(t,i)]) wb)∨(e = .returned (.bool false)∧Jx (ys++[(t,i)]) wb))) →
   J [] w1→Calls Tryz.prog f #[ptrV db,.func (.func g) #[] lb,ptrV ab] w1 fun e w'=>e = .returned (.tuple #[])∧KeepT w1 w'∧(J (hits acc (Λ 0) 0) w' ∨ ∃ zs,zs <+: hits acc (Λ 0) 0∧Jx zs w')
theorem Goes.kept {w w':World} {fv:Value} {acc:List UInt8→Bool} (h:Goes w fv acc) (hk:∀ (k:Nat) cs t r,w.heap[k]?=some (.cells cs t r)→t≠168→w'.heap[k]?=w.heap[k]?):Goes w' fv acc:=by
 obtain ⟨f,ab,bl,h1,h2,h3,h4⟩:=h.ex
 exact ⟨f,ab,bl,h1,fun q hq=>⟨(hk _ _ _ _ (h2 q hq).1 (h2 q hq).2.1).trans (h2 q hq).1,(h2 q hq).2⟩,h3,h4⟩
theorem Goes.still {w w':World} {fv:Value} {acc:List UInt8→Bool} (h:Goes w fv acc) (hk:StillKept w w'):Goes w' fv acc:=by
 obtain ⟨f,ab,bl,h1,h2,h3,h4⟩:=h.ex
 exact ⟨f,ab,bl,h1,fun q hq=>⟨(hk _ _ _ _ (h2 q hq).1 (h2 q hq).2.2).trans (h2 q hq).1,(h2 q hq).2⟩,h3,h4⟩
theorem goes_int {iv:Value} {ok:Nat→Prop} {step:Nat→UInt8→Option Nat} {ends:Nat→Bool} {s0:Nat} (hA:AutI iv ok step ends) (hS0:AutS iv s0) (hok0:ok s0) {w:World} {ab:Nat}
  (hab:w.heap[ab]?=some (.cells #[iv] 436 (0,0))) {acc:List UInt8→Bool} (hacc:∀ u,accA step ends s0 u=acc u):Goes w (.func (.func 239) #[] #[ptrV ab]) acc:=by
 obtain rfl:accA step ends s0=acc:=funext hacc
 exact ⟨_,ab,[(ab,#[iv],436)],rfl,fun q hq=>by
  obtain rfl:=List.mem_singleton.1 hq
  exact ⟨hab,of_decide_eq_true rfl⟩,enters_of Tryz.func239 (by kernel_rfl) rfl,fun w1 h1 db R Λ ρ D g lb eg hd hl J Jx hJ hY hj0=>over_any hA hS0 hok0 g lb eg ab w1 hd hl (h1 _ List.mem_cons_self) J Jx hJ hY hj0⟩
inductive EV where
 | no (k:Int)
 | bad (k i:Int)
def EV.num:EV→Int
 | .no k | .bad k _=>k
def EV.place:EV→Int
 | .no _=>-1
 | .bad _ i=>i
def ErrIs (w:World) (ev:Value):EV→Prop
 | .no k=>ev=errnoV k
 | .bad k i=>∃ b,ev = .iface 129 (ptrV b)∧w.heap[b]?=some (.cells #[.int .i64 k,.int .i64 i] 134 (0,0))
theorem ErrIs.kept {w w':World} {ev:Value} {e:EV} (h:ErrIs w ev e) (hk:∀ (k:Nat) cs t r,w.heap[k]?=some (.cells cs t r)→t≠168→w'.heap[k]?=w.heap[k]?):ErrIs w' ev e:=by
 cases e with
 | no k=>exact h
 | bad k i =>
  obtain ⟨b,h1,h2⟩:=h
  exact ⟨b,h1,(hk _ _ _ _ h2 (by decide)).trans h2⟩
theorem ErrIs.some {w:World} {ev:Value} {e:EV} (h:ErrIs w ev e):∃ T v,ev = .iface T v:=by
 cases e with
 | no k=>exact ⟨_,_,h⟩
 | bad k i =>
  obtain ⟨b,h1,h2⟩:=h
  exact ⟨_,_,h1⟩
open Classical in
noncomputable def patAcc (P:Parsed) (st:Nat):Option (List UInt8→Bool):=match P with
 | .ok x=>if (PM.compile x).wide st then none else Option.some fun u=>(PM.compile x).reads beginSet u
 | _=>none
open Classical in
noncomputable def patErr (P:Parsed) (st:Nat):Option EV:=match P with
 | .fault i=>Option.some (.bad 6 i)
 | .big=>Option.some (.no 9)
 | .ok x=>if (PM.compile x).wide st then Option.some (.no 9) else none
noncomputable def accOf (q:Asked):Option (List UInt8→Bool) :=
 if q.a.length≤40 then (if q.kind=1 then some (fun u=>decide (u=q.a)) else if q.kind=2 then some (fun u=>decide (q.a <+: u))
  else if q.kind=6∧nearBad ⟨q.a.toArray⟩ q.n=none then some (accA (nstep (runesR ⟨q.a.toArray⟩) q.n.toNat) (nends (runesR ⟨q.a.toArray⟩) q.n.toNat) nstart)
  else if q.kind=5 then patAcc (parseP ⟨q.a.toArray⟩) q.states.toNat else if q.kind=4 then patAcc (wildP ⟨q.a.toArray⟩) q.states.toNat
  else if q.kind=3∧q.b.length≤40 then some (fun u=>accA (betStep q.a q.b) (betEnds q.a) (betStart q.b) u) else none) else none
noncomputable def errOf (q:Asked):Option EV :=
 if q.a.length≤40 then (if q.kind=6 then (nearBad ⟨q.a.toArray⟩ q.n).map EV.no else if q.kind=5 then patErr (parseP ⟨q.a.toArray⟩) q.states.toNat
  else if q.kind=4 then patErr (wildP ⟨q.a.toArray⟩) q.states.toNat else if q.kind=3∧40 < q.b.length then some (.no 2) else none)
 else if 1≤q.kind∧q.kind≤6 then some (.no 2) else none
theorem ErrIs.still {w w':World} {ev:Value} {e:EV} (h:ErrIs w ev e) (hk:StillKept w w'):ErrIs w' ev e:=by
 cases e with
 | no k=>exact h
 | bad k i =>
  obtain ⟨b,h1,h2⟩:=h
  exact ⟨b,h1,(hk _ _ _ _ h2 (by decide)).trans h2⟩
structure PlanFor (w:World) (q:Asked) (pb:Nat):Prop where
 goes:∀ acc,accOf q=some acc → ∃ fv,w.heap[pb]?=some (.cells #[fv,.nilIface] 248 (0,0))∧Goes w fv acc
 errs:∀ k,errOf q=some k → ∃ fv ev,w.heap[pb]?=some (.cells #[fv,ev] 248 (0,0))∧ErrIs w ev k
theorem PlanFor.kept {w w':World} {q:Asked} {pb:Nat} (h:PlanFor w q pb) (hk:∀ (k:Nat) cs t r,w.heap[k]?=some (.cells cs t r)→t≠168→w'.heap[k]?=w.heap[k]?):PlanFor w' q pb :=
 ⟨fun acc ha=>by
  obtain ⟨fv,h1,h2⟩:=h.goes acc ha
  exact ⟨fv,(hk _ _ _ _ h1 (by decide)).trans h1,h2.kept hk⟩,fun k he=>by
  obtain ⟨fv,ev,h1,h2⟩:=h.errs k he
  exact ⟨fv,ev,(hk _ _ _ _ h1 (by decide)).trans h1,h2.kept hk⟩⟩
theorem PlanFor.still {w w':World} {q:Asked} {pb:Nat} (h:PlanFor w q pb) (hk:StillKept w w'):PlanFor w' q pb :=
 ⟨fun acc ha=>by
  obtain ⟨fv,h1,h2⟩:=h.goes acc ha
  exact ⟨fv,(hk _ _ _ _ h1 (by decide)).trans h1,h2.still hk⟩,fun k he=>by
  obtain ⟨fv,ev,h1,h2⟩:=h.errs k he
  exact ⟨fv,ev,(hk _ _ _ _ h1 (by decide)).trans h1,h2.still hk⟩⟩
def askV (q:Asked):Value := .agg #[.int .i64 q.kind,strV q.a,strV q.b,.int .i64 q.n]
def CompileOk (w0:World) (q:Asked):Prop:=∀ w,Cells w0 w→Calls Tryz.prog 167 #[askV q,.int .i64 q.states] w fun e w'=>∃ pb,e = .returned (ptrV pb)∧Below w.heap.size w w'∧w.heap.size≤pb∧PlanFor w' q pb
theorem CompileOk.kept {w0 w1:World} {q:Asked} (h:CompileOk w0 q) (hc:Cells w0 w1):CompileOk w1 q:=fun w hw=>h w (hc.trans hw)
theorem compile_one {w0:World} {a b:List UInt8} {n st:Int} (ha:a.length≤40):CompileOk w0 ⟨1,a,b,n,st⟩:=fun w _=>by
 refine (compile_word ⟨a.toArray⟩ ⟨b.toArray⟩ n st w ha).mono ?_
 rintro e w' ⟨pb,he,hb,hp,ab,h1,h2⟩
 refine ⟨pb,he,hb,hp,⟨fun acc hacc=>⟨_,h1,?_⟩,fun k hk=>by simp [errOf,ha] at hk⟩⟩
 have hs:ByteArray.size ⟨a.toArray⟩=a.length:=by simp [ByteArray.size]
 refine goes_int (exact_aut ⟨a.toArray⟩ (by omega)) (exact_start _) (Nat.zero_le _) h2 fun u=>?_
 have h:=exact_reads ⟨a.toArray⟩ u 0 (Nat.zero_le _)
 simp only [accOf,if_pos ha,if_true,Option.some.injEq] at hacc
 subst hacc
 rw [Bool.eq_iff_iff,h]
 simp
theorem compile_two {w0:World} {a b:List UInt8} {n st:Int} (ha:a.length≤40):CompileOk w0 ⟨2,a,b,n,st⟩:=fun w _=>by
 refine (compile_pre ⟨a.toArray⟩ ⟨b.toArray⟩ n st w ha).mono ?_
 rintro e w' ⟨pb,he,hb,hp,ab,h1,h2⟩
 refine ⟨pb,he,hb,hp,⟨fun acc hacc=>⟨_,h1,?_⟩,fun k hk=>by simp [errOf,ha] at hk⟩⟩
 have hs:ByteArray.size ⟨a.toArray⟩=a.length:=by simp [ByteArray.size]
 refine goes_int (begins_aut ⟨a.toArray⟩ (by omega)) (begins_start _) (Nat.zero_le _) h2 fun u=>?_
 have h:=begins_reads ⟨a.toArray⟩ u 0 (Nat.zero_le _)
 have h21:¬ (2:Int)=1:=by decide
 simp only [accOf,if_pos ha,if_neg h21,if_true,Option.some.injEq] at hacc
 subst hacc
 rw [Bool.eq_iff_iff,h]
 simp
end Go.Proofs.Ts
namespace Go.Proofs.Ts
open Go Go.RowKit Go.MuLone
def KnownIs (B:Nat) (w:World) (kn:Value):Prop :=
 kn = .map none ∨ ∃ (km:Nat) (m:List (Asked × Value)),kn = .map (some km)∧B≤km∧MapIs askedV w km m∧Apart m ∧ ∀ q v,get m q=some v → ∃ pb,v=ptrV pb∧PlanFor w q pb
def KnNew (w:World) (kn kn':Value):Prop:=kn'=kn ∨ ∃ j,kn' = .map (some j)∧w.heap.size≤j
theorem KnNew.up {w w':World} {kn kn':Value} (h:KnNew w' kn kn') (hs:w.heap.size≤w'.heap.size):KnNew w kn kn':=h.imp id fun ⟨j,h1,h2⟩=>⟨j,h1,Nat.le_trans hs h2⟩
theorem Cells.same {w w':World} (h:Same w w'):Cells w w':=by
 obtain ⟨n,rfl⟩:=h
 exact ⟨Nat.le_refl _,fun _ _ _ _ _ _=>rfl⟩
theorem Cells.seg {w:World} {sb i:Nat} {cs:Array Value} {r:Nat × Nat} {v:Value} (h:w.heap[sb]?=some (.cells cs 168 r)):Cells w (w.setCell ⟨sb,i,none⟩ v):=by
 refine ⟨by simp,fun k cs' t r' hk ht=>Below.heap_setCell w _ _ k fun e=>?_⟩
 simp only at e
 rw [e,h] at hk
 cases hk
 exact ht rfl
theorem Cells.map {w w':World} {km:Nat} {es:Array MapEntry} {c:Nat} (h:w.heap[km]?=some (.map es c)) (hg:w.grownBy w' (some km)):Cells w w' :=
 ⟨hg.size,fun k cs t r hk _=>hg.block k (Array.getElem?_eq_some_iff.1 hk).1 fun e=>by
  cases e
  rw [h] at hk
  cases hk⟩
theorem KnownIs.kept {B:Nat} {w w':World} {kn:Value} (h:KnownIs B w kn) (hc:Cells w w') (hm:∀ km,kn = .map (some km)→w'.heap[km]?=w.heap[km]?):KnownIs B w' kn:=by
 rcases h with h | ⟨km,m,h1,hB,h2,h3,h4⟩
 ·exact .inl h
 ·exact .inr ⟨km,m,h1,hB,h2.of_block (hm km h1),h3,fun q v hv=>by
   obtain ⟨pb,e,hp⟩:=h4 q v hv
   exact ⟨pb,e,hp.kept hc.2⟩⟩
def segObj (nd db:Nat) (pv:Value) (l:Int) (kn:Value):Obj := .cells #[.int .i64 nd,.pointer (some ⟨db,0,none⟩),pv,.int .i32 l,.int .u32 0,kn] 168 (0,0)
theorem seg_unlock {B:Nat} {w Wf:World} {sb nd db:Nat} {pv kn:Value} {q:Asked} {pb:Nat} (h:Wf.heap[sb]?=some (segObj nd db pv 1 kn)) (hk:KnownIs B Wf kn) (hp:PlanFor Wf q pb) (hc:Cells w Wf) (hb:Below B w Wf) (hsb:B≤sb) :
  PlanFor (Wf.setCell ⟨sb,3,none⟩ (.int .i32 0)) q pb∧Cells w (Wf.setCell ⟨sb,3,none⟩ (.int .i32 0))∧Below B w (Wf.setCell ⟨sb,3,none⟩ (.int .i32 0))∧(Wf.setCell ⟨sb,3,none⟩ (.int .i32 0)).heap[sb]?=some (segObj nd db pv 0 kn)∧KnownIs B (Wf.setCell ⟨sb,3,none⟩ (.int .i32 0)) kn:=by
 have hcs:Cells Wf (Wf.setCell ⟨sb,3,none⟩ (.int .i32 0)):=Cells.seg h
 refine ⟨hp.kept hcs.2,hc.trans hcs,hb.setCell (p:=⟨sb,3,none⟩) hsb _,heap_setCell_same _ sb 3 _ _ _ h,hk.kept hcs fun km e=>Below.heap_setCell _ _ _ _ fun e'=>?_⟩
 rcases hk with h' | ⟨km',m,h',_,hmi,_⟩
 ·rw [h'] at e; cases e
 ·rw [h'] at e
  cases e
  obtain ⟨es,c,hm,_⟩:=hmi
  simp only at e'
  rw [e',h] at hm
  cases hm
theorem Mod.grownS {S:Nat→Prop} {w a b:World} {km:Nat} (h:Mod S w a) (hg:a.grownBy b (some km)) (hk:km < w.heap.size→S km):Mod S w b :=
 ⟨hg.os.trans h.os,hg.tape.trans h.tape,hg.output.trans h.output,Nat.le_trans h.size hg.size,fun j hj hn=>(hg.block j (Nat.lt_of_lt_of_le hj h.size) (fun e=>by
  have e':j=km:=Option.some.inj e
  subst e'
  exact hn (hk hj))).trans (h.block j hj hn)⟩
set_option maxRecDepth 100000 in
set_option maxHeartbeats 4000000 in
theorem plan_any (B:Nat) (q:Asked) (sb nd db:Nat) (pv kn:Value) (w:World) (hB:B≤w.heap.size) (hsb:B≤sb)
  (hsg:w.heap[sb]?=some (segObj nd db pv 0 kn)) (hkn:KnownIs B w kn)
  (hcomp:CompileOk w q) :
  Calls Tryz.prog 119 #[ptrV sb,askV q,.int .i64 q.states] w fun e w'=>∃ pb kn',e = .returned (ptrV pb)∧PlanFor w' q pb∧Cells w w'∧Below B w w'∧w'.heap[sb]?=some (segObj nd db pv 0 kn')∧KnownIs B w' kn'∧Mod (fun j=>j=sb∨kn = .map (some j)) w w'∧KnNew w kn kn':=by
 have hsbl:=(Array.getElem?_eq_some_iff.1 hsg).1
 have s3:w.cell? ⟨sb,3,none⟩=some (.int .i32 0):=cell_block hsg
 have HSG:=Lib.hid hsg
 have HKN:=Lib.hid hkn
 have HCOMP:=Lib.hid hcomp
 have hmm:=@run_makeMap Tryz.prog
 clear hsg hkn hcomp
 unfold ptrV askV strV
 go_enter_defers Tryz.func119,Tryz.ntmps119
 go_wp2_with fail
 have l3:(w.alloc (.cells #[.int .i64 q.kind,.string ⟨q.a.toArray⟩,.string ⟨q.b.toArray⟩,.int .i64 q.n] 34)).cell? ⟨sb,3,none⟩=some (.int .i32 0):=(World.cell?_alloc_lt w _ _ (lt_of_cell s3)).trans s3
 have lsg:(w.alloc (.cells #[.int .i64 q.kind,.string ⟨q.a.toArray⟩,.string ⟨q.b.toArray⟩,.int .i64 q.n] 34)).heap[sb]?=some (segObj nd db pv 0 kn):=(Below.heap_alloc w _ sb hsbl).trans HSG.out
 refine (lock_free Tryz.muLib ⟨sb,3,none⟩ _ l3 (free_block lsg)).mono ?_
 rintro e w' ⟨rfl,rfl⟩
 have hw1:((w.alloc (.cells #[.int .i64 q.kind,.string ⟨q.a.toArray⟩,.string ⟨q.b.toArray⟩,.int .i64 q.n] 34)).setCell ⟨sb,3,none⟩ (.int .i32 1)).heap[sb]?=some (segObj nd db pv 1 kn):=heap_setCell_same _ sb 3 _ _ _ lsg
 have hqb:((w.alloc (.cells #[.int .i64 q.kind,.string ⟨q.a.toArray⟩,.string ⟨q.b.toArray⟩,.int .i64 q.n] 34)).setCell ⟨sb,3,none⟩ (.int .i32 1)).heap[w.heap.size]?=some (.cells #[.int .i64 q.kind,.string ⟨q.a.toArray⟩,.string ⟨q.b.toArray⟩,.int .i64 q.n] 34 (0,0)):=by
  rw [Below.heap_setCell _ _ _ _ (by simp only; omega)]
  exact heap_alloc_new w _
 have hce1:Cells w ((w.alloc (.cells #[.int .i64 q.kind,.string ⟨q.a.toArray⟩,.string ⟨q.b.toArray⟩,.int .i64 q.n] 34)).setCell ⟨sb,3,none⟩ (.int .i32 1)):=(Cells.below ((Below.refl _ w).alloc (Nat.le_refl _) _)).trans (Cells.seg lsg)
 have hbe1:Below B w ((w.alloc (.cells #[.int .i64 q.kind,.string ⟨q.a.toArray⟩,.string ⟨q.b.toArray⟩,.int .i64 q.n] 34)).setCell ⟨sb,3,none⟩ (.int .i32 1)):=((Below.refl B w).alloc hB _).setCell (p:=⟨sb,3,none⟩) hsb _
 have hmo1:Mod (fun j=>j=sb∨kn = .map (some j)) w ((w.alloc (.cells #[.int .i64 q.kind,.string ⟨q.a.toArray⟩,.string ⟨q.b.toArray⟩,.int .i64 q.n] 34)).setCell ⟨sb,3,none⟩ (.int .i32 1)):=(below_mod ((Below.refl _ w).alloc (Nat.le_refl _) _)).trans (Mod.setCell _ _ _ fun _ => .inl rfl)
 have hkn1:KnownIs B ((w.alloc (.cells #[.int .i64 q.kind,.string ⟨q.a.toArray⟩,.string ⟨q.b.toArray⟩,.int .i64 q.n] 34)).setCell ⟨sb,3,none⟩ (.int .i32 1)) kn:=HKN.out.kept hce1 fun km e=>by
  rcases HKN.out with h | ⟨km',m,h,_,hmi,_⟩
  ·rw [h] at e; cases e
  ·rw [h] at e
   cases e
   have hl:=hmi.lt
   rw [Below.heap_setCell _ _ _ _ (fun e=>?_),Below.heap_alloc _ _ _ hl]
   obtain ⟨es,c,hm,_⟩:=hmi
   simp only at e
   have h2:=HSG.out
   rw [← e,hm] at h2
   cases h2
 have hsz1:((w.alloc (.cells #[.int .i64 q.kind,.string ⟨q.a.toArray⟩,.string ⟨q.b.toArray⟩,.int .i64 q.n] 34)).setCell ⟨sb,3,none⟩ (.int .i32 1)).heap.size=w.heap.size+1:=by simp
 clear l3 lsg s3
 generalize ((w.alloc (.cells #[.int .i64 q.kind,.string ⟨q.a.toArray⟩,.string ⟨q.b.toArray⟩,.int .i64 q.n] 34)).setCell ⟨sb,3,none⟩ (.int .i32 1))=w1 at *
 have q0:w1.cell? ⟨w.heap.size,0,none⟩=some (.int .i64 q.kind):=cell_block hqb
 have q1:w1.cell? ⟨w.heap.size,1,none⟩=some (.string ⟨q.a.toArray⟩):=cell_block hqb
 have q2:w1.cell? ⟨w.heap.size,2,none⟩=some (.string ⟨q.b.toArray⟩):=cell_block hqb
 have q3:w1.cell? ⟨w.heap.size,3,none⟩=some (.int .i64 q.n):=cell_block hqb
 have HW1:=Lib.hid hw1
 have HQB:=Lib.hid hqb
 have HCE1:=Lib.hid hce1
 have HBE1:=Lib.hid hbe1
 have HMO1:=Lib.hid hmo1
 have HKN1:=Lib.hid hkn1
 clear hw1 hqb hce1 hbe1 hkn1 hmo1
 go_wp2_with fail
 have hsbl1:=lt_of_heap HW1.out
 have hw2:(w1.alloc (.cells #[.int .i64 q.kind,.string ⟨q.a.toArray⟩,.string ⟨q.b.toArray⟩,.int .i64 q.n,.int .i64 q.states] 348)).heap[sb]?=some (segObj nd db pv 1 kn):=(Below.heap_alloc w1 _ sb hsbl1).trans HW1.out
 have hqb2:(w1.alloc (.cells #[.int .i64 q.kind,.string ⟨q.a.toArray⟩,.string ⟨q.b.toArray⟩,.int .i64 q.n,.int .i64 q.states] 348)).heap[w.heap.size]?=some (.cells #[.int .i64 q.kind,.string ⟨q.a.toArray⟩,.string ⟨q.b.toArray⟩,.int .i64 q.n] 34 (0,0)):=(Below.heap_alloc w1 _ _ (lt_of_heap HQB.out)).trans HQB.out
 have hkb2:(w1.alloc (.cells #[.int .i64 q.kind,.string ⟨q.a.toArray⟩,.string ⟨q.b.toArray⟩,.int .i64 q.n,.int .i64 q.states] 348)).heap[w.heap.size+1]?=some (.cells #[.int .i64 q.kind,.string ⟨q.a.toArray⟩,.string ⟨q.b.toArray⟩,.int .i64 q.n,.int .i64 q.states] 348 (0,0)):=by
  have:=heap_alloc_new w1 (.cells #[.int .i64 q.kind,.string ⟨q.a.toArray⟩,.string ⟨q.b.toArray⟩,.int .i64 q.n,.int .i64 q.states] 348)
  rw [hsz1] at this
  exact this
 have hca2:Cells w1 (w1.alloc (.cells #[.int .i64 q.kind,.string ⟨q.a.toArray⟩,.string ⟨q.b.toArray⟩,.int .i64 q.n,.int .i64 q.states] 348)):=Cells.below ((Below.refl _ w1).alloc (Nat.le_refl _) _)
 have hce2:=HCE1.out.trans hca2
 have hbe2:Below B w (w1.alloc (.cells #[.int .i64 q.kind,.string ⟨q.a.toArray⟩,.string ⟨q.b.toArray⟩,.int .i64 q.n,.int .i64 q.states] 348)):=HBE1.out.alloc (by omega) _
 have hmo2:Mod (fun j=>j=sb∨kn = .map (some j)) w (w1.alloc (.cells #[.int .i64 q.kind,.string ⟨q.a.toArray⟩,.string ⟨q.b.toArray⟩,.int .i64 q.n,.int .i64 q.states] 348)):=HMO1.out.trans (below_mod ((Below.refl _ w1).alloc (Nat.le_refl _) _))
 have hkn2:KnownIs B (w1.alloc (.cells #[.int .i64 q.kind,.string ⟨q.a.toArray⟩,.string ⟨q.b.toArray⟩,.int .i64 q.n,.int .i64 q.states] 348)) kn:=HKN1.out.kept hca2 fun km e=>by
  rcases HKN1.out with h | ⟨km',m,h,_,hmi,_⟩
  ·rw [h] at e; cases e
  ·rw [h] at e
   cases e
   exact Below.heap_alloc w1 _ _ hmi.lt
 have hsz2:(w1.alloc (.cells #[.int .i64 q.kind,.string ⟨q.a.toArray⟩,.string ⟨q.b.toArray⟩,.int .i64 q.n,.int .i64 q.states] 348)).heap.size=w.heap.size+2:=by simp; omega
 clear HW1 HQB HCE1 HBE1 HKN1 hca2 hsbl1 q0 q1 q2 q3 HMO1
 generalize (w1.alloc (.cells #[.int .i64 q.kind,.string ⟨q.a.toArray⟩,.string ⟨q.b.toArray⟩,.int .i64 q.n,.int .i64 q.states] 348))=w2 at *
 have hlook:∃ (r:Value) (ok:Bool),(∀ m,(Instr.lookup 166 kn (.agg #[.int .i64 q.kind,.string ⟨q.a.toArray⟩,.string ⟨q.b.toArray⟩,.int .i64 q.n,.int .i64 q.states]) true).run Tryz.prog (w2.drewN m) = .ok (.tuple #[r,.bool ok]) (w2.drewN m)) ∧
   (ok=true → ∃ pb,r = .pointer (some ⟨pb,0,none⟩)∧PlanFor w2 q pb):=by
  rcases hkn2 with h | ⟨km,m,h,hBk,hmi,hap,hall⟩
  ·refine ⟨.pointer none,false,fun n=>?_,fun h=>by cases h⟩
   rw [h]
   exact lookup_nil asked_law (w:=w2.drewN n) q trivial Tryz.underlying166 (z := .pointer none) (by kernel_rfl) true
  ·refine ⟨(get m q).getD (.pointer none),(get m q).isSome,fun n=>?_,fun hs=>?_⟩
   ·rw [h]
    exact MapIs.lookup asked_law (hmi.of_block (w':=w2.drewN n) rfl) q trivial (fun _ _=>trivial) Tryz.underlying166 (z := .pointer none) (by kernel_rfl) true
   ·obtain ⟨v,hv⟩:=Option.isSome_iff_exists.1 hs
    obtain ⟨pb,e,hp⟩:=hall q v hv
    rw [hv]
    exact ⟨pb,e,hp⟩
 obtain ⟨r,ok,hlk,hok⟩:=hlook
 have c5:w2.cell? ⟨sb,5,none⟩=some kn:=cell_block hw2
 have k0:w2.cell? ⟨w.heap.size+1,0,none⟩=some (.int .i64 q.kind):=cell_block hkb2
 have k1:w2.cell? ⟨w.heap.size+1,1,none⟩=some (.string ⟨q.a.toArray⟩):=cell_block hkb2
 have k2:w2.cell? ⟨w.heap.size+1,2,none⟩=some (.string ⟨q.b.toArray⟩):=cell_block hkb2
 have k3:w2.cell? ⟨w.heap.size+1,3,none⟩=some (.int .i64 q.n):=cell_block hkb2
 have k4:w2.cell? ⟨w.heap.size+1,4,none⟩=some (.int .i64 q.states):=cell_block hkb2
 have HW2:=Lib.hid hw2
 have HQB2:=Lib.hid hqb2
 have HKB2:=Lib.hid hkb2
 have HCE2:=Lib.hid hce2
 have HBE2:=Lib.hid hbe2
 have HMO2:=Lib.hid hmo2
 have HKN2:=Lib.hid hkn2
 have HOK:=Lib.hid hok
 clear hw2 hqb2 hkb2 hce2 hbe2 hkn2 hok hmo2
 go_quiet (fail)
 have hS3:Same w2 (w2.drewN nq):=Same.drewN _ _
 generalize w2.drewN nq=w3 at *
 cases ok with
 | true =>
  obtain ⟨pb,rfl,hpf⟩:=HOK.out rfl
  have hsf:w3.heap[sb]?=some (segObj nd db pv 1 kn):=by rw [hS3.heap]; exact HW2.out
  have HSF:=Lib.hid hsf
  have HKF:=Lib.hid (HKN2.out.kept (Cells.same hS3) fun km _=>by rw [hS3.heap])
  have HPF:=Lib.hid (hpf.kept (Cells.same hS3).2)
  have HCF:=Lib.hid (HCE2.out.trans (Cells.same hS3))
  have HBF:=Lib.hid (HBE2.out.trans (hS3.below B))
  have HMF:=Lib.hid (HMO2.out.trans (Mod.same hS3))
  clear hpf c5 k0 k1 k2 k3 k4 hlk hsf
  go_wp2_with fail
  refine leaves_cons (f:=166) (args:=#[.pointer (some ⟨sb,3,none⟩)]) (by simp) (by simp [go_sem]) ?_
  refine (unlock_deferred Tryz.muLib ⟨sb,3,none⟩ .returning _ (cell_block HSF.out) (free_block HSF.out)).mono ?_
  rintro e u' w'' ⟨rfl,rfl,rfl⟩
  obtain ⟨u1,u2,u3,u4,u5⟩:=seg_unlock HSF.out HKF.out HPF.out HCF.out HBF.out hsb
  have u6:=HMF.out.trans (Mod.setCell _ ⟨sb,3,none⟩ (.int .i32 0) fun _ => .inl rfl)
  refine ⟨_,results_tmp rfl _ _ _,?_⟩
  first
   | exact ⟨_,_,rfl,u1,u2,u3,u4,u5,u6,(by first | exact .inl rfl | exact .inr ⟨_,rfl,Nat.ge_of_not_lt fun h=>HKS5.out _ rfl h⟩)⟩
   | exact ⟨_,rfl,u1,u2,u3,_,u4,u5,u6,(by first | exact .inl rfl | exact .inr ⟨_,rfl,Nat.ge_of_not_lt fun h=>HKS5.out _ rfl h⟩)⟩
 | false =>
  have hq3:w3.heap[w.heap.size]?=some (.cells #[.int .i64 q.kind,.string ⟨q.a.toArray⟩,.string ⟨q.b.toArray⟩,.int .i64 q.n] 34 (0,0)):=(congrArg (fun h:Array Obj=>h[w.heap.size]?) hS3.heap).trans HQB2.out
  have q0:w3.cell? ⟨w.heap.size,0,none⟩=some (.int .i64 q.kind):=cell_block hq3
  have q1:w3.cell? ⟨w.heap.size,1,none⟩=some (.string ⟨q.a.toArray⟩):=cell_block hq3
  have q2:w3.cell? ⟨w.heap.size,2,none⟩=some (.string ⟨q.b.toArray⟩):=cell_block hq3
  have q3:w3.cell? ⟨w.heap.size,3,none⟩=some (.int .i64 q.n):=cell_block hq3
  clear hq3 c5 k0 k1 k2 k3 k4 hlk
  go_wp2_with fail
  have hcc:=HCOMP.out w3 (HCE2.out.trans (Cells.same hS3))
  unfold askV strV at hcc
  refine hcc.mono ?_
  rintro e w4 ⟨pb,rfl,hb4,hpbge,hpf4⟩
  have hsz3:w3.heap.size=w.heap.size+2:=by rw [hS3.heap]; exact hsz2
  have hsb4:w4.heap[sb]?=some (segObj nd db pv 1 kn):=(hb4.block sb (by omega)).trans ((congrArg (fun h:Array Obj=>h[sb]?) hS3.heap).trans HW2.out)
  have hkb4:w4.heap[w.heap.size+1]?=some (.cells #[.int .i64 q.kind,.string ⟨q.a.toArray⟩,.string ⟨q.b.toArray⟩,.int .i64 q.n,.int .i64 q.states] 348 (0,0)):=(hb4.block (w.heap.size+1) (by omega)).trans ((congrArg (fun h:Array Obj=>h[w.heap.size+1]?) hS3.heap).trans HKB2.out)
  have hc34:Cells w2 w4:=(Cells.same hS3).trans (Cells.below hb4)
  have hkn4:KnownIs B w4 kn:=HKN2.out.kept hc34 fun km e=>by
   rcases HKN2.out with h | ⟨km',m,h,_,hmi,_⟩
   ·rw [h] at e; cases e
   ·rw [h] at e
    cases e
    exact (hb4.block _ (by rw [hS3.heap]; exact hmi.lt)).trans (by rw [hS3.heap])
  have hce4:=HCE2.out.trans hc34
  have hbe4:Below B w w4:=(HBE2.out.trans (hS3.below B)).trans (hb4.mono (by omega))
  have hmo4:Mod (fun j=>j=sb∨kn = .map (some j)) w w4:=(HMO2.out.trans (Mod.same hS3)).trans (below_mod hb4)
  have c5:w4.cell? ⟨sb,5,none⟩=some kn:=cell_block hsb4
  have f5:w4.frozen? ⟨sb,5,none⟩=false:=free_block hsb4
  have hsz4:w.heap.size+2≤w4.heap.size:=by have:=hb4.size; omega
  have HSB4:=Lib.hid hsb4
  have HKB4:=Lib.hid hkb4
  have HKN4:=Lib.hid hkn4
  have HCE4:=Lib.hid hce4
  have HBE4:=Lib.hid hbe4
  have HMO4:=Lib.hid hmo4
  have HPF4:=Lib.hid hpf4
  clear hcc hb4 hpf4 hsb4 hkb4 hc34 hkn4 hce4 hbe4 q0 q1 q2 q3 hmo4
  unfold ptrV
  have qT:∀ (w:World) (r:Option Nat),(binOp .eql 166 (.map r) (.map none)).run Tryz.prog w = .ok (.bool r.isNone) w:=fun w r=>run_eql_map_nil w _ _ _ r Tryz.underlying166
  rcases HKN4.out with h | ⟨km,m,h,hkmB,hmi,hap,hall⟩
  ·subst h
   have lw4:=lt_of_heap HSB4.out
   have fr1:(w4.alloc (.map #[] 0)).frozen? ⟨sb,5,none⟩=false:=free_block ((Below.heap_alloc w4 _ sb lw4).trans HSB4.out)
   have cr1:=(World.cell?_alloc_lt w4 (.map #[] 0) ⟨sb,5,none⟩ lw4).trans c5
   go_wp2_with fail
   have gs5:((w4.setCell ⟨sb,5,none⟩ (.map (some w4.heap.size))).alloc (.map #[] 0)).heap[sb]?=some (segObj nd db pv 1 (.map (some w4.heap.size))):=(Below.heap_alloc _ _ sb (by simpa using lw4)).trans (heap_setCell_same _ sb 5 _ _ _ HSB4.out)
   have lwk:=lt_of_heap HKB4.out
   have gk5:((w4.setCell ⟨sb,5,none⟩ (.map (some w4.heap.size))).alloc (.map #[] 0)).heap[w.heap.size+1]?=some (.cells #[.int .i64 q.kind,.string ⟨q.a.toArray⟩,.string ⟨q.b.toArray⟩,.int .i64 q.n,.int .i64 q.states] 348 (0,0)):=((Below.heap_alloc _ _ _ (by simpa using lwk)).trans (Below.heap_setCell _ _ _ _ (by simp only; omega))).trans HKB4.out
   have gm5:MapIs askedV ((w4.setCell ⟨sb,5,none⟩ (.map (some w4.heap.size))).alloc (.map #[] 0)) w4.heap.size ([]:List (Asked × Value)):=by
    have:=MapIs.made askedV (w4.setCell ⟨sb,5,none⟩ (.map (some w4.heap.size)))
    simpa using this
   have gc5:Cells w4 ((w4.setCell ⟨sb,5,none⟩ (.map (some w4.heap.size))).alloc (.map #[] 0)):=(Cells.seg HSB4.out).trans (Cells.below ((Below.refl _ _).alloc (Nat.le_refl _) _))
   have gb5:Below B w ((w4.setCell ⟨sb,5,none⟩ (.map (some w4.heap.size))).alloc (.map #[] 0)):=(HBE4.out.setCell (p:=⟨sb,5,none⟩) hsb _).alloc (by simp; omega) _
   have hmo5:=(HMO4.out.trans (Mod.setCell w4 ⟨sb,5,none⟩ (.map (some w4.heap.size)) fun _ => .inl rfl)).trans (below_mod ((Below.refl _ (w4.setCell ⟨sb,5,none⟩ (.map (some w4.heap.size)))).alloc (Nat.le_refl _) (.map #[] 0)))
   have HSG5:=Lib.hid gs5
   have HKB5:=Lib.hid gk5
   have HMI5:=Lib.hid gm5
   have HAP5:=Lib.hid (show Apart ([]:List (Asked × Value)) from List.nodup_nil)
   have HALL5:=Lib.hid (show ∀ q' v,get ([]:List (Asked × Value)) q'=some v → ∃ pb,v=ptrV pb∧PlanFor ((w4.setCell ⟨sb,5,none⟩ (.map (some w4.heap.size))).alloc (.map #[] 0)) q' pb from fun q' v hv=>by cases hv)
   have HPF5:=Lib.hid (HPF4.out.kept gc5.2)
   have HCE5:=Lib.hid (HCE4.out.trans gc5)
   have HBE5:=Lib.hid gb5
   have HMO5:=Lib.hid hmo5
   have hkmB5:B≤w4.heap.size:=by omega
   have HKS5:Hid (∀ j,j=w4.heap.size→j < w.heap.size→False):=Lib.hid fun j h1 h2=>by omega
   clear gs5 gk5 gm5 gc5 gb5 cr1 fr1 c5 f5 hmo5
   generalize ((w4.setCell ⟨sb,5,none⟩ (.map (some w4.heap.size))).alloc (.map #[] 0))=W5 at *
   generalize w4.heap.size=km5 at *
   generalize ([]:List (Asked × Value))=m5 at *
   obtain ⟨kb0,kb1,kb2,kb3,kb4⟩:W5.cell? ⟨w.heap.size+1,0,none⟩=some (.int .i64 q.kind)∧W5.cell? ⟨w.heap.size+1,1,none⟩=some (.string ⟨q.a.toArray⟩)∧W5.cell? ⟨w.heap.size+1,2,none⟩=some (.string ⟨q.b.toArray⟩)∧W5.cell? ⟨w.heap.size+1,3,none⟩=some (.int .i64 q.n)∧W5.cell? ⟨w.heap.size+1,4,none⟩=some (.int .i64 q.states):=⟨cell_block HKB5.out,cell_block HKB5.out,cell_block HKB5.out,cell_block HKB5.out,cell_block HKB5.out⟩
   have cs5:W5.cell? ⟨sb,5,none⟩=some (.map (some km5)):=cell_block HSG5.out
   refine wp_region_ordX [(0,false),(1,false),(2,false),(3,false),(4,false),(5,false),(6,true)] 6
    (fun w'=>Same W5 w') (by kernel_rfl) (by kernel_rfl) (Same.drew _) ?_
   iterate 6 (
    refine wpOrd_quiet ?_ rfl rfl (fun w' hS=>?_) ?_
    rotate_left
    ·have f0:=(hS.cell ⟨w.heap.size+1,0,none⟩).trans kb0
     have f1:=(hS.cell ⟨w.heap.size+1,1,none⟩).trans kb1
     have f2:=(hS.cell ⟨w.heap.size+1,2,none⟩).trans kb2
     have f3:=(hS.cell ⟨w.heap.size+1,3,none⟩).trans kb3
     have f4:=(hS.cell ⟨w.heap.size+1,4,none⟩).trans kb4
     have f5:=(hS.cell ⟨sb,5,none⟩).trans cs5
     go_simp
     first | rfl | done
    simp only [put_lit,List.set_cons_succ,List.set_cons_zero])
   refine wpOrd_last rfl rfl (fun K5 hK5=>?_)
   obtain ⟨W6,hrun6,hmap6,hg6,hz6⟩:=MapIs.update asked_law (HMI5.out.of_block (w':=W5.drew) rfl) q trivial (fun _ _=>trivial) Tryz.underlying166 (ptrV pb)
   have hrun6':(Instr.mapUpdate 166 (.map (some km5)) (.agg #[.int .i64 q.kind,.string ⟨q.a.toArray⟩,.string ⟨q.b.toArray⟩,.int .i64 q.n,.int .i64 q.states]) (.pointer (some ⟨pb,0,none⟩))).run Tryz.prog W5.drew = .ok () W6:=hrun6
   clear hrun6
   go_simp
   have hcm:Cells W5 W6:=by
    obtain ⟨es,c,hm,_⟩:=HMI5.out
    exact (Cells.same (Same.drew _)).trans (Cells.map (w:=W5.drew) hm hg6)
   have hne:sb≠km5:=fun e=>by
    obtain ⟨es,c,hm,_⟩:=HMI5.out
    have h2:=HSG5.out
    rw [e,hm] at h2
    cases h2
   have hsf:W6.heap[sb]?=some (segObj nd db pv 1 (.map (some km5))):=(hg6.block sb (lt_of_heap HSG5.out) (fun e=>hne (Option.some.inj e))).trans HSG5.out
   have hpf6:=HPF5.out.kept hcm.2
   have hkf:KnownIs B W6 (.map (some km5)) := .inr ⟨km5,_,rfl,hkmB5,hmap6,HAP5.out.put q _,fun q' v hv=>by
    rw [get_put] at hv
    split at hv
    ·rename_i e
     cases hv
     exact ⟨pb,rfl,e ▸ hpf6⟩
    ·obtain ⟨pb',e',hp'⟩:=HALL5.out q' v hv
     exact ⟨pb',e',hp'.kept hcm.2⟩⟩
   have HSF:=Lib.hid hsf
   have HKF:=Lib.hid hkf
   have HPF:=Lib.hid hpf6
   have HCF:=Lib.hid (HCE5.out.trans hcm)
   have HBF:=Lib.hid ((HBE5.out.drew).grown hg6 (by have:=HBE5.out.size; simp; omega) (fun k e=>by cases e; exact hkmB5))
   have HMF:=Lib.hid ((HMO5.out.trans (Mod.same (Same.drew _))).grownS hg6 fun h=>(HKS5.out _ rfl h).elim)
   clear hsf hkf hpf6 hcm hrun6' hmap6 hg6 hz6 kb0 kb1 kb2 kb3 kb4 cs5
   refine hK5 _ _ ?_
   clear hK5 K5
   go_wp2_with fail
   refine leaves_cons (f:=166) (args:=#[.pointer (some ⟨sb,3,none⟩)]) (by simp) (by simp [go_sem]) ?_
   refine (unlock_deferred Tryz.muLib ⟨sb,3,none⟩ .returning _ (cell_block HSF.out) (free_block HSF.out)).mono ?_
   rintro e u' w'' ⟨rfl,rfl,rfl⟩
   obtain ⟨u1,u2,u3,u4,u5⟩:=seg_unlock HSF.out HKF.out HPF.out HCF.out HBF.out hsb
   have u6:=HMF.out.trans (Mod.setCell _ ⟨sb,3,none⟩ (.int .i32 0) fun _ => .inl rfl)
   refine ⟨_,results_tmp rfl _ _ _,?_⟩
   first
    | exact ⟨_,_,rfl,u1,u2,u3,u4,u5,u6,(by first | exact .inl rfl | exact .inr ⟨_,rfl,Nat.ge_of_not_lt fun h=>HKS5.out _ rfl h⟩)⟩
    | exact ⟨_,rfl,u1,u2,u3,_,u4,u5,u6,(by first | exact .inl rfl | exact .inr ⟨_,rfl,Nat.ge_of_not_lt fun h=>HKS5.out _ rfl h⟩)⟩
  ·have hlt:=hmi.lt
   obtain ⟨es,c,hm,hmr⟩:=id hmi
   have hne:sb≠km:=fun e=>by
    have h2:=HSB4.out
    rw [e,hm] at h2
    cases h2
   subst h
   have hrunl:∀ w':World,Same w4 w'→(Builtin.len_ #[166] 3 #[.map (some km)]).run Tryz.prog w' = .ok (.int .i64 es.size) w':=fun w' hS=>by
    have hm':w'.heap[km]?=some (.map es c):=by rw [hS.heap]; exact hm
    unfold Builtin.len_
    simp only [Sem.run_bind,List.getElem?_toArray,List.getElem?_cons_zero,run_underlying Tryz.underlying166,Result.andThen_ok]
    rw [getObj_run (w:=w') hm']
    rfl
   by_cases h64:(64:Int)≤(es.size:Int)
   ·have h64':decide ((64:Int)≤(es.size:Int))=true:=by simp [h64]
    have hl0:=hrunl w4 ⟨0,rfl⟩
    have hl1:=hrunl w4.drew (Same.drew w4)
    clear hrunl
    have lw4:=lt_of_heap HSB4.out
    have fr1:(w4.alloc (.map #[] 0)).frozen? ⟨sb,5,none⟩=false:=free_block ((Below.heap_alloc w4 _ sb lw4).trans HSB4.out)
    have cr1:=(World.cell?_alloc_lt w4 (.map #[] 0) ⟨sb,5,none⟩ lw4).trans c5
    go_wp2_with fail
    have gs5:((w4.setCell ⟨sb,5,none⟩ (.map (some w4.heap.size))).alloc (.map #[] 0)).heap[sb]?=some (segObj nd db pv 1 (.map (some w4.heap.size))):=(Below.heap_alloc _ _ sb (by simpa using lw4)).trans (heap_setCell_same _ sb 5 _ _ _ HSB4.out)
    have lwk:=lt_of_heap HKB4.out
    have gk5:((w4.setCell ⟨sb,5,none⟩ (.map (some w4.heap.size))).alloc (.map #[] 0)).heap[w.heap.size+1]?=some (.cells #[.int .i64 q.kind,.string ⟨q.a.toArray⟩,.string ⟨q.b.toArray⟩,.int .i64 q.n,.int .i64 q.states] 348 (0,0)):=((Below.heap_alloc _ _ _ (by simpa using lwk)).trans (Below.heap_setCell _ _ _ _ (by simp only; omega))).trans HKB4.out
    have gm5:MapIs askedV ((w4.setCell ⟨sb,5,none⟩ (.map (some w4.heap.size))).alloc (.map #[] 0)) w4.heap.size ([]:List (Asked × Value)):=by
     have:=MapIs.made askedV (w4.setCell ⟨sb,5,none⟩ (.map (some w4.heap.size)))
     simpa using this
    have gc5:Cells w4 ((w4.setCell ⟨sb,5,none⟩ (.map (some w4.heap.size))).alloc (.map #[] 0)):=(Cells.seg HSB4.out).trans (Cells.below ((Below.refl _ _).alloc (Nat.le_refl _) _))
    have gb5:Below B w ((w4.setCell ⟨sb,5,none⟩ (.map (some w4.heap.size))).alloc (.map #[] 0)):=(HBE4.out.setCell (p:=⟨sb,5,none⟩) hsb _).alloc (by simp; omega) _
    have hmo5:=(HMO4.out.trans (Mod.setCell w4 ⟨sb,5,none⟩ (.map (some w4.heap.size)) fun _ => .inl rfl)).trans (below_mod ((Below.refl _ (w4.setCell ⟨sb,5,none⟩ (.map (some w4.heap.size)))).alloc (Nat.le_refl _) (.map #[] 0)))
    have HSG5:=Lib.hid gs5
    have HKB5:=Lib.hid gk5
    have HMI5:=Lib.hid gm5
    have HAP5:=Lib.hid (show Apart ([]:List (Asked × Value)) from List.nodup_nil)
    have HALL5:=Lib.hid (show ∀ q' v,get ([]:List (Asked × Value)) q'=some v → ∃ pb,v=ptrV pb∧PlanFor ((w4.setCell ⟨sb,5,none⟩ (.map (some w4.heap.size))).alloc (.map #[] 0)) q' pb from fun q' v hv=>by cases hv)
    have HPF5:=Lib.hid (HPF4.out.kept gc5.2)
    have HCE5:=Lib.hid (HCE4.out.trans gc5)
    have HBE5:=Lib.hid gb5
    have HMO5:=Lib.hid hmo5
    have hkmB5:B≤w4.heap.size:=by omega
    have HKS5:Hid (∀ j,j=w4.heap.size→j < w.heap.size→False):=Lib.hid fun j h1 h2=>by omega
    clear gs5 gk5 gm5 gc5 gb5 cr1 fr1 c5 f5 hmo5
    generalize ((w4.setCell ⟨sb,5,none⟩ (.map (some w4.heap.size))).alloc (.map #[] 0))=W5 at *
    generalize w4.heap.size=km5 at *
    generalize ([]:List (Asked × Value))=m5 at *
    obtain ⟨kb0,kb1,kb2,kb3,kb4⟩:W5.cell? ⟨w.heap.size+1,0,none⟩=some (.int .i64 q.kind)∧W5.cell? ⟨w.heap.size+1,1,none⟩=some (.string ⟨q.a.toArray⟩)∧W5.cell? ⟨w.heap.size+1,2,none⟩=some (.string ⟨q.b.toArray⟩)∧W5.cell? ⟨w.heap.size+1,3,none⟩=some (.int .i64 q.n)∧W5.cell? ⟨w.heap.size+1,4,none⟩=some (.int .i64 q.states):=⟨cell_block HKB5.out,cell_block HKB5.out,cell_block HKB5.out,cell_block HKB5.out,cell_block HKB5.out⟩
    have cs5:W5.cell? ⟨sb,5,none⟩=some (.map (some km5)):=cell_block HSG5.out
    refine wp_region_ordX [(0,false),(1,false),(2,false),(3,false),(4,false),(5,false),(6,true)] 6
     (fun w'=>Same W5 w') (by kernel_rfl) (by kernel_rfl) (Same.drew _) ?_
    iterate 6 (
     refine wpOrd_quiet ?_ rfl rfl (fun w' hS=>?_) ?_
     rotate_left
     ·have f0:=(hS.cell ⟨w.heap.size+1,0,none⟩).trans kb0
      have f1:=(hS.cell ⟨w.heap.size+1,1,none⟩).trans kb1
      have f2:=(hS.cell ⟨w.heap.size+1,2,none⟩).trans kb2
      have f3:=(hS.cell ⟨w.heap.size+1,3,none⟩).trans kb3
      have f4:=(hS.cell ⟨w.heap.size+1,4,none⟩).trans kb4
      have f5:=(hS.cell ⟨sb,5,none⟩).trans cs5
      go_simp
      first | rfl | done
     simp only [put_lit,List.set_cons_succ,List.set_cons_zero])
    refine wpOrd_last rfl rfl (fun K5 hK5=>?_)
    obtain ⟨W6,hrun6,hmap6,hg6,hz6⟩:=MapIs.update asked_law (HMI5.out.of_block (w':=W5.drew) rfl) q trivial (fun _ _=>trivial) Tryz.underlying166 (ptrV pb)
    have hrun6':(Instr.mapUpdate 166 (.map (some km5)) (.agg #[.int .i64 q.kind,.string ⟨q.a.toArray⟩,.string ⟨q.b.toArray⟩,.int .i64 q.n,.int .i64 q.states]) (.pointer (some ⟨pb,0,none⟩))).run Tryz.prog W5.drew = .ok () W6:=hrun6
    clear hrun6
    go_simp
    have hcm:Cells W5 W6:=by
     obtain ⟨es,c,hm,_⟩:=HMI5.out
     exact (Cells.same (Same.drew _)).trans (Cells.map (w:=W5.drew) hm hg6)
    have hne:sb≠km5:=fun e=>by
     obtain ⟨es,c,hm,_⟩:=HMI5.out
     have h2:=HSG5.out
     rw [e,hm] at h2
     cases h2
    have hsf:W6.heap[sb]?=some (segObj nd db pv 1 (.map (some km5))):=(hg6.block sb (lt_of_heap HSG5.out) (fun e=>hne (Option.some.inj e))).trans HSG5.out
    have hpf6:=HPF5.out.kept hcm.2
    have hkf:KnownIs B W6 (.map (some km5)) := .inr ⟨km5,_,rfl,hkmB5,hmap6,HAP5.out.put q _,fun q' v hv=>by
     rw [get_put] at hv
     split at hv
     ·rename_i e
      cases hv
      exact ⟨pb,rfl,e ▸ hpf6⟩
     ·obtain ⟨pb',e',hp'⟩:=HALL5.out q' v hv
      exact ⟨pb',e',hp'.kept hcm.2⟩⟩
    have HSF:=Lib.hid hsf
    have HKF:=Lib.hid hkf
    have HPF:=Lib.hid hpf6
    have HCF:=Lib.hid (HCE5.out.trans hcm)
    have HBF:=Lib.hid ((HBE5.out.drew).grown hg6 (by have:=HBE5.out.size; simp; omega) (fun k e=>by cases e; exact hkmB5))
    have HMF:=Lib.hid ((HMO5.out.trans (Mod.same (Same.drew _))).grownS hg6 fun h=>(HKS5.out _ rfl h).elim)
    clear hsf hkf hpf6 hcm hrun6' hmap6 hg6 hz6 kb0 kb1 kb2 kb3 kb4 cs5
    refine hK5 _ _ ?_
    clear hK5 K5
    go_wp2_with fail
    refine leaves_cons (f:=166) (args:=#[.pointer (some ⟨sb,3,none⟩)]) (by simp) (by simp [go_sem]) ?_
    refine (unlock_deferred Tryz.muLib ⟨sb,3,none⟩ .returning _ (cell_block HSF.out) (free_block HSF.out)).mono ?_
    rintro e u' w'' ⟨rfl,rfl,rfl⟩
    obtain ⟨u1,u2,u3,u4,u5⟩:=seg_unlock HSF.out HKF.out HPF.out HCF.out HBF.out hsb
    have u6:=HMF.out.trans (Mod.setCell _ ⟨sb,3,none⟩ (.int .i32 0) fun _ => .inl rfl)
    refine ⟨_,results_tmp rfl _ _ _,?_⟩
    first
     | exact ⟨_,_,rfl,u1,u2,u3,u4,u5,u6,(by first | exact .inl rfl | exact .inr ⟨_,rfl,Nat.ge_of_not_lt fun h=>HKS5.out _ rfl h⟩)⟩
     | exact ⟨_,rfl,u1,u2,u3,_,u4,u5,u6,(by first | exact .inl rfl | exact .inr ⟨_,rfl,Nat.ge_of_not_lt fun h=>HKS5.out _ rfl h⟩)⟩
   ·have h64':decide ((64:Int)≤(es.size:Int))=false:=by simp [h64]
    have HKB5:=HKB4
    have HSG5:=HSB4
    have HMI5:=Lib.hid hmi
    have HAP5:=Lib.hid hap
    have HALL5:=Lib.hid hall
    have HPF5:=HPF4
    have HCE5:=HCE4
    have HBE5:=HBE4
    have HMO5:=HMO4
    clear hm hmr hmi hap hall
    have hl0:=hrunl w4 ⟨0,rfl⟩
    have hl1:=hrunl w4.drew (Same.drew w4)
    clear hrunl
    go_wp2_with fail
    clear hl0 hl1 f5 c5 h64 h64'
    generalize w4=W5 at *
    generalize hkm5:km=km5 at *
    have hkmB5:=hkmB
    obtain ⟨kb0,kb1,kb2,kb3,kb4⟩:W5.cell? ⟨w.heap.size+1,0,none⟩=some (.int .i64 q.kind)∧W5.cell? ⟨w.heap.size+1,1,none⟩=some (.string ⟨q.a.toArray⟩)∧W5.cell? ⟨w.heap.size+1,2,none⟩=some (.string ⟨q.b.toArray⟩)∧W5.cell? ⟨w.heap.size+1,3,none⟩=some (.int .i64 q.n)∧W5.cell? ⟨w.heap.size+1,4,none⟩=some (.int .i64 q.states):=⟨cell_block HKB5.out,cell_block HKB5.out,cell_block HKB5.out,cell_block HKB5.out,cell_block HKB5.out⟩
    have cs5:W5.cell? ⟨sb,5,none⟩=some (.map (some km5)):=cell_block HSG5.out
    refine wp_region_ordX [(0,false),(1,false),(2,false),(3,false),(4,false),(5,false),(6,true)] 6
     (fun w'=>Same W5 w') (by kernel_rfl) (by kernel_rfl) (Same.drew _) ?_
    iterate 6 (
     refine wpOrd_quiet ?_ rfl rfl (fun w' hS=>?_) ?_
     rotate_left
     ·have f0:=(hS.cell ⟨w.heap.size+1,0,none⟩).trans kb0
      have f1:=(hS.cell ⟨w.heap.size+1,1,none⟩).trans kb1
      have f2:=(hS.cell ⟨w.heap.size+1,2,none⟩).trans kb2
      have f3:=(hS.cell ⟨w.heap.size+1,3,none⟩).trans kb3
      have f4:=(hS.cell ⟨w.heap.size+1,4,none⟩).trans kb4
      have f5:=(hS.cell ⟨sb,5,none⟩).trans cs5
      go_simp
      first | rfl | done
     simp only [put_lit,List.set_cons_succ,List.set_cons_zero])
    refine wpOrd_last rfl rfl (fun K5 hK5=>?_)
    obtain ⟨W6,hrun6,hmap6,hg6,hz6⟩:=MapIs.update asked_law (HMI5.out.of_block (w':=W5.drew) rfl) q trivial (fun _ _=>trivial) Tryz.underlying166 (ptrV pb)
    have hrun6':(Instr.mapUpdate 166 (.map (some km5)) (.agg #[.int .i64 q.kind,.string ⟨q.a.toArray⟩,.string ⟨q.b.toArray⟩,.int .i64 q.n,.int .i64 q.states]) (.pointer (some ⟨pb,0,none⟩))).run Tryz.prog W5.drew = .ok () W6:=hrun6
    clear hrun6
    go_simp
    have hcm:Cells W5 W6:=by
     obtain ⟨es,c,hm,_⟩:=HMI5.out
     exact (Cells.same (Same.drew _)).trans (Cells.map (w:=W5.drew) hm hg6)
    have hne:sb≠km5:=fun e=>by
     obtain ⟨es,c,hm,_⟩:=HMI5.out
     have h2:=HSG5.out
     rw [e,hm] at h2
     cases h2
    have hsf:W6.heap[sb]?=some (segObj nd db pv 1 (.map (some km5))):=(hg6.block sb (lt_of_heap HSG5.out) (fun e=>hne (Option.some.inj e))).trans HSG5.out
    have hpf6:=HPF5.out.kept hcm.2
    have hkf:KnownIs B W6 (.map (some km5)) := .inr ⟨km5,_,rfl,hkmB5,hmap6,HAP5.out.put q _,fun q' v hv=>by
     rw [get_put] at hv
     split at hv
     ·rename_i e
      cases hv
      exact ⟨pb,rfl,e ▸ hpf6⟩
     ·obtain ⟨pb',e',hp'⟩:=HALL5.out q' v hv
      exact ⟨pb',e',hp'.kept hcm.2⟩⟩
    have HSF:=Lib.hid hsf
    have HKF:=Lib.hid hkf
    have HPF:=Lib.hid hpf6
    have HCF:=Lib.hid (HCE5.out.trans hcm)
    have HBF:=Lib.hid ((HBE5.out.drew).grown hg6 (by have:=HBE5.out.size; simp; omega) (fun k e=>by cases e; exact hkmB5))
    have HMF:=Lib.hid ((HMO5.out.trans (Mod.same (Same.drew _))).grownS hg6 fun _ => .inr rfl)
    clear hsf hkf hpf6 hcm hrun6' hmap6 hg6 hz6 kb0 kb1 kb2 kb3 kb4 cs5
    refine hK5 _ _ ?_
    clear hK5 K5
    go_wp2_with fail
    refine leaves_cons (f:=166) (args:=#[.pointer (some ⟨sb,3,none⟩)]) (by simp) (by simp [go_sem]) ?_
    refine (unlock_deferred Tryz.muLib ⟨sb,3,none⟩ .returning _ (cell_block HSF.out) (free_block HSF.out)).mono ?_
    rintro e u' w'' ⟨rfl,rfl,rfl⟩
    obtain ⟨u1,u2,u3,u4,u5⟩:=seg_unlock HSF.out HKF.out HPF.out HCF.out HBF.out hsb
    have u6:=HMF.out.trans (Mod.setCell _ ⟨sb,3,none⟩ (.int .i32 0) fun _ => .inl rfl)
    refine ⟨_,results_tmp rfl _ _ _,?_⟩
    first
     | exact ⟨_,_,rfl,u1,u2,u3,u4,u5,u6,(by first | exact .inl rfl | exact .inr ⟨_,rfl,Nat.ge_of_not_lt fun h=>HKS5.out _ rfl h⟩)⟩
     | (subst hkm5; exact ⟨_,_,rfl,u1,u2,u3,u4,u5,u6,(by first | exact .inl rfl | exact .inr ⟨_,rfl,Nat.ge_of_not_lt fun h=>HKS5.out _ rfl h⟩)⟩)
     | exact ⟨_,rfl,u1,u2,u3,_,u4,u5,u6,(by first | exact .inl rfl | exact .inr ⟨_,rfl,Nat.ge_of_not_lt fun h=>HKS5.out _ rfl h⟩)⟩
end Go.Proofs.Ts
namespace Go.Proofs.Ts
open Go Go.RowKit
def SegAt (w:World) (sb:Nat) (D:List (List (List UInt8))) (kn:Value) (db:Nat) (R:Nat→Prop) (Λ:Nat→List Word) (ρ:Nat→Nat) (Dd:List DS) (pv:Value) (ps:List Value):Prop :=
 w.heap[sb]?=some (segObj D.length db pv 0 kn) ∧
  DictIs w db R Λ ρ Dd∧(Λ 0).Pairwise (fun a b=>a < b)∧(∀ x,x∈Λ 0↔postsOf D x≠[])∧(Λ 0).length≤10000∧(∀ x∈Λ 0,x.length≤16) ∧
  w.ownsRow 0 24 1 pv (Λ 0).length ps ∧ ∀ (i:Nat) v x,ps[i]?=some v→(Λ 0)[i]?=some x→w.ownsRow 0 3 1 v (postsOf D x).length ((postsOf D x).map intV)
section
variable {w w':World} {sb:Nat} {D:List (List (List UInt8))} {kn kn':Value} {db:Nat} {R:Nat→Prop} {Λ:Nat→List Word} {ρ:Nat→Nat} {Dd:List DS} {pv:Value} {ps:List Value}
theorem SegAt.kept (h:SegAt w sb D kn db R Λ ρ Dd pv ps) (hc:Cells w w') (hs:w'.heap[sb]?=some (segObj D.length db pv 0 kn')):SegAt w' sb D kn' db R Λ ρ Dd pv ps:=by
 obtain ⟨h1,h2,h3,h4,h5,h6,h7,h8⟩:=h
 exact ⟨hs,h2.kept hc.2,h3,h4,h5,h6,ownsRow_typed h7 fun k cs r hk=>hc.2 k cs _ r hk (by decide),fun i v x hv hx=>ownsRow_typed (h8 i v x hv hx) fun k cs r hk=>hc.2 k cs _ r hk (by decide)⟩
theorem SegAt.below (h:SegAt w sb D kn db R Λ ρ Dd pv ps) (hb:Below w.heap.size w w'):SegAt w' sb D kn db R Λ ρ Dd pv ps :=
 h.kept (Cells.below hb) ((hb.block sb (lt_of_heap h.1)).trans h.1)
end
theorem KnownIs.below {B:Nat} {w w':World} {kn:Value} (h:KnownIs B w kn) (hb:Below w.heap.size w w'):KnownIs B w' kn :=
 h.kept (Cells.below hb) fun km e=>by
  rcases h with h' | ⟨km',m,h',_,hmi,_⟩
  ·rw [h'] at e; cases e
  ·rw [h'] at e
   cases e
   exact hb.block _ hmi.lt
set_option maxRecDepth 100000 in
set_option maxHeartbeats 2000000 in
theorem terms_any (B:Nat) (q:Asked) (acc:List UInt8→Bool) (most sb:Nat) (D:List (List (List UInt8))) (kn:Value) (db:Nat) (R:Nat→Prop) (Λ:Nat→List Word) (ρ:Nat→Nat) (Dd:List DS) (pv:Value) (ps:List Value) (w:World)
  (hB:B≤w.heap.size) (hsb:B≤sb) (hseg:SegAt w sb D kn db R Λ ρ Dd pv ps) (hkn:KnownIs B w kn) (st:Nat) (hst:q.states=st) (hst1:1≤st∧st≤400) (hcomp:CompileOk w q) (hacc:accOf q=some acc) :
  Calls Tryz.prog 83 #[ptrV sb,askV q,.int .i64 st,.int .i64 most] w fun e w'=>∃ fv er kn',e = .returned (.tuple #[fv,er])∧SegAt w' sb D kn' db R Λ ρ Dd pv ps∧KnownIs B w' kn'∧Below B w w'∧Cells w w'∧Mod (fun j=>j=sb∨kn = .map (some j)) w w'∧KnNew w kn kn' ∧
   (((hits acc (Λ 0) 0).length≤most∧er = .nilIface∧w'.ownsRow 0 182 2 fv (hits acc (Λ 0) 0).length (foundCells (hits acc (Λ 0) 0))∧Past w.heap.size fv)∨(most < (hits acc (Λ 0) 0).length∧er = .iface 43 (.int .i64 10)∧fv = .slice none 0 0)):=by
 have hmf:∀ (fn:Fn) (first cap:Array Value) (w:World),(Instr.makeFunc fn first cap).run Tryz.prog w = .ok (.func fn first cap) w:=fun _ _ _ _=>rfl
 have hhl:(hits acc (Λ 0) 0).length≤10000:=Nat.le_trans (by unfold hits; exact Nat.le_trans (List.length_filter_le _ _) (by simp)) hseg.2.2.2.2.1
 have hsbl:=lt_of_heap hseg.1
 have g1:decide ((st:Int) < 1)=false:=by simp <;> omega
 have g2:decide ((400:Int) < (st:Int))=false:=by simp <;> omega
 have g3:decide ((most:Int) < 0)=false:=by simp
 have HSEG:=Lib.hid hseg
 have HKN:=Lib.hid hkn
 clear hseg hkn
 unfold ptrV askV strV
 go_enter Tryz.func83,Tryz.ntmps83
 go_wp2_with fail
 clear g1 g2 g3
 have hal:Below w.heap.size w ((w.alloc (.cells #[.int .i64 q.kind,.string ⟨q.a.toArray⟩,.string ⟨q.b.toArray⟩,.int .i64 q.n] 34)).alloc (.cells #[.int .i64 most] 3)):=((Below.refl _ w).alloc (Nat.le_refl _) _).alloc (by simp) _
 have hmb:((w.alloc (.cells #[.int .i64 q.kind,.string ⟨q.a.toArray⟩,.string ⟨q.b.toArray⟩,.int .i64 q.n] 34)).alloc (.cells #[.int .i64 most] 3)).heap[w.heap.size+1]?=some (.cells #[.int .i64 most] 3 (0,0)):=by
  have:=heap_alloc_new (w.alloc (.cells #[.int .i64 q.kind,.string ⟨q.a.toArray⟩,.string ⟨q.b.toArray⟩,.int .i64 q.n] 34)) (.cells #[.int .i64 most] 3)
  rw [World.size_alloc] at this
  exact this
 generalize ((w.alloc (.cells #[.int .i64 q.kind,.string ⟨q.a.toArray⟩,.string ⟨q.b.toArray⟩,.int .i64 q.n] 34)).alloc (.cells #[.int .i64 most] 3))=w2 at *
 have hseg2:=HSEG.out.below hal
 have hplan:=plan_any B q sb D.length db pv kn w2 (Nat.le_trans hB hal.size) hsb hseg2.1 (HKN.out.below hal) (hcomp.kept (Cells.below hal))
 have HSEG2:=Lib.hid hseg2
 have HAL:=Lib.hid hal
 have HMB:=Lib.hid hmb
 clear hseg2 hal hmb
 rw [hst] at hplan
 unfold ptrV askV strV at hplan
 refine hplan.mono ?_
 clear hplan
 rintro e w1 ⟨pb,kn',rfl,hpf,hce,hbe,hsg1,hkn1,hmo,hkw⟩
 have HKW:=Lib.hid (hkw.up HAL.out.size)
 clear hkw
 obtain ⟨fv,hpb,hgo⟩:=hpf.goes acc hacc
 obtain ⟨f,ab,bl,rfl,hab,ef,hwalk⟩:=hgo.ex
 have hseg1:=HSEG2.out.kept hce hsg1
 have hmb1:w1.heap[w.heap.size+1]?=some (.cells #[.int .i64 most] 3 (0,0)):=(hce.2 _ _ _ _ HMB.out (by decide)).trans HMB.out
 have p0:w1.cell? ⟨pb,0,none⟩=some (.func (.func f) #[] #[.pointer (some ⟨ab,0,none⟩)]):=cell_block hpb
 have p1:w1.cell? ⟨pb,1,none⟩=some .nilIface:=cell_block hpb
 have s1:w1.cell? ⟨sb,1,none⟩=some (.pointer (some ⟨db,0,none⟩)):=cell_block hsg1
 have HWALK:=Lib.hid hwalk
 have HSEG1:=Lib.hid hseg1
 have HKN1:=Lib.hid hkn1
 have HBE:=Lib.hid hbe
 have HMO:=Lib.hid (Mod.trans (below_mod HAL.out) hmo)
 have HCE:=Lib.hid ((Cells.below HAL.out).trans hce)
 have HAB:=Lib.hid hab
 have HMB1:=Lib.hid hmb1
 have hmbl:=lt_of_heap hmb1
 have hsz2:=HAL.out.size
 clear hmo hgo hpf hwalk hseg1 hkn1 hbe hce hab hmb1 HSEG2 HMB hpb hsg1
 go_wp2_with fail
 have l0:(w1.alloc (.cells #[.slice none 0 0] 175)).cell? ⟨pb,0,none⟩=some (.func (.func f) #[] #[.pointer (some ⟨ab,0,none⟩)]):=(World.cell?_alloc_lt w1 _ _ (lt_of_cell p0)).trans p0
 have l1:(w1.alloc (.cells #[.slice none 0 0] 175)).cell? ⟨sb,1,none⟩=some (.pointer (some ⟨db,0,none⟩)):=(World.cell?_alloc_lt w1 _ _ (lt_of_cell s1)).trans s1
 have hlb:(w1.alloc (.cells #[.slice none 0 0] 175)).heap[w1.heap.size]?=some (.cells #[.slice none 0 0] 175 (0,0)):=heap_alloc_new _ _
 have hbl:Below w1.heap.size w1 (w1.alloc (.cells #[.slice none 0 0] 175)):=(Below.refl _ w1).alloc (Nat.le_refl _) _
 have HLB:=Lib.hid hlb
 have HBL:=Lib.hid hbl
 clear hlb hbl p1
 generalize (w1.alloc (.cells #[.slice none 0 0] 175))=w3 at *
 have hend:∀ (ys:List (List UInt8 × Nat)) (W:World),TJ w1 w1.heap.size (w.heap.size+1) most ys W→W.cell? ⟨pb,0,none⟩=some (.func (.func f) #[] #[.pointer (some ⟨ab,0,none⟩)])∧W.cell? ⟨sb,1,none⟩=some (.pointer (some ⟨db,0,none⟩)):=fun ys W h =>
  ⟨(h.below.cell (p:=⟨pb,0,none⟩) (lt_of_cell p0)).trans p0,(h.below.cell (p:=⟨sb,1,none⟩) (lt_of_cell s1)).trans s1⟩
 have HEND:=Lib.hid hend
 clear hend p0 s1
 refine wp_region_ord [(0,false),(1,false),(2,false),(3,false),(4,false),(5,false),(6,false),(7,false),(8,false),(9,true)]
  (fun w'=>w'.cell? ⟨pb,0,none⟩=some (.func (.func f) #[] #[.pointer (some ⟨ab,0,none⟩)])∧w'.cell? ⟨sb,1,none⟩=some (.pointer (some ⟨db,0,none⟩))) (by kernel_rfl) (by kernel_rfl) ⟨l0,l1⟩ ?_
 iterate 9 (
  refine wpOrd_quiet ?_ rfl rfl (fun w' hS=>?_) ?_
  rotate_left
  ·obtain ⟨f0,f1⟩:=hS
   go_simp
   first | rfl | done
  simp only [put_lit,List.set_cons_succ,List.set_cons_zero])
 refine wpOrd_loud rfl rfl (by decide) (fun K5 hK5=>?_)
 go_simp
 have hbd:Below w1.heap.size w1 w3.drew:=HBL.out.drew
 have hrun:=HWALK.out w3.drew (fun q hq=>(hbd.block _ (lt_of_heap (HAB.out q hq).1)).trans (HAB.out q hq).1) db R Λ ρ Dd 120 #[.pointer (some ⟨w1.heap.size,0,none⟩),.pointer (some ⟨w.heap.size+1,0,none⟩)]
  (enters_of Tryz.func120 (by kernel_rfl) rfl) (HSEG1.out.below hbd).2.1 (by have:=HSEG1.out.2.2.2.2.1; omega)
  (fun ys W=>TJ w1 w1.heap.size (w.heap.size+1) most ys W∧ys.length≤most) (fun ys W=>TJ w1 w1.heap.size (w.heap.size+1) most ys W∧most < ys.length)
  (fun ys wa wb h hs=>⟨h.1.steps (by have:=hbd.size; omega) hs,h.2⟩)
  (fun ys t i wa h hp=>by
   have hyl:ys.length≤10000:=by have:=hp.length_le; simp at this; omega
   refine (yield_any w1 w1.heap.size (w.heap.size+1) most ys t i wa h.1 (by omega)).mono ?_
   rintro e wb ⟨hk,htj,rfl⟩
   refine ⟨hk,?_⟩
   by_cases hle:ys.length+1≤most
   ·exact .inl ⟨by rw [decide_eq_true hle],htj,by simp; omega⟩
   ·exact .inr ⟨by rw [decide_eq_false hle],htj,by simp; omega⟩)
  ⟨⟨⟨.slice none 0 0,(congrArg (·[w1.heap.size]?) (Same.drew w3).heap).trans HLB.out,World.ownsRow_nil _ _ _ _,(fun k e=>by cases e),(fun e=>by cases e)⟩,(hbd.block _ hmbl).trans HMB1.out,hbd,Nat.le_refl _⟩,Nat.zero_le _⟩
 unfold ptrV at hrun
 refine hrun.mono ?_
 clear hrun hbd l0 l1
 rintro e W5 ⟨rfl,_,hres⟩
 have hall:∃ zs,TJ w1 w1.heap.size (w.heap.size+1) most zs W5∧((zs=hits acc (Λ 0) 0∧zs.length≤most)∨(most < zs.length∧zs.length≤10000∧most < (hits acc (Λ 0) 0).length)):=by
  rcases hres with ⟨h1,h2⟩ | ⟨zs,h1,h2,h3⟩
  ·exact ⟨_,h1,.inl ⟨rfl,h2⟩⟩
  ·have:=h1.length_le
   exact ⟨zs,h2,.inr ⟨h3,by omega,by omega⟩⟩
 clear hres
 obtain ⟨zs,htj,hzs⟩:=hall
 refine hK5 _ _ (HEND.out zs W5 htj) ?_
 clear hK5 K5
 refine wpOrd_nil ?_
 obtain ⟨v,hbox,hrow,hpast,_⟩:=htj.box
 obtain ⟨va,vc,rfl⟩:=ownsRow_form hrow
 have c0:W5.cell? ⟨w1.heap.size,0,none⟩=some (.slice va zs.length vc):=cell_block hbox
 have c1:W5.cell? ⟨w.heap.size+1,0,none⟩=some (.int .i64 most):=cell_block htj.lim
 have hsegF:=HSEG1.out.below htj.below
 have hknF:=HKN1.out.below htj.below
 have hbF:Below B w W5:=((HAL.out.mono hB).trans HBE.out).trans (htj.below.mono (by have:=HBE.out.size; omega))
 have HSEGF:=Lib.hid hsegF
 have HKNF:=Lib.hid hknF
 have HBF:=Lib.hid hbF
 have HCF:=Lib.hid (HCE.out.trans (Cells.below htj.below))
 have HMF:=Lib.hid (HMO.out.trans (below_mod htj.below))
 have HROW:=Lib.hid hrow
 have HPAST:=Lib.hid hpast
 have hsz1:=HBE.out.size
 clear hsegF hknF hbF hrow hpast htj hbox HEND
 rcases hzs with ⟨rfl,hle⟩ | ⟨hgt,hzl,hgt2⟩
 ·have d1:decide ((most:Int) < ((hits acc (Λ 0) 0).length:Int))=false:=by simp <;> omega
  go_wp2_with fail
  go_ret2
  exact ⟨_,_,kn',rfl,HSEGF.out,HKNF.out,HBF.out,HCF.out,HMF.out,HKW.out,.inl ⟨hle,rfl,HROW.out,fun k e=>by have:=HPAST.out k e; omega⟩⟩
 ·have d1:decide ((most:Int) < (zs.length:Int))=true:=by simp <;> omega
  go_wp2_with fail
  go_ret2
  exact ⟨_,_,kn',rfl,HSEGF.out,HKNF.out,HBF.out,HCF.out,HMF.out,HKW.out,.inr ⟨hgt2,rfl,rfl⟩⟩
end Go.Proofs.Ts
namespace Go.Proofs.Ts
open Go
def cnt (b:Nat):List Nat→Nat
 | []=>0
 | x :: P=>if x < b then cnt b P+1 else 0
theorem cnt_le (b:Nat):∀ P:List Nat,cnt b P≤P.length
 | []=>Nat.le_refl _
 | x :: P=>by
  unfold cnt
  have:=cnt_le b P
  split <;> simp <;> omega
theorem cnt_zero:∀ P:List Nat,cnt 0 P=0
 | []=>rfl
 | x :: P=>by unfold cnt; simp
theorem cnt_at (b:Nat):∀ (P:List Nat),P.Pairwise (· < ·) → ∀ d,P[cnt b P]?=some d→b≤d∧d∈P ∧ ∀ x∈P,b≤x→d≤x
 | [],_,d,h=>by simp at h
 | x :: P,hs,d,h=>by
  obtain ⟨h1,h2⟩:=List.pairwise_cons.1 hs
  unfold cnt at h
  split at h
  ·rename_i hx
   simp only [List.getElem?_cons_succ] at h
   obtain ⟨a1,a2,a3⟩:=cnt_at b P h2 d h
   refine ⟨a1,List.mem_cons_of_mem _ a2,fun y hy hb=>?_⟩
   rcases List.mem_cons.1 hy with rfl | hy
   ·omega
   ·exact a3 y hy hb
  ·rename_i hx
   simp at h
   subst h
   refine ⟨by omega,by simp,fun y hy _=>?_⟩
   rcases List.mem_cons.1 hy with rfl | hy
   ·exact Nat.le_refl _
   ·exact Nat.le_of_lt (h1 y hy)
theorem cnt_end (b:Nat):∀ (P:List Nat),cnt b P=P.length → ∀ x∈P,x < b
 | [],_,x,hx=>by cases hx
 | y :: P,h,x,hx=>by
  unfold cnt at h
  split at h
  ·rename_i hy
   simp at h
   rcases List.mem_cons.1 hx with rfl | hx
   ·exact hy
   ·exact cnt_end b P h x hx
  ·simp at h
theorem cnt_lt {b:Nat} {P:List Nat} (h:cnt b P < P.length):∃ d,P[cnt b P]?=some d:=⟨_,List.getElem?_eq_getElem h⟩
theorem cnt_step (b n:Nat) (hn:b≤n):∀ (P:List Nat),P.Pairwise (· < ·)→(∀ x∈P,b≤x→n≤x)→cnt (n+1) P=if P[cnt b P]?=some n then cnt b P+1 else cnt b P
 | [],_,_=>by simp [cnt]
 | x :: P,hs,hm=>by
  obtain ⟨h1,h2⟩:=List.pairwise_cons.1 hs
  have ih:=cnt_step b n hn P h2 fun y hy=>hm y (List.mem_cons_of_mem _ hy)
  have hx:=hm x (by simp)
  by_cases hb:x < b
  ·have e1:cnt b (x :: P)=cnt b P+1:=by rw [cnt,if_pos hb]
   have e2:cnt (n+1) (x :: P)=cnt (n+1) P+1:=by rw [cnt,if_pos (by omega)]
   rw [e1,e2,ih,List.getElem?_cons_succ]
   split <;> rfl
  ·have e1:cnt b (x :: P)=0:=by rw [cnt,if_neg hb]
   have hx':=hx (by omega)
   rw [e1]
   simp only [List.getElem?_cons_zero,Option.some.injEq]
   by_cases he:x=n
   ·rw [if_pos he]
    subst he
    rw [cnt,if_pos (by omega)]
    have:cnt (x+1) P=0:=by
     cases P with
     | nil=>rfl
     | cons y P =>
      have:=h1 y (by simp)
      rw [cnt,if_neg (by omega)]
    omega
   ·rw [if_neg he,cnt,if_neg (by omega)]
def NextIs (Ps:List (List Nat)) (b:Nat):Option Nat→Prop
 | none=>∀ P∈Ps,∀ d∈P,d < b
 | some n=>b≤n∧(∃ P∈Ps,n∈P) ∧ ∀ P∈Ps,∀ d∈P,b≤d→n≤d
def nextI:Option Nat→Int
 | none=>-1
 | some n=>n
theorem NextIs.start (b:Nat):NextIs [] b none:=fun P hP=>by cases hP
theorem NextIs.past {Ps:List (List Nat)} {b:Nat} {o:Option Nat} {P:List Nat} (h:NextIs Ps b o) (hP:∀ d∈P,d < b):NextIs (Ps++[P]) b o:=by
 cases o with
 | none =>
  intro Q hQ d hd
  rcases List.mem_append.1 hQ with hQ | hQ
  ·exact h Q hQ d hd
  ·simp at hQ; subst hQ; exact hP d hd
 | some n =>
  obtain ⟨h1,⟨Q,h2,h3⟩,h4⟩:=h
  refine ⟨h1,⟨Q,List.mem_append_left _ h2,h3⟩,fun Q hQ d hd hb=>?_⟩
  rcases List.mem_append.1 hQ with hQ | hQ
  ·exact h4 Q hQ d hd hb
  ·simp at hQ; subst hQ; have:=hP d hd; omega
theorem NextIs.least {Ps:List (List Nat)} {b:Nat} {o:Option Nat} {P:List Nat} {d:Nat} (h:NextIs Ps b o) (hb:b≤d) (hd:d∈P) (hl:∀ x∈P,b≤x→d≤x) (ho:∀ n,o=some n→d≤n):NextIs (Ps++[P]) b (some d):=by
 refine ⟨hb,⟨P,by simp,hd⟩,fun Q hQ x hx hbx=>?_⟩
 rcases List.mem_append.1 hQ with hQ | hQ
 ·cases o with
  | none=>have:=h Q hQ x hx; omega
  | some n=>exact Nat.le_trans (ho n rfl) (h.2.2 Q hQ x hx hbx)
 ·simp at hQ; subst hQ; exact hl x hx hbx
theorem NextIs.keep {Ps:List (List Nat)} {b n:Nat} {P:List Nat} (h:NextIs Ps b (some n)) (hl:∀ x∈P,b≤x→n≤x):NextIs (Ps++[P]) b (some n):=by
 obtain ⟨h1,⟨Q,h2,h3⟩,h4⟩:=h
 refine ⟨h1,⟨Q,List.mem_append_left _ h2,h3⟩,fun Q hQ d hd hb=>?_⟩
 rcases List.mem_append.1 hQ with hQ | hQ
 ·exact h4 Q hQ d hd hb
 ·simp at hQ; subst hQ; exact hl d hd hb
def upTo (Ps:List (List Nat)) (b:Nat):List Nat:=(List.range b).filter fun d=>Ps.any fun P=>P.contains d
theorem upTo_skip (Ps:List (List Nat)) (b:Nat):∀ k,(∀ P∈Ps,∀ d∈P,b≤d→b+k≤d)→upTo Ps (b+k)=upTo Ps b
 | 0,_=>rfl
 | k+1,h=>by
  rw [← Nat.add_assoc,upTo,List.range_succ,List.filter_append]
  have ih:=upTo_skip Ps b k fun P hP d hd hb=>by have:=h P hP d hd hb; omega
  rw [upTo] at ih
  rw [ih]
  have:(Ps.any fun P=>P.contains (b+k))=false:=by
   rw [Bool.eq_false_iff]
   intro hc
   rw [List.any_eq_true] at hc
   obtain ⟨P,hP,hc⟩:=hc
   have hm:b+k∈P:=by simpa using hc
   have:=h P hP _ hm (by omega)
   omega
  rw [List.filter_cons,this]
  simp [upTo]
theorem upTo_step {Ps:List (List Nat)} {b n:Nat} (h:NextIs Ps b (some n)):upTo Ps (n+1)=upTo Ps b++[n]:=by
 obtain ⟨h1,⟨P,h2,h3⟩,h4⟩:=h
 obtain ⟨k,rfl⟩:=Nat.exists_eq_add_of_le h1
 have hs:=upTo_skip Ps b k fun P hP d hd hb=>h4 P hP d hd hb
 rw [upTo,List.range_succ,List.filter_append]
 rw [upTo] at hs
 rw [hs]
 have:(Ps.any fun P=>P.contains (b+k))=true:=List.any_eq_true.2 ⟨P,h2,by simpa using h3⟩
 rw [List.filter_cons,this]
 rfl
theorem upTo_end {Ps:List (List Nat)} {b N:Nat} (h:NextIs Ps b none) (hN:b≤N):upTo Ps N=upTo Ps b:=by
 obtain ⟨k,rfl⟩:=Nat.exists_eq_add_of_le hN
 exact upTo_skip Ps b k fun P hP d hd hb=>by have:=h P hP d hd; omega
theorem upTo_length (Ps:List (List Nat)) (b:Nat):(upTo Ps b).length≤b:=Nat.le_trans (List.length_filter_le _ _) (by simp)
end Go.Proofs.Ts
namespace Go.Proofs.Ts
open Go Go.RowKit
theorem ownsRow_cell {w:World} {B e size n j:Nat} {v u:Value} {xs:List Value} (h:w.ownsRow B e size v n xs) (hj:xs[j]?=some u):∃ g cap,v = .slice (some ⟨g,0,none⟩) n cap∧w.cell? ⟨g,j,none⟩=some u:=by
 rcases h.2 with ⟨rfl,rfl⟩ | ⟨g,cap,cur,rfl,_⟩
 ·have:=h.1
  simp at this
  subst this
  simp at hj
 ·refine ⟨g,cap,rfl,?_⟩
  have h2:=h.cells (g:=g) rfl j u hj
  by_cases h0:j=0
  ·subst h0; simpa [Addr.add] using h2
  ·simpa [Addr.add,h0] using h2
structure UIn (w0:World) (ats out:List Nat) (ov:Value) (W:World):Prop where
 at':W.heap[w0.heap.size]?=some (.cells (ats.map intV).toArray 3 (0,0))
 row:W.ownsRow 0 3 1 ov out.length (out.map intV)
 past:Past (w0.heap.size+1) ov
 below:Below w0.heap.size w0 W
 nil:out=[]→ov = .slice none 0 0
section
variable {w0 W W':World} {ats out:List Nat} {ov ov':Value}
theorem UIn.lt (h:UIn w0 ats out ov W):w0.heap.size < W.heap.size:=lt_of_heap h.at'
theorem UIn.alloc (h:UIn w0 ats out ov W) (o:Obj):UIn w0 ats out ov (W.alloc o) :=
 ⟨(Below.heap_alloc W o _ h.lt).trans h.at',h.row.alloc _,h.past,h.below.alloc h.below.size _,h.nil⟩
theorem UIn.same (h:UIn w0 ats out ov W) (hs:Same W W'):UIn w0 ats out ov W':=by
 obtain ⟨n,rfl⟩:=hs
 exact ⟨h.at',ownsRow_block h.row fun _ _=>rfl,h.past,h.below.trans ((Same.drewN W n).below _),h.nil⟩
theorem UIn.moves {n:Nat} (h:UIn w0 ats out ov W) (hm:Moves W ov W' ov') (hr:W'.ownsRow 0 3 1 ov' (out.length+1) (out.map intV++[intV n])):UIn w0 ats (out++[n]) ov' W':=by
 have hl:=h.lt
 refine ⟨(hm.block hl fun e=>?_).trans h.at',?_,hm.past h.past (by omega),hm.below (fun k e=>?_) h.below (by omega),fun e=>by simp at e⟩
 ·have:=h.past _ e; omega
 ·rw [List.map_append,List.length_append]; exact hr
 ·have:=h.past _ e; omega
theorem UIn.set {i v:Nat} (h:UIn w0 ats out ov W):UIn w0 (ats.set i v) out ov (W.setCell ⟨w0.heap.size,i,none⟩ (.int .i64 v)):=by
 refine ⟨?_,ownsRow_block h.row fun k e=>Below.heap_setCell _ _ _ _ fun e'=>?_,h.past,h.below.setCell (p:=⟨w0.heap.size,i,none⟩) (Nat.le_refl _) _,h.nil⟩
 ·rw [heap_setCell_same W w0.heap.size i _ _ _ h.at',List.map_set]
  congr 1
  simp [intV]
 ·have:=h.past _ e
  simp only at e'
  omega
theorem UIn.cell {i a:Nat} (h:UIn w0 ats out ov W) (hi:ats[i]?=some a):W.cell? ⟨w0.heap.size,i,none⟩=some (.int .i64 a):=by
 rw [cell_block h.at']
 simp [hi,intV]
theorem UIn.free {i:Nat} (h:UIn w0 ats out ov W):W.frozen? ⟨w0.heap.size,i,none⟩=false:=free_block h.at'
end
def mix (Ps:List (List Nat)) (b c j:Nat):List Nat:=(Ps.take j).map (cnt c)++(Ps.drop j).map (cnt b)
theorem mix_zero (Ps:List (List Nat)) (b c:Nat):mix Ps b c 0=Ps.map (cnt b):=by simp [mix]
theorem mix_all (Ps:List (List Nat)) (b c:Nat):mix Ps b c Ps.length=Ps.map (cnt c):=by simp [mix]
theorem mix_at {Ps:List (List Nat)} {b c j:Nat} {P:List Nat} (h:Ps[j]?=some P):(mix Ps b c j)[j]?=some (cnt b P):=by
 have hj:=(List.getElem?_eq_some_iff.1 h).1
 unfold mix
 rw [List.getElem?_append_right (by simp; omega)]
 simp [Nat.min_eq_left (Nat.le_of_lt hj),h]
theorem mix_step {Ps:List (List Nat)} {b c j:Nat} {P:List Nat} (h:Ps[j]?=some P):(mix Ps b c j).set j (cnt c P)=mix Ps b c (j+1):=by
 have hj:=(List.getElem?_eq_some_iff.1 h).1
 have he:Ps[j]=P:=(List.getElem?_eq_some_iff.1 h).2
 unfold mix
 rw [List.take_succ_eq_append_getElem hj,List.drop_eq_getElem_cons hj,he]
 rw [List.set_append_right (h:=by simp; omega)]
 simp [Nat.min_eq_left (Nat.le_of_lt hj)]
theorem mix_keep {Ps:List (List Nat)} {b c j:Nat} {P:List Nat} (h:Ps[j]?=some P) (hc:cnt c P=cnt b P):mix Ps b c j=mix Ps b c (j+1):=by
 rw [← mix_step h,hc]
 apply List.ext_getElem?
 intro i
 rw [List.getElem?_set]
 by_cases hi:j=i
 ·subst hi
  have hm:=mix_at (b:=b) (c:=c) h
  rw [if_pos rfl,if_pos (List.getElem?_eq_some_iff.1 hm).1]
  exact hm
 ·rw [if_neg hi]
structure Terms (w:World) (sb:Nat) (D:List (List (List UInt8))) (pv fv:Value) (l:List (List UInt8 × Nat)):Prop where
 few:l.length≤10000
 seg:w.cell? ⟨sb,2,none⟩=some pv
 found:∀ (j:Nat) t i,l[j]?=some (t,i) → ∃ g cap,fv = .slice (some ⟨g,0,none⟩) l.length cap∧w.cell? ⟨g,j * 2,none⟩=some (.string ⟨t.toArray⟩)∧w.cell? ⟨g,j * 2+1,none⟩=some (.int .i64 i)
 form:∃ a cap,fv = .slice a l.length cap
 posts:∀ (j:Nat) t i,l[j]?=some (t,i) → ∃ g n cap a cap2,pv = .slice (some ⟨g,0,none⟩) n cap∧i < n∧n≤10000∧w.cell? ⟨g,i,none⟩=some (.slice a (postsOf D t).length cap2) ∧
  ∀ (k:Nat) d,(postsOf D t)[k]?=some d → ∃ gp,a=some ⟨gp,0,none⟩∧w.cell? ⟨gp,k,none⟩=some (.int .i64 d)
theorem SegAt.terms {w:World} {sb:Nat} {D:List (List (List UInt8))} {kn:Value} {db:Nat} {R:Nat→Prop} {Λ:Nat→List Word} {ρ:Nat→Nat} {Dd:List DS} {pv:Value} {ps:List Value} (h:SegAt w sb D kn db R Λ ρ Dd pv ps)
  {acc:List UInt8→Bool} {fv:Value} (hf:w.ownsRow 0 182 2 fv (hits acc (Λ 0) 0).length (foundCells (hits acc (Λ 0) 0))):Terms w sb D pv fv (hits acc (Λ 0) 0):=by
 obtain ⟨h1,h2,h3,h4,h5,h6,h7,h8⟩:=h
 refine ⟨Nat.le_trans (by unfold hits; exact Nat.le_trans (List.length_filter_le _ _) (by simp)) h5,cell_block h1,fun j t i hj=>?_,ownsRow_form hf,fun j t i hj=>?_⟩
 ·obtain ⟨f1,f2⟩:=foundCells_at _ _ _ hj
  obtain ⟨g,cap,e1,e2⟩:=ownsRow_cell hf f1
  obtain ⟨g',cap',e1',e2'⟩:=ownsRow_cell hf f2
  rw [e1] at e1'
  simp only [Value.slice.injEq,Option.some.injEq,Addr.mk.injEq,and_true,true_and] at e1'
  obtain ⟨rfl,rfl⟩:=e1'
  exact ⟨g,cap,e1,e2,e2'⟩
 ·obtain ⟨_,_,hm⟩:=hits_mem (List.mem_of_getElem? hj)
  simp only [Nat.sub_zero] at hm
  have hil:=(List.getElem?_eq_some_iff.1 hm).1
  have hpl:ps.length=(Λ 0).length:=by have:=h7.1; omega
  have hpi:ps[i]?=some ps[i]:=List.getElem?_eq_getElem (by omega)
  obtain ⟨g,cap,e1,e2⟩:=ownsRow_cell h7 hpi
  have hr:=h8 i _ _ hpi hm
  obtain ⟨a,cap2,e3⟩:=ownsRow_form hr
  refine ⟨g,_,cap,a,cap2,e1,hil,h5,by rw [e2,e3],fun k d hd=>?_⟩
  obtain ⟨gp,cp,e4,e5⟩:=ownsRow_cell hr (j:=k) (u:=intV d) (by simp [hd])
  rw [e3] at e4
  simp only [Value.slice.injEq] at e4
  exact ⟨gp,e4.1,e5⟩
theorem postsOf_rise (D:List (List (List UInt8))) (x:List UInt8):(postsOf D x).Pairwise (· < ·):=by
 unfold postsOf
 exact List.Pairwise.filter _ List.pairwise_lt_range
end Go.Proofs.Ts
