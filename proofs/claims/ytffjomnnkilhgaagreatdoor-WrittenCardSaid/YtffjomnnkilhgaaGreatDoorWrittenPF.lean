/- Lemmas towards the statement Written of termsearch: walks of the program's functions and plain laws on lists (TsGoes, TsPlan, TsFind, TsUnionA, TsBuild, TsSearch, TsPlainA, TsPlain, TsCard, TsCardT, TsErrs, TsCardE, TsCardB, TlBase, TlWords, TlIndex). Conditions: those that each theorem names. -/
import Derived.Test.YtffjomnnkilhgaaGreatDoorWrittenPA
import Derived.Test.YtffjomnnkilhgaaGreatDoorWrittenPE
import Derived.Laws.Tables
import Derived.Test.YtffjomnnkilhgaaGreatDoorLocks
import Derived.Conc.MuLone
import Derived.Test.YtffjomnnkilhgaaGreatDoorWrittenPB
import Derived.Test.YtffjomnnkilhgaaGreatDoorWrittenPC
import Derived.Test.YtffjomnnkilhgaaGreatDoorCards
import Derived.Test.YtffjomnnkilhgaaGreatDoorTie
import Derived.WalkKit
import Derived.ProofKit
import Derived.OpenShut
import Derived.Carry
import Derived.SliceStrings
import Derived.LaidHandle
import Derived.LaidLaws
import Derived.Deep.DeepHandedRow
import Derived.Lib.LaidU8T
import Derived.PinnedBridge
import Derived.LaidEql
import Derived.Stop.Asserts
import Derived.RowKitTokens
set_option linter.unusedVariables false
set_option linter.unusedSimpArgs false
set_option linter.unusedSectionVars false
namespace Go.Proofs.Ts
open Go Go.RowKit
def Cells (w w':World):Prop:=w.heap.size≤w'.heap.size ∧ ∀ (k:Nat) cs t r,w.heap[k]?=some (.cells cs t r)→t≠168→w'.heap[k]?=w.heap[k]?
theorem Cells.below {w w':World} (h:Below w.heap.size w w'):Cells w w':=⟨h.size,fun k cs t r hk _=>h.block k (Array.getElem?_eq_some_iff.1 hk).1⟩
def stillT:List Nat:=[436,352,447,440,412,415,456,21,310,248,134,207,242,172]
def Still (t:Nat):Prop:=t∈stillT
instance (t:Nat):Decidable (Still t):=inferInstanceAs (Decidable (t∈stillT))
def StillKept (w w':World):Prop:=∀ (k:Nat) cs t r,w.heap[k]?=some (.cells cs t r)→Still t→w'.heap[k]?=w.heap[k]?
def BlockIn (w:World) (q:Nat × Array Value × TypeId):Prop:=w.heap[q.1]?=some (.cells q.2.1 q.2.2 (0,0))
structure Goes (w:World) (fv:Value) (acc:List UInt8→Bool):Prop where
 ex:∃ (f ab:Nat) (bl:List (Nat × Array Value × TypeId)),fv = .func (.func f) #[] #[ptrV ab]∧(∀ q∈bl,BlockIn w q∧(q.2.2≠168∧Still q.2.2))∧(∀ args w,(callFunc f args).run Tryz.prog w = .ok (.enter f args) w) ∧
  ∀ w1,(∀ q∈bl,BlockIn w1 q) → ∀ (db:Nat) (R:Nat→Prop) (Λ:Nat→List Word) (ρ:Nat→Nat) (D:List DS) (g:Nat) (lb:Array Value),(∀ args w,(callFunc g args).run Tryz.prog w = .ok (.enter g args) w) →
   DictIs w1 db R Λ ρ D→(Λ 0).length≤1000000 → ∀ J Jx:List (List UInt8 × Nat)→World→Prop,(∀ ys wa wb,J ys wa→StepsB w1.heap.size wa wb→J ys wb) →
   (∀ ys t i wa,J ys wa→ys++[(t,i)] <+: hits acc (Λ 0) 0→Calls Tryz.prog g (#[strV t,intV i]++lb) wa fun e wb=>KeepT wa wb∧((e = .returned (.bool true)∧J (ys++[(t,i)]) wb)∨(e = .returned (.bool false)∧Jx (ys++[(t,i)]) wb))) →
   J [] w1→Calls Tryz.prog f #[ptrV db,.func (.func g) #[] lb,ptrV ab] w1 fun e w'=>e = .returned (.tuple #[])∧KeepT w1 w'∧(J (hits acc (Λ 0) 0) w' ∨ ∃ zs,zs <+: hits acc (Λ 0) 0∧Jx zs w')
theorem Goes.still {w w':World} {fv:Value} {acc:List UInt8→Bool} (h:Goes w fv acc) (hk:StillKept w w'):Goes w' fv acc:=by
 obtain ⟨f,ab,bl,h1,h2,h3,h4⟩:=h.ex
 exact ⟨f,ab,bl,h1,fun q hq=>⟨(hk _ _ _ _ (h2 q hq).1 (h2 q hq).2.2).trans (h2 q hq).1,(h2 q hq).2⟩,h3,h4⟩
inductive EV where
 | no (k:Int)
 | bad (k i:Int)
def ErrIs (w:World) (ev:Value):EV→Prop
 | .no k=>ev=errnoV k
 | .bad k i=>∃ b,ev = .iface 129 (ptrV b)∧w.heap[b]?=some (.cells #[.int .i64 k,.int .i64 i] 134 (0,0))
open Classical in
noncomputable def patAcc (P:Parsed) (st:Nat):Option (List UInt8→Bool):=match P with
 | .ok x=>if (PM.compile x).wide st then none else Option.some fun u=>(PM.compile x).reads beginSet u
 | _=>none
open Classical in
noncomputable def patErr (P:Parsed) (st:Nat):Option EV:=match P with
 | .fault i=>Option.some (.bad 6 i)
 | .big=>Option.some (.no 9)
 | .ok x=>if (PM.compile x).wide st then Option.some (.no 9) else none
noncomputable def accOf (q:Asked):Option (List UInt8→Bool) :=
 if q.a.length≤40 then (if q.kind=1 then some (fun u=>decide (u=q.a)) else if q.kind=2 then some (fun u=>decide (q.a <+: u))
  else if q.kind=6∧nearBad ⟨q.a.toArray⟩ q.n=none then some (accA (nstep (runesR ⟨q.a.toArray⟩) q.n.toNat) (nends (runesR ⟨q.a.toArray⟩) q.n.toNat) nstart)
  else if q.kind=5 then patAcc (parseP ⟨q.a.toArray⟩) q.states.toNat else if q.kind=4 then patAcc (wildP ⟨q.a.toArray⟩) q.states.toNat
  else if q.kind=3∧q.b.length≤40 then some (fun u=>accA (betStep q.a q.b) (betEnds q.a) (betStart q.b) u) else none) else none
noncomputable def errOf (q:Asked):Option EV :=
 if q.a.length≤40 then (if q.kind=6 then (nearBad ⟨q.a.toArray⟩ q.n).map EV.no else if q.kind=5 then patErr (parseP ⟨q.a.toArray⟩) q.states.toNat
  else if q.kind=4 then patErr (wildP ⟨q.a.toArray⟩) q.states.toNat else if q.kind=3∧40 < q.b.length then some (.no 2) else none)
 else if 1≤q.kind∧q.kind≤6 then some (.no 2) else none
theorem ErrIs.still {w w':World} {ev:Value} {e:EV} (h:ErrIs w ev e) (hk:StillKept w w'):ErrIs w' ev e:=by
 cases e with
 | no k=>exact h
 | bad k i =>
  obtain ⟨b,h1,h2⟩:=h
  exact ⟨b,h1,(hk _ _ _ _ h2 (by decide)).trans h2⟩
structure PlanFor (w:World) (q:Asked) (pb:Nat):Prop where
 goes:∀ acc,accOf q=some acc → ∃ fv,w.heap[pb]?=some (.cells #[fv,.nilIface] 248 (0,0))∧Goes w fv acc
 errs:∀ k,errOf q=some k → ∃ fv ev,w.heap[pb]?=some (.cells #[fv,ev] 248 (0,0))∧ErrIs w ev k
theorem PlanFor.still {w w':World} {q:Asked} {pb:Nat} (h:PlanFor w q pb) (hk:StillKept w w'):PlanFor w' q pb :=
 ⟨fun acc ha=>by
  obtain ⟨fv,h1,h2⟩:=h.goes acc ha
  exact ⟨fv,(hk _ _ _ _ h1 (by decide)).trans h1,h2.still hk⟩,fun k he=>by
  obtain ⟨fv,ev,h1,h2⟩:=h.errs k he
  exact ⟨fv,ev,(hk _ _ _ _ h1 (by decide)).trans h1,h2.still hk⟩⟩
end Go.Proofs.Ts
namespace Go.Proofs.Ts
open Go Go.RowKit Go.MuLone
def KnownIs (B:Nat) (w:World) (kn:Value):Prop :=
 kn = .map none ∨ ∃ (km:Nat) (m:List (Asked × Value)),kn = .map (some km)∧B≤km∧MapIs askedV w km m∧Apart m ∧ ∀ q v,get m q=some v → ∃ pb,v=ptrV pb∧PlanFor w q pb
def segObj (nd db:Nat) (pv:Value) (l:Int) (kn:Value):Obj := .cells #[.int .i64 nd,.pointer (some ⟨db,0,none⟩),pv,.int .i32 l,.int .u32 0,kn] 168 (0,0)
end Go.Proofs.Ts
namespace Go.Proofs.Ts
open Go Go.RowKit
def SegAt (w:World) (sb:Nat) (D:List (List (List UInt8))) (kn:Value) (db:Nat) (R:Nat→Prop) (Λ:Nat→List Word) (ρ:Nat→Nat) (Dd:List DS) (pv:Value) (ps:List Value):Prop :=
 w.heap[sb]?=some (segObj D.length db pv 0 kn) ∧
  DictIs w db R Λ ρ Dd∧(Λ 0).Pairwise (fun a b=>a < b)∧(∀ x,x∈Λ 0↔postsOf D x≠[])∧(Λ 0).length≤10000∧(∀ x∈Λ 0,x.length≤16) ∧
  w.ownsRow 0 24 1 pv (Λ 0).length ps ∧ ∀ (i:Nat) v x,ps[i]?=some v→(Λ 0)[i]?=some x→w.ownsRow 0 3 1 v (postsOf D x).length ((postsOf D x).map intV)
section
variable {w w':World} {sb:Nat} {D:List (List (List UInt8))} {kn kn':Value} {db:Nat} {R:Nat→Prop} {Λ:Nat→List Word} {ρ:Nat→Nat} {Dd:List DS} {pv:Value} {ps:List Value}
theorem SegAt.kept (h:SegAt w sb D kn db R Λ ρ Dd pv ps) (hc:Cells w w') (hs:w'.heap[sb]?=some (segObj D.length db pv 0 kn')):SegAt w' sb D kn' db R Λ ρ Dd pv ps:=by
 obtain ⟨h1,h2,h3,h4,h5,h6,h7,h8⟩:=h
 exact ⟨hs,h2.kept hc.2,h3,h4,h5,h6,ownsRow_typed h7 fun k cs r hk=>hc.2 k cs _ r hk (by decide),fun i v x hv hx=>ownsRow_typed (h8 i v x hv hx) fun k cs r hk=>hc.2 k cs _ r hk (by decide)⟩
theorem SegAt.below (h:SegAt w sb D kn db R Λ ρ Dd pv ps) (hb:Below w.heap.size w w'):SegAt w' sb D kn db R Λ ρ Dd pv ps :=
 h.kept (Cells.below hb) ((hb.block sb (lt_of_heap h.1)).trans h.1)
end
end Go.Proofs.Ts
namespace Go.Proofs.Ts
open Go Go.RowKit
theorem ownsRow_cell {w:World} {B e size n j:Nat} {v u:Value} {xs:List Value} (h:w.ownsRow B e size v n xs) (hj:xs[j]?=some u):∃ g cap,v=sL g n cap∧w.cell? (aD g j)=some u:=by
 rcases h.2 with ⟨rfl,rfl⟩ | ⟨g,cap,cur,rfl,_⟩
 ·have:=h.1
  simp at this
  subst this
  simp at hj
 ·refine ⟨g,cap,rfl,?_⟩
  have h2:=h.cells (g:=g) rfl j u hj
  by_cases h0:j=0
  ·subst h0; simpa [Addr.add] using h2
  ·simpa [Addr.add,h0] using h2
section
variable {w0 W W':World} {ats out:List Nat} {ov ov':Value}
end
theorem postsOf_rise (D:List (List (List UInt8))) (x:List UInt8):(postsOf D x).Pairwise (· < ·):=by
 unfold postsOf
 exact List.Pairwise.filter _ List.pairwise_lt_range
end Go.Proofs.Ts
namespace Go.Proofs.Ts
open Go Go.RowKit Go.Shelf
attribute [local go_sem] Oper.semAt_some
def bTmps (a0:Option Addr) (len cap0 B k:Nat) (u:Nat→Value):Array Value :=
 #[.slice a0 len cap0,undef,.pointer none,.nilIface,ptrV (B+1),u 5,u 6,u 7,u 8,undef,undef,undef,undef,undef,.slice a0 len cap0,intV len,.bool false,undef,.map (some B),.slice a0 len cap0,intV len,intV k,u 22,u 23,u 24,u 25,u 26,u 27,u 28,u 29,u 30,u 31,u 32,u 33,u 34,u 35,u 36,u 37,u 38,u 39,u 40,u 41,u 42,u 43,u 44,u 45,u 46,u 47,u 48,u 49,u 50,u 51,u 52,u 53,u 54,u 55,undef,undef,undef,undef,undef,undef,undef,undef,undef,undef,undef,undef,undef,undef,undef,undef,undef,undef,undef,undef,undef,undef,undef,undef,undef,undef,undef,undef,undef,undef,undef,undef,undef,undef,undef,undef,undef,undef]
theorem bTmps_of {a0:Option Addr} {len cap0 B k:Nat} {tm:Array Value} (h:tm=bTmps a0 len cap0 B k fun i=>tm.getD i undef):∃ u,tm=bTmps a0 len cap0 B k u:=⟨_,h⟩
def rTmps (b off len cap0 B ib k:Nat) (d:ByteArray) (u:Nat→Value) (x:List UInt8):Array Value :=
 #[.slice (some ⟨b,off,none⟩) len cap0,undef,.pointer none,.nilIface,.pointer (some ⟨B+1,0,none⟩),.pointer (some ⟨ib,0,none⟩),.string d,.string ⟨x.toArray⟩,u 8,undef,undef,undef,undef,undef,.slice (some ⟨b,off,none⟩) len cap0,.int .i64 len,.bool false,undef,.map (some B),.slice (some ⟨b,off,none⟩) len cap0,.int .i64 len,.int .i64 k,.bool true,.int .i64 k,.pointer (some ⟨b,off+k,none⟩),.string d,.string d,.int .i64 d.size,.bool false,u 29,.string d,.func (.func 133) #[] #[.pointer (some ⟨ib+1,0,none⟩)],.string ⟨x.toArray⟩,u 33,u 34,u 35,u 36,u 37,u 38,u 39,u 40,u 41,u 42,u 43,u 44,u 45,u 46,u 47,u 48,u 49,u 50,u 51,u 52,u 53,u 54,u 55,undef,undef,undef,undef,undef,undef,undef,undef,undef,undef,undef,undef,undef,undef,undef,undef,undef,undef,undef,undef,undef,undef,undef,undef,undef,undef,undef,undef,undef,undef,undef,undef,undef,undef,undef,undef,undef,undef]
def markD (D:Nat):Deferred:={ target := .collected D,args:=#[] }
structure BI (w:World) (Ds:List Nat) (D:List (List (List UInt8))) (ib:Option Nat) (W:World):Prop where
 posts:∃ m,PostsIn (w.heap.size+2) w.heap.size W m (postsOf D) ∧ ∀ i,ib=some i → ∀ y v,get m y=some v→v.ownBlock≠some i
 box:W.heap[w.heap.size+1]?=some (.cells #[.map (some w.heap.size)] 190 (0,0))
 below:Below w.heap.size w W
 size:w.heap.size+2≤W.heap.size
 marks:∀ d∈Ds,W.heap[d]?=some (.deferred (some []))
 nodup:Ds.Nodup ∧ ∀ d∈Ds,w.heap.size+2≤d
theorem BI.kept {w:World} {Ds:List Nat} {D:List (List (List UInt8))} {ib:Option Nat} {W W':World} (h:BI w Ds D ib W) (hg:W.grownBy W' none):BI w Ds D ib W':=by
 obtain ⟨m,hp,hi⟩:=h.posts
 refine ⟨⟨m,hp.keptAll fun k hk=>hg.block k hk (by simp),hi⟩,(hg.block _ (by have:=h.size; omega) (by simp)).trans h.box,h.below.trans ⟨hg.os,hg.tape,hg.output,hg.size,fun k hk=>hg.block k (Nat.lt_of_lt_of_le hk h.below.size) (by simp)⟩,Nat.le_trans h.size hg.size,fun d hd=>(hg.block d (Array.getElem?_eq_some_iff.1 (h.marks d hd)).1 (by simp)).trans (h.marks d hd),h.nodup⟩
theorem BI.turned {w:World} {Ds:List Nat} {D:List (List (List UInt8))} {ib:Option Nat} {W W':World} {row:Option Nat} (h:BI w Ds D ib W) (hg:W.grownBy W' row)
  (hr:∀ r,row=some r→w.heap.size+2≤r∧r ∉ Ds ∧ ∃ o:Obj,W.heap[r]?=some o∧o.isCells=false):BI w Ds D ib W':=by
 obtain ⟨m,hp,hi⟩:=h.posts
 refine ⟨⟨m,hp.grown hg fun r e=>⟨by have:=(hr r e).1; omega,(hr r e).2.2⟩,hi⟩,(hg.block _ (by have:=h.size; omega) fun e=>?_).trans h.box,h.below.grown hg h.below.size fun k e=>by have:=(hr k e).1; omega,Nat.le_trans h.size hg.size,fun d hd=>(hg.block d (Array.getElem?_eq_some_iff.1 (h.marks d hd)).1 fun e=>(hr d e.symm).2.1 hd).trans (h.marks d hd),h.nodup⟩
 have:=(hr _ e.symm).1
 omega
theorem ownsRow_cells {w:World} {B e size n g:Nat} {v:Value} {xs:List Value} (h:w.ownsRow B e size v n xs) (hg:v.ownBlock=some g):∃ cur,w.heap[g]?=some (.cells cur e (0,0)):=by
 rcases h.2 with ⟨rfl,_⟩ | ⟨g',cap,cur,rfl,_,hc,_⟩
 ·cases hg
 ·cases hg; exact ⟨cur,hc⟩
theorem BJ.add {w W1 W4 W5:World} {Ds:List Nat} {D:List (List (List UInt8))} {ib k B0:Nat} {pre:List (List UInt8)} {x:List UInt8} {m:List (List UInt8 × Value)} {v4:Value} (hb:BI w Ds (D++[pre]) (some ib) W1) (hib:W1.heap[ib]?=some (.cells #[iV k] 3 (0,0)))
  (hp:PostsIn (w.heap.size+2) w.heap.size W1 m (postsOf (D++[pre]))) (hia:∀ y v,get m y=some v→v.ownBlock≠some ib) (hx:x ∉ pre) (hD:D.length=k) (hB0:w.heap.size < B0)
  (hrow4:W4.ownsRow 0 3 1 v4 ((postsOf (D++[pre]) x).length+1) ((postsOf (D++[pre]) x).map intV++[iV k]))
  (hgrow4:((W1.alloc (.cells #[iV k] 3)).drew.drew).grownBy W4 (postV m x).ownBlock) (hlies4:Lies ((W1.alloc (.cells #[iV k] 3)).drew.drew) W4 (postV m x) v4)
  (hg:W4.grownBy W5 (some w.heap.size)) (hmap:MapIs strV W5 w.heap.size (put m x v4)) :
  KeepsFrom B0 W1 W5∧KeepStr W1 W5∧(BI w Ds (D++[pre++[x]]) (some ib) W5∧W5.heap[ib]?=some (.cells #[iV k] 3 (0,0))):=by
 have hs2:((W1.alloc (.cells #[iV k] 3)).drew.drew).heap.size=W1.heap.size+1:=by simp
 have old2:∀ j,j < W1.heap.size→((W1.alloc (.cells #[iV k] 3)).drew.drew).heap[j]?=W1.heap[j]?:=fun j hj=>Below.heap_alloc W1 _ j hj
 have hmv:Moves W1 (postV m x) W4 v4:=((Moves.alloc W1 _ _).trans (Moves.same _ ((Same.drew _).trans (Same.drew _)))).trans (Moves.append hgrow4 hlies4)
 have hrowV:=hp.rowV x
 have hown:∀ g,(postV m x).ownBlock=some g → ∃ y v,get m y=some v∧v.ownBlock=some g:=fun g e=>by
  unfold postV at e
  cases hgx:get m x with
  | none=>rw [hgx] at e; cases e
  | some v=>rw [hgx] at e; exact ⟨x,v,hgx,e⟩
 have hvib:(postV m x).ownBlock≠some ib:=fun e=>by
  obtain ⟨y,v,h1,h2⟩:=hown ib e
  exact hia y v h1 h2
 have hpast:∀ g,(postV m x).ownBlock=some g→w.heap.size+2≤g:=fun g e=>by
  obtain ⟨y,v,h1,h2⟩:=hown g e
  exact hp.past y v g h1 h2
 have hibl:=(Array.getElem?_eq_some_iff.1 hib).1
 obtain ⟨mes,mcl,hmb,_⟩:=hp.map
 have hibm:ib≠w.heap.size:=fun e=>by rw [e,hmb] at hib; cases hib
 have keep:∀ j,j < W1.heap.size→(postV m x).ownBlock≠some j→j≠w.heap.size→W5.heap[j]?=W1.heap[j]?:=fun j hj h1 h2 =>
  (hg.block j (Nat.lt_of_lt_of_le hj hmv.size) fun e=>h2 (Option.some.inj e)).trans (hmv.block hj h1)
 have hbel:Below w.heap.size w W5:=((hmv.below (fun g e=>by have:=hpast g e; omega) hb.below hb.below.size)).grown hg (Nat.le_trans hb.below.size hmv.size) fun g e=>by cases e; exact Nat.le_refl _
 have hadd:=hp.add (i:=k) (by have:=hb.size; omega) hmv (by rw [List.map_append]; exact hrow4) hg hmap
 refine ⟨?_,?_,⟨⟨put m x v4,?_,?_⟩,?_,hbel,Nat.le_trans hb.size (Nat.le_trans hmv.size hg.size),?_,hb.nodup⟩,?_⟩
 ·refine (((((KeepsOthers.alloc W1 _).trans (KeepsOthers.drew _)).trans (KeepsOthers.drew _)).trans (KeepsOthers.of_grownBy hgrow4 fun j o e ho=>?_)).from _).trans (KeepsFrom.of_grownBy hg fun j e=>by cases e; exact hB0)
  obtain ⟨cur,hcur⟩:=ownsRow_cells hrowV e
  rw [old2 j (Array.getElem?_eq_some_iff.1 hcur).1,hcur] at ho
  cases ho
  rfl
 ·intro j cs r hj
  refine keep j (Array.getElem?_eq_some_iff.1 hj).1 (fun e=>?_) (fun e=>?_)
  ·obtain ⟨cur,hcur⟩:=ownsRow_cells hrowV e
   rw [hcur] at hj
   cases hj
  ·rw [e,hmb] at hj
   cases hj
 ·rw [postsOf_new _ _ _ hx,hD]
  exact hadd
 ·intro i e y v hv e'
  cases e
  rw [get_put] at hv
  split at hv
  ·cases hv
   rcases hmv.lies with h1 | ⟨g',h1,h2⟩
   ·exact hvib (h1 ▸ e')
   ·rw [h1] at e'
    have:=Option.some.inj e'
    omega
  ·exact hia y v hv e'
 ·exact (keep _ (by have:=hb.size; omega) (fun e=>by have:=hpast _ e; omega) (by omega)).trans hb.box
 ·intro d hd
  have hm:=hb.marks d hd
  refine (keep d (Array.getElem?_eq_some_iff.1 hm).1 (fun e=>?_) (fun e=>?_)).trans hm
  ·obtain ⟨cur,hcur⟩:=ownsRow_cells hrowV e
   rw [hcur] at hm
   cases hm
  ·rw [e,hmb] at hm
   cases hm
 ·exact (keep ib hibl hvib hibm).trans hib
def sliceLen:Value→Nat
 | .slice _ n _=>n
 | _=>0
structure TI (W6:World) (mb it:Nat) (m:List (List UInt8 × Value)) (ts:List (List UInt8)) (v:Value) (W:World):Prop where
 iter:IterIs strV W mb it m ts
 row:W.ownsRow 0 9 1 v ts.length (ts.map strV)
 past:Past W6.heap.size v
 mod:Mod (fun j=>j=it) W6 W
 nodup:ts.Nodup
 sub:∀ t∈ts,t∈m.map (·.1)
theorem TI.few {W6 W:World} {mb it:Nat} {m:List (List UInt8 × Value)} {ts:List (List UInt8)} {v:Value} (h:TI W6 mb it m ts v W):ts.length≤m.length:=by
 have:=nodup_le ts (m.map (·.1)) h.nodup h.sub
 simpa using this
theorem TI.len {W6 W:World} {mb it:Nat} {m:List (List UInt8 × Value)} {ts:List (List UInt8)} {v:Value} (h:TI W6 mb it m ts v W):sliceLen v=ts.length:=by
 obtain ⟨a,cap,rfl⟩:=ownsRow_form h.row
 rfl
theorem TI.rowStep {W6 wr w2:World} {mb it:Nat} {m:List (List UInt8 × Value)} {ts:List (List UInt8)} {v:Value} (h:TI W6 mb it m ts v wr) (hit:it < W6.heap.size) (hg2:wr.grownBy w2 (some it)) :
  w2.ownsRow 0 9 1 v ts.length (ts.map strV) :=
 ownsRow_block h.row fun j e=>hg2.block j (h.row.lt j e).2 fun e'=>by have:=h.past j e; have:=Option.some.inj e'; omega
theorem TI.step {W6 wr w2 W4:World} {mb it:Nat} {m:List (List UInt8 × Value)} {ts:List (List UInt8)} {v v0 v4:Value} {k:List UInt8} (h:TI W6 mb it m ts v wr) (hmb:mb < W6.heap.size) (hit:it < W6.heap.size) (hk:k ∉ ts) (hkm:(k,v0)∈m)
  (hg2:wr.grownBy w2 (some it)) (hs2:w2.heap.size=wr.heap.size) (hi2:IterIs strV w2 mb it m (ts++[k])) (hrow4:W4.ownsRow 0 9 1 v4 (ts.length+1) (ts.map strV++[strV k]))
  (hgrow4:(w2.alloc (.cells #[strV k] 9)).grownBy W4 v.ownBlock) (hlies4:Lies (w2.alloc (.cells #[strV k] 9)) W4 v v4):TI W6 mb it m (ts++[k]) v4 W4:=by
 have hsz:=h.mod.size
 have hs3:(w2.alloc (.cells #[strV k] 9)).heap.size=w2.heap.size+1:=by simp
 have hmv:Moves w2 v W4 v4:=(Moves.alloc w2 v _).trans (Moves.append hgrow4 hlies4)
 have keep:∀ j,j < W6.heap.size→W4.heap[j]?=w2.heap[j]?:=fun j hj=>hmv.block (by omega) fun e=>by have:=h.past j e; omega
 refine ⟨hi2.kept (keep mb hmb) (keep it hit),by simpa using hrow4,hmv.past h.past (by omega),⟨hmv.grown.os.trans (hg2.os.trans h.mod.os),hmv.grown.tape.trans (hg2.tape.trans h.mod.tape),hmv.grown.output.trans (hg2.output.trans h.mod.output),by have:=hmv.size; omega,fun j hj hne=>?_⟩,?_,?_⟩
 ·exact (keep j hj).trans ((hg2.block j (by omega) fun e=>hne (Option.some.inj e)).trans (h.mod.block j hj hne))
 ·rw [List.nodup_append]
  exact ⟨h.nodup,by simp,fun a ha b hb=>by simp at hb; subst hb; exact fun e=>hk (e ▸ ha)⟩
 ·intro t ht
  rcases List.mem_append.1 ht with ht | ht
  ·exact h.sub t ht
  ·simp at ht
   subst ht
   exact List.mem_map.2 ⟨(t,v0),hkm,rfl⟩
theorem leaves_marks {F:Fence} {n:Nat} {P:Program} {fn:Func} {tmps:Array Value} {R:Ending→World→Prop} {v:Value} (hres:∀ w,(results fn tmps).run P w = .ok v w):∀ (Ds:List Nat) (w:World),(∀ d∈Ds,w.heap[d]?=some (.deferred (some [])))→Ds.Nodup →
  (∀ w',Mod (fun k=>k∈Ds) w w'→R (.returned v) w')→LeavesInM F n P fn tmps R (Ds.map markD) .returning w
 | [],w,_,_,h=>⟨v,hres w,h w (Mod.refl _ _)⟩
 | d :: Ds,w,hm,hn,h=>by
  rw [List.nodup_cons] at hn
  refine ⟨by simp,.inl ⟨d,_,rfl,run_takeDeferred (hm d (by simp)),?_⟩⟩
  have hg:=grownBy_putObj' w d (.deferred none)
  refine leaves_marks hres Ds _ (fun d' hd'=>?_) hn.2 fun w' hw'=>h w' ?_
  ·rw [hg.block d' (Array.getElem?_eq_some_iff.1 (hm d' (by simp [hd']))).1 (fun e=>hn.1 (by have:=Option.some.inj e; exact this ▸ hd'))]
   exact hm d' (by simp [hd'])
  ·exact (Mod.grown (S:=fun k=>k∈d :: Ds) hg fun k e _=>by cases e; simp).trans (hw'.mono fun k _ hk=>by simp [hk])
structure RI (W9:World) (sb n db:Nat) (vs:List Value) (W:World):Prop where
 ex:∃ pv,W.heap[sb]?=some (.cells #[.int .i64 n,.pointer (some ⟨db,0,none⟩),pv,.int .i32 0,.int .u32 0,.map none] 168 (0,0)) ∧
  W.ownsRow 0 24 1 pv vs.length vs ∧ ∀ g,pv.ownBlock=some g→W9.heap.size≤g
 mod:Mod (fun j=>j=sb) W9 W
theorem RI.step {W9 wr W4:World} {sb n db:Nat} {vs:List Value} {pv x v4:Value} (h:RI W9 sb n db vs wr) (hsb:sb < W9.heap.size)
  (hsg:wr.heap[sb]?=some (.cells #[iV n,pT db,pv,.int .i32 0,.int .u32 0,.map none] 168 (0,0)))
  (hpp:∀ g,pv.ownBlock=some g→W9.heap.size≤g) (hrow4:W4.ownsRow 0 24 1 v4 (vs.length+1) (vs++[x]))
  (hgrow4:((wr.alloc (.cells #[x] 24)).drew).grownBy W4 pv.ownBlock) (hlies4:Lies ((wr.alloc (.cells #[x] 24)).drew) W4 pv v4):RI W9 sb n db (vs++[x]) (W4.setCell (aD sb 2) v4):=by
 have hmv:Moves wr pv W4 v4:=((Moves.alloc wr _ _).trans (Moves.same _ (Same.drew _))).trans (Moves.append hgrow4 hlies4)
 have hz:=h.mod.size
 have hsb4:W4.heap[sb]?=wr.heap[sb]?:=hmv.block (by omega) fun e=>by have:=hpp sb e; omega
 have hp4:Past W9.heap.size v4:=hmv.past (fun k e=>hpp k e) hz
 refine ⟨⟨v4,?_,?_,hp4⟩,⟨hmv.grown.os.trans h.mod.os,hmv.grown.tape.trans h.mod.tape,hmv.grown.output.trans h.mod.output,by have:=hmv.size; simp; omega,fun k hk hne=>?_⟩⟩
 ·have:=heap_setCell_same W4 sb 2 _ _ v4 (hsb4.trans hsg)
  rw [this]
  rfl
 ·have hl:(vs++[x]).length=vs.length+1:=by simp
  rw [hl]
  exact ownsRow_block hrow4 fun k e=>Below.heap_setCell W4 _ _ k fun e'=>by have:=hp4 k e; simp only at e'; omega
 ·rw [Below.heap_setCell W4 _ _ k (fun e'=>hne e')]
  exact (hmv.block (by omega) fun e=>by have:=hpp k e; omega).trans (h.mod.block k hk hne)
theorem BI.start (w:World):BI w [] [] none ((w.alloc (.map #[] 0)).alloc (.cells #[.map (some w.heap.size)] 190)):=by
 refine ⟨⟨[],?_,fun i e=>by cases e⟩,?_,((Below.refl _ w).alloc (Nat.le_refl _) _).alloc (by simp) _,by simp,(fun d h=>by cases h),List.nodup_nil,fun d h=>by cases h⟩
 ·exact (PostsIn.made (w.heap.size+2) w (by omega)).keptAll fun k hk=>Below.heap_alloc _ _ k hk
 ·have:=heap_alloc_new (w.alloc (.map #[] 0)) (.cells #[.map (some w.heap.size)] 190)
  simpa using this
def BJ (w:World) (Ds:List Nat) (D:List (List (List UInt8))) (ib k:Nat) (pre:List (List UInt8)) (W:World):Prop :=
 BI w Ds (D++[pre]) (some ib) W∧W.heap[ib]?=some (.cells #[.int .i64 k] 3 (0,0))
theorem BJ.own {w:World} {Ds:List Nat} {D:List (List (List UInt8))} {ib k B:Nat} (hB:w.heap.size+2≤B) (hi:ib < B) (hD:∀ d∈Ds,d < B):OwnFrom B (BJ w Ds D ib k):=fun s A A' row hs hg hr =>
 ⟨hs.1.turned hg fun r e=>⟨Nat.le_trans hB (hr r e).1,fun hm=>by have:=hD r hm; have:=(hr r e).1; omega,(hr r e).2⟩,
  (hg.block _ (Array.getElem?_eq_some_iff.1 hs.2).1 fun e=>by have:=(hr _ e.symm).1; omega).trans hs.2⟩
theorem BI.toJ {w:World} {Ds:List Nat} {D:List (List (List UInt8))} {W:World} {k:Nat} {s:ByteArray} (h:BI w Ds D none W) :
  BJ w Ds D W.heap.size k [] ((W.alloc (.cells #[iV k] 3)).alloc (.cells #[.string s] 9)):=by
 obtain ⟨m,hp,_⟩:=h.posts
 have hk:=h.kept (W':=(W.alloc (.cells #[iV k] 3)).alloc (.cells #[.string s] 9)) ⟨rfl,rfl,rfl,by simp; omega,fun j hj _=>(Below.heap_alloc _ _ j (by simp; omega)).trans (Below.heap_alloc _ _ j hj)⟩
 refine ⟨⟨⟨m,?_,fun i e y v hv e'=>?_⟩,hk.box,hk.below,hk.size,hk.marks,hk.nodup⟩,?_⟩
 ·rw [postsOf_nil]
  exact hp.keptAll fun j hj=>(Below.heap_alloc _ _ j (by simp; omega)).trans (Below.heap_alloc _ _ j hj)
 ·cases e
  have:=((hp.row y v hv).1.lt _ e').2
  omega
 ·rw [Below.heap_alloc _ _ _ (by simp)]
  exact heap_alloc_new W _
theorem Tryz.info9:(Tryz.prog.info? 9).map (fun i=>(i.zero,i.size,i.bytes))=some (some (.string ⟨#[]⟩),1,16):=by kernel_rfl
theorem Tryz.info24:(Tryz.prog.info? 24).map (fun i=>(i.zero,i.size,i.bytes))=some (some (.slice none 0 0),1,24):=by kernel_rfl
theorem Tryz.info3:(Tryz.prog.info? 3).map (fun i=>(i.zero,i.size,i.bytes))=some (some (.int .i64 0),1,8):=by kernel_rfl
def SegFar (B:Nat) (w:World) (sb:Nat) (D:List (List (List UInt8))) (kn:Value):Prop :=
 ∃ db R Λ ρ Dd pv ps,(∀ v∈ps,∀ k,Value.ownBlock v=some k→B≤k)∧w.heap[sb]?=some (.cells #[.int .i64 D.length,.pointer (some ⟨db,0,none⟩),pv,.int .i32 0,.int .u32 0,kn] 168 (0,0)) ∧
  DictIs w db R Λ ρ Dd∧(Λ 0).Pairwise (fun a b=>a < b)∧(∀ x,x∈Λ 0↔postsOf D x≠[])∧(Λ 0).length≤10000∧(∀ x∈Λ 0,x.length≤16) ∧
  w.ownsRow 0 24 1 pv (Λ 0).length ps ∧ ∀ (i:Nat) v x,ps[i]?=some v→(Λ 0)[i]?=some x→w.ownsRow 0 3 1 v (postsOf D x).length ((postsOf D x).map intV)
set_option maxRecDepth 100000 in
set_option maxHeartbeats 4000000 in
theorem build_gen (docs:List ByteArray) (v:Value) (w:World) (hv:StrsIs w v docs) (h48:docs.length≤48) (mx:Nat) (hmx:mx≤docs.length) (h200:∀ d∈docs.take mx,d.size≤200) (hbad:∀ h:mx < docs.length,200 < docs[mx].size) :
  Calls Tryz.prog 61 #[v] w fun e w'=>Below w.heap.size w w'∧((mx=docs.length ∧ ∃ sb,e = .returned (.tuple #[ptrV sb,.nilIface])∧w.heap.size≤sb∧SegFar w.heap.size w' sb (docs.map wordsB) (.map none)) ∨
   (mx < docs.length∧e = .returned (.tuple #[.pointer none,.iface 43 (iV 2)]))):=by
 obtain ⟨a0,cap0,rfl,hc⟩:=hv
 have HC:=Lib.hid hc
 have H200:=Lib.hid h200
 have HBAD:=Lib.hid hbad
 clear hc h200 hbad
 have hmm:=@run_makeMap Tryz.prog
 refine (callsIn_wide (n:=3)).1 ?_
 refine callsIn_of_wp_marks Tryz.func61 rfl trivial ?_ rfl
 simp only [Tryz.ntmps61,List.size_toArray,List.length_cons,List.length_nil,Nat.reduceAdd,Nat.reduceSub,Array.replicate_succ,Array.replicate_zero,List.push_toArray,List.append_toArray,List.nil_append,List.cons_append]
 refine wpIn_wide.2 ?_
 have h48':decide ((48:Int) < (docs.length:Int))=false:=by simp; omega
 go_wp2_with fail
 refine wp_loop_ghost_k (fun n a W=>∃ (k:Nat) (Ds:List Nat),k≤mx∧n=docs.length - k∧(∃ u,a.tmps=bTmps a0 docs.length cap0 w.heap.size k u)∧a.defers=Ds.map markD∧BI w Ds ((docs.map wordsB).take k) none W) docs.length ?start ?round
 case start =>
  exact ⟨0,[],Nat.zero_le _,rfl,bTmps_of rfl,rfl,BI.start w⟩
 case round =>
  intro n a W hI J K hJ hK
  obtain ⟨k,Ds,hk,rfl,⟨u,hu⟩,hds,hbi⟩:=hI
  obtain ⟨tm,ds⟩:=a
  simp only at hu hds
  subst hu hds
  have HBI:=Lib.hid hbi
  have HJ:=Lib.hid hJ
  have HK:=Lib.hid hK
  clear hbi hJ hK
  unfold bTmps ptrV intV
  by_cases hlt:k < docs.length
  ·obtain ⟨b,off,rfl,hcell⟩:=HC.out k hlt
   obtain ⟨d,hd⟩:∃ d,d=docs[k]:=⟨_,rfl⟩
   have hcell':W.cell? (aD b (off+k))=some (.string d):=by
    rw [hd]
    exact (HBI.below.cell (p:=(aD b (off+k))) (lt_of_cell hcell)).trans hcell
   rcases Nat.lt_or_ge k mx with hkm | hkm
   case inr =>
    obtain rfl:k=mx:=by omega
    have hbd:200 < d.size:=hd ▸ HBAD.out hlt
    clear hd hcell
    go_wp2_with fail
    change LeavesInM _ _ _ _ _ _ _ _ _
    have hDl:∀ d∈Ds,d < W.heap.size:=fun d h=>(Array.getElem?_eq_some_iff.1 (HBI.marks d h)).1
    refine leaves_marks (v := .tuple #[.pointer none,.iface 43 (iV 2)]) (fun w'=>results_tmp2 (t:=2) (u:=3) rfl _ _ _) Ds _ (fun d h=>(Below.heap_alloc W _ d (hDl d h)).trans (HBI.marks d h)) HBI.nodup.1 fun w' hm=>?_
    exact ⟨(HBI.below.alloc HBI.below.size _).trans (hm.toBelow (by have:=HBI.below.size; simp; omega) fun k hk=>by have:=HBI.nodup.2 k hk; omega),.inr ⟨hlt,rfl⟩⟩
   have hd200:d.size≤200:=H200 d (by
    rw [hd]
    exact List.mem_take_iff_getElem.2 ⟨k,by omega,rfl⟩)
   have HD:=Lib.hid hd
   clear hd hcell
   have g200:decide ((200:Int) < (d.size:Int))=false:=by simp; omega
   go_wp2_with (go_at_call 92; refine (words_any _ _).mono ?_; rintro e w1 ⟨rfl,rfl⟩)
   have hJ0:=HBI.toJ (k:=k) (s:=d)
   have hbox0:((W.alloc (.cells #[iV k] 3)).alloc (.cells #[.string d] 9)).cell? (aD (W.heap.size+1) 0)=some (.string d):=by
    have:=heap_alloc_new (W.alloc (.cells #[iV k] 3)) (.cells #[.string d] 9)
    rw [World.size_alloc] at this
    rw [cell_block this]
    rfl
   have hs0:((W.alloc (.cells #[iV k] 3)).alloc (.cells #[.string d] 9)).heap.size=W.heap.size+2:=by simp
   have hWs:=HBI.size
   have hDs:∀ d'∈Ds,d' < W.heap.size:=fun d' h=>(Array.getElem?_eq_some_iff.1 (HBI.marks d' h)).1
   refine wpIn_wide.1 (wpIn_rangeFunc_ownG (F:=Fence.wide) (n:=3) rfl (by omega) (gf:=133) (lb:=#[pT (W.heap.size+1)]) rfl trivial (enters_of Tryz.func133 (by kernel_rfl) rfl)
    (words_stops 2 (by omega) (W.heap.size+1) d (by omega) _ (by rw [hs0]; omega) hbox0) (fun h k=>KeepStr.trans h k) (fun W' l o o' h1 h2 h3 h4=>KeepStr.put W' l o o' h1 h2 h3 h4) (Below.refl _ _) (fun _=>rfl)
    (BJ w Ds ((docs.map wordsB).take k) W.heap.size k) (fun _ _ _=>False) (BJ.own (by rw [hs0]; omega) (by rw [hs0]; omega) (fun d' h=>by have:=hDs d' h; rw [hs0]; omega)) (fun _ _ _ _ _ h _ _=>h) hJ0
    (fun x=>{ tmps:=rTmps b off docs.length cap0 w.heap.size W.heap.size k d u x,defers:=[] }) ?assign ?body ?done ?stop)
   case assign =>
    intro l x W' K' hK'
    unfold rTmps strV at *
    gi_wp2
    exact hK'
   case body =>
    rintro l pre x W1 ⟨hb1,hib⟩ hlen
    obtain ⟨m,hp,hia⟩:=hb1.posts
    have hDl:((docs.map wordsB).take k).length=k:=by simp; omega
    have hc1:W1.cell? (aD (w.heap.size+1) 0)=some (.map (some w.heap.size)):=cell_block hb1.box
    have hc2:W1.cell? (aD W.heap.size 0)=some (iV k):=cell_block hib
    have hlk:(Instr.lookup 190 (.map (some w.heap.size)) (.string ⟨x.toArray⟩) false).run Tryz.prog W1 = .ok (postV m x) W1:=hp.lookup x
    have hrow:=hp.rowV x
    have HB1:=Lib.hid hb1
    have HIB:=Lib.hid hib
    have HP:=Lib.hid hp
    have HIA:=Lib.hid hia
    have HDL:=Lib.hid hDl
    clear hb1 hib hp hia hDl
    by_cases hx:x∈pre
    ·obtain ⟨ll,hll⟩:∃ ll,postsOf ((docs.map wordsB).take k++[pre]) x=ll++[k]:=⟨_,by rw [postsOf_snoc,if_pos hx,HDL]⟩
     have hpv:=hrow
     rw [hll] at hpv
     simp only [List.length_append,List.length_cons,List.length_nil,Nat.zero_add,List.map_append,List.map_cons,List.map_nil] at hpv
     obtain ⟨g,cap,hv⟩:=ownsRow_head hpv
     rw [hv] at hlk
     have hcl:W1.cell? (aD g ll.length)=some (iV k):=by
      rw [hv] at hpv
      rw [hpv.cellAt _ (by simp)]
      simp [intV]
     have hll48:ll.length≤48:=by
      have:=postsOf_length ((docs.map wordsB).take k++[pre]) x
      rw [hll,List.length_append,List.length_append,HDL] at this
      simp at this
      omega
     have HLL:=Lib.hid hll
     have HV:=Lib.hid hv
     clear hll hv hpv hrow
     unfold rTmps
     gi_wp2
     refine wpIn_region_ordX [(0,false),(1,false),(2,false),(3,false),(4,false),(5,false),(6,false),(7,false),(8,false),(9,false),(10,false),(11,false),(12,false)] 1000
      (fun w'=>w'.cell? (aD W.heap.size 0)=some (iV k)∧w'.cell? (aD g ll.length)=some (iV k)) (by kernel_rfl) (by kernel_rfl) ⟨hc2,hcl⟩ ?_
     have q0:(((ll.length:Int)+1) == 0)=false:=by rw [beq_eq_false_iff_ne]; omega
     have q1:IntKind.i64.wrap (ll.length:Int)=(ll.length:Int):=IntWalk.i64_in _ (by omega)
     have q2:(0:Int)≤(ll.length:Int)∧(ll.length:Int) < (ll.length:Int)+1:=by omega
     iterate 13 (
      refine wpOrd_quiet ?_ rfl rfl (fun w' hS=>?_) ?_
      rotate_left
      ·obtain ⟨f0,f1⟩:=hS
       go_simp
       try rfl
      simp only [put_lit,List.set_cons_succ,List.set_cons_zero])
     refine wpOrd_nil ?_
     gi_wp2
     obtain ⟨m',hp',hi'⟩:=HB1.posts
     exact ⟨(KeepsOthers.drew _).from _,fun _ _ _ h=>rfl,⟨⟨m',by rw [postsOf_old _ _ _ hx]; exact hp'.same (Same.drew _),hi'⟩,HB1.box,HB1.below.trans ((Same.drew _).below _),HB1.size,HB1.marks,HB1.nodup⟩,HIB⟩
    ·obtain ⟨ll,hll⟩:∃ ll,ll=postsOf ((docs.map wordsB).take k++[pre]) x:=⟨_,rfl⟩
     have hll':ll=postsOf ((docs.map wordsB).take k) x:=by rw [hll,postsOf_snoc,if_neg hx]; simp
     have hll48:ll.length≤48:=by
      have:=postsOf_length ((docs.map wordsB).take k) x
      rw [← hll',HDL] at this
      omega
     have hllt:∀ j∈ll,j < k:=fun j hj=>by
      have:=postsOf_lt ((docs.map wordsB).take k) x j (hll' ▸ hj)
      rw [HDL] at this
      exact this
     rw [← hll] at hrow
     obtain ⟨a3,cap,hv⟩:=ownsRow_form hrow
     have hcase:ll=[] ∨ ∃ l2 j,ll=l2++[j]∧j < k:=by
      rcases List.eq_nil_or_concat ll with h | ⟨l2,j,h⟩
      ·exact .inl h
      ·rw [List.concat_eq_append] at h
       exact .inr ⟨l2,j,h,hllt j (by rw [h]; simp)⟩
     rw [hv] at hlk hrow
     have HLL:=Lib.hid hll
     have HV:=Lib.hid hv
     have HROW:=Lib.hid hrow
     clear hll hll' hllt hv hrow
     unfold rTmps
     rcases hcase with h | ⟨l2,j,h,hjk⟩
     case' inl =>
      have hl0:ll.length=0:=by rw [h]; rfl
      rw [hl0] at hlk
      have HL0:=Lib.hid hl0
      clear h hl0
      gi_wp2
      refine wpIn_region_ordX [(0,false),(1,false),(2,false),(3,false),(4,false),(5,false),(6,false),(7,false),(8,false),(9,false),(10,false),(11,false),(12,false)] 1000 (fun _=>True) (by kernel_rfl) (by kernel_rfl) trivial ?_
      iterate 4 (
       refine wpOrd_quiet ?_ rfl rfl (fun w' hS=>?_) ?_
       rotate_left
       ·go_simp
        try rfl
       simp only [put_lit,List.set_cons_succ,List.set_cons_zero])
      iterate 8 (
       refine wpOrd_skip rfl rfl ?_
       simp only [put_lit,List.set_cons_succ,List.set_cons_zero])
      refine wpOrd_quiet ?_ rfl rfl (fun w' hS=>?_) ?_
      rotate_left
      ·go_simp
       try rfl
      simp only [put_lit,List.set_cons_succ,List.set_cons_zero]
      refine wpOrd_nil ?_
      gi_wp2
      obtain ⟨vv,hvv⟩:∃ vv,vv=Value.slice a3 0 cap:=⟨_,rfl⟩
      rw [← hvv]
      have HVV:Hid (postV m x=vv∧W1.ownsRow 0 3 1 vv ll.length (ll.map intV)):=by
       have h1:=HV.out
       have h2:=HROW.out
       rw [HL0,← hvv] at h1 h2
       rw [HL0]
       exact ⟨h1,h2⟩
      clear hvv
     case' inr =>
      have hl1:ll.length=l2.length+1:=by rw [h]; simp
      have hrow:=HROW.out
      rw [hl1] at hlk hrow
      obtain ⟨g,cap',hg⟩:=ownsRow_head hrow
      cases hg
      have hcl:W1.cell? (aD g l2.length)=some (iV j):=by
       rw [hrow.cellAt _ (by omega),h]
       simp [intV]
      have hl2:l2.length≤48:=by omega
      have HL1:=Lib.hid hl1
      clear h hl1 hrow
      gi_wp2
      refine wpIn_region_ordX [(0,false),(1,false),(2,false),(3,false),(4,false),(5,false),(6,false),(7,false),(8,false),(9,false),(10,false),(11,false),(12,false)] 1000
       (fun w'=>w'.cell? (aD W.heap.size 0)=some (iV k)∧w'.cell? (aD g l2.length)=some (iV j)) (by kernel_rfl) (by kernel_rfl) ⟨hc2,hcl⟩ ?_
      have q0:(((l2.length:Int)+1) == 0)=false:=by rw [beq_eq_false_iff_ne]; omega
      have q1:IntKind.i64.wrap (l2.length:Int)=(l2.length:Int):=IntWalk.i64_in _ (by omega)
      have q2:(0:Int)≤(l2.length:Int)∧(l2.length:Int) < (l2.length:Int)+1:=by omega
      have q3:((j:Int) != (k:Int))=true:=by rw [bne_iff_ne]; omega
      have q4:(j == k)=false:=by rw [beq_eq_false_iff_ne]; omega
      iterate 13 (
       refine wpOrd_quiet ?_ rfl rfl (fun w' hS=>?_) ?_
       rotate_left
       ·obtain ⟨f0,f1⟩:=hS
        go_simp
        try rfl
       simp only [put_lit,List.set_cons_succ,List.set_cons_zero])
      refine wpOrd_nil ?_
      gi_wp2
      obtain ⟨vv,hvv⟩:∃ vv,vv=Value.slice (some (aD g 0)) (l2.length+1) cap:=⟨_,rfl⟩
      rw [← hvv]
      have HVV:Hid (postV m x=vv∧W1.ownsRow 0 3 1 vv ll.length (ll.map intV)):=by
       have h1:=HV.out
       have h2:=HROW.out
       rw [HL1,← hvv] at h1 h2
       rw [HL1]
       exact ⟨h1,h2⟩
      clear hvv q0 q1 q2 q3 q4 hcl
     all_goals
      refine wpIn_region_ordX [(0,false),(1,false),(2,false),(3,false),(4,true),(5,true),(6,true)] 6
       (fun w'=>w'.cell? (aD (w.heap.size+1) 0)=some (.map (some w.heap.size))∧w'.cell? (aD W.heap.size 0)=some (iV k)) (by kernel_rfl) (by kernel_rfl) ⟨hc1,hc2⟩ ?_
      iterate 4 (
       refine wpOrd_quiet ?_ rfl rfl (fun w' hS=>?_) ?_
       rotate_left
       ·obtain ⟨f0,f1⟩:=hS
        go_simp
        try rfl
       simp only [put_lit,List.set_cons_succ,List.set_cons_zero])
      refine wpOrd_loud rfl rfl (by decide) (fun K5 hK5=>?_)
      go_simp
      obtain ⟨hpv,hrow⟩:=HVV.out
      have hrow2:((W1.alloc (.cells #[iV k] 3)).drew.drew).ownsRow 0 3 1 vv ll.length (ll.map intV):=((hrow.alloc _).drew).drew
      have hc12:((W1.alloc (.cells #[iV k] 3)).drew.drew).cell? (aD (w.heap.size+1) 0)=some (.map (some w.heap.size)):=(World.cell?_alloc_lt W1 _ _ (lt_of_cell hc1)).trans hc1
      have hc22:((W1.alloc (.cells #[iV k] 3)).drew.drew).cell? (aD W.heap.size 0)=some (iV k):=(World.cell?_alloc_lt W1 _ _ (lt_of_cell hc2)).trans hc2
      have hnew:∀ i u,[Value.int .i64 (k:Int)][i]?=some u→((W1.alloc (.cells #[iV k] 3)).drew.drew).cell? (((aD W1.heap.size 0):Addr).add i)=some u:=cell_one_new W1 _ _
      refine hK5 _ _ ⟨hc12,hc22⟩ ?_
      clear hK5 K5
      refine wpOrd_loud rfl rfl (by decide) (fun K5 hK5=>?_)
      obtain ⟨i0,hi,hz0,hz1,hz2⟩:=info_parts Tryz.info3
      refine wp_append_lies _ _ 24 rfl 3 i0 (iV 0) 1 8 Tryz.underlying24 hi hz0 hz1 hz2 rfl (by decide) vv ll.length (ll.map intV) rfl hrow2 (aD W1.heap.size 0) 1 1 [iV k] rfl rfl hnew
       (by simp [Value.oneCell']) (by decide) (by unfold maxLen; omega) (by omega) ?_
      intro v4 W4 hrow4 hgrow4 hlies4
      have hvb:∀ g,vv.ownBlock=some g→w.heap.size+2≤g∧g≠W.heap.size:=fun g e=>by
       rw [← hpv] at e
       unfold postV at e
       cases hgx:get m x with
       | none=>rw [hgx] at e; cases e
       | some v=>rw [hgx] at e; exact ⟨HP.past x v g hgx e,fun e'=>HIA _ rfl x v hgx (e' ▸ e)⟩
      have hc14:W4.cell? (aD (w.heap.size+1) 0)=some (.map (some w.heap.size)):=World.grownBy.cell hgrow4 hc12 (fun e=>by have:=(hvb _ e.symm).1; simp only at this; omega)
      have hc24:W4.cell? (aD W.heap.size 0)=some (iV k):=World.grownBy.cell hgrow4 hc22 (fun e=>(hvb _ e.symm).2 rfl)
      have hmap4:MapIs strV W4 w.heap.size m:=HP.map.of_block ((hgrow4.block w.heap.size (by have:=HP.map.lt; simp; omega) (fun e=>by have:=(hvb _ e.symm).1; omega)).trans (Below.heap_alloc W1 _ _ HP.map.lt))
      have hlleq:ll=postsOf ((docs.map wordsB).take k++[pre]) x:=HLL
      obtain ⟨W5,hrun5,hmap5,hg5,hz5⟩:=MapIs.update str_law hmap4 x trivial (fun _ _=>trivial) Tryz.underlying190 v4
      have hrun5':(Instr.mapUpdate 190 (.map (some w.heap.size)) (.string ⟨x.toArray⟩) v4).run Tryz.prog W4 = .ok () W5:=hrun5
      have hadd:=Lib.hid (BJ.add (B0:=((W.alloc (.cells #[iV k] 3)).alloc (.cells #[.string d] 9)).heap.size) HB1 HIB HP (fun y v hv=>HIA _ rfl y v hv) hx HDL (by rw [hs0]; omega)
       (by rw [← hlleq]; exact hrow4) (by rw [hpv]; exact hgrow4) (by rw [hpv]; exact hlies4) hg5 hmap5)
      clear hrun5 hmap5 hg5 hz5 hmap4 hrow4 hgrow4 hlies4 hlleq hrow2 hnew
      refine hK5 _ _ ⟨hc14,hc24⟩ ?_
      clear hK5 K5
      simp only [put_lit,List.set_cons_succ,List.set_cons_zero]
      refine wpOrd_last rfl rfl (fun K5 hK5=>?_)
      go_simp
      refine hK5 _ _ ?_
      clear hK5 K5
      gi_wp2
      exact hadd
   case done =>
    rintro D ys W' hD rfl ⟨hb1,hib⟩ hK'
    have hb2:BI w (D :: Ds) ((docs.map wordsB).take (k+1)) none W':=by
     obtain ⟨m,hp,hia⟩:=hb1.posts
     have e:(docs.map wordsB).take (k+1)=(docs.map wordsB).take k++[wordsB d]:=by
      rw [List.take_succ_eq_append_getElem (by simpa using hlt),List.getElem_map,← HD.out]
     rw [e]
     refine ⟨⟨m,hp,fun i e=>(by cases e)⟩,hb1.box,hb1.below,hb1.size,fun d' h=>?_,List.nodup_cons.2 ⟨fun h=>?_,hb1.nodup.1⟩,fun d' h=>?_⟩
     ·rcases List.mem_cons.1 h with rfl | h
      ·exact hK'
      ·exact hb1.marks d' h
     ·have:=hDs D h
      rw [hs0] at hD
      omega
     ·rcases List.mem_cons.1 h with rfl | h
      ·rw [hs0] at hD
       omega
      ·exact hb1.nodup.2 d' h
    have HB2:=Lib.hid hb2
    clear hb2 hb1 hib hK' hJ0 hbox0
    go_wp2_with fail
    refine HK _ _ (Handed.intro (docs.length - (k+1)) (by omega) (HJ _ _ _ ?_))
    exact ⟨k+1,D :: Ds,by omega,rfl,bTmps_of rfl,rfl,HB2⟩
   case stop =>
    rintro D c pre W' _ _ h _
    exact h.elim
  ·obtain rfl:k=docs.length:=by omega
   have hmd:mx=docs.length:=by omega
   have H200:Hid (∀ d∈docs,d.size≤200):=Lib.hid fun d hd=>H200 d (by rw [hmd,List.take_length]; exact hd)
   clear HC
   obtain ⟨m,hp,_⟩:=HBI.posts
   have hc1:W.cell? (aD (w.heap.size+1) 0)=some (.map (some w.heap.size)):=cell_block HBI.box
   obtain ⟨W6,hrun6,hit6,hg6,hs6⟩:=range_run (P:=Tryz.prog) hp.map Tryz.underlying190
   have HP:=Lib.hid hp
   have HTI:=Lib.hid (show TI W6 w.heap.size W.heap.size m [] (.slice none 0 0) W6 from ⟨hit6,World.ownsRow_nil _ _ _ _,(fun k e=>by cases e),Mod.refl _ _,List.nodup_nil,fun t h=>by cases h⟩)
   have HG6:=Lib.hid hg6
   have hmf:m.length≤10000:=by
    have h1:=nodup_le (m.map fun p:List UInt8 × Value=>p.1) (docs.flatMap wordsB) hp.keysA fun x hx=>by
     obtain ⟨p,hpm,rfl⟩:=List.mem_map.1 hx
     obtain ⟨d,h1,h2⟩:=postsOf_words (hp.row p.1 p.2 (get_of_mem hp.keysA hpm)).2
     exact List.mem_flatMap.2 ⟨d,h1,h2⟩
    have h2:=words_total docs H200
    rw [List.length_map] at h1
    omega
   clear hp hit6 hg6
   go_wp2_with fail
   clear hrun6
   go_loopw [9] (fun v wr=>∃ ts,Hid (TI W6 w.heap.size W.heap.size m ts v wr)∧sliceLen v=ts.length) (fun v _=>m.length - sliceLen v)
   case atStart=>exact ⟨[],HTI,rfl⟩
   case round =>
    obtain ⟨ts,HT,hvl⟩:=hrel
    have hfew:=HT.few
    rcases next_run (P:=Tryz.prog) 0 HT.iter HP.keysA with ⟨hall,hN⟩ | ⟨x,v0,w2,hxm,hxt,hN,hi2,hE,hg2,hs2⟩
    ·have HALL:=Lib.hid hall
     clear hall
     obtain ⟨T,hT⟩:∃ T,T=sortW ts:=⟨_,rfl⟩
     have hTl:T.length=ts.length:=by rw [hT,sortW_length]
     have hTr:T.Pairwise fun a b=>a < b:=by rw [hT]; exact sortW_rise HT.nodup
     have hTm:∀ x,x∈T↔postsOf ((docs.map wordsB).take docs.length) x≠[]:=fun x=>by
      rw [hT,sortW_mem]
      constructor
      ·intro hx
       obtain ⟨p,hp,rfl⟩:=List.mem_map.1 (HT.sub x hx)
       exact (HP.row p.1 p.2 (get_of_mem HP.keysA hp)).2
      ·intro hx
       obtain ⟨v,hv⟩:=HP.keys x hx
       exact HALL _ (get_some_mem hv)
     have HTM:=Lib.hid hTm
     have HTR:=Lib.hid hTr
     have HTEQ:=Lib.hid hT
     have hT16:∀ t∈T.map (fun l=>(⟨l.toArray⟩:ByteArray)),0 < t.size∧t.size≤16:=fun t ht=>by
      obtain ⟨x,hx,rfl⟩:=List.mem_map.1 ht
      obtain ⟨d,_,h2⟩:=postsOf_words ((HTM x).1 hx)
      have:=wordsB_mem h2
      exact ⟨by simpa [ByteArray.size] using this.1,by simpa [ByteArray.size] using this.2⟩
     have hTasc:(T.map (fun l=>(⟨l.toArray⟩:ByteArray))).Pairwise fun a b=>a.data.toList < b.data.toList:=by
      rw [List.pairwise_map]
      exact hTr
     have HT16:=Lib.hid hT16
     have HTASC:=Lib.hid hTasc
     clear hTm hTr hT16 hTasc hT
     go_wp2_with (go_at_call 93; refine (sort_any u9 ts _ HT.row (by omega)).mono ?_; rintro e W7 ⟨rfl,hrow7,hg7⟩; have HG7:=Lib.hid hg7; clear hg7)
     have hrow7':W7.ownsRow 0 9 1 u9 T.length (T.map strV):=by rw [hTl,HTEQ]; exact hrow7
     have HROW7:=Lib.hid hrow7'
     have hts:(T.map (fun l=>(⟨l.toArray⟩:ByteArray))).length≤10000:=by rw [List.length_map,hTl]; omega
     refine (from_any u9 _ W7 (strsIs_row HROW7) hts HT16 HTASC).mono ?_
     rintro e W8 ⟨db,R,Λ,ρ,Dd,rfl,hb8,hdi8,hΛ⟩
     have HB8:=Lib.hid hb8
     have HDI8:=Lib.hid hdi8
     have HΛ:=Lib.hid hΛ
     obtain ⟨a9,cap9,hv9⟩:=ownsRow_form HROW7
     rw [hv9]
     clear hrow7 hrow7' hts hb8 hdi8 hΛ
     unfold ptrV
     go_wp2_with fail
     have hri:RI (W8.alloc (.cells #[iV docs.length,pT db,.slice none 0 0,.int .i32 0,.int .u32 0,.map none] 168)) W8.heap.size docs.length db []
       (W8.alloc (.cells #[iV docs.length,pT db,.slice none 0 0,.int .i32 0,.int .u32 0,.map none] 168)) :=
      ⟨⟨_,heap_alloc_new _ _,World.ownsRow_nil _ _ _ _,fun g e=>(by cases e)⟩,Mod.refl _ _⟩
     have HRI:=Lib.hid hri
     clear hri
     obtain ⟨W9,hW9⟩:∃ W9,W9=W8.alloc (.cells #[iV docs.length,pT db,.slice none 0 0,.int .i32 0,.int .u32 0,.map none] 168):=⟨_,rfl⟩
     rw [← hW9] at HRI ⊢
     have hit:W.heap.size < W6.heap.size:=by omega
     have hold8:∀ k,k < W.heap.size→W8.heap[k]?=W.heap[k]?:=fun k hk=>by
      have s1:=HG6.block k hk (by simp)
      have s2:=HT.mod.block k (by omega) (by omega)
      have z2:=HT.mod.size
      have s3:=HG7.block k (by omega) (fun e=>by have:=HT.past k e.symm; omega)
      have z3:=HG7.size
      have s4:=HB8.block k (by omega)
      exact s4.trans (s3.trans (s2.trans s1))
     have hW8:W.heap.size < W8.heap.size:=by have:=HT.mod.size; have:=HG7.size; have:=HB8.size; omega
     have HROW8:=Lib.hid (show W8.ownsRow 0 9 1 u9 T.length (T.map strV) from ownsRow_block HROW7 fun k e=>HB8.block k (HROW7.lt k e).2)
     have HOLD8:=Lib.hid hold8
     have hs9:W9.heap.size=W8.heap.size+1:=by rw [hW9]; simp
     have hold9:∀ k,k < W8.heap.size→W9.heap[k]?=W8.heap[k]?:=fun k hk=>by rw [hW9]; exact Below.heap_alloc W8 _ k hk
     have HOLD9:=Lib.hid hold9
     have HW9:=Lib.hid hW9
     clear hW9 hold8 hold9
     go_loopw [76] (fun i wr=>∃ j:Nat,j≤ts.length∧i = .int .i64 j∧Hid (RI W9 W8.heap.size docs.length db ((T.take j).map (postV m)) wr)) (fun i _=>ts.length - (intOf i).toNat)
     case atStart=>exact ⟨0,Nat.zero_le _,rfl,HRI⟩
     case round =>
      obtain ⟨j,hj,rfl,HR⟩:=hrel
      have hkp:∀ k,k < W8.heap.size→wr.heap[k]?=W8.heap[k]?:=fun k hk=>(HR.mod.block k (by omega) (by omega)).trans (HOLD9 k hk)
      by_cases hjl:j < ts.length
      ·obtain ⟨x,hx⟩:∃ x,T[j]?=some x:=⟨_,List.getElem?_eq_getElem (by rw [hTl]; exact hjl)⟩
       obtain ⟨pv,hsg,hpr,hpp⟩:=HR.ex
       have htk:((T.take j).map (postV m)).length=j:=by rw [List.length_map,List.length_take,hTl]; omega
       rw [htk] at hpr
       have hrT:wr.ownsRow 0 9 1 u9 T.length (T.map strV):=ownsRow_block HROW8 fun k e=>hkp k (HROW8.lt k e).2
       obtain ⟨g9,cap9',hg9⟩:∃ g cap,u9=sL g T.length cap:=by
        have h1:=hrT
        obtain ⟨q,hq⟩:∃ q,T.length=q+1:=⟨T.length - 1,by rw [hTl]; omega⟩
        rw [hq] at h1
        obtain ⟨g,cap,e⟩:=ownsRow_head h1
        exact ⟨g,cap,by rw [e,hq]⟩
       rw [hv9] at hg9
       cases hg9
       have hcx:wr.cell? (aD g9 j)=some (.string ⟨x.toArray⟩):=by
        rw [hv9] at hrT
        rw [hrT.cellAt j (by rw [hTl]; omega),List.getElem?_map,hx]
        rfl
       have hcb:wr.cell? (aD (w.heap.size+1) 0)=some (.map (some w.heap.size)):=cell_block ((hkp _ (by have:=HBI.size; omega)).trans ((HOLD8.out _ (lt_of_cell hc1)).trans HBI.box))
       have hcp:wr.cell? (aD W8.heap.size 2)=some pv:=cell_block hsg
       have hfp:wr.frozen? (aD W8.heap.size 2)=false:=free_block hsg
       have hmi:MapIs strV wr w.heap.size m:=HP.map.of_block ((hkp _ (by have:=HP.map.lt; omega)).trans (HOLD8.out _ HP.map.lt))
       have HX:=Lib.hid hx
       have HSG:=Lib.hid hsg
       have HPP:=Lib.hid hpp
       have HKP:=Lib.hid hkp
       have hsbl:W8.heap.size < wr.heap.size:=lt_of_heap HSG
       have hlkW:∀ W',MapIs strV W' w.heap.size m→(Instr.lookup 190 (.map (some w.heap.size)) (.string ⟨x.toArray⟩) false).run Tryz.prog W' = .ok (postV m x) W':=fun W' h=>by
        have:=MapIs.lookup str_law h x trivial (fun _ _=>trivial) Tryz.underlying190 (z := .slice none 0 0) (by kernel_rfl) false
        simpa [postV,strV] using this
       have HLK:=Lib.hid hlkW
       obtain ⟨ax,cx,hpw⟩:=ownsRow_form (HP.rowV x)
       have HPW:=Lib.hid hpw
       clear hpw
       clear hx hsg hpp hkp hrT htk hlkW
       go_wp2_with fail
       refine wp_region_ordX [(0,false),(1,false),(2,false),(3,false),(4,false),(5,false),(6,false),(7,false),(8,true),(9,true),(10,true),(11,true),(12,true)] 12
        (fun w'=>w'.cell? (aD W8.heap.size 2)=some pv∧w'.cell? (aD (w.heap.size+1) 0)=some (.map (some w.heap.size))∧MapIs strV w' w.heap.size m) (by kernel_rfl) (by kernel_rfl) ⟨hcp,hcb,hmi.of_block rfl⟩ ?_
       iterate 7 (
        refine wpOrd_quiet ?_ rfl rfl (fun w' hS=>?_) ?_
        rotate_left
        ·obtain ⟨f0,f1,_⟩:=hS
         go_simp
         try rfl
        simp only [put_lit,List.set_cons_succ,List.set_cons_zero])
       refine wpOrd_quiet (.slice ax (postsOf ((docs.map wordsB).take docs.length) x).length cx) rfl rfl (fun w' hS=>?_) ?_
       ·have hl:=HLK w' hS.2.2
        rw [HPW] at hl
        go_simp
       simp only [put_lit,List.set_cons_succ,List.set_cons_zero]
       refine wpOrd_loud rfl rfl (by decide) (fun K5 hK5=>?_)
       go_simp
       have hcp1:((wr.alloc (.cells #[.slice ax (postsOf ((docs.map wordsB).take docs.length) x).length cx] 24)).drew).cell? (aD W8.heap.size 2)=some pv:=(World.cell?_alloc_lt wr _ _ (lt_of_cell hcp)).trans hcp
       have hcb1:((wr.alloc (.cells #[.slice ax (postsOf ((docs.map wordsB).take docs.length) x).length cx] 24)).drew).cell? (aD (w.heap.size+1) 0)=some (.map (some w.heap.size)):=(World.cell?_alloc_lt wr _ _ (lt_of_cell hcb)).trans hcb
       have hmi1:MapIs strV ((wr.alloc (.cells #[.slice ax (postsOf ((docs.map wordsB).take docs.length) x).length cx] 24)).drew) w.heap.size m:=hmi.of_block (Below.heap_alloc wr _ _ hmi.lt)
       have hpr1:((wr.alloc (.cells #[.slice ax (postsOf ((docs.map wordsB).take docs.length) x).length cx] 24)).drew).ownsRow 0 24 1 pv j ((T.take j).map (postV m)):=(hpr.alloc _).drew
       refine hK5 _ _ ⟨hcp1,hcb1,hmi1⟩ ?_
       clear hK5 K5
       refine wpOrd_loud rfl rfl (by decide) (fun K5 hK5=>?_)
       obtain ⟨i0,hi,hz0,hz1,hz2⟩:=info_parts Tryz.info24
       refine wp_append_lies _ _ 88 rfl 24 i0 (.slice none 0 0) 1 24 Tryz.underlying88 hi hz0 hz1 hz2 rfl (by decide) pv j ((T.take j).map (postV m)) rfl hpr1 (aD wr.heap.size 0) 1 1 [.slice ax (postsOf ((docs.map wordsB).take docs.length) x).length cx] rfl rfl (cell_one_new wr _ _)
        (by simp [Value.oneCell']) (by decide) (by unfold maxLen; omega) (by omega) ?_
       intro v4 W4 hrow4 hgrow4 hlies4
       obtain ⟨g4,cap4,rfl⟩:=ownsRow_head hrow4
       have htk:((T.take j).map (postV m)).length=j:=by rw [List.length_map,List.length_take,hTl]; omega
       have hst4:=HR.step (by omega) HSG HPP (by rw [htk]; exact hrow4) hgrow4 hlies4
       have hnx:(T.take (j+1)).map (postV m)=(T.take j).map (postV m)++[.slice ax (postsOf ((docs.map wordsB).take docs.length) x).length cx]:=by
        have hjT:j < T.length:=by rw [hTl]; exact hjl
        have hxe:T[j]=x:=by
         have h1:=HX.out
         rw [List.getElem?_eq_getElem hjT] at h1
         exact Option.some.inj h1
        rw [List.take_succ_eq_append_getElem hjT,List.map_append,hxe]
        simp only [List.map_cons,List.map_nil,HPW.out]
       rw [← hnx] at hst4
       have HST4:=Lib.hid hst4
       have hpb:∀ g,pv.ownBlock=some g→W9.heap.size≤g:=HPP
       have hcp4:W4.cell? (aD W8.heap.size 2)=some pv:=World.grownBy.cell hgrow4 hcp1 (fun e=>by have:=hpb _ e.symm; (try simp only at this); omega)
       have hcb4:W4.cell? (aD (w.heap.size+1) 0)=some (.map (some w.heap.size)):=World.grownBy.cell hgrow4 hcb1 (fun e=>by have h0:W9.heap.size≤w.heap.size+1:=hpb _ e.symm; have:=HBI.size; omega)
       have hmi4:MapIs strV W4 w.heap.size m:=hmi1.of_block (hgrow4.block _ (by simp; have:=hmi.lt; omega) (fun e=>by have:=hpb _ e.symm; have:=HBI.size; omega))
       have hfr4:W4.frozen? (aD W8.heap.size 2)=false:=by
        have:=hgrow4.block W8.heap.size (by simp; omega) (fun e=>by have:=hpb _ e.symm; omega)
        rw [World.frozen?_of_block (a:=(aD W8.heap.size 2)) this]
        exact free_block ((Below.heap_alloc wr _ _ hsbl).trans HSG)
       clear hrow4 hgrow4 hlies4 hst4 hnx htk hpb hpr1 hmi1 hcp1 hcb1
       refine hK5 _ _ ⟨hcp4,hcb4,hmi4⟩ ?_
       clear hK5 K5
       simp only [put_lit,List.set_cons_succ,List.set_cons_zero]
       refine wpOrd_loud rfl rfl (by decide) (fun K5 hK5=>?_)
       go_simp
       refine hK5 _ _ ⟨hcp4,hcb4,hmi4⟩ ?_
       clear hK5 K5
       refine wpOrd_loud rfl rfl (by decide) (fun K5 hK5=>?_)
       go_simp
       refine hK5 _ _ ⟨hcp4,hcb4,hmi4⟩ ?_
       clear hK5 K5
       refine wpOrd_last rfl rfl (fun K5 hK5=>?_)
       go_simp
       refine hK5 _ _ ?_
       clear hK5 K5
       go_wp2_with fail
       exact ⟨⟨j+1,by omega,by go_num,HST4⟩,by simp [intOf]; omega⟩
      ·obtain rfl:j=ts.length:=by omega
       go_wp2_with fail
       have hdl:(docs.map wordsB).take docs.length=docs.map wordsB:=List.take_of_length_le (by simp)
       have hTt:T.take ts.length=T:=List.take_of_length_le (by omega)
       have hwr:∀ k,k < W.heap.size→wr.heap[k]?=W.heap[k]?:=fun k hk=>(hkp k (by omega)).trans (HOLD8 k hk)
       have hDl:∀ d∈Ds,d < W.heap.size:=fun d h=>(Array.getElem?_eq_some_iff.1 (HBI.marks d h)).1
       refine leaves_marks (v := .tuple #[pT W8.heap.size,.nilIface]) (fun w'=>results_tmp2 (t:=2) (u:=3) rfl _ _ _) Ds wr (fun d h=>(hwr d (hDl d h)).trans (HBI.marks d h)) HBI.nodup.1 fun w' hm=>?_
       have hcell:∀ (k:Nat) cs t r,wr.heap[k]?=some (.cells cs t r)→w'.heap[k]?=wr.heap[k]?:=fun k cs t r h=>hm.block k (Array.getElem?_eq_some_iff.1 h).1 fun hd=>by
        have h1:=(hwr k (hDl k hd)).trans (HBI.marks k hd)
        rw [h] at h1
        cases h1
       obtain ⟨pv,hsg,hpr,hpp⟩:=HR.ex
       have hsz:w.heap.size≤wr.heap.size:=by have:=HBI.size; have:=HR.mod.size; omega
       have hbel:Below w.heap.size w w':=by
        have hb:=HBI.below
        refine ⟨hm.os.trans (HR.mod.os.trans ?_),hm.tape.trans (HR.mod.tape.trans ?_),hm.output.trans (HR.mod.output.trans ?_),by have:=hm.size; omega,fun k hk=>?_⟩
        ·rw [HW9]; exact HB8.os.trans (HG7.os.trans (HT.mod.os.trans (HG6.os.trans hb.os)))
        ·rw [HW9]; exact HB8.tape.trans (HG7.tape.trans (HT.mod.tape.trans (HG6.tape.trans hb.tape)))
        ·rw [HW9]; exact HB8.output.trans (HG7.output.trans (HT.mod.output.trans (HG6.output.trans hb.output)))
        ·have h1:=HBI.size
         exact (hm.block k (by omega) fun hd=>by have:=HBI.nodup.2 k hd; omega).trans ((hwr k (by omega)).trans (hb.block k hk))
       have hdi:DictIs w' db R Λ ρ Dd:=HDI8.kept fun k cs t r h ht=>by
        have hk:=(Array.getElem?_eq_some_iff.1 h).1
        have h1:=hkp k hk
        exact (hcell k cs t r (h1.trans h)).trans h1
       have hΛT:Λ 0=T:=by
        rw [HΛ]
        unfold listsOf
        rw [List.map_map]
        exact (List.map_congr_left fun a _=>rfl).trans (List.map_id _)
       refine ⟨hbel,.inl ⟨hmd,W8.heap.size,rfl,(by have:=HBI.size; omega),db,R,Λ,ρ,Dd,pv,T.map (postV m),fun v hv k hk=>?_,?_,hdi,?_,?_,?_,?_,?_,?_⟩⟩
       ·obtain ⟨x,_,rfl⟩:=List.mem_map.1 hv
        unfold postV at hk
        cases hx:get m x with
        | none=>rw [hx] at hk; cases hk
        | some u =>
         rw [hx] at hk
         have:=HP.past x u k hx hk
         omega
       ·rw [List.length_map]
        exact (hcell _ _ _ _ hsg).trans hsg
       ·rw [hΛT]; exact HTR
       ·intro x
        rw [hΛT,HTM x,hdl]
       ·rw [hΛT]; omega
       ·intro x hx
        rw [hΛT] at hx
        have:=(HT16 _ (List.mem_map.2 ⟨x,hx,rfl⟩)).2
        simpa [ByteArray.size] using this
       ·rw [hΛT]
        rw [hTt,List.length_map] at hpr
        exact ownsRow_typed hpr fun k cs r h=>hcell k cs _ r h
       ·intro i v x hv hx
        rw [hΛT] at hx
        rw [List.getElem?_map,hx] at hv
        have:=Option.some.inj hv
        subst this
        have hrx:=HP.rowV x
        rw [hdl] at hrx
        have h8:wr.ownsRow 0 3 1 (postV m x) (postsOf (docs.map wordsB) x).length ((postsOf (docs.map wordsB) x).map intV):=ownsRow_block hrx fun k e=>hwr k (hrx.lt k e).2
        exact ownsRow_typed h8 fun k cs r h=>hcell k cs _ r h
    ·unfold strV at hN hE
     obtain ⟨i0,hi,hz0,hz1,hz2⟩:=info_parts Tryz.info9
     have hrow2:=HT.rowStep (by omega) hg2
     have hrow3:(w2.alloc (.cells #[.string ⟨x.toArray⟩] 9)).ownsRow 0 9 1 u9 ts.length (ts.map strV):=hrow2.alloc _
     have HG2:=Lib.hid hg2
     have HS2:=Lib.hid hs2
     have HI2:=Lib.hid hi2
     clear hg2 hs2 hi2 hrow2
     go_wp2_with (at_builtin; refine wpList_append_lies rfl _ _ 35 rfl 9 i0 (.string ⟨#[]⟩) 1 16 Tryz.underlying35 hi hz0 hz1 hz2 rfl (by decide) u9 ts.length (ts.map strV) rfl hrow3 (aD w2.heap.size 0) 1 1 [.string ⟨x.toArray⟩] rfl rfl (cell_one_new w2 _ _) (by simp [Value.oneCell']) (by decide) (by unfold maxLen; omega) (by omega) ?_; intro v4 W4 hrow4 hgrow4 hlies4; have HR4:=Lib.hid hrow4; have HT4:=Lib.hid (HT.step (by rw [hs6]; have:=HP.map.lt; omega) (by omega) hxt hxm HG2.out HS2.out HI2.out hrow4 hgrow4 hlies4); clear hrow4 hgrow4 hlies4; simp only [put_lit,List.set_cons_succ,List.set_cons_zero])
     have hln:=HT4.len
     have hfw:=HT4.few
     rw [List.length_append,List.length_singleton] at hln hfw
     exact ⟨⟨ts++[x],HT4,by rw [hln]; simp⟩,by omega⟩
end Go.Proofs.Ts
namespace Go.Proofs.Ts
open Go Go.RowKit
set_option maxHeartbeats 1000000 in
theorem told_nil (w:World):Calls Tryz.prog 40 #[.nilIface] w fun e w'=>e = .returned (.tuple #[iV 0,iV (-1)])∧Below w.heap.size w w':=by
 go_enter Tryz.func40,Tryz.ntmps40
 go_wp2_with fail
 go_ret2
 exact ⟨rfl,((Below.refl _ w).alloc (Nat.le_refl _) _).alloc (by simp) _⟩
end Go.Proofs.Ts
namespace Go.Proofs.Ts
open Go Go.RowKit
section
variable {P:Program} {w:World}
theorem run_append_none (t ty e:TypeId) (i:TypeInfo) (ht:P.underlying t=some (.slice e)) (hi:P.info? e=some i) (a:Option Addr) (c:Nat) :
  (Builtin.append_ #[t,t] ty #[.slice none 0 0,.slice a 0 c]).run P w = .ok (.slice none 0 0) w:=by
 cases a <;> simp [Builtin.append_,run_underlying ht,sizeOf,typeInfo,hi,Builtin.lenOf,Builtin.firstCells,loadCells,loadCellsFrom]
theorem run_append_copy (t ty e:TypeId) (i:TypeInfo) (z:Value) (size bytes:Nat) (ht:P.underlying t=some (.slice e)) (hi:P.info? e=some i) (hz:i.zero=some z)
  (hsize:i.size=size) (hby:i.bytes=bytes) (hzs:z.cells.size=size) (hsz:0 < size)
  (a:Option Addr) (m c:Nat) (news:List Value) (hl:news.length=m * size) (hnews:∀ j u,news[j]?=some u → ∃ b,a=some b∧w.cell? (b.add j)=some u) (h1:∀ u∈news,u.oneCell'=true)
  (h63:m≤maxLen) (hbytes:m * bytes≤140737488355328) :
  ∃ v' w',(Builtin.append_ #[t,t] ty #[.slice none 0 0,.slice a m c]).run P w = .ok v' w'∧w'.ownsRow 0 e size v' m news∧Below w.heap.size w w'∧Past w.heap.size v':=by
 cases m with
 | zero =>
  have hn:news=[]:=List.eq_nil_of_length_eq_zero (by simpa using hl)
  subst hn
  exact ⟨_,_,run_append_none t ty e i ht hi a c,World.ownsRow_nil _ _ _ _,Below.refl _ _,fun k e=>by cases e⟩
 | succ m =>
  obtain ⟨u,hu⟩:∃ u,news[0]?=some u:=⟨_,List.getElem?_eq_getElem (by rw [hl]; exact Nat.mul_pos (Nat.succ_pos _) hsz)⟩
  obtain ⟨b,rfl,_⟩:=hnews 0 u hu
  obtain ⟨v',w',hr,h2,h3,h4⟩:=run_append_lies (P:=P) t ty e i z size bytes ht hi hz hsize hby hzs hsz (.slice none 0 0) 0 [] (World.ownsRow_nil _ _ _ _) b (m+1) c news hl
   (fun j u hj=>by obtain ⟨b',e',h'⟩:=hnews j u hj; cases e'; exact h') h1 (Nat.succ_pos _) (by omega) (by rw [Nat.zero_add]; exact hbytes)
  rw [Nat.zero_add,List.nil_append] at h2
  refine ⟨v',w',hr,h2,(Below.refl _ w).grown h3 (Nat.le_refl _) (fun k e=>by cases e),fun k hk=>?_⟩
  rcases h4 with ⟨h5,_⟩ | ⟨h5,_⟩
  ·rw [hk] at h5; cases h5
  ·rw [hk] at h5; cases h5; exact Nat.le_refl _
theorem wpList_append_copy {ops:Array Oper} {rest:List Oper} {o:Oper} {act:Act} {Q:Exit→Act→World→Prop} (hgd:o.guard=none) (s x:Operand) (t:TypeId)
  (ho:o.op = .call { callee := .builtin .append,args:=#[s,x],argTypes:=#[t,t] })
  (e:TypeId) (i:TypeInfo) (z:Value) (size bytes:Nat) (ht:P.underlying t=some (.slice e)) (hi:P.info? e=some i) (hz:i.zero=some z)
  (hsize:i.size=size) (hby:i.bytes=bytes) (hzs:z.cells.size=size) (hsz:0 < size) (hs:act.eval s = .slice none 0 0)
  (a:Option Addr) (m c:Nat) (news:List Value) (hx:act.eval x = .slice a m c) (hl:news.length=m * size) (hnews:∀ j u,news[j]?=some u → ∃ b,a=some b∧w.cell? (b.add j)=some u) (h1:∀ u∈news,u.oneCell'=true)
  (h63:m≤maxLen) (hbytes:m * bytes≤140737488355328)
  (h:∀ v' w',w'.ownsRow 0 e size v' m news→Below w.heap.size w w'→Past w.heap.size v'→wpList P ops Q rest (act.put o.dst v') w'):wpList P ops Q (o :: rest) act w:=by
 refine wpList_plain hgd fun K hK=>?_
 obtain ⟨v',w',hr,h2,h3,h4⟩:=run_append_copy (P:=P) t o.type e i z size bytes ht hi hz hsize hby hzs hsz a m c news hl hnews h1 h63 hbytes
 unfold Oper.wp execOp
 simp only [ho,resolve,invoke,builtin,Sem.run_bind,Sem.run_pure,Result.andThen_ok,List.map_toArray,List.map_cons,List.map_nil,hs,hx,hr]
 exact hK _ _ (h v' w' h2 h3 h4)
end
section
variable {w w':World}
theorem RowsIn.strKept {B:Nat} {V:Value} {D:List DS} (h:RowsIn B w V D) (hk:∀ (k:Nat) cs t r,w.heap[k]?=some (.cells cs t r)→t≠9→w'.heap[k]?=w.heap[k]?):RowsIn B w' V D:=by
 have go:∀ {e size n:Nat} {v:Value} {xs:List Value},e≠9→w.ownsRow 0 e size v n xs→w'.ownsRow 0 e size v n xs:=fun he hr=>ownsRow_typed hr fun k cs r hk'=>hk _ _ _ _ hk' he
 exact ⟨go (by decide) h.row,h.past,fun i s hi=>go (by decide) (h.erow i s hi),h.epast,h.apart,h.apartV⟩
theorem DictIs.strKept {db:Nat} {R:Nat→Prop} {Λ:Nat→List Word} {ρ:Nat→Nat} {D:List DS} (h:DictIs w db R Λ ρ D) (hk:∀ (k:Nat) cs t r,w.heap[k]?=some (.cells cs t r)→t≠9→w'.heap[k]?=w.heap[k]?):DictIs w' db R Λ ρ D:=by
 obtain ⟨V,h1,h2⟩:=h.mem
 exact ⟨⟨V,(hk _ _ _ _ h1 (by decide)).trans h1,h2.strKept hk⟩,h.root,h.state,h.ord⟩
end
end Go.Proofs.Ts
namespace Go.Proofs.Ts
open Go Go.RowKit
def Own (ov:Value) (docs:List ByteArray) (w1:World) (k:Nat) (w:World):Prop :=
 Mod (fun b=>ov.ownBlock=some b) w1 w ∧ ∀ og,ov.ownBlock=some og → ∃ cur:Array Value,w.heap[og]?=some (.cells cur 9 (0,0)) ∧ ∀ j (h:j < docs.length),k≤j→cur[j]?=some (.string docs[j])
theorem Own.step {ov:Value} {docs:List ByteArray} {w1 w:World} {k og:Nat} {v:Value} (h:Own ov docs w1 k w) (ho:ov.ownBlock=some og):Own ov docs w1 (k+1) (w.setCell (aD og k) v):=by
 obtain ⟨h1,h2⟩:=h
 refine ⟨h1.trans (Mod.setCell w (aD og k) v fun _=>ho),fun og' ho'=>?_⟩
 obtain rfl:og=og':=Option.some.inj (ho.symm.trans ho')
 obtain ⟨cur,h3,h4⟩:=h2 og ho
 refine ⟨_,heap_setCell_same w og k _ _ _ h3,fun j hj hk=>?_⟩
 rw [Array.getElem?_setIfInBounds_ne (by omega)]
 exact h4 j hj (by omega)
theorem Own.same {ov:Value} {docs:List ByteArray} {w1 w w':World} {k:Nat} (h:Own ov docs w1 k w) (hs:Same w w'):Own ov docs w1 k w':=by
 obtain ⟨n,rfl⟩:=hs
 exact ⟨h.1.trans (Mod.same (Same.drewN w n)),h.2⟩
theorem ownsRow_strs {w:World} {ov:Value} {docs:List ByteArray} (h:w.ownsRow 0 9 1 ov docs.length (docs.map Value.string)):StrsIs w ov docs:=by
 obtain ⟨a,cap,rfl⟩:=ownsRow_form h
 refine ⟨a,cap,rfl,fun i hi=>?_⟩
 obtain ⟨g,cap',e,hc⟩:=ownsRow_cell h (j:=i) (u := .string docs[i]) (by simp [hi])
 simp only [Value.slice.injEq,true_and] at e
 obtain ⟨rfl,rfl⟩:=e
 exact ⟨g,0,rfl,by rw [Nat.zero_add]; exact hc⟩
end Go.Proofs.Ts
namespace Go.Proofs.YtffjomnnkilhgaaGreatDoor.card
open Go Go.ChangeShapes Go.WideShapes Go.ChangeAt Go.RowKit
theorem own:ownKnob Tryz.prog.godebug=none:=by kernel_rfl
theorem laidOut:laidOutB Tryz.prog=true:=by kernel_rfl
theorem cellsS:Tryz.prog.cellsOf 9=1:=by kernel_rfl
def litV:DataW Unit→Value
 | .lit (.int k n) => .int k n
 | _ => .nilIface
def rowV:DataW Unit→List Value
 | .agg l=>l.map litV
 | _=>[]
def rowsV:DataW Unit→List Value
 | .agg l=>l.flatMap rowV
 | _=>[]
noncomputable def laidWorld (os:Os):World :=
 let w0:=World.holding Tryz.prog os ⟨#[],#[],[]⟩
 let h1:=w0.heap.modify 0 fun
   | .cells _ t frozen => .cells #[.iface 327 (.agg #[typeHandle Tryz.prog 76])] t frozen
   | o=>o
 let h2:=h1.modify 4 fun
   | .cells _ t frozen => .cells (rowV Rows.laid_math_bits_deBruijn64tab).toArray t frozen
   | o=>o
 let h3:=h2.modify 3 fun
   | .cells _ t frozen => .cells (rowsV Rows.laid_unicode_utf8_acceptRanges).toArray t frozen
   | o=>o
 let h4:=h3.modify 2 fun
   | .cells _ t frozen => .cells (rowV Rows.laid_unicode_utf8_first).toArray t frozen
   | o=>o
 { w0 with heap:=h4 }
end Go.Proofs.YtffjomnnkilhgaaGreatDoor.card
namespace Go.Proofs.YtffjomnnkilhgaaGreatDoor.card
open Go Go.ChangeShapes Go.WideShapes Go.ChangeAt Go.RowKit
theorem shaped_block {W:World} (hS:W.ShapedOpen Tryz.prog) {g:Nat} {zero:Array Value} {t:TypeId} (hg:g < Tryz.prog.globals.size) (h:((begin Tryz.prog (fun _ _=>0) default).world.heap[g]?).bind Obj.row?=some (zero,t)):∃ cs,W.heap[g]?=some (.cells cs t (0,0)):=by
 obtain ⟨cs,h1,_⟩:=hS.1 g zero t hg h
 exact ⟨cs,h1⟩
theorem row_type {P:Program} {g:Nat} {t:TypeId} (h:(((begin P (fun _ _=>0) default).world.heap[g]?).bind Obj.row?).map (·.2)=some t):∃ zero,((begin P (fun _ _=>0) default).world.heap[g]?).bind Obj.row?=some (zero,t):=by
 cases e:((begin P (fun _ _=>0) default).world.heap[g]?).bind Obj.row? with
 | none=>rw [e] at h; cases h
 | some r=>rw [e] at h; exact ⟨r.1,by rw [← Option.some.inj h]⟩
theorem accept_data:(Rows.laid_unicode_utf8_acceptRanges:DataW Unit)=Go.Lib.acceptData:=by kernel_rfl
set_option maxRecDepth 100000 in
theorem tabs_in {W : World} {l : List (String × DataW Unit)} (hL : laidMetH Tryz.prog l W) (hS : W.ShapedOpen Tryz.prog) (h1 : ("unicode/utf8.first", (Rows.laid_unicode_utf8_first : DataW Unit)) ∈ l.filter fun x => x.2.handleName?.isNone) (h2 : ("unicode/utf8.acceptRanges", (Rows.laid_unicode_utf8_acceptRanges : DataW Unit)) ∈ l.filter fun x => x.2.handleName?.isNone) : Ts.TabsIn W := by
 have hm:=(laidMetH_iff.1 hL).1
 obtain ⟨z1,e1⟩:=row_type (P:=Tryz.prog) (g:=2) (t:=412) (by kernel_rfl)
 obtain ⟨z2,e2⟩:=row_type (P:=Tryz.prog) (g:=3) (t:=415) (by kernel_rfl)
 refine ⟨shaped_block hS (of_decide_eq_true (by kernel_rfl)) e1,shaped_block hS (of_decide_eq_true (by kernel_rfl)) e2,?_⟩
 have r1:=Go.Lib.laidMet.reads hm h1
 have r2:=Go.Lib.laidMet.reads hm h2
 rw [accept_data] at r2
 rw [show (Rows.laid_unicode_utf8_first:DataW Unit)=Go.Lib.firstData from Pinned.utf8First_eq] at r1
 exact utf8Tabs_of_readsT (ρ:=Tryz.lays196_ren) (U8Types.of196 Tryz.lays196) ⟨by kernel_rfl,by kernel_rfl,by kernel_rfl,by kernel_rfl,by kernel_rfl,by kernel_rfl,by kernel_rfl⟩ r1 r2
end Go.Proofs.YtffjomnnkilhgaaGreatDoor.card
namespace Go.Proofs.Ts
open Go Go.RowKit Go.Extern.Stop Go.Stop Go.Extern
/-! ### closed facts on the model's entries for internal/reflectlite -/
theorem rl_methodKind (fu : Nat) (h : Value) (w : World) : (Go.method (fu + 1) 327 (.agg #[h]) "Kind").run Tryz.prog w = .ok (281, h) w := by kernel_rfl
theorem rl_methodElem (fu : Nat) (h : Value) (w : World) : (Go.method (fu + 1) 327 (.agg #[h]) "Elem").run Tryz.prog w = .ok (304, .agg #[h]) w := by kernel_rfl
theorem rl_methodImplements (fu : Nat) (h : Value) (w : World) : (Go.method (fu + 1) 327 (.agg #[h]) "Implements").run Tryz.prog w = .ok (305, .agg #[h]) w := by kernel_rfl
theorem rl_methodAssignable (fu : Nat) (h : Value) (w : World) : (Go.method (fu + 1) 327 (.agg #[h]) "AssignableTo").run Tryz.prog w = .ok (302, .agg #[h]) w := by kernel_rfl
theorem rl_methodComparable (fu : Nat) (h : Value) (w : World) : (Go.method (fu + 1) 327 (.agg #[h]) "Comparable").run Tryz.prog w = .ok (303, .agg #[h]) w := by kernel_rfl
theorem rl_valueOfE (b:Nat) (w:World):(ReflectliteValue.unpack (.iface 135 (pT b))).run Tryz.prog w = .ok (.agg #[.pointer (some (aD 5 (135))),pT w.heap.size,uV 150]) (w.alloc (.cells #[pT b] 135)):=by kernel_rfl
theorem rl_typeE (a : Addr) (w : World) : (ReflectliteValue.methodAny (ReflectliteValue.valueError "reflectlite.Value.Type" 0) (fun t _ _ _ => ReflectliteType.toType t) #[.agg #[.pointer (some (aD 5 (135))), .pointer (some a), uV 150]]).run Tryz.prog w
  = .ok (.iface 327 (.agg #[.pointer (some (aD 5 (135)))])) w:=by kernel_rfl
theorem rl_kindE (w:World):((ReflectliteType.abiMethod fun t=>(fun a:Nat=>Value.int IntKind.u8 (a:Int)) <$> Rtype.kind t) #[.pointer (some (aD 5 (135)))]).run Tryz.prog w = .ok (.int .u8 22) w:=by kernel_rfl
theorem rl_kindN (w:World):((ReflectliteType.abiMethod fun t=>(fun a:Nat=>Value.int IntKind.u8 (a:Int)) <$> Rtype.kind t) #[.pointer (some (aD 5 (43)))]).run Tryz.prog w = .ok (.int .u8 2) w:=by kernel_rfl
theorem rlm (z:Sem Value) (f:TypeId→Addr→Nat→Nat→Sem Value) (v:Value) :
  ReflectliteValue.method z f #[v]=(do match ← ReflectliteValue.parts v with | none=>z | some (t,a,fl)=>f t a fl (fl % 32)):=rfl
theorem rl_partsE (a:Addr) (w:World):(ReflectliteValue.parts (.agg #[.pointer (some (aD 5 (135))),.pointer (some a),uV 150])).run Tryz.prog w = .ok (some (135,a,150)) w:=by kernel_rfl
theorem rl_isNilE (a p:Addr) (W:World) (ha:W.cell? a=some (.pointer (some p))) :
  (ReflectliteValue.method (ReflectliteValue.valueError "reflectlite.Value.IsNil" 0) ReflectliteValue.isNil #[.agg #[.pointer (some (aD 5 (135))), .pointer (some a), uV 150]]).run Tryz.prog W = .ok (.bool false) W := by
 rw [rlm]
 simp only [Sem.run_bind,rl_partsE,Result.andThen]
 simp [ReflectliteValue.isNil,loadVar,isAgg,underlying,Tryz.underlying135,ha,Result.andThen]
theorem rl_elemE (w:World):(ReflectliteType.method ReflectliteType.elem #[.agg #[.pointer (some (aD 5 (135)))]]).run Tryz.prog w = .ok (.iface 327 (.agg #[.pointer (some (aD 5 (43)))])) w:=by kernel_rfl
theorem rl_implementsN (w : World) : (ReflectliteType.relation "Implements" ReflectliteType.implements_ #[.agg #[.pointer (some (aD 5 (43)))], .iface 327 (.agg #[.pointer (some (aD 5 (76)))])]).run Tryz.prog w = .ok (.bool true) w := by kernel_rfl
theorem rl_typeOfN (v:Value) (w:World):(ReflectliteType.typeOf #[.iface 43 v]).run Tryz.prog w = .ok (.iface 327 (.agg #[.pointer (some (aD 5 (43)))])) w:=by kernel_rfl
theorem rl_assignableN (w : World) : (ReflectliteType.relation "AssignableTo" ReflectliteType.assignableTo #[.agg #[.pointer (some (aD 5 (43)))], .iface 327 (.agg #[.pointer (some (aD 5 (43)))])]).run Tryz.prog w = .ok (.bool true) w := by kernel_rfl
theorem rl_valueOfN (k:Int) (w:World):(ReflectliteValue.unpack (.iface 43 (iV k))).run Tryz.prog w = .ok (.agg #[.pointer (some (aD 5 (43))),pT w.heap.size,uV 130]) (w.alloc (.cells #[iV k] 43)):=by kernel_rfl
theorem rl_elemOfE (w:World):(Rtype.elem? 135).run Tryz.prog w = .ok (some 43) w:=by kernel_rfl
theorem rl_mkN (p:Addr) (w:World):(ReflectliteValue.mk 43 p ReflectliteValue.flagAddr).run Tryz.prog w = .ok (.agg #[.pointer (some (aD 5 (43))),.pointer (some p),uV 386]) w:=by kernel_rfl
theorem rl_elemVE (a p:Addr) (W:World) (ha:W.cell? a=some (.pointer (some p))) :
  (ReflectliteValue.method (ReflectliteValue.valueError "reflectlite.Value.Elem" 0) ReflectliteValue.elem #[.agg #[.pointer (some (aD 5 (135))), .pointer (some a), uV 150]]).run Tryz.prog W
   = .ok (.agg #[.pointer (some (aD 5 (43))),.pointer (some p),uV 386]) W:=by
 rw [rlm]
 simp only [Sem.run_bind,rl_partsE,Result.andThen]
 simp [ReflectliteValue.elem,loadVar,isAgg,underlying,Tryz.underlying135,ha,Result.andThen,rl_elemOfE,rl_mkN]
theorem rls (v x:Value):ReflectliteValue.set #[v,x]=(do
  let (some (dst,a,fl),some (src,b,_)):=(← ReflectliteValue.parts v,← ReflectliteValue.parts x)
   | unsupported (.noEntry "extern/(internal/reflectlite.Value).Set.zeroValue")
  if fl / ReflectliteValue.flagAddr % 2 == 0 then unsupported (.noEntry "extern/(internal/reflectlite.Value).Set.unaddressable")
  let val ← loadVar src b
  if ← Rtype.directlyAssignable dst src then storeVar dst a val
  else if ← Rtype.implements dst src then
   if (← Rtype.kind src) == 20 then
    match val with
    | .nilIface => unsupported (.noEntry "extern/reflectlite: a nil value of one interface type handed on as a value of another")
    | _=>storeVar dst a val
   else storeVar dst a (.iface src val)
  else panicString ("reflectlite.Set: value of type " ++ (← Rtype.spelt src) ++ " is not assignable to type " ++ (← Rtype.spelt dst))
  pure (.tuple #[])):=rfl
theorem rl_partsNa (a:Addr) (w:World):(ReflectliteValue.parts (.agg #[.pointer (some (aD 5 (43))),.pointer (some a),uV 386])).run Tryz.prog w = .ok (some (43,a,386)) w:=by kernel_rfl
theorem rl_partsN (a:Addr) (w:World):(ReflectliteValue.parts (.agg #[.pointer (some (aD 5 (43))),.pointer (some a),uV 130])).run Tryz.prog w = .ok (some (43,a,130)) w:=by kernel_rfl
theorem rl_directN (w:World):(Rtype.directlyAssignable 43 43).run Tryz.prog w = .ok true w:=by kernel_rfl
theorem rl_setN (ta b:Addr) (k:Int) (old:Value) (W:World) (hb:W.cell? b=some (iV k)) (ht:W.cell? ta=some old) (hf:W.frozen? ta=false) :
  (ReflectliteValue.set #[.agg #[.pointer (some (aD 5 (43))),.pointer (some ta),uV 386],.agg #[.pointer (some (aD 5 (43))),.pointer (some b),uV 130]]).run Tryz.prog W
   = .ok (.tuple #[]) (W.setCell ta (iV k)):=by
 rw [rls]
 simp only [Sem.run_bind,rl_partsNa,rl_partsN,Result.andThen]
 simp [ReflectliteValue.flagAddr,loadVar,isAgg,underlying,Tryz.underlying43,hb,Result.andThen,rl_directN,storeVar,Value.cells,storeCells,Addr.add]
 rw [run_store Tryz.prog W ta _ _ (by rfl)]
 simp [ht,hf]
def ErrIn (w:World):Prop:=w.cell? ⟨0,0,none⟩=some (.iface 327 (.agg #[.pointer (some ⟨5,76,none⟩)]))
theorem ErrIn.below {w w':World} (h:ErrIn w) (hb:Below w.heap.size w w'):ErrIn w':=(hb.cell (p:=(aD (0) 0)) (lt_of_cell h)).trans h
set_option maxHeartbeats 4000000 in
theorem as_hit (k:Int) (b:Nat) (old:Value) (w:World) (hg:ErrIn w) (ht0:w.cell? (aD b 0)=some old) (hf0:w.frozen? (aD b 0)=false) :
  Calls Tryz.prog 69 #[.iface 43 (iV k),.iface 135 (pT b)] w fun ev w'=>ev = .returned (.bool true) ∧ ∃ w1,Below w.heap.size w w1∧w'=w1.setCell (aD b 0) (iV k):=by
 have h6:=@run_callFunc_extern Tryz.prog 108 _ (fun args=>ReflectliteValue.unpack (args.getD 0 (.tuple #[]))) Tryz.func108 (by kernel_rfl) (by kernel_rfl) (by kernel_rfl) (by kernel_rfl)
 have h7 := @run_callFunc_extern Tryz.prog 109 _ (ReflectliteValue.methodAny (ReflectliteValue.valueError "reflectlite.Value.Type" 0) (fun t _ _ _ => ReflectliteType.toType t)) Tryz.func109 (by kernel_rfl) (by kernel_rfl) (by kernel_rfl) (by kernel_rfl)
 have h8 := @run_callFunc_extern Tryz.prog 110 _ (ReflectliteValue.method (ReflectliteValue.valueError "reflectlite.Value.IsNil" 0) ReflectliteValue.isNil) Tryz.func110 (by kernel_rfl) (by kernel_rfl) (by kernel_rfl) (by kernel_rfl)
 have h27:=@run_callFunc_extern Tryz.prog 281 _ (ReflectliteType.abiMethod fun t=>do pure (.int .u8 (← Rtype.kind t))) Tryz.func281 (by kernel_rfl) (by kernel_rfl) (by kernel_rfl) (by kernel_rfl)
 have h37:=@run_callFunc_extern Tryz.prog 304 _ (ReflectliteType.method ReflectliteType.elem) Tryz.func304 (by kernel_rfl) (by kernel_rfl) (by kernel_rfl) (by kernel_rfl)
 have h38 := @run_callFunc_extern Tryz.prog 305 _ (ReflectliteType.relation "Implements" ReflectliteType.implements_) Tryz.func305 (by kernel_rfl) (by kernel_rfl) (by kernel_rfl) (by kernel_rfl)
 have h10:=@run_callFunc_extern Tryz.prog 112 _ ReflectliteType.typeOf Tryz.func112 (by kernel_rfl) (by kernel_rfl) (by kernel_rfl) (by kernel_rfl)
 have h35 := @run_callFunc_extern Tryz.prog 302 _ (ReflectliteType.relation "AssignableTo" ReflectliteType.assignableTo) Tryz.func302 (by kernel_rfl) (by kernel_rfl) (by kernel_rfl) (by kernel_rfl)
 have h11 := @run_callFunc_extern Tryz.prog 157 _ (ReflectliteValue.method (ReflectliteValue.valueError "reflectlite.Value.Elem" 0) ReflectliteValue.elem) Tryz.func157 (by kernel_rfl) (by kernel_rfl) (by kernel_rfl) (by kernel_rfl)
 have h12:=@run_callFunc_extern Tryz.prog 158 _ ReflectliteValue.set Tryz.func158 (by kernel_rfl) (by kernel_rfl) (by kernel_rfl) (by kernel_rfl)
 have tO:=rl_typeOfN
 have mA:=rl_methodAssignable
 have a25:=rl_assignableN
 have v25:=rl_valueOfN
 have f6:=rl_valueOfE
 have f7:=rl_typeE
 have mK:=rl_methodKind
 have mE:=rl_methodElem
 have mI:=rl_methodImplements
 have k27:=rl_kindE
 have k25:=rl_kindN
 have e27:=rl_elemE
 have i25:=rl_implementsN
 have n8:=rl_isNilE (aD w.heap.size 0) (aD b 0) ((w.alloc (.cells #[pT b] 135)).alloc (.cells #[.pointer (some (aD 5 (135))),pT w.heap.size,uV 150] 219)) (by simp)
 have hlt:0 < w.heap.size:=lt_of_cell hg
 unfold ErrIn at hg
 have hg2:((w.alloc (.cells #[pT b] 135)).alloc (.cells #[.pointer (some (aD 5 (135))),pT w.heap.size,uV 150] 219)).cell? (aD 0 0)=some (.iface 327 (.agg #[.pointer (some (aD 5 (76)))])):=by
  rw [World.cell?_alloc_lt _ _ (aD 0 0) (by simp),World.cell?_alloc_lt _ _ (aD 0 0) hlt]; exact hg
 have htl:b < w.heap.size:=lt_of_cell ht0
 have el:=rl_elemVE (aD w.heap.size 0) (aD b 0) (((w.alloc (.cells #[pT b] 135)).alloc (.cells #[.pointer (some (aD 5 (135))),pT w.heap.size,uV 150] 219)).alloc (.cells #[.pointer (some (aD 5 (135))),pT w.heap.size,uV 150] 219)) (by rw [World.cell?_alloc_lt _ _ (aD w.heap.size 0) (by simp; omega)]; simp)
 have st:=rl_setN (aD b 0) (aD (w.heap.size+1+1+1) 0) k old ((((w.alloc (.cells #[pT b] 135)).alloc (.cells #[.pointer (some (aD 5 (135))),pT w.heap.size,uV 150] 219)).alloc (.cells #[.pointer (some (aD 5 (135))),pT w.heap.size,uV 150] 219)).alloc (.cells #[iV k] 43))
  (by rw [World.cell?_alloc_at _ _ _ _ (by simp)]; rfl)
  (by rw [World.cell?_alloc_lt _ _ (aD b 0) (by simp; omega),World.cell?_alloc_lt _ _ (aD b 0) (by simp; omega),World.cell?_alloc_lt _ _ (aD b 0) (by simp; omega),World.cell?_alloc_lt _ _ (aD b 0) htl]; exact ht0)
  (by rw [World.frozen?_alloc_old _ _ (aD b 0) (by simp; omega),World.frozen?_alloc_old _ _ (aD b 0) (by simp; omega),World.frozen?_alloc_old _ _ (aD b 0) (by simp; omega),World.frozen?_alloc_old _ _ (aD b 0) (Nat.ne_of_lt htl)]; exact hf0)
 go_enter Tryz.func69,Tryz.ntmps69
 go_wp2
 refine wp_loop_rounds 1 ?_
 rw [rounds_succ]
 go_wp2
 go_ret
 refine ⟨rfl,_,?_,rfl⟩
 exact ((((Below.refl _ w).alloc (Nat.le_refl _) _).alloc (by simp) _).alloc (by simp; omega) _).alloc (by simp; omega) _
end Go.Proofs.Ts
namespace Go.Proofs.YtffjomnnkilhgaaGreatDoor.card
open Go Go.ChangeShapes Go.WideShapes Go.ChangeAt Go.RowKit
theorem err_glob : Tryz.prog.globalNamed "errors.errorType" = some 0 := by kernel_rfl
theorem err_rt : (Tryz.prog.cutTypes.find? (·.1 == "internal/reflectlite.rtype")).map (·.2) = some 327 := by kernel_rfl
set_option maxRecDepth 100000 in
theorem err_row:((List.range Tryz.prog.types.size).filter fun t=>Tryz.prog.rowNamed t [101,114,114,111,114])=[76]:=by kernel_rfl
theorem err_handle:typeHandle Tryz.prog 76 = .pointer (some ⟨5,76,none⟩):=by kernel_rfl
theorem err_in {W : World} {l : List (String × DataW Unit)} (hL : laidMetH Tryz.prog l W) (h1 : ("errors.errorType", (Rows.laid_errors_errorType : DataW Unit)) ∈ l.filter fun x => x.2.handleName?.isSome) : Ts.ErrIn W := by
 have hm:=(laidMetH_iff.1 hL).2
 obtain ⟨name,u,ty,e1,e2,e3,e4,e5⟩:=hm _ h1
 have en:name=[101,114,114,111,114]:=(Option.some.inj e1).symm
 subst en
 obtain rfl:=Option.some.inj (err_rt.symm.trans e2)
 have hm:ty∈(List.range Tryz.prog.types.size).filter fun t=>Tryz.prog.rowNamed t [101,114,114,111,114]:=List.mem_filter.2 ⟨List.mem_range.2 e3,e4⟩
 rw [err_row] at hm
 obtain rfl:=List.mem_singleton.1 hm
 rw [err_handle] at e5
 unfold Ts.ErrIn
 simpa using World.var?_cell err_glob e5 0
end Go.Proofs.YtffjomnnkilhgaaGreatDoor.card
namespace Go.Proofs.YtffjomnnkilhgaaGreatDoor.card
open Go Go.ChangeShapes Go.WideShapes Go.ChangeAt Go.RowKit
theorem bits_glob : Tryz.prog.globalNamed "math/bits.deBruijn64tab" = some 4 := by kernel_rfl
theorem bits_type:(Tryz.prog.globals[4]?).map (·.type)=some 456:=by kernel_rfl
theorem bits_data:(Rows.laid_math_bits_deBruijn64tab:DataW Unit)=Go.Lib.tabData .u8 (Go.Lib.deBruijn64tab.map fun (k:Nat)=>(k:Int)):=by kernel_rfl
theorem bits_cells:Tryz.prog.cellsOf 5=1:=by kernel_rfl
theorem bits_cells64:Tryz.prog.cellsOf 456=64:=by kernel_rfl
theorem bits_in {W : World} {l : List (String × DataW Unit)} (hL : laidMetH Tryz.prog l W) (hS : W.ShapedOpen Tryz.prog) (h1 : ("math/bits.deBruijn64tab", (Rows.laid_math_bits_deBruijn64tab : DataW Unit)) ∈ l.filter fun x => x.2.handleName?.isNone) : Ts.BitTab W := by
 have hm:=(laidMetH_iff.1 hL).1
 obtain ⟨z1,e1⟩:=row_type (P:=Tryz.prog) (g:=4) (t:=456) (by kernel_rfl)
 refine ⟨shaped_block hS (of_decide_eq_true (by kernel_rfl)) e1,fun j hj=>?_⟩
 have r1:=Go.Lib.laidMet.reads hm h1
 rw [bits_data] at r1
 obtain ⟨g,t,cs,fuel,p,hg,hty,hvar,hd⟩:=r1
 obtain rfl:=Option.some.inj (bits_glob.symm.trans hg)
 obtain rfl:=Option.some.inj (bits_type.symm.trans hty)
 have hcs:=Go.Lib.cells_of_tab Tryz.underlying456 Tryz.underlying5 bits_cells bits_cells64 hd
 have:=World.var?_cell hg hvar j
 rw [this,← Array.getElem?_toList,hcs]
 simp [hj,List.getD]
end Go.Proofs.YtffjomnnkilhgaaGreatDoor.card
namespace Go.Proofs.Tl
open Go Go.RowKit Go.Proofs.Ts
def i64V (x:Int):Value := .int .i64 x
def IntsOf (w:World) (v:Value) (L:List Int):Prop:=w.ownsRow 0 3 1 v L.length (L.map i64V)
theorem IntsOf.cellAt {w:World} {v:Value} {L:List Int} (h:IntsOf w v L) {i:Nat} (hi:i < L.length):∃ g cap,v=sL g L.length cap∧w.cell? (aD g i)=some (iV (L.getD i 0))∧w.frozen? (aD g i)=false:=by
 rcases h.2 with ⟨_,h0⟩ | ⟨g,cap,cur,rfl,_,hg,_⟩
 ·omega
 ·refine ⟨g,cap,rfl,?_,free_block hg⟩
  have:=h.cells (g:=g) rfl i (i64V (L.getD i 0)) (by rw [List.getElem?_map,List.getElem?_eq_getElem hi,List.getD_eq_getElem?_getD,List.getElem?_eq_getElem hi]; rfl)
  rcases Nat.eq_zero_or_pos i with rfl | h0
  ·simpa [Addr.add,i64V] using this
  ·simpa [Addr.add,Nat.ne_of_gt h0,i64V] using this
theorem IntsOf.keep {w w':World} {v:Value} {L:List Int} (h:IntsOf w v L) (hb:∀ k,v.ownBlock=some k→w'.heap[k]?=w.heap[k]?):IntsOf w' v L:=ownsRow_block h hb
theorem IntsOf.below {w w':World} {v:Value} {L:List Int} (h:IntsOf w v L) (hb:Below w.heap.size w w'):IntsOf w' v L:=ownsRow_block h fun k e=>hb.block k (h.lt k e).2
structure RowAt (e:TypeId) (size:Nat) (w0 W:World) (v:Value) (n:Nat) (xs:List Value):Prop where
 below:Below w0.heap.size w0 W
 row:W.ownsRow 0 e size v n xs
 past:Past w0.heap.size v
 nil:n=0→v = .slice none 0 0
section
variable {e:TypeId} {size:Nat} {w0 W W':World} {v v':Value} {n m:Nat} {xs ys:List Value}
theorem RowAt.start (e:TypeId) (size:Nat) (w:World):RowAt e size w w (.slice none 0 0) 0 []:=⟨Below.refl _ _,World.ownsRow_nil _ _ _ _,(fun k h=>by cases h),fun _=>rfl⟩
theorem RowAt.kept (h:RowAt e size w0 W v n xs) (hb:Below W.heap.size W W'):RowAt e size w0 W' v n xs:=⟨h.below.trans (hb.mono h.below.size),ownsRow_block h.row fun k e=>hb.block k (h.row.lt k e).2,h.past,h.nil⟩
theorem RowAt.alloc (h:RowAt e size w0 W v n xs) (o:Obj):RowAt e size w0 (W.alloc o) v n xs:=h.kept ((Below.refl _ W).alloc (Nat.le_refl _) o)
theorem RowAt.same (h:RowAt e size w0 W v n xs) (hs:Same W W'):RowAt e size w0 W' v n xs:=h.kept (hs.below _)
theorem RowAt.moves (h:RowAt e size w0 W v n xs) (hm:Moves W v W' v') (hr:W'.ownsRow 0 e size v' m ys) (h0:0 < m):RowAt e size w0 W' v' m ys :=
 ⟨hm.below h.past h.below h.below.size,hr,hm.past h.past h.below.size,fun e=>by omega⟩
end
def pickL (c:Int) (n:Nat):Nat:=((if c < 0 then -(c+1) else c).toNat) % n
theorem pickL_lt (c:Int) {n:Nat} (hn:0 < n):pickL c n < n:=Nat.mod_lt _ hn
set_option maxRecDepth 100000 in
theorem pick_law (c:Int) (n:Nat) (w:World) (hc:-9223372036854775808≤c∧c≤9223372036854775807) (hn:0 < n∧n≤8000000) :
  Calls Tryz.prog 21 #[iV c,iV n] w fun e w'=>e = .returned (iV (pickL c n))∧w'=w:=by
 have hn0:((n:Int) == 0)=false:=by rw [beq_eq_false_iff_ne]; omega
 by_cases h:c < 0
 ·have hp:Hid ((pickL c n:Nat)=((-(c+1)).toNat) % n):=Lib.hid (by unfold pickL; rw [if_pos h])
  go_enter Tryz.func21,Tryz.ntmps21
  go_wp2_with fail
  go_ret
  refine ⟨ret_int ?_,rfl⟩
  rw [hp]
  obtain ⟨m,hm⟩:∃ m:Nat,-(c+1)=(m:Int):=⟨(-(c+1)).toNat,by omega⟩
  have hc1:c+1 = -(m:Int):=by omega
  rw [hm,hc1,Int.neg_tmod,Int.neg_neg]
  simp
  rw [Int.tmod_eq_emod_of_nonneg (by omega)]
 ·have hp:Hid ((pickL c n:Nat)=c.toNat % n):=Lib.hid (by unfold pickL; rw [if_neg h])
  go_enter Tryz.func21,Tryz.ntmps21
  go_wp2_with fail
  go_ret
  refine ⟨ret_int ?_,rfl⟩
  rw [hp]
  obtain ⟨m,rfl⟩:∃ m:Nat,c=(m:Int):=⟨c.toNat,by omega⟩
  rw [Int.toNat_natCast]
  first
   | (rw [Int.tmod_eq_emod_of_nonneg (by omega)]; omega)
   | simp
set_option maxRecDepth 100000 in
set_option maxHeartbeats 4000000 in
theorem sameInts_law (L:List Int) (va vb:Value) (w:World) (ha:IntsOf w va L) (hb:IntsOf w vb L) (hla:L.length≤1000000) :
  Calls Tryz.prog 32 #[va,vb] w fun e w'=>e = .returned (.bool true)∧Same w w':=by
 obtain ⟨aa,ac,rfl⟩:=ownsRow_form ha
 obtain ⟨ba,bc,rfl⟩:=ownsRow_form hb
 have HA:=Lib.hid ha
 have HB:=Lib.hid hb
 clear ha hb
 go_enter Tryz.func32,Tryz.ntmps32
 go_wp2_with fail
 go_loopw [5] (fun iv wr=>∃ i:Nat,i≤L.length∧iv = .int .i64 (i:Int)∧Hid (Same w wr)) (fun iv _=>L.length - (intOf iv).toNat)
 case atStart=>exact ⟨0,Nat.zero_le _,rfl,Lib.hid (Same.refl _)⟩
 case round =>
  obtain ⟨i,hia,rfl,HO⟩:=hrel
  have q1:IntKind.i64.wrap ((i:Int)+1)=(i:Int)+1:=IntWalk.i64_in _ (by omega)
  by_cases hil:i < L.length
  ·obtain ⟨ga,cpa,ea,ca0,_⟩:=HA.cellAt hil
   simp only [Value.slice.injEq] at ea
   obtain ⟨rfl,_,rfl⟩:=ea
   obtain ⟨gb,cpb,eb,cb0,_⟩:=HB.cellAt hil
   simp only [Value.slice.injEq] at eb
   obtain ⟨rfl,_,rfl⟩:=eb
   have ca:=(HO.cell (aD ga i)).trans ca0
   have cb:=(HO.cell (aD gb i)).trans cb0
   have zi:(0:Int)≤(i:Int)∧(i:Int) < (L.length:Int):=by omega
   clear ca0 cb0
   generalize L.getD i 0=Av at *
   go_upto_region 6 with fail
   go_quiet (fail)
   go_wp2_with fail
   go_roundw
   case rel=>exact ⟨i+1,by omega,by go_num,Lib.hid (HO.trans (Same.drewN _ _))⟩
   case measure=>(simp [intOf]) <;> omega
  ·obtain rfl:i=L.length:=by omega
   go_wp2_with fail
   go_ret
   exact ⟨rfl,HO⟩
end Go.Proofs.Tl
namespace Go.Proofs.Tl
open Go Go.RowKit Go.Proofs.Ts
theorem blankR_law (c:UInt8) (w:World) :
  Calls Tryz.prog 95 #[.int .u8 c.toNat] w fun e w'=>e = .returned (.bool (isBlank c))∧Same w w':=by
 rw [blank_toNat]
 go_enter Tryz.func95,Tryz.ntmps95
 go_wp2
 all_goals
  go_ret
  exact ⟨ret_bool (by simp [*]),Same.refl _⟩
theorem conv_one (c:UInt8) (W:World):(convert 42 9 (sL W.heap.size 1 1)).run Tryz.prog (W.alloc (.cells #[.int .u8 c.toNat] 5)) = .ok (.string ⟨#[c]⟩) (W.alloc (.cells #[.int .u8 c.toNat] 5)):=by
 refine run_convert_bytes_back (P:=Tryz.prog) _ 42 9 5 (aD W.heap.size 0) 1 [c] Tryz.underlying42 Tryz.underlying5 Tryz.underlying9 fun j hj=>?_
 have hj0:j=0:=by simp at hj; omega
 subst hj0
 exact cell_one_new W _ _ 0 _ rfl
def filtW (L:List (List UInt8)):List (List UInt8):=(L.map lowL).filter fun w=>decide (w.length≤16)
theorem wordsB_filt (s:ByteArray):wordsB s=filtW (fields s.data.toList []):=rfl
theorem filtW_cons (f:List UInt8) (L:List (List UInt8)):filtW (f :: L)=(if f.length≤16 then [lowL f] else [])++filtW L:=by
 unfold filtW
 rw [List.map_cons,List.filter_cons]
 have:(lowL f).length=f.length:=by simp [lowL]
 rw [this]
 by_cases h:f.length≤16 <;> simp [h]
def runW (cur:List UInt8):List (List UInt8):=if 0 < cur.length∧cur.length≤16 then [lowL cur] else []
theorem filtW_blank {s:ByteArray} {i:Nat} (h:i < s.size) (cur:List UInt8) (hb:isBlank s[i]=true):filtW (fields (s.data.toList.drop i) cur)=runW cur++filtW (fields (s.data.toList.drop (i+1)) []):=by
 have hd:s.data.toList.drop i=s[i] :: s.data.toList.drop (i+1):=by
  rw [List.drop_eq_getElem_cons (by simpa using h)]
  rfl
 rw [hd]
 conv=>lhs; unfold fields
 rw [if_pos hb]
 unfold runW
 by_cases hc:cur=[]
 ·simp [hc]
 ·have:0 < cur.length:=List.length_pos_iff.2 hc
  rw [if_neg hc,filtW_cons]
  simp [this]
theorem filtW_go {s:ByteArray} {i:Nat} (h:i < s.size) (cur:List UInt8) (hb:isBlank s[i]=false):filtW (fields (s.data.toList.drop i) cur)=filtW (fields (s.data.toList.drop (i+1)) (cur++[s[i]])):=by
 have hd:s.data.toList.drop i=s[i] :: s.data.toList.drop (i+1):=by
  rw [List.drop_eq_getElem_cons (by simpa using h)]
  rfl
 rw [hd]
 conv=>lhs; unfold fields
 rw [if_neg (by simp [hb])]
theorem filtW_end (s:ByteArray) (cur:List UInt8):filtW (fields (s.data.toList.drop s.size) cur)=runW cur:=by
 have:s.data.toList.drop s.size=[]:=by simp
 rw [this]
 unfold fields runW
 by_cases hc:cur=[]
 ·simp [hc,filtW]
 ·have:0 < cur.length:=List.length_pos_iff.2 hc
  rw [if_neg hc,filtW_cons]
  simp [this,filtW]
structure WAt (s:ByteArray) (i:Nat) (out:List (List UInt8)) (cur:List UInt8):Prop where
 all:wordsB s=out++if i≤s.size then filtW (fields (s.data.toList.drop i) cur) else []
 len:cur.length≤i
 out:out.length≤i
theorem WAt.start (s:ByteArray):WAt s 0 [] []:=⟨by simp [wordsB_filt],Nat.le_refl _,Nat.le_refl _⟩
theorem WAt.go {s:ByteArray} {i:Nat} {out:List (List UInt8)} {cur:List UInt8} (h:WAt s i out cur) (hi:i < s.size) (hb:isBlank s[i]=false):WAt s (i+1) out (cur++[s[i]]):=by
 refine ⟨?_,by have:=h.len; simp; omega,by have:=h.out; omega⟩
 rw [h.all,if_pos (by omega),if_pos (by omega),filtW_go hi cur hb]
theorem runW_le (cur:List UInt8):(runW cur).length≤1:=by unfold runW; split <;> simp
theorem WAt.stop {s:ByteArray} {i:Nat} {out:List (List UInt8)} {cur:List UInt8} (h:WAt s i out cur) (hi:i≤s.size) (hb:∀ hl:i < s.size,isBlank s[i]=true):WAt s (i+1) (out++runW cur) []:=by
 have h1:=runW_le cur
 refine ⟨?_,by simp,by have:=h.out; simp; omega⟩
 rw [h.all,if_pos hi]
 rcases Nat.lt_or_ge i s.size with hl | hl
 ·rw [if_pos (by omega),filtW_blank hl cur (hb hl),List.append_assoc]
 ·obtain rfl:i=s.size:=by omega
  rw [if_neg (by omega),filtW_end,List.append_nil]
theorem WAt.done {s:ByteArray} {out:List (List UInt8)} {cur:List UInt8} (h:WAt s (s.size+1) out cur):out=wordsB s:=by
 have:=h.all
 rw [if_neg (by omega),List.append_nil] at this
 exact this.symm
abbrev StrRow (w0 W:World) (v:Value) (out:List (List UInt8)):Prop:=RowAt 9 1 w0 W v out.length (out.map strV)
set_option maxRecDepth 100000 in
set_option maxHeartbeats 4000000 in
theorem words_law (s:ByteArray) (w:World) (hs:s.size≤1000) :
  Calls Tryz.prog 62 #[.string s] w fun e w'=>∃ ov,e = .returned ov∧StrRow w w' ov (wordsB s):=by
 obtain ⟨i0,hi,hz0,hz1,hz2⟩:=info_parts Tryz.info9
 have HW0:=Lib.hid (WAt.start s)
 have HR0:=Lib.hid (RowAt.start 9 1 w)
 go_enter Tryz.func62,Tryz.ntmps62
 go_wp2_with fail
 go_loopw [3,4,5] (fun ov cv iv wr=>∃ (i:Nat) (out:List (List UInt8)) (cur:List UInt8),i≤s.size+1∧iv = .int .i64 (i:Int)∧cv = .string ⟨(lowL cur).toArray⟩∧cur.length≤i∧out.length≤i∧Hid (WAt s i out cur)∧Hid (StrRow w wr ov out)) (fun _ _ iv _=>s.size+1 - (intOf iv).toNat)
 case atStart=>exact ⟨0,[],[],by omega,rfl,rfl,Nat.le_refl _,Nat.le_refl _,HW0,HR0⟩
 case round =>
  obtain ⟨i,out,cur,his,rfl,rfl,hcl,hol,HW,HR⟩:=hrel
  have hll:(lowL cur).length=cur.length:=by simp [lowL]
  have q1:IntKind.i64.wrap ((i:Int)+1)=(i:Int)+1:=IntWalk.i64_in _ (by omega)
  by_cases hie:i≤s.size
  ·by_cases hend:i=s.size
   ·have e1:((i:Int) == (s.size:Int))=true:=by simp [hend]
    by_cases hadd:0 < cur.length∧cur.length≤16
    ·have e2:0 < (lowL cur).length:=by omega
     have e3:((lowL cur).length:Int)≤(16:Int):=by omega
     have HR1:=Lib.hid (HR.alloc (.cells #[.string ⟨(lowL cur).toArray⟩] 9))
     have hrow:=HR1.row
     go_wp2_with (at_builtin; refine wpList_append_lies rfl _ _ 35 rfl 9 i0 (.string ⟨#[]⟩) 1 16 Tryz.underlying35 hi hz0 hz1 hz2 rfl (by decide) u3 out.length (out.map strV) rfl hrow (aD wr.heap.size 0) 1 1 [.string ⟨(lowL cur).toArray⟩] rfl rfl (cell_one_new wr _ _) (by simp [Value.oneCell']) (by decide) (by unfold maxLen; omega) (by omega) ?_; intro v4 W4 hrow4 hgrow4 hlies4; have HR4:=Lib.hid (HR1.moves (Moves.append hgrow4 hlies4) hrow4 (by omega)); clear hrow4 hgrow4 hlies4 hrow)
     go_roundw
     case rel =>
      refine ⟨i+1,out++[lowL cur],[],Nat.succ_le_succ hie,by go_num,rfl,Nat.zero_le _,by simp; exact hol,Lib.hid ?_,Lib.hid ?_⟩
      ·have:=HW.stop (by omega) (fun hl=>by omega)
       unfold runW at this
       rw [if_pos hadd] at this
       exact this
      ·unfold StrRow
       rw [List.map_append,List.length_append]
       exact HR4
     case measure=>(simp [intOf]) <;> omega
    ·have hk:Hid (WAt s (i+1) out []):=Lib.hid (by
      have:=HW.stop (by omega) (fun hl=>by omega)
      unfold runW at this
      rw [if_neg hadd,List.append_nil] at this
      exact this)
     by_cases hc0:0 < cur.length
     ·have e2:0 < (lowL cur).length:=by omega
      have e3:(16:Int) < ((lowL cur).length:Int):=by omega
      go_wp2_with fail
      go_roundw
      case rel=>exact ⟨i+1,out,[],Nat.succ_le_succ hie,by go_num,rfl,Nat.zero_le _,Nat.le_succ_of_le hol,hk,HR⟩
      case measure=>(simp [intOf]) <;> omega
     ·have e2:¬ 0 < (lowL cur).length:=by omega
      go_wp2_with fail
      go_roundw
      case rel=>exact ⟨i+1,out,[],Nat.succ_le_succ hie,by go_num,rfl,Nat.zero_le _,Nat.le_succ_of_le hol,hk,HR⟩
      case measure=>(simp [intOf]) <;> omega
   ·have hil:i < s.size:=by omega
    have e1:((i:Int) == (s.size:Int))=false:=by simp; omega
    cases hb:isBlank s[i] with
    | true =>
     go_upto_region 7 with (go_at_call 95; refine (blankR_law s[i] _).mono ?_; rintro e w2 ⟨rfl,hs2⟩; rw [hb]; have HR:=Lib.hid (HR.same hs2); clear hs2)
     by_cases hadd:0 < cur.length∧cur.length≤16
     ·have e2:0 < (lowL cur).length:=by omega
      have e3:((lowL cur).length:Int)≤(16:Int):=by omega
      have HR1:=Lib.hid (HR.alloc (.cells #[.string ⟨(lowL cur).toArray⟩] 9))
      have hrow:=HR1.row
      go_wp2_with (at_builtin; refine wpList_append_lies rfl _ _ 35 rfl 9 i0 (.string ⟨#[]⟩) 1 16 Tryz.underlying35 hi hz0 hz1 hz2 rfl (by decide) u3 out.length (out.map strV) rfl hrow (aD w2.heap.size 0) 1 1 [.string ⟨(lowL cur).toArray⟩] rfl rfl (cell_one_new w2 _ _) (by simp [Value.oneCell']) (by decide) (by unfold maxLen; omega) (by omega) ?_; intro v4 W4 hrow4 hgrow4 hlies4; have HR4:=Lib.hid (HR1.moves (Moves.append hgrow4 hlies4) hrow4 (by omega)); clear hrow4 hgrow4 hlies4 hrow)
      go_roundw
      case rel =>
       refine ⟨i+1,out++[lowL cur],[],Nat.succ_le_succ hie,by go_num,rfl,Nat.zero_le _,by simp; exact hol,Lib.hid ?_,Lib.hid ?_⟩
       ·have:=HW.stop (by omega) (fun _=>hb)
        unfold runW at this
        rw [if_pos hadd] at this
        exact this
       ·unfold StrRow
        rw [List.map_append,List.length_append]
        exact HR4
      case measure=>(simp [intOf]) <;> omega
     ·have hk:Hid (WAt s (i+1) out []):=Lib.hid (by
       have:=HW.stop (by omega) (fun _=>hb)
       unfold runW at this
       rw [if_neg hadd,List.append_nil] at this
       exact this)
      by_cases hc0:0 < cur.length
      ·have e2:0 < (lowL cur).length:=by omega
       have e3:(16:Int) < ((lowL cur).length:Int):=by omega
       go_wp2_with fail
       go_roundw
       case rel=>exact ⟨i+1,out,[],Nat.succ_le_succ hie,by go_num,rfl,Nat.zero_le _,Nat.le_succ_of_le hol,hk,HR⟩
       case measure=>(simp [intOf]) <;> omega
      ·have e2:¬ 0 < (lowL cur).length:=by omega
       go_wp2_with fail
       go_roundw
       case rel=>exact ⟨i+1,out,[],Nat.succ_le_succ hie,by go_num,rfl,Nat.zero_le _,Nat.le_succ_of_le hol,hk,HR⟩
       case measure=>(simp [intOf]) <;> omega
    | false =>
     have HW2:=Lib.hid (HW.go hil hb)
     have hc256:s[i].toNat < 256:=(s[i]).toNat_lt
     have hl:=low1_toNat s[i]
     have HSL:Hid ((lowL cur++[low1 s[i]]).toArray=(lowL (cur++[s[i]])).toArray):=Lib.hid (by simp [lowL])
     have hgl:(lowL cur).length+1≤2000:=by omega
     by_cases h1:65≤s[i].toNat
     ·by_cases h2:s[i].toNat≤90
      ·have hlo:((low1 s[i]).toNat:Int)=(s[i].toNat:Int)+32:=by rw [hl,if_pos ⟨h1,h2⟩]
       clear hl
       have hcv:∀ W:World,(convert 42 9 (sL W.heap.size 1 1)).run Tryz.prog (W.alloc (.cells #[.int .u8 ((s[i].toNat:Int)+32)] 5)) = .ok (.string ⟨#[low1 s[i]]⟩) (W.alloc (.cells #[.int .u8 ((s[i].toNat:Int)+32)] 5)):=fun W=>by
        have:=conv_one (low1 s[i]) W
        rw [hlo] at this
        exact this
       go_wp2_with (go_at_call 95; refine (blankR_law s[i] _).mono ?_; rintro e w2 ⟨rfl,hs2⟩; rw [hb]; have HR:=Lib.hid (HR.same hs2); clear hs2)
       go_roundw
       case rel=>exact ⟨i+1,out,cur++[s[i]],Nat.succ_le_succ hie,by go_num,by rw [← HSL.out]; rfl,by simp; exact hcl,Nat.le_succ_of_le hol,HW2,Lib.hid (HR.alloc _)⟩
       case measure=>(simp [intOf]) <;> omega
      ·have hlo:((low1 s[i]).toNat:Int)=(s[i].toNat:Int):=by rw [hl,if_neg (by omega)]
       clear hl
       have hcv:∀ W:World,(convert 42 9 (sL W.heap.size 1 1)).run Tryz.prog (W.alloc (.cells #[.int .u8 (s[i].toNat:Int)] 5)) = .ok (.string ⟨#[low1 s[i]]⟩) (W.alloc (.cells #[.int .u8 (s[i].toNat:Int)] 5)):=fun W=>by
        have:=conv_one (low1 s[i]) W
        rw [hlo] at this
        exact this
       go_wp2_with (go_at_call 95; refine (blankR_law s[i] _).mono ?_; rintro e w2 ⟨rfl,hs2⟩; rw [hb]; have HR:=Lib.hid (HR.same hs2); clear hs2)
       go_roundw
       case rel=>exact ⟨i+1,out,cur++[s[i]],Nat.succ_le_succ hie,by go_num,by rw [← HSL.out]; rfl,by simp; exact hcl,Nat.le_succ_of_le hol,HW2,Lib.hid (HR.alloc _)⟩
       case measure=>(simp [intOf]) <;> omega
     ·have hlo:((low1 s[i]).toNat:Int)=(s[i].toNat:Int):=by rw [hl,if_neg (by omega)]
      clear hl
      have hcv:∀ W:World,(convert 42 9 (sL W.heap.size 1 1)).run Tryz.prog (W.alloc (.cells #[.int .u8 (s[i].toNat:Int)] 5)) = .ok (.string ⟨#[low1 s[i]]⟩) (W.alloc (.cells #[.int .u8 (s[i].toNat:Int)] 5)):=fun W=>by
       have:=conv_one (low1 s[i]) W
       rw [hlo] at this
       exact this
      go_wp2_with (go_at_call 95; refine (blankR_law s[i] _).mono ?_; rintro e w2 ⟨rfl,hs2⟩; rw [hb]; have HR:=Lib.hid (HR.same hs2); clear hs2)
      go_roundw
      case rel=>exact ⟨i+1,out,cur++[s[i]],Nat.succ_le_succ hie,by go_num,by rw [← HSL.out]; rfl,by simp; exact hcl,Nat.le_succ_of_le hol,HW2,Lib.hid (HR.alloc _)⟩
      case measure=>(simp [intOf]) <;> omega
  ·obtain rfl:i=s.size+1:=by omega
   go_wp2_with fail
   go_ret
   exact ⟨_,rfl,by rw [← HW.done]; exact HR⟩
end Go.Proofs.Tl
namespace Go.Proofs.Tl
open Go Go.RowKit Go.Proofs.Ts
structure IndexIs (B:Nat) (w:World) (mb n:Nat) (T:List (List UInt8)) (L:List UInt8→List Nat):Prop where
 le:B≤mb
 ex:∃ tv pv ps,w.heap[mb]?=some (.cells #[.int .i64 n,tv,pv] 90 (0,0)) ∧
  w.ownsRow 0 9 1 tv T.length (T.map strV)∧Past B tv∧w.ownsRow 0 24 1 pv T.length ps∧Past B pv ∧
  (∀ (i:Nat) v x,ps[i]?=some v→T[i]?=some x→w.ownsRow 0 3 1 v (L x).length ((L x).map intV)∧Past B v) ∧
  ∀ (i j:Nat) u v g,i≠j→ps[i]?=some u→ps[j]?=some v→u.ownBlock=some g→v.ownBlock≠some g
theorem IndexIs.start {B:Nat} (w:World) (hB:B≤w.heap.size) (n:Nat):IndexIs B (w.alloc (.cells #[iV n,.slice none 0 0,.slice none 0 0] 90)) w.heap.size n [] (fun _=>[]) :=
 ⟨hB,_,_,[],heap_alloc_new _ _,World.ownsRow_nil _ _ _ _,(fun k e=>by cases e),World.ownsRow_nil _ _ _ _,(fun k e=>by cases e),(fun i v x h=>by simp at h),fun i j u v g _ h=>by simp at h⟩
theorem IndexIs.kept {B:Nat} {w w':World} {mb n:Nat} {T:List (List UInt8)} {L:List UInt8→List Nat} (h:IndexIs B w mb n T L) (hk:∀ k,B≤k→k < w.heap.size→w'.heap[k]?=w.heap[k]?):IndexIs B w' mb n T L:=by
 obtain ⟨tv,pv,ps,h1,h2,h3,h4,h5,h6,h7⟩:=h.ex
 exact ⟨h.le,tv,pv,ps,(hk _ h.le (lt_of_heap h1)).trans h1,ownsRow_block h2 fun k e=>hk k (h3 k e) (h2.lt k e).2,h3,ownsRow_block h4 fun k e=>hk k (h5 k e) (h4.lt k e).2,h5,
  (fun i v x hv hx=>⟨ownsRow_block (h6 i v x hv hx).1 fun k e=>hk k ((h6 i v x hv hx).2 k e) ((h6 i v x hv hx).1.lt k e).2,(h6 i v x hv hx).2⟩),h7⟩
theorem IndexIs.below {B:Nat} {w w':World} {mb n:Nat} {T:List (List UInt8)} {L:List UInt8→List Nat} (h:IndexIs B w mb n T L) (hb:Below w.heap.size w w'):IndexIs B w' mb n T L:=h.kept fun k _ hl=>hb.block k hl
theorem strRow_cell {w:World} {v:Value} {T:List (List UInt8)} (h:w.ownsRow 0 9 1 v T.length (T.map strV)) {i:Nat} (hi:i < T.length):∃ g cap,v=sL g T.length cap∧w.cell? (aD g i)=some (.string ⟨T[i].toArray⟩):=by
 obtain ⟨g,cap,e,hc⟩:=ownsRow_cell h (j:=i) (u:=strV T[i]) (by rw [List.getElem?_map,List.getElem?_eq_getElem hi]; rfl)
 exact ⟨g,cap,e,hc⟩
theorem less_eq (a:List UInt8) (s:ByteArray):Op.bytesLess a s.toList=decide (a < s.data.toList):=by
 rw [Go.Proofs.bytesLess_eq,Go.ByteArray.toList_eq]
def PlaceIs (T:List (List UInt8)) (s:List UInt8) (k:Nat):Prop:=k≤T.length∧(∀ (j:Nat) (h:j < T.length),j < k→T[j] < s) ∧ ∀ h:k < T.length,¬ T[k] < s
set_option maxRecDepth 100000 in
set_option maxHeartbeats 4000000 in
theorem place_law (s:ByteArray) (B mb n:Nat) (T:List (List UInt8)) (L:List UInt8→List Nat) (w:World) (hx:IndexIs B w mb n T L) (hT:T.length≤1000000) :
  Calls Tryz.prog 96 #[ptrV mb,.string s] w fun e w'=>∃ k:Nat,e = .returned (.tuple #[iV k,.bool (decide (T[k]?=some s.data.toList))])∧PlaceIs T s.data.toList k∧Same w w':=by
 obtain ⟨tv,pv,ps,h1,h2,h3,h4,h5,h6,h7⟩:=hx.ex
 obtain ⟨ta,tc,rfl⟩:=ownsRow_form h2
 have c1:w.cell? (aD mb 1)=some (.slice ta T.length tc):=cell_block h1
 have H2:=Lib.hid h2
 clear h1 h2 h3 h4 h5 h6 h7 hx
 unfold ptrV
 go_enter Tryz.func96,Tryz.ntmps96
 go_wp2_with fail
 go_loopw [6] (fun iv wr=>∃ i:Nat,i≤T.length∧iv = .int .i64 (i:Int)∧Hid (∀ (j:Nat) (h:j < T.length),j < i→T[j] < s.data.toList)∧Hid (Same w wr)) (fun iv _=>T.length - (intOf iv).toNat)
 case atStart=>exact ⟨0,Nat.zero_le _,rfl,Lib.hid (fun j _ h=>by omega),Lib.hid (Same.refl _)⟩
 case round =>
  obtain ⟨i,hiT,rfl,HP,HS⟩:=hrel
  have q1:IntKind.i64.wrap ((i:Int)+1)=(i:Int)+1:=IntWalk.i64_in _ (by omega)
  have d1:wr.cell? (aD mb 1)=some (.slice ta T.length tc):=(HS.cell _).trans c1
  by_cases hil:i < T.length
  ·obtain ⟨ga,cpa,ea,ca0⟩:=strRow_cell H2 hil
   simp only [Value.slice.injEq] at ea
   obtain ⟨rfl,_,rfl⟩:=ea
   have ca:=(HS.cell (aD ga i)).trans ca0
   have zi:(0:Int)≤(i:Int)∧(i:Int) < (T.length:Int):=by omega
   by_cases hlt:T[i] < s.data.toList
   ·have b1:Op.bytesLess T[i] s.toList=true:=by rw [less_eq]; simpa using hlt
    have HP2:Hid (∀ (j:Nat) (h:j < T.length),j < i+1→T[j] < s.data.toList):=Lib.hid fun j h hj=>by
     rcases Nat.lt_or_ge j i with h' | h'
     ·exact HP j h h'
     ·obtain rfl:j=i:=by omega
      exact hlt
    clear ca0 hlt
    go_wp2_with fail
    exact ⟨⟨i+1,by omega,by go_num,HP2,HS⟩,by simp [intOf]; omega⟩
   ·have b1:Op.bytesLess T[i] s.toList=false:=by rw [less_eq]; simpa using hlt
    have HP2:Hid (PlaceIs T s.data.toList i):=Lib.hid ⟨by omega,HP,fun _=>hlt⟩
    have b2:(T[i] == s.toList)=decide (T[i]?=some s.data.toList):=by
     rw [List.getElem?_eq_getElem hil,Go.ByteArray.toList_eq,Bool.eq_iff_iff]
     simp
    have HB:=Lib.hid b2
    clear ca0 hlt b2
    go_upto_region 4 with fail
    go_quiet (fail)
    go_wp2_with fail
    go_ret2
    exact ⟨i,by rw [← HB]; rfl,HP2,HS.trans (Same.drewN _ _)⟩
  ·obtain rfl:i=T.length:=by omega
   have HP2:Hid (PlaceIs T s.data.toList T.length):=Lib.hid ⟨Nat.le_refl _,HP,fun h=>by omega⟩
   go_upto_region 4 with fail
   go_quiet (fail)
   go_wp2_with fail
   go_ret2
   exact ⟨T.length,by simp,HP2.out,HS.trans (Same.drewN _ _)⟩
end Go.Proofs.Tl
