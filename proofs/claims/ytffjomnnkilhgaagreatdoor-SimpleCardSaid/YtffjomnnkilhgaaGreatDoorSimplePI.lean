/- Lemmas towards the statement Simple of termsearch: walks of the program's functions and plain laws on lists (TsBuild, TsUnion, TsSearch, TsPlainA, TsPlain, TsCard, TsCardT). Conditions: those that each theorem names. -/
import Derived.Test.YtffjomnnkilhgaaGreatDoorSimplePC
import Derived.Test.YtffjomnnkilhgaaGreatDoorSimplePE
import Derived.Test.YtffjomnnkilhgaaGreatDoorSimplePG
import Derived.Test.YtffjomnnkilhgaaGreatDoorSimplePH
import Derived.Test.YtffjomnnkilhgaaGreatDoorCards
import Derived.Test.YtffjomnnkilhgaaGreatDoorTie
import Derived.WalkKit
import Derived.ProofKit
import Derived.OpenShut
import Derived.Carry
import Derived.SliceStrings
import Derived.LaidHandle
import Derived.LaidLaws
import Derived.Deep.DeepHandedRow
import Derived.Test.YtffjomnnkilhgaaGreatDoorSimplePF
import Derived.Lib.LaidU8T
import Derived.PinnedBridge
set_option linter.unusedVariables false
set_option linter.unusedSimpArgs false
set_option linter.unusedSectionVars false
namespace Go.Proofs.Ts
open Go Go.RowKit Go.Shelf
attribute [local go_sem] Oper.semAt_some
def bTmps (a0:Option Addr) (len cap0 B k:Nat) (u:Nat→Value):Array Value :=
 #[.slice a0 len cap0,undef,.pointer none,.nilIface,ptrV (B+1),u 5,u 6,u 7,u 8,undef,undef,undef,undef,undef,.slice a0 len cap0,intV len,.bool false,undef,.map (some B),.slice a0 len cap0,intV len,intV k,u 22,u 23,u 24,u 25,u 26,u 27,u 28,u 29,u 30,u 31,u 32,u 33,u 34,u 35,u 36,u 37,u 38,u 39,u 40,u 41,u 42,u 43,u 44,u 45,u 46,u 47,u 48,u 49,u 50,u 51,u 52,u 53,u 54,u 55,undef,undef,undef,undef,undef,undef,undef,undef,undef,undef,undef,undef,undef,undef,undef,undef,undef,undef,undef,undef,undef,undef,undef,undef,undef,undef,undef,undef,undef,undef,undef,undef,undef,undef,undef,undef,undef,undef]
theorem bTmps_of {a0:Option Addr} {len cap0 B k:Nat} {tm:Array Value} (h:tm=bTmps a0 len cap0 B k fun i=>tm.getD i undef):∃ u,tm=bTmps a0 len cap0 B k u:=⟨_,h⟩
def rTmps (b off len cap0 B ib k:Nat) (d:ByteArray) (u:Nat→Value) (x:List UInt8):Array Value :=
 #[.slice (some ⟨b,off,none⟩) len cap0,undef,.pointer none,.nilIface,.pointer (some ⟨B+1,0,none⟩),.pointer (some ⟨ib,0,none⟩),.string d,.string ⟨x.toArray⟩,u 8,undef,undef,undef,undef,undef,.slice (some ⟨b,off,none⟩) len cap0,.int .i64 len,.bool false,undef,.map (some B),.slice (some ⟨b,off,none⟩) len cap0,.int .i64 len,.int .i64 k,.bool true,.int .i64 k,.pointer (some ⟨b,off+k,none⟩),.string d,.string d,.int .i64 d.size,.bool false,u 29,.string d,.func (.func 133) #[] #[.pointer (some ⟨ib+1,0,none⟩)],.string ⟨x.toArray⟩,u 33,u 34,u 35,u 36,u 37,u 38,u 39,u 40,u 41,u 42,u 43,u 44,u 45,u 46,u 47,u 48,u 49,u 50,u 51,u 52,u 53,u 54,u 55,undef,undef,undef,undef,undef,undef,undef,undef,undef,undef,undef,undef,undef,undef,undef,undef,undef,undef,undef,undef,undef,undef,undef,undef,undef,undef,undef,undef,undef,undef,undef,undef,undef,undef,undef,undef,undef,undef]
def markD (D:Nat):Deferred:={ target := .collected D,args:=#[] }
structure BI (w:World) (Ds:List Nat) (D:List (List (List UInt8))) (ib:Option Nat) (W:World):Prop where
 posts:∃ m,PostsIn (w.heap.size+2) w.heap.size W m (postsOf D) ∧ ∀ i,ib=some i → ∀ y v,get m y=some v→v.ownBlock≠some i
 box:W.heap[w.heap.size+1]?=some (.cells #[.map (some w.heap.size)] 190 (0,0))
 below:Below w.heap.size w W
 size:w.heap.size+2≤W.heap.size
 marks:∀ d∈Ds,W.heap[d]?=some (.deferred (some []))
 nodup:Ds.Nodup ∧ ∀ d∈Ds,w.heap.size+2≤d
theorem BI.kept {w:World} {Ds:List Nat} {D:List (List (List UInt8))} {ib:Option Nat} {W W':World} (h:BI w Ds D ib W) (hg:W.grownBy W' none):BI w Ds D ib W':=by
 obtain ⟨m,hp,hi⟩:=h.posts
 refine ⟨⟨m,hp.keptAll fun k hk=>hg.block k hk (by simp),hi⟩,(hg.block _ (by have:=h.size; omega) (by simp)).trans h.box,h.below.trans ⟨hg.os,hg.tape,hg.output,hg.size,fun k hk=>hg.block k (Nat.lt_of_lt_of_le hk h.below.size) (by simp)⟩,Nat.le_trans h.size hg.size,fun d hd=>(hg.block d (Array.getElem?_eq_some_iff.1 (h.marks d hd)).1 (by simp)).trans (h.marks d hd),h.nodup⟩
theorem BI.turned {w:World} {Ds:List Nat} {D:List (List (List UInt8))} {ib:Option Nat} {W W':World} {row:Option Nat} (h:BI w Ds D ib W) (hg:W.grownBy W' row)
  (hr:∀ r,row=some r→w.heap.size+2≤r∧r ∉ Ds ∧ ∃ o:Obj,W.heap[r]?=some o∧o.isCells=false):BI w Ds D ib W':=by
 obtain ⟨m,hp,hi⟩:=h.posts
 refine ⟨⟨m,hp.grown hg fun r e=>⟨by have:=(hr r e).1; omega,(hr r e).2.2⟩,hi⟩,(hg.block _ (by have:=h.size; omega) fun e=>?_).trans h.box,h.below.grown hg h.below.size fun k e=>by have:=(hr k e).1; omega,Nat.le_trans h.size hg.size,fun d hd=>(hg.block d (Array.getElem?_eq_some_iff.1 (h.marks d hd)).1 fun e=>(hr d e.symm).2.1 hd).trans (h.marks d hd),h.nodup⟩
 have:=(hr _ e.symm).1
 omega
theorem ownsRow_cells {w:World} {B e size n g:Nat} {v:Value} {xs:List Value} (h:w.ownsRow B e size v n xs) (hg:v.ownBlock=some g):∃ cur,w.heap[g]?=some (.cells cur e (0,0)):=by
 rcases h.2 with ⟨rfl,_⟩ | ⟨g',cap,cur,rfl,_,hc,_⟩
 ·cases hg
 ·cases hg; exact ⟨cur,hc⟩
theorem BJ.add {w W1 W4 W5:World} {Ds:List Nat} {D:List (List (List UInt8))} {ib k B0:Nat} {pre:List (List UInt8)} {x:List UInt8} {m:List (List UInt8 × Value)} {v4:Value} (hb:BI w Ds (D++[pre]) (some ib) W1) (hib:W1.heap[ib]?=some (.cells #[.int .i64 k] 3 (0,0)))
  (hp:PostsIn (w.heap.size+2) w.heap.size W1 m (postsOf (D++[pre]))) (hia:∀ y v,get m y=some v→v.ownBlock≠some ib) (hx:x ∉ pre) (hD:D.length=k) (hB0:w.heap.size < B0)
  (hrow4:W4.ownsRow 0 3 1 v4 ((postsOf (D++[pre]) x).length+1) ((postsOf (D++[pre]) x).map intV++[.int .i64 k]))
  (hgrow4:((W1.alloc (.cells #[.int .i64 k] 3)).drew.drew).grownBy W4 (postV m x).ownBlock) (hlies4:Lies ((W1.alloc (.cells #[.int .i64 k] 3)).drew.drew) W4 (postV m x) v4)
  (hg:W4.grownBy W5 (some w.heap.size)) (hmap:MapIs strV W5 w.heap.size (put m x v4)) :
  KeepsFrom B0 W1 W5∧KeepStr W1 W5∧(BI w Ds (D++[pre++[x]]) (some ib) W5∧W5.heap[ib]?=some (.cells #[.int .i64 k] 3 (0,0))):=by
 have hs2:((W1.alloc (.cells #[.int .i64 k] 3)).drew.drew).heap.size=W1.heap.size+1:=by simp
 have old2:∀ j,j < W1.heap.size→((W1.alloc (.cells #[.int .i64 k] 3)).drew.drew).heap[j]?=W1.heap[j]?:=fun j hj=>Below.heap_alloc W1 _ j hj
 have hmv:Moves W1 (postV m x) W4 v4:=((Moves.alloc W1 _ _).trans (Moves.same _ ((Same.drew _).trans (Same.drew _)))).trans (Moves.append hgrow4 hlies4)
 have hrowV:=hp.rowV x
 have hown:∀ g,(postV m x).ownBlock=some g → ∃ y v,get m y=some v∧v.ownBlock=some g:=fun g e=>by
  unfold postV at e
  cases hgx:get m x with
  | none=>rw [hgx] at e; cases e
  | some v=>rw [hgx] at e; exact ⟨x,v,hgx,e⟩
 have hvib:(postV m x).ownBlock≠some ib:=fun e=>by
  obtain ⟨y,v,h1,h2⟩:=hown ib e
  exact hia y v h1 h2
 have hpast:∀ g,(postV m x).ownBlock=some g→w.heap.size+2≤g:=fun g e=>by
  obtain ⟨y,v,h1,h2⟩:=hown g e
  exact hp.past y v g h1 h2
 have hibl:=(Array.getElem?_eq_some_iff.1 hib).1
 obtain ⟨mes,mcl,hmb,_⟩:=hp.map
 have hibm:ib≠w.heap.size:=fun e=>by rw [e,hmb] at hib; cases hib
 have keep:∀ j,j < W1.heap.size→(postV m x).ownBlock≠some j→j≠w.heap.size→W5.heap[j]?=W1.heap[j]?:=fun j hj h1 h2 =>
  (hg.block j (Nat.lt_of_lt_of_le hj hmv.size) fun e=>h2 (Option.some.inj e)).trans (hmv.block hj h1)
 have hbel:Below w.heap.size w W5:=((hmv.below (fun g e=>by have:=hpast g e; omega) hb.below hb.below.size)).grown hg (Nat.le_trans hb.below.size hmv.size) fun g e=>by cases e; exact Nat.le_refl _
 have hadd:=hp.add (i:=k) (by have:=hb.size; omega) hmv (by rw [List.map_append]; exact hrow4) hg hmap
 refine ⟨?_,?_,⟨⟨put m x v4,?_,?_⟩,?_,hbel,Nat.le_trans hb.size (Nat.le_trans hmv.size hg.size),?_,hb.nodup⟩,?_⟩
 ·refine (((((KeepsOthers.alloc W1 _).trans (KeepsOthers.drew _)).trans (KeepsOthers.drew _)).trans (KeepsOthers.of_grownBy hgrow4 fun j o e ho=>?_)).from _).trans (KeepsFrom.of_grownBy hg fun j e=>by cases e; exact hB0)
  obtain ⟨cur,hcur⟩:=ownsRow_cells hrowV e
  rw [old2 j (Array.getElem?_eq_some_iff.1 hcur).1,hcur] at ho
  cases ho
  rfl
 ·intro j cs r hj
  refine keep j (Array.getElem?_eq_some_iff.1 hj).1 (fun e=>?_) (fun e=>?_)
  ·obtain ⟨cur,hcur⟩:=ownsRow_cells hrowV e
   rw [hcur] at hj
   cases hj
  ·rw [e,hmb] at hj
   cases hj
 ·rw [postsOf_new _ _ _ hx,hD]
  exact hadd
 ·intro i e y v hv e'
  cases e
  rw [get_put] at hv
  split at hv
  ·cases hv
   rcases hmv.lies with h1 | ⟨g',h1,h2⟩
   ·exact hvib (h1 ▸ e')
   ·rw [h1] at e'
    have:=Option.some.inj e'
    omega
  ·exact hia y v hv e'
 ·exact (keep _ (by have:=hb.size; omega) (fun e=>by have:=hpast _ e; omega) (by omega)).trans hb.box
 ·intro d hd
  have hm:=hb.marks d hd
  refine (keep d (Array.getElem?_eq_some_iff.1 hm).1 (fun e=>?_) (fun e=>?_)).trans hm
  ·obtain ⟨cur,hcur⟩:=ownsRow_cells hrowV e
   rw [hcur] at hm
   cases hm
  ·rw [e,hmb] at hm
   cases hm
 ·exact (keep ib hibl hvib hibm).trans hib
def sliceLen:Value→Nat
 | .slice _ n _=>n
 | _=>0
structure TI (W6:World) (mb it:Nat) (m:List (List UInt8 × Value)) (ts:List (List UInt8)) (v:Value) (W:World):Prop where
 iter:IterIs strV W mb it m ts
 row:W.ownsRow 0 9 1 v ts.length (ts.map strV)
 past:Past W6.heap.size v
 mod:Mod (fun j=>j=it) W6 W
 nodup:ts.Nodup
 sub:∀ t∈ts,t∈m.map (·.1)
theorem TI.few {W6 W:World} {mb it:Nat} {m:List (List UInt8 × Value)} {ts:List (List UInt8)} {v:Value} (h:TI W6 mb it m ts v W):ts.length≤m.length:=by
 have:=nodup_le ts (m.map (·.1)) h.nodup h.sub
 simpa using this
theorem TI.len {W6 W:World} {mb it:Nat} {m:List (List UInt8 × Value)} {ts:List (List UInt8)} {v:Value} (h:TI W6 mb it m ts v W):sliceLen v=ts.length:=by
 obtain ⟨a,cap,rfl⟩:=ownsRow_form h.row
 rfl
theorem TI.rowStep {W6 wr w2:World} {mb it:Nat} {m:List (List UInt8 × Value)} {ts:List (List UInt8)} {v:Value} (h:TI W6 mb it m ts v wr) (hit:it < W6.heap.size) (hg2:wr.grownBy w2 (some it)) :
  w2.ownsRow 0 9 1 v ts.length (ts.map strV) :=
 ownsRow_block h.row fun j e=>hg2.block j (h.row.lt j e).2 fun e'=>by have:=h.past j e; have:=Option.some.inj e'; omega
theorem TI.step {W6 wr w2 W4:World} {mb it:Nat} {m:List (List UInt8 × Value)} {ts:List (List UInt8)} {v v0 v4:Value} {k:List UInt8} (h:TI W6 mb it m ts v wr) (hmb:mb < W6.heap.size) (hit:it < W6.heap.size) (hk:k ∉ ts) (hkm:(k,v0)∈m)
  (hg2:wr.grownBy w2 (some it)) (hs2:w2.heap.size=wr.heap.size) (hi2:IterIs strV w2 mb it m (ts++[k])) (hrow4:W4.ownsRow 0 9 1 v4 (ts.length+1) (ts.map strV++[strV k]))
  (hgrow4:(w2.alloc (.cells #[strV k] 9)).grownBy W4 v.ownBlock) (hlies4:Lies (w2.alloc (.cells #[strV k] 9)) W4 v v4):TI W6 mb it m (ts++[k]) v4 W4:=by
 have hsz:=h.mod.size
 have hs3:(w2.alloc (.cells #[strV k] 9)).heap.size=w2.heap.size+1:=by simp
 have hmv:Moves w2 v W4 v4:=(Moves.alloc w2 v _).trans (Moves.append hgrow4 hlies4)
 have keep:∀ j,j < W6.heap.size→W4.heap[j]?=w2.heap[j]?:=fun j hj=>hmv.block (by omega) fun e=>by have:=h.past j e; omega
 refine ⟨hi2.kept (keep mb hmb) (keep it hit),by simpa using hrow4,hmv.past h.past (by omega),⟨hmv.grown.os.trans (hg2.os.trans h.mod.os),hmv.grown.tape.trans (hg2.tape.trans h.mod.tape),hmv.grown.output.trans (hg2.output.trans h.mod.output),by have:=hmv.size; omega,fun j hj hne=>?_⟩,?_,?_⟩
 ·exact (keep j hj).trans ((hg2.block j (by omega) fun e=>hne (Option.some.inj e)).trans (h.mod.block j hj hne))
 ·rw [List.nodup_append]
  exact ⟨h.nodup,by simp,fun a ha b hb=>by simp at hb; subst hb; exact fun e=>hk (e ▸ ha)⟩
 ·intro t ht
  rcases List.mem_append.1 ht with ht | ht
  ·exact h.sub t ht
  ·simp at ht
   subst ht
   exact List.mem_map.2 ⟨(t,v0),hkm,rfl⟩
theorem leaves_marks {F:Fence} {n:Nat} {P:Program} {fn:Func} {tmps:Array Value} {R:Ending→World→Prop} {v:Value} (hres:∀ w,(results fn tmps).run P w = .ok v w):∀ (Ds:List Nat) (w:World),(∀ d∈Ds,w.heap[d]?=some (.deferred (some [])))→Ds.Nodup →
  (∀ w',Mod (fun k=>k∈Ds) w w'→R (.returned v) w')→LeavesInM F n P fn tmps R (Ds.map markD) .returning w
 | [],w,_,_,h=>⟨v,hres w,h w (Mod.refl _ _)⟩
 | d :: Ds,w,hm,hn,h=>by
  rw [List.nodup_cons] at hn
  refine ⟨by simp,.inl ⟨d,_,rfl,run_takeDeferred (hm d (by simp)),?_⟩⟩
  have hg:=grownBy_putObj' w d (.deferred none)
  refine leaves_marks hres Ds _ (fun d' hd'=>?_) hn.2 fun w' hw'=>h w' ?_
  ·rw [hg.block d' (Array.getElem?_eq_some_iff.1 (hm d' (by simp [hd']))).1 (fun e=>hn.1 (by have:=Option.some.inj e; exact this ▸ hd'))]
   exact hm d' (by simp [hd'])
  ·exact (Mod.grown (S:=fun k=>k∈d :: Ds) hg fun k e _=>by cases e; simp).trans (hw'.mono fun k _ hk=>by simp [hk])
structure RI (W9:World) (sb n db:Nat) (vs:List Value) (W:World):Prop where
 ex:∃ pv,W.heap[sb]?=some (.cells #[.int .i64 n,.pointer (some ⟨db,0,none⟩),pv,.int .i32 0,.int .u32 0,.map none] 168 (0,0)) ∧
  W.ownsRow 0 24 1 pv vs.length vs ∧ ∀ g,pv.ownBlock=some g→W9.heap.size≤g
 mod:Mod (fun j=>j=sb) W9 W
theorem RI.step {W9 wr W4:World} {sb n db:Nat} {vs:List Value} {pv x v4:Value} (h:RI W9 sb n db vs wr) (hsb:sb < W9.heap.size)
  (hsg:wr.heap[sb]?=some (.cells #[.int .i64 n,.pointer (some ⟨db,0,none⟩),pv,.int .i32 0,.int .u32 0,.map none] 168 (0,0)))
  (hpp:∀ g,pv.ownBlock=some g→W9.heap.size≤g) (hrow4:W4.ownsRow 0 24 1 v4 (vs.length+1) (vs++[x]))
  (hgrow4:((wr.alloc (.cells #[x] 24)).drew).grownBy W4 pv.ownBlock) (hlies4:Lies ((wr.alloc (.cells #[x] 24)).drew) W4 pv v4):RI W9 sb n db (vs++[x]) (W4.setCell ⟨sb,2,none⟩ v4):=by
 have hmv:Moves wr pv W4 v4:=((Moves.alloc wr _ _).trans (Moves.same _ (Same.drew _))).trans (Moves.append hgrow4 hlies4)
 have hz:=h.mod.size
 have hsb4:W4.heap[sb]?=wr.heap[sb]?:=hmv.block (by omega) fun e=>by have:=hpp sb e; omega
 have hp4:Past W9.heap.size v4:=hmv.past (fun k e=>hpp k e) hz
 refine ⟨⟨v4,?_,?_,hp4⟩,⟨hmv.grown.os.trans h.mod.os,hmv.grown.tape.trans h.mod.tape,hmv.grown.output.trans h.mod.output,by have:=hmv.size; simp; omega,fun k hk hne=>?_⟩⟩
 ·have:=heap_setCell_same W4 sb 2 _ _ v4 (hsb4.trans hsg)
  rw [this]
  rfl
 ·have hl:(vs++[x]).length=vs.length+1:=by simp
  rw [hl]
  exact ownsRow_block hrow4 fun k e=>Below.heap_setCell W4 _ _ k fun e'=>by have:=hp4 k e; simp only at e'; omega
 ·rw [Below.heap_setCell W4 _ _ k (fun e'=>hne e')]
  exact (hmv.block (by omega) fun e=>by have:=hpp k e; omega).trans (h.mod.block k hk hne)
theorem BI.start (w:World):BI w [] [] none ((w.alloc (.map #[] 0)).alloc (.cells #[.map (some w.heap.size)] 190)):=by
 refine ⟨⟨[],?_,fun i e=>by cases e⟩,?_,((Below.refl _ w).alloc (Nat.le_refl _) _).alloc (by simp) _,by simp,(fun d h=>by cases h),List.nodup_nil,fun d h=>by cases h⟩
 ·exact (PostsIn.made (w.heap.size+2) w (by omega)).keptAll fun k hk=>Below.heap_alloc _ _ k hk
 ·have:=heap_alloc_new (w.alloc (.map #[] 0)) (.cells #[.map (some w.heap.size)] 190)
  simpa using this
def BJ (w:World) (Ds:List Nat) (D:List (List (List UInt8))) (ib k:Nat) (pre:List (List UInt8)) (W:World):Prop :=
 BI w Ds (D++[pre]) (some ib) W∧W.heap[ib]?=some (.cells #[.int .i64 k] 3 (0,0))
theorem BJ.own {w:World} {Ds:List Nat} {D:List (List (List UInt8))} {ib k B:Nat} (hB:w.heap.size+2≤B) (hi:ib < B) (hD:∀ d∈Ds,d < B):OwnFrom B (BJ w Ds D ib k):=fun s A A' row hs hg hr =>
 ⟨hs.1.turned hg fun r e=>⟨Nat.le_trans hB (hr r e).1,fun hm=>by have:=hD r hm; have:=(hr r e).1; omega,(hr r e).2⟩,
  (hg.block _ (Array.getElem?_eq_some_iff.1 hs.2).1 fun e=>by have:=(hr _ e.symm).1; omega).trans hs.2⟩
theorem BI.toJ {w:World} {Ds:List Nat} {D:List (List (List UInt8))} {W:World} {k:Nat} {s:ByteArray} (h:BI w Ds D none W) :
  BJ w Ds D W.heap.size k [] ((W.alloc (.cells #[.int .i64 k] 3)).alloc (.cells #[.string s] 9)):=by
 obtain ⟨m,hp,_⟩:=h.posts
 have hk:=h.kept (W':=(W.alloc (.cells #[.int .i64 k] 3)).alloc (.cells #[.string s] 9)) ⟨rfl,rfl,rfl,by simp; omega,fun j hj _=>(Below.heap_alloc _ _ j (by simp; omega)).trans (Below.heap_alloc _ _ j hj)⟩
 refine ⟨⟨⟨m,?_,fun i e y v hv e'=>?_⟩,hk.box,hk.below,hk.size,hk.marks,hk.nodup⟩,?_⟩
 ·rw [postsOf_nil]
  exact hp.keptAll fun j hj=>(Below.heap_alloc _ _ j (by simp; omega)).trans (Below.heap_alloc _ _ j hj)
 ·cases e
  have:=((hp.row y v hv).1.lt _ e').2
  omega
 ·rw [Below.heap_alloc _ _ _ (by simp)]
  exact heap_alloc_new W _
theorem Tryz.info9:(Tryz.prog.info? 9).map (fun i=>(i.zero,i.size,i.bytes))=some (some (.string ⟨#[]⟩),1,16):=by kernel_rfl
theorem Tryz.info24:(Tryz.prog.info? 24).map (fun i=>(i.zero,i.size,i.bytes))=some (some (.slice none 0 0),1,24):=by kernel_rfl
theorem Tryz.info3:(Tryz.prog.info? 3).map (fun i=>(i.zero,i.size,i.bytes))=some (some (.int .i64 0),1,8):=by kernel_rfl
def SegFar (B:Nat) (w:World) (sb:Nat) (D:List (List (List UInt8))) (kn:Value):Prop :=
 ∃ db R Λ ρ Dd pv ps,(∀ v∈ps,∀ k,Value.ownBlock v=some k→B≤k)∧w.heap[sb]?=some (.cells #[.int .i64 D.length,.pointer (some ⟨db,0,none⟩),pv,.int .i32 0,.int .u32 0,kn] 168 (0,0)) ∧
  DictIs w db R Λ ρ Dd∧(Λ 0).Pairwise (fun a b=>a < b)∧(∀ x,x∈Λ 0↔postsOf D x≠[])∧(Λ 0).length≤10000∧(∀ x∈Λ 0,x.length≤16) ∧
  w.ownsRow 0 24 1 pv (Λ 0).length ps ∧ ∀ (i:Nat) v x,ps[i]?=some v→(Λ 0)[i]?=some x→w.ownsRow 0 3 1 v (postsOf D x).length ((postsOf D x).map intV)
set_option maxRecDepth 100000 in
set_option maxHeartbeats 4000000 in
theorem build_gen (docs:List ByteArray) (v:Value) (w:World) (hv:StrsIs w v docs) (h48:docs.length≤48) (mx:Nat) (hmx:mx≤docs.length) (h200:∀ d∈docs.take mx,d.size≤200) (hbad:∀ h:mx < docs.length,200 < docs[mx].size) :
  Calls Tryz.prog 61 #[v] w fun e w'=>Below w.heap.size w w'∧((mx=docs.length ∧ ∃ sb,e = .returned (.tuple #[ptrV sb,.nilIface])∧w.heap.size≤sb∧SegFar w.heap.size w' sb (docs.map wordsB) (.map none)) ∨
   (mx < docs.length∧e = .returned (.tuple #[.pointer none,.iface 43 (.int .i64 2)]))):=by
 obtain ⟨a0,cap0,rfl,hc⟩:=hv
 have HC:=Lib.hid hc
 have H200:=Lib.hid h200
 have HBAD:=Lib.hid hbad
 clear hc h200 hbad
 have hmm:=@run_makeMap Tryz.prog
 refine (callsIn_wide (n:=3)).1 ?_
 refine callsIn_of_wp_marks Tryz.func61 rfl trivial ?_ rfl
 simp only [Tryz.ntmps61,List.size_toArray,List.length_cons,List.length_nil,Nat.reduceAdd,Nat.reduceSub,Array.replicate_succ,Array.replicate_zero,List.push_toArray,List.append_toArray,List.nil_append,List.cons_append]
 refine wpIn_wide.2 ?_
 have h48':decide ((48:Int) < (docs.length:Int))=false:=by simp; omega
 go_wp2_with fail
 refine wp_loop_ghost_k (fun n a W=>∃ (k:Nat) (Ds:List Nat),k≤mx∧n=docs.length - k∧(∃ u,a.tmps=bTmps a0 docs.length cap0 w.heap.size k u)∧a.defers=Ds.map markD∧BI w Ds ((docs.map wordsB).take k) none W) docs.length ?start ?round
 case start =>
  exact ⟨0,[],Nat.zero_le _,rfl,bTmps_of rfl,rfl,BI.start w⟩
 case round =>
  intro n a W hI J K hJ hK
  obtain ⟨k,Ds,hk,rfl,⟨u,hu⟩,hds,hbi⟩:=hI
  obtain ⟨tm,ds⟩:=a
  simp only at hu hds
  subst hu hds
  have HBI:=Lib.hid hbi
  have HJ:=Lib.hid hJ
  have HK:=Lib.hid hK
  clear hbi hJ hK
  unfold bTmps ptrV intV
  by_cases hlt:k < docs.length
  ·obtain ⟨b,off,rfl,hcell⟩:=HC.out k hlt
   obtain ⟨d,hd⟩:∃ d,d=docs[k]:=⟨_,rfl⟩
   have hcell':W.cell? ⟨b,off+k,none⟩=some (.string d):=by
    rw [hd]
    exact (HBI.out.below.cell (p:=⟨b,off+k,none⟩) (lt_of_cell hcell)).trans hcell
   rcases Nat.lt_or_ge k mx with hkm | hkm
   case inr =>
    obtain rfl:k=mx:=by omega
    have hbd:200 < d.size:=hd ▸ HBAD.out hlt
    clear hd hcell
    go_wp2_with fail
    change LeavesInM _ _ _ _ _ _ _ _ _
    have hDl:∀ d∈Ds,d < W.heap.size:=fun d h=>(Array.getElem?_eq_some_iff.1 (HBI.out.marks d h)).1
    refine leaves_marks (v := .tuple #[.pointer none,.iface 43 (.int .i64 2)]) (fun w'=>results_tmp2 (t:=2) (u:=3) rfl _ _ _) Ds _ (fun d h=>(Below.heap_alloc W _ d (hDl d h)).trans (HBI.out.marks d h)) HBI.out.nodup.1 fun w' hm=>?_
    exact ⟨(HBI.out.below.alloc HBI.out.below.size _).trans (hm.toBelow (by have:=HBI.out.below.size; simp; omega) fun k hk=>by have:=HBI.out.nodup.2 k hk; omega),.inr ⟨hlt,rfl⟩⟩
   have hd200:d.size≤200:=H200.out d (by
    rw [hd]
    exact List.mem_take_iff_getElem.2 ⟨k,by omega,rfl⟩)
   have HD:=Lib.hid hd
   clear hd hcell
   have g200:decide ((200:Int) < (d.size:Int))=false:=by simp; omega
   go_wp2_with (go_at_call 92; refine (words_any _ _).mono ?_; rintro e w1 ⟨rfl,rfl⟩)
   have hJ0:=HBI.out.toJ (k:=k) (s:=d)
   have hbox0:((W.alloc (.cells #[.int .i64 k] 3)).alloc (.cells #[.string d] 9)).cell? ⟨W.heap.size+1,0,none⟩=some (.string d):=by
    have:=heap_alloc_new (W.alloc (.cells #[.int .i64 k] 3)) (.cells #[.string d] 9)
    rw [World.size_alloc] at this
    rw [cell_block this]
    rfl
   have hs0:((W.alloc (.cells #[.int .i64 k] 3)).alloc (.cells #[.string d] 9)).heap.size=W.heap.size+2:=by simp
   have hWs:=HBI.out.size
   have hDs:∀ d'∈Ds,d' < W.heap.size:=fun d' h=>(Array.getElem?_eq_some_iff.1 (HBI.out.marks d' h)).1
   refine wpIn_wide.1 (wpIn_rangeFunc_ownG (F:=Fence.wide) (n:=3) rfl (by omega) (gf:=133) (lb:=#[.pointer (some ⟨W.heap.size+1,0,none⟩)]) rfl trivial (enters_of Tryz.func133 (by kernel_rfl) rfl)
    (words_stops 2 (by omega) (W.heap.size+1) d (by omega) _ (by rw [hs0]; omega) hbox0) (fun h k=>KeepStr.trans h k) (fun W' l o o' h1 h2 h3 h4=>KeepStr.put W' l o o' h1 h2 h3 h4) (Below.refl _ _) (fun _=>rfl)
    (BJ w Ds ((docs.map wordsB).take k) W.heap.size k) (fun _ _ _=>False) (BJ.own (by rw [hs0]; omega) (by rw [hs0]; omega) (fun d' h=>by have:=hDs d' h; rw [hs0]; omega)) (fun _ _ _ _ _ h _ _=>h) hJ0
    (fun x=>{ tmps:=rTmps b off docs.length cap0 w.heap.size W.heap.size k d u x,defers:=[] }) ?assign ?body ?done ?stop)
   case assign =>
    intro l x W' K' hK'
    unfold rTmps strV at *
    gi_wp2
    exact hK'
   case body =>
    rintro l pre x W1 ⟨hb1,hib⟩ hlen
    obtain ⟨m,hp,hia⟩:=hb1.posts
    have hDl:((docs.map wordsB).take k).length=k:=by simp; omega
    have hc1:W1.cell? ⟨w.heap.size+1,0,none⟩=some (.map (some w.heap.size)):=cell_block hb1.box
    have hc2:W1.cell? ⟨W.heap.size,0,none⟩=some (.int .i64 k):=cell_block hib
    have hlk:(Instr.lookup 190 (.map (some w.heap.size)) (.string ⟨x.toArray⟩) false).run Tryz.prog W1 = .ok (postV m x) W1:=hp.lookup x
    have hrow:=hp.rowV x
    have HB1:=Lib.hid hb1
    have HIB:=Lib.hid hib
    have HP:=Lib.hid hp
    have HIA:=Lib.hid hia
    have HDL:=Lib.hid hDl
    clear hb1 hib hp hia hDl
    by_cases hx:x∈pre
    ·obtain ⟨ll,hll⟩:∃ ll,postsOf ((docs.map wordsB).take k++[pre]) x=ll++[k]:=⟨_,by rw [postsOf_snoc,if_pos hx,HDL.out]⟩
     have hpv:=hrow
     rw [hll] at hpv
     simp only [List.length_append,List.length_cons,List.length_nil,Nat.zero_add,List.map_append,List.map_cons,List.map_nil] at hpv
     obtain ⟨g,cap,hv⟩:=ownsRow_head hpv
     rw [hv] at hlk
     have hcl:W1.cell? ⟨g,ll.length,none⟩=some (.int .i64 k):=by
      rw [hv] at hpv
      rw [hpv.cellAt _ (by simp)]
      simp [intV]
     have hll48:ll.length≤48:=by
      have:=postsOf_length ((docs.map wordsB).take k++[pre]) x
      rw [hll,List.length_append,List.length_append,HDL.out] at this
      simp at this
      omega
     have HLL:=Lib.hid hll
     have HV:=Lib.hid hv
     clear hll hv hpv hrow
     unfold rTmps
     gi_wp2
     refine wpIn_region_ordX [(0,false),(1,false),(2,false),(3,false),(4,false),(5,false),(6,false),(7,false),(8,false),(9,false),(10,false),(11,false),(12,false)] 1000
      (fun w'=>w'.cell? ⟨W.heap.size,0,none⟩=some (.int .i64 k)∧w'.cell? ⟨g,ll.length,none⟩=some (.int .i64 k)) (by kernel_rfl) (by kernel_rfl) ⟨hc2,hcl⟩ ?_
     have q0:(((ll.length:Int)+1) == 0)=false:=by rw [beq_eq_false_iff_ne]; omega
     have q1:IntKind.i64.wrap (ll.length:Int)=(ll.length:Int):=IntWalk.i64_in _ (by omega)
     have q2:(0:Int)≤(ll.length:Int)∧(ll.length:Int) < (ll.length:Int)+1:=by omega
     iterate 13 (
      refine wpOrd_quiet ?_ rfl rfl (fun w' hS=>?_) ?_
      rotate_left
      ·obtain ⟨f0,f1⟩:=hS
       go_simp
       first | rfl | done
      simp only [put_lit,List.set_cons_succ,List.set_cons_zero])
     refine wpOrd_nil ?_
     gi_wp2
     obtain ⟨m',hp',hi'⟩:=HB1.out.posts
     exact ⟨(KeepsOthers.drew _).from _,fun _ _ _ h=>rfl,⟨⟨m',by rw [postsOf_old _ _ _ hx]; exact hp'.same (Same.drew _),hi'⟩,HB1.out.box,HB1.out.below.trans ((Same.drew _).below _),HB1.out.size,HB1.out.marks,HB1.out.nodup⟩,HIB.out⟩
    ·obtain ⟨ll,hll⟩:∃ ll,ll=postsOf ((docs.map wordsB).take k++[pre]) x:=⟨_,rfl⟩
     have hll':ll=postsOf ((docs.map wordsB).take k) x:=by rw [hll,postsOf_snoc,if_neg hx]; simp
     have hll48:ll.length≤48:=by
      have:=postsOf_length ((docs.map wordsB).take k) x
      rw [← hll',HDL.out] at this
      omega
     have hllt:∀ j∈ll,j < k:=fun j hj=>by
      have:=postsOf_lt ((docs.map wordsB).take k) x j (hll' ▸ hj)
      rw [HDL.out] at this
      exact this
     rw [← hll] at hrow
     obtain ⟨a3,cap,hv⟩:=ownsRow_form hrow
     have hcase:ll=[] ∨ ∃ l2 j,ll=l2++[j]∧j < k:=by
      rcases List.eq_nil_or_concat ll with h | ⟨l2,j,h⟩
      ·exact .inl h
      ·rw [List.concat_eq_append] at h
       exact .inr ⟨l2,j,h,hllt j (by rw [h]; simp)⟩
     rw [hv] at hlk hrow
     have HLL:=Lib.hid hll
     have HV:=Lib.hid hv
     have HROW:=Lib.hid hrow
     clear hll hll' hllt hv hrow
     unfold rTmps
     rcases hcase with h | ⟨l2,j,h,hjk⟩
     case' inl =>
      have hl0:ll.length=0:=by rw [h]; rfl
      rw [hl0] at hlk
      have HL0:=Lib.hid hl0
      clear h hl0
      gi_wp2
      refine wpIn_region_ordX [(0,false),(1,false),(2,false),(3,false),(4,false),(5,false),(6,false),(7,false),(8,false),(9,false),(10,false),(11,false),(12,false)] 1000 (fun _=>True) (by kernel_rfl) (by kernel_rfl) trivial ?_
      iterate 4 (
       refine wpOrd_quiet ?_ rfl rfl (fun w' hS=>?_) ?_
       rotate_left
       ·go_simp
        first | rfl | done
       simp only [put_lit,List.set_cons_succ,List.set_cons_zero])
      iterate 8 (
       refine wpOrd_skip rfl rfl ?_
       simp only [put_lit,List.set_cons_succ,List.set_cons_zero])
      refine wpOrd_quiet ?_ rfl rfl (fun w' hS=>?_) ?_
      rotate_left
      ·go_simp
       first | rfl | done
      simp only [put_lit,List.set_cons_succ,List.set_cons_zero]
      refine wpOrd_nil ?_
      gi_wp2
      obtain ⟨vv,hvv⟩:∃ vv,vv=Value.slice a3 0 cap:=⟨_,rfl⟩
      rw [← hvv]
      have HVV:Hid (postV m x=vv∧W1.ownsRow 0 3 1 vv ll.length (ll.map intV)):=by
       have h1:=HV.out
       have h2:=HROW.out
       rw [HL0.out,← hvv] at h1 h2
       rw [HL0.out]
       exact ⟨h1,h2⟩
      clear hvv
     case' inr =>
      have hl1:ll.length=l2.length+1:=by rw [h]; simp
      have hrow:=HROW.out
      rw [hl1] at hlk hrow
      obtain ⟨g,cap',hg⟩:=ownsRow_head hrow
      cases hg
      have hcl:W1.cell? ⟨g,l2.length,none⟩=some (.int .i64 j):=by
       rw [hrow.cellAt _ (by omega),h]
       simp [intV]
      have hl2:l2.length≤48:=by omega
      have HL1:=Lib.hid hl1
      clear h hl1 hrow
      gi_wp2
      refine wpIn_region_ordX [(0,false),(1,false),(2,false),(3,false),(4,false),(5,false),(6,false),(7,false),(8,false),(9,false),(10,false),(11,false),(12,false)] 1000
       (fun w'=>w'.cell? ⟨W.heap.size,0,none⟩=some (.int .i64 k)∧w'.cell? ⟨g,l2.length,none⟩=some (.int .i64 j)) (by kernel_rfl) (by kernel_rfl) ⟨hc2,hcl⟩ ?_
      have q0:(((l2.length:Int)+1) == 0)=false:=by rw [beq_eq_false_iff_ne]; omega
      have q1:IntKind.i64.wrap (l2.length:Int)=(l2.length:Int):=IntWalk.i64_in _ (by omega)
      have q2:(0:Int)≤(l2.length:Int)∧(l2.length:Int) < (l2.length:Int)+1:=by omega
      have q3:((j:Int) != (k:Int))=true:=by rw [bne_iff_ne]; omega
      have q4:(j == k)=false:=by rw [beq_eq_false_iff_ne]; omega
      iterate 13 (
       refine wpOrd_quiet ?_ rfl rfl (fun w' hS=>?_) ?_
       rotate_left
       ·obtain ⟨f0,f1⟩:=hS
        go_simp
        first | rfl | done
       simp only [put_lit,List.set_cons_succ,List.set_cons_zero])
      refine wpOrd_nil ?_
      gi_wp2
      obtain ⟨vv,hvv⟩:∃ vv,vv=Value.slice (some ⟨g,0,none⟩) (l2.length+1) cap:=⟨_,rfl⟩
      rw [← hvv]
      have HVV:Hid (postV m x=vv∧W1.ownsRow 0 3 1 vv ll.length (ll.map intV)):=by
       have h1:=HV.out
       have h2:=HROW.out
       rw [HL1.out,← hvv] at h1 h2
       rw [HL1.out]
       exact ⟨h1,h2⟩
      clear hvv q0 q1 q2 q3 q4 hcl
     all_goals
      refine wpIn_region_ordX [(0,false),(1,false),(2,false),(3,false),(4,true),(5,true),(6,true)] 6
       (fun w'=>w'.cell? ⟨w.heap.size+1,0,none⟩=some (.map (some w.heap.size))∧w'.cell? ⟨W.heap.size,0,none⟩=some (.int .i64 k)) (by kernel_rfl) (by kernel_rfl) ⟨hc1,hc2⟩ ?_
      iterate 4 (
       refine wpOrd_quiet ?_ rfl rfl (fun w' hS=>?_) ?_
       rotate_left
       ·obtain ⟨f0,f1⟩:=hS
        go_simp
        first | rfl | done
       simp only [put_lit,List.set_cons_succ,List.set_cons_zero])
      refine wpOrd_loud rfl rfl (by decide) (fun K5 hK5=>?_)
      go_simp
      obtain ⟨hpv,hrow⟩:=HVV.out
      have hrow2:((W1.alloc (.cells #[.int .i64 k] 3)).drew.drew).ownsRow 0 3 1 vv ll.length (ll.map intV):=((hrow.alloc _).drew).drew
      have hc12:((W1.alloc (.cells #[.int .i64 k] 3)).drew.drew).cell? ⟨w.heap.size+1,0,none⟩=some (.map (some w.heap.size)):=(World.cell?_alloc_lt W1 _ _ (lt_of_cell hc1)).trans hc1
      have hc22:((W1.alloc (.cells #[.int .i64 k] 3)).drew.drew).cell? ⟨W.heap.size,0,none⟩=some (.int .i64 k):=(World.cell?_alloc_lt W1 _ _ (lt_of_cell hc2)).trans hc2
      have hnew:∀ i u,[Value.int .i64 (k:Int)][i]?=some u→((W1.alloc (.cells #[.int .i64 k] 3)).drew.drew).cell? ((⟨W1.heap.size,0,none⟩:Addr).add i)=some u:=cell_one_new W1 _ _
      refine hK5 _ _ ⟨hc12,hc22⟩ ?_
      clear hK5 K5
      refine wpOrd_loud rfl rfl (by decide) (fun K5 hK5=>?_)
      obtain ⟨i0,hi,hz0,hz1,hz2⟩:=info_parts Tryz.info3
      refine wp_append_lies _ _ 24 rfl 3 i0 (.int .i64 0) 1 8 Tryz.underlying24 hi hz0 hz1 hz2 rfl (by decide) vv ll.length (ll.map intV) rfl hrow2 ⟨W1.heap.size,0,none⟩ 1 1 [.int .i64 k] rfl rfl hnew
       (by simp [Value.oneCell']) (by decide) (by unfold maxLen; omega) (by omega) ?_
      intro v4 W4 hrow4 hgrow4 hlies4
      have hvb:∀ g,vv.ownBlock=some g→w.heap.size+2≤g∧g≠W.heap.size:=fun g e=>by
       rw [← hpv] at e
       unfold postV at e
       cases hgx:get m x with
       | none=>rw [hgx] at e; cases e
       | some v=>rw [hgx] at e; exact ⟨HP.out.past x v g hgx e,fun e'=>HIA.out _ rfl x v hgx (e' ▸ e)⟩
      have hc14:W4.cell? ⟨w.heap.size+1,0,none⟩=some (.map (some w.heap.size)):=World.grownBy.cell hgrow4 hc12 (fun e=>by have:=(hvb _ e.symm).1; simp only at this; omega)
      have hc24:W4.cell? ⟨W.heap.size,0,none⟩=some (.int .i64 k):=World.grownBy.cell hgrow4 hc22 (fun e=>(hvb _ e.symm).2 rfl)
      have hmap4:MapIs strV W4 w.heap.size m:=HP.out.map.of_block ((hgrow4.block w.heap.size (by have:=HP.out.map.lt; simp; omega) (fun e=>by have:=(hvb _ e.symm).1; omega)).trans (Below.heap_alloc W1 _ _ HP.out.map.lt))
      have hlleq:ll=postsOf ((docs.map wordsB).take k++[pre]) x:=HLL.out
      obtain ⟨W5,hrun5,hmap5,hg5,hz5⟩:=MapIs.update str_law hmap4 x trivial (fun _ _=>trivial) Tryz.underlying190 v4
      have hrun5':(Instr.mapUpdate 190 (.map (some w.heap.size)) (.string ⟨x.toArray⟩) v4).run Tryz.prog W4 = .ok () W5:=hrun5
      have hadd:=Lib.hid (BJ.add (B0:=((W.alloc (.cells #[.int .i64 k] 3)).alloc (.cells #[.string d] 9)).heap.size) HB1.out HIB.out HP.out (fun y v hv=>HIA.out _ rfl y v hv) hx HDL.out (by rw [hs0]; omega)
       (by rw [← hlleq]; exact hrow4) (by rw [hpv]; exact hgrow4) (by rw [hpv]; exact hlies4) hg5 hmap5)
      clear hrun5 hmap5 hg5 hz5 hmap4 hrow4 hgrow4 hlies4 hlleq hrow2 hnew
      refine hK5 _ _ ⟨hc14,hc24⟩ ?_
      clear hK5 K5
      simp only [put_lit,List.set_cons_succ,List.set_cons_zero]
      refine wpOrd_last rfl rfl (fun K5 hK5=>?_)
      go_simp
      refine hK5 _ _ ?_
      clear hK5 K5
      gi_wp2
      exact hadd.out
   case done =>
    rintro D ys W' hD rfl ⟨hb1,hib⟩ hK'
    have hb2:BI w (D :: Ds) ((docs.map wordsB).take (k+1)) none W':=by
     obtain ⟨m,hp,hia⟩:=hb1.posts
     have e:(docs.map wordsB).take (k+1)=(docs.map wordsB).take k++[wordsB d]:=by
      rw [List.take_succ_eq_append_getElem (by simpa using hlt),List.getElem_map,← HD.out]
     rw [e]
     refine ⟨⟨m,hp,fun i e=>(by cases e)⟩,hb1.box,hb1.below,hb1.size,fun d' h=>?_,List.nodup_cons.2 ⟨fun h=>?_,hb1.nodup.1⟩,fun d' h=>?_⟩
     ·rcases List.mem_cons.1 h with rfl | h
      ·exact hK'
      ·exact hb1.marks d' h
     ·have:=hDs D h
      rw [hs0] at hD
      omega
     ·rcases List.mem_cons.1 h with rfl | h
      ·rw [hs0] at hD
       omega
      ·exact hb1.nodup.2 d' h
    have HB2:=Lib.hid hb2
    clear hb2 hb1 hib hK' hJ0 hbox0
    go_wp2_with fail
    refine HK.out _ _ (Handed.intro (docs.length - (k+1)) (by omega) (HJ.out _ _ _ ?_))
    exact ⟨k+1,D :: Ds,by omega,rfl,bTmps_of rfl,rfl,HB2.out⟩
   case stop =>
    rintro D c pre W' _ _ h _
    exact h.elim
  ·obtain rfl:k=docs.length:=by omega
   have hmd:mx=docs.length:=by omega
   have H200:Hid (∀ d∈docs,d.size≤200):=Lib.hid fun d hd=>H200.out d (by rw [hmd,List.take_length]; exact hd)
   clear HC
   obtain ⟨m,hp,_⟩:=HBI.out.posts
   have hc1:W.cell? ⟨w.heap.size+1,0,none⟩=some (.map (some w.heap.size)):=cell_block HBI.out.box
   obtain ⟨W6,hrun6,hit6,hg6,hs6⟩:=range_run (P:=Tryz.prog) hp.map Tryz.underlying190
   have HP:=Lib.hid hp
   have hti:TI W6 w.heap.size W.heap.size m [] (.slice none 0 0) W6:=⟨hit6,World.ownsRow_nil _ _ _ _,(fun k e=>by cases e),Mod.refl _ _,List.nodup_nil,fun t h=>by cases h⟩
   have HTI:=Lib.hid hti
   have HG6:=Lib.hid hg6
   have hmf:m.length≤10000:=by
    have h1:=nodup_le (m.map fun p:List UInt8 × Value=>p.1) (docs.flatMap wordsB) hp.keysA fun x hx=>by
     obtain ⟨p,hpm,rfl⟩:=List.mem_map.1 hx
     obtain ⟨d,h1,h2⟩:=postsOf_words (hp.row p.1 p.2 (get_of_mem hp.keysA hpm)).2
     exact List.mem_flatMap.2 ⟨d,h1,h2⟩
    have h2:=words_total docs H200.out
    rw [List.length_map] at h1
    omega
   clear hp hit6 hg6 hti
   go_wp2_with fail
   clear hrun6
   go_loopw [9] (fun v wr=>∃ ts,Hid (TI W6 w.heap.size W.heap.size m ts v wr)∧sliceLen v=ts.length) (fun v _=>m.length - sliceLen v)
   case atStart=>exact ⟨[],HTI,rfl⟩
   case round =>
    obtain ⟨ts,HT,hvl⟩:=hrel
    have hfew:=HT.out.few
    rcases next_run (P:=Tryz.prog) 0 HT.out.iter HP.out.keysA with ⟨hall,hN⟩ | ⟨x,v0,w2,hxm,hxt,hN,hi2,hE,hg2,hs2⟩
    ·have HALL:=Lib.hid hall
     clear hall
     obtain ⟨T,hT⟩:∃ T,T=sortW ts:=⟨_,rfl⟩
     have hTl:T.length=ts.length:=by rw [hT,sortW_length]
     have hTr:T.Pairwise fun a b=>a < b:=by rw [hT]; exact sortW_rise HT.out.nodup
     have hTm:∀ x,x∈T↔postsOf ((docs.map wordsB).take docs.length) x≠[]:=fun x=>by
      rw [hT,sortW_mem]
      constructor
      ·intro hx
       obtain ⟨p,hp,rfl⟩:=List.mem_map.1 (HT.out.sub x hx)
       exact (HP.out.row p.1 p.2 (get_of_mem HP.out.keysA hp)).2
      ·intro hx
       obtain ⟨v,hv⟩:=HP.out.keys x hx
       exact HALL.out _ (get_some_mem hv)
     have HTM:=Lib.hid hTm
     have HTR:=Lib.hid hTr
     have HTEQ:=Lib.hid hT
     have hT16:∀ t∈T.map (fun l=>(⟨l.toArray⟩:ByteArray)),0 < t.size∧t.size≤16:=fun t ht=>by
      obtain ⟨x,hx,rfl⟩:=List.mem_map.1 ht
      obtain ⟨d,_,h2⟩:=postsOf_words ((HTM.out x).1 hx)
      have:=wordsB_mem h2
      exact ⟨by simpa [ByteArray.size] using this.1,by simpa [ByteArray.size] using this.2⟩
     have hTasc:(T.map (fun l=>(⟨l.toArray⟩:ByteArray))).Pairwise fun a b=>a.data.toList < b.data.toList:=by
      rw [List.pairwise_map]
      exact hTr
     have HT16:=Lib.hid hT16
     have HTASC:=Lib.hid hTasc
     clear hTm hTr hT16 hTasc hT
     go_wp2_with (go_at_call 93; refine (sort_any u9 ts _ HT.out.row (by omega)).mono ?_; rintro e W7 ⟨rfl,hrow7,hg7⟩; have HG7:=Lib.hid hg7; clear hg7)
     have hrow7':W7.ownsRow 0 9 1 u9 T.length (T.map strV):=by rw [hTl,HTEQ.out]; exact hrow7
     have HROW7:=Lib.hid hrow7'
     have hts:(T.map (fun l=>(⟨l.toArray⟩:ByteArray))).length≤10000:=by rw [List.length_map,hTl]; omega
     refine (from_any u9 _ W7 (strsIs_row HROW7.out) hts HT16.out HTASC.out).mono ?_
     rintro e W8 ⟨db,R,Λ,ρ,Dd,rfl,hb8,hdi8,hΛ⟩
     have HB8:=Lib.hid hb8
     have HDI8:=Lib.hid hdi8
     have HΛ:=Lib.hid hΛ
     obtain ⟨a9,cap9,hv9⟩:=ownsRow_form HROW7.out
     rw [hv9]
     clear hrow7 hrow7' hts hb8 hdi8 hΛ
     unfold ptrV
     go_wp2_with fail
     have hri:RI (W8.alloc (.cells #[.int .i64 docs.length,.pointer (some ⟨db,0,none⟩),.slice none 0 0,.int .i32 0,.int .u32 0,.map none] 168)) W8.heap.size docs.length db []
       (W8.alloc (.cells #[.int .i64 docs.length,.pointer (some ⟨db,0,none⟩),.slice none 0 0,.int .i32 0,.int .u32 0,.map none] 168)) :=
      ⟨⟨_,heap_alloc_new _ _,World.ownsRow_nil _ _ _ _,fun g e=>(by cases e)⟩,Mod.refl _ _⟩
     have HRI:=Lib.hid hri
     clear hri
     obtain ⟨W9,hW9⟩:∃ W9,W9=W8.alloc (.cells #[.int .i64 docs.length,.pointer (some ⟨db,0,none⟩),.slice none 0 0,.int .i32 0,.int .u32 0,.map none] 168):=⟨_,rfl⟩
     rw [← hW9] at HRI ⊢
     have hit:W.heap.size < W6.heap.size:=by omega
     have hold8:∀ k,k < W.heap.size→W8.heap[k]?=W.heap[k]?:=fun k hk=>by
      have s1:=HG6.out.block k hk (by simp)
      have s2:=HT.out.mod.block k (by omega) (by omega)
      have z2:=HT.out.mod.size
      have s3:=HG7.out.block k (by omega) (fun e=>by have:=HT.out.past k e.symm; omega)
      have z3:=HG7.out.size
      have s4:=HB8.out.block k (by omega)
      exact s4.trans (s3.trans (s2.trans s1))
     have hW8:W.heap.size < W8.heap.size:=by have:=HT.out.mod.size; have:=HG7.out.size; have:=HB8.out.size; omega
     have hrow8:W8.ownsRow 0 9 1 u9 T.length (T.map strV):=ownsRow_block HROW7.out fun k e=>HB8.out.block k (HROW7.out.lt k e).2
     have HOLD8:=Lib.hid hold8
     have HROW8:=Lib.hid hrow8
     have hs9:W9.heap.size=W8.heap.size+1:=by rw [hW9]; simp
     have hold9:∀ k,k < W8.heap.size→W9.heap[k]?=W8.heap[k]?:=fun k hk=>by rw [hW9]; exact Below.heap_alloc W8 _ k hk
     have HOLD9:=Lib.hid hold9
     have HW9:=Lib.hid hW9
     clear hW9 hold8 hold9 hrow8
     go_loopw [76] (fun i wr=>∃ j:Nat,j≤ts.length∧i = .int .i64 j∧Hid (RI W9 W8.heap.size docs.length db ((T.take j).map (postV m)) wr)) (fun i _=>ts.length - (intOf i).toNat)
     case atStart=>exact ⟨0,Nat.zero_le _,rfl,HRI⟩
     case round =>
      obtain ⟨j,hj,rfl,HR⟩:=hrel
      have hkp:∀ k,k < W8.heap.size→wr.heap[k]?=W8.heap[k]?:=fun k hk=>(HR.out.mod.block k (by omega) (by omega)).trans (HOLD9.out k hk)
      by_cases hjl:j < ts.length
      ·obtain ⟨x,hx⟩:∃ x,T[j]?=some x:=⟨_,List.getElem?_eq_getElem (by rw [hTl]; exact hjl)⟩
       obtain ⟨pv,hsg,hpr,hpp⟩:=HR.out.ex
       have htk:((T.take j).map (postV m)).length=j:=by rw [List.length_map,List.length_take,hTl]; omega
       rw [htk] at hpr
       have hrT:wr.ownsRow 0 9 1 u9 T.length (T.map strV):=ownsRow_block HROW8.out fun k e=>hkp k (HROW8.out.lt k e).2
       obtain ⟨g9,cap9',hg9⟩:∃ g cap,u9 = .slice (some ⟨g,0,none⟩) T.length cap:=by
        have h1:=hrT
        obtain ⟨q,hq⟩:∃ q,T.length=q+1:=⟨T.length - 1,by rw [hTl]; omega⟩
        rw [hq] at h1
        obtain ⟨g,cap,e⟩:=ownsRow_head h1
        exact ⟨g,cap,by rw [e,hq]⟩
       rw [hv9] at hg9
       cases hg9
       have hcx:wr.cell? ⟨g9,j,none⟩=some (.string ⟨x.toArray⟩):=by
        rw [hv9] at hrT
        rw [hrT.cellAt j (by rw [hTl]; omega),List.getElem?_map,hx]
        rfl
       have hcb:wr.cell? ⟨w.heap.size+1,0,none⟩=some (.map (some w.heap.size)):=cell_block ((hkp _ (by have:=HBI.out.size; omega)).trans ((HOLD8.out _ (lt_of_cell hc1)).trans HBI.out.box))
       have hcp:wr.cell? ⟨W8.heap.size,2,none⟩=some pv:=cell_block hsg
       have hfp:wr.frozen? ⟨W8.heap.size,2,none⟩=false:=free_block hsg
       have hmi:MapIs strV wr w.heap.size m:=HP.out.map.of_block ((hkp _ (by have:=HP.out.map.lt; omega)).trans (HOLD8.out _ HP.out.map.lt))
       have HX:=Lib.hid hx
       have HSG:=Lib.hid hsg
       have HPP:=Lib.hid hpp
       have HKP:=Lib.hid hkp
       have hsbl:W8.heap.size < wr.heap.size:=lt_of_heap HSG.out
       have hlkW:∀ W',MapIs strV W' w.heap.size m→(Instr.lookup 190 (.map (some w.heap.size)) (.string ⟨x.toArray⟩) false).run Tryz.prog W' = .ok (postV m x) W':=fun W' h=>by
        have:=MapIs.lookup str_law h x trivial (fun _ _=>trivial) Tryz.underlying190 (z := .slice none 0 0) (by kernel_rfl) false
        simpa [postV,strV] using this
       have HLK:=Lib.hid hlkW
       obtain ⟨ax,cx,hpw⟩:=ownsRow_form (HP.out.rowV x)
       have HPW:=Lib.hid hpw
       clear hpw
       clear hx hsg hpp hkp hrT htk hlkW
       go_wp2_with fail
       refine wp_region_ordX [(0,false),(1,false),(2,false),(3,false),(4,false),(5,false),(6,false),(7,false),(8,true),(9,true),(10,true),(11,true),(12,true)] 12
        (fun w'=>w'.cell? ⟨W8.heap.size,2,none⟩=some pv∧w'.cell? ⟨w.heap.size+1,0,none⟩=some (.map (some w.heap.size))∧MapIs strV w' w.heap.size m) (by kernel_rfl) (by kernel_rfl) ⟨hcp,hcb,hmi.of_block rfl⟩ ?_
       iterate 7 (
        refine wpOrd_quiet ?_ rfl rfl (fun w' hS=>?_) ?_
        rotate_left
        ·obtain ⟨f0,f1,_⟩:=hS
         go_simp
         first | rfl | done
        simp only [put_lit,List.set_cons_succ,List.set_cons_zero])
       refine wpOrd_quiet (.slice ax (postsOf ((docs.map wordsB).take docs.length) x).length cx) rfl rfl (fun w' hS=>?_) ?_
       ·have hl:=HLK.out w' hS.2.2
        rw [HPW.out] at hl
        go_simp
       simp only [put_lit,List.set_cons_succ,List.set_cons_zero]
       refine wpOrd_loud rfl rfl (by decide) (fun K5 hK5=>?_)
       go_simp
       have hcp1:((wr.alloc (.cells #[.slice ax (postsOf ((docs.map wordsB).take docs.length) x).length cx] 24)).drew).cell? ⟨W8.heap.size,2,none⟩=some pv:=(World.cell?_alloc_lt wr _ _ (lt_of_cell hcp)).trans hcp
       have hcb1:((wr.alloc (.cells #[.slice ax (postsOf ((docs.map wordsB).take docs.length) x).length cx] 24)).drew).cell? ⟨w.heap.size+1,0,none⟩=some (.map (some w.heap.size)):=(World.cell?_alloc_lt wr _ _ (lt_of_cell hcb)).trans hcb
       have hmi1:MapIs strV ((wr.alloc (.cells #[.slice ax (postsOf ((docs.map wordsB).take docs.length) x).length cx] 24)).drew) w.heap.size m:=hmi.of_block (Below.heap_alloc wr _ _ hmi.lt)
       have hpr1:((wr.alloc (.cells #[.slice ax (postsOf ((docs.map wordsB).take docs.length) x).length cx] 24)).drew).ownsRow 0 24 1 pv j ((T.take j).map (postV m)):=(hpr.alloc _).drew
       refine hK5 _ _ ⟨hcp1,hcb1,hmi1⟩ ?_
       clear hK5 K5
       refine wpOrd_loud rfl rfl (by decide) (fun K5 hK5=>?_)
       obtain ⟨i0,hi,hz0,hz1,hz2⟩:=info_parts Tryz.info24
       refine wp_append_lies _ _ 88 rfl 24 i0 (.slice none 0 0) 1 24 Tryz.underlying88 hi hz0 hz1 hz2 rfl (by decide) pv j ((T.take j).map (postV m)) rfl hpr1 ⟨wr.heap.size,0,none⟩ 1 1 [.slice ax (postsOf ((docs.map wordsB).take docs.length) x).length cx] rfl rfl (cell_one_new wr _ _)
        (by simp [Value.oneCell']) (by decide) (by unfold maxLen; omega) (by omega) ?_
       intro v4 W4 hrow4 hgrow4 hlies4
       obtain ⟨g4,cap4,rfl⟩:=ownsRow_head hrow4
       have htk:((T.take j).map (postV m)).length=j:=by rw [List.length_map,List.length_take,hTl]; omega
       have hst4:=HR.out.step (by omega) HSG.out HPP.out (by rw [htk]; exact hrow4) hgrow4 hlies4
       have hnx:(T.take (j+1)).map (postV m)=(T.take j).map (postV m)++[.slice ax (postsOf ((docs.map wordsB).take docs.length) x).length cx]:=by
        have hjT:j < T.length:=by rw [hTl]; exact hjl
        have hxe:T[j]=x:=by
         have h1:=HX.out
         rw [List.getElem?_eq_getElem hjT] at h1
         exact Option.some.inj h1
        rw [List.take_succ_eq_append_getElem hjT,List.map_append,hxe]
        simp only [List.map_cons,List.map_nil,HPW.out]
       rw [← hnx] at hst4
       have HST4:=Lib.hid hst4
       have hpb:∀ g,pv.ownBlock=some g→W9.heap.size≤g:=HPP.out
       have hcp4:W4.cell? ⟨W8.heap.size,2,none⟩=some pv:=World.grownBy.cell hgrow4 hcp1 (fun e=>by have:=hpb _ e.symm; (try simp only at this); omega)
       have hcb4:W4.cell? ⟨w.heap.size+1,0,none⟩=some (.map (some w.heap.size)):=World.grownBy.cell hgrow4 hcb1 (fun e=>by have h0:W9.heap.size≤w.heap.size+1:=hpb _ e.symm; have:=HBI.out.size; omega)
       have hmi4:MapIs strV W4 w.heap.size m:=hmi1.of_block (hgrow4.block _ (by simp; have:=hmi.lt; omega) (fun e=>by have:=hpb _ e.symm; have:=HBI.out.size; omega))
       have hfr4:W4.frozen? ⟨W8.heap.size,2,none⟩=false:=by
        have:=hgrow4.block W8.heap.size (by simp; omega) (fun e=>by have:=hpb _ e.symm; omega)
        rw [World.frozen?_of_block (a:=⟨W8.heap.size,2,none⟩) this]
        exact free_block ((Below.heap_alloc wr _ _ hsbl).trans HSG.out)
       clear hrow4 hgrow4 hlies4 hst4 hnx htk hpb hpr1 hmi1 hcp1 hcb1
       refine hK5 _ _ ⟨hcp4,hcb4,hmi4⟩ ?_
       clear hK5 K5
       simp only [put_lit,List.set_cons_succ,List.set_cons_zero]
       refine wpOrd_loud rfl rfl (by decide) (fun K5 hK5=>?_)
       go_simp
       refine hK5 _ _ ⟨hcp4,hcb4,hmi4⟩ ?_
       clear hK5 K5
       refine wpOrd_loud rfl rfl (by decide) (fun K5 hK5=>?_)
       go_simp
       refine hK5 _ _ ⟨hcp4,hcb4,hmi4⟩ ?_
       clear hK5 K5
       refine wpOrd_last rfl rfl (fun K5 hK5=>?_)
       go_simp
       refine hK5 _ _ ?_
       clear hK5 K5
       go_wp2_with fail
       exact ⟨⟨j+1,by omega,by go_num,HST4⟩,by simp [intOf]; omega⟩
      ·obtain rfl:j=ts.length:=by omega
       go_wp2_with fail
       have hdl:(docs.map wordsB).take docs.length=docs.map wordsB:=List.take_of_length_le (by simp)
       have hTt:T.take ts.length=T:=List.take_of_length_le (by omega)
       have hwr:∀ k,k < W.heap.size→wr.heap[k]?=W.heap[k]?:=fun k hk=>(hkp k (by omega)).trans (HOLD8.out k hk)
       have hDl:∀ d∈Ds,d < W.heap.size:=fun d h=>(Array.getElem?_eq_some_iff.1 (HBI.out.marks d h)).1
       refine leaves_marks (v := .tuple #[.pointer (some ⟨W8.heap.size,0,none⟩),.nilIface]) (fun w'=>results_tmp2 (t:=2) (u:=3) rfl _ _ _) Ds wr (fun d h=>(hwr d (hDl d h)).trans (HBI.out.marks d h)) HBI.out.nodup.1 fun w' hm=>?_
       have hcell:∀ (k:Nat) cs t r,wr.heap[k]?=some (.cells cs t r)→w'.heap[k]?=wr.heap[k]?:=fun k cs t r h=>hm.block k (Array.getElem?_eq_some_iff.1 h).1 fun hd=>by
        have h1:=(hwr k (hDl k hd)).trans (HBI.out.marks k hd)
        rw [h] at h1
        cases h1
       obtain ⟨pv,hsg,hpr,hpp⟩:=HR.out.ex
       have hsz:w.heap.size≤wr.heap.size:=by have:=HBI.out.size; have:=HR.out.mod.size; omega
       have hbel:Below w.heap.size w w':=by
        have hb:=HBI.out.below
        refine ⟨hm.os.trans (HR.out.mod.os.trans ?_),hm.tape.trans (HR.out.mod.tape.trans ?_),hm.output.trans (HR.out.mod.output.trans ?_),by have:=hm.size; omega,fun k hk=>?_⟩
        ·rw [HW9.out]; exact HB8.out.os.trans (HG7.out.os.trans (HT.out.mod.os.trans (HG6.out.os.trans hb.os)))
        ·rw [HW9.out]; exact HB8.out.tape.trans (HG7.out.tape.trans (HT.out.mod.tape.trans (HG6.out.tape.trans hb.tape)))
        ·rw [HW9.out]; exact HB8.out.output.trans (HG7.out.output.trans (HT.out.mod.output.trans (HG6.out.output.trans hb.output)))
        ·have h1:=HBI.out.size
         exact (hm.block k (by omega) fun hd=>by have:=HBI.out.nodup.2 k hd; omega).trans ((hwr k (by omega)).trans (hb.block k hk))
       have hdi:DictIs w' db R Λ ρ Dd:=HDI8.out.kept fun k cs t r h ht=>by
        have hk:=(Array.getElem?_eq_some_iff.1 h).1
        have h1:=hkp k hk
        exact (hcell k cs t r (h1.trans h)).trans h1
       have hΛT:Λ 0=T:=by
        rw [HΛ.out]
        unfold listsOf
        rw [List.map_map]
        exact (List.map_congr_left fun a _=>rfl).trans (List.map_id _)
       refine ⟨hbel,.inl ⟨hmd,W8.heap.size,rfl,(by have:=HBI.out.size; omega),db,R,Λ,ρ,Dd,pv,T.map (postV m),fun v hv k hk=>?_,?_,hdi,?_,?_,?_,?_,?_,?_⟩⟩
       ·obtain ⟨x,_,rfl⟩:=List.mem_map.1 hv
        unfold postV at hk
        cases hx:get m x with
        | none=>rw [hx] at hk; cases hk
        | some u =>
         rw [hx] at hk
         have:=HP.out.past x u k hx hk
         omega
       ·rw [List.length_map]
        exact (hcell _ _ _ _ hsg).trans hsg
       ·rw [hΛT]; exact HTR.out
       ·intro x
        rw [hΛT,HTM.out x,hdl]
       ·rw [hΛT]; omega
       ·intro x hx
        rw [hΛT] at hx
        have:=(HT16.out _ (List.mem_map.2 ⟨x,hx,rfl⟩)).2
        simpa [ByteArray.size] using this
       ·rw [hΛT]
        rw [hTt,List.length_map] at hpr
        exact ownsRow_typed hpr fun k cs r h=>hcell k cs _ r h
       ·intro i v x hv hx
        rw [hΛT] at hx
        rw [List.getElem?_map,hx] at hv
        have:=Option.some.inj hv
        subst this
        have hrx:=HP.out.rowV x
        rw [hdl] at hrx
        have h8:wr.ownsRow 0 3 1 (postV m x) (postsOf (docs.map wordsB) x).length ((postsOf (docs.map wordsB) x).map intV):=ownsRow_block hrx fun k e=>hwr k (hrx.lt k e).2
        exact ownsRow_typed h8 fun k cs r h=>hcell k cs _ r h
    ·unfold strV at hN hE
     obtain ⟨i0,hi,hz0,hz1,hz2⟩:=info_parts Tryz.info9
     have hrow2:=HT.out.rowStep (by omega) hg2
     have hrow3:(w2.alloc (.cells #[.string ⟨x.toArray⟩] 9)).ownsRow 0 9 1 u9 ts.length (ts.map strV):=hrow2.alloc _
     have HG2:=Lib.hid hg2
     have HS2:=Lib.hid hs2
     have HI2:=Lib.hid hi2
     clear hg2 hs2 hi2 hrow2
     go_wp2_with (at_builtin; refine wpList_append_lies rfl _ _ 35 rfl 9 i0 (.string ⟨#[]⟩) 1 16 Tryz.underlying35 hi hz0 hz1 hz2 rfl (by decide) u9 ts.length (ts.map strV) rfl hrow3 ⟨w2.heap.size,0,none⟩ 1 1 [.string ⟨x.toArray⟩] rfl rfl (cell_one_new w2 _ _) (by simp [Value.oneCell']) (by decide) (by unfold maxLen; omega) (by omega) ?_; intro v4 W4 hrow4 hgrow4 hlies4; have HR4:=Lib.hid hrow4; have HT4:=Lib.hid (HT.out.step (by rw [hs6]; have:=HP.out.map.lt; omega) (by omega) hxt hxm HG2.out HS2.out HI2.out hrow4 hgrow4 hlies4); clear hrow4 hgrow4 hlies4; simp only [put_lit,List.set_cons_succ,List.set_cons_zero])
     have hln:=HT4.out.len
     have hfw:=HT4.out.few
     rw [List.length_append,List.length_singleton] at hln hfw
     exact ⟨⟨ts++[x],HT4,by rw [hln]; simp⟩,by omega⟩
end Go.Proofs.Ts
namespace Go.Proofs.Ts
open Go Go.RowKit
def listsP (D:List (List (List UInt8))) (l:List (List UInt8 × Nat)):List (List Nat):=l.map fun p=>postsOf D p.1
theorem listsP_at {D:List (List (List UInt8))} {l:List (List UInt8 × Nat)} {j:Nat} {t:List UInt8} {i:Nat} (h:l[j]?=some (t,i)):(listsP D l)[j]?=some (postsOf D t):=by simp [listsP,h]
theorem made_zero (n:Nat):madeCells #[.int .i64 0] n=((List.replicate n 0).map intV).toArray:=by
 apply Array.ext'
 rw [toList_madeCells_one]
 simp [intV]
theorem UIn.start (w:World) (Ps:List (List Nat)) {n:Nat} (hn:n=Ps.length):UIn w (Ps.map (cnt 0)) (upTo Ps 0) (.slice none 0 0) (w.alloc (.cells (madeCells #[.int .i64 0] n) 3)):=by
 refine ⟨?_,World.ownsRow_nil _ _ _ _,(fun k e=>by cases e),(Below.refl _ w).alloc (Nat.le_refl _) _,fun _=>rfl⟩
 rw [heap_alloc_new,made_zero]
 have:Ps.map (cnt 0)=List.replicate n 0:=by
  rw [List.eq_replicate_iff]
  refine ⟨by simp [hn],fun x hx=>?_⟩
  obtain ⟨P,_,rfl⟩:=List.mem_map.1 hx
  exact cnt_zero P
 rw [this]
set_option maxRecDepth 100000 in
set_option maxHeartbeats 2000000 in
theorem union_any (D:List (List (List UInt8))) (sb:Nat) (pv fv:Value) (l:List (List UInt8 × Nat)) (w:World) (ht:Terms w sb D pv fv l) (hD:D.length≤1000) :
  Calls Tryz.prog 84 #[ptrV sb,fv] w fun e w'=>∃ ov,e = .returned ov∧Below w.heap.size w w'∧w'.ownsRow 0 3 1 ov (upTo (listsP D l) D.length).length ((upTo (listsP D l) D.length).map intV)∧Past w.heap.size ov∧(upTo (listsP D l) D.length=[]→ov = .slice none 0 0):=by
 obtain ⟨fa,fc,rfl⟩:=ht.form
 have hll:=ht.few
 obtain ⟨i0,hi,hz0,hz1,hz2⟩:=info_parts Tryz.info3
 have hmk:∀ W:World,(Instr.makeSlice 24 (.int .i64 l.length) (.int .i64 l.length)).run Tryz.prog W = .ok (.slice (some ⟨W.heap.size,0,none⟩) l.length l.length) (W.alloc (.cells (madeCells #[.int .i64 0] l.length) 3)):=fun W=>by
  have:=run_make (P:=Tryz.prog) W 24 3 i0 (.int .i64 0) Tryz.underlying24 hi hz0 .i64 .i64 l.length l.length (by omega) (Int.le_refl _) (by rw [hz2]; omega) (by omega)
  rw [hz1] at this
  simpa [Value.cells] using this
 obtain ⟨Ps,hPs⟩:∃ Ps,Ps=listsP D l:=⟨_,rfl⟩
 have hPl:Ps.length=l.length:=by rw [hPs]; simp [listsP]
 have hlt:∀ P∈Ps,(∀ d∈P,d < D.length)∧P.Pairwise (· < ·)∧P.length≤D.length:=fun P hP=>by
  rw [hPs] at hP
  obtain ⟨p,_,rfl⟩:=List.mem_map.1 hP
  exact ⟨postsOf_lt _ _,postsOf_rise _ _,postsOf_length _ _⟩
 have hst:=UIn.start w Ps hPl.symm
 have HT:=Lib.hid ht
 have HLT:=Lib.hid hlt
 have HST:=Lib.hid hst
 have HPS:=Lib.hid hPs
 rw [← hPs]
 clear ht hlt hst hPs
 unfold ptrV
 go_enter Tryz.func84,Tryz.ntmps84
 go_wp2_with fail
 clear hmk
 generalize w.alloc (.cells (madeCells #[.int .i64 0] l.length) 3)=w1 at *
 go_loopw [5] (fun ov wr=>∃ b:Nat,b≤D.length∧Hid (UIn w (Ps.map (cnt b)) (upTo Ps b) ov wr)∧sliceLen ov=(upTo Ps b).length) (fun ov _=>D.length+1 - sliceLen ov)
 case atStart=>exact ⟨0,Nat.zero_le _,HST,rfl⟩
 case round =>
  obtain ⟨b,hb,HU,hsl⟩:=hrel
  go_wp2_with fail
  go_loopw [7,19] (fun nx i wx=>∃ (j:Nat) (o:Option Nat),j≤l.length∧i = .int .i64 j∧nx = .int .i64 (nextI o)∧Hid (NextIs (Ps.take j) b o)∧Hid (UIn w (Ps.map (cnt b)) (upTo Ps b) u5 wx)) (fun _ i _=>l.length - (intOf i).toNat)
  case atStart=>exact ⟨0,none,Nat.zero_le _,rfl,rfl,NextIs.start b,HU⟩
  case round =>
   obtain ⟨j,o,hj,rfl,rfl,HN,HU2⟩:=hrel
   by_cases hjl:j < l.length
   ·obtain ⟨t,i,hti⟩:∃ t i,l[j]?=some (t,i):=⟨_,_,List.getElem?_eq_getElem hjl⟩
    obtain ⟨g,cap,e1,k0,k1⟩:=HT.out.found j t i hti
    simp only [Value.slice.injEq,true_and] at e1
    obtain ⟨rfl,rfl⟩:=e1
    obtain ⟨gq,nq,capq,a,cap2,rfl,hiq,hnq,k2,hpc⟩:=HT.out.posts j t i hti
    have k3:=HT.out.seg
    have go:∀ (b i:Nat) u,w.cell? ⟨b,i,none⟩=some u→wr.cell? ⟨b,i,none⟩=some u:=fun b i u hu=>(HU2.out.below.cell (p:=⟨b,i,none⟩) (lt_of_cell hu)).trans hu
    have c0:=go _ _ _ k0
    have c1:=go _ _ _ k1
    have hPj:Ps[j]?=some (postsOf D t):=by rw [HPS.out]; exact listsP_at hti
    obtain ⟨P,hP⟩:∃ P,P=postsOf D t:=⟨_,rfl⟩
    rw [← hP] at hPj k2 hpc
    clear hP go
    go_wp2_with fail
    have HUa:=Lib.hid (HU2.out.alloc (.cells #[.string ⟨t.toArray⟩,.int .i64 i] 182))
    have x0:(wr.alloc (.cells #[.string ⟨t.toArray⟩,.int .i64 i] 182)).heap[wr.heap.size]?=some (.cells #[.string ⟨t.toArray⟩,.int .i64 i] 182 (0,0)):=heap_alloc_new _ _
    clear c0 c1 k0 k1
    generalize (wr.alloc (.cells #[.string ⟨t.toArray⟩,.int .i64 i] 182))=wa at *
    generalize wr.heap.size=fb at *
    have go:∀ (b i:Nat) u,w.cell? ⟨b,i,none⟩=some u→wa.cell? ⟨b,i,none⟩=some u:=fun b i u hu=>(HUa.out.below.cell (p:=⟨b,i,none⟩) (lt_of_cell hu)).trans hu
    have c0:wa.cell? ⟨fb,1,none⟩=some (.int .i64 i):=cell_block x0
    have c1:=go _ _ _ k3
    have c2:=go _ _ _ k2
    have c3:wa.cell? ⟨w.heap.size,j,none⟩=some (.int .i64 (cnt b P)):=HUa.out.cell (by simp [hPj])
    clear x0
    go_quiet (fail)
    obtain ⟨hPlt,hPr,hPlen⟩:=HLT.out P (List.mem_of_getElem? hPj)
    have htk:Ps.take (j+1)=Ps.take j++[P]:=by
     rw [List.take_succ_eq_append_getElem (by omega),(List.getElem?_eq_some_iff.1 hPj).2]
    have HTK:=Lib.hid htk
    have hcl:=cnt_le b P
    have HPR:=Lib.hid hPr
    clear htk hPr hPlt hPj
    by_cases hc:cnt b P < P.length
    ·obtain ⟨d,hd⟩:=cnt_lt hc
     obtain ⟨gp,rfl,k4⟩:=hpc _ d hd
     obtain ⟨hbd,hdm,hdl⟩:=cnt_at b P HPR.out d hd
     have c4:=go _ _ _ k4
     have q1:decide ((cnt b P:Int) < (P.length:Int))=true:=by simp; omega
     have HDL:=Lib.hid hdl
     have HDM:=Lib.hid hdm
     clear hdl hd hdm hpc go
     cases o with
     | none =>
      have q2:decide (nextI none < 0)=true:=rfl
      have hN:=Lib.hid (HN.out.least hbd HDM.out HDL.out (by intro n e; cases e))
      rw [← HTK.out] at hN
      go_wp2_with fail
      exact ⟨⟨j+1,some d,by omega,by go_num,rfl,hN,HUa.out.same (Same.drewN _ _)⟩,by simp [intOf]; omega⟩
     | some n =>
      have q2:decide (nextI (some n) < 0)=false:=by unfold nextI; simp only [decide_eq_false_iff_not]; omega
      by_cases hdn:d < n
      ·have q3:decide ((d:Int) < nextI (some n))=true:=by simp [nextI]; omega
       have hN:=Lib.hid (HN.out.least hbd HDM.out HDL.out (by intro m e; cases e; omega))
       rw [← HTK.out] at hN
       go_wp2_with fail
       exact ⟨⟨j+1,some d,by omega,by go_num,rfl,hN,HUa.out.same (Same.drewN _ _)⟩,by simp [intOf]; omega⟩
      ·have q3:decide ((d:Int) < nextI (some n))=false:=by simp [nextI]; omega
       have hN:=Lib.hid (HN.out.keep (P:=P) (fun x hx hbx=>by have:=HDL.out x hx hbx; omega))
       rw [← HTK.out] at hN
       go_wp2_with fail
       exact ⟨⟨j+1,some n,by omega,by go_num,rfl,hN,HUa.out.same (Same.drewN _ _)⟩,by simp [intOf]; omega⟩
    ·have q1:decide ((cnt b P:Int) < (P.length:Int))=false:=by simp; omega
     have hN:=Lib.hid (HN.out.past (cnt_end b P (by omega)))
     rw [← HTK.out] at hN
     clear hpc go
     go_wp2_with fail
     exact ⟨⟨j+1,o,by omega,by go_num,rfl,hN,HUa.out.same (Same.drewN _ _)⟩,by simp [intOf]; omega⟩
   ·obtain rfl:j=l.length:=by omega
    rw [← hPl,List.take_length] at HN
    have hul:=upTo_length Ps b
    have hhi:=hi
    cases o with
    | none =>
     have q2:decide (nextI none < 0)=true:=rfl
     have HE:=Lib.hid (upTo_end HN.out hb)
     go_wp2_with fail
     go_ret
     exact ⟨u5,rfl,HU2.out.below,by rw [HE.out]; exact HU2.out.row,fun k e=>by have:=HU2.out.past k e; omega,by rw [HE.out]; exact HU2.out.nil⟩
    | some n =>
     have q2:decide (nextI (some n) < 0)=false:=by unfold nextI; simp only [decide_eq_false_iff_not]; omega
     obtain ⟨hbn,⟨Pn,hPn,hnP⟩,hnl⟩:=HN.out
     have hnD:n < D.length:=(HLT.out Pn hPn).1 n hnP
     have HST2:=Lib.hid (upTo_step HN.out)
     have HNL:=Lib.hid hnl
     have hrow3:(wr.alloc (.cells #[.int .i64 (nextI (some n))] 3)).ownsRow 0 3 1 u5 (upTo Ps b).length ((upTo Ps b).map intV):=HU2.out.row.alloc _
     clear hnl hPn hnP
     go_wp2_with (at_builtin; refine wpList_append_lies rfl _ _ 24 rfl 3 i0 (.int .i64 0) 1 8 Tryz.underlying24 hi hz0 hz1 hz2 rfl (by decide) u5 (upTo Ps b).length ((upTo Ps b).map intV) rfl hrow3 ⟨wr.heap.size,0,none⟩ 1 1 [.int .i64 (nextI (some n))] rfl rfl (cell_one_new wr _ _) (by simp [Value.oneCell']) (by decide) (by unfold maxLen; omega) (by omega) ?_; intro v4 W4 hrow4 hgrow4 hlies4; simp only [put_lit,List.set_cons_succ,List.set_cons_zero]; have HU4:=Lib.hid (HU2.out.moves (n:=n) ((Moves.alloc wr u5 _).trans (Moves.append hgrow4 hlies4)) hrow4); have HV4:=Lib.hid (ownsRow_head hrow4); clear hrow4 hgrow4 hlies4)
     rw [← mix_zero Ps b (n+1)] at HU4
     go_loopw [71] (fun i wx=>∃ j:Nat,j≤l.length∧i = .int .i64 j∧Hid (UIn w (mix Ps b (n+1) j) (upTo Ps b++[n]) v4 wx)) (fun i _=>l.length - (intOf i).toNat)
     case atStart=>exact ⟨0,Nat.zero_le _,rfl,HU4⟩
     case round =>
      obtain ⟨j,hj,rfl,HU5⟩:=hrel
      by_cases hjl:j < l.length
      ·obtain ⟨t,i,hti⟩:∃ t i,l[j]?=some (t,i):=⟨_,_,List.getElem?_eq_getElem hjl⟩
       obtain ⟨g,cap,e1,k0,k1⟩:=HT.out.found j t i hti
       simp only [Value.slice.injEq,true_and] at e1
       obtain ⟨rfl,rfl⟩:=e1
       obtain ⟨gq,nq,capq,a,cap2,rfl,hiq,hnq,k2,hpc⟩:=HT.out.posts j t i hti
       have k3:=HT.out.seg
       have go:∀ (b i:Nat) u,w.cell? ⟨b,i,none⟩=some u→wr.cell? ⟨b,i,none⟩=some u:=fun b i u hu=>(HU5.out.below.cell (p:=⟨b,i,none⟩) (lt_of_cell hu)).trans hu
       have c0:=go _ _ _ k0
       have c1:=go _ _ _ k1
       have hPj:Ps[j]?=some (postsOf D t):=by rw [HPS.out]; exact listsP_at hti
       obtain ⟨P,hP⟩:∃ P,P=postsOf D t:=⟨_,rfl⟩
       rw [← hP] at hPj k2 hpc
       clear hP go
       go_wp2_with fail
       have HUa:=Lib.hid (HU5.out.alloc (.cells #[.string ⟨t.toArray⟩,.int .i64 i] 182))
       have x0:(wr.alloc (.cells #[.string ⟨t.toArray⟩,.int .i64 i] 182)).heap[wr.heap.size]?=some (.cells #[.string ⟨t.toArray⟩,.int .i64 i] 182 (0,0)):=heap_alloc_new _ _
       clear c0 c1 k0 k1
       generalize (wr.alloc (.cells #[.string ⟨t.toArray⟩,.int .i64 i] 182))=wa at *
       generalize wr.heap.size=fb at *
       have go:∀ (b i:Nat) u,w.cell? ⟨b,i,none⟩=some u→wa.cell? ⟨b,i,none⟩=some u:=fun b i u hu=>(HUa.out.below.cell (p:=⟨b,i,none⟩) (lt_of_cell hu)).trans hu
       have c0:wa.cell? ⟨fb,1,none⟩=some (.int .i64 i):=cell_block x0
       have c1:=go _ _ _ k3
       have c2:=go _ _ _ k2
       have c3:wa.cell? ⟨w.heap.size,j,none⟩=some (.int .i64 (cnt b P)):=HUa.out.cell (mix_at hPj)
       have c5:wa.frozen? ⟨w.heap.size,j,none⟩=false:=HUa.out.free
       clear x0
       go_quiet (fail)
       have hPr:=(HLT.out P (List.mem_of_getElem? hPj)).2.1
       have hPlen:=(HLT.out P (List.mem_of_getElem? hPj)).2.2
       have hcl:=cnt_le b P
       have hms:=mix_step (b:=b) (c:=n+1) hPj
       have hmk:=mix_keep (b:=b) (c:=n+1) hPj
       have hcs:=cnt_step b n hbn P hPr (fun x hx hbx=>HNL.out P (List.mem_of_getElem? hPj) x hx hbx)
       have HMS:=Lib.hid hms
       have HMK:=Lib.hid hmk
       have HPR:=Lib.hid hPr
       clear hms hmk hPr hPj
       by_cases hc:cnt b P < P.length
       ·obtain ⟨d,hd⟩:=cnt_lt hc
        obtain ⟨gp,rfl,k4⟩:=hpc _ d hd
        have c4:=go _ _ _ k4
        have q1:decide ((cnt b P:Int) < (P.length:Int))=true:=by simp; omega
        rw [hd] at hcs
        by_cases hdn:d=n
        ·subst hdn
         have q3:((d:Int) == nextI (some d))=true:=by simp [nextI]
         rw [if_pos rfl] at hcs
         have HCS:=Lib.hid hcs
         have q4:IntKind.i64.wrap ((cnt b P:Int)+1)=((cnt b P+1:Nat):Int):=by rw [IntWalk.i64_in _ (by omega)]; simp
         clear hd hpc go hcs
         go_wp2_with fail
         have hset:=(HUa.out.same (Same.drewN _ nq)).set (i:=j) (v:=cnt b P+1)
         rw [← HCS.out,HMS.out,HCS.out] at hset
         have hcast:((cnt b P:Int)+1)=((cnt b P+1:Nat):Int):=by simp
         rw [hcast]
         exact ⟨⟨j+1,by omega,by go_num,hset⟩,by simp [intOf]; omega⟩
        ·have q3:((d:Int) == nextI (some n))=false:=by rw [beq_eq_false_iff_ne]; show ¬ ((d:Int)=(n:Int)); omega
         rw [if_neg (fun e=>hdn (Option.some.inj e))] at hcs
         have HCS:=Lib.hid hcs
         clear hd hpc go hcs
         go_wp2_with fail
         exact ⟨⟨j+1,by omega,by go_num,by rw [← HMK.out HCS.out]; exact HUa.out.same (Same.drewN _ _)⟩,by simp [intOf]; omega⟩
       ·have q1:decide ((cnt b P:Int) < (P.length:Int))=false:=by simp; omega
        rw [List.getElem?_eq_none (by omega),if_neg (by simp)] at hcs
        have HCS:=Lib.hid hcs
        clear hpc go hcs
        go_wp2_with fail
        exact ⟨⟨j+1,by omega,by go_num,by rw [← HMK.out HCS.out]; exact HUa.out.same (Same.drewN _ _)⟩,by simp [intOf]; omega⟩
      ·obtain rfl:j=l.length:=by omega
       rw [← hPl,mix_all] at HU5
       obtain ⟨g4,cap4,hv4⟩:=HV4.out
       go_wp2_with fail
       have hlen:(upTo Ps (n+1)).length=(upTo Ps b).length+1:=by rw [HST2.out]; simp
       exact ⟨⟨n+1,by omega,by rw [HST2.out]; exact HU5,by rw [hlen,hv4]; rfl⟩,by
        rw [hv4]
        show D.length+1 - ((upTo Ps b).length+1) < D.length+1 - sliceLen u5
        rw [hsl]
        omega⟩
end Go.Proofs.Ts
namespace Go.Proofs.Ts
open Go Go.RowKit
def docsOf (D:List (List (List UInt8))) (acc:List UInt8→Bool):List Nat:=(List.range D.length).filter fun d=>(D.getD d []).any acc
theorem docsOf_terms {D:List (List (List UInt8))} {T:List (List UInt8)} (hT:∀ x,x∈T↔postsOf D x≠[]) (acc:List UInt8→Bool):upTo (listsP D (hits acc T 0)) D.length=docsOf D acc:=by
 unfold upTo docsOf
 apply List.filter_congr
 intro d hd
 rw [List.mem_range] at hd
 rw [Bool.eq_iff_iff,List.any_eq_true,List.any_eq_true]
 constructor
 ·rintro ⟨P,hP,hc⟩
  obtain ⟨p,hp,rfl⟩:=List.mem_map.1 hP
  have hm:d∈postsOf D p.1:=by simpa using hc
  obtain ⟨ws,h1,h2⟩:=(postsOf_mem _ _ _).1 hm
  refine ⟨p.1,?_,(hits_mem hp).1⟩
  rw [List.getD_eq_getElem?_getD,h1]
  exact h2
 ·rintro ⟨x,hx,ha⟩
  rw [List.getD_eq_getElem?_getD,List.getElem?_eq_getElem hd,Option.getD_some] at hx
  have hm:d∈postsOf D x:=(postsOf_mem _ _ _).2 ⟨_,List.getElem?_eq_getElem hd,hx⟩
  have hxT:x∈T:=(hT x).2 (List.ne_nil_of_mem hm)
  obtain ⟨i,hi,he⟩:=List.getElem_of_mem hxT
  refine ⟨postsOf D x,List.mem_map.2 ⟨(x,i),?_,rfl⟩,by simpa using hm⟩
  unfold hits
  rw [List.mem_filter]
  refine ⟨?_,ha⟩
  rw [List.mem_zipIdx_iff_getElem?]
  simp only
  rw [← he]
  exact List.getElem?_eq_getElem hi
set_option maxHeartbeats 1000000 in
theorem told_nil (w:World):Calls Tryz.prog 40 #[.nilIface] w fun e w'=>e = .returned (.tuple #[.int .i64 0,.int .i64 (-1)])∧Below w.heap.size w w':=by
 go_enter Tryz.func40,Tryz.ntmps40
 go_wp2_with fail
 go_ret2
 exact ⟨rfl,((Below.refl _ w).alloc (Nat.le_refl _) _).alloc (by simp) _⟩
end Go.Proofs.Ts
namespace Go.Proofs.Ts
open Go Go.RowKit
section
variable {P:Program} {w:World}
theorem run_append_none (t ty e:TypeId) (i:TypeInfo) (ht:P.underlying t=some (.slice e)) (hi:P.info? e=some i) (a:Option Addr) (c:Nat) :
  (Builtin.append_ #[t,t] ty #[.slice none 0 0,.slice a 0 c]).run P w = .ok (.slice none 0 0) w:=by
 cases a <;> simp [Builtin.append_,run_underlying ht,sizeOf,typeInfo,hi,Builtin.lenOf,Builtin.firstCells,loadCells,loadCellsFrom]
theorem run_append_copy (t ty e:TypeId) (i:TypeInfo) (z:Value) (size bytes:Nat) (ht:P.underlying t=some (.slice e)) (hi:P.info? e=some i) (hz:i.zero=some z)
  (hsize:i.size=size) (hby:i.bytes=bytes) (hzs:z.cells.size=size) (hsz:0 < size)
  (a:Option Addr) (m c:Nat) (news:List Value) (hl:news.length=m * size) (hnews:∀ j u,news[j]?=some u → ∃ b,a=some b∧w.cell? (b.add j)=some u) (h1:∀ u∈news,u.oneCell'=true)
  (h63:m≤maxLen) (hbytes:m * bytes≤140737488355328) :
  ∃ v' w',(Builtin.append_ #[t,t] ty #[.slice none 0 0,.slice a m c]).run P w = .ok v' w'∧w'.ownsRow 0 e size v' m news∧Below w.heap.size w w'∧Past w.heap.size v':=by
 cases m with
 | zero =>
  have hn:news=[]:=List.eq_nil_of_length_eq_zero (by simpa using hl)
  subst hn
  exact ⟨_,_,run_append_none t ty e i ht hi a c,World.ownsRow_nil _ _ _ _,Below.refl _ _,fun k e=>by cases e⟩
 | succ m =>
  obtain ⟨u,hu⟩:∃ u,news[0]?=some u:=⟨_,List.getElem?_eq_getElem (by rw [hl]; exact Nat.mul_pos (Nat.succ_pos _) hsz)⟩
  obtain ⟨b,rfl,_⟩:=hnews 0 u hu
  obtain ⟨v',w',hr,h2,h3,h4⟩:=run_append_lies (P:=P) t ty e i z size bytes ht hi hz hsize hby hzs hsz (.slice none 0 0) 0 [] (World.ownsRow_nil _ _ _ _) b (m+1) c news hl
   (fun j u hj=>by obtain ⟨b',e',h'⟩:=hnews j u hj; cases e'; exact h') h1 (Nat.succ_pos _) (by omega) (by rw [Nat.zero_add]; exact hbytes)
  rw [Nat.zero_add,List.nil_append] at h2
  refine ⟨v',w',hr,h2,(Below.refl _ w).grown h3 (Nat.le_refl _) (fun k e=>by cases e),fun k hk=>?_⟩
  rcases h4 with ⟨h5,_⟩ | ⟨h5,_⟩
  ·rw [hk] at h5; cases h5
  ·rw [hk] at h5; cases h5; exact Nat.le_refl _
theorem wpList_append_copy {ops:Array Oper} {rest:List Oper} {o:Oper} {act:Act} {Q:Exit→Act→World→Prop} (hgd:o.guard=none) (s x:Operand) (t:TypeId)
  (ho:o.op = .call { callee := .builtin .append,args:=#[s,x],argTypes:=#[t,t] })
  (e:TypeId) (i:TypeInfo) (z:Value) (size bytes:Nat) (ht:P.underlying t=some (.slice e)) (hi:P.info? e=some i) (hz:i.zero=some z)
  (hsize:i.size=size) (hby:i.bytes=bytes) (hzs:z.cells.size=size) (hsz:0 < size) (hs:act.eval s = .slice none 0 0)
  (a:Option Addr) (m c:Nat) (news:List Value) (hx:act.eval x = .slice a m c) (hl:news.length=m * size) (hnews:∀ j u,news[j]?=some u → ∃ b,a=some b∧w.cell? (b.add j)=some u) (h1:∀ u∈news,u.oneCell'=true)
  (h63:m≤maxLen) (hbytes:m * bytes≤140737488355328)
  (h:∀ v' w',w'.ownsRow 0 e size v' m news→Below w.heap.size w w'→Past w.heap.size v'→wpList P ops Q rest (act.put o.dst v') w'):wpList P ops Q (o :: rest) act w:=by
 refine wpList_plain hgd fun K hK=>?_
 obtain ⟨v',w',hr,h2,h3,h4⟩:=run_append_copy (P:=P) t o.type e i z size bytes ht hi hz hsize hby hzs hsz a m c news hl hnews h1 h63 hbytes
 unfold Oper.wp execOp
 simp only [ho,resolve,invoke,builtin,Sem.run_bind,Sem.run_pure,Result.andThen_ok,List.map_toArray,List.map_cons,List.map_nil,hs,hx,hr]
 exact hK _ _ (h v' w' h2 h3 h4)
end
section
variable {w w':World}
theorem RowsIn.strKept {B:Nat} {V:Value} {D:List DS} (h:RowsIn B w V D) (hk:∀ (k:Nat) cs t r,w.heap[k]?=some (.cells cs t r)→t≠9→w'.heap[k]?=w.heap[k]?):RowsIn B w' V D:=by
 have go:∀ {e size n:Nat} {v:Value} {xs:List Value},e≠9→w.ownsRow 0 e size v n xs→w'.ownsRow 0 e size v n xs:=fun he hr=>ownsRow_typed hr fun k cs r hk'=>hk _ _ _ _ hk' he
 exact ⟨go (by decide) h.row,h.past,fun i s hi=>go (by decide) (h.erow i s hi),h.epast,h.apart,h.apartV⟩
theorem DictIs.strKept {db:Nat} {R:Nat→Prop} {Λ:Nat→List Word} {ρ:Nat→Nat} {D:List DS} (h:DictIs w db R Λ ρ D) (hk:∀ (k:Nat) cs t r,w.heap[k]?=some (.cells cs t r)→t≠9→w'.heap[k]?=w.heap[k]?):DictIs w' db R Λ ρ D:=by
 obtain ⟨V,h1,h2⟩:=h.mem
 exact ⟨⟨V,(hk _ _ _ _ h1 (by decide)).trans h1,h2.strKept hk⟩,h.root,h.state⟩
end
end Go.Proofs.Ts
namespace Go.Proofs.Ts
open Go Go.RowKit
def Own (ov:Value) (docs:List ByteArray) (w1:World) (k:Nat) (w:World):Prop :=
 Mod (fun b=>ov.ownBlock=some b) w1 w ∧ ∀ og,ov.ownBlock=some og → ∃ cur:Array Value,w.heap[og]?=some (.cells cur 9 (0,0)) ∧ ∀ j (h:j < docs.length),k≤j→cur[j]?=some (.string docs[j])
theorem Own.step {ov:Value} {docs:List ByteArray} {w1 w:World} {k og:Nat} {v:Value} (h:Own ov docs w1 k w) (ho:ov.ownBlock=some og):Own ov docs w1 (k+1) (w.setCell ⟨og,k,none⟩ v):=by
 obtain ⟨h1,h2⟩:=h
 refine ⟨h1.trans (Mod.setCell w ⟨og,k,none⟩ v fun _=>ho),fun og' ho'=>?_⟩
 obtain rfl:og=og':=Option.some.inj (ho.symm.trans ho')
 obtain ⟨cur,h3,h4⟩:=h2 og ho
 refine ⟨_,heap_setCell_same w og k _ _ _ h3,fun j hj hk=>?_⟩
 rw [Array.getElem?_setIfInBounds_ne (by omega)]
 exact h4 j hj (by omega)
theorem Own.same {ov:Value} {docs:List ByteArray} {w1 w w':World} {k:Nat} (h:Own ov docs w1 k w) (hs:Same w w'):Own ov docs w1 k w':=by
 obtain ⟨n,rfl⟩:=hs
 exact ⟨h.1.trans (Mod.same (Same.drewN w n)),h.2⟩
theorem ownsRow_strs {w:World} {ov:Value} {docs:List ByteArray} (h:w.ownsRow 0 9 1 ov docs.length (docs.map Value.string)):StrsIs w ov docs:=by
 obtain ⟨a,cap,rfl⟩:=ownsRow_form h
 refine ⟨a,cap,rfl,fun i hi=>?_⟩
 obtain ⟨g,cap',e,hc⟩:=ownsRow_cell h (j:=i) (u := .string docs[i]) (by simp [hi])
 simp only [Value.slice.injEq,true_and] at e
 obtain ⟨rfl,rfl⟩:=e
 exact ⟨g,0,rfl,by rw [Nat.zero_add]; exact hc⟩
end Go.Proofs.Ts
namespace Go.Proofs.YtffjomnnkilhgaaGreatDoor.card
open Go Go.ChangeShapes Go.WideShapes Go.ChangeAt Go.RowKit
theorem own:ownKnob Tryz.prog.godebug=none:=by kernel_rfl
theorem laidOut:laidOutB Tryz.prog=true:=by kernel_rfl
theorem cellsS:Tryz.prog.cellsOf 9=1:=by kernel_rfl
def litV:DataW Unit→Value
 | .lit (.int k n) => .int k n
 | _ => .nilIface
def rowV:DataW Unit→List Value
 | .agg l=>l.map litV
 | _=>[]
def rowsV:DataW Unit→List Value
 | .agg l=>l.flatMap rowV
 | _=>[]
noncomputable def laidWorld (os:Os):World :=
 let w0:=World.holding Tryz.prog os ⟨#[],#[],[]⟩
 let h1:=w0.heap.modify 0 fun
   | .cells _ t frozen => .cells #[.iface 327 (.agg #[typeHandle Tryz.prog 76])] t frozen
   | o=>o
 let h2:=h1.modify 4 fun
   | .cells _ t frozen => .cells (rowV Rows.laid_math_bits_deBruijn64tab).toArray t frozen
   | o=>o
 let h3:=h2.modify 3 fun
   | .cells _ t frozen => .cells (rowsV Rows.laid_unicode_utf8_acceptRanges).toArray t frozen
   | o=>o
 let h4:=h3.modify 2 fun
   | .cells _ t frozen => .cells (rowV Rows.laid_unicode_utf8_first).toArray t frozen
   | o=>o
 { w0 with heap:=h4 }
end Go.Proofs.YtffjomnnkilhgaaGreatDoor.card
namespace Go.Proofs.YtffjomnnkilhgaaGreatDoor.card
open Go Go.ChangeShapes Go.WideShapes Go.ChangeAt Go.RowKit
theorem shaped_block {W:World} (hS:W.ShapedOpen Tryz.prog) {g:Nat} {zero:Array Value} {t:TypeId} (hg:g < Tryz.prog.globals.size) (h:((begin Tryz.prog (fun _ _=>0) default).world.heap[g]?).bind Obj.row?=some (zero,t)):∃ cs,W.heap[g]?=some (.cells cs t (0,0)):=by
 obtain ⟨cs,h1,_⟩:=hS.1 g zero t hg h
 exact ⟨cs,h1⟩
theorem row_type {P:Program} {g:Nat} {t:TypeId} (h:(((begin P (fun _ _=>0) default).world.heap[g]?).bind Obj.row?).map (·.2)=some t):∃ zero,((begin P (fun _ _=>0) default).world.heap[g]?).bind Obj.row?=some (zero,t):=by
 cases e:((begin P (fun _ _=>0) default).world.heap[g]?).bind Obj.row? with
 | none=>rw [e] at h; cases h
 | some r=>rw [e] at h; exact ⟨r.1,by rw [← Option.some.inj h]⟩
theorem accept_data:(Rows.laid_unicode_utf8_acceptRanges:DataW Unit)=Go.Lib.acceptData:=by kernel_rfl
set_option maxRecDepth 100000 in
theorem tabs_in {W : World} {l : List (String × DataW Unit)} (hL : laidMetH Tryz.prog l W) (hS : W.ShapedOpen Tryz.prog) (h1 : ("unicode/utf8.first", (Rows.laid_unicode_utf8_first : DataW Unit)) ∈ l.filter fun x => x.2.handleName?.isNone) (h2 : ("unicode/utf8.acceptRanges", (Rows.laid_unicode_utf8_acceptRanges : DataW Unit)) ∈ l.filter fun x => x.2.handleName?.isNone) : Ts.TabsIn W := by
 have hm:=(laidMetH_iff.1 hL).1
 obtain ⟨z1,e1⟩:=row_type (P:=Tryz.prog) (g:=2) (t:=412) (by kernel_rfl)
 obtain ⟨z2,e2⟩:=row_type (P:=Tryz.prog) (g:=3) (t:=415) (by kernel_rfl)
 refine ⟨shaped_block hS (of_decide_eq_true (by kernel_rfl)) e1,shaped_block hS (of_decide_eq_true (by kernel_rfl)) e2,?_⟩
 have r1:=Go.Lib.laidMet.reads hm h1
 have r2:=Go.Lib.laidMet.reads hm h2
 rw [accept_data] at r2
 rw [show (Rows.laid_unicode_utf8_first:DataW Unit)=Go.Lib.firstData from Pinned.utf8First_eq] at r1
 exact utf8Tabs_of_readsT (ρ:=Tryz.lays196_ren) (U8Types.of196 Tryz.lays196) ⟨by kernel_rfl,by kernel_rfl,by kernel_rfl,by kernel_rfl,by kernel_rfl,by kernel_rfl,by kernel_rfl⟩ r1 r2
end Go.Proofs.YtffjomnnkilhgaaGreatDoor.card
