/- Lemmas towards the statement Simple of termsearch: walks of the program's functions and plain laws on lists (TsWalk, TsAutB, TsOver, TsYield, TsCompile, TsPlanA, TsUtf, TsNearP, TsNearA, TsNearB, TsWalkR, TsOverR, TsNearD, TsRead, TsParsQ, TsSetP, TsSetO, TsSetB, TsSetM). Conditions: those that each theorem names. -/
import Derived.Test.YtffjomnnkilhgaaGreatDoorSimplePB
import Derived.Test.YtffjomnnkilhgaaGreatDoorSimplePE
import Derived.Deep.CutBlock
import Derived.Deep.DeepCutAuto
import Derived.Shelf.Unicode.DecodeSlow
import Derived.Lib.DecodeNEq
import Derived.Lib.ValidU
import Derived.Laws.IdiomStrings
import Derived.Test.YtffjomnnkilhgaaGreatDoorShelf
import Derived.Deep.WholeRow
import Derived.Laws.Tables
import Derived.Test.YtffjomnnkilhgaaGreatDoorSimplePA
import Derived.Laws.Bits64b
import Derived.Lib.TrailingZeros
set_option linter.unusedVariables false
set_option linter.unusedSimpArgs false
set_option linter.unusedSectionVars false
namespace Go.Proofs.Ts
open Go Go.RowKit
def leansOn (t:TypeId):Bool:=[172,207,242,158,436,249,437,5,
 352,353,440,441,447,448,
 412,415,456,21,310,260,404,306].contains t
def KeepT (w w':World):Prop:=w.heap.size≤w'.heap.size ∧ ∀ (k:Nat) cs t r,w.heap[k]?=some (.cells cs t r)→leansOn t=true→w'.heap[k]?=w.heap[k]?
def KeepB (v:Value) (w w':World):Prop:=w.heap.size≤w'.heap.size ∧ ∀ (k:Nat) cs t r,w.heap[k]?=some (.cells cs t r)→leansOn t=true→v.ownBlock≠some k→w'.heap[k]?=w.heap[k]?
def StepsB (B:Nat) (w w':World):Prop:=w'.os=w.os∧w'.tape=w.tape∧w'.output=w.output∧w.heap.size≤w'.heap.size ∧ ∀ (k:Nat) o,w.heap[k]?=some o→(k < B ∨ ∀ cs r,o ≠ .cells cs 5 r)→w'.heap[k]?=some o
structure AutI (iv:Value) (ok:Nat→Prop) (step:Nat→UInt8→Option Nat) (ends:Nat→Bool):Prop where
 ex : ∃ T v fE fT rE rT, iv = .iface T v ∧ (∀ fu w, (method (fu + 1) T v "Ends").run Tryz.prog w = .ok (fE, rE) w) ∧ (∀ fu w, (method (fu + 1) T v "Step").run Tryz.prog w = .ok (fT, rT) w) ∧
  (∀ args w,(callFunc fE args).run Tryz.prog w = .ok (.enter fE args) w)∧(∀ args w,(callFunc fT args).run Tryz.prog w = .ok (.enter fT args) w) ∧
  (∀ s w,ok s→Calls Tryz.prog fE #[rE,.int .i64 s] w fun e w'=>e = .returned (.bool (ends s))∧Same w w') ∧
  ∀ s c w,ok s→Calls Tryz.prog fT #[rT,.int .i64 s,.int .u8 (UInt8.toNat c)] w fun e w'=>(∃ t:Nat,e = .returned (.tuple #[.int .i64 t,.bool (step s c).isSome]) ∧ ∀ u,step s c=some u→t=u)∧Same w w'
 next:∀ s c t,ok s→step s c=some t→ok t
 few:∀ s,ok s→s≤1000000
structure WM (V:Value) (D:List DS) (db:Nat) (iv yf:Value) (bd ba by' bw:Nat) (w:World):Prop where
 dct:w.heap[db]?=some (.cells #[V] 172 (0,0))
 rows:RowsIn 0 w V D
 bxd:w.heap[bd]?=some (.cells #[ptrV db] 158 (0,0))
 bxa:w.heap[ba]?=some (.cells #[iv] 436 (0,0))
 bxy:w.heap[by']?=some (.cells #[yf] 249 (0,0))
 bxw:w.heap[bw]?=some (.cells #[.func (.func 240) #[] #[ptrV bd,ptrV ba,ptrV by',ptrV bw]] 437 (0,0))
def bytesV (p:List UInt8):List Value:=p.map fun c => .int .u8 c.toNat
theorem KeepT.refl (w:World):KeepT w w:=⟨Nat.le_refl _,fun _ _ _ _ _ _=>rfl⟩
theorem KeepT.toB {w w':World} (h:KeepT w w') (v:Value):KeepB v w w':=⟨h.1,fun k cs t r h1 h2 _=>h.2 k cs t r h1 h2⟩
theorem KeepT.same {w w':World} (h:Same w w'):KeepT w w':=by
 obtain ⟨n,rfl⟩:=h
 exact ⟨Nat.le_refl _,fun _ _ _ _ _ _=>rfl⟩
theorem KeepT.trans {a b c:World} (h:KeepT a b) (k:KeepT b c):KeepT a c:=⟨Nat.le_trans h.1 k.1,fun j cs t r h1 h2=>(k.2 j cs t r ((h.2 j cs t r h1 h2).trans h1) h2).trans (h.2 j cs t r h1 h2)⟩
theorem KeepB.refl (v:Value) (w:World):KeepB v w w:=(KeepT.refl w).toB v
theorem KeepB.trans {v:Value} {a b c:World} (h:KeepB v a b) (k:KeepB v b c):KeepB v a c:=⟨Nat.le_trans h.1 k.1,fun j cs t r h1 h2 h3=>(k.2 j cs t r ((h.2 j cs t r h1 h2 h3).trans h1) h2 h3).trans (h.2 j cs t r h1 h2 h3)⟩
theorem KeepT.row {w w':World} {B e size n:Nat} {v:Value} {xs:List Value} (h:KeepT w w') (he:leansOn e=true) (hr:w.ownsRow B e size v n xs):w'.ownsRow B e size v n xs:=ownsRow_typed hr fun k cs r hk=>h.2 k cs _ r hk he
theorem StepsB.same {B:Nat} {w w':World} (h:Same w w'):StepsB B w w':=by
 obtain ⟨n,rfl⟩:=h
 exact ⟨rfl,rfl,rfl,Nat.le_refl _,fun _ _ h _=>h⟩
theorem StepsB.alloc (B:Nat) (w:World) (o:Obj):StepsB B w (w.alloc o):=⟨rfl,rfl,rfl,by simp,fun k o' h _=>(Below.heap_alloc w o k (Array.getElem?_eq_some_iff.1 h).1).trans h⟩
theorem StepsB.trans {B:Nat} {a b c:World} (h:StepsB B a b) (k:StepsB B b c):StepsB B a c :=
 ⟨k.1.trans h.1,k.2.1.trans h.2.1,k.2.2.1.trans h.2.2.1,Nat.le_trans h.2.2.2.1 k.2.2.2.1,fun j o h1 h2=>k.2.2.2.2 j o (h.2.2.2.2 j o h1 h2) h2⟩
theorem StepsB.moves {B n:Nat} {w w':World} {v v':Value} {xs:List Value} (h:Moves w v w' v') (hr:w.ownsRow 0 5 1 v n xs) (hp:Past B v):StepsB B w w':=by
 refine ⟨h.grown.os,h.grown.tape,h.grown.output,h.grown.size,fun k o h1 h2=>(h.block (Array.getElem?_eq_some_iff.1 h1).1 fun e=>?_).trans h1⟩
 rcases h2 with h2 | h2
 ·have:=hp k e; omega
 ·rcases hr.2 with ⟨rfl,_⟩ | ⟨g,cap,cur,rfl,_,hg,_⟩
  ·cases e
  ·cases e
   rw [hg] at h1
   cases h1
   exact h2 _ _ rfl
theorem KeepB.moves {w w':World} {v v':Value} (h:Moves w v w' v'):KeepB v w w':=⟨h.size,fun k cs t r h1 _ h3=>h.block (Array.getElem?_eq_some_iff.1 h1).1 h3⟩
theorem KeepT.alloc (w:World) (o:Obj):KeepT w (w.alloc o):=⟨by simp,fun k cs t r h _=>Below.heap_alloc w o k (Array.getElem?_eq_some_iff.1 h).1⟩
def KeepG (w w':World):Prop:=∀ (k:Nat) cs t r,w.heap[k]?=some (.cells cs t r)→leansOn t=true→t≠5→w'.heap[k]?=w.heap[k]?
theorem KeepG.below {w w':World} (h:Below w.heap.size w w'):KeepG w w':=fun k cs t r hk _ _=>h.block k (Array.getElem?_eq_some_iff.1 hk).1
theorem KeepG.trans {a b c:World} (h:KeepG a b) (k:KeepG b c):KeepG a c:=fun j cs t r h1 h2 h3=>(k j cs t r ((h j cs t r h1 h2 h3).trans h1) h2 h3).trans (h j cs t r h1 h2 h3)
theorem KeepT.g {w w':World} (h:KeepT w w'):KeepG w w':=fun k cs t r h1 h2 _=>h.2 k cs t r h1 h2
theorem KeepB.g {w w':World} {v:Value} {n:Nat} {xs:List Value} (h:KeepB v w w') (hr:w.ownsRow 0 5 1 v n xs):KeepG w w':=fun k cs t r h1 h2 h3=>h.2 k cs t r h1 h2 fun e=>by
 rcases hr.2 with ⟨rfl,_⟩ | ⟨g,cap,cur,rfl,_,hg,_⟩
 ·cases e
 ·cases e
  rw [hg] at h1
  cases h1
  exact h3 rfl
theorem KeepT.below {w w':World} (h:Below w.heap.size w w'):KeepT w w':=⟨h.size,fun k cs t r hk _=>h.block k (Array.getElem?_eq_some_iff.1 hk).1⟩
theorem StepsB.below {B:Nat} {w w':World} (h:Below w.heap.size w w'):StepsB B w w':=⟨h.os,h.tape,h.output,h.size,fun k o hk _=>(h.block k (Array.getElem?_eq_some_iff.1 hk).1).trans hk⟩
theorem WM.kept {V:Value} {D:List DS} {db:Nat} {iv yf:Value} {bd ba by' bw n:Nat} {w w':World} {v:Value} {xs:List Value} (h:WM V D db iv yf bd ba by' bw w) (hr:w.ownsRow 0 5 1 v n xs) (hk:KeepB v w w'):WM V D db iv yf bd ba by' bw w':=by
 have ne:∀ (k:Nat) cs t r,w.heap[k]?=some (.cells cs t r)→t≠5→v.ownBlock≠some k:=fun k cs t r h1 h2 e=>by
  rcases hr.2 with ⟨rfl,_⟩ | ⟨g,cap,cur,rfl,_,hg,_⟩
  ·cases e
  ·cases e
   rw [hg] at h1
   cases h1
   exact h2 rfl
 have go:∀ (k:Nat) cs t r,w.heap[k]?=some (.cells cs t r)→leansOn t=true→t≠5→w'.heap[k]?=some (.cells cs t r):=fun k cs t r h1 h2 h3=>(hk.2 k cs t r h1 h2 (ne k cs t r h1 h3)).trans h1
 have gr:∀ {e size n:Nat} {u:Value} {ys:List Value},leansOn e=true→e≠5→w.ownsRow 0 e size u n ys→w'.ownsRow 0 e size u n ys:=fun h1 h2 h3=>ownsRow_typed h3 fun k cs r h4=>(go k cs _ r h4 h1 h2).trans h4.symm
 exact ⟨go _ _ _ _ h.dct (by decide) (by decide),⟨gr (by decide) (by decide) h.rows.row,h.rows.past,fun i s hi=>gr (by decide) (by decide) (h.rows.erow i s hi),h.rows.epast,h.rows.apart,h.rows.apartV⟩,go _ _ _ _ h.bxd (by decide) (by decide),go _ _ _ _ h.bxa (by decide) (by decide),go _ _ _ _ h.bxy (by decide) (by decide),go _ _ _ _ h.bxw (by decide) (by decide)⟩
structure WAt (V:Value) (D:List DS) (db:Nat) (iv yf:Value) (bd ba by' bw B:Nat) (p:List UInt8) (pv:Value) (J:List (List UInt8 × Nat)→World→Prop) (w0:World) (ys:List (List UInt8 × Nat)) (w:World):Prop where
 wm:WM V D db iv yf bd ba by' bw w
 row:w.ownsRow 0 5 1 pv p.length (bytesV p)
 keep:KeepB pv w0 w
 j:J ys w
 size:B≤w.heap.size
theorem WAt.same {V:Value} {D:List DS} {db:Nat} {iv yf:Value} {bd ba by' bw B:Nat} {p:List UInt8} {pv:Value} {J:List (List UInt8 × Nat)→World→Prop} {w0:World} {ys:List (List UInt8 × Nat)} {w w':World} (h:WAt V D db iv yf bd ba by' bw B p pv J w0 ys w)
  (hJ:∀ ys w w',J ys w→StepsB B w w'→J ys w') (hS:Same w w'):WAt V D db iv yf bd ba by' bw B p pv J w0 ys w' :=
 ⟨h.wm.kept h.row ((KeepT.same hS).toB pv),(KeepT.same hS).row (by decide) h.row,h.keep.trans ((KeepT.same hS).toB pv),hJ _ _ _ h.j (StepsB.same hS),by rw [hS.heap]; exact h.size⟩
theorem WAt.alloc {V:Value} {D:List DS} {db:Nat} {iv yf:Value} {bd ba by' bw B:Nat} {p:List UInt8} {pv:Value} {J:List (List UInt8 × Nat)→World→Prop} {w0:World} {ys:List (List UInt8 × Nat)} {w:World} (h:WAt V D db iv yf bd ba by' bw B p pv J w0 ys w)
  (hJ:∀ ys w w',J ys w→StepsB B w w'→J ys w') (o:Obj):WAt V D db iv yf bd ba by' bw B p pv J w0 ys (w.alloc o) :=
 ⟨h.wm.kept h.row ((KeepT.alloc w o).toB pv),(KeepT.alloc w o).row (by decide) h.row,h.keep.trans ((KeepT.alloc w o).toB pv),hJ _ _ _ h.j (StepsB.alloc B w o),by have:=h.size; simp; omega⟩
theorem WAt.yields {V:Value} {D:List DS} {db:Nat} {iv yf:Value} {bd ba by' bw B:Nat} {p:List UInt8} {pv:Value} {J J':List (List UInt8 × Nat)→World→Prop} {w0:World} {ys ys':List (List UInt8 × Nat)} {w w':World} (h:WAt V D db iv yf bd ba by' bw B p pv J w0 ys w)
  (hK:KeepT w w') (hj:J' ys' w'):WAt V D db iv yf bd ba by' bw B p pv J' w0 ys' w' :=
 ⟨h.wm.kept h.row (hK.toB pv),hK.row (by decide) h.row,h.keep.trans (hK.toB pv),hj,Nat.le_trans h.size hK.1⟩
section
variable {V:Value} {D:List DS} {db:Nat} {iv yf:Value} {bd ba by' bw B:Nat} {p:List UInt8} {pv pv':Value} {J J':List (List UInt8 × Nat)→World→Prop} {w0:World} {ys ys':List (List UInt8 × Nat)} {Wb Wc W4 W5:World} {c:UInt8}
theorem WAt.grow (h:WAt V D db iv yf bd ba by' bw B p pv J w0 ys Wb) (hJ:∀ ys w w',J ys w→StepsB B w w'→J ys w') (hp:Past B pv) (hmv:Moves Wb pv W4 pv') (hrow4:W4.ownsRow 0 5 1 pv' (p.length+1) (bytesV p++[.int .u8 c.toNat])) :
  WM V D db iv yf bd ba by' bw W4∧W4.ownsRow 0 5 1 pv' (p++[c]).length (bytesV (p++[c]))∧Past B pv'∧B≤W4.heap.size∧J ys W4:=by
 refine ⟨h.wm.kept h.row (KeepB.moves hmv),?_,hmv.past hp h.size,Nat.le_trans h.size hmv.size,hJ _ _ _ h.j (StepsB.moves hmv h.row hp)⟩
 rw [List.length_append,List.length_singleton]
 unfold bytesV at *
 rw [List.map_append]
 exact hrow4
theorem WAt.back (h:WAt V D db iv yf bd ba by' bw B p pv J w0 ys Wb) (hmv:Moves Wb pv W4 pv') (hcs:Wb.heap.size≤Wc.heap.size) (hold:∀ k,k < Wb.heap.size→Wc.heap[k]?=Wb.heap[k]?) (hl:Lies Wc W4 pv pv') (hel:Elder 5 1 pv pv' p.length (bytesV p))
  (hwm4:WM V D db iv yf bd ba by' bw W4) (hrow4:W4.ownsRow 0 5 1 pv' (p++[c]).length (bytesV (p++[c]))) (hk5:KeepB pv' W4 W5) (hrow5:W5.ownsRow 0 5 1 pv' (p++[c]).length (bytesV (p++[c]))) (hj5:J' ys' W5) :
  WAt V D db iv yf bd ba by' bw B p pv J' w0 ys' W5:=by
 refine ⟨hwm4.kept hrow4 hk5,?_,⟨Nat.le_trans h.keep.1 (Nat.le_trans hmv.size hk5.1),fun k cs t r h1 h2 h3=>?_⟩,hj5,Nat.le_trans h.size (Nat.le_trans hmv.size hk5.1)⟩
 ·rcases hl with ⟨hb,_⟩ | ⟨hb,hg,_⟩
  ·refine hel W5 1 [.int .u8 c.toNat] hb ?_
   unfold bytesV at *
   rw [List.length_append,List.map_append] at hrow5
   exact hrow5
  ·have hne:∀ g,pv.ownBlock=some g→pv'.ownBlock≠some g:=fun g e e'=>by
    rw [hb] at e'
    have:=Option.some.inj e'
    have:=(h.row.lt g e).2
    omega
   refine ownsRow_typed h.row fun k cs r hk=>?_
   have hkl:=(Array.getElem?_eq_some_iff.1 hk).1
   have h4:W4.heap[k]?=Wb.heap[k]?:=(hg.block k (by omega) (by simp)).trans (hold k hkl)
   refine (hk5.2 k cs _ r (h4.trans hk) (by decide) fun e=>?_).trans h4
   rw [hb] at e
   have:=Option.some.inj e
   omega
 ·have hb0:=h.keep.2 k cs t r h1 h2 h3
  have hkl:k < Wb.heap.size:=(Array.getElem?_eq_some_iff.1 (hb0.trans h1)).1
  have h4:W4.heap[k]?=Wb.heap[k]?:=hmv.block hkl h3
  refine ((hk5.2 k cs t r (h4.trans (hb0.trans h1)) h2 fun e=>?_).trans h4).trans hb0
  rcases hmv.lies with hb | ⟨g,hb,hg⟩
  ·exact h3 (hb ▸ e)
  ·rw [hb] at e
   have:=Option.some.inj e
   omega
end
theorem wpOrd_skipT {P:Program} {S:World→Prop} {l:List Oper} {x:Nat} {Q:Act→World→Prop} {i:Nat} {rest:List (Nat × Bool)} {a:Act} {w:World} {o:Oper} (ho:l[i]?=some o) (hw:Region.wanted o (yielded l.toArray a.tmps)=false)
  (h:wpOrd P l S x Q rest (a.put o.dst undef) w):wpOrd P l S x Q ((i,true) :: rest) a w:=by
 unfold wpOrd
 rw [ho]
 simp only [hw,Bool.false_eq_true,if_false]
 exact h
theorem ownsRow_cells4 {w:World} {B e size n g:Nat} {v:Value} {xs:List Value} (h:w.ownsRow B e size v n xs) (hg:v.ownBlock=some g):∃ cur,w.heap[g]?=some (.cells cur e (0,0)):=by
 rcases h.2 with ⟨rfl,_⟩ | ⟨g',cap,cur,rfl,_,hc,_⟩
 ·cases hg
 ·cases hg; exact ⟨cur,hc⟩
theorem Tryz.info5:(Tryz.prog.info? 5).map (fun i=>(i.zero,i.size,i.bytes))=some (some (.int .u8 0),1,1):=by kernel_rfl
theorem asc_few {es:List (UInt8 × Nat)} (h:Asc es):es.length≤256:=by
 have h1:(es.map fun p=>p.1.toNat).Nodup:=by
  rw [List.nodup_iff_pairwise_ne,List.pairwise_map]
  exact h.imp fun h e=>by
   have:=UInt8.lt_iff_toNat_lt.1 h
   omega
 have h2:=nodup_le _ (List.range 256) h1 fun x hx=>by
  obtain ⟨p,_,rfl⟩:=List.mem_map.1 hx
  rw [List.mem_range]
  exact p.1.toNat_lt
 simpa using h2
theorem conv_back {w:World} {v:Value} {p:List UInt8} (h:w.ownsRow 0 5 1 v p.length (bytesV p)):(convert 42 9 v).run Tryz.prog w = .ok (.string ⟨p.toArray⟩) w:=by
 rcases h.2 with ⟨rfl,h0⟩ | ⟨g,cap,cur,rfl,_,hg,h1,h2,h3,h4⟩
 ·have:=List.eq_nil_of_length_eq_zero h0
  subst this
  exact run_convert_bytes_nil (P:=Tryz.prog) (w:=w) 42 5 Tryz.underlying42 Tryz.underlying5 0 0 _ Tryz.underlying9
 ·refine run_convert_bytes_back (P:=Tryz.prog) w 42 9 5 ⟨g,0,none⟩ cap p Tryz.underlying42 Tryz.underlying5 Tryz.underlying9 fun j hj=>?_
  have e:(⟨g,0,none⟩:Addr).add j=⟨g,j,none⟩:=by unfold Addr.add; split <;> simp_all
  rw [e,h.cellAt j (by simpa using hj)]
  unfold bytesV
  rw [List.getElem?_map,List.getElem?_eq_getElem hj]
  rfl
set_option maxRecDepth 100000 in
set_option maxHeartbeats 4000000 in
theorem walk_any {V:Value} {D:List DS} {db:Nat} {R:Nat→Prop} {Λ:Nat→List Word} {ρ:Nat→Nat} {iv:Value} {ok:Nat→Prop} {step:Nat→UInt8→Option Nat} {ends:Nat→Bool} (hA:AutI iv ok step ends)
  (hD:∀ i,R i → ∃ s,D[i]?=some s∧Asc s.edges∧s.below=(Λ i).length∧Λ i=wordsAt s.final s.edges Λ ∧ ∀ e∈s.edges,R e.2∧ρ e.2 < ρ i)
  (g:Nat) (lb:Array Value) (eg:∀ args w,(callFunc g args).run Tryz.prog w = .ok (.enter g args) w) (bd ba by' bw B:Nat) (J Jx:List (List UInt8 × Nat)→World→Prop) (F:List (List UInt8 × Nat))
  (hJ:∀ ys w w',J ys w→StepsB B w w'→J ys w')
  (hY:∀ ys t i w,J ys w→ys++[(t,i)] <+: F→Calls Tryz.prog g (#[strV t,intV i]++lb) w fun e w'=>KeepT w w'∧((e = .returned (.bool true)∧J (ys++[(t,i)]) w')∨(e = .returned (.bool false)∧Jx (ys++[(t,i)]) w'))) :
  ∀ (r k s:Nat) (p:List UInt8) (pv:Value) (n:Nat) (ys:List (List UInt8 × Nat)) (w:World),ρ k < r→R k→ok s→WM V D db iv (.func (.func g) #[] lb) bd ba by' bw w →
   w.ownsRow 0 5 1 pv p.length (bytesV p)→Past B pv→B≤w.heap.size→p.length+ρ k≤1000000→n+(Λ k).length≤1000000→J ys w →
   ys++pre p (hits (accA step ends s) (Λ k) n) <+: F →
  Calls Tryz.prog 240 #[intV k,intV s,pv,intV n,ptrV bd,ptrV ba,ptrV by',ptrV bw] w fun e w' =>
   KeepB pv w w'∧w'.ownsRow 0 5 1 pv p.length (bytesV p)∧w.heap.size≤w'.heap.size ∧
   ((e = .returned (.bool true)∧J (ys++pre p (hits (accA step ends s) (Λ k) n)) w')∨(e = .returned (.bool false) ∧ ∃ zs,zs <+: F∧Jx zs w')):=by
 obtain ⟨T,v,fE,fT,rE,rT,rfl,hmE,hmT,eE,eT,hcE,hcT⟩:=hA.ex
 intro r
 induction r using Nat.strongRecOn with
 | _ r ih =>
  intro k s p pv n ys w hr hRk hok hwm hrow hpast hB hp hn hj hF
  have IH:=Lib.hid ih
  have HD:=Lib.hid hD
  have HJ:=Lib.hid hJ
  have HY:=Lib.hid hY
  have HCE:=Lib.hid hcE
  have HCT:=Lib.hid hcT
  have HF:=Lib.hid hF
  have HWM:=Lib.hid hwm
  clear ih hD hJ hY hcE hcT hF hwm
  obtain ⟨sd,hsd,hasc,hbel,hwords,hedges⟩:=HD.out k hRk
  obtain ⟨gV,capV,hV,q0,q1,q2,qf1,qf2⟩:=HWM.out.rows.cells hsd
  have hkl:=(List.getElem?_eq_some_iff.1 hsd).1
  have c0:w.cell? ⟨bd,0,none⟩=some (.pointer (some ⟨db,0,none⟩)):=cell_block HWM.out.bxd
  have c1:w.cell? ⟨db,0,none⟩=some (.slice (some ⟨gV,0,none⟩) D.length capV):=by rw [← hV]; exact cell_block HWM.out.dct
  have c2:w.cell? ⟨ba,0,none⟩=some (.iface T v):=cell_block HWM.out.bxa
  have c3:w.cell? ⟨by',0,none⟩=some (.func (.func g) #[] lb):=cell_block HWM.out.bxy
  have c4:w.cell? ⟨bw,0,none⟩=some (.func (.func 240) #[] #[ptrV bd,ptrV ba,ptrV by',ptrV bw]):=cell_block HWM.out.bxw
  have z1:(0:Int)≤(k:Int)∧(k:Int) < (D.length:Int):=by omega
  have HV:=Lib.hid hV
  have HSD:=Lib.hid hsd
  have HBEL:=Lib.hid hbel
  have HWORDS:=Lib.hid hwords
  have HEDGES:=Lib.hid hedges
  clear hV hsd hbel hwords hedges
  have hat:WAt V D db (.iface T v) (.func (.func g) #[] lb) bd ba by' bw B p pv J w ys w:=⟨HWM.out,hrow,KeepB.refl _ _,hj,hB⟩
  have HAT:=Lib.hid hat
  have HPAST:=Lib.hid hpast
  have hsb:s≤1000000:=hA.few s hok
  have hP0:=partOf_zero step ends Λ sd.final sd.edges s p n
  have HP0:=Lib.hid hP0
  obtain ⟨ap,capp,hpv⟩:=ownsRow_form hrow
  have HPV:=Lib.hid hpv
  clear hat hrow hj hpast hP0 hpv
  unfold intV ptrV at *
  go_enter Tryz.func240,Tryz.ntmps240
  obtain ⟨n1,hn1⟩:∃ n1:Nat,n1=n+(if sd.final then 1 else 0):=⟨_,rfl⟩
  have HN1:=Lib.hid hn1
  clear hn1
  go_upto_if 24 with (fail)
  go_cut [3] (fun n3 wy=>n3 = .int .i64 (n1:Int)∧Hid (WAt V D db (.iface T v) (.func (.func g) #[] lb) bd ba by' bw B p pv J w (ys++partOf step ends Λ sd.final sd.edges s p n 0) wy))
  case first =>
   cases hf:sd.final with
   | true =>
    cases he:ends s with
    | true =>
     have hp1:partOf step ends Λ sd.final sd.edges s p n 0=[(p,n)]:=by rw [HP0.out,hf,he]; rfl
     have hpre:ys++[(p,n)] <+: F:=by
      have h1:=HF.out
      rw [HWORDS.out,← partOf_all] at h1
      have h2:=partOf_prefix step ends Λ sd.final sd.edges s p n 0 (Nat.zero_le _)
      rw [hp1] at h2
      exact ((List.prefix_append_right_inj ys).2 h2).trans h1
     have HPRE:=Lib.hid hpre
     have HP1:=Lib.hid hp1
     clear hpre hp1
     go_wp2_with fail
     refine (HCE.out s w hok).mono ?_
     rintro e w1 ⟨rfl,hS1⟩
     have hat1:=HAT.out.same HJ.out hS1
     have hcb:=conv_back hat1.row
     have c31:w1.cell? ⟨by',0,none⟩=some (.func (.func g) #[] lb):=cell_block hat1.wm.bxy
     have HAT1:=Lib.hid hat1
     rw [he]
     clear hat1 hS1 c0 c1 c2 c3 c4 q0 q1 q2 qf1 qf2
     go_wp2_with fail
     have hy:=HY.out ys p n w1 HAT1.out.j HPRE.out
     unfold strV at hy
     refine hy.mono ?_
     rintro e w2 ⟨hk2,⟨rfl,hj2⟩ | ⟨rfl,hj2⟩⟩
     ·have hat2:=HAT1.out.yields (J':=J) hk2 hj2
      rw [← HP1.out] at hat2
      have HAT2:=Lib.hid hat2
      clear hat2 hk2 hj2
      go_wp2_with fail
      go_meet
      exact ⟨by rw [HN1.out,hf]; rfl,HAT2⟩
     ·have hat2:=HAT1.out.yields (J':=Jx) hk2 hj2
      have HAT2:=Lib.hid hat2
      clear hat2 hk2 hj2
      go_wp2_with fail
      go_ret
      exact ⟨HAT2.out.keep,HAT2.out.row,HAT2.out.keep.1,.inr ⟨rfl,_,HPRE.out,HAT2.out.j⟩⟩
    | false =>
     have hp1:partOf step ends Λ sd.final sd.edges s p n 0=[]:=by rw [HP0.out,hf,he]; rfl
     have HP1:=Lib.hid hp1
     clear hp1
     go_wp2_with fail
     refine (HCE.out s w hok).mono ?_
     rintro e w1 ⟨rfl,hS1⟩
     have HAT1:=Lib.hid (HAT.out.same HJ.out hS1)
     rw [he]
     clear hS1 c0 c1 c2 c3 c4 q0 q1 q2 qf1 qf2
     go_wp2_with fail
     go_meet
     exact ⟨by rw [HN1.out,hf]; rfl,Lib.hid (by rw [HP1.out,List.append_nil]; exact HAT1.out)⟩
   | false =>
    have hp1:partOf step ends Λ sd.final sd.edges s p n 0=[]:=by rw [HP0.out,hf]; rfl
    have HP1:=Lib.hid hp1
    clear hp1
    go_wp2_with fail
    go_meet
    exact ⟨by rw [HN1.out,hf]; rfl,Lib.hid (by rw [HP1.out,List.append_nil]; exact HAT.out)⟩
  case rest =>
   obtain ⟨rfl,HAT0⟩:=hcut
   clear c0 c1 c2 c3 c4 q0 q1 q2 qf1 qf2 HAT HWM HP0
   have srow:=HAT0.out.wm.rows.erow k _ HSD.out
   obtain ⟨a5,cap5,hv5⟩:=ownsRow_form srow
   obtain ⟨gV',capV',hV',q0,q1,q2,qf1,qf2⟩:=HAT0.out.wm.rows.cells HSD.out
   rw [HV.out] at hV'
   cases hV'
   rw [hv5] at q1
   have c0:wc.cell? ⟨bd,0,none⟩=some (.pointer (some ⟨db,0,none⟩)):=cell_block HAT0.out.wm.bxd
   have c1:wc.cell? ⟨db,0,none⟩=some (.slice (some ⟨gV,0,none⟩) D.length capV):=by rw [← HV.out]; exact cell_block HAT0.out.wm.dct
   have hwl:(if sd.final then 1 else 0)+(edgeWords Λ sd.edges).length=(Λ k).length:=by
    rw [HWORDS.out]
    unfold wordsAt edgeWords
    rw [List.length_append]
    congr 1
    split <;> rfl
   have HV5:=Lib.hid hv5
   have HWL:=Lib.hid hwl
   have hel:sd.edges.length≤256:=asc_few hasc
   clear srow hv5 hwl
   go_wp2_with fail
   clear c0 c1 q0 q1 q2 qf1 qf2
   go_loopw [3,47] (fun n3 i wz=>∃ j:Nat,j≤sd.edges.length∧i = .int .i64 j∧n3 = .int .i64 ((n1+(edgeWords Λ (sd.edges.take j)).length:Nat):Int) ∧
    Hid (WAt V D db (.iface T v) (.func (.func g) #[] lb) bd ba by' bw B p pv J w (ys++partOf step ends Λ sd.final sd.edges s p n j) wz)) (fun _ i _=>sd.edges.length - (intOf i).toNat)
   case atStart=>exact ⟨0,Nat.zero_le _,rfl,by simp [edgeWords],HAT0⟩
   case round =>
    obtain ⟨j,hj,rfl,rfl,HAT⟩:=hrel
    by_cases hjl:j < sd.edges.length
    ·obtain ⟨ch,t,hct⟩:∃ ch t,sd.edges[j]?=some (ch,t):=⟨_,_,List.getElem?_eq_getElem hjl⟩
     obtain ⟨g1,cap1',e1,ek0,ek1⟩:=HAT.out.wm.rows.edgeCells HSD.out hct
     rw [HV5.out] at e1
     simp only [Value.slice.injEq] at e1
     obtain ⟨rfl,_,rfl⟩:=e1
     obtain ⟨hRt,hρt⟩:=HEDGES.out (ch,t) (List.mem_of_getElem? hct)
     simp only at hRt hρt ek0 ek1
     unfold intV at ek1
     obtain ⟨sd2,hsd2,_,hbel2,_⟩:=HD.out t hRt
     have hps:=partOf_succ step ends Λ sd.final sd.edges s p n j hct
     have hew:edgeWords Λ (sd.edges.take (j+1))=edgeWords Λ (sd.edges.take j)++(Λ t).map (ch :: ·):=by
      have he:sd.edges[j]=(ch,t):=(List.getElem?_eq_some_iff.1 hct).2
      rw [List.take_succ_eq_append_getElem hjl,he,edgeWords_snoc]
     have hewl:(edgeWords Λ (sd.edges.take (j+1))).length=(edgeWords Λ (sd.edges.take j)).length+(Λ t).length:=by rw [hew]; simp
     have hewle:=edgeWords_le Λ sd.edges (j+1)
     have hnb:n1+(edgeWords Λ (sd.edges.take j)).length+(Λ t).length≤1000000:=by
      have h1:=HN1.out
      have h2:=HWL.out
      omega
     obtain ⟨ew,hewj⟩:∃ ew,ew=(edgeWords Λ (sd.edges.take j)).length:=⟨_,rfl⟩
     rw [← hewj] at hnb hewl ⊢
     have HEWJ:=Lib.hid hewj
     have HEWL:=Lib.hid hewl
     have HPS:=Lib.hid hps
     have HSD2:=Lib.hid hsd2
     have HBEL2:=Lib.hid hbel2
     have HCTE:=Lib.hid hct
     have c2:wr.cell? ⟨ba,0,none⟩=some (.iface T v):=cell_block HAT.out.wm.bxa
     have c2':(wr.alloc (.cells #[.int .u8 ch.toNat,.int .i64 t] 242)).cell? ⟨ba,0,none⟩=some (.iface T v):=(World.cell?_alloc_lt wr _ _ (lt_of_cell c2)).trans c2
     clear hps hew hewl hewle hewj hsd2 hbel2 hct
     go_wp2_with fail
     have hata:=HAT.out.alloc HJ.out (.cells #[.int .u8 ch.toNat,.int .i64 t] 242)
     have HATA:=Lib.hid hata
     clear hata ek0 ek1 c2 c2'
     refine (HCT.out s ch _ hok).mono ?_
     rintro e w1 ⟨⟨s',rfl,hs'⟩,hS1⟩
     have hat1:=HATA.out.same HJ.out hS1
     have heb:w1.heap[wr.heap.size]?=some (.cells #[.int .u8 ch.toNat,.int .i64 t] 242 (0,0)):=by
      rw [hS1.heap]
      exact heap_alloc_new wr _
     have ce0:w1.cell? ⟨wr.heap.size,0,none⟩=some (.int .u8 ch.toNat):=cell_block heb
     have ce1:w1.cell? ⟨wr.heap.size,1,none⟩=some (.int .i64 t):=cell_block heb
     have cbw:w1.cell? ⟨bw,0,none⟩=some (.func (.func 240) #[] #[ptrV bd,ptrV ba,ptrV by',ptrV bw]):=cell_block hat1.wm.bxw
     unfold ptrV at cbw
     have HAT1:=Lib.hid hat1
     have HEB:=Lib.hid heb
     clear hat1 heb HATA
     cases hst:step s ch with
     | none =>
      have hps0:=HPS.out
      rw [hst] at hps0
      simp only [List.append_nil] at hps0
      have HPS0:=Lib.hid hps0
      clear hps0 hs' hst
      go_wp2_with fail
      refine wp_region_ord [(0,false),(1,false),(2,false),(3,false),(4,false),(5,false),(6,false),(7,false),(8,false),(11,false),(9,true),(10,true),(12,true),(13,false),(14,false)]
       (fun w'=>w'.cell? ⟨bw,0,none⟩=some (.func (.func 240) #[] #[.pointer (some ⟨bd,0,none⟩),.pointer (some ⟨ba,0,none⟩),.pointer (some ⟨by',0,none⟩),.pointer (some ⟨bw,0,none⟩)])∧w'.cell? ⟨wr.heap.size,0,none⟩=some (.int .u8 ch.toNat)∧w'.cell? ⟨wr.heap.size,1,none⟩=some (.int .i64 t)) (by kernel_rfl) (by kernel_rfl) ⟨cbw,ce0,ce1⟩ ?_
      iterate 2 (
       refine wpOrd_quiet ?_ rfl rfl (fun w' hS=>?_) ?_
       rotate_left
       ·go_simp
        first | rfl | done
       simp only [put_lit,List.set_cons_succ,List.set_cons_zero])
      iterate 8 (
       refine wpOrd_skip rfl rfl ?_
       simp only [put_lit,List.set_cons_succ,List.set_cons_zero])
      iterate 3 (
       refine wpOrd_skipT rfl rfl ?_
       simp only [put_lit,List.set_cons_succ,List.set_cons_zero])
      refine wpOrd_skip rfl rfl ?_
      simp only [put_lit,List.set_cons_succ,List.set_cons_zero]
      refine wpOrd_quiet ?_ rfl rfl (fun w' hS=>?_) ?_
      rotate_left
      ·go_simp
       first | rfl | done
      simp only [put_lit,List.set_cons_succ,List.set_cons_zero]
      refine wpOrd_nil ?_
      go_wp2_with fail
      have hatx:=HAT1.out.same HJ.out (Same.drew w1)
      rw [← HPS0.out] at hatx
      have ce1x:w1.drew.cell? ⟨wr.heap.size,1,none⟩=some (.int .i64 t):=ce1
      clear HAT1 ce0 ce1 cbw HEB
      generalize w1.drew=wx at *
      have HATX:=Lib.hid hatx
      clear hatx
      obtain ⟨gV2,capV2,hV2,_,_,p2,_,_⟩:=HATX.out.wm.rows.cells HSD2.out
      rw [HV.out] at hV2
      simp only [Value.slice.injEq,Option.some.injEq,Addr.mk.injEq] at hV2
      obtain ⟨⟨rfl,_⟩,_,rfl⟩:=hV2
      unfold intV at p2
      rw [HBEL2.out] at p2
      have d0:=cell_block (i:=0) HATX.out.wm.bxd
      have d1:=cell_block (i:=0) HATX.out.wm.dct
      rw [HV.out] at d1
      unfold ptrV at d0
      have htl:t < D.length:=(List.getElem?_eq_some_iff.1 HSD2.out).1
      have y1:(0:Int)≤(t:Int)∧(t:Int) < (D.length:Int):=by omega
      obtain ⟨ln,hln⟩:∃ ln,ln=(Λ t).length:=⟨_,rfl⟩
      rw [← hln] at p2 hnb
      have HLN:=Lib.hid hln
      have y2:IntKind.i64.wrap (((n1+ew:Nat):Int)+(ln:Int))=((n1+ew:Nat):Int)+(ln:Int):=IntWalk.i64_in _ (by omega)
      clear hln
      go_quiet (fail)
      go_wp2_with fail
      have hnx:(edgeWords Λ (sd.edges.take (j+1))).length=ew+ln:=by rw [HEWL.out,HLN.out]
      have HNX:=Lib.hid hnx
      clear hnx
      go_roundw
      case rel =>
       exact ⟨j+1,by omega,by go_num,congrArg (Value.int .i64) (by have:=HNX.out; omega),Lib.hid (HATX.out.same HJ.out (Same.drewN _ _))⟩
      case measure=>(simp [intOf]) <;> omega
     | some s2 =>
      obtain rfl:=hs' s2 hst
      have hok2:=hA.next s ch s' hok hst
      have hps1:partOf step ends Λ sd.final sd.edges s p n (j+1)=partOf step ends Λ sd.final sd.edges s p n j++pre (p++[ch]) (hits (accA step ends s') (Λ t) (n1+ew)):=by
       have h1:=HPS.out
       rw [hst] at h1
       simp only at h1
       rw [h1,HN1.out,HEWJ.out]
      have hpf:(ys++partOf step ends Λ sd.final sd.edges s p n j)++pre (p++[ch]) (hits (accA step ends s') (Λ t) (n1+ew)) <+: F:=by
       rw [List.append_assoc,← hps1]
       have h1:=HF.out
       rw [HWORDS.out,← partOf_all] at h1
       exact ((List.prefix_append_right_inj ys).2 (partOf_prefix step ends Λ sd.final sd.edges s p n (j+1) hjl)).trans h1
      have HPS1:=Lib.hid hps1
      have HPF:=Lib.hid hpf
      clear hps1 hpf hs' hst
      go_wp2_with fail
      refine wp_region_ord [(0,false),(1,false),(2,false),(3,false),(4,false),(5,false),(6,false),(7,false),(8,false),(11,false),(9,true),(10,true),(12,true),(13,false),(14,false)]
       (fun w'=>w'.cell? ⟨bw,0,none⟩=some (.func (.func 240) #[] #[.pointer (some ⟨bd,0,none⟩),.pointer (some ⟨ba,0,none⟩),.pointer (some ⟨by',0,none⟩),.pointer (some ⟨bw,0,none⟩)])∧w'.cell? ⟨wr.heap.size,0,none⟩=some (.int .u8 ch.toNat)∧w'.cell? ⟨wr.heap.size,1,none⟩=some (.int .i64 t)) (by kernel_rfl) (by kernel_rfl) ⟨cbw,ce0,ce1⟩ ?_
      iterate 10 (
       refine wpOrd_quiet ?_ rfl rfl (fun w' hS=>?_) ?_
       rotate_left
       ·obtain ⟨f0,f1,f2⟩:=hS
        go_simp
        first | rfl | done
       simp only [put_lit,List.set_cons_succ,List.set_cons_zero])
      refine wpOrd_loud rfl rfl (by decide) (fun K5 hK5=>?_)
      go_simp
      have hbwl:=lt_of_cell cbw
      have hebl:=lt_of_cell ce0
      refine hK5 _ _ ⟨(World.cell?_alloc_lt w1 _ _ hbwl).trans cbw,(World.cell?_alloc_lt w1 _ _ hebl).trans ce0,(World.cell?_alloc_lt w1 _ _ hebl).trans ce1⟩ ?_
      clear hK5 K5
      refine wpOrd_loud rfl rfl (by decide) (fun K5 hK5=>?_)
      obtain ⟨i0,hi,hz0,hz1,hz2⟩:=info_parts Tryz.info5
      have hrowc:((w1.alloc (.cells #[.int .u8 ch.toNat] 5)).drew).ownsRow 0 5 1 pv p.length (bytesV p):=(HAT1.out.row.alloc _).drew
      refine wp_append_elder _ _ 42 rfl 5 i0 (.int .u8 0) 1 1 Tryz.underlying42 hi hz0 hz1 hz2 rfl (by decide) pv p.length (bytesV p) rfl hrowc ⟨w1.heap.size,0,none⟩ 1 1 [.int .u8 ch.toNat] rfl rfl (cell_one_new w1 _ _)
       (by simp [Value.oneCell']) (by decide) (by unfold maxLen; omega) (by omega) ?_
      intro pv' W4 hrow4 hgrow4 hlies4 hel4
      have hmv:Moves w1 pv W4 pv':=((Moves.alloc w1 _ _).trans (Moves.same _ (Same.drew _))).trans (Moves.append hgrow4 hlies4)
      obtain ⟨hwm4,hrow4',hp4,hB4,hj4⟩:=HAT1.out.grow HJ.out HPAST.out hmv hrow4
      have hpe:pv.ownBlock≠some wr.heap.size:=fun e=>by
       have:=(HAT.out.row.lt _ e).2
       omega
      have heb4:W4.heap[wr.heap.size]?=some (.cells #[.int .u8 ch.toNat,.int .i64 t] 242 (0,0)):=(hmv.block hebl hpe).trans HEB.out
      have cbw4:W4.cell? ⟨bw,0,none⟩=some (.func (.func 240) #[] #[ptrV bd,ptrV ba,ptrV by',ptrV bw]):=cell_block hwm4.bxw
      unfold ptrV at cbw4
      refine hK5 _ _ ⟨cbw4,cell_block heb4,cell_block heb4⟩ ?_
      clear hK5 K5
      simp only [put_lit,List.set_cons_succ,List.set_cons_zero]
      refine wpOrd_loud rfl rfl (by decide) (fun K5 hK5=>?_)
      have hne4:pv'.ownBlock≠some wr.heap.size:=fun e=>by
       obtain ⟨cur,hcur⟩:=ownsRow_cells4 hrow4' e
       rw [heb4] at hcur
       cases hcur
      have HGROW:=Lib.hid hgrow4
      have HLIES:=Lib.hid hlies4
      have HEL:=Lib.hid hel4
      have HMV:=Lib.hid hmv
      have HWM4:=Lib.hid hwm4
      have HROW4:=Lib.hid hrow4'
      have HEB4:=Lib.hid heb4
      clear hgrow4 hlies4 hel4 hmv hrow4 hrowc heb4 cbw4 ce0 ce1 cbw
      go_simp
      have hih:=IH.out (ρ k) hr t s' (p++[ch]) pv' (n1+ew) (ys++partOf step ends Λ sd.final sd.edges s p n j) W4 hρt hRt hok2 HWM4.out HROW4.out hp4 hB4 (by rw [List.length_append,List.length_singleton]; omega) hnb hj4 HPF.out
      have ecast:((n1+ew:Nat):Int)=(n1:Int)+(ew:Int):=by omega
      rw [ecast] at hih
      refine hih.mono ?_
      clear hih ecast
      rintro e W5 ⟨hk5,hrow5,hsz5,hres⟩
      have cbw5:∀ W,WM V D db (.iface T v) (.func (.func g) #[] lb) bd ba by' bw W→W.cell? ⟨bw,0,none⟩=some (.func (.func 240) #[] #[.pointer (some ⟨bd,0,none⟩),.pointer (some ⟨ba,0,none⟩),.pointer (some ⟨by',0,none⟩),.pointer (some ⟨bw,0,none⟩)]):=fun W h=>cell_block h.bxw
      have heb5:W5.heap[wr.heap.size]?=some (.cells #[.int .u8 ch.toNat,.int .i64 t] 242 (0,0)):=(hk5.2 _ _ _ _ HEB4.out (by decide) hne4).trans HEB4.out
      have hcs:w1.heap.size≤((w1.alloc (.cells #[.int .u8 ch.toNat] 5)).drew).heap.size:=by simp
      rcases hres with ⟨rfl,hj5⟩ | ⟨rfl,zs,hzs,hj5⟩
      ·rw [List.append_assoc,← HPS1.out] at hj5
       have hat5:=HAT1.out.back (J':=J) HMV.out hcs (fun k hk=>Below.heap_alloc w1 _ k hk) HLIES.out HEL.out HWM4.out HROW4.out hk5 hrow5 hj5
       refine hK5 _ _ ⟨cbw5 W5 hat5.wm,cell_block heb5,cell_block heb5⟩ ?_
       clear hK5 K5
       have ce1x:W5.cell? ⟨wr.heap.size,1,none⟩=some (.int .i64 t):=cell_block heb5
       have HATX:=Lib.hid hat5
       clear hat5 hk5 hrow5 hsz5 hj5 cbw5 heb5 HAT1 HMV HLIES HEL HWM4 HROW4 HEB4 hj4 HGROW hwm4
       iterate 2 (
        refine wpOrd_quiet ?_ rfl rfl (fun w' hS=>?_) ?_
        rotate_left
        ·go_simp
         first | rfl | done
        simp only [put_lit,List.set_cons_succ,List.set_cons_zero])
       refine wpOrd_nil ?_
       go_wp2_with fail
       obtain ⟨gV2,capV2,hV2,_,_,p2,_,_⟩:=HATX.out.wm.rows.cells HSD2.out
       rw [HV.out] at hV2
       simp only [Value.slice.injEq,Option.some.injEq,Addr.mk.injEq] at hV2
       obtain ⟨⟨rfl,_⟩,_,rfl⟩:=hV2
       unfold intV at p2
       rw [HBEL2.out] at p2
       have d0:=cell_block (i:=0) HATX.out.wm.bxd
       have d1:=cell_block (i:=0) HATX.out.wm.dct
       rw [HV.out] at d1
       unfold ptrV at d0
       have htl:t < D.length:=(List.getElem?_eq_some_iff.1 HSD2.out).1
       have y1:(0:Int)≤(t:Int)∧(t:Int) < (D.length:Int):=by omega
       obtain ⟨ln,hln⟩:∃ ln,ln=(Λ t).length:=⟨_,rfl⟩
       rw [← hln] at p2 hnb
       have HLN:=Lib.hid hln
       have y2:IntKind.i64.wrap (((n1+ew:Nat):Int)+(ln:Int))=((n1+ew:Nat):Int)+(ln:Int):=IntWalk.i64_in _ (by omega)
       clear hln
       go_quiet (fail)
       go_wp2_with fail
       have hnx:(edgeWords Λ (sd.edges.take (j+1))).length=ew+ln:=by rw [HEWL.out,HLN.out]
       have HNX:=Lib.hid hnx
       clear hnx
       go_roundw
       case rel =>
        exact ⟨j+1,by omega,by go_num,congrArg (Value.int .i64) (by have:=HNX.out; omega),Lib.hid (HATX.out.same HJ.out (Same.drewN _ _))⟩
       case measure=>(simp [intOf]) <;> omega
      ·have hat5:=HAT1.out.back (J':=fun _ W=>Jx zs W) (ys':=[]) HMV.out hcs (fun k hk=>Below.heap_alloc w1 _ k hk) HLIES.out HEL.out HWM4.out HROW4.out hk5 hrow5 hj5
       refine hK5 _ _ ⟨cbw5 W5 hat5.wm,cell_block heb5,cell_block heb5⟩ ?_
       clear hK5 K5
       have HATX:=Lib.hid hat5
       clear hat5 hk5 hrow5 hsz5 hj5 cbw5 heb5 HAT1 HMV HLIES HEL HWM4 HROW4 HEB4 hj4 HGROW hwm4
       iterate 2 (
        refine wpOrd_quiet ?_ rfl rfl (fun w' hS=>?_) ?_
        rotate_left
        ·go_simp
         first | rfl | done
        simp only [put_lit,List.set_cons_succ,List.set_cons_zero])
       refine wpOrd_nil ?_
       go_wp2_with fail
       go_ret
       exact ⟨HATX.out.keep,HATX.out.row,HATX.out.keep.1,.inr ⟨rfl,zs,hzs,HATX.out.j⟩⟩
    ·obtain rfl:j=sd.edges.length:=by omega
     have hfin:Hid (J (ys++pre p (hits (accA step ends s) (Λ k) n)) wr):=Lib.hid (by
      rw [HWORDS.out,← partOf_all]
      exact HAT.out.j)
     go_wp2_with fail
     go_ret
     exact ⟨HAT.out.keep,HAT.out.row,HAT.out.keep.1,.inl ⟨rfl,hfin.out⟩⟩
end Go.Proofs.Ts
namespace Go.Proofs.Ts
open Go Go.RowKit
def exStep (s:ByteArray) (k:Nat) (c:UInt8):Option Nat:=if goesOn s k c then some (k+1) else none
def exEnds (s:ByteArray) (k:Nat):Bool:=decide (k=s.size)
def beStep (s:ByteArray) (k:Nat) (c:UInt8):Option Nat:=if begOk s k c then some (begNext s k) else none
theorem exact_aut (s:ByteArray) (hs:s.size≤900000):AutI (.iface 400 (.string s)) (fun k=>k≤s.size) (exStep s) (exEnds s) where
 ex:=⟨400,.string s,316,318,.string s,.string s,rfl,fun fu w=>by kernel_rfl,fun fu w=>by kernel_rfl,
  enters_of Tryz.func316 (by kernel_rfl) rfl,enters_of Tryz.func318 (by kernel_rfl) rfl,fun k w hk=>exactEnds_any s k w (by omega) (by omega),fun k c w hk=>(exactStep_any s k c w (by omega) (by omega)).mono fun e w' ⟨h1,h2⟩=>⟨⟨k+1,by
   rw [h1]
   unfold exStep
   cases goesOn s k c <;> rfl,fun u hu=>by
   unfold exStep at hu
   split at hu
   ·exact Option.some.inj hu
   ·cases hu⟩,h2⟩⟩
 next:=fun k c t hk h=>by
  unfold exStep at h
  split at h
  ·rename_i hg
   have:=Option.some.inj h
   unfold goesOn at hg
   simp only [Bool.and_eq_true,decide_eq_true_eq] at hg
   show t≤s.size
   omega
  ·cases h
 few:=fun k hk=>by have:k≤s.size:=hk; omega
theorem begins_aut (s:ByteArray) (hs:s.size≤900000):AutI (.iface 401 (.string s)) (fun k=>k≤s.size) (beStep s) (exEnds s) where
 ex:=⟨401,.string s,319,321,.string s,.string s,rfl,fun fu w=>by kernel_rfl,fun fu w=>by kernel_rfl,
  enters_of Tryz.func319 (by kernel_rfl) rfl,enters_of Tryz.func321 (by kernel_rfl) rfl,fun k w hk=>beginsEnds_any s k w (by omega) (by have:k≤s.size:=hk; omega),fun k c w hk=>(beginsStep_any s k c w (by omega) hk).mono fun e w' ⟨h1,h2⟩=>⟨⟨begNext s k,by
   rw [h1]
   unfold beStep
   cases begOk s k c <;> rfl,fun u hu=>by
   unfold beStep at hu
   split at hu
   ·exact Option.some.inj hu
   ·cases hu⟩,h2⟩⟩
 next:=fun k c t hk h=>by
  unfold beStep at h
  split at h
  ·rename_i hg
   have:=Option.some.inj h
   unfold begOk goesOn at hg
   unfold begNext at this
   simp only [Bool.or_eq_true,Bool.and_eq_true,decide_eq_true_eq] at hg
   show t≤s.size
   have hk':k≤s.size:=hk
   split at this <;> omega
  ·cases h
 few:=fun k hk=>by have:k≤s.size:=hk; omega
theorem exact_reads (s:ByteArray):∀ (u:List UInt8) (k:Nat),k≤s.size→(accA (exStep s) (exEnds s) k u=true↔u=s.data.toList.drop k)
 | [],k,hk=>by
  unfold accA exEnds
  rw [decide_eq_true_eq]
  constructor
  ·rintro rfl; exact (List.drop_eq_nil_of_le (by simp)).symm
  ·intro h
   have:=congrArg List.length h
   simp at this
   omega
 | c :: u,k,hk=>by
  unfold accA
  by_cases h:k < s.size
  ·have hl:k < s.data.toList.length:=by simpa using h
   rw [List.drop_eq_getElem_cons hl]
   have hg:s.data.toList.getD k 0=s.data.toList[k]:=by rw [List.getD_eq_getElem?_getD,List.getElem?_eq_getElem hl]; rfl
   by_cases hc:s.data.toList[k]=c
   ·have:exStep s k c=some (k+1):=by unfold exStep goesOn; rw [hg,hc]; simp [h]
    rw [this]
    simp only
    rw [exact_reads s u (k+1) h,hc]
    simp
   ·have:exStep s k c=none:=by unfold exStep goesOn; rw [hg,decide_eq_false hc]; simp
    rw [this]
    simp only [Bool.false_eq_true,false_iff]
    intro e
    exact hc (List.cons.inj e).1.symm
  ·have:exStep s k c=none:=by unfold exStep goesOn; simp [h]
   rw [this]
   have h2:s.data.toList.drop k=[]:=List.drop_eq_nil_of_le (by simp; omega)
   rw [h2]
   simp
theorem begins_reads (s:ByteArray):∀ (u:List UInt8) (k:Nat),k≤s.size→(accA (beStep s) (exEnds s) k u=true↔s.data.toList.drop k <+: u)
 | [],k,hk=>by
  unfold accA exEnds
  rw [decide_eq_true_eq,List.prefix_nil]
  constructor
  ·rintro rfl; exact List.drop_eq_nil_of_le (by simp)
  ·intro h
   have:=congrArg List.length h
   simp at this
   omega
 | c :: u,k,hk=>by
  unfold accA
  by_cases h:k < s.size
  ·have hl:k < s.data.toList.length:=by simpa using h
   rw [List.drop_eq_getElem_cons hl]
   have hg:s.data.toList.getD k 0=s.data.toList[k]:=by rw [List.getD_eq_getElem?_getD,List.getElem?_eq_getElem hl]; rfl
   have hne:¬ k=s.size:=by omega
   by_cases hc:s.data.toList[k]=c
   ·have:beStep s k c=some (k+1):=by unfold beStep begOk goesOn begNext; rw [hg,hc]; simp [h,hne]
    rw [this]
    simp only
    rw [begins_reads s u (k+1) h,hc,List.cons_prefix_cons]
    simp
   ·have:beStep s k c=none:=by unfold beStep begOk goesOn; rw [hg,decide_eq_false hc]; simp [hne]
    rw [this]
    simp only [Bool.false_eq_true,false_iff,List.cons_prefix_cons]
    exact fun e=>hc e.1
  ·have hk2:k=s.size:=by omega
   have:beStep s k c=some k:=by unfold beStep begOk begNext; simp [hk2]
   rw [this]
   simp only
   rw [begins_reads s u k hk]
   have h2:s.data.toList.drop k=[]:=List.drop_eq_nil_of_le (by simp; omega)
   rw [h2]
   simp
end Go.Proofs.Ts
namespace Go.Proofs.Ts
open Go Go.RowKit
def AutS (iv : Value) (s0 : Nat) : Prop := ∃ T v fS rS, iv = .iface T v ∧ (∀ fu w, (method (fu + 1) T v "Start").run Tryz.prog w = .ok (fS, rS) w) ∧ (∀ args w, (callFunc fS args).run Tryz.prog w = .ok (.enter fS args) w) ∧
 ∀ w,Calls Tryz.prog fS #[rS] w fun e w'=>e = .returned (.int .i64 s0)∧Same w w'
theorem exact_start (s:ByteArray):AutS (.iface 400 (.string s)) 0 :=
 ⟨_,_,317,.string s,rfl,fun fu w=>by kernel_rfl,enters_of Tryz.func317 (by kernel_rfl) rfl,fun w=>exactStart_any s w⟩
theorem begins_start (s:ByteArray):AutS (.iface 401 (.string s)) 0 :=
 ⟨_,_,320,.string s,rfl,fun fu w=>by kernel_rfl,enters_of Tryz.func320 (by kernel_rfl) rfl,fun w=>beginsStart_any s w⟩
theorem over_make (iv:Value) (w:World) (hiv:∃ T v,iv = .iface T v) :
  Calls Tryz.prog 208 #[iv] w fun e w'=>e = .returned (.func (.func 239) #[] #[ptrV w.heap.size])∧w'=w.alloc (.cells #[iv] 436):=by
 have hmf:∀ (fn:Fn) (first cap:Array Value) (w:World),(Instr.makeFunc fn first cap).run Tryz.prog w = .ok (.func fn first cap) w:=fun _ _ _ _=>rfl
 obtain ⟨T,v,rfl⟩:=hiv
 go_enter Tryz.func208,Tryz.ntmps208
 go_wp2
 go_ret
 exact ⟨rfl,rfl⟩
theorem pre_nil (l:List (List UInt8 × Nat)):pre [] l=l:=by
 unfold pre
 simp
def walkFn (bd ba by' bw:Nat):Value := .func (.func 240) #[] #[.pointer (some ⟨bd,0,none⟩),.pointer (some ⟨ba,0,none⟩),.pointer (some ⟨by',0,none⟩),.pointer (some ⟨bw,0,none⟩)]
def overStart (w:World) (db g:Nat) (lb:Array Value) (ba:Nat):World :=
 ((w.alloc (.cells #[.pointer (some ⟨db,0,none⟩)] 158)).alloc (.cells #[.func (.func g) #[] lb] 249)).alloc (.cells #[walkFn w.heap.size ba (w.heap.size+1) (w.heap.size+1+1)] 437)
theorem overStart_old (w:World) (db g:Nat) (lb:Array Value) (ba j:Nat) (h:j < w.heap.size):(overStart w db g lb ba).heap[j]?=w.heap[j]?:=by
 unfold overStart
 rw [Below.heap_alloc _ _ _ (by simp; omega),Below.heap_alloc _ _ _ (by simp; omega),Below.heap_alloc _ _ _ h]
theorem overStart_size (w:World) (db g:Nat) (lb:Array Value) (ba:Nat):(overStart w db g lb ba).heap.size=w.heap.size+3:=by unfold overStart; simp
theorem overStart_keep (w:World) (db g:Nat) (lb:Array Value) (ba:Nat):KeepT w (overStart w db g lb ba):=((KeepT.alloc _ _).trans (KeepT.alloc _ _)).trans (KeepT.alloc _ _)
theorem overStart_steps (w:World) (db g:Nat) (lb:Array Value) (ba B:Nat):StepsB B w (overStart w db g lb ba):=((StepsB.alloc _ _ _).trans (StepsB.alloc _ _ _)).trans (StepsB.alloc _ _ _)
theorem overStart_wm {w:World} {db g:Nat} {lb:Array Value} {ba:Nat} {V iv:Value} {D:List DS} (h1:w.heap[db]?=some (.cells #[V] 172 (0,0))) (h2:RowsIn 0 w V D) (h3:w.heap[ba]?=some (.cells #[iv] 436 (0,0))) :
  WM V D db iv (.func (.func g) #[] lb) w.heap.size ba (w.heap.size+1) (w.heap.size+1+1) (overStart w db g lb ba):=by
 have l1:=(Array.getElem?_eq_some_iff.1 h1).1
 have l3:=(Array.getElem?_eq_some_iff.1 h3).1
 refine ⟨(overStart_old w db g lb ba _ l1).trans h1,h2.cellsKept fun k cs t r hk _=>overStart_old w db g lb ba k (Array.getElem?_eq_some_iff.1 hk).1,?_,(overStart_old w db g lb ba _ l3).trans h3,?_,?_⟩
 ·unfold overStart
  rw [Below.heap_alloc _ _ _ (by simp; omega),Below.heap_alloc _ _ _ (by simp)]
  exact heap_alloc_new w _
 ·unfold overStart
  rw [Below.heap_alloc _ _ _ (by simp)]
  have:=heap_alloc_new (w.alloc (.cells #[.pointer (some ⟨db,0,none⟩)] 158)) (.cells #[.func (.func g) #[] lb] 249)
  simpa using this
 ·unfold overStart
  have:=heap_alloc_new ((w.alloc (.cells #[.pointer (some ⟨db,0,none⟩)] 158)).alloc (.cells #[.func (.func g) #[] lb] 249)) (.cells #[walkFn w.heap.size ba (w.heap.size+1) (w.heap.size+1+1)] 437)
  unfold walkFn at *
  unfold ptrV
  simpa using this
set_option maxRecDepth 100000 in
set_option maxHeartbeats 2000000 in
theorem over_any {db:Nat} {R:Nat→Prop} {Λ:Nat→List Word} {ρ:Nat→Nat} {D:List DS} {iv:Value} {ok:Nat→Prop} {step:Nat→UInt8→Option Nat} {ends:Nat→Bool} {s0:Nat} (hA:AutI iv ok step ends) (hS0:AutS iv s0) (hok0:ok s0)
  (g:Nat) (lb:Array Value) (eg:∀ args w,(callFunc g args).run Tryz.prog w = .ok (.enter g args) w) (ba:Nat) (w:World) (hdi:DictIs w db R Λ ρ D) (hlen:(Λ 0).length≤1000000) (hba:w.heap[ba]?=some (.cells #[iv] 436 (0,0)))
  (J Jx:List (List UInt8 × Nat)→World→Prop) (hJ:∀ ys w1 w',J ys w1→StepsB w.heap.size w1 w'→J ys w')
  (hY:∀ ys t i w1,J ys w1→ys++[(t,i)] <+: hits (accA step ends s0) (Λ 0) 0→Calls Tryz.prog g (#[strV t,intV i]++lb) w1 fun e w'=>KeepT w1 w'∧((e = .returned (.bool true)∧J (ys++[(t,i)]) w')∨(e = .returned (.bool false)∧Jx (ys++[(t,i)]) w')))
  (hj0:J [] w) :
  Calls Tryz.prog 239 #[ptrV db,.func (.func g) #[] lb,ptrV ba] w fun e w'=>e = .returned (.tuple #[])∧KeepT w w' ∧
   (J (hits (accA step ends s0) (Λ 0) 0) w' ∨ ∃ zs,zs <+: hits (accA step ends s0) (Λ 0) 0∧Jx zs w'):=by
 have hmf:∀ (fn:Fn) (first cap:Array Value) (w:World),(Instr.makeFunc fn first cap).run Tryz.prog w = .ok (.func fn first cap) w:=fun _ _ _ _=>rfl
 obtain ⟨T,v,fS,rS,rfl,hmS,eS,hcS⟩:=hS0
 obtain ⟨V,hdct,hrows⟩:=hdi.mem
 have hbal:=(Array.getElem?_eq_some_iff.1 hba).1
 have HDI:=Lib.hid hdi
 have HROWS:=Lib.hid hrows
 have HDCT:=Lib.hid hdct
 have HBA:=Lib.hid hba
 have HJ:=Lib.hid hJ
 have HY:=Lib.hid hY
 have HCS:=Lib.hid hcS
 have HJ0:=Lib.hid hj0
 clear hdi hrows hdct hba hJ hY hcS hj0
 unfold ptrV
 go_enter Tryz.func239,Tryz.ntmps239
 go_wp2_with fail
 have hwm:=overStart_wm (g:=g) (lb:=lb) HDCT.out HROWS.out HBA.out
 have hks:=overStart_keep w db g lb ba
 have hst:=overStart_steps w db g lb ba w.heap.size
 have hsz:=overStart_size w db g lb ba
 have hj1:=HJ.out _ _ _ HJ0.out hst
 have hW:(((w.alloc (.cells #[.pointer (some ⟨db,0,none⟩)] 158)).alloc (.cells #[.func (.func g) #[] lb] 249)).alloc (.cells #[.func (.func 240) #[] #[.pointer (some ⟨w.heap.size,0,none⟩),.pointer (some ⟨ba,0,none⟩),.pointer (some ⟨w.heap.size+1,0,none⟩),.pointer (some ⟨w.heap.size+1+1,0,none⟩)]] 437))=overStart w db g lb ba:=rfl
 rw [hW]
 clear hW
 generalize overStart w db g lb ba=W3 at *
 have c1:W3.cell? ⟨w.heap.size+1+1,0,none⟩=some (walkFn w.heap.size ba (w.heap.size+1) (w.heap.size+1+1)):=cell_block hwm.bxw
 have c2:W3.cell? ⟨ba,0,none⟩=some (.iface T v):=cell_block hwm.bxa
 have HWM:=Lib.hid hwm
 have HKS:=Lib.hid hks
 have HJ1:=Lib.hid hj1
 clear hwm hks hst hj1
 unfold walkFn at c1
 have c1':=c1
 have c2':=c2
 refine wp_region_ord [(0,false),(1,false),(2,true),(3,true)] (fun w'=>w'.cell? ⟨w.heap.size+1+1,0,none⟩=some (.func (.func 240) #[] #[.pointer (some ⟨w.heap.size,0,none⟩),.pointer (some ⟨ba,0,none⟩),.pointer (some ⟨w.heap.size+1,0,none⟩),.pointer (some ⟨w.heap.size+1+1,0,none⟩)]) ∧
  w'.cell? ⟨ba,0,none⟩=some (.iface T v)) (by kernel_rfl) (by kernel_rfl) ⟨c1,c2⟩ ?_
 iterate 2 (
  refine wpOrd_quiet ?_ rfl rfl (fun w' hS=>?_) ?_
  rotate_left
  ·obtain ⟨d1,d2⟩:=hS
   go_simp
   first | rfl | done
  simp only [put_lit,List.set_cons_succ,List.set_cons_zero])
 refine wpOrd_loud rfl rfl (by decide) (fun K5 hK5=>?_)
 go_simp
 refine (HCS.out _).mono ?_
 rintro e w1 ⟨rfl,hS1⟩
 have hS:Same W3 w1:=(Same.drew _).trans hS1
 refine hK5 _ _ ⟨(hS.cell _).trans c1,(hS.cell _).trans c2⟩ ?_
 clear hK5 K5
 refine wpOrd_loud rfl rfl (by decide) (fun K5 hK5=>?_)
 go_simp
 have hwm1:=HWM.out.kept (v := .slice none 0 0) (World.ownsRow_nil _ _ _ _:W3.ownsRow 0 5 1 (.slice none 0 0) 0 []) ((KeepT.same hS).toB _)
 have hst0:=HDI.out.state
 have hroot:=HDI.out.root
 have hrun:=walk_any hA hst0 g lb eg w.heap.size ba (w.heap.size+1) (w.heap.size+1+1) w.heap.size J Jx (hits (accA step ends s0) (Λ 0) 0) HJ.out HY.out (ρ 0+1) 0 s0 [] (.slice none 0 0) 0 [] w1 (Nat.lt_succ_self _) hroot.1 hok0 hwm1
  (World.ownsRow_nil _ _ _ _) (fun k e=>by cases e) (by rw [hS.heap]; omega) (by simpa using hroot.2) (by omega) (HJ.out _ _ _ HJ1.out (StepsB.same hS)) (by rw [List.nil_append,pre_nil]; exact List.prefix_refl _)
 unfold intV ptrV at hrun
 refine hrun.mono ?_
 rintro e W5 ⟨hk5,_,_,hres⟩
 have hkt:KeepT w W5:=HKS.out.trans ((KeepT.same hS).trans ⟨hk5.1,fun k cs t r h1 h2=>hk5.2 k cs t r h1 h2 (fun e=>by cases e)⟩)
 rw [List.nil_append,pre_nil] at hres
 have hk1:KeepT W3 W5:=(KeepT.same hS).trans ⟨hk5.1,fun k cs t r h1 h2=>hk5.2 k cs t r h1 h2 (fun e=>by cases e)⟩
 have d1:W5.cell? ⟨w.heap.size+1+1,0,none⟩=_:=cell_block ((hk1.2 _ _ _ _ HWM.out.bxw (by decide)).trans HWM.out.bxw)
 have d2:W5.cell? ⟨ba,0,none⟩=_:=cell_block ((hk1.2 _ _ _ _ HWM.out.bxa (by decide)).trans HWM.out.bxa)
 have hd:_∧_:=⟨d1,d2⟩
 have HKT:=Lib.hid hkt
 clear hrun hk5 hkt hwm1 hst0 hroot
 rcases hres with ⟨rfl,hj5⟩ | ⟨rfl,zs,hzs,hj5⟩
 ·have HJ5:=Lib.hid hj5
  clear hj5
  refine hK5 _ _ hd ?_
  clear hK5 K5 hd d1 d2
  refine wpOrd_nil ?_
  go_wp2_with fail
  refine bodyPost_end (results_none rfl _ _ _) rfl ?_
  exact ⟨rfl,HKT.out,.inl HJ5.out⟩
 ·have HJ5:=Lib.hid hj5
  clear hj5
  refine hK5 _ _ hd ?_
  clear hK5 K5 hd d1 d2
  refine wpOrd_nil ?_
  go_wp2_with fail
  refine bodyPost_end (results_none rfl _ _ _) rfl ?_
  exact ⟨rfl,HKT.out,.inr ⟨zs,hzs,HJ5.out⟩⟩
end Go.Proofs.Ts
namespace Go.Proofs.Ts
open Go Go.RowKit
def foundCells (ys:List (List UInt8 × Nat)):List Value:=ys.flatMap fun q=>[strV q.1,intV q.2]
theorem foundCells_snoc (ys:List (List UInt8 × Nat)) (q:List UInt8 × Nat):foundCells (ys++[q])=foundCells ys++[strV q.1,intV q.2]:=by simp [foundCells]
theorem foundCells_at:∀ (ys:List (List UInt8 × Nat)) (i:Nat) (q:List UInt8 × Nat),ys[i]?=some q→(foundCells ys)[i * 2]?=some (strV q.1)∧(foundCells ys)[i * 2+1]?=some (intV q.2)
 | [],i,q,h=>by simp at h
 | y :: t,0,q,h=>by simp at h; subst h; simp [foundCells]
 | y :: t,i+1,q,h=>by
  have ih:=foundCells_at t i q (by simpa using h)
  have e:foundCells (y :: t)=strV y.1 :: intV y.2 :: foundCells t:=by simp [foundCells]
  rw [e,show (i+1) * 2=i * 2+1+1 by omega,show i * 2+1+1+1=(i * 2+1)+1+1 by omega]
  simpa using ih
structure TJ (w0:World) (lb mb most:Nat) (ys:List (List UInt8 × Nat)) (W:World):Prop where
 box:∃ v,W.heap[lb]?=some (.cells #[v] 175 (0,0))∧W.ownsRow 0 182 2 v ys.length (foundCells ys)∧Past w0.heap.size v∧v.ownBlock≠some lb
 lim:W.heap[mb]?=some (.cells #[.int .i64 most] 3 (0,0))
 below:Below w0.heap.size w0 W
 lb_ge:w0.heap.size≤lb
theorem TJ.steps {w0:World} {lb mb most B:Nat} {ys:List (List UInt8 × Nat)} {W W':World} (h:TJ w0 lb mb most ys W) (hB:w0.heap.size≤B) (hs:StepsB B W W'):TJ w0 lb mb most ys W':=by
 obtain ⟨v,h1,h2,h3,h4⟩:=h.box
 have go:∀ (k:Nat) cs t r,W.heap[k]?=some (.cells cs t r)→t≠5→W'.heap[k]?=some (.cells cs t r):=fun k cs t r hk ht=>hs.2.2.2.2 k _ hk (.inr fun cs' r' e=>by cases e; exact ht rfl)
 refine ⟨⟨v,go _ _ _ _ h1 (by decide),ownsRow_typed h2 fun k cs r hk=>(go _ _ _ _ hk (by decide)).trans hk.symm,h3,h4⟩,go _ _ _ _ h.lim (by decide),⟨hs.1.trans h.below.os,hs.2.1.trans h.below.tape,hs.2.2.1.trans h.below.output,Nat.le_trans h.below.size hs.2.2.2.1,fun k hk=>?_⟩,h.lb_ge⟩
 have hl:k < W.heap.size:=Nat.lt_of_lt_of_le hk h.below.size
 rw [hs.2.2.2.2 k W.heap[k] (Array.getElem?_eq_getElem hl) (.inl (by omega)),← Array.getElem?_eq_getElem hl]
 exact h.below.block k hk
theorem Tryz.info182:(Tryz.prog.info? 182).map (fun i=>(i.zero,i.size,i.bytes))=some (some (.agg #[.string ⟨#[]⟩,.int .i64 0]),2,24):=by kernel_rfl
set_option maxRecDepth 100000 in
set_option maxHeartbeats 1000000 in
theorem yield_any (w0:World) (lb mb most:Nat) (ys:List (List UInt8 × Nat)) (t:List UInt8) (i:Nat) (w:World) (hj:TJ w0 lb mb most ys w) (hlen:ys.length≤1000000) :
  Calls Tryz.prog 120 #[strV t,intV i,ptrV lb,ptrV mb] w fun e w'=>KeepT w w'∧TJ w0 lb mb most (ys++[(t,i)]) w'∧e = .returned (.bool (decide (ys.length+1≤most))):=by
 obtain ⟨v,h1,h2,h3,h4⟩:=hj.box
 have c1:w.cell? ⟨lb,0,none⟩=some v:=cell_block h1
 have c2:w.cell? ⟨mb,0,none⟩=some (.int .i64 most):=cell_block hj.lim
 have f1:w.frozen? ⟨lb,0,none⟩=false:=free_block h1
 have hlb:=(Array.getElem?_eq_some_iff.1 h1).1
 obtain ⟨i0,hi,hz0,hz1,hz2⟩:=info_parts Tryz.info182
 have hlim:=hj.lim
 have hmbl:=(Array.getElem?_eq_some_iff.1 hlim).1
 have hne:mb≠lb:=fun e=>by
  rw [e,h1] at hlim
  cases hlim
 have hvm:v.ownBlock≠some mb:=fun e=>by
  obtain ⟨cur,hcur⟩:=ownsRow_cells4 h2 e
  rw [hlim] at hcur
  cases hcur
 have HLIM:=Lib.hid hlim
 have HVM:=Lib.hid hvm
 have H1:=Lib.hid h1
 have H2:=Lib.hid h2
 have H3:=Lib.hid h3
 have H4:=Lib.hid h4
 have HJ:=Lib.hid hj
 have hrow2:(w.alloc (.cells #[.string ⟨t.toArray⟩,.int .i64 i] 182)).ownsRow 0 182 2 v ys.length (foundCells ys):=h2.alloc _
 have hnew:∀ j u,[Value.string ⟨t.toArray⟩,.int .i64 i][j]?=some u→(w.alloc (.cells #[.string ⟨t.toArray⟩,.int .i64 i] 182)).cell? ((⟨w.heap.size,0,none⟩:Addr).add j)=some u:=cell_two_new w _ _ _
 clear h1 h2 h3 h4 hj hlim hvm
 unfold strV intV ptrV
 go_enter Tryz.func120,Tryz.ntmps120
 go_wp2_with (at_builtin; refine wpList_append_lies rfl _ _ 175 rfl 182 i0 (.agg #[.string ⟨#[]⟩,.int .i64 0]) 2 24 Tryz.underlying175 hi hz0 hz1 hz2 rfl (by decide) v ys.length (foundCells ys) rfl hrow2 ⟨w.heap.size,0,none⟩ 1 1 [.string ⟨t.toArray⟩,.int .i64 i] rfl rfl hnew (by simp [Value.oneCell']) (by decide) (by unfold maxLen; omega) (by omega) ?_; intro v4 W4 hrow4 hgrow4 hlies4; simp only [put_lit,List.set_cons_succ,List.set_cons_zero]; obtain ⟨g4,cap4,rfl⟩:=ownsRow_head hrow4; have HR4:=Lib.hid hrow4; have HG4:=Lib.hid hgrow4; have HL4:=Lib.hid hlies4; have hk1:W4.heap[lb]?=w.heap[lb]?:=(hgrow4.block lb (by simp; omega) (fun e=>H4.out e.symm)).trans (Below.heap_alloc w _ _ hlb); have hk2:W4.heap[mb]?=w.heap[mb]?:=(hgrow4.block mb (by simp; omega) (fun e=>HVM.out e.symm)).trans (Below.heap_alloc w _ _ hmbl); have c14:W4.cell? ⟨lb,0,none⟩=some v:=(World.cell?_of_block (a:=⟨lb,0,none⟩) hk1).trans c1; have c24:W4.cell? ⟨mb,0,none⟩=some (.int .i64 most):=(World.cell?_of_block (a:=⟨mb,0,none⟩) hk2).trans c2; have f14:W4.frozen? ⟨lb,0,none⟩=false:=(World.frozen?_of_block (a:=⟨lb,0,none⟩) hk1).trans f1; have c34:(W4.setCell ⟨lb,0,none⟩ (.slice (some ⟨g4,0,none⟩) (ys.length+1) cap4)).cell? ⟨lb,0,none⟩=some (.slice (some ⟨g4,0,none⟩) (ys.length+1) cap4):=World.cell?_setCell_same' _ _ _ (by rw [c14]; rfl); have c44:(W4.setCell ⟨lb,0,none⟩ (.slice (some ⟨g4,0,none⟩) (ys.length+1) cap4)).cell? ⟨mb,0,none⟩=some (.int .i64 most):=(World.cell?_setCell_other _ _ _ _ (fun e=>hne (congrArg Addr.block e).symm)).trans c24; have HK1:=Lib.hid hk1; have HK2:=Lib.hid hk2; clear hrow4 hgrow4 hlies4 hk1 hk2 c1 c2 f1)
 go_ret
 have hmv:Moves w v W4 (.slice (some ⟨g4,0,none⟩) (ys.length+1) cap4):=(Moves.alloc w v _).trans (Moves.append HG4.out HL4.out)
 have hn4:g4≠lb:=fun e=>by
  rcases hmv.lies with h | ⟨g',h,hg'⟩
  ·exact H4.out (by rw [← h,← e]; rfl)
  ·have:g4=g':=Option.some.inj h
   omega
 refine ⟨⟨by have:=hmv.size; simp; omega,fun k cs t' r hk ht=>?_⟩,⟨⟨_,heap_setCell_same W4 lb 0 _ _ _ (HK1.out.trans H1.out),?_,?_,?_⟩,?_,?_,HJ.out.lb_ge⟩,ret_bool ?_⟩
 ·have hkl:k≠lb:=fun e=>by
   rw [e,H1.out] at hk
   cases hk
   cases ht
  rw [Below.heap_setCell W4 _ _ k (fun e=>hkl e)]
  refine hmv.block (Array.getElem?_eq_some_iff.1 hk).1 fun e=>?_
  obtain ⟨cur,hcur⟩:=ownsRow_cells4 H2.out e
  rw [hk] at hcur
  cases hcur
  cases ht
 ·rw [foundCells_snoc,List.length_append,List.length_singleton]
  exact ownsRow_block HR4.out fun k e=>Below.heap_setCell W4 _ _ k fun e'=>hn4 (by cases e; exact e')
 ·exact hmv.past H3.out (by have:=HJ.out.below.size; omega)
 ·exact fun e=>hn4 (Option.some.inj e)
 ·rw [Below.heap_setCell W4 _ _ mb hne]
  exact HK2.out.trans HLIM.out
 ·exact (hmv.below (fun k e=>H3.out k e) HJ.out.below HJ.out.below.size).setCell (p:=⟨lb,0,none⟩) HJ.out.lb_ge _
 ·rw [Bool.eq_iff_iff,decide_eq_true_eq,decide_eq_true_eq]
  omega
end Go.Proofs.Ts
namespace Go.Proofs.Ts
open Go Go.RowKit
def PlanIs (w:World) (pb:Nat) (iv:Value):Prop:=∃ ab,w.heap[pb]?=some (.cells #[.func (.func 239) #[] #[ptrV ab],.nilIface] 248 (0,0))∧w.heap[ab]?=some (.cells #[iv] 436 (0,0))
def queryV (kind:Nat) (a b:ByteArray) (n:Int):Value := .agg #[.int .i64 kind,.string a,.string b,.int .i64 n]
set_option maxRecDepth 100000 in
set_option maxHeartbeats 1000000 in
theorem compile_word (a b:ByteArray) (n:Int) (st:Int) (w:World) (ha:a.size≤40) :
  Calls Tryz.prog 167 #[queryV 1 a b n,.int .i64 st] w fun e w'=>∃ pb,e = .returned (ptrV pb)∧Below w.heap.size w w'∧w.heap.size≤pb∧PlanIs w' pb (.iface 400 (.string a)):=by
 have g1:decide ((40:Int) < (a.size:Int))=false:=by simp; omega
 unfold queryV
 go_enter Tryz.func167,Tryz.ntmps167
 go_wp2_with (go_at_call 208; refine (over_make _ _ ⟨_,_,rfl⟩).mono ?_; rintro e w1 ⟨rfl,rfl⟩)
 go_ret
 have hs2:((w.alloc (.cells #[.int .i64 1,.string a,.string b,.int .i64 n] 34)).alloc (.cells #[.iface 400 (.string a)] 436)).heap.size=w.heap.size+1+1:=by simp
 refine ⟨w.heap.size+1+1,rfl,(((Below.refl _ w).alloc (Nat.le_refl _) _).alloc (by simp) _).alloc (by simp; omega) _,by omega,w.heap.size+1,?_,?_⟩
 ·have:=heap_alloc_new ((w.alloc (.cells #[.int .i64 1,.string a,.string b,.int .i64 n] 34)).alloc (.cells #[.iface 400 (.string a)] 436)) (.cells #[.func (.func 239) #[] #[ptrV (w.heap.size+1)],.nilIface] 248)
  rw [hs2] at this
  exact this
 ·rw [Below.heap_alloc _ _ _ (by rw [hs2]; omega)]
  have:=heap_alloc_new (w.alloc (.cells #[.int .i64 1,.string a,.string b,.int .i64 n] 34)) (.cells #[.iface 400 (.string a)] 436)
  rw [World.size_alloc] at this
  exact this
set_option maxRecDepth 100000 in
set_option maxHeartbeats 1000000 in
theorem compile_pre (a b:ByteArray) (n:Int) (st:Int) (w:World) (ha:a.size≤40) :
  Calls Tryz.prog 167 #[queryV 2 a b n,.int .i64 st] w fun e w'=>∃ pb,e = .returned (ptrV pb)∧Below w.heap.size w w'∧w.heap.size≤pb∧PlanIs w' pb (.iface 401 (.string a)):=by
 have g1:decide ((40:Int) < (a.size:Int))=false:=by simp; omega
 unfold queryV
 go_enter Tryz.func167,Tryz.ntmps167
 go_wp2_with (go_at_call 208; refine (over_make _ _ ⟨_,_,rfl⟩).mono ?_; rintro e w1 ⟨rfl,rfl⟩)
 go_ret
 have hs2:((w.alloc (.cells #[.int .i64 2,.string a,.string b,.int .i64 n] 34)).alloc (.cells #[.iface 401 (.string a)] 436)).heap.size=w.heap.size+1+1:=by simp
 refine ⟨w.heap.size+1+1,rfl,(((Below.refl _ w).alloc (Nat.le_refl _) _).alloc (by simp) _).alloc (by simp; omega) _,by omega,w.heap.size+1,?_,?_⟩
 ·have:=heap_alloc_new ((w.alloc (.cells #[.int .i64 2,.string a,.string b,.int .i64 n] 34)).alloc (.cells #[.iface 401 (.string a)] 436)) (.cells #[.func (.func 239) #[] #[ptrV (w.heap.size+1)],.nilIface] 248)
  rw [hs2] at this
  exact this
 ·rw [Below.heap_alloc _ _ _ (by rw [hs2]; omega)]
  have:=heap_alloc_new (w.alloc (.cells #[.int .i64 2,.string a,.string b,.int .i64 n] 34)) (.cells #[.iface 401 (.string a)] 436)
  rw [World.size_alloc] at this
  exact this
end Go.Proofs.Ts
namespace Go.Proofs.Ts
open Go Go.RowKit
structure Asked where
 kind:Int
 a:List UInt8
 b:List UInt8
 n:Int
 states:Int
deriving DecidableEq
def askedV (q:Asked):Value := .agg #[.int .i64 q.kind,strV q.a,strV q.b,.int .i64 q.n,.int .i64 q.states]
set_option maxRecDepth 100000 in
theorem asked_law:KeyLaw Tryz.prog 348 askedV (fun _ _=>True) where
 now:=fun d hd a b=>by
  left
  rw [Tryz.underlying348] at hd
  cases hd
  rfl
 und:=⟨_,Tryz.underlying348⟩
 eq:=fun w a b _ _=>by
  obtain ⟨k1,a1,b1,n1,s1⟩:=a
  obtain ⟨k2,a2,b2,n2,s2⟩:=b
  unfold askedV strV
  simp [go_sem,Op.equal,Op.maxDepth]
  by_cases h1:k1=k2 <;> by_cases h2:a1=a2 <;> by_cases h3:b1=b2 <;> by_cases h4:n1=n2 <;> by_cases h5:s1=s2 <;> simp [h1,h2,h3,h4,h5]
 chk:=fun w e a _=>by
  have hint:∀ (m:Nat) (x:Int),(Instr.checkKey e (m+1) 3 (.int .i64 x)).run Tryz.prog w = .ok () w:=fun m x=>checkKey_zero Tryz.prog e m 3 _ _ Tryz.underlying3 rfl
  have hstr:∀ (m:Nat) (x:ByteArray),(Instr.checkKey e (m+1) 9 (.string x)).run Tryz.prog w = .ok () w:=fun m x=>checkKey_zero Tryz.prog e m 9 _ _ Tryz.underlying9 rfl
  unfold askedV strV
  rw [show (10000:Nat)=9999+1 from rfl]
  unfold Instr.checkKey
  simp [go_sem]
  have hq:(Instr.checkKey e 9999 34 (.agg #[.int .i64 a.kind,.string { data:=a.a.toArray },.string { data:=a.b.toArray },.int .i64 a.n])).run Tryz.prog w = .ok () w:=by
   rw [show (9999:Nat)=9998+1 from rfl]
   unfold Instr.checkKey
   simp [go_sem,hint 9997,hstr 9997]
  rw [hq]
  exact hint 9998 a.states
 same:=fun a=>by
  unfold askedV strV
  have h:∀ l:List UInt8,(({ data:=l.toArray }:ByteArray) == { data:=l.toArray })=true:=fun l=>by rw [beq_toListBytes]; simp
  simp [Instr.sameBits,h]
end Go.Proofs.Ts
namespace Go.Proofs.Ts
open Go Go.Lib
def bt (p:List UInt8) (k:Nat):Nat:=(p.getD k 0).toNat
def dec (p:List UInt8):Nat × Nat:=decodeGo ⟨p.toArray⟩
def full (p:List UInt8):Bool:=decide (0 < p.length) && (decide (firstT (bt p 0) % 8≤p.length) || (decide (1 < p.length) && (decide (bt p 1 < accLo (firstT (bt p 0) / 16)) || decide (accHi (firstT (bt p 0) / 16) < bt p 1)) || (decide (2 < p.length) && (decide (bt p 2 < 128) || decide (191 < bt p 2)))))
def encN (r:Nat):List Nat :=
 if r < 128 then [r] else if r < 2048 then [192+r / 64,128+r % 64] else if r < 65536 then [224+r / 4096,128+r / 64 % 64,128+r % 64]
 else [240+r / 262144,128+r / 4096 % 64,128+r / 64 % 64,128+r % 64]
def enc (r:Nat):List UInt8:=(encN r).map UInt8.ofNat
end Go.Proofs.Ts
namespace Go.Proofs.Ts
open Go Go.Lib
structure NS where
 now:List Nat
 was:List Nat
 last:Int
 part:List UInt8
def nstart:NS:=⟨(List.range 41).map (min · 3),List.replicate 41 3,-1,[]⟩
def cellN (word now was:List Nat) (last:Int) (r:Nat):Nat→Nat
 | 0=>min (now.getD 0 0+1) 3
 | j+1=>min (if 0 < j∧(word.getD j 0:Int)=last∧word.getD (j - 1) 0=r then min (min (min (now.getD j 0+if word.getD j 0=r then 0 else 1) (now.getD (j+1) 0+1)) (cellN word now was last r j+1)) (was.getD (j - 1) 0+1)
   else min (min (now.getD j 0+if word.getD j 0=r then 0 else 1) (now.getD (j+1) 0+1)) (cellN word now was last r j+1)) 3
def leastN (word now was:List Nat) (last:Int) (r:Nat):Nat→Nat
 | 0=>cellN word now was last r 0
 | j+1=>min (leastN word now was last r j) (cellN word now was last r (j+1))
def rowN (word:List Nat) (s:NS) (r:Nat):List Nat:=(List.range 41).map fun j=>if j≤word.length then cellN word s.now s.was s.last r j else 3
def leastRow (l:List Nat):Nat:=l.foldl min (l.getD 0 0)
def nnext (word:List Nat) (s:NS) (c:UInt8):NS :=
 if full (s.part++[c])=false then { s with part:=s.part++[c] } else ⟨rowN word s (dec (s.part++[c])).1,s.now,((dec (s.part++[c])).1:Int),[]⟩
def nok (word:List Nat) (far:Nat) (s:NS) (c:UInt8):Bool :=
 if full (s.part++[c])=false then true
 else if (dec (s.part++[c])).1=65533∧(dec (s.part++[c])).2 < 2 then false
 else decide (leastN word s.now s.was s.last (dec (s.part++[c])).1 word.length≤far∨leastRow s.now < far)
def nstep (word:List Nat) (far:Nat) (s:NS) (c:UInt8):Option NS:=if nok word far s c then some (nnext word s c) else none
def nends (word:List Nat) (far:Nat) (s:NS):Bool:=decide (s.part=[]) && decide (s.now.getD word.length 0≤far)
/-! ### a greater distance reads no less -/
/-! ### bytes below 128 -/
/-! ### what is far is not read: a bound below the rows -/
section
variable {word:List Nat} {F:List UInt8→Nat→Int}
end
/-! ### what is near is read: a way through the rows -/
section
variable {word:List Nat}
end
end Go.Proofs.Ts
namespace Go.Proofs.Ts
open Go Go.RowKit
def u8s (l:List Nat):List Value:=l.map fun (x:Nat)=>Value.int .u8 (x:Int)
def rcells (now was:List Nat) (last:Int) (p4:List Nat) (n:Nat):List Value:=u8s now++(u8s was++([.int .i32 last]++(u8s p4++[.int .i64 (n:Int)])))
def rowsCells (s:NS):List Value:=rcells s.now s.was s.last ((List.range 4).map (bt s.part)) s.part.length
def rowsV (s:NS):Value := .agg (rowsCells s).toArray
section
variable {w:World} {b:Nat} {now was:List Nat} {last:Int} {p4:List Nat} {n:Nat}
end
theorem setRow_other (w:World) (b:Nat) (cs:Array Value) (k:Nat) (h:k≠b):(w.setRow b cs).heap[k]?=w.heap[k]?:=by
 unfold World.setRow
 simp only [Array.getElem?_modify]
 rw [if_neg (fun e=>h e.symm)]
structure TabsIn (w:World):Prop where
 first:∃ cs,w.heap[2]?=some (.cells cs 412 (0,0))
 accept:∃ cs,w.heap[3]?=some (.cells cs 415 (0,0))
 tabs:Lib.Utf8Tabs 2 3 w
theorem TabsIn.kept {w w':World} (h:TabsIn w) (h1:w'.heap[2]?=w.heap[2]?) (h2:w'.heap[3]?=w.heap[3]?):TabsIn w':=by
 have e1:∀ j,w'.cell? ⟨2,j,none⟩=w.cell? ⟨2,j,none⟩:=fun j=>World.cell?_of_block (a:=⟨2,j,none⟩) h1
 have e2:∀ j,w'.cell? ⟨3,j,none⟩=w.cell? ⟨3,j,none⟩:=fun j=>World.cell?_of_block (a:=⟨3,j,none⟩) h2
 exact ⟨by rw [h1]; exact h.first,by rw [h2]; exact h.accept,fun c hc=>(e1 c).trans (h.tabs.1 c hc),fun i hi=>⟨(e2 _).trans (h.tabs.2 i hi).1,(e2 _).trans (h.tabs.2 i hi).2⟩⟩
end Go.Proofs.Ts
namespace Go.Proofs.Ts
open Go Go.RowKit
section
variable {w W:World} {g cap:Nat} {word:List Nat} {far:Nat} {now was:List Nat} {last:Int} {p4:List Nat} {n:Nat}
end
theorem results_pair {P:Program} {fn:Func} {p u:Tmp} {ty:TypeId} (h:fn.results=#[.cell p ty,.tmp u]) (tmps:Array Value) (w:World) (g:Nat) (t:TypeId) (cs:Array Value) (fr:Nat × Nat) (d:TypeDesc) (x:Value)
  (hp:tmps.getD p undef = .pointer (some ⟨g,0,none⟩)) (hx:tmps.getD u undef=x) (hg:w.heap[g]?=some (.cells cs t fr))
  (hu:P.underlying ty=some d) (hd:(match d with | .struct _ | .array _ _=>true | _=>false)=true) (hi:(P.info? ty).map (·.size)=some cs.size) :
  (results fn tmps).run P w = .ok (.tuple #[.agg cs,x]) w:=by
 rw [results_cell_tmp h,hp,hx]
 simp [asAddr,run_loadVar_row w g t ty cs fr d hg hu hd hi]
theorem wpOrd_row {P:Program} {S:World→Prop} {l:List Oper} {xx:Nat} {Q:Act→World→Prop} {i:Nat} {rest:List (Nat × Bool)} {a:Act} {w:World} {o:Oper} (ty:TypeId) (x:Operand) (b:Nat) (cs:Array Value) (t:TypeId) (r:Nat × Nat) (d:TypeDesc)
  (ho:l[i]?=some o) (hw:Region.wanted o (yielded l.toArray a.tmps)=true) (hop:o.op = .load ty x) (hx:a.eval x = .pointer (some ⟨b,0,none⟩)) (hS:∀ w',S w'→w'.heap[b]?=some (.cells cs t r))
  (hu:P.underlying ty=some d) (hd:(match d with | .struct _ | .array _ _=>true | _=>false)=true) (hi:(P.info? ty).map (·.size)=some cs.size) (h:wpOrd P l S xx Q rest (a.put o.dst (.agg cs)) w):wpOrd P l S xx Q ((i,false) :: rest) a w :=
 wpOrd_quiet _ ho hw (fun w' hs=>by
  unfold execOp
  simp only [hop,hx,Instr.loadAt,Instr.sureAddr,Sem.run_bind,Sem.run_pure,Result.andThen_ok,run_loadVar_row w' b t ty cs r d (hS w' hs) hu hd hi]) h
end Go.Proofs.Ts
namespace Go.Proofs.Ts.R
open Go Go.RowKit Go.Proofs.Ts
variable {σ:Type} {ec:σ→Array Value}
def cellsN:Nat:=88
structure AutI (ec:σ→Array Value) (H:World→Prop) (iv:Value) (ok:σ→Prop) (step:σ→UInt8→Option σ) (ends:σ→Bool):Prop where
 ex : ∃ T v fE fT rE rT, iv = .iface T v ∧ (∀ fu w, (method (fu + 1) T v "Ends").run Tryz.prog w = .ok (fE, rE) w) ∧ (∀ fu w, (method (fu + 1) T v "Step").run Tryz.prog w = .ok (fT, rT) w) ∧
  (∀ args w,(callFunc fE args).run Tryz.prog w = .ok (.enter fE args) w)∧(∀ args w,(callFunc fT args).run Tryz.prog w = .ok (.enter fT args) w) ∧
  (∀ s w,H w→ok s→Calls Tryz.prog fE #[rE,.agg (ec s)] w fun e w'=>e = .returned (.bool (ends s))∧Below w.heap.size w w') ∧
  ∀ s c w,H w→ok s→Calls Tryz.prog fT #[rT,.agg (ec s),.int .u8 (UInt8.toNat c)] w fun e w'=>(∃ t:σ,e = .returned (.tuple #[.agg (ec t),.bool (step s c).isSome])∧(ec t).size=cellsN∧(ec t).all (·.oneCell')=true ∧ ∀ u,step s c=some u→t=u)∧Below w.heap.size w w'
 next:∀ s c t,ok s→step s c=some t→ok t
 keep:∀ w w',H w→KeepG w w'→H w'
 size:∀ s,ok s→(ec s).size=cellsN
structure WM (V:Value) (D:List DS) (db:Nat) (iv yf:Value) (bd ba by' bw:Nat) (w:World):Prop where
 dct:w.heap[db]?=some (.cells #[V] 172 (0,0))
 rows:RowsIn 0 w V D
 bxd:w.heap[bd]?=some (.cells #[ptrV db] 158 (0,0))
 bxa:w.heap[ba]?=some (.cells #[iv] 352 (0,0))
 bxy:w.heap[by']?=some (.cells #[yf] 249 (0,0))
 bxw:w.heap[bw]?=some (.cells #[.func (.func 173) #[] #[ptrV bd,ptrV ba,ptrV by',ptrV bw]] 353 (0,0))
structure WAt (V:Value) (D:List DS) (db:Nat) (iv yf:Value) (bd ba by' bw B:Nat) (p:List UInt8) (pv:Value) (J:List (List UInt8 × Nat)→World→Prop) (w0:World) (ys:List (List UInt8 × Nat)) (w:World):Prop where
 wm:WM V D db iv yf bd ba by' bw w
 row:w.ownsRow 0 5 1 pv p.length (bytesV p)
 keep:KeepB pv w0 w
 j:J ys w
 size:B≤w.heap.size
section
variable {V:Value} {D:List DS} {db:Nat} {iv yf:Value} {bd ba by' bw B:Nat} {p:List UInt8} {pv pv':Value} {J J':List (List UInt8 × Nat)→World→Prop} {w0:World} {ys ys':List (List UInt8 × Nat)} {Wb Wc W4 W5:World} {c:UInt8}
end
end Go.Proofs.Ts.R
namespace Go.Proofs.Ts.R
open Go Go.RowKit Go.Proofs.Ts
variable {σ:Type} {ec:σ→Array Value}
def AutS (ec : σ → Array Value) (H : World → Prop) (iv : Value) (s0 : σ) : Prop := ∃ T v fS rS, iv = .iface T v ∧ (∀ fu w, (method (fu + 1) T v "Start").run Tryz.prog w = .ok (fS, rS) w) ∧ (∀ args w, (callFunc fS args).run Tryz.prog w = .ok (.enter fS args) w) ∧
 ∀ w,H w→Calls Tryz.prog fS #[rS] w fun e w'=>e = .returned (.agg (ec s0))∧Below w.heap.size w w'
def walkFn (bd ba by' bw:Nat):Value := .func (.func 173) #[] #[.pointer (some ⟨bd,0,none⟩),.pointer (some ⟨ba,0,none⟩),.pointer (some ⟨by',0,none⟩),.pointer (some ⟨bw,0,none⟩)]
def overStart (w:World) (db g:Nat) (lb:Array Value) (ba:Nat):World :=
 ((w.alloc (.cells #[.pointer (some ⟨db,0,none⟩)] 158)).alloc (.cells #[.func (.func g) #[] lb] 249)).alloc (.cells #[walkFn w.heap.size ba (w.heap.size+1) (w.heap.size+1+1)] 353)
end Go.Proofs.Ts.R
namespace Go.Proofs.Ts
open Go Go.RowKit
def runesR (a:ByteArray):List Nat:=(Conv.runesFrom a a.size 0 #[]).toList.map fun v=>match v with
 | .int _ r=>r.toNat
 | _=>0
def errnoV (k:Int):Value := .iface 43 (.int .i64 k)
def nearBad (a:ByteArray) (n:Int):Option Int:=if 40 < a.size then some 2 else if n < 0∨2 < n then some 7 else if Lib.validD a.data.toList=true then none else some 8
end Go.Proofs.Ts
namespace Go.Proofs.Ts
open Go Go.RowKit
section
variable {w w':World} {rb i:Nat} {s:ByteArray}
end
def isB (s:ByteArray) (i:Nat) (c:UInt8):Bool:=decide (s.data.toList[i]?=some c)
theorem at_str (s:ByteArray) (k:Nat) (h:k < s.size):s.data.toList[k]?=some s[k]:=by
 have:k < s.data.toList.length:=by simpa using h
 rw [List.getElem?_eq_getElem this]
 rfl
theorem at_end (s:ByteArray) (k:Nat) (h:s.size≤k):s.data.toList[k]?=none:=List.getElem?_eq_none (by simpa using h)
def eatB (s:ByteArray) (i:Nat) (c:UInt8):Nat:=if isB s i c then i+1 else i
end Go.Proofs.Ts
namespace Go.Proofs.Ts
open Go
inductive PR (α:Type) where
 | fault (i:Nat)
 | ok (x:α) (i:Nat)
def singleP (s:ByteArray) (i:Nat):PR UInt8 :=
 match s.data.toList[eatB s i 92]? with
 | none => .fault (eatB s i 92)
 | some c => .ok c (eatB s i 92+1)
def digitP (s:ByteArray) (i least:Nat):PR Nat :=
 match s.data.toList[i]? with
 | none => .fault i
 | some c=>if 48+least≤c.toNat∧c.toNat≤57 then .ok (c.toNat - 48) (i+1) else .fault i
def clsB (s:ByteArray) (i:Nat):Bool:=decide (i < s.size) && !isB s i 45 && !isB s i 93
/-! ### Places rise. -/
def PR.Good {α:Type} (s:ByteArray) (i:Nat):PR α→Prop
 | .fault e=>e≤s.size
 | .ok _ j=>i≤j∧j≤s.size
end Go.Proofs.Ts
namespace Go.Proofs.Ts
open Go
structure PSet where
 a:Nat
 b:Nat
 c:Nat
 deriving DecidableEq,Inhabited
abbrev W64:Nat:=18446744073709551616
namespace PSet
def word (s:PSet):Nat→Nat
 | 0=>s.a
 | 1=>s.b
 | _=>s.c
def ok (s:PSet):Prop:=s.a < W64∧s.b < W64∧s.c < W64
def zero:PSet:=⟨0,0,0⟩
def mem (s:PSet) (k:Nat):Bool:=(s.word (k / 64)).testBit (k % 64)
def or (s t:PSet):PSet:=⟨s.a ||| t.a,s.b ||| t.b,s.c ||| t.c⟩
def and (s t:PSet):PSet:=⟨s.a &&& t.a,s.b &&& t.b,s.c &&& t.c⟩
def setw (s:PSet) (i v:Nat):PSet:=match i with
 | 0=>{ s with a:=v }
 | 1=>{ s with b:=v }
 | _=>{ s with c:=v }
def on (s:PSet) (k:Nat):PSet:=s.setw (k / 64) (s.word (k / 64) ||| 2 ^ (k % 64))
def cells (s:PSet):List Value:=[.int .u64 s.a,.int .u64 s.b,.int .u64 s.c]
end PSet
end Go.Proofs.Ts
namespace Go.Proofs.Ts
open Go Go.RowKit
def PSet.val (s:PSet):Value := .agg s.cells.toArray
end Go.Proofs.Ts
namespace Go.Proofs.Ts
open Go Go.RowKit
def beginSet:PSet:=PSet.zero.on 128
end Go.Proofs.Ts
namespace Go.Proofs.Ts
open Go Go.RowKit
structure PM where
 at':List PSet
 follow:List PSet
 last:PSet
 n:Nat
 deriving Inhabited
def setCells (l:List PSet):List Value:=l.flatMap PSet.cells
def PM.cells (M:PM):List Value:=setCells M.at'++(setCells M.follow++(M.last.cells++[.int .i64 M.n]))
structure PM.ok (M:PM):Prop where
 la:M.at'.length=256
 lf:M.follow.length=129
 oa:∀ s∈M.at',s.ok
 of':∀ s∈M.follow,s.ok
 ol:M.last.ok
section
variable {w:World} {mb:Nat} {M:PM}
end
def PM.ends (M:PM) (s:PSet):Bool:=!decide (s.and M.last=PSet.zero)
end Go.Proofs.Ts
