/- Lemmas towards the statement Written of termsearch: walks of the program's functions and plain laws on lists (TsDict, TsNumber, TsCount). Conditions: those that each theorem names. -/
import Derived.Test.YtffjomnnkilhgaaGreatDoorWrittenPA
import Derived.Maps.AppendAt
import Derived.Deep.CutBlock
import Derived.Deep.DeepCutAuto
set_option linter.unusedVariables false
set_option linter.unusedSimpArgs false
set_option linter.unusedSectionVars false
namespace Go.Proofs.Ts
open Go Go.RowKit
structure DS where
 final:Bool
 edges:List (UInt8 × Nat)
 v:Value
 below:Nat
def dEdgeCells (es:List (UInt8 × Nat)):List Value:=es.flatMap fun p=>[.int .u8 p.1.toNat,intV p.2]
theorem dEdgeCells_append (a b:List (UInt8 × Nat)):dEdgeCells (a++b)=dEdgeCells a++dEdgeCells b:=by simp [dEdgeCells]
theorem dEdgeCells_at:∀ (es:List (UInt8 × Nat)) (i:Nat) (p:UInt8 × Nat),es[i]?=some p→(dEdgeCells es)[i * 2]?=some (.int .u8 p.1.toNat)∧(dEdgeCells es)[i * 2+1]?=some (intV p.2)
 | [],i,p,h=>by simp at h
 | y :: t,0,p,h=>by simp at h; subst h; simp [dEdgeCells]
 | y :: t,i+1,p,h=>by
  have ih:=dEdgeCells_at t i p (by simpa using h)
  have e:dEdgeCells (y :: t) = .int .u8 y.1.toNat :: intV y.2 :: dEdgeCells t:=by simp [dEdgeCells]
  rw [e,show (i+1) * 2=i * 2+1+1 by omega,show i * 2+1+1+1=(i * 2+1)+1+1 by omega]
  simpa using ih
def stateCells (D:List DS):List Value:=D.flatMap fun s=>[.bool s.final,s.v,intV s.below]
theorem stateCells_cons (s:DS) (D:List DS):stateCells (s :: D) = .bool s.final :: s.v :: intV s.below :: stateCells D:=by simp [stateCells]
theorem stateCells_append (a b:List DS):stateCells (a++b)=stateCells a++stateCells b:=by simp [stateCells]
theorem stateCells_at:∀ (D:List DS) (i:Nat) (s:DS),D[i]?=some s→(stateCells D)[i * 3]?=some (.bool s.final)∧(stateCells D)[i * 3+1]?=some s.v∧(stateCells D)[i * 3+2]?=some (intV s.below)
 | [],i,p,h=>by simp at h
 | y :: t,0,p,h=>by simp at h; subst h; simp [stateCells]
 | y :: t,i+1,p,h=>by
  have ih:=stateCells_at t i p (by simpa using h)
  rw [stateCells_cons,show (i+1) * 3=i * 3+1+1+1 by omega,show i * 3+1+1+1+1=(i * 3+1)+1+1+1 by omega,show i * 3+1+1+1+2=(i * 3+2)+1+1+1 by omega]
  simpa using ih
theorem stateCells_set_v:∀ (D:List DS) (i:Nat) (s:DS) (v:Value),D[i]?=some s→(es:List (UInt8 × Nat))→(stateCells D).set (i * 3+1) v=stateCells (D.set i { s with v:=v,edges:=es })
 | [],i,s,v,h,es=>by simp at h
 | y :: t,0,s,v,h,es=>by simp at h; subst h; simp [stateCells_cons]
 | y :: t,i+1,s,v,h,es=>by
  have ih:=stateCells_set_v t i s v (by simpa using h) es
  rw [List.set_cons_succ,stateCells_cons,stateCells_cons,show (i+1) * 3+1=(i * 3+1)+1+1+1 by omega]
  simp [ih]
theorem stateCells_set_below:∀ (D:List DS) (i:Nat) (s:DS) (b:Nat),D[i]?=some s→(stateCells D).set (i * 3+2) (intV b)=stateCells (D.set i { s with below:=b })
 | [],i,s,v,h=>by simp at h
 | y :: t,0,s,v,h=>by simp at h; subst h; simp [stateCells_cons]
 | y :: t,i+1,s,v,h=>by
  have ih:=stateCells_set_below t i s v (by simpa using h)
  rw [List.set_cons_succ,stateCells_cons,stateCells_cons,show (i+1) * 3+2=(i * 3+2)+1+1+1 by omega]
  simp [ih]
structure RowsIn (B:Nat) (w:World) (V:Value) (D:List DS):Prop where
 row:w.ownsRow 0 207 3 V D.length (stateCells D)
 past:Past B V
 erow:∀ (i:Nat) s,D[i]?=some s→w.ownsRow 0 242 2 s.v s.edges.length (dEdgeCells s.edges)
 epast:∀ (i:Nat) s,D[i]?=some s→Past B s.v
 apart:∀ (i j:Nat) s t g,i≠j→D[i]?=some s→D[j]?=some t→s.v.ownBlock=some g→t.v.ownBlock≠some g
 apartV:∀ (i:Nat) s g,D[i]?=some s→s.v.ownBlock=some g→V.ownBlock≠some g
theorem RowsIn.empty (B:Nat) (w:World):RowsIn B w (.slice none 0 0) [] :=
 ⟨World.ownsRow_nil _ _ _ _,(fun k h=>by cases h),(fun i s h=>by simp at h),(fun i s h=>by simp at h),(fun i j s t g _ h=>by simp at h),(fun i s g h=>by simp at h)⟩
theorem RowsIn.kept {B:Nat} {w w':World} {V:Value} {D:List DS} (h:RowsIn B w V D) (hk:∀ k,B≤k→k < w.heap.size→w'.heap[k]?=w.heap[k]?):RowsIn B w' V D :=
 ⟨ownsRow_block h.row fun k e=>hk k (h.past k e) (h.row.lt k e).2,h.past,fun i s hi=>ownsRow_block (h.erow i s hi) fun k e=>hk k (h.epast i s hi k e) ((h.erow i s hi).lt k e).2,h.epast,h.apart,h.apartV⟩
theorem RowsIn.kept0 {B:Nat} {w:World} {V:Value} {D:List DS} (h:RowsIn B w V D):RowsIn 0 w V D :=
 ⟨h.row,fun _ _=>Nat.zero_le _,h.erow,fun _ _ _ _ _=>Nat.zero_le _,h.apart,h.apartV⟩
theorem RowsIn.cells {B:Nat} {w:World} {V:Value} {D:List DS} (h:RowsIn B w V D) {i:Nat} {s:DS} (hi:D[i]?=some s) :
  ∃ g cap,V=sL g D.length cap∧w.cell? (aD g (i * 3))=some (.bool s.final)∧w.cell? (aD g (i * 3+1))=some s.v∧w.cell? (aD g (i * 3+2))=some (intV s.below) ∧
   w.frozen? (aD g (i * 3+1))=false∧w.frozen? (aD g (i * 3+2))=false:=by
 have hrow:=h.row
 have hlt:=(List.getElem?_eq_some_iff.1 hi).1
 obtain ⟨m,hm⟩:∃ m,D.length=m+1:=⟨D.length - 1,by omega⟩
 rw [hm] at hrow
 obtain ⟨g,cap,hv⟩:=ownsRow_head hrow
 rw [hv] at hrow
 obtain ⟨e1,e2,e3⟩:=stateCells_at D i s hi
 exact ⟨g,cap,by rw [hm]; exact hv,(hrow.cellAt _ (by omega)).trans e1,(hrow.cellAt _ (by omega)).trans e2,(hrow.cellAt _ (by omega)).trans e3,hrow.frozenAt _,hrow.frozenAt _⟩
theorem RowsIn.edgeCells {B:Nat} {w:World} {V:Value} {D:List DS} (h:RowsIn B w V D) {i:Nat} {s:DS} (hi:D[i]?=some s) {j:Nat} {p:UInt8 × Nat} (hj:s.edges[j]?=some p) :
  ∃ g cap,s.v=sL g s.edges.length cap∧w.cell? (aD g (j * 2))=some (.int .u8 p.1.toNat)∧w.cell? (aD g (j * 2+1))=some (intV p.2):=by
 have hrow:=h.erow i s hi
 have hlt:=(List.getElem?_eq_some_iff.1 hj).1
 obtain ⟨m,hm⟩:∃ m,s.edges.length=m+1:=⟨s.edges.length - 1,by omega⟩
 rw [hm] at hrow
 obtain ⟨g,cap,hv⟩:=ownsRow_head hrow
 rw [hv] at hrow
 obtain ⟨e1,e2⟩:=dEdgeCells_at s.edges j p hj
 exact ⟨g,cap,by rw [hm]; exact hv,(hrow.cellAt _ (by omega)).trans e1,(hrow.cellAt _ (by omega)).trans e2⟩
theorem RowsIn.push {B:Nat} {w w':World} {V V':Value} {D:List DS} (h:RowsIn B w V D) (hB:B≤w.heap.size) (hm:Moves w V w' V') {f:Bool} (hrow:w'.ownsRow 0 207 3 V' (D.length+1) (stateCells (D++[⟨f,[],.slice none 0 0,0⟩]))) :
  RowsIn B w' V' (D++[⟨f,[],.slice none 0 0,0⟩]):=by
 have get1:∀ (i:Nat) s,(D++[(⟨f,[],.slice none 0 0,0⟩:DS)])[i]?=some s→D[i]?=some s∨s=⟨f,[],.slice none 0 0,0⟩:=fun i s hi=>by
  by_cases h1:i < D.length
  ·rw [List.getElem?_append_left h1] at hi; exact .inl hi
  ·rw [List.getElem?_append_right (by omega)] at hi
   right
   have:=List.mem_of_getElem? hi
   simpa using this
 refine ⟨by simpa using hrow,hm.past h.past hB,fun i s hi=>?_,fun i s hi=>?_,fun i j s t g hne hi hj hg=>?_,fun i s g hi hg=>?_⟩
 ·rcases get1 i s hi with hi | rfl
  ·exact ownsRow_block (h.erow i s hi) fun k e=>hm.block ((h.erow i s hi).lt k e).2 (h.apartV i s k hi e)
  ·exact World.ownsRow_nil _ _ _ _
 ·rcases get1 i s hi with hi | rfl
  ·exact h.epast i s hi
  ·exact fun k e=>by cases e
 ·rcases get1 i s hi with hi | rfl
  ·rcases get1 j t hj with hj | rfl
   ·exact h.apart i j s t g hne hi hj hg
   ·intro e; cases e
  ·cases hg
 ·rcases get1 i s hi with hi | rfl
  ·intro e
   rcases hm.lies with h1 | ⟨g',h1,h2⟩
   ·exact h.apartV i s g hi hg (h1 ▸ e)
   ·rw [h1] at e
    have:=((h.erow i s hi).lt g hg).2
    have:=Option.some.inj e
    omega
  ·cases hg
theorem RowsIn.link {B:Nat} {w w':World} {V:Value} {D:List DS} (h:RowsIn B w V D) (hB:B≤w.heap.size) {k g cap:Nat} {s:DS} (hk:D[k]?=some s) {v':Value} (hm:Moves w s.v w' v') {p:UInt8 × Nat}
  (hrow:w'.ownsRow 0 242 2 v' (s.edges.length+1) (dEdgeCells (s.edges++[p]))) (hV:V=sL g D.length cap) :
  RowsIn B (w'.setCell (aD g (k * 3+1)) v') V (D.set k { s with v:=v',edges:=s.edges++[p] }):=by
 have hkl:=(List.getElem?_eq_some_iff.1 hk).1
 have hVo:V.ownBlock=some g:=by rw [hV]; rfl
 have hsv:s.v.ownBlock≠some g:=fun e=>h.apartV k s g hk e hVo
 have hgl:=(h.row.lt g hVo).2
 have hv'g:v'.ownBlock≠some g:=fun e=>by
  rcases hm.lies with h1 | ⟨g',h1,h2⟩
  ·exact hsv (h1 ▸ e)
  ·rw [h1] at e
   have:=Option.some.inj e
   omega
 have hr1:w'.ownsRow 0 207 3 V D.length (stateCells D):=ownsRow_block h.row fun j e=>hm.block (h.row.lt j e).2 (fun e'=>h.apartV k s j hk e' e)
 have get1:∀ (i:Nat) x,(D.set k { s with v:=v',edges:=s.edges++[p] })[i]?=some x→(i=k∧x={ s with v:=v',edges:=s.edges++[p] })∨(i≠k∧D[i]?=some x):=fun i x hi=>by
  rw [List.getElem?_set] at hi
  split at hi
  ·rename_i e
   subst e
   first | rw [if_pos hkl] at hi | skip
   exact .inl ⟨rfl,(Option.some.inj hi).symm⟩
  ·rename_i e
   exact .inr ⟨Ne.symm e,hi⟩
 have hv'new:∀ i x,i≠k→D[i]?=some x → ∀ j,x.v.ownBlock=some j→v'.ownBlock≠some j:=fun i x hne hi j hj e=>by
  rcases hm.lies with h1 | ⟨g',h1,h2⟩
  ·exact h.apart i k x s j hne hi hk hj (h1 ▸ e)
  ·rw [h1] at e
   have:=Option.some.inj e
   have:=((h.erow i x hi).lt j hj).2
   omega
 refine ⟨?_,h.past,fun i x hi=>?_,fun i x hi=>?_,fun i j x y b hne hi hj hb=>?_,fun i x b hi hb=>?_⟩
 ·rw [hV] at hr1 ⊢
  have:=(hr1.stored (k * 3+1) v').1
  rw [stateCells_set_v D k s v' hk (s.edges++[p])] at this
  simpa using this
 ·rcases get1 i x hi with ⟨rfl,rfl⟩ | ⟨hne,hi⟩
  ·have hl:(s.edges++[p]).length=s.edges.length+1:=by simp
   simp only [hl]
   exact ownsRow_block hrow fun j e=>Below.heap_setCell _ _ _ j (fun e'=>hv'g (by rw [e]; exact congrArg some e'))
  ·refine ownsRow_block (h.erow i x hi) fun j e=>?_
   rw [Below.heap_setCell _ _ _ j (fun e'=>h.apartV i x j hi e (by rw [hVo]; exact congrArg some e'.symm))]
   exact hm.block ((h.erow i x hi).lt j e).2 (h.apart i k x s j hne hi hk e)
 ·rcases get1 i x hi with ⟨rfl,rfl⟩ | ⟨hne,hi⟩
  ·exact hm.past (h.epast _ s hk) hB
  ·exact h.epast i x hi
 ·rcases get1 i x hi with ⟨rfl,rfl⟩ | ⟨hne1,hi⟩
  ·rcases get1 j y hj with ⟨rfl,rfl⟩ | ⟨hne2,hj⟩
   ·exact absurd rfl hne
   ·exact fun e=>hv'new j y hne2 hj b e hb
  ·rcases get1 j y hj with ⟨rfl,rfl⟩ | ⟨hne2,hj⟩
   ·exact hv'new i x hne1 (by assumption) b hb
   ·exact h.apart i j x y b hne hi hj hb
 ·rcases get1 i x hi with ⟨rfl,rfl⟩ | ⟨hne1,hi⟩
  ·intro e
   rw [hVo] at e
   exact hv'g (by rw [e]; exact hb)
  ·exact h.apartV i x b hi hb
theorem RowsIn.tell {B:Nat} {w:World} {V:Value} {D:List DS} (h:RowsIn B w V D) {k g cap b:Nat} {s:DS} (hk:D[k]?=some s) (hV:V=sL g D.length cap) :
  RowsIn B (w.setCell (aD g (k * 3+2)) (intV b)) V (D.set k { s with below:=b }):=by
 have hkl:=(List.getElem?_eq_some_iff.1 hk).1
 have hVo:V.ownBlock=some g:=by rw [hV]; rfl
 have get1:∀ (i:Nat) x,(D.set k { s with below:=b })[i]?=some x → ∃ y,D[i]?=some y∧x.v=y.v∧x.edges=y.edges:=fun i x hi=>by
  rw [List.getElem?_set] at hi
  split at hi
  ·rename_i e
   subst e
   first | rw [if_pos hkl] at hi | skip
   cases hi
   exact ⟨s,hk,rfl,rfl⟩
  ·exact ⟨x,hi,rfl,rfl⟩
 refine ⟨?_,h.past,fun i x hi=>?_,fun i x hi=>?_,fun i j x y c hne hi hj hb=>?_,fun i x c hi hb=>?_⟩
 ·have hr1:=h.row
  rw [hV] at hr1 ⊢
  have:=(hr1.stored (k * 3+2) (intV b)).1
  rw [stateCells_set_below D k s b hk] at this
  simpa using this
 ·obtain ⟨y,h1,h2,h3⟩:=get1 i x hi
  rw [h2,h3]
  exact ownsRow_block (h.erow i y h1) fun j e=>Below.heap_setCell _ _ _ j (fun e'=>h.apartV i y j h1 e (by rw [hVo]; exact congrArg some e'.symm))
 ·obtain ⟨y,h1,h2,h3⟩:=get1 i x hi
  rw [h2]
  exact h.epast i y h1
 ·obtain ⟨x',h1,h2,_⟩:=get1 i x hi
  obtain ⟨y',h1',h2',_⟩:=get1 j y hj
  rw [h2] at hb
  rw [h2']
  exact h.apart i j x' y' c hne h1 h1' hb
 ·obtain ⟨y,h1,h2,h3⟩:=get1 i x hi
  rw [h2] at hb
  exact h.apartV i y c h1 hb
end Go.Proofs.Ts
namespace Go.Proofs.Ts
open Go Go.RowKit
def meetFn (H:Nat):Value := .func (.func 187) #[] #[ptrV (H+3),ptrV (H+1),ptrV (H+4)]
structure Meet (H:Nat) (M:List (Nat × Nat)) (D:List DS) (V:Value) (w:World):Prop where
 dct:w.heap[H]?=some (.cells #[V] 172 (0,0))
 cd:w.heap[H+1]?=some (.cells #[ptrV H] 158 (0,0))
 mp:MapIs ptrV w (H+2) (vals intV M)
 cm:w.heap[H+3]?=some (.cells #[.map (some (H+2))] 276 (0,0))
 cf:w.heap[H+4]?=some (.cells #[meetFn H] 376 (0,0))
 rows:RowsIn (H+5) w V D
def Touch (H:Nat) (V:Value) (j:Nat):Prop:=j=H∨j=H+2∨V.ownBlock=some j
structure Steps (H:Nat) (w:World) (V:Value) (w':World) (V':Value):Prop where
 mod:Mod (Touch H V) w w'
 lies:V'.ownBlock=V.ownBlock ∨ ∃ g,V'.ownBlock=some g∧w.heap.size≤g
theorem Steps.refl (H:Nat) (w:World) (V:Value):Steps H w V w V:=⟨Mod.refl _ _,.inl rfl⟩
theorem Steps.trans {H:Nat} {a b c:World} {U V X:Value} (h:Steps H a U b V) (k:Steps H b V c X):Steps H a U c X:=by
 refine ⟨⟨k.mod.os.trans h.mod.os,k.mod.tape.trans h.mod.tape,k.mod.output.trans h.mod.output,Nat.le_trans h.mod.size k.mod.size,fun j hj hn=>?_⟩,?_⟩
 ·refine (k.mod.block j (Nat.lt_of_lt_of_le hj h.mod.size) ?_).trans (h.mod.block j hj hn)
  rintro (e | e | e)
  ·exact hn (.inl e)
  ·exact hn (.inr (.inl e))
  ·rcases h.lies with l | ⟨g,l,hg⟩
   ·exact hn (.inr (.inr (l ▸ e)))
   ·rw [l] at e; have:=Option.some.inj e; omega
 ·rcases k.lies with l | ⟨g,l,hg⟩
  ·rw [l]; exact h.lies
  ·exact .inr ⟨g,l,Nat.le_trans h.mod.size hg⟩
theorem Steps.kept {H:Nat} {a b c:World} {U V:Value} (h:Steps H a U b V) (hs:b.heap.size≤c.heap.size) (ho:c.os=b.os) (ht:c.tape=b.tape) (hou:c.output=b.output) (hk:∀ j,j < a.heap.size→c.heap[j]?=b.heap[j]?∨Touch H V j):Steps H a U c V :=
 ⟨⟨ho.trans h.mod.os,ht.trans h.mod.tape,hou.trans h.mod.output,Nat.le_trans h.mod.size hs,fun j hj hn=>by
  rcases hk j hj with e | e | e | e
  ·exact e.trans (h.mod.block j hj hn)
  ·exact absurd (.inl e) hn
  ·exact absurd (.inr (.inl e)) hn
  ·rcases h.lies with l | ⟨g,l,hg⟩
   ·exact absurd (.inr (.inr (l ▸ e))) hn
   ·rw [l] at e; have:=Option.some.inj e; omega⟩,h.lies⟩
theorem Steps.alloc {H:Nat} {a b:World} {U V:Value} (h:Steps H a U b V) (o:Obj):Steps H a U (b.alloc o) V :=
 h.kept (by simp) rfl rfl rfl fun j hj => .inl (Below.heap_alloc b o j (Nat.lt_of_lt_of_le hj h.mod.size))
theorem Steps.below {H:Nat} {w w':World} {V V':Value} (h:Steps H w V w' V') (hV:Past (H+5) V) (hs:H≤w.heap.size):Below H w w' :=
 ⟨h.mod.os,h.mod.tape,h.mod.output,h.mod.size,fun j hj=>h.mod.block j (by omega) fun hT=>by
  rcases hT with e | e | e
  ·omega
  ·omega
  ·have:=hV j e; omega⟩
section
variable {H:Nat} {M:List (Nat × Nat)} {D:List DS} {V:Value} {w:World}
theorem Meet.size (h:Meet H M D V w):H+5≤w.heap.size:=lt_of_heap h.cf
theorem Meet.kept {w':World} (h:Meet H M D V w) (hk:∀ j,j < w.heap.size→w'.heap[j]?=w.heap[j]?):Meet H M D V w':=by
 have:=h.size
 exact ⟨(hk H (by omega)).trans h.dct,(hk _ (by omega)).trans h.cd,h.mp.of_block (hk _ (by omega)),(hk _ (by omega)).trans h.cm,(hk _ (by omega)).trans h.cf,h.rows.kept fun k _ hl=>hk k hl⟩
theorem Meet.count {w':World} {n x:Nat} (h:Meet H M D V w) (hg:w.grownBy w' (some (H+2))) (hm:MapIs ptrV w' (H+2) (put (vals intV M) n (intV x))):Meet H (put M n x) D V w'∧Steps H w V w' V:=by
 have hs:=h.size
 rw [put_vals] at hm
 have ne:∀ k,k < w.heap.size→k≠H+2→w'.heap[k]?=w.heap[k]?:=fun k hk hn=>hg.block k hk fun e=>hn (Option.some.inj e)
 exact ⟨⟨(ne _ (by omega) (by omega)).trans h.dct,(ne _ (by omega) (by omega)).trans h.cd,hm,(ne _ (by omega) (by omega)).trans h.cm,(ne _ (by omega) (by omega)).trans h.cf,h.rows.kept fun k h1 h2=>ne k h2 (by omega)⟩,
  ⟨Mod.grown hg fun k hk _ => .inr (.inl (Option.some.inj hk).symm),.inl rfl⟩⟩
theorem Meet.push {W:World} {V':Value} {f:Bool} (h:Meet H M D V w) (hm:Moves w V W V') (hrow:W.ownsRow 0 207 3 V' (D.length+1) (stateCells (D++[⟨f,[],.slice none 0 0,0⟩]))) :
  Meet H M (D++[⟨f,[],.slice none 0 0,0⟩]) V' (W.setCell (aD H 0) V')∧Steps H w V (W.setCell (aD H 0) V') V':=by
 have hs:=h.size
 have hp:=h.rows.past
 have hVne:∀ k,k < H+5→V.ownBlock≠some k:=fun k hk e=>by have:=hp k e; omega
 have old:∀ k,k < H+5→k≠H→(W.setCell (aD H 0) V').heap[k]?=w.heap[k]?:=fun k hk hn=>(Below.heap_setCell W _ _ k hn).trans (hm.block (by omega) (hVne k hk))
 have hR:=h.rows.push hs hm hrow
 refine ⟨⟨?_,(old _ (by omega) (by omega)).trans h.cd,h.mp.of_block (old _ (by omega) (by omega)),(old _ (by omega) (by omega)).trans h.cm,(old _ (by omega) (by omega)).trans h.cf,?_⟩,?_,hm.lies⟩
 ·have hWH:W.heap[H]?=some (.cells #[V] 172 (0,0)):=(hm.block (by omega) (hVne H (by omega))).trans h.dct
  have:=heap_setCell_same W H 0 _ _ V' hWH
  simpa using this
 ·exact hR.kept fun k h1 _=>Below.heap_setCell W _ _ k (by show k≠H; omega)
 ·exact (Mod.grown hm.grown fun k hk _ => .inr (.inr hk)).trans (Mod.setCell W _ _ fun _ => .inl rfl)
theorem Meet.link {W:World} {k g cap:Nat} {s:DS} {v':Value} {p:UInt8 × Nat} (h:Meet H M D V w) (hk:D[k]?=some s) (hm:Moves w s.v W v')
  (hrow:W.ownsRow 0 242 2 v' (s.edges.length+1) (dEdgeCells (s.edges++[p]))) (hV:V=sL g D.length cap) :
  Meet H M (D.set k { s with v:=v',edges:=s.edges++[p] }) V (W.setCell (aD g (k * 3+1)) v'):=by
 have hs:=h.size
 have hg5:H+5≤g:=h.rows.past g (by rw [hV]; rfl)
 have old:∀ j,j < H+5→(W.setCell (aD g (k * 3+1)) v').heap[j]?=w.heap[j]?:=fun j hj=>by
  refine (Below.heap_setCell W _ _ j (by show j≠g; omega)).trans (hm.block (by omega) fun e=>?_)
  have:=h.rows.epast k s hk j e
  omega
 exact ⟨(old _ (by omega)).trans h.dct,(old _ (by omega)).trans h.cd,h.mp.of_block (old _ (by omega)),(old _ (by omega)).trans h.cm,(old _ (by omega)).trans h.cf,h.rows.link hs hk hm hrow hV⟩
end
def dfsG (G:Graph):Nat→Nat→List (Nat × Nat)→List (Nat × Nat)
 | 0,_,M=>M
 | f+1,n,M=>match get M n,G n with
  | none,some nd=>nd.edges.foldl (fun M e=>dfsG G f e.2 M) (M++[(n,M.length)])
  | _,_=>M
def Closed (G:Graph) (M:List (Nat × Nat)) (D:List DS) (k:Nat):Prop :=
 ∃ n s nd,M[k]?=some (n,k)∧D[k]?=some s∧G n=some nd∧s.final=nd.final∧s.below=0∧s.edges=nd.edges.map (fun e=>(e.1,(get M e.2).getD 0)) ∧ ∀ e∈nd.edges,(get M e.2).isSome
theorem get_append {M M':List (Nat × Nat)} {n x:Nat} (h:get M n=some x):get (M++M') n=some x:=by
 induction M with
 | nil=>cases h
 | cons p r ih =>
  simp only [List.cons_append,get] at h ⊢
  split
  ·rename_i e; rw [if_pos e] at h; exact h
  ·rename_i e; rw [if_neg e] at h; exact ih h
theorem get_prefix {M M':List (Nat × Nat)} {n x:Nat} (hp:M <+: M') (h:get M n=some x):get M' n=some x:=by
 obtain ⟨t,rfl⟩:=hp
 exact get_append h
theorem at_prefix {α:Type} {M M':List α} {i:Nat} {x:α} (hp:M <+: M') (h:M[i]?=some x):M'[i]?=some x:=by
 obtain ⟨t,rfl⟩:=hp
 rw [List.getElem?_append_left (List.getElem?_eq_some_iff.1 h).1]
 exact h
theorem Closed.mono {G:Graph} {M M':List (Nat × Nat)} {D D':List DS} {k:Nat} (h:Closed G M D k) (hM:M <+: M') (hD:D'[k]?=D[k]?):Closed G M' D' k:=by
 obtain ⟨n,s,nd,h1,h2,h3,h4,h5,h6,h7⟩:=h
 refine ⟨n,s,nd,at_prefix hM h1,hD.trans h2,h3,h4,h5,?_,fun e he=>?_⟩
 ·rw [h6]
  refine List.map_congr_left fun e he=>?_
  obtain ⟨x,hx⟩:=Option.isSome_iff_exists.1 (h7 e he)
  rw [hx,get_prefix hM hx]
 ·obtain ⟨x,hx⟩:=Option.isSome_iff_exists.1 (h7 e he)
  rw [get_prefix hM hx]; rfl
structure Met (G:Graph) (Good:Nat→Prop) (H n:Nat) (M:List (Nat × Nat)) (D:List DS) (V:Value) (w:World) (M':List (Nat × Nat)) (D':List DS) (V':Value) (w':World):Prop where
 meet:Meet H M' D' V' w'
 steps:Steps H w V w' V'
 ids:M <+: M'
 states:D <+: D'
 good:∀ p∈M',Good p.1
 apart:Apart M'
 len:M'.length=D'.length
 has:(get M' n).isSome
 closed:∀ k,D.length≤k→k < D'.length→Closed G M' D' k
 first:get M n=none→M++[(n,M.length)] <+: M'
 run:∃ f0,∀ f,f0≤f→M'=dfsG G f n M
theorem cell_three_new (w:World) (a b c:Value) (t:TypeId):∀ j u,[a,b,c][j]?=some u→(w.alloc (.cells #[a,b,c] t)).cell? (((aD w.heap.size 0):Addr).add j)=some u:=by
 intro j u hj
 match j,hj with
 | 0,hj=>simp at hj; subst hj; simp [Addr.add]
 | 1,hj=>simp at hj; subst hj; simp [Addr.add]
 | 2,hj=>simp at hj; subst hj; simp [Addr.add]
 | j+3,hj=>simp at hj
theorem Tryz.info207:(Tryz.prog.info? 207).map (fun i=>(i.zero,i.size,i.bytes))=some (some (.agg #[.bool false,.slice none 0 0,.int .i64 0]),3,40):=by kernel_rfl
theorem Tryz.info242:(Tryz.prog.info? 242).map (fun i=>(i.zero,i.size,i.bytes))=some (some (.agg #[.int .u8 0,.int .i64 0]),2,16):=by kernel_rfl
structure Round (G:Graph) (Good:Nat→Prop) (H n:Nat) (M:List (Nat × Nat)) (D:List DS) (V:Value) (w:World) (nd:Nd) (j:Nat) (M':List (Nat × Nat)) (D':List DS) (V' v':Value) (wr:World):Prop where
 meet:Meet H M' D' V' wr
 steps:Steps H w V wr V'
 ids:M++[(n,M.length)] <+: M'
 states:D <+: D'
 own:D'[D.length]?=some ⟨nd.final,(nd.edges.take j).map (fun e=>(e.1,(get M' e.2).getD 0)),v',0⟩
 done:∀ e∈nd.edges.take j,(get M' e.2).isSome
 past:Past w.heap.size v'
 good:∀ p∈M',Good p.1
 apart:Apart M'
 len:M'.length=D'.length
 closed:∀ k,D.length < k→k < D'.length→Closed G M' D' k
 run:∃ f0,∀ f,f0≤f→M'=(nd.edges.take j).foldl (fun M e=>dfsG G f e.2 M) (M++[(n,M.length)])
theorem get_new {M:List (Nat × Nat)} {n:Nat} (h:get M n=none):get (M++[(n,M.length)]) n=some M.length:=by
 rw [← length_put_none M.length h,get_put,if_pos rfl]
theorem Round.start {G:Graph} {Good:Nat→Prop} {H n:Nat} {M:List (Nat × Nat)} {D:List DS} {V V':Value} {w wr:World} {nd:Nd} (hme:Meet H (M++[(n,M.length)]) (D++[⟨nd.final,[],.slice none 0 0,0⟩]) V' wr) (hst:Steps H w V wr V')
  (hM:∀ p∈M,Good p.1) (hn:Good n) (hap:Apart M) (hlen:M.length=D.length) (hget:get M n=none):Round G Good H n M D V w nd 0 (M++[(n,M.length)]) (D++[⟨nd.final,[],.slice none 0 0,0⟩]) V' (.slice none 0 0) wr where
 meet:=hme
 steps:=hst
 ids:=List.prefix_refl _
 states:=List.prefix_append _ _
 own:=by simp
 done:=by simp
 past:=fun k h=>by cases h
 good:=fun p hp=>by
  rcases List.mem_append.1 hp with hp | hp
  ·exact hM p hp
  ·simp at hp; subst hp; exact hn
 apart:=by rw [← length_put_none _ hget]; exact hap.put _ _
 len:=by simp [hlen]
 closed:=fun k h1 h2=>by simp at h2; omega
 run:=⟨0,fun _ _=>rfl⟩
theorem Round.close {G:Graph} {Good:Nat→Prop} {H n:Nat} {M:List (Nat × Nat)} {D:List DS} {V V' v':Value} {w wr:World} {nd:Nd} {M':List (Nat × Nat)} {D':List DS} (h:Round G Good H n M D V w nd nd.edges.length M' D' V' v' wr)
  (hG:G n=some nd) (hlen:M.length=D.length) (hget:get M n=none):get M' n=some M.length∧Met G Good H n M D V w M' D' V' wr:=by
 have hown:=h.own
 have hdone:=h.done
 rw [List.take_length] at hown hdone
 have hg:=get_prefix h.ids (get_new hget)
 refine ⟨hg,h.meet,h.steps,(List.prefix_append _ _).trans h.ids,h.states,h.good,h.apart,h.len,by rw [hg]; rfl,fun k h1 h2=>?_,fun _=>h.ids,?_⟩
 by_cases hk:k=D.length
 ·subst hk
  exact ⟨n,_,nd,at_prefix h.ids (by rw [← hlen]; simp),hown,hG,rfl,rfl,rfl,hdone⟩
 ·exact h.closed k (by omega) h2
 ·obtain ⟨f0,h0⟩:=h.run
  rw [List.take_length] at h0
  refine ⟨f0+1,fun f hf=>?_⟩
  obtain ⟨f,rfl⟩:∃ g,f=g+1:=⟨f - 1,by omega⟩
  unfold dfsG
  rw [hget,hG]
  exact h0 f (by omega)
theorem Round.link {G:Graph} {Good:Nat→Prop} {H n:Nat} {M:List (Nat × Nat)} {D:List DS} {V V1 V2 v1 v2:Value} {w wr w2 W:World} {nd:Nd} {M1 M2:List (Nat × Nat)} {D1 D2:List DS} {j g cap:Nat} {o:Obj} {c:UInt8} {t:Nat} (h:Round G Good H n M D V w nd j M1 D1 V1 v1 wr)
  (hj:nd.edges[j]?=some (c,t)) (hm:Met G Good H t M1 D1 V1 (wr.alloc o) M2 D2 V2 w2) (hmv:Moves w2 v1 W v2)
  (hrow:W.ownsRow 0 242 2 v2 (((nd.edges.take j).map (fun e=>(e.1,(get M1 e.2).getD 0))).length+1) (dEdgeCells ((nd.edges.take j).map (fun e=>(e.1,(get M1 e.2).getD 0))++[(c,(get M2 t).getD 0)])))
  (hV:V2=sL g D2.length cap) :
  ∃ D3,Round G Good H n M D V w nd (j+1) M2 D3 V2 v2 (W.setCell (aD g (D.length * 3+1)) v2):=by
 have hown2:=at_prefix hm.states h.own
 have hlt:=(List.getElem?_eq_some_iff.1 hj).1
 have htk:nd.edges.take (j+1)=nd.edges.take j++[(c,t)]:=by
  rw [List.take_succ_eq_append_getElem hlt]
  congr
  exact Option.some.inj ((List.getElem?_eq_getElem hlt).symm.trans hj)
 have hst2:Steps H w V w2 V2:=(h.steps.alloc o).trans hm.steps
 have hmap:(nd.edges.take j).map (fun e=>(e.1,(get M1 e.2).getD 0))=(nd.edges.take j).map (fun e=>(e.1,(get M2 e.2).getD 0)):=List.map_congr_left fun e he=>by
  obtain ⟨x,hx⟩:=Option.isSome_iff_exists.1 (h.done e he)
  rw [hx,get_prefix hm.ids hx]
 refine ⟨_,hm.meet.link hown2 hmv hrow hV,?_,h.ids.trans hm.ids,?_,?_,?_,hmv.past h.past hst2.mod.size,hm.good,hm.apart,by simp [hm.len],fun k h1 h2=>?_,?_⟩
 ·refine hst2.kept (by simp; exact hmv.size) hmv.grown.os hmv.grown.tape hmv.grown.output fun k hk=>?_
  by_cases hkg:k=g
  ·right
   subst hkg
   have hVo:V2.ownBlock=some k:=by rw [hV]; rfl
   rcases hst2.lies with l | ⟨g',l,hg'⟩
   ·exact .inr (.inr (l ▸ hVo))
   ·rw [l] at hVo; have:=Option.some.inj hVo; omega
  ·left
   refine (Below.heap_setCell W _ _ k hkg).trans (hmv.block (Nat.lt_of_lt_of_le hk hst2.mod.size) fun e=>?_)
   have:=h.past k e
   omega
 ·obtain ⟨T,hT⟩:=h.states.trans hm.states
  rw [← hT,List.set_append_right _ _ (Nat.le_refl _)]
  exact List.prefix_append _ _
 ·have hl:=(List.getElem?_eq_some_iff.1 hown2).1
  rw [List.getElem?_set_self hl,htk,List.map_append,hmap]
  rfl
 ·intro e he
  rw [htk] at he
  rcases List.mem_append.1 he with he | he
  ·obtain ⟨x,hx⟩:=Option.isSome_iff_exists.1 (h.done e he)
   rw [get_prefix hm.ids hx]; rfl
  ·simp at he
   subst he
   exact hm.has
 ·have hk2:k < D2.length:=by simpa using h2
  have hset:∀ x,(D2.set D.length x)[k]?=D2[k]?:=fun x=>List.getElem?_set_ne (by omega)
  by_cases hk:k < D1.length
  ·have hc:=h.closed k h1 hk
   have e2:D2[k]?=D1[k]?:=by
    rw [List.getElem?_eq_getElem hk]
    exact at_prefix hm.states (List.getElem?_eq_getElem hk)
   exact hc.mono hm.ids ((hset _).trans e2)
  ·exact (hm.closed k (by omega) hk2).mono (List.prefix_refl _) (hset _)
 ·obtain ⟨f1,h1⟩:=h.run
  obtain ⟨f2,h2⟩:=hm.run
  refine ⟨max f1 f2,fun f hf=>?_⟩
  rw [htk,List.foldl_append,← h1 f (by omega)]
  exact h2 f (by omega)
set_option maxRecDepth 100000 in
set_option maxHeartbeats 4000000 in
theorem meet_any (s:St) (B bb kb ib H:Nat) (w0:World) (hst:StIn B bb kb ib w0 s) (hH:w0.heap.size=H) (Good:Nat→Prop) (ρ:Nat→Nat)
  (hgood:∀ n,Good n → ∃ nd,s.G n=some nd∧nd.edges.length≤300 ∧ ∀ e∈nd.edges,Good e.2∧ρ e.2 < ρ n) (hfew:∀ M:List (Nat × Nat),Apart M→(∀ p∈M,Good p.1)→M.length≤1000000) :
  ∀ (r n:Nat) (M:List (Nat × Nat)) (D:List DS) (V:Value) (w:World),ρ n < r→Good n→(∀ p∈M,Good p.1)→Apart M→M.length=D.length→Meet H M D V w→Below H w0 w →
  Calls Tryz.prog 187 #[ptrV n,ptrV (H+3),ptrV (H+1),ptrV (H+4)] w fun e w'=>∃ M' D' V',e = .returned (intV ((get M' n).getD 0))∧Met s.G Good H n M D V w M' D' V' w':=by
 intro r
 induction r with
 | zero=>intro n M D V w h; exact absurd h (Nat.not_lt_zero _)
 | succ r ih =>
  intro n M D V w hr hn hM hap hlen hme hbl
  have IH:=Lib.hid ih
  obtain ⟨nd,hG,hel,hedge⟩:=hgood n hn
  have cellsOf:∀ W,Below H w0 W→(∀ x,Good x→cellsAt W x):=fun W hB x hx=>by
   obtain ⟨ndx,hx',_⟩:=hgood x hx
   exact (hst.below (hH ▸ hB)).cellsAt (by rw [hx']; rfl)
  have mcells:∀ W,Below H w0 W → ∀ M:List (Nat × Nat),(∀ p∈M,Good p.1) → ∀ p∈vals intV M,cellsAt W p.1:=fun W hB M hM p hp=>by
   obtain ⟨q,hq,rfl⟩:=List.mem_map.1 hp
   exact cellsOf W hB _ (hM q hq)
  have e1:w.cell? (aD (H+3) 0)=some (.map (some (H+2))):=cell_block hme.cm
  have hlk:=MapIs.lookup node_law hme.mp n (cellsOf w hbl n hn) (mcells w hbl M hM) Tryz.underlying276 (z:=iV 0) (by kernel_rfl) true
  rw [get_vals] at hlk
  have HME:=Lib.hid hme
  have CO:=Lib.hid cellsOf
  have MC:=Lib.hid mcells
  have HH:=Lib.hid hH
  have HEDGE:=Lib.hid hedge
  have HGOOD:=Lib.hid hgood
  have HFEW:=Lib.hid hfew
  cases hget:get M n with
  | some k =>
   rw [hget] at hlk
   have hlk':(Instr.lookup 276 (.map (some (H+2))) (pT n) true).run Tryz.prog w = .ok (.tuple #[iV k,.bool true]) w:=hlk
   clear hlk
   unfold ptrV
   go_enter Tryz.func187,Tryz.ntmps187
   go_wp2_with fail
   go_ret
   refine ⟨M,D,V,by rw [hget]; rfl,HME,Steps.refl _ _ _,List.prefix_refl _,List.prefix_refl _,hM,hap,hlen,by rw [hget]; rfl,fun j h1 h2=>absurd h1 (by omega),(fun h=>by rw [hget] at h; cases h),1,fun f hf=>?_⟩
   obtain ⟨f,rfl⟩:∃ g,f=g+1:=⟨f - 1,by omega⟩
   unfold dfsG
   rw [hget]
  | none =>
   rw [hget] at hlk
   have hlk':(Instr.lookup 276 (.map (some (H+2))) (pT n) true).run Tryz.prog w = .ok (.tuple #[iV 0,.bool false]) w:=hlk
   obtain ⟨ies,ic,hib,_⟩:=HME.mp
   have hisz:ies.size=M.length:=by rw [MapIs.len hib HME.mp]; simp [vals]
   have hrunl:(Builtin.len_ #[276] 3 #[.map (some (H+2))]).run Tryz.prog w = .ok (iV M.length) w:=by
    rw [← hisz]
    unfold Builtin.len_
    simp only [Sem.run_bind,List.getElem?_toArray,List.getElem?_cons_zero,run_underlying Tryz.underlying276,Result.andThen_ok]
    rw [getObj_run (w:=w) hib]
    rfl
   obtain ⟨W1,hrun1,hmap1,hg1,hz1⟩:=MapIs.update node_law HME.mp n (CO w hbl n hn) (MC w hbl M hM) Tryz.underlying276 (intV M.length)
   have hrun1':(Instr.mapUpdate 276 (.map (some (H+2))) (pT n) (iV M.length)).run Tryz.prog w = .ok () W1:=hrun1
   obtain ⟨hme1,hst1⟩:=HME.count hg1 hmap1
   rw [length_put_none _ hget] at hme1
   have HME1:=Lib.hid hme1
   have HST1:=Lib.hid hst1
   have hbl1:Below H w0 W1:=hbl.trans (hst1.below HME.rows.past (by have:=HME.size; omega))
   obtain ⟨n0,a1,cap1,hv1,n1⟩:=(hst.below (HH.out ▸ hbl1)).nodeCells hG
   have d0:W1.cell? (aD H 0)=some V:=cell_block hme1.dct
   have d1:W1.cell? (aD (H+1) 0)=some (pT H):=cell_block hme1.cd
   have hHV:=Lib.hid hv1
   have HL:=Lib.hid hlen
   clear hmap1 hg1 hme1 hst1 hv1 hlen hz1
   unfold ptrV
   go_enter Tryz.func187,Tryz.ntmps187
   go_wp2_with fail
   have hln:n < H:=by have:=lt_of_heap (hst.nodes.node n nd hG); have:=HH.out; omega
   have hsz1:=HME1.size
   have hrow1:=HME1.rows.row
   have hDl:D.length≤1000000:=by have:=HFEW.out M hap hM; have:=HL.out; omega
   refine wp_region_ordX [(0,false),(1,false),(2,false),(3,false),(4,false),(5,false),(6,false),(7,false),(8,false),(9,false),(10,true),(11,true),(12,true),(13,true),(14,true)] 14
    (fun w'=>w'.cell? (aD H 0)=some V∧w'.cell? (aD (H+1) 0)=some (pT H)∧w'.cell? (aD n 0)=some (.bool nd.final)) (by kernel_rfl) (by kernel_rfl) ?_ ?_
   ·exact ⟨d0,d1,n0⟩
   iterate 10 (
    refine wpOrd_quiet ?_ rfl rfl (fun w' hS=>?_) ?_
    rotate_left
    ·obtain ⟨f0,f1,f2⟩:=hS
     go_simp
     try rfl
    simp only [put_lit,List.set_cons_succ,List.set_cons_zero])
   refine wpOrd_loud rfl rfl (by decide) (fun K hK=>?_)
   go_simp
   have hmv3:Moves W1 V (W1.alloc (.cells #[.bool nd.final,.slice none 0 0,iV 0] 207)).drew V:=(Moves.alloc W1 _ _).trans (Moves.same _ (Same.drew _))
   have hrow3:(W1.alloc (.cells #[.bool nd.final,.slice none 0 0,iV 0] 207)).drew.ownsRow 0 207 3 V D.length (stateCells D):=(hrow1.alloc _).drew
   have hc3:∀ j u,[Value.bool nd.final,.slice none 0 0,iV 0][j]?=some u→(W1.alloc (.cells #[.bool nd.final,.slice none 0 0,iV 0] 207)).drew.cell? (((aD W1.heap.size 0):Addr).add j)=some u:=by
    have:=cell_three_new W1 (.bool nd.final) (.slice none 0 0) (iV 0) 207
    simpa using this
   have hl3:(W1.alloc (.cells #[.bool nd.final,.slice none 0 0,iV 0] 207)).drew.cell? (aD H 0)=some V∧(W1.alloc (.cells #[.bool nd.final,.slice none 0 0,iV 0] 207)).drew.cell? (aD (H+1) 0)=some (pT H)∧(W1.alloc (.cells #[.bool nd.final,.slice none 0 0,iV 0] 207)).drew.cell? (aD n 0)=some (.bool nd.final) :=
    ⟨(World.cell?_alloc_lt _ _ _ (by show H < _; omega)).trans d0,(World.cell?_alloc_lt _ _ _ (by show H+1 < _; omega)).trans d1,(World.cell?_alloc_lt _ _ _ (by show n < _; omega)).trans n0⟩
   have hsz3:(W1.alloc (.cells #[.bool nd.final,.slice none 0 0,iV 0] 207)).drew.heap.size=W1.heap.size+1:=by simp
   generalize (W1.alloc (.cells #[.bool nd.final,.slice none 0 0,iV 0] 207)).drew=W3 at *
   refine hK _ _ hl3 ?_
   clear hK K
   refine wpOrd_loud rfl rfl (by decide) (fun K hK=>?_)
   obtain ⟨i0,hi,hz0,hz1,hz2⟩:=info_parts Tryz.info207
   refine wp_append_lies _ _ 170 rfl 207 i0 (.agg #[.bool false,.slice none 0 0,iV 0]) 3 40 Tryz.underlying170 hi hz0 hz1 hz2 rfl (by decide) _ _ _ rfl hrow3 (aD W1.heap.size 0) 1 1 [.bool nd.final,.slice none 0 0,iV 0] rfl rfl hc3
    (by simp [Value.oneCell']) (by decide) (by unfold maxLen; omega) (by omega) ?_
   intro v4 W4 hrow4 hgrow4 hlies4
   have hmv4:=hmv3.trans (Moves.append hgrow4 hlies4)
   have hVne:∀ k,k < H+5→V.ownBlock≠some k:=fun k hk e=>by have:=HME1.rows.past k e; omega
   have hl4:W4.cell? (aD H 0)=some V∧W4.cell? (aD (H+1) 0)=some (pT H)∧W4.cell? (aD n 0)=some (.bool nd.final) :=
    ⟨World.grownBy.cell hgrow4 hl3.1 (fun e=>hVne H (by omega) e.symm),World.grownBy.cell hgrow4 hl3.2.1 (fun e=>hVne (H+1) (by omega) e.symm),World.grownBy.cell hgrow4 hl3.2.2 (fun e=>hVne n (by omega) e.symm)⟩
   have hf4:W4.frozen? (aD H 0)=false:=free_block ((hmv4.block (by omega) (hVne H (by omega))).trans HME1.dct)
   have hrow4':W4.ownsRow 0 207 3 v4 (D.length+1) (stateCells (D++[⟨nd.final,[],.slice none 0 0,0⟩])):=by
    rw [stateCells_append]
    exact hrow4
   obtain ⟨g4,cap4,rfl⟩:=ownsRow_head hrow4'
   obtain ⟨hme5,hst5⟩:=HME1.push hmv4 hrow4'
   have HME5:=Lib.hid hme5
   have HST5:=Lib.hid (HST1.trans hst5)
   clear hgrow4 hlies4 hrow4 hrow4' hmv4 hmv3 hrow3 hc3 hl3 hrow1 hme5 hst5 d0 d1 n0
   refine hK _ _ hl4 ?_
   clear hK K
   simp only [put_lit,List.set_cons_succ,List.set_cons_zero]
   refine wpOrd_loud rfl rfl (by decide) (fun K hK=>?_)
   obtain ⟨f0,f1,f2⟩:=hl4
   go_simp
   refine hK _ _ ⟨f0,f1,f2⟩ ?_
   clear hK K
   refine wpOrd_loud rfl rfl (by decide) (fun K hK=>?_)
   go_simp
   refine hK _ _ ⟨f0,f1,f2⟩ ?_
   clear hK K
   refine wpOrd_last rfl rfl (fun K hK=>?_)
   go_simp
   refine hK _ _ ?_
   clear hK K f0 f1 f2 hf4
   generalize W4.setCell (aD H 0) (sL g4 (D.length+1) cap4)=W5 at *
   generalize Value.slice (some (aD g4 0)) (D.length+1) cap4=V5 at *
   have hR0:=Lib.hid (Round.start (G:=s.G) (Good:=Good) (nd:=nd) HME5 HST5 hM hn hap HL hget)
   have hB0:∀ V' W',Steps H w V W' V'→Below H w0 W':=fun V' W' h=>hbl.trans (h.below HME.rows.past (by have:=HME.size; omega))
   have HB0:=Lib.hid hB0
   have n1:W5.cell? (aD n 1)=some (.slice a1 nd.edges.length cap1):=by
    obtain ⟨_,a1',cap1',hv1',n1⟩:=(hst.below (HH.out ▸ hB0 _ _ HST5)).nodeCells hG
    rw [hHV] at hv1'
    simp only [Value.slice.injEq,true_and] at hv1'
    obtain ⟨rfl,rfl⟩:=hv1'
    exact n1
   clear hB0
   go_wp2_with fail
   clear n1
   go_loopw [44] (fun i wr=>∃ (j:Nat) (M':List (Nat × Nat)) (D':List DS) (V' v':Value),j≤nd.edges.length∧i = .int .i64 j∧Round s.G Good H n M D V w nd j M' D' V' v' wr) (fun i _=>nd.edges.length - (intOf i).toNat)
   case atStart=>exact ⟨0,_,_,_,_,Nat.zero_le _,rfl,hR0⟩
   case round =>
    obtain ⟨j,M',D',V',v',hj,rfl,hR⟩:=hrel
    have HR:=Lib.hid hR
    clear hR
    by_cases hjl:j < nd.edges.length
    ·obtain ⟨c,t,hct⟩:∃ c t,nd.edges[j]?=some (c,t):=⟨_,_,List.getElem?_eq_getElem hjl⟩
     have hBr:=HB0 _ _ HR.steps
     obtain ⟨g1,cap1',e1,ek0,ek1⟩:=(hst.below (HH.out ▸ hBr)).edgeCells hG hct
     rw [hHV] at e1
     simp only [Value.slice.injEq,true_and] at e1
     obtain ⟨rfl,rfl⟩:=e1
     unfold ptrV at ek1
     have hgt:=HEDGE (c,t) (List.mem_of_getElem? hct)
     have hszr:=HR.meet.size
     have cf:wr.cell? (aD (H+4) 0)=some (.func (.func 187) #[] #[pT (H+3),pT (H+1),pT (H+4)]):=cell_block HR.meet.cf
     have cf2:(wr.alloc (.cells #[.int .u8 c.toNat,pT t] 284)).cell? (aD (H+4) 0)=some (.func (.func 187) #[] #[pT (H+3),pT (H+1),pT (H+4)]) :=
      (World.cell?_alloc_lt _ _ _ (by show H+4 < _; omega)).trans cf
     go_wp2_with fail
     refine (IH t M' D' V' _ (Nat.lt_of_lt_of_le hgt.2 (Nat.le_of_lt_succ hr)) hgt.1 HR.good HR.apart HR.len (HR.meet.kept fun k hk=>Below.heap_alloc wr _ k hk) (hBr.alloc (by omega) _)).mono ?_
     rintro e w2 ⟨M2,D2,V2,rfl,hm⟩
     have hown2:=at_prefix hm.states HR.own
     have hl2:=(List.getElem?_eq_some_iff.1 hown2).1
     obtain ⟨g,cap,hV2,_,sc1,_,sf1,_⟩:=hm.meet.rows.cells hown2
     have srow:=hm.meet.rows.erow _ _ hown2
     simp only at sc1 srow
     have hLx:((nd.edges.take j).map (fun e=>(e.1,(get M' e.2).getD 0))).length=j:=by simp; omega
     rw [hLx] at srow
     obtain ⟨a5,cap5,hv5⟩:=ownsRow_form srow
     have hXT:¬ Touch H V' wr.heap.size:=by
      rintro (e | e | e)
      ·omega
      ·omega
      ·have:=(HR.meet.rows.row.lt _ e).2; omega
     have hX:w2.heap[wr.heap.size]?=some (.cells #[.int .u8 c.toNat,pT t] 284 (0,0)) :=
      (hm.steps.mod.block _ (by simp) hXT).trans (heap_alloc_new _ _)
     have x0:w2.cell? (aD wr.heap.size 0)=some (.int .u8 c.toNat):=cell_block hX
     have y0:w2.cell? (aD H 0)=some (sL g D2.length cap):=by rw [← hV2]; exact cell_block hm.meet.dct
     have y1:w2.cell? (aD (H+1) 0)=some (pT H):=cell_block hm.meet.cd
     rw [← HL] at sc1 sf1 hl2
     rw [hv5] at sc1
     have HM:=Lib.hid hm
     have HV2:=Lib.hid hV2
     have HV5:=Lib.hid hv5
     have hel':j≤300:=by omega
     have hgg:=lt_of_cell sc1
     have hsz2:=hm.meet.size
     have hX2:=lt_of_heap hX
     clear hm hV2 ek0 ek1 cf cf2 hown2 hX
     generalize hx:(get M2 t).getD 0=x
     have HX:=Lib.hid hx
     clear hx
     unfold intV
     go_wp2_with fail
     refine wp_region_ordX [(0,false),(1,false),(2,false),(3,false),(4,false),(5,false),(6,false),(7,false),(8,false),(9,false),(10,false),(11,false),(12,false),(13,false),(14,false),(15,false),(16,false),(17,true),(18,true),(19,true),(20,true),(21,true)] 21
      (fun w'=>w'.cell? (aD wr.heap.size 0)=some (.int .u8 c.toNat)∧w'.cell? (aD H 0)=some (sL g D2.length cap)∧w'.cell? (aD (H+1) 0)=some (pT H) ∧
       w'.cell? (aD g (M.length * 3+1))=some (.slice a5 j cap5)) (by kernel_rfl) (by kernel_rfl) ?_ ?_
     ·exact ⟨x0,y0,y1,sc1⟩
     have z1:(0:Int)≤(M.length:Int)∧(M.length:Int) < (D2.length:Int):=by omega
     iterate 17 (
      refine wpOrd_quiet ?_ rfl rfl (fun w' hS=>?_) ?_
      rotate_left
      ·obtain ⟨f0,f1,f2,f3⟩:=hS
       go_simp
       try rfl
      simp only [put_lit,List.set_cons_succ,List.set_cons_zero])
     refine wpOrd_loud rfl rfl (by decide) (fun K hK=>?_)
     go_simp
     have hmv3:Moves w2 v' (w2.alloc (.cells #[.int .u8 c.toNat,iV x] 242)).drew v':=(Moves.alloc w2 _ _).trans (Moves.same _ (Same.drew _))
     have hrow3:(w2.alloc (.cells #[.int .u8 c.toNat,iV x] 242)).drew.ownsRow 0 242 2 (.slice a5 j cap5) j (dEdgeCells ((nd.edges.take j).map (fun e=>(e.1,(get M' e.2).getD 0)))):=by rw [← HV5]; exact (srow.alloc _).drew
     have hc3:∀ i u,[Value.int .u8 c.toNat,iV x][i]?=some u→(w2.alloc (.cells #[.int .u8 c.toNat,iV x] 242)).drew.cell? (((aD w2.heap.size 0):Addr).add i)=some u:=by
      have:=cell_two_new w2 (.int .u8 c.toNat) (iV x) 242
      simpa using this
     have hl3:(w2.alloc (.cells #[.int .u8 c.toNat,iV x] 242)).drew.cell? (aD wr.heap.size 0)=some (.int .u8 c.toNat)∧(w2.alloc (.cells #[.int .u8 c.toNat,iV x] 242)).drew.cell? (aD H 0)=some (sL g D2.length cap)∧(w2.alloc (.cells #[.int .u8 c.toNat,iV x] 242)).drew.cell? (aD (H+1) 0)=some (pT H) ∧
       (w2.alloc (.cells #[.int .u8 c.toNat,iV x] 242)).drew.cell? (aD g (M.length * 3+1))=some (.slice a5 j cap5) :=
      ⟨(World.cell?_alloc_lt _ _ _ hX2).trans x0,(World.cell?_alloc_lt _ _ _ (by show H < _; omega)).trans y0,(World.cell?_alloc_lt _ _ _ (by show H+1 < _; omega)).trans y1,(World.cell?_alloc_lt _ _ _ hgg).trans sc1⟩
     generalize (w2.alloc (.cells #[.int .u8 c.toNat,iV x] 242)).drew=W3 at *
     refine hK _ _ hl3 ?_
     clear hK K
     refine wpOrd_loud rfl rfl (by decide) (fun K hK=>?_)
     obtain ⟨i0,hi,hz0,hz1,hz2⟩:=info_parts Tryz.info242
     refine wp_append_lies _ _ 205 rfl 242 i0 (.agg #[.int .u8 0,iV 0]) 2 16 Tryz.underlying205 hi hz0 hz1 hz2 rfl (by decide) _ _ _ rfl hrow3 (aD w2.heap.size 0) 1 1 [.int .u8 c.toNat,iV x] rfl rfl hc3
      (by simp [Value.oneCell']) (by decide) (by unfold maxLen; omega) (by omega) ?_
     intro v4 W4 hrow4 hgrow4 hlies4
     rw [← HV5] at hgrow4 hlies4
     have hmv4:=hmv3.trans (Moves.append hgrow4 hlies4)
     have hvX:v'.ownBlock≠some wr.heap.size:=fun e=>by have:=((HR.meet.rows.erow _ _ HR.own).lt _ e).2; omega
     have hvH:∀ k,k < H+5→v'.ownBlock≠some k:=fun k hk e=>by have:=HR.meet.rows.epast _ _ HR.own k e; omega
     have hown2:=at_prefix HM.states HR.own
     have hVo:V2.ownBlock=some g:=by rw [HV2]; rfl
     have hvg:v'.ownBlock≠some g:=fun e=>HM.meet.rows.apartV _ _ g hown2 e hVo
     have hl4:W4.cell? (aD wr.heap.size 0)=some (.int .u8 c.toNat)∧W4.cell? (aD H 0)=some (sL g D2.length cap)∧W4.cell? (aD (H+1) 0)=some (pT H) ∧
       W4.cell? (aD g (M.length * 3+1))=some (.slice a5 j cap5) :=
      ⟨World.grownBy.cell hgrow4 hl3.1 (fun e=>hvX e.symm),World.grownBy.cell hgrow4 hl3.2.1 (fun e=>hvH H (by omega) e.symm),World.grownBy.cell hgrow4 hl3.2.2.1 (fun e=>hvH (H+1) (by omega) e.symm),World.grownBy.cell hgrow4 hl3.2.2.2 (fun e=>hvg e.symm)⟩
     have hf4:W4.frozen? (aD g (M.length * 3+1))=false:=by
      have hr:=ownsRow_block HM.meet.rows.row fun k hk=>hmv4.block (HM.meet.rows.row.lt k hk).2 (fun e=>HM.meet.rows.apartV _ _ k hown2 e hk)
      rw [HV2] at hr
      exact hr.frozenAt _
     have hrow4':W4.ownsRow 0 242 2 v4 (j+1) (dEdgeCells ((nd.edges.take j).map (fun e=>(e.1,(get M' e.2).getD 0))++[(c,(get M2 t).getD 0)])):=by
      rw [dEdgeCells_append,HX]
      exact hrow4
     have hRl:∃ D3,Round s.G Good H n M D V w nd (j+1) M2 D3 V2 v4 (W4.setCell (aD g (D.length * 3+1)) v4):=HR.link hct HM hmv4 (by rw [hLx]; exact hrow4') HV2
     rw [← HL] at hRl
     obtain ⟨g4,cap4,rfl⟩:=ownsRow_head hrow4'
     have HRl:=Lib.hid hRl
     clear hgrow4 hlies4 hrow4 hrow4' hmv4 hmv3 hrow3 hc3 hl3 hRl x0 y0 y1 sc1 sf1 srow hown2
     refine hK _ _ hl4 ?_
     clear hK K
     simp only [put_lit,List.set_cons_succ,List.set_cons_zero]
     obtain ⟨f0,f1,f2,f3⟩:=hl4
     refine wpOrd_loud rfl rfl (by decide) (fun K hK=>?_)
     go_simp
     refine hK _ _ ⟨f0,f1,f2,f3⟩ ?_
     clear hK K
     refine wpOrd_loud rfl rfl (by decide) (fun K hK=>?_)
     go_simp
     refine hK _ _ ⟨f0,f1,f2,f3⟩ ?_
     clear hK K
     refine wpOrd_last rfl rfl (fun K hK=>?_)
     go_simp
     refine hK _ _ ?_
     clear hK K
     go_wp2_with fail
     obtain ⟨D3,hR3⟩:=HRl.out
     exact ⟨⟨j+1,M2,D3,V2,_,by omega,by go_num,hR3⟩,by simp [intOf]; omega⟩
    ·obtain rfl:j=nd.edges.length:=by omega
     obtain ⟨hgn,hmet⟩:=HR.close hG HL hget
     go_wp2_with fail
     go_ret
     exact ⟨M',D',V',by rw [hgn]; rfl,hmet⟩
end Go.Proofs.Ts
namespace Go.Proofs.Ts
open Go Go.RowKit
def countFn (H:Nat):Value := .func (.func 192) #[] #[ptrV H,ptrV (H+2),ptrV (H+3)]
structure Cnt (B H db:Nat) (V:Value) (D:List DS) (dn:List Bool) (w:World):Prop where
 db_lt:db < H
 dct:w.heap[db]?=some (.cells #[V] 172 (0,0))
 cd:w.heap[H]?=some (.cells #[ptrV db] 158 (0,0))
 dnb:w.heap[H+1]?=some (.cells (dn.map Value.bool).toArray 4 (0,0))
 cn:w.heap[H+2]?=some (.cells #[.slice (some ⟨H+1,0,none⟩) D.length D.length] 151 (0,0))
 cf:w.heap[H+3]?=some (.cells #[countFn H] 383 (0,0))
 rows:RowsIn B w V D
 lt:∀ g,V.ownBlock=some g→g < H∧g≠db
 elt:∀ (i:Nat) s g,D[i]?=some s→s.v.ownBlock=some g→g < H
 len:dn.length=D.length
structure Turned (c ρ:Nat→Nat) (r:Nat) (D:List DS) (dn:List Bool) (D':List DS) (dn':List Bool):Prop where
 len:D'.length=D.length
 dlen:dn'.length=dn.length
 at_:∀ (i:Nat) s,D[i]?=some s → ∃ b,D'[i]?=some { s with below:=b }∧((b=s.below∧dn'[i]?=dn[i]?)∨(dn'[i]?=some true∧b=c i∧ρ i≤r))
theorem Turned.refl (c ρ:Nat→Nat) (r:Nat) (D:List DS) (dn:List Bool):Turned c ρ r D dn D dn:=⟨rfl,rfl,fun i s h=>⟨s.below,h,.inl ⟨rfl,rfl⟩⟩⟩
section
variable {B H db:Nat} {V:Value} {D:List DS} {dn:List Bool} {w:World}
theorem Cnt.size (h:Cnt B H db V D dn w):H+4≤w.heap.size:=lt_of_heap h.cf
theorem Cnt.kept {w':World} (h:Cnt B H db V D dn w) (hk:∀ j,j < w.heap.size→w'.heap[j]?=w.heap[j]?):Cnt B H db V D dn w':=by
 have:=h.size
 have:=h.db_lt
 exact ⟨h.db_lt,(hk _ (by omega)).trans h.dct,(hk _ (by omega)).trans h.cd,(hk _ (by omega)).trans h.dnb,(hk _ (by omega)).trans h.cn,(hk _ (by omega)).trans h.cf,h.rows.kept fun k _ hl=>hk k hl,h.lt,h.elt,h.len⟩
theorem Cnt.tell {k g cap b:Nat} {s:DS} (h:Cnt B H db V D dn w) (hk:D[k]?=some s) (hV:V=sL g D.length cap):Cnt B H db V (D.set k { s with below:=b }) dn (w.setCell (aD g (k * 3+2)) (intV b)):=by
 have hg:=h.lt g (by rw [hV]; rfl)
 have:=h.db_lt
 have old:∀ j,j≠g→(w.setCell (aD g (k * 3+2)) (intV b)).heap[j]?=w.heap[j]?:=fun j hj=>Below.heap_setCell w _ _ j hj
 refine ⟨h.db_lt,(old _ hg.2.symm).trans h.dct,(old _ (by omega)).trans h.cd,(old _ (by omega)).trans h.dnb,?_,(old _ (by omega)).trans h.cf,h.rows.tell hk hV,h.lt,fun i x b' hi hb=>?_,by simpa using h.len⟩
 ·rw [List.length_set]
  exact (old _ (by omega)).trans h.cn
 ·rw [List.getElem?_set] at hi
  split at hi
  ·rename_i e
   subst e
   split at hi
   ·cases hi; exact h.elt _ s b' hk hb
   ·cases hi
  ·exact h.elt i x b' hi hb
theorem Cnt.mark {k:Nat} (h:Cnt B H db V D dn w):Cnt B H db V D (dn.set k true) (w.setCell (aD (H+1) k) (.bool true)):=by
 have:=h.db_lt
 have old:∀ j,j≠H+1→(w.setCell (aD (H+1) k) (.bool true)).heap[j]?=w.heap[j]?:=fun j hj=>Below.heap_setCell w _ _ j hj
 refine ⟨h.db_lt,(old _ (by omega)).trans h.dct,(old _ (by omega)).trans h.cd,?_,(old _ (by omega)).trans h.cn,(old _ (by omega)).trans h.cf,⟨?_,h.rows.past,fun i s hi=>?_,h.rows.epast,h.rows.apart,h.rows.apartV⟩,h.lt,h.elt,by simpa using h.len⟩
 ·have:=heap_setCell_same w (H+1) k _ _ (.bool true) h.dnb
  rw [this]
  congr 2
  simp [List.map_set]
 ·exact ownsRow_block h.rows.row fun j e=>old j (by have:=h.lt j e; omega)
 ·exact ownsRow_block (h.rows.erow i s hi) fun j e=>old j (by have:=h.elt i s j hi e; omega)
end
def Clo (ST:List DS) (dn:List Bool):Prop:=∀ (i:Nat) s,ST[i]?=some s→dn[i]?=some true → ∀ e∈s.edges,dn[e.2]?=some true
theorem set_true {dn:List Bool} {k i:Nat} (h:dn[i]?=some true):(dn.set k true)[i]?=some true:=by
 have hl:=(List.getElem?_eq_some_iff.1 h).1
 by_cases e:k=i
 ·subst e; rw [List.getElem?_set_self hl]
 ·rw [List.getElem?_set_ne e]; exact h
structure Rnd (ST:List DS) (B H db:Nat) (V:Value) (c ρ:Nat→Nat) (k:Nat) (s0:DS) (D:List DS) (dn:List Bool) (w:World) (j:Nat) (D':List DS) (dn':List Bool) (wr:World):Prop where
 cnt:Cnt B H db V D' dn' wr
 mod:Mod (fun j=>V.ownBlock=some j∨j=H+1) w wr
 len:D'.length=D.length
 dlen:dn'.length=dn.length
 own:D'[k]?=some { s0 with below:=(if s0.final then 1 else 0)+((s0.edges.take j).map fun e=>c e.2).sum }
 odn:dn'[k]?=some false
 clo:Clo ST dn'
 took:∀ e∈s0.edges.take j,dn'[e.2]?=some true
 oth:∀ (i:Nat) s,i≠k→D[i]?=some s → ∃ b,D'[i]?=some { s with below:=b }∧((b=s.below∧dn'[i]?=dn[i]?)∨(dn'[i]?=some true∧b=c i∧ρ i < ρ k))
set_option maxRecDepth 100000 in
set_option maxHeartbeats 4000000 in
theorem below_any (B H db:Nat) (V:Value) (c ρ:Nat→Nat) (hc:∀ i,c i≤1000000) (ST:List DS)
  (hST:∀ (i:Nat) s,ST[i]?=some s→s.edges.length≤300∧(∀ e∈s.edges,e.2 < ST.length∧ρ e.2 < ρ i)∧c i=(if s.final then 1 else 0)+(s.edges.map fun e=>c e.2).sum) (hlen:ST.length≤1000000) :
  ∀ (r k:Nat) (D:List DS) (dn:List Bool) (w:World),ρ k < r→k < ST.length→(∀ (i:Nat) s,ST[i]?=some s → ∃ b,D[i]?=some { s with below:=b })→D.length=ST.length →
  (∀ (i:Nat) s,D[i]?=some s→ρ i < r→(dn[i]?=some true→s.below=c i)∧(dn[i]?=some false→s.below=0))→Clo ST dn→Cnt B H db V D dn w →
  Calls Tryz.prog 192 #[intV k,ptrV H,ptrV (H+2),ptrV (H+3)] w fun e w'=>e = .returned (intV (c k)) ∧ ∃ D' dn',Cnt B H db V D' dn' w'∧Mod (fun j=>V.ownBlock=some j∨j=H+1) w w' ∧
   Turned c ρ (ρ k) D dn D' dn'∧dn'[k]?=some true∧Clo ST dn':=by
 intro r
 induction r using Nat.strongRecOn with
 | _ r ih =>
  intro k D dn w hr hk hD hDl hhon hclo hcn
  have IH:=Lib.hid ih
  have HD:=Lib.hid hD
  have HON:=Lib.hid hhon
  have HST:=Lib.hid hST
  have HC:=Lib.hid hc
  clear ih hD hhon hST hc
  obtain ⟨s0,hs0⟩:∃ s0,ST[k]?=some s0:=⟨_,List.getElem?_eq_getElem hk⟩
  obtain ⟨b0,hDk⟩:=HD.out k s0 hs0
  obtain ⟨g,cap,hV,q0,q1,q2,qf1,qf2⟩:=hcn.rows.cells hDk
  simp only at q0 q1 q2
  obtain ⟨d,hd⟩:∃ d,dn[k]?=some d:=⟨_,List.getElem?_eq_getElem (by have:=hcn.len; omega)⟩
  have c0:w.cell? (aD H 0)=some (pT db):=cell_block hcn.cd
  have c1:w.cell? (aD db 0)=some (sL g D.length cap):=by rw [← hV]; exact cell_block hcn.dct
  have c2:w.cell? (aD (H+2) 0)=some (sL (H+1) D.length D.length):=cell_block hcn.cn
  have c3:w.cell? (aD (H+1) k)=some (.bool d):=by rw [cell_block hcn.dnb]; simp [hd]
  have z1:(0:Int)≤(k:Int)∧(k:Int) < (D.length:Int):=by omega
  have HCN:=Lib.hid hcn
  have HV:=Lib.hid hV
  have hkd:k < D.length:=by omega
  cases d with
  | true =>
   have hb:=(HON k _ hDk hr).1 hd
   subst hb
   unfold intV at q2 ⊢
   unfold ptrV
   go_enter Tryz.func192,Tryz.ntmps192
   go_wp2_with fail
   go_ret
   exact ⟨rfl,D,dn,HCN,Mod.refl _ _,Turned.refl _ _ _ _ _,hd,hclo⟩
  | false =>
   have hb:=(HON k _ hDk hr).2 hd
   subst hb
   unfold intV at q2 ⊢
   unfold ptrV
   obtain ⟨hel,hee,hcs⟩:=HST.out k s0 hs0
   have HEE:=Lib.hid hee
   have HCS:=Lib.hid hcs
   clear hee hcs
   have srow:=HCN.rows.erow k _ hDk
   simp only at srow
   obtain ⟨a5,cap5,hv5⟩:=ownsRow_form srow
   rw [hv5] at q1
   have HV5:=Lib.hid hv5
   clear srow hv5
   go_enter Tryz.func192,Tryz.ntmps192
   go_upto_if 23 with (fail)
   go_cut [] (fun wy=>∃ D1,Rnd ST B H db V c ρ k s0 D dn w 0 D1 dn wy)
   case first =>
    cases hf:s0.final with
    | true =>
     rw [hf] at q0
     have h1:=HCN.tell (b:=1) hDk HV
     go_wp2_with fail
     go_meet
     refine ⟨_,h1,Mod.setCell _ _ _ fun _ => .inl (by rw [HV.out]; rfl),by simp,rfl,?_,hd,hclo,(by simp),fun i s hne hi=>⟨s.below,?_,.inl ⟨rfl,rfl⟩⟩⟩
     ·rw [List.getElem?_set_self hkd,hf]
      rfl
     ·rw [List.getElem?_set_ne (Ne.symm hne)]; exact hi
    | false =>
     rw [hf] at q0
     go_wp2_with fail
     go_meet
     exact ⟨D,HCN.out,Mod.refl _ _,rfl,rfl,by rw [hDk,hf]; rfl,hd,hclo,(by simp),fun i s _ hi=>⟨s.below,hi,.inl ⟨rfl,rfl⟩⟩⟩
   case rest =>
    obtain ⟨D1,hR1⟩:=hcut
    have HR1:=Lib.hid hR1
    clear hR1 q0 q1 q2 qf1 qf2 c0 c1 c2 c3
    have keepq:∀ j D' dn' W,Rnd ST B H db V c ρ k s0 D dn w j D' dn' W→W.cell? (aD g (k * 3+1))=some (.slice a5 s0.edges.length cap5)∧W.cell? (aD g (k * 3+2))=some (intV ((if s0.final then 1 else 0)+((s0.edges.take j).map fun e=>c e.2).sum))∧W.frozen? (aD g (k * 3+2))=false:=fun j D' dn' W h=>by
     obtain ⟨g',cap',e1,_,e3,e4,_,e6⟩:=h.cnt.rows.cells h.own
     have eb:=congrArg Value.ownBlock (HV.symm.trans e1)
     simp [Value.ownBlock] at eb
     subst eb
     simp only at e3 e4
     rw [HV5] at e3
     exact ⟨e3,e4,e6⟩
    have KQ:=Lib.hid keepq
    clear keepq
    obtain ⟨r1,_,_⟩:=KQ.out _ _ _ _ HR1
    go_wp2_with fail
    clear r1
    go_loopw [32] (fun i wz=>∃ (j:Nat) (D':List DS) (dn':List Bool),j≤s0.edges.length∧i = .int .i64 j∧Rnd ST B H db V c ρ k s0 D dn w j D' dn' wz) (fun i _=>s0.edges.length - (intOf i).toNat)
    case atStart=>exact ⟨0,_,_,Nat.zero_le _,rfl,HR1⟩
    case round =>
     obtain ⟨j,D',dn',hj,rfl,hR⟩:=hrel
     have HR:=Lib.hid hR
     clear hR
     by_cases hjl:j < s0.edges.length
     ·obtain ⟨ch,t,hct⟩:∃ ch t,s0.edges[j]?=some (ch,t):=⟨_,_,List.getElem?_eq_getElem hjl⟩
      obtain ⟨g1,cap1',e1,ek0,ek1⟩:=HR.cnt.rows.edgeCells HR.own hct
      simp only at e1
      rw [HV5] at e1
      simp only [Value.slice.injEq,true_and] at e1
      obtain ⟨rfl,rfl⟩:=e1
      unfold intV at ek1
      have hee:=HEE (ch,t) (List.mem_of_getElem? hct)
      have hszr:=HR.cnt.size
      obtain ⟨_,r2,r3⟩:=KQ.out _ _ _ _ HR
      obtain ⟨P,hP⟩:∃ P,P=(if s0.final then 1 else 0)+((s0.edges.take j).map fun e=>c e.2).sum:=⟨_,rfl⟩
      rw [← hP] at r2
      unfold intV at r2
      have hPs:(if s0.final then 1 else 0)+((s0.edges.take (j+1)).map fun e=>c e.2).sum=P+c t:=by
       have htk:s0.edges.take (j+1)=s0.edges.take j++[(ch,t)]:=by
        rw [List.take_succ_eq_append_getElem hjl]
        congr
        exact Option.some.inj ((List.getElem?_eq_getElem hjl).symm.trans hct)
       rw [htk,hP]
       simp
       omega
      have hPb:P+c t≤1000000:=by
       have h1:=HC k
       rw [HCS] at h1
       have h2:((s0.edges.take (j+1)).map fun e=>c e.2).sum≤(s0.edges.map fun e=>c e.2).sum:=by
        conv=>rhs; rw [← List.take_append_drop (j+1) s0.edges]
        rw [List.map_append,List.sum_append]
        omega
       omega
      have cf:wr.cell? (aD (H+3) 0)=some (.func (.func 192) #[] #[pT H,pT (H+2),pT (H+3)]):=cell_block HR.cnt.cf
      have hgH:=HR.cnt.lt g (by rw [HV]; rfl)
      have HP:=Lib.hid hP
      have HPS:=Lib.hid hPs
      clear hP hPs
      go_wp2_with fail
      have x0:(wr.alloc (.cells #[.int .u8 ch.toNat,iV t] 242)).heap[wr.heap.size]?=some (.cells #[.int .u8 ch.toNat,iV t] 242 (0,0)):=heap_alloc_new _ _
      have x1:(wr.alloc (.cells #[.int .u8 ch.toNat,iV t] 242)).cell? (aD wr.heap.size 1)=some (iV t):=cell_block x0
      have x2:(wr.alloc (.cells #[.int .u8 ch.toNat,iV t] 242)).cell? (aD (H+3) 0)=some (.func (.func 192) #[] #[pT H,pT (H+2),pT (H+3)]) :=
       (World.cell?_alloc_lt _ _ _ (by show H+3 < _; omega)).trans cf
      have x3:(wr.alloc (.cells #[.int .u8 ch.toNat,iV t] 242)).cell? (aD g (k * 3+2))=some (iV P):=(World.cell?_alloc_lt _ _ _ (by show g < _; omega)).trans r2
      have HC3:=Lib.hid (show Cnt B H db V D' dn' (wr.alloc (.cells #[.int .u8 ch.toNat,iV t] 242)) from HR.cnt.kept fun j hj=>Below.heap_alloc wr _ j hj)
      have HM3:=Lib.hid (show Mod (fun j=>V.ownBlock=some j∨j=H+1) w (wr.alloc (.cells #[.int .u8 ch.toNat,iV t] 242)) from HR.mod.trans (Mod.alloc _ _ _))
      clear cf r2 r3 ek0 ek1 x0
      generalize (wr.alloc (.cells #[.int .u8 ch.toNat,iV t] 242))=W3 at *
      refine wp_region_ordX [(0,false),(1,false),(2,false),(3,false),(4,false),(5,false),(6,false),(7,false),(8,true),(9,true),(10,true),(11,true),(12,true),(13,true)] 13
       (fun w'=>w'.cell? (aD wr.heap.size 1)=some (iV t)∧w'.cell? (aD (H+3) 0)=some (.func (.func 192) #[] #[pT H,pT (H+2),pT (H+3)]) ∧
        w'.cell? (aD g (k * 3+2))=some (iV P)) (by kernel_rfl) (by kernel_rfl) ?_ ?_
      ·exact ⟨x1,x2,x3⟩
      iterate 8 (
       refine wpOrd_quiet ?_ rfl rfl (fun w' hS=>?_) ?_
       rotate_left
       ·obtain ⟨f0,f1,f2⟩:=hS
        go_simp
        try rfl
       simp only [put_lit,List.set_cons_succ,List.set_cons_zero])
      refine wpOrd_loud rfl rfl (by decide) (fun K hK=>?_)
      go_simp
      have hown:=HR.own
      have hin1:∀ (i:Nat) s,ST[i]?=some s → ∃ b,D'[i]?=some { s with below:=b }:=fun i s hi=>by
       by_cases hik:i=k
       ·subst hik
        rw [hs0] at hi
        cases hi
        exact ⟨_,hown⟩
       ·obtain ⟨b1,h1⟩:=HD.out i s hi
        obtain ⟨b2,h2,_⟩:=HR.oth i _ hik h1
        exact ⟨b2,h2⟩
      have hin2:∀ (i:Nat) s,D'[i]?=some s→ρ i < ρ k→(dn'[i]?=some true→s.below=c i)∧(dn'[i]?=some false→s.below=0):=fun i s hi hri=>by
       have hik:i≠k:=fun e=>by rw [e] at hri; exact Nat.lt_irrefl _ hri
       have hil:i < D.length:=by have:=(List.getElem?_eq_some_iff.1 hi).1; have:=HR.len; omega
       have hDi:=List.getElem?_eq_getElem hil
       obtain ⟨b,h1,h2⟩:=HR.oth i _ hik hDi
       rw [hi] at h1
       cases h1
       obtain ⟨o1,o2⟩:=HON.out i _ hDi (Nat.lt_trans hri hr)
       rcases h2 with ⟨h2,h3⟩ | ⟨h2,h3,_⟩
       ·rw [h3,h2]; exact ⟨o1,o2⟩
       ·rw [h2]
        exact ⟨fun _=>h3,fun e=>by cases e⟩
      have HI1:=Lib.hid hin1
      have HI2:=Lib.hid hin2
      clear hin1 hin2
      refine (IH (ρ k) hr t D' dn' W3.drew hee.2 hee.1 HI1 (HR.len.trans hDl) HI2 HR.clo (HC3.kept fun _ _=>rfl)).mono ?_
      rintro e w2 ⟨rfl,D2,dn2,hcn2,hmod2,htu,hk2,hclo2⟩
      obtain ⟨b2,hD2,hb2⟩:=htu.at_ k _ hown
      have hb2':b2=P∧dn2[k]?=some false:=by
       rcases hb2 with ⟨h1,h2⟩ | ⟨_,_,h3⟩
       ·exact ⟨h1.trans HP.symm,h2.trans HR.odn⟩
       ·exact absurd (Nat.lt_of_le_of_lt h3 hee.2) (Nat.lt_irrefl _)
      obtain ⟨rfl,hdn2⟩:=hb2'
      clear hb2
      obtain ⟨g',cap',e1,_,_,y2,_,y3⟩:=hcn2.rows.cells hD2
      have eb:=congrArg Value.ownBlock (HV.symm.trans e1)
      simp [Value.ownBlock] at eb
      subst eb
      simp only at y2
      unfold intV at y2
      have hX3:=lt_of_cell x1
      have y1:w2.cell? (aD wr.heap.size 1)=some (iV t):=by
       refine (hmod2.cell (p:=(aD wr.heap.size 1)) hX3 ?_).trans x1
       rintro (e | e)
       ·have:=(HR.cnt.lt wr.heap.size e).1; omega
       ·have e':wr.heap.size=H+1:=e
        omega
      have y4:w2.cell? (aD (H+3) 0)=some (.func (.func 192) #[] #[pT H,pT (H+2),pT (H+3)]):=cell_block hcn2.cf
      have HCN2:=Lib.hid hcn2
      have HMOD2:=Lib.hid hmod2
      have HTU:=Lib.hid htu
      have HD2:=Lib.hid hD2
      clear hcn2 hmod2 htu hD2 x1 x2 x3 e1 hown
      refine hK _ _ ⟨y1,y4,y2⟩ ?_
      clear hK K
      unfold intV
      refine wpOrd_loud rfl rfl (by decide) (fun K hK=>?_)
      go_simp
      have hw1:IntKind.i64.wrap ((b2:Int)+(c t:Int))=((b2+c t:Nat):Int):=by rw [IntWalk.i64_in _ (by omega)]; omega
      try rw [hw1]
      refine hK _ _ ⟨y1,y4,y2⟩ ?_
      clear hK K
      refine wpOrd_loud rfl rfl (by decide) (fun K hK=>?_)
      go_simp
      refine hK _ _ ⟨y1,y4,y2⟩ ?_
      clear hK K
      refine wpOrd_loud rfl rfl (by decide) (fun K hK=>?_)
      go_simp
      refine hK _ _ ⟨y1,y4,y2⟩ ?_
      clear hK K
      refine wpOrd_loud rfl rfl (by decide) (fun K hK=>?_)
      go_simp
      refine hK _ _ ⟨y1,y4,y2⟩ ?_
      clear hK K
      refine wpOrd_last rfl rfl (fun K hK=>?_)
      go_simp
      refine hK _ _ ?_
      clear hK K
      go_wp2_with fail
      have hlen2:=HTU.len.trans HR.len
      have hk2l:k < D2.length:=by omega
      have hct2:=HCN2.tell (b:=b2+c t) HD2 (by rw [hlen2]; exact HV)
      have hmm:=HM3.trans (Mod.same (Same.drew W3))
      refine ⟨⟨j+1,_,dn2,by omega,by go_num,hct2,(hmm.trans HMOD2.out).trans (Mod.setCell _ _ _ fun _ => .inl (by rw [HV.out]; rfl)),by simpa using hlen2,HTU.dlen.trans HR.dlen,?_,hdn2,hclo2,fun e he=>?_,fun i s hne hi=>?_⟩,by simp [intOf]; omega⟩
      ·rw [List.getElem?_set_self hk2l,HPS]
      ·have htk:s0.edges.take (j+1)=s0.edges.take j++[(ch,t)]:=by
        rw [List.take_succ_eq_append_getElem hjl]
        congr
        exact Option.some.inj ((List.getElem?_eq_getElem hjl).symm.trans hct)
       rw [htk] at he
       rcases List.mem_append.1 he with he | he
       ·have hel2:=(HEE e (List.mem_of_mem_take he)).1
        obtain ⟨x2,e3,e4⟩:=HTU.at_ e.2 _ (List.getElem?_eq_getElem (by have:=HR.len; omega))
        rcases e4 with ⟨_,e6⟩ | ⟨e5,_⟩
        ·exact e6.trans (HR.took e he)
        ·exact e5
       ·simp at he
        subst he
        exact hk2
      ·rw [List.getElem?_set_ne (Ne.symm hne)]
       obtain ⟨x1,e1,e2⟩:=HR.oth i s hne hi
       obtain ⟨x2,e3,e4⟩:=HTU.at_ i _ e1
       refine ⟨x2,e3,?_⟩
       rcases e4 with ⟨e5,e6⟩ | ⟨e5,e6,e7⟩
       ·rcases e2 with ⟨e7,e8⟩ | ⟨e7,e8,e9⟩
        ·exact .inl ⟨e5.trans e7,e6.trans e8⟩
        ·exact .inr ⟨e6.trans e7,e5.trans e8,e9⟩
       ·exact .inr ⟨e5,e6,Nat.lt_of_le_of_lt e7 hee.2⟩
     ·obtain rfl:j=s0.edges.length:=by omega
      obtain ⟨_,r2,r3⟩:=KQ.out _ _ _ _ HR
      rw [List.take_length,← HCS] at r2
      unfold intV at r2
      have cn:wr.cell? (aD (H+2) 0)=some (sL (H+1) D'.length D'.length):=cell_block HR.cnt.cn
      have fr:wr.frozen? (aD (H+1) k)=false:=free_block HR.cnt.dnb
      have cd:wr.cell? (aD (H+1) k)=some (.bool false):=by rw [cell_block HR.cnt.dnb]; simp [HR.odn]
      have hgH:=HR.cnt.lt g (by rw [HV]; rfl)
      have hkD':k < D'.length:=by have:=HR.len; omega
      have hkd':k < dn'.length:=by have:=HR.cnt.len; omega
      have z2:(0:Int)≤(k:Int)∧(k:Int) < (D'.length:Int):=by omega
      go_wp2_with fail
      go_ret
      have hcl':Clo ST (dn'.set k true):=fun i s hi hdi e he=>by
       by_cases hik:i=k
       ·subst hik
        rw [hs0] at hi
        cases hi
        exact set_true (HR.took e (by rw [List.take_length]; exact he))
       ·rw [List.getElem?_set_ne (Ne.symm hik)] at hdi
        exact set_true (HR.clo i s hi hdi e he)
      refine ⟨rfl,D',dn'.set k true,HR.cnt.mark,HR.mod.trans (Mod.setCell _ _ _ fun _ => .inr rfl),⟨HR.len,by simpa using HR.dlen,fun i s hi=>?_⟩,by rw [List.getElem?_set_self hkd'],hcl'⟩
      by_cases hik:i=k
      ·subst hik
       rw [hDk] at hi
       cases hi
       refine ⟨c i,?_,.inr ⟨by rw [List.getElem?_set_self hkd'],rfl,Nat.le_refl _⟩⟩
       have:=HR.own
       rw [List.take_length,← HCS] at this
       exact this
      ·obtain ⟨b,h1,h2⟩:=HR.oth i s hik hi
       refine ⟨b,h1,?_⟩
       rw [List.getElem?_set_ne (Ne.symm hik)]
       rcases h2 with h2 | ⟨h2,h3,h4⟩
       ·exact .inl h2
       ·exact .inr ⟨h2,h3,Nat.le_of_lt h4⟩
end Go.Proofs.Ts
