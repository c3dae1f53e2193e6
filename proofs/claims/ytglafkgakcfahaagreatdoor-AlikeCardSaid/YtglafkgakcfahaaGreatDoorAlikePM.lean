/- Lemmas towards the statement Alike of termsearch: walks of the program's functions and plain laws on lists (TsWalkS, TsOverS, TsMachA, TsTabP, TsLeastP, TsKeyS). Conditions: those that each theorem names. -/
import Derived.Test.YtglafkgakcfahaaGreatDoorAlikePF
import Derived.Test.YtglafkgakcfahaaGreatDoorAlikePH
import Derived.Test.YtglafkgakcfahaaGreatDoorAlikePL
import Derived.Test.YtglafkgakcfahaaGreatDoorAlikePG
import Derived.Test.YtglafkgakcfahaaGreatDoorAlikePA
set_option linter.unusedVariables false
set_option linter.unusedSimpArgs false
set_option linter.unusedSectionVars false
namespace Go.Proofs.Ts.S
open Go Go.RowKit Go.Proofs.Ts
variable {σ:Type} {ec:σ→Array Value}
def cellsN:Nat:=3
theorem cells_info:(Tryz.prog.info? 272).map (·.size)=some cellsN:=by kernel_rfl
structure AutI (ec:σ→Array Value) (H:World→Prop) (iv:Value) (ok:σ→Prop) (step:σ→UInt8→Option σ) (ends:σ→Bool):Prop where
 ex : ∃ T v fE fT rE rT, iv = .iface T v ∧ (∀ fu w, (method (fu + 1) T v "Ends").run Tryz.prog w = .ok (fE, rE) w) ∧ (∀ fu w, (method (fu + 1) T v "Step").run Tryz.prog w = .ok (fT, rT) w) ∧
  (∀ args w,(callFunc fE args).run Tryz.prog w = .ok (.enter fE args) w)∧(∀ args w,(callFunc fT args).run Tryz.prog w = .ok (.enter fT args) w) ∧
  (∀ s w,H w→ok s→Calls Tryz.prog fE #[rE,.agg (ec s)] w fun e w'=>e = .returned (.bool (ends s))∧Below w.heap.size w w') ∧
  ∀ s c w,H w→ok s→Calls Tryz.prog fT #[rT,.agg (ec s),.int .u8 (UInt8.toNat c)] w fun e w'=>(∃ t:σ,e = .returned (.tuple #[.agg (ec t),.bool (step s c).isSome])∧(ec t).size=cellsN∧(ec t).all (·.oneCell')=true ∧ ∀ u,step s c=some u→t=u)∧Below w.heap.size w w'
 next:∀ s c t,ok s→step s c=some t→ok t
 keep:∀ w w',H w→KeepG w w'→H w'
 size:∀ s,ok s→(ec s).size=cellsN
structure WM (V:Value) (D:List DS) (db:Nat) (iv yf:Value) (bd ba by' bw:Nat) (w:World):Prop where
 dct:w.heap[db]?=some (.cells #[V] 148 (0,0))
 rows:RowsIn 0 w V D
 bxd:w.heap[bd]?=some (.cells #[ptrV db] 85 (0,0))
 bxa:w.heap[ba]?=some (.cells #[iv] 354 (0,0))
 bxy:w.heap[by']?=some (.cells #[yf] 127 (0,0))
 bxw:w.heap[bw]?=some (.cells #[.func (.func 170) #[] #[ptrV bd,ptrV ba,ptrV by',ptrV bw]] 355 (0,0))
theorem WM.kept {V:Value} {D:List DS} {db:Nat} {iv yf:Value} {bd ba by' bw n:Nat} {w w':World} {v:Value} {xs:List Value} (h:WM V D db iv yf bd ba by' bw w) (hr:w.ownsRow 0 5 1 v n xs) (hk:KeepB v w w'):WM V D db iv yf bd ba by' bw w':=by
 have ne:∀ (k:Nat) cs t r,w.heap[k]?=some (.cells cs t r)→t≠5→v.ownBlock≠some k:=fun k cs t r h1 h2 e=>by
  rcases hr.2 with ⟨rfl,_⟩ | ⟨g,cap,cur,rfl,_,hg,_⟩
  ·cases e
  ·cases e
   rw [hg] at h1
   cases h1
   exact h2 rfl
 have go:∀ (k:Nat) cs t r,w.heap[k]?=some (.cells cs t r)→leansOn t=true→t≠5→w'.heap[k]?=some (.cells cs t r):=fun k cs t r h1 h2 h3=>(hk.2 k cs t r h1 h2 (ne k cs t r h1 h3)).trans h1
 have gr:∀ {e size n:Nat} {u:Value} {ys:List Value},leansOn e=true→e≠5→w.ownsRow 0 e size u n ys→w'.ownsRow 0 e size u n ys:=fun h1 h2 h3=>ownsRow_typed h3 fun k cs r h4=>(go k cs _ r h4 h1 h2).trans h4.symm
 exact ⟨go _ _ _ _ h.dct (by decide) (by decide),⟨gr (by decide) (by decide) h.rows.row,h.rows.past,fun i s hi=>gr (by decide) (by decide) (h.rows.erow i s hi),h.rows.epast,h.rows.apart,h.rows.apartV⟩,go _ _ _ _ h.bxd (by decide) (by decide),go _ _ _ _ h.bxa (by decide) (by decide),go _ _ _ _ h.bxy (by decide) (by decide),go _ _ _ _ h.bxw (by decide) (by decide)⟩
structure WAt (V:Value) (D:List DS) (db:Nat) (iv yf:Value) (bd ba by' bw B:Nat) (p:List UInt8) (pv:Value) (J:List (List UInt8 × Nat)→World→Prop) (w0:World) (ys:List (List UInt8 × Nat)) (w:World):Prop where
 wm:WM V D db iv yf bd ba by' bw w
 row:w.ownsRow 0 5 1 pv p.length (bytesV p)
 keep:KeepB pv w0 w
 j:J ys w
 size:B≤w.heap.size
theorem WAt.same {V:Value} {D:List DS} {db:Nat} {iv yf:Value} {bd ba by' bw B:Nat} {p:List UInt8} {pv:Value} {J:List (List UInt8 × Nat)→World→Prop} {w0:World} {ys:List (List UInt8 × Nat)} {w w':World} (h:WAt V D db iv yf bd ba by' bw B p pv J w0 ys w)
  (hJ:∀ ys w w',J ys w→StepsB B w w'→J ys w') (hS:Same w w'):WAt V D db iv yf bd ba by' bw B p pv J w0 ys w' :=
 ⟨h.wm.kept h.row ((KeepT.same hS).toB pv),(KeepT.same hS).row (by decide) h.row,h.keep.trans ((KeepT.same hS).toB pv),hJ _ _ _ h.j (StepsB.same hS),by rw [hS.heap]; exact h.size⟩
theorem WAt.below {V:Value} {D:List DS} {db:Nat} {iv yf:Value} {bd ba by' bw B:Nat} {p:List UInt8} {pv:Value} {J:List (List UInt8 × Nat)→World→Prop} {w0:World} {ys:List (List UInt8 × Nat)} {w w':World} (h:WAt V D db iv yf bd ba by' bw B p pv J w0 ys w)
  (hJ:∀ ys w w',J ys w→StepsB B w w'→J ys w') (hS:Below w.heap.size w w'):WAt V D db iv yf bd ba by' bw B p pv J w0 ys w' :=
 ⟨h.wm.kept h.row ((KeepT.below hS).toB pv),(KeepT.below hS).row (by decide) h.row,h.keep.trans ((KeepT.below hS).toB pv),hJ _ _ _ h.j (StepsB.below hS),Nat.le_trans h.size hS.size⟩
theorem WAt.alloc {V:Value} {D:List DS} {db:Nat} {iv yf:Value} {bd ba by' bw B:Nat} {p:List UInt8} {pv:Value} {J:List (List UInt8 × Nat)→World→Prop} {w0:World} {ys:List (List UInt8 × Nat)} {w:World} (h:WAt V D db iv yf bd ba by' bw B p pv J w0 ys w)
  (hJ:∀ ys w w',J ys w→StepsB B w w'→J ys w') (o:Obj):WAt V D db iv yf bd ba by' bw B p pv J w0 ys (w.alloc o) :=
 ⟨h.wm.kept h.row ((KeepT.alloc w o).toB pv),(KeepT.alloc w o).row (by decide) h.row,h.keep.trans ((KeepT.alloc w o).toB pv),hJ _ _ _ h.j (StepsB.alloc B w o),by have:=h.size; simp; omega⟩
theorem WAt.yields {V:Value} {D:List DS} {db:Nat} {iv yf:Value} {bd ba by' bw B:Nat} {p:List UInt8} {pv:Value} {J J':List (List UInt8 × Nat)→World→Prop} {w0:World} {ys ys':List (List UInt8 × Nat)} {w w':World} (h:WAt V D db iv yf bd ba by' bw B p pv J w0 ys w)
  (hK:KeepT w w') (hj:J' ys' w'):WAt V D db iv yf bd ba by' bw B p pv J' w0 ys' w' :=
 ⟨h.wm.kept h.row (hK.toB pv),hK.row (by decide) h.row,h.keep.trans (hK.toB pv),hj,Nat.le_trans h.size hK.1⟩
section
variable {V:Value} {D:List DS} {db:Nat} {iv yf:Value} {bd ba by' bw B:Nat} {p:List UInt8} {pv pv':Value} {J J':List (List UInt8 × Nat)→World→Prop} {w0:World} {ys ys':List (List UInt8 × Nat)} {Wb Wc W4 W5:World} {c:UInt8}
theorem WAt.grow (h:WAt V D db iv yf bd ba by' bw B p pv J w0 ys Wb) (hJ:∀ ys w w',J ys w→StepsB B w w'→J ys w') (hp:Past B pv) (hmv:Moves Wb pv W4 pv') (hrow4:W4.ownsRow 0 5 1 pv' (p.length+1) (bytesV p++[.int .u8 c.toNat])) :
  WM V D db iv yf bd ba by' bw W4∧W4.ownsRow 0 5 1 pv' (p++[c]).length (bytesV (p++[c]))∧Past B pv'∧B≤W4.heap.size∧J ys W4:=by
 refine ⟨h.wm.kept h.row (KeepB.moves hmv),?_,hmv.past hp h.size,Nat.le_trans h.size hmv.size,hJ _ _ _ h.j (StepsB.moves hmv h.row hp)⟩
 rw [List.length_append,List.length_singleton]
 unfold bytesV at *
 rw [List.map_append]
 exact hrow4
theorem WAt.back (h:WAt V D db iv yf bd ba by' bw B p pv J w0 ys Wb) (hmv:Moves Wb pv W4 pv') (hcs:Wb.heap.size≤Wc.heap.size) (hold:∀ k,k < Wb.heap.size→Wc.heap[k]?=Wb.heap[k]?) (hl:Lies Wc W4 pv pv') (hel:Elder 5 1 pv pv' p.length (bytesV p))
  (hwm4:WM V D db iv yf bd ba by' bw W4) (hrow4:W4.ownsRow 0 5 1 pv' (p++[c]).length (bytesV (p++[c]))) (hk5:KeepB pv' W4 W5) (hrow5:W5.ownsRow 0 5 1 pv' (p++[c]).length (bytesV (p++[c]))) (hj5:J' ys' W5) :
  WAt V D db iv yf bd ba by' bw B p pv J' w0 ys' W5:=by
 refine ⟨hwm4.kept hrow4 hk5,?_,⟨Nat.le_trans h.keep.1 (Nat.le_trans hmv.size hk5.1),fun k cs t r h1 h2 h3=>?_⟩,hj5,Nat.le_trans h.size (Nat.le_trans hmv.size hk5.1)⟩
 ·rcases hl with ⟨hb,_⟩ | ⟨hb,hg,_⟩
  ·refine hel W5 1 [.int .u8 c.toNat] hb ?_
   unfold bytesV at *
   rw [List.length_append,List.map_append] at hrow5
   exact hrow5
  ·have hne:∀ g,pv.ownBlock=some g→pv'.ownBlock≠some g:=fun g e e'=>by
    rw [hb] at e'
    have:=Option.some.inj e'
    have:=(h.row.lt g e).2
    omega
   refine ownsRow_typed h.row fun k cs r hk=>?_
   have hkl:=(Array.getElem?_eq_some_iff.1 hk).1
   have h4:W4.heap[k]?=Wb.heap[k]?:=(hg.block k (by omega) (by simp)).trans (hold k hkl)
   refine (hk5.2 k cs _ r (h4.trans hk) (by decide) fun e=>?_).trans h4
   rw [hb] at e
   have:=Option.some.inj e
   omega
 ·have hb0:=h.keep.2 k cs t r h1 h2 h3
  have hkl:k < Wb.heap.size:=(Array.getElem?_eq_some_iff.1 (hb0.trans h1)).1
  have h4:W4.heap[k]?=Wb.heap[k]?:=hmv.block hkl h3
  refine ((hk5.2 k cs t r (h4.trans (hb0.trans h1)) h2 fun e=>?_).trans h4).trans hb0
  rcases hmv.lies with hb | ⟨g,hb,hg⟩
  ·exact h3 (hb ▸ e)
  ·rw [hb] at e
   have:=Option.some.inj e
   omega
end
set_option maxRecDepth 100000 in
set_option maxHeartbeats 4000000 in
theorem walk_any {V:Value} {D:List DS} {db:Nat} {R:Nat→Prop} {Λ:Nat→List Word} {ρ:Nat→Nat} {iv:Value} {H:World→Prop} {ok:σ→Prop} {step:σ→UInt8→Option σ} {ends:σ→Bool} (hA:AutI ec H iv ok step ends)
  (hD:∀ i,R i → ∃ s,D[i]?=some s∧Asc s.edges∧s.below=(Λ i).length∧Λ i=wordsAt s.final s.edges Λ ∧ ∀ e∈s.edges,R e.2∧ρ e.2 < ρ i)
  (g:Nat) (lb:Array Value) (eg:∀ args w,(callFunc g args).run Tryz.prog w = .ok (.enter g args) w) (bd ba by' bw B:Nat) (J Jx:List (List UInt8 × Nat)→World→Prop) (F:List (List UInt8 × Nat))
  (hJ:∀ ys w w',J ys w→StepsB B w w'→J ys w')
  (hY:∀ ys t i w,J ys w→ys++[(t,i)] <+: F→Calls Tryz.prog g (#[strV t,intV i]++lb) w fun e w'=>KeepT w w'∧((e = .returned (.bool true)∧J (ys++[(t,i)]) w')∨(e = .returned (.bool false)∧Jx (ys++[(t,i)]) w'))) :
  ∀ (r k:Nat) (s:σ) (p:List UInt8) (pv:Value) (n:Nat) (ys:List (List UInt8 × Nat)) (w:World),ρ k < r→R k→ok s→WM V D db iv (.func (.func g) #[] lb) bd ba by' bw w →
   w.ownsRow 0 5 1 pv p.length (bytesV p)→Past B pv→B≤w.heap.size→H w→p.length+ρ k≤1000000→n+(Λ k).length≤1000000→J ys w →
   ys++pre p (hits (accA step ends s) (Λ k) n) <+: F →
  Calls Tryz.prog 170 #[intV k,.agg (ec s),pv,intV n,ptrV bd,ptrV ba,ptrV by',ptrV bw] w fun e w' =>
   KeepB pv w w'∧w'.ownsRow 0 5 1 pv p.length (bytesV p)∧w.heap.size≤w'.heap.size ∧
   ((e = .returned (.bool true)∧J (ys++pre p (hits (accA step ends s) (Λ k) n)) w')∨(e = .returned (.bool false) ∧ ∃ zs,zs <+: F∧Jx zs w')):=by
 obtain ⟨T,v,fE,fT,rE,rT,rfl,hmE,hmT,eE,eT,hcE,hcT⟩:=hA.ex
 intro r
 induction r using Nat.strongRecOn with
 | _ r ih =>
  intro k s p pv n ys w0 hr hRk hok hwm0 hrow0 hpast hB0 hH0 hp hn hj0 hF
  have IH:=Lib.hid ih
  have HD:=Lib.hid hD
  have HJ:=Lib.hid hJ
  have HY:=Lib.hid hY
  have HCE:=Lib.hid hcE
  have HCT:=Lib.hid hcT
  have HF:=Lib.hid hF
  have HA:=Lib.hid hA
  have HWM0:=Lib.hid hwm0
  have HROWZ:=Lib.hid hrow0
  have HH0:=Lib.hid hH0
  have HJ0:=Lib.hid hj0
  have HPAST:=Lib.hid hpast
  have HSZ:=Lib.hid (cells_info.trans (congrArg some (hA.size s hok).symm))
  clear ih hD hJ hY hcE hcT hF hA hwm0 hH0 hj0 hpast
  obtain ⟨ap,capp,hpv⟩:=ownsRow_form hrow0
  have HPV:=Lib.hid hpv
  clear hrow0 hpv
  unfold intV ptrV at *
  go_enter Tryz.func170,Tryz.ntmps170
  go_upto_region 1 with fail
  have hpre:KeepB pv w0 (w0.alloc (.cells (ec s) 272)):=(KeepT.alloc _ _).toB pv
  have hwm:=HWM0.out.kept HROWZ.out hpre
  have hrow:=(KeepT.alloc w0 (.cells (ec s) 272)).row (by decide) HROWZ.out
  have hB:B≤(w0.alloc (.cells (ec s) 272)).heap.size:=by simp; omega
  have hH:=HA.out.keep _ _ HH0.out (KeepT.alloc w0 (.cells (ec s) 272)).g
  have hj:=HJ.out _ _ _ HJ0.out (StepsB.alloc B w0 (.cells (ec s) 272))
  have hsb:(w0.alloc (.cells (ec s) 272)).heap[w0.heap.size]?=some (.cells (ec s) 272 (0,0)):=heap_alloc_new _ _
  generalize (w0.alloc (.cells (ec s) 272))=w at *
  have HPRZ:=Lib.hid hpre
  have HROW0:=Lib.hid hrow
  have HWM:=Lib.hid hwm
  have HH:=Lib.hid hH
  have HK:Hid (∀ wz,KeepG w wz→H wz):=Lib.hid fun wz hk=>HA.out.keep w wz HH.out hk
  have HSB:Hid (∀ wz,KeepG w wz→wz.heap[w0.heap.size]?=some (.cells (ec s) 272 (0,0))):=Lib.hid fun wz hk=>(hk _ _ _ _ hsb (by decide) (by decide)).trans hsb
  have HSB0:=Lib.hid hsb
  clear hwm hH hpre hsb HJ0 HH0 HWM0
  obtain ⟨sd,hsd,hasc,hbel,hwords,hedges⟩:=HD.out k hRk
  obtain ⟨gV,capV,hV,q0,q1,q2,qf1,qf2⟩:=HWM.out.rows.cells hsd
  have hkl:=(List.getElem?_eq_some_iff.1 hsd).1
  have c0:w.cell? ⟨bd,0,none⟩=some (.pointer (some ⟨db,0,none⟩)):=cell_block HWM.out.bxd
  have c1:w.cell? ⟨db,0,none⟩=some (.slice (some ⟨gV,0,none⟩) D.length capV):=by rw [← hV]; exact cell_block HWM.out.dct
  have c2:w.cell? ⟨ba,0,none⟩=some (.iface T v):=cell_block HWM.out.bxa
  have c3:w.cell? ⟨by',0,none⟩=some (.func (.func g) #[] lb):=cell_block HWM.out.bxy
  have c4:w.cell? ⟨bw,0,none⟩=some (.func (.func 170) #[] #[ptrV bd,ptrV ba,ptrV by',ptrV bw]):=cell_block HWM.out.bxw
  have z1:(0:Int)≤(k:Int)∧(k:Int) < (D.length:Int):=by omega
  have HV:=Lib.hid hV
  have HSD:=Lib.hid hsd
  have HBEL:=Lib.hid hbel
  have HWORDS:=Lib.hid hwords
  have HEDGES:=Lib.hid hedges
  clear hV hsd hbel hwords hedges
  have hat:WAt V D db (.iface T v) (.func (.func g) #[] lb) bd ba by' bw B p pv J w ys w:=⟨HWM.out,hrow,KeepB.refl _ _,hj,hB⟩
  have HAT:=Lib.hid hat
  have hP0:=partOf_zero step ends Λ sd.final sd.edges s p n
  have HP0:=Lib.hid hP0
  clear hat hrow hj hP0
  unfold ptrV at *
  obtain ⟨n1,hn1⟩:∃ n1:Nat,n1=n+(if sd.final then 1 else 0):=⟨_,rfl⟩
  have HN1:=Lib.hid hn1
  clear hn1
  go_upto_if 24 with (fail)
  go_cut [3] (fun n3 wy=>n3 = .int .i64 (n1:Int)∧Hid (WAt V D db (.iface T v) (.func (.func g) #[] lb) bd ba by' bw B p pv J w (ys++partOf step ends Λ sd.final sd.edges s p n 0) wy))
  case first =>
   cases hf:sd.final with
   | true =>
    cases he:ends s with
    | true =>
     have hp1:partOf step ends Λ sd.final sd.edges s p n 0=[(p,n)]:=by rw [HP0.out,hf,he]; rfl
     have hpre:ys++[(p,n)] <+: F:=by
      have h1:=HF.out
      rw [HWORDS.out,← partOf_all] at h1
      have h2:=partOf_prefix step ends Λ sd.final sd.edges s p n 0 (Nat.zero_le _)
      rw [hp1] at h2
      exact ((List.prefix_append_right_inj ys).2 h2).trans h1
     have HPRE:=Lib.hid hpre
     have HP1:=Lib.hid hp1
     clear hpre hp1
     go_wp2_with (refine wpList_load_row rfl 272 (.tmp 9) rfl w0.heap.size rfl _ _ (0,0) _ HSB0.out Tryz.underlying272 rfl HSZ.out ?_)
     refine (HCE.out s w HH.out hok).mono ?_
     rintro e w1 ⟨rfl,hS1⟩
     have hat1:=HAT.out.below HJ.out hS1
     have hcb:=conv_back hat1.row
     have c31:w1.cell? ⟨by',0,none⟩=some (.func (.func g) #[] lb):=cell_block hat1.wm.bxy
     have HAT1:=Lib.hid hat1
     rw [he]
     clear hat1 hS1 c0 c1 c2 c3 c4 q0 q1 q2 qf1 qf2
     go_wp2_with fail
     have hy:=HY.out ys p n w1 HAT1.out.j HPRE.out
     unfold strV at hy
     refine hy.mono ?_
     rintro e w2 ⟨hk2,⟨rfl,hj2⟩ | ⟨rfl,hj2⟩⟩
     ·have hat2:=HAT1.out.yields (J':=J) hk2 hj2
      rw [← HP1.out] at hat2
      have HAT2:=Lib.hid hat2
      clear hat2 hk2 hj2
      go_wp2_with fail
      go_meet
      exact ⟨by rw [HN1.out,hf]; rfl,HAT2⟩
     ·have hat2:=HAT1.out.yields (J':=Jx) hk2 hj2
      have HAT2:=Lib.hid hat2
      clear hat2 hk2 hj2
      go_wp2_with fail
      go_ret
      exact ⟨HPRZ.out.trans HAT2.out.keep,HAT2.out.row,Nat.le_trans HPRZ.out.1 HAT2.out.keep.1,.inr ⟨rfl,_,HPRE.out,HAT2.out.j⟩⟩
    | false =>
     have hp1:partOf step ends Λ sd.final sd.edges s p n 0=[]:=by rw [HP0.out,hf,he]; rfl
     have HP1:=Lib.hid hp1
     clear hp1
     go_wp2_with (refine wpList_load_row rfl 272 (.tmp 9) rfl w0.heap.size rfl _ _ (0,0) _ HSB0.out Tryz.underlying272 rfl HSZ.out ?_)
     refine (HCE.out s w HH.out hok).mono ?_
     rintro e w1 ⟨rfl,hS1⟩
     have HAT1:=Lib.hid (HAT.out.below HJ.out hS1)
     rw [he]
     clear hS1 c0 c1 c2 c3 c4 q0 q1 q2 qf1 qf2
     go_wp2_with fail
     go_meet
     exact ⟨by rw [HN1.out,hf]; rfl,Lib.hid (by rw [HP1.out,List.append_nil]; exact HAT1.out)⟩
   | false =>
    have hp1:partOf step ends Λ sd.final sd.edges s p n 0=[]:=by rw [HP0.out,hf]; rfl
    have HP1:=Lib.hid hp1
    clear hp1
    go_wp2_with fail
    go_meet
    exact ⟨by rw [HN1.out,hf]; rfl,Lib.hid (by rw [HP1.out,List.append_nil]; exact HAT.out)⟩
  case rest =>
   obtain ⟨rfl,HAT0⟩:=hcut
   clear c0 c1 c2 c3 c4 q0 q1 q2 qf1 qf2 HAT HWM HP0
   have srow:=HAT0.out.wm.rows.erow k _ HSD.out
   obtain ⟨a5,cap5,hv5⟩:=ownsRow_form srow
   obtain ⟨gV',capV',hV',q0,q1,q2,qf1,qf2⟩:=HAT0.out.wm.rows.cells HSD.out
   rw [HV.out] at hV'
   cases hV'
   rw [hv5] at q1
   have c0:wc.cell? ⟨bd,0,none⟩=some (.pointer (some ⟨db,0,none⟩)):=cell_block HAT0.out.wm.bxd
   have c1:wc.cell? ⟨db,0,none⟩=some (.slice (some ⟨gV,0,none⟩) D.length capV):=by rw [← HV.out]; exact cell_block HAT0.out.wm.dct
   have hwl:(if sd.final then 1 else 0)+(edgeWords Λ sd.edges).length=(Λ k).length:=by
    rw [HWORDS.out]
    unfold wordsAt edgeWords
    rw [List.length_append]
    congr 1
    split <;> rfl
   have HV5:=Lib.hid hv5
   have HWL:=Lib.hid hwl
   have hel:sd.edges.length≤256:=asc_few hasc
   clear srow hv5 hwl
   go_wp2_with fail
   clear c0 c1 q0 q1 q2 qf1 qf2
   go_loopw [3,47] (fun n3 i wz=>∃ j:Nat,j≤sd.edges.length∧i = .int .i64 j∧n3 = .int .i64 ((n1+(edgeWords Λ (sd.edges.take j)).length:Nat):Int) ∧
    Hid (WAt V D db (.iface T v) (.func (.func g) #[] lb) bd ba by' bw B p pv J w (ys++partOf step ends Λ sd.final sd.edges s p n j) wz)) (fun _ i _=>sd.edges.length - (intOf i).toNat)
   case atStart=>exact ⟨0,Nat.zero_le _,rfl,by simp [edgeWords],HAT0⟩
   case round =>
    obtain ⟨j,hj,rfl,rfl,HAT⟩:=hrel
    by_cases hjl:j < sd.edges.length
    ·obtain ⟨ch,t,hct⟩:∃ ch t,sd.edges[j]?=some (ch,t):=⟨_,_,List.getElem?_eq_getElem hjl⟩
     obtain ⟨g1,cap1',e1,ek0,ek1⟩:=HAT.out.wm.rows.edgeCells HSD.out hct
     rw [HV5.out] at e1
     simp only [Value.slice.injEq] at e1
     obtain ⟨rfl,_,rfl⟩:=e1
     obtain ⟨hRt,hρt⟩:=HEDGES.out (ch,t) (List.mem_of_getElem? hct)
     simp only at hRt hρt ek0 ek1
     unfold intV at ek1
     obtain ⟨sd2,hsd2,_,hbel2,_⟩:=HD.out t hRt
     have hps:=partOf_succ step ends Λ sd.final sd.edges s p n j hct
     have hew:edgeWords Λ (sd.edges.take (j+1))=edgeWords Λ (sd.edges.take j)++(Λ t).map (ch :: ·):=by
      have he:sd.edges[j]=(ch,t):=(List.getElem?_eq_some_iff.1 hct).2
      rw [List.take_succ_eq_append_getElem hjl,he,edgeWords_snoc]
     have hewl:(edgeWords Λ (sd.edges.take (j+1))).length=(edgeWords Λ (sd.edges.take j)).length+(Λ t).length:=by rw [hew]; simp
     have hewle:=edgeWords_le Λ sd.edges (j+1)
     have hnb:n1+(edgeWords Λ (sd.edges.take j)).length+(Λ t).length≤1000000:=by
      have h1:=HN1.out
      have h2:=HWL.out
      omega
     obtain ⟨ew,hewj⟩:∃ ew,ew=(edgeWords Λ (sd.edges.take j)).length:=⟨_,rfl⟩
     rw [← hewj] at hnb hewl ⊢
     have HEWJ:=Lib.hid hewj
     have HEWL:=Lib.hid hewl
     have HPS:=Lib.hid hps
     have HSD2:=Lib.hid hsd2
     have HBEL2:=Lib.hid hbel2
     have HCTE:=Lib.hid hct
     have c2:wr.cell? ⟨ba,0,none⟩=some (.iface T v):=cell_block HAT.out.wm.bxa
     have c2':(wr.alloc (.cells #[.int .u8 ch.toNat,.int .i64 t] 153)).cell? ⟨ba,0,none⟩=some (.iface T v):=(World.cell?_alloc_lt wr _ _ (lt_of_cell c2)).trans c2
     clear hps hew hewl hewle hewj hsd2 hbel2 hct
     have hsbr:=HSB.out _ ((HAT.out.alloc HJ.out (.cells #[.int .u8 ch.toNat,.int .i64 t] 153)).keep.g HROW0.out)
     have HSBR:=Lib.hid hsbr
     clear hsbr
     go_wp2_with (refine wpList_load_row rfl 272 (.tmp 9) rfl w0.heap.size rfl _ _ (0,0) _ HSBR.out Tryz.underlying272 rfl HSZ.out ?_)
     have hata:=HAT.out.alloc HJ.out (.cells #[.int .u8 ch.toNat,.int .i64 t] 153)
     have HATA:=Lib.hid hata
     clear hata ek0 ek1 c2 c2'
     refine (HCT.out s ch _ (HK.out _ (HATA.out.keep.g HROW0.out)) hok).mono ?_
     rintro e w1 ⟨⟨s',rfl,hsz1,hone1,hs'⟩,hS1⟩
     have HSZ1:=Lib.hid (cells_info.trans (congrArg some hsz1.symm))
     have HSZL:=Lib.hid hsz1
     have HONE:=Lib.hid hone1
     clear hsz1 hone1 HSBR
     go_upto_region 9 with (refine wpList_store_row rfl 272 (.tmp 15) (.tmp 57) rfl w1.heap.size (ec s') rfl rfl 272 _ (heap_alloc_new w1 _) HSZ1.out (by first | exact zeroRows_size.trans HSZL.out.symm | exact HSZL.out.symm) HONE.out ?_)
     rw [World.setRow_alloc_new]
     have hS2:Below (wr.alloc (.cells #[.int .u8 ch.toNat,.int .i64 t] 153)).heap.size (wr.alloc (.cells #[.int .u8 ch.toNat,.int .i64 t] 153)) (w1.alloc (.cells (ec s') 272)):=hS1.alloc hS1.size _
     have hbt:(w1.alloc (.cells (ec s') 272)).heap[w1.heap.size]?=some (.cells (ec s') 272 (0,0)):=heap_alloc_new _ _
     clear hS1
     generalize (w1.alloc (.cells (ec s') 272))=W1 at *
     generalize w1.heap.size=bt at *
     have HBT:=Lib.hid hbt
     have hbtl:=lt_of_heap hbt
     clear hbt
     have hat1:=HATA.out.below HJ.out hS2
     have heb:W1.heap[wr.heap.size]?=some (.cells #[.int .u8 ch.toNat,.int .i64 t] 153 (0,0)):=by
      exact (hS2.block _ (by simp)).trans (heap_alloc_new wr _)
     have ce0:W1.cell? ⟨wr.heap.size,0,none⟩=some (.int .u8 ch.toNat):=cell_block heb
     have ce1:W1.cell? ⟨wr.heap.size,1,none⟩=some (.int .i64 t):=cell_block heb
     have cbw:W1.cell? ⟨bw,0,none⟩=some (.func (.func 170) #[] #[ptrV bd,ptrV ba,ptrV by',ptrV bw]):=cell_block hat1.wm.bxw
     unfold ptrV at cbw
     have HAT1:=Lib.hid hat1
     have HEB:=Lib.hid heb
     clear hat1 heb HATA
     cases hst:step s ch with
     | none =>
      have hps0:=HPS.out
      rw [hst] at hps0
      simp only [List.append_nil] at hps0
      have HPS0:=Lib.hid hps0
      clear hps0 hs' hst
      refine wp_region_ord [(0,false),(1,false),(2,false),(3,false),(4,false),(5,false),(6,false),(7,false),(8,false),(11,false),(9,true),(10,true),(12,true),(13,false),(14,false)]
       (fun w'=>w'.cell? ⟨bw,0,none⟩=some (.func (.func 170) #[] #[.pointer (some ⟨bd,0,none⟩),.pointer (some ⟨ba,0,none⟩),.pointer (some ⟨by',0,none⟩),.pointer (some ⟨bw,0,none⟩)])∧w'.cell? ⟨wr.heap.size,0,none⟩=some (.int .u8 ch.toNat)∧w'.cell? ⟨wr.heap.size,1,none⟩=some (.int .i64 t)) (by kernel_rfl) (by kernel_rfl) ⟨cbw,ce0,ce1⟩ ?_
      iterate 2 (
       refine wpOrd_quiet ?_ rfl rfl (fun w' hS=>?_) ?_
       rotate_left
       ·go_simp
        first | rfl | done
       simp only [put_lit,List.set_cons_succ,List.set_cons_zero])
      iterate 8 (
       refine wpOrd_skip rfl rfl ?_
       simp only [put_lit,List.set_cons_succ,List.set_cons_zero])
      iterate 3 (
       refine wpOrd_skipT rfl rfl ?_
       simp only [put_lit,List.set_cons_succ,List.set_cons_zero])
      refine wpOrd_skip rfl rfl ?_
      simp only [put_lit,List.set_cons_succ,List.set_cons_zero]
      refine wpOrd_quiet ?_ rfl rfl (fun w' hS=>?_) ?_
      rotate_left
      ·go_simp
       first | rfl | done
      simp only [put_lit,List.set_cons_succ,List.set_cons_zero]
      refine wpOrd_nil ?_
      go_wp2_with fail
      have hatx:=HAT1.out.same HJ.out (Same.drew W1)
      rw [← HPS0.out] at hatx
      have ce1x:W1.drew.cell? ⟨wr.heap.size,1,none⟩=some (.int .i64 t):=ce1
      clear HAT1 ce0 ce1 cbw HEB
      generalize W1.drew=wx at *
      have HATX:=Lib.hid hatx
      clear hatx
      obtain ⟨gV2,capV2,hV2,_,_,p2,_,_⟩:=HATX.out.wm.rows.cells HSD2.out
      rw [HV.out] at hV2
      simp only [Value.slice.injEq,Option.some.injEq,Addr.mk.injEq] at hV2
      obtain ⟨⟨rfl,_⟩,_,rfl⟩:=hV2
      unfold intV at p2
      rw [HBEL2.out] at p2
      have d0:=cell_block (i:=0) HATX.out.wm.bxd
      have d1:=cell_block (i:=0) HATX.out.wm.dct
      rw [HV.out] at d1
      unfold ptrV at d0
      have htl:t < D.length:=(List.getElem?_eq_some_iff.1 HSD2.out).1
      have y1:(0:Int)≤(t:Int)∧(t:Int) < (D.length:Int):=by omega
      obtain ⟨ln,hln⟩:∃ ln,ln=(Λ t).length:=⟨_,rfl⟩
      rw [← hln] at p2 hnb
      have HLN:=Lib.hid hln
      have y2:IntKind.i64.wrap (((n1+ew:Nat):Int)+(ln:Int))=((n1+ew:Nat):Int)+(ln:Int):=IntWalk.i64_in _ (by omega)
      clear hln
      go_quiet (fail)
      go_wp2_with fail
      have hnx:(edgeWords Λ (sd.edges.take (j+1))).length=ew+ln:=by rw [HEWL.out,HLN.out]
      have HNX:=Lib.hid hnx
      clear hnx
      go_roundw
      case rel =>
       exact ⟨j+1,by omega,by go_num,congrArg (Value.int .i64) (by have:=HNX.out; omega),Lib.hid (HATX.out.same HJ.out (Same.drewN _ _))⟩
      case measure=>(simp [intOf]) <;> omega
     | some s2 =>
      obtain rfl:=hs' s2 hst
      have hok2:=HA.out.next s ch s' hok hst
      have hps1:partOf step ends Λ sd.final sd.edges s p n (j+1)=partOf step ends Λ sd.final sd.edges s p n j++pre (p++[ch]) (hits (accA step ends s') (Λ t) (n1+ew)):=by
       have h1:=HPS.out
       rw [hst] at h1
       simp only at h1
       rw [h1,HN1.out,HEWJ.out]
      have hpf:(ys++partOf step ends Λ sd.final sd.edges s p n j)++pre (p++[ch]) (hits (accA step ends s') (Λ t) (n1+ew)) <+: F:=by
       rw [List.append_assoc,← hps1]
       have h1:=HF.out
       rw [HWORDS.out,← partOf_all] at h1
       exact ((List.prefix_append_right_inj ys).2 (partOf_prefix step ends Λ sd.final sd.edges s p n (j+1) hjl)).trans h1
      have HPS1:=Lib.hid hps1
      have HPF:=Lib.hid hpf
      clear hps1 hpf hs' hst
      refine wp_region_ord [(0,false),(1,false),(2,false),(3,false),(4,false),(5,false),(6,false),(7,false),(8,false),(11,false),(9,true),(10,true),(12,true),(13,false),(14,false)]
       (fun w'=>w'.cell? ⟨bw,0,none⟩=some (.func (.func 170) #[] #[.pointer (some ⟨bd,0,none⟩),.pointer (some ⟨ba,0,none⟩),.pointer (some ⟨by',0,none⟩),.pointer (some ⟨bw,0,none⟩)])∧w'.cell? ⟨wr.heap.size,0,none⟩=some (.int .u8 ch.toNat)∧w'.cell? ⟨wr.heap.size,1,none⟩=some (.int .i64 t)∧w'.heap[bt]?=some (.cells (ec s') 272 (0,0))) (by kernel_rfl) (by kernel_rfl) ⟨cbw,ce0,ce1,HBT.out⟩ ?_
      iterate 5 (
       refine wpOrd_quiet ?_ rfl rfl (fun w' hS=>?_) ?_
       rotate_left
       ·obtain ⟨f0,f1,f2,_⟩:=hS
        go_simp
        first | rfl | done
       simp only [put_lit,List.set_cons_succ,List.set_cons_zero])
      refine wpOrd_row 272 (.tmp 15) bt _ _ (0,0) _ rfl rfl rfl rfl (fun w' hS=>hS.2.2.2) Tryz.underlying272 rfl HSZ1.out ?_
      simp only [put_lit,List.set_cons_succ,List.set_cons_zero]
      iterate 4 (
       refine wpOrd_quiet ?_ rfl rfl (fun w' hS=>?_) ?_
       rotate_left
       ·obtain ⟨f0,f1,f2,_⟩:=hS
        go_simp
        first | rfl | done
       simp only [put_lit,List.set_cons_succ,List.set_cons_zero])
      refine wpOrd_loud rfl rfl (by decide) (fun K5 hK5=>?_)
      go_simp
      have hbwl:=lt_of_cell cbw
      have hebl:=lt_of_cell ce0
      refine hK5 _ _ ⟨(World.cell?_alloc_lt W1 _ _ hbwl).trans cbw,(World.cell?_alloc_lt W1 _ _ hebl).trans ce0,(World.cell?_alloc_lt W1 _ _ hebl).trans ce1,(Below.heap_alloc W1 _ _ hbtl).trans HBT.out⟩ ?_
      clear hK5 K5
      refine wpOrd_loud rfl rfl (by decide) (fun K5 hK5=>?_)
      obtain ⟨i0,hi,hz0,hz1,hz2⟩:=info_parts Tryz.info5
      have hrowc:((W1.alloc (.cells #[.int .u8 ch.toNat] 5)).drew).ownsRow 0 5 1 pv p.length (bytesV p):=(HAT1.out.row.alloc _).drew
      refine wp_append_elder _ _ 61 rfl 5 i0 (.int .u8 0) 1 1 Tryz.underlying61 hi hz0 hz1 hz2 rfl (by decide) pv p.length (bytesV p) rfl hrowc ⟨W1.heap.size,0,none⟩ 1 1 [.int .u8 ch.toNat] rfl rfl (cell_one_new W1 _ _)
       (by simp [Value.oneCell']) (by decide) (by unfold maxLen; omega) (by omega) ?_
      intro pv' W4 hrow4 hgrow4 hlies4 hel4
      have hmv:Moves W1 pv W4 pv':=((Moves.alloc W1 _ _).trans (Moves.same _ (Same.drew _))).trans (Moves.append hgrow4 hlies4)
      obtain ⟨hwm4,hrow4',hp4,hB4,hj4⟩:=HAT1.out.grow HJ.out HPAST.out hmv hrow4
      have hpe:pv.ownBlock≠some wr.heap.size:=fun e=>by
       have:=(HAT.out.row.lt _ e).2
       omega
      have heb4:W4.heap[wr.heap.size]?=some (.cells #[.int .u8 ch.toNat,.int .i64 t] 153 (0,0)):=(hmv.block hebl hpe).trans HEB.out
      have cbw4:W4.cell? ⟨bw,0,none⟩=some (.func (.func 170) #[] #[ptrV bd,ptrV ba,ptrV by',ptrV bw]):=cell_block hwm4.bxw
      unfold ptrV at cbw4
      have hpbt:pv.ownBlock≠some bt:=fun e=>by
       obtain ⟨cur,hcur⟩:=ownsRow_cells4 HAT1.out.row e
       have h:=HBT.out
       rw [h] at hcur
       cases hcur
      have hbt4:W4.heap[bt]?=some (.cells (ec s') 272 (0,0)):=(hmv.block hbtl hpbt).trans HBT.out
      refine hK5 _ _ ⟨cbw4,cell_block heb4,cell_block heb4,hbt4⟩ ?_
      clear hK5 K5
      simp only [put_lit,List.set_cons_succ,List.set_cons_zero]
      refine wpOrd_loud rfl rfl (by decide) (fun K5 hK5=>?_)
      have hne4:pv'.ownBlock≠some wr.heap.size:=fun e=>by
       obtain ⟨cur,hcur⟩:=ownsRow_cells4 hrow4' e
       rw [heb4] at hcur
       cases hcur
      have hneb:pv'.ownBlock≠some bt:=fun e=>by
       obtain ⟨cur,hcur⟩:=ownsRow_cells4 hrow4' e
       rw [hbt4] at hcur
       cases hcur
      have HBT4:=Lib.hid hbt4
      have HGROW:=Lib.hid hgrow4
      have HLIES:=Lib.hid hlies4
      have HEL:=Lib.hid hel4
      have HMV:=Lib.hid hmv
      have HWM4:=Lib.hid hwm4
      have HROW4:=Lib.hid hrow4'
      have HEB4:=Lib.hid heb4
      clear hbt4 hgrow4 hlies4 hel4 hmv hrow4 hrowc heb4 cbw4 ce0 ce1 cbw
      go_simp
      have hih:=IH.out (ρ k) hr t s' (p++[ch]) pv' (n1+ew) (ys++partOf step ends Λ sd.final sd.edges s p n j) W4 hρt hRt hok2 HWM4.out HROW4.out hp4 hB4 (HK.out _ ((HAT1.out.keep.trans (KeepB.moves HMV.out)).g HROW0.out)) (by rw [List.length_append,List.length_singleton]; omega) hnb hj4 HPF.out
      have ecast:((n1+ew:Nat):Int)=(n1:Int)+(ew:Int):=by omega
      rw [ecast] at hih
      refine hih.mono ?_
      clear hih ecast
      rintro e W5 ⟨hk5,hrow5,hsz5,hres⟩
      have cbw5:∀ W,WM V D db (.iface T v) (.func (.func g) #[] lb) bd ba by' bw W→W.cell? ⟨bw,0,none⟩=some (.func (.func 170) #[] #[.pointer (some ⟨bd,0,none⟩),.pointer (some ⟨ba,0,none⟩),.pointer (some ⟨by',0,none⟩),.pointer (some ⟨bw,0,none⟩)]):=fun W h=>cell_block h.bxw
      have heb5:W5.heap[wr.heap.size]?=some (.cells #[.int .u8 ch.toNat,.int .i64 t] 153 (0,0)):=(hk5.2 _ _ _ _ HEB4.out (by decide) hne4).trans HEB4.out
      have hcs:W1.heap.size≤((W1.alloc (.cells #[.int .u8 ch.toNat] 5)).drew).heap.size:=by simp
      rcases hres with ⟨rfl,hj5⟩ | ⟨rfl,zs,hzs,hj5⟩
      ·rw [List.append_assoc,← HPS1.out] at hj5
       have hat5:=HAT1.out.back (J':=J) HMV.out hcs (fun k hk=>Below.heap_alloc W1 _ k hk) HLIES.out HEL.out HWM4.out HROW4.out hk5 hrow5 hj5
       refine hK5 _ _ ⟨cbw5 W5 hat5.wm,cell_block heb5,cell_block heb5,(hk5.2 _ _ _ _ HBT4.out (by decide) hneb).trans HBT4.out⟩ ?_
       clear hK5 K5
       have ce1x:W5.cell? ⟨wr.heap.size,1,none⟩=some (.int .i64 t):=cell_block heb5
       have HATX:=Lib.hid hat5
       clear hat5 hk5 hrow5 hsz5 hj5 cbw5 heb5 HAT1 HMV HLIES HEL HWM4 HROW4 HEB4 hj4 HGROW hwm4
       iterate 2 (
        refine wpOrd_quiet ?_ rfl rfl (fun w' hS=>?_) ?_
        rotate_left
        ·go_simp
         first | rfl | done
        simp only [put_lit,List.set_cons_succ,List.set_cons_zero])
       refine wpOrd_nil ?_
       go_wp2_with fail
       obtain ⟨gV2,capV2,hV2,_,_,p2,_,_⟩:=HATX.out.wm.rows.cells HSD2.out
       rw [HV.out] at hV2
       simp only [Value.slice.injEq,Option.some.injEq,Addr.mk.injEq] at hV2
       obtain ⟨⟨rfl,_⟩,_,rfl⟩:=hV2
       unfold intV at p2
       rw [HBEL2.out] at p2
       have d0:=cell_block (i:=0) HATX.out.wm.bxd
       have d1:=cell_block (i:=0) HATX.out.wm.dct
       rw [HV.out] at d1
       unfold ptrV at d0
       have htl:t < D.length:=(List.getElem?_eq_some_iff.1 HSD2.out).1
       have y1:(0:Int)≤(t:Int)∧(t:Int) < (D.length:Int):=by omega
       obtain ⟨ln,hln⟩:∃ ln,ln=(Λ t).length:=⟨_,rfl⟩
       rw [← hln] at p2 hnb
       have HLN:=Lib.hid hln
       have y2:IntKind.i64.wrap (((n1+ew:Nat):Int)+(ln:Int))=((n1+ew:Nat):Int)+(ln:Int):=IntWalk.i64_in _ (by omega)
       clear hln
       go_quiet (fail)
       go_wp2_with fail
       have hnx:(edgeWords Λ (sd.edges.take (j+1))).length=ew+ln:=by rw [HEWL.out,HLN.out]
       have HNX:=Lib.hid hnx
       clear hnx
       go_roundw
       case rel =>
        exact ⟨j+1,by omega,by go_num,congrArg (Value.int .i64) (by have:=HNX.out; omega),Lib.hid (HATX.out.same HJ.out (Same.drewN _ _))⟩
       case measure=>(simp [intOf]) <;> omega
      ·have hat5:=HAT1.out.back (J':=fun _ W=>Jx zs W) (ys':=[]) HMV.out hcs (fun k hk=>Below.heap_alloc W1 _ k hk) HLIES.out HEL.out HWM4.out HROW4.out hk5 hrow5 hj5
       refine hK5 _ _ ⟨cbw5 W5 hat5.wm,cell_block heb5,cell_block heb5,(hk5.2 _ _ _ _ HBT4.out (by decide) hneb).trans HBT4.out⟩ ?_
       clear hK5 K5
       have HATX:=Lib.hid hat5
       clear hat5 hk5 hrow5 hsz5 hj5 cbw5 heb5 HAT1 HMV HLIES HEL HWM4 HROW4 HEB4 hj4 HGROW hwm4
       iterate 2 (
        refine wpOrd_quiet ?_ rfl rfl (fun w' hS=>?_) ?_
        rotate_left
        ·go_simp
         first | rfl | done
        simp only [put_lit,List.set_cons_succ,List.set_cons_zero])
       refine wpOrd_nil ?_
       go_wp2_with fail
       go_ret
       exact ⟨HPRZ.out.trans HATX.out.keep,HATX.out.row,Nat.le_trans HPRZ.out.1 HATX.out.keep.1,.inr ⟨rfl,zs,hzs,HATX.out.j⟩⟩
    ·obtain rfl:j=sd.edges.length:=by omega
     have hfin:Hid (J (ys++pre p (hits (accA step ends s) (Λ k) n)) wr):=Lib.hid (by
      rw [HWORDS.out,← partOf_all]
      exact HAT.out.j)
     go_wp2_with fail
     go_ret
     exact ⟨HPRZ.out.trans HAT.out.keep,HAT.out.row,Nat.le_trans HPRZ.out.1 HAT.out.keep.1,.inl ⟨rfl,hfin.out⟩⟩
end Go.Proofs.Ts.S
namespace Go.Proofs.Ts.S
open Go Go.RowKit Go.Proofs.Ts
variable {σ:Type} {ec:σ→Array Value}
def AutS (ec : σ → Array Value) (H : World → Prop) (iv : Value) (s0 : σ) : Prop := ∃ T v fS rS, iv = .iface T v ∧ (∀ fu w, (method (fu + 1) T v "Start").run Tryz.prog w = .ok (fS, rS) w) ∧ (∀ args w, (callFunc fS args).run Tryz.prog w = .ok (.enter fS args) w) ∧
 ∀ w,H w→Calls Tryz.prog fS #[rS] w fun e w'=>e = .returned (.agg (ec s0))∧Below w.heap.size w w'
theorem over_make (iv:Value) (w:World) (hiv:∃ T v,iv = .iface T v) :
  Calls Tryz.prog 142 #[iv] w fun e w'=>e = .returned (.func (.func 169) #[] #[ptrV w.heap.size])∧w'=w.alloc (.cells #[iv] 354):=by
 have hmf:∀ (fn:Fn) (first cap:Array Value) (w:World),(Instr.makeFunc fn first cap).run Tryz.prog w = .ok (.func fn first cap) w:=fun _ _ _ _=>rfl
 obtain ⟨T,v,rfl⟩:=hiv
 go_enter Tryz.func142,Tryz.ntmps142
 go_wp2
 go_ret
 exact ⟨rfl,rfl⟩
def walkFn (bd ba by' bw:Nat):Value := .func (.func 170) #[] #[.pointer (some ⟨bd,0,none⟩),.pointer (some ⟨ba,0,none⟩),.pointer (some ⟨by',0,none⟩),.pointer (some ⟨bw,0,none⟩)]
def overStart (w:World) (db g:Nat) (lb:Array Value) (ba:Nat):World :=
 ((w.alloc (.cells #[.pointer (some ⟨db,0,none⟩)] 85)).alloc (.cells #[.func (.func g) #[] lb] 127)).alloc (.cells #[walkFn w.heap.size ba (w.heap.size+1) (w.heap.size+1+1)] 355)
theorem overStart_old (w:World) (db g:Nat) (lb:Array Value) (ba j:Nat) (h:j < w.heap.size):(overStart w db g lb ba).heap[j]?=w.heap[j]?:=by
 unfold overStart
 rw [Below.heap_alloc _ _ _ (by simp; omega),Below.heap_alloc _ _ _ (by simp; omega),Below.heap_alloc _ _ _ h]
theorem overStart_size (w:World) (db g:Nat) (lb:Array Value) (ba:Nat):(overStart w db g lb ba).heap.size=w.heap.size+3:=by unfold overStart; simp
theorem overStart_keep (w:World) (db g:Nat) (lb:Array Value) (ba:Nat):KeepT w (overStart w db g lb ba):=((KeepT.alloc _ _).trans (KeepT.alloc _ _)).trans (KeepT.alloc _ _)
theorem overStart_steps (w:World) (db g:Nat) (lb:Array Value) (ba B:Nat):StepsB B w (overStart w db g lb ba):=((StepsB.alloc _ _ _).trans (StepsB.alloc _ _ _)).trans (StepsB.alloc _ _ _)
theorem overStart_wm {w:World} {db g:Nat} {lb:Array Value} {ba:Nat} {V iv:Value} {D:List DS} (h1:w.heap[db]?=some (.cells #[V] 148 (0,0))) (h2:RowsIn 0 w V D) (h3:w.heap[ba]?=some (.cells #[iv] 354 (0,0))) :
  WM V D db iv (.func (.func g) #[] lb) w.heap.size ba (w.heap.size+1) (w.heap.size+1+1) (overStart w db g lb ba):=by
 have l1:=(Array.getElem?_eq_some_iff.1 h1).1
 have l3:=(Array.getElem?_eq_some_iff.1 h3).1
 refine ⟨(overStart_old w db g lb ba _ l1).trans h1,h2.cellsKept fun k cs t r hk _=>overStart_old w db g lb ba k (Array.getElem?_eq_some_iff.1 hk).1,?_,(overStart_old w db g lb ba _ l3).trans h3,?_,?_⟩
 ·unfold overStart
  rw [Below.heap_alloc _ _ _ (by simp; omega),Below.heap_alloc _ _ _ (by simp)]
  exact heap_alloc_new w _
 ·unfold overStart
  rw [Below.heap_alloc _ _ _ (by simp)]
  have:=heap_alloc_new (w.alloc (.cells #[.pointer (some ⟨db,0,none⟩)] 85)) (.cells #[.func (.func g) #[] lb] 127)
  simpa using this
 ·unfold overStart
  have:=heap_alloc_new ((w.alloc (.cells #[.pointer (some ⟨db,0,none⟩)] 85)).alloc (.cells #[.func (.func g) #[] lb] 127)) (.cells #[walkFn w.heap.size ba (w.heap.size+1) (w.heap.size+1+1)] 355)
  unfold walkFn at *
  unfold ptrV
  simpa using this
set_option maxRecDepth 100000 in
set_option maxHeartbeats 2000000 in
theorem over_any {db:Nat} {R:Nat→Prop} {Λ:Nat→List Word} {ρ:Nat→Nat} {D:List DS} {iv:Value} {H:World→Prop} {ok:σ→Prop} {step:σ→UInt8→Option σ} {ends:σ→Bool} {s0:σ} (hA:AutI ec H iv ok step ends) (hS0:AutS ec H iv s0) (hok0:ok s0)
  (g:Nat) (lb:Array Value) (eg:∀ args w,(callFunc g args).run Tryz.prog w = .ok (.enter g args) w) (ba:Nat) (w:World) (hH:H w) (hdi:DictIs w db R Λ ρ D) (hlen:(Λ 0).length≤1000000) (hba:w.heap[ba]?=some (.cells #[iv] 354 (0,0)))
  (J Jx:List (List UInt8 × Nat)→World→Prop) (hJ:∀ ys w1 w',J ys w1→StepsB w.heap.size w1 w'→J ys w')
  (hY:∀ ys t i w1,J ys w1→ys++[(t,i)] <+: hits (accA step ends s0) (Λ 0) 0→Calls Tryz.prog g (#[strV t,intV i]++lb) w1 fun e w'=>KeepT w1 w'∧((e = .returned (.bool true)∧J (ys++[(t,i)]) w')∨(e = .returned (.bool false)∧Jx (ys++[(t,i)]) w')))
  (hj0:J [] w) :
  Calls Tryz.prog 169 #[ptrV db,.func (.func g) #[] lb,ptrV ba] w fun e w'=>e = .returned (.tuple #[])∧KeepT w w' ∧
   (J (hits (accA step ends s0) (Λ 0) 0) w' ∨ ∃ zs,zs <+: hits (accA step ends s0) (Λ 0) 0∧Jx zs w'):=by
 have hmf:∀ (fn:Fn) (first cap:Array Value) (w:World),(Instr.makeFunc fn first cap).run Tryz.prog w = .ok (.func fn first cap) w:=fun _ _ _ _=>rfl
 obtain ⟨T,v,fS,rS,rfl,hmS,eS,hcS⟩:=hS0
 obtain ⟨V,hdct,hrows⟩:=hdi.mem
 have hbal:=(Array.getElem?_eq_some_iff.1 hba).1
 have HDI:=Lib.hid hdi
 have HROWS:=Lib.hid hrows
 have HDCT:=Lib.hid hdct
 have HBA:=Lib.hid hba
 have HJ:=Lib.hid hJ
 have HY:=Lib.hid hY
 have HCS:=Lib.hid hcS
 have HJ0:=Lib.hid hj0
 have HK:Hid (∀ wz,KeepG w wz→H wz):=Lib.hid fun wz hk=>hA.keep w wz hH hk
 clear hH hdi hrows hdct hba hJ hY hcS hj0
 unfold ptrV
 go_enter Tryz.func169,Tryz.ntmps169
 go_wp2_with fail
 have hwm:=overStart_wm (g:=g) (lb:=lb) HDCT.out HROWS.out HBA.out
 have hks:=overStart_keep w db g lb ba
 have hst:=overStart_steps w db g lb ba w.heap.size
 have hsz:=overStart_size w db g lb ba
 have hj1:=HJ.out _ _ _ HJ0.out hst
 have hW:(((w.alloc (.cells #[.pointer (some ⟨db,0,none⟩)] 85)).alloc (.cells #[.func (.func g) #[] lb] 127)).alloc (.cells #[.func (.func 170) #[] #[.pointer (some ⟨w.heap.size,0,none⟩),.pointer (some ⟨ba,0,none⟩),.pointer (some ⟨w.heap.size+1,0,none⟩),.pointer (some ⟨w.heap.size+1+1,0,none⟩)]] 355))=overStart w db g lb ba:=rfl
 rw [hW]
 clear hW
 generalize overStart w db g lb ba=W3 at *
 have c1:W3.cell? ⟨w.heap.size+1+1,0,none⟩=some (walkFn w.heap.size ba (w.heap.size+1) (w.heap.size+1+1)):=cell_block hwm.bxw
 have c2:W3.cell? ⟨ba,0,none⟩=some (.iface T v):=cell_block hwm.bxa
 have HWM:=Lib.hid hwm
 have HKS:=Lib.hid hks
 have HJ1:=Lib.hid hj1
 clear hwm hks hst hj1
 unfold walkFn at c1
 have c1':=c1
 have c2':=c2
 refine wp_region_ord [(0,false),(1,false),(2,true),(3,true)] (fun w'=>w'.cell? ⟨w.heap.size+1+1,0,none⟩=some (.func (.func 170) #[] #[.pointer (some ⟨w.heap.size,0,none⟩),.pointer (some ⟨ba,0,none⟩),.pointer (some ⟨w.heap.size+1,0,none⟩),.pointer (some ⟨w.heap.size+1+1,0,none⟩)]) ∧
  w'.cell? ⟨ba,0,none⟩=some (.iface T v)) (by kernel_rfl) (by kernel_rfl) ⟨c1,c2⟩ ?_
 iterate 2 (
  refine wpOrd_quiet ?_ rfl rfl (fun w' hS=>?_) ?_
  rotate_left
  ·obtain ⟨d1,d2⟩:=hS
   go_simp
   first | rfl | done
  simp only [put_lit,List.set_cons_succ,List.set_cons_zero])
 refine wpOrd_loud rfl rfl (by decide) (fun K5 hK5=>?_)
 go_simp
 refine (HCS.out _ (HK.out _ (HKS.out.g.trans (KeepG.below (show Below W3.heap.size W3 W3.drew from (Below.refl _ _).drew))))).mono ?_
 rintro e w1 ⟨rfl,hS1⟩
 have hS:Below W3.heap.size W3 w1:=(show Below W3.heap.size W3 W3.drew from (Below.refl _ _).drew).trans hS1
 refine hK5 _ _ ⟨(hS.cell (p:=⟨_,_,none⟩) (lt_of_cell c1)).trans c1,(hS.cell (p:=⟨_,_,none⟩) (lt_of_cell c2)).trans c2⟩ ?_
 clear hK5 K5
 refine wpOrd_loud rfl rfl (by decide) (fun K5 hK5=>?_)
 go_simp
 have hwm1:=HWM.out.kept (v := .slice none 0 0) (World.ownsRow_nil _ _ _ _:W3.ownsRow 0 5 1 (.slice none 0 0) 0 []) ((KeepT.below hS).toB _)
 have hst0:=HDI.out.state
 have hroot:=HDI.out.root
 have hrun:=walk_any hA hst0 g lb eg w.heap.size ba (w.heap.size+1) (w.heap.size+1+1) w.heap.size J Jx (hits (accA step ends s0) (Λ 0) 0) HJ.out HY.out (ρ 0+1) 0 s0 [] (.slice none 0 0) 0 [] w1 (Nat.lt_succ_self _) hroot.1 hok0 hwm1
  (World.ownsRow_nil _ _ _ _) (fun k e=>by cases e) (by have:=hS.size; omega) (HK.out _ (HKS.out.g.trans (KeepG.below hS))) (by simpa using hroot.2) (by omega) (HJ.out _ _ _ HJ1.out (StepsB.below hS)) (by rw [List.nil_append,pre_nil]; exact List.prefix_refl _)
 unfold intV ptrV at hrun
 refine hrun.mono ?_
 rintro e W5 ⟨hk5,_,_,hres⟩
 have hkt:KeepT w W5:=HKS.out.trans ((KeepT.below hS).trans ⟨hk5.1,fun k cs t r h1 h2=>hk5.2 k cs t r h1 h2 (fun e=>by cases e)⟩)
 rw [List.nil_append,pre_nil] at hres
 have hk1:KeepT W3 W5:=(KeepT.below hS).trans ⟨hk5.1,fun k cs t r h1 h2=>hk5.2 k cs t r h1 h2 (fun e=>by cases e)⟩
 have d1:W5.cell? ⟨w.heap.size+1+1,0,none⟩=_:=cell_block ((hk1.2 _ _ _ _ HWM.out.bxw (by decide)).trans HWM.out.bxw)
 have d2:W5.cell? ⟨ba,0,none⟩=_:=cell_block ((hk1.2 _ _ _ _ HWM.out.bxa (by decide)).trans HWM.out.bxa)
 have hd:_∧_:=⟨d1,d2⟩
 have HKT:=Lib.hid hkt
 clear hrun hk5 hkt hwm1 hst0 hroot
 rcases hres with ⟨rfl,hj5⟩ | ⟨rfl,zs,hzs,hj5⟩
 ·have HJ5:=Lib.hid hj5
  clear hj5
  refine hK5 _ _ hd ?_
  clear hK5 K5 hd d1 d2
  refine wpOrd_nil ?_
  go_wp2_with fail
  refine bodyPost_end (results_none rfl _ _ _) rfl ?_
  exact ⟨rfl,HKT.out,.inl HJ5.out⟩
 ·have HJ5:=Lib.hid hj5
  clear hj5
  refine hK5 _ _ hd ?_
  clear hK5 K5 hd d1 d2
  refine wpOrd_nil ?_
  go_wp2_with fail
  refine bodyPost_end (results_none rfl _ _ _) rfl ?_
  exact ⟨rfl,HKT.out,.inr ⟨zs,hzs,HJ5.out⟩⟩
end Go.Proofs.Ts.S
namespace Go.Proofs.Ts
open Go Go.RowKit
def setA (s:PSet):Array Value:=s.cells.toArray
def PM.fit (M:PM):Prop:=∀ c,(M.at'.getD c PSet.zero).fits
def PM.stepO (M:PM) (s:PSet) (c:UInt8):Option PSet:=if M.step s c.toNat=PSet.zero then none else some (M.step s c.toNat)
structure MachMem (mb:Nat) (M:PM) (w:World):Prop where
 mach:MachIs w mb M
 tab:BitTab w
theorem PSet.fits_and {s t:PSet} (h:t.fits):(s.and t).fits:=fun k hk=>by
 rw [PSet.mem_elems,PSet.mem_and,Bool.and_eq_true] at hk
 exact h k ((PSet.mem_elems _ _).2 ⟨hk.1,hk.2.2⟩)
theorem beginSet_ok:beginSet.ok:=PSet.ok_on PSet.ok_zero _
theorem beginSet_fits:beginSet.fits:=fun k hk=>by
 rw [PSet.mem_elems] at hk
 have:=hk.2
 unfold beginSet at this
 rw [PSet.mem_on _ _ _ (by decide) hk.1,PSet.mem_zero,Bool.or_false,decide_eq_true_iff] at this
 omega
theorem mach_aut (mb:Nat) (M:PM) (hM:M.ok) (hF:M.fit):S.AutI setA (MachMem mb M) (.iface 115 (ptrV mb)) (fun s=>s.ok∧s.fits) M.stepO M.ends where
 ex:=⟨115,ptrV mb,130,128,ptrV mb,ptrV mb,rfl,fun fu w=>by kernel_rfl,fun fu w=>by kernel_rfl,
  enters_of Tryz.func130 (by kernel_rfl) rfl,enters_of Tryz.func128 (by kernel_rfl) rfl,fun s w hH hs=>machEnds_any mb M s w hs.1 hH.mach,
  fun s c w hH hs=>(machStep_any mb M s c w hs.1 hs.2 hH.mach hH.tab).mono fun e w' ⟨h1,hb⟩=>⟨⟨M.step s c.toNat,by
   rw [h1]
   unfold PM.stepO
   by_cases hz:M.step s c.toNat=PSet.zero
   ·rw [if_pos hz]; simp [hz]; rfl
   ·rw [if_neg hz]; simp [hz]; rfl,rfl,by simp [setA,PSet.cells,Value.oneCell'],fun u hu=>by
   unfold PM.stepO at hu
   split at hu
   ·cases hu
   ·exact Option.some.inj hu⟩,hb⟩⟩
 next:=fun s c t hs h=>by
  unfold PM.stepO at h
  split at h
  ·cases h
  ·cases h
   exact ⟨PM.ok_step hM s _,PSet.fits_and (hF _)⟩
 keep:=fun w w' h hk=>⟨h.mach.keepG hk,h.tab.keepG hk⟩
 size:=fun s _=>rfl
theorem mach_start (mb:Nat) (M:PM):S.AutS setA (MachMem mb M) (.iface 115 (ptrV mb)) beginSet :=
 ⟨_,_,127,ptrV mb,rfl,fun fu w=>by kernel_rfl,enters_of Tryz.func127 (by kernel_rfl) rfl,fun w _=>machStart_any _ w⟩
end Go.Proofs.Ts
namespace Go.Proofs.Ts
open Go Go.RowKit
def PM.atc (M:PM) (c:Nat):PSet:=M.at'.getD c .zero
def PM.alikeTo (M:PM):Nat→List (PSet × Nat)
 | 0=>[]
 | c+1=>if (get (M.alikeTo c) (M.atc c)).isSome then M.alikeTo c else M.alikeTo c++[(M.atc c,c)]
def PM.kindsTo (M:PM) (c:Nat):List Nat:=(M.alikeTo c).map (·.2)
def PM.kinds (M:PM):List Nat:=M.kindsTo 256
theorem alike_len (M:PM):∀ c,(M.alikeTo c).length≤c
 | 0=>Nat.le_refl _
 | c+1=>by
  have ih:=alike_len M c
  unfold PM.alikeTo
  split
  ·omega
  ·simp; omega
theorem alike_mem (M:PM):∀ c,∀ p∈M.alikeTo c,p.1=M.atc p.2∧p.2 < c
 | 0,p,h=>by cases h
 | c+1,p,h=>by
  have ih:=alike_mem M c
  unfold PM.alikeTo at h
  split at h
  ·exact ⟨(ih p h).1,Nat.lt_succ_of_lt (ih p h).2⟩
  ·rcases List.mem_append.1 h with h | h
   ·exact ⟨(ih p h).1,Nat.lt_succ_of_lt (ih p h).2⟩
   ·simp at h; subst h; exact ⟨rfl,Nat.lt_succ_self _⟩
theorem get_appendL {α β:Type} [DecidableEq α] {M M':List (α × β)} {n:α} {x:β} (h:get M n=some x):get (M++M') n=some x:=by
 induction M with
 | nil=>cases h
 | cons p r ih =>
  simp only [List.cons_append,get] at h ⊢
  split
  ·rename_i e; rw [if_pos e] at h; exact h
  ·rename_i e; rw [if_neg e] at h; exact ih h
theorem get_lastL {α β:Type} [DecidableEq α] {M:List (α × β)} {n:α} (x:β) (h:get M n=none):get (M++[(n,x)]) n=some x:=by
 rw [← length_put_none x h,get_put,if_pos rfl]
theorem alike_has (M:PM):∀ c d,d < c → ∃ k,get (M.alikeTo c) (M.atc d)=some k
 | 0,d,h=>by omega
 | c+1,d,h=>by
  have ih:=alike_has M c
  unfold PM.alikeTo
  split
  ·rename_i hs
   by_cases hd:d=c
   ·subst hd; exact Option.isSome_iff_exists.1 hs
   ·exact ih d (by omega)
  ·rename_i hs
   by_cases hd:d=c
   ·subst hd
    exact ⟨d,get_lastL _ (by simpa using hs)⟩
   ·obtain ⟨k,hk⟩:=ih d (by omega)
    exact ⟨k,get_appendL hk⟩
theorem kinds_has (M:PM) (d:Nat) (h:d < 256):∃ k,k∈M.kinds∧k < 256∧M.atc k=M.atc d:=by
 obtain ⟨k,hk⟩:=alike_has M 256 d h
 have hm:=get_some_mem hk
 have:=alike_mem M 256 _ hm
 exact ⟨k,List.mem_map.2 ⟨_,hm,rfl⟩,this.2,this.1.symm⟩
theorem kinds_lt (M:PM) (c:Nat) {k:Nat} (h:k∈M.kindsTo c):k < c:=by
 obtain ⟨p,hp,rfl⟩:=List.mem_map.1 h
 exact (alike_mem M c p hp).2
theorem kinds_len (M:PM) (c:Nat):(M.kindsTo c).length≤c:=by unfold PM.kindsTo; rw [List.length_map]; exact alike_len M c
theorem step_like (M:PM) (s:PSet) {c d:Nat} (h:M.atc c=M.atc d):M.step s c=M.step s d:=by
 unfold PM.step
 unfold PM.atc at h
 rw [h]
inductive Met2 (M:PM):PSet→Prop
 | start:Met2 M beginSet
 | step (s:PSet) (c:Nat):Met2 M s→c < 256→M.step s c≠PSet.zero→Met2 M (M.step s c)
theorem Met2.ok {M:PM} (hM:M.ok) (hF:M.fit) {s:PSet} (h:Met2 M s):s.ok∧s.fits:=by
 induction h with
 | start=>exact ⟨beginSet_ok,beginSet_fits⟩
 | step s c _ _ _ ih=>exact ⟨PM.ok_step hM s c,PSet.fits_and (hF c)⟩
def TCell (M:PM) (sets:List PSet) (s:PSet) (c:Nat) (z:Int):Prop:=(M.step s c=PSet.zero∧z = -1)∨(M.step s c≠PSet.zero ∧ ∃ id:Nat,z=(id:Int)∧sets[id]?=some (M.step s c))
theorem TCell.mono {M:PM} {sets sets':List PSet} {s:PSet} {c:Nat} {z:Int} (h:TCell M sets s c z) (hp:sets <+: sets'):TCell M sets' s c z:=by
 rcases h with h | ⟨h1,id,h2,h3⟩
 ·exact .inl h
 ·exact .inr ⟨h1,id,h2,at_prefix hp h3⟩
structure RowOk (M:PM) (kinds:List Nat) (sets:List PSet) (s:PSet) (r:List Int):Prop where
 len:r.length=kinds.length
 cell:∀ (k c:Nat),kinds[k]?=some c → ∃ z:Int,r[k]?=some z∧TCell M sets s c z
structure TabOk (M:PM) (kinds:List Nat) (sets:List PSet) (rows:List (List Int)):Prop where
 first:sets[0]?=some beginSet
 nodup:sets.Nodup
 reach:∀ s∈sets,Met2 M s
 le:rows.length≤sets.length
 row:∀ (j:Nat) (r:List Int) (s:PSet),rows[j]?=some r→sets[j]?=some s→RowOk M kinds sets s r
theorem TabOk.start (M:PM) (kinds:List Nat):TabOk M kinds [beginSet] [] where
 first:=rfl
 nodup:=by simp
 reach:=fun s h=>by simp at h; subst h; exact .start
 le:=by simp
 row:=fun j r s h=>by simp at h
theorem TabOk.push {M:PM} {kinds:List Nat} {sets:List PSet} {rows:List (List Int)} (h:TabOk M kinds sets rows) {s:PSet} (hs:s ∉ sets) (hr:Met2 M s):TabOk M kinds (sets++[s]) rows where
 first:=at_prefix (List.prefix_append _ _) h.first
 nodup:=by
  rw [List.nodup_append]
  exact ⟨h.nodup,by simp,fun a ha b hb e=>by simp at hb; subst hb; subst e; exact hs ha⟩
 reach:=fun t ht=>by
  rcases List.mem_append.1 ht with ht | ht
  ·exact h.reach t ht
  ·simp at ht; subst ht; exact hr
 le:=by have:=h.le; simp; omega
 row:=fun j r t hj ht=>by
  have hl:=(List.getElem?_eq_some_iff.1 hj).1
  have:=h.le
  have ht':sets[j]?=some t:=by rw [List.getElem?_append_left (by omega)] at ht; exact ht
  have:=h.row j r t hj ht'
  exact ⟨this.len,fun k c hk=>by
   obtain ⟨z,h1,h2⟩:=this.cell k c hk
   exact ⟨z,h1,h2.mono (List.prefix_append _ _)⟩⟩
theorem TabOk.row_done {M:PM} {kinds:List Nat} {sets:List PSet} {rows:List (List Int)} (h:TabOk M kinds sets rows) {s:PSet} {r:List Int} (hs:sets[rows.length]?=some s) (hr:RowOk M kinds sets s r):TabOk M kinds sets (rows++[r]) where
 first:=h.first
 nodup:=h.nodup
 reach:=h.reach
 le:=by have:=(List.getElem?_eq_some_iff.1 hs).1; simp; omega
 row:=fun j r' t hj ht=>by
  by_cases hl:j < rows.length
  ·rw [List.getElem?_append_left hl] at hj
   exact h.row j r' t hj ht
  ·have:=(List.getElem?_eq_some_iff.1 hj).1
   simp at this
   obtain rfl:j=rows.length:=by omega
   rw [List.getElem?_concat_length] at hj
   rw [hs] at ht
   cases hj
   cases ht
   exact hr
theorem TabOk.all {M:PM} {sets:List PSet} {rows:List (List Int)} (h:TabOk M M.kinds sets rows) (hall:rows.length=sets.length) {s:PSet} (hs:Met2 M s):s∈sets:=by
 induction hs with
 | start=>exact List.mem_of_getElem? h.first
 | step s c _ hc hz ih =>
  obtain ⟨j,hj⟩:=List.mem_iff_getElem?.1 ih
  have hl:=(List.getElem?_eq_some_iff.1 hj).1
  obtain ⟨r,hr⟩:∃ r,rows[j]?=some r:=⟨_,List.getElem?_eq_getElem (by omega)⟩
  have hrow:=h.row j r s hr hj
  obtain ⟨k,hk,_,hat⟩:=kinds_has M c hc
  obtain ⟨i,hi⟩:=List.mem_iff_getElem?.1 hk
  obtain ⟨z,_,hcell⟩:=hrow.cell i k hi
  rw [← step_like M s hat] at hz ⊢
  rcases hcell with h1 | ⟨_,id,_,h3⟩
  ·exact absurd h1.1 hz
  ·exact List.mem_of_getElem? h3
/-! ### All places at a byte lie below 128. -/
def PM.small (M:PM):Prop:=∀ s∈M.at',s.under M.n
theorem PM.small_link {M:PM} (h:M.small) (l:List Nat) (t:PSet):(M.link l t).small:=by
 have e:(M.link l t).at'=M.at':=by
  unfold PM.link
  induction l generalizing M with
  | nil=>rfl
  | cons k l ih=>rw [List.foldl_cons,ih (by exact h)]; rfl
 unfold PM.small
 rw [e,PM.link_n]
 exact h
theorem small_part (e:Ast):∀ (M:PM),M.ok→M.n+e.count≤128→M.small→(PM.part e M).1.small:=by
 induction e with
 | empty=>exact fun M _ _ h=>h
 | huge=>exact fun M _ _ h=>h
 | one s =>
  intro M hM hn h t ht
  have hn':M.n+1≤128:=hn
  obtain ⟨q,hq,rfl⟩:=List.mem_map.1 ht
  have hm:q.1∈M.at':=by
   obtain ⟨h1,h2,h3⟩:=List.mem_zipIdx hq
   rw [h3]
   exact List.getElem_mem _
  show (if s.has q.2 then q.1.on M.n else q.1).under (M.n+1)
  split
  ·intro j hj
   rw [PSet.mem_elems] at hj
   have hj2:=hj.2
   rw [PSet.mem_on _ _ _ (by omega) hj.1,Bool.or_eq_true,decide_eq_true_iff] at hj2
   rcases hj2 with h1 | h1
   ·omega
   ·have:=h q.1 hm j ((PSet.mem_elems _ _).2 ⟨hj.1,h1⟩)
    omega
  ·exact (h q.1 hm).mono (by omega)
 | or a b iha ihb =>
  intro M hM hn h
  have hn':M.n+(a.count+b.count)≤128:=hn
  have ha:=part_ok a M hM (by omega)
  exact ihb _ ha.mach (by rw [ha.n]; omega) (iha M hM (by omega) h)
 | seq a b iha ihb =>
  intro M hM hn h
  have hn':M.n+(a.count+b.count)≤128:=hn
  have ha:=part_ok a M hM (by omega)
  exact PM.small_link (ihb _ ha.mach (by rw [ha.n]; omega) (iha M hM (by omega) h)) _ _
 | many a sm ih=>exact fun M hM hn h=>PM.small_link (ih M hM hn h) _ _
 | maybe a ih=>exact fun M hM hn h=>ih M hM hn h
theorem small_zero:PM.zero.small:=fun s hs=>by
 have h:=List.eq_of_mem_replicate (show s∈List.replicate 256 PSet.zero from hs)
 rw [h]
 exact PSet.under_zero _
theorem compile_fit (e:Ast) (hn:e.count≤128):(PM.compile e).fit:=by
 have h:=small_part e PM.zero PM.ok_zero (by show 0+e.count≤128; omega) small_zero
 have hk:=part_ok e PM.zero PM.ok_zero (by show 0+e.count≤128; omega)
 have hnn:(PM.part e PM.zero).1.n≤128:=by rw [hk.n]; show 0+e.count≤128; omega
 intro c
 show ((PM.part e PM.zero).1.at'.getD c PSet.zero).fits
 rw [List.getD_eq_getElem?_getD]
 cases hc:(PM.part e PM.zero).1.at'[c]? with
 | none=>exact (PSet.under_zero 0).fits (by omega)
 | some s=>exact (h s (List.mem_of_getElem? hc)).fits hnn
theorem compile_ok (e:Ast) (hn:e.count≤128):(PM.compile e).ok:=by
 have hk:=part_ok e PM.zero PM.ok_zero (by show 0+e.count≤128; omega)
 refine PM.ok_setLast (PM.ok_putFollow hk.mach _ hk.part.f) ?_
 split
 ·exact PSet.ok_on hk.part.l _
 ·exact hk.part.l
end Go.Proofs.Ts
namespace Go.Proofs.Ts
open Go Go.RowKit
def PM.reads (M:PM) (s:PSet):List UInt8→Bool
 | []=>M.ends s
 | c :: t=>if M.step s c.toNat=PSet.zero then false else M.reads (M.step s c.toNat) t
def PM.live (M:PM) (s:PSet):Prop:=∃ t,M.reads s t=true
def IsLeast (M:PM) (n:Nat):Prop:=∃ reps:List PSet,reps.length=n∧(∀ s∈reps,Met2 M s∧M.live s)∧reps.Pairwise (fun a b=>M.reads a≠M.reads b) ∧ ∀ s,Met2 M s→M.live s → ∃ r∈reps,M.reads s=M.reads r
def goes (rows:List (List Int)) (i k:Nat):Option Nat :=
 match rows[i]? with
 | none=>none
 | some r=>match r[k]? with
  | none=>none
  | some z=>if 0≤z then some z.toNat else none
theorem goes_some {M:PM} {sets:List PSet} {rows:List (List Int)} {i k c:Nat} {s:PSet} (h:TabOk M M.kinds sets rows) (hall:rows.length=sets.length) (hs:sets[i]?=some s) (hk:M.kinds[k]?=some c) :
  (M.step s c=PSet.zero∧goes rows i k=none)∨(M.step s c≠PSet.zero ∧ ∃ j,goes rows i k=some j∧sets[j]?=some (M.step s c)):=by
 have hl:=(List.getElem?_eq_some_iff.1 hs).1
 obtain ⟨r,hr⟩:∃ r,rows[i]?=some r:=⟨_,List.getElem?_eq_getElem (by omega)⟩
 obtain ⟨z,hz,hc⟩:=(h.row i r s hr hs).cell k c hk
 unfold goes
 rw [hr]
 simp only [hz]
 rcases hc with ⟨h1,rfl⟩ | ⟨h1,id,rfl,h3⟩
 ·exact .inl ⟨h1,by decide⟩
 ·refine .inr ⟨h1,id,?_,h3⟩
  rw [if_pos (by omega)]
  simp
theorem byte_kind (M:PM) (c:UInt8):∃ (k d:Nat),M.kinds[k]?=some d ∧ ∀ s,M.step s c.toNat=M.step s d:=by
 obtain ⟨d,hd,_,hat⟩:=kinds_has M c.toNat c.toNat_lt
 obtain ⟨k,hk⟩:=List.mem_iff_getElem?.1 hd
 exact ⟨k,d,hk,fun s=>(step_like M s hat).symm⟩
inductive Ends2 (M:PM) (sets:List PSet) (rows:List (List Int)):Nat→Prop
 | here (i:Nat) (s:PSet):sets[i]?=some s→M.ends s=true→Ends2 M sets rows i
 | on (i k j:Nat):goes rows i k=some j→Ends2 M sets rows j→Ends2 M sets rows i
theorem live_iff {M:PM} {sets:List PSet} {rows:List (List Int)} (h:TabOk M M.kinds sets rows) (hall:rows.length=sets.length) {i:Nat} {s:PSet} (hs:sets[i]?=some s):Ends2 M sets rows i↔M.live s:=by
 constructor
 ·intro he
  induction he generalizing s with
  | here i s' hs' hen =>
   rw [hs] at hs'
   cases hs'
   exact ⟨[],hen⟩
  | on i k j hg _ ih =>
   have hkl:∃ c,M.kinds[k]?=some c:=by
    unfold goes at hg
    split at hg
    ·cases hg
    ·rename_i r hr
     split at hg
     ·cases hg
     ·rename_i z hz
      have:=(List.getElem?_eq_some_iff.1 hz).1
      rw [(h.row i r s hr hs).len] at this
      exact ⟨_,List.getElem?_eq_getElem this⟩
   obtain ⟨c,hc⟩:=hkl
   rcases goes_some h hall hs hc with ⟨_,h2⟩ | ⟨h1,j',h2,h3⟩
   ·rw [h2] at hg; cases hg
   ·rw [h2] at hg
    cases hg
    obtain ⟨t,ht⟩:=ih h3
    have hc256:c < 256:=kinds_lt M 256 (List.mem_of_getElem? hc)
    have e:(UInt8.ofNat c).toNat=c:=by simp; omega
    refine ⟨UInt8.ofNat c :: t,?_⟩
    unfold PM.reads
    rw [e,if_neg h1]
    exact ht
 ·rintro ⟨t,ht⟩
  induction t generalizing i s with
  | nil=>exact .here i s hs ht
  | cons c t ih =>
   unfold PM.reads at ht
   split at ht
   ·cases ht
   ·rename_i hz
    obtain ⟨k,d,hk,hd⟩:=byte_kind M c
    rw [hd] at ht hz
    rcases goes_some h hall hs hk with ⟨h1,_⟩ | ⟨_,j,h2,h3⟩
    ·exact absurd h1 hz
    ·exact .on i k j h2 (ih h3 ht)
def blk (b:List Nat) (i:Nat):Nat:=b.getD i 0
def dest (rows:List (List Int)) (b:List Nat) (i k:Nat):Nat :=
 match goes rows i k with
 | none=>0
 | some j=>blk b j
structure BlkOk (M:PM) (sets:List PSet) (rows:List (List Int)) (b:List Nat):Prop where
 len:b.length=sets.length
 live:∀ i,i < sets.length→(blk b i≠0↔Ends2 M sets rows i)
 ends:∀ i j s t,sets[i]?=some s→sets[j]?=some t→blk b i≠0→blk b i=blk b j→M.ends s=M.ends t
 same:∀ i j s t,sets[i]?=some s→sets[j]?=some t→blk b i≠0→M.reads s=M.reads t→blk b i=blk b j
structure Splits (rows:List (List Int)) (n m:Nat) (b b':List Nat):Prop where
 len:b'.length=b.length
 zero:∀ i,i < b.length→(blk b' i≠0↔blk b i≠0)
 iff:∀ i j,i < b.length→j < b.length→blk b i≠0→blk b j≠0→(blk b' i=blk b' j↔blk b i=blk b j ∧ ∀ k,k < m→dest rows b i k=dest rows b j k)
/-! ### Rounds. -/
theorem nodup_len:∀ (D L:List Nat),D.Nodup→(∀ x∈D,x∈L)→D.length≤L.length
 | [],L,_,_=>Nat.zero_le _
 | a :: D,L,hn,h=>by
  have ha:=h a List.mem_cons_self
  have hn':=List.nodup_cons.1 hn
  have ih:=nodup_len D (L.erase a) hn'.2 fun x hx=>by
   have hne:x≠a:=fun e=>hn'.1 (e ▸ hx)
   exact (List.mem_erase_of_ne hne).2 (h x (List.mem_cons_of_mem _ hx))
  rw [List.length_erase_of_mem ha] at ih
  have:=List.length_pos_of_mem ha
  simp only [List.length_cons]
  omega
def BCnt (b:List Nat) (n:Nat):Prop:=∃ l:List Nat,l.Nodup∧(∀ x,x∈l ↔ ∃ i,i < b.length∧blk b i=x∧x≠0)∧l.length=n
section
variable {M:PM} {sets:List PSet} {rows:List (List Int)} {b b':List Nat} {n m:Nat}
theorem coarse_len {l l':List Nat} (hS:Splits rows n m b b') (hl:l.Nodup) (h:∀ x,x∈l ↔ ∃ i,i < b.length∧blk b i=x∧x≠0) (h':∀ x,x∈l' ↔ ∃ i,i < b'.length∧blk b' i=x∧x≠0) :
  ∃ φ:Nat→Nat,(∀ i,i < b.length→blk b i≠0→φ (blk b' i)=blk b i) ∧ ∀ x∈l,x∈l'.map φ:=by
 have hφ:∃ φ:Nat→Nat,∀ i,i < b.length→blk b i≠0→φ (blk b' i)=blk b i:=by
  refine ⟨fun y=>match (List.range b.length).find? (fun i=>blk b' i == y && blk b i != 0) with | some i=>blk b i | none=>0,fun i hi h0=>?_⟩
  have hf:((List.range b.length).find? (fun j=>blk b' j == blk b' i && blk b j != 0)).isSome:=by
   rw [List.find?_isSome]
   exact ⟨i,List.mem_range.2 hi,by simp [h0]⟩
  obtain ⟨j,hj⟩:=Option.isSome_iff_exists.1 hf
  simp only [hj]
  have hp:=List.find?_some hj
  have hm:=List.mem_range.1 (List.mem_of_find?_eq_some hj)
  simp only [Bool.and_eq_true,beq_iff_eq,bne_iff_ne] at hp
  exact ((hS.iff j i hm hi hp.2 h0).1 hp.1).1
 obtain ⟨φ,hφ⟩:=hφ
 refine ⟨φ,hφ,fun x hx=>?_⟩
 obtain ⟨i,hi,rfl,h0⟩:=(h x).1 hx
 exact List.mem_map.2 ⟨blk b' i,(h' _).2 ⟨i,by rw [hS.len]; exact hi,rfl,(hS.zero i hi).2 h0⟩,hφ i hi h0⟩
theorem Splits.mono (hS:Splits rows n m b b') {c c':Nat} (h:BCnt b c) (h':BCnt b' c'):c≤c':=by
 obtain ⟨l,hn,hl,rfl⟩:=h
 obtain ⟨l',hn',hl',rfl⟩:=h'
 obtain ⟨φ,_,hsub⟩:=coarse_len hS hn hl hl'
 have:=nodup_len l (l'.map φ) hn hsub
 simpa using this
theorem Splits.stable (hS:Splits rows n m b b') {c:Nat} (h:BCnt b c) (h':BCnt b' c) {i j:Nat} (hi:i < b.length) (hj:j < b.length) (h0:blk b i≠0) (he:blk b i=blk b j):blk b' i=blk b' j:=by
 obtain ⟨l,hn,hl,rfl⟩:=h
 obtain ⟨l',hn',hl',hlen⟩:=h'
 obtain ⟨φ,hφ,hsub⟩:=coarse_len hS hn hl hl'
 have hj0:blk b j≠0:=he ▸ h0
 apply Classical.byContradiction
 intro hne
 have hi':blk b' i∈l':=(hl' _).2 ⟨i,by rw [hS.len]; exact hi,rfl,(hS.zero i hi).2 h0⟩
 have hj':blk b' j∈l':=(hl' _).2 ⟨j,by rw [hS.len]; exact hj,rfl,(hS.zero j hj).2 hj0⟩
 have hlt:=nodup_len l ((l'.erase (blk b' i)).map φ) hn fun x hx=>by
  obtain ⟨y,hy,rfl⟩:=List.mem_map.1 (hsub x hx)
  by_cases e:y=blk b' i
  ·subst e
   rw [hφ i hi h0,he,← hφ j hj hj0]
   exact List.mem_map.2 ⟨blk b' j,(List.mem_erase_of_ne (Ne.symm hne)).2 hj',rfl⟩
  ·exact List.mem_map.2 ⟨y,(List.mem_erase_of_ne e).2 hy,rfl⟩
 rw [List.length_map,List.length_erase_of_mem hi'] at hlt
 have:=List.length_pos_of_mem hi'
 omega
theorem blk_lt {b:List Nat} {i:Nat} (h:blk b i≠0):i < b.length:=by
 rcases Nat.lt_or_ge i b.length with h' | h'
 ·exact h'
 ·unfold blk at h
  rw [List.getD_eq_getElem?_getD,List.getElem?_eq_none h'] at h
  exact absurd rfl h
theorem reads_step {s:PSet} (c:UInt8) (t:List UInt8):M.reads s (c :: t)=if M.step s c.toNat=PSet.zero then false else M.reads (M.step s c.toNat) t:=rfl
theorem same_step {s t:PSet} {c:UInt8} (h:M.reads s=M.reads t) (hs:M.step s c.toNat≠PSet.zero) (ht:M.step t c.toNat≠PSet.zero):M.reads (M.step s c.toNat)=M.reads (M.step t c.toNat):=by
 funext x
 have:=congrFun h (c :: x)
 rw [reads_step,reads_step,if_neg hs,if_neg ht] at this
 exact this
theorem dead_step {s t:PSet} {c:UInt8} (h:M.reads s=M.reads t) (hs:M.step s c.toNat=PSet.zero) (ht:M.step t c.toNat≠PSet.zero):¬ M.live (M.step t c.toNat):=by
 rintro ⟨x,hx⟩
 have:=congrFun h (c :: x)
 rw [reads_step,reads_step,if_pos hs,if_neg ht,hx] at this
 cases this
theorem kind_byte {k d:Nat} (hk:M.kinds[k]?=some d):∃ c:UInt8,c.toNat=d:=⟨UInt8.ofNat d,by
 have:=kinds_lt M 256 (List.mem_of_getElem? hk)
 simp; omega⟩
theorem BlkOk.dest_same (h:TabOk M M.kinds sets rows) (hall:rows.length=sets.length) (hb:BlkOk M sets rows b) {i j:Nat} {s t:PSet} (hs:sets[i]?=some s) (ht:sets[j]?=some t) (he:M.reads s=M.reads t) {k:Nat} (hk:k < M.kinds.length):dest rows b i k=dest rows b j k:=by
 obtain ⟨d,hd⟩:∃ d,M.kinds[k]?=some d:=⟨_,List.getElem?_eq_getElem hk⟩
 obtain ⟨c,hc⟩:=kind_byte hd
 have dead:∀ (s t:PSet) (i j x:Nat),sets[i]?=some s→sets[j]?=some t→M.reads s=M.reads t→M.step s c.toNat=PSet.zero→M.step t c.toNat≠PSet.zero→sets[x]?=some (M.step t c.toNat)→blk b x=0:=fun s t i j x _ _ he' hz hz' hx=>by
  apply Classical.byContradiction
  intro h0
  exact dead_step he' hz hz' ((live_iff h hall hx).1 ((hb.live x (List.getElem?_eq_some_iff.1 hx).1).1 h0))
 unfold dest
 rcases goes_some h hall hs hd with ⟨a1,a2⟩ | ⟨a1,x,a2,a3⟩ <;> rcases goes_some h hall ht hd with ⟨b1,b2⟩ | ⟨b1,y,b2,b3⟩
 ·rw [a2,b2]
 ·rw [a2,b2]
  rw [← hc] at a1 b1 b3
  exact (dead s t i j y hs ht he a1 b1 b3).symm
 ·rw [a2,b2]
  rw [← hc] at a1 b1 a3
  exact dead t s j i x ht hs he.symm b1 a1 a3
 ·rw [a2,b2]
  rw [← hc] at a1 b1 a3 b3
  have hsame:=same_step he a1 b1
  show blk b x=blk b y
  by_cases h0:blk b x=0
  ·apply Classical.byContradiction
   intro hne
   have hy0:blk b y≠0:=fun e=>hne (h0.trans e.symm)
   exact hne (hb.same y x _ _ b3 a3 hy0 hsame.symm).symm
  ·exact hb.same x y _ _ a3 b3 h0 hsame
theorem BlkOk.round (h:TabOk M M.kinds sets rows) (hall:rows.length=sets.length) (hb:BlkOk M sets rows b) (hS:Splits rows n M.kinds.length b b'):BlkOk M sets rows b' where
 len:=hS.len.trans hb.len
 live:=fun i hi=>by rw [hS.zero i (by rw [hb.len]; exact hi)]; exact hb.live i hi
 ends:=fun i j s t hs ht h0 he=>by
  have hi:i < b.length:=by rw [hb.len]; exact (List.getElem?_eq_some_iff.1 hs).1
  have hj:j < b.length:=by rw [hb.len]; exact (List.getElem?_eq_some_iff.1 ht).1
  have h0':=(hS.zero i hi).1 h0
  have hj0:=(hS.zero j hj).1 (he ▸ h0)
  exact hb.ends i j s t hs ht h0' ((hS.iff i j hi hj h0' hj0).1 he).1
 same:=fun i j s t hs ht h0 he=>by
  have hi:i < b.length:=by rw [hb.len]; exact (List.getElem?_eq_some_iff.1 hs).1
  have hj:j < b.length:=by rw [hb.len]; exact (List.getElem?_eq_some_iff.1 ht).1
  have h0':=(hS.zero i hi).1 h0
  have hsame:=hb.same i j s t hs ht h0' he
  exact (hS.iff i j hi hj h0' (hsame ▸ h0')).2 ⟨hsame,fun k hk=>hb.dest_same h hall hs ht he hk⟩
theorem BlkOk.fine (h:TabOk M M.kinds sets rows) (hall:rows.length=sets.length) (hb:BlkOk M sets rows b) (hst:∀ i j,i < b.length→j < b.length→blk b i≠0→blk b i=blk b j → ∀ k,k < M.kinds.length→dest rows b i k=dest rows b j k) :
  ∀ (x:List UInt8) (i j:Nat) (s t:PSet),sets[i]?=some s→sets[j]?=some t→blk b i≠0→blk b i=blk b j→M.reads s x=M.reads t x
 | [],i,j,s,t,hs,ht,h0,he=>hb.ends i j s t hs ht h0 he
 | c :: x,i,j,s,t,hs,ht,h0,he=>by
  have hi:=blk_lt h0
  have hj:=blk_lt (he ▸ h0)
  obtain ⟨k,d,hk,hd⟩:=byte_kind M c
  have hdest:=hst i j hi hj h0 he k (List.getElem?_eq_some_iff.1 hk).1
  rw [reads_step,reads_step,hd s,hd t]
  have dead:∀ y u,sets[y]?=some u→blk b y=0→M.reads u x=false:=fun y u hy h0'=>by
   cases hr:M.reads u x with
   | false=>rfl
   | true=>exact absurd h0' ((hb.live y (List.getElem?_eq_some_iff.1 hy).1).2 ((live_iff h hall hy).2 ⟨x,hr⟩))
  unfold dest at hdest
  rcases goes_some h hall hs hk with ⟨a1,a2⟩ | ⟨a1,y,a2,a3⟩ <;> rcases goes_some h hall ht hk with ⟨b1,b2⟩ | ⟨b1,z,b2,b3⟩
  ·rw [if_pos a1,if_pos b1]
  ·rw [a2,b2] at hdest
   rw [if_pos a1,if_neg b1]
   exact (dead z _ b3 hdest.symm).symm
  ·rw [a2,b2] at hdest
   rw [if_neg a1,if_pos b1]
   exact dead y _ a3 hdest
  ·rw [a2,b2] at hdest
   rw [if_neg a1,if_neg b1]
   have hd':blk b y=blk b z:=hdest
   by_cases hy0:blk b y=0
   ·rw [dead y _ a3 hy0,dead z _ b3 (hd' ▸ hy0)]
   ·exact BlkOk.fine h hall hb hst x y z _ _ a3 b3 hy0 hd'
theorem BlkOk.least (h:TabOk M M.kinds sets rows) (hall:rows.length=sets.length) (hb:BlkOk M sets rows b) (hS:Splits rows n M.kinds.length b b') {c:Nat} (h1:BCnt b c) (h2:BCnt b' c):IsLeast M c:=by
 have hfine:∀ i j s t,sets[i]?=some s→sets[j]?=some t→blk b i≠0→blk b i=blk b j→M.reads s=M.reads t:=fun i j s t hs ht h0 he=>by
  funext x
  refine BlkOk.fine h hall hb (fun i j hi hj h0 he=>?_) x i j s t hs ht h0 he
  exact ((hS.iff i j hi hj h0 (he ▸ h0)).1 (hS.stable h1 h2 hi hj h0 he)).2
 obtain ⟨l,hn,hl,rfl⟩:=h1
 have hrep:∀ x∈l,∃ s,∃ i,sets[i]?=some s∧blk b i=x∧x≠0:=fun x hx=>by
  obtain ⟨i,hi,h3,h4⟩:=(hl x).1 hx
  exact ⟨_,i,List.getElem?_eq_getElem (by rw [← hb.len]; exact hi),h3,h4⟩
 have hmk:∀ l':List Nat,l'.Nodup→(∀ x∈l',∃ s,∃ i,sets[i]?=some s∧blk b i=x∧x≠0) →
   ∃ reps:List PSet,reps.length=l'.length∧(∀ s∈reps,∃ x∈l',∃ i,sets[i]?=some s∧blk b i=x∧x≠0)∧reps.Pairwise (fun a c=>M.reads a≠M.reads c) ∧ ∀ x∈l',∃ s∈reps,∃ i,sets[i]?=some s∧blk b i=x:=by
  intro l'
  induction l' with
  | nil=>exact fun _ _=>⟨[],rfl,fun s hs=>(by cases hs),.nil,fun x hx=>(by cases hx)⟩
  | cons a l' ih =>
   intro hn' hr
   obtain ⟨hna,hn''⟩:=List.nodup_cons.1 hn'
   obtain ⟨reps,r1,r2,r3,r4⟩:=ih hn'' fun x hx=>hr x (List.mem_cons_of_mem _ hx)
   obtain ⟨s,i,hs,hi,h0⟩:=hr a List.mem_cons_self
   refine ⟨s :: reps,by simp [r1],fun t ht=>?_,.cons (fun t ht e=>?_) r3,fun x hx=>?_⟩
   ·rcases List.mem_cons.1 ht with rfl | ht
    ·exact ⟨a,List.mem_cons_self,i,hs,hi,h0⟩
    ·obtain ⟨x,hx,h5⟩:=r2 t ht
     exact ⟨x,List.mem_cons_of_mem _ hx,h5⟩
   ·obtain ⟨x,hx,j,hj,hj',hx0⟩:=r2 t ht
    have:=hb.same i j s t hs hj (by rw [hi]; exact h0) e
    rw [hi,hj'] at this
    exact hna (this ▸ hx)
   ·rcases List.mem_cons.1 hx with rfl | hx
    ·exact ⟨s,List.mem_cons_self,i,hs,hi⟩
    ·obtain ⟨t,ht,h5⟩:=r4 x hx
     exact ⟨t,List.mem_cons_of_mem _ ht,h5⟩
 obtain ⟨reps,r1,r2,r3,r4⟩:=hmk l hn hrep
 refine ⟨reps,r1,fun s hs=>?_,r3,fun s hm hlv=>?_⟩
 ·obtain ⟨x,hx,i,hi,hix,h0⟩:=r2 s hs
  exact ⟨h.reach s (List.mem_of_getElem? hi),(live_iff h hall hi).1 ((hb.live i (List.getElem?_eq_some_iff.1 hi).1).1 (by rw [hix]; exact h0))⟩
 ·obtain ⟨i,hi⟩:=List.mem_iff_getElem?.1 (h.all hall hm)
  have hil:=(List.getElem?_eq_some_iff.1 hi).1
  have h0:=(hb.live i hil).2 ((live_iff h hall hi).2 hlv)
  obtain ⟨r,hr,j,hj,hjx⟩:=r4 (blk b i) ((hl _).2 ⟨i,by rw [hb.len]; exact hil,rfl,h0⟩)
  exact ⟨r,hr,hfine i j s r hi hj h0 hjx.symm⟩
end
end Go.Proofs.Ts
namespace Go.Proofs.Ts
open Go Go.RowKit
theorem set_law:KeyLaw Tryz.prog 272 PSet.val (fun _ _=>True) where
 now:=fun d hd a b=>by
  left
  rw [Tryz.underlying272] at hd
  cases hd
  rfl
 und:=⟨_,Tryz.underlying272⟩
 eq:=fun w a b _ _=>by
  have h:=set_equalIn 9998 a b w
  unfold Op.equal
  simpa [Op.maxDepth] using h
 chk:=fun w e a _=>by
  unfold PSet.val PSet.cells
  rw [show (10000:Nat)=9999+1 from rfl]
  unfold Instr.checkKey
  have hia:∀ W,(isAgg 249).run Tryz.prog W = .ok false W:=fun W=>by kernel_rfl
  have hn:∀ W,(Go.sizeOf 249).run Tryz.prog W = .ok 1 W:=fun W=>by kernel_rfl
  simp only [Sem.run_bind,run_underlying Tryz.underlying272,Result.andThen_ok,hn]
  simp [go_sem,show List.range' 0 3=[0,1,2] from rfl,Sem.run_bind,hia,hn,Go.part,checkKey_zero Tryz.prog e 9998 249 _ _ Tryz.underlying249 rfl]
 same:=fun a=>by
  unfold PSet.val PSet.cells
  simp [Instr.sameBits]
theorem int_law:KeyLaw Tryz.prog 3 (fun n:Nat=>Value.int .i64 n) (fun _ _=>True) where
 now:=fun d hd a b=>by
  right
  rw [Tryz.underlying3] at hd
  cases hd
  show (if IntKind.i64=IntKind.i64 then some (((a:Int)) == (b:Int)) else none)=_
  rw [if_pos rfl]
  congr 1
  rw [Bool.eq_iff_iff]
  simp
  omega
 und:=⟨_,Tryz.underlying3⟩
 eq:=fun w a b _ _=>by
  have e:((a:Int) == (b:Int))=decide (a=b):=by
   rw [Bool.eq_iff_iff,beq_iff_eq,decide_eq_true_iff]
   omega
  have:=run_equalIn_int (P:=Tryz.prog) (w:=w) 9999 3 .i64 .i64 a b Tryz.underlying3
  rw [e] at this
  unfold Op.equal
  simpa [Op.maxDepth] using this
 chk:=fun w e a _=>checkKey_zero _ e 9999 _ _ w Tryz.underlying3 rfl
 same:=fun a=>by simp [Instr.sameBits]
def signV (s:Nat × Nat):Value := .agg #[.int .i64 s.1,.int .i64 s.2]
theorem sign_law:KeyLaw Tryz.prog 291 signV (fun _ _=>True) where
 now:=fun d hd a b=>by
  left
  rw [Tryz.underlying291] at hd
  cases hd
  rfl
 und:=⟨_,Tryz.underlying291⟩
 eq:=fun w a b _ _=>by
  obtain ⟨f,s⟩:=a
  obtain ⟨g,t⟩:=b
  unfold signV
  simp [go_sem,Op.equal,Op.maxDepth]
  by_cases h1:f=g <;> by_cases h2:s=t <;> simp [h1,h2] <;> omega
 chk:=fun w e a _=>by
  unfold signV
  rw [show (10000:Nat)=9999+1 from rfl]
  unfold Instr.checkKey
  simp [go_sem,checkKey_zero Tryz.prog e 9998 3 _ _ Tryz.underlying3 rfl]
 same:=fun a=>by
  unfold signV
  simp [Instr.sameBits]
end Go.Proofs.Ts
