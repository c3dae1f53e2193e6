/- Lemmas towards the statement Simple of termsearch: walks of the program's functions and plain laws on lists (TlPlainP, TlKeep, TlLooks, TlJoin, TlMarks, TlMarksB, TlTurn, TlBuilt, TlBuiltW). Conditions: those that each theorem names. -/
import Derived.Test.YtffjomnnkilhgaaGreatDoorSimplePL
import Derived.Deep.DeepMust
set_option linter.unusedVariables false
set_option linter.unusedSimpArgs false
set_option linter.unusedSectionVars false
namespace Go.Proofs.Tl
open Go Go.RowKit Go.Proofs.Ts
def ErrAt (w:World):Prop:=ErrIn w ∧ ∃ cs t r,w.heap[0]?=some (.cells cs t r)∧t≠168
theorem ErrAt.kept {w w':World} (h:ErrAt w) (hb:w'.heap[0]?=w.heap[0]?):ErrAt w':=by
 obtain ⟨h1,cs,t,r,h2,h3⟩:=h
 exact ⟨(World.cell?_of_block (a:=⟨0,0,none⟩) hb).trans h1,cs,t,r,hb.trans h2,h3⟩
theorem ErrAt.below {w w':World} (h:ErrAt w) (hb:Below w.heap.size w w'):ErrAt w':=by
 obtain ⟨_,cs,t,r,h2,_⟩:=id h
 exact h.kept (hb.block _ (lt_of_heap h2))
theorem ErrAt.cells {w w':World} (h:ErrAt w) (hc:Cells w w'):ErrAt w':=by
 obtain ⟨_,cs,t,r,h2,h3⟩:=id h
 exact h.kept (hc.2 _ _ _ _ h2 h3)
set_option maxRecDepth 100000 in
set_option maxHeartbeats 4000000 in
theorem matchesP_law (B:Nat) (q:Asked) (st most:Int) (r:PAns) (sb:Nat) (D:List (List (List UInt8))) (kn:Value) (db:Nat) (R:Nat→Prop) (Λ:Nat→List Word) (ρ:Nat→Nat) (Dd:List DS) (pv:Value) (ps:List Value) (w:World)
  (hB:B≤w.heap.size) (hsb:B≤sb) (hseg:SegAt w sb D kn db R Λ ρ Dd pv ps) (hkn:KnownIs B w kn) (hst:q.states=st) (hp:1≤st∧st≤400→ProgIs w q r) (hD:D.length≤1000) :
  Calls Tryz.prog 55 #[ptrV sb,askV q,.int .i64 st,.int .i64 most] w fun e w'=>∃ kn',Looked B w w' sb D kn kn' db R Λ ρ Dd pv ps ∧
   match limitP st most r (Λ 0) with
   | .err k=>∃ ev,e = .returned (.tuple #[.slice none 0 0,ev])∧ErrIs w' ev k
   | .ok acc=>∃ ov,e = .returned (.tuple #[ov,.nilIface])∧w'.ownsRow 0 103 2 ov (hits acc (Λ 0) 0).length (foundCells (matchesOf D (hits acc (Λ 0) 0)))∧((hits acc (Λ 0) 0).length=0→ov = .slice none 0 0):=by
 have hmf:∀ (fn:Fn) (first cap:Array Value) (w:World),(Instr.makeFunc fn first cap).run Tryz.prog w = .ok (.func fn first cap) w:=fun _ _ _ _=>rfl
 have hal:Below w.heap.size w (w.alloc (.cells #[.int .i64 q.kind,.string ⟨q.a.toArray⟩,.string ⟨q.b.toArray⟩,.int .i64 q.n] 34)):=(Below.refl _ w).alloc (Nat.le_refl _) _
 have hterms:=termsP_law B q st most r sb D kn db R Λ ρ Dd pv ps _ (Nat.le_trans hB hal.size) hsb (hseg.below hal) (hkn.below hal) hst (fun h=>(hp h).kept (Cells.below hal))
 have HAL:=Lib.hid hal
 have HSEG:=Lib.hid hseg
 clear hal hseg hkn hp
 unfold ptrV askV strV at *
 cases hlim:limitP st most r (Λ 0) with
 | err k =>
  rw [hlim] at hterms
  have HT:=Lib.hid hterms
  clear hterms hlim
  go_enter Tryz.func55,Tryz.ntmps55
  go_upto_region 2 with (go_at_call 83; refine HT.out.mono ?_; rintro e w3 ⟨kn',hlo,ev,rfl,hev⟩; obtain ⟨eT,ew,hevv⟩:=hev.some; subst hevv; have HLO:=Lib.hid hlo; have HEV:=Lib.hid hev; clear hlo hev)
  have hh:hits (fun _=>false) (Λ 0) 0=[]:=by unfold hits; simp
  have ht:=HLO.out.seg.terms (acc:=fun _=>false) (fv := .slice none 0 0) (by rw [hh]; exact World.ownsRow_nil _ _ _ _)
  rw [hh] at ht
  have hun:=each_any D sb pv (.slice none 0 0) [] w3 ht hD
  unfold ptrV at hun
  have HUN:=Lib.hid hun
  clear hun hh ht
  go_wp2_with (go_at_call 86; refine HUN.out.mono ?_; rintro e w4 ⟨ov,rfl,hb4,hrow4,hnil4⟩; have hov:=hnil4 rfl; subst hov; have HB4:=Lib.hid hb4; clear hb4 hrow4 hnil4)
  go_ret2
  exact ⟨kn',(HLO.out.front HAL.out hB).back HB4.out hB,_,rfl,HEV.out.kept fun k cs t r hk _=>HB4.out.block k (lt_of_heap hk)⟩
 | ok acc =>
  rw [hlim] at hterms
  have HT:=Lib.hid hterms
  clear hterms hlim
  go_enter Tryz.func55,Tryz.ntmps55
  go_upto_region 2 with (go_at_call 83; refine HT.out.mono ?_; rintro e w3 ⟨kn',hlo,fv,rfl,hrow⟩; have HLO:=Lib.hid hlo; have HROW:=Lib.hid hrow; clear hlo hrow)
  have hun:=each_any D sb pv fv _ w3 (HLO.out.seg.terms HROW.out) hD
  unfold ptrV at hun
  have HUN:=Lib.hid hun
  clear hun
  go_wp2_with (go_at_call 86; refine HUN.out.mono ?_; rintro e w4 ⟨ov,rfl,hb4,hrow4,hnil4⟩; have HB4:=Lib.hid hb4; have HR4:=Lib.hid (And.intro hrow4 hnil4); clear hb4 hrow4 hnil4)
  go_ret2
  exact ⟨kn',(HLO.out.front HAL.out hB).back HB4.out hB,_,rfl,HR4.out⟩
set_option maxRecDepth 100000 in
set_option maxHeartbeats 4000000 in
theorem plainSearch_law (B:Nat) (q:Asked) (st most:Int) (r:PAns) (sb:Nat) (D:List (List (List UInt8))) (kn:Value) (db:Nat) (R:Nat→Prop) (Λ:Nat→List Word) (ρ:Nat→Nat) (Dd:List DS) (pv:Value) (ps:List Value) (w:World)
  (hB:B≤w.heap.size) (hsb:B≤sb) (hseg:SegAt w sb D kn db R Λ ρ Dd pv ps) (hkn:KnownIs B w kn) (hst:q.states=st) (hp:1≤st∧st≤400→ProgIs w q r) (hD:D.length≤1000) (hg:ErrAt w) :
  Calls Tryz.prog 24 #[ptrV sb,askV q,.int .i64 st,.int .i64 most] w fun e w'=>∃ kn',Looked B w w' sb D kn kn' db R Λ ρ Dd pv ps ∧
   match limitP st most r (Λ 0) with
   | .err k=>e = .returned (.tuple #[.slice none 0 0,.int .i64 k.num,.int .i64 k.place])
   | .ok acc=>∃ ov,e = .returned (.tuple #[ov,.int .i64 0,.int .i64 (-1)])∧NewRow 3 1 w w' ov (docsOf D acc).length ((docsOf D acc).map intV):=by
 have hal:Below w.heap.size w (w.alloc (.cells #[.int .i64 q.kind,.string ⟨q.a.toArray⟩,.string ⟨q.b.toArray⟩,.int .i64 q.n] 34)):=(Below.refl _ w).alloc (Nat.le_refl _) _
 have hs:=searchP_law B q st most r sb D kn db R Λ ρ Dd pv ps _ (Nat.le_trans hB hal.size) hsb (hseg.below hal) (hkn.below hal) hst (fun h=>(hp h).kept (Cells.below hal)) hD
 have HAL:=Lib.hid hal
 have HG:=Lib.hid (hg.below hal)
 clear hal hseg hkn hp hg
 unfold ptrV askV strV at *
 cases hlim:limitP st most r (Λ 0) with
 | err k =>
  rw [hlim] at hs
  have HT:=Lib.hid hs
  clear hs hlim
  go_enter Tryz.func24,Tryz.ntmps24
  go_upto_region 2 with (go_at_call 52; refine HT.out.mono ?_; rintro e w3 ⟨kn',hlo,ev,rfl,hev⟩; obtain ⟨eT,ew,hevv⟩:=hev.some; subst hevv; have HLO:=Lib.hid hlo; have HEV:=Lib.hid hev; clear hlo hev)
  have HTOLD:=Lib.hid (told_err HEV.out (HG.out.cells HLO.out.cells).1)
  generalize hkn:k.num=kn1 at *
  generalize hkp:k.place=kp1 at *
  go_wp2_with (go_at_call 40; refine HTOLD.out.mono ?_; rintro e w4 ⟨rfl,hb4⟩; have HB4:=Lib.hid hb4; clear hb4)
  go_ret3
  exact ⟨kn',(HLO.out.front HAL.out hB).back HB4.out hB,by rw [← hkn,← hkp]; rfl⟩
 | ok acc =>
  rw [hlim] at hs
  have HT:=Lib.hid hs
  clear hs hlim
  go_enter Tryz.func24,Tryz.ntmps24
  go_upto_region 2 with (go_at_call 52; refine HT.out.mono ?_; rintro e w3 ⟨kn',hlo,ov,rfl,hr⟩; have HLO:=Lib.hid hlo; have HR:=Lib.hid hr; clear hlo hr)
  go_wp2_with (go_at_call 40; refine (told_nil w3).mono ?_; rintro e w4 ⟨rfl,hb4⟩; have HB4:=Lib.hid hb4; clear hb4)
  go_ret3
  exact ⟨kn',(HLO.out.front HAL.out hB).back HB4.out hB,_,rfl,(HR.out.up HAL.out.size).below HB4.out⟩
set_option maxRecDepth 100000 in
set_option maxHeartbeats 4000000 in
theorem plainMatches_law (B:Nat) (q:Asked) (st most:Int) (r:PAns) (sb:Nat) (D:List (List (List UInt8))) (kn:Value) (db:Nat) (R:Nat→Prop) (Λ:Nat→List Word) (ρ:Nat→Nat) (Dd:List DS) (pv:Value) (ps:List Value) (w:World)
  (hB:B≤w.heap.size) (hsb:B≤sb) (hseg:SegAt w sb D kn db R Λ ρ Dd pv ps) (hkn:KnownIs B w kn) (hst:q.states=st) (hp:1≤st∧st≤400→ProgIs w q r) (hD:D.length≤1000) (hg:ErrAt w) :
  Calls Tryz.prog 27 #[ptrV sb,askV q,.int .i64 st,.int .i64 most] w fun e w'=>∃ kn',Looked B w w' sb D kn kn' db R Λ ρ Dd pv ps ∧
   match limitP st most r (Λ 0) with
   | .err k=>e = .returned (.tuple #[.slice none 0 0,.int .i64 k.num,.int .i64 k.place])
   | .ok acc=>∃ ov,e = .returned (.tuple #[ov,.int .i64 0,.int .i64 (-1)])∧w'.ownsRow 0 103 2 ov (hits acc (Λ 0) 0).length (foundCells (matchesOf D (hits acc (Λ 0) 0)))∧((hits acc (Λ 0) 0).length=0→ov = .slice none 0 0):=by
 have hal:Below w.heap.size w (w.alloc (.cells #[.int .i64 q.kind,.string ⟨q.a.toArray⟩,.string ⟨q.b.toArray⟩,.int .i64 q.n] 34)):=(Below.refl _ w).alloc (Nat.le_refl _) _
 have hs:=matchesP_law B q st most r sb D kn db R Λ ρ Dd pv ps _ (Nat.le_trans hB hal.size) hsb (hseg.below hal) (hkn.below hal) hst (fun h=>(hp h).kept (Cells.below hal)) hD
 have HAL:=Lib.hid hal
 have HG:=Lib.hid (hg.below hal)
 clear hal hseg hkn hp hg
 unfold ptrV askV strV at *
 cases hlim:limitP st most r (Λ 0) with
 | err k =>
  rw [hlim] at hs
  have HT:=Lib.hid hs
  clear hs hlim
  go_enter Tryz.func27,Tryz.ntmps27
  go_upto_region 2 with (go_at_call 55; refine HT.out.mono ?_; rintro e w3 ⟨kn',hlo,ev,rfl,hev⟩; obtain ⟨eT,ew,hevv⟩:=hev.some; subst hevv; have HLO:=Lib.hid hlo; have HEV:=Lib.hid hev; clear hlo hev)
  have HTOLD:=Lib.hid (told_err HEV.out (HG.out.cells HLO.out.cells).1)
  generalize hkn:k.num=kn1 at *
  generalize hkp:k.place=kp1 at *
  go_wp2_with (go_at_call 40; refine HTOLD.out.mono ?_; rintro e w4 ⟨rfl,hb4⟩; have HB4:=Lib.hid hb4; clear hb4)
  go_ret3
  exact ⟨kn',(HLO.out.front HAL.out hB).back HB4.out hB,by rw [← hkn,← hkp]; rfl⟩
 | ok acc =>
  rw [hlim] at hs
  have HT:=Lib.hid hs
  clear hs hlim
  go_enter Tryz.func27,Tryz.ntmps27
  go_upto_region 2 with (go_at_call 55; refine HT.out.mono ?_; rintro e w3 ⟨kn',hlo,ov,rfl,hr⟩; have HLO:=Lib.hid hlo; have HR:=Lib.hid hr; clear hlo hr)
  go_wp2_with (go_at_call 40; refine (told_nil w3).mono ?_; rintro e w4 ⟨rfl,hb4⟩; have HB4:=Lib.hid hb4; clear hb4)
  go_ret3
  exact ⟨kn',(HLO.out.front HAL.out hB).back HB4.out hB,_,rfl,ownsRow_block HR.out.1 fun k e=>HB4.out.block k (HR.out.1.lt k e).2,HR.out.2⟩
end Go.Proofs.Tl
namespace Go.Proofs.Tl
open Go Go.RowKit Go.Proofs.Ts
theorem ownsRow_type {w:World} {B e size n k:Nat} {v:Value} {xs:List Value} (h:w.ownsRow B e size v n xs) (hk:v.ownBlock=some k) {cs:Array Value} {t:TypeId} {r:Nat × Nat} (hc:w.heap[k]?=some (.cells cs t r)):t=e:=by
 rcases h.2 with ⟨rfl,_⟩ | ⟨g,cap,cur,rfl,_,hg,_⟩
 ·cases hk
 ·cases hk
  rw [hg] at hc
  cases hc
  rfl
theorem Tryz.info64:(Tryz.prog.info? 64).map (fun i=>(i.zero,i.size,i.bytes))=some (some (.agg #[.slice none 0 0,.slice none 0 0]),2,48):=by kernel_rfl
theorem Tryz.info49:(Tryz.prog.info? 49).map (fun i=>(i.zero,i.size,i.bytes))=some (some (.pointer none),1,8):=by kernel_rfl
theorem Tryz.info50:(Tryz.prog.info? 50).map (fun i=>(i.zero,i.size,i.bytes))=some (some (.pointer none),1,8):=by kernel_rfl
set_option maxRecDepth 100000 in
set_option maxHeartbeats 4000000 in
theorem keep_law (L:List Int) (va vb:Value) (wb n:Nat) (xv mv nv bv:Value) (nc:List Value) (w:World) (hl:L.length≤1000) (hn:n≤1000000)
  (hub:w.heap[wb]?=some (.cells #[xv,mv,nv,bv] 32 (0,0))) (hrow:w.ownsRow 0 64 2 nv n nc)
  (ha:IntsOf w va L) (hb:IntsOf w vb L) (hnil:L.length=0→va = .slice none 0 0) :
  Calls Tryz.prog 26 #[ptrV wb,va,vb] w fun e w'=>e = .returned (.bool true) ∧ ∃ cv nv',w'.heap[wb]?=some (.cells #[xv,mv,nv',bv] 32 (0,0)) ∧
   w'.ownsRow 0 64 2 nv' (n+1) (nc++[va,cv])∧(∀ k,nv'.ownBlock=some k→nv.ownBlock=some k∨w.heap.size≤k)∧IntsOf w' cv L∧Past w.heap.size cv∧Mod (fun k=>k=wb∨nv.ownBlock=some k) w w':=by
 obtain ⟨i0,hi,hz0,hz1,hz2⟩:=info_parts Tryz.info3
 obtain ⟨i1,hi1,hw0,hw1,hw2⟩:=info_parts Tryz.info64
 obtain ⟨aa,ac,rfl⟩:=ownsRow_form ha
 obtain ⟨ba,bc,rfl⟩:=ownsRow_form hb
 obtain ⟨na,ncap,rfl⟩:=ownsRow_form hrow
 have HA:=Lib.hid ha
 have HB:=Lib.hid hb
 have HROW:=Lib.hid hrow
 have HUB:=Lib.hid hub
 have HNIL:=Lib.hid hnil
 clear ha hb hrow hub hnil
 unfold ptrV
 go_enter Tryz.func26,Tryz.ntmps26
 go_upto_region 2 with (go_at_call 32; refine (sameInts_law L _ _ w HA.out HB.out (by omega)).mono ?_; rintro e w1 ⟨rfl,hs1⟩; have HS1:=Lib.hid hs1; clear hs1)
 have hb1:∀ (j:Nat) u,(L.map i64V)[j]?=some u → ∃ A,ba=some A∧w1.cell? (A.add j)=some u:=fun j u hj=>by
  have hjl:j < L.length:=by have:=(List.getElem?_eq_some_iff.1 hj).1; simpa using this
  obtain ⟨g,cap,e,_,_⟩:=HB.out.cellAt hjl
  simp only [Value.slice.injEq] at e
  obtain ⟨rfl,_,rfl⟩:=e
  refine ⟨_,rfl,?_⟩
  rw [HS1.out.cell]
  exact HB.out.cells (g:=g) rfl j u hj
 have HB1:=Lib.hid hb1
 clear hb1
 go_upto_region 3 with (at_builtin; refine wpList_append_copy rfl _ _ 24 rfl 3 i0 (.int .i64 0) 1 8 Tryz.underlying24 hi hz0 hz1 hz2 rfl (by decide) rfl ba L.length bc (L.map i64V) rfl (by simp) HB1.out (by simp [Value.oneCell',i64V]) (by unfold maxLen; omega) (by omega) ?_; intro cv w2 hrow2 hb2 hpast2; have HR2:=Lib.hid hrow2; have HB2:=Lib.hid hb2; have HP2:=Lib.hid hpast2; clear hrow2 hb2 hpast2)
 have hub2:w2.heap[wb]?=some (.cells #[xv,mv,.slice na n ncap,bv] 32 (0,0)):=by
  have h1:w1.heap[wb]?=some (.cells #[xv,mv,.slice na n ncap,bv] 32 (0,0)):=by rw [HS1.out.heap]; exact HUB.out
  exact (HB2.out.block _ (lt_of_heap h1)).trans h1
 have hr2:w2.ownsRow 0 64 2 (.slice na n ncap) n nc:=by
  have h1:w1.ownsRow 0 64 2 (.slice na n ncap) n nc:=ownsRow_block HROW.out fun k _=>by rw [HS1.out.heap]
  exact ownsRow_block h1 fun k e=>HB2.out.block k (h1.lt k e).2
 have c2:w2.cell? ⟨wb,2,none⟩=some (.slice na n ncap):=cell_block hub2
 have f2:w2.frozen? ⟨wb,2,none⟩=false:=free_block hub2
 obtain ⟨ca,cc,rfl⟩:=ownsRow_form HR2.out
 have HUB2:=Lib.hid hub2
 have HRR2:=Lib.hid hr2
 clear hub2 hr2
 have hra:=HRR2.out.alloc (.cells #[.slice aa L.length ac,.slice ca L.length cc] 64)
 have HRA:=Lib.hid hra
 have hnew:∀ j u,[Value.slice aa L.length ac,.slice ca L.length cc][j]?=some u→(w2.alloc (.cells #[.slice aa L.length ac,.slice ca L.length cc] 64)).cell? ((⟨w2.heap.size,0,none⟩:Addr).add j)=some u:=fun j u hu=>by
  have:=cell_two_new w2 (.slice aa L.length ac) (.slice ca L.length cc) 64 j u hu
  simpa using this
 have HNEW:=Lib.hid hnew
 have HUA:Hid ((w2.alloc (.cells #[.slice aa L.length ac,.slice ca L.length cc] 64)).heap[wb]?=some (.cells #[xv,mv,.slice na n ncap,bv] 32 (0,0))):=Lib.hid ((Below.heap_alloc w2 _ wb (lt_of_heap HUB2.out)).trans HUB2.out)
 have HBA:=Lib.hid ((Below.refl w2.heap.size w2).alloc (Nat.le_refl _) (.cells #[.slice aa L.length ac,.slice ca L.length cc] 64))
 clear hra hnew
 go_upto_region 4 with (at_builtin; refine wpList_append_lies rfl _ _ 29 rfl 64 i1 (.agg #[.slice none 0 0,.slice none 0 0]) 2 48 Tryz.underlying29 hi1 hw0 hw1 hw2 rfl (by decide) (.slice na n ncap) n nc rfl HRA.out ⟨w2.heap.size,0,none⟩ 1 1 [.slice aa L.length ac,.slice ca L.length cc] rfl rfl HNEW.out (by simp [Value.oneCell']) (by decide) (by unfold maxLen; omega) (by omega) ?_; intro nv5 w5 hrow5 hg5 hl5; obtain ⟨g5,cap5,rfl⟩:=ownsRow_head hrow5; have HR5:=Lib.hid hrow5; have HG5:=Lib.hid hg5; have HL5:=Lib.hid hl5; have hub5:=(HG5.out.block wb (lt_of_heap HUA.out) (fun e=>by have:=ownsRow_type HRA.out e.symm HUA.out; revert this; decide)).trans HUA.out; have f5:w5.frozen? ⟨wb,2,none⟩=false:=free_block hub5; have c5:w5.cell? ⟨wb,2,none⟩=some (.slice na n ncap):=cell_block hub5; have HUB5:=Lib.hid hub5; clear hrow5 hg5 hl5 hub5)
 have hub6:=heap_setCell_same w5 wb 2 _ _ (.slice (some ⟨g5,0,none⟩) (n+1) cap5) HUB5.out
 have hne:g5≠wb:=fun e=>by
  subst e
  have:=ownsRow_type HR5.out rfl HUB5.out
  revert this
  decide
 have hr6:(w5.setCell ⟨wb,2,none⟩ (.slice (some ⟨g5,0,none⟩) (n+1) cap5)).ownsRow 0 64 2 (.slice (some ⟨g5,0,none⟩) (n+1) cap5) (n+1) (nc++[.slice aa L.length ac,.slice ca L.length cc]) :=
  ownsRow_block HR5.out fun k e=>Below.heap_setCell w5 _ _ k fun e'=>hne ((Option.some.inj e).trans e')
 have hc6:∀ k,(Value.slice ca L.length cc).ownBlock=some k→(w5.setCell ⟨wb,2,none⟩ (.slice (some ⟨g5,0,none⟩) (n+1) cap5)).heap[k]?=w2.heap[k]?:=fun k hk=>by
  obtain ⟨_,hkl⟩:=HR2.out.lt k hk
  have hk1:k≠wb:=fun e=>by
   subst e
   have:=ownsRow_type HR2.out hk HUB2.out
   revert this
   decide
  rw [Below.heap_setCell w5 _ _ k hk1,HG5.out.block k (by simp; omega) (fun e=>by
   obtain ⟨cur,hcur⟩:=ownsRow_cells HRR2.out e.symm
   have:=ownsRow_type HR2.out hk hcur
   revert this
   decide),Below.heap_alloc w2 _ k hkl]
 have HUB6:=Lib.hid hub6
 have HR6:=Lib.hid hr6
 have HC6:=Lib.hid hc6
 have HMO:Hid (Mod (fun k=>k=wb∨(Value.slice na n ncap).ownBlock=some k) w (w5.setCell ⟨wb,2,none⟩ (.slice (some ⟨g5,0,none⟩) (n+1) cap5))):=Lib.hid ((((Mod.same HS1.out).trans (below_mod HB2.out)).trans (below_mod HBA.out)).trans ((Mod.grown HG5.out fun k e _ => .inr e).trans (Mod.setCell w5 _ _ fun _ => .inl rfl)))
 clear hub6 hr6 hc6 c5 f5
 have hend:∀ W,Same (w5.setCell ⟨wb,2,none⟩ (.slice (some ⟨g5,0,none⟩) (n+1) cap5)) W → ∃ cv nv',W.heap[wb]?=some (.cells #[xv,mv,nv',bv] 32 (0,0)) ∧
   W.ownsRow 0 64 2 nv' (n+1) (nc++[.slice aa L.length ac,cv])∧(∀ k,nv'.ownBlock=some k→(Value.slice na n ncap).ownBlock=some k∨w.heap.size≤k)∧IntsOf W cv L∧Past w.heap.size cv∧Mod (fun k=>k=wb∨(Value.slice na n ncap).ownBlock=some k) w W:=fun W hW=>by
  refine ⟨.slice ca L.length cc,.slice (some ⟨g5,0,none⟩) (n+1) cap5,by rw [hW.heap]; exact HUB6.out,ownsRow_block HR6.out fun k _=>by rw [hW.heap],fun k hk=>?_,ownsRow_block HR2.out fun k hk=>by rw [hW.heap]; exact HC6.out k hk,fun k hk=>?_,HMO.out.trans (Mod.same hW)⟩
  ·have hz1:=HB2.out.size
   have hz2:w1.heap=w.heap:=HS1.out.heap
   rcases HL5.out with ⟨h1,_⟩ | ⟨h1,_⟩
   ·exact .inl (h1.symm.trans hk)
   ·rw [hk] at h1
    have:=Option.some.inj h1
    rw [World.size_alloc] at this
    right
    rw [hz2] at hz1
    omega
  ·have h1:=HP2.out k hk
   rw [HS1.out.heap] at h1
   exact h1
 have HEND:=Lib.hid hend
 clear hend HUB6 HR6 HC6 HMO HL5 HG5 HR5 HUB5 HBA HUA HNEW HRA hne
 by_cases h0:L.length=0
 ·have hva:=HNIL.out h0
  simp only [Value.slice.injEq] at hva
  obtain ⟨rfl,_,rfl⟩:=hva
  have heq:∀ W:World,(binOp .eql 24 (.slice none 0 0) (.slice none 0 0)).run Tryz.prog W = .ok (.bool true) W:=fun W=>by kernel_rfl
  rw [h0]
  go_wp2_with fail
  go_ret
  exact ⟨rfl,HEND.out _ (Same.refl _)⟩
 ·have g1:decide ((0:Int) < (L.length:Int))=true:=decide_eq_true (by omega)
  go_wp2_with fail
  go_ret
  exact ⟨rfl,HEND.out _ (Same.refl _)⟩
end Go.Proofs.Tl
namespace Go.Proofs.Tl
open Go Go.RowKit Go.Proofs.Ts
theorem BytesOf.cellAt {w:World} {v:Value} {L:List Int} (h:BytesOf w v L) {i:Nat} (hi:i < L.length):∃ g cap,v = .slice (some ⟨g,0,none⟩) L.length cap∧w.cell? ⟨g,i,none⟩=some (.int .u8 (L.getD i 0))∧w.frozen? ⟨g,i,none⟩=false:=by
 rcases h.2 with ⟨_,h0⟩ | ⟨g,cap,cur,rfl,_,hg,_⟩
 ·omega
 ·refine ⟨g,cap,rfl,?_,free_block hg⟩
  have:=h.cells (g:=g) rfl i (u8V (L.getD i 0)) (by rw [List.getElem?_map,List.getElem?_eq_getElem hi,List.getD_eq_getElem?_getD,List.getElem?_eq_getElem hi]; rfl)
  rcases Nat.eq_zero_or_pos i with rfl | h0
  ·simpa [Addr.add,u8V] using this
  ·simpa [Addr.add,Nat.ne_of_gt h0,u8V] using this
set_option maxRecDepth 100000 in
set_option maxHeartbeats 4000000 in
theorem sameBytes_law (L:List Int) (va vb:Value) (w:World) (ha:BytesOf w va L) (hb:BytesOf w vb L) (hla:L.length≤1000000) :
  Calls Tryz.prog 33 #[va,vb] w fun e w'=>e = .returned (.bool true)∧Same w w':=by
 obtain ⟨aa,ac,rfl⟩:=ownsRow_form ha
 obtain ⟨ba,bc,rfl⟩:=ownsRow_form hb
 have HA:=Lib.hid ha
 have HB:=Lib.hid hb
 clear ha hb
 go_enter Tryz.func33,Tryz.ntmps33
 go_wp2_with fail
 go_loopw [5] (fun iv wr=>∃ i:Nat,i≤L.length∧iv = .int .i64 (i:Int)∧Hid (Same w wr)) (fun iv _=>L.length - (intOf iv).toNat)
 case atStart=>exact ⟨0,Nat.zero_le _,rfl,Lib.hid (Same.refl _)⟩
 case round =>
  obtain ⟨i,hia,rfl,HO⟩:=hrel
  have q1:IntKind.i64.wrap ((i:Int)+1)=(i:Int)+1:=IntWalk.i64_in _ (by omega)
  by_cases hil:i < L.length
  ·obtain ⟨ga,cpa,ea,ca0,_⟩:=HA.out.cellAt hil
   simp only [Value.slice.injEq] at ea
   obtain ⟨rfl,_,rfl⟩:=ea
   obtain ⟨gb,cpb,eb,cb0,_⟩:=HB.out.cellAt hil
   simp only [Value.slice.injEq] at eb
   obtain ⟨rfl,_,rfl⟩:=eb
   have ca:=(HO.out.cell ⟨ga,i,none⟩).trans ca0
   have cb:=(HO.out.cell ⟨gb,i,none⟩).trans cb0
   have zi:(0:Int)≤(i:Int)∧(i:Int) < (L.length:Int):=by omega
   clear ca0 cb0
   generalize L.getD i 0=Av at *
   go_upto_region 6 with fail
   go_quiet (fail)
   go_wp2_with fail
   go_roundw
   case rel=>exact ⟨i+1,by omega,by go_num,Lib.hid (HO.out.trans (Same.drewN _ _))⟩
   case measure=>(simp [intOf]) <;> omega
  ·obtain rfl:i=L.length:=by omega
   go_wp2_with fail
   go_ret
   exact ⟨rfl,HO.out⟩
theorem numCell_at {w:World} {nv:Value} {N:List NumE} (h:w.ownsRow 0 64 2 nv N.length (numCells N)) {i:Nat} {e:NumE} (he:N[i]?=some e) :
  ∃ g cap,nv = .slice (some ⟨g,0,none⟩) N.length cap∧w.cell? ⟨g,2 * i,none⟩=some e.real∧w.cell? ⟨g,2 * i+1,none⟩=some e.want:=by
 obtain ⟨p1,p2⟩:=pairs_get NumE.real NumE.want N i e he
 obtain ⟨g,cap,e1,c1⟩:=ownsRow_cell h (j:=2 * i) p1
 obtain ⟨g',cap',e2,c2⟩:=ownsRow_cell h (j:=2 * i+1) p2
 rw [e1] at e2
 simp only [Value.slice.injEq,Option.some.injEq,Addr.mk.injEq,and_true,true_and] at e2
 obtain ⟨rfl,rfl⟩:=e2
 exact ⟨g,cap,e1,c1,c2⟩
theorem bytCell_at {w:World} {nv:Value} {N:List BytE} (h:w.ownsRow 0 67 2 nv N.length (bytCells N)) {i:Nat} {e:BytE} (he:N[i]?=some e) :
  ∃ g cap,nv = .slice (some ⟨g,0,none⟩) N.length cap∧w.cell? ⟨g,2 * i,none⟩=some e.real∧w.cell? ⟨g,2 * i+1,none⟩=some e.want:=by
 obtain ⟨p1,p2⟩:=pairs_get BytE.real BytE.want N i e he
 obtain ⟨g,cap,e1,c1⟩:=ownsRow_cell h (j:=2 * i) p1
 obtain ⟨g',cap',e2,c2⟩:=ownsRow_cell h (j:=2 * i+1) p2
 rw [e1] at e2
 simp only [Value.slice.injEq,Option.some.injEq,Addr.mk.injEq,and_true,true_and] at e2
 obtain ⟨rfl,rfl⟩:=e2
 exact ⟨g,cap,e1,c1,c2⟩
set_option maxRecDepth 100000 in
set_option maxHeartbeats 4000000 in
theorem looks_law (own:Nat→Option Tag) (wb:Nat) (S:List SegE) (N:List NumE) (Bs:List BytE) (Env:World→Prop) (w:World) (hp:Player w own wb S N Bs Env) (hN:N.length≤1000000) (hB:Bs.length≤1000000) :
  Calls Tryz.prog 14 #[ptrV wb] w fun e w'=>e = .returned (.bool true)∧Same w w':=by
 obtain ⟨xv,mv,nv,bv,h1,_,_,h4,h5⟩:=hp.hub
 obtain ⟨na,nc,rfl⟩:=ownsRow_form h4.1
 obtain ⟨ba,bc,rfl⟩:=ownsRow_form h5.1
 have c2:w.cell? ⟨wb,2,none⟩=some (.slice na N.length nc):=cell_block h1
 have c3:w.cell? ⟨wb,3,none⟩=some (.slice ba Bs.length bc):=cell_block h1
 have HN:=Lib.hid h4.1
 have HBY:=Lib.hid h5.1
 have HNU:=Lib.hid hp.nums
 have HBB:=Lib.hid hp.byts
 clear h1 h4 h5 hp
 unfold ptrV
 go_enter Tryz.func14,Tryz.ntmps14
 go_wp2_with fail
 go_loopw [3] (fun iv wr=>∃ i:Nat,i≤N.length∧iv = .int .i64 (i:Int)∧Hid (Same w wr)) (fun iv _=>N.length - (intOf iv).toNat)
 case atStart=>exact ⟨0,Nat.zero_le _,rfl,Lib.hid (Same.refl _)⟩
 case round =>
  obtain ⟨i,hia,rfl,HO⟩:=hrel
  have q1:IntKind.i64.wrap ((i:Int)+1)=(i:Int)+1:=IntWalk.i64_in _ (by omega)
  have d2:=(HO.out.cell ⟨wb,2,none⟩).trans c2
  have d3:=(HO.out.cell ⟨wb,3,none⟩).trans c3
  by_cases hil:i < N.length
  ·obtain ⟨e,he⟩:∃ e,N[i]?=some e:=⟨_,List.getElem?_eq_getElem hil⟩
   obtain ⟨g,cap,e1,k1,k2⟩:=numCell_at HN.out he
   simp only [Value.slice.injEq,true_and] at e1
   obtain ⟨rfl,rfl⟩:=e1
   have zi:(0:Int)≤(i:Int)∧(i:Int) < (N.length:Int):=by omega
   have z2:i * 2=2 * i:=by omega
   have d4:=(HO.out.cell ⟨g,2 * i,none⟩).trans k1
   have d5:=(HO.out.cell ⟨g,2 * i+1,none⟩).trans k2
   have hok:=HNU.out i e he
   have hsame:=fun W (hW:Same w W)=>sameInts_law e.L e.real e.want W (hok.real.keep fun k _=>by rw [hW.heap]) (hok.want.keep fun k _=>by rw [hW.heap]) (by have:=hok.few; omega)
   obtain ⟨ra,rc,hra⟩:=ownsRow_form hok.real
   obtain ⟨va,vc,hva⟩:=ownsRow_form hok.want
   rw [hra] at d4 hsame
   rw [hva] at d5 hsame
   have HSAME:=Lib.hid hsame
   clear hok hsame hra hva k1 k2 he
   go_upto_region 4 with fail
   go_quiet ((go_at_call 32; exact quietS (HSAME.out _ (HO.out.trans (Same.drewN _ _)))))
   go_wp2_with fail
   go_roundw
   case rel=>exact ⟨i+1,by omega,by go_num,Lib.hid (HO.out.trans (Same.drewN _ _))⟩
   case measure=>(simp [intOf]) <;> omega
  ·obtain rfl:i=N.length:=by omega
   go_wp2_with fail
   go_loopw [5] (fun iv wr=>∃ i:Nat,i≤Bs.length∧iv = .int .i64 (i:Int)∧Hid (Same w wr)) (fun iv _=>Bs.length - (intOf iv).toNat)
   case atStart=>exact ⟨0,Nat.zero_le _,rfl,HO⟩
   case round =>
    obtain ⟨i,hia,rfl,HO⟩:=hrel
    have q1:IntKind.i64.wrap ((i:Int)+1)=(i:Int)+1:=IntWalk.i64_in _ (by omega)
    have d3:=(HO.out.cell ⟨wb,3,none⟩).trans c3
    by_cases hil:i < Bs.length
    ·obtain ⟨e,he⟩:∃ e,Bs[i]?=some e:=⟨_,List.getElem?_eq_getElem hil⟩
     obtain ⟨g,cap,e1,k1,k2⟩:=bytCell_at HBY.out he
     simp only [Value.slice.injEq,true_and] at e1
     obtain ⟨rfl,rfl⟩:=e1
     have zi:(0:Int)≤(i:Int)∧(i:Int) < (Bs.length:Int):=by omega
     have z2:i * 2=2 * i:=by omega
     have d4:=(HO.out.cell ⟨g,2 * i,none⟩).trans k1
     have d5:=(HO.out.cell ⟨g,2 * i+1,none⟩).trans k2
     have hok:=HBB.out i e he
     have hsame:=fun W (hW:Same w W)=>sameBytes_law e.L e.real e.want W (ownsRow_block hok.real fun k _=>by rw [hW.heap]) (ownsRow_block hok.want fun k _=>by rw [hW.heap]) (by have:=hok.few; omega)
     obtain ⟨ra,rc,hra⟩:=ownsRow_form hok.real
     obtain ⟨va,vc,hva⟩:=ownsRow_form hok.want
     rw [hra] at d4 hsame
     rw [hva] at d5 hsame
     have HSAME:=Lib.hid hsame
     clear hok hsame hra hva k1 k2 he
     go_upto_region 10 with fail
     go_quiet ((go_at_call 33; go_must (exact quietS (HSAME.out _ (HO.out.trans (Same.drewN _ _))))))
     go_wp2_with fail
     go_roundw
     case rel=>exact ⟨i+1,by omega,by go_num,Lib.hid (HO.out.trans (Same.drewN _ _))⟩
     case measure=>(simp [intOf]) <;> omega
    ·obtain rfl:i=Bs.length:=by omega
     go_wp2_with fail
     go_ret
     exact ⟨rfl,HO.out⟩
end Go.Proofs.Tl
namespace Go.Proofs.Tl
open Go Go.RowKit Go.Proofs.Ts
theorem lies_past {w w0 w':World} {v v':Value} (h:Lies w w' v v') (hs:w0.heap.size≤w.heap.size):∀ k,v'.ownBlock=some k→v.ownBlock=some k∨w0.heap.size≤k:=fun k hk=>by
 rcases h with ⟨h1,_⟩ | ⟨h1,_⟩
 ·exact .inl (h1.symm.trans hk)
 ·rw [hk] at h1
  have:=Option.some.inj h1
  right
  omega
set_option maxRecDepth 100000 in
set_option maxHeartbeats 4000000 in
theorem join_law (sb mb wb n:Nat) (xv mv nv bv:Value) (xs ms:List Value) (w:World) (hn:n≤1000000)
  (hub:w.heap[wb]?=some (.cells #[xv,mv,nv,bv] 32 (0,0))) (hx:w.ownsRow 0 49 1 xv n xs) (hm:w.ownsRow 0 50 1 mv n ms) :
  Calls Tryz.prog 36 #[ptrV wb,ptrV sb,ptrV mb] w fun e w'=>e = .returned (.tuple #[]) ∧ ∃ xv' mv',w'.heap[wb]?=some (.cells #[xv',mv',nv,bv] 32 (0,0)) ∧
   w'.ownsRow 0 49 1 xv' (n+1) (xs++[ptrV sb])∧(∀ k,xv'.ownBlock=some k→xv.ownBlock=some k∨w.heap.size≤k) ∧
   w'.ownsRow 0 50 1 mv' (n+1) (ms++[ptrV mb])∧(∀ k,mv'.ownBlock=some k→mv.ownBlock=some k∨w.heap.size≤k)∧Mod (fun k=>k=wb∨xv.ownBlock=some k∨mv.ownBlock=some k) w w':=by
 obtain ⟨i0,hi,hz0,hz1,hz2⟩:=info_parts Tryz.info49
 obtain ⟨i1,hi1,hw0,hw1,hw2⟩:=info_parts Tryz.info50
 obtain ⟨xa,xc,rfl⟩:=ownsRow_form hx
 obtain ⟨ma,mc,rfl⟩:=ownsRow_form hm
 have HX:=Lib.hid hx
 have HM:=Lib.hid hm
 have HUB:=Lib.hid hub
 have c0:w.cell? ⟨wb,0,none⟩=some (.slice xa n xc):=cell_block hub
 have HRA:=Lib.hid (hx.alloc (.cells #[ptrV sb] 49))
 have HUA:Hid ((w.alloc (.cells #[ptrV sb] 49)).heap[wb]?=some (.cells #[.slice xa n xc,.slice ma n mc,nv,bv] 32 (0,0))):=Lib.hid ((Below.heap_alloc w _ wb (lt_of_heap hub)).trans hub)
 clear hx hm hub
 unfold ptrV at *
 go_enter Tryz.func36,Tryz.ntmps36
 go_upto_region 1 with (at_builtin; refine wpList_append_lies rfl _ _ 27 rfl 49 i0 (.pointer none) 1 8 Tryz.underlying27 hi hz0 hz1 hz2 rfl (by decide) (.slice xa n xc) n xs rfl HRA.out ⟨w.heap.size,0,none⟩ 1 1 [.pointer (some ⟨sb,0,none⟩)] rfl rfl (cell_one_new w _ _) (by simp [Value.oneCell']) (by decide) (by unfold maxLen; omega) (by omega) ?_; intro nv5 w5 hrow5 hg5 hl5; obtain ⟨g5,cap5,rfl⟩:=ownsRow_head hrow5; have HR5:=Lib.hid hrow5; have HG5:=Lib.hid hg5; have HL5:=Lib.hid hl5; have hub5:=(HG5.out.block wb (lt_of_heap HUA.out) (fun e=>by have:=ownsRow_type HRA.out e.symm HUA.out; revert this; decide)).trans HUA.out; have f5:w5.frozen? ⟨wb,0,none⟩=false:=free_block hub5; have c5:w5.cell? ⟨wb,0,none⟩=some (.slice xa n xc):=cell_block hub5; have HUB5:=Lib.hid hub5; clear hrow5 hg5 hl5 hub5)
 have hub6:=heap_setCell_same w5 wb 0 _ _ (.slice (some ⟨g5,0,none⟩) (n+1) cap5) HUB5.out
 have hne:g5≠wb:=fun e=>by
  subst e
  have:=ownsRow_type HR5.out rfl HUB5.out
  revert this
  decide
 have hr6:(w5.setCell ⟨wb,0,none⟩ (.slice (some ⟨g5,0,none⟩) (n+1) cap5)).ownsRow 0 49 1 (.slice (some ⟨g5,0,none⟩) (n+1) cap5) (n+1) (xs++[.pointer (some ⟨sb,0,none⟩)]) :=
  ownsRow_block HR5.out fun k e=>Below.heap_setCell w5 _ _ k fun e'=>hne ((Option.some.inj e).trans e')
 have hm6:(w5.setCell ⟨wb,0,none⟩ (.slice (some ⟨g5,0,none⟩) (n+1) cap5)).ownsRow 0 50 1 (.slice ma n mc) n ms:=ownsRow_block HM.out fun k hk=>by
  obtain ⟨_,hkl⟩:=HM.out.lt k hk
  have hk1:k≠wb:=fun e=>by
   subst e
   have:=ownsRow_type HM.out hk HUB.out
   revert this
   decide
  rw [Below.heap_setCell w5 _ _ k hk1,HG5.out.block k (by simp; omega) (fun e=>by
   obtain ⟨cur,hcur⟩:=ownsRow_cells HX.out e.symm
   have:=ownsRow_type HM.out hk hcur
   revert this
   decide),Below.heap_alloc w _ k hkl]
 have HMO:Hid (Mod (fun k=>k=wb∨(Value.slice xa n xc).ownBlock=some k∨(Value.slice ma n mc).ownBlock=some k) w (w5.setCell ⟨wb,0,none⟩ (.slice (some ⟨g5,0,none⟩) (n+1) cap5))):=Lib.hid ((below_mod ((Below.refl w.heap.size w).alloc (Nat.le_refl _) _)).trans ((Mod.grown HG5.out fun k e _ => .inr (.inl e)).trans (Mod.setCell w5 _ _ fun _ => .inl rfl)))
 have HPX:=Lib.hid (lies_past (w0:=w) HL5.out (by simp))
 have hsz6:w.heap.size≤(w5.setCell ⟨wb,0,none⟩ (.slice (some ⟨g5,0,none⟩) (n+1) cap5)).heap.size:=HMO.out.size
 have HUB6:=Lib.hid hub6
 have HR6:=Lib.hid hr6
 have HM6:=Lib.hid hm6
 clear hub6 hr6 hm6 hne HUB5 HL5 HG5 HR5 c5 f5 c0 HUA HRA HX HM HUB
 generalize (w5.setCell ⟨wb,0,none⟩ (.slice (some ⟨g5,0,none⟩) (n+1) cap5))=w6 at *
 have c1:w6.cell? ⟨wb,1,none⟩=some (.slice ma n mc):=cell_block HUB6.out
 have HRA:=Lib.hid (HM6.out.alloc (.cells #[.pointer (some ⟨mb,0,none⟩)] 50))
 have hua:(w6.alloc (.cells #[.pointer (some ⟨mb,0,none⟩)] 50)).heap[wb]?=some (.cells #[.slice (some ⟨g5,0,none⟩) (n+1) cap5,.slice ma n mc,nv,bv] 32 (0,0)):=(Below.heap_alloc w6 _ wb (lt_of_heap HUB6.out)).trans HUB6.out
 have HUA:=Lib.hid hua
 clear hua
 go_wp2_with (at_builtin; refine wpList_append_lies rfl _ _ 28 rfl 50 i1 (.pointer none) 1 8 Tryz.underlying28 hi1 hw0 hw1 hw2 rfl (by decide) (.slice ma n mc) n ms rfl HRA.out ⟨w6.heap.size,0,none⟩ 1 1 [.pointer (some ⟨mb,0,none⟩)] rfl rfl (cell_one_new w6 _ _) (by simp [Value.oneCell']) (by decide) (by unfold maxLen; omega) (by omega) ?_; intro nv7 w7 hrow7 hg7 hl7; obtain ⟨g7,cap7,rfl⟩:=ownsRow_head hrow7; have HR7:=Lib.hid hrow7; have HG7:=Lib.hid hg7; have HL7:=Lib.hid hl7; have hub7:=(HG7.out.block wb (lt_of_heap HUA.out) (fun e=>by have:=ownsRow_type HRA.out e.symm HUA.out; revert this; decide)).trans HUA.out; have f7:w7.frozen? ⟨wb,1,none⟩=false:=free_block hub7; have c7:w7.cell? ⟨wb,1,none⟩=some (.slice ma n mc):=cell_block hub7; have HUB7:=Lib.hid hub7; clear hrow7 hg7 hl7 hub7)
 refine bodyPost_end (results_none rfl _ _ _) rfl ?_
 have hub8:=heap_setCell_same w7 wb 1 _ _ (.slice (some ⟨g7,0,none⟩) (n+1) cap7) HUB7.out
 have hne:g7≠wb:=fun e=>by
  subst e
  have:=ownsRow_type HR7.out rfl HUB7.out
  revert this
  decide
 refine ⟨rfl,.slice (some ⟨g5,0,none⟩) (n+1) cap5,.slice (some ⟨g7,0,none⟩) (n+1) cap7,hub8,?_,HPX.out,ownsRow_block HR7.out fun k e=>Below.heap_setCell w7 _ _ k fun e'=>hne ((Option.some.inj e).trans e'),fun k hk=>?_,?_⟩
 ·refine ownsRow_block HR6.out fun k hk=>?_
  obtain ⟨_,hkl⟩:=HR6.out.lt k hk
  have hk1:k≠wb:=fun e=>by
   subst e
   have:=ownsRow_type HR6.out hk HUB6.out
   revert this
   decide
  rw [Below.heap_setCell w7 _ _ k hk1,HG7.out.block k (by simp; omega) (fun e=>by
   obtain ⟨cur,hcur⟩:=ownsRow_cells HM6.out e.symm
   have:=ownsRow_type HR6.out hk hcur
   revert this
   decide),Below.heap_alloc w6 _ k hkl]
 ·exact lies_past HL7.out (by simp; omega) k hk
 ·exact HMO.out.trans ((below_mod ((Below.refl w6.heap.size w6).alloc (Nat.le_refl _) _)).trans ((Mod.grown HG7.out fun k e _ => .inr (.inr e)).trans (Mod.setCell w7 _ _ fun _ => .inl rfl)))
end Go.Proofs.Tl
namespace Go.Proofs.Tl
open Go Go.RowKit Go.Proofs.Ts
structure OpE where
 kind:Int
 a:Int
 b:Int
 c:Int
 qk:Int
 qa:List UInt8
 qb:List UInt8
 qn:Int
 dv:Value
 docs:List ByteArray
 s:List UInt8
def OpE.cells (o:OpE):Array Value:=#[.int .i64 o.kind,.int .i64 o.a,.int .i64 o.b,.int .i64 o.c,.int .i64 o.qk,strV o.qa,strV o.qb,.int .i64 o.qn,o.dv,strV o.s]
def opV (o:OpE):Value := .agg o.cells
def I64 (x:Int):Prop:=-9223372036854775808≤x∧x≤9223372036854775807
structure OpE.Fits (o:OpE):Prop where
 kind:I64 o.kind
 a:I64 o.a
 b:I64 o.b
 c:I64 o.c
 qk:I64 o.qk
 qn:I64 o.qn
set_option maxRecDepth 100000 in
set_option maxHeartbeats 4000000 in
theorem marks_none (o:OpE) (wb:Nat) (w:World) (N Bs:Nat) (xv mv:Value) (na ba:Option Addr) (nc bc:Nat) (hub:w.heap[wb]?=some (.cells #[xv,mv,.slice na N nc,.slice ba Bs bc] 32 (0,0)))
  (h1:o.kind=10→N=0) (h2:o.kind=11→Bs=0) :
  Calls Tryz.prog 20 #[ptrV wb,opV o] w fun e w'=>e = .returned (.tuple #[])∧Below w.heap.size w w':=by
 obtain ⟨kd,oa,ob,oc,qk,qa,qb,qn,dv,docs,os⟩:=o
 simp only at h1 h2
 have HB:=Lib.hid ((Below.refl w.heap.size w).alloc (Nat.le_refl _) (.cells (OpE.mk kd oa ob oc qk qa qb qn dv docs os).cells 37))
 have hub1:(w.alloc (.cells (OpE.mk kd oa ob oc qk qa qb qn dv docs os).cells 37)).heap[wb]?=some (.cells #[xv,mv,.slice na N nc,.slice ba Bs bc] 32 (0,0)):=(Below.heap_alloc w _ wb (lt_of_heap hub)).trans hub
 have c2:(w.alloc (.cells (OpE.mk kd oa ob oc qk qa qb qn dv docs os).cells 37)).cell? ⟨wb,2,none⟩=some (.slice na N nc):=cell_block hub1
 have c3:(w.alloc (.cells (OpE.mk kd oa ob oc qk qa qb qn dv docs os).cells 37)).cell? ⟨wb,3,none⟩=some (.slice ba Bs bc):=cell_block hub1
 clear hub hub1
 unfold ptrV opV OpE.cells strV at *
 simp only at c2 c3 HB ⊢
 go_enter Tryz.func20,Tryz.ntmps20
 by_cases k10:kd=10
 ·subst k10
  obtain rfl:=h1 rfl
  go_wp2_with fail
  refine bodyPost_end (results_none rfl _ _ _) rfl ?_
  exact ⟨rfl,HB.out⟩
 ·have e1:(kd == 10)=false:=by simp [k10]
  by_cases k11:kd=11
  ·subst k11
   obtain rfl:=h2 rfl
   go_wp2_with fail
   refine bodyPost_end (results_none rfl _ _ _) rfl ?_
   exact ⟨rfl,HB.out⟩
  ·have e2:(kd == 11)=false:=by simp [k11]
   go_wp2_with fail
   refine bodyPost_end (results_none rfl _ _ _) rfl ?_
   exact ⟨rfl,HB.out⟩
theorem ints_set {w:World} {v:Value} {L:List Int} (h:IntsOf w v L) {g i:Nat} (hg:v.ownBlock=some g) (c:Int):IntsOf (w.setCell ⟨g,i,none⟩ (.int .i64 c)) v (L.set i c):=by
 have:=row_set (k:=i) h hg (.int .i64 c)
 unfold IntsOf
 rw [List.length_set,List.map_set]
 exact this
set_option maxRecDepth 100000 in
set_option maxHeartbeats 4000000 in
theorem marks_num (o:OpE) (hf:o.Fits) (wb:Nat) (w:World) (N:List NumE) (xv mv nv bv:Value) (hub:w.heap[wb]?=some (.cells #[xv,mv,nv,bv] 32 (0,0))) (hrow:w.ownsRow 0 64 2 nv N.length (numCells N))
  (hk:o.kind=10) (hN:0 < N.length) (hN2:N.length≤1000000) (e:NumE) (he:N[pickL o.a N.length]?=some e) (hr:IntsOf w e.real e.L) (hw:IntsOf w e.want e.L) (hne:∀ k,e.real.ownBlock=some k→e.want.ownBlock≠some k) (hl:e.L.length≤1000) :
  Calls Tryz.prog 20 #[ptrV wb,opV o] w fun e' w'=>e' = .returned (.tuple #[]) ∧ ∃ L',L'.length=e.L.length∧IntsOf w' e.real L'∧IntsOf w' e.want L'∧Mod (fun k=>e.real.ownBlock=some k∨e.want.ownBlock=some k) w w':=by
 obtain ⟨kd,oa,ob,oc,qk,qa,qb,qn,dv,docs,os⟩:=o
 simp only at hk he
 subst hk
 obtain ⟨g,cap,rfl,c1,c2⟩:=numCell_at hrow he
 obtain ⟨rv,wv,L⟩:=e
 simp only at c1 c2 hr hw hne hl ⊢
 obtain ⟨ra,rc,rfl⟩:=ownsRow_form hr
 obtain ⟨va,vc,rfl⟩:=ownsRow_form hw
 obtain ⟨k,hk0⟩:∃ k,k=pickL oa N.length:=⟨_,rfl⟩
 rw [← hk0] at he c1 c2
 have hkl:k < N.length:=(List.getElem?_eq_some_iff.1 he).1
 have hpick:=fun W=>pick_law oa N.length W hf.a ⟨hN,hN2⟩
 rw [← hk0] at hpick
 have HPICK:=Lib.hid hpick
 obtain ⟨W,hW⟩:∃ W,W=w.alloc (.cells (OpE.mk 10 oa ob oc qk qa qb qn dv docs os).cells 37):=⟨_,rfl⟩
 have hB:Below w.heap.size w W:=by rw [hW]; exact (Below.refl w.heap.size w).alloc (Nat.le_refl _) _
 have hop:W.heap[w.heap.size]?=some (.cells (OpE.mk 10 oa ob oc qk qa qb qn dv docs os).cells 37 (0,0)):=by rw [hW]; exact heap_alloc_new w _
 have hub1:W.heap[wb]?=some (.cells #[xv,mv,.slice (some ⟨g,0,none⟩) N.length cap,bv] 32 (0,0)):=(hB.block wb (lt_of_heap hub)).trans hub
 have d1:=(hB.cell (p:=⟨g,2 * k,none⟩) (lt_of_cell c1)).trans c1
 have d2:=(hB.cell (p:=⟨g,2 * k+1,none⟩) (lt_of_cell c2)).trans c2
 have hr1:IntsOf W (.slice ra L.length rc) L:=hr.below hB
 have hw1:IntsOf W (.slice va L.length vc) L:=hw.below hB
 have z2:k * 2=2 * k:=by omega
 have zi:(0:Int)≤(k:Int)∧(k:Int) < (N.length:Int):=by omega
 have h2:W.cell? ⟨wb,2,none⟩=some (.slice (some ⟨g,0,none⟩) N.length cap):=cell_block hub1
 have p0:W.cell? ⟨w.heap.size,0,none⟩=some (.int .i64 10):=cell_block hop
 have p1:W.cell? ⟨w.heap.size,1,none⟩=some (.int .i64 oa):=cell_block hop
 have p2:W.cell? ⟨w.heap.size,2,none⟩=some (.int .i64 ob):=cell_block hop
 have p3:W.cell? ⟨w.heap.size,3,none⟩=some (.int .i64 oc):=cell_block hop
 have hgN:decide ((0:Int) < (N.length:Int))=true:=decide_eq_true (by omega)
 have HB:=Lib.hid hB
 have HR1:=Lib.hid hr1
 have HW1:=Lib.hid hw1
 have HNE:=Lib.hid hne
 have HUB1:=Lib.hid hub1
 have hrow1:W.ownsRow 0 64 2 (.slice (some ⟨g,0,none⟩) N.length cap) N.length (numCells N):=ownsRow_block hrow fun k e=>hB.block k (hrow.lt k e).2
 have HROW1:=Lib.hid hrow1
 clear hrow1
 have HOP:=Lib.hid hop
 have HF:=Lib.hid hf
 clear hub hub1 hrow hr hw hr1 hw1 hne hop hB c1 c2 hk0 hpick he hf
 unfold ptrV opV OpE.cells strV at *
 simp only at hW HF ⊢
 go_enter Tryz.func20,Tryz.ntmps20
 go_upto_region 1 with fail
 rw [← hW]
 clear hW
 go_upto_region 2 with fail
 go_quiet ((go_at_call 21; exact Calls.quiet_of_same (HPICK.out _)))
 have HS:=Lib.hid (Same.drewN W nq)
 by_cases hl0:L.length=0
 ·rw [hl0] at d1 d2
  go_wp2_with fail
  refine bodyPost_end (results_none rfl _ _ _) rfl ?_
  obtain rfl:L=[]:=List.eq_nil_of_length_eq_zero hl0
  exact ⟨rfl,HR1.out.keep (fun k _=>rfl),HW1.out.keep (fun k _=>rfl),(below_mod HB.out).trans (Mod.same HS.out)⟩
 ·have hgL:decide ((0:Int) < (L.length:Int))=true:=decide_eq_true (by omega)
  obtain ⟨i,hi0⟩:∃ i,i=pickL ob L.length:=⟨_,rfl⟩
  have hil:i < L.length:=by rw [hi0]; exact pickL_lt _ (by omega)
  have hpick2:=fun W=>pick_law ob L.length W HF.out.b ⟨by omega,by omega⟩
  rw [← hi0] at hpick2
  have HPICK2:=Lib.hid hpick2
  clear hpick2 hi0
  obtain ⟨ga,cpa,ea,ca0,fa0⟩:=HR1.out.cellAt hil
  simp only [Value.slice.injEq] at ea
  obtain ⟨rfl,_,rfl⟩:=ea
  obtain ⟨gb,cpb,eb,cb0,fb0⟩:=HW1.out.cellAt hil
  simp only [Value.slice.injEq] at eb
  obtain ⟨rfl,_,rfl⟩:=eb
  have zj:(0:Int)≤(i:Int)∧(i:Int) < (L.length:Int):=by omega
  have hga:ga≠gb:=fun h=>HNE.out ga rfl (by rw [h]; rfl)
  generalize L.getD i 0=Av at *
  go_upto_region 6 with (go_at_call 21; refine (HPICK2.out _).mono ?_; rintro e w' ⟨rfl,rfl⟩)
  have HR2:Hid (IntsOf (W.drewN nq) (.slice (some ⟨ga,0,none⟩) L.length rc) L):=Lib.hid (HR1.out.keep fun k _=>rfl)
  have HW2:Hid (IntsOf (W.drewN nq) (.slice (some ⟨gb,0,none⟩) L.length vc) L):=Lib.hid (HW1.out.keep fun k _=>rfl)
  have HM2:Hid (Mod (fun k=>(Value.slice (some ⟨ga,0,none⟩) L.length rc).ownBlock=some k∨(Value.slice (some ⟨gb,0,none⟩) L.length vc).ownBlock=some k) w (W.drewN nq)):=Lib.hid ((below_mod HB.out).trans (Mod.same HS.out))
  have HH2:Hid ((W.drewN nq).heap=W.heap):=Lib.hid rfl
  have k0:(W.drewN nq).cell? ⟨wb,2,none⟩=some (.slice (some ⟨g,0,none⟩) N.length cap):=h2
  have k1:(W.drewN nq).cell? ⟨g,2 * k,none⟩=some (.slice (some ⟨ga,0,none⟩) L.length rc):=d1
  have k2:(W.drewN nq).cell? ⟨w.heap.size,3,none⟩=some (.int .i64 oc):=p3
  have k3:(W.drewN nq).cell? ⟨ga,i,none⟩=some (.int .i64 Av):=ca0
  have k4:(W.drewN nq).frozen? ⟨ga,i,none⟩=false:=fa0
  have k5:(W.drewN nq).cell? ⟨g,2 * k+1,none⟩=some (.slice (some ⟨gb,0,none⟩) L.length vc):=d2
  have k6:(W.drewN nq).cell? ⟨gb,i,none⟩=some (.int .i64 Av):=cb0
  have k7:(W.drewN nq).frozen? ⟨gb,i,none⟩=false:=fb0
  have t1:ga≠wb:=fun h=>by
   subst h
   have:=ownsRow_type HR1.out rfl HUB1.out
   revert this
   decide
  have t2:ga≠w.heap.size:=fun h=>by
   subst h
   have:=ownsRow_type HR1.out rfl HOP.out
   revert this
   decide
  have t4:gb≠w.heap.size:=fun h=>by
   subst h
   have:=ownsRow_type HW1.out rfl HOP.out
   revert this
   decide
  have k8:(W.drewN nq).cell? ⟨w.heap.size,0,none⟩=some (.int .i64 10):=p0
  have t3:ga≠g:=fun h=>by
   subst h
   obtain ⟨cur,hcur⟩:=ownsRow_cells HROW1.out rfl
   have:=ownsRow_type HR1.out rfl hcur
   revert this
   decide
  generalize W.drewN nq=W2 at *
  clear h2 d1 d2 p0 p1 p2 p3 ca0 cb0 fa0 fb0
  refine wp_region_ordX [(0,false),(1,false),(2,false),(3,false),(4,false),(5,false),(6,false),(7,false),(8,false),(9,false),(10,false),(11,false),(12,true)] 12
   (fun w'=>w'.cell? ⟨wb,2,none⟩=some (.slice (some ⟨g,0,none⟩) N.length cap)∧w'.cell? ⟨g,2 * k,none⟩=some (.slice (some ⟨ga,0,none⟩) L.length rc)∧w'.cell? ⟨w.heap.size,3,none⟩=some (.int .i64 oc)) (by kernel_rfl) (by kernel_rfl) ⟨k0,k1,k2⟩ ?_
  iterate 12 (
   refine wpOrd_quiet ?_ rfl rfl (fun w' hS=>?_) ?_
   rotate_left
   ·obtain ⟨f0,f1,f2⟩:=hS
    go_simp
    first | rfl | done
   simp only [put_lit,List.set_cons_succ,List.set_cons_zero])
  refine wpOrd_last rfl rfl (fun K hK=>?_)
  have HK:=Lib.hid hK
  clear hK
  go_simp
  refine HK.out _ _ ?_
  clear HK K
  have hm3:Mod (fun k=>(Value.slice (some ⟨ga,0,none⟩) L.length rc).ownBlock=some k∨(Value.slice (some ⟨gb,0,none⟩) L.length vc).ownBlock=some k) w (W2.setCell ⟨ga,i,none⟩ (.int .i64 oc)).drew:=(HM2.out.trans (Mod.setCell W2 ⟨ga,i,none⟩ (.int .i64 oc) fun _ => .inl rfl)).trans (Mod.same (Same.drew (W2.setCell ⟨ga,i,none⟩ (.int .i64 oc))))
  have hr3:IntsOf (W2.setCell ⟨ga,i,none⟩ (.int .i64 oc)).drew (.slice (some ⟨ga,0,none⟩) L.length rc) (L.set i oc):=by
   have:=ints_set (i:=i) HR2.out (g:=ga) rfl oc
   exact this.keep fun k _=>rfl
  have hother:∀ (b j:Nat),b≠ga→(W2.setCell ⟨ga,i,none⟩ (.int .i64 oc)).drew.heap[b]?=W2.heap[b]?:=fun b j hb=>Below.heap_setCell W2 _ _ b hb
  have hw3:IntsOf (W2.setCell ⟨ga,i,none⟩ (.int .i64 oc)).drew (.slice (some ⟨gb,0,none⟩) L.length vc) L:=HW2.out.keep fun k e=>hother k 0 (fun h=>hga ((Option.some.inj e).trans h).symm)
  have cellO:∀ b j v,b≠ga→W2.cell? ⟨b,j,none⟩=some v→(W2.setCell ⟨ga,i,none⟩ (.int .i64 oc)).drew.cell? ⟨b,j,none⟩=some v:=fun b j v hb hv=>(World.cell?_of_block (a:=⟨b,j,none⟩) (hother b j hb)).trans hv
  have l0:=cellO _ _ _ (Ne.symm t1) k0
  have l2:=cellO _ _ _ (Ne.symm t2) k2
  have l8:=cellO _ _ _ (Ne.symm t2) k8
  have l5:=cellO _ _ _ (Ne.symm t3) k5
  have l6:=cellO _ _ _ (Ne.symm hga) k6
  have l7:(W2.setCell ⟨ga,i,none⟩ (.int .i64 oc)).drew.frozen? ⟨gb,i,none⟩=false:=(World.frozen?_of_block (a:=⟨gb,i,none⟩) (hother gb i (Ne.symm hga))).trans k7
  have HM3:=Lib.hid hm3
  have HR3:=Lib.hid hr3
  have HW3:=Lib.hid hw3
  clear hm3 hr3 hw3 hother cellO k8 k0 k1 k2 k3 k4 k5 k6 k7 HR2 HW2 HM2 HH2
  generalize (W2.setCell ⟨ga,i,none⟩ (.int .i64 oc)).drew=W3 at *
  go_upto_region 7 with fail
  refine wp_region_ordX [(0,false),(1,false),(2,false),(3,false),(4,false),(5,false),(6,false),(7,false),(8,false),(9,false),(10,false),(11,false),(12,true)] 12
   (fun w'=>w'.cell? ⟨wb,2,none⟩=some (.slice (some ⟨g,0,none⟩) N.length cap)∧w'.cell? ⟨g,2 * k+1,none⟩=some (.slice (some ⟨gb,0,none⟩) L.length vc)∧w'.cell? ⟨w.heap.size,3,none⟩=some (.int .i64 oc)) (by kernel_rfl) (by kernel_rfl) ⟨l0,l5,l2⟩ ?_
  iterate 12 (
   refine wpOrd_quiet ?_ rfl rfl (fun w' hS=>?_) ?_
   rotate_left
   ·obtain ⟨f0,f1,f2⟩:=hS
    go_simp
    first | rfl | done
   simp only [put_lit,List.set_cons_succ,List.set_cons_zero])
  refine wpOrd_last rfl rfl (fun K hK=>?_)
  have HK:=Lib.hid hK
  clear hK
  go_simp
  refine HK.out _ _ ?_
  clear HK K
  have hm4:Mod (fun k=>(Value.slice (some ⟨ga,0,none⟩) L.length rc).ownBlock=some k∨(Value.slice (some ⟨gb,0,none⟩) L.length vc).ownBlock=some k) w (W3.setCell ⟨gb,i,none⟩ (.int .i64 oc)).drew:=(HM3.out.trans (Mod.setCell W3 ⟨gb,i,none⟩ (.int .i64 oc) fun _ => .inr rfl)).trans (Mod.same (Same.drew (W3.setCell ⟨gb,i,none⟩ (.int .i64 oc))))
  have hw4:IntsOf (W3.setCell ⟨gb,i,none⟩ (.int .i64 oc)).drew (.slice (some ⟨gb,0,none⟩) L.length vc) (L.set i oc):=by
   have:=ints_set (i:=i) HW3.out (g:=gb) rfl oc
   exact this.keep fun k _=>rfl
  have hr4:IntsOf (W3.setCell ⟨gb,i,none⟩ (.int .i64 oc)).drew (.slice (some ⟨ga,0,none⟩) L.length rc) (L.set i oc):=by
   have hll:(Value.slice (some ⟨ga,0,none⟩) L.length rc).ownBlock=some ga:=rfl
   exact HR3.out.keep fun k e=>(Below.heap_setCell W3 _ _ k (fun h=>hga ((Option.some.inj (hll.symm.trans e)).trans h)))
  have l8:(W3.setCell ⟨gb,i,none⟩ (.int .i64 oc)).drew.cell? ⟨w.heap.size,0,none⟩=some (.int .i64 10):=(World.cell?_of_block (a:=⟨w.heap.size,0,none⟩) (Below.heap_setCell W3 ⟨gb,i,none⟩ _ _ (Ne.symm t4))).trans l8
  have HM4:=Lib.hid hm4
  have HR4:=Lib.hid hr4
  have HW4:=Lib.hid hw4
  clear hm4 hr4 hw4 l0 l2 l5 l6 l7 HM3 HR3 HW3
  generalize (W3.setCell ⟨gb,i,none⟩ (.int .i64 oc)).drew=W4 at *
  go_wp2_with fail
  refine bodyPost_end (results_none rfl _ _ _) rfl ?_
  exact ⟨rfl,L.set i oc,by simp,HR4.out,HW4.out,HM4.out⟩
end Go.Proofs.Tl
namespace Go.Proofs.Tl
open Go Go.RowKit Go.Proofs.Ts
theorem bytes_kept {w w':World} {v:Value} {L:List Int} (h:BytesOf w v L) (hb:∀ k,v.ownBlock=some k→w'.heap[k]?=w.heap[k]?):BytesOf w' v L:=ownsRow_block h hb
theorem bytes_set {w:World} {v:Value} {L:List Int} (h:BytesOf w v L) {g i:Nat} (hg:v.ownBlock=some g) (c:Int):BytesOf (w.setCell ⟨g,i,none⟩ (.int .u8 c)) v (L.set i c):=by
 have:=row_set (k:=i) h hg (.int .u8 c)
 unfold BytesOf
 rw [List.length_set,List.map_set]
 exact this
set_option maxRecDepth 100000 in
set_option maxHeartbeats 4000000 in
theorem marks_byt (o:OpE) (hf:o.Fits) (wb:Nat) (w:World) (N:List BytE) (xv mv bv nv:Value) (hub:w.heap[wb]?=some (.cells #[xv,mv,bv,nv] 32 (0,0))) (hrow:w.ownsRow 0 67 2 nv N.length (bytCells N))
  (hk:o.kind=11) (hN:0 < N.length) (hN2:N.length≤1000000) (e:BytE) (he:N[pickL o.a N.length]?=some e) (hr:BytesOf w e.real e.L) (hw:BytesOf w e.want e.L) (hne:∀ k,e.real.ownBlock=some k→e.want.ownBlock≠some k) (hl:e.L.length≤1000000) :
  Calls Tryz.prog 20 #[ptrV wb,opV o] w fun e' w'=>e' = .returned (.tuple #[]) ∧ ∃ L',L'.length=e.L.length∧BytesOf w' e.real L'∧BytesOf w' e.want L'∧Mod (fun k=>e.real.ownBlock=some k∨e.want.ownBlock=some k) w w':=by
 obtain ⟨kd,oa,ob,oc,qk,qa,qb,qn,dv,docs,os⟩:=o
 simp only at hk he
 subst hk
 obtain ⟨g,cap,rfl,c1,c2⟩:=bytCell_at hrow he
 obtain ⟨rv,wv,L⟩:=e
 simp only at c1 c2 hr hw hne hl ⊢
 obtain ⟨ra,rc,rfl⟩:=ownsRow_form hr
 obtain ⟨va,vc,rfl⟩:=ownsRow_form hw
 obtain ⟨k,hk0⟩:∃ k,k=pickL oa N.length:=⟨_,rfl⟩
 rw [← hk0] at he c1 c2
 have hkl:k < N.length:=(List.getElem?_eq_some_iff.1 he).1
 have hpick:=fun W=>pick_law oa N.length W hf.a ⟨hN,hN2⟩
 rw [← hk0] at hpick
 have HPICK:=Lib.hid hpick
 obtain ⟨W,hW⟩:∃ W,W=w.alloc (.cells (OpE.mk 11 oa ob oc qk qa qb qn dv docs os).cells 37):=⟨_,rfl⟩
 have hB:Below w.heap.size w W:=by rw [hW]; exact (Below.refl w.heap.size w).alloc (Nat.le_refl _) _
 have hop:W.heap[w.heap.size]?=some (.cells (OpE.mk 11 oa ob oc qk qa qb qn dv docs os).cells 37 (0,0)):=by rw [hW]; exact heap_alloc_new w _
 have hub1:W.heap[wb]?=some (.cells #[xv,mv,bv,.slice (some ⟨g,0,none⟩) N.length cap] 32 (0,0)):=(hB.block wb (lt_of_heap hub)).trans hub
 have d1:=(hB.cell (p:=⟨g,2 * k,none⟩) (lt_of_cell c1)).trans c1
 have d2:=(hB.cell (p:=⟨g,2 * k+1,none⟩) (lt_of_cell c2)).trans c2
 have hr1:BytesOf W (.slice ra L.length rc) L:=bytes_kept hr fun k e=>hB.block k (hr.lt k e).2
 have hw1:BytesOf W (.slice va L.length vc) L:=bytes_kept hw fun k e=>hB.block k (hw.lt k e).2
 have z2:k * 2=2 * k:=by omega
 have zi:(0:Int)≤(k:Int)∧(k:Int) < (N.length:Int):=by omega
 have h2:W.cell? ⟨wb,3,none⟩=some (.slice (some ⟨g,0,none⟩) N.length cap):=cell_block hub1
 have p0:W.cell? ⟨w.heap.size,0,none⟩=some (.int .i64 11):=cell_block hop
 have p1:W.cell? ⟨w.heap.size,1,none⟩=some (.int .i64 oa):=cell_block hop
 have p2:W.cell? ⟨w.heap.size,2,none⟩=some (.int .i64 ob):=cell_block hop
 have p3:W.cell? ⟨w.heap.size,3,none⟩=some (.int .i64 oc):=cell_block hop
 have hgN:decide ((0:Int) < (N.length:Int))=true:=decide_eq_true (by omega)
 have HB:=Lib.hid hB
 have HR1:=Lib.hid hr1
 have HW1:=Lib.hid hw1
 have HNE:=Lib.hid hne
 have HUB1:=Lib.hid hub1
 have hrow1:W.ownsRow 0 67 2 (.slice (some ⟨g,0,none⟩) N.length cap) N.length (bytCells N):=ownsRow_block hrow fun k e=>hB.block k (hrow.lt k e).2
 have HROW1:=Lib.hid hrow1
 clear hrow1
 have HOP:=Lib.hid hop
 have HF:=Lib.hid hf
 clear hub hub1 hrow hr hw hr1 hw1 hne hop hB c1 c2 hk0 hpick he hf
 unfold ptrV opV OpE.cells strV at *
 simp only at hW HF ⊢
 go_enter Tryz.func20,Tryz.ntmps20
 go_upto_region 1 with fail
 rw [← hW]
 clear hW
 go_upto_region 9 with fail
 go_quiet ((go_at_call 21; exact Calls.quiet_of_same (HPICK.out _)))
 have HS:=Lib.hid (Same.drewN W nq)
 by_cases hl0:L.length=0
 ·rw [hl0] at d1 d2
  go_wp2_with fail
  refine bodyPost_end (results_none rfl _ _ _) rfl ?_
  obtain rfl:L=[]:=List.eq_nil_of_length_eq_zero hl0
  exact ⟨rfl,bytes_kept HR1.out (fun k _=>rfl),bytes_kept HW1.out (fun k _=>rfl),(below_mod HB.out).trans (Mod.same HS.out)⟩
 ·have hgL:decide ((0:Int) < (L.length:Int))=true:=decide_eq_true (by omega)
  obtain ⟨i,hi0⟩:∃ i,i=pickL ob L.length:=⟨_,rfl⟩
  have hil:i < L.length:=by rw [hi0]; exact pickL_lt _ (by omega)
  have hpick2:=fun W=>pick_law ob L.length W HF.out.b ⟨by omega,by omega⟩
  rw [← hi0] at hpick2
  have HPICK2:=Lib.hid hpick2
  clear hpick2 hi0
  obtain ⟨ga,cpa,ea,ca0,fa0⟩:=HR1.out.cellAt hil
  simp only [Value.slice.injEq] at ea
  obtain ⟨rfl,_,rfl⟩:=ea
  obtain ⟨gb,cpb,eb,cb0,fb0⟩:=HW1.out.cellAt hil
  simp only [Value.slice.injEq] at eb
  obtain ⟨rfl,_,rfl⟩:=eb
  have zj:(0:Int)≤(i:Int)∧(i:Int) < (L.length:Int):=by omega
  have hga:ga≠gb:=fun h=>HNE.out ga rfl (by rw [h]; rfl)
  generalize L.getD i 0=Av at *
  go_upto_region 13 with (go_at_call 21; refine (HPICK2.out _).mono ?_; rintro e w' ⟨rfl,rfl⟩)
  have HR2:Hid (BytesOf (W.drewN nq) (.slice (some ⟨ga,0,none⟩) L.length rc) L):=Lib.hid (bytes_kept HR1.out fun k _=>rfl)
  have HW2:Hid (BytesOf (W.drewN nq) (.slice (some ⟨gb,0,none⟩) L.length vc) L):=Lib.hid (bytes_kept HW1.out fun k _=>rfl)
  have HM2:Hid (Mod (fun k=>(Value.slice (some ⟨ga,0,none⟩) L.length rc).ownBlock=some k∨(Value.slice (some ⟨gb,0,none⟩) L.length vc).ownBlock=some k) w (W.drewN nq)):=Lib.hid ((below_mod HB.out).trans (Mod.same HS.out))
  have HH2:Hid ((W.drewN nq).heap=W.heap):=Lib.hid rfl
  have k0:(W.drewN nq).cell? ⟨wb,3,none⟩=some (.slice (some ⟨g,0,none⟩) N.length cap):=h2
  have k1:(W.drewN nq).cell? ⟨g,2 * k,none⟩=some (.slice (some ⟨ga,0,none⟩) L.length rc):=d1
  have k2:(W.drewN nq).cell? ⟨w.heap.size,3,none⟩=some (.int .i64 oc):=p3
  have k3:(W.drewN nq).cell? ⟨ga,i,none⟩=some (.int .u8 Av):=ca0
  have k4:(W.drewN nq).frozen? ⟨ga,i,none⟩=false:=fa0
  have k5:(W.drewN nq).cell? ⟨g,2 * k+1,none⟩=some (.slice (some ⟨gb,0,none⟩) L.length vc):=d2
  have k6:(W.drewN nq).cell? ⟨gb,i,none⟩=some (.int .u8 Av):=cb0
  have k7:(W.drewN nq).frozen? ⟨gb,i,none⟩=false:=fb0
  have t1:ga≠wb:=fun h=>by
   subst h
   have:=ownsRow_type HR1.out rfl HUB1.out
   revert this
   decide
  have t2:ga≠w.heap.size:=fun h=>by
   subst h
   have:=ownsRow_type HR1.out rfl HOP.out
   revert this
   decide
  have t4:gb≠w.heap.size:=fun h=>by
   subst h
   have:=ownsRow_type HW1.out rfl HOP.out
   revert this
   decide
  have k8:(W.drewN nq).cell? ⟨w.heap.size,0,none⟩=some (.int .i64 11):=p0
  have t3:ga≠g:=fun h=>by
   subst h
   obtain ⟨cur,hcur⟩:=ownsRow_cells HROW1.out rfl
   have:=ownsRow_type HR1.out rfl hcur
   revert this
   decide
  generalize W.drewN nq=W2 at *
  clear h2 d1 d2 p0 p1 p2 p3 ca0 cb0 fa0 fb0
  refine wp_region_ordX [(0,false),(1,false),(2,false),(3,false),(4,false),(5,false),(6,false),(7,false),(8,false),(9,false),(10,false),(11,false),(12,false),(13,true)] 13
   (fun w'=>w'.cell? ⟨wb,3,none⟩=some (.slice (some ⟨g,0,none⟩) N.length cap)∧w'.cell? ⟨g,2 * k,none⟩=some (.slice (some ⟨ga,0,none⟩) L.length rc)∧w'.cell? ⟨w.heap.size,3,none⟩=some (.int .i64 oc)) (by kernel_rfl) (by kernel_rfl) ⟨k0,k1,k2⟩ ?_
  iterate 13 (
   refine wpOrd_quiet ?_ rfl rfl (fun w' hS=>?_) ?_
   rotate_left
   ·obtain ⟨f0,f1,f2⟩:=hS
    go_simp
    first | rfl | done
   simp only [put_lit,List.set_cons_succ,List.set_cons_zero])
  refine wpOrd_last rfl rfl (fun K hK=>?_)
  have HK:=Lib.hid hK
  clear hK
  go_simp
  refine HK.out _ _ ?_
  clear HK K
  have hm3:Mod (fun k=>(Value.slice (some ⟨ga,0,none⟩) L.length rc).ownBlock=some k∨(Value.slice (some ⟨gb,0,none⟩) L.length vc).ownBlock=some k) w (W2.setCell ⟨ga,i,none⟩ (.int .u8 (IntKind.u8.wrap oc))).drew:=(HM2.out.trans (Mod.setCell W2 ⟨ga,i,none⟩ (.int .u8 (IntKind.u8.wrap oc)) fun _ => .inl rfl)).trans (Mod.same (Same.drew (W2.setCell ⟨ga,i,none⟩ (.int .u8 (IntKind.u8.wrap oc)))))
  have hr3:BytesOf (W2.setCell ⟨ga,i,none⟩ (.int .u8 (IntKind.u8.wrap oc))).drew (.slice (some ⟨ga,0,none⟩) L.length rc) (L.set i (IntKind.u8.wrap oc)):=by
   have:=bytes_set (i:=i) HR2.out (g:=ga) rfl (IntKind.u8.wrap oc)
   exact bytes_kept this fun k _=>rfl
  have hother:∀ (b j:Nat),b≠ga→(W2.setCell ⟨ga,i,none⟩ (.int .u8 (IntKind.u8.wrap oc))).drew.heap[b]?=W2.heap[b]?:=fun b j hb=>Below.heap_setCell W2 _ _ b hb
  have hw3:BytesOf (W2.setCell ⟨ga,i,none⟩ (.int .u8 (IntKind.u8.wrap oc))).drew (.slice (some ⟨gb,0,none⟩) L.length vc) L:=bytes_kept HW2.out fun k e=>hother k 0 (fun h=>hga ((Option.some.inj e).trans h).symm)
  have cellO:∀ b j v,b≠ga→W2.cell? ⟨b,j,none⟩=some v→(W2.setCell ⟨ga,i,none⟩ (.int .u8 (IntKind.u8.wrap oc))).drew.cell? ⟨b,j,none⟩=some v:=fun b j v hb hv=>(World.cell?_of_block (a:=⟨b,j,none⟩) (hother b j hb)).trans hv
  have l0:=cellO _ _ _ (Ne.symm t1) k0
  have l2:=cellO _ _ _ (Ne.symm t2) k2
  have l8:=cellO _ _ _ (Ne.symm t2) k8
  have l5:=cellO _ _ _ (Ne.symm t3) k5
  have l6:=cellO _ _ _ (Ne.symm hga) k6
  have l7:(W2.setCell ⟨ga,i,none⟩ (.int .u8 (IntKind.u8.wrap oc))).drew.frozen? ⟨gb,i,none⟩=false:=(World.frozen?_of_block (a:=⟨gb,i,none⟩) (hother gb i (Ne.symm hga))).trans k7
  have HM3:=Lib.hid hm3
  have HR3:=Lib.hid hr3
  have HW3:=Lib.hid hw3
  clear hm3 hr3 hw3 hother cellO k8 k0 k1 k2 k3 k4 k5 k6 k7 HR2 HW2 HM2 HH2
  generalize (W2.setCell ⟨ga,i,none⟩ (.int .u8 (IntKind.u8.wrap oc))).drew=W3 at *
  go_upto_region 14 with fail
  refine wp_region_ordX [(0,false),(1,false),(2,false),(3,false),(4,false),(5,false),(6,false),(7,false),(8,false),(9,false),(10,false),(11,false),(12,false),(13,true)] 13
   (fun w'=>w'.cell? ⟨wb,3,none⟩=some (.slice (some ⟨g,0,none⟩) N.length cap)∧w'.cell? ⟨g,2 * k+1,none⟩=some (.slice (some ⟨gb,0,none⟩) L.length vc)∧w'.cell? ⟨w.heap.size,3,none⟩=some (.int .i64 oc)) (by kernel_rfl) (by kernel_rfl) ⟨l0,l5,l2⟩ ?_
  iterate 13 (
   refine wpOrd_quiet ?_ rfl rfl (fun w' hS=>?_) ?_
   rotate_left
   ·obtain ⟨f0,f1,f2⟩:=hS
    go_simp
    first | rfl | done
   simp only [put_lit,List.set_cons_succ,List.set_cons_zero])
  refine wpOrd_last rfl rfl (fun K hK=>?_)
  have HK:=Lib.hid hK
  clear hK
  go_simp
  refine HK.out _ _ ?_
  clear HK K
  have hm4:Mod (fun k=>(Value.slice (some ⟨ga,0,none⟩) L.length rc).ownBlock=some k∨(Value.slice (some ⟨gb,0,none⟩) L.length vc).ownBlock=some k) w (W3.setCell ⟨gb,i,none⟩ (.int .u8 (IntKind.u8.wrap oc))).drew:=(HM3.out.trans (Mod.setCell W3 ⟨gb,i,none⟩ (.int .u8 (IntKind.u8.wrap oc)) fun _ => .inr rfl)).trans (Mod.same (Same.drew (W3.setCell ⟨gb,i,none⟩ (.int .u8 (IntKind.u8.wrap oc)))))
  have hw4:BytesOf (W3.setCell ⟨gb,i,none⟩ (.int .u8 (IntKind.u8.wrap oc))).drew (.slice (some ⟨gb,0,none⟩) L.length vc) (L.set i (IntKind.u8.wrap oc)):=by
   have:=bytes_set (i:=i) HW3.out (g:=gb) rfl (IntKind.u8.wrap oc)
   exact bytes_kept this fun k _=>rfl
  have hr4:BytesOf (W3.setCell ⟨gb,i,none⟩ (.int .u8 (IntKind.u8.wrap oc))).drew (.slice (some ⟨ga,0,none⟩) L.length rc) (L.set i (IntKind.u8.wrap oc)):=by
   have hll:(Value.slice (some ⟨ga,0,none⟩) L.length rc).ownBlock=some ga:=rfl
   exact bytes_kept HR3.out fun k e=>(Below.heap_setCell W3 _ _ k (fun h=>hga ((Option.some.inj (hll.symm.trans e)).trans h)))
  have l8:(W3.setCell ⟨gb,i,none⟩ (.int .u8 (IntKind.u8.wrap oc))).drew.cell? ⟨w.heap.size,0,none⟩=some (.int .i64 11):=(World.cell?_of_block (a:=⟨w.heap.size,0,none⟩) (Below.heap_setCell W3 ⟨gb,i,none⟩ _ _ (Ne.symm t4))).trans l8
  have HM4:=Lib.hid hm4
  have HR4:=Lib.hid hr4
  have HW4:=Lib.hid hw4
  clear hm4 hr4 hw4 l0 l2 l5 l6 l7 HM3 HR3 HW3
  generalize (W3.setCell ⟨gb,i,none⟩ (.int .u8 (IntKind.u8.wrap oc))).drew=W4 at *
  go_wp2_with fail
  refine bodyPost_end (results_none rfl _ _ _) rfl ?_
  exact ⟨rfl,L.set i (IntKind.u8.wrap oc),by simp,HR4.out,HW4.out,HM4.out⟩
end Go.Proofs.Tl
namespace Go.Proofs.Tl
open Go Go.RowKit Go.Proofs.Ts
theorem numCells_set:∀ (N:List NumE) (i:Nat) (e:NumE) (L:List Int),N[i]?=some e→numCells (N.set i { e with L:=L })=numCells N
 | [],i,e,L,h=>by simp at h
 | a :: N,0,e,L,h=>by
  simp at h
  subst h
  rfl
 | a :: N,i+1,e,L,h=>by
  have ih:=numCells_set N i e L (by simpa using h)
  unfold numCells at *
  simp only [List.set_cons_succ,List.flatMap_cons,ih]
theorem bytCells_set:∀ (N:List BytE) (i:Nat) (e:BytE) (L:List Int),N[i]?=some e→bytCells (N.set i { e with L:=L })=bytCells N
 | [],i,e,L,h=>by simp at h
 | a :: N,0,e,L,h=>by
  simp at h
  subst h
  rfl
 | a :: N,i+1,e,L,h=>by
  have ih:=bytCells_set N i e L (by simpa using h)
  unfold bytCells at *
  simp only [List.set_cons_succ,List.flatMap_cons,ih]
section
variable {w w':World} {own:Nat→Option Tag} {wb:Nat} {S:List SegE} {N:List NumE} {Bs:List BytE} {Env:World→Prop}
theorem Player.num (h:Player w own wb S N Bs Env) {i:Nat} {e:NumE} (he:N[i]?=some e) {L':List Int} (hl:L'.length=e.L.length) (hr:IntsOf w' e.real L') (hw:IntsOf w' e.want L') (hm:Mod (fun k=>e.real.ownBlock=some k∨e.want.ownBlock=some k) w w') :
  ∃ own',Player w' own' wb S (N.set i { e with L:=L' }) Bs Env:=by
 have ho:=h.nums i e he
 have hil:=(List.getElem?_eq_some_iff.1 he).1
 have hfix:¬ Fix 3:=by decide
 obtain ⟨own',hs,ht,hn⟩:=Step.make (T:=fun t=>t = .real i∨t = .want i) (w:=w) (w':=w') (own:=own) h.dom hm.size (iOq.mod hm)
  (fun k hk hno=>hm.block k hk fun hc=>by
   rcases hc with hc | hc
   ·exact hno _ (ho.rtag k hc) (.inl rfl)
   ·exact hno _ (ho.wtag k hc) (.inr rfl))
  (fun k=>if e.want.ownBlock=some k then 1 else 0) [(.real i,e.real.ownBlock,0),(.want i,e.want.ownBlock,1)]
  (fun p hp k hk=>by
   rcases List.mem_cons.1 hp with rfl | hp
   ·have hrt:=ho.rtag k hk
    refine ⟨.inr ⟨hrt,.inl rfl⟩,(hr.lt k hk).2,Soft.row hr hfix hk,if_neg fun hc=>?_⟩
    have:=ho.wtag k hc
    rw [hrt] at this
    cases this
   ·obtain rfl:=List.mem_singleton.1 hp
    exact ⟨.inr ⟨ho.wtag k hk,.inr rfl⟩,(hw.lt k hk).2,Soft.row hw hfix hk,if_pos hk⟩)
  (by simp)
 obtain ⟨xv,mv,nv,bv,h1,h2,h3,h4,h5⟩:=h.hub
 refine ⟨own',hs.dom,hs.softs h.soft,hs.box h.env,(hs.keep _ _ h.tag (by simp)).1,⟨xv,mv,nv,bv,(hs.keep _ _ h.tag (by simp)).2.trans h1,h2.step hs (by simp),h3.step hs (by simp),?_,h5.step hs (by simp)⟩,
  fun j f hj=>(h.segs j f hj).step hs h.soft (by simp) (by simp),fun j f hj=>?_,fun j f hj=>(h.byts j f hj).step hs (by simp) (by simp)⟩
 ·rw [List.length_set,numCells_set N i e L' he]
  exact h4.step hs (by simp)
 ·rw [List.getElem?_set] at hj
  split at hj
  ·rename_i hij
   subst hij
   cases hj
   exact ⟨hr,hw,fun k hk=>ht _ List.mem_cons_self k hk,fun k hk=>ht _ (List.mem_cons_of_mem _ List.mem_cons_self) k hk,by simp only; rw [hl]; exact ho.few⟩
  ·rename_i hij
   exact (h.nums j f hj).step hs (by simp; omega) (by simp; omega)
theorem Player.byt (h:Player w own wb S N Bs Env) {i:Nat} {e:BytE} (he:Bs[i]?=some e) {L':List Int} (hl:L'.length=e.L.length) (hr:BytesOf w' e.real L') (hw:BytesOf w' e.want L') (hm:Mod (fun k=>e.real.ownBlock=some k∨e.want.ownBlock=some k) w w') :
  ∃ own',Player w' own' wb S N (Bs.set i { e with L:=L' }) Env:=by
 have ho:=h.byts i e he
 have hil:=(List.getElem?_eq_some_iff.1 he).1
 have hfix:¬ Fix 5:=by decide
 obtain ⟨own',hs,ht,hn⟩:=Step.make (T:=fun t=>t = .breal i∨t = .bwant i) (w:=w) (w':=w') (own:=own) h.dom hm.size (iOq.mod hm)
  (fun k hk hno=>hm.block k hk fun hc=>by
   rcases hc with hc | hc
   ·exact hno _ (ho.rtag k hc) (.inl rfl)
   ·exact hno _ (ho.wtag k hc) (.inr rfl))
  (fun k=>if e.want.ownBlock=some k then 1 else 0) [(.breal i,e.real.ownBlock,0),(.bwant i,e.want.ownBlock,1)]
  (fun p hp k hk=>by
   rcases List.mem_cons.1 hp with rfl | hp
   ·have hrt:=ho.rtag k hk
    refine ⟨.inr ⟨hrt,.inl rfl⟩,(hr.lt k hk).2,Soft.row hr hfix hk,if_neg fun hc=>?_⟩
    have:=ho.wtag k hc
    rw [hrt] at this
    cases this
   ·obtain rfl:=List.mem_singleton.1 hp
    exact ⟨.inr ⟨ho.wtag k hk,.inr rfl⟩,(hw.lt k hk).2,Soft.row hw hfix hk,if_pos hk⟩)
  (by simp)
 obtain ⟨xv,mv,nv,bv,h1,h2,h3,h4,h5⟩:=h.hub
 refine ⟨own',hs.dom,hs.softs h.soft,hs.box h.env,(hs.keep _ _ h.tag (by simp)).1,⟨xv,mv,nv,bv,(hs.keep _ _ h.tag (by simp)).2.trans h1,h2.step hs (by simp),h3.step hs (by simp),h4.step hs (by simp),?_⟩,
  fun j f hj=>(h.segs j f hj).step hs h.soft (by simp) (by simp),fun j f hj=>(h.nums j f hj).step hs (by simp) (by simp),fun j f hj=>?_⟩
 ·rw [List.length_set,bytCells_set Bs i e L' he]
  exact h5.step hs (by simp)
 ·rw [List.getElem?_set] at hj
  split at hj
  ·rename_i hij
   subst hij
   cases hj
   exact ⟨hr,hw,fun k hk=>ht _ List.mem_cons_self k hk,fun k hk=>ht _ (List.mem_cons_of_mem _ List.mem_cons_self) k hk,by simp only; rw [hl]; exact ho.few⟩
  ·rename_i hij
   exact (h.byts j f hj).step hs (by simp; omega) (by simp; omega)
end
theorem marks_player (o:OpE) (hf:o.Fits) (n wb:Nat) (Env:World→Prop) (w:World) (h:Plays n w wb Env) (hn:n≤1000000) :
  Calls Tryz.prog 20 #[ptrV wb,opV o] w fun e w'=>e = .returned (.tuple #[])∧Plays n w' wb Env:=by
 obtain ⟨own,S,N,Bs,h1,h2,h3,h4⟩:=h
 obtain ⟨xv,mv,nv,bv,k1,k2,k3,k4,k5⟩:=h4.hub
 obtain ⟨na,nc,rfl⟩:=ownsRow_form k4.1
 obtain ⟨ba,bc,rfl⟩:=ownsRow_form k5.1
 by_cases c10:o.kind=10∧0 < N.length
 ·have hl:=pickL_lt o.a c10.2
  obtain ⟨e,he⟩:∃ e,N[pickL o.a N.length]?=some e:=⟨_,List.getElem?_eq_getElem hl⟩
  have ho:=h4.nums _ e he
  refine (marks_num o hf wb w N xv mv _ _ k1 k4.1 c10.1 c10.2 (by omega) e he ho.real ho.want (fun k a b=>?_) ho.few).mono ?_
  ·have h1:=ho.rtag k a
   rw [ho.wtag k b] at h1
   cases h1
  ·rintro e' w' ⟨rfl,L',g1,g2,g3,g4⟩
   obtain ⟨own',h5⟩:=h4.num he g1 g2 g3 g4
   exact ⟨rfl,own',S,_,Bs,h1,by simpa using h2,h3,h5⟩
 ·by_cases c11:o.kind=11∧0 < Bs.length
  ·have hl:=pickL_lt o.a c11.2
   obtain ⟨e,he⟩:∃ e,Bs[pickL o.a Bs.length]?=some e:=⟨_,List.getElem?_eq_getElem hl⟩
   have ho:=h4.byts _ e he
   refine (marks_byt o hf wb w Bs xv mv _ _ k1 k5.1 c11.1 c11.2 (by omega) e he ho.real ho.want (fun k a b=>?_) ho.few).mono ?_
   ·have h1:=ho.rtag k a
    rw [ho.wtag k b] at h1
    cases h1
   ·rintro e' w' ⟨rfl,L',g1,g2,g3,g4⟩
    obtain ⟨own',h5⟩:=h4.byt he g1 g2 g3 g4
    exact ⟨rfl,own',S,N,_,h1,h2,by simpa using h3,h5⟩
  ·refine (marks_none o wb w N.length Bs.length xv mv na ba nc bc k1 (fun h=>?_) (fun h=>?_)).mono ?_
   ·rcases Nat.eq_zero_or_pos N.length with h0 | h0
    ·exact h0
    ·exact absurd ⟨h,h0⟩ c10
   ·rcases Nat.eq_zero_or_pos Bs.length with h0 | h0
    ·exact h0
    ·exact absurd ⟨h,h0⟩ c11
   ·rintro e' w' ⟨rfl,hb⟩
    obtain ⟨own',h5⟩:=h4.below hb
    exact ⟨rfl,own',S,N,Bs,h1,h2,h3,h5⟩
end Go.Proofs.Tl
namespace Go.Proofs.Tl
open Go Go.RowKit Go.Proofs.Ts
theorem rowsIn_typed {B:Nat} {w w':World} {V:Value} {D:List DS} (h:Ts.RowsIn B w V D) (hk:∀ (k:Nat) cs t r,w.heap[k]?=some (.cells cs t r)→Fix t→w'.heap[k]?=w.heap[k]?):Ts.RowsIn B w' V D :=
 ⟨ownsRow_typed h.row fun k cs r hk'=>hk _ _ _ _ hk' (by decide),h.past,fun i s hi=>ownsRow_typed (h.erow i s hi) fun k cs r hk'=>hk _ _ _ _ hk' (by decide),h.epast,h.apart,h.apartV⟩
theorem dict_typed {w w':World} {db:Nat} {R:Nat→Prop} {Λ:Nat→List Word} {ρ:Nat→Nat} {D:List DS} (h:DictIs w db R Λ ρ D) (hk:∀ (k:Nat) cs t r,w.heap[k]?=some (.cells cs t r)→Fix t→w'.heap[k]?=w.heap[k]?):DictIs w' db R Λ ρ D:=by
 obtain ⟨V,h1,h2⟩:=h.mem
 exact ⟨⟨V,(hk _ _ _ _ h1 (by decide)).trans h1,rowsIn_typed h2 hk⟩,h.root,h.state⟩
theorem index_base {B C:Nat} {w:World} {mb:Nat} {D:List (List (List UInt8))} (h:IndexOf B w mb D) (hb:C≤B):IndexOf C w mb D:=by
 obtain ⟨T,h1,h2,h3⟩:=h
 obtain ⟨tv,pv,ps,a1,a2,a3,a4,a5,a6,a7⟩:=h3.ex
 exact ⟨T,h1,h2,Nat.le_trans hb h3.le,tv,pv,ps,a1,a2,fun k e=>Nat.le_trans hb (a3 k e),a4,fun k e=>Nat.le_trans hb (a5 k e),fun i v x hv hx=>⟨(a6 i v x hv hx).1,fun k e=>Nat.le_trans hb ((a6 i v x hv hx).2 k e)⟩,a7⟩
theorem index_kept {B:Nat} {w w':World} {mb:Nat} {D:List (List (List UInt8))} (h:IndexOf B w mb D) (hk:∀ k,B≤k→k < w.heap.size→w'.heap[k]?=w.heap[k]?):IndexOf B w' mb D:=by
 obtain ⟨T,h1,h2,h3⟩:=h
 exact ⟨T,h1,h2,h3.kept hk⟩
section
variable {w w1 w2 w3:World} {own:Nat→Option Tag} {wb:Nat} {S:List SegE} {N:List NumE} {Bs:List BytE} {Env:World→Prop}
theorem Player.joined (h:Player w own wb S N Bs Env) {sb mb:Nat} {D:List (List (List UInt8))} {xv mv nv bv xv' mv':Value} (hub:w.heap[wb]?=some (.cells #[xv,mv,nv,bv] 32 (0,0)))
  (hb1:Below w.heap.size w w1) (hsb:w.heap.size≤sb) (hseg:SegFar w.heap.size w1 sb D (.map none)) (hb2:Below w1.heap.size w1 w2) (hidx:IndexOf w1.heap.size w2 mb D) (hD:D.length≤48)
  (hub3:w3.heap[wb]?=some (.cells #[xv',mv',nv,bv] 32 (0,0))) (hx3:w3.ownsRow 0 49 1 xv' (S.length+1) ((S.map fun e=>ptrV e.sb)++[ptrV sb])) (hxp:∀ k,xv'.ownBlock=some k→xv.ownBlock=some k∨w2.heap.size≤k)
  (hm3:w3.ownsRow 0 50 1 mv' (S.length+1) ((S.map fun e=>ptrV e.mb)++[ptrV mb])) (hmp:∀ k,mv'.ownBlock=some k→mv.ownBlock=some k∨w2.heap.size≤k) (hm:Mod (fun k=>k=wb∨xv.ownBlock=some k∨mv.ownBlock=some k) w2 w3) :
  ∃ own',Player w3 own' wb (S++[⟨sb,mb,D,.map none⟩]) N Bs Env:=by
 obtain ⟨xv0,mv0,nv0,bv0,k1,k2,k3,k4,k5⟩:=h.hub
 rw [hub] at k1
 cases k1
 have hz1:=hb1.size
 have hz2:=hb2.size
 have hz3:=hm.size
 have hwb:=lt_of_heap hub
 have old:∀ k,k < w.heap.size→own k=some .hub∨own k=some .xs∨own k=some .ms∨w3.heap[k]?=w.heap[k]?:=fun k hk=>by
  by_cases hc:k=wb∨xv.ownBlock=some k∨mv.ownBlock=some k
  ·rcases hc with rfl | hc | hc
   ·exact .inl h.tag
   ·exact .inr (.inl (k2.2 k hc))
   ·exact .inr (.inr (.inl (k3.2 k hc)))
  ·exact .inr (.inr (.inr ((hm.block k (by omega) hc).trans ((hb2.block k (by omega)).trans (hb1.block k hk)))))
 have nw:∀ k,w.heap.size≤k→k < w2.heap.size→w3.heap[k]?=w2.heap[k]?:=fun k hk hk2=>hm.block k hk2 fun hc=>by
  rcases hc with rfl | hc | hc
  ·omega
  ·have:=(k2.1.lt k hc).2
   omega
  ·have:=(k3.1.lt k hc).2
   omega
 obtain ⟨db,R,Λ,ρ,Dd,pv,ps,hfar,hsg⟩:=id hseg
 have hsb1:=lt_of_heap hsg.1
 have hsg3:w3.heap[sb]?=some (segObj D.length db pv 0 (.map none)):=(nw sb hsb (by omega)).trans ((hb2.block sb hsb1).trans hsg.1)
 obtain ⟨own',hs,ht,hn⟩:=Step.make (T:=fun t=>t = .hub∨t = .xs∨t = .ms) (w:=w) (w':=w3) (own:=own) h.dom (by omega) (((iOq.below hb1).trans (iOq.below hb2)).trans (iOq.mod hm))
  (fun k hk hno=>by
   rcases old k hk with hc | hc | hc | hc
   ·exact absurd (.inl rfl) (hno _ hc)
   ·exact absurd (.inr (.inl rfl)) (hno _ hc)
   ·exact absurd (.inr (.inr rfl)) (hno _ hc)
   ·exact hc)
  (tyNo w3) [(.hub,some wb,32+1),(.xs,xv'.ownBlock,49+1),(.ms,mv'.ownBlock,50+1),(.seg S.length,some sb,168+1)]
  (fun p hp k hk=>by
   simp only [List.mem_cons,List.not_mem_nil,or_false] at hp
   rcases hp with rfl | rfl | rfl | rfl
   ·cases hk
    exact ⟨.inr ⟨h.tag,.inl rfl⟩,lt_of_heap hub3,Soft.cells hub3 (by decide),tyNo_cells hub3⟩
   ·refine ⟨?_,(hx3.lt k hk).2,Soft.row hx3 (by decide) hk,tyNo_row hx3 hk⟩
    rcases hxp k hk with hc | hc
    ·exact .inr ⟨k2.2 k hc,.inr (.inl rfl)⟩
    ·exact .inl (by omega)
   ·refine ⟨?_,(hm3.lt k hk).2,Soft.row hm3 (by decide) hk,tyNo_row hm3 hk⟩
    rcases hmp k hk with hc | hc
    ·exact .inr ⟨k3.2 k hc,.inr (.inr rfl)⟩
    ·exact .inl (by omega)
   ·cases hk
    exact ⟨.inl hsb,lt_of_heap hsg3,Soft.cells hsg3 (by decide),tyNo_cells hsg3⟩)
  (by simp)
 have tg:∀ p∈[(Tag.hub,some wb,32+1),(.xs,xv'.ownBlock,49+1),(.ms,mv'.ownBlock,50+1),(.seg S.length,some sb,168+1)],∀ k,p.2.1=some k→own' k=some p.1:=ht
 have fresh:∀ k,w.heap.size≤k→own' k≠none→k=sb∨w2.heap.size≤k:=fun k hk hc=>by
  rcases hn k hc with ⟨t,h1,_⟩ | ⟨p,hp,hpk⟩
  ·have:=h.dom k (by rw [h1]; simp)
   omega
  ·simp only [List.mem_cons,List.not_mem_nil,or_false] at hp
   rcases hp with rfl | rfl | rfl | rfl
   ·cases hpk
    omega
   ·rcases hxp k hpk with hc | hc
    ·have:=(k2.1.lt k hc).2
     omega
    ·exact .inr hc
   ·rcases hmp k hpk with hc | hc
    ·have:=(k3.1.lt k hc).2
     omega
    ·exact .inr hc
   ·cases hpk
    exact .inl rfl
 have hsoft:=hs.softs h.soft
 refine ⟨own',hs.dom,hsoft,hs.box h.env,tg _ List.mem_cons_self wb rfl,⟨xv',mv',nv,bv,hub3,⟨?_,fun k hk=>tg (.xs,xv'.ownBlock,49+1) (by simp) k hk⟩,⟨?_,fun k hk=>tg (.ms,mv'.ownBlock,50+1) (by simp) k hk⟩,k4.step hs (by simp),k5.step hs (by simp)⟩,
  fun j f hj=>?_,fun j f hj=>(h.nums j f hj).step hs (by simp) (by simp),fun j f hj=>(h.byts j f hj).step hs (by simp) (by simp)⟩
 ·rw [List.length_append,List.length_singleton,List.map_append]
  exact hx3
 ·rw [List.length_append,List.length_singleton,List.map_append]
  exact hm3
 ·rcases Nat.lt_or_ge j S.length with hjl | hjl
  ·rw [List.getElem?_append_left hjl] at hj
   exact (h.segs j f hj).step hs h.soft (by simp) (by simp)
  ·rw [List.getElem?_append_right hjl] at hj
   have hj0:j - S.length=0:=by
    have:=(List.getElem?_eq_some_iff.1 hj).1
    simp at this
    omega
   rw [hj0] at hj
   cases hj
   obtain rfl:j=S.length:=by omega
   -- what lies still of the new segment
   have still:∀ W,Keeps (Mut own') w3 W → ∀ (k:Nat) cs t r,w1.heap[k]?=some (.cells cs t r)→Fix t∨(w.heap.size≤k∧k≠sb)→W.heap[k]?=w1.heap[k]?:=fun W hW k cs t r hk hc=>by
    have hk1:=lt_of_heap hk
    have h12:=hb2.block k hk1
    have hno:own' k=none:=Classical.byContradiction fun hno=>by
     rcases hc with hc | ⟨hc,hc2⟩
     ·refine hsoft k hno cs t r ?_ hc
      rcases Nat.lt_or_ge k w.heap.size with hkw | hkw
      ·have hw:w.heap[k]?=some (.cells cs t r):=(hb1.block k hkw).symm.trans hk
       rcases old k hkw with ho | ho | ho | ho
       ·exact absurd hc (h.soft k (by rw [ho]; simp) _ _ _ hw)
       ·exact absurd hc (h.soft k (by rw [ho]; simp) _ _ _ hw)
       ·exact absurd hc (h.soft k (by rw [ho]; simp) _ _ _ hw)
       ·exact ho.trans hw
      ·exact (nw k hkw (by omega)).trans (h12.trans hk)
     ·rcases fresh k hc hno with h' | h'
      ·exact hc2 h'
      ·omega
    have h23:w3.heap[k]?=w2.heap[k]?:=by
     rcases Nat.lt_or_ge k w.heap.size with hkw | hkw
     ·have hon:own k=none:=by
       cases ho:own k with
       | none=>rfl
       | some t0 =>
        have hw:w.heap[k]?=some (.cells cs t r):=(hb1.block k hkw).symm.trans hk
        rcases hc with hc | hc
        ·exact absurd hc (h.soft k (by rw [ho]; simp) _ _ _ hw)
        ·omega
      have:=(hs.rest k hkw hon).1
      exact this.trans ((hb1.block k hkw).symm.trans h12.symm)
     ·exact nw k hkw (by omega)
    exact (hW.block k (by omega) (fun hm=>hm hno)).trans (h23.trans h12)
   refine ⟨⟨db,R,Λ,ρ,Dd,pv,ps,hsg3,fun W hW=>?_⟩,tg (.seg S.length,some sb,168+1) (by simp) sb rfl,(fun k hk=>by cases hk),.inl rfl,fun W hW=>?_,hD⟩
   ·obtain ⟨_,h2,h3,h4,h5,h6,h7,h8⟩:=hsg
    refine ⟨dict_typed h2 fun k cs t r hk hf=>still W hW k cs t r hk (.inl hf),h3,h4,h5,h6,ownsRow_typed h7 fun k cs r hk=>still W hW k cs _ r hk (.inl (by decide)),fun i v x hv hx=>?_⟩
    have h9:=h8 i v x hv hx
    refine ownsRow_block h9 fun k hk=>?_
    obtain ⟨cur,hcur⟩:=ownsRow_cells h9 hk
    refine still W hW k _ _ _ hcur (.inr ⟨hfar v (List.mem_of_getElem? hv) k hk,fun e=>?_⟩)
    subst e
    have:=hsg3
    rw [(nw k hsb (by omega)).trans ((hb2.block k hsb1)),hcur] at this
    cases this
   ·refine index_base (index_kept hidx fun k hk hk2=>?_) (Nat.zero_le _)
    have hno:own' k=none:=Classical.byContradiction fun hno=>by
     rcases fresh k (by omega) hno with h' | h'
     ·omega
     ·omega
    exact (hW.block k (by omega) (fun hm=>hm hno)).trans (nw k (by omega) hk2)
end
end Go.Proofs.Tl
namespace Go.Proofs.Tl
open Go Go.RowKit Go.Proofs.Ts
structure EnvOk (w:World):Prop where
 err:ErrAt w
 bits:BitTab w
 tabs:TabsIn w
theorem strs_below {w w':World} {v:Value} {docs:List ByteArray} (h:StrsIs w v docs) (hb:Below w.heap.size w w'):StrsIs w' v docs:=by
 obtain ⟨a,cap,rfl,hc⟩:=h
 refine ⟨a,cap,rfl,fun i hi=>?_⟩
 obtain ⟨b,off,e,hcell⟩:=hc i hi
 exact ⟨b,off,e,(hb.cell (p:=⟨b,off+i,none⟩) (lt_of_cell hcell)).trans hcell⟩
set_option maxRecDepth 100000 in
set_option maxHeartbeats 4000000 in
theorem built_player (docs:List ByteArray) (dv:Value) (n wb:Nat) (Env:World→Prop) (w:World) (h:Plays n w wb Env) (hn:n≤1000000) (hE:ErrAt w) (hd:StrsIs w dv docs) (hl:docs.length≤1000000) :
  Calls Tryz.prog 15 #[ptrV wb,dv] w fun e w'=>e = .returned (.bool true)∧Plays (n+1) w' wb Env:=by
 have hpb:=plainBuild_law docs dv w hd hl hE.1
 have hrb:=fun W hW=>refBuild_law docs dv W hW hl
 have HP:=Lib.hid h
 have HPB:=Lib.hid hpb
 have HRB:=Lib.hid hrb
 have HD:=Lib.hid hd
 clear h hpb hrb hd
 obtain ⟨bn,hbn⟩:∃ bn,bn=buildNum docs:=⟨_,rfl⟩
 have HBN:=Lib.hid hbn
 clear hbn
 unfold ptrV
 go_enter Tryz.func15,Tryz.ntmps15
 go_upto_region 2 with (go_at_call 34; refine HPB.out.mono ?_; rintro e w1 ⟨hb1,sv,ev,rfl,hbu⟩; have HB1:=Lib.hid hb1; have HBU:=Lib.hid hbu; rw [← HBN.out]; clear hb1 hbu)
 go_upto_region 3 with (go_at_call 35; refine (HRB.out w1 (strs_below HD.out HB1.out)).mono ?_; rintro e w2 ⟨hb2,hru⟩; rw [← HBN.out] at hru; have HB2:=Lib.hid hb2; clear hb2; rcases hru with ⟨hz,rfl⟩ | ⟨hz,mb,rfl,hidx⟩)
 ·have hsv:sv = .pointer none:=by
   rcases HBU.out with ⟨_,h,_⟩ | ⟨h,_⟩
   ·exact h
   ·exact absurd (HBN.out.trans h) hz
  subst hsv
  go_wp2_with fail
  go_ret
  exact ⟨rfl,((HP.out.below HB1.out).below HB2.out).mono (by omega)⟩
 ·subst hz
  obtain ⟨sb,rfl,hsb,hseg⟩:∃ sb,sv=ptrV sb∧w.heap.size≤sb∧SegFar w.heap.size w1 sb (docs.map wordsB) (.map none):=by
   rcases HBU.out with ⟨h,_⟩ | ⟨_,_,h⟩
   ·exact absurd HBN.out.symm h
   ·exact h
  have hD:(docs.map wordsB).length≤48:=by
   have h0:=HBN.out
   unfold buildNum at h0
   split at h0
   ·cases h0
   ·simp; omega
  obtain ⟨own,S,N,Bs,l1,l2,l3,hp⟩:=HP.out
  obtain ⟨own1,hp1⟩:=hp.below HB1.out
  obtain ⟨own2,hp2⟩:=hp1.below HB2.out
  obtain ⟨xv,mv,nv,bv,k1,k2,k3,k4,k5⟩:=hp.hub
  have k1':w2.heap[wb]?=some (.cells #[xv,mv,nv,bv] 32 (0,0)):=(HB2.out.block wb (by have:=lt_of_heap k1; have:=HB1.out.size; omega)).trans ((HB1.out.block wb (lt_of_heap k1)).trans k1)
  have hr:∀ {e size m:Nat} {v:Value} {xs:List Value},w.ownsRow 0 e size v m xs→w2.ownsRow 0 e size v m xs:=fun hr=>ownsRow_block hr fun k e=>(HB2.out.block k (by have:=(hr.lt k e).2; have:=HB1.out.size; omega)).trans (HB1.out.block k (hr.lt k e).2)
  have HJ:=Lib.hid (join_law sb mb wb S.length xv mv nv bv _ _ w2 (by omega) k1' (hr k2.1) (hr k3.1))
  have HIX:=Lib.hid hidx
  have HSG:=Lib.hid (And.intro hsb hseg)
  have HPP:=Lib.hid (And.intro hp k1)
  clear hidx hsb hseg hp k1 k1' hr k2 k3 k4 k5 hp1 hp2 HBU HPB HRB
  unfold ptrV at *
  go_wp2_with (go_at_call 36; refine HJ.out.mono ?_; rintro e w3 ⟨rfl,xv',mv',g1,g2,g3,g4,g5,g6⟩; have HG:=Lib.hid (And.intro g1 (And.intro g2 (And.intro g3 (And.intro g4 (And.intro g5 g6))))); clear g1 g2 g3 g4 g5 g6)
  go_ret
  obtain ⟨g1,g2,g3,g4,g5,g6⟩:=HG.out
  obtain ⟨own',h'⟩:=HPP.out.1.joined HPP.out.2 HB1.out HSG.out.1 HSG.out.2 HB2.out HIX.out hD g1 g2 g3 g4 g5 g6
  exact ⟨rfl,own',_,N,Bs,by simp; omega,by omega,by omega,h'⟩
end Go.Proofs.Tl
