/- Lemmas towards the statement Alike of termsearch: walks of the program's functions and plain laws on lists (TsPlain, TsFixed, TsFound, TsCard, TsCardT, TsCardB, TsLitP, TsLong, TsLitQ, TsWild, TsMachineW, TsCompileW). Conditions: those that each theorem names. -/
import Derived.Test.YtglafkgakcfahaaGreatDoorAlikePS
import Derived.Test.YtglafkgakcfahaaGreatDoorCards
import Derived.Test.YtglafkgakcfahaaGreatDoorTie
import Derived.Test.YtglafkgakcfahaaGreatDoorAlikePE
import Derived.WalkKit
import Derived.ProofKit
import Derived.OpenShut
import Derived.Carry
import Derived.SliceStrings
import Derived.LaidHandle
import Derived.LaidLaws
import Derived.Deep.DeepHandedRow
import Derived.Test.YtglafkgakcfahaaGreatDoorAlikePF
import Derived.Lib.LaidU8T
import Derived.PinnedBridge
import Derived.LaidEql
import Derived.Stop.Asserts
import Derived.RowKitTokens
import Derived.Test.YtglafkgakcfahaaGreatDoorAlikePG
import Derived.Test.YtglafkgakcfahaaGreatDoorAlikePP
import Derived.Test.YtglafkgakcfahaaGreatDoorAlikePQ
import Derived.Test.YtglafkgakcfahaaGreatDoorAlikePI
import Derived.Test.YtglafkgakcfahaaGreatDoorAlikePK
set_option linter.unusedVariables false
set_option linter.unusedSimpArgs false
set_option linter.unusedSectionVars false
namespace Go.Proofs.Ts
open Go Go.RowKit
def Own (ov:Value) (docs:List ByteArray) (w1:World) (k:Nat) (w:World):Prop :=
 Mod (fun b=>ov.ownBlock=some b) w1 w ∧ ∀ og,ov.ownBlock=some og → ∃ cur:Array Value,w.heap[og]?=some (.cells cur 9 (0,0)) ∧ ∀ j (h:j < docs.length),k≤j→cur[j]?=some (.string docs[j])
theorem Own.step {ov:Value} {docs:List ByteArray} {w1 w:World} {k og:Nat} {v:Value} (h:Own ov docs w1 k w) (ho:ov.ownBlock=some og):Own ov docs w1 (k+1) (w.setCell ⟨og,k,none⟩ v):=by
 obtain ⟨h1,h2⟩:=h
 refine ⟨h1.trans (Mod.setCell w ⟨og,k,none⟩ v fun _=>ho),fun og' ho'=>?_⟩
 obtain rfl:og=og':=Option.some.inj (ho.symm.trans ho')
 obtain ⟨cur,h3,h4⟩:=h2 og ho
 refine ⟨_,heap_setCell_same w og k _ _ _ h3,fun j hj hk=>?_⟩
 rw [Array.getElem?_setIfInBounds_ne (by omega)]
 exact h4 j hj (by omega)
theorem Own.same {ov:Value} {docs:List ByteArray} {w1 w w':World} {k:Nat} (h:Own ov docs w1 k w) (hs:Same w w'):Own ov docs w1 k w':=by
 obtain ⟨n,rfl⟩:=hs
 exact ⟨h.1.trans (Mod.same (Same.drewN w n)),h.2⟩
theorem ownsRow_strs {w:World} {ov:Value} {docs:List ByteArray} (h:w.ownsRow 0 9 1 ov docs.length (docs.map Value.string)):StrsIs w ov docs:=by
 obtain ⟨a,cap,rfl⟩:=ownsRow_form h
 refine ⟨a,cap,rfl,fun i hi=>?_⟩
 obtain ⟨g,cap',e,hc⟩:=ownsRow_cell h (j:=i) (u := .string docs[i]) (by simp [hi])
 simp only [Value.slice.injEq,true_and] at e
 obtain ⟨rfl,rfl⟩:=e
 exact ⟨g,0,rfl,by rw [Nat.zero_add]; exact hc⟩
set_option maxRecDepth 100000 in
set_option maxHeartbeats 2000000 in
theorem plainBuild_any (docs:List ByteArray) (v:Value) (w:World) (hv:StrsIs w v docs) (h48:docs.length≤48) (h200:∀ d∈docs,d.size≤200) :
  Calls Tryz.prog 21 #[v] w fun e w'=>∃ sb,e = .returned (.tuple #[ptrV sb,.int .i64 0,.bool true])∧Below w.heap.size w w'∧Seg w.heap.size w' sb (docs.map wordsB):=by
 obtain ⟨a,cap,rfl,hc⟩:=hv
 obtain ⟨i0,hi,hz0,hz1,hz2⟩:=info_parts Tryz.info9
 have HC:=Lib.hid hc
 have H200:=Lib.hid h200
 clear hc h200
 go_enter Tryz.func21,Tryz.ntmps21
 go_wp2_with (at_builtin; refine wpList_append_copy rfl _ _ 22 rfl 9 i0 (.string ⟨#[]⟩) 1 16 Tryz.underlying22 hi hz0 hz1 hz2 rfl (by decide) rfl a docs.length cap (docs.map Value.string) rfl (by simp) ?c1 (by simp [Value.oneCell']) (by unfold maxLen; omega) (by omega) ?_)
 case c1 =>
  intro j u hj
  rw [List.getElem?_map] at hj
  obtain ⟨d,hd,rfl⟩:=Option.map_eq_some_iff.1 hj
  obtain ⟨hjl,hd⟩:=List.getElem?_eq_some_iff.1 hd
  obtain ⟨b,off,rfl,hcell⟩:=HC.out j hjl
  refine ⟨_,rfl,?_⟩
  rw [← hd]
  by_cases h0:j=0
  ·subst h0; simpa [Addr.add] using hcell
  ·simpa [Addr.add,h0] using hcell
 intro ov w1 hrow hb1 hpast
 have hs1:=ownsRow_strs hrow
 obtain ⟨oa,oc,rfl⟩:=ownsRow_form hrow
 have HROW:=Lib.hid hrow
 have HB1:=Lib.hid hb1
 have HP:=Lib.hid hpast
 clear hrow hb1 hpast hi hz0 hz1 hz2
 go_wp2_with fail
 refine (build_any docs _ w1 hs1 h48 H200.out).mono ?_
 rintro e w2 ⟨sb,rfl,hsb,hb2,hseg2⟩
 have HB2:=Lib.hid hb2
 have HS2:=Lib.hid hseg2
 clear hs1 hb2 hseg2
 unfold ptrV
 go_wp2_with fail
 refine (told_nil w2).mono ?_
 rintro e w3 ⟨rfl,hb3⟩
 have HB3:=Lib.hid hb3
 clear hb3
 go_wp2_with fail
 have hb13:Below w1.heap.size w1 w3:=HB2.out.trans (HB3.out.mono HB2.out.size)
 have hown:Own (.slice oa docs.length oc) docs w3 0 w3:=⟨Mod.refl _ _,fun og ho=>by
  rcases HROW.out.2 with ⟨h,_⟩ | ⟨g,cap',cur,h,_,hg,_,_,hcs,htake⟩
  ·rw [h] at ho; cases ho
  ·rw [h] at ho
   cases ho
   refine ⟨cur,(hb13.block _ (lt_of_heap hg)).trans hg,fun j hj _=>?_⟩
   have h1:(docs.map Value.string)[j]?=some (.string docs[j]):=by simp [hj]
   rw [← htake] at h1
   rw [List.getElem?_take_of_lt (by simp; omega)] at h1
   simpa using h1⟩
 have HOWN:=Lib.hid hown
 have HB13:=Lib.hid hb13
 clear hown hb13
 go_loopw [10,26] (fun sm i wr=>∃ k:Nat,k≤docs.length∧i = .int .i64 k∧sm = .bool true∧Hid (Own (.slice oa docs.length oc) docs w3 k wr)) (fun _ i _=>docs.length - (intOf i).toNat)
 case atStart=>exact ⟨0,Nat.zero_le _,rfl,rfl,HOWN⟩
 case round =>
  obtain ⟨k,hk,rfl,rfl,HO⟩:=hrel
  by_cases hlt:k < docs.length
  ·obtain ⟨b,off,rfl,hcell⟩:=HC.out k hlt
   obtain ⟨g,cap',e,_⟩:=ownsRow_cell HROW.out (j:=k) (u := .string docs[k]) (by simp [hlt])
   simp only [Value.slice.injEq,true_and] at e
   obtain ⟨rfl,rfl⟩:=e
   have hgw:w.heap.size≤g:=HP.out g rfl
   have hbl:=lt_of_cell hcell
   have hs1:=HB1.out.size
   have hs3:=HB13.out.size
   obtain ⟨cur,hcur,hrest⟩:=HO.out.2 g rfl
   have c1:wr.cell? ⟨b,off+k,none⟩=some (.string docs[k]):=by
    have h1:=(HB1.out.cell (p:=⟨b,off+k,none⟩) hbl).trans hcell
    have h2:=(HB13.out.cell (p:=⟨b,off+k,none⟩) (by simp only; omega)).trans h1
    exact (HO.out.1.cell (p:=⟨b,off+k,none⟩) (by simp only; omega) (fun h=>by have h9:g=b:=Option.some.inj h; omega)).trans h2
   have c2:wr.cell? ⟨g,k,none⟩=some (.string docs[k]):=(cell_block hcur).trans (hrest k hlt (Nat.le_refl _))
   have c3:wr.frozen? ⟨g,k,none⟩=false:=free_block hcur
   have q1:(docs[k] == docs[k])=true:=by rw [beq_toListBytes]; simp
   clear hcell hrest
   go_wp2_with fail
   go_quiet (fail)
   go_wp2_with fail
   exact ⟨⟨k+1,by omega,by go_num,rfl,(HO.out.same (Same.drewN _ _)).step rfl⟩,by simp [intOf]; omega⟩
  ·obtain rfl:k=docs.length:=by omega
   go_wp2_with fail
   go_ret3
   have hs1:=HB1.out.size
   have hs3:=HB13.out.size
   have hmod:=HO.out.1
   refine ⟨sb,rfl,(HB1.out.trans (HB13.out.mono hs1)).trans (hmod.toBelow (by omega) fun k h=>HP.out k h),by omega,.map none,?_,.inl rfl⟩
   have hs3':SegIs w3 sb (docs.map wordsB) (.map none):=by
    obtain ⟨db,R,Λ,ρ,Dd,pv,ps,hat⟩:=HS2.out.at
    exact (hat.below HB3.out).is
   refine hs3'.strKept fun k cs t r h ht=>hmod.block k (lt_of_heap h) fun ho=>ht ?_
   obtain ⟨cur,hcur⟩:=ownsRow_cells4 HROW.out ho
   have hcur3:=(HB13.out.block _ (lt_of_heap hcur)).trans hcur
   rw [h] at hcur3
   cases hcur3
   rfl
end Go.Proofs.Ts
namespace Go.Proofs.Ts
open Go Go.RowKit
def docs4:List ByteArray:=[⟨#[111,110,101,32,116,119,111]⟩,⟨#[84,119,111,32,116,104,114,101,101]⟩,⟨#[]⟩,⟨#[116,104,114,101,101]⟩]
theorem docs4_words:docs4.map wordsB=[[[111,110,101],[116,119,111]],[[116,119,111],[116,104,114,101,101]],[],[[116,104,114,101,101]]]:=by decide
theorem docs4_two:docsOf (docs4.map wordsB) (fun u=>decide (u=[116,119,111]))=[0,1]:=by rw [docs4_words]; decide
theorem docs4_t:docsOf (docs4.map wordsB) (fun u=>decide ([116] <+: u))=[0,1,3]:=by rw [docs4_words]; decide
theorem Few.flat {D:List (List (List UInt8))} (acc:List UInt8→Bool) {most:Nat} (h:D.flatten.length≤most):Few D acc most:=fun T hr hm _=>by
 have h1:(hits acc T 0).length≤T.length:=by unfold hits; exact Nat.le_trans (List.length_filter_le _ _) (by simp)
 have h2:T.length≤D.flatten.length:=nodup_le T D.flatten (hr.imp fun h e=>by subst e; exact List.lt_irrefl _ h) fun x hx=>by
  obtain ⟨j,hj⟩:=List.exists_mem_of_ne_nil _ ((hm x).1 hx)
  obtain ⟨ws,h3,h4⟩:=(postsOf_mem _ _ _).1 hj
  exact List.mem_flatten.2 ⟨ws,List.mem_of_getElem? h3,h4⟩
 omega
set_option maxRecDepth 100000 in
set_option maxHeartbeats 2000000 in
theorem fixed_any (w:World):Calls Tryz.prog 19 #[] w fun e w'=>e = .returned (.bool true)∧Below w.heap.size w w':=by
 go_enter Tryz.func19,Tryz.ntmps19
 go_wp2_with fail
 have hst:StrsIs (w.alloc (.cells (docs4.map Value.string).toArray 9)) (.slice (some ⟨w.heap.size,0,none⟩) 4 4) docs4:=by
  refine ⟨_,_,rfl,fun i hi=>⟨_,_,rfl,?_⟩⟩
  rw [Nat.zero_add,cell_block (heap_alloc_new w _)]
  simp [hi]
 have hal:Below w.heap.size w (w.alloc (.cells (docs4.map Value.string).toArray 9)):=(Below.refl _ w).alloc (Nat.le_refl _) _
 have hW:(w.alloc (.cells #[.string ⟨#[111,110,101,32,116,119,111]⟩,.string ⟨#[84,119,111,32,116,104,114,101,101]⟩,.string ⟨#[]⟩,.string ⟨#[116,104,114,101,101]⟩] 9))=w.alloc (.cells (docs4.map Value.string).toArray 9):=rfl
 rw [hW]
 clear hW
 generalize w.alloc (.cells (docs4.map Value.string).toArray 9)=w1 at *
 refine (plainBuild_any docs4 _ w1 hst (by decide) (by decide)).mono ?_
 rintro e w2 ⟨sb,rfl,hb2,hs2⟩
 have HAL:=Lib.hid hal
 have HB2:=Lib.hid hb2
 have HS2:=Lib.hid hs2
 clear hal hb2 hs2 hst
 unfold ptrV
 go_wp2_with fail
 have hq1:=plainSearch_any w1.heap.size ⟨1,[116,119,111],[],0,10⟩ (fun u=>decide (u=[116,119,111])) 10 sb (docs4.map wordsB) w2 HB2.out.size HS2.out (by decide) 10 rfl (by omega) (by omega) (compile_one (by decide)) rfl (Few.flat _ (by rw [docs4_words]; decide))
 rw [docs4_two] at hq1
 unfold ptrV askV strV at hq1
 refine hq1.mono ?_
 clear hq1
 rintro e w3 ⟨o1,rfl,hs3,hb3,hc3,hr3⟩
 obtain ⟨g1,cap1,rfl⟩:=ownsRow_head (n:=1) hr3
 have HS3:=Lib.hid hs3
 have HB3:=Lib.hid hb3
 have HR3:=Lib.hid hr3
 clear hs3 hb3 hc3 hr3
 go_wp2_with fail
 have hq2:=plainSearch_any w1.heap.size ⟨2,[116],[],0,10⟩ (fun u=>decide ([116] <+: u)) 10 sb (docs4.map wordsB) w3 (Nat.le_trans HB2.out.size HB3.out.size) HS3.out (by decide) 10 rfl (by omega) (by omega) (compile_two (by decide)) rfl (Few.flat _ (by rw [docs4_words]; decide))
 rw [docs4_t] at hq2
 unfold ptrV askV strV at hq2
 refine hq2.mono ?_
 clear hq2
 rintro e w4 ⟨o2,rfl,hs4,hb4,hc4,hr4⟩
 obtain ⟨g2,cap2,rfl⟩:=ownsRow_head (n:=2) hr4
 have hr3':w4.ownsRow 0 3 1 (.slice (some ⟨g1,0,none⟩) 2 cap1) 2 [intV 0,intV 1]:=ownsRow_typed HR3.out fun k cs r hk=>hc4.2 k cs _ r hk (by decide)
 have a0:w4.cell? ⟨g1,0,none⟩=some (.int .i64 0):=hr3'.cells (g:=g1) rfl 0 _ rfl
 have a1:w4.cell? ⟨g1,1,none⟩=some (.int .i64 1):=hr3'.cells (g:=g1) rfl 1 _ rfl
 have b2:w4.cell? ⟨g2,2,none⟩=some (.int .i64 3):=hr4.cells (g:=g2) rfl 2 _ rfl
 have hb:Below w.heap.size w w4:=HAL.out.trans (((HB2.out).trans (HB3.out.trans hb4)).mono HAL.out.size)
 have HB:=Lib.hid hb
 clear hs4 hb4 hc4 hr4 hr3' hb
 go_wp2_with fail
 go_ret
 exact ⟨rfl,HB.out⟩
end Go.Proofs.Ts
namespace Go.Proofs.Ts
open Go Go.RowKit
theorem StrsIs.below {w w':World} {v:Value} {ss:List ByteArray} (h:StrsIs w v ss) (hb:Below w.heap.size w w'):StrsIs w' v ss:=by
 obtain ⟨a,cap,rfl,hc⟩:=h
 refine ⟨a,cap,rfl,fun i hi=>?_⟩
 obtain ⟨b,off,e,h1⟩:=hc i hi
 exact ⟨b,off,e,(hb.cell (p:=⟨b,off+i,none⟩) (lt_of_cell h1)).trans h1⟩
theorem Seg.mono {B B':Nat} {w:World} {sb:Nat} {D:List (List (List UInt8))} (h:Seg B w sb D) (hB:B'≤B):Seg B' w sb D:=by
 obtain ⟨h1,kn,h2,h3⟩:=h
 refine ⟨by omega,kn,h2,?_⟩
 rcases h3 with h3 | ⟨km,m,e,h4,h5⟩
 ·exact .inl h3
 ·exact .inr ⟨km,m,e,by omega,h5⟩
set_option maxRecDepth 100000 in
set_option maxHeartbeats 2000000 in
theorem keepBuild_any (docs:List ByteArray) (v:Value) (w:World) (hv:StrsIs w v docs) (hl:docs.length≤9223372036854775807) :
  Calls Tryz.prog 12 #[v] w fun e w'=>Below w.heap.size w w' ∧
   ((smallW docs=false∧e = .returned (.tuple #[.pointer none,.bool true]))∨(smallW docs=true ∧ ∃ sb,e = .returned (.tuple #[ptrV sb,.bool true])∧Seg w.heap.size w' sb (docs.map wordsB))):=by
 have HV:=Lib.hid hv
 clear hv
 go_enter Tryz.func12,Tryz.ntmps12
 go_wp2_with fail
 refine (fixed_any w).mono ?_
 rintro e w1 ⟨rfl,hb1⟩
 have HB1:=Lib.hid hb1
 clear hb1
 go_wp2_with fail
 refine (small_any v docs w1 (HV.out.below HB1.out) hl).mono ?_
 rintro e w2 ⟨rfl,hs2⟩
 have hb2:Below w.heap.size w w2:=HB1.out.trans (hs2.below _)
 have HB2:=Lib.hid hb2
 clear hb2 hs2
 cases hsm:smallW docs with
 | false =>
  go_wp2_with fail
  go_ret2
  exact ⟨HB2.out,.inl ⟨hsm,rfl⟩⟩
 | true =>
  have hparts:docs.length≤48 ∧ ∀ d∈docs,d.size≤200:=by
   unfold smallW at hsm
   simpa using hsm
  have HP:=Lib.hid hparts
  have HSM:=Lib.hid hsm
  clear hparts hsm
  go_wp2_with fail
  refine (plainBuild_any docs v w2 (HV.out.below HB2.out) HP.out.1 HP.out.2).mono ?_
  rintro e w3 ⟨sb,rfl,hb3,hs3⟩
  have HB3:=Lib.hid hb3
  have HS3:=Lib.hid hs3
  clear hb3 hs3
  unfold ptrV
  go_wp2_with fail
  go_ret2
  exact ⟨HB2.out.trans (HB3.out.mono HB2.out.size),.inr ⟨HSM.out,sb,rfl,HS3.out.mono HB2.out.size⟩⟩
end Go.Proofs.Ts
namespace Go.Proofs.YtglafkgakcfahaaGreatDoor.card
open Go Go.ChangeShapes Go.WideShapes Go.ChangeAt Go.RowKit
theorem own:ownKnob Tryz.prog.godebug=none:=by kernel_rfl
theorem laidOut:laidOutB Tryz.prog=true:=by kernel_rfl
theorem cellsS:Tryz.prog.cellsOf 9=1:=by kernel_rfl
def litV:DataW Unit→Value
 | .lit (.int k n) => .int k n
 | _ => .nilIface
def rowV:DataW Unit→List Value
 | .agg l=>l.map litV
 | _=>[]
def rowsV:DataW Unit→List Value
 | .agg l=>l.flatMap rowV
 | _=>[]
noncomputable def laidWorld (os:Os):World :=
 let w0:=World.holding Tryz.prog os ⟨#[],#[],[]⟩
 let h1:=w0.heap.modify 0 fun
   | .cells _ t frozen => .cells #[.iface 222 (.agg #[typeHandle Tryz.prog 69])] t frozen
   | o=>o
 let h2:=h1.modify 4 fun
   | .cells _ t frozen => .cells (rowV Rows.laid_math_bits_deBruijn64tab).toArray t frozen
   | o=>o
 let h3:=h2.modify 3 fun
   | .cells _ t frozen => .cells (rowsV Rows.laid_unicode_utf8_acceptRanges).toArray t frozen
   | o=>o
 let h4:=h3.modify 2 fun
   | .cells _ t frozen => .cells (rowV Rows.laid_unicode_utf8_first).toArray t frozen
   | o=>o
 { w0 with heap:=h4 }
theorem laid_met (os:Os) (args:Array Value):laidMetH Tryz.prog Rows.foundRow.laid ((laidWorld os).forCall (fun _ _=>0) ⟨#[],args,[]⟩).memory :=
 laidMetH_of_parts (laidMet_of_run' 8 (by kernel_rfl) (by kernel_rfl)) (by kernel_rfl)
theorem strs_is {W:World} {base:Nat} {spare:Nat→Bool} {held:Bool} {H:Type} {enc:TypeId × Value→H} {a0:Option Addr} {len cap:Nat} {d:DataW H} {p:List MemPlace} (h:DataW.Trod enc Tryz.prog W base spare held 22 (.slice a0 len cap) d p) :
  ∃ docs:List ByteArray,Ts.StrsIs W (.slice a0 len cap) docs∧docs.length≤maxLen:=by
 obtain ⟨fuel,h⟩:=h
 rcases open_strings Tryz.underlying22 Tryz.underlying9 cellsS h with ⟨hv,_⟩ | ⟨a,len',cap',ss,hv,_,hl,hc,hlen,_,hcell,_⟩
 ·simp [Value.cells] at hv
  obtain ⟨rfl,rfl,rfl⟩:=hv
  exact ⟨[],⟨none,0,rfl,fun i hi=>absurd hi (Nat.not_lt_zero i)⟩,Nat.zero_le _⟩
 ·simp [Value.cells] at hv
  obtain ⟨rfl,rfl,rfl⟩:=hv
  have hle:len≤ss.length:=by rw [hlen]; split <;> omega
  refine ⟨ss.take len,⟨some a,cap,by rw [List.length_take,Nat.min_eq_left hle],fun i hi=>?_⟩,by rw [List.length_take]; omega⟩
  rw [List.length_take] at hi
  have hc:=hcell i (by omega)
  obtain ⟨b,off,spot⟩:=a
  have hs:spot=none:=by simpa [Addr.add] using World.cell?_spot (hcell 0 (by omega))
  subst hs
  refine ⟨b,off,rfl,?_⟩
  have he:(ss.take len)[i]'(by rw [List.length_take]; omega)=ss.getD i ByteArray.empty:=by
   rw [List.getElem_take,List.getD_eq_getElem?_getD,List.getElem?_eq_getElem (by omega)]
   rfl
  rw [he,← hc]
  by_cases h0:i=0
  ·subst h0; simp [Addr.add]
  ·simp [Addr.add,h0]
end Go.Proofs.YtglafkgakcfahaaGreatDoor.card
namespace Go.Proofs.YtglafkgakcfahaaGreatDoor.card
open Go Go.ChangeShapes Go.WideShapes Go.ChangeAt Go.RowKit
theorem shaped_block {W:World} (hS:W.ShapedOpen Tryz.prog) {g:Nat} {zero:Array Value} {t:TypeId} (hg:g < Tryz.prog.globals.size) (h:((begin Tryz.prog (fun _ _=>0) default).world.heap[g]?).bind Obj.row?=some (zero,t)):∃ cs,W.heap[g]?=some (.cells cs t (0,0)):=by
 obtain ⟨cs,h1,_⟩:=hS.1 g zero t hg h
 exact ⟨cs,h1⟩
theorem row_type {P:Program} {g:Nat} {t:TypeId} (h:(((begin P (fun _ _=>0) default).world.heap[g]?).bind Obj.row?).map (·.2)=some t):∃ zero,((begin P (fun _ _=>0) default).world.heap[g]?).bind Obj.row?=some (zero,t):=by
 cases e:((begin P (fun _ _=>0) default).world.heap[g]?).bind Obj.row? with
 | none=>rw [e] at h; cases h
 | some r=>rw [e] at h; exact ⟨r.1,by rw [← Option.some.inj h]⟩
end Go.Proofs.YtglafkgakcfahaaGreatDoor.card
namespace Go.Proofs.YtglafkgakcfahaaGreatDoor.card
open Go Go.ChangeShapes Go.WideShapes Go.ChangeAt Go.RowKit
theorem bits_glob : Tryz.prog.globalNamed "math/bits.deBruijn64tab" = some 4 := by kernel_rfl
theorem bits_type:(Tryz.prog.globals[4]?).map (·.type)=some 367:=by kernel_rfl
theorem bits_data:(Rows.laid_math_bits_deBruijn64tab:DataW Unit)=Go.Lib.tabData .u8 (Go.Lib.deBruijn64tab.map fun (k:Nat)=>(k:Int)):=by kernel_rfl
theorem bits_cells:Tryz.prog.cellsOf 5=1:=by kernel_rfl
theorem bits_cells64:Tryz.prog.cellsOf 367=64:=by kernel_rfl
theorem bits_in {W : World} {l : List (String × DataW Unit)} (hL : laidMetH Tryz.prog l W) (hS : W.ShapedOpen Tryz.prog) (h1 : ("math/bits.deBruijn64tab", (Rows.laid_math_bits_deBruijn64tab : DataW Unit)) ∈ l.filter fun x => x.2.handleName?.isNone) : Ts.BitTab W := by
 have hm:=(laidMetH_iff.1 hL).1
 obtain ⟨z1,e1⟩:=row_type (P:=Tryz.prog) (g:=4) (t:=367) (by kernel_rfl)
 refine ⟨shaped_block hS (of_decide_eq_true (by kernel_rfl)) e1,fun j hj=>?_⟩
 have r1:=Go.Lib.laidMet.reads hm h1
 rw [bits_data] at r1
 obtain ⟨g,t,cs,fuel,p,hg,hty,hvar,hd⟩:=r1
 obtain rfl:=Option.some.inj (bits_glob.symm.trans hg)
 obtain rfl:=Option.some.inj (bits_type.symm.trans hty)
 have hcs:=Go.Lib.cells_of_tab Tryz.underlying367 Tryz.underlying5 bits_cells bits_cells64 hd
 have:=World.var?_cell hg hvar j
 rw [this,← Array.getElem?_toList,hcs]
 simp [hj,List.getD]
end Go.Proofs.YtglafkgakcfahaaGreatDoor.card
namespace Go.Proofs.Ts
open Go
/-! ### Machines in which each place leads to one place. -/
theorem compile_fol (e:Ast) (hn:e.count≤128) (k k':Nat) (hk:k' < 192):(PM.compile e).fol k k'↔if k=128 then e.fst 0 k' else e.lnk 0 k k':=by
 have ka:=part_ok e PM.zero PM.ok_zero (by show 0+_≤128; omega)
 have ha:=part_adds e PM.zero PM.ok_zero (by show 0+_≤128; omega)
 have hz:PM.zero.n=0:=rfl
 have hlt:(128:Nat) < (PM.part e PM.zero).1.follow.length:=by rw [ka.mach.lf]; decide
 show ((PM.part e .zero).1.putFollow 128 (PM.part e .zero).2.first).fol k k'↔_
 rw [PM.fol_put hlt]
 by_cases h:k=128
 ·rw [if_pos h,if_pos h]; exact ha.first k' hk
 ·rw [if_neg h,if_neg h,ha.fol k k' hk]
  simp [zero_fol,hz]
def singles:List PSet:=(List.range 192).map fun k=>PSet.zero.on k
theorem slim_of_one {e:Ast} (hn:e.count≤128) (g:Nat→Nat) (hg:∀ k k',e.lnk 0 k k'→k'=g k) (hf:∀ k,e.fst 0 k→k=0):(PM.compile e).slim 400:=by
 have hok:=compile_ok e hn
 have hfit:=compile_fit e hn
 have hone:∀ (s:PSet),s.ok→(∃ k,k < 192∧s.mem k=true ∧ ∀ j,j < 192→s.mem j=true→j=k)→s∈singles:=fun s hs ⟨k,h1,h2,h3⟩=>by
  refine List.mem_map.2 ⟨k,List.mem_range.2 h1,?_⟩
  refine (PSet.ext hs (PSet.ok_on PSet.ok_zero _) fun j hj=>?_).symm
  rw [PSet.mem_on _ _ _ h1 hj,PSet.mem_zero,Bool.or_false,Bool.eq_iff_iff,decide_eq_true_eq]
  exact ⟨fun h=>h3 j hj h,fun h=>by rw [h]; exact h2⟩
 refine ⟨singles,fun s hs=>?_,by simp [singles]⟩
 have key:s.ok ∧ ∃ k,k < 192∧s.mem k=true ∧ ∀ j,j < 192→s.mem j=true→j=k:=by
  induction hs with
  | start =>
   have hb:=begin_elems
   refine ⟨beginSet_ok,128,by decide,((PSet.mem_elems _ _).1 ((hb 128).2 rfl)).2,fun j hj h=>(hb j).1 ((PSet.mem_elems _ _).2 ⟨hj,h⟩)⟩
  | step s c hm hc hz ih =>
   obtain ⟨hs,k,h1,h2,h3⟩:=ih
   have ht:=PM.ok_step hok s c
   refine ⟨ht,?_⟩
   rcases PSet.zero_or ht with h | ⟨j,hj,hmem⟩
   ·exact absurd h hz
   ·have hfol:∀ i,i < 192→((PM.compile e).step s c).mem i=true→i=if k=128 then 0 else g k:=fun i hi hmi=>by
     have e1:(UInt8.ofNat c).toNat=c:=by simp; omega
     rw [← e1,PM.mem_step] at hmi
     obtain ⟨⟨k1,hk1,hf1⟩,_⟩:=hmi
     obtain ⟨a1,a2⟩:=(PSet.mem_elems _ _).1 hk1
     have:k1=k:=h3 k1 a1 a2
     subst this
     rw [compile_fol e hn _ _ hi] at hf1
     split at hf1
     ·rename_i hk; rw [if_pos hk]; exact hf _ hf1
     ·rename_i hk; rw [if_neg hk]; exact hg _ _ hf1
    exact ⟨j,hj,hmem,fun i hi h=>(hfol i hi h).trans (hfol j hj hmem).symm⟩
 exact hone s key.1 key.2
/-! ### One byte. -/
theorem BSet.word_setw (s:BSet) (i j v:Nat) (hi:i < 4) (hj:j < 4):(s.setw i v).word j=if i=j then v else s.word j:=by
 match i,j,hi,hj with
 | 0,0,_,_=>rfl
 | 0,1,_,_=>rfl
 | 0,2,_,_=>rfl
 | 0,3,_,_=>rfl
 | 1,0,_,_=>rfl
 | 1,1,_,_=>rfl
 | 1,2,_,_=>rfl
 | 1,3,_,_=>rfl
 | 2,0,_,_=>rfl
 | 2,1,_,_=>rfl
 | 2,2,_,_=>rfl
 | 2,3,_,_=>rfl
 | 3,0,_,_=>rfl
 | 3,1,_,_=>rfl
 | 3,2,_,_=>rfl
 | 3,3,_,_=>rfl
theorem BSet.has_on (s:BSet) (k j:Nat) (hk:k < 256) (hj:j < 256):(s.on k).has j=(decide (j=k) || s.has j):=by
 unfold BSet.on BSet.has
 rw [BSet.word_setw _ _ _ _ (by omega) (by omega)]
 split
 ·rename_i h
  rw [Nat.testBit_or,Nat.testBit_two_pow,h,Bool.or_comm]
  congr 1
  rw [Bool.eq_iff_iff,decide_eq_true_eq,decide_eq_true_eq]
  omega
 ·rename_i h
  rw [decide_eq_false (by intro e; subst e; exact h rfl),Bool.false_or]
theorem BSet.has_addN (s:BSet) (lo j:Nat) (hj:j < 256):∀ n,lo+n≤256→(s.addN lo n).has j=(decide (lo≤j∧j < lo+n) || s.has j)
 | 0,_=>by
  rw [decide_eq_false (by omega)]
  rfl
 | n+1,h=>by
  show ((s.addN lo n).on (lo+n)).has j=_
  rw [BSet.has_on _ _ _ (by omega) hj,BSet.has_addN s lo j hj n (by omega),← Bool.or_assoc,← Bool.decide_or]
  congr 1
  rw [decide_eq_decide]
  omega
theorem zero_has (j:Nat):BSet.zero.has j=false:=by
 unfold BSet.has BSet.word BSet.zero
 split <;> simp
theorem oneB_has (c d:UInt8):(oneB c).has d.toNat=decide (d=c):=by
 have h1:=c.toNat_lt
 have h2:=d.toNat_lt
 show (BSet.zero.addN c.toNat (c.toNat+1 - c.toNat)).has d.toNat=_
 rw [BSet.has_addN _ _ _ h2 _ (by omega),zero_has,Bool.or_false,decide_eq_decide]
 constructor
 ·intro h; exact UInt8.toNat_inj.1 (by omega)
 ·rintro rfl; omega
theorem allB_has (d:UInt8):allB.has d.toNat=true:=by
 have h2:=d.toNat_lt
 show (BSet.zero.addN 0 (255+1 - 0)).has d.toNat=_
 rw [BSet.has_addN _ _ _ h2 _ (by omega),decide_eq_true (by omega)]
 rfl
theorem one_lang (c:UInt8) (t:List UInt8):(Ast.one (oneB c)).lang t↔t=[c]:=by
 constructor
 ·rintro ⟨d,rfl,hd⟩
  rw [oneB_has,decide_eq_true_eq] at hd
  rw [hd]
 ·rintro rfl
  exact ⟨c,rfl,by rw [oneB_has]; simp⟩
theorem any_lang (t:List UInt8):(Ast.many (.one allB) false).lang t:=by
 refine ⟨t.map fun c=>[c],?_,fun u hu=>?_,fun e=>by cases e⟩
 ·induction t with
  | nil=>rfl
  | cons c t ih=>simp [← ih]
 ·obtain ⟨c,_,rfl⟩:=List.mem_map.1 hu
  exact ⟨c,rfl,allB_has c⟩
theorem join_lang (a b:Ast) (t:List UInt8) (hh:a ≠ .huge) (hb:b ≠ .huge):(a.join b).lang t ↔ ∃ u v,t=u++v∧a.lang u∧b.lang v:=by
 by_cases ha:a = .empty
 ·subst ha
  show b.lang t↔_
  constructor
  ·exact fun h=>⟨[],t,rfl,rfl,h⟩
  ·rintro ⟨u,v,rfl,hu,hv⟩
   have hu':u=[]:=hu
   subst hu'
   exact hv
 ·by_cases hb:b = .empty
  ·subst hb
   have e:a.join .empty=a:=by cases a <;> first | rfl | exact absurd rfl ha
   rw [e]
   constructor
   ·exact fun h=>⟨t,[],by simp,h,rfl⟩
   ·rintro ⟨u,v,rfl,hu,hv⟩
    have hv':v=[]:=hv
    subst hv'
    simpa using hu
  ·have e:a.join b = .seq a b:=by cases a <;> cases b <;> first | rfl | exact absurd rfl ha | exact absurd rfl hb
   rw [e]
   exact Iff.rfl
/-! ### A word, byte by byte. -/
def addOnes (x:Ast) (r:List UInt8):Ast:=r.foldl (fun x c=>x.join (.one (oneB c))) x
theorem join_huge (a b:Ast) (ha:a ≠ .huge) (hb:b ≠ .huge):a.join b ≠ .huge:=by
 cases a <;> cases b <;> simp_all [Ast.join]
theorem addOnes_lang:∀ (r:List UInt8) (x:Ast) (t:List UInt8),x ≠ .huge→addOnes x r ≠ .huge∧((addOnes x r).lang t ↔ ∃ u,t=u++r∧x.lang u)
 | [],x,t,hx=>⟨hx,by
  constructor
  ·exact fun h=>⟨t,by simp,h⟩
  ·rintro ⟨u,rfl,h⟩
   rw [List.append_nil]
   exact h⟩
 | c :: r,x,t,hx=>by
  have h1:Ast.one (oneB c) ≠ .huge:=by simp
  obtain ⟨h2,h3⟩:=addOnes_lang r (x.join (.one (oneB c))) t (join_huge _ _ hx h1)
  refine ⟨h2,h3.trans ?_⟩
  constructor
  ·rintro ⟨u,rfl,h⟩
   obtain ⟨a,b,rfl,ha,hb⟩:=(join_lang x _ u hx h1).1 h
   rw [one_lang] at hb
   subst hb
   exact ⟨a,by simp,ha⟩
  ·rintro ⟨u,rfl,h⟩
   exact ⟨u++[c],by simp,(join_lang x _ _ hx h1).2 ⟨u,[c],rfl,h,(one_lang c _).2 rfl⟩⟩
def litA (w:List UInt8):Ast:=addOnes .empty w
def litAnyA (w:List UInt8):Ast:=(litA w).join (.many (.one allB) false)
theorem litA_lang (w t:List UInt8):(litA w).lang t↔t=w:=by
 show (addOnes .empty w).lang t↔_
 rw [(addOnes_lang w .empty t (by simp)).2]
 constructor
 ·rintro ⟨u,rfl,h⟩
  have h':u=[]:=h
  rw [h']
  rfl
 ·rintro rfl; exact ⟨[],rfl,rfl⟩
theorem litAnyA_lang (w t:List UInt8):(litAnyA w).lang t↔w <+: t:=by
 rw [show litAnyA w=(litA w).join _ from rfl,join_lang _ _ _ (show litA w ≠ .huge from (addOnes_lang w .empty t (by simp)).1) (by simp)]
 constructor
 ·rintro ⟨u,v,rfl,hu,_⟩
  rw [litA_lang] at hu
  rw [hu]
  exact List.prefix_append _ _
 ·rintro ⟨v,rfl⟩
  exact ⟨w,v,rfl,(litA_lang w w).2 rfl,any_lang v⟩
structure Lin (e:Ast):Prop where
 lnk:∀ k k',e.lnk 0 k k'→k'=k+1
 fst:∀ k,e.fst 0 k→k=0
 lst:∀ k,e.lst 0 k→k+1=e.count
 nul:e.nul=false
theorem addOnes_lin:∀ (r:List UInt8) (x:Ast),Lin x→Lin (addOnes x r)∧(addOnes x r).count=x.count+r.length
 | [],x,h=>⟨h,rfl⟩
 | c :: r,x,h=>by
  have hne:x ≠ .empty:=fun e=>by have:=h.nul; rw [e] at this; cases this
  have e:x.join (.one (oneB c)) = .seq x (.one (oneB c)):=by cases x <;> first | rfl | exact absurd rfl hne
  have hl:Lin (x.join (.one (oneB c))):=by
   rw [e]
   refine ⟨fun k k' hk=>?_,fun k hk=>?_,fun k hk=>?_,by show (x.nul && false)=false; simp⟩
   ·rcases hk with hk | hk | ⟨h1,h2⟩
    ·exact h.lnk _ _ hk
    ·exact hk.elim
    ·have h2':k'=0+x.count:=h2
     have:=h.lst _ h1
     omega
   ·rcases hk with hk | ⟨h1,_⟩
    ·exact h.fst _ hk
    ·rw [h.nul] at h1; cases h1
   ·rcases hk with hk | ⟨h1,_⟩
    ·have hk':k=0+x.count:=hk
     show k+1=x.count+1
     omega
    ·cases h1
  obtain ⟨h1,h2⟩:=addOnes_lin r _ hl
  exact ⟨h1,by rw [show addOnes x (c :: r)=addOnes (x.join (.one (oneB c))) r from rfl,h2,join_count]; show x.count+1+r.length=x.count+(r.length+1); omega⟩
theorem litA_lin {w:List UInt8} (hw:w≠[]):Lin (litA w)∧(litA w).count=w.length:=by
 match w,hw with
 | c :: r,_ =>
  have h:Lin (Ast.one (oneB c)):=⟨fun k k' hk=>hk.elim,fun k hk=>hk,fun k hk=>by have hk':k=0:=hk; rw [hk']; rfl,rfl⟩
  obtain ⟨h1,h2⟩:=addOnes_lin r _ h
  exact ⟨h1,by show (addOnes (.one (oneB c)) r).count=_; rw [h2]; show 1+r.length=r.length+1; omega⟩
theorem litA_slim {w:List UInt8} (hw:w≠[]) (h:w.length≤40):(PM.compile (litA w)).slim 400:=by
 obtain ⟨h1,h2⟩:=litA_lin hw
 exact slim_of_one (by omega) (fun k=>k+1) h1.lnk h1.fst
theorem litAnyA_eq {w:List UInt8} (hw:w≠[]):litAnyA w = .seq (litA w) (.many (.one allB) false):=by
 have h:=(litA_lin hw).1.nul
 show (litA w).join _=_
 generalize litA w=x at *
 cases x <;> first | rfl | cases h
theorem litAnyA_slim {w:List UInt8} (hw:w≠[]) (h:w.length≤40):(PM.compile (litAnyA w)).slim 400:=by
 obtain ⟨h1,h2⟩:=litA_lin hw
 rw [litAnyA_eq hw]
 have hc:(Ast.seq (litA w) (.many (.one allB) false)).count≤128:=by show (litA w).count+1≤128; omega
 refine slim_of_one hc (fun k=>if k=w.length then k else k+1) (fun k k' hk=>?_) fun k hk=>?_
 ·rcases hk with hk | (hk | ⟨h3,h4⟩) | ⟨h3,h4⟩
  ·have:=Ast.lnk_in _ hk
   have e:=h1.lnk _ _ hk
   rw [if_neg (by omega)]
   exact e
  ·exact hk.elim
  ·have h3':k=0+(litA w).count:=h3
   have h4':k'=0+(litA w).count:=h4
   rw [if_pos (by omega)]
   omega
  ·have h4':k'=0+(litA w).count:=h4
   have:=h1.lst _ h3
   rw [if_neg (by omega)]
   omega
 ·rcases hk with hk | ⟨h3,_⟩
  ·exact h1.fst _ hk
  ·rw [h1.nul] at h3; cases h3
end Go.Proofs.Ts
namespace Go.Proofs.Ts
open Go Go.RowKit
theorem acc_pat {a b:List UInt8} {n:Int} {st:Nat} (ha:a.length≤40):accOf ⟨5,a,b,n,st⟩=patAcc (parseP ⟨a.toArray⟩) st:=by
 have h51:¬ (5:Int)=1:=by decide
 have h52:¬ (5:Int)=2:=by decide
 have h56:¬ (5:Int)=6:=by decide
 simp only [accOf,if_pos ha,if_neg h51,if_neg h52,h56,false_and,if_false,if_true,Int.toNat_natCast]
end Go.Proofs.Ts
namespace Go.Proofs.Ts
open Go
def litL (w:List UInt8):List UInt8:=w.flatMap fun c=>[92,c]
theorem litL_len:∀ w:List UInt8,(litL w).length=2 * w.length
 | []=>rfl
 | c :: w=>by
  show (92 :: c :: litL w).length=_
  simp [litL_len w]
  omega
theorem litL_app (a b:List UInt8):litL (a++b)=litL a++litL b:=by simp [litL]
section
variable {s:ByteArray} {pre tl:List UInt8} {c:UInt8} {r:List UInt8}
theorem lit_at (h:s.data.toList=litL pre++(litL (c :: r)++tl)):s.data.toList[2 * pre.length]?=some 92∧s.data.toList[2 * pre.length+1]?=some c∧s.data.toList=litL (pre++[c])++(litL r++tl):=by
 have hl:=litL_len pre
 refine ⟨?_,?_,?_⟩
 ·rw [h,List.getElem?_append_right (by omega),hl,Nat.sub_self]; rfl
 ·rw [h,List.getElem?_append_right (by omega),hl,Nat.add_sub_cancel_left]; rfl
 ·rw [h,litL_app,List.append_assoc]; rfl
theorem lit_end (h:s.data.toList=litL pre++tl) (k:Nat):s.data.toList[2 * pre.length+k]?=tl[k]?:=by
 have hl:=litL_len pre
 rw [h,List.getElem?_append_right (by omega),hl,Nat.add_sub_cancel_left]
end
section
variable {s:ByteArray} {T:Times} {A:Nat→PR Ast} {i:Nat} {c:UInt8}
theorem single_lit (h0:s.data.toList[i]?=some 92) (h1:s.data.toList[i+1]?=some c):singleP s i = .ok c (i+2):=by
 have he:eatB s i 92=i+1:=by unfold eatB isB; rw [h0]; simp
 unfold singleP
 rw [he,h1]
theorem atom_lit (h0:s.data.toList[i]?=some 92) (h1:s.data.toList[i+1]?=some c):atomP A s i = .ok (.one (oneB c)) (i+2):=by
 have h:=single_lit h0 h1
 have e1:¬ ((92:UInt8)=40):=by decide
 have e2:¬ ((92:UInt8)=46):=by decide
 have e3:¬ ((92:UInt8)=91):=by decide
 have e4:¬ (wrongB 92=true):=by decide
 simp only [atomP,h0,if_neg e1,if_neg e2,if_neg e3,if_neg e4,h]
 rfl
theorem rep_lit (h0:s.data.toList[i]?=some 92) (h1:s.data.toList[i+1]?=some c) (hb:∀ d,s.data.toList[i+2]?=some d→d≠42∧d≠43∧d≠63∧d≠123):repP T A s i = .ok (.one (oneB c)) (i+2):=by
 have h:=atom_lit (A:=A) h0 h1
 have hq:∀ c,c=42∨c=43∨c=63∨c=123→isB s (i+2) c=false:=fun d hd=>by
  cases e:s.data.toList[i+2]? with
  | none=>exact isB_none e d
  | some x =>
   rw [isB_some e]
   have k:=hb x e
   refine decide_eq_false fun hx=>?_
   subst hx
   rcases hd with rfl | rfl | rfl | rfl
   ·exact k.1 rfl
   ·exact k.2.1 rfl
   ·exact k.2.2.1 rfl
   ·exact k.2.2.2 rfl
 simp only [repP,h]
 exact behind_end hq
end
theorem seq_lit {s:ByteArray} {T:Times} {A:Nat→PR Ast} {tl:List UInt8} (ht:∀ d,tl[0]?=some d→d≠42∧d≠43∧d≠63∧d≠123):∀ (r pre:List UInt8) (x:Ast) (f:Nat),s.data.toList=litL pre++(litL r++tl) →
  seqP T A s (f+r.length) x (2 * pre.length)=seqP T A s f (addOnes x r) (2 * (pre++r).length)
 | [],pre,x,f,h=>by simp [addOnes]
 | c :: r,pre,x,f,h=>by
  obtain ⟨h0,h1,h2⟩:=lit_at h
  have hb:∀ d,s.data.toList[2 * pre.length+2]?=some d→d≠42∧d≠43∧d≠63∧d≠123:=fun d hd=>by
   have e:2 * pre.length+2=2 * (pre++[c]).length+0:=by simp; omega
   rw [e] at hd
   cases r with
   | nil =>
    rw [lit_end (pre:=pre++[c]) (tl:=tl) (by simpa [litL] using h2)] at hd
    exact ht d hd
   | cons c2 r2 =>
    rw [Nat.add_zero,(lit_at h2).1] at hd
    cases hd
    decide
  have hr:=rep_lit (T:=T) (A:=A) h0 h1 hb
  have hm:moreB s (2 * pre.length)=true:=by rw [more_some h0]; decide
  have ih:=seq_lit (T:=T) (A:=A) ht r (pre++[c]) (x.join (.one (oneB c))) f h2
  have e1:f+(c :: r).length=(f+r.length)+1:=by simp; omega
  have e2:2 * (pre++[c]).length=2 * pre.length+2:=by simp; omega
  rw [e1]
  conv=>lhs; unfold seqP
  simp only [hm,if_true,hr]
  rw [e2] at ih
  rw [ih]
  simp [addOnes]
theorem wild_lit {s:ByteArray} {tl:List UInt8}:∀ (r pre:List UInt8) (x:Ast) (f:Nat),s.data.toList=litL pre++(litL r++tl) →
  wildFrom s (f+r.length) x (2 * pre.length)=wildFrom s f (addOnes x r) (2 * (pre++r).length)
 | [],pre,x,f,h=>by simp [addOnes]
 | c :: r,pre,x,f,h=>by
  obtain ⟨h0,h1,h2⟩:=lit_at h
  have ih:=wild_lit r (pre++[c]) (x.join (.one (oneB c))) f h2
  have e1:f+(c :: r).length=(f+r.length)+1:=by simp; omega
  have e2:2 * (pre++[c]).length=2 * pre.length+2:=by simp; omega
  rw [e1,wild_esc h0 (by decide) (by decide) rfl h1]
  rw [e2] at ih
  rw [ih]
  simp [addOnes]
section
variable {s:ByteArray} {w:List UInt8}
theorem size_list (s:ByteArray):s.size=s.data.toList.length:=(len_list s).symm
theorem lit_alt (T:Times) (h:s.data.toList=litL w):AltIs T s (litA w):=by
 have hz:s.size=2 * w.length:=by rw [size_list,h,litL_len]
 have h':s.data.toList=litL []++(litL w++[]):=by simpa [litL] using h
 have hs:=seq_lit (s:=s) (T:=T) (A:=altP T s s.size) (tl:=[]) (fun d hd=>by cases hd) w [] .empty (w.length+1) h'
 have e0:2 * ([]:List UInt8).length=0:=rfl
 have e1:w.length+1+w.length=s.size+1:=by omega
 have e2:2 * (([]:List UInt8)++w).length=s.size:=by simpa using hz.symm
 rw [e0,e1,e2] at hs
 have hend:seqP T (altP T s s.size) s (w.length+1) (addOnes .empty w) s.size = .ok (litA w) s.size:=by
  conv=>lhs; unfold seqP
  simp only [more_end,Bool.false_eq_true,if_false]
  rfl
 show altP T s (s.size+1) 0 = .ok (litA w) s.size
 unfold altP
 rw [hs,hend]
 exact or_end (isB_end s 124)
theorem litAny_alt (T:Times) (h:s.data.toList=litL w++[46,42]):AltIs T s (litAnyA w):=by
 have hz:s.size=2 * w.length+2:=by rw [size_list,h,List.length_append,litL_len]; rfl
 have h':s.data.toList=litL []++(litL w++[46,42]):=by simpa [litL] using h
 have hs:=seq_lit (s:=s) (T:=T) (A:=altP T s s.size) (tl:=[46,42]) (fun d hd=>by cases hd; decide) w [] .empty (w.length+3) h'
 have e0:2 * ([]:List UInt8).length=0:=rfl
 have e1:w.length+3+w.length=s.size+1:=by omega
 have e2:2 * (([]:List UInt8)++w).length=2 * w.length:=by simp
 rw [e0,e1,e2] at hs
 have g0:s.data.toList[2 * w.length]?=some 46:=lit_end h 0
 have g1:s.data.toList[2 * w.length+1]?=some 42:=lit_end h 1
 have hat:atomP (altP T s s.size) s (2 * w.length) = .ok (.one allB) (2 * w.length+1):=by
  have k1:¬ ((46:UInt8)=40):=by decide
  simp only [atomP,g0,if_neg k1,if_true]
  rfl
 have hrep:repP T (altP T s s.size) s (2 * w.length) = .ok (.many (.one allB) false) (2 * w.length+2):=by
  have k:isB s (2 * w.length+1) 42=true:=by rw [isB_some g1]; decide
  simp only [repP,hat,behindP,k,if_true]
 have hm:moreB s (2 * w.length)=true:=by rw [more_some g0]; decide
 have hend:seqP T (altP T s s.size) s (w.length+3) (addOnes .empty w) (2 * w.length) = .ok (litAnyA w) s.size:=by
  conv=>lhs; unfold seqP
  simp only [hm,if_true,hrep]
  rw [← hz]
  conv=>lhs; unfold seqP
  simp only [more_end,Bool.false_eq_true,if_false]
  rfl
 show altP T s (s.size+1) 0 = .ok (litAnyA w) s.size
 unfold altP
 rw [hs,hend]
 exact or_end (isB_end s 124)
theorem join_places (a b:Ast):(a.join b).places≤a.places+b.places:=by
 cases a <;> cases b <;> simp [Ast.join,Ast.places] <;> omega
theorem addOnes_places:∀ (r:List UInt8) (x:Ast),(addOnes x r).places≤x.places+r.length
 | [],x=>Nat.le_refl _
 | c :: r,x=>by
  have h1:=addOnes_places r (x.join (.one (oneB c)))
  have h2:=join_places x (.one (oneB c))
  have h3:(Ast.one (oneB c)).places=1:=rfl
  show (addOnes (x.join (.one (oneB c))) r).places≤x.places+(r.length+1)
  omega
theorem lit_parse (h:s.data.toList=litL w) (hl:w.length≤40):parseP s = .ok (litA w):=by
 have hp:(litA w).places≤40:=Nat.le_trans (addOnes_places w .empty) (by show 0+w.length≤40; omega)
 rw [parse_of (lit_alt onceT h) (lit_alt repeatT h),if_neg (by omega)]
theorem litAny_parse (h:s.data.toList=litL w++[46,42]) (hl:w.length≤40):parseP s = .ok (litAnyA w):=by
 have hp:(litA w).places≤40:=Nat.le_trans (addOnes_places w .empty) (by show 0+w.length≤40; omega)
 have hp2:(litAnyA w).places≤41:=by
  have h1:=join_places (litA w) (.many (.one allB) false)
  have h2:(Ast.many (.one allB) false).places=1:=rfl
  show ((litA w).join _).places≤41
  omega
 rw [parse_of (litAny_alt onceT h) (litAny_alt repeatT h),if_neg (by omega)]
theorem lit_wild (h:s.data.toList=litL w):wildP s = .ok (litA w):=by
 have hz:s.size=2 * w.length:=by rw [size_list,h,litL_len]
 have h':s.data.toList=litL []++(litL w++[]):=by simpa [litL] using h
 have hs:=wild_lit (s:=s) (tl:=[]) w [] .empty (w.length+1) h'
 have e1:w.length+1+w.length=s.size+1:=by omega
 have e2:2 * (([]:List UInt8)++w).length=s.size:=by simpa using hz.symm
 rw [e1,e2] at hs
 show wildFrom s (s.size+1) .empty 0=_
 exact hs.trans (wild_end (at_end s s.size (Nat.le_refl _)))
theorem litAny_wild (h:s.data.toList=litL w++[42]):wildP s = .ok (litAnyA w):=by
 have hz:s.size=2 * w.length+1:=by rw [size_list,h,List.length_append,litL_len]; rfl
 have h':s.data.toList=litL []++(litL w++[42]):=by simpa [litL] using h
 have hs:=wild_lit (s:=s) (tl:=[42]) w [] .empty (w.length+2) h'
 have e1:w.length+2+w.length=s.size+1:=by omega
 have e2:2 * (([]:List UInt8)++w).length=2 * w.length:=by simp
 rw [e1,e2] at hs
 have g0:s.data.toList[2 * w.length]?=some 42:=lit_end h 0
 show wildFrom s (s.size+1) .empty 0=_
 refine hs.trans ((wild_star g0 rfl).trans ?_)
 rw [← hz]
 exact wild_end (at_end s s.size (Nat.le_refl _))
end
/-! ### What they mean. -/
theorem patAcc_of {P:Parsed} {x:Ast} {f:List UInt8→Bool} (hP:P = .ok x) (hs:(PM.compile x).slim 400) (hc:x.count≤128) (hf:∀ u,x.lang u↔f u=true):patAcc P 400=some f:=by
 have hnw:¬ (PM.compile x).wide 400:=fun hw=>PM.slim_wide hs hw
 rw [hP]
 unfold patAcc
 simp only [if_neg hnw,Option.some.injEq]
 funext u
 rw [Bool.eq_iff_iff,compile_reads x hc,hf]
theorem litA_count {w:List UInt8} (hw:w≠[]) (h:w.length≤40):(litA w).count≤128∧(litAnyA w).count≤128:=by
 have h1:=(litA_lin hw).2
 refine ⟨by omega,?_⟩
 rw [litAnyA_eq hw]
 show (litA w).count+1≤128
 omega
end Go.Proofs.Ts
namespace Go.Proofs.Ts
open Go Go.RowKit
def WildAt (s:ByteArray) (R:Parsed) (w:World) (f:Nat) (x:Ast) (i:Nat) (wr:World):Prop :=
 R=wildFrom s f x i∧s.size < f+i∧i≤s.size∧trail s.data.toList i % 2=0∧Below w.heap.size w wr
set_option maxRecDepth 100000 in
set_option maxHeartbeats 4000000 in
theorem wild_any (s:ByteArray) (w:World) (hs:s.size≤1000000) :
  Calls Tryz.prog 86 #[.string s] w (ParseEnd w (wildP s)):=by
 obtain ⟨R,hR⟩:∃ R,R=wildP s:=⟨_,rfl⟩
 rw [← hR]
 have H0:Hid (WildAt s R w (s.size+1) .empty 0 w):=Lib.hid ⟨hR,by omega,Nat.zero_le _,rfl,Below.refl _ _⟩
 clear hR
 go_enter Tryz.func86,Tryz.ntmps86
 go_wp2_with fail
 go_loopw [4,5,6] (fun xv iv ov wr=>∃ (f:Nat) (x:Ast) (i:Nat),xv=x.val∧iv = .int .i64 i∧Hid (WildAt s R w f x i wr)) (fun xv iv ov _=>s.size - (intOf iv).toNat)
 case atStart=>exact ⟨_,_,0,rfl,rfl,H0⟩
 case round =>
  obtain ⟨f,x,i,rfl,rfl,HI⟩:=hrel
  obtain ⟨h1,h2,h3,h4,h5⟩:=id HI.out
  obtain ⟨f,rfl⟩:∃ f',f=f'+1:=⟨f - 1,by omega⟩
  by_cases hlt:i < s.size
  case neg =>
   have hRv:R = .ok x:=h1.trans (wild_end (at_end s i (by omega)))
   have q0:decide ((i:Int) < (s.size:Int))=false:=decide_eq_false (by omega)
   subst hRv
   clear h1 h2 h3 h4
   have HB:=Lib.hid h5
   clear h5
   go_wp2_with fail
   go_ret2
   exact ⟨HB.out,rfl⟩
  case pos =>
  have q0:decide ((i:Int) < (s.size:Int))=true:=decide_eq_true (by omega)
  obtain ⟨c,hc⟩:∃ c,c=s[i]:=⟨_,rfl⟩
  have hat:s.data.toList[i]?=some c:=by rw [hc]; exact at_str s i hlt
  obtain ⟨W,hW⟩:∃ W,W=wr.alloc (.cells #[.int .u64 0,.int .u64 0,.int .u64 0,.int .u64 0] 266):=⟨_,rfl⟩
  have hbW:Below w.heap.size w W:=by rw [hW]; exact h5.alloc h5.size _
  have hbs:BSetIs W wr.heap.size .zero:=⟨BSet.ok_zero,by rw [hW]; exact heap_alloc_new wr _⟩
  have HW:=Lib.hid (And.intro hbW (And.intro hbs h5.size))
  have HWE:=Lib.hid hW
  have HF:=Lib.hid (And.intro h1 (And.intro h2 (And.intro h4 hat)))
  have HCC:=Lib.hid hc
  have q1:IntKind.i64.wrap ((i:Int)+1)=(i:Int)+1:=IntWalk.i64_in _ (by omega)
  clear h1 h2 h3 h4 h5 hW hbW hbs hat hc
  go_upto_region 6 with fail
  rw [← HWE.out]
  clear HWE
  by_cases c42:c=42
  case pos =>
   have e42:((s[i]).toNat:Int)=42:=by rw [← HCC.out,c42]; rfl
   have htr:trail s.data.toList (i+1)=0:=trail_plain HF.out.2.2.2 (by rw [c42]; decide)
   have hsub:i=0∨(0 < i ∧ ∃ h:i - 1 < s.size,s[i - 1]≠92)∨(0 < i ∧ ∃ h:i - 1 < s.size,s[i - 1]=92):=by
    by_cases hi:i=0
    ·exact .inl hi
    ·by_cases h92:s[i - 1]'(by omega)=92
     ·exact .inr (.inr ⟨by omega,by omega,h92⟩)
     ·exact .inr (.inl ⟨by omega,by omega,h92⟩)
   go_wp2_with fail
   have hcall:=add_any wr.heap.size 0 255 .zero W HW.out.2.1 (by decide) (by decide)
   unfold ptrV at hcall
   refine hcall.mono ?_
   clear hcall
   rintro e w5 ⟨rfl,hb5,hm5⟩
   have H5:=Lib.hid (And.intro (show BSetIs w5 wr.heap.size allB from hb5) (HW.out.1.trans (mod_below hm5 HW.out.2.2 HW.out.1.size)))
   clear hb5 hm5
   rcases hsub with hi0 | ⟨hi0,hil,h92⟩ | ⟨hi0,hil,h92⟩
   case inl =>
    have z0:((i:Int) == 0)=true:=by rw [hi0]; rfl
    clear hi0
    obtain ⟨o,ho⟩:∃ o,o=allB:=⟨_,rfl⟩
    have HO:=Lib.hid ho
    have hb7:=H5.out.1.same (Same.refl w5)
    rw [← ho] at hb7
    clear ho
    have k0:w5.cell? ⟨wr.heap.size,0,none⟩=some (.int .u64 o.a):=cell_block hb7.2
    have k1:w5.cell? ⟨wr.heap.size,1,none⟩=some (.int .u64 o.b):=cell_block hb7.2
    have k2:w5.cell? ⟨wr.heap.size,2,none⟩=some (.int .u64 o.c):=cell_block hb7.2
    have k3:w5.cell? ⟨wr.heap.size,3,none⟩=some (.int .u64 o.d):=cell_block hb7.2
    clear hb7
    go_wp2_with fail
    have hcall:=join_any x (.many (.one o) false) w5
    refine hcall.mono ?_
    clear hcall
    rintro e w8 ⟨rfl,hb8⟩
    have HN:Hid (WildAt s R w f (x.join (.many (.one o) false)) (i+1) w8):=Lib.hid ⟨HF.out.1.trans ((wild_star HF.out.2.2.2 c42).trans (by rw [HO.out])),by have:=HF.out.2.1; omega,by omega,by rw [htr],(H5.out.2.trans ((Same.refl w5).below _)).trans (hb8.mono (H5.out.2.trans ((Same.refl w5).below _)).size)⟩
    clear hb8
    go_wp2_with fail
    exact ⟨⟨f,_,i+1,rfl,by go_num,HN⟩,by simp [intOf]; omega⟩
   case inr.inl =>
    have z0:((i:Int) == 0)=false:=beq_eq_false_iff_ne.2 (by omega)
    have z1:IntKind.i64.wrap ((i:Int) - 1)=((i - 1:Nat):Int):=by rw [IntWalk.i64_in _ (by omega)]; omega
    have z2:decide (((i - 1:Nat):Int) < (s.size:Int))=true:=decide_eq_true (by omega)
    have z3:(((s[i - 1]).toNat:Int) != 92)=true:=by rw [bne_iff_ne]; exact fun h=>h92 (UInt8.toNat_inj.1 (by show _=92; omega))
    obtain ⟨o,ho⟩:∃ o,o=allB:=⟨_,rfl⟩
    have HO:=Lib.hid ho
    have hb7:=H5.out.1.same (Same.refl w5)
    rw [← ho] at hb7
    clear ho
    have k0:w5.cell? ⟨wr.heap.size,0,none⟩=some (.int .u64 o.a):=cell_block hb7.2
    have k1:w5.cell? ⟨wr.heap.size,1,none⟩=some (.int .u64 o.b):=cell_block hb7.2
    have k2:w5.cell? ⟨wr.heap.size,2,none⟩=some (.int .u64 o.c):=cell_block hb7.2
    have k3:w5.cell? ⟨wr.heap.size,3,none⟩=some (.int .u64 o.d):=cell_block hb7.2
    clear hb7
    go_wp2_with fail
    have hcall:=join_any x (.many (.one o) false) w5
    refine hcall.mono ?_
    clear hcall
    rintro e w8 ⟨rfl,hb8⟩
    have HN:Hid (WildAt s R w f (x.join (.many (.one o) false)) (i+1) w8):=Lib.hid ⟨HF.out.1.trans ((wild_star HF.out.2.2.2 c42).trans (by rw [HO.out])),by have:=HF.out.2.1; omega,by omega,by rw [htr],(H5.out.2.trans ((Same.refl w5).below _)).trans (hb8.mono (H5.out.2.trans ((Same.refl w5).below _)).size)⟩
    clear hb8
    go_wp2_with fail
    exact ⟨⟨f,_,i+1,rfl,by go_num,HN⟩,by simp [intOf]; omega⟩
   case inr.inr =>
    have z0:((i:Int) == 0)=false:=beq_eq_false_iff_ne.2 (by omega)
    have z1:IntKind.i64.wrap ((i:Int) - 1)=((i - 1:Nat):Int):=by rw [IntWalk.i64_in _ (by omega)]; omega
    have z2:decide (((i - 1:Nat):Int) < (s.size:Int))=true:=decide_eq_true (by omega)
    have z3:((s[i - 1]).toNat:Int)=92:=by rw [h92]; rfl
    have htc:=trail_cut s i (by omega)
    have hez:ByteArray.size (s.extract 0 i)≤1000000:=by simp; omega
    have hesc:=esc_any (s.extract 0 i) w5 hez
    rw [htc,decide_eq_true HF.out.2.2.1] at hesc
    clear htc hez
    have HESC:=Lib.hid hesc
    clear hesc
    go_upto_region 16 with (go_at_call 123; refine HESC.out.mono ?_; rintro e w6 ⟨rfl,hs6⟩; have HS6:=Lib.hid hs6; clear hs6)
    obtain ⟨o,ho⟩:∃ o,o=allB:=⟨_,rfl⟩
    have HO:=Lib.hid ho
    have hb7:=H5.out.1.same HS6.out
    rw [← ho] at hb7
    clear ho
    have k0:w6.cell? ⟨wr.heap.size,0,none⟩=some (.int .u64 o.a):=cell_block hb7.2
    have k1:w6.cell? ⟨wr.heap.size,1,none⟩=some (.int .u64 o.b):=cell_block hb7.2
    have k2:w6.cell? ⟨wr.heap.size,2,none⟩=some (.int .u64 o.c):=cell_block hb7.2
    have k3:w6.cell? ⟨wr.heap.size,3,none⟩=some (.int .u64 o.d):=cell_block hb7.2
    clear hb7
    go_wp2_with fail
    have hcall:=join_any x (.many (.one o) false) w6
    refine hcall.mono ?_
    clear hcall
    rintro e w8 ⟨rfl,hb8⟩
    have HN:Hid (WildAt s R w f (x.join (.many (.one o) false)) (i+1) w8):=Lib.hid ⟨HF.out.1.trans ((wild_star HF.out.2.2.2 c42).trans (by rw [HO.out])),by have:=HF.out.2.1; omega,by omega,by rw [htr],(H5.out.2.trans (HS6.out.below _)).trans (hb8.mono (H5.out.2.trans (HS6.out.below _)).size)⟩
    clear hb8
    go_wp2_with fail
    exact ⟨⟨f,_,i+1,rfl,by go_num,HN⟩,by simp [intOf]; omega⟩
  case neg =>
   have e42:(((s[i]).toNat:Int) == 42)=false:=beq_eq_false_iff_ne.2 fun h=>c42 (by rw [HCC.out]; exact UInt8.toNat_inj.1 (by show _=42; omega))
   by_cases c63:c=63
   case pos =>
    have e63:((s[i]).toNat:Int)=63:=by rw [← HCC.out,c63]; rfl
    have htr:trail s.data.toList (i+1)=0:=trail_plain HF.out.2.2.2 (by rw [c63]; decide)
    clear e42
    go_wp2_with fail
    have hcall:=add_any wr.heap.size 0 255 .zero W HW.out.2.1 (by decide) (by decide)
    unfold ptrV at hcall
    refine hcall.mono ?_
    clear hcall
    rintro e w5 ⟨rfl,hb5,hm5⟩
    have H5:=Lib.hid (And.intro (show BSetIs w5 wr.heap.size allB from hb5) (HW.out.1.trans (mod_below hm5 HW.out.2.2 HW.out.1.size)))
    clear hb5 hm5
    obtain ⟨o,ho⟩:∃ o,o=allB:=⟨_,rfl⟩
    have HO:=Lib.hid ho
    have hb7:=H5.out.1.same (Same.refl w5)
    rw [← ho] at hb7
    clear ho
    have k0:w5.cell? ⟨wr.heap.size,0,none⟩=some (.int .u64 o.a):=cell_block hb7.2
    have k1:w5.cell? ⟨wr.heap.size,1,none⟩=some (.int .u64 o.b):=cell_block hb7.2
    have k2:w5.cell? ⟨wr.heap.size,2,none⟩=some (.int .u64 o.c):=cell_block hb7.2
    have k3:w5.cell? ⟨wr.heap.size,3,none⟩=some (.int .u64 o.d):=cell_block hb7.2
    clear hb7
    go_wp2_with fail
    have hcall:=join_any x (.one o) w5
    refine hcall.mono ?_
    clear hcall
    rintro e w8 ⟨rfl,hb8⟩
    have HN:Hid (WildAt s R w f (x.join (.one o)) (i+1) w8):=Lib.hid ⟨HF.out.1.trans ((wild_any' HF.out.2.2.2 c42 c63).trans (by rw [HO.out])),by have:=HF.out.2.1; omega,by omega,by rw [htr],(H5.out.2.trans ((Same.refl w5).below _)).trans (hb8.mono (H5.out.2.trans ((Same.refl w5).below _)).size)⟩
    clear hb8
    go_wp2_with fail
    exact ⟨⟨f,_,i+1,rfl,by go_num,HN⟩,by simp [intOf]; omega⟩
   case neg =>
    have e63:(((s[i]).toNat:Int) == 63)=false:=beq_eq_false_iff_ne.2 fun h=>c63 (by rw [HCC.out]; exact UInt8.toNat_inj.1 (by show _=63; omega))
    by_cases c92:c=92
    case neg =>
     have e92:(((s[i]).toNat:Int) == 92)=false:=beq_eq_false_iff_ne.2 fun h=>c92 (by rw [HCC.out]; exact UInt8.toNat_inj.1 (by show _=92; omega))
     have htr:trail s.data.toList (i+1)=0:=trail_plain HF.out.2.2.2 c92
     go_upto_region 14 with fail
     have hdl:(s[i]).toNat < 256:=(s[i]).toNat_lt
     refine wp_region_ordP [(0,false),(1,false),(2,false),(3,false),(4,false),(5,false),(6,true)]
      (fun w'=>Below w.heap.size w w') (fun c w'=>False) (fun c a w' hd h=>h.elim) (by kernel_rfl) (by kernel_rfl) (HW.out.1.trans ((Same.drew _).below _)) ?_
     iterate 6 (
      refine wpOrdP_quiet ?_ rfl rfl (fun w' hS=>?_) ?_
      rotate_left
      ·go_simp
       first | rfl | done
      simp only [put_lit,List.set_cons_succ,List.set_cons_zero])
     refine wpOrdP_loud rfl rfl (by decide) (fun K hK=>?_)
     have HK:=Lib.hid hK
     clear hK
     go_simp
     obtain ⟨dn,hdn⟩:∃ dn,dn=(s[i]).toNat:=⟨_,rfl⟩
     rw [← hdn] at hdl ⊢
     have hcall:=add_any wr.heap.size dn dn .zero W.drew (HW.out.2.1.same (Same.drew _)) hdl hdl
     unfold ptrV at hcall
     refine hcall.mono ?_
     clear hcall
     rintro e w5 ⟨rfl,hb5,hm5⟩
     have hbw:Below w.heap.size w w5:=(HW.out.1.trans ((Same.drew _).below _)).trans (mod_below hm5 HW.out.2.2 (Nat.le_trans HW.out.1.size (Below.size ((Same.drew W).below w.heap.size))))
     have H5:=Lib.hid (And.intro hb5 hbw)
     have HDN:=Lib.hid hdn
     clear hb5 hm5 hbw hdn hdl
     refine HK.out _ _ H5.out.2 ?_
     clear HK K
     refine wpOrdP_nil ?_
     obtain ⟨o,ho⟩:∃ o,o=BSet.zero.add dn dn:=⟨_,rfl⟩
     have HO:=Lib.hid ho
     have hb7:=H5.out.1.same (Same.refl w5)
     rw [← ho] at hb7
     clear ho
     have k0:w5.cell? ⟨wr.heap.size,0,none⟩=some (.int .u64 o.a):=cell_block hb7.2
     have k1:w5.cell? ⟨wr.heap.size,1,none⟩=some (.int .u64 o.b):=cell_block hb7.2
     have k2:w5.cell? ⟨wr.heap.size,2,none⟩=some (.int .u64 o.c):=cell_block hb7.2
     have k3:w5.cell? ⟨wr.heap.size,3,none⟩=some (.int .u64 o.d):=cell_block hb7.2
     clear hb7
     go_wp2_with fail
     have hcall:=join_any x (.one o) w5
     refine hcall.mono ?_
     clear hcall
     rintro e w8 ⟨rfl,hb8⟩
     have HN:Hid (WildAt s R w f (x.join (.one o)) (i+1) w8):=Lib.hid ⟨HF.out.1.trans ((wild_one HF.out.2.2.2 c42 c63 c92).trans (by rw [HO.out,HDN.out,← HCC.out]; rfl)),by have:=HF.out.2.1; omega,by omega,by rw [htr],(H5.out.2.trans ((Same.refl w5).below _)).trans (hb8.mono (H5.out.2.trans ((Same.refl w5).below _)).size)⟩
     clear hb8
     go_wp2_with fail
     exact ⟨⟨f,_,i+1,rfl,by go_num,HN⟩,by simp [intOf]; omega⟩
    case pos =>
     have e92:((s[i]).toNat:Int)=92:=by rw [← HCC.out,c92]; rfl
     have htb:trail s.data.toList (i+1)=trail s.data.toList i+1:=trail_back (by rw [HF.out.2.2.2,c92])
     clear e42 e63
     obtain ⟨j,hj⟩:∃ j,j=i+1:=⟨_,rfl⟩
     have HJ:=Lib.hid hj
     have hji:(i:Int)+1=(j:Int):=by omega
     rw [← hj] at htb
     clear hj
     have HTB:=Lib.hid htb
     clear htb
     rw [hji] at q1
     by_cases hjl:j < s.size
     case neg =>
      have hjs:((j:Int) == (s.size:Int))=true:=by rw [beq_iff_eq]; have:=HJ.out; omega
      have hRv:R = .fault j:=HF.out.1.trans ((wild_bad HF.out.2.2.2 c42 c63 c92 (at_end s (i+1) (by have:=HJ.out; omega))).trans (by rw [HJ.out]))
      subst hRv
      go_wp2_with fail
      go_ret2
      exact ⟨HW.out.1.alloc HW.out.1.size _,W.heap.size,HW.out.1.size,rfl,heap_alloc_new W _⟩
     case pos =>
      have hjs:((j:Int) == (s.size:Int))=false:=beq_eq_false_iff_ne.2 (by omega)
      have q2:decide ((j:Int) < (s.size:Int))=true:=decide_eq_true (by omega)
      have hdat:s.data.toList[i+1]?=some s[j]:=by rw [← HJ.out]; exact at_str s j hjl
      have HDAT:=Lib.hid hdat
      clear hdat
      go_upto_region 14 with fail
      have hdl:(s[j]).toNat < 256:=(s[j]).toNat_lt
      refine wp_region_ordP [(0,false),(1,false),(2,false),(3,false),(4,false),(5,false),(6,true)]
       (fun w'=>Below w.heap.size w w') (fun c w'=>False) (fun c a w' hd h=>h.elim) (by kernel_rfl) (by kernel_rfl) (HW.out.1.trans ((Same.drew _).below _)) ?_
      iterate 6 (
       refine wpOrdP_quiet ?_ rfl rfl (fun w' hS=>?_) ?_
       rotate_left
       ·go_simp
        first | rfl | done
       simp only [put_lit,List.set_cons_succ,List.set_cons_zero])
      refine wpOrdP_loud rfl rfl (by decide) (fun K hK=>?_)
      have HK:=Lib.hid hK
      clear hK
      go_simp
      obtain ⟨dn,hdn⟩:∃ dn,dn=(s[j]).toNat:=⟨_,rfl⟩
      rw [← hdn] at hdl ⊢
      have hcall:=add_any wr.heap.size dn dn .zero W.drew (HW.out.2.1.same (Same.drew _)) hdl hdl
      unfold ptrV at hcall
      refine hcall.mono ?_
      clear hcall
      rintro e w5 ⟨rfl,hb5,hm5⟩
      have hbw:Below w.heap.size w w5:=(HW.out.1.trans ((Same.drew _).below _)).trans (mod_below hm5 HW.out.2.2 (Nat.le_trans HW.out.1.size (Below.size ((Same.drew W).below w.heap.size))))
      have H5:=Lib.hid (And.intro hb5 hbw)
      have HDN:=Lib.hid hdn
      clear hb5 hm5 hbw hdn hdl
      refine HK.out _ _ H5.out.2 ?_
      clear HK K
      refine wpOrdP_nil ?_
      obtain ⟨o,ho⟩:∃ o,o=BSet.zero.add dn dn:=⟨_,rfl⟩
      have HO:=Lib.hid ho
      have hb7:=H5.out.1.same (Same.refl w5)
      rw [← ho] at hb7
      clear ho
      have k0:w5.cell? ⟨wr.heap.size,0,none⟩=some (.int .u64 o.a):=cell_block hb7.2
      have k1:w5.cell? ⟨wr.heap.size,1,none⟩=some (.int .u64 o.b):=cell_block hb7.2
      have k2:w5.cell? ⟨wr.heap.size,2,none⟩=some (.int .u64 o.c):=cell_block hb7.2
      have k3:w5.cell? ⟨wr.heap.size,3,none⟩=some (.int .u64 o.d):=cell_block hb7.2
      clear hb7
      have q3:IntKind.i64.wrap ((j:Int)+1)=(j:Int)+1:=IntWalk.i64_in _ (by omega)
      by_cases d42:s[j]=42
      case neg =>
       have w42:(((s[j]).toNat:Int) == 42)=false:=beq_eq_false_iff_ne.2 fun h=>d42 (UInt8.toNat_inj.1 (by show _=42; omega))
       have htr:trail s.data.toList (j+1) % 2=0:=by
        by_cases d92:s[j]=92
        ·rw [trail_back (by rw [← d92]; exact at_str s j hjl),HTB.out]; have:=HF.out.2.2.1; omega
        ·rw [trail_plain (at_str s j hjl) d92]
       go_wp2_with fail
       have hcall:=join_any x (.one o) w5
       refine hcall.mono ?_
       clear hcall
       rintro e w8 ⟨rfl,hb8⟩
       have HN:Hid (WildAt s R w f (x.join (.one o)) (j+1) w8):=Lib.hid ⟨HF.out.1.trans ((wild_esc HF.out.2.2.2 c42 c63 c92 HDAT.out).trans (by rw [HO.out,HDN.out,show i+2=j+1 from by rw [HJ.out]]; rfl)),by have:=HF.out.2.1; have:=HJ.out; omega,by omega,htr,(H5.out.2.trans ((Same.refl w5).below _)).trans (hb8.mono (H5.out.2.trans ((Same.refl w5).below _)).size)⟩
       have HMS:Hid (s.size - (j+1) < s.size - i):=Lib.hid (by have:=HJ.out; omega)
       clear hb8
       go_wp2_with fail
       exact ⟨⟨f,_,j+1,rfl,by go_num,HN⟩,by have:=HMS.out; simp [intOf]; omega⟩
      case pos =>
       have w42:((s[j]).toNat:Int)=42:=by rw [d42]; rfl
       have htr:trail s.data.toList (j+1) % 2=0:=by rw [trail_plain (at_str s j hjl) (by rw [d42]; decide)]
       have z0:((j:Int) == 0)=false:=beq_eq_false_iff_ne.2 (by have:=HJ.out; omega)
       have z1:IntKind.i64.wrap ((j:Int) - 1)=(i:Int):=by have:=HJ.out; rw [IntWalk.i64_in _ (by omega)]; omega
       have z2:decide ((i:Int) < (s.size:Int))=true:=decide_eq_true (by omega)
       have htc:=trail_cut s j (by omega)
       have hez:ByteArray.size (s.extract 0 j)≤1000000:=by simp; omega
       have hesc:=esc_any (s.extract 0 j) w5 hez
       rw [htc,HTB.out,decide_eq_false (by have:=HF.out.2.2.1; omega)] at hesc
       clear htc hez
       have HESC:=Lib.hid hesc
       clear hesc
       go_upto_region 17 with (go_at_call 123; refine HESC.out.mono ?_; rintro e w6 ⟨rfl,hs6⟩; have HS6:=Lib.hid hs6; clear hs6)
       clear k0 k1 k2 k3
       have hb9:=H5.out.1.same HS6.out
       rw [← HO.out] at hb9
       have k0:w6.cell? ⟨wr.heap.size,0,none⟩=some (.int .u64 o.a):=cell_block hb9.2
       have k1:w6.cell? ⟨wr.heap.size,1,none⟩=some (.int .u64 o.b):=cell_block hb9.2
       have k2:w6.cell? ⟨wr.heap.size,2,none⟩=some (.int .u64 o.c):=cell_block hb9.2
       have k3:w6.cell? ⟨wr.heap.size,3,none⟩=some (.int .u64 o.d):=cell_block hb9.2
       clear hb9
       go_wp2_with fail
       have hcall:=join_any x (.one o) w6
       refine hcall.mono ?_
       clear hcall
       rintro e w8 ⟨rfl,hb8⟩
       have HN:Hid (WildAt s R w f (x.join (.one o)) (j+1) w8):=Lib.hid ⟨HF.out.1.trans ((wild_esc HF.out.2.2.2 c42 c63 c92 HDAT.out).trans (by rw [HO.out,HDN.out,show i+2=j+1 from by rw [HJ.out]]; rfl)),by have:=HF.out.2.1; have:=HJ.out; omega,by omega,htr,(H5.out.2.trans (HS6.out.below _)).trans (hb8.mono (H5.out.2.trans (HS6.out.below _)).size)⟩
       have HMS:Hid (s.size - (j+1) < s.size - i):=Lib.hid (by have:=HJ.out; omega)
       clear hb8
       go_wp2_with fail
       exact ⟨⟨f,_,j+1,rfl,by go_num,HN⟩,by have:=HMS.out; simp [intOf]; omega⟩
--TAIL
end Go.Proofs.Ts
namespace Go.Proofs.Ts
open Go Go.RowKit
set_option maxRecDepth 100000 in
set_option maxHeartbeats 4000000 in
theorem machine_wl (a b:ByteArray) (n:Int) (most:Nat) (w:World) (ha:a.size≤40) (hT:BitTab w) (h1:1≤most) (h4:most≤400) :
  Calls Tryz.prog 48 #[.agg #[.int .i64 4,.string a,.string b,.int .i64 n],.int .i64 most] w (MachEnd w (wildP a) most):=by
 obtain ⟨P,hP⟩:∃ P,P=wildP a:=⟨_,rfl⟩
 have HP:=Lib.hid hP
 have HT:=Lib.hid hT
 rw [← hP]
 clear hP hT
 go_enter Tryz.func48,Tryz.ntmps48
 go_wp2_with fail
 obtain ⟨W,hW⟩:∃ W,W=w.alloc (.cells #[.int .i64 4,.string a,.string b,.int .i64 n] 37):=⟨_,rfl⟩
 have hbW:Below w.heap.size w W:=by rw [hW]; exact (Below.refl _ w).alloc (Nat.le_refl _) _
 rw [← hW]
 have HW:=Lib.hid hbW
 clear hW hbW
 refine (wild_any a W (by omega)).mono ?_
 rw [← HP.out]
 rintro e w2 ⟨hb2,he2⟩
 have H2:=Lib.hid (HW.out.trans (hb2.mono HW.out.size))
 clear hb2
 cases P with
 | fault i =>
  obtain ⟨b2,hbl,rfl,hbb⟩:=he2
  have HBB:=Lib.hid (And.intro (Nat.le_trans HW.out.size hbl) hbb)
  clear hbl hbb
  unfold ptrV
  go_wp2_with fail
  go_ret3
  exact ⟨H2.out,.fault i,_,_,_,rfl,rfl,⟨b2,HBB.out.1,rfl,HBB.out.2⟩,.inr ⟨fun _ _ h=>(by cases h),rfl,rfl⟩⟩
 | big =>
  have he2':e=_:=he2
  subst he2'
  go_wp2_with fail
  go_ret3
  exact ⟨H2.out,.big,_,_,_,.inl rfl,rfl,rfl,.inr ⟨fun _ _ h=>(by cases h),rfl,rfl⟩⟩
 | ok x =>
  have he2':e=_:=he2
  subst he2'
  have hxo:=(wildP_ok HP.out.symm).1
  have hxc:x.count≤128:=by have:=(wildP_ok HP.out.symm).2; omega
  have HX:=Lib.hid (And.intro hxo hxc)
  clear hxo hxc
  obtain ⟨xv,hxv⟩:∃ xv,xv=x.val:=⟨_,rfl⟩
  rw [← hxv]
  have HXV:=Lib.hid hxv
  clear hxv
  go_wp2_with fail
  rw [HXV.out]
  refine (compileP_any x HX.out.1 HX.out.2 w2 (HT.out.below H2.out)).mono ?_
  rintro e w3 ⟨rfl,hm3,hb3⟩
  have H3:=Lib.hid (And.intro hm3 (H2.out.trans (hb3.mono H2.out.size)))
  obtain ⟨mb,hmb⟩:∃ mb,mb=w2.heap.size:=⟨_,rfl⟩
  rw [← hmb] at H3 ⊢
  have HMB:=Lib.hid (show w.heap.size≤mb by rw [hmb]; exact H2.out.size)
  clear hm3 hb3 hmb
  unfold ptrV
  go_wp2_with fail
  have hcall:=table_any mb most (PM.compile x) w3 H3.out.1 (compile_fit x HX.out.2) (HT.out.below H3.out.2) h1 h4
  unfold ptrV at hcall
  refine hcall.mono ?_
  clear hcall
  rintro e w4 ⟨hb4,hres⟩
  have H4:=Lib.hid (And.intro (H3.out.1.below hb4) (H3.out.2.trans (hb4.mono H3.out.2.size)))
  clear hb4
  rcases hres with ⟨rfl,hwide⟩ | ⟨tb,L,ib,sv,ov,kv,rbs,sets,rows,rfl,hok,hall,hlen,hmem⟩
  ·go_wp2_with fail
   go_ret3
   exact ⟨H4.out.2,.big,_,_,_,.inr ⟨x,rfl,hwide⟩,rfl,rfl,.inr ⟨fun _ _ h=>(by cases h),rfl,rfl⟩⟩
  ·have HTB:=Lib.hid (And.intro hok (And.intro hall (And.intro hlen hmem)))
   clear hok hall hlen hmem
   unfold ptrV
   go_wp2_with fail
   have hcall:=least_any mb tb ib w3.heap.size (PM.compile x) L sv ov kv rbs sets rows w4 H4.out.1 (compile_fit x HX.out.2) HTB.out.1 HTB.out.2.1 (Nat.le_trans HTB.out.2.2.1 h4) HTB.out.2.2.2
   unfold ptrV at hcall
   refine hcall.mono ?_
   clear hcall
   rintro e w5 ⟨c,rfl,hl,hb5⟩
   have H5:=Lib.hid (And.intro hl (And.intro (H4.out.1.below hb5) (H4.out.2.trans (hb5.mono H4.out.2.size))))
   clear hl hb5
   go_wp2_with fail
   go_ret3
   refine ⟨H5.out.2.2,.ok x c,_,_,_,⟨rfl,⟨sets,fun s hs=>HTB.out.1.all HTB.out.2.1 hs,HTB.out.2.2.1⟩,H5.out.1⟩,rfl,rfl,.inl ⟨x,c,rfl,rfl,mb,HMB.out,rfl,H5.out.2.1⟩⟩
end Go.Proofs.Ts
namespace Go.Proofs.Ts
open Go Go.RowKit
set_option maxRecDepth 100000 in
set_option maxHeartbeats 4000000 in
theorem compile_wl (a b:ByteArray) (n:Int) (st:Nat) (w:World) (ha:a.size≤40) (hT:BitTab w) (h1:1≤st) (h4:st≤400) :
  Calls Tryz.prog 102 #[queryV 4 a b n,.int .i64 st] w fun e w'=>∃ pb r,e = .returned (ptrV pb)∧Below w.heap.size w w'∧w.heap.size≤pb∧MachOf (wildP a) st r∧RxPlan w w' pb r:=by
 have g1:decide ((40:Int) < (a.size:Int))=false:=by simp; omega
 have HT:=Lib.hid hT
 clear hT
 unfold queryV
 go_enter Tryz.func102,Tryz.ntmps102
 go_wp2_with fail
 obtain ⟨W,hW⟩:∃ W,W=w.alloc (.cells #[.int .i64 4,.string a,.string b,.int .i64 n] 37):=⟨_,rfl⟩
 have hbW:Below w.heap.size w W:=by rw [hW]; exact (Below.refl _ w).alloc (Nat.le_refl _) _
 rw [← hW]
 have HW:=Lib.hid hbW
 clear hW hbW
 refine (machine_wl a b n st W ha (HT.out.below HW.out) h1 h4).mono ?_
 rintro e w2 ⟨hb2,r,mv,nn,ev,hr,rfl,hev,hend⟩
 have hbw:=HW.out.trans (hb2.mono HW.out.size)
 have H2:=Lib.hid (And.intro hbw hr)
 clear hb2 hr hbw
 cases r with
 | ok x c =>
  rcases hend with ⟨x',c',hx,rfl,mb,hmb,rfl,hm⟩ | ⟨hno,_⟩
  ·cases hx
   have hev':ev=_:=hev
   subst hev'
   have HM:=Lib.hid hm
   clear hm hmb hev
   unfold ptrV
   go_wp2_with (go_at_call 142; refine (S.over_make _ _ ⟨_,_,rfl⟩).mono ?_; rintro e w3 ⟨rfl,rfl⟩; unfold ptrV)
   go_ret
   have hall:Below w2.heap.size w2 ((w2.alloc (.cells #[.iface 115 (ptrV mb)] 354)).alloc (.cells #[.func (.func 169) #[] #[ptrV w2.heap.size],.nilIface] 165)):=((Below.refl _ w2).alloc (Nat.le_refl _) _).alloc (by simp) _
   refine ⟨w2.heap.size+1,.ok x c,?_,H2.out.1.trans (hall.mono H2.out.1.size),Nat.le_succ_of_le H2.out.1.size,H2.out.2,w2.heap.size,mb,?_,?_,HM.out.below hall⟩
   ·rfl
   ·have:=heap_alloc_new (w2.alloc (.cells #[.iface 115 (ptrV mb)] 354)) (.cells #[.func (.func 169) #[] #[ptrV w2.heap.size],.nilIface] 165)
    rw [World.size_alloc] at this
    exact this
   ·rw [Below.heap_alloc _ _ _ (by simp)]
    exact heap_alloc_new w2 _
  ·exact absurd rfl (hno x c)
 | big =>
  rcases hend with ⟨x',c',hx,_⟩ | ⟨_,rfl,rfl⟩
  ·cases hx
  ·have hev':ev=_:=hev
   subst hev'
   clear hev
   go_wp2_with fail
   go_ret
   exact ⟨w2.heap.size,.big,rfl,H2.out.1.alloc H2.out.1.size _,H2.out.1.size,H2.out.2,heap_alloc_new w2 _⟩
 | fault i =>
  rcases hend with ⟨x',c',hx,_⟩ | ⟨_,rfl,rfl⟩
  ·cases hx
  ·obtain ⟨b2,hb2,rfl,hbb⟩:=hev
   have HBB:=Lib.hid hbb
   clear hbb hb2
   unfold ptrV
   go_wp2_with fail
   go_ret
   refine ⟨w2.heap.size,.fault i,rfl,H2.out.1.alloc H2.out.1.size _,H2.out.1.size,H2.out.2,b2,heap_alloc_new w2 _,?_⟩
   rw [Below.heap_alloc _ _ _ (lt_of_heap HBB.out)]
   exact HBB.out
end Go.Proofs.Ts
