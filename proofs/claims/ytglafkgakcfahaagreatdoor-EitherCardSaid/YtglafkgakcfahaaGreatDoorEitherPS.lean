/- Lemmas towards the statement Either of termsearch: walks of the program's functions and plain laws on lists (TsPlain, TsFixed, TsFound, TsCard, TsCardT, TsErrs, TsCardE, TsCardB, TsLong, TsBoth, TsSmallP, TsEitherP, TsErrsB, TsErrsC). Conditions: those that each theorem names. -/
import Derived.Test.YtglafkgakcfahaaGreatDoorEitherPR
import Derived.Test.YtglafkgakcfahaaGreatDoorCards
import Derived.Test.YtglafkgakcfahaaGreatDoorTie
import Derived.Test.YtglafkgakcfahaaGreatDoorEitherPE
import Derived.WalkKit
import Derived.ProofKit
import Derived.OpenShut
import Derived.Carry
import Derived.SliceStrings
import Derived.LaidHandle
import Derived.LaidLaws
import Derived.Deep.DeepHandedRow
import Derived.Test.YtglafkgakcfahaaGreatDoorEitherPF
import Derived.Lib.LaidU8T
import Derived.PinnedBridge
import Derived.LaidEql
import Derived.Stop.Asserts
import Derived.RowKitTokens
import Derived.Test.YtglafkgakcfahaaGreatDoorEitherPG
import Derived.Test.YtglafkgakcfahaaGreatDoorEitherPQ
import Derived.Test.YtglafkgakcfahaaGreatDoorEitherPP
import Derived.KernelRfl
import Derived.Deep.RegionWith
set_option linter.unusedVariables false
set_option linter.unusedSimpArgs false
set_option linter.unusedSectionVars false
namespace Go.Proofs.Ts
open Go Go.RowKit
def Own (ov:Value) (docs:List ByteArray) (w1:World) (k:Nat) (w:World):Prop :=
 Mod (fun b=>ov.ownBlock=some b) w1 w ∧ ∀ og,ov.ownBlock=some og → ∃ cur:Array Value,w.heap[og]?=some (.cells cur 9 (0,0)) ∧ ∀ j (h:j < docs.length),k≤j→cur[j]?=some (.string docs[j])
theorem Own.step {ov:Value} {docs:List ByteArray} {w1 w:World} {k og:Nat} {v:Value} (h:Own ov docs w1 k w) (ho:ov.ownBlock=some og):Own ov docs w1 (k+1) (w.setCell ⟨og,k,none⟩ v):=by
 obtain ⟨h1,h2⟩:=h
 refine ⟨h1.trans (Mod.setCell w ⟨og,k,none⟩ v fun _=>ho),fun og' ho'=>?_⟩
 obtain rfl:og=og':=Option.some.inj (ho.symm.trans ho')
 obtain ⟨cur,h3,h4⟩:=h2 og ho
 refine ⟨_,heap_setCell_same w og k _ _ _ h3,fun j hj hk=>?_⟩
 rw [Array.getElem?_setIfInBounds_ne (by omega)]
 exact h4 j hj (by omega)
theorem Own.same {ov:Value} {docs:List ByteArray} {w1 w w':World} {k:Nat} (h:Own ov docs w1 k w) (hs:Same w w'):Own ov docs w1 k w':=by
 obtain ⟨n,rfl⟩:=hs
 exact ⟨h.1.trans (Mod.same (Same.drewN w n)),h.2⟩
theorem ownsRow_strs {w:World} {ov:Value} {docs:List ByteArray} (h:w.ownsRow 0 9 1 ov docs.length (docs.map Value.string)):StrsIs w ov docs:=by
 obtain ⟨a,cap,rfl⟩:=ownsRow_form h
 refine ⟨a,cap,rfl,fun i hi=>?_⟩
 obtain ⟨g,cap',e,hc⟩:=ownsRow_cell h (j:=i) (u := .string docs[i]) (by simp [hi])
 simp only [Value.slice.injEq,true_and] at e
 obtain ⟨rfl,rfl⟩:=e
 exact ⟨g,0,rfl,by rw [Nat.zero_add]; exact hc⟩
set_option maxRecDepth 100000 in
set_option maxHeartbeats 2000000 in
theorem plainBuild_any (docs:List ByteArray) (v:Value) (w:World) (hv:StrsIs w v docs) (h48:docs.length≤48) (h200:∀ d∈docs,d.size≤200) :
  Calls Tryz.prog 21 #[v] w fun e w'=>∃ sb,e = .returned (.tuple #[ptrV sb,.int .i64 0,.bool true])∧Below w.heap.size w w'∧Seg w.heap.size w' sb (docs.map wordsB):=by
 obtain ⟨a,cap,rfl,hc⟩:=hv
 obtain ⟨i0,hi,hz0,hz1,hz2⟩:=info_parts Tryz.info9
 have HC:=Lib.hid hc
 have H200:=Lib.hid h200
 clear hc h200
 go_enter Tryz.func21,Tryz.ntmps21
 go_wp2_with (at_builtin; refine wpList_append_copy rfl _ _ 22 rfl 9 i0 (.string ⟨#[]⟩) 1 16 Tryz.underlying22 hi hz0 hz1 hz2 rfl (by decide) rfl a docs.length cap (docs.map Value.string) rfl (by simp) ?c1 (by simp [Value.oneCell']) (by unfold maxLen; omega) (by omega) ?_)
 case c1 =>
  intro j u hj
  rw [List.getElem?_map] at hj
  obtain ⟨d,hd,rfl⟩:=Option.map_eq_some_iff.1 hj
  obtain ⟨hjl,hd⟩:=List.getElem?_eq_some_iff.1 hd
  obtain ⟨b,off,rfl,hcell⟩:=HC.out j hjl
  refine ⟨_,rfl,?_⟩
  rw [← hd]
  by_cases h0:j=0
  ·subst h0; simpa [Addr.add] using hcell
  ·simpa [Addr.add,h0] using hcell
 intro ov w1 hrow hb1 hpast
 have hs1:=ownsRow_strs hrow
 obtain ⟨oa,oc,rfl⟩:=ownsRow_form hrow
 have HROW:=Lib.hid hrow
 have HB1:=Lib.hid hb1
 have HP:=Lib.hid hpast
 clear hrow hb1 hpast hi hz0 hz1 hz2
 go_wp2_with fail
 refine (build_any docs _ w1 hs1 h48 H200.out).mono ?_
 rintro e w2 ⟨sb,rfl,hsb,hb2,hseg2⟩
 have HB2:=Lib.hid hb2
 have HS2:=Lib.hid hseg2
 clear hs1 hb2 hseg2
 unfold ptrV
 go_wp2_with fail
 refine (told_nil w2).mono ?_
 rintro e w3 ⟨rfl,hb3⟩
 have HB3:=Lib.hid hb3
 clear hb3
 go_wp2_with fail
 have hb13:Below w1.heap.size w1 w3:=HB2.out.trans (HB3.out.mono HB2.out.size)
 have hown:Own (.slice oa docs.length oc) docs w3 0 w3:=⟨Mod.refl _ _,fun og ho=>by
  rcases HROW.out.2 with ⟨h,_⟩ | ⟨g,cap',cur,h,_,hg,_,_,hcs,htake⟩
  ·rw [h] at ho; cases ho
  ·rw [h] at ho
   cases ho
   refine ⟨cur,(hb13.block _ (lt_of_heap hg)).trans hg,fun j hj _=>?_⟩
   have h1:(docs.map Value.string)[j]?=some (.string docs[j]):=by simp [hj]
   rw [← htake] at h1
   rw [List.getElem?_take_of_lt (by simp; omega)] at h1
   simpa using h1⟩
 have HOWN:=Lib.hid hown
 have HB13:=Lib.hid hb13
 clear hown hb13
 go_loopw [10,26] (fun sm i wr=>∃ k:Nat,k≤docs.length∧i = .int .i64 k∧sm = .bool true∧Hid (Own (.slice oa docs.length oc) docs w3 k wr)) (fun _ i _=>docs.length - (intOf i).toNat)
 case atStart=>exact ⟨0,Nat.zero_le _,rfl,rfl,HOWN⟩
 case round =>
  obtain ⟨k,hk,rfl,rfl,HO⟩:=hrel
  by_cases hlt:k < docs.length
  ·obtain ⟨b,off,rfl,hcell⟩:=HC.out k hlt
   obtain ⟨g,cap',e,_⟩:=ownsRow_cell HROW.out (j:=k) (u := .string docs[k]) (by simp [hlt])
   simp only [Value.slice.injEq,true_and] at e
   obtain ⟨rfl,rfl⟩:=e
   have hgw:w.heap.size≤g:=HP.out g rfl
   have hbl:=lt_of_cell hcell
   have hs1:=HB1.out.size
   have hs3:=HB13.out.size
   obtain ⟨cur,hcur,hrest⟩:=HO.out.2 g rfl
   have c1:wr.cell? ⟨b,off+k,none⟩=some (.string docs[k]):=by
    have h1:=(HB1.out.cell (p:=⟨b,off+k,none⟩) hbl).trans hcell
    have h2:=(HB13.out.cell (p:=⟨b,off+k,none⟩) (by simp only; omega)).trans h1
    exact (HO.out.1.cell (p:=⟨b,off+k,none⟩) (by simp only; omega) (fun h=>by have h9:g=b:=Option.some.inj h; omega)).trans h2
   have c2:wr.cell? ⟨g,k,none⟩=some (.string docs[k]):=(cell_block hcur).trans (hrest k hlt (Nat.le_refl _))
   have c3:wr.frozen? ⟨g,k,none⟩=false:=free_block hcur
   have q1:(docs[k] == docs[k])=true:=by rw [beq_toListBytes]; simp
   clear hcell hrest
   go_wp2_with fail
   go_quiet (fail)
   go_wp2_with fail
   exact ⟨⟨k+1,by omega,by go_num,rfl,(HO.out.same (Same.drewN _ _)).step rfl⟩,by simp [intOf]; omega⟩
  ·obtain rfl:k=docs.length:=by omega
   go_wp2_with fail
   go_ret3
   have hs1:=HB1.out.size
   have hs3:=HB13.out.size
   have hmod:=HO.out.1
   refine ⟨sb,rfl,(HB1.out.trans (HB13.out.mono hs1)).trans (hmod.toBelow (by omega) fun k h=>HP.out k h),by omega,.map none,?_,.inl rfl⟩
   have hs3':SegIs w3 sb (docs.map wordsB) (.map none):=by
    obtain ⟨db,R,Λ,ρ,Dd,pv,ps,hat⟩:=HS2.out.at
    exact (hat.below HB3.out).is
   refine hs3'.strKept fun k cs t r h ht=>hmod.block k (lt_of_heap h) fun ho=>ht ?_
   obtain ⟨cur,hcur⟩:=ownsRow_cells4 HROW.out ho
   have hcur3:=(HB13.out.block _ (lt_of_heap hcur)).trans hcur
   rw [h] at hcur3
   cases hcur3
   rfl
end Go.Proofs.Ts
namespace Go.Proofs.Ts
open Go Go.RowKit
def docs4:List ByteArray:=[⟨#[111,110,101,32,116,119,111]⟩,⟨#[84,119,111,32,116,104,114,101,101]⟩,⟨#[]⟩,⟨#[116,104,114,101,101]⟩]
theorem docs4_words:docs4.map wordsB=[[[111,110,101],[116,119,111]],[[116,119,111],[116,104,114,101,101]],[],[[116,104,114,101,101]]]:=by decide
theorem docs4_two:docsOf (docs4.map wordsB) (fun u=>decide (u=[116,119,111]))=[0,1]:=by rw [docs4_words]; decide
theorem docs4_t:docsOf (docs4.map wordsB) (fun u=>decide ([116] <+: u))=[0,1,3]:=by rw [docs4_words]; decide
theorem Few.flat {D:List (List (List UInt8))} (acc:List UInt8→Bool) {most:Nat} (h:D.flatten.length≤most):Few D acc most:=fun T hr hm _=>by
 have h1:(hits acc T 0).length≤T.length:=by unfold hits; exact Nat.le_trans (List.length_filter_le _ _) (by simp)
 have h2:T.length≤D.flatten.length:=nodup_le T D.flatten (hr.imp fun h e=>by subst e; exact List.lt_irrefl _ h) fun x hx=>by
  obtain ⟨j,hj⟩:=List.exists_mem_of_ne_nil _ ((hm x).1 hx)
  obtain ⟨ws,h3,h4⟩:=(postsOf_mem _ _ _).1 hj
  exact List.mem_flatten.2 ⟨ws,List.mem_of_getElem? h3,h4⟩
 omega
set_option maxRecDepth 100000 in
set_option maxHeartbeats 2000000 in
theorem fixed_any (w:World):Calls Tryz.prog 19 #[] w fun e w'=>e = .returned (.bool true)∧Below w.heap.size w w':=by
 go_enter Tryz.func19,Tryz.ntmps19
 go_wp2_with fail
 have hst:StrsIs (w.alloc (.cells (docs4.map Value.string).toArray 9)) (.slice (some ⟨w.heap.size,0,none⟩) 4 4) docs4:=by
  refine ⟨_,_,rfl,fun i hi=>⟨_,_,rfl,?_⟩⟩
  rw [Nat.zero_add,cell_block (heap_alloc_new w _)]
  simp [hi]
 have hal:Below w.heap.size w (w.alloc (.cells (docs4.map Value.string).toArray 9)):=(Below.refl _ w).alloc (Nat.le_refl _) _
 have hW:(w.alloc (.cells #[.string ⟨#[111,110,101,32,116,119,111]⟩,.string ⟨#[84,119,111,32,116,104,114,101,101]⟩,.string ⟨#[]⟩,.string ⟨#[116,104,114,101,101]⟩] 9))=w.alloc (.cells (docs4.map Value.string).toArray 9):=rfl
 rw [hW]
 clear hW
 generalize w.alloc (.cells (docs4.map Value.string).toArray 9)=w1 at *
 refine (plainBuild_any docs4 _ w1 hst (by decide) (by decide)).mono ?_
 rintro e w2 ⟨sb,rfl,hb2,hs2⟩
 have HAL:=Lib.hid hal
 have HB2:=Lib.hid hb2
 have HS2:=Lib.hid hs2
 clear hal hb2 hs2 hst
 unfold ptrV
 go_wp2_with fail
 have hq1:=plainSearch_any w1.heap.size ⟨1,[116,119,111],[],0,10⟩ (fun u=>decide (u=[116,119,111])) 10 sb (docs4.map wordsB) w2 HB2.out.size HS2.out (by decide) 10 rfl (by omega) (by omega) (compile_one (by decide)) rfl (Few.flat _ (by rw [docs4_words]; decide))
 rw [docs4_two] at hq1
 unfold ptrV askV strV at hq1
 refine hq1.mono ?_
 clear hq1
 rintro e w3 ⟨o1,rfl,hs3,hb3,hc3,hr3⟩
 obtain ⟨g1,cap1,rfl⟩:=ownsRow_head (n:=1) hr3
 have HS3:=Lib.hid hs3
 have HB3:=Lib.hid hb3
 have HR3:=Lib.hid hr3
 clear hs3 hb3 hc3 hr3
 go_wp2_with fail
 have hq2:=plainSearch_any w1.heap.size ⟨2,[116],[],0,10⟩ (fun u=>decide ([116] <+: u)) 10 sb (docs4.map wordsB) w3 (Nat.le_trans HB2.out.size HB3.out.size) HS3.out (by decide) 10 rfl (by omega) (by omega) (compile_two (by decide)) rfl (Few.flat _ (by rw [docs4_words]; decide))
 rw [docs4_t] at hq2
 unfold ptrV askV strV at hq2
 refine hq2.mono ?_
 clear hq2
 rintro e w4 ⟨o2,rfl,hs4,hb4,hc4,hr4⟩
 obtain ⟨g2,cap2,rfl⟩:=ownsRow_head (n:=2) hr4
 have hr3':w4.ownsRow 0 3 1 (.slice (some ⟨g1,0,none⟩) 2 cap1) 2 [intV 0,intV 1]:=ownsRow_typed HR3.out fun k cs r hk=>hc4.2 k cs _ r hk (by decide)
 have a0:w4.cell? ⟨g1,0,none⟩=some (.int .i64 0):=hr3'.cells (g:=g1) rfl 0 _ rfl
 have a1:w4.cell? ⟨g1,1,none⟩=some (.int .i64 1):=hr3'.cells (g:=g1) rfl 1 _ rfl
 have b2:w4.cell? ⟨g2,2,none⟩=some (.int .i64 3):=hr4.cells (g:=g2) rfl 2 _ rfl
 have hb:Below w.heap.size w w4:=HAL.out.trans (((HB2.out).trans (HB3.out.trans hb4)).mono HAL.out.size)
 have HB:=Lib.hid hb
 clear hs4 hb4 hc4 hr4 hr3' hb
 go_wp2_with fail
 go_ret
 exact ⟨rfl,HB.out⟩
end Go.Proofs.Ts
namespace Go.Proofs.Ts
open Go Go.RowKit
theorem StrsIs.below {w w':World} {v:Value} {ss:List ByteArray} (h:StrsIs w v ss) (hb:Below w.heap.size w w'):StrsIs w' v ss:=by
 obtain ⟨a,cap,rfl,hc⟩:=h
 refine ⟨a,cap,rfl,fun i hi=>?_⟩
 obtain ⟨b,off,e,h1⟩:=hc i hi
 exact ⟨b,off,e,(hb.cell (p:=⟨b,off+i,none⟩) (lt_of_cell h1)).trans h1⟩
theorem Seg.mono {B B':Nat} {w:World} {sb:Nat} {D:List (List (List UInt8))} (h:Seg B w sb D) (hB:B'≤B):Seg B' w sb D:=by
 obtain ⟨h1,kn,h2,h3⟩:=h
 refine ⟨by omega,kn,h2,?_⟩
 rcases h3 with h3 | ⟨km,m,e,h4,h5⟩
 ·exact .inl h3
 ·exact .inr ⟨km,m,e,by omega,h5⟩
set_option maxRecDepth 100000 in
set_option maxHeartbeats 2000000 in
theorem keepBuild_any (docs:List ByteArray) (v:Value) (w:World) (hv:StrsIs w v docs) (hl:docs.length≤9223372036854775807) :
  Calls Tryz.prog 12 #[v] w fun e w'=>Below w.heap.size w w' ∧
   ((smallW docs=false∧e = .returned (.tuple #[.pointer none,.bool true]))∨(smallW docs=true ∧ ∃ sb,e = .returned (.tuple #[ptrV sb,.bool true])∧Seg w.heap.size w' sb (docs.map wordsB))):=by
 have HV:=Lib.hid hv
 clear hv
 go_enter Tryz.func12,Tryz.ntmps12
 go_wp2_with fail
 refine (fixed_any w).mono ?_
 rintro e w1 ⟨rfl,hb1⟩
 have HB1:=Lib.hid hb1
 clear hb1
 go_wp2_with fail
 refine (small_any v docs w1 (HV.out.below HB1.out) hl).mono ?_
 rintro e w2 ⟨rfl,hs2⟩
 have hb2:Below w.heap.size w w2:=HB1.out.trans (hs2.below _)
 have HB2:=Lib.hid hb2
 clear hb2 hs2
 cases hsm:smallW docs with
 | false =>
  go_wp2_with fail
  go_ret2
  exact ⟨HB2.out,.inl ⟨hsm,rfl⟩⟩
 | true =>
  have hparts:docs.length≤48 ∧ ∀ d∈docs,d.size≤200:=by
   unfold smallW at hsm
   simpa using hsm
  have HP:=Lib.hid hparts
  have HSM:=Lib.hid hsm
  clear hparts hsm
  go_wp2_with fail
  refine (plainBuild_any docs v w2 (HV.out.below HB2.out) HP.out.1 HP.out.2).mono ?_
  rintro e w3 ⟨sb,rfl,hb3,hs3⟩
  have HB3:=Lib.hid hb3
  have HS3:=Lib.hid hs3
  clear hb3 hs3
  unfold ptrV
  go_wp2_with fail
  go_ret2
  exact ⟨HB2.out.trans (HB3.out.mono HB2.out.size),.inr ⟨HSM.out,sb,rfl,HS3.out.mono HB2.out.size⟩⟩
end Go.Proofs.Ts
namespace Go.Proofs.YtglafkgakcfahaaGreatDoor.card
open Go Go.ChangeShapes Go.WideShapes Go.ChangeAt Go.RowKit
theorem own:ownKnob Tryz.prog.godebug=none:=by kernel_rfl
theorem laidOut:laidOutB Tryz.prog=true:=by kernel_rfl
theorem cellsS:Tryz.prog.cellsOf 9=1:=by kernel_rfl
def litV:DataW Unit→Value
 | .lit (.int k n) => .int k n
 | _ => .nilIface
def rowV:DataW Unit→List Value
 | .agg l=>l.map litV
 | _=>[]
def rowsV:DataW Unit→List Value
 | .agg l=>l.flatMap rowV
 | _=>[]
noncomputable def laidWorld (os:Os):World :=
 let w0:=World.holding Tryz.prog os ⟨#[],#[],[]⟩
 let h1:=w0.heap.modify 0 fun
   | .cells _ t frozen => .cells #[.iface 222 (.agg #[typeHandle Tryz.prog 69])] t frozen
   | o=>o
 let h2:=h1.modify 4 fun
   | .cells _ t frozen => .cells (rowV Rows.laid_math_bits_deBruijn64tab).toArray t frozen
   | o=>o
 let h3:=h2.modify 3 fun
   | .cells _ t frozen => .cells (rowsV Rows.laid_unicode_utf8_acceptRanges).toArray t frozen
   | o=>o
 let h4:=h3.modify 2 fun
   | .cells _ t frozen => .cells (rowV Rows.laid_unicode_utf8_first).toArray t frozen
   | o=>o
 { w0 with heap:=h4 }
theorem laid_met (os:Os) (args:Array Value):laidMetH Tryz.prog Rows.foundRow.laid ((laidWorld os).forCall (fun _ _=>0) ⟨#[],args,[]⟩).memory :=
 laidMetH_of_parts (laidMet_of_run' 8 (by kernel_rfl) (by kernel_rfl)) (by kernel_rfl)
theorem strs_is {W:World} {base:Nat} {spare:Nat→Bool} {held:Bool} {H:Type} {enc:TypeId × Value→H} {a0:Option Addr} {len cap:Nat} {d:DataW H} {p:List MemPlace} (h:DataW.Trod enc Tryz.prog W base spare held 22 (.slice a0 len cap) d p) :
  ∃ docs:List ByteArray,Ts.StrsIs W (.slice a0 len cap) docs∧docs.length≤maxLen:=by
 obtain ⟨fuel,h⟩:=h
 rcases open_strings Tryz.underlying22 Tryz.underlying9 cellsS h with ⟨hv,_⟩ | ⟨a,len',cap',ss,hv,_,hl,hc,hlen,_,hcell,_⟩
 ·simp [Value.cells] at hv
  obtain ⟨rfl,rfl,rfl⟩:=hv
  exact ⟨[],⟨none,0,rfl,fun i hi=>absurd hi (Nat.not_lt_zero i)⟩,Nat.zero_le _⟩
 ·simp [Value.cells] at hv
  obtain ⟨rfl,rfl,rfl⟩:=hv
  have hle:len≤ss.length:=by rw [hlen]; split <;> omega
  refine ⟨ss.take len,⟨some a,cap,by rw [List.length_take,Nat.min_eq_left hle],fun i hi=>?_⟩,by rw [List.length_take]; omega⟩
  rw [List.length_take] at hi
  have hc:=hcell i (by omega)
  obtain ⟨b,off,spot⟩:=a
  have hs:spot=none:=by simpa [Addr.add] using World.cell?_spot (hcell 0 (by omega))
  subst hs
  refine ⟨b,off,rfl,?_⟩
  have he:(ss.take len)[i]'(by rw [List.length_take]; omega)=ss.getD i ByteArray.empty:=by
   rw [List.getElem_take,List.getD_eq_getElem?_getD,List.getElem?_eq_getElem (by omega)]
   rfl
  rw [he,← hc]
  by_cases h0:i=0
  ·subst h0; simp [Addr.add]
  ·simp [Addr.add,h0]
end Go.Proofs.YtglafkgakcfahaaGreatDoor.card
namespace Go.Proofs.YtglafkgakcfahaaGreatDoor.card
open Go Go.ChangeShapes Go.WideShapes Go.ChangeAt Go.RowKit
theorem shaped_block {W:World} (hS:W.ShapedOpen Tryz.prog) {g:Nat} {zero:Array Value} {t:TypeId} (hg:g < Tryz.prog.globals.size) (h:((begin Tryz.prog (fun _ _=>0) default).world.heap[g]?).bind Obj.row?=some (zero,t)):∃ cs,W.heap[g]?=some (.cells cs t (0,0)):=by
 obtain ⟨cs,h1,_⟩:=hS.1 g zero t hg h
 exact ⟨cs,h1⟩
theorem row_type {P:Program} {g:Nat} {t:TypeId} (h:(((begin P (fun _ _=>0) default).world.heap[g]?).bind Obj.row?).map (·.2)=some t):∃ zero,((begin P (fun _ _=>0) default).world.heap[g]?).bind Obj.row?=some (zero,t):=by
 cases e:((begin P (fun _ _=>0) default).world.heap[g]?).bind Obj.row? with
 | none=>rw [e] at h; cases h
 | some r=>rw [e] at h; exact ⟨r.1,by rw [← Option.some.inj h]⟩
end Go.Proofs.YtglafkgakcfahaaGreatDoor.card
namespace Go.Proofs.Ts
open Go Go.RowKit Go.Extern.Stop Go.Stop Go.Extern
/-! ### closed facts on the model's entries for internal/reflectlite -/
theorem rl_methodKind (fu : Nat) (h : Value) (w : World) : (Go.method (fu + 1) 222 (.agg #[h]) "Kind").run Tryz.prog w = .ok (203, h) w := by kernel_rfl
theorem rl_methodElem (fu : Nat) (h : Value) (w : World) : (Go.method (fu + 1) 222 (.agg #[h]) "Elem").run Tryz.prog w = .ok (226, .agg #[h]) w := by kernel_rfl
theorem rl_methodImplements (fu : Nat) (h : Value) (w : World) : (Go.method (fu + 1) 222 (.agg #[h]) "Implements").run Tryz.prog w = .ok (227, .agg #[h]) w := by kernel_rfl
theorem rl_methodAssignable (fu : Nat) (h : Value) (w : World) : (Go.method (fu + 1) 222 (.agg #[h]) "AssignableTo").run Tryz.prog w = .ok (224, .agg #[h]) w := by kernel_rfl
theorem rl_methodComparable (fu : Nat) (h : Value) (w : World) : (Go.method (fu + 1) 222 (.agg #[h]) "Comparable").run Tryz.prog w = .ok (225, .agg #[h]) w := by kernel_rfl
theorem rl_valueOfE (b:Nat) (w:World):(ReflectliteValue.unpack (.iface 109 (.pointer (some ⟨b,0,none⟩)))).run Tryz.prog w = .ok (.agg #[.pointer (some ⟨5,109,none⟩),.pointer (some ⟨w.heap.size,0,none⟩),.int .u64 150]) (w.alloc (.cells #[.pointer (some ⟨b,0,none⟩)] 109)):=by kernel_rfl
theorem rl_typeE (a : Addr) (w : World) : (ReflectliteValue.methodAny (ReflectliteValue.valueError "reflectlite.Value.Type" 0) (fun t _ _ _ => ReflectliteType.toType t) #[.agg #[.pointer (some ⟨5, 109, none⟩), .pointer (some a), .int .u64 150]]).run Tryz.prog w
  = .ok (.iface 222 (.agg #[.pointer (some ⟨5,109,none⟩)])) w:=by kernel_rfl
theorem rl_kindE (w:World):((ReflectliteType.abiMethod fun t=>(fun a:Nat=>Value.int IntKind.u8 (a:Int)) <$> Rtype.kind t) #[.pointer (some ⟨5,109,none⟩)]).run Tryz.prog w = .ok (.int .u8 22) w:=by kernel_rfl
theorem rl_kindN (w:World):((ReflectliteType.abiMethod fun t=>(fun a:Nat=>Value.int IntKind.u8 (a:Int)) <$> Rtype.kind t) #[.pointer (some ⟨5,33,none⟩)]).run Tryz.prog w = .ok (.int .u8 2) w:=by kernel_rfl
theorem rlm (z:Sem Value) (f:TypeId→Addr→Nat→Nat→Sem Value) (v:Value) :
  ReflectliteValue.method z f #[v]=(do match ← ReflectliteValue.parts v with | none=>z | some (t,a,fl)=>f t a fl (fl % 32)):=rfl
theorem rl_partsE (a:Addr) (w:World):(ReflectliteValue.parts (.agg #[.pointer (some ⟨5,109,none⟩),.pointer (some a),.int .u64 150])).run Tryz.prog w = .ok (some (109,a,150)) w:=by kernel_rfl
theorem rl_isNilE (a p:Addr) (W:World) (ha:W.cell? a=some (.pointer (some p))) :
  (ReflectliteValue.method (ReflectliteValue.valueError "reflectlite.Value.IsNil" 0) ReflectliteValue.isNil #[.agg #[.pointer (some ⟨5, 109, none⟩), .pointer (some a), .int .u64 150]]).run Tryz.prog W = .ok (.bool false) W := by
 rw [rlm]
 simp only [Sem.run_bind,rl_partsE,Result.andThen]
 simp [ReflectliteValue.isNil,loadVar,isAgg,underlying,Tryz.underlying109,ha,Result.andThen]
theorem rl_elemE (w:World):(ReflectliteType.method ReflectliteType.elem #[.agg #[.pointer (some ⟨5,109,none⟩)]]).run Tryz.prog w = .ok (.iface 222 (.agg #[.pointer (some ⟨5,33,none⟩)])) w:=by kernel_rfl
theorem rl_implementsN (w : World) : (ReflectliteType.relation "Implements" ReflectliteType.implements_ #[.agg #[.pointer (some ⟨5, 33, none⟩)], .iface 222 (.agg #[.pointer (some ⟨5, 69, none⟩)])]).run Tryz.prog w = .ok (.bool true) w := by kernel_rfl
theorem rl_typeOfN (v:Value) (w:World):(ReflectliteType.typeOf #[.iface 33 v]).run Tryz.prog w = .ok (.iface 222 (.agg #[.pointer (some ⟨5,33,none⟩)])) w:=by kernel_rfl
theorem rl_assignableN (w : World) : (ReflectliteType.relation "AssignableTo" ReflectliteType.assignableTo #[.agg #[.pointer (some ⟨5, 33, none⟩)], .iface 222 (.agg #[.pointer (some ⟨5, 33, none⟩)])]).run Tryz.prog w = .ok (.bool true) w := by kernel_rfl
theorem rl_valueOfN (k:Int) (w:World):(ReflectliteValue.unpack (.iface 33 (.int .i64 k))).run Tryz.prog w = .ok (.agg #[.pointer (some ⟨5,33,none⟩),.pointer (some ⟨w.heap.size,0,none⟩),.int .u64 130]) (w.alloc (.cells #[.int .i64 k] 33)):=by kernel_rfl
theorem rl_elemOfE (w:World):(Rtype.elem? 109).run Tryz.prog w = .ok (some 33) w:=by kernel_rfl
theorem rl_mkN (p:Addr) (w:World):(ReflectliteValue.mk 33 p ReflectliteValue.flagAddr).run Tryz.prog w = .ok (.agg #[.pointer (some ⟨5,33,none⟩),.pointer (some p),.int .u64 386]) w:=by kernel_rfl
theorem rl_elemVE (a p:Addr) (W:World) (ha:W.cell? a=some (.pointer (some p))) :
  (ReflectliteValue.method (ReflectliteValue.valueError "reflectlite.Value.Elem" 0) ReflectliteValue.elem #[.agg #[.pointer (some ⟨5, 109, none⟩), .pointer (some a), .int .u64 150]]).run Tryz.prog W
   = .ok (.agg #[.pointer (some ⟨5,33,none⟩),.pointer (some p),.int .u64 386]) W:=by
 rw [rlm]
 simp only [Sem.run_bind,rl_partsE,Result.andThen]
 simp [ReflectliteValue.elem,loadVar,isAgg,underlying,Tryz.underlying109,ha,Result.andThen,rl_elemOfE,rl_mkN]
theorem rls (v x:Value):ReflectliteValue.set #[v,x]=(do
  let (some (dst,a,fl),some (src,b,_)):=(← ReflectliteValue.parts v,← ReflectliteValue.parts x)
   | unsupported (.noEntry "extern/(internal/reflectlite.Value).Set.zeroValue")
  if fl / ReflectliteValue.flagAddr % 2 == 0 then unsupported (.noEntry "extern/(internal/reflectlite.Value).Set.unaddressable")
  let val ← loadVar src b
  if ← Rtype.directlyAssignable dst src then storeVar dst a val
  else if ← Rtype.implements dst src then
   if (← Rtype.kind src) == 20 then
    match val with
    | .nilIface => unsupported (.noEntry "extern/reflectlite: a nil value of one interface type handed on as a value of another")
    | _=>storeVar dst a val
   else storeVar dst a (.iface src val)
  else panicString ("reflectlite.Set: value of type " ++ (← Rtype.spelt src) ++ " is not assignable to type " ++ (← Rtype.spelt dst))
  pure (.tuple #[])):=rfl
theorem rl_partsNa (a:Addr) (w:World):(ReflectliteValue.parts (.agg #[.pointer (some ⟨5,33,none⟩),.pointer (some a),.int .u64 386])).run Tryz.prog w = .ok (some (33,a,386)) w:=by kernel_rfl
theorem rl_partsN (a:Addr) (w:World):(ReflectliteValue.parts (.agg #[.pointer (some ⟨5,33,none⟩),.pointer (some a),.int .u64 130])).run Tryz.prog w = .ok (some (33,a,130)) w:=by kernel_rfl
theorem rl_directN (w:World):(Rtype.directlyAssignable 33 33).run Tryz.prog w = .ok true w:=by kernel_rfl
theorem rl_setN (ta b:Addr) (k:Int) (old:Value) (W:World) (hb:W.cell? b=some (.int .i64 k)) (ht:W.cell? ta=some old) (hf:W.frozen? ta=false) :
  (ReflectliteValue.set #[.agg #[.pointer (some ⟨5,33,none⟩),.pointer (some ta),.int .u64 386],.agg #[.pointer (some ⟨5,33,none⟩),.pointer (some b),.int .u64 130]]).run Tryz.prog W
   = .ok (.tuple #[]) (W.setCell ta (.int .i64 k)):=by
 rw [rls]
 simp only [Sem.run_bind,rl_partsNa,rl_partsN,Result.andThen]
 simp [ReflectliteValue.flagAddr,loadVar,isAgg,underlying,Tryz.underlying33,hb,Result.andThen,rl_directN,storeVar,Value.cells,storeCells,Addr.add]
 rw [run_store Tryz.prog W ta _ _ (by rfl)]
 simp [ht,hf]
def ErrIn (w:World):Prop:=w.cell? ⟨0,0,none⟩=some (.iface 222 (.agg #[.pointer (some ⟨5,69,none⟩)]))
theorem ErrIn.below {w w':World} (h:ErrIn w) (hb:Below w.heap.size w w'):ErrIn w':=(hb.cell (p:=⟨0,0,none⟩) (lt_of_cell h)).trans h
set_option maxHeartbeats 4000000 in
theorem as_hit (k:Int) (b:Nat) (old:Value) (w:World) (hg:ErrIn w) (ht0:w.cell? ⟨b,0,none⟩=some old) (hf0:w.frozen? ⟨b,0,none⟩=false) :
  Calls Tryz.prog 43 #[.iface 33 (.int .i64 k),.iface 109 (.pointer (some ⟨b,0,none⟩))] w fun ev w'=>ev = .returned (.bool true) ∧ ∃ w1,Below w.heap.size w w1∧w'=w1.setCell ⟨b,0,none⟩ (.int .i64 k):=by
 have h6:=@run_callFunc_extern Tryz.prog 71 _ (fun args=>ReflectliteValue.unpack (args.getD 0 (.tuple #[]))) Tryz.func71 (by kernel_rfl) (by kernel_rfl) (by kernel_rfl) (by kernel_rfl)
 have h7 := @run_callFunc_extern Tryz.prog 72 _ (ReflectliteValue.methodAny (ReflectliteValue.valueError "reflectlite.Value.Type" 0) (fun t _ _ _ => ReflectliteType.toType t)) Tryz.func72 (by kernel_rfl) (by kernel_rfl) (by kernel_rfl) (by kernel_rfl)
 have h8 := @run_callFunc_extern Tryz.prog 73 _ (ReflectliteValue.method (ReflectliteValue.valueError "reflectlite.Value.IsNil" 0) ReflectliteValue.isNil) Tryz.func73 (by kernel_rfl) (by kernel_rfl) (by kernel_rfl) (by kernel_rfl)
 have h27:=@run_callFunc_extern Tryz.prog 203 _ (ReflectliteType.abiMethod fun t=>do pure (.int .u8 (← Rtype.kind t))) Tryz.func203 (by kernel_rfl) (by kernel_rfl) (by kernel_rfl) (by kernel_rfl)
 have h37:=@run_callFunc_extern Tryz.prog 226 _ (ReflectliteType.method ReflectliteType.elem) Tryz.func226 (by kernel_rfl) (by kernel_rfl) (by kernel_rfl) (by kernel_rfl)
 have h38 := @run_callFunc_extern Tryz.prog 227 _ (ReflectliteType.relation "Implements" ReflectliteType.implements_) Tryz.func227 (by kernel_rfl) (by kernel_rfl) (by kernel_rfl) (by kernel_rfl)
 have h10:=@run_callFunc_extern Tryz.prog 75 _ ReflectliteType.typeOf Tryz.func75 (by kernel_rfl) (by kernel_rfl) (by kernel_rfl) (by kernel_rfl)
 have h35 := @run_callFunc_extern Tryz.prog 224 _ (ReflectliteType.relation "AssignableTo" ReflectliteType.assignableTo) Tryz.func224 (by kernel_rfl) (by kernel_rfl) (by kernel_rfl) (by kernel_rfl)
 have h11 := @run_callFunc_extern Tryz.prog 103 _ (ReflectliteValue.method (ReflectliteValue.valueError "reflectlite.Value.Elem" 0) ReflectliteValue.elem) Tryz.func103 (by kernel_rfl) (by kernel_rfl) (by kernel_rfl) (by kernel_rfl)
 have h12:=@run_callFunc_extern Tryz.prog 104 _ ReflectliteValue.set Tryz.func104 (by kernel_rfl) (by kernel_rfl) (by kernel_rfl) (by kernel_rfl)
 have tO:=rl_typeOfN
 have mA:=rl_methodAssignable
 have a25:=rl_assignableN
 have v25:=rl_valueOfN
 have f6:=rl_valueOfE
 have f7:=rl_typeE
 have mK:=rl_methodKind
 have mE:=rl_methodElem
 have mI:=rl_methodImplements
 have k27:=rl_kindE
 have k25:=rl_kindN
 have e27:=rl_elemE
 have i25:=rl_implementsN
 have n8:=rl_isNilE ⟨w.heap.size,0,none⟩ ⟨b,0,none⟩ ((w.alloc (.cells #[.pointer (some ⟨b,0,none⟩)] 109)).alloc (.cells #[.pointer (some ⟨5,109,none⟩),.pointer (some ⟨w.heap.size,0,none⟩),.int .u64 150] 169)) (by simp)
 have hlt:0 < w.heap.size:=lt_of_cell hg
 unfold ErrIn at hg
 have hg2:((w.alloc (.cells #[.pointer (some ⟨b,0,none⟩)] 109)).alloc (.cells #[.pointer (some ⟨5,109,none⟩),.pointer (some ⟨w.heap.size,0,none⟩),.int .u64 150] 169)).cell? ⟨0,0,none⟩=some (.iface 222 (.agg #[.pointer (some ⟨5,69,none⟩)])):=by
  rw [World.cell?_alloc_lt _ _ ⟨0,0,none⟩ (by simp),World.cell?_alloc_lt _ _ ⟨0,0,none⟩ hlt]; exact hg
 have htl:b < w.heap.size:=lt_of_cell ht0
 have el:=rl_elemVE ⟨w.heap.size,0,none⟩ ⟨b,0,none⟩ (((w.alloc (.cells #[.pointer (some ⟨b,0,none⟩)] 109)).alloc (.cells #[.pointer (some ⟨5,109,none⟩),.pointer (some ⟨w.heap.size,0,none⟩),.int .u64 150] 169)).alloc (.cells #[.pointer (some ⟨5,109,none⟩),.pointer (some ⟨w.heap.size,0,none⟩),.int .u64 150] 169)) (by rw [World.cell?_alloc_lt _ _ ⟨w.heap.size,0,none⟩ (by simp; omega)]; simp)
 have st:=rl_setN ⟨b,0,none⟩ ⟨w.heap.size+1+1+1,0,none⟩ k old ((((w.alloc (.cells #[.pointer (some ⟨b,0,none⟩)] 109)).alloc (.cells #[.pointer (some ⟨5,109,none⟩),.pointer (some ⟨w.heap.size,0,none⟩),.int .u64 150] 169)).alloc (.cells #[.pointer (some ⟨5,109,none⟩),.pointer (some ⟨w.heap.size,0,none⟩),.int .u64 150] 169)).alloc (.cells #[.int .i64 k] 33))
  (by rw [World.cell?_alloc_at _ _ _ _ (by simp)]; rfl)
  (by rw [World.cell?_alloc_lt _ _ ⟨b,0,none⟩ (by simp; omega),World.cell?_alloc_lt _ _ ⟨b,0,none⟩ (by simp; omega),World.cell?_alloc_lt _ _ ⟨b,0,none⟩ (by simp; omega),World.cell?_alloc_lt _ _ ⟨b,0,none⟩ htl]; exact ht0)
  (by rw [World.frozen?_alloc_old _ _ ⟨b,0,none⟩ (by simp; omega),World.frozen?_alloc_old _ _ ⟨b,0,none⟩ (by simp; omega),World.frozen?_alloc_old _ _ ⟨b,0,none⟩ (by simp; omega),World.frozen?_alloc_old _ _ ⟨b,0,none⟩ (Nat.ne_of_lt htl)]; exact hf0)
 go_enter Tryz.func43,Tryz.ntmps43
 go_wp2
 refine wp_loop_rounds 1 ?_
 rw [rounds_succ]
 go_wp2
 go_ret
 refine ⟨rfl,_,?_,rfl⟩
 exact ((((Below.refl _ w).alloc (Nat.le_refl _) _).alloc (by simp) _).alloc (by simp; omega) _).alloc (by simp; omega) _
end Go.Proofs.Ts
namespace Go.Proofs.YtglafkgakcfahaaGreatDoor.card
open Go Go.ChangeShapes Go.WideShapes Go.ChangeAt Go.RowKit
theorem err_glob : Tryz.prog.globalNamed "errors.errorType" = some 0 := by kernel_rfl
theorem err_rt : (Tryz.prog.cutTypes.find? (·.1 == "internal/reflectlite.rtype")).map (·.2) = some 222 := by kernel_rfl
set_option maxRecDepth 100000 in
theorem err_row:((List.range Tryz.prog.types.size).filter fun t=>Tryz.prog.rowNamed t [101,114,114,111,114])=[69]:=by kernel_rfl
theorem err_handle:typeHandle Tryz.prog 69 = .pointer (some ⟨5,69,none⟩):=by kernel_rfl
theorem err_in {W : World} {l : List (String × DataW Unit)} (hL : laidMetH Tryz.prog l W) (h1 : ("errors.errorType", (Rows.laid_errors_errorType : DataW Unit)) ∈ l.filter fun x => x.2.handleName?.isSome) : Ts.ErrIn W := by
 have hm:=(laidMetH_iff.1 hL).2
 obtain ⟨name,u,ty,e1,e2,e3,e4,e5⟩:=hm _ h1
 have en:name=[101,114,114,111,114]:=(Option.some.inj e1).symm
 subst en
 obtain rfl:=Option.some.inj (err_rt.symm.trans e2)
 have hm:ty∈(List.range Tryz.prog.types.size).filter fun t=>Tryz.prog.rowNamed t [101,114,114,111,114]:=List.mem_filter.2 ⟨List.mem_range.2 e3,e4⟩
 rw [err_row] at hm
 obtain rfl:=List.mem_singleton.1 hm
 rw [err_handle] at e5
 unfold Ts.ErrIn
 simpa using World.var?_cell err_glob e5 0
end Go.Proofs.YtglafkgakcfahaaGreatDoor.card
namespace Go.Proofs.YtglafkgakcfahaaGreatDoor.card
open Go Go.ChangeShapes Go.WideShapes Go.ChangeAt Go.RowKit
theorem bits_glob : Tryz.prog.globalNamed "math/bits.deBruijn64tab" = some 4 := by kernel_rfl
theorem bits_type:(Tryz.prog.globals[4]?).map (·.type)=some 367:=by kernel_rfl
theorem bits_data:(Rows.laid_math_bits_deBruijn64tab:DataW Unit)=Go.Lib.tabData .u8 (Go.Lib.deBruijn64tab.map fun (k:Nat)=>(k:Int)):=by kernel_rfl
theorem bits_cells:Tryz.prog.cellsOf 5=1:=by kernel_rfl
theorem bits_cells64:Tryz.prog.cellsOf 367=64:=by kernel_rfl
theorem bits_in {W : World} {l : List (String × DataW Unit)} (hL : laidMetH Tryz.prog l W) (hS : W.ShapedOpen Tryz.prog) (h1 : ("math/bits.deBruijn64tab", (Rows.laid_math_bits_deBruijn64tab : DataW Unit)) ∈ l.filter fun x => x.2.handleName?.isNone) : Ts.BitTab W := by
 have hm:=(laidMetH_iff.1 hL).1
 obtain ⟨z1,e1⟩:=row_type (P:=Tryz.prog) (g:=4) (t:=367) (by kernel_rfl)
 refine ⟨shaped_block hS (of_decide_eq_true (by kernel_rfl)) e1,fun j hj=>?_⟩
 have r1:=Go.Lib.laidMet.reads hm h1
 rw [bits_data] at r1
 obtain ⟨g,t,cs,fuel,p,hg,hty,hvar,hd⟩:=r1
 obtain rfl:=Option.some.inj (bits_glob.symm.trans hg)
 obtain rfl:=Option.some.inj (bits_type.symm.trans hty)
 have hcs:=Go.Lib.cells_of_tab Tryz.underlying367 Tryz.underlying5 bits_cells bits_cells64 hd
 have:=World.var?_cell hg hvar j
 rw [this,← Array.getElem?_toList,hcs]
 simp [hj,List.getD]
end Go.Proofs.YtglafkgakcfahaaGreatDoor.card
namespace Go.Proofs.Ts
open Go Go.RowKit
set_option maxRecDepth 100000 in
set_option maxHeartbeats 1000000 in
theorem compile_long (a b:ByteArray) (n:Int) (st:Int) (w:World) (ha:40 < a.size) :
  Calls Tryz.prog 102 #[queryV 5 a b n,.int .i64 st] w fun e w'=>∃ pb,e = .returned (ptrV pb)∧Below w.heap.size w w'∧w.heap.size≤pb∧w'.heap[pb]?=some (.cells #[.nilFunc,errnoV 2] 165 (0,0)):=by
 have g1:decide ((40:Int) < (a.size:Int))=true:=decide_eq_true (by omega)
 unfold queryV
 go_enter Tryz.func102,Tryz.ntmps102
 go_wp2_with fail
 go_ret
 have hb0:Below w.heap.size w (w.alloc (.cells #[.int .i64 5,.string a,.string b,.int .i64 n] 37)):=(Below.refl _ w).alloc (Nat.le_refl _) _
 refine ⟨w.heap.size+1,rfl,hb0.alloc hb0.size _,Nat.le_succ _,?_⟩
 have k:=heap_alloc_new (w.alloc (.cells #[.int .i64 5,.string a,.string b,.int .i64 n] 37)) (.cells #[.nilFunc,errnoV 2] 165)
 rw [World.size_alloc] at k
 exact k
theorem compile_pat {w0:World} {a b:List UInt8} {n:Int} {st:Nat} (hT:BitTab w0) (h1:1≤st) (h4:st≤400):CompileOk w0 ⟨5,a,b,n,st⟩:=by
 by_cases ha:a.length≤40
 ·exact compile_five ha hT h1 h4
 ·intro w hw
  have hs:ByteArray.size ⟨a.toArray⟩=a.length:=by simp [ByteArray.size]
  refine (compile_long ⟨a.toArray⟩ ⟨b.toArray⟩ n st w (by omega)).mono ?_
  rintro e w' ⟨pb,he,hb,hp,h1⟩
  refine ⟨pb,he,hb,hp,⟨fun acc hacc=>?_,fun k hk=>?_⟩⟩
  ·simp only [accOf,if_neg ha] at hacc
   cases hacc
  ·have h56:(1:Int)≤5∧(5:Int)≤6:=by omega
   simp only [errOf,if_neg ha,if_pos h56,Option.some.injEq] at hk
   subst hk
   exact ⟨_,_,h1,rfl⟩
theorem acc_pat {a b:List UInt8} {n:Int} {st:Nat} (ha:a.length≤40):accOf ⟨5,a,b,n,st⟩=patAcc (parseP ⟨a.toArray⟩) st:=by
 have h51:¬ (5:Int)=1:=by decide
 have h52:¬ (5:Int)=2:=by decide
 have h56:¬ (5:Int)=6:=by decide
 simp only [accOf,if_pos ha,if_neg h51,if_neg h52,h56,false_and,if_false,if_true,Int.toNat_natCast]
theorem err_pat {a b:List UInt8} {n:Int} {st:Nat} (ha:a.length≤40):errOf ⟨5,a,b,n,st⟩=patErr (parseP ⟨a.toArray⟩) st:=by
 have h56:¬ (5:Int)=6:=by decide
 simp only [errOf,if_pos ha,h56,if_false,if_true,Int.toNat_natCast]
theorem pat_either (P:Parsed) (st:Nat):(∃ f,patAcc P st=some f) ∨ ∃ e,patErr P st=some e∧e.num≠0:=by
 cases P with
 | fault i=>exact .inr ⟨_,rfl,by show (6:Int)≠0; omega⟩
 | big=>exact .inr ⟨_,rfl,by show (9:Int)≠0; omega⟩
 | ok x =>
  by_cases h:(PM.compile x).wide st
  ·exact .inr ⟨.no 9,by unfold patErr; simp only [if_pos h],by show (9:Int)≠0; omega⟩
  ·exact .inl ⟨fun u=>(PM.compile x).reads beginSet u,by unfold patAcc; simp only [if_neg h]⟩
theorem pat_all (a b:List UInt8) (n:Int) (st:Nat):(∃ f,accOf ⟨5,a,b,n,st⟩=some f) ∨ ∃ e,errOf ⟨5,a,b,n,st⟩=some e∧e.num≠0:=by
 by_cases ha:a.length≤40
 ·rw [acc_pat ha,err_pat ha]
  exact pat_either _ _
 ·have h56:(1:Int)≤5∧(5:Int)≤6:=by omega
  exact .inr ⟨.no 2,by simp only [errOf,if_neg ha,if_pos h56],by show (2:Int)≠0; omega⟩
theorem patAcc_some {P:Parsed} {st:Nat} {f:List UInt8→Bool} (h:patAcc P st=some f):∃ x,P = .ok x ∧ ¬ (PM.compile x).wide st∧f=fun u=>(PM.compile x).reads beginSet u:=by
 unfold patAcc at h
 split at h
 ·rename_i x
  split at h
  ·cases h
  ·rename_i hw
   exact ⟨x,rfl,hw,(Option.some.inj h).symm⟩
 ·cases h
end Go.Proofs.Ts
namespace Go.Proofs.Ts
open Go Go.RowKit
def bothL:List Nat→List Nat→List Nat
 | [],[]=>[]
 | x :: a,[]=>x :: bothL a []
 | [],y :: b=>y :: bothL [] b
 | x :: a,y :: b=>if x < y then x :: bothL a (y :: b) else if y < x then y :: bothL (x :: a) b else x :: bothL a b
termination_by a b=>a.length+b.length
theorem docsOf_len (D:List (List (List UInt8))) (f:List UInt8→Bool):(docsOf D f).length≤D.length:=by
 unfold docsOf
 exact Nat.le_trans (List.length_filter_le _ _) (by simp)
theorem docsOf_lt (D:List (List (List UInt8))) (f:List UInt8→Bool):∀ x∈docsOf D f,x < D.length:=fun x hx=>by
 unfold docsOf at hx
 simpa using (List.mem_filter.1 hx).1
theorem bothL_step {a b:List Nat} {i k:Nat} :
  (i < a.length→k=b.length→bothL (a.drop i) (b.drop k)=a.getD i 0 :: bothL (a.drop (i+1)) (b.drop k)) ∧
  (i=a.length→k < b.length→bothL (a.drop i) (b.drop k)=b.getD k 0 :: bothL (a.drop i) (b.drop (k+1))) ∧
  (i < a.length→k < b.length→a.getD i 0 < b.getD k 0→bothL (a.drop i) (b.drop k)=a.getD i 0 :: bothL (a.drop (i+1)) (b.drop k)) ∧
  (i < a.length→k < b.length→b.getD k 0 < a.getD i 0→bothL (a.drop i) (b.drop k)=b.getD k 0 :: bothL (a.drop i) (b.drop (k+1))) ∧
  (i < a.length→k < b.length→b.getD k 0=a.getD i 0→bothL (a.drop i) (b.drop k)=a.getD i 0 :: bothL (a.drop (i+1)) (b.drop (k+1))):=by
 have da:i < a.length→a.drop i=a.getD i 0 :: a.drop (i+1):=fun h=>by
  rw [List.drop_eq_getElem_cons h,List.getD_eq_getElem?_getD,List.getElem?_eq_getElem h]; rfl
 have db:k < b.length→b.drop k=b.getD k 0 :: b.drop (k+1):=fun h=>by
  rw [List.drop_eq_getElem_cons h,List.getD_eq_getElem?_getD,List.getElem?_eq_getElem h]; rfl
 have ea:i=a.length→a.drop i=[]:=fun h=>List.drop_eq_nil_of_le (by omega)
 have eb:k=b.length→b.drop k=[]:=fun h=>List.drop_eq_nil_of_le (by omega)
 refine ⟨fun h1 h2=>?_,fun h1 h2=>?_,fun h1 h2 h3=>?_,fun h1 h2 h3=>?_,fun h1 h2 h3=>?_⟩
 ·rw [da h1,eb h2]; conv=>lhs; unfold bothL
 ·rw [ea h1,db h2]; conv=>lhs; unfold bothL
 ·rw [da h1,db h2]; conv=>lhs; unfold bothL
  rw [if_pos h3]
 ·rw [da h1,db h2]; conv=>lhs; unfold bothL
  rw [if_neg (by omega),if_pos h3]
 ·rw [da h1,db h2]; conv=>lhs; unfold bothL
  rw [if_neg (by omega),if_neg (by omega)]
structure BAt (w wr:World) (v:Value) (out:List Nat):Prop where
 below:Below w.heap.size w wr
 row:wr.ownsRow 0 3 1 v out.length (out.map intV)
 past:Past w.heap.size v
theorem BAt.same {w wr w':World} {v:Value} {out:List Nat} (h:BAt w wr v out) (hb:Below wr.heap.size wr w'):BAt w w' v out :=
 ⟨h.below.trans (hb.mono h.below.size),ownsRow_block h.row fun k e=>hb.block k (h.row.lt k e).2,h.past⟩
def RowOf (w:World) (v:Value) (a:List Nat):Prop:=w.ownsRow 0 3 1 v a.length (a.map intV)
theorem RowOf.cell {w w':World} {v:Value} {a:List Nat} (h:RowOf w v a) (hb:Below w.heap.size w w') {i:Nat} (hi:i < a.length):∃ g cap,v = .slice (some ⟨g,0,none⟩) a.length cap∧w'.cell? ⟨g,i,none⟩=some (.int .i64 ((a.getD i 0:Nat):Int)):=by
 obtain ⟨g,cap,e,hc⟩:=ownsRow_cell h (j:=i) (u:=intV (a.getD i 0)) (by rw [List.getElem?_map,List.getD_eq_getElem?_getD,List.getElem?_eq_getElem hi]; rfl)
 exact ⟨g,cap,e,(hb.cell (p:=⟨g,i,none⟩) (lt_of_cell hc)).trans hc⟩
set_option maxRecDepth 100000 in
set_option maxHeartbeats 4000000 in
theorem both_any (a b:List Nat) (va vb:Value) (w:World) (ha:RowOf w va a) (hb:RowOf w vb b) (hla:a.length≤1000) (hlb:b.length≤1000) (ka:∀ x∈a,x≤1000000) (kb:∀ x∈b,x≤1000000) :
  Calls Tryz.prog 18 #[va,vb] w fun e w'=>∃ ov,e = .returned ov∧Below w.heap.size w w'∧RowOf w' ov (bothL a b):=by
 obtain ⟨aa,ac,rfl⟩:=ownsRow_form ha
 obtain ⟨ba,bc,rfl⟩:=ownsRow_form hb
 obtain ⟨i0,hi,hz0,hz1,hz2⟩:=info_parts Tryz.info3
 have hst:BAt w w (.slice none 0 0) []:=⟨Below.refl _ _,World.ownsRow_nil _ _ _ _,fun k e=>by cases e⟩
 have HST:=Lib.hid hst
 have HA:=Lib.hid ha
 have HB:=Lib.hid hb
 have KA:Hid (∀ i,a.getD i 0≤1000000):=Lib.hid fun i=>by
  rw [List.getD_eq_getElem?_getD]
  cases h:a[i]? with
  | none=>simp
  | some x=>exact ka x (List.mem_of_getElem? h)
 have KB:Hid (∀ i,b.getD i 0≤1000000):=Lib.hid fun i=>by
  rw [List.getD_eq_getElem?_getD]
  cases h:b[i]? with
  | none=>simp
  | some x=>exact kb x (List.mem_of_getElem? h)
 clear hst ha hb ka kb
 go_enter Tryz.func18,Tryz.ntmps18
 go_wp2_with fail
 go_loopw [5,6,7] (fun v iv kv wr=>∃ (i k:Nat) (out:List Nat),i≤a.length∧k≤b.length∧iv = .int .i64 (i:Int)∧kv = .int .i64 (k:Int)∧out.length≤i+k∧Hid (BAt w wr v out)∧Hid (out++bothL (a.drop i) (b.drop k)=bothL a b)) (fun _ iv kv _=>a.length+b.length - ((intOf iv).toNat+(intOf kv).toNat))
 case atStart=>exact ⟨0,0,[],Nat.zero_le _,Nat.zero_le _,rfl,rfl,Nat.zero_le _,HST,Lib.hid rfl⟩
 case round =>
  obtain ⟨i,k,out,hia,hkb,rfl,rfl,hol,HO,HE⟩:=hrel
  have q1:IntKind.i64.wrap ((i:Int)+1)=(i:Int)+1:=IntWalk.i64_in _ (by omega)
  have q2:IntKind.i64.wrap ((k:Int)+1)=(k:Int)+1:=IntWalk.i64_in _ (by omega)
  have hhi:=hi
  by_cases hil:i < a.length
  ·by_cases hkl:k < b.length
   ·rcases Nat.lt_trichotomy (a.getD i 0) (b.getD k 0) with hcm | hcm | hcm
    ·obtain ⟨ga,cpa,ea,ca⟩:=HA.out.cell HO.out.below hil
     simp only [Value.slice.injEq] at ea
     obtain ⟨rfl,_,rfl⟩:=ea
     have xa:=KA.out i
     have zi:(0:Int)≤(i:Int)∧(i:Int) < (a.length:Int):=by omega
     have gi:((i:Int) == (a.length:Int))=false:=by rw [Bool.eq_false_iff]; intro h; rw [beq_iff_eq] at h; omega
     have li:decide ((i:Int) < (a.length:Int))=true:=by simp; omega
     obtain ⟨gb,cpb,eb,cb⟩:=HB.out.cell HO.out.below hkl
     simp only [Value.slice.injEq] at eb
     obtain ⟨rfl,_,rfl⟩:=eb
     have xb:=KB.out k
     have zk:(0:Int)≤(k:Int)∧(k:Int) < (b.length:Int):=by omega
     have gk:((k:Int) == (b.length:Int))=false:=by rw [Bool.eq_false_iff]; intro h; rw [beq_iff_eq] at h; omega
     have lk:decide ((k:Int) < (b.length:Int))=true:=by simp; omega
     have hs:=bothL_step.2.2.1 hil hkl hcm
     have HS:=Lib.hid hs
     clear hs
     generalize hAv:a.getD i 0=Av at *
     generalize hBv:b.getD k 0=Bv at *
     have c1:decide ((Av:Int) < (Bv:Int))=true:=by simp <;> omega
     have c2:decide ((Bv:Int) < (Av:Int))=false:=by simp <;> omega
     go_upto_region 8 with fail
     go_quiet (fail)
     generalize hW5:wr.drewN nq=W5 at *
     have hbq:Below wr.heap.size wr W5:=by rw [← hW5]; exact below_drewNv (Below.refl _ _) _
     have hO5:=HO.out.same hbq
     have ca5:W5.cell? ⟨ga,i,none⟩=some (.int .i64 (Av:Int)):=(hbq.cell (p:=⟨ga,i,none⟩) (lt_of_cell ca)).trans ca
     have cb5:W5.cell? ⟨gb,k,none⟩=some (.int .i64 (Bv:Int)):=(hbq.cell (p:=⟨gb,k,none⟩) (lt_of_cell cb)).trans cb
     have HO5:=Lib.hid hO5
     clear hbq hO5 hW5 ca cb
     have hrow3:(W5.alloc (.cells #[.int .i64 (Av:Int)] 3)).ownsRow 0 3 1 u5 out.length (out.map intV):=HO5.out.row.alloc _
     go_wp2_with (at_builtin; refine wpList_append_lies rfl _ _ 27 rfl 3 i0 (.int .i64 0) 1 8 Tryz.underlying27 hi hz0 hz1 hz2 rfl (by decide) u5 out.length (out.map intV) rfl hrow3 ⟨W5.heap.size,0,none⟩ 1 1 [.int .i64 (Av:Int)] rfl rfl (cell_one_new W5 _ _) (by simp [Value.oneCell']) (by decide) (by unfold maxLen; omega) (by omega) ?_; intro v4 W7 hrow4 hgrow4 hlies4; simp only [put_lit,List.set_cons_succ,List.set_cons_zero]; have HR4:=Lib.hid hrow4; have HG4:=Lib.hid hgrow4; have HL4:=Lib.hid hlies4; clear hrow4 hgrow4 hlies4)
     go_roundw
     case rel =>
      have hmv:Moves W5 u5 W7 v4:=(Moves.alloc W5 u5 _).trans (Moves.append HG4.out HL4.out)
      refine ⟨i+1,k,out++[Av],by omega,by omega,by go_num,by go_num,by rw [List.length_append,List.length_singleton]; omega,Lib.hid ⟨hmv.below (fun k e=>HO5.out.past k e) HO5.out.below HO5.out.below.size,?_,hmv.past HO5.out.past HO5.out.below.size⟩,Lib.hid ?_⟩
      ·rw [List.length_append,List.length_singleton,List.map_append]
       exact HR4.out
      ·rw [← HE.out,HS.out,List.append_assoc]
       rfl
     case measure=>(simp [intOf]) <;> omega
    ·obtain ⟨ga,cpa,ea,ca⟩:=HA.out.cell HO.out.below hil
     simp only [Value.slice.injEq] at ea
     obtain ⟨rfl,_,rfl⟩:=ea
     have xa:=KA.out i
     have zi:(0:Int)≤(i:Int)∧(i:Int) < (a.length:Int):=by omega
     have gi:((i:Int) == (a.length:Int))=false:=by rw [Bool.eq_false_iff]; intro h; rw [beq_iff_eq] at h; omega
     have li:decide ((i:Int) < (a.length:Int))=true:=by simp; omega
     obtain ⟨gb,cpb,eb,cb⟩:=HB.out.cell HO.out.below hkl
     simp only [Value.slice.injEq] at eb
     obtain ⟨rfl,_,rfl⟩:=eb
     have xb:=KB.out k
     have zk:(0:Int)≤(k:Int)∧(k:Int) < (b.length:Int):=by omega
     have gk:((k:Int) == (b.length:Int))=false:=by rw [Bool.eq_false_iff]; intro h; rw [beq_iff_eq] at h; omega
     have lk:decide ((k:Int) < (b.length:Int))=true:=by simp; omega
     have hs:=bothL_step.2.2.2.2 hil hkl hcm.symm
     have HS:=Lib.hid hs
     clear hs
     generalize hAv:a.getD i 0=Av at *
     generalize hBv:b.getD k 0=Bv at *
     subst hcm
     have c1:decide ((Av:Int) < (Av:Int))=false:=by simp <;> omega
     have c2:decide ((Av:Int) < (Av:Int))=false:=by simp <;> omega
     go_upto_region 8 with fail
     go_quiet (fail)
     generalize hW5:wr.drewN nq=W5 at *
     have hbq:Below wr.heap.size wr W5:=by rw [← hW5]; exact below_drewNv (Below.refl _ _) _
     have hO5:=HO.out.same hbq
     have ca5:W5.cell? ⟨ga,i,none⟩=some (.int .i64 (Av:Int)):=(hbq.cell (p:=⟨ga,i,none⟩) (lt_of_cell ca)).trans ca
     have cb5:W5.cell? ⟨gb,k,none⟩=some (.int .i64 (Av:Int)):=(hbq.cell (p:=⟨gb,k,none⟩) (lt_of_cell cb)).trans cb
     have HO5:=Lib.hid hO5
     clear hbq hO5 hW5 ca cb
     go_upto_region 11 with fail
     go_quiet (fail)
     generalize hW6:W5.drewN nq=W6 at *
     have hbq:Below W5.heap.size W5 W6:=by rw [← hW6]; exact below_drewNv (Below.refl _ _) _
     have hO6:=HO5.out.same hbq
     have ca6:W6.cell? ⟨ga,i,none⟩=some (.int .i64 (Av:Int)):=(hbq.cell (p:=⟨ga,i,none⟩) (lt_of_cell ca5)).trans ca5
     have cb6:W6.cell? ⟨gb,k,none⟩=some (.int .i64 (Av:Int)):=(hbq.cell (p:=⟨gb,k,none⟩) (lt_of_cell cb5)).trans cb5
     have HO6:=Lib.hid hO6
     clear hbq hO6 hW6 ca5 cb5
     have hrow3:(W6.alloc (.cells #[.int .i64 (Av:Int)] 3)).ownsRow 0 3 1 u5 out.length (out.map intV):=HO6.out.row.alloc _
     go_wp2_with (at_builtin; refine wpList_append_lies rfl _ _ 27 rfl 3 i0 (.int .i64 0) 1 8 Tryz.underlying27 hi hz0 hz1 hz2 rfl (by decide) u5 out.length (out.map intV) rfl hrow3 ⟨W6.heap.size,0,none⟩ 1 1 [.int .i64 (Av:Int)] rfl rfl (cell_one_new W6 _ _) (by simp [Value.oneCell']) (by decide) (by unfold maxLen; omega) (by omega) ?_; intro v4 W7 hrow4 hgrow4 hlies4; simp only [put_lit,List.set_cons_succ,List.set_cons_zero]; have HR4:=Lib.hid hrow4; have HG4:=Lib.hid hgrow4; have HL4:=Lib.hid hlies4; clear hrow4 hgrow4 hlies4)
     go_roundw
     case rel =>
      have hmv:Moves W6 u5 W7 v4:=(Moves.alloc W6 u5 _).trans (Moves.append HG4.out HL4.out)
      refine ⟨i+1,k+1,out++[Av],by omega,by omega,by go_num,by go_num,by rw [List.length_append,List.length_singleton]; omega,Lib.hid ⟨hmv.below (fun k e=>HO6.out.past k e) HO6.out.below HO6.out.below.size,?_,hmv.past HO6.out.past HO6.out.below.size⟩,Lib.hid ?_⟩
      ·rw [List.length_append,List.length_singleton,List.map_append]
       exact HR4.out
      ·rw [← HE.out,HS.out,List.append_assoc]
       rfl
     case measure=>(simp [intOf]) <;> omega
    ·obtain ⟨ga,cpa,ea,ca⟩:=HA.out.cell HO.out.below hil
     simp only [Value.slice.injEq] at ea
     obtain ⟨rfl,_,rfl⟩:=ea
     have xa:=KA.out i
     have zi:(0:Int)≤(i:Int)∧(i:Int) < (a.length:Int):=by omega
     have gi:((i:Int) == (a.length:Int))=false:=by rw [Bool.eq_false_iff]; intro h; rw [beq_iff_eq] at h; omega
     have li:decide ((i:Int) < (a.length:Int))=true:=by simp; omega
     obtain ⟨gb,cpb,eb,cb⟩:=HB.out.cell HO.out.below hkl
     simp only [Value.slice.injEq] at eb
     obtain ⟨rfl,_,rfl⟩:=eb
     have xb:=KB.out k
     have zk:(0:Int)≤(k:Int)∧(k:Int) < (b.length:Int):=by omega
     have gk:((k:Int) == (b.length:Int))=false:=by rw [Bool.eq_false_iff]; intro h; rw [beq_iff_eq] at h; omega
     have lk:decide ((k:Int) < (b.length:Int))=true:=by simp; omega
     have hs:=bothL_step.2.2.2.1 hil hkl hcm
     have HS:=Lib.hid hs
     clear hs
     generalize hAv:a.getD i 0=Av at *
     generalize hBv:b.getD k 0=Bv at *
     have c1:decide ((Av:Int) < (Bv:Int))=false:=by simp <;> omega
     have c2:decide ((Bv:Int) < (Av:Int))=true:=by simp <;> omega
     go_upto_region 8 with fail
     go_quiet (fail)
     generalize hW5:wr.drewN nq=W5 at *
     have hbq:Below wr.heap.size wr W5:=by rw [← hW5]; exact below_drewNv (Below.refl _ _) _
     have hO5:=HO.out.same hbq
     have ca5:W5.cell? ⟨ga,i,none⟩=some (.int .i64 (Av:Int)):=(hbq.cell (p:=⟨ga,i,none⟩) (lt_of_cell ca)).trans ca
     have cb5:W5.cell? ⟨gb,k,none⟩=some (.int .i64 (Bv:Int)):=(hbq.cell (p:=⟨gb,k,none⟩) (lt_of_cell cb)).trans cb
     have HO5:=Lib.hid hO5
     clear hbq hO5 hW5 ca cb
     go_upto_region 11 with fail
     go_quiet (fail)
     generalize hW6:W5.drewN nq=W6 at *
     have hbq:Below W5.heap.size W5 W6:=by rw [← hW6]; exact below_drewNv (Below.refl _ _) _
     have hO6:=HO5.out.same hbq
     have ca6:W6.cell? ⟨ga,i,none⟩=some (.int .i64 (Av:Int)):=(hbq.cell (p:=⟨ga,i,none⟩) (lt_of_cell ca5)).trans ca5
     have cb6:W6.cell? ⟨gb,k,none⟩=some (.int .i64 (Bv:Int)):=(hbq.cell (p:=⟨gb,k,none⟩) (lt_of_cell cb5)).trans cb5
     have HO6:=Lib.hid hO6
     clear hbq hO6 hW6 ca5 cb5
     have hrow3:(W6.alloc (.cells #[.int .i64 (Bv:Int)] 3)).ownsRow 0 3 1 u5 out.length (out.map intV):=HO6.out.row.alloc _
     go_wp2_with (at_builtin; refine wpList_append_lies rfl _ _ 27 rfl 3 i0 (.int .i64 0) 1 8 Tryz.underlying27 hi hz0 hz1 hz2 rfl (by decide) u5 out.length (out.map intV) rfl hrow3 ⟨W6.heap.size,0,none⟩ 1 1 [.int .i64 (Bv:Int)] rfl rfl (cell_one_new W6 _ _) (by simp [Value.oneCell']) (by decide) (by unfold maxLen; omega) (by omega) ?_; intro v4 W7 hrow4 hgrow4 hlies4; simp only [put_lit,List.set_cons_succ,List.set_cons_zero]; have HR4:=Lib.hid hrow4; have HG4:=Lib.hid hgrow4; have HL4:=Lib.hid hlies4; clear hrow4 hgrow4 hlies4)
     go_roundw
     case rel =>
      have hmv:Moves W6 u5 W7 v4:=(Moves.alloc W6 u5 _).trans (Moves.append HG4.out HL4.out)
      refine ⟨i,k+1,out++[Bv],by omega,by omega,by go_num,by go_num,by rw [List.length_append,List.length_singleton]; omega,Lib.hid ⟨hmv.below (fun k e=>HO6.out.past k e) HO6.out.below HO6.out.below.size,?_,hmv.past HO6.out.past HO6.out.below.size⟩,Lib.hid ?_⟩
      ·rw [List.length_append,List.length_singleton,List.map_append]
       exact HR4.out
      ·rw [← HE.out,HS.out,List.append_assoc]
       rfl
     case measure=>(simp [intOf]) <;> omega
   ·have hke:k=b.length:=by omega
    obtain ⟨ga,cpa,ea,ca⟩:=HA.out.cell HO.out.below hil
    simp only [Value.slice.injEq] at ea
    obtain ⟨rfl,_,rfl⟩:=ea
    have xa:=KA.out i
    have zi:(0:Int)≤(i:Int)∧(i:Int) < (a.length:Int):=by omega
    have gi:((i:Int) == (a.length:Int))=false:=by rw [Bool.eq_false_iff]; intro h; rw [beq_iff_eq] at h; omega
    have li:decide ((i:Int) < (a.length:Int))=true:=by simp; omega
    have gk:((k:Int) == (b.length:Int))=true:=by rw [beq_iff_eq]; omega
    have lk:decide ((k:Int) < (b.length:Int))=false:=by simp; omega
    have hs:=bothL_step.1 hil hke
    have HS:=Lib.hid hs
    clear hs
    generalize hAv:a.getD i 0=Av at *
    go_upto_region 8 with fail
    go_quiet (fail)
    generalize hW5:wr.drewN nq=W5 at *
    have hbq:Below wr.heap.size wr W5:=by rw [← hW5]; exact below_drewNv (Below.refl _ _) _
    have hO5:=HO.out.same hbq
    have ca5:W5.cell? ⟨ga,i,none⟩=some (.int .i64 (Av:Int)):=(hbq.cell (p:=⟨ga,i,none⟩) (lt_of_cell ca)).trans ca
    have HO5:=Lib.hid hO5
    clear hbq hO5 hW5 ca
    have hrow3:(W5.alloc (.cells #[.int .i64 (Av:Int)] 3)).ownsRow 0 3 1 u5 out.length (out.map intV):=HO5.out.row.alloc _
    go_wp2_with (at_builtin; refine wpList_append_lies rfl _ _ 27 rfl 3 i0 (.int .i64 0) 1 8 Tryz.underlying27 hi hz0 hz1 hz2 rfl (by decide) u5 out.length (out.map intV) rfl hrow3 ⟨W5.heap.size,0,none⟩ 1 1 [.int .i64 (Av:Int)] rfl rfl (cell_one_new W5 _ _) (by simp [Value.oneCell']) (by decide) (by unfold maxLen; omega) (by omega) ?_; intro v4 W7 hrow4 hgrow4 hlies4; simp only [put_lit,List.set_cons_succ,List.set_cons_zero]; have HR4:=Lib.hid hrow4; have HG4:=Lib.hid hgrow4; have HL4:=Lib.hid hlies4; clear hrow4 hgrow4 hlies4)
    go_roundw
    case rel =>
     have hmv:Moves W5 u5 W7 v4:=(Moves.alloc W5 u5 _).trans (Moves.append HG4.out HL4.out)
     refine ⟨i+1,k,out++[Av],by omega,by omega,by go_num,by go_num,by rw [List.length_append,List.length_singleton]; omega,Lib.hid ⟨hmv.below (fun k e=>HO5.out.past k e) HO5.out.below HO5.out.below.size,?_,hmv.past HO5.out.past HO5.out.below.size⟩,Lib.hid ?_⟩
     ·rw [List.length_append,List.length_singleton,List.map_append]
      exact HR4.out
     ·rw [← HE.out,HS.out,List.append_assoc]
      rfl
    case measure=>(simp [intOf]) <;> omega
  ·have hie:i=a.length:=by omega
   by_cases hkl:k < b.length
   ·have gi:((i:Int) == (a.length:Int))=true:=by rw [beq_iff_eq]; omega
    have li:decide ((i:Int) < (a.length:Int))=false:=by simp; omega
    obtain ⟨gb,cpb,eb,cb⟩:=HB.out.cell HO.out.below hkl
    simp only [Value.slice.injEq] at eb
    obtain ⟨rfl,_,rfl⟩:=eb
    have xb:=KB.out k
    have zk:(0:Int)≤(k:Int)∧(k:Int) < (b.length:Int):=by omega
    have gk:((k:Int) == (b.length:Int))=false:=by rw [Bool.eq_false_iff]; intro h; rw [beq_iff_eq] at h; omega
    have lk:decide ((k:Int) < (b.length:Int))=true:=by simp; omega
    have hs:=bothL_step.2.1 hie hkl
    have HS:=Lib.hid hs
    clear hs
    generalize hBv:b.getD k 0=Bv at *
    go_upto_region 8 with fail
    go_quiet (fail)
    generalize hW5:wr.drewN nq=W5 at *
    have hbq:Below wr.heap.size wr W5:=by rw [← hW5]; exact below_drewNv (Below.refl _ _) _
    have hO5:=HO.out.same hbq
    have cb5:W5.cell? ⟨gb,k,none⟩=some (.int .i64 (Bv:Int)):=(hbq.cell (p:=⟨gb,k,none⟩) (lt_of_cell cb)).trans cb
    have HO5:=Lib.hid hO5
    clear hbq hO5 hW5 cb
    go_upto_region 11 with fail
    go_quiet (fail)
    generalize hW6:W5.drewN nq=W6 at *
    have hbq:Below W5.heap.size W5 W6:=by rw [← hW6]; exact below_drewNv (Below.refl _ _) _
    have hO6:=HO5.out.same hbq
    have cb6:W6.cell? ⟨gb,k,none⟩=some (.int .i64 (Bv:Int)):=(hbq.cell (p:=⟨gb,k,none⟩) (lt_of_cell cb5)).trans cb5
    have HO6:=Lib.hid hO6
    clear hbq hO6 hW6 cb5
    have hrow3:(W6.alloc (.cells #[.int .i64 (Bv:Int)] 3)).ownsRow 0 3 1 u5 out.length (out.map intV):=HO6.out.row.alloc _
    go_wp2_with (at_builtin; refine wpList_append_lies rfl _ _ 27 rfl 3 i0 (.int .i64 0) 1 8 Tryz.underlying27 hi hz0 hz1 hz2 rfl (by decide) u5 out.length (out.map intV) rfl hrow3 ⟨W6.heap.size,0,none⟩ 1 1 [.int .i64 (Bv:Int)] rfl rfl (cell_one_new W6 _ _) (by simp [Value.oneCell']) (by decide) (by unfold maxLen; omega) (by omega) ?_; intro v4 W7 hrow4 hgrow4 hlies4; simp only [put_lit,List.set_cons_succ,List.set_cons_zero]; have HR4:=Lib.hid hrow4; have HG4:=Lib.hid hgrow4; have HL4:=Lib.hid hlies4; clear hrow4 hgrow4 hlies4)
    go_roundw
    case rel =>
     have hmv:Moves W6 u5 W7 v4:=(Moves.alloc W6 u5 _).trans (Moves.append HG4.out HL4.out)
     refine ⟨i,k+1,out++[Bv],by omega,by omega,by go_num,by go_num,by rw [List.length_append,List.length_singleton]; omega,Lib.hid ⟨hmv.below (fun k e=>HO6.out.past k e) HO6.out.below HO6.out.below.size,?_,hmv.past HO6.out.past HO6.out.below.size⟩,Lib.hid ?_⟩
     ·rw [List.length_append,List.length_singleton,List.map_append]
      exact HR4.out
     ·rw [← HE.out,HS.out,List.append_assoc]
      rfl
    case measure=>(simp [intOf]) <;> omega
   ·have hke:k=b.length:=by omega
    have gi:decide ((i:Int) < (a.length:Int))=false:=by simp; omega
    have gk:decide ((k:Int) < (b.length:Int))=false:=by simp; omega
    have hfin:Hid (out=bothL a b):=Lib.hid (by
     rw [← HE.out,hie,hke,List.drop_length,List.drop_length]
     unfold bothL
     rw [List.append_nil])
    go_wp2_with fail
    go_ret
    exact ⟨u5,rfl,HO.out.below,by rw [← hfin.out]; exact HO.out.row⟩
set_option maxRecDepth 100000 in
set_option maxHeartbeats 4000000 in
theorem same_eq (a:List Nat) (va vb:Value) (w:World) (ha:RowOf w va a) (hb:RowOf w vb a) (hla:a.length≤1000) :
  Calls Tryz.prog 16 #[va,vb] w fun e w'=>e = .returned (.bool true)∧Below w.heap.size w w':=by
 obtain ⟨aa,ac,rfl⟩:=ownsRow_form ha
 obtain ⟨ba,bc,rfl⟩:=ownsRow_form hb
 have HA:=Lib.hid ha
 have HB:=Lib.hid hb
 clear ha hb
 go_enter Tryz.func16,Tryz.ntmps16
 go_wp2_with fail
 go_loopw [5] (fun iv wr=>∃ i:Nat,i≤a.length∧iv = .int .i64 (i:Int)∧Hid (Below w.heap.size w wr)) (fun iv _=>a.length - (intOf iv).toNat)
 case atStart=>exact ⟨0,Nat.zero_le _,rfl,Lib.hid (Below.refl _ _)⟩
 case round =>
  obtain ⟨i,hia,rfl,HO⟩:=hrel
  have q1:IntKind.i64.wrap ((i:Int)+1)=(i:Int)+1:=IntWalk.i64_in _ (by omega)
  by_cases hil:i < a.length
  ·obtain ⟨ga,cpa,ea,ca⟩:=HA.out.cell HO.out hil
   simp only [Value.slice.injEq] at ea
   obtain ⟨rfl,_,rfl⟩:=ea
   obtain ⟨gb,cpb,eb,cb⟩:=HB.out.cell HO.out hil
   simp only [Value.slice.injEq] at eb
   obtain ⟨rfl,_,rfl⟩:=eb
   have zi:(0:Int)≤(i:Int)∧(i:Int) < (a.length:Int):=by omega
   generalize a.getD i 0=Av at *
   go_upto_region 6 with fail
   go_quiet (fail)
   go_wp2_with fail
   go_roundw
   case rel=>exact ⟨i+1,by omega,by go_num,Lib.hid (below_drewNv HO.out _)⟩
   case measure=>(simp [intOf]) <;> omega
  ·obtain rfl:i=a.length:=by omega
   go_wp2_with fail
   go_ret
   exact ⟨rfl,HO.out⟩
end Go.Proofs.Ts
namespace Go.Proofs.Ts
open Go
def litOne (c:Nat):Ast := .one (BSet.zero.add c c)
def four:Ast := .or (.or (.or (.seq (litOne 97) (litOne 98)) (.seq (litOne 97) (litOne 99))) (.seq (litOne 98) (litOne 98))) (.seq (litOne 98) (litOne 99))
/-! ### Other words. -/
theorem parse_big_or {P:Prop} [Decidable P] {x y:Ast} (h:(if P then Parsed.big else .ok x) = .ok y):¬ P∧x=y:=by
 split at h
 ·cases h
 ·rename_i hp; cases h; exact ⟨hp,rfl⟩
end Go.Proofs.Ts
namespace Go.Proofs.Ts
open Go
theorem bothL_or (p q:Nat→Bool):∀ l:List Nat,l.Pairwise (· < ·)→bothL (l.filter p) (l.filter q)=l.filter fun x=>p x || q x
 | [],_=>by simp [bothL]
 | x :: t,hl=>by
  obtain ⟨h1,h2⟩:=List.pairwise_cons.1 hl
  have ih:=bothL_or p q t h2
  have hp:∀ r:Nat→Bool,∀ y∈t.filter r,x < y:=fun r y hy=>h1 y (List.mem_filter.1 hy).1
  cases ep:p x <;> cases eq:q x
  ·rw [List.filter_cons_of_neg (by simp [ep]),List.filter_cons_of_neg (by simp [eq]),List.filter_cons_of_neg (by simp [ep,eq]),ih]
  ·rw [List.filter_cons_of_neg (by simp [ep]),List.filter_cons_of_pos (by simp [eq]),List.filter_cons_of_pos (by simp [eq]),← ih]
   cases e:t.filter p with
   | nil=>rw [bothL]
   | cons y r =>
    have hy:=hp p y (by rw [e]; exact List.mem_cons_self)
    rw [bothL,if_neg (by omega),if_pos hy]
  ·rw [List.filter_cons_of_pos (by simp [ep]),List.filter_cons_of_neg (by simp [eq]),List.filter_cons_of_pos (by simp [ep]),← ih]
   cases e:t.filter q with
   | nil=>rw [bothL]
   | cons y r =>
    have hy:=hp q y (by rw [e]; exact List.mem_cons_self)
    rw [bothL,if_pos hy]
  ·rw [List.filter_cons_of_pos (by simp [ep]),List.filter_cons_of_pos (by simp [eq]),List.filter_cons_of_pos (by simp [ep]),← ih]
   rw [bothL,if_neg (by omega),if_neg (by omega)]
theorem docs_or (D:List (List (List UInt8))) (f g:List UInt8→Bool):bothL (docsOf D f) (docsOf D g)=docsOf D fun u=>f u || g u:=by
 unfold docsOf
 rw [bothL_or _ _ _ List.pairwise_lt_range]
 congr 1
 funext d
 rw [Bool.eq_iff_iff,Bool.or_eq_true,List.any_eq_true,List.any_eq_true,List.any_eq_true]
 constructor
 ·rintro (⟨u,h1,h2⟩ | ⟨u,h1,h2⟩)
  ·exact ⟨u,h1,by rw [h2]; rfl⟩
  ·exact ⟨u,h1,by rw [h2,Bool.or_true]⟩
 ·rintro ⟨u,h1,h2⟩
  rcases Bool.or_eq_true _ _ ▸ h2 with h2 | h2
  ·exact .inl ⟨u,h1,h2⟩
  ·exact .inr ⟨u,h1,h2⟩
def orText (p q:List UInt8):List UInt8:=40 :: (p++(41 :: 124 :: 40 :: (q++[41])))
theorem orText_parse {p q:List UInt8} {x y:Ast} (hp:parseP ⟨p.toArray⟩ = .ok x) (hq:parseP ⟨q.toArray⟩ = .ok y):parseP ⟨(orText p q).toArray⟩=if (Ast.or x y).places > 128 then .big else .ok (.or x y):=by
 obtain ⟨x1,hx1,hx2,_⟩:=parse_ok hp
 obtain ⟨y1,hy1,hy2,_⟩:=parse_ok hq
 have e:(ByteArray.mk (orText p q).toArray).data.toList=40 :: ((ByteArray.mk p.toArray).data.toList++(41 :: 124 :: 40 :: ((ByteArray.mk q.toArray).data.toList++[41]))):=by
  simp [orText]
 exact parse_of (hx1.or hy1 e) (hx2.or hy2 e)
theorem reads_lang {x:Ast} (h:x.count≤128) (u:List UInt8):(PM.compile x).reads beginSet u=true↔x.lang u:=compile_reads x h u
section
variable {p q:List UInt8} {f g h:List UInt8→Bool} {st:Nat}
theorem either_law (hf:patAcc (parseP ⟨p.toArray⟩) st=some f) (hg:patAcc (parseP ⟨q.toArray⟩) st=some g) :
  (∀ h,patAcc (parseP ⟨(orText p q).toArray⟩) st=some h→h=fun u=>f u || g u) ∧ ∀ e,patErr (parseP ⟨(orText p q).toArray⟩) st=some e→e = .no 9:=by
 obtain ⟨x,hx,_,rfl⟩:=patAcc_some hf
 obtain ⟨y,hy,_,rfl⟩:=patAcc_some hg
 have hP:=orText_parse hx hy
 refine ⟨fun h hh=>?_,fun e he=>?_⟩
 ·obtain ⟨z,hz,_,rfl⟩:=patAcc_some hh
  rw [hP] at hz
  obtain ⟨hle,rfl⟩:=parse_big_or hz
  have hc:(Ast.or x y).count≤128:=by rw [places_count _ (by omega)]; omega
  funext u
  rw [Bool.eq_iff_iff,Bool.or_eq_true,reads_lang hc,reads_lang (parseP_count hx),reads_lang (parseP_count hy)]
  exact Iff.rfl
 ·rw [hP] at he
  split at he
  ·cases he; rfl
  ·unfold patErr at he
   simp only at he
   split at he
   ·cases he; rfl
   ·cases he
theorem twice_law (hf:patAcc (parseP ⟨p.toArray⟩) st=some f) (hh:patAcc (parseP ⟨(orText p p).toArray⟩) st=some h):h=f:=by
 rw [(either_law hf hf).1 h hh]
 funext u
 simp
end
end Go.Proofs.Ts
namespace Go.Proofs.Ts
open Go Go.RowKit Go.Extern.Stop Go.Stop Go.Extern
theorem rl_valueOfB (b:Nat) (w:World):(ReflectliteValue.unpack (.iface 105 (.pointer (some ⟨b,0,none⟩)))).run Tryz.prog w = .ok (.agg #[.pointer (some ⟨5,105,none⟩),.pointer (some ⟨w.heap.size,0,none⟩),.int .u64 150]) (w.alloc (.cells #[.pointer (some ⟨b,0,none⟩)] 105)):=by kernel_rfl
theorem rl_typeB (a : Addr) (w : World) : (ReflectliteValue.methodAny (ReflectliteValue.valueError "reflectlite.Value.Type" 0) (fun t _ _ _ => ReflectliteType.toType t) #[.agg #[.pointer (some ⟨5, 105, none⟩), .pointer (some a), .int .u64 150]]).run Tryz.prog w
  = .ok (.iface 222 (.agg #[.pointer (some ⟨5,105,none⟩)])) w:=by kernel_rfl
theorem rl_kindB (w:World):((ReflectliteType.abiMethod fun t=>(fun a:Nat=>Value.int IntKind.u8 (a:Int)) <$> Rtype.kind t) #[.pointer (some ⟨5,105,none⟩)]).run Tryz.prog w = .ok (.int .u8 22) w:=by kernel_rfl
theorem rl_kindP (w:World):((ReflectliteType.abiMethod fun t=>(fun a:Nat=>Value.int IntKind.u8 (a:Int)) <$> Rtype.kind t) #[.pointer (some ⟨5,103,none⟩)]).run Tryz.prog w = .ok (.int .u8 22) w:=by kernel_rfl
theorem rl_partsB (a:Addr) (w:World):(ReflectliteValue.parts (.agg #[.pointer (some ⟨5,105,none⟩),.pointer (some a),.int .u64 150])).run Tryz.prog w = .ok (some (105,a,150)) w:=by kernel_rfl
theorem rl_isNilB (a p:Addr) (W:World) (ha:W.cell? a=some (.pointer (some p))) :
  (ReflectliteValue.method (ReflectliteValue.valueError "reflectlite.Value.IsNil" 0) ReflectliteValue.isNil #[.agg #[.pointer (some ⟨5, 105, none⟩), .pointer (some a), .int .u64 150]]).run Tryz.prog W = .ok (.bool false) W := by
 rw [rlm]
 simp only [Sem.run_bind,rl_partsB,Result.andThen]
 simp [ReflectliteValue.isNil,loadVar,isAgg,underlying,Tryz.underlying105,ha,Result.andThen]
theorem rl_elemB (w:World):(ReflectliteType.method ReflectliteType.elem #[.agg #[.pointer (some ⟨5,105,none⟩)]]).run Tryz.prog w = .ok (.iface 222 (.agg #[.pointer (some ⟨5,103,none⟩)])) w:=by kernel_rfl
theorem rl_implementsP (w : World) : (ReflectliteType.relation "Implements" ReflectliteType.implements_ #[.agg #[.pointer (some ⟨5, 103, none⟩)], .iface 222 (.agg #[.pointer (some ⟨5, 69, none⟩)])]).run Tryz.prog w = .ok (.bool true) w := by kernel_rfl
theorem rl_assignableP (w : World) : (ReflectliteType.relation "AssignableTo" ReflectliteType.assignableTo #[.agg #[.pointer (some ⟨5, 33, none⟩)], .iface 222 (.agg #[.pointer (some ⟨5, 103, none⟩)])]).run Tryz.prog w = .ok (.bool false) w := by kernel_rfl
theorem rl_noAs (v:Value) (xT:TypeId) (w:World):(Instr.typeAssert (.iface 33 v) xT 226 true).run Tryz.prog w = .ok (.tuple #[.nilIface,.bool false]) w:=run_typeAssert_lacksB Tryz.underlying226 (by kernel_rfl) (by kernel_rfl) v xT w
theorem rl_noUnwrap (v:Value) (xT:TypeId) (w:World):(Instr.typeAssert (.iface 33 v) xT 229 true).run Tryz.prog w = .ok (.tuple #[.nilIface,.bool false]) w:=run_typeAssert_lacksB Tryz.underlying229 (by kernel_rfl) (by kernel_rfl) v xT w
theorem rl_noUnwraps (v:Value) (xT:TypeId) (w:World):(Instr.typeAssert (.iface 33 v) xT 231 true).run Tryz.prog w = .ok (.tuple #[.nilIface,.bool false]) w:=run_typeAssert_lacksB Tryz.underlying231 (by kernel_rfl) (by kernel_rfl) v xT w
set_option maxHeartbeats 4000000 in
theorem as_bad (k:Int) (b:Nat) (w:World) (hg:ErrIn w) :
  Calls Tryz.prog 43 #[.iface 33 (.int .i64 k),.iface 105 (.pointer (some ⟨b,0,none⟩))] w fun ev w'=>ev = .returned (.bool false)∧Below w.heap.size w w':=by
 have h6:=@run_callFunc_extern Tryz.prog 71 _ (fun args=>ReflectliteValue.unpack (args.getD 0 (.tuple #[]))) Tryz.func71 (by kernel_rfl) (by kernel_rfl) (by kernel_rfl) (by kernel_rfl)
 have h7 := @run_callFunc_extern Tryz.prog 72 _ (ReflectliteValue.methodAny (ReflectliteValue.valueError "reflectlite.Value.Type" 0) (fun t _ _ _ => ReflectliteType.toType t)) Tryz.func72 (by kernel_rfl) (by kernel_rfl) (by kernel_rfl) (by kernel_rfl)
 have h8 := @run_callFunc_extern Tryz.prog 73 _ (ReflectliteValue.method (ReflectliteValue.valueError "reflectlite.Value.IsNil" 0) ReflectliteValue.isNil) Tryz.func73 (by kernel_rfl) (by kernel_rfl) (by kernel_rfl) (by kernel_rfl)
 have h27:=@run_callFunc_extern Tryz.prog 203 _ (ReflectliteType.abiMethod fun t=>do pure (.int .u8 (← Rtype.kind t))) Tryz.func203 (by kernel_rfl) (by kernel_rfl) (by kernel_rfl) (by kernel_rfl)
 have h37:=@run_callFunc_extern Tryz.prog 226 _ (ReflectliteType.method ReflectliteType.elem) Tryz.func226 (by kernel_rfl) (by kernel_rfl) (by kernel_rfl) (by kernel_rfl)
 have h38 := @run_callFunc_extern Tryz.prog 227 _ (ReflectliteType.relation "Implements" ReflectliteType.implements_) Tryz.func227 (by kernel_rfl) (by kernel_rfl) (by kernel_rfl) (by kernel_rfl)
 have h10:=@run_callFunc_extern Tryz.prog 75 _ ReflectliteType.typeOf Tryz.func75 (by kernel_rfl) (by kernel_rfl) (by kernel_rfl) (by kernel_rfl)
 have h35 := @run_callFunc_extern Tryz.prog 224 _ (ReflectliteType.relation "AssignableTo" ReflectliteType.assignableTo) Tryz.func224 (by kernel_rfl) (by kernel_rfl) (by kernel_rfl) (by kernel_rfl)
 have h11 := @run_callFunc_extern Tryz.prog 103 _ (ReflectliteValue.method (ReflectliteValue.valueError "reflectlite.Value.Elem" 0) ReflectliteValue.elem) Tryz.func103 (by kernel_rfl) (by kernel_rfl) (by kernel_rfl) (by kernel_rfl)
 have h12:=@run_callFunc_extern Tryz.prog 104 _ ReflectliteValue.set Tryz.func104 (by kernel_rfl) (by kernel_rfl) (by kernel_rfl) (by kernel_rfl)
 have tO:=rl_typeOfN
 have mA:=rl_methodAssignable
 have a25:=rl_assignableP
 have f6:=rl_valueOfB
 have f7:=rl_typeB
 have mK:=rl_methodKind
 have mE:=rl_methodElem
 have mI:=rl_methodImplements
 have k27:=rl_kindB
 have k25:=rl_kindP
 have e27:=rl_elemB
 have i25:=rl_implementsP
 have n8:=rl_isNilB ⟨w.heap.size,0,none⟩ ⟨b,0,none⟩ ((w.alloc (.cells #[.pointer (some ⟨b,0,none⟩)] 105)).alloc (.cells #[.pointer (some ⟨5,105,none⟩),.pointer (some ⟨w.heap.size,0,none⟩),.int .u64 150] 169)) (by simp)
 have hlt:0 < w.heap.size:=lt_of_cell hg
 unfold ErrIn at hg
 have hg2:((w.alloc (.cells #[.pointer (some ⟨b,0,none⟩)] 105)).alloc (.cells #[.pointer (some ⟨5,105,none⟩),.pointer (some ⟨w.heap.size,0,none⟩),.int .u64 150] 169)).cell? ⟨0,0,none⟩=some (.iface 222 (.agg #[.pointer (some ⟨5,69,none⟩)])):=by
  rw [World.cell?_alloc_lt _ _ ⟨0,0,none⟩ (by simp),World.cell?_alloc_lt _ _ ⟨0,0,none⟩ hlt]; exact hg
 have n1:=rl_noAs
 have n2:=rl_noUnwrap
 have n3:=rl_noUnwraps
 go_enter Tryz.func43,Tryz.ntmps43
 go_wp2
 refine wp_loop_rounds 1 ?_
 rw [rounds_succ]
 go_wp2
 go_ret
 exact ⟨rfl,(((Below.refl _ w).alloc (Nat.le_refl _) _).alloc (by simp) _).alloc (by simp; omega) _⟩
end Go.Proofs.Ts
namespace Go.Proofs.Ts
open Go Go.RowKit Go.Extern.Stop Go.Stop Go.Extern
theorem rl_comparableN (w : World) : (ReflectliteType.method (fun t => do Rtype.noPackHeld "Comparable" t; (fun a => Value.bool a.comparable) <$> typeInfo t) #[.agg #[.pointer (some ⟨5, 33, none⟩)]]).run Tryz.prog w = .ok (.bool true) w := by kernel_rfl
theorem errno_comparable:(Tryz.prog.info? 33).map (·.comparable)=some true:=by kernel_rfl
theorem run_eql_iface_int {P:Program} {ti tp:TypeId} {ms:Array (String × TypeId)} {i:TypeInfo} {kk:IntKind} (k:Int) (w:World) (hi:P.underlying ti=some (.interface ms)) (hp:P.underlying tp=some (.int kk)) (hinfo:P.info? tp=some i) (hcomp:i.comparable=true) :
  (binOp .eql ti (.iface tp (.int .i64 k)) (.iface tp (.int .i64 k))).run P w = .ok (.bool true) w:=by
 have h:∀ d:Nat,(Op.equalIn (d+2) ti (.iface tp (.int .i64 k)) (.iface tp (.int .i64 k))).run P w = .ok true w:=fun d=>by
  simp [Op.equalIn,run_underlying hi,run_underlying hp,typeInfo,hinfo,hcomp]
 simp only [binOp]
 simp [Op.equal,Op.maxDepth,h 9998]
theorem eq_errno (k:Int) (w:World):(binOp BinOp.eql 69 (.iface 33 (.int .i64 k)) (.iface 33 (.int .i64 k))).run Tryz.prog w = .ok (.bool true) w:=by
 obtain ⟨i,hi,hc⟩:=Option.map_eq_some_iff.1 errno_comparable
 exact run_eql_iface_int k w Tryz.underlying69 Tryz.underlying33 hi hc
set_option maxRecDepth 100000 in
set_option maxHeartbeats 4000000 in
theorem is_self (k:Int) (w:World):Calls Tryz.prog 44 #[.iface 33 (.int .i64 k),.iface 33 (.int .i64 k)] w fun ev w'=>ev = .returned (.bool true)∧Below w.heap.size w w':=by
 have h10:=@run_callFunc_extern Tryz.prog 75 _ ReflectliteType.typeOf Tryz.func75 (by kernel_rfl) (by kernel_rfl) (by kernel_rfl) (by kernel_rfl)
 have h35 := @run_callFunc_extern Tryz.prog 225 _ (ReflectliteType.method (fun t => do Rtype.noPackHeld "Comparable" t; pure (.bool (← typeInfo t).comparable))) Tryz.func225 (by kernel_rfl) (by kernel_rfl) (by kernel_rfl) (by kernel_rfl)
 have tO:=rl_typeOfN
 have mC:=rl_methodComparable
 have cN:=rl_comparableN
 have eE:=eq_errno
 go_enter Tryz.func44,Tryz.ntmps44
 go_wp2
 refine wp_loop_rounds 1 ?_
 rw [rounds_succ]
 go_wp2
 go_ret
 exact ⟨rfl,Below.refl _ _⟩
set_option maxRecDepth 100000 in
set_option maxHeartbeats 4000000 in
theorem told_errno (k:Int) (w:World) (hg:ErrIn w):Calls Tryz.prog 32 #[.iface 33 (.int .i64 k)] w fun e w'=>e = .returned (.tuple #[.int .i64 k,.int .i64 (-1)])∧Below w.heap.size w w':=by
 have HG:=Lib.hid hg
 clear hg
 go_enter Tryz.func32,Tryz.ntmps32
 go_upto_region 5 with fail
 have hbe:Below w.heap.size w ((w.alloc (.cells #[.pointer none] 103)).alloc (.cells #[.int .i64 0] 33)):=((Below.refl _ w).alloc (Nat.le_refl _) _).alloc (by simp) _
 have hb5:=heap_alloc_new (w.alloc (.cells #[.pointer none] 103)) (.cells #[.int .i64 0] 33)
 rw [World.size_alloc] at hb5
 generalize ((w.alloc (.cells #[.pointer none] 103)).alloc (.cells #[.int .i64 0] 33))=W at *
 have HBE:=Lib.hid hbe
 have HB5:=Lib.hid hb5
 clear hbe hb5
 go_upto_region 7 with (go_at_call 43; refine (as_bad k w.heap.size W (HG.out.below HBE.out)).mono ?_; rintro e w1 ⟨rfl,hb1⟩)
 have hb51:=(hb1.block _ (lt_of_heap HB5.out)).trans HB5.out
 have hbw1:Below w.heap.size w w1:=HBE.out.trans (hb1.mono HBE.out.size)
 have hit:=as_hit k (w.heap.size+1) _ w1 (HG.out.below hbw1) (cell_block (i:=0) hb51) (free_block hb51)
 have HIT:=Lib.hid hit
 have HBW1:=Lib.hid hbw1
 have HB51:=Lib.hid hb51
 clear hit hbw1 hb1 hb51
 go_wp2_with (first
  | (go_at_call 43; refine HIT.out.mono ?_; rintro e w2 ⟨rfl,w3,hb3,rfl⟩; have hb53:=(hb3.block _ (lt_of_heap HB51.out)).trans HB51.out; have cE:(w3.setCell ⟨w.heap.size+1,0,none⟩ (.int .i64 k)).cell? ⟨w.heap.size+1,0,none⟩=some (.int .i64 k):=World.cell?_setCell_same' _ _ _ (by rw [cell_block hb53]; rfl); have HB3:=Lib.hid hb3; clear hb3 hb53)
  | (go_at_call 44; refine (is_self k _).mono ?_; rintro e w4 ⟨rfl,hb4⟩; have cE4:=(hb4.cell (p:=⟨w.heap.size+1,0,none⟩) (lt_of_cell cE)).trans cE; have HB4:=Lib.hid hb4; clear hb4))
 go_ret2
 have h1:Below w.heap.size w w3:=HBW1.out.trans (HB3.out.mono HBW1.out.size)
 have h2:Below w.heap.size w (w3.setCell ⟨w.heap.size+1,0,none⟩ (.int .i64 k)):=h1.setCell (p:=⟨w.heap.size+1,0,none⟩) (by simp) _
 exact ⟨rfl,h2.trans (HB4.out.mono h2.size)⟩
end Go.Proofs.Ts
