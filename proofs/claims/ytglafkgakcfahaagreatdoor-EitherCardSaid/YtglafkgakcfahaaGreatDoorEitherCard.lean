/- Either: for every list of documents and every two patterns the call returns true, and the arguments read as they did. Conditions: the package variables that the row lists start as the program's text lays them (the card ties them); no other. -/
import Derived.Test.YtglafkgakcfahaaGreatDoorEitherPS
import Derived.Test.YtglafkgakcfahaaGreatDoorEitherPT
import Derived.ChangeMaps5
set_option linter.unusedVariables false
set_option linter.unusedSimpArgs false
set_option linter.unusedSectionVars false
namespace Go.Proofs.YtglafkgakcfahaaGreatDoor.either
open Go Go.ChangeShapes Go.ChangeMaps Go.WideShapes Go.ChangeAt Go.RowKit
theorem reads (os:Os) {H:Type} (enc:TypeId × Value→H):(DataW.whole enc Tryz.prog ((card.laidWorld os).forCall (fun _ _=>0) ⟨#[],#[.slice none 0 0,.string ⟨#[]⟩,.string ⟨#[]⟩],[]⟩).memory Tryz.f5.params.toList Rows.eitherSpec.vars false #[Value.slice none 0 0,.string ⟨#[]⟩,.string ⟨#[]⟩].toList 8).isSome=true:=by kernel_rfl
set_option maxRecDepth 100000 in
theorem contract (H:Type) (enc:TypeId × Value→H) (W:World) (base:Nat) (args:Array Value) (ds gs:List (DataW H)) (before:List MemPlace)
  (hval:∀ (j:Nat) t v,Tryz.f5.params[j]?=some t→args[j]?=some v→Value.okWide Tryz.prog W .any base t v)
  (hW:DataW.Whole enc Tryz.prog Tryz.f5.params.toList Rows.eitherSpec.vars false W args.toList ds gs before) (hwt:(DataW.weightsEach Tryz.prog (Tryz.f5.params.toList++Rows.eitherSpec.plain.varTypes Tryz.prog) (ds++gs)).all (· ≤ reachBytes)=true) (hT:Ts.BitTab W) (hE:Ts.ErrIn W) :
  Calls Tryz.prog 5 args W fun e W'=>∃ v,e = .returned v∧Rows.eitherSpec.post enc Tryz.prog Tryz.f5 false true false false W args v W':=by
 have hW':=hW
 obtain ⟨p,q,hA0,hV,rfl,_,_⟩:=hW
 have hA:DataW.TrodAll enc Tryz.prog W 0 (fun _=>true) true Tryz.f5.params.toList args.toList ds p:=hA0
 rw [Tryz.params5] at hA hval
 obtain ⟨v0,v1,v2,d0,d1,d2,p0,p1,p2,rfl,rfl,rfl,h0,h1,h2⟩:=trodAll_three hA
 obtain ⟨rfl,rfl⟩:=trodVars_none hV
 obtain ⟨a0,len,cap,rfl⟩:=okWide_slice Tryz.underlying22 (hval 0 22 v0 rfl rfl)
 have h0k:=h0
 obtain ⟨docs,hdocs,hdl⟩:=card.strs_is h0
 obtain ⟨s,rfl,rfl,rfl,ws⟩:=open_string Tryz.underlying9 (hval 1 9 v1 rfl rfl) h1
 obtain ⟨s2,rfl,rfl,rfl,ws2⟩:=open_string Tryz.underlying9 (hval 2 9 v2 rfl rfl) h2
 clear hA0
 simp only [List.append_nil] at hW' hwt
 have hlt:∀ x∈p0,x.block < W.heap.size:=fun x hx=>by simpa using hW'.lt x hx
 have z1:s.size < 2 ^ 47:=by
  have:=sized_string hwt (j:=1) (t:=9) (bytes:=s.data.toList) (by rw [Tryz.params5]; rfl) rfl
  have k:=reachBytes_lt
  simp only [Array.length_toList,ByteArray.size_data] at this
  omega
 have z2:s2.size < 2 ^ 47:=by
  have:=sized_string hwt (j:=2) (t:=9) (bytes:=s2.data.toList) (by rw [Tryz.params5]; rfl) rfl
  have k:=reachBytes_lt
  simp only [Array.length_toList,ByteArray.size_data] at this
  omega
 have hw64:wrap64 ((s.size:Int)+(s2.size:Int))=(s.size:Int)+(s2.size:Int):=IntWalk.wrap64_in _ (by omega)
 clear z1 z2
 refine (Ts.either_any docs s s2 _ W hT hE hdocs (Nat.le_trans hdl (of_decide_eq_true (by kernel_rfl))) hw64).mono ?_
 rintro e W' ⟨rfl,hb⟩
 refine ⟨_,rfl,_,_,_,[],p0++([]++[]),[],hW',?_,?_,rfl,hb.frame _,fun h=>by cases h⟩
 ·exact trodAll_mk1 (shut_bool Tryz.underlying4 true)
 ·exact trodAll_mk3 (Below.trod card.laidOut (by kernel_rfl) (of_decide_eq_true (by kernel_rfl)) h0k hb hlt) (shut_string Tryz.underlying9 ws) (shut_string Tryz.underlying9 ws2)
set_option maxRecDepth 100000 in
theorem lifted (os:Os) (started:os.Started) (H:Type) (enc:TypeId × Value→H) (F:Stop.Interp) :
  ReturnsInHanded {} Tryz.checked os 5 .any ((OpenSpec.ofChange Rows.eitherSpec).preRow enc Tryz.prog Tryz.f5 Rows.eitherRow.domain false Rows.eitherRow.laid) (((OpenSpec.ofChange Rows.eitherSpec).at F).post enc Tryz.prog Tryz.f5 false true false false):=by
 obtain ⟨x,hx⟩:=Option.isSome_iff_exists.1 (reads os enc)
 refine returnsInHanded_of_row (C:=Tryz.checked) (s:=OpenSpec.ofChange Rows.eitherSpec) card.own started (by kernel_rfl) Tryz.func5
  (witness_row_at (enc:=enc) (C:=Tryz.checked) false (card.laidWorld os) #[.slice none 0 0,.string ⟨#[]⟩,.string ⟨#[]⟩] rfl (by kernel_rfl) (by kernel_rfl) (by kernel_rfl)
   (OpenSpec.preRow_of_cond 8 hx rfl (fun k hk=>by cases hk) (by kernel_rfl) (card.laid_met os _))) ?_
 intro W base args ds gs before hval hW _ _ hwt hL hSh _
 exact contract H enc W base args ds gs before hval hW hwt (card.bits_in hL hSh (List.mem_filter.2 ⟨.head _,by kernel_rfl⟩)) (card.err_in hL (List.mem_filter.2 ⟨.tail _ (.tail _ (.head _)),by kernel_rfl⟩))
theorem said:Rows.EitherSaid :=
 OpenClaim.holds_of_cond 5 Tryz.f5 rfl rfl rfl rfl rfl rfl rfl ⟨rfl,rfl,rfl,rfl,rfl⟩ rfl rfl rfl rfl rfl (by kernel_rfl) Tryz.func5 (by kernel_rfl)
  (of_decide_eq_true (by kernel_rfl)) (by unfold Func.isWrapper; first | (rw [if_pos (by decide +kernel)]; kernel_rfl) | (rw [if_neg (by decide +kernel)]; exact ⟨rfl,rfl⟩))
  (fun os started H enc _ F=>by rw [OpenClaim.pre_eq_preRow]; exact lifted os started H enc F)
theorem plain (f : FuncId) (fn : Func) (hf : Tryz.pinned.checked.prog.funcNamed "termsearch/termsearchkeep.Either" = some f) (hfn : Tryz.pinned.checked.prog.funcs[f]? = some fn) :
  true=Tryz.pinned.checked.prog.looks [] ∧ ∀ (j:Nat) t,fn.params[j]?=some t→Tryz.pinned.checked.prog.wantsStandIn t=false:=by
 obtain rfl : f = 5 := Option.some.inj ((show Tryz.prog.funcNamed "termsearch/termsearchkeep.Either" = some 5 by kernel_rfl).symm.trans hf) |>.symm
 obtain rfl:fn=Tryz.f5:=(Option.some.inj (Tryz.func5.symm.trans hfn)).symm
 refine ⟨by kernel_rfl,fun j t ht=>?_⟩
 rw [Tryz.params5] at ht
 have hm:=Array.mem_of_getElem? ht
 simp only [List.mem_toArray,List.mem_cons,List.not_mem_nil,or_false] at hm
 rcases hm with rfl | rfl | rfl
 ·exact (show Tryz.prog.wantsStandIn 22=false by kernel_rfl)
 ·exact (show Tryz.prog.wantsStandIn 9=false by kernel_rfl)
 ·exact (show Tryz.prog.wantsStandIn 9=false by kernel_rfl)
theorem proved:Rows.EitherCardSaid :=
 Claim7.holds_tied_plain_at .later [] _ _ _ _ said (fun _ h=>by cases h) (by kernel_rfl) (fun _ h=>by cases h) either_row_tie rfl ⟨rfl,rfl⟩ (by kernel_rfl) rfl plain (by kernel_rfl)
end Go.Proofs.YtglafkgakcfahaaGreatDoor.either
