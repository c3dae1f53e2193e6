/- Lemmas towards the statement Written of termsearch: walks of the program's functions and plain laws on lists (TlSimple, TlWritten, TlWrittenLift, TlWrittenFacts). Conditions: those that each theorem names. -/
import Derived.Test.YtffjomnnkilhgaaGreatDoorWrittenPA
import Derived.Test.YtffjomnnkilhgaaGreatDoorWrittenPH
import Derived.Test.YtffjomnnkilhgaaGreatDoorWrittenPF
import Derived.Test.YtffjomnnkilhgaaGreatDoorWrittenPE
import Derived.Laws.Tables
import Derived.Test.YtffjomnnkilhgaaGreatDoorWrittenPI
import Derived.ChangeMaps5
import Derived.Test.YtffjomnnkilhgaaGreatDoorRows
import Derived.JoinedCond
set_option linter.unusedVariables false
set_option linter.unusedSimpArgs false
set_option linter.unusedSectionVars false
namespace Go.Proofs.Tl
open Go Go.RowKit Go.Proofs.Ts
theorem ints_new {w:World} {g:Nat} {L:List Int} {cs:Array Value} (hc:cs=(L.map i64V).toArray) (h:w.heap[g]?=some (.cells cs 3 (0,0))) (hl:L.length≤100):IntsOf w (sL g L.length L.length) L:=by
 subst hc
 refine ⟨by simp,.inr ⟨g,L.length,_,rfl,Nat.zero_le _,h,Nat.le_refl _,by unfold maxLen; omega,by simp,by simp [List.take_of_length_le]⟩⟩
end Go.Proofs.Tl
namespace Go.Proofs.Tl
open Go Go.RowKit Go.Proofs.Ts
theorem steps_more (w0:World) (v kv qv:Value) (ops:List OpE) (ks qs:List Int)
  (hmore:∀ o∈ops,o.Fits→o.kind∈ks → ∀ n wb W,n≤65536→Plays n W wb (PlayEnv w0 v kv qv ops ks qs) →
   Calls Tryz.prog 13 #[ptrV wb,opV o] W fun e w'=>e = .returned (.bool true)∧Plays (n+1) w' wb (PlayEnv w0 v kv qv ops ks qs)) :
  ∀ o∈ops,playB ks qs o=true→o.docs.length≤65536 → ∀ n wb W,n≤65536→Plays n W wb (PlayEnv w0 v kv qv ops ks qs) →
   Calls Tryz.prog 13 #[ptrV wb,opV o] W fun e w'=>e = .returned (.bool true)∧Plays (n+1) w' wb (PlayEnv w0 v kv qv ops ks qs):=by
 intro o ho hp hd n wb W hn hP
 obtain ⟨i,hi,he⟩:=List.getElem_of_mem ho
 have hsc:∀ W,PlayEnv w0 v kv qv ops ks qs W→StrsIs W o.dv o.docs∧o.Fits:=fun W hW=>by
  obtain ⟨a,cap,_,hc⟩:=hW.script
  obtain ⟨_,h2,h3,_⟩:=hc i hi
  rw [he] at h2 h3
  exact ⟨h2,h3⟩
 have hf:=(hsc W hP.env).2
 have hin:o.kind=1∨o.kind=10∨o.kind=11∨o.kind∈ks:=by
  unfold playB inB at hp
  rw [Bool.and_eq_true,Bool.or_eq_true,Bool.or_eq_true,Bool.or_eq_true,beq_iff_eq,beq_iff_eq,beq_iff_eq,List.any_eq_true] at hp
  rcases hp.1 with ((h | h) | h) | ⟨k,hk,h⟩
  ·exact .inl h
  ·exact .inr (.inl h)
  ·exact .inr (.inr (.inl h))
  ·rw [beq_iff_eq] at h
   exact .inr (.inr (.inr (h ▸ hk)))
 rcases hin with h | h | h | h
 ·exact step_build o h n wb _ W hP (by omega) (fun W hW=>⟨hW.env,(hsc W hW).1⟩) (by omega)
 ·exact (step_mark o hf (.inl h) n wb _ W hP (by omega)).mono fun e w' ⟨h1,h2⟩=>⟨h1,h2.mono (by omega)⟩
 ·exact (step_mark o hf (.inr h) n wb _ W hP (by omega)).mono fun e w' ⟨h1,h2⟩=>⟨h1,h2.mono (by omega)⟩
 ·exact hmore o ho hf h n wb W hn hP
set_option maxRecDepth 100000 in
set_option maxHeartbeats 4000000 in
theorem written_any (ops:List OpE) (v:Value) (w:World) (hE:EnvOk w) (hS:ScriptIs w v ops) (hl:Tame ops.length) :
  Calls Tryz.prog 5 #[v] w fun e w'=>e = .returned (.bool true)∧Below w.heap.size w w':=by
 have hb:=(Below.refl w.heap.size w).alloc (Nat.le_refl _) (.cells #[iV 2] 3)
 have hpe:PlayEnv (w.alloc (.cells #[iV 2] 3)) v (sL w.heap.size 1 1) (.slice none 0 0) ops [2] [] (w.alloc (.cells #[iV 2] 3)) :=
  ⟨Below.refl _ _,hE.kept hb.block,hS.cells fun b j u hu=>(hb.cell (p:=(aD b j)) (lt_of_cell hu)).trans hu,ints_new (L:=[2]) rfl (heap_alloc_new w _) (by decide),World.ownsRow_nil _ _ _ _⟩
 have hpl:=plays_law ops [2] [] v _ _ _ hpe hl (by decide) (by decide) (steps_more _ _ _ _ _ _ _ fun o _ hf hk n wb W hn hP=>step_bytes o hf (by simpa using hk) n wb _ W hP (by omega))
 have HPL:=Lib.hid hpl
 have HB:=Lib.hid hb
 obtain ⟨a,cap,rfl,_⟩:=hS
 clear hpl hpe hb hE
 go_enter Tryz.func5,Tryz.ntmps5
 go_wp2_with (go_at_call 11; refine HPL.mono ?_; rintro e w1 ⟨rfl,hb1⟩; have HB1:=Lib.hid hb1; clear hb1)
 go_ret
 exact ⟨rfl,HB.trans (HB1.mono HB.size)⟩
end Go.Proofs.Tl
namespace Go.Proofs.YtffjomnnkilhgaaGreatDoor.written
open Go Go.ChangeShapes Go.ChangeMaps Go.WideShapes Go.ChangeAt Go.RowKit
theorem reads (os:Os) {H:Type} (enc:TypeId × Value→H):(DataW.whole enc Tryz.prog ((card.laidWorldL os).forCall (fun _ _=>0) ⟨#[],#[.slice none 0 0],[]⟩).memory Tryz.f5.params.toList Rows.writtenSpec.vars false #[Value.slice none 0 0].toList 8).isSome=true:=by kernel_rfl
set_option maxRecDepth 100000 in
theorem contract (H:Type) (enc:TypeId × Value→H) (W:World) (base:Nat) (args:Array Value) (ds gs:List (DataW H)) (before:List MemPlace)
  (hval:∀ (j:Nat) t v,Tryz.f5.params[j]?=some t→args[j]?=some v→Value.okWide Tryz.prog W .any base t v)
  (hW:DataW.Whole enc Tryz.prog Tryz.f5.params.toList Rows.writtenSpec.vars false W args.toList ds gs before)
  (vt:List TypeId) (hwt:(DataW.weightsEach Tryz.prog (Tryz.f5.params.toList++vt) (ds++gs)).all (· ≤ reachBytes)=true) (hE:Tl.EnvOk W) :
  Calls Tryz.prog 5 args W fun e W'=>∃ v,e = .returned v∧Rows.writtenSpec.post enc Tryz.prog Tryz.f5 false true false false W args v W':=by
 have hW':=hW
 obtain ⟨p,q,hA0,hV,rfl,_,_⟩:=hW
 have hA:DataW.TrodAll enc Tryz.prog W 0 (fun _=>true) true Tryz.f5.params.toList args.toList ds p:=hA0
 rw [Tryz.params5] at hA hval hwt
 obtain ⟨v0,d0,rfl,rfl,h0⟩:=trodAll_one hA
 obtain ⟨rfl,rfl⟩:=trodVars_none hV
 have hsl:=okWide_slice Tryz.underlying22 (hval 0 22 v0 rfl rfl)
 have h0k:=h0
 have hw0:∀ n∈d0.weights Tryz.prog 22,n≤reachBytes:=fun n hn=>by
  rw [List.all_eq_true] at hwt
  have:=hwt n (DataW.weights_mem_each (j:=0) rfl rfl n hn)
  simpa using this
 obtain ⟨ops,hops,hol⟩:=card.script_is h0 hsl hw0
 clear hA0
 simp only [List.append_nil] at hW'
 have hlt:∀ x∈p,x.block < W.heap.size:=fun x hx=>by simpa using hW'.lt x hx
 refine (Tl.written_any ops v0 W hE hops hol).mono ?_
 rintro e W' ⟨rfl,hb⟩
 refine ⟨_,rfl,_,_,_,[],p,[],hW',?_,?_,rfl,hb.frame _,fun h=>by cases h⟩
 ·exact trodAll_mk1 (shut_bool Tryz.underlying4 true)
 ·exact trodAll_mk1 (Below.trod card.laidOut (by kernel_rfl) (of_decide_eq_true (by kernel_rfl)) h0k hb hlt)
set_option maxRecDepth 100000 in
theorem lifted (os:Os) (started:os.Started) (H:Type) (enc:TypeId × Value→H) (F:Stop.Interp) :
  ReturnsInHanded {} Tryz.checked os 5 .any ((OpenSpec.ofChange Rows.writtenSpec).preRow enc Tryz.prog Tryz.f5 Rows.writtenRow.domain false Rows.writtenRow.laid) (((OpenSpec.ofChange Rows.writtenSpec).at F).post enc Tryz.prog Tryz.f5 false true false false):=by
 obtain ⟨x,hx⟩:=Option.isSome_iff_exists.1 (reads os enc)
 refine returnsInHanded_of_row (C:=Tryz.checked) (s:=OpenSpec.ofChange Rows.writtenSpec) card.own started (by kernel_rfl) Tryz.func5
  (witness_row_at (enc:=enc) (C:=Tryz.checked) false (card.laidWorldL os) #[.slice none 0 0] rfl (by kernel_rfl) (by kernel_rfl) (by kernel_rfl)
   (OpenSpec.preRow_of_cond 8 hx rfl (fun k hk=>by cases hk) (by kernel_rfl) (card.laid_metL os _))) ?_
 intro W base args ds gs before hval hW _ _ hwt hL hSh _
 exact contract H enc W base args ds gs before hval hW _ hwt ⟨⟨card.err_in hL (List.mem_filter.2 ⟨.tail _ (.tail _ (.head _)),by kernel_rfl⟩),card.shaped_err hSh⟩,card.bits_in hL hSh (List.mem_filter.2 ⟨.head _,by kernel_rfl⟩),
  card.tabs_in hL hSh (List.mem_filter.2 ⟨.tail _ (.tail _ (.tail _ (.tail _ (.head _)))),by kernel_rfl⟩) (List.mem_filter.2 ⟨.tail _ (.head _),by kernel_rfl⟩)⟩
end Go.Proofs.YtffjomnnkilhgaaGreatDoor.written
namespace Go.Proofs.YtffjomnnkilhgaaGreatDoor.written
open Go Go.ChangeShapes Go.ChangeMaps Go.WideShapes Go.ChangeAt
set_option maxHeartbeats 0 in
set_option maxRecDepth 100000 in
theorem closed:joinedFacts Tryz.pinned.checked.prog 5 Tryz.f5 (OpenSpec.ofChange Rows.writtenSpec).bare Rows.writtenRow=true:=by
 unfold joinedFacts
 simp only [Bool.and_eq_true]
 and_intros
 all_goals (as_aux_lemma=>kernel_rfl)
end Go.Proofs.YtffjomnnkilhgaaGreatDoor.written
