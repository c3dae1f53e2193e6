/- Lemmas towards the statement Alike of termsearch: walks of the program's functions and plain laws on lists (TsMachine, TsCompileX, TsEsc, TsWildP, TsWalkB, TsOverB, TsBetP, TsGoes). Conditions: those that each theorem names. -/
import Derived.Test.YtglafkgakcfahaaGreatDoorAlikePK
import Derived.Test.YtglafkgakcfahaaGreatDoorAlikePP
import Derived.Test.YtglafkgakcfahaaGreatDoorAlikePL
import Derived.Test.YtglafkgakcfahaaGreatDoorAlikePF
import Derived.Test.YtglafkgakcfahaaGreatDoorAlikePM
import Derived.Test.YtglafkgakcfahaaGreatDoorAlikePG
set_option linter.unusedVariables false
set_option linter.unusedSimpArgs false
set_option linter.unusedSectionVars false
namespace Go.Proofs.Ts
open Go Go.RowKit
def MachErr (w w':World) (ev:Value):Mach→Prop
 | .fault i=>∃ b,w.heap.size≤b∧ev = .iface 103 (ptrV b)∧w'.heap[b]?=some (.cells #[.int .i64 6,.int .i64 i] 108 (0,0))
 | .big=>ev = .iface 33 (.int .i64 9)
 | .ok _ _=>ev = .nilIface
def MachEnd (w:World) (P:Parsed) (most:Nat) (e:Ending) (w':World):Prop :=
 Below w.heap.size w w' ∧ ∃ r mv n ev,MachOf P most r∧e = .returned (.tuple #[mv,.int .i64 n,ev])∧MachErr w w' ev r ∧
  ((∃ x c,r = .ok x c∧n=(c:Int) ∧ ∃ mb,w.heap.size≤mb∧mv=ptrV mb∧MachIs w' mb (PM.compile x))∨((∀ x c,r ≠ .ok x c)∧n=0∧mv = .pointer none))
set_option maxRecDepth 100000 in
set_option maxHeartbeats 4000000 in
theorem machine_rx (a b:ByteArray) (n:Int) (most:Nat) (w:World) (ha:a.size≤1000000) (hT:BitTab w) (h1:1≤most) (h4:most≤400) :
  Calls Tryz.prog 48 #[.agg #[.int .i64 5,.string a,.string b,.int .i64 n],.int .i64 most] w (MachEnd w (parseP a) most):=by
 obtain ⟨P,hP⟩:∃ P,P=parseP a:=⟨_,rfl⟩
 have HP:=Lib.hid hP
 have HT:=Lib.hid hT
 rw [← hP]
 clear hP hT
 go_enter Tryz.func48,Tryz.ntmps48
 go_wp2_with fail
 obtain ⟨W,hW⟩:∃ W,W=w.alloc (.cells #[.int .i64 5,.string a,.string b,.int .i64 n] 37):=⟨_,rfl⟩
 have hbW:Below w.heap.size w W:=by rw [hW]; exact (Below.refl _ w).alloc (Nat.le_refl _) _
 rw [← hW]
 have HW:=Lib.hid hbW
 clear hW hbW
 refine (parse_any a W ha).mono ?_
 rw [← HP.out]
 rintro e w2 ⟨hb2,he2⟩
 have H2:=Lib.hid (HW.out.trans (hb2.mono HW.out.size))
 clear hb2
 cases P with
 | fault i =>
  obtain ⟨b2,hbl,rfl,hbb⟩:=he2
  have HBB:=Lib.hid (And.intro (Nat.le_trans HW.out.size hbl) hbb)
  clear hbl hbb
  unfold ptrV
  go_wp2_with fail
  go_ret3
  exact ⟨H2.out,.fault i,_,_,_,rfl,rfl,⟨b2,HBB.out.1,rfl,HBB.out.2⟩,.inr ⟨fun _ _ h=>(by cases h),rfl,rfl⟩⟩
 | big =>
  have he2':e=_:=he2
  subst he2'
  go_wp2_with fail
  go_ret3
  exact ⟨H2.out,.big,_,_,_,.inl rfl,rfl,rfl,.inr ⟨fun _ _ h=>(by cases h),rfl,rfl⟩⟩
 | ok x =>
  have he2':e=_:=he2
  subst he2'
  have hxo:=parseP_okS HP.out.symm
  have hxc:=parseP_count HP.out.symm
  have HX:=Lib.hid (And.intro hxo hxc)
  clear hxo hxc
  obtain ⟨xv,hxv⟩:∃ xv,xv=x.val:=⟨_,rfl⟩
  rw [← hxv]
  have HXV:=Lib.hid hxv
  clear hxv
  go_wp2_with fail
  rw [HXV.out]
  refine (compileP_any x HX.out.1 HX.out.2 w2 (HT.out.below H2.out)).mono ?_
  rintro e w3 ⟨rfl,hm3,hb3⟩
  have H3:=Lib.hid (And.intro hm3 (H2.out.trans (hb3.mono H2.out.size)))
  obtain ⟨mb,hmb⟩:∃ mb,mb=w2.heap.size:=⟨_,rfl⟩
  rw [← hmb] at H3 ⊢
  have HMB:=Lib.hid (show w.heap.size≤mb by rw [hmb]; exact H2.out.size)
  clear hm3 hb3 hmb
  unfold ptrV
  go_wp2_with fail
  have hcall:=table_any mb most (PM.compile x) w3 H3.out.1 (compile_fit x HX.out.2) (HT.out.below H3.out.2) h1 h4
  unfold ptrV at hcall
  refine hcall.mono ?_
  clear hcall
  rintro e w4 ⟨hb4,hres⟩
  have H4:=Lib.hid (And.intro (H3.out.1.below hb4) (H3.out.2.trans (hb4.mono H3.out.2.size)))
  clear hb4
  rcases hres with ⟨rfl,hwide⟩ | ⟨tb,L,ib,sv,ov,kv,rbs,sets,rows,rfl,hok,hall,hlen,hmem⟩
  ·go_wp2_with fail
   go_ret3
   exact ⟨H4.out.2,.big,_,_,_,.inr ⟨x,rfl,hwide⟩,rfl,rfl,.inr ⟨fun _ _ h=>(by cases h),rfl,rfl⟩⟩
  ·have HTB:=Lib.hid (And.intro hok (And.intro hall (And.intro hlen hmem)))
   clear hok hall hlen hmem
   unfold ptrV
   go_wp2_with fail
   have hcall:=least_any mb tb ib w3.heap.size (PM.compile x) L sv ov kv rbs sets rows w4 H4.out.1 (compile_fit x HX.out.2) HTB.out.1 HTB.out.2.1 (Nat.le_trans HTB.out.2.2.1 h4) HTB.out.2.2.2
   unfold ptrV at hcall
   refine hcall.mono ?_
   clear hcall
   rintro e w5 ⟨c,rfl,hl,hb5⟩
   have H5:=Lib.hid (And.intro hl (And.intro (H4.out.1.below hb5) (H4.out.2.trans (hb5.mono H4.out.2.size))))
   clear hl hb5
   go_wp2_with fail
   go_ret3
   refine ⟨H5.out.2.2,.ok x c,_,_,_,⟨rfl,⟨sets,fun s hs=>HTB.out.1.all HTB.out.2.1 hs,HTB.out.2.2.1⟩,H5.out.1⟩,rfl,rfl,.inl ⟨x,c,rfl,rfl,mb,HMB.out,rfl,H5.out.2.1⟩⟩
end Go.Proofs.Ts
namespace Go.Proofs.Ts
open Go Go.RowKit
def RxPlan (w:World) (w':World) (pb:Nat):Mach→Prop
 | .ok x _=>∃ ab mb,w'.heap[pb]?=some (.cells #[.func (.func 169) #[] #[ptrV ab],.nilIface] 165 (0,0)) ∧
  w'.heap[ab]?=some (.cells #[.iface 115 (ptrV mb)] 354 (0,0))∧MachIs w' mb (PM.compile x)
 | .big=>w'.heap[pb]?=some (.cells #[.nilFunc,.iface 33 (.int .i64 9)] 165 (0,0))
 | .fault i=>∃ b,w'.heap[pb]?=some (.cells #[.nilFunc,.iface 103 (ptrV b)] 165 (0,0))∧w'.heap[b]?=some (.cells #[.int .i64 6,.int .i64 i] 108 (0,0))
set_option maxRecDepth 100000 in
set_option maxHeartbeats 4000000 in
theorem compile_rx (a b:ByteArray) (n:Int) (st:Nat) (w:World) (ha:a.size≤40) (hT:BitTab w) (h1:1≤st) (h4:st≤400) :
  Calls Tryz.prog 102 #[queryV 5 a b n,.int .i64 st] w fun e w'=>∃ pb r,e = .returned (ptrV pb)∧Below w.heap.size w w'∧w.heap.size≤pb∧MachOf (parseP a) st r∧RxPlan w w' pb r:=by
 have g1:decide ((40:Int) < (a.size:Int))=false:=by simp; omega
 have HT:=Lib.hid hT
 clear hT
 unfold queryV
 go_enter Tryz.func102,Tryz.ntmps102
 go_wp2_with fail
 obtain ⟨W,hW⟩:∃ W,W=w.alloc (.cells #[.int .i64 5,.string a,.string b,.int .i64 n] 37):=⟨_,rfl⟩
 have hbW:Below w.heap.size w W:=by rw [hW]; exact (Below.refl _ w).alloc (Nat.le_refl _) _
 rw [← hW]
 have HW:=Lib.hid hbW
 clear hW hbW
 refine (machine_rx a b n st W (by omega) (HT.out.below HW.out) h1 h4).mono ?_
 rintro e w2 ⟨hb2,r,mv,nn,ev,hr,rfl,hev,hend⟩
 have hbw:=HW.out.trans (hb2.mono HW.out.size)
 have H2:=Lib.hid (And.intro hbw hr)
 clear hb2 hr hbw
 cases r with
 | ok x c =>
  rcases hend with ⟨x',c',hx,rfl,mb,hmb,rfl,hm⟩ | ⟨hno,_⟩
  ·cases hx
   have hev':ev=_:=hev
   subst hev'
   have HM:=Lib.hid hm
   clear hm hmb hev
   unfold ptrV
   go_wp2_with (go_at_call 142; refine (S.over_make _ _ ⟨_,_,rfl⟩).mono ?_; rintro e w3 ⟨rfl,rfl⟩; unfold ptrV)
   go_ret
   have hall:Below w2.heap.size w2 ((w2.alloc (.cells #[.iface 115 (ptrV mb)] 354)).alloc (.cells #[.func (.func 169) #[] #[ptrV w2.heap.size],.nilIface] 165)):=((Below.refl _ w2).alloc (Nat.le_refl _) _).alloc (by simp) _
   refine ⟨w2.heap.size+1,.ok x c,?_,H2.out.1.trans (hall.mono H2.out.1.size),Nat.le_succ_of_le H2.out.1.size,H2.out.2,w2.heap.size,mb,?_,?_,HM.out.below hall⟩
   ·rfl
   ·have:=heap_alloc_new (w2.alloc (.cells #[.iface 115 (ptrV mb)] 354)) (.cells #[.func (.func 169) #[] #[ptrV w2.heap.size],.nilIface] 165)
    rw [World.size_alloc] at this
    exact this
   ·rw [Below.heap_alloc _ _ _ (by simp)]
    exact heap_alloc_new w2 _
  ·exact absurd rfl (hno x c)
 | big =>
  rcases hend with ⟨x',c',hx,_⟩ | ⟨_,rfl,rfl⟩
  ·cases hx
  ·have hev':ev=_:=hev
   subst hev'
   clear hev
   go_wp2_with fail
   go_ret
   exact ⟨w2.heap.size,.big,rfl,H2.out.1.alloc H2.out.1.size _,H2.out.1.size,H2.out.2,heap_alloc_new w2 _⟩
 | fault i =>
  rcases hend with ⟨x',c',hx,_⟩ | ⟨_,rfl,rfl⟩
  ·cases hx
  ·obtain ⟨b2,hb2,rfl,hbb⟩:=hev
   have HBB:=Lib.hid hbb
   clear hbb hb2
   unfold ptrV
   go_wp2_with fail
   go_ret
   refine ⟨w2.heap.size,.fault i,rfl,H2.out.1.alloc H2.out.1.size _,H2.out.1.size,H2.out.2,b2,heap_alloc_new w2 _,?_⟩
   rw [Below.heap_alloc _ _ _ (lt_of_heap HBB.out)]
   exact HBB.out
end Go.Proofs.Ts
namespace Go.Proofs.Ts
open Go Go.RowKit
def trail (l:List UInt8):Nat→Nat
 | 0=>0
 | m+1=>if l[m]?=some 92 then trail l m+1 else 0
set_option maxRecDepth 100000 in
set_option maxHeartbeats 1000000 in
theorem esc_any (s:ByteArray) (w:World) (hs:s.size≤1000000) :
  Calls Tryz.prog 123 #[.string s] w fun e w'=>e = .returned (.bool (decide (trail s.data.toList s.size % 2=0)))∧Same w w':=by
 go_enter Tryz.func123,Tryz.ntmps123
 go_wp2
 go_loopw [3] (fun i wr=>∃ k:Nat,k≤s.size∧i = .int .i64 k∧Hid (trail s.data.toList s.size=k+trail s.data.toList (s.size - k))∧Same w wr) (fun i _=>s.size - (intOf i).toNat)
 case atStart=>exact ⟨0,Nat.zero_le _,rfl,Lib.hid (by simp),Same.refl _⟩
 case round =>
  obtain ⟨k,hk,rfl,HT,hS⟩:=hrel
  have hend:trail s.data.toList (s.size - k)=0→decide (trail s.data.toList s.size % 2=0)=((k:Int) % 2 == 0):=fun h=>by
   rw [HT.out,h,Nat.add_zero,Bool.eq_iff_iff,decide_eq_true_eq,beq_iff_eq]
   omega
  by_cases hlt:k < s.size
  ·have q1:IntKind.i64.wrap ((s.size:Int) - 1)=((s.size - 1:Nat):Int):=by rw [IntWalk.i64_in _ (by omega)]; omega
   have q2:IntKind.i64.wrap (((s.size - 1:Nat):Int) - (k:Int))=((s.size - 1 - k:Nat):Int):=by rw [IntWalk.i64_in _ (by omega)]; omega
   have q3:s.size - 1 - k < s.size:=by omega
   have hat:=at_str s (s.size - 1 - k) q3
   have e1:s.size - k=(s.size - 1 - k)+1:=by omega
   by_cases h92:s[s.size - 1 - k]=92
   ·have q5:((s[s.size - 1 - k]).toNat:Int)=92:=by rw [h92]; rfl
    have hn:Hid (trail s.data.toList s.size=(k+1)+trail s.data.toList (s.size - (k+1))):=Lib.hid (by
     rw [HT.out,e1]
     show k+(if s.data.toList[s.size - 1 - k]?=some 92 then _ else _)=_
     rw [hat,if_pos (by rw [h92])]
     have e2:s.size - (k+1)=s.size - 1 - k:=by omega
     rw [e2]
     omega)
    clear hat hend
    go_wp2
    exact ⟨⟨k+1,by omega,by go_num,hn,hS⟩,by simp [intOf]; omega⟩
   ·have q5:(((s[s.size - 1 - k]).toNat:Int) == 92)=false:=beq_eq_false_iff_ne.2 fun h=>h92 (UInt8.toNat_inj.1 (by show _=92; omega))
    have hn:trail s.data.toList (s.size - k)=0:=by
     rw [e1]
     show (if s.data.toList[s.size - 1 - k]?=some 92 then _ else _)=_
     rw [hat,if_neg (fun h=>h92 (Option.some.inj h))]
    have hn':=Lib.hid (hend hn)
    clear hat hend hn
    go_wp2
    go_ret
    exact ⟨ret_bool hn'.out.symm,hS⟩
  ·obtain rfl:k=s.size:=by omega
   have hn:trail s.data.toList (s.size - s.size)=0:=by rw [Nat.sub_self]; rfl
   have hn':=Lib.hid (hend hn)
   clear hend hn
   go_wp2
   go_ret
   exact ⟨ret_bool hn'.out.symm,hS⟩
end Go.Proofs.Ts
namespace Go.Proofs.Ts
open Go
def allB:BSet:=BSet.zero.add 0 255
def oneB (c:UInt8):BSet:=BSet.zero.add c.toNat c.toNat
def wildFrom (s:ByteArray):Nat→Ast→Nat→Parsed
 | 0,x,_ => .ok x
 | f+1,x,i=>match s.data.toList[i]? with
  | none => .ok x
  | some c =>
   if c=42 then wildFrom s f (x.join (.many (.one allB) false)) (i+1)
   else if c=63 then wildFrom s f (x.join (.one allB)) (i+1)
   else if c=92 then match s.data.toList[i+1]? with
    | none => .fault (i+1)
    | some d=>wildFrom s f (x.join (.one (oneB d))) (i+2)
   else wildFrom s f (x.join (.one (oneB c))) (i+1)
def wildP (s:ByteArray):Parsed:=wildFrom s (s.size+1) .empty 0
section
variable {s:ByteArray} {f i:Nat} {x:Ast} {c d:UInt8}
theorem wild_end (h:s.data.toList[i]?=none):wildFrom s (f+1) x i = .ok x:=by simp only [wildFrom,h]
theorem wild_star (h:s.data.toList[i]?=some c) (hc:c=42):wildFrom s (f+1) x i=wildFrom s f (x.join (.many (.one allB) false)) (i+1):=by simp only [wildFrom,h,if_pos hc]
theorem wild_any' (h:s.data.toList[i]?=some c) (h1:¬ c=42) (hc:c=63):wildFrom s (f+1) x i=wildFrom s f (x.join (.one allB)) (i+1):=by simp only [wildFrom,h,if_neg h1,if_pos hc]
theorem wild_bad (h:s.data.toList[i]?=some c) (h1:¬ c=42) (h2:¬ c=63) (hc:c=92) (hd:s.data.toList[i+1]?=none):wildFrom s (f+1) x i = .fault (i+1):=by simp only [wildFrom,h,if_neg h1,if_neg h2,if_pos hc,hd]
theorem wild_esc (h:s.data.toList[i]?=some c) (h1:¬ c=42) (h2:¬ c=63) (hc:c=92) (hd:s.data.toList[i+1]?=some d):wildFrom s (f+1) x i=wildFrom s f (x.join (.one (oneB d))) (i+2):=by simp only [wildFrom,h,if_neg h1,if_neg h2,if_pos hc,hd]
theorem wild_one (h:s.data.toList[i]?=some c) (h1:¬ c=42) (h2:¬ c=63) (h3:¬ c=92):wildFrom s (f+1) x i=wildFrom s f (x.join (.one (oneB c))) (i+1):=by simp only [wildFrom,h,if_neg h1,if_neg h2,if_neg h3]
end
/-! ### What is read is a pattern of few places. -/
theorem join_count (a b:Ast):(a.join b).count=a.count+b.count:=by
 cases a <;> cases b <;> simp [Ast.join,Ast.count]
theorem wildFrom_ok (s:ByteArray):∀ (f:Nat) (x:Ast) (i:Nat) (y:Ast),x.ok→wildFrom s f x i = .ok y→y.ok∧y.count≤x.count+f
 | 0,x,i,y,hx,h=>by cases h; exact ⟨hx,Nat.le_refl _⟩
 | f+1,x,i,y,hx,h=>by
  have hone:∀ (z:BSet) (j:Nat),z.ok→wildFrom s f (x.join (.one z)) j = .ok y→y.ok∧y.count≤x.count+(f+1):=fun z j hz hw=>by
   obtain ⟨h1,h2⟩:=wildFrom_ok s f _ j y (Ast.ok_join hx (show (Ast.one z).ok from hz)) hw
   rw [join_count] at h2
   exact ⟨h1,by have:(Ast.one z).count=1:=rfl; omega⟩
  have hob:∀ c:UInt8,(oneB c).ok:=fun c=>BSet.ok_add BSet.ok_zero _ _
  have hal:allB.ok:=BSet.ok_add BSet.ok_zero _ _
  unfold wildFrom at h
  split at h
  ·cases h; exact ⟨hx,by omega⟩
  ·split at h
   ·obtain ⟨h1,h2⟩:=wildFrom_ok s f _ _ y (Ast.ok_join hx (show (Ast.many (.one allB) false).ok from hal)) h
    rw [join_count] at h2
    exact ⟨h1,by have:(Ast.many (.one allB) false).count=1:=rfl; omega⟩
   ·split at h
    ·exact hone _ _ hal h
    ·split at h
     ·split at h
      ·cases h
      ·exact hone _ _ (hob _) h
     ·exact hone _ _ (hob _) h
theorem wildP_ok {s:ByteArray} {y:Ast} (h:wildP s = .ok y):y.ok∧y.count≤s.size+1:=by
 have:=wildFrom_ok s (s.size+1) .empty 0 y ok_empty h
 exact ⟨this.1,by have:=this.2; have e:Ast.empty.count=0:=rfl; omega⟩
theorem trail_plain {l:List UInt8} {i:Nat} {c:UInt8} (h:l[i]?=some c) (hc:c≠92):trail l (i+1)=0:=by
 show (if l[i]?=some 92 then _ else _)=_
 rw [if_neg (by rw [h]; exact fun e=>hc (Option.some.inj e))]
theorem trail_back {l:List UInt8} {i:Nat} (h:l[i]?=some 92):trail l (i+1)=trail l i+1:=by
 show (if l[i]?=some 92 then _ else _)=_
 rw [if_pos h]
theorem trail_take (l:List UInt8) (n:Nat):∀ i,i≤n→trail (l.take n) i=trail l i
 | 0,_=>rfl
 | m+1,h=>by
  show (if (l.take n)[m]?=some 92 then _ else _)=(if l[m]?=some 92 then _ else _)
  rw [List.getElem?_take_of_lt (by omega),trail_take l n m (by omega)]
theorem trail_cut (s:ByteArray) (i:Nat) (h:i≤s.size):trail (s.extract 0 i).data.toList (s.extract 0 i).size=trail s.data.toList i:=by
 have e1:(s.extract 0 i).data.toList=s.data.toList.take i:=by
  simp [ByteArray.data_extract]
 have e2:(s.extract 0 i).size=i:=by
  rw [ByteArray.size_extract]
  omega
 rw [e1,e2,trail_take _ _ _ (Nat.le_refl _)]
end Go.Proofs.Ts
namespace Go.Proofs.Ts.B
open Go Go.RowKit Go.Proofs.Ts
variable {σ:Type} {ec:σ→Array Value}
def cellsN:Nat:=2
theorem cells_info:(Tryz.prog.info? 313).map (·.size)=some cellsN:=by kernel_rfl
structure AutI (ec:σ→Array Value) (H:World→Prop) (iv:Value) (ok:σ→Prop) (step:σ→UInt8→Option σ) (ends:σ→Bool):Prop where
 ex : ∃ T v fE fT rE rT, iv = .iface T v ∧ (∀ fu w, (method (fu + 1) T v "Ends").run Tryz.prog w = .ok (fE, rE) w) ∧ (∀ fu w, (method (fu + 1) T v "Step").run Tryz.prog w = .ok (fT, rT) w) ∧
  (∀ args w,(callFunc fE args).run Tryz.prog w = .ok (.enter fE args) w)∧(∀ args w,(callFunc fT args).run Tryz.prog w = .ok (.enter fT args) w) ∧
  (∀ s w,H w→ok s→Calls Tryz.prog fE #[rE,.agg (ec s)] w fun e w'=>e = .returned (.bool (ends s))∧Below w.heap.size w w') ∧
  ∀ s c w,H w→ok s→Calls Tryz.prog fT #[rT,.agg (ec s),.int .u8 (UInt8.toNat c)] w fun e w'=>(∃ t:σ,e = .returned (.tuple #[.agg (ec t),.bool (step s c).isSome])∧(ec t).size=cellsN∧(ec t).all (·.oneCell')=true ∧ ∀ u,step s c=some u→t=u)∧Below w.heap.size w w'
 next:∀ s c t,ok s→step s c=some t→ok t
 keep:∀ w w',H w→KeepG w w'→H w'
 size:∀ s,ok s→(ec s).size=cellsN
structure WM (V:Value) (D:List DS) (db:Nat) (iv yf:Value) (bd ba by' bw:Nat) (w:World):Prop where
 dct:w.heap[db]?=some (.cells #[V] 148 (0,0))
 rows:RowsIn 0 w V D
 bxd:w.heap[bd]?=some (.cells #[ptrV db] 85 (0,0))
 bxa:w.heap[ba]?=some (.cells #[iv] 347 (0,0))
 bxy:w.heap[by']?=some (.cells #[yf] 127 (0,0))
 bxw:w.heap[bw]?=some (.cells #[.func (.func 168) #[] #[ptrV bd,ptrV ba,ptrV by',ptrV bw]] 348 (0,0))
theorem WM.kept {V:Value} {D:List DS} {db:Nat} {iv yf:Value} {bd ba by' bw n:Nat} {w w':World} {v:Value} {xs:List Value} (h:WM V D db iv yf bd ba by' bw w) (hr:w.ownsRow 0 5 1 v n xs) (hk:KeepB v w w'):WM V D db iv yf bd ba by' bw w':=by
 have ne:∀ (k:Nat) cs t r,w.heap[k]?=some (.cells cs t r)→t≠5→v.ownBlock≠some k:=fun k cs t r h1 h2 e=>by
  rcases hr.2 with ⟨rfl,_⟩ | ⟨g,cap,cur,rfl,_,hg,_⟩
  ·cases e
  ·cases e
   rw [hg] at h1
   cases h1
   exact h2 rfl
 have go:∀ (k:Nat) cs t r,w.heap[k]?=some (.cells cs t r)→leansOn t=true→t≠5→w'.heap[k]?=some (.cells cs t r):=fun k cs t r h1 h2 h3=>(hk.2 k cs t r h1 h2 (ne k cs t r h1 h3)).trans h1
 have gr:∀ {e size n:Nat} {u:Value} {ys:List Value},leansOn e=true→e≠5→w.ownsRow 0 e size u n ys→w'.ownsRow 0 e size u n ys:=fun h1 h2 h3=>ownsRow_typed h3 fun k cs r h4=>(go k cs _ r h4 h1 h2).trans h4.symm
 exact ⟨go _ _ _ _ h.dct (by decide) (by decide),⟨gr (by decide) (by decide) h.rows.row,h.rows.past,fun i s hi=>gr (by decide) (by decide) (h.rows.erow i s hi),h.rows.epast,h.rows.apart,h.rows.apartV⟩,go _ _ _ _ h.bxd (by decide) (by decide),go _ _ _ _ h.bxa (by decide) (by decide),go _ _ _ _ h.bxy (by decide) (by decide),go _ _ _ _ h.bxw (by decide) (by decide)⟩
structure WAt (V:Value) (D:List DS) (db:Nat) (iv yf:Value) (bd ba by' bw B:Nat) (p:List UInt8) (pv:Value) (J:List (List UInt8 × Nat)→World→Prop) (w0:World) (ys:List (List UInt8 × Nat)) (w:World):Prop where
 wm:WM V D db iv yf bd ba by' bw w
 row:w.ownsRow 0 5 1 pv p.length (bytesV p)
 keep:KeepB pv w0 w
 j:J ys w
 size:B≤w.heap.size
theorem WAt.same {V:Value} {D:List DS} {db:Nat} {iv yf:Value} {bd ba by' bw B:Nat} {p:List UInt8} {pv:Value} {J:List (List UInt8 × Nat)→World→Prop} {w0:World} {ys:List (List UInt8 × Nat)} {w w':World} (h:WAt V D db iv yf bd ba by' bw B p pv J w0 ys w)
  (hJ:∀ ys w w',J ys w→StepsB B w w'→J ys w') (hS:Same w w'):WAt V D db iv yf bd ba by' bw B p pv J w0 ys w' :=
 ⟨h.wm.kept h.row ((KeepT.same hS).toB pv),(KeepT.same hS).row (by decide) h.row,h.keep.trans ((KeepT.same hS).toB pv),hJ _ _ _ h.j (StepsB.same hS),by rw [hS.heap]; exact h.size⟩
theorem WAt.below {V:Value} {D:List DS} {db:Nat} {iv yf:Value} {bd ba by' bw B:Nat} {p:List UInt8} {pv:Value} {J:List (List UInt8 × Nat)→World→Prop} {w0:World} {ys:List (List UInt8 × Nat)} {w w':World} (h:WAt V D db iv yf bd ba by' bw B p pv J w0 ys w)
  (hJ:∀ ys w w',J ys w→StepsB B w w'→J ys w') (hS:Below w.heap.size w w'):WAt V D db iv yf bd ba by' bw B p pv J w0 ys w' :=
 ⟨h.wm.kept h.row ((KeepT.below hS).toB pv),(KeepT.below hS).row (by decide) h.row,h.keep.trans ((KeepT.below hS).toB pv),hJ _ _ _ h.j (StepsB.below hS),Nat.le_trans h.size hS.size⟩
theorem WAt.alloc {V:Value} {D:List DS} {db:Nat} {iv yf:Value} {bd ba by' bw B:Nat} {p:List UInt8} {pv:Value} {J:List (List UInt8 × Nat)→World→Prop} {w0:World} {ys:List (List UInt8 × Nat)} {w:World} (h:WAt V D db iv yf bd ba by' bw B p pv J w0 ys w)
  (hJ:∀ ys w w',J ys w→StepsB B w w'→J ys w') (o:Obj):WAt V D db iv yf bd ba by' bw B p pv J w0 ys (w.alloc o) :=
 ⟨h.wm.kept h.row ((KeepT.alloc w o).toB pv),(KeepT.alloc w o).row (by decide) h.row,h.keep.trans ((KeepT.alloc w o).toB pv),hJ _ _ _ h.j (StepsB.alloc B w o),by have:=h.size; simp; omega⟩
theorem WAt.yields {V:Value} {D:List DS} {db:Nat} {iv yf:Value} {bd ba by' bw B:Nat} {p:List UInt8} {pv:Value} {J J':List (List UInt8 × Nat)→World→Prop} {w0:World} {ys ys':List (List UInt8 × Nat)} {w w':World} (h:WAt V D db iv yf bd ba by' bw B p pv J w0 ys w)
  (hK:KeepT w w') (hj:J' ys' w'):WAt V D db iv yf bd ba by' bw B p pv J' w0 ys' w' :=
 ⟨h.wm.kept h.row (hK.toB pv),hK.row (by decide) h.row,h.keep.trans (hK.toB pv),hj,Nat.le_trans h.size hK.1⟩
section
variable {V:Value} {D:List DS} {db:Nat} {iv yf:Value} {bd ba by' bw B:Nat} {p:List UInt8} {pv pv':Value} {J J':List (List UInt8 × Nat)→World→Prop} {w0:World} {ys ys':List (List UInt8 × Nat)} {Wb Wc W4 W5:World} {c:UInt8}
theorem WAt.grow (h:WAt V D db iv yf bd ba by' bw B p pv J w0 ys Wb) (hJ:∀ ys w w',J ys w→StepsB B w w'→J ys w') (hp:Past B pv) (hmv:Moves Wb pv W4 pv') (hrow4:W4.ownsRow 0 5 1 pv' (p.length+1) (bytesV p++[.int .u8 c.toNat])) :
  WM V D db iv yf bd ba by' bw W4∧W4.ownsRow 0 5 1 pv' (p++[c]).length (bytesV (p++[c]))∧Past B pv'∧B≤W4.heap.size∧J ys W4:=by
 refine ⟨h.wm.kept h.row (KeepB.moves hmv),?_,hmv.past hp h.size,Nat.le_trans h.size hmv.size,hJ _ _ _ h.j (StepsB.moves hmv h.row hp)⟩
 rw [List.length_append,List.length_singleton]
 unfold bytesV at *
 rw [List.map_append]
 exact hrow4
theorem WAt.back (h:WAt V D db iv yf bd ba by' bw B p pv J w0 ys Wb) (hmv:Moves Wb pv W4 pv') (hcs:Wb.heap.size≤Wc.heap.size) (hold:∀ k,k < Wb.heap.size→Wc.heap[k]?=Wb.heap[k]?) (hl:Lies Wc W4 pv pv') (hel:Elder 5 1 pv pv' p.length (bytesV p))
  (hwm4:WM V D db iv yf bd ba by' bw W4) (hrow4:W4.ownsRow 0 5 1 pv' (p++[c]).length (bytesV (p++[c]))) (hk5:KeepB pv' W4 W5) (hrow5:W5.ownsRow 0 5 1 pv' (p++[c]).length (bytesV (p++[c]))) (hj5:J' ys' W5) :
  WAt V D db iv yf bd ba by' bw B p pv J' w0 ys' W5:=by
 refine ⟨hwm4.kept hrow4 hk5,?_,⟨Nat.le_trans h.keep.1 (Nat.le_trans hmv.size hk5.1),fun k cs t r h1 h2 h3=>?_⟩,hj5,Nat.le_trans h.size (Nat.le_trans hmv.size hk5.1)⟩
 ·rcases hl with ⟨hb,_⟩ | ⟨hb,hg,_⟩
  ·refine hel W5 1 [.int .u8 c.toNat] hb ?_
   unfold bytesV at *
   rw [List.length_append,List.map_append] at hrow5
   exact hrow5
  ·have hne:∀ g,pv.ownBlock=some g→pv'.ownBlock≠some g:=fun g e e'=>by
    rw [hb] at e'
    have:=Option.some.inj e'
    have:=(h.row.lt g e).2
    omega
   refine ownsRow_typed h.row fun k cs r hk=>?_
   have hkl:=(Array.getElem?_eq_some_iff.1 hk).1
   have h4:W4.heap[k]?=Wb.heap[k]?:=(hg.block k (by omega) (by simp)).trans (hold k hkl)
   refine (hk5.2 k cs _ r (h4.trans hk) (by decide) fun e=>?_).trans h4
   rw [hb] at e
   have:=Option.some.inj e
   omega
 ·have hb0:=h.keep.2 k cs t r h1 h2 h3
  have hkl:k < Wb.heap.size:=(Array.getElem?_eq_some_iff.1 (hb0.trans h1)).1
  have h4:W4.heap[k]?=Wb.heap[k]?:=hmv.block hkl h3
  refine ((hk5.2 k cs t r (h4.trans (hb0.trans h1)) h2 fun e=>?_).trans h4).trans hb0
  rcases hmv.lies with hb | ⟨g,hb,hg⟩
  ·exact h3 (hb ▸ e)
  ·rw [hb] at e
   have:=Option.some.inj e
   omega
end
set_option maxRecDepth 100000 in
set_option maxHeartbeats 4000000 in
theorem walk_any {V:Value} {D:List DS} {db:Nat} {R:Nat→Prop} {Λ:Nat→List Word} {ρ:Nat→Nat} {iv:Value} {H:World→Prop} {ok:σ→Prop} {step:σ→UInt8→Option σ} {ends:σ→Bool} (hA:AutI ec H iv ok step ends)
  (hD:∀ i,R i → ∃ s,D[i]?=some s∧Asc s.edges∧s.below=(Λ i).length∧Λ i=wordsAt s.final s.edges Λ ∧ ∀ e∈s.edges,R e.2∧ρ e.2 < ρ i)
  (g:Nat) (lb:Array Value) (eg:∀ args w,(callFunc g args).run Tryz.prog w = .ok (.enter g args) w) (bd ba by' bw B:Nat) (J Jx:List (List UInt8 × Nat)→World→Prop) (F:List (List UInt8 × Nat))
  (hJ:∀ ys w w',J ys w→StepsB B w w'→J ys w')
  (hY:∀ ys t i w,J ys w→ys++[(t,i)] <+: F→Calls Tryz.prog g (#[strV t,intV i]++lb) w fun e w'=>KeepT w w'∧((e = .returned (.bool true)∧J (ys++[(t,i)]) w')∨(e = .returned (.bool false)∧Jx (ys++[(t,i)]) w'))) :
  ∀ (r k:Nat) (s:σ) (p:List UInt8) (pv:Value) (n:Nat) (ys:List (List UInt8 × Nat)) (w:World),ρ k < r→R k→ok s→WM V D db iv (.func (.func g) #[] lb) bd ba by' bw w →
   w.ownsRow 0 5 1 pv p.length (bytesV p)→Past B pv→B≤w.heap.size→H w→p.length+ρ k≤1000000→n+(Λ k).length≤1000000→J ys w →
   ys++pre p (hits (accA step ends s) (Λ k) n) <+: F →
  Calls Tryz.prog 168 #[intV k,.agg (ec s),pv,intV n,ptrV bd,ptrV ba,ptrV by',ptrV bw] w fun e w' =>
   KeepB pv w w'∧w'.ownsRow 0 5 1 pv p.length (bytesV p)∧w.heap.size≤w'.heap.size ∧
   ((e = .returned (.bool true)∧J (ys++pre p (hits (accA step ends s) (Λ k) n)) w')∨(e = .returned (.bool false) ∧ ∃ zs,zs <+: F∧Jx zs w')):=by
 obtain ⟨T,v,fE,fT,rE,rT,rfl,hmE,hmT,eE,eT,hcE,hcT⟩:=hA.ex
 intro r
 induction r using Nat.strongRecOn with
 | _ r ih =>
  intro k s p pv n ys w0 hr hRk hok hwm0 hrow0 hpast hB0 hH0 hp hn hj0 hF
  have IH:=Lib.hid ih
  have HD:=Lib.hid hD
  have HJ:=Lib.hid hJ
  have HY:=Lib.hid hY
  have HCE:=Lib.hid hcE
  have HCT:=Lib.hid hcT
  have HF:=Lib.hid hF
  have HA:=Lib.hid hA
  have HWM0:=Lib.hid hwm0
  have HROWZ:=Lib.hid hrow0
  have HH0:=Lib.hid hH0
  have HJ0:=Lib.hid hj0
  have HPAST:=Lib.hid hpast
  have HSZ:=Lib.hid (cells_info.trans (congrArg some (hA.size s hok).symm))
  clear ih hD hJ hY hcE hcT hF hA hwm0 hH0 hj0 hpast
  obtain ⟨ap,capp,hpv⟩:=ownsRow_form hrow0
  have HPV:=Lib.hid hpv
  clear hrow0 hpv
  unfold intV ptrV at *
  go_enter Tryz.func168,Tryz.ntmps168
  go_upto_region 1 with fail
  have hpre:KeepB pv w0 (w0.alloc (.cells (ec s) 313)):=(KeepT.alloc _ _).toB pv
  have hwm:=HWM0.out.kept HROWZ.out hpre
  have hrow:=(KeepT.alloc w0 (.cells (ec s) 313)).row (by decide) HROWZ.out
  have hB:B≤(w0.alloc (.cells (ec s) 313)).heap.size:=by simp; omega
  have hH:=HA.out.keep _ _ HH0.out (KeepT.alloc w0 (.cells (ec s) 313)).g
  have hj:=HJ.out _ _ _ HJ0.out (StepsB.alloc B w0 (.cells (ec s) 313))
  have hsb:(w0.alloc (.cells (ec s) 313)).heap[w0.heap.size]?=some (.cells (ec s) 313 (0,0)):=heap_alloc_new _ _
  generalize (w0.alloc (.cells (ec s) 313))=w at *
  have HPRZ:=Lib.hid hpre
  have HROW0:=Lib.hid hrow
  have HWM:=Lib.hid hwm
  have HH:=Lib.hid hH
  have HK:Hid (∀ wz,KeepG w wz→H wz):=Lib.hid fun wz hk=>HA.out.keep w wz HH.out hk
  have HSB:Hid (∀ wz,KeepG w wz→wz.heap[w0.heap.size]?=some (.cells (ec s) 313 (0,0))):=Lib.hid fun wz hk=>(hk _ _ _ _ hsb (by decide) (by decide)).trans hsb
  have HSB0:=Lib.hid hsb
  clear hwm hH hpre hsb HJ0 HH0 HWM0
  obtain ⟨sd,hsd,hasc,hbel,hwords,hedges⟩:=HD.out k hRk
  obtain ⟨gV,capV,hV,q0,q1,q2,qf1,qf2⟩:=HWM.out.rows.cells hsd
  have hkl:=(List.getElem?_eq_some_iff.1 hsd).1
  have c0:w.cell? ⟨bd,0,none⟩=some (.pointer (some ⟨db,0,none⟩)):=cell_block HWM.out.bxd
  have c1:w.cell? ⟨db,0,none⟩=some (.slice (some ⟨gV,0,none⟩) D.length capV):=by rw [← hV]; exact cell_block HWM.out.dct
  have c2:w.cell? ⟨ba,0,none⟩=some (.iface T v):=cell_block HWM.out.bxa
  have c3:w.cell? ⟨by',0,none⟩=some (.func (.func g) #[] lb):=cell_block HWM.out.bxy
  have c4:w.cell? ⟨bw,0,none⟩=some (.func (.func 168) #[] #[ptrV bd,ptrV ba,ptrV by',ptrV bw]):=cell_block HWM.out.bxw
  have z1:(0:Int)≤(k:Int)∧(k:Int) < (D.length:Int):=by omega
  have HV:=Lib.hid hV
  have HSD:=Lib.hid hsd
  have HBEL:=Lib.hid hbel
  have HWORDS:=Lib.hid hwords
  have HEDGES:=Lib.hid hedges
  clear hV hsd hbel hwords hedges
  have hat:WAt V D db (.iface T v) (.func (.func g) #[] lb) bd ba by' bw B p pv J w ys w:=⟨HWM.out,hrow,KeepB.refl _ _,hj,hB⟩
  have HAT:=Lib.hid hat
  have hP0:=partOf_zero step ends Λ sd.final sd.edges s p n
  have HP0:=Lib.hid hP0
  clear hat hrow hj hP0
  unfold ptrV at *
  obtain ⟨n1,hn1⟩:∃ n1:Nat,n1=n+(if sd.final then 1 else 0):=⟨_,rfl⟩
  have HN1:=Lib.hid hn1
  clear hn1
  go_upto_if 24 with (fail)
  go_cut [3] (fun n3 wy=>n3 = .int .i64 (n1:Int)∧Hid (WAt V D db (.iface T v) (.func (.func g) #[] lb) bd ba by' bw B p pv J w (ys++partOf step ends Λ sd.final sd.edges s p n 0) wy))
  case first =>
   cases hf:sd.final with
   | true =>
    cases he:ends s with
    | true =>
     have hp1:partOf step ends Λ sd.final sd.edges s p n 0=[(p,n)]:=by rw [HP0.out,hf,he]; rfl
     have hpre:ys++[(p,n)] <+: F:=by
      have h1:=HF.out
      rw [HWORDS.out,← partOf_all] at h1
      have h2:=partOf_prefix step ends Λ sd.final sd.edges s p n 0 (Nat.zero_le _)
      rw [hp1] at h2
      exact ((List.prefix_append_right_inj ys).2 h2).trans h1
     have HPRE:=Lib.hid hpre
     have HP1:=Lib.hid hp1
     clear hpre hp1
     go_wp2_with (refine wpList_load_row rfl 313 (.tmp 9) rfl w0.heap.size rfl _ _ (0,0) _ HSB0.out Tryz.underlying313 rfl HSZ.out ?_)
     refine (HCE.out s w HH.out hok).mono ?_
     rintro e w1 ⟨rfl,hS1⟩
     have hat1:=HAT.out.below HJ.out hS1
     have hcb:=conv_back hat1.row
     have c31:w1.cell? ⟨by',0,none⟩=some (.func (.func g) #[] lb):=cell_block hat1.wm.bxy
     have HAT1:=Lib.hid hat1
     rw [he]
     clear hat1 hS1 c0 c1 c2 c3 c4 q0 q1 q2 qf1 qf2
     go_wp2_with fail
     have hy:=HY.out ys p n w1 HAT1.out.j HPRE.out
     unfold strV at hy
     refine hy.mono ?_
     rintro e w2 ⟨hk2,⟨rfl,hj2⟩ | ⟨rfl,hj2⟩⟩
     ·have hat2:=HAT1.out.yields (J':=J) hk2 hj2
      rw [← HP1.out] at hat2
      have HAT2:=Lib.hid hat2
      clear hat2 hk2 hj2
      go_wp2_with fail
      go_meet
      exact ⟨by rw [HN1.out,hf]; rfl,HAT2⟩
     ·have hat2:=HAT1.out.yields (J':=Jx) hk2 hj2
      have HAT2:=Lib.hid hat2
      clear hat2 hk2 hj2
      go_wp2_with fail
      go_ret
      exact ⟨HPRZ.out.trans HAT2.out.keep,HAT2.out.row,Nat.le_trans HPRZ.out.1 HAT2.out.keep.1,.inr ⟨rfl,_,HPRE.out,HAT2.out.j⟩⟩
    | false =>
     have hp1:partOf step ends Λ sd.final sd.edges s p n 0=[]:=by rw [HP0.out,hf,he]; rfl
     have HP1:=Lib.hid hp1
     clear hp1
     go_wp2_with (refine wpList_load_row rfl 313 (.tmp 9) rfl w0.heap.size rfl _ _ (0,0) _ HSB0.out Tryz.underlying313 rfl HSZ.out ?_)
     refine (HCE.out s w HH.out hok).mono ?_
     rintro e w1 ⟨rfl,hS1⟩
     have HAT1:=Lib.hid (HAT.out.below HJ.out hS1)
     rw [he]
     clear hS1 c0 c1 c2 c3 c4 q0 q1 q2 qf1 qf2
     go_wp2_with fail
     go_meet
     exact ⟨by rw [HN1.out,hf]; rfl,Lib.hid (by rw [HP1.out,List.append_nil]; exact HAT1.out)⟩
   | false =>
    have hp1:partOf step ends Λ sd.final sd.edges s p n 0=[]:=by rw [HP0.out,hf]; rfl
    have HP1:=Lib.hid hp1
    clear hp1
    go_wp2_with fail
    go_meet
    exact ⟨by rw [HN1.out,hf]; rfl,Lib.hid (by rw [HP1.out,List.append_nil]; exact HAT.out)⟩
  case rest =>
   obtain ⟨rfl,HAT0⟩:=hcut
   clear c0 c1 c2 c3 c4 q0 q1 q2 qf1 qf2 HAT HWM HP0
   have srow:=HAT0.out.wm.rows.erow k _ HSD.out
   obtain ⟨a5,cap5,hv5⟩:=ownsRow_form srow
   obtain ⟨gV',capV',hV',q0,q1,q2,qf1,qf2⟩:=HAT0.out.wm.rows.cells HSD.out
   rw [HV.out] at hV'
   cases hV'
   rw [hv5] at q1
   have c0:wc.cell? ⟨bd,0,none⟩=some (.pointer (some ⟨db,0,none⟩)):=cell_block HAT0.out.wm.bxd
   have c1:wc.cell? ⟨db,0,none⟩=some (.slice (some ⟨gV,0,none⟩) D.length capV):=by rw [← HV.out]; exact cell_block HAT0.out.wm.dct
   have hwl:(if sd.final then 1 else 0)+(edgeWords Λ sd.edges).length=(Λ k).length:=by
    rw [HWORDS.out]
    unfold wordsAt edgeWords
    rw [List.length_append]
    congr 1
    split <;> rfl
   have HV5:=Lib.hid hv5
   have HWL:=Lib.hid hwl
   have hel:sd.edges.length≤256:=asc_few hasc
   clear srow hv5 hwl
   go_wp2_with fail
   clear c0 c1 q0 q1 q2 qf1 qf2
   go_loopw [3,47] (fun n3 i wz=>∃ j:Nat,j≤sd.edges.length∧i = .int .i64 j∧n3 = .int .i64 ((n1+(edgeWords Λ (sd.edges.take j)).length:Nat):Int) ∧
    Hid (WAt V D db (.iface T v) (.func (.func g) #[] lb) bd ba by' bw B p pv J w (ys++partOf step ends Λ sd.final sd.edges s p n j) wz)) (fun _ i _=>sd.edges.length - (intOf i).toNat)
   case atStart=>exact ⟨0,Nat.zero_le _,rfl,by simp [edgeWords],HAT0⟩
   case round =>
    obtain ⟨j,hj,rfl,rfl,HAT⟩:=hrel
    by_cases hjl:j < sd.edges.length
    ·obtain ⟨ch,t,hct⟩:∃ ch t,sd.edges[j]?=some (ch,t):=⟨_,_,List.getElem?_eq_getElem hjl⟩
     obtain ⟨g1,cap1',e1,ek0,ek1⟩:=HAT.out.wm.rows.edgeCells HSD.out hct
     rw [HV5.out] at e1
     simp only [Value.slice.injEq] at e1
     obtain ⟨rfl,_,rfl⟩:=e1
     obtain ⟨hRt,hρt⟩:=HEDGES.out (ch,t) (List.mem_of_getElem? hct)
     simp only at hRt hρt ek0 ek1
     unfold intV at ek1
     obtain ⟨sd2,hsd2,_,hbel2,_⟩:=HD.out t hRt
     have hps:=partOf_succ step ends Λ sd.final sd.edges s p n j hct
     have hew:edgeWords Λ (sd.edges.take (j+1))=edgeWords Λ (sd.edges.take j)++(Λ t).map (ch :: ·):=by
      have he:sd.edges[j]=(ch,t):=(List.getElem?_eq_some_iff.1 hct).2
      rw [List.take_succ_eq_append_getElem hjl,he,edgeWords_snoc]
     have hewl:(edgeWords Λ (sd.edges.take (j+1))).length=(edgeWords Λ (sd.edges.take j)).length+(Λ t).length:=by rw [hew]; simp
     have hewle:=edgeWords_le Λ sd.edges (j+1)
     have hnb:n1+(edgeWords Λ (sd.edges.take j)).length+(Λ t).length≤1000000:=by
      have h1:=HN1.out
      have h2:=HWL.out
      omega
     obtain ⟨ew,hewj⟩:∃ ew,ew=(edgeWords Λ (sd.edges.take j)).length:=⟨_,rfl⟩
     rw [← hewj] at hnb hewl ⊢
     have HEWJ:=Lib.hid hewj
     have HEWL:=Lib.hid hewl
     have HPS:=Lib.hid hps
     have HSD2:=Lib.hid hsd2
     have HBEL2:=Lib.hid hbel2
     have HCTE:=Lib.hid hct
     have c2:wr.cell? ⟨ba,0,none⟩=some (.iface T v):=cell_block HAT.out.wm.bxa
     have c2':(wr.alloc (.cells #[.int .u8 ch.toNat,.int .i64 t] 153)).cell? ⟨ba,0,none⟩=some (.iface T v):=(World.cell?_alloc_lt wr _ _ (lt_of_cell c2)).trans c2
     clear hps hew hewl hewle hewj hsd2 hbel2 hct
     have hsbr:=HSB.out _ ((HAT.out.alloc HJ.out (.cells #[.int .u8 ch.toNat,.int .i64 t] 153)).keep.g HROW0.out)
     have HSBR:=Lib.hid hsbr
     clear hsbr
     go_wp2_with (refine wpList_load_row rfl 313 (.tmp 9) rfl w0.heap.size rfl _ _ (0,0) _ HSBR.out Tryz.underlying313 rfl HSZ.out ?_)
     have hata:=HAT.out.alloc HJ.out (.cells #[.int .u8 ch.toNat,.int .i64 t] 153)
     have HATA:=Lib.hid hata
     clear hata ek0 ek1 c2 c2'
     refine (HCT.out s ch _ (HK.out _ (HATA.out.keep.g HROW0.out)) hok).mono ?_
     rintro e w1 ⟨⟨s',rfl,hsz1,hone1,hs'⟩,hS1⟩
     have HSZ1:=Lib.hid (cells_info.trans (congrArg some hsz1.symm))
     have HSZL:=Lib.hid hsz1
     have HONE:=Lib.hid hone1
     clear hsz1 hone1 HSBR
     go_upto_region 9 with (refine wpList_store_row rfl 313 (.tmp 15) (.tmp 57) rfl w1.heap.size (ec s') rfl rfl 313 _ (heap_alloc_new w1 _) HSZ1.out (by first | exact zeroRows_size.trans HSZL.out.symm | exact HSZL.out.symm) HONE.out ?_)
     rw [World.setRow_alloc_new]
     have hS2:Below (wr.alloc (.cells #[.int .u8 ch.toNat,.int .i64 t] 153)).heap.size (wr.alloc (.cells #[.int .u8 ch.toNat,.int .i64 t] 153)) (w1.alloc (.cells (ec s') 313)):=hS1.alloc hS1.size _
     have hbt:(w1.alloc (.cells (ec s') 313)).heap[w1.heap.size]?=some (.cells (ec s') 313 (0,0)):=heap_alloc_new _ _
     clear hS1
     generalize (w1.alloc (.cells (ec s') 313))=W1 at *
     generalize w1.heap.size=bt at *
     have HBT:=Lib.hid hbt
     have hbtl:=lt_of_heap hbt
     clear hbt
     have hat1:=HATA.out.below HJ.out hS2
     have heb:W1.heap[wr.heap.size]?=some (.cells #[.int .u8 ch.toNat,.int .i64 t] 153 (0,0)):=by
      exact (hS2.block _ (by simp)).trans (heap_alloc_new wr _)
     have ce0:W1.cell? ⟨wr.heap.size,0,none⟩=some (.int .u8 ch.toNat):=cell_block heb
     have ce1:W1.cell? ⟨wr.heap.size,1,none⟩=some (.int .i64 t):=cell_block heb
     have cbw:W1.cell? ⟨bw,0,none⟩=some (.func (.func 168) #[] #[ptrV bd,ptrV ba,ptrV by',ptrV bw]):=cell_block hat1.wm.bxw
     unfold ptrV at cbw
     have HAT1:=Lib.hid hat1
     have HEB:=Lib.hid heb
     clear hat1 heb HATA
     cases hst:step s ch with
     | none =>
      have hps0:=HPS.out
      rw [hst] at hps0
      simp only [List.append_nil] at hps0
      have HPS0:=Lib.hid hps0
      clear hps0 hs' hst
      refine wp_region_ord [(0,false),(1,false),(2,false),(3,false),(4,false),(5,false),(6,false),(7,false),(8,false),(11,false),(9,true),(10,true),(12,true),(13,false),(14,false)]
       (fun w'=>w'.cell? ⟨bw,0,none⟩=some (.func (.func 168) #[] #[.pointer (some ⟨bd,0,none⟩),.pointer (some ⟨ba,0,none⟩),.pointer (some ⟨by',0,none⟩),.pointer (some ⟨bw,0,none⟩)])∧w'.cell? ⟨wr.heap.size,0,none⟩=some (.int .u8 ch.toNat)∧w'.cell? ⟨wr.heap.size,1,none⟩=some (.int .i64 t)) (by kernel_rfl) (by kernel_rfl) ⟨cbw,ce0,ce1⟩ ?_
      iterate 2 (
       refine wpOrd_quiet ?_ rfl rfl (fun w' hS=>?_) ?_
       rotate_left
       ·go_simp
        first | rfl | done
       simp only [put_lit,List.set_cons_succ,List.set_cons_zero])
      iterate 8 (
       refine wpOrd_skip rfl rfl ?_
       simp only [put_lit,List.set_cons_succ,List.set_cons_zero])
      iterate 3 (
       refine wpOrd_skipT rfl rfl ?_
       simp only [put_lit,List.set_cons_succ,List.set_cons_zero])
      refine wpOrd_skip rfl rfl ?_
      simp only [put_lit,List.set_cons_succ,List.set_cons_zero]
      refine wpOrd_quiet ?_ rfl rfl (fun w' hS=>?_) ?_
      rotate_left
      ·go_simp
       first | rfl | done
      simp only [put_lit,List.set_cons_succ,List.set_cons_zero]
      refine wpOrd_nil ?_
      go_wp2_with fail
      have hatx:=HAT1.out.same HJ.out (Same.drew W1)
      rw [← HPS0.out] at hatx
      have ce1x:W1.drew.cell? ⟨wr.heap.size,1,none⟩=some (.int .i64 t):=ce1
      clear HAT1 ce0 ce1 cbw HEB
      generalize W1.drew=wx at *
      have HATX:=Lib.hid hatx
      clear hatx
      obtain ⟨gV2,capV2,hV2,_,_,p2,_,_⟩:=HATX.out.wm.rows.cells HSD2.out
      rw [HV.out] at hV2
      simp only [Value.slice.injEq,Option.some.injEq,Addr.mk.injEq] at hV2
      obtain ⟨⟨rfl,_⟩,_,rfl⟩:=hV2
      unfold intV at p2
      rw [HBEL2.out] at p2
      have d0:=cell_block (i:=0) HATX.out.wm.bxd
      have d1:=cell_block (i:=0) HATX.out.wm.dct
      rw [HV.out] at d1
      unfold ptrV at d0
      have htl:t < D.length:=(List.getElem?_eq_some_iff.1 HSD2.out).1
      have y1:(0:Int)≤(t:Int)∧(t:Int) < (D.length:Int):=by omega
      obtain ⟨ln,hln⟩:∃ ln,ln=(Λ t).length:=⟨_,rfl⟩
      rw [← hln] at p2 hnb
      have HLN:=Lib.hid hln
      have y2:IntKind.i64.wrap (((n1+ew:Nat):Int)+(ln:Int))=((n1+ew:Nat):Int)+(ln:Int):=IntWalk.i64_in _ (by omega)
      clear hln
      go_quiet (fail)
      go_wp2_with fail
      have hnx:(edgeWords Λ (sd.edges.take (j+1))).length=ew+ln:=by rw [HEWL.out,HLN.out]
      have HNX:=Lib.hid hnx
      clear hnx
      go_roundw
      case rel =>
       exact ⟨j+1,by omega,by go_num,congrArg (Value.int .i64) (by have:=HNX.out; omega),Lib.hid (HATX.out.same HJ.out (Same.drewN _ _))⟩
      case measure=>(simp [intOf]) <;> omega
     | some s2 =>
      obtain rfl:=hs' s2 hst
      have hok2:=HA.out.next s ch s' hok hst
      have hps1:partOf step ends Λ sd.final sd.edges s p n (j+1)=partOf step ends Λ sd.final sd.edges s p n j++pre (p++[ch]) (hits (accA step ends s') (Λ t) (n1+ew)):=by
       have h1:=HPS.out
       rw [hst] at h1
       simp only at h1
       rw [h1,HN1.out,HEWJ.out]
      have hpf:(ys++partOf step ends Λ sd.final sd.edges s p n j)++pre (p++[ch]) (hits (accA step ends s') (Λ t) (n1+ew)) <+: F:=by
       rw [List.append_assoc,← hps1]
       have h1:=HF.out
       rw [HWORDS.out,← partOf_all] at h1
       exact ((List.prefix_append_right_inj ys).2 (partOf_prefix step ends Λ sd.final sd.edges s p n (j+1) hjl)).trans h1
      have HPS1:=Lib.hid hps1
      have HPF:=Lib.hid hpf
      clear hps1 hpf hs' hst
      refine wp_region_ord [(0,false),(1,false),(2,false),(3,false),(4,false),(5,false),(6,false),(7,false),(8,false),(11,false),(9,true),(10,true),(12,true),(13,false),(14,false)]
       (fun w'=>w'.cell? ⟨bw,0,none⟩=some (.func (.func 168) #[] #[.pointer (some ⟨bd,0,none⟩),.pointer (some ⟨ba,0,none⟩),.pointer (some ⟨by',0,none⟩),.pointer (some ⟨bw,0,none⟩)])∧w'.cell? ⟨wr.heap.size,0,none⟩=some (.int .u8 ch.toNat)∧w'.cell? ⟨wr.heap.size,1,none⟩=some (.int .i64 t)∧w'.heap[bt]?=some (.cells (ec s') 313 (0,0))) (by kernel_rfl) (by kernel_rfl) ⟨cbw,ce0,ce1,HBT.out⟩ ?_
      iterate 5 (
       refine wpOrd_quiet ?_ rfl rfl (fun w' hS=>?_) ?_
       rotate_left
       ·obtain ⟨f0,f1,f2,_⟩:=hS
        go_simp
        first | rfl | done
       simp only [put_lit,List.set_cons_succ,List.set_cons_zero])
      refine wpOrd_row 313 (.tmp 15) bt _ _ (0,0) _ rfl rfl rfl rfl (fun w' hS=>hS.2.2.2) Tryz.underlying313 rfl HSZ1.out ?_
      simp only [put_lit,List.set_cons_succ,List.set_cons_zero]
      iterate 4 (
       refine wpOrd_quiet ?_ rfl rfl (fun w' hS=>?_) ?_
       rotate_left
       ·obtain ⟨f0,f1,f2,_⟩:=hS
        go_simp
        first | rfl | done
       simp only [put_lit,List.set_cons_succ,List.set_cons_zero])
      refine wpOrd_loud rfl rfl (by decide) (fun K5 hK5=>?_)
      go_simp
      have hbwl:=lt_of_cell cbw
      have hebl:=lt_of_cell ce0
      refine hK5 _ _ ⟨(World.cell?_alloc_lt W1 _ _ hbwl).trans cbw,(World.cell?_alloc_lt W1 _ _ hebl).trans ce0,(World.cell?_alloc_lt W1 _ _ hebl).trans ce1,(Below.heap_alloc W1 _ _ hbtl).trans HBT.out⟩ ?_
      clear hK5 K5
      refine wpOrd_loud rfl rfl (by decide) (fun K5 hK5=>?_)
      obtain ⟨i0,hi,hz0,hz1,hz2⟩:=info_parts Tryz.info5
      have hrowc:((W1.alloc (.cells #[.int .u8 ch.toNat] 5)).drew).ownsRow 0 5 1 pv p.length (bytesV p):=(HAT1.out.row.alloc _).drew
      refine wp_append_elder _ _ 61 rfl 5 i0 (.int .u8 0) 1 1 Tryz.underlying61 hi hz0 hz1 hz2 rfl (by decide) pv p.length (bytesV p) rfl hrowc ⟨W1.heap.size,0,none⟩ 1 1 [.int .u8 ch.toNat] rfl rfl (cell_one_new W1 _ _)
       (by simp [Value.oneCell']) (by decide) (by unfold maxLen; omega) (by omega) ?_
      intro pv' W4 hrow4 hgrow4 hlies4 hel4
      have hmv:Moves W1 pv W4 pv':=((Moves.alloc W1 _ _).trans (Moves.same _ (Same.drew _))).trans (Moves.append hgrow4 hlies4)
      obtain ⟨hwm4,hrow4',hp4,hB4,hj4⟩:=HAT1.out.grow HJ.out HPAST.out hmv hrow4
      have hpe:pv.ownBlock≠some wr.heap.size:=fun e=>by
       have:=(HAT.out.row.lt _ e).2
       omega
      have heb4:W4.heap[wr.heap.size]?=some (.cells #[.int .u8 ch.toNat,.int .i64 t] 153 (0,0)):=(hmv.block hebl hpe).trans HEB.out
      have cbw4:W4.cell? ⟨bw,0,none⟩=some (.func (.func 168) #[] #[ptrV bd,ptrV ba,ptrV by',ptrV bw]):=cell_block hwm4.bxw
      unfold ptrV at cbw4
      have hpbt:pv.ownBlock≠some bt:=fun e=>by
       obtain ⟨cur,hcur⟩:=ownsRow_cells4 HAT1.out.row e
       have h:=HBT.out
       rw [h] at hcur
       cases hcur
      have hbt4:W4.heap[bt]?=some (.cells (ec s') 313 (0,0)):=(hmv.block hbtl hpbt).trans HBT.out
      refine hK5 _ _ ⟨cbw4,cell_block heb4,cell_block heb4,hbt4⟩ ?_
      clear hK5 K5
      simp only [put_lit,List.set_cons_succ,List.set_cons_zero]
      refine wpOrd_loud rfl rfl (by decide) (fun K5 hK5=>?_)
      have hne4:pv'.ownBlock≠some wr.heap.size:=fun e=>by
       obtain ⟨cur,hcur⟩:=ownsRow_cells4 hrow4' e
       rw [heb4] at hcur
       cases hcur
      have hneb:pv'.ownBlock≠some bt:=fun e=>by
       obtain ⟨cur,hcur⟩:=ownsRow_cells4 hrow4' e
       rw [hbt4] at hcur
       cases hcur
      have HBT4:=Lib.hid hbt4
      have HGROW:=Lib.hid hgrow4
      have HLIES:=Lib.hid hlies4
      have HEL:=Lib.hid hel4
      have HMV:=Lib.hid hmv
      have HWM4:=Lib.hid hwm4
      have HROW4:=Lib.hid hrow4'
      have HEB4:=Lib.hid heb4
      clear hbt4 hgrow4 hlies4 hel4 hmv hrow4 hrowc heb4 cbw4 ce0 ce1 cbw
      go_simp
      have hih:=IH.out (ρ k) hr t s' (p++[ch]) pv' (n1+ew) (ys++partOf step ends Λ sd.final sd.edges s p n j) W4 hρt hRt hok2 HWM4.out HROW4.out hp4 hB4 (HK.out _ ((HAT1.out.keep.trans (KeepB.moves HMV.out)).g HROW0.out)) (by rw [List.length_append,List.length_singleton]; omega) hnb hj4 HPF.out
      have ecast:((n1+ew:Nat):Int)=(n1:Int)+(ew:Int):=by omega
      rw [ecast] at hih
      refine hih.mono ?_
      clear hih ecast
      rintro e W5 ⟨hk5,hrow5,hsz5,hres⟩
      have cbw5:∀ W,WM V D db (.iface T v) (.func (.func g) #[] lb) bd ba by' bw W→W.cell? ⟨bw,0,none⟩=some (.func (.func 168) #[] #[.pointer (some ⟨bd,0,none⟩),.pointer (some ⟨ba,0,none⟩),.pointer (some ⟨by',0,none⟩),.pointer (some ⟨bw,0,none⟩)]):=fun W h=>cell_block h.bxw
      have heb5:W5.heap[wr.heap.size]?=some (.cells #[.int .u8 ch.toNat,.int .i64 t] 153 (0,0)):=(hk5.2 _ _ _ _ HEB4.out (by decide) hne4).trans HEB4.out
      have hcs:W1.heap.size≤((W1.alloc (.cells #[.int .u8 ch.toNat] 5)).drew).heap.size:=by simp
      rcases hres with ⟨rfl,hj5⟩ | ⟨rfl,zs,hzs,hj5⟩
      ·rw [List.append_assoc,← HPS1.out] at hj5
       have hat5:=HAT1.out.back (J':=J) HMV.out hcs (fun k hk=>Below.heap_alloc W1 _ k hk) HLIES.out HEL.out HWM4.out HROW4.out hk5 hrow5 hj5
       refine hK5 _ _ ⟨cbw5 W5 hat5.wm,cell_block heb5,cell_block heb5,(hk5.2 _ _ _ _ HBT4.out (by decide) hneb).trans HBT4.out⟩ ?_
       clear hK5 K5
       have ce1x:W5.cell? ⟨wr.heap.size,1,none⟩=some (.int .i64 t):=cell_block heb5
       have HATX:=Lib.hid hat5
       clear hat5 hk5 hrow5 hsz5 hj5 cbw5 heb5 HAT1 HMV HLIES HEL HWM4 HROW4 HEB4 hj4 HGROW hwm4
       iterate 2 (
        refine wpOrd_quiet ?_ rfl rfl (fun w' hS=>?_) ?_
        rotate_left
        ·go_simp
         first | rfl | done
        simp only [put_lit,List.set_cons_succ,List.set_cons_zero])
       refine wpOrd_nil ?_
       go_wp2_with fail
       obtain ⟨gV2,capV2,hV2,_,_,p2,_,_⟩:=HATX.out.wm.rows.cells HSD2.out
       rw [HV.out] at hV2
       simp only [Value.slice.injEq,Option.some.injEq,Addr.mk.injEq] at hV2
       obtain ⟨⟨rfl,_⟩,_,rfl⟩:=hV2
       unfold intV at p2
       rw [HBEL2.out] at p2
       have d0:=cell_block (i:=0) HATX.out.wm.bxd
       have d1:=cell_block (i:=0) HATX.out.wm.dct
       rw [HV.out] at d1
       unfold ptrV at d0
       have htl:t < D.length:=(List.getElem?_eq_some_iff.1 HSD2.out).1
       have y1:(0:Int)≤(t:Int)∧(t:Int) < (D.length:Int):=by omega
       obtain ⟨ln,hln⟩:∃ ln,ln=(Λ t).length:=⟨_,rfl⟩
       rw [← hln] at p2 hnb
       have HLN:=Lib.hid hln
       have y2:IntKind.i64.wrap (((n1+ew:Nat):Int)+(ln:Int))=((n1+ew:Nat):Int)+(ln:Int):=IntWalk.i64_in _ (by omega)
       clear hln
       go_quiet (fail)
       go_wp2_with fail
       have hnx:(edgeWords Λ (sd.edges.take (j+1))).length=ew+ln:=by rw [HEWL.out,HLN.out]
       have HNX:=Lib.hid hnx
       clear hnx
       go_roundw
       case rel =>
        exact ⟨j+1,by omega,by go_num,congrArg (Value.int .i64) (by have:=HNX.out; omega),Lib.hid (HATX.out.same HJ.out (Same.drewN _ _))⟩
       case measure=>(simp [intOf]) <;> omega
      ·have hat5:=HAT1.out.back (J':=fun _ W=>Jx zs W) (ys':=[]) HMV.out hcs (fun k hk=>Below.heap_alloc W1 _ k hk) HLIES.out HEL.out HWM4.out HROW4.out hk5 hrow5 hj5
       refine hK5 _ _ ⟨cbw5 W5 hat5.wm,cell_block heb5,cell_block heb5,(hk5.2 _ _ _ _ HBT4.out (by decide) hneb).trans HBT4.out⟩ ?_
       clear hK5 K5
       have HATX:=Lib.hid hat5
       clear hat5 hk5 hrow5 hsz5 hj5 cbw5 heb5 HAT1 HMV HLIES HEL HWM4 HROW4 HEB4 hj4 HGROW hwm4
       iterate 2 (
        refine wpOrd_quiet ?_ rfl rfl (fun w' hS=>?_) ?_
        rotate_left
        ·go_simp
         first | rfl | done
        simp only [put_lit,List.set_cons_succ,List.set_cons_zero])
       refine wpOrd_nil ?_
       go_wp2_with fail
       go_ret
       exact ⟨HPRZ.out.trans HATX.out.keep,HATX.out.row,Nat.le_trans HPRZ.out.1 HATX.out.keep.1,.inr ⟨rfl,zs,hzs,HATX.out.j⟩⟩
    ·obtain rfl:j=sd.edges.length:=by omega
     have hfin:Hid (J (ys++pre p (hits (accA step ends s) (Λ k) n)) wr):=Lib.hid (by
      rw [HWORDS.out,← partOf_all]
      exact HAT.out.j)
     go_wp2_with fail
     go_ret
     exact ⟨HPRZ.out.trans HAT.out.keep,HAT.out.row,Nat.le_trans HPRZ.out.1 HAT.out.keep.1,.inl ⟨rfl,hfin.out⟩⟩
end Go.Proofs.Ts.B
namespace Go.Proofs.Ts.B
open Go Go.RowKit Go.Proofs.Ts
variable {σ:Type} {ec:σ→Array Value}
def AutS (ec : σ → Array Value) (H : World → Prop) (iv : Value) (s0 : σ) : Prop := ∃ T v fS rS, iv = .iface T v ∧ (∀ fu w, (method (fu + 1) T v "Start").run Tryz.prog w = .ok (fS, rS) w) ∧ (∀ args w, (callFunc fS args).run Tryz.prog w = .ok (.enter fS args) w) ∧
 ∀ w,H w→Calls Tryz.prog fS #[rS] w fun e w'=>e = .returned (.agg (ec s0))∧Below w.heap.size w w'
theorem over_make (iv:Value) (w:World) (hiv:∃ T v,iv = .iface T v) :
  Calls Tryz.prog 141 #[iv] w fun e w'=>e = .returned (.func (.func 167) #[] #[ptrV w.heap.size])∧w'=w.alloc (.cells #[iv] 347):=by
 have hmf:∀ (fn:Fn) (first cap:Array Value) (w:World),(Instr.makeFunc fn first cap).run Tryz.prog w = .ok (.func fn first cap) w:=fun _ _ _ _=>rfl
 obtain ⟨T,v,rfl⟩:=hiv
 go_enter Tryz.func141,Tryz.ntmps141
 go_wp2
 go_ret
 exact ⟨rfl,rfl⟩
def walkFn (bd ba by' bw:Nat):Value := .func (.func 168) #[] #[.pointer (some ⟨bd,0,none⟩),.pointer (some ⟨ba,0,none⟩),.pointer (some ⟨by',0,none⟩),.pointer (some ⟨bw,0,none⟩)]
def overStart (w:World) (db g:Nat) (lb:Array Value) (ba:Nat):World :=
 ((w.alloc (.cells #[.pointer (some ⟨db,0,none⟩)] 85)).alloc (.cells #[.func (.func g) #[] lb] 127)).alloc (.cells #[walkFn w.heap.size ba (w.heap.size+1) (w.heap.size+1+1)] 348)
theorem overStart_old (w:World) (db g:Nat) (lb:Array Value) (ba j:Nat) (h:j < w.heap.size):(overStart w db g lb ba).heap[j]?=w.heap[j]?:=by
 unfold overStart
 rw [Below.heap_alloc _ _ _ (by simp; omega),Below.heap_alloc _ _ _ (by simp; omega),Below.heap_alloc _ _ _ h]
theorem overStart_size (w:World) (db g:Nat) (lb:Array Value) (ba:Nat):(overStart w db g lb ba).heap.size=w.heap.size+3:=by unfold overStart; simp
theorem overStart_keep (w:World) (db g:Nat) (lb:Array Value) (ba:Nat):KeepT w (overStart w db g lb ba):=((KeepT.alloc _ _).trans (KeepT.alloc _ _)).trans (KeepT.alloc _ _)
theorem overStart_steps (w:World) (db g:Nat) (lb:Array Value) (ba B:Nat):StepsB B w (overStart w db g lb ba):=((StepsB.alloc _ _ _).trans (StepsB.alloc _ _ _)).trans (StepsB.alloc _ _ _)
theorem overStart_wm {w:World} {db g:Nat} {lb:Array Value} {ba:Nat} {V iv:Value} {D:List DS} (h1:w.heap[db]?=some (.cells #[V] 148 (0,0))) (h2:RowsIn 0 w V D) (h3:w.heap[ba]?=some (.cells #[iv] 347 (0,0))) :
  WM V D db iv (.func (.func g) #[] lb) w.heap.size ba (w.heap.size+1) (w.heap.size+1+1) (overStart w db g lb ba):=by
 have l1:=(Array.getElem?_eq_some_iff.1 h1).1
 have l3:=(Array.getElem?_eq_some_iff.1 h3).1
 refine ⟨(overStart_old w db g lb ba _ l1).trans h1,h2.cellsKept fun k cs t r hk _=>overStart_old w db g lb ba k (Array.getElem?_eq_some_iff.1 hk).1,?_,(overStart_old w db g lb ba _ l3).trans h3,?_,?_⟩
 ·unfold overStart
  rw [Below.heap_alloc _ _ _ (by simp; omega),Below.heap_alloc _ _ _ (by simp)]
  exact heap_alloc_new w _
 ·unfold overStart
  rw [Below.heap_alloc _ _ _ (by simp)]
  have:=heap_alloc_new (w.alloc (.cells #[.pointer (some ⟨db,0,none⟩)] 85)) (.cells #[.func (.func g) #[] lb] 127)
  simpa using this
 ·unfold overStart
  have:=heap_alloc_new ((w.alloc (.cells #[.pointer (some ⟨db,0,none⟩)] 85)).alloc (.cells #[.func (.func g) #[] lb] 127)) (.cells #[walkFn w.heap.size ba (w.heap.size+1) (w.heap.size+1+1)] 348)
  unfold walkFn at *
  unfold ptrV
  simpa using this
set_option maxRecDepth 100000 in
set_option maxHeartbeats 2000000 in
theorem over_any {db:Nat} {R:Nat→Prop} {Λ:Nat→List Word} {ρ:Nat→Nat} {D:List DS} {iv:Value} {H:World→Prop} {ok:σ→Prop} {step:σ→UInt8→Option σ} {ends:σ→Bool} {s0:σ} (hA:AutI ec H iv ok step ends) (hS0:AutS ec H iv s0) (hok0:ok s0)
  (g:Nat) (lb:Array Value) (eg:∀ args w,(callFunc g args).run Tryz.prog w = .ok (.enter g args) w) (ba:Nat) (w:World) (hH:H w) (hdi:DictIs w db R Λ ρ D) (hlen:(Λ 0).length≤1000000) (hba:w.heap[ba]?=some (.cells #[iv] 347 (0,0)))
  (J Jx:List (List UInt8 × Nat)→World→Prop) (hJ:∀ ys w1 w',J ys w1→StepsB w.heap.size w1 w'→J ys w')
  (hY:∀ ys t i w1,J ys w1→ys++[(t,i)] <+: hits (accA step ends s0) (Λ 0) 0→Calls Tryz.prog g (#[strV t,intV i]++lb) w1 fun e w'=>KeepT w1 w'∧((e = .returned (.bool true)∧J (ys++[(t,i)]) w')∨(e = .returned (.bool false)∧Jx (ys++[(t,i)]) w')))
  (hj0:J [] w) :
  Calls Tryz.prog 167 #[ptrV db,.func (.func g) #[] lb,ptrV ba] w fun e w'=>e = .returned (.tuple #[])∧KeepT w w' ∧
   (J (hits (accA step ends s0) (Λ 0) 0) w' ∨ ∃ zs,zs <+: hits (accA step ends s0) (Λ 0) 0∧Jx zs w'):=by
 have hmf:∀ (fn:Fn) (first cap:Array Value) (w:World),(Instr.makeFunc fn first cap).run Tryz.prog w = .ok (.func fn first cap) w:=fun _ _ _ _=>rfl
 obtain ⟨T,v,fS,rS,rfl,hmS,eS,hcS⟩:=hS0
 obtain ⟨V,hdct,hrows⟩:=hdi.mem
 have hbal:=(Array.getElem?_eq_some_iff.1 hba).1
 have HDI:=Lib.hid hdi
 have HROWS:=Lib.hid hrows
 have HDCT:=Lib.hid hdct
 have HBA:=Lib.hid hba
 have HJ:=Lib.hid hJ
 have HY:=Lib.hid hY
 have HCS:=Lib.hid hcS
 have HJ0:=Lib.hid hj0
 have HK:Hid (∀ wz,KeepG w wz→H wz):=Lib.hid fun wz hk=>hA.keep w wz hH hk
 clear hH hdi hrows hdct hba hJ hY hcS hj0
 unfold ptrV
 go_enter Tryz.func167,Tryz.ntmps167
 go_wp2_with fail
 have hwm:=overStart_wm (g:=g) (lb:=lb) HDCT.out HROWS.out HBA.out
 have hks:=overStart_keep w db g lb ba
 have hst:=overStart_steps w db g lb ba w.heap.size
 have hsz:=overStart_size w db g lb ba
 have hj1:=HJ.out _ _ _ HJ0.out hst
 have hW:(((w.alloc (.cells #[.pointer (some ⟨db,0,none⟩)] 85)).alloc (.cells #[.func (.func g) #[] lb] 127)).alloc (.cells #[.func (.func 168) #[] #[.pointer (some ⟨w.heap.size,0,none⟩),.pointer (some ⟨ba,0,none⟩),.pointer (some ⟨w.heap.size+1,0,none⟩),.pointer (some ⟨w.heap.size+1+1,0,none⟩)]] 348))=overStart w db g lb ba:=rfl
 rw [hW]
 clear hW
 generalize overStart w db g lb ba=W3 at *
 have c1:W3.cell? ⟨w.heap.size+1+1,0,none⟩=some (walkFn w.heap.size ba (w.heap.size+1) (w.heap.size+1+1)):=cell_block hwm.bxw
 have c2:W3.cell? ⟨ba,0,none⟩=some (.iface T v):=cell_block hwm.bxa
 have HWM:=Lib.hid hwm
 have HKS:=Lib.hid hks
 have HJ1:=Lib.hid hj1
 clear hwm hks hst hj1
 unfold walkFn at c1
 have c1':=c1
 have c2':=c2
 refine wp_region_ord [(0,false),(1,false),(2,true),(3,true)] (fun w'=>w'.cell? ⟨w.heap.size+1+1,0,none⟩=some (.func (.func 168) #[] #[.pointer (some ⟨w.heap.size,0,none⟩),.pointer (some ⟨ba,0,none⟩),.pointer (some ⟨w.heap.size+1,0,none⟩),.pointer (some ⟨w.heap.size+1+1,0,none⟩)]) ∧
  w'.cell? ⟨ba,0,none⟩=some (.iface T v)) (by kernel_rfl) (by kernel_rfl) ⟨c1,c2⟩ ?_
 iterate 2 (
  refine wpOrd_quiet ?_ rfl rfl (fun w' hS=>?_) ?_
  rotate_left
  ·obtain ⟨d1,d2⟩:=hS
   go_simp
   first | rfl | done
  simp only [put_lit,List.set_cons_succ,List.set_cons_zero])
 refine wpOrd_loud rfl rfl (by decide) (fun K5 hK5=>?_)
 go_simp
 refine (HCS.out _ (HK.out _ (HKS.out.g.trans (KeepG.below (show Below W3.heap.size W3 W3.drew from (Below.refl _ _).drew))))).mono ?_
 rintro e w1 ⟨rfl,hS1⟩
 have hS:Below W3.heap.size W3 w1:=(show Below W3.heap.size W3 W3.drew from (Below.refl _ _).drew).trans hS1
 refine hK5 _ _ ⟨(hS.cell (p:=⟨_,_,none⟩) (lt_of_cell c1)).trans c1,(hS.cell (p:=⟨_,_,none⟩) (lt_of_cell c2)).trans c2⟩ ?_
 clear hK5 K5
 refine wpOrd_loud rfl rfl (by decide) (fun K5 hK5=>?_)
 go_simp
 have hwm1:=HWM.out.kept (v := .slice none 0 0) (World.ownsRow_nil _ _ _ _:W3.ownsRow 0 5 1 (.slice none 0 0) 0 []) ((KeepT.below hS).toB _)
 have hst0:=HDI.out.state
 have hroot:=HDI.out.root
 have hrun:=walk_any hA hst0 g lb eg w.heap.size ba (w.heap.size+1) (w.heap.size+1+1) w.heap.size J Jx (hits (accA step ends s0) (Λ 0) 0) HJ.out HY.out (ρ 0+1) 0 s0 [] (.slice none 0 0) 0 [] w1 (Nat.lt_succ_self _) hroot.1 hok0 hwm1
  (World.ownsRow_nil _ _ _ _) (fun k e=>by cases e) (by have:=hS.size; omega) (HK.out _ (HKS.out.g.trans (KeepG.below hS))) (by simpa using hroot.2) (by omega) (HJ.out _ _ _ HJ1.out (StepsB.below hS)) (by rw [List.nil_append,pre_nil]; exact List.prefix_refl _)
 unfold intV ptrV at hrun
 refine hrun.mono ?_
 rintro e W5 ⟨hk5,_,_,hres⟩
 have hkt:KeepT w W5:=HKS.out.trans ((KeepT.below hS).trans ⟨hk5.1,fun k cs t r h1 h2=>hk5.2 k cs t r h1 h2 (fun e=>by cases e)⟩)
 rw [List.nil_append,pre_nil] at hres
 have hk1:KeepT W3 W5:=(KeepT.below hS).trans ⟨hk5.1,fun k cs t r h1 h2=>hk5.2 k cs t r h1 h2 (fun e=>by cases e)⟩
 have d1:W5.cell? ⟨w.heap.size+1+1,0,none⟩=_:=cell_block ((hk1.2 _ _ _ _ HWM.out.bxw (by decide)).trans HWM.out.bxw)
 have d2:W5.cell? ⟨ba,0,none⟩=_:=cell_block ((hk1.2 _ _ _ _ HWM.out.bxa (by decide)).trans HWM.out.bxa)
 have hd:_∧_:=⟨d1,d2⟩
 have HKT:=Lib.hid hkt
 clear hrun hk5 hkt hwm1 hst0 hroot
 rcases hres with ⟨rfl,hj5⟩ | ⟨rfl,zs,hzs,hj5⟩
 ·have HJ5:=Lib.hid hj5
  clear hj5
  refine hK5 _ _ hd ?_
  clear hK5 K5 hd d1 d2
  refine wpOrd_nil ?_
  go_wp2_with fail
  refine bodyPost_end (results_none rfl _ _ _) rfl ?_
  exact ⟨rfl,HKT.out,.inl HJ5.out⟩
 ·have HJ5:=Lib.hid hj5
  clear hj5
  refine hK5 _ _ hd ?_
  clear hK5 K5 hd d1 d2
  refine wpOrd_nil ?_
  go_wp2_with fail
  refine bodyPost_end (results_none rfl _ _ _) rfl ?_
  exact ⟨rfl,HKT.out,.inr ⟨zs,hzs,HJ5.out⟩⟩
end Go.Proofs.Ts.B
namespace Go.Proofs.Ts
open Go
structure BSt where
 l:Option Nat
 h:Option Nat
def optI:Option Nat→Int
 | none=>-1
 | some k=>k
def BSt.cells (s:BSt):Array Value:=#[.int .i64 (optI s.l),.int .i64 (optI s.h)]
def loStep (lo:List UInt8):Option Nat→UInt8→Option (Option Nat)
 | none,_=>some none
 | some k,c=>match lo[k]? with
  | none=>some none
  | some b=>if b < c then some none else if c < b then none else some (some (k+1))
def hiStep (hi:List UInt8):Option Nat→UInt8→Option (Option Nat)
 | none,_=>some none
 | some k,c=>match hi[k]? with
  | none=>none
  | some b=>if b < c then none else if c < b then some none else some (some (k+1))
section
variable {lo hi:List UInt8} {k:Nat} {c b:UInt8}
theorem loStep_none (hb:lo[k]?=none):loStep lo (some k) c=some none:=by simp only [loStep,hb]
theorem loStep_some (hb:lo[k]?=some b):loStep lo (some k) c=if b < c then some none else if c < b then none else some (some (k+1)):=by simp only [loStep,hb]
theorem hiStep_none (hb:hi[k]?=none):hiStep hi (some k) c=none:=by simp only [hiStep,hb]
theorem hiStep_some (hb:hi[k]?=some b):hiStep hi (some k) c=if b < c then none else if c < b then some none else some (some (k+1)):=by simp only [hiStep,hb]
end
def betStep (lo hi:List UInt8) (s:BSt) (c:UInt8):Option BSt:=match loStep lo s.l c with
 | none=>none
 | some l=>match hiStep hi s.h c with
  | none=>none
  | some h=>some ⟨l,h⟩
def betEnds (lo:List UInt8) (s:BSt):Bool:=match s.l with
 | none=>true
 | some k=>decide (k=lo.length)
def betStart (hi:List UInt8):BSt:=⟨some 0,if hi=[] then none else some 0⟩
def leB:List UInt8→List UInt8→Bool
 | [],_=>true
 | _ :: _,[]=>false
 | a :: x,b :: y=>if a < b then true else if b < a then false else leB x y
theorem leB_cons (a b:UInt8) (x y:List UInt8):leB (a :: x) (b :: y)=if a < b then true else if b < a then false else leB x y:=rfl
theorem leB_both:∀ (x y:List UInt8),leB x y=true→leB y x=true→x=y
 | [],[],_,_=>rfl
 | [],_ :: _,_,h=>by simp [leB] at h
 | _ :: _,[],h,_=>by simp [leB] at h
 | a :: x,b :: y,h1,h2=>by
  unfold leB at h1 h2
  split at h1
  ·rename_i hab
   rw [if_neg (by exact fun h=>by have:=UInt8.lt_iff_toNat_lt.1 h; have:=UInt8.lt_iff_toNat_lt.1 hab; omega),if_pos hab] at h2
   cases h2
  ·split at h1
   ·cases h1
   ·rename_i n1 n2
    rw [if_neg n2,if_neg n1] at h2
    have e:a=b:=UInt8.toNat_inj.1 (by
     have k1:¬ a.toNat < b.toNat:=fun h=>n1 (UInt8.lt_iff_toNat_lt.2 h)
     have k2:¬ b.toNat < a.toNat:=fun h=>n2 (UInt8.lt_iff_toNat_lt.2 h)
     omega)
    rw [e,leB_both x y h1 h2]
theorem leB_refl:∀ x:List UInt8,leB x x=true
 | []=>rfl
 | a :: x=>by
  unfold leB
  rw [if_neg (by exact UInt8.lt_irrefl a),if_neg (by exact UInt8.lt_irrefl a),leB_refl x]
def within (lo hi:List UInt8) (s:BSt) (u:List UInt8):Bool :=
 (match s.l with | none=>true | some k=>leB (lo.drop k) u) && (match s.h with | none=>true | some k=>leB u (hi.drop k))
theorem drop_cons {α:Type} {l:List α} {k:Nat} {b:α} (h:l[k]?=some b):l.drop k=b :: l.drop (k+1):=by
 obtain ⟨hk,rfl⟩:=List.getElem?_eq_some_iff.1 h
 exact List.drop_eq_getElem_cons hk
theorem drop_none {α:Type} {l:List α} {k:Nat} (h:l[k]?=none):l.drop k=[]:=List.drop_eq_nil_of_le (List.getElem?_eq_none_iff.1 h)
def BSt.ok (lo hi:List UInt8) (s:BSt):Prop:=(∀ k,s.l=some k→k≤lo.length) ∧ ∀ k,s.h=some k→k≤hi.length
theorem within_step (lo hi:List UInt8) (s:BSt) (c:UInt8) (u:List UInt8):within lo hi s (c :: u)=match betStep lo hi s c with
  | none=>false
  | some t=>within lo hi t u:=by
 obtain ⟨l,h⟩:=s
 have e1:(match l with | none=>true | some k=>leB (lo.drop k) (c :: u))=match loStep lo l c with
   | none=>false
   | some l'=>match l' with | none=>true | some k=>leB (lo.drop k) u:=by
  cases l with
  | none=>rfl
  | some k =>
   cases hb:lo[k]? with
   | none =>
    simp only
    rw [drop_none hb,loStep_none hb]
    rfl
   | some b =>
    simp only
    rw [drop_cons hb,loStep_some hb,leB_cons]
    split
    ·rfl
    ·split
     ·rfl
     ·rfl
 have e2:(match h with | none=>true | some k=>leB (c :: u) (hi.drop k))=match hiStep hi h c with
   | none=>false
   | some h'=>match h' with | none=>true | some k=>leB u (hi.drop k):=by
  cases h with
  | none=>rfl
  | some k =>
   cases hb:hi[k]? with
   | none =>
    simp only
    rw [drop_none hb,hiStep_none hb]
    rfl
   | some b =>
    simp only
    rw [drop_cons hb,hiStep_some hb,leB_cons]
    by_cases h1:b < c
    ·have h2:¬ c < b:=fun h=>by have:=UInt8.lt_iff_toNat_lt.1 h; have:=UInt8.lt_iff_toNat_lt.1 h1; omega
     rw [if_neg h2,if_pos h1,if_pos h1]
    ·by_cases h2:c < b
     ·rw [if_pos h2,if_neg h1,if_pos h2]
     ·rw [if_neg h2,if_neg h1,if_neg h1,if_neg h2]
 unfold within betStep
 simp only
 rw [e1,e2]
 cases loStep lo l c with
 | none=>rfl
 | some l' =>
  cases hiStep hi h c with
  | none=>simp
  | some h'=>rfl
theorem betStep_ok {lo hi:List UInt8} {s t:BSt} {c:UInt8} (hs:s.ok lo hi) (h:betStep lo hi s c=some t):t.ok lo hi:=by
 obtain ⟨l,h'⟩:=s
 unfold betStep at h
 split at h
 ·cases h
 ·rename_i l' hl'
  split at h
  ·cases h
  ·rename_i h'' hh'
   cases h
   refine ⟨fun k hk=>?_,fun k hk=>?_⟩
   ·have hk':l'=some k:=hk
    subst hk'
    simp only at hl'
    unfold loStep at hl'
    split at hl'
    ·cases hl'
    ·rename_i j
     split at hl'
     ·cases hl'
     ·rename_i b hb
      have:=(List.getElem?_eq_some_iff.1 hb).1
      split at hl'
      ·cases hl'
      ·split at hl'
       ·cases hl'
       ·cases hl'; omega
   ·have hk':h''=some k:=hk
    subst hk'
    simp only at hh'
    unfold hiStep at hh'
    split at hh'
    ·cases hh'
    ·rename_i j
     split at hh'
     ·cases hh'
     ·rename_i b hb
      have:=(List.getElem?_eq_some_iff.1 hb).1
      split at hh'
      ·cases hh'
      ·split at hh'
       ·cases hh'
       ·cases hh'; omega
theorem between_reads (lo hi:List UInt8):∀ (u:List UInt8) (s:BSt),s.ok lo hi→accA (betStep lo hi) (betEnds lo) s u=within lo hi s u
 | [],s,hs=>by
  unfold accA betEnds within
  obtain ⟨l,h⟩:=s
  have e2:∀ k,leB [] (hi.drop k)=true:=fun k=>rfl
  have e1:∀ k,l=some k→decide (k=lo.length)=leB (lo.drop k) []:=fun k e=>by
   have hk:=hs.1 k e
   cases hd:lo.drop k with
   | nil =>
    have:=congrArg List.length hd
    simp at this
    rw [decide_eq_true (by omega)]
    rfl
   | cons b r =>
    have:=congrArg List.length hd
    simp at this
    rw [decide_eq_false (by omega)]
    rfl
  cases l with
  | none =>
   cases h with
   | none=>rfl
   | some k=>rfl
  | some k =>
   simp only
   rw [e1 k rfl]
   cases h with
   | none=>simp
   | some j=>simp only; rw [e2,Bool.and_true]
 | c :: u,s,hs=>by
  unfold accA
  rw [within_step]
  cases h:betStep lo hi s c with
  | none=>rfl
  | some t =>
   exact between_reads lo hi u t (betStep_ok hs h)
theorem betStart_ok (lo hi:List UInt8):(betStart hi).ok lo hi:=by
 refine ⟨fun k hk=>?_,fun k hk=>?_⟩
 ·cases hk; exact Nat.zero_le _
 ·unfold betStart at hk
  simp only at hk
  split at hk
  ·cases hk
  ·cases hk; exact Nat.zero_le _
theorem between_one (x u:List UInt8) (hx:x≠[]):accA (betStep x x) (betEnds x) (betStart x) u=decide (u=x):=by
 rw [between_reads x x u _ (betStart_ok x x)]
 unfold within betStart
 simp only [if_neg hx,List.drop_zero]
 rw [Bool.eq_iff_iff,Bool.and_eq_true,decide_eq_true_eq]
 constructor
 ·rintro ⟨h1,h2⟩
  exact leB_both _ _ h2 h1
 ·rintro rfl
  exact ⟨leB_refl _,leB_refl _⟩
end Go.Proofs.Ts
namespace Go.Proofs.Ts
open Go Go.RowKit
def Cells (w w':World):Prop:=w.heap.size≤w'.heap.size ∧ ∀ (k:Nat) cs t r,w.heap[k]?=some (.cells cs t r)→t≠96→w'.heap[k]?=w.heap[k]?
theorem Cells.trans {a b c:World} (h:Cells a b) (k:Cells b c):Cells a c:=⟨Nat.le_trans h.1 k.1,fun j cs t r h1 h2=>(k.2 j cs t r ((h.2 j cs t r h1 h2).trans h1) h2).trans (h.2 j cs t r h1 h2)⟩
theorem Cells.below {w w':World} (h:Below w.heap.size w w'):Cells w w':=⟨h.size,fun k cs t r hk _=>h.block k (Array.getElem?_eq_some_iff.1 hk).1⟩
theorem Cells.g {w w':World} (h:Cells w w'):KeepG w w':=fun k cs t r h1 h2 _=>h.2 k cs t r h1 (fun e=>by rw [e] at h2; revert h2; decide)
def BlockIn (w:World) (q:Nat × Array Value × TypeId):Prop:=w.heap[q.1]?=some (.cells q.2.1 q.2.2 (0,0))
structure Goes (w:World) (fv:Value) (acc:List UInt8→Bool):Prop where
 ex:∃ (f ab:Nat) (bl:List (Nat × Array Value × TypeId)),fv = .func (.func f) #[] #[ptrV ab]∧(∀ q∈bl,BlockIn w q∧q.2.2≠96)∧(∀ args w,(callFunc f args).run Tryz.prog w = .ok (.enter f args) w) ∧
  ∀ w1,(∀ q∈bl,BlockIn w1 q) → ∀ (db:Nat) (R:Nat→Prop) (Λ:Nat→List Word) (ρ:Nat→Nat) (D:List DS) (g:Nat) (lb:Array Value),(∀ args w,(callFunc g args).run Tryz.prog w = .ok (.enter g args) w) →
   DictIs w1 db R Λ ρ D→(Λ 0).length≤1000000 → ∀ J Jx:List (List UInt8 × Nat)→World→Prop,(∀ ys wa wb,J ys wa→StepsB w1.heap.size wa wb→J ys wb) →
   (∀ ys t i wa,J ys wa→ys++[(t,i)] <+: hits acc (Λ 0) 0→Calls Tryz.prog g (#[strV t,intV i]++lb) wa fun e wb=>KeepT wa wb∧((e = .returned (.bool true)∧J (ys++[(t,i)]) wb)∨(e = .returned (.bool false)∧Jx (ys++[(t,i)]) wb))) →
   J [] w1→Calls Tryz.prog f #[ptrV db,.func (.func g) #[] lb,ptrV ab] w1 fun e w'=>e = .returned (.tuple #[])∧KeepT w1 w'∧(J (hits acc (Λ 0) 0) w' ∨ ∃ zs,zs <+: hits acc (Λ 0) 0∧Jx zs w')
theorem Goes.kept {w w':World} {fv:Value} {acc:List UInt8→Bool} (h:Goes w fv acc) (hk:∀ (k:Nat) cs t r,w.heap[k]?=some (.cells cs t r)→t≠96→w'.heap[k]?=w.heap[k]?):Goes w' fv acc:=by
 obtain ⟨f,ab,bl,h1,h2,h3,h4⟩:=h.ex
 exact ⟨f,ab,bl,h1,fun q hq=>⟨(hk _ _ _ _ (h2 q hq).1 (h2 q hq).2).trans (h2 q hq).1,(h2 q hq).2⟩,h3,h4⟩
theorem goes_int {iv:Value} {ok:Nat→Prop} {step:Nat→UInt8→Option Nat} {ends:Nat→Bool} {s0:Nat} (hA:AutI iv ok step ends) (hS0:AutS iv s0) (hok0:ok s0) {w:World} {ab:Nat}
  (hab:w.heap[ab]?=some (.cells #[iv] 206 (0,0))) {acc:List UInt8→Bool} (hacc:∀ u,accA step ends s0 u=acc u):Goes w (.func (.func 90) #[] #[ptrV ab]) acc:=by
 obtain rfl:accA step ends s0=acc:=funext hacc
 exact ⟨_,ab,[(ab,#[iv],206)],rfl,fun q hq=>by
  obtain rfl:=List.mem_singleton.1 hq
  exact ⟨hab,of_decide_eq_true rfl⟩,enters_of Tryz.func90 (by kernel_rfl) rfl,fun w1 h1 db R Λ ρ D g lb eg hd hl J Jx hJ hY hj0=>over_any hA hS0 hok0 g lb eg ab w1 hd hl (h1 _ List.mem_cons_self) J Jx hJ hY hj0⟩
theorem reads_acc (M:PM):∀ (u:List UInt8) (s:PSet),accA M.stepO M.ends s u=M.reads s u
 | [],s=>rfl
 | c :: u,s=>by
  rw [reads_step]
  unfold accA
  unfold PM.stepO
  split
  ·rename_i h
   split at h
   ·rename_i hz
    rw [if_pos hz]
   ·cases h
  ·rename_i t h
   split at h
   ·cases h
   ·rename_i hz
    cases h
    rw [if_neg hz]
    exact reads_acc M u _
theorem goes_set {mb:Nat} {M:PM} (hM:M.ok) (hF:M.fit) {w:World} {ab:Nat} (hab:w.heap[ab]?=some (.cells #[.iface 115 (ptrV mb)] 354 (0,0)))
  (hm:MachIs w mb M) (hT:BitTab w):Goes w (.func (.func 169) #[] #[ptrV ab]) (fun u=>M.reads beginSet u):=by
 obtain ⟨c1,h1⟩:=hT.1
 have hacc:(fun u=>M.reads beginSet u)=accA M.stepO M.ends beginSet:=funext fun u=>(reads_acc M u beginSet).symm
 rw [hacc]
 refine ⟨_,ab,[(ab,#[.iface 115 (ptrV mb)],354),(4,c1,367),(mb,M.cells.toArray,276)],rfl,fun q hq=>?_,enters_of Tryz.func169 (by kernel_rfl) rfl,fun w1 hb db R Λ ρ D gg lb eg hd hl J Jx hJ hY hj0=>?_⟩
 ·simp only [List.mem_cons,List.not_mem_nil,or_false] at hq
  rcases hq with rfl | rfl | rfl
  ·exact ⟨hab,of_decide_eq_true rfl⟩
  ·exact ⟨h1,of_decide_eq_true rfl⟩
  ·exact ⟨hm.2,of_decide_eq_true rfl⟩
 ·have b0:BlockIn w1 _:=hb _ (List.mem_cons_self)
  have b1:BlockIn w1 (4,c1,367):=hb _ (by simp)
  have b2:BlockIn w1 (mb,M.cells.toArray,276):=hb _ (by simp)
  have hm1:MachMem mb M w1:=⟨⟨hm.1,b2⟩,hT.kept (b1.trans h1.symm)⟩
  exact Go.Proofs.Ts.S.over_any (mach_aut mb M hM hF) (mach_start mb M) ⟨beginSet_ok,beginSet_fits⟩ gg lb eg ab w1 hm1 hd hl b0 J Jx hJ hY hj0
inductive EV where
 | no (k:Int)
 | bad (k i:Int)
def ErrIs (w:World) (ev:Value):EV→Prop
 | .no k=>ev=errnoV k
 | .bad k i=>∃ b,ev = .iface 103 (ptrV b)∧w.heap[b]?=some (.cells #[.int .i64 k,.int .i64 i] 108 (0,0))
theorem ErrIs.kept {w w':World} {ev:Value} {e:EV} (h:ErrIs w ev e) (hk:∀ (k:Nat) cs t r,w.heap[k]?=some (.cells cs t r)→t≠96→w'.heap[k]?=w.heap[k]?):ErrIs w' ev e:=by
 cases e with
 | no k=>exact h
 | bad k i =>
  obtain ⟨b,h1,h2⟩:=h
  exact ⟨b,h1,(hk _ _ _ _ h2 (by decide)).trans h2⟩
open Classical in
noncomputable def patAcc (P:Parsed) (st:Nat):Option (List UInt8→Bool):=match P with
 | .ok x=>if (PM.compile x).wide st then none else Option.some fun u=>(PM.compile x).reads beginSet u
 | _=>none
open Classical in
noncomputable def patErr (P:Parsed) (st:Nat):Option EV:=match P with
 | .fault i=>Option.some (.bad 6 i)
 | .big=>Option.some (.no 9)
 | .ok x=>if (PM.compile x).wide st then Option.some (.no 9) else none
noncomputable def accOf (q:Asked):Option (List UInt8→Bool) :=
 if q.a.length≤40 then (if q.kind=1 then some (fun u=>decide (u=q.a)) else if q.kind=2 then some (fun u=>decide (q.a <+: u))
  else if q.kind=6∧nearBad ⟨q.a.toArray⟩ q.n=none then some (accA (nstep (runesR ⟨q.a.toArray⟩) q.n.toNat) (nends (runesR ⟨q.a.toArray⟩) q.n.toNat) nstart)
  else if q.kind=5 then patAcc (parseP ⟨q.a.toArray⟩) q.states.toNat else if q.kind=4 then patAcc (wildP ⟨q.a.toArray⟩) q.states.toNat
  else if q.kind=3∧q.b.length≤40 then some (fun u=>accA (betStep q.a q.b) (betEnds q.a) (betStart q.b) u) else none) else none
noncomputable def errOf (q:Asked):Option EV :=
 if q.a.length≤40 then (if q.kind=6 then (nearBad ⟨q.a.toArray⟩ q.n).map EV.no else if q.kind=5 then patErr (parseP ⟨q.a.toArray⟩) q.states.toNat
  else if q.kind=4 then patErr (wildP ⟨q.a.toArray⟩) q.states.toNat else if q.kind=3∧40 < q.b.length then some (.no 2) else none)
 else if 1≤q.kind∧q.kind≤6 then some (.no 2) else none
structure PlanFor (w:World) (q:Asked) (pb:Nat):Prop where
 goes:∀ acc,accOf q=some acc → ∃ fv,w.heap[pb]?=some (.cells #[fv,.nilIface] 165 (0,0))∧Goes w fv acc
 errs:∀ k,errOf q=some k → ∃ fv ev,w.heap[pb]?=some (.cells #[fv,ev] 165 (0,0))∧ErrIs w ev k
theorem PlanFor.kept {w w':World} {q:Asked} {pb:Nat} (h:PlanFor w q pb) (hk:∀ (k:Nat) cs t r,w.heap[k]?=some (.cells cs t r)→t≠96→w'.heap[k]?=w.heap[k]?):PlanFor w' q pb :=
 ⟨fun acc ha=>by
  obtain ⟨fv,h1,h2⟩:=h.goes acc ha
  exact ⟨fv,(hk _ _ _ _ h1 (by decide)).trans h1,h2.kept hk⟩,fun k he=>by
  obtain ⟨fv,ev,h1,h2⟩:=h.errs k he
  exact ⟨fv,ev,(hk _ _ _ _ h1 (by decide)).trans h1,h2.kept hk⟩⟩
def askV (q:Asked):Value := .agg #[.int .i64 q.kind,strV q.a,strV q.b,.int .i64 q.n]
def CompileOk (w0:World) (q:Asked):Prop:=∀ w,Cells w0 w→Calls Tryz.prog 102 #[askV q,.int .i64 q.states] w fun e w'=>∃ pb,e = .returned (ptrV pb)∧Below w.heap.size w w'∧w.heap.size≤pb∧PlanFor w' q pb
theorem CompileOk.kept {w0 w1:World} {q:Asked} (h:CompileOk w0 q) (hc:Cells w0 w1):CompileOk w1 q:=fun w hw=>h w (hc.trans hw)
theorem compile_one {w0:World} {a b:List UInt8} {n st:Int} (ha:a.length≤40):CompileOk w0 ⟨1,a,b,n,st⟩:=fun w _=>by
 refine (compile_word ⟨a.toArray⟩ ⟨b.toArray⟩ n st w ha).mono ?_
 rintro e w' ⟨pb,he,hb,hp,ab,h1,h2⟩
 refine ⟨pb,he,hb,hp,⟨fun acc hacc=>⟨_,h1,?_⟩,fun k hk=>by simp [errOf,ha] at hk⟩⟩
 have hs:ByteArray.size ⟨a.toArray⟩=a.length:=by simp [ByteArray.size]
 refine goes_int (exact_aut ⟨a.toArray⟩ (by omega)) (exact_start _) (Nat.zero_le _) h2 fun u=>?_
 have h:=exact_reads ⟨a.toArray⟩ u 0 (Nat.zero_le _)
 simp only [accOf,if_pos ha,if_true,Option.some.injEq] at hacc
 subst hacc
 rw [Bool.eq_iff_iff,h]
 simp
theorem compile_two {w0:World} {a b:List UInt8} {n st:Int} (ha:a.length≤40):CompileOk w0 ⟨2,a,b,n,st⟩:=fun w _=>by
 refine (compile_pre ⟨a.toArray⟩ ⟨b.toArray⟩ n st w ha).mono ?_
 rintro e w' ⟨pb,he,hb,hp,ab,h1,h2⟩
 refine ⟨pb,he,hb,hp,⟨fun acc hacc=>⟨_,h1,?_⟩,fun k hk=>by simp [errOf,ha] at hk⟩⟩
 have hs:ByteArray.size ⟨a.toArray⟩=a.length:=by simp [ByteArray.size]
 refine goes_int (begins_aut ⟨a.toArray⟩ (by omega)) (begins_start _) (Nat.zero_le _) h2 fun u=>?_
 have h:=begins_reads ⟨a.toArray⟩ u 0 (Nat.zero_le _)
 have h21:¬ (2:Int)=1:=by decide
 simp only [accOf,if_pos ha,if_neg h21,if_true,Option.some.injEq] at hacc
 subst hacc
 rw [Bool.eq_iff_iff,h]
 simp
theorem compile_five {w0:World} {a b:List UInt8} {n:Int} {st:Nat} (ha:a.length≤40) (hT:BitTab w0) (h1:1≤st) (h4:st≤400):CompileOk w0 ⟨5,a,b,n,st⟩:=fun w hw=>by
 have hTw:BitTab w:=hT.keepG hw.g
 have hs:ByteArray.size ⟨a.toArray⟩=a.length:=by simp [ByteArray.size]
 have h51:¬ (5:Int)=1:=by decide
 have h52:¬ (5:Int)=2:=by decide
 have h56:¬ (5:Int)=6:=by decide
 have hA:accOf ⟨5,a,b,n,st⟩=patAcc (parseP ⟨a.toArray⟩) st:=by
  simp only [accOf,if_pos ha,if_neg h51,if_neg h52,h56,false_and,if_false,if_true,Int.toNat_natCast]
 have hE:errOf ⟨5,a,b,n,st⟩=patErr (parseP ⟨a.toArray⟩) st:=by
  simp only [errOf,if_pos ha,h56,if_false,if_true,Int.toNat_natCast]
 refine (compile_rx ⟨a.toArray⟩ ⟨b.toArray⟩ n st w (by omega) hTw h1 h4).mono ?_
 rintro e w' ⟨pb,r,he,hbw,hp,hr,hpl⟩
 refine ⟨pb,he,hbw,hp,?_⟩
 cases r with
 | ok x c =>
  obtain ⟨hx,hsl,_⟩:=hr
  obtain ⟨ab,mb,p1,p2,p3⟩:=hpl
  have hnw:¬ (PM.compile x).wide st:=fun hw=>PM.slim_wide hsl hw
  refine ⟨fun acc hacc=>?_,fun k hk=>?_⟩
  ·rw [hA,hx] at hacc
   unfold patAcc at hacc
   simp only [if_neg hnw,Option.some.injEq] at hacc
   subst hacc
   have hc:=parseP_count hx
   exact ⟨_,p1,goes_set (compile_ok x hc) (compile_fit x hc) p2 p3 (hTw.below hbw)⟩
  ·rw [hE,hx] at hk
   unfold patErr at hk
   simp only [if_neg hnw] at hk
   cases hk
 | big =>
  have p1:w'.heap[pb]?=some (.cells #[.nilFunc,.iface 33 (.int .i64 9)] 165 (0,0)):=hpl
  refine ⟨fun acc hacc=>?_,fun k hk=>?_⟩
  ·rw [hA] at hacc
   rcases hr with hx | ⟨x,hx,hw⟩
   ·rw [hx] at hacc; cases hacc
   ·rw [hx] at hacc
    unfold patAcc at hacc
    simp only [if_pos hw] at hacc
    cases hacc
  ·have hk9:k = .no 9:=by
    rw [hE] at hk
    rcases hr with hx | ⟨x,hx,hw⟩
    ·rw [hx] at hk; cases hk; rfl
    ·rw [hx] at hk
     unfold patErr at hk
     simp only [if_pos hw] at hk
     cases hk; rfl
   subst hk9
   exact ⟨_,_,p1,rfl⟩
 | fault i =>
  have hx:parseP ⟨a.toArray⟩ = .fault i:=hr
  obtain ⟨b2,p1,p2⟩:=hpl
  refine ⟨fun acc hacc=>?_,fun k hk=>?_⟩
  ·rw [hA,hx] at hacc; cases hacc
  ·rw [hE,hx] at hk
   cases hk
   exact ⟨_,_,p1,b2,rfl,p2⟩
end Go.Proofs.Ts
