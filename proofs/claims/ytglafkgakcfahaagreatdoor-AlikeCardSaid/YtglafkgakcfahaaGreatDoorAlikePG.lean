/- Lemmas towards the statement Alike of termsearch: walks of the program's functions and plain laws on lists (TsRead, TsParsQ, TsSetP, TsSetO, TsSetN, TsSetB, TsSetM, TsRg, TsIterB, TsSetI, TsSetJ, TsOrdIn). Conditions: those that each theorem names. -/
import Derived.Test.YtglafkgakcfahaaGreatDoorAlikePB
import Derived.Test.YtglafkgakcfahaaGreatDoorAlikePF
import Derived.Test.YtglafkgakcfahaaGreatDoorAlikePA
import Derived.Laws.Bits64b
import Derived.Lib.TrailingZeros
import Derived.RangeFuncFrom
import Derived.RangeFuncBound
import Derived.RangeFuncLeaves
import Derived.Test.YtglafkgakcfahaaGreatDoorAlikePC
import Derived.Test.YtglafkgakcfahaaGreatDoorShelf
import Derived.OrdersIn
import Derived.RangeFuncCalls
set_option linter.unusedVariables false
set_option linter.unusedSimpArgs false
set_option linter.unusedSectionVars false
namespace Go.Proofs.Ts
open Go Go.RowKit
def RdIs (w:World) (rb:Nat) (s:ByteArray) (i:Nat):Prop:=w.heap[rb]?=some (.cells #[.string s,.int .i64 i] 259 (0,0))∧i≤s.size∧s.size≤1000000
section
variable {w w':World} {rb i:Nat} {s:ByteArray}
theorem RdIs.c0 (h:RdIs w rb s i):w.cell? ⟨rb,0,none⟩=some (.string s):=cell_block h.1
theorem RdIs.c1 (h:RdIs w rb s i):w.cell? ⟨rb,1,none⟩=some (.int .i64 i):=cell_block h.1
theorem RdIs.free (h:RdIs w rb s i) (k:Nat):w.frozen? ⟨rb,k,none⟩=false:=free_block h.1
theorem RdIs.lt (h:RdIs w rb s i):rb < w.heap.size:=lt_of_heap h.1
theorem RdIs.same (h:RdIs w rb s i) (k:Same w w'):RdIs w' rb s i:=⟨by rw [k.heap]; exact h.1,h.2⟩
theorem RdIs.below (h:RdIs w rb s i) (k:Below w.heap.size w w'):RdIs w' rb s i:=⟨(k.block _ h.lt).trans h.1,h.2⟩
theorem RdIs.set (h:RdIs w rb s i) {j:Nat} (hj:j≤s.size):RdIs (w.setCell ⟨rb,1,none⟩ (.int .i64 j)) rb s j:=⟨by
 rw [heap_setCell_same w rb 1 _ _ _ h.1]
 simp,hj,h.2.2⟩
end
def isB (s:ByteArray) (i:Nat) (c:UInt8):Bool:=decide (s.data.toList[i]?=some c)
theorem at_str (s:ByteArray) (k:Nat) (h:k < s.size):s.data.toList[k]?=some s[k]:=by
 have:k < s.data.toList.length:=by simpa using h
 rw [List.getElem?_eq_getElem this]
 rfl
theorem at_end (s:ByteArray) (k:Nat) (h:s.size≤k):s.data.toList[k]?=none:=List.getElem?_eq_none (by simpa using h)
theorem is_any (rb:Nat) (s:ByteArray) (i:Nat) (c:UInt8) (w:World) (hR:RdIs w rb s i) :
  Calls Tryz.prog 172 #[ptrV rb,.int .u8 c.toNat] w fun e w'=>e = .returned (.bool (isB s i c))∧Same w w':=by
 have c0:=hR.c0
 have c1:=hR.c1
 have hi:=hR.2.1
 have hs:=hR.2.2
 clear hR
 unfold ptrV
 by_cases h:i < s.size
 ·have hg:Hid (isB s i c=(((s[i]).toNat:Int) == (c.toNat:Int))):=Lib.hid (by
   unfold isB
   rw [at_str s i h,eq_byte]
   simp)
  have q2:decide ((i:Int) < (s.size:Int))=true:=by simp; omega
  go_enter Tryz.func172,Tryz.ntmps172
  go_wp2_with fail
  go_quiet (fail)
  go_wp2_with fail
  go_ret
  exact ⟨ret_bool hg.out.symm,Same.drewN _ _⟩
 ·have hg:Hid (isB s i c=false):=Lib.hid (by
   unfold isB
   rw [at_end s i (by omega)]
   simp)
  have q2:decide ((i:Int) < (s.size:Int))=false:=by simp; omega
  go_enter Tryz.func172,Tryz.ntmps172
  go_wp2_with fail
  go_quiet (fail)
  go_wp2_with fail
  go_ret
  exact ⟨ret_bool hg.out.symm,Same.drewN _ _⟩
def faultP (i:Nat):List PanicEntry:=[{ v := .iface 255 (.int .i64 i),recovered:=false }]
theorem must_any (rb:Nat) (s:ByteArray) (i:Nat) (ok:Bool) (w:World) (hR:RdIs w rb s i) :
  Calls Tryz.prog 120 #[ptrV rb,.bool ok] w fun e w'=>e=(if ok then .returned (.tuple #[]) else .panicked (faultP i))∧Same w w':=by
 have c0:=hR.c0
 have c1:=hR.c1
 clear hR
 unfold ptrV
 have hnot:∀ (x:Bool) (w:World),(Op.unary .not (.bool x)).run Tryz.prog w = .ok (.bool (!x)) w:=fun _ _=>rfl
 cases ok
 ·go_enter Tryz.func120,Tryz.ntmps120
  go_wp2_with fail
  exact ⟨rfl,rfl,Same.refl _⟩
 ·go_enter Tryz.func120,Tryz.ntmps120
  go_wp2_with fail
  refine bodyPost_end (results_none rfl _ _ _) rfl ?_
  exact ⟨rfl,Same.refl _⟩
def eatB (s:ByteArray) (i:Nat) (c:UInt8):Nat:=if isB s i c then i+1 else i
theorem isB_lt {s:ByteArray} {i:Nat} {c:UInt8} (h:isB s i c=true):i < s.size:=by
 unfold isB at h
 rcases Nat.lt_or_ge i s.size with h' | h'
 ·exact h'
 ·rw [at_end s i h'] at h; simp at h
theorem eat_any (rb:Nat) (s:ByteArray) (i:Nat) (c:UInt8) (w:World) (hR:RdIs w rb s i) :
  Calls Tryz.prog 149 #[ptrV rb,.int .u8 c.toNat] w fun e w'=>e = .returned (.bool (isB s i c))∧RdIs w' rb s (eatB s i c)∧Mod (fun j=>j=rb) w w':=by
 have hcall:=is_any rb s i c w hR
 have hlt:isB s i c=true→i < s.size:=isB_lt
 unfold eatB
 generalize isB s i c=r at *
 have HR:=Lib.hid hR
 have HC:=Lib.hid hcall
 have c1:=hR.c1
 have hf:=hR.free 1
 have hi:=hR.2.1
 have hs:=hR.2.2
 have hrb:=hR.lt
 clear hR hcall
 unfold ptrV
 go_enter Tryz.func149,Tryz.ntmps149
 go_wp2_with (have hcall:=HC.out; unfold ptrV at hcall; refine hcall.mono ?_; clear hcall; rintro e w1 ⟨rfl,hs1⟩; have c1':=(hs1.cell _).trans c1; have hf':=(hs1.frozen _).trans hf; have HS1:=Lib.hid hs1; clear hs1 c1 hf; cases r)
 ·go_ret
  exact ⟨rfl,HR.out.same HS1.out,Mod.same HS1.out⟩
 ·go_ret
  refine ⟨rfl,?_,?_⟩
  ·have:=(HR.out.same HS1.out).set (j:=i+1) (hlt (by simp))
   simpa using this
  ·exact (Mod.same HS1.out).trans (Mod.setCell _ _ _ fun _=>rfl)
end Go.Proofs.Ts
namespace Go.Proofs.Ts
open Go
inductive PR (α:Type) where
 | fault (i:Nat)
 | ok (x:α) (i:Nat)
def singleP (s:ByteArray) (i:Nat):PR UInt8 :=
 match s.data.toList[eatB s i 92]? with
 | none => .fault (eatB s i 92)
 | some c => .ok c (eatB s i 92+1)
def digitP (s:ByteArray) (i least:Nat):PR Nat :=
 match s.data.toList[i]? with
 | none => .fault i
 | some c=>if 48+least≤c.toNat∧c.toNat≤57 then .ok (c.toNat - 48) (i+1) else .fault i
def clsB (s:ByteArray) (i:Nat):Bool:=decide (i < s.size) && !isB s i 45 && !isB s i 93
/-! ### Places rise. -/
def PR.Good {α:Type} (s:ByteArray) (i:Nat):PR α→Prop
 | .fault e=>e≤s.size
 | .ok _ j=>i≤j∧j≤s.size
def PR.On {α:Type} (s:ByteArray) (i:Nat):PR α→Prop
 | .fault e=>e≤s.size
 | .ok _ j=>i < j∧j≤s.size
theorem lt_of_at {s:ByteArray} {i:Nat} {c:UInt8} (h:s.data.toList[i]?=some c):i < s.size:=by
 rcases Nat.lt_or_ge i s.size with h' | h'
 ·exact h'
 ·rw [at_end s i h'] at h; cases h
theorem eat_le (s:ByteArray) (i:Nat) (c:UInt8) (h:i≤s.size):i≤eatB s i c∧eatB s i c≤s.size:=by
 unfold eatB
 split
 ·have:=isB_lt (by assumption); omega
 ·omega
theorem single_on (s:ByteArray) (i:Nat) (h:i≤s.size):(singleP s i).On s i:=by
 have:=eat_le s i 92 h
 unfold singleP
 split
 ·exact this.2
 ·rename_i hc
  have:=lt_of_at hc
  exact ⟨by omega,by omega⟩
theorem digit_on (s:ByteArray) (i l:Nat) (h:i≤s.size):(digitP s i l).On s i:=by
 unfold digitP
 split
 ·exact h
 ·rename_i hc
  have:=lt_of_at hc
  split
  ·exact ⟨by omega,by omega⟩
  ·exact h
theorem digit_le {s:ByteArray} {i l x j:Nat} (h:digitP s i l = .ok x j):l≤x∧x≤9:=by
 unfold digitP at h
 split at h
 ·cases h
 ·split at h
  ·cases h; omega
  ·cases h
end Go.Proofs.Ts
namespace Go.Proofs.Ts
open Go
structure PSet where
 a:Nat
 b:Nat
 c:Nat
 deriving DecidableEq,Inhabited
abbrev W64:Nat:=18446744073709551616
namespace PSet
def word (s:PSet):Nat→Nat
 | 0=>s.a
 | 1=>s.b
 | _=>s.c
def ok (s:PSet):Prop:=s.a < W64∧s.b < W64∧s.c < W64
def zero:PSet:=⟨0,0,0⟩
def mem (s:PSet) (k:Nat):Bool:=(s.word (k / 64)).testBit (k % 64)
def or (s t:PSet):PSet:=⟨s.a ||| t.a,s.b ||| t.b,s.c ||| t.c⟩
def and (s t:PSet):PSet:=⟨s.a &&& t.a,s.b &&& t.b,s.c &&& t.c⟩
def setw (s:PSet) (i v:Nat):PSet:=match i with
 | 0=>{ s with a:=v }
 | 1=>{ s with b:=v }
 | _=>{ s with c:=v }
def on (s:PSet) (k:Nat):PSet:=s.setw (k / 64) (s.word (k / 64) ||| 2 ^ (k % 64))
def cells (s:PSet):List Value:=[.int .u64 s.a,.int .u64 s.b,.int .u64 s.c]
theorem ok_zero:zero.ok:=⟨by decide,by decide,by decide⟩
theorem lt_pow {x:Nat} (h:x < W64):x < 2 ^ 64:=h
theorem ok_word {s:PSet} (h:s.ok) (i:Nat):s.word i < W64:=by
 obtain ⟨h1,h2,h3⟩:=h
 match i with
 | 0=>exact h1
 | 1=>exact h2
 | _+2=>exact h3
theorem or_lt {x y:Nat} (hx:x < W64) (hy:y < W64):x ||| y < W64:=Nat.or_lt_two_pow (n:=64) hx hy
theorem and_lt {x y:Nat} (hy:y < W64):x &&& y < W64:=Nat.and_lt_two_pow (n:=64) _ hy
theorem ok_or {s t:PSet} (h:s.ok) (k:t.ok):(s.or t).ok:=⟨or_lt h.1 k.1,or_lt h.2.1 k.2.1,or_lt h.2.2 k.2.2⟩
theorem ok_and {s t:PSet} (h:s.ok) (k:t.ok):(s.and t).ok:=⟨and_lt k.1,and_lt k.2.1,and_lt k.2.2⟩
theorem bit_lt (k:Nat):2 ^ (k % 64) < W64:=Nat.pow_lt_pow_right (by decide) (Nat.mod_lt _ (by decide))
theorem ok_setw {s:PSet} (h:s.ok) (i:Nat) {v:Nat} (hv:v < W64):(s.setw i v).ok:=by
 obtain ⟨h1,h2,h3⟩:=h
 match i with
 | 0=>exact ⟨hv,h2,h3⟩
 | 1=>exact ⟨h1,hv,h3⟩
 | _+2=>exact ⟨h1,h2,hv⟩
theorem ok_on {s:PSet} (h:s.ok) (k:Nat):(s.on k).ok:=ok_setw h _ (or_lt (ok_word h _) (bit_lt k))
theorem word_or (s t:PSet) (i:Nat):(s.or t).word i=s.word i ||| t.word i:=by
 match i with
 | 0=>rfl
 | 1=>rfl
 | _+2=>rfl
theorem word_and (s t:PSet) (i:Nat):(s.and t).word i=s.word i &&& t.word i:=by
 match i with
 | 0=>rfl
 | 1=>rfl
 | _+2=>rfl
theorem mem_or (s t:PSet) (k:Nat):(s.or t).mem k=(s.mem k || t.mem k):=by unfold mem; rw [word_or,Nat.testBit_or]
theorem mem_and (s t:PSet) (k:Nat):(s.and t).mem k=(s.mem k && t.mem k):=by unfold mem; rw [word_and,Nat.testBit_and]
theorem mem_zero (k:Nat):zero.mem k=false:=by
 have:∀ i,zero.word i=0:=fun i=>by match i with
  | 0=>rfl
  | 1=>rfl
  | _+2=>rfl
 unfold mem; rw [this]; simp
theorem word_setw (s:PSet) (i j v:Nat) (hi:i < 3) (hj:j < 3):(s.setw i v).word j=if i=j then v else s.word j:=by
 match i,j with
 | 0,0=>rfl
 | 0,1=>rfl
 | 0,2=>rfl
 | 1,0=>rfl
 | 1,1=>rfl
 | 1,2=>rfl
 | 2,0=>rfl
 | 2,1=>rfl
 | 2,2=>rfl
 | n+3,_=>omega
 | _,m+3=>omega
theorem mem_on (s:PSet) (k j:Nat) (hk:k < 192) (hj:j < 192):(s.on k).mem j=(decide (j=k) || s.mem j):=by
 unfold mem on
 rw [word_setw _ _ _ _ (by omega) (by omega)]
 by_cases h:k / 64=j / 64
 ·rw [if_pos h,Nat.testBit_or,Nat.testBit_two_pow,h]
  by_cases e:j=k
  ·subst e; simp
  ·have:¬ k % 64=j % 64:=fun e2=>e (by omega)
   simp [e,this]
 ·rw [if_neg h]
  have:¬ j=k:=fun e=>h (by rw [e])
  simp [this]
theorem testBit_big {x:Nat} (h:x < W64) {i:Nat} (hi:64≤i):x.testBit i=false :=
 Nat.testBit_lt_two_pow (Nat.lt_of_lt_of_le (lt_pow h) (Nat.pow_le_pow_right (by decide) hi))
theorem ext {s t:PSet} (hs:s.ok) (ht:t.ok) (h:∀ k,k < 192→s.mem k=t.mem k):s=t:=by
 have key:∀ i,i < 3→s.word i=t.word i:=fun i hi=>by
  apply Nat.eq_of_testBit_eq
  intro j
  by_cases hj:j < 64
  ·have:=h (64 * i+j) (by omega)
   unfold mem at this
   rw [show (64 * i+j) / 64=i by omega,show (64 * i+j) % 64=j by omega] at this
   exact this
  ·rw [testBit_big (ok_word hs i) (by omega),testBit_big (ok_word ht i) (by omega)]
 obtain ⟨a,b,c⟩:=s
 obtain ⟨a',b',c'⟩:=t
 have h0:a=a':=key 0 (by decide)
 have h1:b=b':=key 1 (by decide)
 have h2:c=c':=key 2 (by decide)
 subst h0 h1 h2
 rfl
end PSet
theorem ctz_bit {x:Nat} (h0:x≠0) (h:x < W64):∃ m,x=2 ^ Lib.ctz 64 x * (2 * m+1)∧Lib.ctz 64 x < 64:=by
 unfold Lib.ctz
 rw [if_neg h0]
 exact Lib.ctzFrom_spec 64 x (by omega) h
theorem strike_bit (x:Nat) (h0:x≠0) (h:x < W64) (i:Nat):(x &&& (x - 1)).testBit i=(x.testBit i && !decide (i=Lib.ctz 64 x)):=by
 obtain ⟨m,hm,hk⟩:=ctz_bit h0 h
 obtain ⟨k,hk'⟩:∃ k,k=Lib.ctz 64 x:=⟨_,rfl⟩
 rw [← hk'] at hm ⊢
 have hp:0 < 2 ^ k:=Nat.two_pow_pos k
 have hx1:x - 1=2 ^ k * (2 * m)+(2 ^ k - 1):=by rw [hm,Nat.mul_add,Nat.mul_one]; omega
 rw [Nat.testBit_and]
 by_cases hik:i < k
 ·have h1:x.testBit i=false:=by
   rw [hm,Nat.testBit_two_pow_mul]
   simp; omega
  rw [h1]; simp
 ·rw [hx1,Nat.testBit_two_pow_mul_add _ (by omega:2 ^ k - 1 < 2 ^ k),if_neg hik]
  have h2:x.testBit i=(2 * m+1).testBit (i - k):=by
   conv=>lhs; rw [hm]
   rw [Nat.testBit_two_pow_mul]
   simp; omega
  rw [h2]
  by_cases e:i=k
  ·subst e
   simp
  ·obtain ⟨j,hj⟩:∃ j,i - k=j+1:=⟨i - k - 1,by omega⟩
   rw [hj,Nat.testBit_succ,Nat.testBit_succ,show 2 * m / 2=m by omega,show (2 * m+1) / 2=m by omega]
   simp [e]
theorem strike_lt (x:Nat) (h0:x≠0):x &&& (x - 1) < x:=Nat.lt_of_le_of_lt Nat.and_le_right (by omega)
end Go.Proofs.Ts
namespace Go.Proofs.Ts
open Go Go.RowKit
def PSet.orTo (s t:PSet):Nat→PSet
 | 0=>s
 | 1=>⟨s.a ||| t.a,s.b,s.c⟩
 | 2=>⟨s.a ||| t.a,s.b ||| t.b,s.c⟩
 | _=>s.or t
theorem PSet.orTo_word (s t:PSet) {j:Nat} (h:j < 3):(s.orTo t j).word j=s.word j:=by
 match j with
 | 0=>rfl
 | 1=>rfl
 | 2=>rfl
 | n+3=>omega
theorem PSet.cells_at (s:PSet) {j:Nat} (h:j < 3):s.cells.toArray[j]?=some (.int .u64 (s.word j)):=by
 match j with
 | 0=>rfl
 | 1=>rfl
 | 2=>rfl
 | n+3=>omega
theorem PSet.orTo_succ (s t:PSet) {j:Nat} (h:j < 3):(s.orTo t j).cells.toArray.setIfInBounds j (.int .u64 ((s.word j ||| t.word j:Nat):Int))=(s.orTo t (j+1)).cells.toArray:=by
 match j with
 | 0=>rfl
 | 1=>rfl
 | 2=>rfl
 | n+3=>omega
def PSet.val (s:PSet):Value := .agg s.cells.toArray
set_option maxRecDepth 100000 in
set_option maxHeartbeats 1000000 in
theorem setOr_any (s t:PSet) (w:World) (hs:s.ok) (ht:t.ok) :
  Calls Tryz.prog 151 #[s.val,t.val] w fun e w'=>e = .returned (s.or t).val∧Below w.heap.size w w':=by
 have HS:=Lib.hid hs
 have HT:=Lib.hid ht
 clear hs ht
 unfold PSet.val PSet.cells
 go_enter Tryz.func151,Tryz.ntmps151
 go_wp2_with fail
 obtain ⟨W,hW⟩:∃ W,W=((w.alloc (.cells #[.int .u64 s.a,.int .u64 s.b,.int .u64 s.c] 272)).alloc (.cells #[.int .u64 t.a,.int .u64 t.b,.int .u64 t.c] 272)).alloc (.cells #[.int .u64 0,.int .u64 0,.int .u64 0] 272):=⟨_,rfl⟩
 rw [← hW]
 have h0:W.heap[w.heap.size]?=some (.cells (s.orTo t 0).cells.toArray 272 (0,0)):=by
  rw [hW,Below.heap_alloc _ _ _ (by simp; omega),Below.heap_alloc _ _ _ (by simp)]
  exact heap_alloc_new w _
 have h1:W.heap[w.heap.size+1]?=some (.cells t.cells.toArray 272 (0,0)):=by
  rw [hW,Below.heap_alloc _ _ _ (by simp)]
  have:=heap_alloc_new (w.alloc (.cells #[.int .u64 s.a,.int .u64 s.b,.int .u64 s.c] 272)) (.cells #[.int .u64 t.a,.int .u64 t.b,.int .u64 t.c] 272)
  rw [World.size_alloc] at this
  exact this
 have h2:W.heap[w.heap.size+1+1]?=some (.cells #[.int .u64 0,.int .u64 0,.int .u64 0] 272 (0,0)):=by
  rw [hW]
  have:=heap_alloc_new ((w.alloc (.cells #[.int .u64 s.a,.int .u64 s.b,.int .u64 s.c] 272)).alloc (.cells #[.int .u64 t.a,.int .u64 t.b,.int .u64 t.c] 272)) (.cells #[.int .u64 0,.int .u64 0,.int .u64 0] 272)
  simp only [World.size_alloc] at this
  exact this
 have hb:Below w.heap.size w W:=by rw [hW]; exact (((Below.refl _ w).alloc (Nat.le_refl _) _).alloc (by simp) _).alloc (by simp; omega) _
 have H0:=Lib.hid (show _∧_∧_∧_ from ⟨h0,h1,h2,hb⟩)
 clear hW h0 h1 h2 hb
 obtain ⟨b0,hb0⟩:∃ b0,b0=w.heap.size:=⟨_,rfl⟩
 rw [← hb0] at H0 ⊢
 have HB0:=Lib.hid hb0
 clear hb0
 go_loopw [6] (fun i wr=>∃ j:Nat,j≤3∧i = .int .i64 j∧Hid (wr.heap[b0]?=some (.cells (s.orTo t j).cells.toArray 272 (0,0))∧wr.heap[b0+1]?=some (.cells t.cells.toArray 272 (0,0)) ∧
   wr.heap[b0+1+1]?=some (.cells #[.int .u64 0,.int .u64 0,.int .u64 0] 272 (0,0))∧Below b0 w wr)) (fun i _=>3 - (intOf i).toNat)
 case atStart=>exact ⟨0,by omega,rfl,H0⟩
 case round =>
  clear H0
  obtain ⟨j,hj,rfl,HR⟩:=hrel
  obtain ⟨h0,h1,h2,hb⟩:=HR.out
  by_cases hjl:j < 3
  ·have hjz:(j:Int) < 3:=by omega
   obtain ⟨x,hx⟩:∃ x,x=s.word j:=⟨_,rfl⟩
   obtain ⟨y,hy⟩:∃ y,y=t.word j:=⟨_,rfl⟩
   have c0:wr.cell? ⟨b0,j,none⟩=some (.int .u64 x):=by rw [cell_block h0,PSet.cells_at _ hjl,PSet.orTo_word _ _ hjl,hx]
   have c1:wr.cell? ⟨b0+1,j,none⟩=some (.int .u64 y):=by rw [cell_block h1,PSet.cells_at _ hjl,hy]
   have f0:wr.frozen? ⟨b0,j,none⟩=false:=free_block h0
   have hor:=bits_or_u64_nat x y (by rw [hx]; exact PSet.ok_word HS.out j) (by rw [hy]; exact PSet.ok_word HT.out j)
   have HX:=Lib.hid (show x=s.word j∧y=t.word j from ⟨hx,hy⟩)
   clear h0 h1 h2 hb hx hy
   go_wp2_with fail
   refine wp_region_ordX [(0,false),(1,false),(2,false),(3,false),(4,false),(5,false),(6,false),(7,false),(8,true)] 8
    (fun w'=>w'.cell? ⟨b0,j,none⟩=some (.int .u64 x)∧w'.cell? ⟨b0+1,j,none⟩=some (.int .u64 y)) (by kernel_rfl) (by kernel_rfl) ⟨c0,c1⟩ ?_
   iterate 8 (
    refine wpOrd_quiet ?_ rfl rfl (fun w' hS=>?_) ?_
    rotate_left
    ·obtain ⟨e0,e1⟩:=hS
     go_simp
     first | rfl | done
    simp only [put_lit,List.set_cons_succ,List.set_cons_zero])
   refine wpOrd_last rfl rfl (fun K hK=>?_)
   go_simp
   refine hK _ _ ?_
   clear hK K
   go_wp2_with fail
   obtain ⟨h0,h1,h2,hb⟩:=HR.out
   refine ⟨⟨j+1,by omega,by go_num,?_,?_,?_,?_⟩,by simp [intOf]; omega⟩
   ·rw [← PSet.orTo_succ s t hjl,← HX.out.1,← HX.out.2]
    exact heap_setCell_same wr.drew b0 j _ _ _ h0
   ·exact (Below.heap_setCell wr ⟨b0,j,none⟩ _ (b0+1) (by simp)).trans h1
   ·exact (Below.heap_setCell wr ⟨b0,j,none⟩ _ (b0+1+1) (by simp; omega)).trans h2
   ·exact hb.drew.setCell (p:=⟨b0,j,none⟩) (Nat.le_refl _) _
  ·obtain rfl:j=3:=by omega
   have h0':wr.heap[b0]?=some (.cells #[.int .u64 (s.or t).a,.int .u64 (s.or t).b,.int .u64 (s.or t).c] 272 (0,0)):=h0
   have c0:wr.cell? ⟨b0,0,none⟩=some (.int .u64 (s.or t).a):=cell_block h0'
   have c1:wr.cell? ⟨b0,1,none⟩=some (.int .u64 (s.or t).b):=cell_block h0'
   have c2:wr.cell? ⟨b0,2,none⟩=some (.int .u64 (s.or t).c):=cell_block h0'
   have d0:wr.cell? ⟨b0+1+1,0,none⟩=some (.int .u64 0):=cell_block h2
   have d1:wr.cell? ⟨b0+1+1,1,none⟩=some (.int .u64 0):=cell_block h2
   have d2:wr.cell? ⟨b0+1+1,2,none⟩=some (.int .u64 0):=cell_block h2
   have e0:wr.frozen? ⟨b0+1+1,0,none⟩=false:=free_block h2
   have e1:wr.frozen? ⟨b0+1+1,1,none⟩=false:=free_block h2
   have e2:wr.frozen? ⟨b0+1+1,2,none⟩=false:=free_block h2
   clear h0 h0' h1 h2 hb
   go_wp2_with fail
   have g1:=heap_setCell_same wr (b0+1+1) 0 _ _ (.int .u64 ((s.or t).a:Nat)) HR.out.2.2.1
   have g2:=heap_setCell_same _ (b0+1+1) 1 _ _ (.int .u64 ((s.or t).b:Nat)) g1
   have g3:=heap_setCell_same _ (b0+1+1) 2 _ _ (.int .u64 ((s.or t).c:Nat)) g2
   refine bodyPost_ret (results_cell_row rfl _ _ (b0+1+1) _ _ (0,0) _ rfl g3 Tryz.underlying272 rfl (by kernel_rfl)) rfl ?_
   refine ⟨rfl,?_⟩
   have hb:=HR.out.2.2.2
   rw [HB0.out] at hb ⊢
   exact ((hb.setCell (p:=⟨_,0,none⟩) (by simp only; omega) _).setCell (p:=⟨_,1,none⟩) (by simp only; omega) _).setCell (p:=⟨_,2,none⟩) (by simp only; omega) _
end Go.Proofs.Ts
namespace Go.Proofs.Ts
open Go Go.RowKit
def PSet.andTo (s t:PSet):Nat→PSet
 | 0=>s
 | 1=>⟨s.a &&& t.a,s.b,s.c⟩
 | 2=>⟨s.a &&& t.a,s.b &&& t.b,s.c⟩
 | _=>s.and t
theorem PSet.andTo_word (s t:PSet) {j:Nat} (h:j < 3):(s.andTo t j).word j=s.word j:=by
 match j with
 | 0=>rfl
 | 1=>rfl
 | 2=>rfl
 | n+3=>omega
theorem PSet.andTo_succ (s t:PSet) {j:Nat} (h:j < 3):(s.andTo t j).cells.toArray.setIfInBounds j (.int .u64 ((s.word j &&& t.word j:Nat):Int))=(s.andTo t (j+1)).cells.toArray:=by
 match j with
 | 0=>rfl
 | 1=>rfl
 | 2=>rfl
 | n+3=>omega
set_option maxRecDepth 100000 in
set_option maxHeartbeats 1000000 in
theorem setAnd_any (s t:PSet) (w:World) (hs:s.ok) (ht:t.ok) :
  Calls Tryz.prog 154 #[s.val,t.val] w fun e w'=>e = .returned (s.and t).val∧Below w.heap.size w w':=by
 have HS:=Lib.hid hs
 have HT:=Lib.hid ht
 clear hs ht
 unfold PSet.val PSet.cells
 go_enter Tryz.func154,Tryz.ntmps154
 go_wp2_with fail
 obtain ⟨W,hW⟩:∃ W,W=((w.alloc (.cells #[.int .u64 s.a,.int .u64 s.b,.int .u64 s.c] 272)).alloc (.cells #[.int .u64 t.a,.int .u64 t.b,.int .u64 t.c] 272)).alloc (.cells #[.int .u64 0,.int .u64 0,.int .u64 0] 272):=⟨_,rfl⟩
 rw [← hW]
 have h0:W.heap[w.heap.size]?=some (.cells (s.andTo t 0).cells.toArray 272 (0,0)):=by
  rw [hW,Below.heap_alloc _ _ _ (by simp; omega),Below.heap_alloc _ _ _ (by simp)]
  exact heap_alloc_new w _
 have h1:W.heap[w.heap.size+1]?=some (.cells t.cells.toArray 272 (0,0)):=by
  rw [hW,Below.heap_alloc _ _ _ (by simp)]
  have:=heap_alloc_new (w.alloc (.cells #[.int .u64 s.a,.int .u64 s.b,.int .u64 s.c] 272)) (.cells #[.int .u64 t.a,.int .u64 t.b,.int .u64 t.c] 272)
  rw [World.size_alloc] at this
  exact this
 have h2:W.heap[w.heap.size+1+1]?=some (.cells #[.int .u64 0,.int .u64 0,.int .u64 0] 272 (0,0)):=by
  rw [hW]
  have:=heap_alloc_new ((w.alloc (.cells #[.int .u64 s.a,.int .u64 s.b,.int .u64 s.c] 272)).alloc (.cells #[.int .u64 t.a,.int .u64 t.b,.int .u64 t.c] 272)) (.cells #[.int .u64 0,.int .u64 0,.int .u64 0] 272)
  simp only [World.size_alloc] at this
  exact this
 have hb:Below w.heap.size w W:=by rw [hW]; exact (((Below.refl _ w).alloc (Nat.le_refl _) _).alloc (by simp) _).alloc (by simp; omega) _
 have H0:=Lib.hid (show _∧_∧_∧_ from ⟨h0,h1,h2,hb⟩)
 clear hW h0 h1 h2 hb
 obtain ⟨b0,hb0⟩:∃ b0,b0=w.heap.size:=⟨_,rfl⟩
 rw [← hb0] at H0 ⊢
 have HB0:=Lib.hid hb0
 clear hb0
 go_loopw [6] (fun i wr=>∃ j:Nat,j≤3∧i = .int .i64 j∧Hid (wr.heap[b0]?=some (.cells (s.andTo t j).cells.toArray 272 (0,0))∧wr.heap[b0+1]?=some (.cells t.cells.toArray 272 (0,0)) ∧
   wr.heap[b0+1+1]?=some (.cells #[.int .u64 0,.int .u64 0,.int .u64 0] 272 (0,0))∧Below b0 w wr)) (fun i _=>3 - (intOf i).toNat)
 case atStart=>exact ⟨0,by omega,rfl,H0⟩
 case round =>
  clear H0
  obtain ⟨j,hj,rfl,HR⟩:=hrel
  obtain ⟨h0,h1,h2,hb⟩:=HR.out
  by_cases hjl:j < 3
  ·have hjz:(j:Int) < 3:=by omega
   obtain ⟨x,hx⟩:∃ x,x=s.word j:=⟨_,rfl⟩
   obtain ⟨y,hy⟩:∃ y,y=t.word j:=⟨_,rfl⟩
   have c0:wr.cell? ⟨b0,j,none⟩=some (.int .u64 x):=by rw [cell_block h0,PSet.cells_at _ hjl,PSet.andTo_word _ _ hjl,hx]
   have c1:wr.cell? ⟨b0+1,j,none⟩=some (.int .u64 y):=by rw [cell_block h1,PSet.cells_at _ hjl,hy]
   have f0:wr.frozen? ⟨b0,j,none⟩=false:=free_block h0
   have hor:=bits_and_u64_nat x y (by rw [hx]; exact PSet.ok_word HS.out j) (by rw [hy]; exact PSet.ok_word HT.out j)
   have HX:=Lib.hid (show x=s.word j∧y=t.word j from ⟨hx,hy⟩)
   clear h0 h1 h2 hb hx hy
   go_wp2_with fail
   refine wp_region_ordX [(0,false),(1,false),(2,false),(3,false),(4,false),(5,false),(6,false),(7,false),(8,true)] 8
    (fun w'=>w'.cell? ⟨b0,j,none⟩=some (.int .u64 x)∧w'.cell? ⟨b0+1,j,none⟩=some (.int .u64 y)) (by kernel_rfl) (by kernel_rfl) ⟨c0,c1⟩ ?_
   iterate 8 (
    refine wpOrd_quiet ?_ rfl rfl (fun w' hS=>?_) ?_
    rotate_left
    ·obtain ⟨e0,e1⟩:=hS
     go_simp
     first | rfl | done
    simp only [put_lit,List.set_cons_succ,List.set_cons_zero])
   refine wpOrd_last rfl rfl (fun K hK=>?_)
   go_simp
   refine hK _ _ ?_
   clear hK K
   go_wp2_with fail
   obtain ⟨h0,h1,h2,hb⟩:=HR.out
   refine ⟨⟨j+1,by omega,by go_num,?_,?_,?_,?_⟩,by simp [intOf]; omega⟩
   ·rw [← PSet.andTo_succ s t hjl,← HX.out.1,← HX.out.2]
    exact heap_setCell_same wr.drew b0 j _ _ _ h0
   ·exact (Below.heap_setCell wr ⟨b0,j,none⟩ _ (b0+1) (by simp)).trans h1
   ·exact (Below.heap_setCell wr ⟨b0,j,none⟩ _ (b0+1+1) (by simp; omega)).trans h2
   ·exact hb.drew.setCell (p:=⟨b0,j,none⟩) (Nat.le_refl _) _
  ·obtain rfl:j=3:=by omega
   have h0':wr.heap[b0]?=some (.cells #[.int .u64 (s.and t).a,.int .u64 (s.and t).b,.int .u64 (s.and t).c] 272 (0,0)):=h0
   have c0:wr.cell? ⟨b0,0,none⟩=some (.int .u64 (s.and t).a):=cell_block h0'
   have c1:wr.cell? ⟨b0,1,none⟩=some (.int .u64 (s.and t).b):=cell_block h0'
   have c2:wr.cell? ⟨b0,2,none⟩=some (.int .u64 (s.and t).c):=cell_block h0'
   have d0:wr.cell? ⟨b0+1+1,0,none⟩=some (.int .u64 0):=cell_block h2
   have d1:wr.cell? ⟨b0+1+1,1,none⟩=some (.int .u64 0):=cell_block h2
   have d2:wr.cell? ⟨b0+1+1,2,none⟩=some (.int .u64 0):=cell_block h2
   have e0:wr.frozen? ⟨b0+1+1,0,none⟩=false:=free_block h2
   have e1:wr.frozen? ⟨b0+1+1,1,none⟩=false:=free_block h2
   have e2:wr.frozen? ⟨b0+1+1,2,none⟩=false:=free_block h2
   clear h0 h0' h1 h2 hb
   go_wp2_with fail
   have g1:=heap_setCell_same wr (b0+1+1) 0 _ _ (.int .u64 ((s.and t).a:Nat)) HR.out.2.2.1
   have g2:=heap_setCell_same _ (b0+1+1) 1 _ _ (.int .u64 ((s.and t).b:Nat)) g1
   have g3:=heap_setCell_same _ (b0+1+1) 2 _ _ (.int .u64 ((s.and t).c:Nat)) g2
   refine bodyPost_ret (results_cell_row rfl _ _ (b0+1+1) _ _ (0,0) _ rfl g3 Tryz.underlying272 rfl (by kernel_rfl)) rfl ?_
   refine ⟨rfl,?_⟩
   have hb:=HR.out.2.2.2
   rw [HB0.out] at hb ⊢
   exact ((hb.setCell (p:=⟨_,0,none⟩) (by simp only; omega) _).setCell (p:=⟨_,1,none⟩) (by simp only; omega) _).setCell (p:=⟨_,2,none⟩) (by simp only; omega) _
end Go.Proofs.Ts
namespace Go.Proofs.Ts
open Go Go.RowKit
def SetAt (w:World) (b o:Nat) (s:PSet):Prop:=∀ j,j < 3→w.cell? ⟨b,o+j,none⟩=some (.int .u64 (s.word j))∧w.frozen? ⟨b,o+j,none⟩=false
set_option maxRecDepth 100000 in
set_option maxHeartbeats 1000000 in
theorem setOn_any (b o k:Nat) (s:PSet) (w:World) (hs:s.ok) (hk:k < 192) (hA:SetAt w b o s) :
  Calls Tryz.prog 126 #[.pointer (some ⟨b,o,none⟩),.int .i64 k] w fun e w'=>e = .returned (.tuple #[])∧Same (w.setCell ⟨b,o+k / 64,none⟩ (.int .u64 ((s.word (k / 64) ||| 2 ^ (k % 64):Nat):Int))) w':=by
 obtain ⟨q,hq⟩:∃ q,q=k / 64:=⟨_,rfl⟩
 obtain ⟨r,hr⟩:∃ r,r=k % 64:=⟨_,rfl⟩
 have hq3:q < 3:=by omega
 have hr64:r < 64:=by omega
 obtain ⟨x,hx⟩:∃ x,x=s.word (k / 64):=⟨_,rfl⟩
 obtain ⟨y,hy⟩:∃ y,y=2 ^ (k % 64):=⟨_,rfl⟩
 rw [← hx,← hy,← hq]
 have c0:w.cell? ⟨b,o+q,none⟩=some (.int .u64 x):=by rw [hx,← hq]; exact (hA q hq3).1
 have f0:w.frozen? ⟨b,o+q,none⟩=false:=(hA q hq3).2
 have hor:=bits_or_u64_nat x y (by rw [hx]; exact PSet.ok_word hs _) (by rw [hy]; exact PSet.bit_lt k)
 have d1:(k:Int) / 64=(q:Int):=by omega
 have d2:(k:Int) % 64=(r:Int):=by omega
 have d3:Int.tdiv (k:Int) 64=(q:Int):=by rw [Int.tdiv_eq_ediv_of_nonneg (by omega)]; exact d1
 have d4:Int.tmod (k:Int) 64=(r:Int):=by rw [Int.tmod_eq_emod_of_nonneg (by omega)]; exact d2
 have d5:IntKind.u64.wrap (2 ^ r)=(y:Int):=by
  have h:2 ^ (k % 64) < 18446744073709551616:=PSet.bit_lt k
  rw [← hr] at h hy
  rw [IntKind.wrap_u64,hy]
  have e:((2:Int) ^ r)=((2 ^ r:Nat):Int):=by simp
  rw [e]
  exact Int.emod_eq_of_lt (by omega) (by omega)
 have d6:IntKind.i64.wrap (q:Int)=(q:Int):=by rw [IntKind.wrap_i64]; omega
 have d7:IntKind.i64.wrap (r:Int)=(r:Int):=by rw [IntKind.wrap_i64]; omega
 have d8:(q:Int) < 3:=by omega
 clear hA hs hx hy hq hr
 go_enter Tryz.func126,Tryz.ntmps126
 go_wp2_with fail
 refine wp_region_ordX [(0,false),(1,false),(2,false),(3,false),(4,false),(5,false),(6,false),(7,false),(8,false),(9,false),(10,true),(11,true),(12,true)] 12
  (fun w'=>w'.cell? ⟨b,o+q,none⟩=some (.int .u64 x)) (by kernel_rfl) (by kernel_rfl) c0 ?_
 iterate 10 (
  refine wpOrd_quiet ?_ rfl rfl (fun w' hS=>?_) ?_
  rotate_left
  ·go_simp
   first | rfl | done
  simp only [put_lit,List.set_cons_succ,List.set_cons_zero])
 iterate 2 (
  refine wpOrd_loud rfl rfl (by decide) (fun K hK=>?_)
  go_simp
  refine hK _ _ c0 ?_
  clear hK K)
 refine wpOrd_last rfl rfl (fun K hK=>?_)
 go_simp
 refine hK _ _ ?_
 clear hK K
 go_wp2_with fail
 go_end0
 exact ⟨rfl,Same.drew _⟩
def beginSet:PSet:=PSet.zero.on 128
theorem SetAt.of_block {w:World} {b:Nat} {s:PSet} {T:TypeId} (h:w.heap[b]?=some (.cells s.cells.toArray T (0,0))):SetAt w b 0 s:=fun j hj=>by
 rw [Nat.zero_add]
 exact ⟨(cell_block h).trans (PSet.cells_at s hj),free_block h⟩
theorem PSet.setw_cells (s:PSet) {i:Nat} (h:i < 3) (v:Nat):s.cells.toArray.setIfInBounds i (.int .u64 v)=(s.setw i v).cells.toArray:=by
 match i with
 | 0=>rfl
 | 1=>rfl
 | 2=>rfl
 | n+3=>omega
theorem setOn_block (b k:Nat) (s:PSet) (T:TypeId) (w:World) (hs:s.ok) (hk:k < 192) (hb:w.heap[b]?=some (.cells s.cells.toArray T (0,0))) :
  Calls Tryz.prog 126 #[.pointer (some ⟨b,0,none⟩),.int .i64 k] w fun e w'=>e = .returned (.tuple #[])∧w'.heap[b]?=some (.cells (s.on k).cells.toArray T (0,0))∧(∀ j,j≠b→w'.heap[j]?=w.heap[j]?) ∧ ∀ B,B≤b→Below B w w':=by
 refine (setOn_any b 0 k s w hs hk (SetAt.of_block hb)).mono ?_
 rintro e w' ⟨rfl,hS⟩
 rw [Nat.zero_add] at hS
 refine ⟨rfl,?_,fun j hj=>?_,fun B hB=>?_⟩
 ·rw [hS.heap,heap_setCell_same w b (k / 64) _ _ _ hb,PSet.setw_cells s (by omega)]
  rfl
 ·rw [hS.heap]
  exact Below.heap_setCell w ⟨b,k / 64,none⟩ _ j hj
 ·exact ((Below.refl _ w).setCell (p:=⟨b,k / 64,none⟩) hB _).trans (hS.below _)
set_option maxRecDepth 100000 in
set_option maxHeartbeats 1000000 in
theorem machStart_any (v:Value) (w:World) :
  Calls Tryz.prog 127 #[v] w fun e w'=>e = .returned beginSet.val∧Below w.heap.size w w':=by
 have h1:((w.alloc (.cells #[.int .u64 0,.int .u64 0,.int .u64 0] 272)).alloc (.cells #[.int .u64 0,.int .u64 0,.int .u64 0] 272)).heap[w.heap.size+1]?=some (.cells PSet.zero.cells.toArray 272 (0,0)):=by
  have:=heap_alloc_new (w.alloc (.cells #[.int .u64 0,.int .u64 0,.int .u64 0] 272)) (.cells #[.int .u64 0,.int .u64 0,.int .u64 0] 272)
  rw [World.size_alloc] at this
  exact this
 have h0:((w.alloc (.cells #[.int .u64 0,.int .u64 0,.int .u64 0] 272)).alloc (.cells #[.int .u64 0,.int .u64 0,.int .u64 0] 272)).heap[w.heap.size]?=some (.cells #[.int .u64 0,.int .u64 0,.int .u64 0] 272 (0,0)):=by
  rw [Below.heap_alloc _ _ _ (by simp)]
  exact heap_alloc_new w _
 have hb:Below w.heap.size w ((w.alloc (.cells #[.int .u64 0,.int .u64 0,.int .u64 0] 272)).alloc (.cells #[.int .u64 0,.int .u64 0,.int .u64 0] 272)):=((Below.refl _ w).alloc (Nat.le_refl _) _).alloc (by simp) _
 have H:=Lib.hid (show _∧_∧_ from ⟨h0,h1,hb⟩)
 clear h0 h1 hb
 go_enter Tryz.func127,Tryz.ntmps127
 go_wp2_with fail
 generalize ((w.alloc (.cells #[.int .u64 0,.int .u64 0,.int .u64 0] 272)).alloc (.cells #[.int .u64 0,.int .u64 0,.int .u64 0] 272))=W at *
 refine (setOn_block (w.heap.size+1) 128 PSet.zero _ W PSet.ok_zero (by decide) H.out.2.1).mono ?_
 rintro e w1 ⟨rfl,g1,g2,g3⟩
 have g0:=(g2 w.heap.size (by omega)).trans H.out.1
 have gb:Below w.heap.size w w1:=H.out.2.2.trans (g3 _ (by omega))
 have c0:w1.cell? ⟨w.heap.size+1,0,none⟩=some (.int .u64 beginSet.a):=cell_block g1
 have c1:w1.cell? ⟨w.heap.size+1,1,none⟩=some (.int .u64 beginSet.b):=cell_block g1
 have c2:w1.cell? ⟨w.heap.size+1,2,none⟩=some (.int .u64 beginSet.c):=cell_block g1
 have f0:w1.frozen? ⟨w.heap.size,0,none⟩=false:=free_block g0
 have f1:w1.frozen? ⟨w.heap.size,1,none⟩=false:=free_block g0
 have f2:w1.frozen? ⟨w.heap.size,2,none⟩=false:=free_block g0
 have d0:w1.cell? ⟨w.heap.size,0,none⟩=some (.int .u64 0):=cell_block g0
 have d1:w1.cell? ⟨w.heap.size,1,none⟩=some (.int .u64 0):=cell_block g0
 have d2:w1.cell? ⟨w.heap.size,2,none⟩=some (.int .u64 0):=cell_block g0
 have G0:=Lib.hid (show _∧_ from ⟨g0,gb⟩)
 clear g0 g1 g2 g3 gb H
 obtain ⟨bs,hbs⟩:∃ bs,bs=beginSet:=⟨_,rfl⟩
 rw [← hbs] at c0 c1 c2
 have HBS:=Lib.hid hbs
 clear hbs
 go_wp2_with fail
 have k1:=heap_setCell_same w1 w.heap.size 0 _ _ (.int .u64 (bs.a:Nat)) G0.out.1
 have k2:=heap_setCell_same _ w.heap.size 1 _ _ (.int .u64 (bs.b:Nat)) k1
 have k3:=heap_setCell_same _ w.heap.size 2 _ _ (.int .u64 (bs.c:Nat)) k2
 refine bodyPost_ret (results_cell_row rfl _ _ w.heap.size _ _ (0,0) _ rfl k3 Tryz.underlying272 rfl (by kernel_rfl)) rfl ?_
 refine ⟨by rw [← HBS.out]; rfl,?_⟩
 exact ((G0.out.2.setCell (p:=⟨_,0,none⟩) (Nat.le_refl _) _).setCell (p:=⟨_,1,none⟩) (Nat.le_refl _) _).setCell (p:=⟨_,2,none⟩) (Nat.le_refl _) _
end Go.Proofs.Ts
namespace Go.Proofs.Ts
open Go Go.RowKit
structure PM where
 at':List PSet
 follow:List PSet
 last:PSet
 n:Nat
 deriving Inhabited
def setCells (l:List PSet):List Value:=l.flatMap PSet.cells
theorem setCells_len (l:List PSet):(setCells l).length=l.length * 3:=by
 unfold setCells
 induction l with
 | nil=>rfl
 | cons a l ih=>rw [List.flatMap_cons,List.length_append,ih,List.length_cons]; show 3+_=_; omega
theorem setCells_at:∀ (l:List PSet) (k:Nat) (s:PSet),l[k]?=some s → ∀ j,j < 3→(setCells l)[k * 3+j]?=some (.int .u64 (s.word j))
 | [],k,s,h,_,_=>by simp at h
 | y :: t,0,s,h,j,hj=>by
  simp at h
  subst h
  match j with
  | 0=>rfl
  | 1=>rfl
  | 2=>rfl
  | n+3=>omega
 | y :: t,k+1,s,h,j,hj=>by
  have ih:=setCells_at t k s (by simpa using h) j hj
  have e:setCells (y :: t) = .int .u64 y.a :: .int .u64 y.b :: .int .u64 y.c :: setCells t:=by simp [setCells,PSet.cells]
  rw [e,show (k+1) * 3+j=(k * 3+j)+1+1+1 by omega]
  simpa using ih
def PM.cells (M:PM):List Value:=setCells M.at'++(setCells M.follow++(M.last.cells++[.int .i64 M.n]))
structure PM.ok (M:PM):Prop where
 la:M.at'.length=256
 lf:M.follow.length=129
 oa:∀ s∈M.at',s.ok
 of':∀ s∈M.follow,s.ok
 ol:M.last.ok
def MachIs (w:World) (mb:Nat) (M:PM):Prop:=M.ok∧w.heap[mb]?=some (.cells M.cells.toArray 276 (0,0))
theorem MachIs.keepG {w w':World} {mb:Nat} {M:PM} (h:MachIs w mb M) (hk:KeepG w w'):MachIs w' mb M:=⟨h.1,(hk _ _ _ _ h.2 (by decide) (by decide)).trans h.2⟩
theorem MachIs.below {w w':World} {mb:Nat} {M:PM} (h:MachIs w mb M) (hb:Below w.heap.size w w'):MachIs w' mb M:=⟨h.1,(hb.block _ (lt_of_heap h.2)).trans h.2⟩
section
variable {w:World} {mb:Nat} {M:PM}
theorem MachIs.cell (h:MachIs w mb M) (i:Nat):w.cell? ⟨mb,i,none⟩=M.cells[i]?:=by rw [cell_block h.2]; simp
theorem MachIs.free (h:MachIs w mb M) (i:Nat):w.frozen? ⟨mb,i,none⟩=false:=free_block h.2
theorem MachIs.atC (h:MachIs w mb M) {c:Nat} {s:PSet} (hc:M.at'[c]?=some s):SetAt w mb (c * 3) s:=fun j hj=>by
 refine ⟨?_,h.free _⟩
 have hl:=(List.getElem?_eq_some_iff.1 hc).1
 have:=setCells_len M.at'
 rw [h.cell,PM.cells,List.getElem?_append_left (by omega)]
 exact setCells_at _ _ _ hc j hj
theorem MachIs.followC (h:MachIs w mb M) {k:Nat} {s:PSet} (hc:M.follow[k]?=some s):SetAt w mb (768+k * 3) s:=fun j hj=>by
 refine ⟨?_,h.free _⟩
 have hl:=(List.getElem?_eq_some_iff.1 hc).1
 have h1:=setCells_len M.at'
 have h2:=setCells_len M.follow
 have h3:=h.1.la
 rw [h.cell,PM.cells,List.getElem?_append_right (by omega),List.getElem?_append_left (by omega),show 768+k * 3+j - (setCells M.at').length=k * 3+j by omega]
 exact setCells_at _ _ _ hc j hj
theorem MachIs.lastC (h:MachIs w mb M):SetAt w mb 1155 M.last:=fun j hj=>by
 refine ⟨?_,h.free _⟩
 have h1:=setCells_len M.at'
 have h2:=setCells_len M.follow
 have h3:=h.1.la
 have h4:=h.1.lf
 rw [h.cell,PM.cells,List.getElem?_append_right (by omega),List.getElem?_append_right (by omega),List.getElem?_append_left (by show _ < 3; omega),show 1155+j - (setCells M.at').length - (setCells M.follow).length=j by omega]
 have:=M.last.cells_at hj
 simpa using this
end
theorem set_equalIn (d:Nat) (s t:PSet) (W:World):(Op.equalIn (d+2) 272 s.val t.val).run Tryz.prog W = .ok (decide (s=t)) W:=by
 obtain ⟨a,b,c⟩:=s
 obtain ⟨a',b',c'⟩:=t
 have hn:(Go.sizeOf 249).run Tryz.prog W = .ok 1 W:=by kernel_rfl
 have hu:=Tryz.underlying249
 unfold PSet.val PSet.cells
 rw [Op.equalIn]
 simp only [Sem.run_bind,run_underlying Tryz.underlying272,Result.andThen_ok,hn]
 have hia:∀ W,(isAgg 249).run Tryz.prog W = .ok false W:=fun W=>by kernel_rfl
 have heq:∀ (x y:Nat) W,(Op.equalIn (d+1) 249 (.int .u64 x) (.int .u64 y)).run Tryz.prog W = .ok (decide (x=y)) W:=fun x y W=>by
  have e:((x:Int) == (y:Int))=decide (x=y):=by
   rw [Bool.eq_iff_iff,beq_iff_eq,decide_eq_true_iff]
   omega
  rw [run_equalIn_int (P:=Tryz.prog) (w:=W) d 249 .u64 .u64 x y hu,e]
 simp only [go_sem]
 simp [show List.range' 0 3=[0,1,2] from rfl,Sem.run_bind,hia,heq]
 by_cases h1:a=a' <;> by_cases h2:b=b' <;> by_cases h3:c=c' <;> simp [h1,h2,h3]
theorem set_neq (s t:PSet) (W:World):(binOp .neq 272 s.val t.val).run Tryz.prog W = .ok (.bool (!decide (s=t))) W:=by
 have h:=set_equalIn 9998 s t W
 unfold PSet.val at h ⊢
 rw [run_neq_struct]
 rw [show (10000:Nat)=9998+2 from rfl,h]
 rfl
theorem set_guard (x y:Operand) (a b:Array Value) (W:World):(eqGuard .neq 272 x y (.agg a) (.agg b)).run Tryz.prog W = .ok () W:=by
 unfold eqGuard
 simp [Sem.run_bind,run_program]
def PM.ends (M:PM) (s:PSet):Bool:=!decide (s.and M.last=PSet.zero)
set_option maxRecDepth 100000 in
set_option maxHeartbeats 1000000 in
theorem machEnds_any (mb:Nat) (M:PM) (s:PSet) (w:World) (hs:s.ok) (hM:MachIs w mb M) :
  Calls Tryz.prog 130 #[ptrV mb,s.val] w fun e w'=>e = .returned (.bool (M.ends s))∧Below w.heap.size w w':=by
 have hl:=hM.lastC
 have HS:=Lib.hid hs
 have HM:=Lib.hid hM
 have m0:=(hl 0 (by decide)).1
 have m1:=(hl 1 (by decide)).1
 have m2:=(hl 2 (by decide)).1
 have hneq:∀ W,(binOp .neq 272 (s.and M.last).val PSet.zero.val).run Tryz.prog W = .ok (.bool (M.ends s)) W:=set_neq (s.and M.last) PSet.zero
 clear hl hs hM
 generalize M.ends s=r at *
 have HNEQ:=Lib.hid hneq
 clear hneq
 unfold ptrV PSet.val PSet.cells
 go_enter Tryz.func130,Tryz.ntmps130
 go_wp2_with fail
 have hb0:Below w.heap.size w (w.alloc (.cells #[.int .u64 s.a,.int .u64 s.b,.int .u64 s.c] 272)):=(Below.refl _ w).alloc (Nat.le_refl _) _
 have hbx:=heap_alloc_new w (.cells #[.int .u64 s.a,.int .u64 s.b,.int .u64 s.c] 272)
 have n0:=(hb0.cell (p:=⟨mb,1155+0,none⟩) (lt_of_cell m0)).trans m0
 have n1:=(hb0.cell (p:=⟨mb,1155+1,none⟩) (lt_of_cell m1)).trans m1
 have n2:=(hb0.cell (p:=⟨mb,1155+2,none⟩) (lt_of_cell m2)).trans m2
 have HB0:=Lib.hid hb0
 clear m0 m1 m2 hb0
 obtain ⟨b,hb⟩:∃ b,b=w.heap.size:=⟨_,rfl⟩
 rw [← hb] at hbx ⊢
 clear hb
 generalize w.alloc (.cells #[.int .u64 s.a,.int .u64 s.b,.int .u64 s.c] 272)=W at *
 have c0:W.cell? ⟨b,0,none⟩=some (.int .u64 s.a):=cell_block hbx
 have c1:W.cell? ⟨b,1,none⟩=some (.int .u64 s.b):=cell_block hbx
 have c2:W.cell? ⟨b,2,none⟩=some (.int .u64 s.c):=cell_block hbx
 clear hbx
 have hla:M.last.word 0=M.last.a:=rfl
 have hlb:M.last.word 1=M.last.b:=rfl
 have hlc:M.last.word 2=M.last.c:=rfl
 rw [hla] at n0
 rw [hlb] at n1
 rw [hlc] at n2
 clear hla hlb hlc
 refine wp_region_ord [(0,false),(1,false),(2,false),(3,false),(4,false),(6,false),(5,true),(7,false),(8,false)]
  (fun w'=>(w'.cell? ⟨b,0,none⟩=some (.int .u64 s.a)∧w'.cell? ⟨b,1,none⟩=some (.int .u64 s.b)∧w'.cell? ⟨b,2,none⟩=some (.int .u64 s.c)) ∧
   w'.cell? ⟨mb,1155,none⟩=some (.int .u64 M.last.a)∧w'.cell? ⟨mb,1155+1,none⟩=some (.int .u64 M.last.b)∧w'.cell? ⟨mb,1155+2,none⟩=some (.int .u64 M.last.c)) (by kernel_rfl) (by kernel_rfl) ⟨⟨c0,c1,c2⟩,n0,n1,n2⟩ ?_
 iterate 6 (
  refine wpOrd_quiet ?_ rfl rfl (fun w' hS=>?_) ?_
  rotate_left
  ·obtain ⟨⟨e0,e1,e2⟩,f0,f1,f2⟩:=hS
   go_simp
   first | rfl | done
  simp only [put_lit,List.set_cons_succ,List.set_cons_zero])
 refine wpOrd_loud rfl rfl (by decide) (fun K hK=>?_)
 go_simp
 have hcall:=setAnd_any s M.last W.drew HS.out HM.out.1.ol
 have hneq:=HNEQ.out
 have hgrd:=fun x y W=>set_guard x y (s.and M.last).cells.toArray PSet.zero.cells.toArray W
 unfold PSet.val PSet.cells at hcall hneq
 unfold PSet.cells at hgrd
 have z:(PSet.zero.a:Int)=0∧(PSet.zero.b:Int)=0∧(PSet.zero.c:Int)=0:=⟨rfl,rfl,rfl⟩
 rw [z.1,z.2.1,z.2.2] at hneq hgrd
 clear z
 refine hcall.mono ?_
 clear hcall
 rintro e W2 ⟨rfl,hb2⟩
 have hb2':Below W.heap.size W W2:=(Below.refl _ _).drew.trans hb2
 have g0:=(hb2'.cell (p:=⟨b,0,none⟩) (lt_of_cell c0)).trans c0
 have g1:=(hb2'.cell (p:=⟨b,1,none⟩) (lt_of_cell c1)).trans c1
 have g2:=(hb2'.cell (p:=⟨b,2,none⟩) (lt_of_cell c2)).trans c2
 have k0:=(hb2'.cell (p:=⟨mb,1155+0,none⟩) (lt_of_cell n0)).trans n0
 have k1:=(hb2'.cell (p:=⟨mb,1155+1,none⟩) (lt_of_cell n1)).trans n1
 have k2:=(hb2'.cell (p:=⟨mb,1155+2,none⟩) (lt_of_cell n2)).trans n2
 refine hK _ _ ⟨⟨g0,g1,g2⟩,k0,k1,k2⟩ ?_
 clear hK K g0 g1 g2 k0 k1 k2 c0 c1 c2 n0 n1 n2
 iterate 2 (
  refine wpOrd_quiet ?_ rfl rfl (fun w' hS=>?_) ?_
  rotate_left
  ·clear hS
   go_simp
   first | rfl | done
  simp only [put_lit,List.set_cons_succ,List.set_cons_zero])
 refine wpOrd_nil ?_
 go_wp2_with fail
 go_ret
 exact ⟨rfl,HB0.out.trans (hb2'.mono HB0.out.size)⟩
end Go.Proofs.Ts
namespace Go.Proofs.Ts
open Go Go.RowKit
variable {F:Fence} {n:Nat} {P:Program}
def AllGives {α:Type} (F:Fence) (n:Nat) (P:Program) (g:Nat) (fst lb:Array Value) (encs:α→Array Value) (b:Nat) (xs:List α) (w:World):Prop :=
 ∀ (l:Nat) (J:List α→World→Prop) (W:World),Below w.heap.size w W→AbidesFrom W.heap.size J →
  (∀ pre x W1,J pre W1→pre++[x] <+: xs→YieldAt F (n - 1) P l (encs x) W1 fun e W'=>e = .returned (.bool true)∧J (pre++[x]) W'∧W'.heap[b]?=W1.heap[b]?) →
  J [] W →
  CallsIn F n P g (fst++#[.func (.yield l) #[] #[]]++lb) W fun e W'=>(∃ v,e = .returned v)∧J xs W'
theorem wpIn_rangeAll {α:Type} {g:Operand} {ps:Array Tmp} {assign body:Code} {Q:Exit→Act→World→Prop} {a:Act} {w:World}
  (hro:F.round=none) (h1:1≤n) {gf:Nat} {fst lb:Array Value} (hg:a.eval g = .func (.func gf) fst lb) (hFg:F.fn gf) (eg:∀ args w,(callFunc gf args).run P w = .ok (.enter gf args) w)
  {encs:α→Array Value} {b:Nat} (hb:b < w.heap.size) {xs:List α} (hseq:AllGives F (n - 1) P gf fst lb encs b xs w) (hps:∀ x,(encs x).size=ps.size)
  (I:List α→World→Prop) (hI:OwnFrom w.heap.size I) (h0:I [] w) (a₁:α→Act)
  (hassign:∀ (l:Nat) (x:α) (W:World) (K:Act→World→Prop),K (a₁ x) W →
   assign.wpIn (F.inRound l) (n - 1 - 1) P (Exit.then K (fun _ _ _=>False)) { tmps:=(ps.zip (encs x)).foldl (fun t (p,v)=>t.setIfInBounds p v) a.tmps,defers:=[] } W)
  (hbody:∀ (l:Nat) (pre:List α) (x:α) (W:World),I pre W→pre++[x] <+: xs→body.wpIn (F.inRound l) (n - 1 - 1) P (Exit.then (fun _ W'=>KeepsOthers W W'∧W'.heap[b]?=W.heap[b]?∧I (pre++[x]) W') (fun _ _ _=>False)) (a₁ x) W)
  (hdone:∀ (D:Nat) (W:World),w.heap.size≤D→I xs W→W.heap[D]?=some (.deferred (some []))→Q .normal { a with defers:={ target := .collected D,args:=#[] } :: a.defers } W) :
  (Code.rangeFunc g ps assign body).wpIn F n P Q a w:=by
 refine wpIn_rangeFunc ?_
 intro fn hfn
 rw [hro]
 obtain ⟨rec,hrec⟩:∃ rec:LoopState→Option Code→Loop,rec=fun st pe=>{ state:=st,pending:=pe,fn,tmps:=a.tmps,params:=ps,assign,body,defers:=w.heap.size }:=⟨_,rfl⟩
 obtain ⟨W1,hW1⟩:∃ W1,(w.alloc (.deferred (some []))).alloc (.loop (rec .ready none))=W1:=⟨_,rfl⟩
 have hL1:W1.heap[w.heap.size+1]?=some (.loop (rec .ready none)):=by
  rw [← hW1]
  have:=World.alloc_heap_new (w.alloc (.deferred (some []))) (.loop (rec .ready none))
  rwa [World.size_alloc] at this
 have hK1:W1.heap[w.heap.size]?=some (.deferred (some [])):=by
  rw [← hW1]
  exact (Below.heap_alloc _ _ _ (by simp)).trans (World.alloc_heap_new w _)
 have hI1:I [] W1:=by rw [← hW1]; exact hI.alloc _ (hI.alloc _ h0)
 have hb1:Below w.heap.size w W1:=by rw [← hW1]; exact ((Below.refl _ w).alloc (Nat.le_refl _) _).alloc (by simp) _
 refine ⟨w.heap.size+1,[{ target := .collected w.heap.size,args:=#[] }],W1,{ target := .fn (.func gf) lb,args:=fst++#[.func (.yield (w.heap.size+1)) #[] #[]] },W1,gf,
  fst++#[.func (.yield (w.heap.size+1)) #[] #[]]++lb,W1,?_,?_,?_,?_,fun _=>h1,?_⟩
 ·rw [← hW1,hrec]; exact run_enterLoop_outer _ _ _ _ _
 ·simp only [resolve,hg]
  simp [go_sem]
 ·intro f' hf'
  simp [Target.leads] at hf'
  subst hf'
  exact hFg
 ·simp [invoke,go_sem,eg]
 ·have hsz:W1.heap.size=w.heap.size+2:=by rw [← hW1]; simp
  have turn:∀ {A B:World} {row:Option Nat},(∀ r,row=some r→W1.heap.size≤r ∧ ∃ o:Obj,A.heap[r]?=some o∧o.isWalk=true) → ∀ r,row=some r→w.heap.size≤r ∧ ∃ o:Obj,A.heap[r]?=some o∧o.isCells=false :=
   fun hr r e=>by
    obtain ⟨hB,o,ho,hw⟩:=hr r e
    exact ⟨by omega,o,ho,Obj.not_cells_of_walk hw⟩
  refine (hseq (w.heap.size+1) (fun pre W=>I pre W∧W.heap[w.heap.size+1]?=some (.loop (rec .ready none))∧W.heap[w.heap.size]?=some (.deferred (some []))) W1 hb1
   (fun s A B row hs hg' hr=>⟨hI s A B row hs.1 hg' (turn (B:=B) hr),(grownBy_keeps hg' (fun r e=>(hr r e).2) hs.2.1 rfl).trans hs.2.1,(grownBy_keeps hg' (fun r e=>(hr r e).2) hs.2.2 rfl).trans hs.2.2⟩)
   ?_ ⟨hI1,hL1,hK1⟩).mono ?_
  ·rintro pre x W ⟨hi,hl,hk⟩ hpx
   have hlt:w.heap.size+1 < W.heap.size:=(Array.getElem?_eq_some_iff.1 hl).1
   have hy:=run_yield (P:=P) (args:=encs x) hl (by rw [hrec]; exact hps x)
   rw [hrec] at hy
   refine ⟨fn,_,assign,body,hy,roundIn_of_wpIn hfn (hassign _ x W _ ⟨_,run_beginRound hl (by rw [hrec]),?_⟩)⟩
   have hl2:(W.putObj (w.heap.size+1) (.loop { rec .ready none with state := .busy })).heap[w.heap.size+1]?=some (.loop { rec .ready none with state := .busy }):=World.putObj_heap_same hlt
   have hk2:(W.putObj (w.heap.size+1) (.loop { rec .ready none with state := .busy })).heap[w.heap.size]?=some (.deferred (some [])):=(World.putObj_heap_other (by omega)).trans hk
   refine wpIn_mono (hbody _ pre x _ (hI.putObj _ hi (by omega) hl rfl) hpx) ?_
   intro e a3 W3 hp
   cases e with
   | normal =>
    obtain ⟨hk3,hkb,hi3⟩:=hp
    have hl3:=hk3.same _ _ hl2 rfl
    have hend:=run_endRound (P:=P) none hl3
    rw [hrec] at hl3 hend
    refine ⟨_,_,hend,rfl,⟨hI.putObj _ hi3 (by omega) hl3 rfl,?_,(World.putObj_heap_other (by omega)).trans (hk3.same _ _ hk2 rfl)⟩,?_⟩
    ·rw [hrec]
     exact World.putObj_heap_same (Array.getElem?_eq_some_iff.1 hl3).1
    ·exact (World.putObj_heap_other (by omega)).trans (hkb.trans (World.putObj_heap_other (by omega)))
   | ret=>exact hp.elim
   | exit id=>exact hp.elim
   | goto t=>exact hp.elim
   | panic ch=>exact hp.elim
   | outgrown=>exact hp.elim
  ·rintro e W2 ⟨⟨v,rfl⟩,hi,hl,hk⟩
   have hend:=run_endLoop (P:=P) hl (by rw [hrec]; simp)
   rw [hrec] at hend
   exact ⟨none,_,hend,hdone _ _ (Nat.le_refl _) (hI.putObj _ hi (by omega) hl rfl) ((World.putObj_heap_other (by omega)).trans hk)⟩
theorem leaves_one {fn:Func} {tmps:Array Value} {R:Ending→World→Prop} (D:Nat) (w:World) (hD:w.heap[D]?=some (.deferred (some [])))
  (h:∀ w',Mod (fun k=>k=D) w w' → ∃ v,(results fn tmps).run P w' = .ok v w'∧R (.returned v) w'):LeavesInM F n P fn tmps R [{ target := .collected D,args:=#[] }] .returning w:=by
 have hg:=grownBy_putObj' w D (.deferred none)
 obtain ⟨v,h1,h2⟩:=h _ (Mod.grown (S:=fun k=>k=D) hg fun k e _=>by cases e; rfl)
 exact ⟨by simp,.inl ⟨D,_,rfl,run_takeDeferred hD,v,h1,h2⟩⟩
theorem own_cells {β:Type} (B k:Nat) (cs:β→Array Value) (T:β→TypeId) (r:β→Nat × Nat):OwnFrom B (fun (x:β) W=>W.heap[k]?=some (.cells (cs x) (T x) (r x))):=fun s W W' row hs hg hr=>by
 refine (hg.block k (Array.getElem?_eq_some_iff.1 hs).1 fun e=>?_).trans hs
 obtain ⟨_,o,ho,hc⟩:=hr k e.symm
 rw [hs] at ho
 cases ho
 cases hc
end Go.Proofs.Ts
namespace Go.Proofs.Ts
open Go Go.RowKit Go.Shelf
attribute [local go_sem] Oper.semAt_some
def lowTo (f:List UInt8) (i:Nat):List UInt8:=lowL (f.take i)++f.drop i
theorem lowTo_zero (f:List UInt8):lowTo f 0=f:=by simp [lowTo,lowL]
theorem lowTo_all (f:List UInt8):lowTo f f.length=lowL f:=by simp [lowTo]
theorem lowTo_length (f:List UInt8) (i:Nat):(lowTo f i).length=f.length:=by simp [lowTo,lowL]; omega
theorem lowTo_get (f:List UInt8) (i:Nat) (h:i < f.length):(lowTo f i)[i]'(by rw [lowTo_length]; exact h)=f[i]:=by
 unfold lowTo
 rw [List.getElem_append_right (by simp [lowL]; omega)]
 simp [lowL,Nat.min_eq_left (Nat.le_of_lt h)]
theorem lowTo_succ (f:List UInt8) (i:Nat) (h:i < f.length):lowTo f (i+1)=(lowTo f i).set i (low1 f[i]):=by
 unfold lowTo
 rw [List.take_succ_eq_append_getElem h,List.drop_eq_getElem_cons h]
 have hl:(lowL (f.take i)).length=i:=by simp [lowL]; omega
 rw [List.set_append_right _ _ (by omega),hl,Nat.sub_self,List.set_cons_zero]
 have e:lowL (f.take i++[f[i]])=lowL (f.take i)++[low1 f[i]]:=by unfold lowL; rw [List.map_append]; rfl
 rw [e,List.append_assoc]
 rfl
theorem lowTo_same (f:List UInt8) (i:Nat) (h:i < f.length) (hc:low1 f[i]=f[i]):lowTo f (i+1)=lowTo f i:=by
 rw [lowTo_succ f i h,hc]
 apply List.ext_getElem?
 intro j
 rw [List.getElem?_set]
 split
 ·rename_i e
  subst e
  rw [if_pos (by rw [lowTo_length]; exact h),List.getElem?_eq_getElem (by rw [lowTo_length]; exact h),lowTo_get f i h]
 ·rfl
set_option maxRecDepth 100000 in
set_option maxHeartbeats 4000000 in
theorem words1_any (n:Nat) (hn:1≤n) (l Bn:Nat) (d:ByteArray) (hd:d.size≤1000000) (J Jx:List (List UInt8)→World→Prop) (W:World) (hJ:AbidesFrom W.heap.size J)
  (hY:∀ pre x W1,J pre W1→pre.length < (wordsB d).length→YieldAt Fence.wide (n - 1) Tryz.prog l #[strV x] W1 fun e W' =>
   (e = .returned (.bool true)∧J (pre++[x]) W'∧KeepStr W1 W')∨(e = .returned (.bool false)∧Jx (pre++[x]) W'))
  (hBn:W.cell? ⟨Bn,0,none⟩=some (.string d)) (h0:J [] W) :
  CallsIn Fence.wide n Tryz.prog 77 #[.func (.yield l) #[] #[],.pointer (some ⟨Bn,0,none⟩)] W fun e W'=>(∃ v,e = .returned v) ∧
   ((∃ ys,ys=wordsB d∧J ys W')∨(∃ pre,True∧Jx pre W')):=by
 obtain ⟨fs,hfs⟩:∃ fs,fs=fields d.data.toList []:=⟨_,rfl⟩
 have hall:=upto_all d fs hfs
 have hgf:=goFields_eq d
 have hfl:fs.length≤1000001:=by rw [hfs]; have:=fields_count d.data.toList []; simp at this; omega
 rw [← hfs] at hgf
 have hlen:(Lib.goFieldsP blankR d).length=fs.length:=by rw [← hgf]; simp
 have HY:=Lib.hid hY
 have HGF:=Lib.hid hgf
 have HALL:=Lib.hid hall
 have HLEN:=Lib.hid hlen
 have HJ:=Lib.hid hJ
 clear hY hgf hall hlen hfs hJ
 refine callsIn_of_wp Tryz.func77 rfl trivial ?_ rfl
 simp only [Tryz.ntmps77,List.size_toArray,List.length_cons,List.length_nil,Nat.reduceAdd,Nat.reduceSub,Array.replicate_succ,Array.replicate_zero,List.push_toArray,List.append_toArray,List.nil_append,List.cons_append]
 gi_wp2_with (refine ⟨trivial,?_⟩; gi_at_call 78; refine (callsIn_wide.2 (Tryz.strings_FieldsFunc_runes 79 #[] (enters_of Tryz.func79 (by kernel_rfl) rfl) blankR d _ (by omega) (blank_pays _))).mono ?_; rintro e w1 ⟨A,rfl,hA,hrow,hb1⟩)
 have hJ1:J [] w1:=HJ.out _ _ _ none h0 ⟨hb1.os,hb1.tape,hb1.output,hb1.size,fun k hk _=>hb1.block k hk⟩ (fun r e=>by cases e)
 have hrow1:w1.ownsRow 0 9 1 (.slice (some ⟨A,0,none⟩) fs.length fs.length) fs.length ((Lib.goFieldsP blankR d).map Value.string):=by
  have:=ownsRow_zero hrow
  rw [HLEN.out] at this
  exact this
 have HB1:=Lib.hid hb1
 have hJW:AbidesFrom w1.heap.size J:=fun s A B row hs hg hr=>HJ.out s A B row hs hg (fun r e=>by obtain ⟨h1,h2⟩:=hr r e; exact ⟨Nat.le_trans HB1.out.size h1,h2⟩)
 have HJW:=Lib.hid hJW
 rw [HLEN.out]
 clear hrow hb1 hJW HJ h0
 gi_loopw [11] (fun i wr=>∃ k:Nat,k≤fs.length∧i = .int .i64 k∧Hid (J (upto fs k) wr)∧wr.ownsRow 0 9 1 (.slice (some ⟨A,0,none⟩) fs.length fs.length) fs.length ((Lib.goFieldsP blankR d).map Value.string)) (fun i _=>fs.length - (intOf i).toNat)
 case atStart=>exact ⟨0,Nat.zero_le _,rfl,hJ1,hrow1⟩
 case round =>
  obtain ⟨wo,rfl⟩:∃ wo:World,wo=wr:=⟨_,rfl⟩
  obtain ⟨k,hk,rfl,HJk,hrow⟩:=hrel
  by_cases hlt:k < fs.length
  ·obtain ⟨f,hf⟩:∃ f,(Lib.goFieldsP blankR d)[k]?=some f:=⟨_,List.getElem?_eq_getElem (by rw [HLEN.out]; exact hlt)⟩
   have hfl:f.data.toList=fs[k]:=by
    have h1:((Lib.goFieldsP blankR d).map fun b=>b.data.toList)[k]?=some f.data.toList:=by rw [List.getElem?_map,hf]; rfl
    have h2:=List.getElem?_eq_getElem hlt
    have h3:fs[k]?=some f.data.toList:=by
     conv=>lhs; rw [← HGF.out]
     exact h1
    rw [h2] at h3
    exact (Option.some.inj h3).symm
   have hck:wo.cell? ⟨A,0+k,none⟩=some (.string f):=by
    have:=hrow.cellAt k (by omega)
    rw [Nat.zero_add]
    rw [this,List.getElem?_map,hf]
    rfl
   rw [Nat.zero_add] at hck
   have HROW:=Lib.hid hrow
   have HFL:=Lib.hid hfl
   have hcap:A < wo.heap.size:=lt_of_cell hck
   have hfd:f.size≤1000000:=Nat.le_trans (goFields_size d f (List.mem_of_getElem? hf)) hd
   have hfs:Hid (f.data.toList.length=f.size):=Lib.hid (by simp)
   clear hrow hfl hf hrow1 hJ1
   gi_wp2_with (refine wpListIn_conv _ rfl rfl f rfl ?_; intro cap w2 hbr hb2 hs2; have HBR:=Lib.hid hbr; have HB2:=Lib.hid hb2; have HS2:=Lib.hid hs2; clear hbr hb2 hs2; simp only [put_lit,List.set_cons_succ,List.set_cons_zero])
   gi_loopw [19] (fun i wi=>∃ j:Nat,j≤f.size∧i = .int .i64 j∧BRow wi wo.heap.size (lowTo f.data.toList j)∧Below wo.heap.size wo wi) (fun i _=>f.size - (intOf i).toNat)
   case atStart=>exact ⟨0,Nat.zero_le _,rfl,by rw [lowTo_zero]; exact HBR.out,HB2.out⟩
   case round =>
    obtain ⟨j,hj,rfl,hbr,hb3⟩:=hrel
    have HBR3:=Lib.hid hbr
    have HB3:=Lib.hid hb3
    clear hbr hb3
    by_cases hjl:j < f.size
    ·have hjl':j < f.data.toList.length:=by rw [hfs.out]; exact hjl
     obtain ⟨c,hc⟩:∃ c,c=f.data.toList[j]:=⟨_,rfl⟩
     have hcell:wr.cell? ⟨wo.heap.size,j,none⟩=some (.int .u8 c.toNat):=by
      obtain ⟨h1,_⟩:=HBR3.out.2 j (by rw [lowTo_length]; exact hjl')
      rw [lowTo_get _ _ hjl',← hc] at h1
      exact h1
     have hfr:wr.frozen? ⟨wo.heap.size,j,none⟩=false:=(HBR3.out.2 j (by rw [lowTo_length]; exact hjl')).2
     have hc256:c.toNat < 256:=c.toNat_lt
     have hl1:=Lib.hid (low1_toNat c)
     have HC:=Lib.hid hc
     clear hc
     by_cases hA1:65≤c.toNat
     ·by_cases hA2:c.toNat≤90
      ·have hst:=Lib.hid (HBR3.out.store j (by rw [lowTo_length]; exact hjl') (low1 f.data.toList[j]))
       have hv:((low1 c).toNat:Int)=(c.toNat:Int)+32:=by rw [hl1.out,if_pos ⟨hA1,hA2⟩]
       have q1:(c.toNat:Int)+97 - 65=(c.toNat:Int)+32:=by omega
       have HV:=Lib.hid hv
       clear hv
       rw [← lowTo_succ f.data.toList j hjl',← HC.out] at hst
       gi_wp2
       exact ⟨⟨j+1,by omega,by go_num,by rw [← HV.out]; exact hst.out,HB3.out.setCell (p:=⟨wo.heap.size,j,none⟩) (Nat.le_refl _) _⟩,by simp [intOf]; omega⟩
      ·have hno:Hid (lowTo f.data.toList (j+1)=lowTo f.data.toList j):=Lib.hid (lowTo_same f.data.toList j hjl' (by rw [← HC.out]; apply UInt8.toNat_inj.1; have:=hl1.out; rw [if_neg (by omega)] at this; omega))
       gi_wp2
       go_roundw
       case rel=>exact ⟨j+1,by omega,by go_num,by rw [hno.out]; exact HBR3.out,HB3.out⟩
       case measure=>simp [intOf]; omega
     ·have hno:Hid (lowTo f.data.toList (j+1)=lowTo f.data.toList j):=Lib.hid (lowTo_same f.data.toList j hjl' (by rw [← HC.out]; apply UInt8.toNat_inj.1; have:=hl1.out; rw [if_neg (by omega)] at this; omega))
      gi_wp2
      go_roundw
      case rel=>exact ⟨j+1,by omega,by go_num,by rw [hno.out]; exact HBR3.out,HB3.out⟩
      case measure=>simp [intOf]; omega
    ·obtain rfl:j=f.size:=by omega
     have hbr:BRow wr wo.heap.size (lowL f.data.toList):=by
      have:=HBR3.out
      rw [← hfs.out,lowTo_all] at this
      exact this
     have hJr:J (upto fs k) wr:=HJW.out _ _ _ none HJk.out ⟨HB3.out.os,HB3.out.tape,HB3.out.output,HB3.out.size,fun k hk _=>HB3.out.block k hk⟩ (fun r e=>by cases e)
     have hrow3:wr.ownsRow 0 9 1 (.slice (some ⟨A,0,none⟩) fs.length fs.length) fs.length ((Lib.goFieldsP blankR d).map Value.string):=(KeepStr.below HB3.out).row HROW.out
     have hlen2:(lowL f.data.toList).length=f.size:=by unfold lowL; rw [List.length_map]; exact hfs.out
     by_cases h16:f.size≤16
     ·have hup:=Lib.hid (upto_yes fs k hlt (by rw [← HFL.out,hfs.out]; exact h16))
      have hnl:=upto_lt fs k hlt (by rw [← HFL.out,hfs.out]; exact h16)
      rw [HALL.out] at hnl
      obtain ⟨fn,tmps,assign,body,hy,hR⟩:=HY.out (upto fs k) (lowL f.data.toList) wr hJr hnl
      have hback:=run_convert_bytes_back (P:=Tryz.prog) wr 61 9 5 ⟨wo.heap.size,0,none⟩ cap (lowL f.data.toList) Tryz.underlying61 Tryz.underlying5 Tryz.underlying9 (fun j hj=>by
       have:=(hbr.2 j hj).1
       rw [show (⟨wo.heap.size,0,none⟩:Addr).add j=⟨wo.heap.size,j,none⟩ by unfold Addr.add; split <;> simp_all]
       exact this)
      rw [hlen2] at hback
      unfold strV at hy
      have HROW3:=Lib.hid hrow3
      have hszr:wo.heap.size≤wr.heap.size:=HB3.out.size
      clear hbr hJr hrow3 hlen2 hnl
      gi_wp2
      refine hR.mono ?_
      rintro e W3 (⟨rfl,hJ3,hk3⟩ | ⟨rfl,hJx3⟩)
      ·have hJ3':Hid (J (upto fs (k+1)) W3):=Lib.hid (by have h:=hJ3; rw [HFL.out] at h; rw [hup.out]; exact h)
       have hrow3:=hk3.row HROW3.out
       have HROWX:=Lib.hid hrow3
       have hA3:=(hrow3.lt A rfl).2
       clear hJ3 hk3 hrow3
       gi_wp2
       exact ⟨⟨k+1,by omega,by go_num,hJ3',HROWX.out⟩,by simp [intOf]; omega⟩
      ·have HJX:=Lib.hid hJx3
       clear hJx3
       gi_wp2
       refine bodyPost_ret (results_none rfl _ _ _) rfl ?_
       exact ⟨⟨_,rfl⟩,.inr ⟨_,trivial,HJX.out⟩⟩
     ·have hup:=Lib.hid (upto_no fs k hlt (by rw [← HFL.out,hfs.out]; exact h16))
      have HJr:=Lib.hid hJr
      have hszr:wo.heap.size≤wr.heap.size:=HB3.out.size
      clear hbr hJr hlen2
      have HROW3:=Lib.hid hrow3
      clear hrow3
      gi_wp2
      refine ⟨fun _ h=>(by cases h),?_⟩
      gi_wp2
      exact ⟨⟨k+1,by omega,by go_num,Lib.hid (hup.out.symm ▸ HJr.out),HROW3.out⟩,by simp [intOf]; omega⟩
  ·obtain rfl:k=fs.length:=by omega
   have hJd:Hid (J (wordsB d) wo):=Lib.hid (by have:=HJk.out; rw [HALL.out] at this; exact this)
   clear hrow hrow1 hJ1
   gi_wp2
   go_end0
   exact ⟨⟨_,rfl⟩,.inl ⟨_,rfl,hJd.out⟩⟩
theorem words_stops (n:Nat) (hn:1≤n) (Bn:Nat) (d:ByteArray) (hd:d.size≤1000000) (w:World) (hB:Bn < w.heap.size) (hc:w.cell? ⟨Bn,0,none⟩=some (.string d)) :
  SeqStopsK Fence.wide n Tryz.prog 77 #[.pointer (some ⟨Bn,0,none⟩)] (fun x:List UInt8=>#[strV x]) KeepStr (fun ys=>ys=wordsB d) (fun _=>True) (wordsB d).length w :=
 fun l J Jx W hW hJ _ hY h0=>words1_any n hn l Bn d hd J Jx W hJ hY ((hW.cell (p:=⟨Bn,0,none⟩) hB).trans hc) h0
end Go.Proofs.Ts
namespace Go.Proofs.Ts
open Go Go.RowKit
def bitsOf (x:Nat):List Nat:=(List.range 64).filter x.testBit
theorem bitsOf_zero:bitsOf 0=[]:=by unfold bitsOf; rw [List.filter_eq_nil_iff]; intro a _; simp
theorem bitsOf_mem {x k:Nat} (h:k∈bitsOf x):k < 64∧x.testBit k=true:=by
 unfold bitsOf at h
 rw [List.mem_filter,List.mem_range] at h
 exact h
theorem bitsOf_strike {x:Nat} (h0:x≠0) (h:x < W64):bitsOf x=Lib.ctz 64 x :: bitsOf (x &&& (x - 1)):=by
 obtain ⟨m,hm,hk⟩:=ctz_bit h0 h
 have hs:=strike_bit x h0 h
 obtain ⟨k,hk'⟩:∃ k,k=Lib.ctz 64 x:=⟨_,rfl⟩
 rw [← hk'] at hm hk hs ⊢
 have hlow:∀ i,i < k→x.testBit i=false:=fun i hi=>by
  rw [hm,Nat.testBit_two_pow_mul]
  simp; omega
 have hbit:x.testBit k=true:=by
  rw [hm,Nat.testBit_two_pow_mul]
  simp
 have hr:List.range 64=List.range k++(k :: List.range' (k+1) (63 - k)):=by
  have h1:List.range 64=List.range' 0 k++List.range' (0+1 * k) (64 - k):=by
   rw [List.range_eq_range',List.range'_append]
   congr 1
   omega
  rw [h1,← List.range_eq_range',show 0+1 * k=k by omega,show 64 - k=(63 - k)+1 by omega,List.range'_succ]
 unfold bitsOf
 rw [hr,List.filter_append,List.filter_append,List.filter_cons_of_pos hbit,List.filter_cons_of_neg (by rw [hs]; simp)]
 have e1:(List.range k).filter x.testBit=[]:=by
  rw [List.filter_eq_nil_iff]
  intro i hi
  rw [hlow i (List.mem_range.1 hi)]; simp
 have e2:(List.range k).filter (x &&& (x - 1)).testBit=[]:=by
  rw [List.filter_eq_nil_iff]
  intro i hi
  rw [hs,hlow i (List.mem_range.1 hi)]; simp
 rw [e1,e2,List.nil_append,List.nil_append]
 congr 1
 apply List.filter_congr
 intro i hi
 have:k+1≤i:=by
  rw [List.mem_range'] at hi
  omega
 rw [hs]
 have hne:¬ i=k:=by omega
 simp [hne]
def PSet.elemsTo (s:PSet) (i:Nat):List Nat:=(List.range i).flatMap fun j=>(bitsOf (s.word j)).map (64 * j + ·)
def PSet.elems (s:PSet):List Nat:=s.elemsTo 3
theorem PSet.elemsTo_succ (s:PSet) (i:Nat):s.elemsTo (i+1)=s.elemsTo i++(bitsOf (s.word i)).map (64 * i + ·):=by
 unfold PSet.elemsTo
 rw [List.range_succ,List.flatMap_append]
 simp
theorem PSet.elemsTo_prefix (s:PSet) {i:Nat} (h:i≤3):s.elemsTo i <+: s.elems:=by
 have:∀ d,s.elemsTo i <+: s.elemsTo (i+d):=fun d=>by
  induction d with
  | zero=>exact List.prefix_refl _
  | succ d ih=>exact ih.trans ⟨_,(s.elemsTo_succ (i+d)).symm⟩
 have:=this (3 - i)
 rwa [show i+(3 - i)=3 by omega] at this
theorem PSet.mem_elems (s:PSet) (k:Nat):k∈s.elems↔k < 192∧s.mem k=true:=by
 unfold PSet.elems PSet.elemsTo PSet.mem
 rw [List.mem_flatMap]
 constructor
 ·rintro ⟨j,hj,h⟩
  obtain ⟨b,hb,rfl⟩:=List.mem_map.1 h
  obtain ⟨h1,h2⟩:=bitsOf_mem hb
  have:=List.mem_range.1 hj
  refine ⟨by omega,?_⟩
  rw [show (64 * j+b) / 64=j by omega,show (64 * j+b) % 64=b by omega]
  exact h2
 ·rintro ⟨h1,h2⟩
  refine ⟨k / 64,List.mem_range.2 (by omega),List.mem_map.2 ⟨k % 64,?_,by omega⟩⟩
  unfold bitsOf
  rw [List.mem_filter,List.mem_range]
  exact ⟨by omega,h2⟩
def BitTab (w:World):Prop:=(∃ cs,w.heap[4]?=some (.cells cs 367 (0,0)))∧TabAt 4 Lib.deBruijn64tab w
theorem BitTab.kept {w w':World} (h:BitTab w) (hb:w'.heap[4]?=w.heap[4]?):BitTab w':=by
 obtain ⟨⟨cs,h1⟩,h2⟩:=h
 refine ⟨⟨cs,hb.trans h1⟩,fun j hj=>?_⟩
 rw [World.cell?_of_block (a:=⟨4,j,none⟩) hb]
 exact h2 j hj
theorem BitTab.lt {w:World} (h:BitTab w):4 < w.heap.size:=by
 obtain ⟨⟨cs,h1⟩,_⟩:=h
 exact lt_of_heap h1
theorem BitTab.below {w w':World} (h:BitTab w) (hb:Below w.heap.size w w'):BitTab w':=h.kept (hb.block _ h.lt)
theorem BitTab.keepG {w w':World} (h:BitTab w) (hk:KeepG w w'):BitTab w':=by
 obtain ⟨⟨cs,h1⟩,h2⟩:=id h
 exact h.kept (hk _ _ _ _ h1 (by decide) (by decide))
end Go.Proofs.Ts
namespace Go.Proofs.Ts
open Go Go.RowKit Go.Shelf
attribute [local go_sem] Oper.semAt_some
theorem abides_under {β:Type} {B:Nat} {J:β→World→Prop} (h:AbidesFrom B J) {s:β} {w w':World} (hb:Below w.heap.size w w') (hj:J s w):J s w' :=
 h s w w' none hj ⟨hb.os,hb.tape,hb.output,hb.size,fun k hk _=>hb.block k hk⟩ (fun r e=>by cases e)
theorem index_set (s:PSet) {j:Nat} (hj:j < 3) (w:World):(Instr.index 272 (.agg #[.int .u64 s.a,.int .u64 s.b,.int .u64 s.c]) (.int .i64 (j:Int))).run Tryz.prog w = .ok (.int .u64 (s.word j)) w:=by
 have hia:∀ W,(isAgg 249).run Tryz.prog W = .ok false W:=fun W=>by kernel_rfl
 have hn:∀ W,(Go.sizeOf 249).run Tryz.prog W = .ok 1 W:=fun W=>by kernel_rfl
 have h1:(0:Int)≤(j:Int)∧(j:Int) < 3:=by omega
 have hc:=PSet.cells_at s hj
 unfold PSet.cells at hc
 have hc':[Value.int .u64 s.a,.int .u64 s.b,.int .u64 s.c][j]?=some (.int .u64 (s.word j)):=by simpa using hc
 simp [Instr.index,run_underlying Tryz.underlying272,asIntOf,h1,go_sem,Go.part,hia,hn,hc']
 exact fun h=>absurd h (by omega)
set_option maxRecDepth 100000 in
set_option maxHeartbeats 2000000 in
theorem setAll_any (n:Nat) (hn:1≤n) (l:Nat) (s:PSet) (hs:s.ok) (J:List Nat→World→Prop) (W:World) (hJ:AbidesFrom W.heap.size J)
  (hY:∀ pre x W1,J pre W1→pre++[x] <+: s.elems→YieldAt Fence.wide (n - 1) Tryz.prog l #[intV x] W1 fun e W'=>e = .returned (.bool true)∧J (pre++[x]) W'∧W'.heap[4]?=W1.heap[4]?)
  (hT:BitTab W) (h0:J [] W) :
  CallsIn Fence.wide n Tryz.prog 153 #[s.val,.func (.yield l) #[] #[]] W fun e W'=>(∃ v,e = .returned v)∧J s.elems W':=by
 have HY:=Lib.hid hY
 have HJ:=Lib.hid hJ
 have HS:=Lib.hid hs
 have hb1:Below W.heap.size W (W.alloc (.cells #[.int .u64 s.a,.int .u64 s.b,.int .u64 s.c] 272)):=(Below.refl _ W).alloc (Nat.le_refl _) _
 have hJ1:=Lib.hid (abides_under hJ hb1 h0)
 have hT1:=Lib.hid (hT.below hb1)
 have HSZ:=Lib.hid hb1.size
 clear hY hJ hs hT h0 hb1
 unfold PSet.val PSet.cells
 refine callsIn_of_wp Tryz.func153 rfl trivial ?_ rfl
 simp only [Tryz.ntmps153,List.size_toArray,List.length_cons,List.length_nil,Nat.reduceAdd,Nat.reduceSub,Array.replicate_succ,Array.replicate_zero,List.push_toArray,List.append_toArray,List.nil_append,List.cons_append]
 gi_wp2
 generalize W.alloc (.cells #[.int .u64 s.a,.int .u64 s.b,.int .u64 s.c] 272)=W2 at *
 gi_loopw [7] (fun i wr=>∃ j:Nat,j≤3∧i = .int .i64 j∧Hid (J (s.elemsTo j) wr∧BitTab wr)) (fun i _=>3 - (intOf i).toNat)
 case atStart=>exact ⟨0,by omega,rfl,hJ1.out,hT1.out⟩
 case round =>
  clear hJ1 hT1
  obtain ⟨j,hj,rfl,HR⟩:=hrel
  by_cases hjl:j < 3
  ·have hjz:(j:Int) < 3:=by omega
   obtain ⟨x,hx⟩:∃ x,x=s.word j:=⟨_,rfl⟩
   have hcx:=fun w=>index_set s hjl w
   rw [← hx] at hcx
   have HX:Hid (x=s.word j∧x < W64):=Lib.hid ⟨hx,by rw [hx]; exact PSet.ok_word HS.out j⟩
   clear hx
   gi_wp2
   gi_loopw [5] (fun v wi=>∃ (y:Nat) (dn:List Nat),v = .int .u64 y∧Hid (y < W64∧bitsOf (s.word j)=dn++bitsOf y∧J (s.elemsTo j++dn.map (64 * j + ·)) wi∧BitTab wi)) (fun v _=>(intOf v).toNat)
   case atStart=>exact ⟨x,[],rfl,HX.out.2,by rw [← HX.out.1]; rfl,by simpa using HR.out.1,HR.out.2⟩
   case round =>
    clear HR
    obtain ⟨y,dn,rfl,HQ⟩:=hrel
    by_cases hy0:y=0
    ·have hyz:((y:Int) == 0)=true:=by simp [hy0]
     have hq:J (s.elemsTo (j+1)) wr∧BitTab wr:=by
      obtain ⟨_,h2,h3,h4⟩:=HQ.out
      rw [hy0,bitsOf_zero,List.append_nil] at h2
      rw [PSet.elemsTo_succ,h2]
      exact ⟨h3,h4⟩
     have HN:=Lib.hid hq
     clear HQ hy0 hq
     gi_wp2
     exact ⟨⟨j+1,by omega,by go_num,HN⟩,by simp [intOf]; omega⟩
    ·have hyz:((y:Int) == 0)=false:=by rw [beq_eq_false_iff_ne]; omega
     obtain ⟨hq1,hq2,hq3,hq4⟩:=HQ.out
     obtain ⟨c,hc⟩:∃ c,c=Lib.ctz 64 y:=⟨_,rfl⟩
     obtain ⟨z,hz⟩:∃ z,z=y &&& (y - 1):=⟨_,rfl⟩
     have hst:=bitsOf_strike hy0 hq1
     rw [← hc,← hz] at hst
     have hzlt:z < y:=by rw [hz]; exact strike_lt y hy0
     have htz:=Tryz.bits_TrailingZeros64 y hq1 wr (fun _=>hq4.2)
     rw [← hc] at htz
     have hpx:s.elemsTo j++dn.map (64 * j + ·)++[64 * j+c] <+: s.elems:=by
      refine List.IsPrefix.trans ?_ (s.elemsTo_prefix (i:=j+1) (by omega))
      rw [PSet.elemsTo_succ,hq2,hst]
      exact ⟨(bitsOf z).map (64 * j + ·),by simp⟩
     obtain ⟨fn,tmps,assign,body,hyl,hR⟩:=HY.out _ _ wr hq3 hpx
     have e1:((64 * j+c:Nat):Int)=64 * (j:Int)+(c:Int):=by omega
     unfold intV at hyl
     rw [e1] at hyl
     have d1:IntKind.u64.wrap ((y:Int) - 1)=((y - 1:Nat):Int):=by
      have:y < 18446744073709551616:=hq1
      rw [IntKind.wrap_u64]
      omega
     have d2:=bits_and_u64_nat y (y - 1) hq1 (Nat.lt_of_le_of_lt (Nat.sub_le _ _) hq1)
     rw [← hz] at d2
     have hc64:c < 64:=by
      obtain ⟨_,_,h⟩:=ctz_bit hy0 hq1
      rw [← hc] at h
      exact h
     have HST:Hid (bitsOf y=c :: bitsOf z∧z < W64∧bitsOf (s.word j)=dn++bitsOf y∧BitTab wr):=Lib.hid ⟨hst,Nat.lt_trans hzlt hq1,hq2,hq4⟩
     have HTZ:=Lib.hid htz
     clear hq1 hq2 hq3 hq4 hc hz hst hpx e1 htz hy0
     gi_wp2_with (refine ⟨trivial,?_⟩; gi_at_call 174; refine (callsIn_wide.2 HTZ.out).mono ?_; rintro e w1 ⟨rfl,hw1⟩; subst hw1)
     refine hR.mono ?_
     clear hR hyl HTZ
     rintro e W3 ⟨rfl,hj3,hk3⟩
     have hn3:J (s.elemsTo j++(dn++[c]).map (64 * j + ·)) W3∧BitTab W3:=by
      refine ⟨?_,HST.out.2.2.2.kept hk3⟩
      rw [List.map_append,List.map_cons,List.map_nil,← List.append_assoc]
      exact hj3
     have HN3:=Lib.hid hn3
     clear hj3 hk3 hn3
     gi_wp2
     refine ⟨⟨z,dn++[c],rfl,HST.out.2.1,?_,HN3.out.1,HN3.out.2⟩,by simp [intOf]; omega⟩
     rw [HST.out.2.2.1,HST.out.1,List.append_assoc]
     rfl
  ·obtain rfl:j=3:=by omega
   gi_wp2
   go_end0
   exact ⟨⟨_,rfl⟩,HR.out.1⟩
theorem setAll_gives (n:Nat) (hn:1≤n) (s:PSet) (hs:s.ok) (w:World) (hT:BitTab w) :
  AllGives Fence.wide n Tryz.prog 153 #[s.val] #[] (fun k:Nat=>#[intV k]) 4 s.elems w :=
 fun l J W hW hJ hY h0=>setAll_any n hn l s hs J W hJ hY (hT.below hW) h0
end Go.Proofs.Ts
namespace Go.Proofs.Ts
open Go Go.RowKit
section
variable {P:Program} {ops:Array Oper} {Q:Exit→Act→World→Prop} {n l:Nat}
def calmB (o:Oper):Bool:=match o.op with | .defer _=>false | _=>true
theorem operIn_of_wp {o:Oper} {a:Act} {w:World} {K:Act→World→Prop} (hnd:calmB o=true) (h:o.wp P a w K Q):o.wpIn (Fence.wide.inRound l) n P a w K Q:=by
 have hd:∀ c,o.op ≠ .defer c:=fun c e=>by unfold calmB at hnd; rw [e] at hnd; cases hnd
 refine ⟨fun _ _=>trivial,?_⟩
 rw [Oper.semAt_eq _ _ _ hd]
 unfold Oper.wp at h
 generalize (execOp a.eval o).run P w=r at *
 cases r with
 | ok x w' =>
  cases x <;> simp only [Oper.upon,Oper.uponIn] at h ⊢
  case value=>exact h
  case skip=>exact h
  case defer=>exact h
  case enter f args=>exact ⟨fun hx=>(by cases hx),CallsIn.inRound l (callsIn_wide.2 h)⟩
  case row r args =>
   refine ⟨fun hx=>(by cases hx),fun c cs _=>?_⟩
   obtain ⟨v,w'',h1,h2⟩:=h c cs
   exact ⟨v,w'',h1,stepsIn_wide.2 h2⟩
  all_goals exact h.elim
 | halt x w'=>cases x <;> simp only [Oper.upon,Oper.uponIn] at h ⊢ <;> exact h
def Calm (Q:Exit→Act→World→Prop):Exit→Act→World→Prop
 | .normal,a,w=>Q .normal a w
 | _,_,_=>False
theorem wpOpIn_of_wpOp (hno:¬ LetsOut Q) (hall:(ops.toList.all calmB)=true) {i:Nat} {K:Act→World→Prop} {a:Act} {w:World} (h:wpOp P ops Q i K a w):wpOpIn (Fence.wide.inRound l) n P ops Q i K a w:=by
 unfold wpOpIn
 unfold wpOp at h
 cases ho:ops[i]? with
 | none=>rw [ho] at h; exact h
 | some o =>
  rw [ho] at h
  simp only at h ⊢
  have hc:calmB o=true:=by
   rw [List.all_eq_true] at hall
   exact hall o (by rw [Array.mem_toList_iff]; exact Array.mem_of_getElem? ho)
  split
  ·rename_i hw
   rw [if_pos hw] at h
   rcases h with h | ⟨_,h⟩
   ·exact operIn_of_wp hc h
   ·exact (hno h).elim
  ·rename_i hw
   rw [if_neg hw] at h
   exact ⟨fun _ _=>trivial,h⟩
theorem wpAnyIn_of_wpAny (hno:¬ LetsOut Q) (hall:(ops.toList.all calmB)=true):∀ (fuel:Nat) (listed:Array Bool) (a:Act) (w:World),wpAny P .any ops Q fuel listed a w→wpAnyIn (Fence.wide.inRound l) n P .any ops Q fuel listed a w
 | 0,_,_,_,h=>h
 | fuel+1,listed,a,w,h=>⟨h.1,fun i hi=>wpOpIn_mono (fun a' w' h'=>wpAnyIn_of_wpAny hno hall fuel _ a' w' h') (wpOpIn_of_wpOp hno hall (h.2 i hi))⟩
theorem wpIn_region_ordX {id:Nat} {a:Act} {w:World} {lo:List Oper} (order:List (Nat × Bool)) (x:Nat) (S:World→Prop) (hm:P.follows .mixedOrders=true)
  (hs:(Region.noSelect lo.toArray && (order.all fun q=>q.2 || waitsB lo.toArray x q.1) && (order.length == lo.length) && ordB lo.toArray order (Array.replicate lo.length false) && lo.all calmB)=true) (hS:S w.drew)
  (h:wpOrd P lo S x (Q .normal) order a w.drew):(Code.region id lo.toArray true).wpIn (Fence.wide.inRound l) n P Q a w:=by
 simp only [Bool.and_eq_true,beq_iff_eq] at hs
 obtain ⟨⟨⟨⟨h1,h3⟩,h4⟩,h5⟩,h6⟩:=hs
 have h3':∀ q∈order,q.2=false→waitsB lo.toArray x q.1=true:=fun q hq hf=>by
  have:=List.all_eq_true.1 h3 q hq
  rw [hf] at this
  simpa using this
 refine wpIn_mono (Q:=Calm Q) (wpIn_region_any hm (wpAnyIn_of_wpAny (fun ⟨_,_,h⟩=>h) h6 _ _ _ _ (wpAny_of_anyX (S:=S) (x:=x) _ _ _ _ ?_))) ?_
 ·have:=anyX_of_ord (Q:=Q) (Q':=Calm Q) h1 (fun _ _ h=>h) (fun _ _ _ h=>h) order (Array.replicate lo.length false) a w.drew h3' h5 hS h
  rw [h4] at this
  simpa using this
 ·intro e a w h
  cases e <;> first | exact h | exact h.elim
end
end Go.Proofs.Ts
