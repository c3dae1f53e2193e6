/- Lemmas towards the statement Sorted of termsearch: walks of the program's functions and plain laws on lists (TsSugK, TsSugP, TsMatches, TsOrdY, TsLoopF, TsAllA, TsAllB, TsAppIn, TsPAll). Conditions: those that each theorem names. -/
import Derived.Test.YtglafkgakcfahaaGreatDoorSortedPO
import Derived.Test.YtglafkgakcfahaaGreatDoorSortedPL
import Derived.Test.YtglafkgakcfahaaGreatDoorSortedPJ
import Derived.Test.YtglafkgakcfahaaGreatDoorSortedPF
import Derived.RangeFuncNested
import Derived.RangeFuncLeaves
import Derived.Test.YtglafkgakcfahaaGreatDoorSortedPC
/- The walk of plain.Suggest, and of Suggest where the word is refused. -/
set_option linter.unusedVariables false
set_option linter.unusedSimpArgs false
namespace Go.Proofs.Ts
open Go Go.RowKit

set_option maxRecDepth 100000 in
theorem near_long (a : ByteArray) (n : Int) (w : World) (h1 : 40 < a.size) : Calls Tryz.prog 54 #[.string a, .int .i64 n] w fun e w' => e = .returned (errnoV 2) ∧ w' = w := by
  have g1 : decide ((40 : Int) < (a.size : Int)) = true := by simp; omega
  unfold errnoV
  clear h1
  go_enter Tryz.func54, Tryz.ntmps54
  go_wp2_with fail
  go_ret
  exact ⟨rfl, rfl⟩

set_option maxRecDepth 100000 in
set_option maxHeartbeats 1000000 in
theorem suggest_long (sb : Nat) (a : ByteArray) (d k : Nat) (w : World) (ha : 40 < a.size) :
    Calls Tryz.prog 37 #[ptrV sb, .string a, .int .i64 d, .int .i64 k] w fun e w' => e = .returned (.tuple #[.slice none 0 0, errnoV 2]) ∧ Below w.heap.size w w' := by
  have g0 : ¬ (k : Int) < 0 := by omega
  unfold ptrV
  go_enter Tryz.func37, Tryz.ntmps37
  go_wp2_with (go_at_call 54; refine (near_long a d _ ha).mono ?_; rintro e w1 ⟨rfl, rfl⟩; simp only [errnoV])
  go_ret2
  exact ⟨rfl, (Below.refl _ w).alloc (Nat.le_refl _) _⟩

/-- What the word's refusal tells. -/
def sugBad (x : List UInt8) : Option Int := if 40 < x.length then some 2 else if Lib.validD x = true then none else some 8

theorem suggest_err (sb : Nat) (x : List UInt8) (d k : Nat) (w : World) (hd : d ≤ 2) (hT : TabsIn w) (c : Int) (hc : sugBad x = some c) :
    Calls Tryz.prog 37 #[ptrV sb, strV x, .int .i64 d, .int .i64 k] w fun e w' => e = .returned (.tuple #[.slice none 0 0, errnoV c]) ∧ Below w.heap.size w w' := by
  have hs : (ByteArray.mk x.toArray).size = x.length := by show x.toArray.size = _; simp
  unfold sugBad at hc
  unfold strV
  split at hc
  · cases hc
    exact suggest_long sb ⟨x.toArray⟩ d k w (by omega)
  · split at hc
    · cases hc
    · rename_i h1 h2
      cases hc
      refine suggest_bad sb ⟨x.toArray⟩ d k w (by omega) hT 8 ?_
      unfold nearBad
      rw [if_neg (by omega), if_neg (by omega), if_neg (by simpa using h2)]

set_option maxRecDepth 100000 in
set_option maxHeartbeats 1000000 in
theorem plainSug_err (sb : Nat) (x : List UInt8) (d k : Nat) (w : World) (hd : d ≤ 2) (hT : TabsIn w) (hE : ErrIn w) (c : Int) (hc : sugBad x = some c) :
    Calls Tryz.prog 25 #[ptrV sb, strV x, .int .i64 d, .int .i64 k] w fun e w' => e = .returned (.tuple #[.slice none 0 0, .int .i64 c]) ∧ Below w.heap.size w w' := by
  have hs := suggest_err sb x d k w hd hT c hc
  have h0 : 0 < w.heap.size := lt_of_cell hE
  have HE := Lib.hid hE
  unfold ptrV strV errnoV at hs
  have HS := Lib.hid hs
  clear hs hE hT hc
  unfold ptrV strV
  go_enter Tryz.func25, Tryz.ntmps25
  go_wp2_with (first
    | (go_at_call 37; refine HS.out.mono ?_; rintro e w1 ⟨rfl, hb1⟩)
    | (go_at_call 32; refine (told_errno c w1 (HE.out.below hb1)).mono ?_; rintro e w2 ⟨rfl, hb2⟩))
  go_ret2
  exact ⟨rfl, hb1.trans (hb2.mono hb1.size)⟩

set_option maxRecDepth 100000 in
set_option maxHeartbeats 1000000 in
theorem plainSug_any (sb : Nat) (D : List (List (List UInt8))) (kn : Value) (db : Nat) (R : Nat → Prop) (Λ : Nat → List Word) (ρ : Nat → Nat) (Dd : List DS) (pv : Value) (ps : List Value) (x : List UInt8) (d k : Nat) (w : World)
    (hseg : SegAt w sb D kn db R Λ ρ Dd pv ps) (hd : d ≤ 2) (hv : sugBad x = none) (hT : TabsIn w) :
    Calls Tryz.prog 25 #[ptrV sb, strV x, .int .i64 d, .int .i64 k] w fun e w' => ∃ fv z, e = .returned (.tuple #[fv, .int .i64 0]) ∧ Below w.heap.size w w' ∧
      z.Perm ((metTo (Λ 0) x (d + 1)).map (sugOf D)) ∧ Srt sugCmp z ∧ SugsIs w' fv (z.take k) := by
  have hv2 : x.length ≤ 40 ∧ Lib.validD x = true := by
    unfold sugBad at hv
    split at hv
    · cases hv
    · split at hv
      · rename_i h1 h2
        exact ⟨by omega, h2⟩
      · cases hv
  have hs := suggest_any sb D kn db R Λ ρ Dd pv ps x d k w hseg hv2.1 hd hv2.2 hT
  unfold ptrV strV at hs
  have HS := Lib.hid hs
  clear hs hT hv hv2 hseg
  unfold ptrV strV
  go_enter Tryz.func25, Tryz.ntmps25
  go_wp2_with (first
    | (go_at_call 37; refine HS.out.mono ?_; rintro e w1 ⟨fv, z, rfl, hb1, hz1, hz2, hz3⟩; have HZ := Lib.hid (show _ ∧ _ ∧ _ from ⟨hz1, hz2, hz3⟩); clear hz1 hz2 hz3)
    | (go_at_call 32; refine (told_nil w1).mono ?_; rintro e w2 ⟨rfl, hb2⟩))
  go_ret2
  exact ⟨fv, z, rfl, hb1.trans (hb2.mono hb1.size), HZ.out.1, HZ.out.2.1, HZ.out.2.2.below hb2⟩
end Go.Proofs.Ts
/- The order of suggestions, in plain lists: what Sorted asks of them. -/
set_option linter.unusedVariables false
set_option linter.unusedSimpArgs false
namespace Go.Proofs.Ts
open Go

def SeenOk (T : List (List UInt8)) (L : Seen) : Prop := (L.map fun x => x.2.1).Nodup ∧ ∀ x ∈ L, T[x.2.1]? = some x.1
theorem SeenOk.add {T : List (List UInt8)} {L : Seen} (h : SeenOk T L) (far : Nat) (q : List UInt8 × Nat) (hq : T[q.2]? = some q.1) : SeenOk T (addS far L q) := by
  unfold addS
  split
  · exact h
  · rename_i hn
    have hg : get (seenM L) q.2 = none := by
      cases hh : get (seenM L) q.2 with
      | none => rfl
      | some v => rw [hh] at hn; exact absurd rfl hn
    have hno := get_none.1 hg
    refine ⟨?_, fun x hx => ?_⟩
    · rw [List.map_append, List.nodup_append]
      refine ⟨h.1, by simp, ?_⟩
      intro a ha b hb e
      rw [List.map_cons, List.map_nil, List.mem_singleton] at hb
      obtain ⟨y, hy, rfl⟩ := List.mem_map.1 ha
      exact hno (y.2.1, y.2.2) (List.mem_map.2 ⟨y, hy, rfl⟩) (e.trans hb)
    · rcases List.mem_append.1 hx with hx | hx
      · exact h.2 x hx
      · rw [List.mem_singleton] at hx
        subst hx
        exact hq
theorem SeenOk.all {T : List (List UInt8)} (far : Nat) : ∀ (ys : List (List UInt8 × Nat)) (L : Seen), SeenOk T L → (∀ q ∈ ys, T[q.2]? = some q.1) → SeenOk T (ys.foldl (addS far) L)
  | [], L, h, _ => h
  | q :: ys, L, h, hq => by
    rw [List.foldl_cons]
    exact SeenOk.all far ys _ (h.add far q (hq q List.mem_cons_self)) fun p hp => hq p (List.mem_cons_of_mem _ hp)
theorem metTo_ok (T : List (List UInt8)) (x : List UInt8) : ∀ j, SeenOk T (metTo T x j)
  | 0 => ⟨List.nodup_nil, fun x hx => by cases hx⟩
  | j + 1 => by
    rw [metTo_succ]
    refine SeenOk.all j _ _ (metTo_ok T x j) fun q hq => ?_
    have := (hits_mem hq).2.2
    simpa using this

theorem sugs_apart {T : List (List UInt8)} (hT : T.Pairwise fun a b => a < b) {L : Seen} (h : SeenOk T L) (D : List (List (List UInt8))) : (L.map (sugOf D)).Pairwise fun a b => a.term ≠ b.term := by
  rw [List.pairwise_map]
  have h1 : L.Pairwise fun a b => a.2.1 ≠ b.2.1 := List.pairwise_map.1 h.1
  refine h1.imp_of_mem fun {a b} ha hb hab e => ?_
  have ga := h.2 a ha
  have gb := h.2 b hb
  obtain ⟨la, ea⟩ := List.getElem?_eq_some_iff.1 ga
  obtain ⟨lb, eb⟩ := List.getElem?_eq_some_iff.1 gb
  have ee : T[a.2.1] = T[b.2.1] := by rw [ea, eb]; exact e
  rcases Nat.lt_trichotomy a.2.1 b.2.1 with hh | hh | hh
  · have := List.pairwise_iff_getElem.1 hT _ _ la lb hh
    rw [ee] at this
    exact List.lt_irrefl _ this
  · exact hab hh
  · have := List.pairwise_iff_getElem.1 hT _ _ lb la hh
    rw [ee] at this
    exact List.lt_irrefl _ this

theorem sugLt_or (a b : Sug) : sugLt a b ∨ sugLt b a ∨ a = b := by
  unfold sugLt
  rcases Nat.lt_trichotomy a.far b.far with h | h | h
  · exact .inl (.inl h)
  · rcases Nat.lt_trichotomy a.docs b.docs with k | k | k
    · exact .inr (.inl (.inr ⟨h.symm, .inl k⟩))
    · by_cases h1 : a.term < b.term
      · exact .inl (.inr ⟨h, .inr ⟨k.symm, h1⟩⟩)
      · by_cases h2 : b.term < a.term
        · exact .inr (.inl (.inr ⟨h.symm, .inr ⟨k, h2⟩⟩))
        · refine .inr (.inr ?_)
          have := List.le_antisymm (List.not_lt.1 h2) (List.not_lt.1 h1)
          obtain ⟨ta, fa, da⟩ := a
          obtain ⟨tb, fb, db⟩ := b
          simp only at *
          subst h k this
          rfl
    · exact .inl (.inr ⟨h, .inl k⟩)
  · exact .inr (.inl (.inl h))
theorem srt_one {a b : List Sug} (ha : Srt sugCmp a) (hb : Srt sugCmp b) (h : a.Perm b) : a = b := by
  refine List.Perm.eq_of_pairwise (fun s t _ _ h1 h2 => ?_) ha hb h
  rcases sugLt_or s t with k | k | k
  · exact absurd ((sug_neg s t).2 k) h2
  · exact absurd ((sug_neg t s).2 k) h1
  · exact k

/-- Two neighbours rise. -/
theorem srt_pair {a : List Sug} (ha : Srt sugCmp a) (hap : a.Pairwise fun s t => s.term ≠ t.term) {i j : Nat} {s t : Sug} (hs : a[i]? = some s) (ht : a[j]? = some t) (hij : i < j) : sugLt s t := by
  obtain ⟨ls, es⟩ := List.getElem?_eq_some_iff.1 hs
  obtain ⟨lt, et⟩ := List.getElem?_eq_some_iff.1 ht
  have h1 := List.pairwise_iff_getElem.1 ha i j ls lt hij
  have h2 := List.pairwise_iff_getElem.1 hap i j ls lt hij
  rw [es, et] at h1 h2
  rcases sugLt_or s t with k | k | k
  · exact k
  · exact absurd ((sug_neg t s).2 k) h1
  · exact absurd (congrArg Sug.term k) h2
end Go.Proofs.Ts
/- The walks of Matches and plain.Matches. -/
set_option linter.unusedVariables false
set_option linter.unusedSimpArgs false
namespace Go.Proofs.Ts
open Go Go.RowKit

/-- The terms of documents, in their order. -/
def TermsOf (D : List (List (List UInt8))) (T : List (List UInt8)) : Prop := T.Pairwise (fun a b => a < b) ∧ (∀ x, x ∈ T ↔ postsOf D x ≠ []) ∧ T.length ≤ 10000

/-- A segment that is asked, its terms named. -/
def SegT (B : Nat) (w : World) (sb : Nat) (D : List (List (List UInt8))) (T : List (List UInt8)) : Prop := B ≤ sb ∧ ∃ kn, KnownIs B w kn ∧ ∃ db R Λ ρ Dd pv ps, Λ 0 = T ∧ SegAt w sb D kn db R Λ ρ Dd pv ps
theorem Seg.withTerms {B : Nat} {w : World} {sb : Nat} {D : List (List (List UInt8))} (h : Seg B w sb D) : ∃ T, TermsOf D T ∧ SegT B w sb D T := by
  obtain ⟨h1, kn, h2, h3⟩ := h
  obtain ⟨db, R, Λ, ρ, Dd, pv, ps, hat⟩ := h2.at
  exact ⟨Λ 0, ⟨hat.2.2.1, hat.2.2.2.1, hat.2.2.2.2.1⟩, h1, kn, h3, db, R, Λ, ρ, Dd, pv, ps, rfl, hat⟩
theorem SegT.seg {B : Nat} {w : World} {sb : Nat} {D : List (List (List UInt8))} {T : List (List UInt8)} (h : SegT B w sb D T) : Seg B w sb D := by
  obtain ⟨h1, kn, h3, db, R, Λ, ρ, Dd, pv, ps, _, hat⟩ := h
  exact ⟨h1, kn, hat.is, h3⟩
theorem SegT.below {B : Nat} {w w' : World} {sb : Nat} {D : List (List (List UInt8))} {T : List (List UInt8)} (h : SegT B w sb D T) (hb : Below w.heap.size w w') : SegT B w' sb D T := by
  obtain ⟨h1, kn, h3, db, R, Λ, ρ, Dd, pv, ps, e, hat⟩ := h
  exact ⟨h1, kn, h3.below hb, db, R, Λ, ρ, Dd, pv, ps, e, hat.below hb⟩

set_option maxRecDepth 100000 in
set_option maxHeartbeats 2000000 in
theorem matches_any (B : Nat) (q : Asked) (acc : List UInt8 → Bool) (most sb : Nat) (D : List (List (List UInt8))) (T : List (List UInt8)) (w : World)
    (hB : B ≤ w.heap.size) (hseg : SegT B w sb D T) (hD : D.length ≤ 1000) (st : Nat) (hst : q.states = st) (hst1 : 1 ≤ st ∧ st ≤ 400) (hmost : most ≤ 2000000) (hcomp : CompileOk w q) (hacc : accOf q = some acc) (hfew : (hits acc T 0).length ≤ most) :
    Calls Tryz.prog 35 #[ptrV sb, askV q, .int .i64 st, .int .i64 most] w fun e w' => ∃ ov, e = .returned (.tuple #[ov, .nilIface]) ∧ SegT B w' sb D T ∧ Below B w w' ∧ Cells w w' ∧
      w'.ownsRow 0 53 2 ov (hits acc T 0).length (foundCells (matchesOf D (hits acc T 0))) := by
  obtain ⟨hsb, kn, hkn, db, R, Λ, ρ, Dd, pv, ps, rfl, hat⟩ := hseg
  have hmf : ∀ (fn : Fn) (first cap : Array Value) (w : World), (Instr.makeFunc fn first cap).run Tryz.prog w = .ok (.func fn first cap) w := fun _ _ _ _ => rfl
  have HAT := Lib.hid hat
  have HKN := Lib.hid hkn
  clear hat hkn
  unfold ptrV askV strV
  go_enter Tryz.func35, Tryz.ntmps35
  go_wp2_with fail
  have hal : Below w.heap.size w (w.alloc (.cells #[.int .i64 q.kind, .string ⟨q.a.toArray⟩, .string ⟨q.b.toArray⟩, .int .i64 q.n] 37)) := (Below.refl _ w).alloc (Nat.le_refl _) _
  have HAL := Lib.hid hal
  clear hal
  generalize (w.alloc (.cells #[.int .i64 q.kind, .string ⟨q.a.toArray⟩, .string ⟨q.b.toArray⟩, .int .i64 q.n] 37)) = w2 at *
  have hterms := terms_any B q acc most sb D kn db R Λ ρ Dd pv ps w2 (Nat.le_trans hB HAL.out.size) hsb (HAT.out.below HAL.out) (HKN.out.below HAL.out) st hst hst1 hmost (hcomp.kept (Cells.below HAL.out)) hacc
  unfold ptrV askV strV at hterms
  refine hterms.mono ?_
  clear hterms
  rintro e w3 ⟨fv, er, kn', rfl, hat3, hkn3, hb3, hc3, hres⟩
  rcases hres with ⟨_, rfl, hrow, _⟩ | ⟨hgt, _⟩
  · have HT3 := Lib.hid (hat3.terms hrow)
    have HAT3 := Lib.hid hat3
    have HKN3 := Lib.hid hkn3
    have HB3 := Lib.hid hb3
    have HC3 := Lib.hid hc3
    clear hat3 hkn3 hb3 hc3 hrow
    go_wp2_with fail
    have hun := each_any D sb pv fv _ w3 HT3.out hD
    unfold ptrV at hun
    refine hun.mono ?_
    clear hun
    rintro e w4 ⟨ov, rfl, hb4, hrow4⟩
    have HB4 := Lib.hid hb4
    have HROW4 := Lib.hid hrow4
    clear hb4 hrow4
    go_wp2_with fail
    go_ret2
    exact ⟨ov, rfl, ⟨hsb, kn', HKN3.out.below HB4.out, db, R, Λ, ρ, Dd, pv, ps, rfl, HAT3.out.below HB4.out⟩, ((HAL.out.mono hB).trans HB3.out).trans (HB4.out.mono (by have := HAL.out.size; have := HB3.out.size; omega)), ((Cells.below HAL.out).trans HC3.out).trans (Cells.below HB4.out), HROW4.out⟩
  · omega

set_option maxRecDepth 100000 in
set_option maxHeartbeats 2000000 in
theorem plainMatches_any (B : Nat) (q : Asked) (acc : List UInt8 → Bool) (most sb : Nat) (D : List (List (List UInt8))) (T : List (List UInt8)) (w : World)
    (hB : B ≤ w.heap.size) (hseg : SegT B w sb D T) (hD : D.length ≤ 1000) (st : Nat) (hst : q.states = st) (hst1 : 1 ≤ st ∧ st ≤ 400) (hmost : most ≤ 2000000) (hcomp : CompileOk w q) (hacc : accOf q = some acc) (hfew : (hits acc T 0).length ≤ most) :
    Calls Tryz.prog 23 #[ptrV sb, askV q, .int .i64 st, .int .i64 most] w fun e w' => ∃ ov, e = .returned (.tuple #[ov, .int .i64 0, .int .i64 (-1)]) ∧ SegT B w' sb D T ∧ Below B w w' ∧ Cells w w' ∧
      w'.ownsRow 0 53 2 ov (hits acc T 0).length (foundCells (matchesOf D (hits acc T 0))) := by
  have HS := Lib.hid hseg
  clear hseg
  unfold ptrV askV strV
  go_enter Tryz.func23, Tryz.ntmps23
  go_wp2_with fail
  have hal : Below w.heap.size w (w.alloc (.cells #[.int .i64 q.kind, .string ⟨q.a.toArray⟩, .string ⟨q.b.toArray⟩, .int .i64 q.n] 37)) := (Below.refl _ w).alloc (Nat.le_refl _) _
  have HAL := Lib.hid hal
  clear hal
  generalize (w.alloc (.cells #[.int .i64 q.kind, .string ⟨q.a.toArray⟩, .string ⟨q.b.toArray⟩, .int .i64 q.n] 37)) = w2 at *
  have hs := matches_any B q acc most sb D T w2 (Nat.le_trans hB HAL.out.size) (HS.out.below HAL.out) hD st hst hst1 hmost (hcomp.kept (Cells.below HAL.out)) hacc hfew
  unfold ptrV askV strV at hs
  refine hs.mono ?_
  clear hs
  rintro e w3 ⟨ov, rfl, hs3, hb3, hc3, hrow3⟩
  have HC3 := Lib.hid hc3
  have HS3 := Lib.hid hs3
  have HB3 := Lib.hid hb3
  have HR3 := Lib.hid hrow3
  clear hs3 hb3 hc3 hrow3
  go_wp2_with fail
  refine (told_nil w3).mono ?_
  rintro e w4 ⟨rfl, hb4⟩
  have HB4 := Lib.hid hb4
  clear hb4
  go_wp2_with fail
  go_ret3
  exact ⟨ov, rfl, HS3.out.below HB4.out, ((HAL.out.mono hB).trans HB3.out).trans (HB4.out.mono (by have := HAL.out.size; have := HB3.out.size; omega)), ((Cells.below HAL.out).trans HC3.out).trans (Cells.below HB4.out), ownsRow_block HR3.out fun k e => HB4.out.block k (HR3.out.lt k e).2⟩
end Go.Proofs.Ts
/- A region that draws its order and hands a value to a loop's round (yield): what stands ahead of the yield in one forced order, then the yield, then the rest. No program of its own. -/
set_option linter.unusedSectionVars false
set_option linter.unusedVariables false
set_option linter.unusedSimpArgs false
namespace Go.Proofs.Ts
open Go Go.RowKit
section
variable {P : Program} {ops : Array Oper} {S : World → Prop} {Q : Exit → Act → World → Prop} {n : Nat}

/-- Whatever order is picked, up to operation x, which comes up last of all, with the set L behind it. -/
def anyY (P : Program) (ops : Array Oper) (Q : Exit → Act → World → Prop) (S : World → Prop) (x : Nat) (L : Array Bool) (E : Act → World → Prop) : Nat → Array Bool → Act → World → Prop
  | 0, listed, a, w => listed = L ∧ Region.ready .any ops listed = [x] ∧ E a w
  | m + 1, listed, a, w =>
    x ∉ Region.ready .any ops listed ∧ Region.ready .any ops listed ≠ [] ∧
    ∀ i ∈ Region.ready .any ops listed, wpOp P ops Q i (fun a' w' => S w' ∧ anyY P ops Q S x L E m (listed.setIfInBounds i true) a' w') a w

/-- Does operation x wait for operation i, directly or through others? -/
def reachB (ops : Array Oper) : Nat → Nat → Nat → Bool
  | 0, _, _ => false
  | f + 1, x, i => match ops[x]? with
    | none => false
    | some o => o.after.any fun e => Region.binds .any e && (e.on == i || reachB ops f e.on i)
/-- What is listed has all that it waits for listed. -/
def Shut (ops : Array Oper) (listed : Array Bool) : Prop := ∀ j o, ops[j]? = some o → listed.getD j false = true → ∀ e ∈ o.after, Region.binds .any e = true → listed.getD e.on false = true
theorem reach_listed {listed : Array Bool} (hc : Shut ops listed) {i : Nat} : ∀ (f x : Nat), reachB ops f x i = true → (∀ o, ops[x]? = some o → ∀ e ∈ o.after, Region.binds .any e = true → listed.getD e.on false = true) → listed.getD i false = true
  | 0, x, h, _ => by cases h
  | f + 1, x, h, hx => by
    unfold reachB at h
    split at h
    · cases h
    · rename_i o ho
      obtain ⟨e, he, hb⟩ := Array.any_eq_true'.1 h
      simp only [Bool.and_eq_true, Bool.or_eq_true, beq_iff_eq] at hb
      have hl := hx o ho e he hb.1
      rcases hb.2 with h1 | h1
      · rw [← h1]; exact hl
      · exact reach_listed hc f e.on h1 fun o' ho' => hc e.on o' ho' hl
theorem shut_set {listed : Array Bool} (hc : Shut ops listed) {j : Nat} (hj : j ∈ Region.ready .any ops listed) (hs : listed.size = ops.size) : Shut ops (listed.setIfInBounds j true) := by
  intro k o ho hk e he hb
  obtain ⟨_, oj, hoj, hall⟩ := mem_ready.1 hj
  have up : ∀ m, listed.getD m false = true → (listed.setIfInBounds j true).getD m false = true := fun m hm => by
    by_cases hjm : j = m
    · subst hjm
      have : j < listed.size := by
        rw [hs]
        exact (Array.getElem?_eq_some_iff.1 hoj).1
      simp [Array.getD, this]
    · simp only [Array.getD_eq_getD_getElem?] at hm ⊢
      rw [Array.getElem?_setIfInBounds_ne hjm]
      exact hm
  by_cases hjk : j = k
  · subst hjk
    rw [hoj] at ho
    cases ho
    exact up _ (hall e he hb)
  · refine up _ (hc k o ho ?_ e he hb)
    simp only [Array.getD_eq_getD_getElem?] at hk ⊢
    rw [Array.getElem?_setIfInBounds_ne hjk] at hk
    exact hk

theorem anyY_first {x i : Nat} {L : Array Bool} {E : Act → World → Prop} {oi : Oper} {v : Value} (hi : ops[i]? = some oi) (hsel : Region.noSelect ops = true)
    (hQ : ∀ c a w, Q (.panic c) (a.put oi.dst v) w → Q (.panic c) a w) (hxi : x ≠ i) {f : Nat} (hre : reachB ops f x i = true) :
    ∀ (m : Nat) (listed : Array Bool) (a : Act) (w : World), Shut ops listed → listed.size = ops.size →
      (∀ j oj, ops[j]? = some oj → j ≠ i → listed.getD j true = false → (∀ e ∈ oj.after, Region.binds .any e = true → e.on ≠ i) → oi.apart ops oj = true) →
      i ∈ Region.ready .any ops listed → YieldsIf P ops S oi v a → S w →
      anyY P ops Q S x L E m (listed.setIfInBounds i true) (a.put oi.dst v) w → anyY P ops Q S x L E (m + 1) listed a w := by
  have hno : ∀ listed : Array Bool, Shut ops listed → i ∈ Region.ready .any ops listed → x ∉ Region.ready .any ops listed := fun listed hc hr hx => by
    have h1 := unlisted_of_ready hr
    obtain ⟨_, o, ho, hall⟩ := mem_ready.1 hx
    have h2 := reach_listed hc f x hre fun o' ho' e he hb => by
      rw [ho] at ho'
      cases ho'
      exact hall e he hb
    rw [h1] at h2
    cases h2
  intro m
  induction m with
  | zero =>
    intro listed a w hc _ _ hr hy hS H
    refine ⟨hno listed hc hr, fun h => (by rw [h] at hr; cases hr), fun j hj => ?_⟩
    by_cases hji : j = i
    · subst hji; exact hy.wpOp hi hS ⟨hS, H⟩
    · have hcc := ready_mono hj hji
      rw [H.2.1] at hcc
      obtain rfl : j = x := by simpa using hcc
      exact (hno listed hc hr hj).elim
  | succ m ih =>
    intro listed a w hc hsz hfree hr hy hS H
    refine ⟨hno listed hc hr, fun h => (by rw [h] at hr; cases hr), fun j hj => ?_⟩
    by_cases hji : j = i
    · subst hji; exact hy.wpOp hi hS ⟨hS, H⟩
    · have h1 := H.2.2 j (ready_mono hj hji)
      obtain ⟨hjun, oj, hoj, hall⟩ := mem_ready.1 hj
      have hnot : ∀ e ∈ oj.after, Region.binds .any e = true → e.on ≠ i := fun e he hb heq => by
        have h2 := hall e he hb
        rw [heq, unlisted_of_ready hr] at h2
        cases h2
      have h2 := wpOp_putIf hoj (hfree j oj hoj hji hjun hnot) (fun cs b => Region.noSelect_spec hsel i oi cs b hi) (fun cs b => Region.noSelect_spec hsel j oj cs b hoj) hQ hy h1
      have hfree' : ∀ k ok, ops[k]? = some ok → k ≠ i → (listed.setIfInBounds j true).getD k true = false → (∀ e ∈ ok.after, Region.binds .any e = true → e.on ≠ i) → oi.apart ops ok = true := fun k ok hk hki hun hno => by
        refine hfree k ok hk hki ?_ hno
        by_cases hjk : j = k
        · subst hjk; exact hjun
        · rw [getD_set_ne true hjk] at hun; exact hun
      refine wpOp_mono (fun a' w' h3 => ⟨h3.2.1, ih (listed.setIfInBounds j true) a' w' (shut_set hc hj hsz) (by simpa using hsz) hfree' (ready_mono hr (Ne.symm hji)) h3.1 h3.2.1 ?_⟩) h2
      rw [Array.setIfInBounds_comm _ _ hji]
      exact h3.2.2

/-- The list is an order of all ahead of x. -/
def ordY (ops : Array Oper) (x : Nat) : List (Nat × Bool) → Array Bool → Bool
  | [], listed => Region.ready .any ops listed == [x]
  | (i, true) :: rest, listed => Region.ready .any ops listed == [i] && !(i == x) && ordY ops x rest (listed.setIfInBounds i true)
  | (i, false) :: rest, listed => (Region.ready .any ops listed).contains i && !(i == x) && Region.free .any ops listed i && reachB ops 40 x i && ordY ops x rest (listed.setIfInBounds i true)
/-- What is listed behind it. -/
def endY : List (Nat × Bool) → Array Bool → Array Bool
  | [], listed => listed
  | q :: rest, listed => endY rest (listed.setIfInBounds q.1 true)

theorem anyY_of_ord {lo : List Oper} {x : Nat} {E : Act → World → Prop} (hlen : lo.length ≤ 1000) (hs : Region.noSelect lo.toArray = true) (hp : ∀ c a w, ¬ Q (.panic c) a w) :
    ∀ (l : List (Nat × Bool)) (listed : Array Bool) (a : Act) (w : World), Shut lo.toArray listed → listed.size = lo.length →
    ordY lo.toArray x l listed = true → S w → wpOrd P lo S 1000000 E l a w → anyY P lo.toArray Q S x (endY l listed) E l.length listed a w
  | [], listed, a, w, _, _, hB, _, h => by
    simp only [ordY, beq_iff_eq] at hB
    exact ⟨rfl, hB, h⟩
  | (i, true) :: rest, listed, a, w, hc, hsz, hB, hS, h => by
    simp only [ordY, Bool.and_eq_true, beq_iff_eq, Bool.not_eq_true', beq_eq_false_iff_ne] at hB
    obtain ⟨⟨hr, hix⟩, hB'⟩ := hB
    have hri : i ∈ Region.ready .any lo.toArray listed := by rw [hr]; simp
    have hil : i < lo.length := by
      obtain ⟨_, o, ho, _⟩ := mem_ready.1 hri
      have := (Array.getElem?_eq_some_iff.1 ho).1
      simpa using this
    have ih := anyY_of_ord (x := x) (E := E) hlen hs hp rest (listed.setIfInBounds i true)
    have hc' := shut_set hc hri (by simpa using hsz)
    refine ⟨fun h0 => ?_, fun h0 => (by rw [hr] at h0; cases h0), fun j hj => ?_⟩
    · rw [hr] at h0
      simp at h0
      exact hix h0.symm
    rw [hr] at hj
    obtain rfl : j = i := by simpa using hj
    unfold wpOrd at h
    unfold wpOp
    split at h
    · exact h.elim
    · rename_i o ho
      have ho' : lo.toArray[j]? = some o := by simpa using ho
      simp only [ho']
      split
      · rename_i hw
        rw [if_pos hw] at h
        refine .inl ?_
        refine Oper.wp_mono (K := fun a' w' => (j ≠ 1000000 → S w') ∧ ((j = 1000000 → rest = []) ∧ wpOrd P lo S 1000000 E rest a' w')) (fun a' w' hh => ?_) ?_
        · have hj6 : j ≠ 1000000 := by omega
          exact ⟨hh.1 hj6, ih a' w' hc' (by simpa using hsz) hB' (hh.1 hj6) hh.2.2⟩
        · unfold Oper.wp at h ⊢
          generalize (execOp a.eval o).run P w = r at *
          cases r with
          | ok n w' =>
            cases n <;> simp only [Oper.upon] at h ⊢
            case value => exact h
            case skip => exact h
            case defer => exact h
            case row => exact h
            case enter f args =>
              refine Calls.mono h fun e w'' he => ?_
              cases e with
              | returned v => exact he
              | panicked c => exact he.elim
              | outgrown => obtain ⟨_, _, hx⟩ := he; exact hx.elim
            all_goals exact h
          | halt x w' =>
            cases x <;> simp only [Oper.upon] at h ⊢
            all_goals exact h.elim
      · rename_i hw
        rw [if_neg hw] at h
        exact ⟨hS, ih _ _ hc' (by simpa using hsz) hB' hS h⟩
  | (i, false) :: rest, listed, a, w, hc, hsz, hB, hS, h => by
    simp only [ordY, Bool.and_eq_true, Bool.not_eq_true', beq_eq_false_iff_ne] at hB
    obtain ⟨⟨⟨⟨hr, hix⟩, hf⟩, hre⟩, hB'⟩ := hB
    have hri : i ∈ Region.ready .any lo.toArray listed := by simpa using hr
    have ih := anyY_of_ord (x := x) (E := E) hlen hs hp rest (listed.setIfInBounds i true)
    have hc' := shut_set hc hri (by simpa using hsz)
    unfold wpOrd at h
    split at h
    · exact h.elim
    · rename_i o ho
      obtain ⟨v, hy, hk⟩ := h
      have ho' : lo.toArray[i]? = some o := by simpa using ho
      exact anyY_first ho' hs (fun c a w hq => (hp _ _ _ hq).elim) (Ne.symm hix) hre rest.length listed a w hc (by simpa using hsz) (Region.free_spec ho' hf) hri hy hS (ih _ _ hc' (by simpa using hsz) hB' hS hk)

theorem operIn_wide {o : Oper} {a : Act} {w : World} {K : Act → World → Prop} (hnd : calmB o = true) (h : o.wp P a w K Q) : o.wpIn Fence.wide n P a w K Q := by
  have hd : ∀ c, o.op ≠ .defer c := fun c e => by unfold calmB at hnd; rw [e] at hnd; cases hnd
  refine ⟨fun _ _ => trivial, ?_⟩
  rw [Oper.semAt_eq _ _ _ hd]
  unfold Oper.wp at h
  generalize (execOp a.eval o).run P w = r at *
  cases r with
  | ok x w' =>
    cases x <;> simp only [Oper.upon, Oper.uponIn] at h ⊢
    case value => exact h
    case skip => exact h
    case defer => exact h
    case enter f args => exact ⟨fun hx => (by cases hx), callsIn_wide.2 h⟩
    case row r args =>
      refine ⟨fun hx => (by cases hx), fun c cs _ => ?_⟩
      obtain ⟨v, w'', h1, h2⟩ := h c cs
      exact ⟨v, w'', h1, stepsIn_wide.2 h2⟩
    all_goals exact h.elim
  | halt x w' => cases x <;> simp only [Oper.upon, Oper.uponIn] at h ⊢ <;> exact h
theorem wpOpIn_wide (hno : ¬ LetsOut Q) (hall : (ops.toList.all calmB) = true) {i : Nat} {K : Act → World → Prop} {a : Act} {w : World} (h : wpOp P ops Q i K a w) : wpOpIn Fence.wide n P ops Q i K a w := by
  unfold wpOpIn
  unfold wpOp at h
  cases ho : ops[i]? with
  | none => rw [ho] at h; exact h
  | some o =>
    rw [ho] at h
    simp only at h ⊢
    have hc : calmB o = true := by
      rw [List.all_eq_true] at hall
      exact hall o (by rw [Array.mem_toList_iff]; exact Array.mem_of_getElem? ho)
    split
    · rename_i hw
      rw [if_pos hw] at h
      rcases h with h | ⟨_, h⟩
      · exact operIn_wide hc h
      · exact (hno h).elim
    · rename_i hw
      rw [if_neg hw] at h
      exact ⟨fun _ _ => trivial, h⟩
theorem wpAnyIn_wide (hno : ¬ LetsOut Q) (hall : (ops.toList.all calmB) = true) : ∀ (fuel : Nat) (listed : Array Bool) (a : Act) (w : World), wpAny P .any ops Q fuel listed a w → wpAnyIn Fence.wide n P .any ops Q fuel listed a w
  | 0, _, _, _, h => h
  | fuel + 1, listed, a, w, h => ⟨h.1, fun i hi => wpOpIn_mono (fun a' w' h' => wpAnyIn_wide hno hall fuel _ a' w' h') (wpOpIn_wide hno hall (h.2 i hi))⟩
theorem wpAnyIn_of_anyY (hno : ¬ LetsOut Q) (hall : (ops.toList.all calmB) = true) {x k : Nat} {L : Array Bool} {E : Act → World → Prop} (hE : ∀ a w, E a w → wpOpIn Fence.wide n P ops Q x (wpAnyIn Fence.wide n P .any ops Q k (L.setIfInBounds x true)) a w) :
    ∀ (m : Nat) (listed : Array Bool) (a : Act) (w : World), anyY P ops Q S x L E m listed a w → wpAnyIn Fence.wide n P .any ops Q (m + (k + 1)) listed a w
  | 0, listed, a, w, h => by
    obtain ⟨rfl, hr, he⟩ := h
    rw [Nat.zero_add]
    refine ⟨fun h0 => (by rw [hr] at h0; cases h0), fun i hi => ?_⟩
    rw [hr] at hi
    obtain rfl : i = x := by simpa using hi
    exact hE _ _ he
  | m + 1, listed, a, w, h => by
    rw [show m + 1 + (k + 1) = m + (k + 1) + 1 by omega]
    exact ⟨fun h0 => absurd h0 h.2.1, fun i hi => wpOpIn_mono (fun a' w' h' => wpAnyIn_of_anyY hno hall hE m _ a' w' h'.2) (wpOpIn_wide hno hall (h.2.2 i hi))⟩

/-- What stands ahead of operation x in one order; x as it is; what stands behind it in one order. -/
theorem wpIn_region_yield {id : Nat} {a : Act} {w : World} {lo : List Oper} (l1 : List (Nat × Bool)) (x : Nat) (l2 : List (Nat × Bool)) (S : World → Prop) (hm : P.follows .mixedOrders = true)
    (hs : (Region.noSelect lo.toArray && decide (lo.length ≤ 1000) && (l1.length + (l2.length + 1) == lo.length) && ordY lo.toArray x l1 (Array.replicate lo.length false) && ordB lo.toArray l2 ((endY l1 (Array.replicate lo.length false)).setIfInBounds x true) && lo.all calmB && (l2.all fun q => q.2)) = true) (hS : S w.drew)
    (h : wpOrd P lo S 1000000 (fun a1 w1 => wpOpIn Fence.wide n P lo.toArray (Calm Q) x (fun a2 w2 => wpOrd P lo (fun _ => True) 1000000 (Q .normal) l2 a2 w2) a1 w1) l1 a w.drew) : (Code.region id lo.toArray true).wpIn Fence.wide n P Q a w := by
  simp only [Bool.and_eq_true, beq_iff_eq, decide_eq_true_eq] at hs
  obtain ⟨⟨⟨⟨⟨⟨h1, h2⟩, h3⟩, h4⟩, h5⟩, h6⟩, h7⟩ := hs
  have hno : ¬ LetsOut (Calm Q) := fun ⟨_, _, h⟩ => h
  have hshut : Shut lo.toArray (Array.replicate lo.length false) := fun j o ho hj => by
    exfalso
    simp only [Array.getD_eq_getD_getElem?, Array.getElem?_replicate] at hj
    split at hj <;> simp at hj
  refine wpIn_mono (Q := Calm Q) (wpIn_region_any hm ?_) ?_
  · have hy := anyY_of_ord (Q := Calm Q) (x := x) h2 h1 (fun _ _ _ h => h) l1 (Array.replicate lo.length false) a w.drew hshut (by simp) h4 hS h
    have := wpAnyIn_of_anyY (n := n) (k := l2.length) hno h6 (fun a1 w1 he => wpOpIn_mono (fun a2 w2 hk => wpAnyIn_wide hno h6 _ _ _ _ (wpAny_of_anyX (S := fun _ => True) (x := 1000000) _ _ _ _
      (anyX_of_ord (Q := Q) (Q' := Calm Q) (x := 1000000) h1 (fun _ _ h => h) (fun _ _ _ h => h) l2 _ a2 w2 (fun q hq hf => by rw [List.all_eq_true] at h7; rw [h7 q hq] at hf; cases hf) h5 trivial hk))) he) l1.length _ a w.drew hy
    rw [h3] at this
    simpa using this
  · intro e a w h
    cases e <;> first | exact h | exact h.elim
end
end Go.Proofs.Ts
/- A loop over a function that writes rows of bytes of its own between two rounds. No program of its own. -/
set_option linter.unusedSectionVars false
set_option linter.unusedVariables false
set_option linter.unusedSimpArgs false
namespace Go.Proofs.Ts
open Go Go.RowKit

/-- It stands whatever the function does to memory beyond B. -/
def Stands {β : Type} (B : Nat) (I : β → World → Prop) : Prop := ∀ s A A', I s A → StepsB B A A' → I s A'
/-- It stands where the record of loop l is turned. -/
def StandsP {β : Type} (l : Nat) (I : β → World → Prop) : Prop := ∀ s A r o', I s A → A.heap[l]? = some (.loop r) → I s (A.putObj l o')
theorem StepsB.less {B C : Nat} {w w' : World} (h : StepsB C w w') (hB : B ≤ C) : StepsB B w w' :=
  ⟨h.1, h.2.1, h.2.2.1, h.2.2.2.1, fun k o hk ho => h.2.2.2.2 k o hk (ho.imp (fun x => Nat.lt_of_lt_of_le x hB) id)⟩

/-- The contract of a function that is looped over, called in world w1 with the yield of loop l. -/
def SeqT {α : Type} (F : Fence) (n : Nat) (P : Program) (gf : Nat) (lb : Array Value) (encs : α → Array Value) (Kp : World → World → Prop) (S Sp : List α → Prop) (N : Nat) (w1 : World) (l : Nat) : Prop :=
  ∀ (J Jx : List α → World → Prop), Stands w1.heap.size J →
    (∀ pre x W1, J pre W1 → pre.length < N → YieldAt F (n - 1) P l (encs x) W1 fun e W' => (e = .returned (.bool true) ∧ J (pre ++ [x]) W' ∧ Kp W1 W') ∨ (e = .returned (.bool false) ∧ Jx (pre ++ [x]) W' ∧ Kp W1 W')) → J [] w1 →
    CallsIn F n P gf (#[.func (.yield l) #[] #[]] ++ lb) w1 fun e W' => (∃ v, e = .returned v) ∧ ((∃ xs, S xs ∧ J xs W') ∨ (∃ zs, Sp zs ∧ Jx zs W'))

/-- How a round may be left. -/
def ownPostT {α : Type} (B : Nat) (Kp : World → World → Prop) (I : List α → World → Prop) (Ix : Code → List α → World → Prop) (xs : List α) (W : World) : Exit → Act → World → Prop
  | .normal, _, W' => KeepsFrom B W W' ∧ Kp W W' ∧ I xs W'
  | .ret, _, W' => KeepsFrom B W W' ∧ Kp W W' ∧ Ix .ret xs W'
  | .exit id, _, W' => KeepsFrom B W W' ∧ Kp W W' ∧ Ix (.exit id) xs W'
  | .goto t, _, W' => KeepsFrom B W W' ∧ Kp W W' ∧ Ix (.goto t) xs W'
  | .panic _, _, _ => False
  | .outgrown, _, _ => False

/-- The record of a loop. -/
def recOf (fn : FuncId) (a : Act) (ps : Array Tmp) (assign body : Code) (d : Nat) (st : LoopState) (pe : Option Code) : Loop := { state := st, pending := pe, fn, tmps := a.tmps, params := ps, assign, body, defers := d }

theorem wpIn_rangeFunc_T {α : Type} {F : Fence} {n : Nat} {P : Program} {g : Operand} {ps : Array Tmp} {assign body : Code} {Q : Exit → Act → World → Prop} {a : Act} {w : World} {B l dfr : Nat} {mark : List Deferred} {w1 : FuncId → World}
    (hent : ∀ fn, F.fn fn → (Instr.enterLoop fn a.tmps ps assign body F.round).run P w = .ok (l, mark) (w1 fn) ∧ (w1 fn).heap[l]? = some (.loop (recOf fn a ps assign body dfr .ready none)) ∧ B ≤ (w1 fn).heap.size)
    (hBl : B ≤ l) (h1 : 1 ≤ n) {gf : Nat} {lb : Array Value} (hg : a.eval g = .func (.func gf) #[] lb) (hFg : F.fn gf) (eg : ∀ args w, (callFunc gf args).run P w = .ok (.enter gf args) w)
    {encs : α → Array Value} {Kp : World → World → Prop} {S Sp : List α → Prop} {N : Nat} (hseq : ∀ fn, F.fn fn → SeqT F (n - 1) P gf lb encs Kp S Sp N (w1 fn) l)
    (hKt : ∀ {A A' C : World}, Kp A A' → Kp A' C → Kp A C) (hKb : ∀ (W : World) (r : Loop) (o' : Obj), W.heap[l]? = some (.loop r) → Kp W (W.putObj l o')) (hps : ∀ x, (encs x).size = ps.size)
    (I : List α → World → Prop) (Ix : Code → List α → World → Prop) (hI : Stands B I) (hIp : StandsP l I) (hIxp : ∀ c, StandsP l (Ix c)) (h0 : ∀ fn, F.fn fn → I [] (w1 fn)) (Ax : α → Act → World → Prop) (hAxp : ∀ x a', StandsP l (fun (_ : Unit) W => Ax x a' W))
    (hassign : ∀ (zs : List α) (x : α) (W : World) (K : Act → World → Prop), I zs W → (∀ a' W', KeepsFrom B W W' → Kp W W' → I zs W' → Ax x a' W' → K a' W') →
      assign.wpIn (F.inRound l) (n - 1 - 1) P (Exit.then K (fun _ _ _ => False)) { tmps := (ps.zip (encs x)).foldl (fun t (p, v) => t.setIfInBounds p v) a.tmps, defers := [] } W)
    (hbody : ∀ (zs : List α) (x : α) (a' : Act) (W : World), (∃ r, W.heap[l]? = some (.loop r)) → I zs W → Ax x a' W → zs.length < N → body.wpIn (F.inRound l) (n - 1 - 1) P (ownPostT B Kp I Ix (zs ++ [x]) W) a' W)
    (hdone : ∀ (xs : List α) (W : World), S xs → I xs W → Q .normal { a with defers := mark ++ a.defers } W)
    (hstop : ∀ (c : Code) (zs : List α) (W : World), Sp zs → Ix c zs W → c.wpIn F n P Q { a with defers := mark ++ a.defers } W) :
    (Code.rangeFunc g ps assign body).wpIn F n P Q a w := by
  refine wpIn_rangeFunc fun fn hfn => ?_
  obtain ⟨he, hl1, hBs⟩ := hent fn hfn
  refine ⟨l, mark, w1 fn, { target := .fn (.func gf) lb, args := #[.func (.yield l) #[] #[]] }, w1 fn, gf, #[.func (.yield l) #[] #[]] ++ lb, w1 fn, he, ?_, ?_, ?_, fun _ => h1, ?_⟩
  · simp only [resolve, hg]
    simp [go_sem]
  · intro f' hf'
    simp [Target.leads] at hf'
    subst hf'
    exact hFg
  · simp [invoke, go_sem, eg]
  · refine (hseq fn hfn (fun zs W => I zs W ∧ W.heap[l]? = some (.loop (recOf fn a ps assign body dfr .ready none))) (fun zs W => ∃ c, Ix c zs W ∧ W.heap[l]? = some (.loop (recOf fn a ps assign body dfr .done (some c)))) ?_ ?_ ⟨h0 fn hfn, hl1⟩).mono ?_
    · exact fun s A A' hs hst => ⟨hI s A A' hs.1 (hst.less hBs), hst.2.2.2.2 l _ hs.2 (.inr fun cs r e => by cases e)⟩
    · rintro zs x W ⟨hi, hl⟩ hlen
      have hy := run_yield (P := P) (args := encs x) hl (hps x)
      refine ⟨fn, _, assign, body, hy, roundIn_of_wpIn hfn (hassign zs x W _ hi ?_)⟩
      intro a' Wa hkf hkp hia hax
      have hla := hkf.same l _ hBl hl rfl
      have hlt := (Array.getElem?_eq_some_iff.1 hla).1
      refine ⟨_, run_beginRound hla rfl, ?_⟩
      have hl2 : (Wa.putObj l (.loop { recOf fn a ps assign body dfr .ready none with state := .busy })).heap[l]? = some (.loop { recOf fn a ps assign body dfr .ready none with state := .busy }) := World.putObj_heap_same hlt
      have hw2 : Kp Wa (Wa.putObj l (.loop { recOf fn a ps assign body dfr .ready none with state := .busy })) := hKb _ _ _ hla
      refine wpIn_mono (hbody zs x a' _ ⟨_, hl2⟩ (hIp _ _ _ _ hia hla) (hAxp x a' () _ _ _ hax hla) hlen) ?_
      have fin : ∀ (jump : Option Code) (W3 : World), KeepsFrom B (Wa.putObj l (.loop { recOf fn a ps assign body dfr .ready none with state := .busy })) W3 →
          (Instr.endRound l jump).run P W3 = .ok (.bool jump.isNone) (W3.putObj l (.loop (recOf fn a ps assign body dfr (if jump.isNone then .ready else .done) jump))) ∧
          W3.heap[l]? = some (.loop { recOf fn a ps assign body dfr .ready none with state := .busy }) ∧
          (W3.putObj l (.loop (recOf fn a ps assign body dfr (if jump.isNone then .ready else .done) jump))).heap[l]? = some (.loop (recOf fn a ps assign body dfr (if jump.isNone then .ready else .done) jump)) := fun jump W3 hk3 => by
        have hl3 := hk3.same l _ hBl hl2 rfl
        exact ⟨run_endRound (P := P) jump hl3, hl3, World.putObj_heap_same (Array.getElem?_eq_some_iff.1 hl3).1⟩
      rintro e a3 W3 hp
      cases e with
      | normal =>
        obtain ⟨hk3, hkp3, hi3⟩ := hp
        obtain ⟨hr, hl3, hl4⟩ := fin none W3 hk3
        exact ⟨_, _, hr, .inl ⟨rfl, ⟨hIp _ _ _ _ hi3 hl3, hl4⟩, hKt hkp (hKt (hKt hw2 hkp3) (hKb _ _ _ hl3))⟩⟩
      | ret =>
        obtain ⟨hk3, hkp3, hi3⟩ := hp
        obtain ⟨hr, hl3, hl4⟩ := fin (some .ret) W3 hk3
        exact ⟨_, _, hr, .inr ⟨rfl, ⟨.ret, hIxp _ _ _ _ _ hi3 hl3, hl4⟩, hKt hkp (hKt (hKt hw2 hkp3) (hKb _ _ _ hl3))⟩⟩
      | exit id =>
        obtain ⟨hk3, hkp3, hi3⟩ := hp
        obtain ⟨hr, hl3, hl4⟩ := fin (some (.exit id)) W3 hk3
        exact ⟨_, _, hr, .inr ⟨rfl, ⟨.exit id, hIxp _ _ _ _ _ hi3 hl3, hl4⟩, hKt hkp (hKt (hKt hw2 hkp3) (hKb _ _ _ hl3))⟩⟩
      | goto t =>
        obtain ⟨hk3, hkp3, hi3⟩ := hp
        obtain ⟨hr, hl3, hl4⟩ := fin (some (.goto t)) W3 hk3
        exact ⟨_, _, hr, .inr ⟨rfl, ⟨.goto t, hIxp _ _ _ _ _ hi3 hl3, hl4⟩, hKt hkp (hKt (hKt hw2 hkp3) (hKb _ _ _ hl3))⟩⟩
      | panic ch => exact hp.elim
      | outgrown => exact hp.elim
    · rintro e W2 ⟨⟨v, rfl⟩, (⟨xs, hS, hi, hl⟩ | ⟨zs, hSp, c, hi, hl⟩)⟩
      · exact ⟨none, _, run_endLoop (P := P) hl (by intro h; cases h), hdone xs _ hS (hIp _ _ _ _ hi hl)⟩
      · exact ⟨some c, _, run_endLoop (P := P) hl (by intro h; cases h), hstop c zs _ hSp (hIxp c _ _ _ _ hi hl)⟩

/-- Without a loop variable: nothing is assigned. -/
theorem wpIn_rangeFunc_Ts {α : Type} {F : Fence} {n : Nat} {P : Program} {g : Operand} {ps : Array Tmp} {body : Code} {Q : Exit → Act → World → Prop} {a : Act} {w : World} {B l dfr : Nat} {mark : List Deferred} {w1 : FuncId → World}
    (hent : ∀ fn, F.fn fn → (Instr.enterLoop fn a.tmps ps .skip body F.round).run P w = .ok (l, mark) (w1 fn) ∧ (w1 fn).heap[l]? = some (.loop (recOf fn a ps .skip body dfr .ready none)) ∧ B ≤ (w1 fn).heap.size)
    (hBl : B ≤ l) (h1 : 1 ≤ n) {gf : Nat} {lb : Array Value} (hg : a.eval g = .func (.func gf) #[] lb) (hFg : F.fn gf) (eg : ∀ args w, (callFunc gf args).run P w = .ok (.enter gf args) w)
    {encs : α → Array Value} {Kp : World → World → Prop} {S Sp : List α → Prop} {N : Nat} (hseq : ∀ fn, F.fn fn → SeqT F (n - 1) P gf lb encs Kp S Sp N (w1 fn) l)
    (hKr : ∀ A, Kp A A) (hKt : ∀ {A A' C : World}, Kp A A' → Kp A' C → Kp A C) (hKb : ∀ (W : World) (r : Loop) (o' : Obj), W.heap[l]? = some (.loop r) → Kp W (W.putObj l o')) (hps : ∀ x, (encs x).size = ps.size)
    (I : List α → World → Prop) (Ix : Code → List α → World → Prop) (hI : Stands B I) (hIp : StandsP l I) (hIxp : ∀ c, StandsP l (Ix c)) (h0 : ∀ fn, F.fn fn → I [] (w1 fn))
    (hbody : ∀ (zs : List α) (x : α) (W : World), (∃ r, W.heap[l]? = some (.loop r)) → I zs W → zs.length < N → body.wpIn (F.inRound l) (n - 1 - 1) P (ownPostT B Kp I Ix (zs ++ [x]) W) { tmps := (ps.zip (encs x)).foldl (fun t (p, v) => t.setIfInBounds p v) a.tmps, defers := [] } W)
    (hdone : ∀ (xs : List α) (W : World), S xs → I xs W → Q .normal { a with defers := mark ++ a.defers } W)
    (hstop : ∀ (c : Code) (zs : List α) (W : World), Sp zs → Ix c zs W → c.wpIn F n P Q { a with defers := mark ++ a.defers } W) :
    (Code.rangeFunc g ps .skip body).wpIn F n P Q a w :=
  wpIn_rangeFunc_T hent hBl h1 hg hFg eg hseq (fun h k => hKt h k) hKb hps I Ix hI hIp hIxp h0 (fun x a' _ => a' = { tmps := (ps.zip (encs x)).foldl (fun t (p, v) => t.setIfInBounds p v) a.tmps, defers := [] }) (fun _ _ _ _ _ _ h _ => h)
    (fun zs x W K hi hK => wpIn_skip (hK _ _ (KeepsFrom.refl _ _) (hKr W) hi rfl)) (fun zs x a' W hr hi ha hl => by rw [ha]; exact hbody zs x W hr hi hl) hdone hstop
end Go.Proofs.Ts
/- The walk of what All hands the automaton's walk: a term turned to a match and yielded. -/
set_option linter.unusedVariables false
set_option linter.unusedSimpArgs false
namespace Go.Proofs.Ts
open Go Go.RowKit Go.Shelf
attribute [local go_sem] Oper.semAt_some

theorem YieldAt.depth {n m : Nat} {P : Program} {l : Nat} {args : Array Value} {W : World} {R : Ending → World → Prop} (h : YieldAt Fence.wide n P l args W R) : YieldAt Fence.wide m P l args W R := by
  obtain ⟨fn, tmps, assign, body, hy, hr⟩ := h
  exact ⟨fn, tmps, assign, body, hy, hr.1, fun c cs _ => hr.2 c cs (room_wide _)⟩

theorem wpOpIn_op {F : Fence} {n : Nat} {P : Program} {ops : Array Oper} {Q : Exit → Act → World → Prop} {x : Nat} {K : Act → World → Prop} {a : Act} {w : World} {o : Oper} (ho : ops[x]? = some o) (hw : Region.wanted o (yielded ops a.tmps) = true) (h : o.wpIn F n P a w K Q) : wpOpIn F n P ops Q x K a w := by
  unfold wpOpIn
  rw [ho]
  simp only [hw, if_true]
  exact h

set_option maxRecDepth 100000 in
set_option maxHeartbeats 2000000 in
theorem all11_any (l yb bx sb : Nat) (pv : Value) (t : List UInt8) (i c : Nat) (w : World) (Jt Jf : World → Prop) (hyb : w.heap[yb]? = some (.cells #[.func (.yield l) #[] #[]] 122 (0, 0))) (hbx : w.heap[bx]? = some (.cells #[ptrV sb] 23 (0, 0)))
    (h2 : w.cell? ⟨sb, 2, none⟩ = some pv) (hp : PostAt w pv i c)
    (hY : ∀ W, Below w.heap.size w W → YieldAt Fence.wide 2 Tryz.prog l #[.agg #[strV t, intV c]] W fun e W' => (e = .returned (.bool true) ∧ Jt W') ∨ (e = .returned (.bool false) ∧ Jf W')) :
    Calls Tryz.prog 53 #[strV t, intV i, ptrV yb, ptrV bx] w fun e W' => (e = .returned (.bool true) ∧ Jt W') ∨ (e = .returned (.bool false) ∧ Jf W') := by
  refine (callsIn_wide (n := 3)).1 ?_
  have c0 : w.cell? ⟨yb, 0, none⟩ = some (.func (.yield l) #[] #[]) := cell_block hyb
  have c1 : w.cell? ⟨bx, 0, none⟩ = some (ptrV sb) := cell_block hbx
  have HY := Lib.hid hY
  have HP := Lib.hid hp
  clear hY hp hyb hbx
  unfold ptrV at c1
  refine callsIn_of_wp Tryz.func53 rfl trivial ?_ rfl
  simp only [Tryz.ntmps53, List.size_toArray, List.length_cons, List.length_nil, Nat.reduceAdd, Nat.reduceSub, Array.replicate_succ, Array.replicate_zero, List.push_toArray, List.append_toArray, List.nil_append, List.cons_append]
  unfold ptrV strV intV
  gi_wp2
  refine wpIn_region_yield [(0, false), (1, false), (2, false), (3, false), (4, false), (5, true)] 6 [(7, true)]
    (fun w' => w'.cell? ⟨yb, 0, none⟩ = some (.func (.yield l) #[] #[]) ∧ w'.cell? ⟨bx, 0, none⟩ = some (.pointer (some ⟨sb, 0, none⟩))) (by kernel_rfl) (by kernel_rfl) ⟨c0, c1⟩ ?_
  iterate 5 (
    refine wpOrd_quiet ?_ rfl rfl (fun w' hS => ?_) ?_
    rotate_left
    · obtain ⟨f0, f1⟩ := hS
      go_simp
      first | rfl | done
    simp only [put_lit, List.set_cons_succ, List.set_cons_zero])
  refine wpOrd_loud rfl rfl (by decide) (fun K hK => ?_)
  go_simp
  have hb0 : Below w.heap.size w w.drew := (Same.drew w).below _
  have hpd : PostAt w.drew pv i c := HP.out
  have hm := match_any sb pv t i c w.drew h2 hpd
  unfold ptrV strV intV at hm
  refine hm.mono ?_
  clear hm
  rintro e w3 ⟨rfl, hb3⟩
  have hb : Below w.heap.size w w3 := hb0.trans hb3
  have d0 := (hb.cell (p := ⟨yb, 0, none⟩) (lt_of_cell c0)).trans c0
  have d1 := (hb.cell (p := ⟨bx, 0, none⟩) (lt_of_cell c1)).trans c1
  refine hK _ _ ⟨d0, d1⟩ ?_
  clear hK K
  refine wpOrd_nil ?_
  obtain ⟨fn, tmps, assign, body, hy, hR⟩ := YieldAt.depth (m := 2) (HY.out w3 hb)
  unfold strV intV at hy
  refine wpOpIn_op rfl rfl ⟨fun _ _ => trivial, ?_⟩
  rw [Oper.semAt_eq _ _ _ (fun c e => by cases e)]
  go_simp
  refine hR.mono ?_
  rintro e W4 (⟨rfl, hj⟩ | ⟨rfl, hj⟩)
  · refine wpOrd_loud rfl rfl (by decide) (fun K hK => ?_)
    go_simp
    refine hK _ _ trivial ?_
    clear hK K
    refine wpOrd_nil ?_
    gi_wp2
    go_ret
    exact .inl ⟨rfl, hj⟩
  · refine wpOrd_loud rfl rfl (by decide) (fun K hK => ?_)
    go_simp
    refine hK _ _ trivial ?_
    clear hK K
    refine wpOrd_nil ?_
    gi_wp2
    go_ret
    exact .inr ⟨rfl, hj⟩
end Go.Proofs.Ts
/- The walks of All and of the function that it hands back: its contract as a function that is looped over. -/
set_option linter.unusedVariables false
set_option linter.unusedSimpArgs false
namespace Go.Proofs.Ts
open Go Go.RowKit

theorem all_make (sb : Nat) (w : World) :
    Calls Tryz.prog 36 #[ptrV sb] w fun e w' => e = .returned (.func (.func 51) #[] #[ptrV w.heap.size]) ∧ w' = w.alloc (.cells #[ptrV sb] 23) := by
  have hmf : ∀ (fn : Fn) (first cap : Array Value) (w : World), (Instr.makeFunc fn first cap).run Tryz.prog w = .ok (.func fn first cap) w := fun _ _ _ _ => rfl
  unfold ptrV
  go_enter Tryz.func36, Tryz.ntmps36
  go_wp2
  go_ret
  exact ⟨rfl, rfl⟩

/-- The types whose rows and boxes All's function leans on. -/
def keepsOn (t : TypeId) : Bool := leansOn t || [96, 27, 23, 122].contains t
def KeepA (w w' : World) : Prop := w.heap.size ≤ w'.heap.size ∧ ∀ (k : Nat) cs t r, w.heap[k]? = some (.cells cs t r) → keepsOn t = true → w'.heap[k]? = w.heap[k]?
theorem KeepA.refl (w : World) : KeepA w w := ⟨Nat.le_refl _, fun _ _ _ _ _ _ => rfl⟩
theorem KeepA.trans {a b c : World} (h : KeepA a b) (k : KeepA b c) : KeepA a c := ⟨Nat.le_trans h.1 k.1, fun j cs t r h1 h2 => (k.2 j cs t r ((h.2 j cs t r h1 h2).trans h1) h2).trans (h.2 j cs t r h1 h2)⟩
theorem KeepA.below {w w' : World} (h : Below w.heap.size w w') : KeepA w w' := ⟨h.size, fun k cs t r hk _ => h.block k (lt_of_heap hk)⟩
theorem KeepA.keepT {w w' : World} (h : KeepA w w') : KeepT w w' := ⟨h.1, fun k cs t r hk ht => h.2 k cs t r hk (by unfold keepsOn; rw [ht]; rfl)⟩
theorem KeepA.put {W : World} {k : Nat} {o o' : Obj} (h : W.heap[k]? = some o) (hc : o.isCells = false) : KeepA W (W.putObj k o') := by
  refine ⟨(grownBy_putObj' W k o').size, fun j cs t r hj _ => (grownBy_putObj' W k o').block j (lt_of_heap hj) fun e => ?_⟩
  cases e
  rw [h] at hj
  cases hj
  cases hc
theorem YieldAt.mono {F : Fence} {n : Nat} {P : Program} {l : Nat} {args : Array Value} {W : World} {R R' : Ending → World → Prop} (h : YieldAt F n P l args W R) (hr : ∀ e w, R e w → R' e w) : YieldAt F n P l args W R' := by
  obtain ⟨fn, tmps, assign, body, hy, hR⟩ := h
  exact ⟨fn, tmps, assign, body, hy, hR.mono hr⟩

/-- What All's function finds in memory between two rounds. -/
structure AllAt (nd db sb yb bx l m : Nat) (kn pv : Value) (ps : List Value) (w : World) : Prop where
  seg : w.heap[sb]? = some (segObj nd db pv 0 kn)
  row : w.ownsRow 0 27 1 pv m ps
  bxy : w.heap[yb]? = some (.cells #[.func (.yield l) #[] #[]] 122 (0, 0))
  bxs : w.heap[bx]? = some (.cells #[ptrV sb] 23 (0, 0))
theorem AllAt.keep {nd db sb yb bx l m : Nat} {kn pv : Value} {ps : List Value} {w w' : World} (h : AllAt nd db sb yb bx l m kn pv ps w) (hk : KeepA w w') : AllAt nd db sb yb bx l m kn pv ps w' :=
  ⟨(hk.2 _ _ _ _ h.seg (by decide)).trans h.seg, ownsRow_typed h.row fun k cs r hk' => hk.2 k cs _ r hk' (by decide), (hk.2 _ _ _ _ h.bxy (by decide)).trans h.bxy, (hk.2 _ _ _ _ h.bxs (by decide)).trans h.bxs⟩
theorem AllAt.steps {nd db sb yb bx l m B : Nat} {kn pv : Value} {ps : List Value} {w w' : World} (h : AllAt nd db sb yb bx l m kn pv ps w) (hs : StepsB B w w') : AllAt nd db sb yb bx l m kn pv ps w' := by
  have go : ∀ (k : Nat) cs t r, w.heap[k]? = some (.cells cs t r) → t ≠ 5 → w'.heap[k]? = some (.cells cs t r) := fun k cs t r hk ht => hs.2.2.2.2 k _ hk (.inr fun cs' r' e => by cases e; exact ht rfl)
  exact ⟨go _ _ _ _ h.seg (by decide), ownsRow_typed h.row fun k cs r hk => (go _ _ _ _ hk (by decide)).trans hk.symm, go _ _ _ _ h.bxy (by decide), go _ _ _ _ h.bxs (by decide)⟩

def encM (p : List UInt8 × Nat) : Array Value := #[.agg #[strV p.1, intV p.2]]
def allHits (T : List (List UInt8)) : List (List UInt8 × Nat) := hits (fun _ => true) T 0
theorem matchesOf_snoc (D : List (List (List UInt8))) (ys : List (List UInt8 × Nat)) (p : List UInt8 × Nat) : matchesOf D (ys ++ [p]) = matchesOf D ys ++ [(p.1, (postsOf D p.1).length)] := by simp [matchesOf]
theorem matchesOf_length (D : List (List (List UInt8))) (ys : List (List UInt8 × Nat)) : (matchesOf D ys).length = ys.length := by simp [matchesOf]

set_option maxRecDepth 100000 in
set_option maxHeartbeats 2000000 in
theorem all1_seq (n sb bx l : Nat) (D : List (List (List UInt8))) (kn : Value) (db : Nat) (R : Nat → Prop) (Λ : Nat → List Word) (ρ : Nat → Nat) (Dd : List DS) (pv : Value) (ps : List Value) (w1 : World)
    (hat : SegAt w1 sb D kn db R Λ ρ Dd pv ps) (hbx : w1.heap[bx]? = some (.cells #[ptrV sb] 23 (0, 0))) :
    SeqT Fence.wide n Tryz.prog 51 #[ptrV bx] encM KeepA (fun xs => xs = matchesOf D (allHits (Λ 0))) (fun zs => zs <+: matchesOf D (allHits (Λ 0))) (allHits (Λ 0)).length w1 l := by
  intro J Jx hJ hY hj0
  have hmf : ∀ (fn : Fn) (first cap : Array Value) (w : World), (Instr.makeFunc fn first cap).run Tryz.prog w = .ok (.func fn first cap) w := fun _ _ _ _ => rfl
  have HAT := Lib.hid hat
  have HJ := Lib.hid hJ
  have HY := Lib.hid hY
  have HJ0 := Lib.hid hj0
  have HBX := Lib.hid hbx
  have hbxl := lt_of_heap hbx
  have hsbl := lt_of_heap hat.1
  clear hat hJ hY hj0 hbx
  refine callsIn_wide.2 ?_
  show Calls Tryz.prog 51 #[.func (.yield l) #[] #[], ptrV bx] w1 _
  unfold ptrV
  go_enter Tryz.func51, Tryz.ntmps51
  go_wp2_with fail
  have hbl : Below w1.heap.size w1 (w1.alloc (.cells #[.func (.yield l) #[] #[]] 122)) := (Below.refl _ _).alloc (Nat.le_refl _) _
  have hyb : (w1.alloc (.cells #[.func (.yield l) #[] #[]] 122)).heap[w1.heap.size]? = some (.cells #[.func (.yield l) #[] #[]] 122 (0, 0)) := heap_alloc_new _ _
  have hs2 : (w1.alloc (.cells #[.func (.yield l) #[] #[]] 122)).heap.size = w1.heap.size + 1 := by simp
  generalize (w1.alloc (.cells #[.func (.yield l) #[] #[]] 122)) = w2 at *
  have c1 : w2.cell? ⟨bx, 0, none⟩ = some (.pointer (some ⟨sb, 0, none⟩)) := cell_block ((hbl.block _ hbxl).trans HBX.out)
  have c2 : w2.cell? ⟨sb, 1, none⟩ = some (.pointer (some ⟨db, 0, none⟩)) := cell_block ((hbl.block _ hsbl).trans HAT.out.1)
  have HBL := Lib.hid hbl
  have HYB := Lib.hid hyb
  clear hbl hyb
  refine wp_region_ord [(0, false), (2, false), (3, false), (4, false), (5, false), (6, false), (1, true), (7, true)]
    (fun w' => w'.cell? ⟨bx, 0, none⟩ = some (.pointer (some ⟨sb, 0, none⟩)) ∧ w'.cell? ⟨sb, 1, none⟩ = some (.pointer (some ⟨db, 0, none⟩))) (by kernel_rfl) (by kernel_rfl) ⟨c1, c2⟩ ?_
  iterate 6 (
    refine wpOrd_quiet ?_ rfl rfl (fun w' hS => ?_) ?_
    rotate_left
    · obtain ⟨f0, f1⟩ := hS
      go_simp
      first | rfl | done
    simp only [put_lit, List.set_cons_succ, List.set_cons_zero])
  refine wpOrd_loud rfl rfl (by decide) (fun K hK => ?_)
  go_simp
  refine (over_make _ _ ⟨_, _, rfl⟩).mono ?_
  rintro e w' ⟨rfl, rfl⟩
  have e1 : (w2.drew.alloc (.cells #[.iface 126 (.string ⟨#[]⟩)] 206)).cell? ⟨bx, 0, none⟩ = some (.pointer (some ⟨sb, 0, none⟩)) := (World.cell?_alloc_lt w2.drew _ _ (show bx < w2.drew.heap.size from lt_of_cell c1)).trans c1
  have e2 : (w2.drew.alloc (.cells #[.iface 126 (.string ⟨#[]⟩)] 206)).cell? ⟨sb, 1, none⟩ = some (.pointer (some ⟨db, 0, none⟩)) := (World.cell?_alloc_lt w2.drew _ _ (show sb < w2.drew.heap.size from lt_of_cell c2)).trans c2
  refine hK _ _ ⟨e1, e2⟩ ?_
  clear hK K
  have hbl3 : Below w1.heap.size w1 (w2.drew.alloc (.cells #[.iface 126 (.string ⟨#[]⟩)] 206)) := HBL.out.drew.alloc (by simp; omega) _
  have hab : (w2.drew.alloc (.cells #[.iface 126 (.string ⟨#[]⟩)] 206)).heap[w2.heap.size]? = some (.cells #[.iface 126 (.string ⟨#[]⟩)] 206 (0, 0)) := heap_alloc_new w2.drew _
  have hyb3 : (w2.drew.alloc (.cells #[.iface 126 (.string ⟨#[]⟩)] 206)).heap[w1.heap.size]? = some (.cells #[.func (.yield l) #[] #[]] 122 (0, 0)) := (Below.heap_alloc w2.drew _ _ (by show w1.heap.size < w2.heap.size; omega)).trans HYB.out
  have hd2 : w2.drew.heap.size = w2.heap.size := rfl
  rw [hd2]
  clear c1 c2 e1 e2 hd2
  generalize (w2.drew.alloc (.cells #[.iface 126 (.string ⟨#[]⟩)] 206)) = w3 at *
  have HB3 := Lib.hid hbl3
  refine wpOrd_loud rfl rfl (by decide) (fun K hK => ?_)
  unfold ptrV
  go_simp
  have hsz0 : ByteArray.size ⟨#[]⟩ = 0 := rfl
  have hA := begins_aut ⟨#[]⟩ (by rw [hsz0]; omega)
  have hacc : accA (beStep ⟨#[]⟩) (exEnds ⟨#[]⟩) 0 = fun _ => true := funext fun u => (begins_reads ⟨#[]⟩ u 0 (Nat.zero_le _)).2 (by simp)
  have hpsv : ∀ (i : Nat) t, (Λ 0)[i]? = some t → ∃ v a cap, ps[i]? = some v ∧ v = .slice a (postsOf D t).length cap := fun i t ht => by
    obtain ⟨_, _, _, _, _, _, h7, h8⟩ := HAT.out
    have hil := (List.getElem?_eq_some_iff.1 ht).1
    have hpl : ps.length = (Λ 0).length := by have := h7.1; omega
    have hpi : ps[i]? = some ps[i] := List.getElem?_eq_getElem (by omega)
    obtain ⟨a, cap, e3⟩ := ownsRow_form (h8 i _ _ hpi ht)
    exact ⟨_, a, cap, hpi, e3⟩
  have hdi := (HAT.out.below hbl3)
  have hall : AllAt D.length db sb w1.heap.size bx l (Λ 0).length kn pv ps w3 := ⟨hdi.1, hdi.2.2.2.2.2.2.1, hyb3, (hbl3.block _ hbxl).trans HBX.out⟩
  have hlen := HAT.out.2.2.2.2.1
  have hrun := over_any hA (begins_start ⟨#[]⟩) (Nat.zero_le _) 53 #[.pointer (some ⟨w1.heap.size, 0, none⟩), .pointer (some ⟨bx, 0, none⟩)] (enters_of Tryz.func53 (by kernel_rfl) rfl) w2.heap.size w3 hdi.2.1 (by omega) hab
    (fun ys W => J (matchesOf D ys) W ∧ AllAt D.length db sb w1.heap.size bx l (Λ 0).length kn pv ps W) (fun ys W => Jx (matchesOf D ys) W ∧ AllAt D.length db sb w1.heap.size bx l (Λ 0).length kn pv ps W)
    (fun ys wa wb h hs => ⟨HJ.out _ _ _ h.1 (hs.less (by have := HB3.out.size; omega)), h.2.steps hs⟩)
    (fun ys t i wa h hp => by
      rw [hacc] at hp
      have hin : (allHits (Λ 0))[ys.length]? = some (t, i) := by
        obtain ⟨r, hr⟩ := hp
        have : allHits (Λ 0) = ys ++ [(t, i)] ++ r := hr.symm
        rw [this]
        simp
      have hmem := hits_mem (List.mem_of_getElem? hin)
      have hti : (Λ 0)[i]? = some t := by have := hmem.2.2; simpa using this
      have hyl : ys.length < (allHits (Λ 0)).length := (List.getElem?_eq_some_iff.1 hin).1
      obtain ⟨v, a, cap, hv, rfl⟩ := hpsv i t hti
      obtain ⟨g, cp, e3, e4⟩ := ownsRow_cell h.2.row hv
      have hpost : PostAt wa pv i (postsOf D t).length := ⟨g, _, cp, a, cap, e3, (List.getElem?_eq_some_iff.1 hti).1, hlen, e4⟩
      refine (all11_any l w1.heap.size bx sb pv t i (postsOf D t).length wa (fun W => ∃ Wm, Below wa.heap.size wa Wm ∧ KeepA Wm W ∧ J (matchesOf D ys ++ [(t, (postsOf D t).length)]) W) (fun W => ∃ Wm, Below wa.heap.size wa Wm ∧ KeepA Wm W ∧ Jx (matchesOf D ys ++ [(t, (postsOf D t).length)]) W) h.2.bxy h.2.bxs (cell_block h.2.seg) hpost (fun W hb => ?_)).mono ?_
      · have hjw : J (matchesOf D ys) W := HJ.out _ _ _ h.1 (StepsB.below hb)
        have := HY.out (matchesOf D ys) (t, (postsOf D t).length) W hjw (by rw [matchesOf_length]; exact hyl)
        refine (YieldAt.depth (m := 2) (this.mono ?_))
        rintro e W' (⟨h1, h2, h3⟩ | ⟨h1, h2, h3⟩)
        · exact .inl ⟨h1, W, hb, h3, h2⟩
        · exact .inr ⟨h1, W, hb, h3, h2⟩
      · rintro e W' (⟨h1, Wm, hb, hk, hj⟩ | ⟨h1, Wm, hb, hk, hj⟩)
        · have hka := (KeepA.below hb).trans hk
          exact ⟨hka.keepT, .inl ⟨h1, by rw [matchesOf_snoc]; exact hj, h.2.keep hka⟩⟩
        · have hka := (KeepA.below hb).trans hk
          exact ⟨hka.keepT, .inr ⟨h1, by rw [matchesOf_snoc]; exact hj, h.2.keep hka⟩⟩)
    ⟨HJ.out _ _ _ HJ0.out (StepsB.below hbl3), hall⟩
  rw [hacc, hs2] at hrun
  unfold ptrV at hrun
  refine hrun.mono ?_
  clear hrun
  rintro e W5 ⟨rfl, hk5, hres⟩
  have hkeep : AllAt D.length db sb w1.heap.size bx l (Λ 0).length kn pv ps W5 := by
    rcases hres with h | ⟨zs, _, h⟩
    · exact h.2
    · exact h.2
  have g1 : W5.cell? ⟨bx, 0, none⟩ = some (.pointer (some ⟨sb, 0, none⟩)) := cell_block hkeep.bxs
  have g2 : W5.cell? ⟨sb, 1, none⟩ = some (.pointer (some ⟨db, 0, none⟩)) := cell_block hkeep.seg
  refine hK _ _ ⟨g1, g2⟩ ?_
  clear hK K
  refine wpOrd_nil ?_
  have HRES := Lib.hid hres
  clear hres hkeep hk5 hall hdi hpsv g1 g2
  go_wp2_with fail
  refine bodyPost_end (results_none rfl _ _ _) rfl ?_
  refine ⟨⟨_, rfl⟩, ?_⟩
  rcases HRES.out with h | ⟨zs, hz, h⟩
  · exact .inl ⟨_, rfl, h.1⟩
  · refine .inr ⟨_, ?_, h.1⟩
    obtain ⟨r, hr⟩ := hz
    have hr' : allHits (Λ 0) = zs ++ r := hr.symm
    rw [hr']
    unfold matchesOf
    rw [List.map_append]
    exact List.prefix_append _ _
end Go.Proofs.Ts
/- append onto a row of one's own, in a fence (a round of a loop over a function). No program of its own. -/
set_option linter.unusedSectionVars false
set_option linter.unusedVariables false
set_option linter.unusedSimpArgs false
namespace Go.Proofs.Ts
open Go Go.RowKit
theorem wpListIn_append_lies {F : Fence} {n' : Nat} {P : Program} {w : World} {ops : Array Oper} {rest : List Oper} {o : Oper} {a : Act} {Q : Exit → Act → World → Prop} (hgd : o.guard = none) (s x : Operand) (t : TypeId)
    (ho : o.op = .call { callee := .builtin .append, args := #[s, x], argTypes := #[t, t] })
    (e : TypeId) (i : TypeInfo) (z : Value) (size bytes : Nat) (ht : P.underlying t = some (.slice e)) (hi : P.info? e = some i) (hz : i.zero = some z)
    (hsize : i.size = size) (hby : i.bytes = bytes) (hzs : z.cells.size = size) (hsz : 0 < size)
    (v : Value) (n : Nat) (xs : List Value) (hs : a.eval s = v) (hown : w.ownsRow 0 e size v n xs)
    (ad : Addr) (m c : Nat) (news : List Value) (hx : a.eval x = .slice (some ad) m c) (hl : news.length = m * size) (hnews : ∀ j u, news[j]? = some u → w.cell? (ad.add j) = some u) (h1 : ∀ u ∈ news, u.oneCell' = true)
    (hm : 0 < m) (h63 : n + m ≤ maxLen) (hbytes : (n + m) * bytes ≤ 140737488355328)
    (h : ∀ v' w', w'.ownsRow 0 e size v' (n + m) (xs ++ news) → w.grownBy w' v.ownBlock → Lies w w' v v' → wpListIn F n' P ops Q rest (a.put o.dst v') w') : wpListIn F n' P ops Q (o :: rest) a w := by
  obtain ⟨v', w', hr, h2, h3, h4⟩ := run_append_lies (P := P) t o.type e i z size bytes ht hi hz hsize hby hzs hsz v n xs hown ad m c news hl hnews h1 hm h63 hbytes
  refine wpListIn_value hgd (fun c e => by rw [ho] at e; cases e) (by unfold Oper.about; rw [ho]; simp [resolve, Target.leads]) (v := v') (w1 := w') ?_ (h v' w' h2 h3 h4)
  unfold execOp
  simp only [ho, resolve, invoke, builtin, Sem.run_bind, Sem.run_pure, Result.andThen_ok, List.map_toArray, List.map_cons, List.map_nil, hs, hx, hr]
end Go.Proofs.Ts
/- The walk of plain.All: a loop over a segment's terms, at the first one another loop over them. -/
set_option linter.unusedVariables false
set_option linter.unusedSimpArgs false
namespace Go.Proofs.Ts
open Go Go.RowKit Go.Shelf
attribute [local go_sem] Oper.semAt_some

def allFn (bx : Nat) : Value := .func (.func 51) #[] #[.pointer (some ⟨bx, 0, none⟩)]
/-- The memory of plain.All between two rounds: w: where it began; zs: what has come. -/
structure PA (w : World) (sb lf bx wb lb ib left : Nat) (cnt : Nat) (zs : List (List UInt8 × Nat)) (W : World) : Prop where
  lst : ∃ v, W.heap[lb]? = some (.cells #[v] 47 (0, 0)) ∧ W.ownsRow 0 53 2 v zs.length (foundCells zs) ∧ Past (ib + 1) v
  cnt : W.heap[ib]? = some (.cells #[.int .i64 cnt] 3 (0, 0))
  lft : W.heap[lf]? = some (.cells #[.int .i64 left] 3 (0, 0))
  bxs : W.heap[bx]? = some (.cells #[ptrV sb] 23 (0, 0))
  wlk : W.heap[wb]? = some (.cells #[allFn bx] 80 (0, 0))
  below : Below w.heap.size w W
section
variable {w : World} {sb lf bx wb lb ib left cnt : Nat} {zs : List (List UInt8 × Nat)} {W W' : World}
theorem PA.kept (h : PA w sb lf bx wb lb ib left cnt zs W) (hb : Below w.heap.size w W') (hk : ∀ (k : Nat) cs t r, W.heap[k]? = some (.cells cs t r) → t ≠ 5 → W'.heap[k]? = some (.cells cs t r)) : PA w sb lf bx wb lb ib left cnt zs W' := by
  obtain ⟨v, h1, h2, h3⟩ := h.lst
  exact ⟨⟨v, hk _ _ _ _ h1 (by decide), ownsRow_typed h2 fun k cs r hc => (hk _ _ _ _ hc (by decide)).trans hc.symm, h3⟩, hk _ _ _ _ h.cnt (by decide), hk _ _ _ _ h.lft (by decide), hk _ _ _ _ h.bxs (by decide), hk _ _ _ _ h.wlk (by decide), hb⟩
theorem PA.steps {B : Nat} (h : PA w sb lf bx wb lb ib left cnt zs W) (hs : StepsB B W W') (hB : w.heap.size ≤ B) : PA w sb lf bx wb lb ib left cnt zs W' := by
  refine h.kept ⟨hs.1.trans h.below.os, hs.2.1.trans h.below.tape, hs.2.2.1.trans h.below.output, Nat.le_trans h.below.size hs.2.2.2.1, fun k hk => ?_⟩ fun k cs t r hk ht => hs.2.2.2.2 k _ hk (.inr fun cs' r' e => by cases e; exact ht rfl)
  have hl : k < W.heap.size := Nat.lt_of_lt_of_le hk h.below.size
  rw [hs.2.2.2.2 k W.heap[k] (Array.getElem?_eq_getElem hl) (.inl (by omega)), ← Array.getElem?_eq_getElem hl]
  exact h.below.block k hk
theorem PA.put {l : Nat} {r : Loop} {o' : Obj} (h : PA w sb lf bx wb lb ib left cnt zs W) (hl : W.heap[l]? = some (.loop r)) (hlw : w.heap.size ≤ l) : PA w sb lf bx wb lb ib left cnt zs (W.putObj l o') := by
  have hg := grownBy_putObj' W l o'
  refine h.kept (h.below.grown hg h.below.size fun k e => by cases e; exact hlw) fun k cs t r' hk _ => (hg.block k (lt_of_heap hk) fun e => ?_).trans hk
  cases e
  rw [hl] at hk
  cases hk
theorem PA.alloc (h : PA w sb lf bx wb lb ib left cnt zs W) (o : Obj) : PA w sb lf bx wb lb ib left cnt zs (W.alloc o) :=
  h.kept (h.below.alloc h.below.size _) fun k cs t r hk _ => (Below.heap_alloc W o k (lt_of_heap hk)).trans hk
/-- One more has come. -/
theorem PA.push (h : PA w sb lf bx wb lb ib left cnt zs W) {v v4 : Value} {W4 : World} {x : List UInt8 × Nat} (hv : W.heap[lb]? = some (.cells #[v] 47 (0, 0))) (hm : Moves W v W4 v4) (hr : W4.ownsRow 0 53 2 v4 (zs.length + 1) (foundCells zs ++ [strV x.1, intV x.2]))
    (hlb : w.heap.size ≤ lb) (hib : w.heap.size ≤ ib) (hil : ib < W.heap.size) : PA w sb lf bx wb lb ib left cnt (zs ++ [x]) (W4.setCell ⟨lb, 0, none⟩ v4) ∧ KeepA W (W4.setCell ⟨lb, 0, none⟩ v4) ∧ ∀ (k : Nat) o, W.heap[k]? = some o → o.isCells = false → (W4.setCell ⟨lb, 0, none⟩ v4).heap[k]? = some o := by
  obtain ⟨u, h1, h2, h3⟩ := h.lst
  obtain rfl : u = v := by rw [h1] at hv; cases hv; rfl
  have hmb : ∀ (k : Nat) cs t r, W.heap[k]? = some (.cells cs t r) → t ≠ 53 → W4.heap[k]? = some (.cells cs t r) := fun k cs t r hk ht => (hm.block (lt_of_heap hk) fun e => by
    obtain ⟨cur, hcur⟩ := ownsRow_cells4 h2 e
    rw [hk] at hcur
    cases hcur
    exact ht rfl).trans hk
  have h41 := hmb _ _ _ _ h1 (by decide)
  have ho : ∀ (k : Nat) cs t r, W.heap[k]? = some (.cells cs t r) → t ≠ 53 → k ≠ lb → (W4.setCell ⟨lb, 0, none⟩ v4).heap[k]? = some (.cells cs t r) := fun k cs t r hk ht hne => (Below.heap_setCell W4 _ _ k hne).trans (hmb k cs t r hk ht)
  have hne : ∀ (k : Nat) cs t r, W.heap[k]? = some (.cells cs t r) → t ≠ 47 → k ≠ lb := fun k cs t r hk ht e => by
    rw [e, h1] at hk
    cases hk
    exact ht rfl
  have hp4 : Past (ib + 1) v4 := hm.past h3 (by omega)
  have hl4 : ∀ k, v4.ownBlock = some k → k ≠ lb := fun k e e' => by
    have h5 := (hr.lt k e).2
    obtain ⟨cur, hcur⟩ := ownsRow_cells4 hr e
    rw [e', h41] at hcur
    cases hcur
  refine ⟨⟨⟨v4, heap_setCell_same W4 lb 0 _ _ _ h41, ?_, hp4⟩, ho _ _ _ _ h.cnt (by decide) (hne _ _ _ _ h.cnt (by decide)), ho _ _ _ _ h.lft (by decide) (hne _ _ _ _ h.lft (by decide)), ho _ _ _ _ h.bxs (by decide) (hne _ _ _ _ h.bxs (by decide)), ho _ _ _ _ h.wlk (by decide) (hne _ _ _ _ h.wlk (by decide)), ?_⟩, ⟨by have := hm.size; simpa using this, fun k cs t r hk ht => ?_⟩, fun k o hk hc => ?_⟩
  · rw [foundCells_snoc, List.length_append, List.length_singleton]
    exact ownsRow_block hr fun k e => Below.heap_setCell W4 _ _ k (hl4 k e)
  · exact (hm.below (B := w.heap.size) (fun k e => by have := h3 k e; omega) h.below h.below.size).setCell (p := ⟨lb, 0, none⟩) hlb _
  · have h6 : t ≠ 53 := fun e => by rw [e] at ht; revert ht; decide
    have h7 : t ≠ 47 := fun e => by rw [e] at ht; revert ht; decide
    exact (ho _ _ _ _ hk h6 (hne _ _ _ _ hk h7)).trans hk.symm
  · have hk1 : k ≠ lb := fun e => by
      rw [e, h1] at hk
      cases hk
      cases hc
    rw [Below.heap_setCell W4 _ _ k hk1]
    refine (hm.block (lt_of_heap hk) fun e => ?_).trans hk
    obtain ⟨cur, hcur⟩ := ownsRow_cells4 h2 e
    rw [hk] at hcur
    cases hcur
    cases hc
/-- The count turns. -/
theorem PA.count (h : PA w sb lf bx wb lb ib left cnt zs W) (hib : w.heap.size ≤ ib) (hf : lf ≠ ib) (c : Nat) : PA w sb lf bx wb lb ib left c zs (W.setCell ⟨ib, 0, none⟩ (.int .i64 c)) ∧ KeepA W (W.setCell ⟨ib, 0, none⟩ (.int .i64 c)) ∧ ∀ (k : Nat) o, W.heap[k]? = some o → o.isCells = false → (W.setCell ⟨ib, 0, none⟩ (.int .i64 c)).heap[k]? = some o := by
  obtain ⟨v, h1, h2, h3⟩ := h.lst
  have ho : ∀ (k : Nat) cs t r, W.heap[k]? = some (.cells cs t r) → k ≠ ib → (W.setCell ⟨ib, 0, none⟩ (.int .i64 c)).heap[k]? = some (.cells cs t r) := fun k cs t r hk hne => (Below.heap_setCell W _ _ k hne).trans hk
  have hne : ∀ (k : Nat) cs t r, W.heap[k]? = some (.cells cs t r) → t ≠ 3 → k ≠ ib := fun k cs t r hk ht e => by
    have := h.cnt
    rw [← e, hk] at this
    cases this
    exact ht rfl
  refine ⟨⟨⟨v, ho _ _ _ _ h1 (hne _ _ _ _ h1 (by decide)), ownsRow_typed h2 fun k cs r hk => (ho _ _ _ _ hk (hne _ _ _ _ hk (by decide))).trans hk.symm, h3⟩, heap_setCell_same W ib 0 _ _ _ h.cnt, ho _ _ _ _ h.lft hf, ho _ _ _ _ h.bxs (hne _ _ _ _ h.bxs (by decide)), ho _ _ _ _ h.wlk (hne _ _ _ _ h.wlk (by decide)), h.below.setCell (p := ⟨ib, 0, none⟩) hib _⟩, ⟨by simp, fun k cs t r hk ht => ?_⟩, fun k o hk hc => ?_⟩
  · have h7 : t ≠ 3 := fun e => by rw [e] at ht; revert ht; decide
    exact (ho _ _ _ _ hk (hne _ _ _ _ hk h7)).trans hk.symm
  · refine (Below.heap_setCell W _ _ k fun e => ?_).trans hk
    simp only at e
    have := h.cnt
    rw [← e, hk] at this
    cases this
    cases hc
end
end Go.Proofs.Ts
