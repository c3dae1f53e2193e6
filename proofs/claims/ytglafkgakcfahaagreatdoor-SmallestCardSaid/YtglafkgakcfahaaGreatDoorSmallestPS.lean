/- Lemmas towards the statement Smallest of termsearch: walks of the program's functions and plain laws on lists (TsUnion, TsSearch, TsAsk, TsPlainA, TsPlain, TsFixed, TsCard, TsCardT, TsErrs, TsCardE, TsCardB, TsErrsB, TsErrsC). Conditions: those that each theorem names. -/
import Derived.Test.YtglafkgakcfahaaGreatDoorSmallestPR
import Derived.Test.YtglafkgakcfahaaGreatDoorCards
import Derived.Test.YtglafkgakcfahaaGreatDoorTie
import Derived.Test.YtglafkgakcfahaaGreatDoorSmallestPE
import Derived.WalkKit
import Derived.ProofKit
import Derived.OpenShut
import Derived.Carry
import Derived.SliceStrings
import Derived.LaidHandle
import Derived.LaidLaws
import Derived.Deep.DeepHandedRow
import Derived.Test.YtglafkgakcfahaaGreatDoorSmallestPF
import Derived.Lib.LaidU8T
import Derived.PinnedBridge
import Derived.LaidEql
import Derived.Stop.Asserts
import Derived.RowKitTokens
import Derived.Test.YtglafkgakcfahaaGreatDoorSmallestPG
import Derived.Deep.RegionWith
set_option linter.unusedVariables false
set_option linter.unusedSimpArgs false
set_option linter.unusedSectionVars false
namespace Go.Proofs.Ts
open Go Go.RowKit
def listsP (D : List (List (List UInt8))) (l : List (List UInt8 × Nat)) : List (List Nat) := l.map fun p => postsOf D p.1
theorem listsP_at {D : List (List (List UInt8))} {l : List (List UInt8 × Nat)} {j : Nat} {t : List UInt8} {i : Nat} (h : l[j]? = some (t, i)) : (listsP D l)[j]? = some (postsOf D t) := by simp [listsP, h]
theorem made_zero (n : Nat) : madeCells #[.int .i64 0] n = ((List.replicate n 0).map intV).toArray := by
 apply Array.ext'
 rw [toList_madeCells_one]
 simp [intV]
theorem UIn.start (w : World) (Ps : List (List Nat)) {n : Nat} (hn : n = Ps.length) : UIn w (Ps.map (cnt 0)) (upTo Ps 0) (.slice none 0 0) (w.alloc (.cells (madeCells #[.int .i64 0] n) 3)) := by
 refine ⟨?_, World.ownsRow_nil _ _ _ _, (fun k e => by cases e), (Below.refl _ w).alloc (Nat.le_refl _) _⟩
 rw [heap_alloc_new, made_zero]
 have : Ps.map (cnt 0) = List.replicate n 0 := by
  rw [List.eq_replicate_iff]
  refine ⟨by simp [hn], fun x hx => ?_⟩
  obtain ⟨P, _, rfl⟩ := List.mem_map.1 hx
  exact cnt_zero P
 rw [this]
set_option maxRecDepth 100000 in
set_option maxHeartbeats 2000000 in
theorem union_any (D : List (List (List UInt8))) (sb : Nat) (pv fv : Value) (l : List (List UInt8 × Nat)) (w : World) (ht : Terms w sb D pv fv l) (hD : D.length ≤ 1000) :
  Calls Tryz.prog 42 #[ptrV sb, fv] w fun e w' => ∃ ov, e = .returned ov ∧ Below w.heap.size w w' ∧ w'.ownsRow 0 3 1 ov (upTo (listsP D l) D.length).length ((upTo (listsP D l) D.length).map intV) := by
 obtain ⟨fa, fc, rfl⟩ := ht.form
 have hll := ht.few
 obtain ⟨i0, hi, hz0, hz1, hz2⟩ := info_parts Tryz.info3
 have hmk : ∀ W : World, (Instr.makeSlice 27 (.int .i64 l.length) (.int .i64 l.length)).run Tryz.prog W = .ok (.slice (some ⟨W.heap.size, 0, none⟩) l.length l.length) (W.alloc (.cells (madeCells #[.int .i64 0] l.length) 3)) := fun W => by
  have := run_make (P := Tryz.prog) W 27 3 i0 (.int .i64 0) Tryz.underlying27 hi hz0 .i64 .i64 l.length l.length (by omega) (Int.le_refl _) (by rw [hz2]; omega) (by omega)
  rw [hz1] at this
  simpa [Value.cells] using this
 obtain ⟨Ps, hPs⟩ : ∃ Ps, Ps = listsP D l := ⟨_, rfl⟩
 have hPl : Ps.length = l.length := by rw [hPs]; simp [listsP]
 have hlt : ∀ P ∈ Ps, (∀ d ∈ P, d < D.length) ∧ P.Pairwise (· < ·) ∧ P.length ≤ D.length := fun P hP => by
  rw [hPs] at hP
  obtain ⟨p, _, rfl⟩ := List.mem_map.1 hP
  exact ⟨postsOf_lt _ _, postsOf_rise _ _, postsOf_length _ _⟩
 have hst := UIn.start w Ps hPl.symm
 have HT := Lib.hid ht
 have HLT := Lib.hid hlt
 have HST := Lib.hid hst
 have HPS := Lib.hid hPs
 rw [← hPs]
 clear ht hlt hst hPs
 unfold ptrV
 go_enter Tryz.func42, Tryz.ntmps42
 go_wp2_with fail
 clear hmk
 generalize w.alloc (.cells (madeCells #[.int .i64 0] l.length) 3) = w1 at *
 go_loopw [5] (fun ov wr => ∃ b : Nat, b ≤ D.length ∧ Hid (UIn w (Ps.map (cnt b)) (upTo Ps b) ov wr) ∧ sliceLen ov = (upTo Ps b).length) (fun ov _ => D.length + 1 - sliceLen ov)
 case atStart => exact ⟨0, Nat.zero_le _, HST, rfl⟩
 case round =>
  obtain ⟨b, hb, HU, hsl⟩ := hrel
  go_wp2_with fail
  go_loopw [7, 19] (fun nx i wx => ∃ (j : Nat) (o : Option Nat), j ≤ l.length ∧ i = .int .i64 j ∧ nx = .int .i64 (nextI o) ∧ Hid (NextIs (Ps.take j) b o) ∧ Hid (UIn w (Ps.map (cnt b)) (upTo Ps b) u5 wx)) (fun _ i _ => l.length - (intOf i).toNat)
  case atStart => exact ⟨0, none, Nat.zero_le _, rfl, rfl, NextIs.start b, HU⟩
  case round =>
   obtain ⟨j, o, hj, rfl, rfl, HN, HU2⟩ := hrel
   by_cases hjl : j < l.length
   ·obtain ⟨t, i, hti⟩ : ∃ t i, l[j]? = some (t, i) := ⟨_, _, List.getElem?_eq_getElem hjl⟩
    obtain ⟨g, cap, e1, k0, k1⟩ := HT.out.found j t i hti
    simp only [Value.slice.injEq, true_and] at e1
    obtain ⟨rfl, rfl⟩ := e1
    obtain ⟨gq, nq, capq, a, cap2, rfl, hiq, hnq, k2, hpc⟩ := HT.out.posts j t i hti
    have k3 := HT.out.seg
    have go : ∀ (b i : Nat) u, w.cell? ⟨b, i, none⟩ = some u → wr.cell? ⟨b, i, none⟩ = some u := fun b i u hu => (HU2.out.below.cell (p := ⟨b, i, none⟩) (lt_of_cell hu)).trans hu
    have c0 := go _ _ _ k0
    have c1 := go _ _ _ k1
    have hPj : Ps[j]? = some (postsOf D t) := by rw [HPS.out]; exact listsP_at hti
    obtain ⟨P, hP⟩ : ∃ P, P = postsOf D t := ⟨_, rfl⟩
    rw [← hP] at hPj k2 hpc
    clear hP go
    go_wp2_with fail
    have HUa := Lib.hid (HU2.out.alloc (.cells #[.string ⟨t.toArray⟩, .int .i64 i] 120))
    have x0 : (wr.alloc (.cells #[.string ⟨t.toArray⟩, .int .i64 i] 120)).heap[wr.heap.size]? = some (.cells #[.string ⟨t.toArray⟩, .int .i64 i] 120 (0, 0)) := heap_alloc_new _ _
    clear c0 c1 k0 k1
    generalize (wr.alloc (.cells #[.string ⟨t.toArray⟩, .int .i64 i] 120)) = wa at *
    generalize wr.heap.size = fb at *
    have go : ∀ (b i : Nat) u, w.cell? ⟨b, i, none⟩ = some u → wa.cell? ⟨b, i, none⟩ = some u := fun b i u hu => (HUa.out.below.cell (p := ⟨b, i, none⟩) (lt_of_cell hu)).trans hu
    have c0 : wa.cell? ⟨fb, 1, none⟩ = some (.int .i64 i) := cell_block x0
    have c1 := go _ _ _ k3
    have c2 := go _ _ _ k2
    have c3 : wa.cell? ⟨w.heap.size, j, none⟩ = some (.int .i64 (cnt b P)) := HUa.out.cell (by simp [hPj])
    clear x0
    go_quiet (fail)
    obtain ⟨hPlt, hPr, hPlen⟩ := HLT.out P (List.mem_of_getElem? hPj)
    have htk : Ps.take (j + 1) = Ps.take j ++ [P] := by
     rw [List.take_succ_eq_append_getElem (by omega), (List.getElem?_eq_some_iff.1 hPj).2]
    have HTK := Lib.hid htk
    have hcl := cnt_le b P
    have HPR := Lib.hid hPr
    clear htk hPr hPlt hPj
    by_cases hc : cnt b P < P.length
    ·obtain ⟨d, hd⟩ := cnt_lt hc
     obtain ⟨gp, rfl, k4⟩ := hpc _ d hd
     obtain ⟨hbd, hdm, hdl⟩ := cnt_at b P HPR.out d hd
     have c4 := go _ _ _ k4
     have q1 : decide ((cnt b P : Int) < (P.length : Int)) = true := by simp; omega
     have HDL := Lib.hid hdl
     have HDM := Lib.hid hdm
     clear hdl hd hdm hpc go
     cases o with
     | none =>
      have q2 : decide (nextI none < 0) = true := rfl
      have hN := Lib.hid (HN.out.least hbd HDM.out HDL.out (by intro n e; cases e))
      rw [← HTK.out] at hN
      go_wp2_with fail
      exact ⟨⟨j + 1, some d, by omega, by go_num, rfl, hN, HUa.out.same (Same.drewN _ _)⟩, by simp [intOf]; omega⟩
     | some n =>
      have q2 : decide (nextI (some n) < 0) = false := by unfold nextI; simp only [decide_eq_false_iff_not]; omega
      by_cases hdn : d < n
      ·have q3 : decide ((d : Int) < nextI (some n)) = true := by simp [nextI]; omega
       have hN := Lib.hid (HN.out.least hbd HDM.out HDL.out (by intro m e; cases e; omega))
       rw [← HTK.out] at hN
       go_wp2_with fail
       exact ⟨⟨j + 1, some d, by omega, by go_num, rfl, hN, HUa.out.same (Same.drewN _ _)⟩, by simp [intOf]; omega⟩
      ·have q3 : decide ((d : Int) < nextI (some n)) = false := by simp [nextI]; omega
       have hN := Lib.hid (HN.out.keep (P := P) (fun x hx hbx => by have := HDL.out x hx hbx; omega))
       rw [← HTK.out] at hN
       go_wp2_with fail
       exact ⟨⟨j + 1, some n, by omega, by go_num, rfl, hN, HUa.out.same (Same.drewN _ _)⟩, by simp [intOf]; omega⟩
    ·have q1 : decide ((cnt b P : Int) < (P.length : Int)) = false := by simp; omega
     have hN := Lib.hid (HN.out.past (cnt_end b P (by omega)))
     rw [← HTK.out] at hN
     clear hpc go
     go_wp2_with fail
     exact ⟨⟨j + 1, o, by omega, by go_num, rfl, hN, HUa.out.same (Same.drewN _ _)⟩, by simp [intOf]; omega⟩
   ·obtain rfl : j = l.length := by omega
    rw [← hPl, List.take_length] at HN
    have hul := upTo_length Ps b
    have hhi := hi
    cases o with
    | none =>
     have q2 : decide (nextI none < 0) = true := rfl
     have HE := Lib.hid (upTo_end HN.out hb)
     go_wp2_with fail
     go_ret
     exact ⟨u5, rfl, HU2.out.below, by rw [HE.out]; exact HU2.out.row⟩
    | some n =>
     have q2 : decide (nextI (some n) < 0) = false := by unfold nextI; simp only [decide_eq_false_iff_not]; omega
     obtain ⟨hbn, ⟨Pn, hPn, hnP⟩, hnl⟩ := HN.out
     have hnD : n < D.length := (HLT.out Pn hPn).1 n hnP
     have HST2 := Lib.hid (upTo_step HN.out)
     have HNL := Lib.hid hnl
     have hrow3 : (wr.alloc (.cells #[.int .i64 (nextI (some n))] 3)).ownsRow 0 3 1 u5 (upTo Ps b).length ((upTo Ps b).map intV) := HU2.out.row.alloc _
     clear hnl hPn hnP
     go_wp2_with (at_builtin; refine wpList_append_lies rfl _ _ 27 rfl 3 i0 (.int .i64 0) 1 8 Tryz.underlying27 hi hz0 hz1 hz2 rfl (by decide) u5 (upTo Ps b).length ((upTo Ps b).map intV) rfl hrow3 ⟨wr.heap.size, 0, none⟩ 1 1 [.int .i64 (nextI (some n))] rfl rfl (cell_one_new wr _ _) (by simp [Value.oneCell']) (by decide) (by unfold maxLen; omega) (by omega) ?_; intro v4 W4 hrow4 hgrow4 hlies4; simp only [put_lit, List.set_cons_succ, List.set_cons_zero]; have HU4 := Lib.hid (HU2.out.moves (n := n) ((Moves.alloc wr u5 _).trans (Moves.append hgrow4 hlies4)) hrow4); have HV4 := Lib.hid (ownsRow_head hrow4); clear hrow4 hgrow4 hlies4)
     rw [← mix_zero Ps b (n + 1)] at HU4
     go_loopw [71] (fun i wx => ∃ j : Nat, j ≤ l.length ∧ i = .int .i64 j ∧ Hid (UIn w (mix Ps b (n + 1) j) (upTo Ps b ++ [n]) v4 wx)) (fun i _ => l.length - (intOf i).toNat)
     case atStart => exact ⟨0, Nat.zero_le _, rfl, HU4⟩
     case round =>
      obtain ⟨j, hj, rfl, HU5⟩ := hrel
      by_cases hjl : j < l.length
      ·obtain ⟨t, i, hti⟩ : ∃ t i, l[j]? = some (t, i) := ⟨_, _, List.getElem?_eq_getElem hjl⟩
       obtain ⟨g, cap, e1, k0, k1⟩ := HT.out.found j t i hti
       simp only [Value.slice.injEq, true_and] at e1
       obtain ⟨rfl, rfl⟩ := e1
       obtain ⟨gq, nq, capq, a, cap2, rfl, hiq, hnq, k2, hpc⟩ := HT.out.posts j t i hti
       have k3 := HT.out.seg
       have go : ∀ (b i : Nat) u, w.cell? ⟨b, i, none⟩ = some u → wr.cell? ⟨b, i, none⟩ = some u := fun b i u hu => (HU5.out.below.cell (p := ⟨b, i, none⟩) (lt_of_cell hu)).trans hu
       have c0 := go _ _ _ k0
       have c1 := go _ _ _ k1
       have hPj : Ps[j]? = some (postsOf D t) := by rw [HPS.out]; exact listsP_at hti
       obtain ⟨P, hP⟩ : ∃ P, P = postsOf D t := ⟨_, rfl⟩
       rw [← hP] at hPj k2 hpc
       clear hP go
       go_wp2_with fail
       have HUa := Lib.hid (HU5.out.alloc (.cells #[.string ⟨t.toArray⟩, .int .i64 i] 120))
       have x0 : (wr.alloc (.cells #[.string ⟨t.toArray⟩, .int .i64 i] 120)).heap[wr.heap.size]? = some (.cells #[.string ⟨t.toArray⟩, .int .i64 i] 120 (0, 0)) := heap_alloc_new _ _
       clear c0 c1 k0 k1
       generalize (wr.alloc (.cells #[.string ⟨t.toArray⟩, .int .i64 i] 120)) = wa at *
       generalize wr.heap.size = fb at *
       have go : ∀ (b i : Nat) u, w.cell? ⟨b, i, none⟩ = some u → wa.cell? ⟨b, i, none⟩ = some u := fun b i u hu => (HUa.out.below.cell (p := ⟨b, i, none⟩) (lt_of_cell hu)).trans hu
       have c0 : wa.cell? ⟨fb, 1, none⟩ = some (.int .i64 i) := cell_block x0
       have c1 := go _ _ _ k3
       have c2 := go _ _ _ k2
       have c3 : wa.cell? ⟨w.heap.size, j, none⟩ = some (.int .i64 (cnt b P)) := HUa.out.cell (mix_at hPj)
       have c5 : wa.frozen? ⟨w.heap.size, j, none⟩ = false := HUa.out.free
       clear x0
       go_quiet (fail)
       have hPr := (HLT.out P (List.mem_of_getElem? hPj)).2.1
       have hPlen := (HLT.out P (List.mem_of_getElem? hPj)).2.2
       have hcl := cnt_le b P
       have hms := mix_step (b := b) (c := n + 1) hPj
       have hmk := mix_keep (b := b) (c := n + 1) hPj
       have hcs := cnt_step b n hbn P hPr (fun x hx hbx => HNL.out P (List.mem_of_getElem? hPj) x hx hbx)
       have HMS := Lib.hid hms
       have HMK := Lib.hid hmk
       have HPR := Lib.hid hPr
       clear hms hmk hPr hPj
       by_cases hc : cnt b P < P.length
       ·obtain ⟨d, hd⟩ := cnt_lt hc
        obtain ⟨gp, rfl, k4⟩ := hpc _ d hd
        have c4 := go _ _ _ k4
        have q1 : decide ((cnt b P : Int) < (P.length : Int)) = true := by simp; omega
        rw [hd] at hcs
        by_cases hdn : d = n
        ·subst hdn
         have q3 : ((d : Int) == nextI (some d)) = true := by simp [nextI]
         rw [if_pos rfl] at hcs
         have HCS := Lib.hid hcs
         have q4 : IntKind.i64.wrap ((cnt b P : Int) + 1) = ((cnt b P + 1 : Nat) : Int) := by rw [IntWalk.i64_in _ (by omega)]; simp
         clear hd hpc go hcs
         go_wp2_with fail
         have hset := (HUa.out.same (Same.drewN _ nq)).set (i := j) (v := cnt b P + 1)
         rw [← HCS.out, HMS.out, HCS.out] at hset
         have hcast : ((cnt b P : Int) + 1) = ((cnt b P + 1 : Nat) : Int) := by simp
         rw [hcast]
         exact ⟨⟨j + 1, by omega, by go_num, hset⟩, by simp [intOf]; omega⟩
        ·have q3 : ((d : Int) == nextI (some n)) = false := by rw [beq_eq_false_iff_ne]; show ¬ ((d : Int) = (n : Int)); omega
         rw [if_neg (fun e => hdn (Option.some.inj e))] at hcs
         have HCS := Lib.hid hcs
         clear hd hpc go hcs
         go_wp2_with fail
         exact ⟨⟨j + 1, by omega, by go_num, by rw [← HMK.out HCS.out]; exact HUa.out.same (Same.drewN _ _)⟩, by simp [intOf]; omega⟩
       ·have q1 : decide ((cnt b P : Int) < (P.length : Int)) = false := by simp; omega
        rw [List.getElem?_eq_none (by omega), if_neg (by simp)] at hcs
        have HCS := Lib.hid hcs
        clear hpc go hcs
        go_wp2_with fail
        exact ⟨⟨j + 1, by omega, by go_num, by rw [← HMK.out HCS.out]; exact HUa.out.same (Same.drewN _ _)⟩, by simp [intOf]; omega⟩
      ·obtain rfl : j = l.length := by omega
       rw [← hPl, mix_all] at HU5
       obtain ⟨g4, cap4, hv4⟩ := HV4.out
       go_wp2_with fail
       have hlen : (upTo Ps (n + 1)).length = (upTo Ps b).length + 1 := by rw [HST2.out]; simp
       exact ⟨⟨n + 1, by omega, by rw [HST2.out]; exact HU5, by rw [hlen, hv4]; rfl⟩, by
        rw [hv4]
        show D.length + 1 - ((upTo Ps b).length + 1) < D.length + 1 - sliceLen u5
        rw [hsl]
        omega⟩
end Go.Proofs.Ts
namespace Go.Proofs.Ts
open Go Go.RowKit
/-- The documents that have a word that is meant. -/
def docsOf (D : List (List (List UInt8))) (acc : List UInt8 → Bool) : List Nat := (List.range D.length).filter fun d => (D.getD d []).any acc
theorem docsOf_terms {D : List (List (List UInt8))} {T : List (List UInt8)} (hT : ∀ x, x ∈ T ↔ postsOf D x ≠ []) (acc : List UInt8 → Bool) : upTo (listsP D (hits acc T 0)) D.length = docsOf D acc := by
 unfold upTo docsOf
 apply List.filter_congr
 intro d hd
 rw [List.mem_range] at hd
 rw [Bool.eq_iff_iff, List.any_eq_true, List.any_eq_true]
 constructor
 ·rintro ⟨P, hP, hc⟩
  obtain ⟨p, hp, rfl⟩ := List.mem_map.1 hP
  have hm : d ∈ postsOf D p.1 := by simpa using hc
  obtain ⟨ws, h1, h2⟩ := (postsOf_mem _ _ _).1 hm
  refine ⟨p.1, ?_, (hits_mem hp).1⟩
  rw [List.getD_eq_getElem?_getD, h1]
  exact h2
 ·rintro ⟨x, hx, ha⟩
  rw [List.getD_eq_getElem?_getD, List.getElem?_eq_getElem hd, Option.getD_some] at hx
  have hm : d ∈ postsOf D x := (postsOf_mem _ _ _).2 ⟨_, List.getElem?_eq_getElem hd, hx⟩
  have hxT : x ∈ T := (hT x).2 (List.ne_nil_of_mem hm)
  obtain ⟨i, hi, he⟩ := List.getElem_of_mem hxT
  refine ⟨postsOf D x, List.mem_map.2 ⟨(x, i), ?_, rfl⟩, by simpa using hm⟩
  unfold hits
  rw [List.mem_filter]
  refine ⟨?_, ha⟩
  rw [List.mem_zipIdx_iff_getElem?]
  simp only
  rw [← he]
  exact List.getElem?_eq_getElem hi
/-- So few terms may be found under the limit. -/
def Few (D : List (List (List UInt8))) (acc : List UInt8 → Bool) (most : Nat) : Prop := ∀ T : List (List UInt8), T.Pairwise (fun a b => a < b) → (∀ x, x ∈ T ↔ postsOf D x ≠ []) → T.length ≤ 10000 → (hits acc T 0).length ≤ most
set_option maxRecDepth 100000 in
set_option maxHeartbeats 2000000 in
theorem search_any (B : Nat) (q : Asked) (acc : List UInt8 → Bool) (most sb : Nat) (D : List (List (List UInt8))) (kn : Value) (w : World)
  (hB : B ≤ w.heap.size) (hsb : B ≤ sb) (hseg : SegIs w sb D kn) (hkn : KnownIs B w kn) (hD : D.length ≤ 1000) (st : Nat) (hst : q.states = st) (hst1 : 1 ≤ st ∧ st ≤ 400) (hmost : most ≤ 2000000) (hcomp : CompileOk w q) (hacc : accOf q = some acc) (hfew : Few D acc most) :
  Calls Tryz.prog 31 #[ptrV sb, askV q, .int .i64 st, .int .i64 most] w fun e w' => ∃ ov kn', e = .returned (.tuple #[ov, .nilIface]) ∧ SegIs w' sb D kn' ∧ KnownIs B w' kn' ∧ Below B w w' ∧ Cells w w' ∧
   w'.ownsRow 0 3 1 ov (docsOf D acc).length ((docsOf D acc).map intV) := by
 obtain ⟨db, R, Λ, ρ, Dd, pv, ps, hat⟩ := hseg.at
 have HAT := Lib.hid hat
 have HKN := Lib.hid hkn
 have HFEW := Lib.hid hfew
 clear hseg hat hkn hfew
 unfold ptrV askV strV
 go_enter Tryz.func31, Tryz.ntmps31
 go_wp2_with fail
 have hal : Below w.heap.size w (w.alloc (.cells #[.int .i64 q.kind, .string ⟨q.a.toArray⟩, .string ⟨q.b.toArray⟩, .int .i64 q.n] 37)) := (Below.refl _ w).alloc (Nat.le_refl _) _
 have HAL := Lib.hid hal
 clear hal
 generalize (w.alloc (.cells #[.int .i64 q.kind, .string ⟨q.a.toArray⟩, .string ⟨q.b.toArray⟩, .int .i64 q.n] 37)) = w2 at *
 have hterms := terms_any B q acc most sb D kn db R Λ ρ Dd pv ps w2 (Nat.le_trans hB HAL.out.size) hsb (HAT.out.below HAL.out) (HKN.out.below HAL.out) st hst hst1 hmost (hcomp.kept (Cells.below HAL.out)) hacc
 unfold ptrV askV strV at hterms
 refine hterms.mono ?_
 clear hterms
 rintro e w3 ⟨fv, er, kn', rfl, hat3, hkn3, hb3, hc3, hres⟩
 have hfw := HFEW.out (Λ 0) HAT.out.2.2.1 HAT.out.2.2.2.1 HAT.out.2.2.2.2.1
 rcases hres with ⟨_, rfl, hrow, _⟩ | ⟨hgt, _⟩
 ·have HT3 := Lib.hid (hat3.terms hrow)
  have HC3 := Lib.hid hc3
  have HAT3 := Lib.hid hat3
  have HKN3 := Lib.hid hkn3
  have HB3 := Lib.hid hb3
  clear hat3 hkn3 hb3 hrow hfw
  go_wp2_with fail
  have hun := union_any D sb pv fv _ w3 HT3.out hD
  unfold ptrV at hun
  refine hun.mono ?_
  clear hun
  rintro e w4 ⟨ov, rfl, hb4, hrow4⟩
  have HD := Lib.hid (docsOf_terms HAT.out.2.2.2.1 acc)
  have HB4 := Lib.hid hb4
  have HROW4 := Lib.hid hrow4
  clear hb4 hrow4
  go_wp2_with fail
  go_ret2
  refine ⟨ov, kn', rfl, (HAT3.out.below HB4.out).is, HKN3.out.below HB4.out, ((HAL.out.mono hB).trans HB3.out).trans (HB4.out.mono (by have := HAL.out.size; have := HB3.out.size; omega)), ((Cells.below HAL.out).trans HC3.out).trans (Cells.below HB4.out), ?_⟩
  rw [← HD.out]
  exact HROW4.out
 ·omega
set_option maxHeartbeats 1000000 in
/-- No error is the number 0 and no place. -/
theorem told_nil (w : World) : Calls Tryz.prog 32 #[.nilIface] w fun e w' => e = .returned (.tuple #[.int .i64 0, .int .i64 (-1)]) ∧ Below w.heap.size w w' := by
 go_enter Tryz.func32, Tryz.ntmps32
 go_wp2_with fail
 go_ret2
 exact ⟨rfl, ((Below.refl _ w).alloc (Nat.le_refl _) _).alloc (by simp) _⟩
end Go.Proofs.Ts
namespace Go.Proofs.Ts
open Go Go.RowKit
/-- A segment that is asked: beyond block B, with what is known. -/
def Seg (B : Nat) (w : World) (sb : Nat) (D : List (List (List UInt8))) : Prop := B ≤ sb ∧ ∃ kn, SegIs w sb D kn ∧ KnownIs B w kn
theorem Seg.below {B : Nat} {w w' : World} {sb : Nat} {D : List (List (List UInt8))} (h : Seg B w sb D) (hb : Below w.heap.size w w') : Seg B w' sb D := by
 obtain ⟨h1, kn, h2, h3⟩ := h
 obtain ⟨db, R, Λ, ρ, Dd, pv, ps, hat⟩ := h2.at
 exact ⟨h1, kn, (hat.below hb).is, h3.below hb⟩
set_option maxRecDepth 100000 in
set_option maxHeartbeats 2000000 in
theorem plainSearch_any (B : Nat) (q : Asked) (acc : List UInt8 → Bool) (most sb : Nat) (D : List (List (List UInt8))) (w : World)
  (hB : B ≤ w.heap.size) (hseg : Seg B w sb D) (hD : D.length ≤ 1000) (st : Nat) (hst : q.states = st) (hst1 : 1 ≤ st ∧ st ≤ 400) (hmost : most ≤ 2000000) (hcomp : CompileOk w q) (hacc : accOf q = some acc) (hfew : Few D acc most) :
  Calls Tryz.prog 17 #[ptrV sb, askV q, .int .i64 st, .int .i64 most] w fun e w' => ∃ ov, e = .returned (.tuple #[ov, .int .i64 0, .int .i64 (-1)]) ∧ Seg B w' sb D ∧ Below B w w' ∧ Cells w w' ∧
   w'.ownsRow 0 3 1 ov (docsOf D acc).length ((docsOf D acc).map intV) := by
 have HS := Lib.hid hseg
 have HFEW := Lib.hid hfew
 clear hseg hfew
 unfold ptrV askV strV
 go_enter Tryz.func17, Tryz.ntmps17
 go_wp2_with fail
 have hal : Below w.heap.size w (w.alloc (.cells #[.int .i64 q.kind, .string ⟨q.a.toArray⟩, .string ⟨q.b.toArray⟩, .int .i64 q.n] 37)) := (Below.refl _ w).alloc (Nat.le_refl _) _
 have HAL := Lib.hid hal
 clear hal
 generalize (w.alloc (.cells #[.int .i64 q.kind, .string ⟨q.a.toArray⟩, .string ⟨q.b.toArray⟩, .int .i64 q.n] 37)) = w2 at *
 obtain ⟨hsb, kn, hs2, hk2⟩ := HS.out.below HAL.out
 have hs := search_any B q acc most sb D kn w2 (Nat.le_trans hB HAL.out.size) hsb hs2 hk2 hD st hst hst1 hmost (hcomp.kept (Cells.below HAL.out)) hacc HFEW.out
 unfold ptrV askV strV at hs
 refine hs.mono ?_
 clear hs hs2 hk2
 rintro e w3 ⟨ov, kn', rfl, hs3, hk3, hb3, hc3, hrow3⟩
 have HC3 := Lib.hid hc3
 have HS3 : Hid (Seg B w3 sb D) := Lib.hid ⟨hsb, kn', hs3, hk3⟩
 have HB3 := Lib.hid hb3
 have HR3 := Lib.hid hrow3
 clear hs3 hk3 hb3 hrow3
 go_wp2_with fail
 refine (told_nil w3).mono ?_
 rintro e w4 ⟨rfl, hb4⟩
 have HB4 := Lib.hid hb4
 clear hb4
 go_wp2_with fail
 go_ret3
 refine ⟨ov, rfl, HS3.out.below HB4.out, ((HAL.out.mono hB).trans HB3.out).trans (HB4.out.mono (by have := HAL.out.size; have := HB3.out.size; omega)), ((Cells.below HAL.out).trans HC3.out).trans (Cells.below HB4.out), ownsRow_block HR3.out fun k e => HB4.out.block k (HR3.out.lt k e).2⟩
end Go.Proofs.Ts
namespace Go.Proofs.Ts
open Go Go.RowKit
section
variable {P : Program} {w : World}
theorem run_append_none (t ty e : TypeId) (i : TypeInfo) (ht : P.underlying t = some (.slice e)) (hi : P.info? e = some i) (a : Option Addr) (c : Nat) :
  (Builtin.append_ #[t, t] ty #[.slice none 0 0, .slice a 0 c]).run P w = .ok (.slice none 0 0) w := by
 cases a <;> simp [Builtin.append_, run_underlying ht, sizeOf, typeInfo, hi, Builtin.lenOf, Builtin.firstCells, loadCells, loadCellsFrom]
theorem run_append_copy (t ty e : TypeId) (i : TypeInfo) (z : Value) (size bytes : Nat) (ht : P.underlying t = some (.slice e)) (hi : P.info? e = some i) (hz : i.zero = some z)
  (hsize : i.size = size) (hby : i.bytes = bytes) (hzs : z.cells.size = size) (hsz : 0 < size)
  (a : Option Addr) (m c : Nat) (news : List Value) (hl : news.length = m * size) (hnews : ∀ j u, news[j]? = some u → ∃ b, a = some b ∧ w.cell? (b.add j) = some u) (h1 : ∀ u ∈ news, u.oneCell' = true)
  (h63 : m ≤ maxLen) (hbytes : m * bytes ≤ 140737488355328) :
  ∃ v' w', (Builtin.append_ #[t, t] ty #[.slice none 0 0, .slice a m c]).run P w = .ok v' w' ∧ w'.ownsRow 0 e size v' m news ∧ Below w.heap.size w w' ∧ Past w.heap.size v' := by
 cases m with
 | zero =>
  have hn : news = [] := List.eq_nil_of_length_eq_zero (by simpa using hl)
  subst hn
  exact ⟨_, _, run_append_none t ty e i ht hi a c, World.ownsRow_nil _ _ _ _, Below.refl _ _, fun k e => by cases e⟩
 | succ m =>
  obtain ⟨u, hu⟩ : ∃ u, news[0]? = some u := ⟨_, List.getElem?_eq_getElem (by rw [hl]; exact Nat.mul_pos (Nat.succ_pos _) hsz)⟩
  obtain ⟨b, rfl, _⟩ := hnews 0 u hu
  obtain ⟨v', w', hr, h2, h3, h4⟩ := run_append_lies (P := P) t ty e i z size bytes ht hi hz hsize hby hzs hsz (.slice none 0 0) 0 [] (World.ownsRow_nil _ _ _ _) b (m + 1) c news hl
   (fun j u hj => by obtain ⟨b', e', h'⟩ := hnews j u hj; cases e'; exact h') h1 (Nat.succ_pos _) (by omega) (by rw [Nat.zero_add]; exact hbytes)
  rw [Nat.zero_add, List.nil_append] at h2
  refine ⟨v', w', hr, h2, (Below.refl _ w).grown h3 (Nat.le_refl _) (fun k e => by cases e), fun k hk => ?_⟩
  rcases h4 with ⟨h5, _⟩ | ⟨h5, _⟩
  ·rw [hk] at h5; cases h5
  ·rw [hk] at h5; cases h5; exact Nat.le_refl _
theorem wpList_append_copy {ops : Array Oper} {rest : List Oper} {o : Oper} {act : Act} {Q : Exit → Act → World → Prop} (hgd : o.guard = none) (s x : Operand) (t : TypeId)
  (ho : o.op = .call { callee := .builtin .append, args := #[s, x], argTypes := #[t, t] })
  (e : TypeId) (i : TypeInfo) (z : Value) (size bytes : Nat) (ht : P.underlying t = some (.slice e)) (hi : P.info? e = some i) (hz : i.zero = some z)
  (hsize : i.size = size) (hby : i.bytes = bytes) (hzs : z.cells.size = size) (hsz : 0 < size) (hs : act.eval s = .slice none 0 0)
  (a : Option Addr) (m c : Nat) (news : List Value) (hx : act.eval x = .slice a m c) (hl : news.length = m * size) (hnews : ∀ j u, news[j]? = some u → ∃ b, a = some b ∧ w.cell? (b.add j) = some u) (h1 : ∀ u ∈ news, u.oneCell' = true)
  (h63 : m ≤ maxLen) (hbytes : m * bytes ≤ 140737488355328)
  (h : ∀ v' w', w'.ownsRow 0 e size v' m news → Below w.heap.size w w' → Past w.heap.size v' → wpList P ops Q rest (act.put o.dst v') w') : wpList P ops Q (o :: rest) act w := by
 refine wpList_plain hgd fun K hK => ?_
 obtain ⟨v', w', hr, h2, h3, h4⟩ := run_append_copy (P := P) t o.type e i z size bytes ht hi hz hsize hby hzs hsz a m c news hl hnews h1 h63 hbytes
 unfold Oper.wp execOp
 simp only [ho, resolve, invoke, builtin, Sem.run_bind, Sem.run_pure, Result.andThen_ok, List.map_toArray, List.map_cons, List.map_nil, hs, hx, hr]
 exact hK _ _ (h v' w' h2 h3 h4)
end
section
variable {w w' : World}
theorem RowsIn.strKept {B : Nat} {V : Value} {D : List DS} (h : RowsIn B w V D) (hk : ∀ (k : Nat) cs t r, w.heap[k]? = some (.cells cs t r) → t ≠ 9 → w'.heap[k]? = w.heap[k]?) : RowsIn B w' V D := by
 have go : ∀ {e size n : Nat} {v : Value} {xs : List Value}, e ≠ 9 → w.ownsRow 0 e size v n xs → w'.ownsRow 0 e size v n xs := fun he hr => ownsRow_typed hr fun k cs r hk' => hk _ _ _ _ hk' he
 exact ⟨go (by decide) h.row, h.past, fun i s hi => go (by decide) (h.erow i s hi), h.epast, h.apart, h.apartV⟩
theorem DictIs.strKept {db : Nat} {R : Nat → Prop} {Λ : Nat → List Word} {ρ : Nat → Nat} {D : List DS} (h : DictIs w db R Λ ρ D) (hk : ∀ (k : Nat) cs t r, w.heap[k]? = some (.cells cs t r) → t ≠ 9 → w'.heap[k]? = w.heap[k]?) : DictIs w' db R Λ ρ D := by
 obtain ⟨V, h1, h2⟩ := h.mem
 exact ⟨⟨V, (hk _ _ _ _ h1 (by decide)).trans h1, h2.strKept hk⟩, h.root, h.state⟩
theorem SegIs.strKept {sb : Nat} {D : List (List (List UInt8))} {kn : Value} (h : SegIs w sb D kn) (hk : ∀ (k : Nat) cs t r, w.heap[k]? = some (.cells cs t r) → t ≠ 9 → w'.heap[k]? = w.heap[k]?) : SegIs w' sb D kn := by
 obtain ⟨db, R, Λ, ρ, Dd, pv, ps, h1, h2, h3, h4, h5, h6, h7, h8⟩ := h.ex
 exact ⟨db, R, Λ, ρ, Dd, pv, ps, (hk _ _ _ _ h1 (by decide)).trans h1, h2.strKept hk, h3, h4, h5, h6, ownsRow_typed h7 fun k cs r hk' => hk _ _ _ _ hk' (by decide), fun i v x hv hx => ownsRow_typed (h8 i v x hv hx) fun k cs r hk' => hk _ _ _ _ hk' (by decide)⟩
end
end Go.Proofs.Ts
namespace Go.Proofs.Ts
open Go Go.RowKit
/-- The copy, turned up to k: it lies in a block of its own; the rest of it reads as the documents. -/
def Own (ov : Value) (docs : List ByteArray) (w1 : World) (k : Nat) (w : World) : Prop :=
 Mod (fun b => ov.ownBlock = some b) w1 w ∧ ∀ og, ov.ownBlock = some og → ∃ cur : Array Value, w.heap[og]? = some (.cells cur 9 (0, 0)) ∧ ∀ j (h : j < docs.length), k ≤ j → cur[j]? = some (.string docs[j])
theorem Own.step {ov : Value} {docs : List ByteArray} {w1 w : World} {k og : Nat} {v : Value} (h : Own ov docs w1 k w) (ho : ov.ownBlock = some og) : Own ov docs w1 (k + 1) (w.setCell ⟨og, k, none⟩ v) := by
 obtain ⟨h1, h2⟩ := h
 refine ⟨h1.trans (Mod.setCell w ⟨og, k, none⟩ v fun _ => ho), fun og' ho' => ?_⟩
 obtain rfl : og = og' := Option.some.inj (ho.symm.trans ho')
 obtain ⟨cur, h3, h4⟩ := h2 og ho
 refine ⟨_, heap_setCell_same w og k _ _ _ h3, fun j hj hk => ?_⟩
 rw [Array.getElem?_setIfInBounds_ne (by omega)]
 exact h4 j hj (by omega)
theorem Own.same {ov : Value} {docs : List ByteArray} {w1 w w' : World} {k : Nat} (h : Own ov docs w1 k w) (hs : Same w w') : Own ov docs w1 k w' := by
 obtain ⟨n, rfl⟩ := hs
 exact ⟨h.1.trans (Mod.same (Same.drewN w n)), h.2⟩
theorem ownsRow_strs {w : World} {ov : Value} {docs : List ByteArray} (h : w.ownsRow 0 9 1 ov docs.length (docs.map Value.string)) : StrsIs w ov docs := by
 obtain ⟨a, cap, rfl⟩ := ownsRow_form h
 refine ⟨a, cap, rfl, fun i hi => ?_⟩
 obtain ⟨g, cap', e, hc⟩ := ownsRow_cell h (j := i) (u := .string docs[i]) (by simp [hi])
 simp only [Value.slice.injEq, true_and] at e
 obtain ⟨rfl, rfl⟩ := e
 exact ⟨g, 0, rfl, by rw [Nat.zero_add]; exact hc⟩
set_option maxRecDepth 100000 in
set_option maxHeartbeats 2000000 in
theorem plainBuild_any (docs : List ByteArray) (v : Value) (w : World) (hv : StrsIs w v docs) (h48 : docs.length ≤ 48) (h200 : ∀ d ∈ docs, d.size ≤ 200) :
  Calls Tryz.prog 21 #[v] w fun e w' => ∃ sb, e = .returned (.tuple #[ptrV sb, .int .i64 0, .bool true]) ∧ Below w.heap.size w w' ∧ Seg w.heap.size w' sb (docs.map wordsB) := by
 obtain ⟨a, cap, rfl, hc⟩ := hv
 obtain ⟨i0, hi, hz0, hz1, hz2⟩ := info_parts Tryz.info9
 have HC := Lib.hid hc
 have H200 := Lib.hid h200
 clear hc h200
 go_enter Tryz.func21, Tryz.ntmps21
 go_wp2_with (at_builtin; refine wpList_append_copy rfl _ _ 22 rfl 9 i0 (.string ⟨#[]⟩) 1 16 Tryz.underlying22 hi hz0 hz1 hz2 rfl (by decide) rfl a docs.length cap (docs.map Value.string) rfl (by simp) ?c1 (by simp [Value.oneCell']) (by unfold maxLen; omega) (by omega) ?_)
 case c1 =>
  intro j u hj
  rw [List.getElem?_map] at hj
  obtain ⟨d, hd, rfl⟩ := Option.map_eq_some_iff.1 hj
  obtain ⟨hjl, hd⟩ := List.getElem?_eq_some_iff.1 hd
  obtain ⟨b, off, rfl, hcell⟩ := HC.out j hjl
  refine ⟨_, rfl, ?_⟩
  rw [← hd]
  by_cases h0 : j = 0
  ·subst h0; simpa [Addr.add] using hcell
  ·simpa [Addr.add, h0] using hcell
 intro ov w1 hrow hb1 hpast
 have hs1 := ownsRow_strs hrow
 obtain ⟨oa, oc, rfl⟩ := ownsRow_form hrow
 have HROW := Lib.hid hrow
 have HB1 := Lib.hid hb1
 have HP := Lib.hid hpast
 clear hrow hb1 hpast hi hz0 hz1 hz2
 go_wp2_with fail
 refine (build_any docs _ w1 hs1 h48 H200.out).mono ?_
 rintro e w2 ⟨sb, rfl, hsb, hb2, hseg2⟩
 have HB2 := Lib.hid hb2
 have HS2 := Lib.hid hseg2
 clear hs1 hb2 hseg2
 unfold ptrV
 go_wp2_with fail
 refine (told_nil w2).mono ?_
 rintro e w3 ⟨rfl, hb3⟩
 have HB3 := Lib.hid hb3
 clear hb3
 go_wp2_with fail
 have hb13 : Below w1.heap.size w1 w3 := HB2.out.trans (HB3.out.mono HB2.out.size)
 have hown : Own (.slice oa docs.length oc) docs w3 0 w3 := ⟨Mod.refl _ _, fun og ho => by
  rcases HROW.out.2 with ⟨h, _⟩ | ⟨g, cap', cur, h, _, hg, _, _, hcs, htake⟩
  ·rw [h] at ho; cases ho
  ·rw [h] at ho
   cases ho
   refine ⟨cur, (hb13.block _ (lt_of_heap hg)).trans hg, fun j hj _ => ?_⟩
   have h1 : (docs.map Value.string)[j]? = some (.string docs[j]) := by simp [hj]
   rw [← htake] at h1
   rw [List.getElem?_take_of_lt (by simp; omega)] at h1
   simpa using h1⟩
 have HOWN := Lib.hid hown
 have HB13 := Lib.hid hb13
 clear hown hb13
 go_loopw [10, 26] (fun sm i wr => ∃ k : Nat, k ≤ docs.length ∧ i = .int .i64 k ∧ sm = .bool true ∧ Hid (Own (.slice oa docs.length oc) docs w3 k wr)) (fun _ i _ => docs.length - (intOf i).toNat)
 case atStart => exact ⟨0, Nat.zero_le _, rfl, rfl, HOWN⟩
 case round =>
  obtain ⟨k, hk, rfl, rfl, HO⟩ := hrel
  by_cases hlt : k < docs.length
  ·obtain ⟨b, off, rfl, hcell⟩ := HC.out k hlt
   obtain ⟨g, cap', e, _⟩ := ownsRow_cell HROW.out (j := k) (u := .string docs[k]) (by simp [hlt])
   simp only [Value.slice.injEq, true_and] at e
   obtain ⟨rfl, rfl⟩ := e
   have hgw : w.heap.size ≤ g := HP.out g rfl
   have hbl := lt_of_cell hcell
   have hs1 := HB1.out.size
   have hs3 := HB13.out.size
   obtain ⟨cur, hcur, hrest⟩ := HO.out.2 g rfl
   have c1 : wr.cell? ⟨b, off + k, none⟩ = some (.string docs[k]) := by
    have h1 := (HB1.out.cell (p := ⟨b, off + k, none⟩) hbl).trans hcell
    have h2 := (HB13.out.cell (p := ⟨b, off + k, none⟩) (by simp only; omega)).trans h1
    exact (HO.out.1.cell (p := ⟨b, off + k, none⟩) (by simp only; omega) (fun h => by have h9 : g = b := Option.some.inj h; omega)).trans h2
   have c2 : wr.cell? ⟨g, k, none⟩ = some (.string docs[k]) := (cell_block hcur).trans (hrest k hlt (Nat.le_refl _))
   have c3 : wr.frozen? ⟨g, k, none⟩ = false := free_block hcur
   have q1 : (docs[k] == docs[k]) = true := by rw [beq_toListBytes]; simp
   clear hcell hrest
   go_wp2_with fail
   go_quiet (fail)
   go_wp2_with fail
   exact ⟨⟨k + 1, by omega, by go_num, rfl, (HO.out.same (Same.drewN _ _)).step rfl⟩, by simp [intOf]; omega⟩
  ·obtain rfl : k = docs.length := by omega
   go_wp2_with fail
   go_ret3
   have hs1 := HB1.out.size
   have hs3 := HB13.out.size
   have hmod := HO.out.1
   refine ⟨sb, rfl, (HB1.out.trans (HB13.out.mono hs1)).trans (hmod.toBelow (by omega) fun k h => HP.out k h), by omega, .map none, ?_, .inl rfl⟩
   have hs3' : SegIs w3 sb (docs.map wordsB) (.map none) := by
    obtain ⟨db, R, Λ, ρ, Dd, pv, ps, hat⟩ := HS2.out.at
    exact (hat.below HB3.out).is
   refine hs3'.strKept fun k cs t r h ht => hmod.block k (lt_of_heap h) fun ho => ht ?_
   obtain ⟨cur, hcur⟩ := ownsRow_cells4 HROW.out ho
   have hcur3 := (HB13.out.block _ (lt_of_heap hcur)).trans hcur
   rw [h] at hcur3
   cases hcur3
   rfl
end Go.Proofs.Ts
namespace Go.Proofs.Ts
open Go Go.RowKit
def docs4 : List ByteArray := [⟨#[111, 110, 101, 32, 116, 119, 111]⟩, ⟨#[84, 119, 111, 32, 116, 104, 114, 101, 101]⟩, ⟨#[]⟩, ⟨#[116, 104, 114, 101, 101]⟩]
theorem docs4_words : docs4.map wordsB = [[[111, 110, 101], [116, 119, 111]], [[116, 119, 111], [116, 104, 114, 101, 101]], [], [[116, 104, 114, 101, 101]]] := by decide
theorem docs4_two : docsOf (docs4.map wordsB) (fun u => decide (u = [116, 119, 111])) = [0, 1] := by rw [docs4_words]; decide
theorem docs4_t : docsOf (docs4.map wordsB) (fun u => decide ([116] <+: u)) = [0, 1, 3] := by rw [docs4_words]; decide
theorem Few.flat {D : List (List (List UInt8))} (acc : List UInt8 → Bool) {most : Nat} (h : D.flatten.length ≤ most) : Few D acc most := fun T hr hm _ => by
 have h1 : (hits acc T 0).length ≤ T.length := by unfold hits; exact Nat.le_trans (List.length_filter_le _ _) (by simp)
 have h2 : T.length ≤ D.flatten.length := nodup_le T D.flatten (hr.imp fun h e => by subst e; exact List.lt_irrefl _ h) fun x hx => by
  obtain ⟨j, hj⟩ := List.exists_mem_of_ne_nil _ ((hm x).1 hx)
  obtain ⟨ws, h3, h4⟩ := (postsOf_mem _ _ _).1 hj
  exact List.mem_flatten.2 ⟨ws, List.mem_of_getElem? h3, h4⟩
 omega
set_option maxRecDepth 100000 in
set_option maxHeartbeats 2000000 in
theorem fixed_any (w : World) : Calls Tryz.prog 19 #[] w fun e w' => e = .returned (.bool true) ∧ Below w.heap.size w w' := by
 go_enter Tryz.func19, Tryz.ntmps19
 go_wp2_with fail
 have hst : StrsIs (w.alloc (.cells (docs4.map Value.string).toArray 9)) (.slice (some ⟨w.heap.size, 0, none⟩) 4 4) docs4 := by
  refine ⟨_, _, rfl, fun i hi => ⟨_, _, rfl, ?_⟩⟩
  rw [Nat.zero_add, cell_block (heap_alloc_new w _)]
  simp [hi]
 have hal : Below w.heap.size w (w.alloc (.cells (docs4.map Value.string).toArray 9)) := (Below.refl _ w).alloc (Nat.le_refl _) _
 have hW : (w.alloc (.cells #[.string ⟨#[111, 110, 101, 32, 116, 119, 111]⟩, .string ⟨#[84, 119, 111, 32, 116, 104, 114, 101, 101]⟩, .string ⟨#[]⟩, .string ⟨#[116, 104, 114, 101, 101]⟩] 9)) = w.alloc (.cells (docs4.map Value.string).toArray 9) := rfl
 rw [hW]
 clear hW
 generalize w.alloc (.cells (docs4.map Value.string).toArray 9) = w1 at *
 refine (plainBuild_any docs4 _ w1 hst (by decide) (by decide)).mono ?_
 rintro e w2 ⟨sb, rfl, hb2, hs2⟩
 have HAL := Lib.hid hal
 have HB2 := Lib.hid hb2
 have HS2 := Lib.hid hs2
 clear hal hb2 hs2 hst
 unfold ptrV
 go_wp2_with fail
 have hq1 := plainSearch_any w1.heap.size ⟨1, [116, 119, 111], [], 0, 10⟩ (fun u => decide (u = [116, 119, 111])) 10 sb (docs4.map wordsB) w2 HB2.out.size HS2.out (by decide) 10 rfl (by omega) (by omega) (compile_one (by decide)) rfl (Few.flat _ (by rw [docs4_words]; decide))
 rw [docs4_two] at hq1
 unfold ptrV askV strV at hq1
 refine hq1.mono ?_
 clear hq1
 rintro e w3 ⟨o1, rfl, hs3, hb3, hc3, hr3⟩
 obtain ⟨g1, cap1, rfl⟩ := ownsRow_head (n := 1) hr3
 have HS3 := Lib.hid hs3
 have HB3 := Lib.hid hb3
 have HR3 := Lib.hid hr3
 clear hs3 hb3 hc3 hr3
 go_wp2_with fail
 have hq2 := plainSearch_any w1.heap.size ⟨2, [116], [], 0, 10⟩ (fun u => decide ([116] <+: u)) 10 sb (docs4.map wordsB) w3 (Nat.le_trans HB2.out.size HB3.out.size) HS3.out (by decide) 10 rfl (by omega) (by omega) (compile_two (by decide)) rfl (Few.flat _ (by rw [docs4_words]; decide))
 rw [docs4_t] at hq2
 unfold ptrV askV strV at hq2
 refine hq2.mono ?_
 clear hq2
 rintro e w4 ⟨o2, rfl, hs4, hb4, hc4, hr4⟩
 obtain ⟨g2, cap2, rfl⟩ := ownsRow_head (n := 2) hr4
 have hr3' : w4.ownsRow 0 3 1 (.slice (some ⟨g1, 0, none⟩) 2 cap1) 2 [intV 0, intV 1] := ownsRow_typed HR3.out fun k cs r hk => hc4.2 k cs _ r hk (by decide)
 have a0 : w4.cell? ⟨g1, 0, none⟩ = some (.int .i64 0) := hr3'.cells (g := g1) rfl 0 _ rfl
 have a1 : w4.cell? ⟨g1, 1, none⟩ = some (.int .i64 1) := hr3'.cells (g := g1) rfl 1 _ rfl
 have b2 : w4.cell? ⟨g2, 2, none⟩ = some (.int .i64 3) := hr4.cells (g := g2) rfl 2 _ rfl
 have hb : Below w.heap.size w w4 := HAL.out.trans (((HB2.out).trans (HB3.out.trans hb4)).mono HAL.out.size)
 have HB := Lib.hid hb
 clear hs4 hb4 hc4 hr4 hr3' hb
 go_wp2_with fail
 go_ret
 exact ⟨rfl, HB.out⟩
end Go.Proofs.Ts
namespace Go.Proofs.YtglafkgakcfahaaGreatDoor.card
open Go Go.ChangeShapes Go.WideShapes Go.ChangeAt Go.RowKit
theorem own : ownKnob Tryz.prog.godebug = none := by kernel_rfl
def litV : DataW Unit → Value
 | .lit (.int k n) => .int k n
 | _ => .nilIface
def rowV : DataW Unit → List Value
 | .agg l => l.map litV
 | _ => []
def rowsV : DataW Unit → List Value
 | .agg l => l.flatMap rowV
 | _ => []
/-- A world for the witness: the settled one, the listed variables' cells laid. -/
noncomputable def laidWorld (os : Os) : World :=
 let w0 := World.holding Tryz.prog os ⟨#[], #[], []⟩
 let h1 := w0.heap.modify 0 fun
   | .cells _ t frozen => .cells #[.iface 222 (.agg #[typeHandle Tryz.prog 69])] t frozen
   | o => o
 let h2 := h1.modify 4 fun
   | .cells _ t frozen => .cells (rowV Rows.laid_math_bits_deBruijn64tab).toArray t frozen
   | o => o
 let h3 := h2.modify 3 fun
   | .cells _ t frozen => .cells (rowsV Rows.laid_unicode_utf8_acceptRanges).toArray t frozen
   | o => o
 let h4 := h3.modify 2 fun
   | .cells _ t frozen => .cells (rowV Rows.laid_unicode_utf8_first).toArray t frozen
   | o => o
 { w0 with heap := h4 }
theorem laid_met (os : Os) (args : Array Value) : laidMetH Tryz.prog Rows.foundRow.laid ((laidWorld os).forCall (fun _ _ => 0) ⟨#[], args, []⟩).memory :=
 laidMetH_of_parts (laidMet_of_run' 8 (by kernel_rfl) (by kernel_rfl)) (by kernel_rfl)
end Go.Proofs.YtglafkgakcfahaaGreatDoor.card
namespace Go.Proofs.YtglafkgakcfahaaGreatDoor.card
open Go Go.ChangeShapes Go.WideShapes Go.ChangeAt Go.RowKit
theorem shaped_block {W : World} (hS : W.ShapedOpen Tryz.prog) {g : Nat} {zero : Array Value} {t : TypeId} (hg : g < Tryz.prog.globals.size) (h : ((begin Tryz.prog (fun _ _ => 0) default).world.heap[g]?).bind Obj.row? = some (zero, t)) : ∃ cs, W.heap[g]? = some (.cells cs t (0, 0)) := by
 obtain ⟨cs, h1, _⟩ := hS.1 g zero t hg h
 exact ⟨cs, h1⟩
theorem row_type {P : Program} {g : Nat} {t : TypeId} (h : (((begin P (fun _ _ => 0) default).world.heap[g]?).bind Obj.row?).map (·.2) = some t) : ∃ zero, ((begin P (fun _ _ => 0) default).world.heap[g]?).bind Obj.row? = some (zero, t) := by
 cases e : ((begin P (fun _ _ => 0) default).world.heap[g]?).bind Obj.row? with
 | none => rw [e] at h; cases h
 | some r => rw [e] at h; exact ⟨r.1, by rw [← Option.some.inj h]⟩
end Go.Proofs.YtglafkgakcfahaaGreatDoor.card
namespace Go.Proofs.Ts
open Go Go.RowKit Go.Extern.Stop Go.Stop Go.Extern
/-! ### closed facts on the model's entries for internal/reflectlite -/
theorem rl_methodKind (fu : Nat) (h : Value) (w : World) : (Go.method (fu + 1) 222 (.agg #[h]) "Kind").run Tryz.prog w = .ok (203, h) w := by kernel_rfl
theorem rl_methodElem (fu : Nat) (h : Value) (w : World) : (Go.method (fu + 1) 222 (.agg #[h]) "Elem").run Tryz.prog w = .ok (226, .agg #[h]) w := by kernel_rfl
theorem rl_methodImplements (fu : Nat) (h : Value) (w : World) : (Go.method (fu + 1) 222 (.agg #[h]) "Implements").run Tryz.prog w = .ok (227, .agg #[h]) w := by kernel_rfl
theorem rl_methodAssignable (fu : Nat) (h : Value) (w : World) : (Go.method (fu + 1) 222 (.agg #[h]) "AssignableTo").run Tryz.prog w = .ok (224, .agg #[h]) w := by kernel_rfl
theorem rl_methodComparable (fu : Nat) (h : Value) (w : World) : (Go.method (fu + 1) 222 (.agg #[h]) "Comparable").run Tryz.prog w = .ok (225, .agg #[h]) w := by kernel_rfl
theorem rl_valueOfE (b : Nat) (w : World) : (ReflectliteValue.unpack (.iface 109 (.pointer (some ⟨b, 0, none⟩)))).run Tryz.prog w = .ok (.agg #[.pointer (some ⟨5, 109, none⟩), .pointer (some ⟨w.heap.size, 0, none⟩), .int .u64 150]) (w.alloc (.cells #[.pointer (some ⟨b, 0, none⟩)] 109)) := by kernel_rfl
theorem rl_typeE (a : Addr) (w : World) : (ReflectliteValue.methodAny (ReflectliteValue.valueError "reflectlite.Value.Type" 0) (fun t _ _ _ => ReflectliteType.toType t) #[.agg #[.pointer (some ⟨5, 109, none⟩), .pointer (some a), .int .u64 150]]).run Tryz.prog w
  = .ok (.iface 222 (.agg #[.pointer (some ⟨5, 109, none⟩)])) w := by kernel_rfl
theorem rl_kindE (w : World) : ((ReflectliteType.abiMethod fun t => (fun a : Nat => Value.int IntKind.u8 (a : Int)) <$> Rtype.kind t) #[.pointer (some ⟨5, 109, none⟩)]).run Tryz.prog w = .ok (.int .u8 22) w := by kernel_rfl
theorem rl_kindN (w : World) : ((ReflectliteType.abiMethod fun t => (fun a : Nat => Value.int IntKind.u8 (a : Int)) <$> Rtype.kind t) #[.pointer (some ⟨5, 33, none⟩)]).run Tryz.prog w = .ok (.int .u8 2) w := by kernel_rfl
theorem rlm (z : Sem Value) (f : TypeId → Addr → Nat → Nat → Sem Value) (v : Value) :
  ReflectliteValue.method z f #[v] = (do match ← ReflectliteValue.parts v with | none => z | some (t, a, fl) => f t a fl (fl % 32)) := rfl
theorem rl_partsE (a : Addr) (w : World) : (ReflectliteValue.parts (.agg #[.pointer (some ⟨5, 109, none⟩), .pointer (some a), .int .u64 150])).run Tryz.prog w = .ok (some (109, a, 150)) w := by kernel_rfl
theorem rl_isNilE (a p : Addr) (W : World) (ha : W.cell? a = some (.pointer (some p))) :
  (ReflectliteValue.method (ReflectliteValue.valueError "reflectlite.Value.IsNil" 0) ReflectliteValue.isNil #[.agg #[.pointer (some ⟨5, 109, none⟩), .pointer (some a), .int .u64 150]]).run Tryz.prog W = .ok (.bool false) W := by
 rw [rlm]
 simp only [Sem.run_bind, rl_partsE, Result.andThen]
 simp [ReflectliteValue.isNil, loadVar, isAgg, underlying, Tryz.underlying109, ha, Result.andThen]
theorem rl_elemE (w : World) : (ReflectliteType.method ReflectliteType.elem #[.agg #[.pointer (some ⟨5, 109, none⟩)]]).run Tryz.prog w = .ok (.iface 222 (.agg #[.pointer (some ⟨5, 33, none⟩)])) w := by kernel_rfl
theorem rl_implementsN (w : World) : (ReflectliteType.relation "Implements" ReflectliteType.implements_ #[.agg #[.pointer (some ⟨5, 33, none⟩)], .iface 222 (.agg #[.pointer (some ⟨5, 69, none⟩)])]).run Tryz.prog w = .ok (.bool true) w := by kernel_rfl
theorem rl_typeOfN (v : Value) (w : World) : (ReflectliteType.typeOf #[.iface 33 v]).run Tryz.prog w = .ok (.iface 222 (.agg #[.pointer (some ⟨5, 33, none⟩)])) w := by kernel_rfl
theorem rl_assignableN (w : World) : (ReflectliteType.relation "AssignableTo" ReflectliteType.assignableTo #[.agg #[.pointer (some ⟨5, 33, none⟩)], .iface 222 (.agg #[.pointer (some ⟨5, 33, none⟩)])]).run Tryz.prog w = .ok (.bool true) w := by kernel_rfl
theorem rl_valueOfN (k : Int) (w : World) : (ReflectliteValue.unpack (.iface 33 (.int .i64 k))).run Tryz.prog w = .ok (.agg #[.pointer (some ⟨5, 33, none⟩), .pointer (some ⟨w.heap.size, 0, none⟩), .int .u64 130]) (w.alloc (.cells #[.int .i64 k] 33)) := by kernel_rfl
theorem rl_elemOfE (w : World) : (Rtype.elem? 109).run Tryz.prog w = .ok (some 33) w := by kernel_rfl
theorem rl_mkN (p : Addr) (w : World) : (ReflectliteValue.mk 33 p ReflectliteValue.flagAddr).run Tryz.prog w = .ok (.agg #[.pointer (some ⟨5, 33, none⟩), .pointer (some p), .int .u64 386]) w := by kernel_rfl
theorem rl_elemVE (a p : Addr) (W : World) (ha : W.cell? a = some (.pointer (some p))) :
  (ReflectliteValue.method (ReflectliteValue.valueError "reflectlite.Value.Elem" 0) ReflectliteValue.elem #[.agg #[.pointer (some ⟨5, 109, none⟩), .pointer (some a), .int .u64 150]]).run Tryz.prog W
   = .ok (.agg #[.pointer (some ⟨5, 33, none⟩), .pointer (some p), .int .u64 386]) W := by
 rw [rlm]
 simp only [Sem.run_bind, rl_partsE, Result.andThen]
 simp [ReflectliteValue.elem, loadVar, isAgg, underlying, Tryz.underlying109, ha, Result.andThen, rl_elemOfE, rl_mkN]
theorem rls (v x : Value) : ReflectliteValue.set #[v, x] = (do
  let (some (dst, a, fl), some (src, b, _)) := (← ReflectliteValue.parts v, ← ReflectliteValue.parts x)
   | unsupported (.noEntry "extern/(internal/reflectlite.Value).Set.zeroValue")
  if fl / ReflectliteValue.flagAddr % 2 == 0 then unsupported (.noEntry "extern/(internal/reflectlite.Value).Set.unaddressable")
  let val ← loadVar src b
  if ← Rtype.directlyAssignable dst src then storeVar dst a val
  else if ← Rtype.implements dst src then
   if (← Rtype.kind src) == 20 then
    match val with
    | .nilIface => unsupported (.noEntry "extern/reflectlite: a nil value of one interface type handed on as a value of another")
    | _ => storeVar dst a val
   else storeVar dst a (.iface src val)
  else panicString ("reflectlite.Set: value of type " ++ (← Rtype.spelt src) ++ " is not assignable to type " ++ (← Rtype.spelt dst))
  pure (.tuple #[])) := rfl
theorem rl_partsNa (a : Addr) (w : World) : (ReflectliteValue.parts (.agg #[.pointer (some ⟨5, 33, none⟩), .pointer (some a), .int .u64 386])).run Tryz.prog w = .ok (some (33, a, 386)) w := by kernel_rfl
theorem rl_partsN (a : Addr) (w : World) : (ReflectliteValue.parts (.agg #[.pointer (some ⟨5, 33, none⟩), .pointer (some a), .int .u64 130])).run Tryz.prog w = .ok (some (33, a, 130)) w := by kernel_rfl
theorem rl_directN (w : World) : (Rtype.directlyAssignable 33 33).run Tryz.prog w = .ok true w := by kernel_rfl
theorem rl_setN (ta b : Addr) (k : Int) (old : Value) (W : World) (hb : W.cell? b = some (.int .i64 k)) (ht : W.cell? ta = some old) (hf : W.frozen? ta = false) :
  (ReflectliteValue.set #[.agg #[.pointer (some ⟨5, 33, none⟩), .pointer (some ta), .int .u64 386], .agg #[.pointer (some ⟨5, 33, none⟩), .pointer (some b), .int .u64 130]]).run Tryz.prog W
   = .ok (.tuple #[]) (W.setCell ta (.int .i64 k)) := by
 rw [rls]
 simp only [Sem.run_bind, rl_partsNa, rl_partsN, Result.andThen]
 simp [ReflectliteValue.flagAddr, loadVar, isAgg, underlying, Tryz.underlying33, hb, Result.andThen, rl_directN, storeVar, Value.cells, storeCells, Addr.add]
 rw [run_store Tryz.prog W ta _ _ (by rfl)]
 simp [ht, hf]
/-- The handle of the type 'error' lies where errors' code looks for it. -/
def ErrIn (w : World) : Prop := w.cell? ⟨0, 0, none⟩ = some (.iface 222 (.agg #[.pointer (some ⟨5, 69, none⟩)]))
theorem ErrIn.below {w w' : World} (h : ErrIn w) (hb : Below w.heap.size w w') : ErrIn w' := (hb.cell (p := ⟨0, 0, none⟩) (lt_of_cell h)).trans h
set_option maxHeartbeats 4000000 in
theorem as_hit (k : Int) (b : Nat) (old : Value) (w : World) (hg : ErrIn w) (ht0 : w.cell? ⟨b, 0, none⟩ = some old) (hf0 : w.frozen? ⟨b, 0, none⟩ = false) :
  Calls Tryz.prog 43 #[.iface 33 (.int .i64 k), .iface 109 (.pointer (some ⟨b, 0, none⟩))] w fun ev w' => ev = .returned (.bool true) ∧ ∃ w1, Below w.heap.size w w1 ∧ w' = w1.setCell ⟨b, 0, none⟩ (.int .i64 k) := by
 have h6 := @run_callFunc_extern Tryz.prog 71 _ (fun args => ReflectliteValue.unpack (args.getD 0 (.tuple #[]))) Tryz.func71 (by kernel_rfl) (by kernel_rfl) (by kernel_rfl) (by kernel_rfl)
 have h7 := @run_callFunc_extern Tryz.prog 72 _ (ReflectliteValue.methodAny (ReflectliteValue.valueError "reflectlite.Value.Type" 0) (fun t _ _ _ => ReflectliteType.toType t)) Tryz.func72 (by kernel_rfl) (by kernel_rfl) (by kernel_rfl) (by kernel_rfl)
 have h8 := @run_callFunc_extern Tryz.prog 73 _ (ReflectliteValue.method (ReflectliteValue.valueError "reflectlite.Value.IsNil" 0) ReflectliteValue.isNil) Tryz.func73 (by kernel_rfl) (by kernel_rfl) (by kernel_rfl) (by kernel_rfl)
 have h27 := @run_callFunc_extern Tryz.prog 203 _ (ReflectliteType.abiMethod fun t => do pure (.int .u8 (← Rtype.kind t))) Tryz.func203 (by kernel_rfl) (by kernel_rfl) (by kernel_rfl) (by kernel_rfl)
 have h37 := @run_callFunc_extern Tryz.prog 226 _ (ReflectliteType.method ReflectliteType.elem) Tryz.func226 (by kernel_rfl) (by kernel_rfl) (by kernel_rfl) (by kernel_rfl)
 have h38 := @run_callFunc_extern Tryz.prog 227 _ (ReflectliteType.relation "Implements" ReflectliteType.implements_) Tryz.func227 (by kernel_rfl) (by kernel_rfl) (by kernel_rfl) (by kernel_rfl)
 have h10 := @run_callFunc_extern Tryz.prog 75 _ ReflectliteType.typeOf Tryz.func75 (by kernel_rfl) (by kernel_rfl) (by kernel_rfl) (by kernel_rfl)
 have h35 := @run_callFunc_extern Tryz.prog 224 _ (ReflectliteType.relation "AssignableTo" ReflectliteType.assignableTo) Tryz.func224 (by kernel_rfl) (by kernel_rfl) (by kernel_rfl) (by kernel_rfl)
 have h11 := @run_callFunc_extern Tryz.prog 103 _ (ReflectliteValue.method (ReflectliteValue.valueError "reflectlite.Value.Elem" 0) ReflectliteValue.elem) Tryz.func103 (by kernel_rfl) (by kernel_rfl) (by kernel_rfl) (by kernel_rfl)
 have h12 := @run_callFunc_extern Tryz.prog 104 _ ReflectliteValue.set Tryz.func104 (by kernel_rfl) (by kernel_rfl) (by kernel_rfl) (by kernel_rfl)
 have tO := rl_typeOfN
 have mA := rl_methodAssignable
 have a25 := rl_assignableN
 have v25 := rl_valueOfN
 have f6 := rl_valueOfE
 have f7 := rl_typeE
 have mK := rl_methodKind
 have mE := rl_methodElem
 have mI := rl_methodImplements
 have k27 := rl_kindE
 have k25 := rl_kindN
 have e27 := rl_elemE
 have i25 := rl_implementsN
 have n8 := rl_isNilE ⟨w.heap.size, 0, none⟩ ⟨b, 0, none⟩ ((w.alloc (.cells #[.pointer (some ⟨b, 0, none⟩)] 109)).alloc (.cells #[.pointer (some ⟨5, 109, none⟩), .pointer (some ⟨w.heap.size, 0, none⟩), .int .u64 150] 169)) (by simp)
 have hlt : 0 < w.heap.size := lt_of_cell hg
 unfold ErrIn at hg
 have hg2 : ((w.alloc (.cells #[.pointer (some ⟨b, 0, none⟩)] 109)).alloc (.cells #[.pointer (some ⟨5, 109, none⟩), .pointer (some ⟨w.heap.size, 0, none⟩), .int .u64 150] 169)).cell? ⟨0, 0, none⟩ = some (.iface 222 (.agg #[.pointer (some ⟨5, 69, none⟩)])) := by
  rw [World.cell?_alloc_lt _ _ ⟨0, 0, none⟩ (by simp), World.cell?_alloc_lt _ _ ⟨0, 0, none⟩ hlt]; exact hg
 have htl : b < w.heap.size := lt_of_cell ht0
 have el := rl_elemVE ⟨w.heap.size, 0, none⟩ ⟨b, 0, none⟩ (((w.alloc (.cells #[.pointer (some ⟨b, 0, none⟩)] 109)).alloc (.cells #[.pointer (some ⟨5, 109, none⟩), .pointer (some ⟨w.heap.size, 0, none⟩), .int .u64 150] 169)).alloc (.cells #[.pointer (some ⟨5, 109, none⟩), .pointer (some ⟨w.heap.size, 0, none⟩), .int .u64 150] 169)) (by rw [World.cell?_alloc_lt _ _ ⟨w.heap.size, 0, none⟩ (by simp; omega)]; simp)
 have st := rl_setN ⟨b, 0, none⟩ ⟨w.heap.size + 1 + 1 + 1, 0, none⟩ k old ((((w.alloc (.cells #[.pointer (some ⟨b, 0, none⟩)] 109)).alloc (.cells #[.pointer (some ⟨5, 109, none⟩), .pointer (some ⟨w.heap.size, 0, none⟩), .int .u64 150] 169)).alloc (.cells #[.pointer (some ⟨5, 109, none⟩), .pointer (some ⟨w.heap.size, 0, none⟩), .int .u64 150] 169)).alloc (.cells #[.int .i64 k] 33))
  (by rw [World.cell?_alloc_at _ _ _ _ (by simp)]; rfl)
  (by rw [World.cell?_alloc_lt _ _ ⟨b, 0, none⟩ (by simp; omega), World.cell?_alloc_lt _ _ ⟨b, 0, none⟩ (by simp; omega), World.cell?_alloc_lt _ _ ⟨b, 0, none⟩ (by simp; omega), World.cell?_alloc_lt _ _ ⟨b, 0, none⟩ htl]; exact ht0)
  (by rw [World.frozen?_alloc_old _ _ ⟨b, 0, none⟩ (by simp; omega), World.frozen?_alloc_old _ _ ⟨b, 0, none⟩ (by simp; omega), World.frozen?_alloc_old _ _ ⟨b, 0, none⟩ (by simp; omega), World.frozen?_alloc_old _ _ ⟨b, 0, none⟩ (Nat.ne_of_lt htl)]; exact hf0)
 go_enter Tryz.func43, Tryz.ntmps43
 go_wp2
 refine wp_loop_rounds 1 ?_
 rw [rounds_succ]
 go_wp2
 go_ret
 refine ⟨rfl, _, ?_, rfl⟩
 exact ((((Below.refl _ w).alloc (Nat.le_refl _) _).alloc (by simp) _).alloc (by simp; omega) _).alloc (by simp; omega) _
end Go.Proofs.Ts
namespace Go.Proofs.YtglafkgakcfahaaGreatDoor.card
open Go Go.ChangeShapes Go.WideShapes Go.ChangeAt Go.RowKit
theorem err_glob : Tryz.prog.globalNamed "errors.errorType" = some 0 := by kernel_rfl
theorem err_rt : (Tryz.prog.cutTypes.find? (·.1 == "internal/reflectlite.rtype")).map (·.2) = some 222 := by kernel_rfl
set_option maxRecDepth 100000 in
theorem err_row : ((List.range Tryz.prog.types.size).filter fun t => Tryz.prog.rowNamed t [101, 114, 114, 111, 114]) = [69] := by kernel_rfl
theorem err_handle : typeHandle Tryz.prog 69 = .pointer (some ⟨5, 69, none⟩) := by kernel_rfl
theorem err_in {W : World} {l : List (String × DataW Unit)} (hL : laidMetH Tryz.prog l W) (h1 : ("errors.errorType", (Rows.laid_errors_errorType : DataW Unit)) ∈ l.filter fun x => x.2.handleName?.isSome) : Ts.ErrIn W := by
 have hm := (laidMetH_iff.1 hL).2
 obtain ⟨name, u, ty, e1, e2, e3, e4, e5⟩ := hm _ h1
 have en : name = [101, 114, 114, 111, 114] := (Option.some.inj e1).symm
 subst en
 obtain rfl := Option.some.inj (err_rt.symm.trans e2)
 have hm : ty ∈ (List.range Tryz.prog.types.size).filter fun t => Tryz.prog.rowNamed t [101, 114, 114, 111, 114] := List.mem_filter.2 ⟨List.mem_range.2 e3, e4⟩
 rw [err_row] at hm
 obtain rfl := List.mem_singleton.1 hm
 rw [err_handle] at e5
 unfold Ts.ErrIn
 simpa using World.var?_cell err_glob e5 0
end Go.Proofs.YtglafkgakcfahaaGreatDoor.card
namespace Go.Proofs.YtglafkgakcfahaaGreatDoor.card
open Go Go.ChangeShapes Go.WideShapes Go.ChangeAt Go.RowKit
theorem bits_glob : Tryz.prog.globalNamed "math/bits.deBruijn64tab" = some 4 := by kernel_rfl
theorem bits_type : (Tryz.prog.globals[4]?).map (·.type) = some 367 := by kernel_rfl
theorem bits_data : (Rows.laid_math_bits_deBruijn64tab : DataW Unit) = Go.Lib.tabData .u8 (Go.Lib.deBruijn64tab.map fun (k : Nat) => (k : Int)) := by kernel_rfl
theorem bits_cells : Tryz.prog.cellsOf 5 = 1 := by kernel_rfl
theorem bits_cells64 : Tryz.prog.cellsOf 367 = 64 := by kernel_rfl
theorem bits_in {W : World} {l : List (String × DataW Unit)} (hL : laidMetH Tryz.prog l W) (hS : W.ShapedOpen Tryz.prog) (h1 : ("math/bits.deBruijn64tab", (Rows.laid_math_bits_deBruijn64tab : DataW Unit)) ∈ l.filter fun x => x.2.handleName?.isNone) : Ts.BitTab W := by
 have hm := (laidMetH_iff.1 hL).1
 obtain ⟨z1, e1⟩ := row_type (P := Tryz.prog) (g := 4) (t := 367) (by kernel_rfl)
 refine ⟨shaped_block hS (of_decide_eq_true (by kernel_rfl)) e1, fun j hj => ?_⟩
 have r1 := Go.Lib.laidMet.reads hm h1
 rw [bits_data] at r1
 obtain ⟨g, t, cs, fuel, p, hg, hty, hvar, hd⟩ := r1
 obtain rfl := Option.some.inj (bits_glob.symm.trans hg)
 obtain rfl := Option.some.inj (bits_type.symm.trans hty)
 have hcs := Go.Lib.cells_of_tab Tryz.underlying367 Tryz.underlying5 bits_cells bits_cells64 hd
 have := World.var?_cell hg hvar j
 rw [this, ← Array.getElem?_toList, hcs]
 simp [hj, List.getD]
end Go.Proofs.YtglafkgakcfahaaGreatDoor.card
namespace Go.Proofs.Ts
open Go Go.RowKit Go.Extern.Stop Go.Stop Go.Extern
theorem rl_valueOfB (b : Nat) (w : World) : (ReflectliteValue.unpack (.iface 105 (.pointer (some ⟨b, 0, none⟩)))).run Tryz.prog w = .ok (.agg #[.pointer (some ⟨5, 105, none⟩), .pointer (some ⟨w.heap.size, 0, none⟩), .int .u64 150]) (w.alloc (.cells #[.pointer (some ⟨b, 0, none⟩)] 105)) := by kernel_rfl
theorem rl_typeB (a : Addr) (w : World) : (ReflectliteValue.methodAny (ReflectliteValue.valueError "reflectlite.Value.Type" 0) (fun t _ _ _ => ReflectliteType.toType t) #[.agg #[.pointer (some ⟨5, 105, none⟩), .pointer (some a), .int .u64 150]]).run Tryz.prog w
  = .ok (.iface 222 (.agg #[.pointer (some ⟨5, 105, none⟩)])) w := by kernel_rfl
theorem rl_kindB (w : World) : ((ReflectliteType.abiMethod fun t => (fun a : Nat => Value.int IntKind.u8 (a : Int)) <$> Rtype.kind t) #[.pointer (some ⟨5, 105, none⟩)]).run Tryz.prog w = .ok (.int .u8 22) w := by kernel_rfl
theorem rl_kindP (w : World) : ((ReflectliteType.abiMethod fun t => (fun a : Nat => Value.int IntKind.u8 (a : Int)) <$> Rtype.kind t) #[.pointer (some ⟨5, 103, none⟩)]).run Tryz.prog w = .ok (.int .u8 22) w := by kernel_rfl
theorem rl_partsB (a : Addr) (w : World) : (ReflectliteValue.parts (.agg #[.pointer (some ⟨5, 105, none⟩), .pointer (some a), .int .u64 150])).run Tryz.prog w = .ok (some (105, a, 150)) w := by kernel_rfl
theorem rl_isNilB (a p : Addr) (W : World) (ha : W.cell? a = some (.pointer (some p))) :
  (ReflectliteValue.method (ReflectliteValue.valueError "reflectlite.Value.IsNil" 0) ReflectliteValue.isNil #[.agg #[.pointer (some ⟨5, 105, none⟩), .pointer (some a), .int .u64 150]]).run Tryz.prog W = .ok (.bool false) W := by
 rw [rlm]
 simp only [Sem.run_bind, rl_partsB, Result.andThen]
 simp [ReflectliteValue.isNil, loadVar, isAgg, underlying, Tryz.underlying105, ha, Result.andThen]
theorem rl_elemB (w : World) : (ReflectliteType.method ReflectliteType.elem #[.agg #[.pointer (some ⟨5, 105, none⟩)]]).run Tryz.prog w = .ok (.iface 222 (.agg #[.pointer (some ⟨5, 103, none⟩)])) w := by kernel_rfl
theorem rl_implementsP (w : World) : (ReflectliteType.relation "Implements" ReflectliteType.implements_ #[.agg #[.pointer (some ⟨5, 103, none⟩)], .iface 222 (.agg #[.pointer (some ⟨5, 69, none⟩)])]).run Tryz.prog w = .ok (.bool true) w := by kernel_rfl
theorem rl_assignableP (w : World) : (ReflectliteType.relation "AssignableTo" ReflectliteType.assignableTo #[.agg #[.pointer (some ⟨5, 33, none⟩)], .iface 222 (.agg #[.pointer (some ⟨5, 103, none⟩)])]).run Tryz.prog w = .ok (.bool false) w := by kernel_rfl
theorem rl_noAs (v : Value) (xT : TypeId) (w : World) : (Instr.typeAssert (.iface 33 v) xT 226 true).run Tryz.prog w = .ok (.tuple #[.nilIface, .bool false]) w := run_typeAssert_lacksB Tryz.underlying226 (by kernel_rfl) (by kernel_rfl) v xT w
theorem rl_noUnwrap (v : Value) (xT : TypeId) (w : World) : (Instr.typeAssert (.iface 33 v) xT 229 true).run Tryz.prog w = .ok (.tuple #[.nilIface, .bool false]) w := run_typeAssert_lacksB Tryz.underlying229 (by kernel_rfl) (by kernel_rfl) v xT w
theorem rl_noUnwraps (v : Value) (xT : TypeId) (w : World) : (Instr.typeAssert (.iface 33 v) xT 231 true).run Tryz.prog w = .ok (.tuple #[.nilIface, .bool false]) w := run_typeAssert_lacksB Tryz.underlying231 (by kernel_rfl) (by kernel_rfl) v xT w
set_option maxHeartbeats 4000000 in
theorem as_bad (k : Int) (b : Nat) (w : World) (hg : ErrIn w) :
  Calls Tryz.prog 43 #[.iface 33 (.int .i64 k), .iface 105 (.pointer (some ⟨b, 0, none⟩))] w fun ev w' => ev = .returned (.bool false) ∧ Below w.heap.size w w' := by
 have h6 := @run_callFunc_extern Tryz.prog 71 _ (fun args => ReflectliteValue.unpack (args.getD 0 (.tuple #[]))) Tryz.func71 (by kernel_rfl) (by kernel_rfl) (by kernel_rfl) (by kernel_rfl)
 have h7 := @run_callFunc_extern Tryz.prog 72 _ (ReflectliteValue.methodAny (ReflectliteValue.valueError "reflectlite.Value.Type" 0) (fun t _ _ _ => ReflectliteType.toType t)) Tryz.func72 (by kernel_rfl) (by kernel_rfl) (by kernel_rfl) (by kernel_rfl)
 have h8 := @run_callFunc_extern Tryz.prog 73 _ (ReflectliteValue.method (ReflectliteValue.valueError "reflectlite.Value.IsNil" 0) ReflectliteValue.isNil) Tryz.func73 (by kernel_rfl) (by kernel_rfl) (by kernel_rfl) (by kernel_rfl)
 have h27 := @run_callFunc_extern Tryz.prog 203 _ (ReflectliteType.abiMethod fun t => do pure (.int .u8 (← Rtype.kind t))) Tryz.func203 (by kernel_rfl) (by kernel_rfl) (by kernel_rfl) (by kernel_rfl)
 have h37 := @run_callFunc_extern Tryz.prog 226 _ (ReflectliteType.method ReflectliteType.elem) Tryz.func226 (by kernel_rfl) (by kernel_rfl) (by kernel_rfl) (by kernel_rfl)
 have h38 := @run_callFunc_extern Tryz.prog 227 _ (ReflectliteType.relation "Implements" ReflectliteType.implements_) Tryz.func227 (by kernel_rfl) (by kernel_rfl) (by kernel_rfl) (by kernel_rfl)
 have h10 := @run_callFunc_extern Tryz.prog 75 _ ReflectliteType.typeOf Tryz.func75 (by kernel_rfl) (by kernel_rfl) (by kernel_rfl) (by kernel_rfl)
 have h35 := @run_callFunc_extern Tryz.prog 224 _ (ReflectliteType.relation "AssignableTo" ReflectliteType.assignableTo) Tryz.func224 (by kernel_rfl) (by kernel_rfl) (by kernel_rfl) (by kernel_rfl)
 have h11 := @run_callFunc_extern Tryz.prog 103 _ (ReflectliteValue.method (ReflectliteValue.valueError "reflectlite.Value.Elem" 0) ReflectliteValue.elem) Tryz.func103 (by kernel_rfl) (by kernel_rfl) (by kernel_rfl) (by kernel_rfl)
 have h12 := @run_callFunc_extern Tryz.prog 104 _ ReflectliteValue.set Tryz.func104 (by kernel_rfl) (by kernel_rfl) (by kernel_rfl) (by kernel_rfl)
 have tO := rl_typeOfN
 have mA := rl_methodAssignable
 have a25 := rl_assignableP
 have f6 := rl_valueOfB
 have f7 := rl_typeB
 have mK := rl_methodKind
 have mE := rl_methodElem
 have mI := rl_methodImplements
 have k27 := rl_kindB
 have k25 := rl_kindP
 have e27 := rl_elemB
 have i25 := rl_implementsP
 have n8 := rl_isNilB ⟨w.heap.size, 0, none⟩ ⟨b, 0, none⟩ ((w.alloc (.cells #[.pointer (some ⟨b, 0, none⟩)] 105)).alloc (.cells #[.pointer (some ⟨5, 105, none⟩), .pointer (some ⟨w.heap.size, 0, none⟩), .int .u64 150] 169)) (by simp)
 have hlt : 0 < w.heap.size := lt_of_cell hg
 unfold ErrIn at hg
 have hg2 : ((w.alloc (.cells #[.pointer (some ⟨b, 0, none⟩)] 105)).alloc (.cells #[.pointer (some ⟨5, 105, none⟩), .pointer (some ⟨w.heap.size, 0, none⟩), .int .u64 150] 169)).cell? ⟨0, 0, none⟩ = some (.iface 222 (.agg #[.pointer (some ⟨5, 69, none⟩)])) := by
  rw [World.cell?_alloc_lt _ _ ⟨0, 0, none⟩ (by simp), World.cell?_alloc_lt _ _ ⟨0, 0, none⟩ hlt]; exact hg
 have n1 := rl_noAs
 have n2 := rl_noUnwrap
 have n3 := rl_noUnwraps
 go_enter Tryz.func43, Tryz.ntmps43
 go_wp2
 refine wp_loop_rounds 1 ?_
 rw [rounds_succ]
 go_wp2
 go_ret
 exact ⟨rfl, (((Below.refl _ w).alloc (Nat.le_refl _) _).alloc (by simp) _).alloc (by simp; omega) _⟩
end Go.Proofs.Ts
namespace Go.Proofs.Ts
open Go Go.RowKit Go.Extern.Stop Go.Stop Go.Extern
theorem rl_comparableN (w : World) : (ReflectliteType.method (fun t => do Rtype.noPackHeld "Comparable" t; (fun a => Value.bool a.comparable) <$> typeInfo t) #[.agg #[.pointer (some ⟨5, 33, none⟩)]]).run Tryz.prog w = .ok (.bool true) w := by kernel_rfl
theorem errno_comparable : (Tryz.prog.info? 33).map (·.comparable) = some true := by kernel_rfl
theorem run_eql_iface_int {P : Program} {ti tp : TypeId} {ms : Array (String × TypeId)} {i : TypeInfo} {kk : IntKind} (k : Int) (w : World) (hi : P.underlying ti = some (.interface ms)) (hp : P.underlying tp = some (.int kk)) (hinfo : P.info? tp = some i) (hcomp : i.comparable = true) :
  (binOp .eql ti (.iface tp (.int .i64 k)) (.iface tp (.int .i64 k))).run P w = .ok (.bool true) w := by
 have h : ∀ d : Nat, (Op.equalIn (d + 2) ti (.iface tp (.int .i64 k)) (.iface tp (.int .i64 k))).run P w = .ok true w := fun d => by
  simp [Op.equalIn, run_underlying hi, run_underlying hp, typeInfo, hinfo, hcomp]
 simp only [binOp]
 simp [Op.equal, Op.maxDepth, h 9998]
theorem eq_errno (k : Int) (w : World) : (binOp BinOp.eql 69 (.iface 33 (.int .i64 k)) (.iface 33 (.int .i64 k))).run Tryz.prog w = .ok (.bool true) w := by
 obtain ⟨i, hi, hc⟩ := Option.map_eq_some_iff.1 errno_comparable
 exact run_eql_iface_int k w Tryz.underlying69 Tryz.underlying33 hi hc
set_option maxRecDepth 100000 in
set_option maxHeartbeats 4000000 in
/-- A number is itself. -/
theorem is_self (k : Int) (w : World) : Calls Tryz.prog 44 #[.iface 33 (.int .i64 k), .iface 33 (.int .i64 k)] w fun ev w' => ev = .returned (.bool true) ∧ Below w.heap.size w w' := by
 have h10 := @run_callFunc_extern Tryz.prog 75 _ ReflectliteType.typeOf Tryz.func75 (by kernel_rfl) (by kernel_rfl) (by kernel_rfl) (by kernel_rfl)
 have h35 := @run_callFunc_extern Tryz.prog 225 _ (ReflectliteType.method (fun t => do Rtype.noPackHeld "Comparable" t; pure (.bool (← typeInfo t).comparable))) Tryz.func225 (by kernel_rfl) (by kernel_rfl) (by kernel_rfl) (by kernel_rfl)
 have tO := rl_typeOfN
 have mC := rl_methodComparable
 have cN := rl_comparableN
 have eE := eq_errno
 go_enter Tryz.func44, Tryz.ntmps44
 go_wp2
 refine wp_loop_rounds 1 ?_
 rw [rounds_succ]
 go_wp2
 go_ret
 exact ⟨rfl, Below.refl _ _⟩
set_option maxRecDepth 100000 in
set_option maxHeartbeats 4000000 in
/-- An error by its number is told as that number, and no place. -/
theorem told_errno (k : Int) (w : World) (hg : ErrIn w) : Calls Tryz.prog 32 #[.iface 33 (.int .i64 k)] w fun e w' => e = .returned (.tuple #[.int .i64 k, .int .i64 (-1)]) ∧ Below w.heap.size w w' := by
 have HG := Lib.hid hg
 clear hg
 go_enter Tryz.func32, Tryz.ntmps32
 go_upto_region 5 with fail
 have hbe : Below w.heap.size w ((w.alloc (.cells #[.pointer none] 103)).alloc (.cells #[.int .i64 0] 33)) := ((Below.refl _ w).alloc (Nat.le_refl _) _).alloc (by simp) _
 have hb5 := heap_alloc_new (w.alloc (.cells #[.pointer none] 103)) (.cells #[.int .i64 0] 33)
 rw [World.size_alloc] at hb5
 generalize ((w.alloc (.cells #[.pointer none] 103)).alloc (.cells #[.int .i64 0] 33)) = W at *
 have HBE := Lib.hid hbe
 have HB5 := Lib.hid hb5
 clear hbe hb5
 go_upto_region 7 with (go_at_call 43; refine (as_bad k w.heap.size W (HG.out.below HBE.out)).mono ?_; rintro e w1 ⟨rfl, hb1⟩)
 have hb51 := (hb1.block _ (lt_of_heap HB5.out)).trans HB5.out
 have hbw1 : Below w.heap.size w w1 := HBE.out.trans (hb1.mono HBE.out.size)
 have hit := as_hit k (w.heap.size + 1) _ w1 (HG.out.below hbw1) (cell_block (i := 0) hb51) (free_block hb51)
 have HIT := Lib.hid hit
 have HBW1 := Lib.hid hbw1
 have HB51 := Lib.hid hb51
 clear hit hbw1 hb1 hb51
 go_wp2_with (first
  | (go_at_call 43; refine HIT.out.mono ?_; rintro e w2 ⟨rfl, w3, hb3, rfl⟩; have hb53 := (hb3.block _ (lt_of_heap HB51.out)).trans HB51.out; have cE : (w3.setCell ⟨w.heap.size + 1, 0, none⟩ (.int .i64 k)).cell? ⟨w.heap.size + 1, 0, none⟩ = some (.int .i64 k) := World.cell?_setCell_same' _ _ _ (by rw [cell_block hb53]; rfl); have HB3 := Lib.hid hb3; clear hb3 hb53)
  | (go_at_call 44; refine (is_self k _).mono ?_; rintro e w4 ⟨rfl, hb4⟩; have cE4 := (hb4.cell (p := ⟨w.heap.size + 1, 0, none⟩) (lt_of_cell cE)).trans cE; have HB4 := Lib.hid hb4; clear hb4))
 go_ret2
 have h1 : Below w.heap.size w w3 := HBW1.out.trans (HB3.out.mono HBW1.out.size)
 have h2 : Below w.heap.size w (w3.setCell ⟨w.heap.size + 1, 0, none⟩ (.int .i64 k)) := h1.setCell (p := ⟨w.heap.size + 1, 0, none⟩) (by simp) _
 exact ⟨rfl, h2.trans (HB4.out.mono h2.size)⟩
end Go.Proofs.Ts
