/- Lemmas towards the statement Sorted of termsearch: walks of the program's functions and plain laws on lists (TsAsk, TsPlainA, TsPlain, TsFixed, TsFound, TsPick, TsCard, TsCardT, TsErrs, TsCardE, TsMatch, TsSort1). Conditions: those that each theorem names. -/
import Derived.Test.YtglafkgakcfahaaGreatDoorSortedPK
import Derived.Test.YtglafkgakcfahaaGreatDoorSortedPC
import Derived.Test.YtglafkgakcfahaaGreatDoorCards
import Derived.Test.YtglafkgakcfahaaGreatDoorTie
import Derived.Test.YtglafkgakcfahaaGreatDoorSortedPE
import Derived.WalkKit
import Derived.ProofKit
import Derived.OpenShut
import Derived.Carry
import Derived.SliceStrings
import Derived.LaidHandle
import Derived.LaidLaws
import Derived.Deep.DeepHandedRow
import Derived.Test.YtglafkgakcfahaaGreatDoorSortedPG
import Derived.Lib.LaidU8T
import Derived.PinnedBridge
import Derived.LaidEql
import Derived.Stop.Asserts
import Derived.RowKitTokens
import Derived.Test.YtglafkgakcfahaaGreatDoorProg
import Derived.Test.YtglafkgakcfahaaGreatDoorSortedPA
import Derived.Shelf.SlSortCmp.KitK
import Derived.Sort.WalkB2
import Derived.Sort.WalkB12
import Derived.Deep.LoopGhost
/- The walks of plain.Search and of ask. -/
set_option linter.unusedVariables false
set_option linter.unusedSimpArgs false
namespace Go.Proofs.Ts
open Go Go.RowKit

/-- A segment that is asked: beyond block B, with what is known. -/
def Seg (B : Nat) (w : World) (sb : Nat) (D : List (List (List UInt8))) : Prop := B ≤ sb ∧ ∃ kn, SegIs w sb D kn ∧ KnownIs B w kn
theorem Seg.below {B : Nat} {w w' : World} {sb : Nat} {D : List (List (List UInt8))} (h : Seg B w sb D) (hb : Below w.heap.size w w') : Seg B w' sb D := by
  obtain ⟨h1, kn, h2, h3⟩ := h
  obtain ⟨db, R, Λ, ρ, Dd, pv, ps, hat⟩ := h2.at
  exact ⟨h1, kn, (hat.below hb).is, h3.below hb⟩

set_option maxRecDepth 100000 in
set_option maxHeartbeats 2000000 in
theorem plainSearch_any (B : Nat) (q : Asked) (acc : List UInt8 → Bool) (most sb : Nat) (D : List (List (List UInt8))) (w : World)
    (hB : B ≤ w.heap.size) (hseg : Seg B w sb D) (hD : D.length ≤ 1000) (st : Nat) (hst : q.states = st) (hst1 : 1 ≤ st ∧ st ≤ 400) (hmost : most ≤ 2000000) (hcomp : CompileOk w q) (hacc : accOf q = some acc) (hfew : Few D acc most) :
    Calls Tryz.prog 17 #[ptrV sb, askV q, .int .i64 st, .int .i64 most] w fun e w' => ∃ ov, e = .returned (.tuple #[ov, .int .i64 0, .int .i64 (-1)]) ∧ Seg B w' sb D ∧ Below B w w' ∧ Cells w w' ∧
      w'.ownsRow 0 3 1 ov (docsOf D acc).length ((docsOf D acc).map intV) := by
  have HS := Lib.hid hseg
  have HFEW := Lib.hid hfew
  clear hseg hfew
  unfold ptrV askV strV
  go_enter Tryz.func17, Tryz.ntmps17
  go_wp2_with fail
  have hal : Below w.heap.size w (w.alloc (.cells #[.int .i64 q.kind, .string ⟨q.a.toArray⟩, .string ⟨q.b.toArray⟩, .int .i64 q.n] 37)) := (Below.refl _ w).alloc (Nat.le_refl _) _
  have HAL := Lib.hid hal
  clear hal
  generalize (w.alloc (.cells #[.int .i64 q.kind, .string ⟨q.a.toArray⟩, .string ⟨q.b.toArray⟩, .int .i64 q.n] 37)) = w2 at *
  obtain ⟨hsb, kn, hs2, hk2⟩ := HS.out.below HAL.out
  have hs := search_any B q acc most sb D kn w2 (Nat.le_trans hB HAL.out.size) hsb hs2 hk2 hD st hst hst1 hmost (hcomp.kept (Cells.below HAL.out)) hacc HFEW.out
  unfold ptrV askV strV at hs
  refine hs.mono ?_
  clear hs hs2 hk2
  rintro e w3 ⟨ov, kn', rfl, hs3, hk3, hb3, hc3, hrow3⟩
  have HC3 := Lib.hid hc3
  have HS3 : Hid (Seg B w3 sb D) := Lib.hid ⟨hsb, kn', hs3, hk3⟩
  have HB3 := Lib.hid hb3
  have HR3 := Lib.hid hrow3
  clear hs3 hk3 hb3 hrow3
  go_wp2_with fail
  refine (told_nil w3).mono ?_
  rintro e w4 ⟨rfl, hb4⟩
  have HB4 := Lib.hid hb4
  clear hb4
  go_wp2_with fail
  go_ret3
  refine ⟨ov, rfl, HS3.out.below HB4.out, ((HAL.out.mono hB).trans HB3.out).trans (HB4.out.mono (by have := HAL.out.size; have := HB3.out.size; omega)), ((Cells.below HAL.out).trans HC3.out).trans (Cells.below HB4.out), ownsRow_block HR3.out fun k e => HB4.out.block k (HR3.out.lt k e).2⟩

set_option maxRecDepth 100000 in
set_option maxHeartbeats 2000000 in
theorem ask_any (B : Nat) (kind n : Int) (a b : List UInt8) (acc : List UInt8 → Bool) (sb : Nat) (D : List (List (List UInt8))) (w : World)
    (hB : B ≤ w.heap.size) (hseg : Seg B w sb D) (hD : D.length ≤ 1000) (hcomp : CompileOk w ⟨kind, a, b, n, 400⟩) (hacc : accOf ⟨kind, a, b, n, 400⟩ = some acc) :
    Calls Tryz.prog 14 #[ptrV sb, .int .i64 kind, strV a, strV b, .int .i64 n] w fun e w' => ∃ ov, e = .returned (.tuple #[ov, .bool true]) ∧ Seg B w' sb D ∧ Below B w w' ∧ Cells w w' ∧
      w'.ownsRow 0 3 1 ov (docsOf D acc).length ((docsOf D acc).map intV) := by
  have HS := Lib.hid hseg
  clear hseg
  unfold ptrV strV
  go_enter Tryz.func14, Tryz.ntmps14
  go_wp2_with fail
  have hs := plainSearch_any B ⟨kind, a, b, n, 400⟩ acc 1048576 sb D w hB HS.out hD 400 rfl (by omega) (by omega) hcomp hacc (Few.great _ _ (by omega))
  unfold ptrV askV strV at hs
  refine hs.mono ?_
  clear hs
  rintro e w3 ⟨ov, rfl, hs3, hb3, hc3, hrow3⟩
  have HC3 := Lib.hid hc3
  have HS3 := Lib.hid hs3
  have HB3 := Lib.hid hb3
  have HR3 := Lib.hid hrow3
  clear hs3 hb3 hrow3
  go_wp2_with fail
  go_ret2
  exact ⟨ov, rfl, HS3.out, HB3.out, HC3.out, HR3.out⟩
end Go.Proofs.Ts
/- append of a whole slice onto nothing; a segment stands where only strings turn. -/
set_option linter.unusedVariables false
set_option linter.unusedSimpArgs false
namespace Go.Proofs.Ts
open Go Go.RowKit

section
variable {P : Program} {w : World}
theorem run_append_none (t ty e : TypeId) (i : TypeInfo) (ht : P.underlying t = some (.slice e)) (hi : P.info? e = some i) (a : Option Addr) (c : Nat) :
    (Builtin.append_ #[t, t] ty #[.slice none 0 0, .slice a 0 c]).run P w = .ok (.slice none 0 0) w := by
  cases a <;> simp [Builtin.append_, run_underlying ht, sizeOf, typeInfo, hi, Builtin.lenOf, Builtin.firstCells, loadCells, loadCellsFrom]
theorem run_append_copy (t ty e : TypeId) (i : TypeInfo) (z : Value) (size bytes : Nat) (ht : P.underlying t = some (.slice e)) (hi : P.info? e = some i) (hz : i.zero = some z)
    (hsize : i.size = size) (hby : i.bytes = bytes) (hzs : z.cells.size = size) (hsz : 0 < size)
    (a : Option Addr) (m c : Nat) (news : List Value) (hl : news.length = m * size) (hnews : ∀ j u, news[j]? = some u → ∃ b, a = some b ∧ w.cell? (b.add j) = some u) (h1 : ∀ u ∈ news, u.oneCell' = true)
    (h63 : m ≤ maxLen) (hbytes : m * bytes ≤ 140737488355328) :
    ∃ v' w', (Builtin.append_ #[t, t] ty #[.slice none 0 0, .slice a m c]).run P w = .ok v' w' ∧ w'.ownsRow 0 e size v' m news ∧ Below w.heap.size w w' ∧ Past w.heap.size v' := by
  cases m with
  | zero =>
    have hn : news = [] := List.eq_nil_of_length_eq_zero (by simpa using hl)
    subst hn
    exact ⟨_, _, run_append_none t ty e i ht hi a c, World.ownsRow_nil _ _ _ _, Below.refl _ _, fun k e => by cases e⟩
  | succ m =>
    obtain ⟨u, hu⟩ : ∃ u, news[0]? = some u := ⟨_, List.getElem?_eq_getElem (by rw [hl]; exact Nat.mul_pos (Nat.succ_pos _) hsz)⟩
    obtain ⟨b, rfl, _⟩ := hnews 0 u hu
    obtain ⟨v', w', hr, h2, h3, h4⟩ := run_append_lies (P := P) t ty e i z size bytes ht hi hz hsize hby hzs hsz (.slice none 0 0) 0 [] (World.ownsRow_nil _ _ _ _) b (m + 1) c news hl
      (fun j u hj => by obtain ⟨b', e', h'⟩ := hnews j u hj; cases e'; exact h') h1 (Nat.succ_pos _) (by omega) (by rw [Nat.zero_add]; exact hbytes)
    rw [Nat.zero_add, List.nil_append] at h2
    refine ⟨v', w', hr, h2, (Below.refl _ w).grown h3 (Nat.le_refl _) (fun k e => by cases e), fun k hk => ?_⟩
    rcases h4 with ⟨h5, _⟩ | ⟨h5, _⟩
    · rw [hk] at h5; cases h5
    · rw [hk] at h5; cases h5; exact Nat.le_refl _
theorem wpList_append_copy {ops : Array Oper} {rest : List Oper} {o : Oper} {act : Act} {Q : Exit → Act → World → Prop} (hgd : o.guard = none) (s x : Operand) (t : TypeId)
    (ho : o.op = .call { callee := .builtin .append, args := #[s, x], argTypes := #[t, t] })
    (e : TypeId) (i : TypeInfo) (z : Value) (size bytes : Nat) (ht : P.underlying t = some (.slice e)) (hi : P.info? e = some i) (hz : i.zero = some z)
    (hsize : i.size = size) (hby : i.bytes = bytes) (hzs : z.cells.size = size) (hsz : 0 < size) (hs : act.eval s = .slice none 0 0)
    (a : Option Addr) (m c : Nat) (news : List Value) (hx : act.eval x = .slice a m c) (hl : news.length = m * size) (hnews : ∀ j u, news[j]? = some u → ∃ b, a = some b ∧ w.cell? (b.add j) = some u) (h1 : ∀ u ∈ news, u.oneCell' = true)
    (h63 : m ≤ maxLen) (hbytes : m * bytes ≤ 140737488355328)
    (h : ∀ v' w', w'.ownsRow 0 e size v' m news → Below w.heap.size w w' → Past w.heap.size v' → wpList P ops Q rest (act.put o.dst v') w') : wpList P ops Q (o :: rest) act w := by
  refine wpList_plain hgd fun K hK => ?_
  obtain ⟨v', w', hr, h2, h3, h4⟩ := run_append_copy (P := P) t o.type e i z size bytes ht hi hz hsize hby hzs hsz a m c news hl hnews h1 h63 hbytes
  unfold Oper.wp execOp
  simp only [ho, resolve, invoke, builtin, Sem.run_bind, Sem.run_pure, Result.andThen_ok, List.map_toArray, List.map_cons, List.map_nil, hs, hx, hr]
  exact hK _ _ (h v' w' h2 h3 h4)
end

section
variable {w w' : World}
theorem RowsIn.strKept {B : Nat} {V : Value} {D : List DS} (h : RowsIn B w V D) (hk : ∀ (k : Nat) cs t r, w.heap[k]? = some (.cells cs t r) → t ≠ 9 → w'.heap[k]? = w.heap[k]?) : RowsIn B w' V D := by
  have go : ∀ {e size n : Nat} {v : Value} {xs : List Value}, e ≠ 9 → w.ownsRow 0 e size v n xs → w'.ownsRow 0 e size v n xs := fun he hr => ownsRow_typed hr fun k cs r hk' => hk _ _ _ _ hk' he
  exact ⟨go (by decide) h.row, h.past, fun i s hi => go (by decide) (h.erow i s hi), h.epast, h.apart, h.apartV⟩
theorem DictIs.strKept {db : Nat} {R : Nat → Prop} {Λ : Nat → List Word} {ρ : Nat → Nat} {D : List DS} (h : DictIs w db R Λ ρ D) (hk : ∀ (k : Nat) cs t r, w.heap[k]? = some (.cells cs t r) → t ≠ 9 → w'.heap[k]? = w.heap[k]?) : DictIs w' db R Λ ρ D := by
  obtain ⟨V, h1, h2⟩ := h.mem
  exact ⟨⟨V, (hk _ _ _ _ h1 (by decide)).trans h1, h2.strKept hk⟩, h.root, h.state⟩
theorem SegIs.strKept {sb : Nat} {D : List (List (List UInt8))} {kn : Value} (h : SegIs w sb D kn) (hk : ∀ (k : Nat) cs t r, w.heap[k]? = some (.cells cs t r) → t ≠ 9 → w'.heap[k]? = w.heap[k]?) : SegIs w' sb D kn := by
  obtain ⟨db, R, Λ, ρ, Dd, pv, ps, h1, h2, h3, h4, h5, h6, h7, h8⟩ := h.ex
  exact ⟨db, R, Λ, ρ, Dd, pv, ps, (hk _ _ _ _ h1 (by decide)).trans h1, h2.strKept hk, h3, h4, h5, h6, ownsRow_typed h7 fun k cs r hk' => hk _ _ _ _ hk' (by decide), fun i v x hv hx => ownsRow_typed (h8 i v x hv hx) fun k cs r hk' => hk _ _ _ _ hk' (by decide)⟩
end
end Go.Proofs.Ts
/- The walk of plain.Build: of few, short documents; the copy is turned behind it. -/
set_option linter.unusedVariables false
set_option linter.unusedSimpArgs false
namespace Go.Proofs.Ts
open Go Go.RowKit

/-- The copy, turned up to k: it lies in a block of its own; the rest of it reads as the documents. -/
def Own (ov : Value) (docs : List ByteArray) (w1 : World) (k : Nat) (w : World) : Prop :=
  Mod (fun b => ov.ownBlock = some b) w1 w ∧ ∀ og, ov.ownBlock = some og → ∃ cur : Array Value, w.heap[og]? = some (.cells cur 9 (0, 0)) ∧ ∀ j (h : j < docs.length), k ≤ j → cur[j]? = some (.string docs[j])
theorem Own.step {ov : Value} {docs : List ByteArray} {w1 w : World} {k og : Nat} {v : Value} (h : Own ov docs w1 k w) (ho : ov.ownBlock = some og) : Own ov docs w1 (k + 1) (w.setCell ⟨og, k, none⟩ v) := by
  obtain ⟨h1, h2⟩ := h
  refine ⟨h1.trans (Mod.setCell w ⟨og, k, none⟩ v fun _ => ho), fun og' ho' => ?_⟩
  obtain rfl : og = og' := Option.some.inj (ho.symm.trans ho')
  obtain ⟨cur, h3, h4⟩ := h2 og ho
  refine ⟨_, heap_setCell_same w og k _ _ _ h3, fun j hj hk => ?_⟩
  rw [Array.getElem?_setIfInBounds_ne (by omega)]
  exact h4 j hj (by omega)
theorem Own.same {ov : Value} {docs : List ByteArray} {w1 w w' : World} {k : Nat} (h : Own ov docs w1 k w) (hs : Same w w') : Own ov docs w1 k w' := by
  obtain ⟨n, rfl⟩ := hs
  exact ⟨h.1.trans (Mod.same (Same.drewN w n)), h.2⟩
theorem ownsRow_strs {w : World} {ov : Value} {docs : List ByteArray} (h : w.ownsRow 0 9 1 ov docs.length (docs.map Value.string)) : StrsIs w ov docs := by
  obtain ⟨a, cap, rfl⟩ := ownsRow_form h
  refine ⟨a, cap, rfl, fun i hi => ?_⟩
  obtain ⟨g, cap', e, hc⟩ := ownsRow_cell h (j := i) (u := .string docs[i]) (by simp [hi])
  simp only [Value.slice.injEq, true_and] at e
  obtain ⟨rfl, rfl⟩ := e
  exact ⟨g, 0, rfl, by rw [Nat.zero_add]; exact hc⟩

set_option maxRecDepth 100000 in
set_option maxHeartbeats 2000000 in
theorem plainBuild_any (docs : List ByteArray) (v : Value) (w : World) (hv : StrsIs w v docs) (h48 : docs.length ≤ 48) (h200 : ∀ d ∈ docs, d.size ≤ 200) :
    Calls Tryz.prog 21 #[v] w fun e w' => ∃ sb, e = .returned (.tuple #[ptrV sb, .int .i64 0, .bool true]) ∧ Below w.heap.size w w' ∧ Seg w.heap.size w' sb (docs.map wordsB) := by
  obtain ⟨a, cap, rfl, hc⟩ := hv
  obtain ⟨i0, hi, hz0, hz1, hz2⟩ := info_parts Tryz.info9
  have HC := Lib.hid hc
  have H200 := Lib.hid h200
  clear hc h200
  go_enter Tryz.func21, Tryz.ntmps21
  go_wp2_with (at_builtin; refine wpList_append_copy rfl _ _ 22 rfl 9 i0 (.string ⟨#[]⟩) 1 16 Tryz.underlying22 hi hz0 hz1 hz2 rfl (by decide) rfl a docs.length cap (docs.map Value.string) rfl (by simp) ?c1 (by simp [Value.oneCell']) (by unfold maxLen; omega) (by omega) ?_)
  case c1 =>
    intro j u hj
    rw [List.getElem?_map] at hj
    obtain ⟨d, hd, rfl⟩ := Option.map_eq_some_iff.1 hj
    obtain ⟨hjl, hd⟩ := List.getElem?_eq_some_iff.1 hd
    obtain ⟨b, off, rfl, hcell⟩ := HC.out j hjl
    refine ⟨_, rfl, ?_⟩
    rw [← hd]
    by_cases h0 : j = 0
    · subst h0; simpa [Addr.add] using hcell
    · simpa [Addr.add, h0] using hcell
  intro ov w1 hrow hb1 hpast
  have hs1 := ownsRow_strs hrow
  obtain ⟨oa, oc, rfl⟩ := ownsRow_form hrow
  have HROW := Lib.hid hrow
  have HB1 := Lib.hid hb1
  have HP := Lib.hid hpast
  clear hrow hb1 hpast hi hz0 hz1 hz2
  go_wp2_with fail
  refine (build_any docs _ w1 hs1 h48 H200.out).mono ?_
  rintro e w2 ⟨sb, rfl, hsb, hb2, hseg2⟩
  have HB2 := Lib.hid hb2
  have HS2 := Lib.hid hseg2
  clear hs1 hb2 hseg2
  unfold ptrV
  go_wp2_with fail
  refine (told_nil w2).mono ?_
  rintro e w3 ⟨rfl, hb3⟩
  have HB3 := Lib.hid hb3
  clear hb3
  go_wp2_with fail
  have hb13 : Below w1.heap.size w1 w3 := HB2.out.trans (HB3.out.mono HB2.out.size)
  have hown : Own (.slice oa docs.length oc) docs w3 0 w3 := ⟨Mod.refl _ _, fun og ho => by
    rcases HROW.out.2 with ⟨h, _⟩ | ⟨g, cap', cur, h, _, hg, _, _, hcs, htake⟩
    · rw [h] at ho; cases ho
    · rw [h] at ho
      cases ho
      refine ⟨cur, (hb13.block _ (lt_of_heap hg)).trans hg, fun j hj _ => ?_⟩
      have h1 : (docs.map Value.string)[j]? = some (.string docs[j]) := by simp [hj]
      rw [← htake] at h1
      rw [List.getElem?_take_of_lt (by simp; omega)] at h1
      simpa using h1⟩
  have HOWN := Lib.hid hown
  have HB13 := Lib.hid hb13
  clear hown hb13
  go_loopw [10, 26] (fun sm i wr => ∃ k : Nat, k ≤ docs.length ∧ i = .int .i64 k ∧ sm = .bool true ∧ Hid (Own (.slice oa docs.length oc) docs w3 k wr)) (fun _ i _ => docs.length - (intOf i).toNat)
  case atStart => exact ⟨0, Nat.zero_le _, rfl, rfl, HOWN⟩
  case round =>
    obtain ⟨k, hk, rfl, rfl, HO⟩ := hrel
    by_cases hlt : k < docs.length
    · obtain ⟨b, off, rfl, hcell⟩ := HC.out k hlt
      obtain ⟨g, cap', e, _⟩ := ownsRow_cell HROW.out (j := k) (u := .string docs[k]) (by simp [hlt])
      simp only [Value.slice.injEq, true_and] at e
      obtain ⟨rfl, rfl⟩ := e
      have hgw : w.heap.size ≤ g := HP.out g rfl
      have hbl := lt_of_cell hcell
      have hs1 := HB1.out.size
      have hs3 := HB13.out.size
      obtain ⟨cur, hcur, hrest⟩ := HO.out.2 g rfl
      have c1 : wr.cell? ⟨b, off + k, none⟩ = some (.string docs[k]) := by
        have h1 := (HB1.out.cell (p := ⟨b, off + k, none⟩) hbl).trans hcell
        have h2 := (HB13.out.cell (p := ⟨b, off + k, none⟩) (by simp only; omega)).trans h1
        exact (HO.out.1.cell (p := ⟨b, off + k, none⟩) (by simp only; omega) (fun h => by have h9 : g = b := Option.some.inj h; omega)).trans h2
      have c2 : wr.cell? ⟨g, k, none⟩ = some (.string docs[k]) := (cell_block hcur).trans (hrest k hlt (Nat.le_refl _))
      have c3 : wr.frozen? ⟨g, k, none⟩ = false := free_block hcur
      have q1 : (docs[k] == docs[k]) = true := by rw [beq_toListBytes]; simp
      clear hcell hrest
      go_wp2_with fail
      go_quiet (fail)
      go_wp2_with fail
      exact ⟨⟨k + 1, by omega, by go_num, rfl, (HO.out.same (Same.drewN _ _)).step rfl⟩, by simp [intOf]; omega⟩
    · obtain rfl : k = docs.length := by omega
      go_wp2_with fail
      go_ret3
      have hs1 := HB1.out.size
      have hs3 := HB13.out.size
      have hmod := HO.out.1
      refine ⟨sb, rfl, (HB1.out.trans (HB13.out.mono hs1)).trans (hmod.toBelow (by omega) fun k h => HP.out k h), by omega, .map none, ?_, .inl rfl⟩
      have hs3' : SegIs w3 sb (docs.map wordsB) (.map none) := by
        obtain ⟨db, R, Λ, ρ, Dd, pv, ps, hat⟩ := HS2.out.at
        exact (hat.below HB3.out).is
      refine hs3'.strKept fun k cs t r h ht => hmod.block k (lt_of_heap h) fun ho => ht ?_
      obtain ⟨cur, hcur⟩ := ownsRow_cells4 HROW.out ho
      have hcur3 := (HB13.out.block _ (lt_of_heap hcur)).trans hcur
      rw [h] at hcur3
      cases hcur3
      rfl
end Go.Proofs.Ts
/- The walk of fixed: a segment of documents of its own answers as it must. -/
set_option linter.unusedVariables false
set_option linter.unusedSimpArgs false
namespace Go.Proofs.Ts
open Go Go.RowKit

def docs4 : List ByteArray := [⟨#[111, 110, 101, 32, 116, 119, 111]⟩, ⟨#[84, 119, 111, 32, 116, 104, 114, 101, 101]⟩, ⟨#[]⟩, ⟨#[116, 104, 114, 101, 101]⟩]
theorem docs4_words : docs4.map wordsB = [[[111, 110, 101], [116, 119, 111]], [[116, 119, 111], [116, 104, 114, 101, 101]], [], [[116, 104, 114, 101, 101]]] := by decide
theorem docs4_two : docsOf (docs4.map wordsB) (fun u => decide (u = [116, 119, 111])) = [0, 1] := by rw [docs4_words]; decide
theorem docs4_t : docsOf (docs4.map wordsB) (fun u => decide ([116] <+: u)) = [0, 1, 3] := by rw [docs4_words]; decide
theorem Few.flat {D : List (List (List UInt8))} (acc : List UInt8 → Bool) {most : Nat} (h : D.flatten.length ≤ most) : Few D acc most := fun T hr hm _ => by
  have h1 : (hits acc T 0).length ≤ T.length := by unfold hits; exact Nat.le_trans (List.length_filter_le _ _) (by simp)
  have h2 : T.length ≤ D.flatten.length := nodup_le T D.flatten (hr.imp fun h e => by subst e; exact List.lt_irrefl _ h) fun x hx => by
    obtain ⟨j, hj⟩ := List.exists_mem_of_ne_nil _ ((hm x).1 hx)
    obtain ⟨ws, h3, h4⟩ := (postsOf_mem _ _ _).1 hj
    exact List.mem_flatten.2 ⟨ws, List.mem_of_getElem? h3, h4⟩
  omega

set_option maxRecDepth 100000 in
set_option maxHeartbeats 2000000 in
theorem fixed_any (w : World) : Calls Tryz.prog 19 #[] w fun e w' => e = .returned (.bool true) ∧ Below w.heap.size w w' := by
  go_enter Tryz.func19, Tryz.ntmps19
  go_wp2_with fail
  have hst : StrsIs (w.alloc (.cells (docs4.map Value.string).toArray 9)) (.slice (some ⟨w.heap.size, 0, none⟩) 4 4) docs4 := by
    refine ⟨_, _, rfl, fun i hi => ⟨_, _, rfl, ?_⟩⟩
    rw [Nat.zero_add, cell_block (heap_alloc_new w _)]
    simp [hi]
  have hal : Below w.heap.size w (w.alloc (.cells (docs4.map Value.string).toArray 9)) := (Below.refl _ w).alloc (Nat.le_refl _) _
  have hW : (w.alloc (.cells #[.string ⟨#[111, 110, 101, 32, 116, 119, 111]⟩, .string ⟨#[84, 119, 111, 32, 116, 104, 114, 101, 101]⟩, .string ⟨#[]⟩, .string ⟨#[116, 104, 114, 101, 101]⟩] 9)) = w.alloc (.cells (docs4.map Value.string).toArray 9) := rfl
  rw [hW]
  clear hW
  generalize w.alloc (.cells (docs4.map Value.string).toArray 9) = w1 at *
  refine (plainBuild_any docs4 _ w1 hst (by decide) (by decide)).mono ?_
  rintro e w2 ⟨sb, rfl, hb2, hs2⟩
  have HAL := Lib.hid hal
  have HB2 := Lib.hid hb2
  have HS2 := Lib.hid hs2
  clear hal hb2 hs2 hst
  unfold ptrV
  go_wp2_with fail
  have hq1 := plainSearch_any w1.heap.size ⟨1, [116, 119, 111], [], 0, 10⟩ (fun u => decide (u = [116, 119, 111])) 10 sb (docs4.map wordsB) w2 HB2.out.size HS2.out (by decide) 10 rfl (by omega) (by omega) (compile_one (by decide)) rfl (Few.flat _ (by rw [docs4_words]; decide))
  rw [docs4_two] at hq1
  unfold ptrV askV strV at hq1
  refine hq1.mono ?_
  clear hq1
  rintro e w3 ⟨o1, rfl, hs3, hb3, hc3, hr3⟩
  obtain ⟨g1, cap1, rfl⟩ := ownsRow_head (n := 1) hr3
  have HS3 := Lib.hid hs3
  have HB3 := Lib.hid hb3
  have HR3 := Lib.hid hr3
  clear hs3 hb3 hc3 hr3
  go_wp2_with fail
  have hq2 := plainSearch_any w1.heap.size ⟨2, [116], [], 0, 10⟩ (fun u => decide ([116] <+: u)) 10 sb (docs4.map wordsB) w3 (Nat.le_trans HB2.out.size HB3.out.size) HS3.out (by decide) 10 rfl (by omega) (by omega) (compile_two (by decide)) rfl (Few.flat _ (by rw [docs4_words]; decide))
  rw [docs4_t] at hq2
  unfold ptrV askV strV at hq2
  refine hq2.mono ?_
  clear hq2
  rintro e w4 ⟨o2, rfl, hs4, hb4, hc4, hr4⟩
  obtain ⟨g2, cap2, rfl⟩ := ownsRow_head (n := 2) hr4
  have hr3' : w4.ownsRow 0 3 1 (.slice (some ⟨g1, 0, none⟩) 2 cap1) 2 [intV 0, intV 1] := ownsRow_typed HR3.out fun k cs r hk => hc4.2 k cs _ r hk (by decide)
  have a0 : w4.cell? ⟨g1, 0, none⟩ = some (.int .i64 0) := hr3'.cells (g := g1) rfl 0 _ rfl
  have a1 : w4.cell? ⟨g1, 1, none⟩ = some (.int .i64 1) := hr3'.cells (g := g1) rfl 1 _ rfl
  have b2 : w4.cell? ⟨g2, 2, none⟩ = some (.int .i64 3) := hr4.cells (g := g2) rfl 2 _ rfl
  have hb : Below w.heap.size w w4 := HAL.out.trans (((HB2.out).trans (HB3.out.trans hb4)).mono HAL.out.size)
  have HB := Lib.hid hb
  clear hs4 hb4 hc4 hr4 hr3' hb
  go_wp2_with fail
  go_ret
  exact ⟨rfl, HB.out⟩
end Go.Proofs.Ts
/- The walks of build and Found. -/
set_option linter.unusedVariables false
set_option linter.unusedSimpArgs false
namespace Go.Proofs.Ts
open Go Go.RowKit

theorem StrsIs.below {w w' : World} {v : Value} {ss : List ByteArray} (h : StrsIs w v ss) (hb : Below w.heap.size w w') : StrsIs w' v ss := by
  obtain ⟨a, cap, rfl, hc⟩ := h
  refine ⟨a, cap, rfl, fun i hi => ?_⟩
  obtain ⟨b, off, e, h1⟩ := hc i hi
  exact ⟨b, off, e, (hb.cell (p := ⟨b, off + i, none⟩) (lt_of_cell h1)).trans h1⟩
theorem Seg.mono {B B' : Nat} {w : World} {sb : Nat} {D : List (List (List UInt8))} (h : Seg B w sb D) (hB : B' ≤ B) : Seg B' w sb D := by
  obtain ⟨h1, kn, h2, h3⟩ := h
  refine ⟨by omega, kn, h2, ?_⟩
  rcases h3 with h3 | ⟨km, m, e, h4, h5⟩
  · exact .inl h3
  · exact .inr ⟨km, m, e, by omega, h5⟩

set_option maxRecDepth 100000 in
set_option maxHeartbeats 2000000 in
theorem keepBuild_any (docs : List ByteArray) (v : Value) (w : World) (hv : StrsIs w v docs) (hl : docs.length ≤ 9223372036854775807) :
    Calls Tryz.prog 12 #[v] w fun e w' => Below w.heap.size w w' ∧
      ((smallW docs = false ∧ e = .returned (.tuple #[.pointer none, .bool true])) ∨ (smallW docs = true ∧ ∃ sb, e = .returned (.tuple #[ptrV sb, .bool true]) ∧ Seg w.heap.size w' sb (docs.map wordsB))) := by
  have HV := Lib.hid hv
  clear hv
  go_enter Tryz.func12, Tryz.ntmps12
  go_wp2_with fail
  refine (fixed_any w).mono ?_
  rintro e w1 ⟨rfl, hb1⟩
  have HB1 := Lib.hid hb1
  clear hb1
  go_wp2_with fail
  refine (small_any v docs w1 (HV.out.below HB1.out) hl).mono ?_
  rintro e w2 ⟨rfl, hs2⟩
  have hb2 : Below w.heap.size w w2 := HB1.out.trans (hs2.below _)
  have HB2 := Lib.hid hb2
  clear hb2 hs2
  cases hsm : smallW docs with
  | false =>
    go_wp2_with fail
    go_ret2
    exact ⟨HB2.out, .inl ⟨hsm, rfl⟩⟩
  | true =>
    have hparts : docs.length ≤ 48 ∧ ∀ d ∈ docs, d.size ≤ 200 := by
      unfold smallW at hsm
      simpa using hsm
    have HP := Lib.hid hparts
    have HSM := Lib.hid hsm
    clear hparts hsm
    go_wp2_with fail
    refine (plainBuild_any docs v w2 (HV.out.below HB2.out) HP.out.1 HP.out.2).mono ?_
    rintro e w3 ⟨sb, rfl, hb3, hs3⟩
    have HB3 := Lib.hid hb3
    have HS3 := Lib.hid hs3
    clear hb3 hs3
    unfold ptrV
    go_wp2_with fail
    go_ret2
    exact ⟨HB2.out.trans (HB3.out.mono HB2.out.size), .inr ⟨HSM.out, sb, rfl, HS3.out.mono HB2.out.size⟩⟩

/-- What has the word is what is found. -/
theorem docsOf_has {docs : List ByteArray} {x : List UInt8} (hx : wordW x = true) : docsOf (docs.map wordsB) (fun u => decide (u = x)) = (List.range docs.length).filter fun d => hasW ((docs.getD d ⟨#[]⟩).data.toList) x := by
  unfold docsOf
  rw [List.length_map]
  apply List.filter_congr
  intro d hd
  rw [List.mem_range] at hd
  unfold wordW at hx
  simp only [Bool.and_eq_true, decide_eq_true_eq, List.all_eq_true] at hx
  obtain ⟨⟨h1, h2⟩, h3⟩ := hx
  have hne : x ≠ [] := List.length_pos_iff.1 h2
  have hb : ∀ c ∈ x, isBlank c = false := fun c hc => by
    have := h1 c hc
    unfold wordCh at this
    simp only [Bool.and_eq_true, Bool.not_eq_true'] at this
    exact this.1
  rw [Bool.eq_iff_iff, hasW_iff _ _ hne hb, List.getD_eq_getElem?_getD, List.getElem?_map, List.getElem?_eq_getElem hd, List.getD_eq_getElem?_getD, List.getElem?_eq_getElem hd]
  simp only [Option.map_some, Option.getD_some, List.any_eq_true, decide_eq_true_eq, exists_eq_right]
  unfold wordsB
  rw [List.mem_filter]
  simp only [decide_eq_true_eq]
  exact ⟨fun h => h.1, fun h => ⟨h, h3⟩⟩
def foundTo (docs : List ByteArray) (x : List UInt8) (i : Nat) : List Nat := (List.range i).filter fun d => hasW ((docs.getD d ⟨#[]⟩).data.toList) x
theorem foundTo_succ (docs : List ByteArray) (x : List UInt8) (i : Nat) (h : i < docs.length) : foundTo docs x (i + 1) = foundTo docs x i ++ (if hasW (docs[i]).data.toList x then [i] else []) := by
  unfold foundTo
  rw [List.range_succ, List.filter_append, List.filter_cons, List.getD_eq_getElem?_getD, List.getElem?_eq_getElem h]
  rfl
theorem foundTo_at (docs : List ByteArray) (x : List UInt8) (i : Nat) (h : i < docs.length) (hh : hasW (docs[i]).data.toList x = true) : (foundTo docs x docs.length)[(foundTo docs x i).length]? = some i := by
  have h1 : foundTo docs x docs.length = foundTo docs x (i + 1) ++ ((List.range' (i + 1) (docs.length - (i + 1))).filter fun d => hasW ((docs.getD d ⟨#[]⟩).data.toList) x) := by
    unfold foundTo
    rw [← List.filter_append]
    congr 1
    rw [List.range_eq_range', List.range_eq_range']
    have h2 := List.range'_append_1 (s := 0) (m := i + 1) (n := docs.length - (i + 1))
    rw [Nat.zero_add, show i + 1 + (docs.length - (i + 1)) = docs.length by omega] at h2
    exact h2.symm
  rw [h1, foundTo_succ docs x i h, if_pos hh]
  simp

set_option maxRecDepth 100000 in
set_option maxHeartbeats 2000000 in
theorem found_any (docs : List ByteArray) (s : ByteArray) (v : Value) (w : World) (hv : StrsIs w v docs) (hl : docs.length ≤ 9223372036854775807) (hs : s.size ≤ 9223372036854775807) :
    Calls Tryz.prog 3 #[v, .string s] w fun e w' => e = .returned (.bool true) ∧ Below w.heap.size w w' := by
  obtain ⟨va, vc, rfl, hc⟩ := id hv
  obtain ⟨x, rfl⟩ : ∃ x : List UInt8, s = ⟨x.toArray⟩ := ⟨s.data.toList, by cases s; simp⟩
  have HV := Lib.hid hv
  clear hv hc
  go_enter Tryz.func3, Tryz.ntmps3
  go_wp2_with fail
  refine (keepBuild_any docs _ w HV.out hl).mono ?_
  rintro e w1 ⟨hb1, hres⟩
  have HB1 := Lib.hid hb1
  clear hb1
  rcases hres with ⟨_, rfl⟩ | ⟨hsm, sb, rfl, hs1⟩
  · go_wp2_with fail
    go_ret
    exact ⟨rfl, HB1.out⟩
  · have hparts : docs.length ≤ 48 ∧ ∀ d ∈ docs, d.size ≤ 200 := by
      unfold smallW at hsm
      simpa using hsm
    obtain ⟨h48, h200⟩ := hparts
    have HS1 := Lib.hid hs1
    have H200 := Lib.hid h200
    clear hs1 hsm h200
    unfold ptrV
    go_wp2_with fail
    refine (word_any _ w1 hs).mono ?_
    rintro e w2 ⟨rfl, hw2⟩
    have hb2 : Below w1.heap.size w1 w2 := hw2.below _
    have HB2 := Lib.hid hb2
    clear hb2 hw2
    simp only [List.toList_toArray]
    cases hw : wordW x with
    | false =>
      go_wp2_with fail
      go_ret
      exact ⟨rfl, HB1.out.trans (HB2.out.mono HB1.out.size)⟩
    | true =>
      have hx16 : x.length ≤ 16 := by
        unfold wordW at hw
        simp only [Bool.and_eq_true, decide_eq_true_eq] at hw
        exact hw.2
      have HW := Lib.hid hw
      clear hw
      go_wp2_with fail
      have hask := ask_any w.heap.size 1 0 x [] (fun u => decide (u = x)) sb (docs.map wordsB) w2 (Nat.le_trans HB1.out.size HB2.out.size) (HS1.out.below HB2.out) (by simp; omega) (compile_one (by omega)) (by simp [accOf]; omega)
      rw [docsOf_has HW.out] at hask
      unfold ptrV strV at hask
      refine hask.mono ?_
      clear hask
      rintro e w3 ⟨ov, rfl, hs3, hb3, hc3, hr3⟩
      have hr3' : w3.ownsRow 0 3 1 ov (foundTo docs x docs.length).length ((foundTo docs x docs.length).map intV) := hr3
      obtain ⟨oa, oc, rfl⟩ := ownsRow_form hr3'
      have hb13 : Below w.heap.size w w3 := HB1.out.trans ((HB2.out.mono HB1.out.size).trans hb3)
      have HB3 := Lib.hid hb13
      have HR3 := Lib.hid hr3'
      have HV3 := Lib.hid (HV.out.below hb13)
      clear hs3 hb3 hc3 hr3 hr3' hb13
      obtain ⟨n, hn⟩ : ∃ n, n = (foundTo docs x docs.length).length := ⟨_, rfl⟩
      have HN := Lib.hid hn
      rw [← hn]
      clear hn
      go_wp2_with fail
      go_loopw [9, 10] (fun k i wr => ∃ j : Nat, j ≤ docs.length ∧ i = .int .i64 j ∧ k = .int .i64 ((foundTo docs x j).length : Nat) ∧ Same w3 wr) (fun _ i _ => docs.length - (intOf i).toNat)
      case atStart => exact ⟨0, Nat.zero_le _, rfl, rfl, Same.refl _⟩
      case round =>
        obtain ⟨j, hj, rfl, rfl, hS⟩ := hrel
        by_cases hlt : j < docs.length
        · obtain ⟨_, _, e, hcells⟩ := HV3.out
          simp only [Value.slice.injEq, true_and] at e
          obtain ⟨rfl, rfl⟩ := e
          obtain ⟨b, off, rfl, hcell⟩ := hcells j hlt
          have c1 := (hS.cell ⟨b, off + j, none⟩).trans hcell
          have hd := H200.out docs[j] (List.getElem_mem _)
          have hle := foundTo_succ docs x j hlt
          have HLE := Lib.hid hle
          have hat := foundTo_at docs x j hlt
          have HAT := Lib.hid hat
          clear hcell hcells hle hat
          go_wp2_with fail
          refine (has_any docs[j] ⟨x.toArray⟩ wr (by omega) (by simp [ByteArray.size]; omega)).mono ?_
          rintro e w5 ⟨rfl, hS5⟩
          simp only [List.toList_toArray]
          have hS35 := hS.trans hS5
          cases hh : hasW (docs[j]).data.toList x with
          | false =>
            have HE : Hid (foundTo docs x (j + 1) = foundTo docs x j) := Lib.hid (by rw [HLE.out, hh]; simp)
            go_wp2_with fail
            exact ⟨⟨j + 1, by omega, by go_num, by rw [HE.out], hS35⟩, by simp [intOf]; omega⟩
          | true =>
            have hat := HAT.out hh
            have HE : Hid (foundTo docs x (j + 1) = foundTo docs x j ++ [j]) := Lib.hid (by rw [HLE.out, hh]; simp)
            obtain ⟨g, cap', e, hcl⟩ := ownsRow_cell HR3.out (j := (foundTo docs x j).length) (u := intV j) (by rw [List.getElem?_map, hat]; rfl)
            simp only [Value.slice.injEq, true_and] at e
            obtain ⟨rfl, rfl⟩ := e
            have hlen := (List.getElem?_eq_some_iff.1 hat).1
            have c2 : w5.cell? ⟨g, (foundTo docs x j).length, none⟩ = some (.int .i64 j) := (hS35.cell _).trans hcl
            obtain ⟨m, hm⟩ : ∃ m, m = (foundTo docs x j).length := ⟨_, rfl⟩
            rw [← hm] at c2 hlen ⊢
            rw [← HN.out] at hlen
            have HM := Lib.hid hm
            clear hm hat hcl
            have hml : m ≤ 48 := by
              have h1 : (foundTo docs x j).length ≤ j := by unfold foundTo; exact Nat.le_trans (List.length_filter_le _ _) (by simp)
              rw [← HM.out] at h1
              omega
            go_wp2_with fail
            exact ⟨⟨j + 1, by omega, by go_num, by rw [HE.out, List.length_append, ← HM.out]; simp, hS35⟩, by simp [intOf]; omega⟩
        · obtain rfl : j = docs.length := by omega
          rw [← HN.out]
          go_wp2_with fail
          go_ret
          exact ⟨rfl, HB3.out.trans (hS.below _)⟩
end Go.Proofs.Ts
/- The walk of pick. -/
set_option linter.unusedVariables false
set_option linter.unusedSimpArgs false
namespace Go.Proofs.Ts
open Go Go.RowKit

/-- Which of n things the raw number c speaks of. -/
def pickN (c : Int) (n : Nat) : Nat := ((if c < 0 then -(c + 1) else c).toNat) % n
theorem pickN_lt (c : Int) {n : Nat} (hn : 0 < n) : pickN c n < n := Nat.mod_lt _ hn
set_option maxRecDepth 100000 in
theorem pick_any (c : Int) (n : Nat) (w : World) (hc : -9223372036854775808 ≤ c ∧ c ≤ 9223372036854775807) (hn : 0 < n ∧ n ≤ 1000000) :
    Calls Tryz.prog 20 #[.int .i64 c, .int .i64 n] w fun e w' => e = .returned (.int .i64 (pickN c n)) ∧ w' = w := by
  have hn0 : ((n : Int) == 0) = false := by rw [beq_eq_false_iff_ne]; omega
  by_cases h : c < 0
  · have hp : Hid ((pickN c n : Nat) = ((-(c + 1)).toNat) % n) := Lib.hid (by unfold pickN; rw [if_pos h])
    go_enter Tryz.func20, Tryz.ntmps20
    go_wp2_with fail
    go_ret
    refine ⟨ret_int ?_, rfl⟩
    rw [hp.out]
    obtain ⟨m, hm⟩ : ∃ m : Nat, -(c + 1) = (m : Int) := ⟨(-(c + 1)).toNat, by omega⟩
    have hc1 : c + 1 = -(m : Int) := by omega
    rw [hm, hc1, Int.neg_tmod, Int.neg_neg]
    simp
    rw [Int.tmod_eq_emod_of_nonneg (by omega)]
  · have hp : Hid ((pickN c n : Nat) = c.toNat % n) := Lib.hid (by unfold pickN; rw [if_neg h])
    go_enter Tryz.func20, Tryz.ntmps20
    go_wp2_with fail
    go_ret
    refine ⟨ret_int ?_, rfl⟩
    rw [hp.out]
    obtain ⟨m, hm⟩ : ∃ m : Nat, c = (m : Int) := ⟨c.toNat, by omega⟩
    rw [hm]
    simp

end Go.Proofs.Ts
/- What the cards of this seat share: the world of the witness, and how a list of documents is read. -/
set_option linter.unusedVariables false
set_option linter.unusedSimpArgs false
namespace Go.Proofs.YtglafkgakcfahaaGreatDoor.card
open Go Go.ChangeShapes Go.WideShapes Go.ChangeAt Go.RowKit

theorem own : ownKnob Tryz.prog.godebug = none := by kernel_rfl
theorem laidOut : laidOutB Tryz.prog = true := by kernel_rfl
theorem cellsS : Tryz.prog.cellsOf 9 = 1 := by kernel_rfl

def litV : DataW Unit → Value
  | .lit (.int k n) => .int k n
  | _ => .nilIface
def rowV : DataW Unit → List Value
  | .agg l => l.map litV
  | _ => []
def rowsV : DataW Unit → List Value
  | .agg l => l.flatMap rowV
  | _ => []

/-- A world for the witness: the settled one, the listed variables' cells laid. -/
noncomputable def laidWorld (os : Os) : World :=
  let w0 := World.holding Tryz.prog os ⟨#[], #[], []⟩
  let h1 := w0.heap.modify 0 fun
      | .cells _ t frozen => .cells #[.iface 222 (.agg #[typeHandle Tryz.prog 69])] t frozen
      | o => o
  let h2 := h1.modify 4 fun
      | .cells _ t frozen => .cells (rowV Rows.laid_math_bits_deBruijn64tab).toArray t frozen
      | o => o
  let h3 := h2.modify 3 fun
      | .cells _ t frozen => .cells (rowsV Rows.laid_unicode_utf8_acceptRanges).toArray t frozen
      | o => o
  let h4 := h3.modify 2 fun
      | .cells _ t frozen => .cells (rowV Rows.laid_unicode_utf8_first).toArray t frozen
      | o => o
  { w0 with heap := h4 }
theorem laid_met (os : Os) (args : Array Value) : laidMetH Tryz.prog Rows.foundRow.laid ((laidWorld os).forCall (fun _ _ => 0) ⟨#[], args, []⟩).memory :=
  laidMetH_of_parts (laidMet_of_run' 8 (by kernel_rfl) (by kernel_rfl)) (by kernel_rfl)

/-- A slice of strings that can be read is a list of documents. -/
theorem strs_is {W : World} {base : Nat} {spare : Nat → Bool} {held : Bool} {H : Type} {enc : TypeId × Value → H} {a0 : Option Addr} {len cap : Nat} {d : DataW H} {p : List MemPlace} (h : DataW.Trod enc Tryz.prog W base spare held 22 (.slice a0 len cap) d p) :
    ∃ docs : List ByteArray, Ts.StrsIs W (.slice a0 len cap) docs ∧ docs.length ≤ maxLen := by
  obtain ⟨fuel, h⟩ := h
  rcases open_strings Tryz.underlying22 Tryz.underlying9 cellsS h with ⟨hv, _⟩ | ⟨a, len', cap', ss, hv, _, hl, hc, hlen, _, hcell, _⟩
  · simp [Value.cells] at hv
    obtain ⟨rfl, rfl, rfl⟩ := hv
    exact ⟨[], ⟨none, 0, rfl, fun i hi => absurd hi (Nat.not_lt_zero i)⟩, Nat.zero_le _⟩
  · simp [Value.cells] at hv
    obtain ⟨rfl, rfl, rfl⟩ := hv
    have hle : len ≤ ss.length := by rw [hlen]; split <;> omega
    refine ⟨ss.take len, ⟨some a, cap, by rw [List.length_take, Nat.min_eq_left hle], fun i hi => ?_⟩, by rw [List.length_take]; omega⟩
    rw [List.length_take] at hi
    have hc := hcell i (by omega)
    obtain ⟨b, off, spot⟩ := a
    have hs : spot = none := by simpa [Addr.add] using World.cell?_spot (hcell 0 (by omega))
    subst hs
    refine ⟨b, off, rfl, ?_⟩
    have he : (ss.take len)[i]'(by rw [List.length_take]; omega) = ss.getD i ByteArray.empty := by
      rw [List.getElem_take, List.getD_eq_getElem?_getD, List.getElem?_eq_getElem (by omega)]
      rfl
    rw [he, ← hc]
    by_cases h0 : i = 0
    · subst h0; simp [Addr.add]
    · simp [Addr.add, h0]
end Go.Proofs.YtglafkgakcfahaaGreatDoor.card
/- What the cards of this seat share: the tables of utf8 as the laid variables hold them. -/
set_option linter.unusedVariables false
set_option linter.unusedSimpArgs false
namespace Go.Proofs.YtglafkgakcfahaaGreatDoor.card
open Go Go.ChangeShapes Go.WideShapes Go.ChangeAt Go.RowKit

theorem shaped_block {W : World} (hS : W.ShapedOpen Tryz.prog) {g : Nat} {zero : Array Value} {t : TypeId} (hg : g < Tryz.prog.globals.size) (h : ((begin Tryz.prog (fun _ _ => 0) default).world.heap[g]?).bind Obj.row? = some (zero, t)) : ∃ cs, W.heap[g]? = some (.cells cs t (0, 0)) := by
  obtain ⟨cs, h1, _⟩ := hS.1 g zero t hg h
  exact ⟨cs, h1⟩
theorem row_type {P : Program} {g : Nat} {t : TypeId} (h : (((begin P (fun _ _ => 0) default).world.heap[g]?).bind Obj.row?).map (·.2) = some t) : ∃ zero, ((begin P (fun _ _ => 0) default).world.heap[g]?).bind Obj.row? = some (zero, t) := by
  cases e : ((begin P (fun _ _ => 0) default).world.heap[g]?).bind Obj.row? with
  | none => rw [e] at h; cases h
  | some r => rw [e] at h; exact ⟨r.1, by rw [← Option.some.inj h]⟩
theorem accept_data : (Rows.laid_unicode_utf8_acceptRanges : DataW Unit) = Go.Lib.acceptData := by kernel_rfl
set_option maxRecDepth 100000 in
theorem tabs_in {W : World} {l : List (String × DataW Unit)} (hL : laidMetH Tryz.prog l W) (hS : W.ShapedOpen Tryz.prog) (h1 : ("unicode/utf8.first", (Rows.laid_unicode_utf8_first : DataW Unit)) ∈ l.filter fun x => x.2.handleName?.isNone) (h2 : ("unicode/utf8.acceptRanges", (Rows.laid_unicode_utf8_acceptRanges : DataW Unit)) ∈ l.filter fun x => x.2.handleName?.isNone) : Ts.TabsIn W := by
  have hm := (laidMetH_iff.1 hL).1
  obtain ⟨z1, e1⟩ := row_type (P := Tryz.prog) (g := 2) (t := 294) (by kernel_rfl)
  obtain ⟨z2, e2⟩ := row_type (P := Tryz.prog) (g := 3) (t := 297) (by kernel_rfl)
  refine ⟨shaped_block hS (of_decide_eq_true (by kernel_rfl)) e1, shaped_block hS (of_decide_eq_true (by kernel_rfl)) e2, ?_⟩
  have r1 := Go.Lib.laidMet.reads hm h1
  have r2 := Go.Lib.laidMet.reads hm h2
  rw [accept_data] at r2
  rw [show (Rows.laid_unicode_utf8_first : DataW Unit) = Go.Lib.firstData from Pinned.utf8First_eq] at r1
  exact utf8Tabs_of_readsT (ρ := Tryz.lays196_ren) (U8Types.of196 Tryz.lays196) ⟨by kernel_rfl, by kernel_rfl, by kernel_rfl, by kernel_rfl, by kernel_rfl, by kernel_rfl, by kernel_rfl⟩ r1 r2
end Go.Proofs.YtglafkgakcfahaaGreatDoor.card
/- errors.As and errors.Is at an error that is a number: walked at their concrete targets (after the kit's worked example of errors.As, Derived/Test/ToyasAs.lean). -/
set_option linter.unusedVariables false
set_option linter.unusedSimpArgs false
namespace Go.Proofs.Ts
open Go Go.RowKit Go.Extern.Stop Go.Stop Go.Extern

/-! ### closed facts on the model's entries for internal/reflectlite -/
theorem rl_methodKind (fu : Nat) (h : Value) (w : World) : (Go.method (fu + 1) 222 (.agg #[h]) "Kind").run Tryz.prog w = .ok (203, h) w := by kernel_rfl
theorem rl_methodElem (fu : Nat) (h : Value) (w : World) : (Go.method (fu + 1) 222 (.agg #[h]) "Elem").run Tryz.prog w = .ok (226, .agg #[h]) w := by kernel_rfl
theorem rl_methodImplements (fu : Nat) (h : Value) (w : World) : (Go.method (fu + 1) 222 (.agg #[h]) "Implements").run Tryz.prog w = .ok (227, .agg #[h]) w := by kernel_rfl
theorem rl_methodAssignable (fu : Nat) (h : Value) (w : World) : (Go.method (fu + 1) 222 (.agg #[h]) "AssignableTo").run Tryz.prog w = .ok (224, .agg #[h]) w := by kernel_rfl
theorem rl_methodComparable (fu : Nat) (h : Value) (w : World) : (Go.method (fu + 1) 222 (.agg #[h]) "Comparable").run Tryz.prog w = .ok (225, .agg #[h]) w := by kernel_rfl

theorem rl_valueOfE (b : Nat) (w : World) : (ReflectliteValue.unpack (.iface 109 (.pointer (some ⟨b, 0, none⟩)))).run Tryz.prog w = .ok (.agg #[.pointer (some ⟨5, 109, none⟩), .pointer (some ⟨w.heap.size, 0, none⟩), .int .u64 150]) (w.alloc (.cells #[.pointer (some ⟨b, 0, none⟩)] 109)) := by kernel_rfl
theorem rl_typeE (a : Addr) (w : World) : (ReflectliteValue.methodAny (ReflectliteValue.valueError "reflectlite.Value.Type" 0) (fun t _ _ _ => ReflectliteType.toType t) #[.agg #[.pointer (some ⟨5, 109, none⟩), .pointer (some a), .int .u64 150]]).run Tryz.prog w
    = .ok (.iface 222 (.agg #[.pointer (some ⟨5, 109, none⟩)])) w := by kernel_rfl
theorem rl_kindE (w : World) : ((ReflectliteType.abiMethod fun t => (fun a : Nat => Value.int IntKind.u8 (a : Int)) <$> Rtype.kind t) #[.pointer (some ⟨5, 109, none⟩)]).run Tryz.prog w = .ok (.int .u8 22) w := by kernel_rfl
theorem rl_kindN (w : World) : ((ReflectliteType.abiMethod fun t => (fun a : Nat => Value.int IntKind.u8 (a : Int)) <$> Rtype.kind t) #[.pointer (some ⟨5, 33, none⟩)]).run Tryz.prog w = .ok (.int .u8 2) w := by kernel_rfl
theorem rlm (z : Sem Value) (f : TypeId → Addr → Nat → Nat → Sem Value) (v : Value) :
    ReflectliteValue.method z f #[v] = (do match ← ReflectliteValue.parts v with | none => z | some (t, a, fl) => f t a fl (fl % 32)) := rfl
theorem rl_partsE (a : Addr) (w : World) : (ReflectliteValue.parts (.agg #[.pointer (some ⟨5, 109, none⟩), .pointer (some a), .int .u64 150])).run Tryz.prog w = .ok (some (109, a, 150)) w := by kernel_rfl
theorem rl_isNilE (a p : Addr) (W : World) (ha : W.cell? a = some (.pointer (some p))) :
    (ReflectliteValue.method (ReflectliteValue.valueError "reflectlite.Value.IsNil" 0) ReflectliteValue.isNil #[.agg #[.pointer (some ⟨5, 109, none⟩), .pointer (some a), .int .u64 150]]).run Tryz.prog W = .ok (.bool false) W := by
  rw [rlm]
  simp only [Sem.run_bind, rl_partsE, Result.andThen]
  simp [ReflectliteValue.isNil, loadVar, isAgg, underlying, Tryz.underlying109, ha, Result.andThen]
theorem rl_elemE (w : World) : (ReflectliteType.method ReflectliteType.elem #[.agg #[.pointer (some ⟨5, 109, none⟩)]]).run Tryz.prog w = .ok (.iface 222 (.agg #[.pointer (some ⟨5, 33, none⟩)])) w := by kernel_rfl
theorem rl_implementsN (w : World) : (ReflectliteType.relation "Implements" ReflectliteType.implements_ #[.agg #[.pointer (some ⟨5, 33, none⟩)], .iface 222 (.agg #[.pointer (some ⟨5, 69, none⟩)])]).run Tryz.prog w = .ok (.bool true) w := by kernel_rfl
theorem rl_typeOfN (v : Value) (w : World) : (ReflectliteType.typeOf #[.iface 33 v]).run Tryz.prog w = .ok (.iface 222 (.agg #[.pointer (some ⟨5, 33, none⟩)])) w := by kernel_rfl
theorem rl_assignableN (w : World) : (ReflectliteType.relation "AssignableTo" ReflectliteType.assignableTo #[.agg #[.pointer (some ⟨5, 33, none⟩)], .iface 222 (.agg #[.pointer (some ⟨5, 33, none⟩)])]).run Tryz.prog w = .ok (.bool true) w := by kernel_rfl
theorem rl_valueOfN (k : Int) (w : World) : (ReflectliteValue.unpack (.iface 33 (.int .i64 k))).run Tryz.prog w = .ok (.agg #[.pointer (some ⟨5, 33, none⟩), .pointer (some ⟨w.heap.size, 0, none⟩), .int .u64 130]) (w.alloc (.cells #[.int .i64 k] 33)) := by kernel_rfl
theorem rl_elemOfE (w : World) : (Rtype.elem? 109).run Tryz.prog w = .ok (some 33) w := by kernel_rfl
theorem rl_mkN (p : Addr) (w : World) : (ReflectliteValue.mk 33 p ReflectliteValue.flagAddr).run Tryz.prog w = .ok (.agg #[.pointer (some ⟨5, 33, none⟩), .pointer (some p), .int .u64 386]) w := by kernel_rfl
theorem rl_elemVE (a p : Addr) (W : World) (ha : W.cell? a = some (.pointer (some p))) :
    (ReflectliteValue.method (ReflectliteValue.valueError "reflectlite.Value.Elem" 0) ReflectliteValue.elem #[.agg #[.pointer (some ⟨5, 109, none⟩), .pointer (some a), .int .u64 150]]).run Tryz.prog W
      = .ok (.agg #[.pointer (some ⟨5, 33, none⟩), .pointer (some p), .int .u64 386]) W := by
  rw [rlm]
  simp only [Sem.run_bind, rl_partsE, Result.andThen]
  simp [ReflectliteValue.elem, loadVar, isAgg, underlying, Tryz.underlying109, ha, Result.andThen, rl_elemOfE, rl_mkN]
theorem rls (v x : Value) : ReflectliteValue.set #[v, x] = (do
    let (some (dst, a, fl), some (src, b, _)) := (← ReflectliteValue.parts v, ← ReflectliteValue.parts x)
      | unsupported (.noEntry "extern/(internal/reflectlite.Value).Set.zeroValue")
    if fl / ReflectliteValue.flagAddr % 2 == 0 then unsupported (.noEntry "extern/(internal/reflectlite.Value).Set.unaddressable")
    let val ← loadVar src b
    if ← Rtype.directlyAssignable dst src then storeVar dst a val
    else if ← Rtype.implements dst src then
      if (← Rtype.kind src) == 20 then
        match val with
        | .nilIface => unsupported (.noEntry "extern/reflectlite: a nil value of one interface type handed on as a value of another")
        | _ => storeVar dst a val
      else storeVar dst a (.iface src val)
    else panicString ("reflectlite.Set: value of type " ++ (← Rtype.spelt src) ++ " is not assignable to type " ++ (← Rtype.spelt dst))
    pure (.tuple #[])) := rfl
theorem rl_partsNa (a : Addr) (w : World) : (ReflectliteValue.parts (.agg #[.pointer (some ⟨5, 33, none⟩), .pointer (some a), .int .u64 386])).run Tryz.prog w = .ok (some (33, a, 386)) w := by kernel_rfl
theorem rl_partsN (a : Addr) (w : World) : (ReflectliteValue.parts (.agg #[.pointer (some ⟨5, 33, none⟩), .pointer (some a), .int .u64 130])).run Tryz.prog w = .ok (some (33, a, 130)) w := by kernel_rfl
theorem rl_directN (w : World) : (Rtype.directlyAssignable 33 33).run Tryz.prog w = .ok true w := by kernel_rfl
theorem rl_setN (ta b : Addr) (k : Int) (old : Value) (W : World) (hb : W.cell? b = some (.int .i64 k)) (ht : W.cell? ta = some old) (hf : W.frozen? ta = false) :
    (ReflectliteValue.set #[.agg #[.pointer (some ⟨5, 33, none⟩), .pointer (some ta), .int .u64 386], .agg #[.pointer (some ⟨5, 33, none⟩), .pointer (some b), .int .u64 130]]).run Tryz.prog W
      = .ok (.tuple #[]) (W.setCell ta (.int .i64 k)) := by
  rw [rls]
  simp only [Sem.run_bind, rl_partsNa, rl_partsN, Result.andThen]
  simp [ReflectliteValue.flagAddr, loadVar, isAgg, underlying, Tryz.underlying33, hb, Result.andThen, rl_directN, storeVar, Value.cells, storeCells, Addr.add]
  rw [run_store Tryz.prog W ta _ _ (by rfl)]
  simp [ht, hf]

/-- The handle of the type 'error' lies where errors' code looks for it. -/
def ErrIn (w : World) : Prop := w.cell? ⟨0, 0, none⟩ = some (.iface 222 (.agg #[.pointer (some ⟨5, 69, none⟩)]))
theorem ErrIn.below {w w' : World} (h : ErrIn w) (hb : Below w.heap.size w w') : ErrIn w' := (hb.cell (p := ⟨0, 0, none⟩) (lt_of_cell h)).trans h

set_option maxHeartbeats 4000000 in
theorem as_hit (k : Int) (b : Nat) (old : Value) (w : World) (hg : ErrIn w) (ht0 : w.cell? ⟨b, 0, none⟩ = some old) (hf0 : w.frozen? ⟨b, 0, none⟩ = false) :
    Calls Tryz.prog 43 #[.iface 33 (.int .i64 k), .iface 109 (.pointer (some ⟨b, 0, none⟩))] w fun ev w' => ev = .returned (.bool true) ∧ ∃ w1, Below w.heap.size w w1 ∧ w' = w1.setCell ⟨b, 0, none⟩ (.int .i64 k) := by
  have h6 := @run_callFunc_extern Tryz.prog 71 _ (fun args => ReflectliteValue.unpack (args.getD 0 (.tuple #[]))) Tryz.func71 (by kernel_rfl) (by kernel_rfl) (by kernel_rfl) (by kernel_rfl)
  have h7 := @run_callFunc_extern Tryz.prog 72 _ (ReflectliteValue.methodAny (ReflectliteValue.valueError "reflectlite.Value.Type" 0) (fun t _ _ _ => ReflectliteType.toType t)) Tryz.func72 (by kernel_rfl) (by kernel_rfl) (by kernel_rfl) (by kernel_rfl)
  have h8 := @run_callFunc_extern Tryz.prog 73 _ (ReflectliteValue.method (ReflectliteValue.valueError "reflectlite.Value.IsNil" 0) ReflectliteValue.isNil) Tryz.func73 (by kernel_rfl) (by kernel_rfl) (by kernel_rfl) (by kernel_rfl)
  have h27 := @run_callFunc_extern Tryz.prog 203 _ (ReflectliteType.abiMethod fun t => do pure (.int .u8 (← Rtype.kind t))) Tryz.func203 (by kernel_rfl) (by kernel_rfl) (by kernel_rfl) (by kernel_rfl)
  have h37 := @run_callFunc_extern Tryz.prog 226 _ (ReflectliteType.method ReflectliteType.elem) Tryz.func226 (by kernel_rfl) (by kernel_rfl) (by kernel_rfl) (by kernel_rfl)
  have h38 := @run_callFunc_extern Tryz.prog 227 _ (ReflectliteType.relation "Implements" ReflectliteType.implements_) Tryz.func227 (by kernel_rfl) (by kernel_rfl) (by kernel_rfl) (by kernel_rfl)
  have h10 := @run_callFunc_extern Tryz.prog 75 _ ReflectliteType.typeOf Tryz.func75 (by kernel_rfl) (by kernel_rfl) (by kernel_rfl) (by kernel_rfl)
  have h35 := @run_callFunc_extern Tryz.prog 224 _ (ReflectliteType.relation "AssignableTo" ReflectliteType.assignableTo) Tryz.func224 (by kernel_rfl) (by kernel_rfl) (by kernel_rfl) (by kernel_rfl)
  have h11 := @run_callFunc_extern Tryz.prog 103 _ (ReflectliteValue.method (ReflectliteValue.valueError "reflectlite.Value.Elem" 0) ReflectliteValue.elem) Tryz.func103 (by kernel_rfl) (by kernel_rfl) (by kernel_rfl) (by kernel_rfl)
  have h12 := @run_callFunc_extern Tryz.prog 104 _ ReflectliteValue.set Tryz.func104 (by kernel_rfl) (by kernel_rfl) (by kernel_rfl) (by kernel_rfl)
  have tO := rl_typeOfN
  have mA := rl_methodAssignable
  have a25 := rl_assignableN
  have v25 := rl_valueOfN
  have f6 := rl_valueOfE
  have f7 := rl_typeE
  have mK := rl_methodKind
  have mE := rl_methodElem
  have mI := rl_methodImplements
  have k27 := rl_kindE
  have k25 := rl_kindN
  have e27 := rl_elemE
  have i25 := rl_implementsN
  have n8 := rl_isNilE ⟨w.heap.size, 0, none⟩ ⟨b, 0, none⟩ ((w.alloc (.cells #[.pointer (some ⟨b, 0, none⟩)] 109)).alloc (.cells #[.pointer (some ⟨5, 109, none⟩), .pointer (some ⟨w.heap.size, 0, none⟩), .int .u64 150] 169)) (by simp)
  have hlt : 0 < w.heap.size := lt_of_cell hg
  unfold ErrIn at hg
  have hg2 : ((w.alloc (.cells #[.pointer (some ⟨b, 0, none⟩)] 109)).alloc (.cells #[.pointer (some ⟨5, 109, none⟩), .pointer (some ⟨w.heap.size, 0, none⟩), .int .u64 150] 169)).cell? ⟨0, 0, none⟩ = some (.iface 222 (.agg #[.pointer (some ⟨5, 69, none⟩)])) := by
    rw [World.cell?_alloc_lt _ _ ⟨0, 0, none⟩ (by simp), World.cell?_alloc_lt _ _ ⟨0, 0, none⟩ hlt]; exact hg
  have htl : b < w.heap.size := lt_of_cell ht0
  have el := rl_elemVE ⟨w.heap.size, 0, none⟩ ⟨b, 0, none⟩ (((w.alloc (.cells #[.pointer (some ⟨b, 0, none⟩)] 109)).alloc (.cells #[.pointer (some ⟨5, 109, none⟩), .pointer (some ⟨w.heap.size, 0, none⟩), .int .u64 150] 169)).alloc (.cells #[.pointer (some ⟨5, 109, none⟩), .pointer (some ⟨w.heap.size, 0, none⟩), .int .u64 150] 169)) (by rw [World.cell?_alloc_lt _ _ ⟨w.heap.size, 0, none⟩ (by simp; omega)]; simp)
  have st := rl_setN ⟨b, 0, none⟩ ⟨w.heap.size + 1 + 1 + 1, 0, none⟩ k old ((((w.alloc (.cells #[.pointer (some ⟨b, 0, none⟩)] 109)).alloc (.cells #[.pointer (some ⟨5, 109, none⟩), .pointer (some ⟨w.heap.size, 0, none⟩), .int .u64 150] 169)).alloc (.cells #[.pointer (some ⟨5, 109, none⟩), .pointer (some ⟨w.heap.size, 0, none⟩), .int .u64 150] 169)).alloc (.cells #[.int .i64 k] 33))
    (by rw [World.cell?_alloc_at _ _ _ _ (by simp)]; rfl)
    (by rw [World.cell?_alloc_lt _ _ ⟨b, 0, none⟩ (by simp; omega), World.cell?_alloc_lt _ _ ⟨b, 0, none⟩ (by simp; omega), World.cell?_alloc_lt _ _ ⟨b, 0, none⟩ (by simp; omega), World.cell?_alloc_lt _ _ ⟨b, 0, none⟩ htl]; exact ht0)
    (by rw [World.frozen?_alloc_old _ _ ⟨b, 0, none⟩ (by simp; omega), World.frozen?_alloc_old _ _ ⟨b, 0, none⟩ (by simp; omega), World.frozen?_alloc_old _ _ ⟨b, 0, none⟩ (by simp; omega), World.frozen?_alloc_old _ _ ⟨b, 0, none⟩ (Nat.ne_of_lt htl)]; exact hf0)
  go_enter Tryz.func43, Tryz.ntmps43
  go_wp2
  refine wp_loop_rounds 1 ?_
  rw [rounds_succ]
  go_wp2
  go_ret
  refine ⟨rfl, _, ?_, rfl⟩
  exact ((((Below.refl _ w).alloc (Nat.le_refl _) _).alloc (by simp) _).alloc (by simp; omega) _).alloc (by simp; omega) _
end Go.Proofs.Ts
/- What the cards of this seat share, the second part: the handle of the type error as the laid variable holds it. -/
set_option linter.unusedVariables false
set_option linter.unusedSimpArgs false
namespace Go.Proofs.YtglafkgakcfahaaGreatDoor.card
open Go Go.ChangeShapes Go.WideShapes Go.ChangeAt Go.RowKit

theorem err_glob : Tryz.prog.globalNamed "errors.errorType" = some 0 := by kernel_rfl
theorem err_rt : (Tryz.prog.cutTypes.find? (·.1 == "internal/reflectlite.rtype")).map (·.2) = some 222 := by kernel_rfl
set_option maxRecDepth 100000 in
theorem err_row : ((List.range Tryz.prog.types.size).filter fun t => Tryz.prog.rowNamed t [101, 114, 114, 111, 114]) = [69] := by kernel_rfl
theorem err_handle : typeHandle Tryz.prog 69 = .pointer (some ⟨5, 69, none⟩) := by kernel_rfl

theorem err_in {W : World} {l : List (String × DataW Unit)} (hL : laidMetH Tryz.prog l W) (h1 : ("errors.errorType", (Rows.laid_errors_errorType : DataW Unit)) ∈ l.filter fun x => x.2.handleName?.isSome) : Ts.ErrIn W := by
  have hm := (laidMetH_iff.1 hL).2
  obtain ⟨name, u, ty, e1, e2, e3, e4, e5⟩ := hm _ h1
  have en : name = [101, 114, 114, 111, 114] := (Option.some.inj e1).symm
  subst en
  obtain rfl := Option.some.inj (err_rt.symm.trans e2)
  have hm : ty ∈ (List.range Tryz.prog.types.size).filter fun t => Tryz.prog.rowNamed t [101, 114, 114, 111, 114] := List.mem_filter.2 ⟨List.mem_range.2 e3, e4⟩
  rw [err_row] at hm
  obtain rfl := List.mem_singleton.1 hm
  rw [err_handle] at e5
  unfold Ts.ErrIn
  simpa using World.var?_cell err_glob e5 0
end Go.Proofs.YtglafkgakcfahaaGreatDoor.card
/- The walks of match, each and Matches. -/
set_option linter.unusedVariables false
set_option linter.unusedSimpArgs false
namespace Go.Proofs.Ts
open Go Go.RowKit

/-- The list of a term's documents, as a segment holds it. -/
def PostAt (w : World) (pv : Value) (i c : Nat) : Prop := ∃ g n cap a cap2, pv = .slice (some ⟨g, 0, none⟩) n cap ∧ i < n ∧ n ≤ 10000 ∧ w.cell? ⟨g, i, none⟩ = some (.slice a c cap2)
theorem Terms.post {w : World} {sb : Nat} {D : List (List (List UInt8))} {pv fv : Value} {l : List (List UInt8 × Nat)} (h : Terms w sb D pv fv l) {j : Nat} {t : List UInt8} {i : Nat} (hj : l[j]? = some (t, i)) : PostAt w pv i (postsOf D t).length := by
  obtain ⟨g, n, cap, a, cap2, h1, h2, h3, h4, _⟩ := h.posts j t i hj
  exact ⟨g, n, cap, a, cap2, h1, h2, h3, h4⟩

theorem Tryz.cellsOfMatch : Tryz.prog.cellsOf 53 = 2 := by kernel_rfl
set_option maxRecDepth 100000 in
set_option maxHeartbeats 1000000 in
theorem match_any (sb : Nat) (pv : Value) (t : List UInt8) (i c : Nat) (w : World) (h2 : w.cell? ⟨sb, 2, none⟩ = some pv) (hp : PostAt w pv i c) :
    Calls Tryz.prog 50 #[ptrV sb, .agg #[strV t, intV i]] w fun e w' => e = .returned (.agg #[strV t, intV c]) ∧ Below w.heap.size w w' := by
  obtain ⟨g, n, cap, a, cap2, rfl, hin, hn, h3⟩ := hp
  unfold ptrV strV intV
  go_enter Tryz.func50, Tryz.ntmps50
  go_wp2_with fail
  have hal : Below w.heap.size w ((w.alloc (.cells #[.string ⟨t.toArray⟩, .int .i64 i] 120)).alloc (.cells #[.string ⟨#[]⟩, .int .i64 0] 53)) := ((Below.refl _ w).alloc (Nat.le_refl _) _).alloc (by simp) _
  have f0 : ((w.alloc (.cells #[.string ⟨t.toArray⟩, .int .i64 i] 120)).alloc (.cells #[.string ⟨#[]⟩, .int .i64 0] 53)).heap[w.heap.size]? = some (.cells #[.string ⟨t.toArray⟩, .int .i64 i] 120 (0, 0)) := by
    rw [Below.heap_alloc _ _ _ (by simp)]
    exact heap_alloc_new w _
  have m0 : ((w.alloc (.cells #[.string ⟨t.toArray⟩, .int .i64 i] 120)).alloc (.cells #[.string ⟨#[]⟩, .int .i64 0] 53)).heap[w.heap.size + 1]? = some (.cells #[.string ⟨#[]⟩, .int .i64 0] 53 (0, 0)) := by
    have := heap_alloc_new (w.alloc (.cells #[.string ⟨t.toArray⟩, .int .i64 i] 120)) (.cells #[.string ⟨#[]⟩, .int .i64 0] 53)
    rw [World.size_alloc] at this
    exact this
  generalize ((w.alloc (.cells #[.string ⟨t.toArray⟩, .int .i64 i] 120)).alloc (.cells #[.string ⟨#[]⟩, .int .i64 0] 53)) = w2 at *
  have c0 : w2.cell? ⟨w.heap.size, 0, none⟩ = some (.string ⟨t.toArray⟩) := cell_block f0
  have c1 : w2.cell? ⟨w.heap.size, 1, none⟩ = some (.int .i64 i) := cell_block f0
  have c2 : w2.cell? ⟨sb, 2, none⟩ = some (.slice (some ⟨g, 0, none⟩) n cap) := (hal.cell (p := ⟨sb, 2, none⟩) (lt_of_cell h2)).trans h2
  have c3 : w2.cell? ⟨g, i, none⟩ = some (.slice a c cap2) := (hal.cell (p := ⟨g, i, none⟩) (lt_of_cell h3)).trans h3
  have hsl := lt_of_cell h2
  have hgl := lt_of_cell h3
  have M0 := Lib.hid m0
  have HAL := Lib.hid hal
  clear h2 h3 hal f0 m0
  refine wp_region_ordX [(0, false), (1, false), (2, false), (3, false), (4, false), (5, false), (6, false), (7, false), (8, false), (9, false), (10, false), (11, false), (12, true)] 1000
    (fun w' => w'.cell? ⟨w.heap.size, 0, none⟩ = some (.string ⟨t.toArray⟩) ∧ w'.cell? ⟨w.heap.size, 1, none⟩ = some (.int .i64 i) ∧ w'.cell? ⟨sb, 2, none⟩ = some (.slice (some ⟨g, 0, none⟩) n cap) ∧ w'.cell? ⟨g, i, none⟩ = some (.slice a c cap2)) (by kernel_rfl) (by kernel_rfl) ⟨c0, c1, c2, c3⟩ ?_
  iterate 12 (
    refine wpOrd_quiet ?_ rfl rfl (fun w' hS => ?_) ?_
    rotate_left
    · obtain ⟨e0, e1, e2, e3⟩ := hS
      go_simp
      first | rfl | done
    simp only [put_lit, List.set_cons_succ, List.set_cons_zero])
  refine wpOrd_loud rfl rfl (by decide) (fun K hK => ?_)
  have n0 : w2.cell? ⟨w.heap.size + 1, 0, none⟩ = some (.string ⟨#[]⟩) := cell_block M0.out
  have n1 : w2.cell? ⟨w.heap.size + 1, 1, none⟩ = some (.int .i64 0) := cell_block M0.out
  have n2 : w2.frozen? ⟨w.heap.size + 1, 0, none⟩ = false := free_block M0.out
  have n3 : w2.frozen? ⟨w.heap.size + 1, 1, none⟩ = false := free_block M0.out
  go_simp
  have hb3 : Below w.heap.size w ((w2.setCell ⟨w.heap.size + 1, 0, none⟩ (.string ⟨t.toArray⟩)).setCell ⟨w.heap.size + 1, 1, none⟩ (.int .i64 c)) := (HAL.out.setCell (p := ⟨w.heap.size + 1, 0, none⟩) (by simp only; omega) _).setCell (p := ⟨w.heap.size + 1, 1, none⟩) (by simp only; omega) _
  have hm3 : ((w2.setCell ⟨w.heap.size + 1, 0, none⟩ (.string ⟨t.toArray⟩)).setCell ⟨w.heap.size + 1, 1, none⟩ (.int .i64 c)).heap[w.heap.size + 1]? = some (.cells #[.string ⟨t.toArray⟩, .int .i64 c] 53 (0, 0)) := by
    have h1 := heap_setCell_same w2 (w.heap.size + 1) 0 _ _ (.string ⟨t.toArray⟩) M0.out
    exact heap_setCell_same _ (w.heap.size + 1) 1 _ _ (.int .i64 c) h1
  have oth : ∀ (b j : Nat) u, b ≠ w.heap.size + 1 → w2.cell? ⟨b, j, none⟩ = some u → ((w2.setCell ⟨w.heap.size + 1, 0, none⟩ (.string ⟨t.toArray⟩)).setCell ⟨w.heap.size + 1, 1, none⟩ (.int .i64 c)).cell? ⟨b, j, none⟩ = some u := fun b j u hb hu => by
    rw [World.cell?_setCell_other _ _ _ _ (fun e => hb (congrArg Addr.block e).symm), World.cell?_setCell_other _ _ _ _ (fun e => hb (congrArg Addr.block e).symm)]
    exact hu
  have e0 := oth _ _ _ (by omega) c0
  have e1 := oth _ _ _ (by omega) c1
  have e2 := oth _ _ _ (by omega) c2
  have e3 := oth _ _ _ (by omega) c3
  refine hK _ _ ⟨e0, e1, e2, e3⟩ ?_
  clear hK K oth n0 n1 n2 n3
  refine wpOrd_nil ?_
  generalize ((w2.setCell ⟨w.heap.size + 1, 0, none⟩ (.string ⟨t.toArray⟩)).setCell ⟨w.heap.size + 1, 1, none⟩ (.int .i64 c)) = W3 at *
  have r0 : W3.cell? ⟨w.heap.size + 1, 0, none⟩ = some (.string ⟨t.toArray⟩) := cell_block hm3
  have r1 : W3.cell? ⟨w.heap.size + 1, 1, none⟩ = some (.int .i64 c) := cell_block hm3
  go_wp2_with fail
  refine bodyPost_ret (results_cell_row rfl _ _ (w.heap.size + 1) _ _ _ _ rfl hm3 Tryz.underlying53 rfl (by kernel_rfl)) rfl ?_
  exact ⟨rfl, hb3.drew⟩

/-- Terms with their numbers turned to matches: terms with how many documents have them. -/
def matchesOf (D : List (List (List UInt8))) (l : List (List UInt8 × Nat)) : List (List UInt8 × Nat) := l.map fun p => (p.1, (postsOf D p.1).length)
theorem matchesOf_succ {D : List (List (List UInt8))} {l : List (List UInt8 × Nat)} {j : Nat} {t : List UInt8} {i : Nat} (h : l[j]? = some (t, i)) : matchesOf D (l.take (j + 1)) = matchesOf D (l.take j) ++ [(t, (postsOf D t).length)] := by
  have hj := (List.getElem?_eq_some_iff.1 h).1
  have he : l[j] = (t, i) := (List.getElem?_eq_some_iff.1 h).2
  unfold matchesOf
  rw [List.take_succ_eq_append_getElem hj, he, List.map_append]
  rfl
theorem Tryz.info53 : (Tryz.prog.info? 53).map (fun i => (i.zero, i.size, i.bytes)) = some (some (.agg #[.string ⟨#[]⟩, .int .i64 0]), 2, 24) := by kernel_rfl

set_option maxRecDepth 100000 in
set_option maxHeartbeats 2000000 in
theorem each_any (D : List (List (List UInt8))) (sb : Nat) (pv fv : Value) (l : List (List UInt8 × Nat)) (w : World) (ht : Terms w sb D pv fv l) (hD : D.length ≤ 1000) :
    Calls Tryz.prog 49 #[fv, .func (.func 50) #[ptrV sb] #[]] w fun e w' => ∃ ov, e = .returned ov ∧ Below w.heap.size w w' ∧
      w'.ownsRow 0 53 2 ov l.length (foundCells (matchesOf D l)) := by
  obtain ⟨fa, fc, rfl⟩ := ht.form
  have hll := ht.few
  obtain ⟨i0, hi, hz0, hz1, hz2⟩ := info_parts Tryz.info53
  have HT := Lib.hid ht
  clear ht
  unfold ptrV
  go_enter Tryz.func49, Tryz.ntmps49
  go_wp2_with fail
  go_loopw [5, 10] (fun ov i wr => ∃ j : Nat, j ≤ l.length ∧ i = .int .i64 j ∧ wr.ownsRow 0 53 2 ov j (foundCells (matchesOf D (l.take j))) ∧ Past w.heap.size ov ∧ Below w.heap.size w wr) (fun _ i _ => l.length - (intOf i).toNat)
  case atStart => exact ⟨0, Nat.zero_le _, rfl, World.ownsRow_nil _ _ _ _, (fun k e => by cases e), Below.refl _ _⟩
  case round =>
    obtain ⟨j, hj, rfl, hrow, hpast, hbel⟩ := hrel
    have HROW := Lib.hid hrow
    have HPAST := Lib.hid hpast
    have HBEL := Lib.hid hbel
    clear hrow hpast hbel
    by_cases hjl : j < l.length
    · obtain ⟨t, i, hti⟩ : ∃ t i, l[j]? = some (t, i) := ⟨_, _, List.getElem?_eq_getElem hjl⟩
      obtain ⟨g, cap, e1, k0, k1⟩ := HT.out.found j t i hti
      simp only [Value.slice.injEq, true_and] at e1
      obtain ⟨rfl, rfl⟩ := e1
      have go : ∀ (b i : Nat) u, w.cell? ⟨b, i, none⟩ = some u → wr.cell? ⟨b, i, none⟩ = some u := fun b i u hu => (HBEL.out.cell (p := ⟨b, i, none⟩) (lt_of_cell hu)).trans hu
      have c0 := go _ _ _ k0
      have c1 := go _ _ _ k1
      have hpost := HT.out.post hti
      have HMS := Lib.hid (matchesOf_succ (D := D) hti)
      obtain ⟨c, hc⟩ : ∃ c, c = (postsOf D t).length := ⟨_, rfl⟩
      have HC := Lib.hid hc
      rw [← hc] at hpost
      have HPOST := Lib.hid hpost
      clear hpost hc hti go
      go_wp2_with fail
      clear k0 k1 c0 c1
      have hb2 : Below w.heap.size w (wr.alloc (.cells #[.string ⟨t.toArray⟩, .int .i64 i] 120)) := HBEL.out.alloc HBEL.out.size _
      have hro2 : (wr.alloc (.cells #[.string ⟨t.toArray⟩, .int .i64 i] 120)).ownsRow 0 53 2 u5 j (foundCells (matchesOf D (l.take j))) := HROW.out.alloc _
      generalize (wr.alloc (.cells #[.string ⟨t.toArray⟩, .int .i64 i] 120)) = w2 at *
      have hpost2 : PostAt w2 pv i c := by
        obtain ⟨g', n, cap', a, cap2, h1, h2, h3, h4⟩ := HPOST.out
        exact ⟨g', n, cap', a, cap2, h1, h2, h3, (hb2.cell (p := ⟨g', i, none⟩) (lt_of_cell h4)).trans h4⟩
      have hm := match_any sb pv t i c w2 ((hb2.cell (p := ⟨sb, 2, none⟩) (lt_of_cell HT.out.seg)).trans HT.out.seg) hpost2
      unfold ptrV strV intV at hm
      refine hm.mono ?_
      clear hm hpost2
      rintro e w3 ⟨rfl, hb3⟩
      have hb13 := hb2.trans (hb3.mono hb2.size)
      have hrow3 : w3.ownsRow 0 53 2 u5 j (foundCells (matchesOf D (l.take j))) := ownsRow_block hro2 fun k e => hb3.block k (hro2.lt k e).2
      have HB13 := Lib.hid hb13
      clear hb2 hro2 hb3 hb13
      have hrow4 : (w3.alloc (.cells #[.string ⟨t.toArray⟩, .int .i64 c] 53)).ownsRow 0 53 2 u5 j (foundCells (matchesOf D (l.take j))) := hrow3.alloc _
      have hnew : ∀ j u, [Value.string ⟨t.toArray⟩, .int .i64 c][j]? = some u → (w3.alloc (.cells #[.string ⟨t.toArray⟩, .int .i64 c] 53)).cell? ((⟨w3.heap.size, 0, none⟩ : Addr).add j) = some u := cell_two_new w3 _ _ _
      clear hrow3
      go_wp2_with (at_builtin; refine wpList_append_lies rfl _ _ 47 rfl 53 i0 (.agg #[.string ⟨#[]⟩, .int .i64 0]) 2 24 Tryz.underlying47 hi hz0 hz1 hz2 rfl (by decide) u5 j (foundCells (matchesOf D (l.take j))) rfl hrow4 ⟨w3.heap.size, 0, none⟩ 1 1 [.string ⟨t.toArray⟩, .int .i64 c] rfl rfl hnew (by simp [Value.oneCell']) (by decide) (by unfold maxLen; omega) (by omega) ?_; intro v4 W4 hrow5 hgrow5 hlies5; simp only [put_lit, List.set_cons_succ, List.set_cons_zero]; have HR5 := Lib.hid hrow5; have HM5 := Lib.hid ((Moves.alloc w3 u5 _).trans (Moves.append hgrow5 hlies5)); clear hrow5 hgrow5 hlies5)
      have hsz3 := HB13.out.size
      refine ⟨⟨j + 1, by omega, by go_num, ?_, HM5.out.past HPAST.out hsz3, HM5.out.below (fun k e => HPAST.out k e) HB13.out hsz3⟩, by simp [intOf]; omega⟩
      rw [HMS.out, foundCells_snoc, ← HC.out]
      exact HR5.out
    · obtain rfl : j = l.length := by omega
      rw [List.take_length] at HROW
      go_wp2_with fail
      go_ret
      exact ⟨u5, rfl, HBEL.out, HROW.out⟩
end Go.Proofs.Ts
/- slices.swapRangeCmpFunc and rotateCmpFunc at elements of three cells, from a world of the sort's to a world of the sort's (after the kit's family of slices.SortFunc). Conditions: those that each theorem names. -/
set_option linter.unusedVariables false
set_option linter.unusedSimpArgs false
namespace Go.Proofs.Ts
open Go Go.Shelf Go.RowKit Go.Lib Go.Sort
variable {α : Type} [Inhabited α]

/-- The first n of two rows exchanged, one by one. -/
def swapRange (a b : Nat) : Nat → Array α → Array α
  | 0, d => d
  | n + 1, d => swp (swapRange a b n d) (a + n) (b + n)
theorem size_swapRange (a b n : Nat) (d : Array α) : (swapRange a b n d).size = d.size := by
  induction n with
  | zero => rfl
  | succ n ih => rw [swapRange, size_swp, ih]

set_option maxHeartbeats 4000000 in
set_option maxRecDepth 1000000 in
theorem swapRange_any (enc : α → List Value) (g : Nat) (cb : Array Value) (blk off cap a b n : Nat) (d0 d : Array α) (w0 w : World)
    (k : Nat) (hk3 : 3 = k) (R : RowK enc k w0 blk off d0) (hs : d0.size = d.size) (S : SWK enc k w0 blk off d w) (ha : a + n ≤ d.size) (hb : b + n ≤ d.size) (hsz : d.size < 4611686018427387904) :
    Calls Tryz.prog 175 #[.slice (some ⟨blk, off, none⟩) d.size cap, .int .i64 a, .int .i64 b, .int .i64 n, .func (.func g) #[] cb] w fun e w' => e = .returned (.tuple #[]) ∧ SWK enc k w0 blk off (swapRange a b n d) w' := by
  have S0 : Aside (SWK enc k w0 blk off d w) := S
  clear S
  have mixed : Tryz.prog.follows .mixedOrders = true := by kernel_rfl
  have aE : ∀ w, (isAgg 59).run Tryz.prog w = .ok true w := fun w => by kernel_rfl
  have zE : ∀ w, (Go.sizeOf 59).run Tryz.prog w = .ok k w := by rw [← hk3]; exact fun w => by kernel_rfl
  go_enter Tryz.func175, Tryz.ntmps175
  go_wp2
  go_loopg [10] n (fun kx s10 wr => ∃ i : Nat, s10 = .int .i64 i ∧ i ≤ n ∧ n - i ≤ kx ∧ Aside (SWK enc k w0 blk off (swapRange a b i d) wr))
  case atStart => exact ⟨0, rfl, by omega, by omega, S0⟩
  case round =>
    clear S0
    obtain ⟨i, rfl, hin, hkx, S1⟩ := hrel
    by_cases hlt : i < n
    · have hltz : (i : Int) < (n : Int) := by omega
      go_wp2_with fail
      obtain ⟨dk, hdk⟩ : ∃ dk, dk = swapRange a b i d := ⟨_, rfl⟩
      have hds : dk.size = d.size := by rw [hdk]; exact size_swapRange a b i d
      rw [← hdk] at S1
      have HDK := Lib.hid hdk
      clear hdk
      have ea44 : ((a : Int) + (i : Int)).toNat = a + i := by omega
      have pa44 : (0 : Int) ≤ (a : Int) + (i : Int) := by omega
      have ba44 : (a : Int) + (i : Int) < (d.size : Int) := by omega
      have ra44 : IntKind.i64.wrap ((a : Int) + (i : Int)) = (a : Int) + (i : Int) := by rw [IntKind.wrap_i64]; omega
      have ec44 : ((b : Int) + (i : Int)).toNat = b + i := by omega
      have pc44 : (0 : Int) ≤ (b : Int) + (i : Int) := by omega
      have bc44 : (b : Int) + (i : Int) < (d.size : Int) := by omega
      have rc44 : IntKind.i64.wrap ((b : Int) + (i : Int)) = (b : Int) + (i : Int) := by rw [IntKind.wrap_i64]; omega
      have S2 : Aside (SWK enc k w0 blk off (swp dk (a + i) (b + i)) ((wr.drew.setCells blk (off + (a + i) * k) (enc dk[b + i]!)).setCells blk (off + (b + i) * k) (enc dk[a + i]!))) := S1.out.swapped R (a + i) (b + i) (by omega) (by omega)
      have l44a := S1.out.ld1 R (by omega) Tryz.prog (a + i) (by omega)
      have l44b := S1.out.ld1 R (by omega) Tryz.prog (b + i) (by omega)
      have s44a := S1.out.st1 R (by omega) Tryz.prog (a + i) (by omega) dk[b + i]!
      have s44b := S1.out.st2 R (by omega) Tryz.prog (a + i) (b + i) (by omega) (by omega) dk[b + i]! dk[a + i]!
      have n44a : (enc dk[a + i]!).length = k := R.hk _
      have n44b : (enc dk[b + i]!).length = k := R.hk _
      generalize enc dk[a + i]! = cI44 at S2 l44a s44b n44a
      generalize enc dk[b + i]! = cJ44 at S2 l44b s44a s44b n44b
      clear S1
      go_wp2_with fail
      go_big_region_o
      clear l44a l44b s44a s44b
      generalize (wr.drew.setCells blk (off + (a + i) * k) cJ44).setCells blk (off + (b + i) * k) cI44 = w2 at S2 ⊢
      go_wp2
      go_roundg (n - (i + 1))
      case measure => omega
      case rel =>
        refine ⟨i + 1, by go_num, by omega, Nat.le_refl _, ?_⟩
        rw [swapRange, ← HDK.out]
        exact S2
    · have hltz : ¬ (i : Int) < (n : Int) := by omega
      go_wp2
      go_end0
      refine ⟨rfl, ?_⟩
      rw [show n = i by omega]
      exact S1.out
end Go.Proofs.Ts
