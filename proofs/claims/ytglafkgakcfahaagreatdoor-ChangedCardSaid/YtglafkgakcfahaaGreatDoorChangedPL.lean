/- Lemmas towards the statement Changed of termsearch: walks of the program's functions and plain laws on lists (TsAsk, TsPlainA, TsPlain, TsFixed, TsFound, TsNearC, TsChangedP, TsPick, TsChanged, TsCard, TsCardT). Conditions: those that each theorem names. -/
import Derived.Test.YtglafkgakcfahaaGreatDoorChangedPK
import Derived.Test.YtglafkgakcfahaaGreatDoorChangedPG
import Derived.Test.YtglafkgakcfahaaGreatDoorChangedPI
import Derived.Test.YtglafkgakcfahaaGreatDoorChangedPC
import Derived.Deep.CutBlock
import Derived.Deep.DeepCutAuto
import Derived.Test.YtglafkgakcfahaaGreatDoorCards
import Derived.Test.YtglafkgakcfahaaGreatDoorTie
import Derived.Test.YtglafkgakcfahaaGreatDoorChangedPE
import Derived.WalkKit
import Derived.ProofKit
import Derived.OpenShut
import Derived.Carry
import Derived.SliceStrings
import Derived.LaidHandle
import Derived.LaidLaws
import Derived.Deep.DeepHandedRow
import Derived.Lib.LaidU8T
import Derived.PinnedBridge
/- The walks of plain.Search and of ask. -/
set_option linter.unusedVariables false
set_option linter.unusedSimpArgs false
namespace Go.Proofs.Ts
open Go Go.RowKit

/-- A segment that is asked: beyond block B, with what is known. -/
def Seg (B : Nat) (w : World) (sb : Nat) (D : List (List (List UInt8))) : Prop := B ≤ sb ∧ ∃ kn, SegIs w sb D kn ∧ KnownIs B w kn
theorem Seg.below {B : Nat} {w w' : World} {sb : Nat} {D : List (List (List UInt8))} (h : Seg B w sb D) (hb : Below w.heap.size w w') : Seg B w' sb D := by
  obtain ⟨h1, kn, h2, h3⟩ := h
  obtain ⟨db, R, Λ, ρ, Dd, pv, ps, hat⟩ := h2.at
  exact ⟨h1, kn, (hat.below hb).is, h3.below hb⟩

set_option maxRecDepth 100000 in
set_option maxHeartbeats 2000000 in
theorem plainSearch_any (B : Nat) (q : Asked) (acc : List UInt8 → Bool) (most sb : Nat) (D : List (List (List UInt8))) (w : World)
    (hB : B ≤ w.heap.size) (hseg : Seg B w sb D) (hD : D.length ≤ 1000) (st : Nat) (hst : q.states = st) (hst1 : 1 ≤ st ∧ st ≤ 400) (hmost : most ≤ 2000000) (hcomp : CompileOk w q) (hacc : accOf q = some acc) (hfew : Few D acc most) :
    Calls Tryz.prog 17 #[ptrV sb, askV q, .int .i64 st, .int .i64 most] w fun e w' => ∃ ov, e = .returned (.tuple #[ov, .int .i64 0, .int .i64 (-1)]) ∧ Seg B w' sb D ∧ Below B w w' ∧ Cells w w' ∧
      w'.ownsRow 0 3 1 ov (docsOf D acc).length ((docsOf D acc).map intV) := by
  have HS := Lib.hid hseg
  have HFEW := Lib.hid hfew
  clear hseg hfew
  unfold ptrV askV strV
  go_enter Tryz.func17, Tryz.ntmps17
  go_wp2_with fail
  have hal : Below w.heap.size w (w.alloc (.cells #[.int .i64 q.kind, .string ⟨q.a.toArray⟩, .string ⟨q.b.toArray⟩, .int .i64 q.n] 37)) := (Below.refl _ w).alloc (Nat.le_refl _) _
  have HAL := Lib.hid hal
  clear hal
  generalize (w.alloc (.cells #[.int .i64 q.kind, .string ⟨q.a.toArray⟩, .string ⟨q.b.toArray⟩, .int .i64 q.n] 37)) = w2 at *
  obtain ⟨hsb, kn, hs2, hk2⟩ := HS.out.below HAL.out
  have hs := search_any B q acc most sb D kn w2 (Nat.le_trans hB HAL.out.size) hsb hs2 hk2 hD st hst hst1 hmost (hcomp.kept (Cells.below HAL.out)) hacc HFEW.out
  unfold ptrV askV strV at hs
  refine hs.mono ?_
  clear hs hs2 hk2
  rintro e w3 ⟨ov, kn', rfl, hs3, hk3, hb3, hc3, hrow3⟩
  have HC3 := Lib.hid hc3
  have HS3 : Hid (Seg B w3 sb D) := Lib.hid ⟨hsb, kn', hs3, hk3⟩
  have HB3 := Lib.hid hb3
  have HR3 := Lib.hid hrow3
  clear hs3 hk3 hb3 hrow3
  go_wp2_with fail
  refine (told_nil w3).mono ?_
  rintro e w4 ⟨rfl, hb4⟩
  have HB4 := Lib.hid hb4
  clear hb4
  go_wp2_with fail
  go_ret3
  refine ⟨ov, rfl, HS3.out.below HB4.out, ((HAL.out.mono hB).trans HB3.out).trans (HB4.out.mono (by have := HAL.out.size; have := HB3.out.size; omega)), ((Cells.below HAL.out).trans HC3.out).trans (Cells.below HB4.out), ownsRow_block HR3.out fun k e => HB4.out.block k (HR3.out.lt k e).2⟩

set_option maxRecDepth 100000 in
set_option maxHeartbeats 2000000 in
theorem ask_any (B : Nat) (kind n : Int) (a b : List UInt8) (acc : List UInt8 → Bool) (sb : Nat) (D : List (List (List UInt8))) (w : World)
    (hB : B ≤ w.heap.size) (hseg : Seg B w sb D) (hD : D.length ≤ 1000) (hcomp : CompileOk w ⟨kind, a, b, n, 400⟩) (hacc : accOf ⟨kind, a, b, n, 400⟩ = some acc) :
    Calls Tryz.prog 14 #[ptrV sb, .int .i64 kind, strV a, strV b, .int .i64 n] w fun e w' => ∃ ov, e = .returned (.tuple #[ov, .bool true]) ∧ Seg B w' sb D ∧ Below B w w' ∧ Cells w w' ∧
      w'.ownsRow 0 3 1 ov (docsOf D acc).length ((docsOf D acc).map intV) := by
  have HS := Lib.hid hseg
  clear hseg
  unfold ptrV strV
  go_enter Tryz.func14, Tryz.ntmps14
  go_wp2_with fail
  have hs := plainSearch_any B ⟨kind, a, b, n, 400⟩ acc 1048576 sb D w hB HS.out hD 400 rfl (by omega) (by omega) hcomp hacc (Few.great _ _ (by omega))
  unfold ptrV askV strV at hs
  refine hs.mono ?_
  clear hs
  rintro e w3 ⟨ov, rfl, hs3, hb3, hc3, hrow3⟩
  have HC3 := Lib.hid hc3
  have HS3 := Lib.hid hs3
  have HB3 := Lib.hid hb3
  have HR3 := Lib.hid hrow3
  clear hs3 hb3 hrow3
  go_wp2_with fail
  go_ret2
  exact ⟨ov, rfl, HS3.out, HB3.out, HC3.out, HR3.out⟩
end Go.Proofs.Ts
/- append of a whole slice onto nothing; a segment stands where only strings turn. -/
set_option linter.unusedVariables false
set_option linter.unusedSimpArgs false
namespace Go.Proofs.Ts
open Go Go.RowKit

section
variable {P : Program} {w : World}
theorem run_append_none (t ty e : TypeId) (i : TypeInfo) (ht : P.underlying t = some (.slice e)) (hi : P.info? e = some i) (a : Option Addr) (c : Nat) :
    (Builtin.append_ #[t, t] ty #[.slice none 0 0, .slice a 0 c]).run P w = .ok (.slice none 0 0) w := by
  cases a <;> simp [Builtin.append_, run_underlying ht, sizeOf, typeInfo, hi, Builtin.lenOf, Builtin.firstCells, loadCells, loadCellsFrom]
theorem run_append_copy (t ty e : TypeId) (i : TypeInfo) (z : Value) (size bytes : Nat) (ht : P.underlying t = some (.slice e)) (hi : P.info? e = some i) (hz : i.zero = some z)
    (hsize : i.size = size) (hby : i.bytes = bytes) (hzs : z.cells.size = size) (hsz : 0 < size)
    (a : Option Addr) (m c : Nat) (news : List Value) (hl : news.length = m * size) (hnews : ∀ j u, news[j]? = some u → ∃ b, a = some b ∧ w.cell? (b.add j) = some u) (h1 : ∀ u ∈ news, u.oneCell' = true)
    (h63 : m ≤ maxLen) (hbytes : m * bytes ≤ 140737488355328) :
    ∃ v' w', (Builtin.append_ #[t, t] ty #[.slice none 0 0, .slice a m c]).run P w = .ok v' w' ∧ w'.ownsRow 0 e size v' m news ∧ Below w.heap.size w w' ∧ Past w.heap.size v' := by
  cases m with
  | zero =>
    have hn : news = [] := List.eq_nil_of_length_eq_zero (by simpa using hl)
    subst hn
    exact ⟨_, _, run_append_none t ty e i ht hi a c, World.ownsRow_nil _ _ _ _, Below.refl _ _, fun k e => by cases e⟩
  | succ m =>
    obtain ⟨u, hu⟩ : ∃ u, news[0]? = some u := ⟨_, List.getElem?_eq_getElem (by rw [hl]; exact Nat.mul_pos (Nat.succ_pos _) hsz)⟩
    obtain ⟨b, rfl, _⟩ := hnews 0 u hu
    obtain ⟨v', w', hr, h2, h3, h4⟩ := run_append_lies (P := P) t ty e i z size bytes ht hi hz hsize hby hzs hsz (.slice none 0 0) 0 [] (World.ownsRow_nil _ _ _ _) b (m + 1) c news hl
      (fun j u hj => by obtain ⟨b', e', h'⟩ := hnews j u hj; cases e'; exact h') h1 (Nat.succ_pos _) (by omega) (by rw [Nat.zero_add]; exact hbytes)
    rw [Nat.zero_add, List.nil_append] at h2
    refine ⟨v', w', hr, h2, (Below.refl _ w).grown h3 (Nat.le_refl _) (fun k e => by cases e), fun k hk => ?_⟩
    rcases h4 with ⟨h5, _⟩ | ⟨h5, _⟩
    · rw [hk] at h5; cases h5
    · rw [hk] at h5; cases h5; exact Nat.le_refl _
theorem wpList_append_copy {ops : Array Oper} {rest : List Oper} {o : Oper} {act : Act} {Q : Exit → Act → World → Prop} (hgd : o.guard = none) (s x : Operand) (t : TypeId)
    (ho : o.op = .call { callee := .builtin .append, args := #[s, x], argTypes := #[t, t] })
    (e : TypeId) (i : TypeInfo) (z : Value) (size bytes : Nat) (ht : P.underlying t = some (.slice e)) (hi : P.info? e = some i) (hz : i.zero = some z)
    (hsize : i.size = size) (hby : i.bytes = bytes) (hzs : z.cells.size = size) (hsz : 0 < size) (hs : act.eval s = .slice none 0 0)
    (a : Option Addr) (m c : Nat) (news : List Value) (hx : act.eval x = .slice a m c) (hl : news.length = m * size) (hnews : ∀ j u, news[j]? = some u → ∃ b, a = some b ∧ w.cell? (b.add j) = some u) (h1 : ∀ u ∈ news, u.oneCell' = true)
    (h63 : m ≤ maxLen) (hbytes : m * bytes ≤ 140737488355328)
    (h : ∀ v' w', w'.ownsRow 0 e size v' m news → Below w.heap.size w w' → Past w.heap.size v' → wpList P ops Q rest (act.put o.dst v') w') : wpList P ops Q (o :: rest) act w := by
  refine wpList_plain hgd fun K hK => ?_
  obtain ⟨v', w', hr, h2, h3, h4⟩ := run_append_copy (P := P) t o.type e i z size bytes ht hi hz hsize hby hzs hsz a m c news hl hnews h1 h63 hbytes
  unfold Oper.wp execOp
  simp only [ho, resolve, invoke, builtin, Sem.run_bind, Sem.run_pure, Result.andThen_ok, List.map_toArray, List.map_cons, List.map_nil, hs, hx, hr]
  exact hK _ _ (h v' w' h2 h3 h4)
end

section
variable {w w' : World}
theorem RowsIn.strKept {B : Nat} {V : Value} {D : List DS} (h : RowsIn B w V D) (hk : ∀ (k : Nat) cs t r, w.heap[k]? = some (.cells cs t r) → t ≠ 9 → w'.heap[k]? = w.heap[k]?) : RowsIn B w' V D := by
  have go : ∀ {e size n : Nat} {v : Value} {xs : List Value}, e ≠ 9 → w.ownsRow 0 e size v n xs → w'.ownsRow 0 e size v n xs := fun he hr => ownsRow_typed hr fun k cs r hk' => hk _ _ _ _ hk' he
  exact ⟨go (by decide) h.row, h.past, fun i s hi => go (by decide) (h.erow i s hi), h.epast, h.apart, h.apartV⟩
theorem DictIs.strKept {db : Nat} {R : Nat → Prop} {Λ : Nat → List Word} {ρ : Nat → Nat} {D : List DS} (h : DictIs w db R Λ ρ D) (hk : ∀ (k : Nat) cs t r, w.heap[k]? = some (.cells cs t r) → t ≠ 9 → w'.heap[k]? = w.heap[k]?) : DictIs w' db R Λ ρ D := by
  obtain ⟨V, h1, h2⟩ := h.mem
  exact ⟨⟨V, (hk _ _ _ _ h1 (by decide)).trans h1, h2.strKept hk⟩, h.root, h.state⟩
theorem SegIs.strKept {sb : Nat} {D : List (List (List UInt8))} {kn : Value} (h : SegIs w sb D kn) (hk : ∀ (k : Nat) cs t r, w.heap[k]? = some (.cells cs t r) → t ≠ 9 → w'.heap[k]? = w.heap[k]?) : SegIs w' sb D kn := by
  obtain ⟨db, R, Λ, ρ, Dd, pv, ps, h1, h2, h3, h4, h5, h6, h7, h8⟩ := h.ex
  exact ⟨db, R, Λ, ρ, Dd, pv, ps, (hk _ _ _ _ h1 (by decide)).trans h1, h2.strKept hk, h3, h4, h5, h6, ownsRow_typed h7 fun k cs r hk' => hk _ _ _ _ hk' (by decide), fun i v x hv hx => ownsRow_typed (h8 i v x hv hx) fun k cs r hk' => hk _ _ _ _ hk' (by decide)⟩
end
end Go.Proofs.Ts
/- The walk of plain.Build: of few, short documents; the copy is turned behind it. -/
set_option linter.unusedVariables false
set_option linter.unusedSimpArgs false
namespace Go.Proofs.Ts
open Go Go.RowKit

/-- The copy, turned up to k: it lies in a block of its own; the rest of it reads as the documents. -/
def Own (ov : Value) (docs : List ByteArray) (w1 : World) (k : Nat) (w : World) : Prop :=
  Mod (fun b => ov.ownBlock = some b) w1 w ∧ ∀ og, ov.ownBlock = some og → ∃ cur : Array Value, w.heap[og]? = some (.cells cur 9 (0, 0)) ∧ ∀ j (h : j < docs.length), k ≤ j → cur[j]? = some (.string docs[j])
theorem Own.step {ov : Value} {docs : List ByteArray} {w1 w : World} {k og : Nat} {v : Value} (h : Own ov docs w1 k w) (ho : ov.ownBlock = some og) : Own ov docs w1 (k + 1) (w.setCell ⟨og, k, none⟩ v) := by
  obtain ⟨h1, h2⟩ := h
  refine ⟨h1.trans (Mod.setCell w ⟨og, k, none⟩ v fun _ => ho), fun og' ho' => ?_⟩
  obtain rfl : og = og' := Option.some.inj (ho.symm.trans ho')
  obtain ⟨cur, h3, h4⟩ := h2 og ho
  refine ⟨_, heap_setCell_same w og k _ _ _ h3, fun j hj hk => ?_⟩
  rw [Array.getElem?_setIfInBounds_ne (by omega)]
  exact h4 j hj (by omega)
theorem Own.same {ov : Value} {docs : List ByteArray} {w1 w w' : World} {k : Nat} (h : Own ov docs w1 k w) (hs : Same w w') : Own ov docs w1 k w' := by
  obtain ⟨n, rfl⟩ := hs
  exact ⟨h.1.trans (Mod.same (Same.drewN w n)), h.2⟩
theorem ownsRow_strs {w : World} {ov : Value} {docs : List ByteArray} (h : w.ownsRow 0 9 1 ov docs.length (docs.map Value.string)) : StrsIs w ov docs := by
  obtain ⟨a, cap, rfl⟩ := ownsRow_form h
  refine ⟨a, cap, rfl, fun i hi => ?_⟩
  obtain ⟨g, cap', e, hc⟩ := ownsRow_cell h (j := i) (u := .string docs[i]) (by simp [hi])
  simp only [Value.slice.injEq, true_and] at e
  obtain ⟨rfl, rfl⟩ := e
  exact ⟨g, 0, rfl, by rw [Nat.zero_add]; exact hc⟩

set_option maxRecDepth 100000 in
set_option maxHeartbeats 2000000 in
theorem plainBuild_any (docs : List ByteArray) (v : Value) (w : World) (hv : StrsIs w v docs) (h48 : docs.length ≤ 48) (h200 : ∀ d ∈ docs, d.size ≤ 200) :
    Calls Tryz.prog 21 #[v] w fun e w' => ∃ sb, e = .returned (.tuple #[ptrV sb, .int .i64 0, .bool true]) ∧ Below w.heap.size w w' ∧ Seg w.heap.size w' sb (docs.map wordsB) := by
  obtain ⟨a, cap, rfl, hc⟩ := hv
  obtain ⟨i0, hi, hz0, hz1, hz2⟩ := info_parts Tryz.info9
  have HC := Lib.hid hc
  have H200 := Lib.hid h200
  clear hc h200
  go_enter Tryz.func21, Tryz.ntmps21
  go_wp2_with (at_builtin; refine wpList_append_copy rfl _ _ 22 rfl 9 i0 (.string ⟨#[]⟩) 1 16 Tryz.underlying22 hi hz0 hz1 hz2 rfl (by decide) rfl a docs.length cap (docs.map Value.string) rfl (by simp) ?c1 (by simp [Value.oneCell']) (by unfold maxLen; omega) (by omega) ?_)
  case c1 =>
    intro j u hj
    rw [List.getElem?_map] at hj
    obtain ⟨d, hd, rfl⟩ := Option.map_eq_some_iff.1 hj
    obtain ⟨hjl, hd⟩ := List.getElem?_eq_some_iff.1 hd
    obtain ⟨b, off, rfl, hcell⟩ := HC.out j hjl
    refine ⟨_, rfl, ?_⟩
    rw [← hd]
    by_cases h0 : j = 0
    · subst h0; simpa [Addr.add] using hcell
    · simpa [Addr.add, h0] using hcell
  intro ov w1 hrow hb1 hpast
  have hs1 := ownsRow_strs hrow
  obtain ⟨oa, oc, rfl⟩ := ownsRow_form hrow
  have HROW := Lib.hid hrow
  have HB1 := Lib.hid hb1
  have HP := Lib.hid hpast
  clear hrow hb1 hpast hi hz0 hz1 hz2
  go_wp2_with fail
  refine (build_any docs _ w1 hs1 h48 H200.out).mono ?_
  rintro e w2 ⟨sb, rfl, hsb, hb2, hseg2⟩
  have HB2 := Lib.hid hb2
  have HS2 := Lib.hid hseg2
  clear hs1 hb2 hseg2
  unfold ptrV
  go_wp2_with fail
  refine (told_nil w2).mono ?_
  rintro e w3 ⟨rfl, hb3⟩
  have HB3 := Lib.hid hb3
  clear hb3
  go_wp2_with fail
  have hb13 : Below w1.heap.size w1 w3 := HB2.out.trans (HB3.out.mono HB2.out.size)
  have hown : Own (.slice oa docs.length oc) docs w3 0 w3 := ⟨Mod.refl _ _, fun og ho => by
    rcases HROW.out.2 with ⟨h, _⟩ | ⟨g, cap', cur, h, _, hg, _, _, hcs, htake⟩
    · rw [h] at ho; cases ho
    · rw [h] at ho
      cases ho
      refine ⟨cur, (hb13.block _ (lt_of_heap hg)).trans hg, fun j hj _ => ?_⟩
      have h1 : (docs.map Value.string)[j]? = some (.string docs[j]) := by simp [hj]
      rw [← htake] at h1
      rw [List.getElem?_take_of_lt (by simp; omega)] at h1
      simpa using h1⟩
  have HOWN := Lib.hid hown
  have HB13 := Lib.hid hb13
  clear hown hb13
  go_loopw [10, 26] (fun sm i wr => ∃ k : Nat, k ≤ docs.length ∧ i = .int .i64 k ∧ sm = .bool true ∧ Hid (Own (.slice oa docs.length oc) docs w3 k wr)) (fun _ i _ => docs.length - (intOf i).toNat)
  case atStart => exact ⟨0, Nat.zero_le _, rfl, rfl, HOWN⟩
  case round =>
    obtain ⟨k, hk, rfl, rfl, HO⟩ := hrel
    by_cases hlt : k < docs.length
    · obtain ⟨b, off, rfl, hcell⟩ := HC.out k hlt
      obtain ⟨g, cap', e, _⟩ := ownsRow_cell HROW.out (j := k) (u := .string docs[k]) (by simp [hlt])
      simp only [Value.slice.injEq, true_and] at e
      obtain ⟨rfl, rfl⟩ := e
      have hgw : w.heap.size ≤ g := HP.out g rfl
      have hbl := lt_of_cell hcell
      have hs1 := HB1.out.size
      have hs3 := HB13.out.size
      obtain ⟨cur, hcur, hrest⟩ := HO.out.2 g rfl
      have c1 : wr.cell? ⟨b, off + k, none⟩ = some (.string docs[k]) := by
        have h1 := (HB1.out.cell (p := ⟨b, off + k, none⟩) hbl).trans hcell
        have h2 := (HB13.out.cell (p := ⟨b, off + k, none⟩) (by simp only; omega)).trans h1
        exact (HO.out.1.cell (p := ⟨b, off + k, none⟩) (by simp only; omega) (fun h => by have h9 : g = b := Option.some.inj h; omega)).trans h2
      have c2 : wr.cell? ⟨g, k, none⟩ = some (.string docs[k]) := (cell_block hcur).trans (hrest k hlt (Nat.le_refl _))
      have c3 : wr.frozen? ⟨g, k, none⟩ = false := free_block hcur
      have q1 : (docs[k] == docs[k]) = true := by rw [beq_toListBytes]; simp
      clear hcell hrest
      go_wp2_with fail
      go_quiet (fail)
      go_wp2_with fail
      exact ⟨⟨k + 1, by omega, by go_num, rfl, (HO.out.same (Same.drewN _ _)).step rfl⟩, by simp [intOf]; omega⟩
    · obtain rfl : k = docs.length := by omega
      go_wp2_with fail
      go_ret3
      have hs1 := HB1.out.size
      have hs3 := HB13.out.size
      have hmod := HO.out.1
      refine ⟨sb, rfl, (HB1.out.trans (HB13.out.mono hs1)).trans (hmod.toBelow (by omega) fun k h => HP.out k h), by omega, .map none, ?_, .inl rfl⟩
      have hs3' : SegIs w3 sb (docs.map wordsB) (.map none) := by
        obtain ⟨db, R, Λ, ρ, Dd, pv, ps, hat⟩ := HS2.out.at
        exact (hat.below HB3.out).is
      refine hs3'.strKept fun k cs t r h ht => hmod.block k (lt_of_heap h) fun ho => ht ?_
      obtain ⟨cur, hcur⟩ := ownsRow_cells4 HROW.out ho
      have hcur3 := (HB13.out.block _ (lt_of_heap hcur)).trans hcur
      rw [h] at hcur3
      cases hcur3
      rfl
end Go.Proofs.Ts
/- The walk of fixed: a segment of documents of its own answers as it must. -/
set_option linter.unusedVariables false
set_option linter.unusedSimpArgs false
namespace Go.Proofs.Ts
open Go Go.RowKit

def docs4 : List ByteArray := [⟨#[111, 110, 101, 32, 116, 119, 111]⟩, ⟨#[84, 119, 111, 32, 116, 104, 114, 101, 101]⟩, ⟨#[]⟩, ⟨#[116, 104, 114, 101, 101]⟩]
theorem docs4_words : docs4.map wordsB = [[[111, 110, 101], [116, 119, 111]], [[116, 119, 111], [116, 104, 114, 101, 101]], [], [[116, 104, 114, 101, 101]]] := by decide
theorem docs4_two : docsOf (docs4.map wordsB) (fun u => decide (u = [116, 119, 111])) = [0, 1] := by rw [docs4_words]; decide
theorem docs4_t : docsOf (docs4.map wordsB) (fun u => decide ([116] <+: u)) = [0, 1, 3] := by rw [docs4_words]; decide
theorem Few.flat {D : List (List (List UInt8))} (acc : List UInt8 → Bool) {most : Nat} (h : D.flatten.length ≤ most) : Few D acc most := fun T hr hm _ => by
  have h1 : (hits acc T 0).length ≤ T.length := by unfold hits; exact Nat.le_trans (List.length_filter_le _ _) (by simp)
  have h2 : T.length ≤ D.flatten.length := nodup_le T D.flatten (hr.imp fun h e => by subst e; exact List.lt_irrefl _ h) fun x hx => by
    obtain ⟨j, hj⟩ := List.exists_mem_of_ne_nil _ ((hm x).1 hx)
    obtain ⟨ws, h3, h4⟩ := (postsOf_mem _ _ _).1 hj
    exact List.mem_flatten.2 ⟨ws, List.mem_of_getElem? h3, h4⟩
  omega

set_option maxRecDepth 100000 in
set_option maxHeartbeats 2000000 in
theorem fixed_any (w : World) : Calls Tryz.prog 19 #[] w fun e w' => e = .returned (.bool true) ∧ Below w.heap.size w w' := by
  go_enter Tryz.func19, Tryz.ntmps19
  go_wp2_with fail
  have hst : StrsIs (w.alloc (.cells (docs4.map Value.string).toArray 9)) (.slice (some ⟨w.heap.size, 0, none⟩) 4 4) docs4 := by
    refine ⟨_, _, rfl, fun i hi => ⟨_, _, rfl, ?_⟩⟩
    rw [Nat.zero_add, cell_block (heap_alloc_new w _)]
    simp [hi]
  have hal : Below w.heap.size w (w.alloc (.cells (docs4.map Value.string).toArray 9)) := (Below.refl _ w).alloc (Nat.le_refl _) _
  have hW : (w.alloc (.cells #[.string ⟨#[111, 110, 101, 32, 116, 119, 111]⟩, .string ⟨#[84, 119, 111, 32, 116, 104, 114, 101, 101]⟩, .string ⟨#[]⟩, .string ⟨#[116, 104, 114, 101, 101]⟩] 9)) = w.alloc (.cells (docs4.map Value.string).toArray 9) := rfl
  rw [hW]
  clear hW
  generalize w.alloc (.cells (docs4.map Value.string).toArray 9) = w1 at *
  refine (plainBuild_any docs4 _ w1 hst (by decide) (by decide)).mono ?_
  rintro e w2 ⟨sb, rfl, hb2, hs2⟩
  have HAL := Lib.hid hal
  have HB2 := Lib.hid hb2
  have HS2 := Lib.hid hs2
  clear hal hb2 hs2 hst
  unfold ptrV
  go_wp2_with fail
  have hq1 := plainSearch_any w1.heap.size ⟨1, [116, 119, 111], [], 0, 10⟩ (fun u => decide (u = [116, 119, 111])) 10 sb (docs4.map wordsB) w2 HB2.out.size HS2.out (by decide) 10 rfl (by omega) (by omega) (compile_one (by decide)) rfl (Few.flat _ (by rw [docs4_words]; decide))
  rw [docs4_two] at hq1
  unfold ptrV askV strV at hq1
  refine hq1.mono ?_
  clear hq1
  rintro e w3 ⟨o1, rfl, hs3, hb3, hc3, hr3⟩
  obtain ⟨g1, cap1, rfl⟩ := ownsRow_head (n := 1) hr3
  have HS3 := Lib.hid hs3
  have HB3 := Lib.hid hb3
  have HR3 := Lib.hid hr3
  clear hs3 hb3 hc3 hr3
  go_wp2_with fail
  have hq2 := plainSearch_any w1.heap.size ⟨2, [116], [], 0, 10⟩ (fun u => decide ([116] <+: u)) 10 sb (docs4.map wordsB) w3 (Nat.le_trans HB2.out.size HB3.out.size) HS3.out (by decide) 10 rfl (by omega) (by omega) (compile_two (by decide)) rfl (Few.flat _ (by rw [docs4_words]; decide))
  rw [docs4_t] at hq2
  unfold ptrV askV strV at hq2
  refine hq2.mono ?_
  clear hq2
  rintro e w4 ⟨o2, rfl, hs4, hb4, hc4, hr4⟩
  obtain ⟨g2, cap2, rfl⟩ := ownsRow_head (n := 2) hr4
  have hr3' : w4.ownsRow 0 3 1 (.slice (some ⟨g1, 0, none⟩) 2 cap1) 2 [intV 0, intV 1] := ownsRow_typed HR3.out fun k cs r hk => hc4.2 k cs _ r hk (by decide)
  have a0 : w4.cell? ⟨g1, 0, none⟩ = some (.int .i64 0) := hr3'.cells (g := g1) rfl 0 _ rfl
  have a1 : w4.cell? ⟨g1, 1, none⟩ = some (.int .i64 1) := hr3'.cells (g := g1) rfl 1 _ rfl
  have b2 : w4.cell? ⟨g2, 2, none⟩ = some (.int .i64 3) := hr4.cells (g := g2) rfl 2 _ rfl
  have hb : Below w.heap.size w w4 := HAL.out.trans (((HB2.out).trans (HB3.out.trans hb4)).mono HAL.out.size)
  have HB := Lib.hid hb
  clear hs4 hb4 hc4 hr4 hr3' hb
  go_wp2_with fail
  go_ret
  exact ⟨rfl, HB.out⟩
end Go.Proofs.Ts
/- The walks of build and Found. -/
set_option linter.unusedVariables false
set_option linter.unusedSimpArgs false
namespace Go.Proofs.Ts
open Go Go.RowKit

theorem StrsIs.below {w w' : World} {v : Value} {ss : List ByteArray} (h : StrsIs w v ss) (hb : Below w.heap.size w w') : StrsIs w' v ss := by
  obtain ⟨a, cap, rfl, hc⟩ := h
  refine ⟨a, cap, rfl, fun i hi => ?_⟩
  obtain ⟨b, off, e, h1⟩ := hc i hi
  exact ⟨b, off, e, (hb.cell (p := ⟨b, off + i, none⟩) (lt_of_cell h1)).trans h1⟩
theorem Seg.mono {B B' : Nat} {w : World} {sb : Nat} {D : List (List (List UInt8))} (h : Seg B w sb D) (hB : B' ≤ B) : Seg B' w sb D := by
  obtain ⟨h1, kn, h2, h3⟩ := h
  refine ⟨by omega, kn, h2, ?_⟩
  rcases h3 with h3 | ⟨km, m, e, h4, h5⟩
  · exact .inl h3
  · exact .inr ⟨km, m, e, by omega, h5⟩

set_option maxRecDepth 100000 in
set_option maxHeartbeats 2000000 in
theorem keepBuild_any (docs : List ByteArray) (v : Value) (w : World) (hv : StrsIs w v docs) (hl : docs.length ≤ 9223372036854775807) :
    Calls Tryz.prog 12 #[v] w fun e w' => Below w.heap.size w w' ∧
      ((smallW docs = false ∧ e = .returned (.tuple #[.pointer none, .bool true])) ∨ (smallW docs = true ∧ ∃ sb, e = .returned (.tuple #[ptrV sb, .bool true]) ∧ Seg w.heap.size w' sb (docs.map wordsB))) := by
  have HV := Lib.hid hv
  clear hv
  go_enter Tryz.func12, Tryz.ntmps12
  go_wp2_with fail
  refine (fixed_any w).mono ?_
  rintro e w1 ⟨rfl, hb1⟩
  have HB1 := Lib.hid hb1
  clear hb1
  go_wp2_with fail
  refine (small_any v docs w1 (HV.out.below HB1.out) hl).mono ?_
  rintro e w2 ⟨rfl, hs2⟩
  have hb2 : Below w.heap.size w w2 := HB1.out.trans (hs2.below _)
  have HB2 := Lib.hid hb2
  clear hb2 hs2
  cases hsm : smallW docs with
  | false =>
    go_wp2_with fail
    go_ret2
    exact ⟨HB2.out, .inl ⟨hsm, rfl⟩⟩
  | true =>
    have hparts : docs.length ≤ 48 ∧ ∀ d ∈ docs, d.size ≤ 200 := by
      unfold smallW at hsm
      simpa using hsm
    have HP := Lib.hid hparts
    have HSM := Lib.hid hsm
    clear hparts hsm
    go_wp2_with fail
    refine (plainBuild_any docs v w2 (HV.out.below HB2.out) HP.out.1 HP.out.2).mono ?_
    rintro e w3 ⟨sb, rfl, hb3, hs3⟩
    have HB3 := Lib.hid hb3
    have HS3 := Lib.hid hs3
    clear hb3 hs3
    unfold ptrV
    go_wp2_with fail
    go_ret2
    exact ⟨HB2.out.trans (HB3.out.mono HB2.out.size), .inr ⟨HSM.out, sb, rfl, HS3.out.mono HB2.out.size⟩⟩

/-- What has the word is what is found. -/
theorem docsOf_has {docs : List ByteArray} {x : List UInt8} (hx : wordW x = true) : docsOf (docs.map wordsB) (fun u => decide (u = x)) = (List.range docs.length).filter fun d => hasW ((docs.getD d ⟨#[]⟩).data.toList) x := by
  unfold docsOf
  rw [List.length_map]
  apply List.filter_congr
  intro d hd
  rw [List.mem_range] at hd
  unfold wordW at hx
  simp only [Bool.and_eq_true, decide_eq_true_eq, List.all_eq_true] at hx
  obtain ⟨⟨h1, h2⟩, h3⟩ := hx
  have hne : x ≠ [] := List.length_pos_iff.1 h2
  have hb : ∀ c ∈ x, isBlank c = false := fun c hc => by
    have := h1 c hc
    unfold wordCh at this
    simp only [Bool.and_eq_true, Bool.not_eq_true'] at this
    exact this.1
  rw [Bool.eq_iff_iff, hasW_iff _ _ hne hb, List.getD_eq_getElem?_getD, List.getElem?_map, List.getElem?_eq_getElem hd, List.getD_eq_getElem?_getD, List.getElem?_eq_getElem hd]
  simp only [Option.map_some, Option.getD_some, List.any_eq_true, decide_eq_true_eq, exists_eq_right]
  unfold wordsB
  rw [List.mem_filter]
  simp only [decide_eq_true_eq]
  exact ⟨fun h => h.1, fun h => ⟨h, h3⟩⟩
def foundTo (docs : List ByteArray) (x : List UInt8) (i : Nat) : List Nat := (List.range i).filter fun d => hasW ((docs.getD d ⟨#[]⟩).data.toList) x
theorem foundTo_succ (docs : List ByteArray) (x : List UInt8) (i : Nat) (h : i < docs.length) : foundTo docs x (i + 1) = foundTo docs x i ++ (if hasW (docs[i]).data.toList x then [i] else []) := by
  unfold foundTo
  rw [List.range_succ, List.filter_append, List.filter_cons, List.getD_eq_getElem?_getD, List.getElem?_eq_getElem h]
  rfl
theorem foundTo_at (docs : List ByteArray) (x : List UInt8) (i : Nat) (h : i < docs.length) (hh : hasW (docs[i]).data.toList x = true) : (foundTo docs x docs.length)[(foundTo docs x i).length]? = some i := by
  have h1 : foundTo docs x docs.length = foundTo docs x (i + 1) ++ ((List.range' (i + 1) (docs.length - (i + 1))).filter fun d => hasW ((docs.getD d ⟨#[]⟩).data.toList) x) := by
    unfold foundTo
    rw [← List.filter_append]
    congr 1
    rw [List.range_eq_range', List.range_eq_range']
    have h2 := List.range'_append_1 (s := 0) (m := i + 1) (n := docs.length - (i + 1))
    rw [Nat.zero_add, show i + 1 + (docs.length - (i + 1)) = docs.length by omega] at h2
    exact h2.symm
  rw [h1, foundTo_succ docs x i h, if_pos hh]
  simp

set_option maxRecDepth 100000 in
set_option maxHeartbeats 2000000 in
theorem found_any (docs : List ByteArray) (s : ByteArray) (v : Value) (w : World) (hv : StrsIs w v docs) (hl : docs.length ≤ 9223372036854775807) (hs : s.size ≤ 9223372036854775807) :
    Calls Tryz.prog 3 #[v, .string s] w fun e w' => e = .returned (.bool true) ∧ Below w.heap.size w w' := by
  obtain ⟨va, vc, rfl, hc⟩ := id hv
  obtain ⟨x, rfl⟩ : ∃ x : List UInt8, s = ⟨x.toArray⟩ := ⟨s.data.toList, by cases s; simp⟩
  have HV := Lib.hid hv
  clear hv hc
  go_enter Tryz.func3, Tryz.ntmps3
  go_wp2_with fail
  refine (keepBuild_any docs _ w HV.out hl).mono ?_
  rintro e w1 ⟨hb1, hres⟩
  have HB1 := Lib.hid hb1
  clear hb1
  rcases hres with ⟨_, rfl⟩ | ⟨hsm, sb, rfl, hs1⟩
  · go_wp2_with fail
    go_ret
    exact ⟨rfl, HB1.out⟩
  · have hparts : docs.length ≤ 48 ∧ ∀ d ∈ docs, d.size ≤ 200 := by
      unfold smallW at hsm
      simpa using hsm
    obtain ⟨h48, h200⟩ := hparts
    have HS1 := Lib.hid hs1
    have H200 := Lib.hid h200
    clear hs1 hsm h200
    unfold ptrV
    go_wp2_with fail
    refine (word_any _ w1 hs).mono ?_
    rintro e w2 ⟨rfl, hw2⟩
    have hb2 : Below w1.heap.size w1 w2 := hw2.below _
    have HB2 := Lib.hid hb2
    clear hb2 hw2
    simp only [List.toList_toArray]
    cases hw : wordW x with
    | false =>
      go_wp2_with fail
      go_ret
      exact ⟨rfl, HB1.out.trans (HB2.out.mono HB1.out.size)⟩
    | true =>
      have hx16 : x.length ≤ 16 := by
        unfold wordW at hw
        simp only [Bool.and_eq_true, decide_eq_true_eq] at hw
        exact hw.2
      have HW := Lib.hid hw
      clear hw
      go_wp2_with fail
      have hask := ask_any w.heap.size 1 0 x [] (fun u => decide (u = x)) sb (docs.map wordsB) w2 (Nat.le_trans HB1.out.size HB2.out.size) (HS1.out.below HB2.out) (by simp; omega) (compile_one (by omega)) (by simp [accOf]; omega)
      rw [docsOf_has HW.out] at hask
      unfold ptrV strV at hask
      refine hask.mono ?_
      clear hask
      rintro e w3 ⟨ov, rfl, hs3, hb3, hc3, hr3⟩
      have hr3' : w3.ownsRow 0 3 1 ov (foundTo docs x docs.length).length ((foundTo docs x docs.length).map intV) := hr3
      obtain ⟨oa, oc, rfl⟩ := ownsRow_form hr3'
      have hb13 : Below w.heap.size w w3 := HB1.out.trans ((HB2.out.mono HB1.out.size).trans hb3)
      have HB3 := Lib.hid hb13
      have HR3 := Lib.hid hr3'
      have HV3 := Lib.hid (HV.out.below hb13)
      clear hs3 hb3 hc3 hr3 hr3' hb13
      obtain ⟨n, hn⟩ : ∃ n, n = (foundTo docs x docs.length).length := ⟨_, rfl⟩
      have HN := Lib.hid hn
      rw [← hn]
      clear hn
      go_wp2_with fail
      go_loopw [9, 10] (fun k i wr => ∃ j : Nat, j ≤ docs.length ∧ i = .int .i64 j ∧ k = .int .i64 ((foundTo docs x j).length : Nat) ∧ Same w3 wr) (fun _ i _ => docs.length - (intOf i).toNat)
      case atStart => exact ⟨0, Nat.zero_le _, rfl, rfl, Same.refl _⟩
      case round =>
        obtain ⟨j, hj, rfl, rfl, hS⟩ := hrel
        by_cases hlt : j < docs.length
        · obtain ⟨_, _, e, hcells⟩ := HV3.out
          simp only [Value.slice.injEq, true_and] at e
          obtain ⟨rfl, rfl⟩ := e
          obtain ⟨b, off, rfl, hcell⟩ := hcells j hlt
          have c1 := (hS.cell ⟨b, off + j, none⟩).trans hcell
          have hd := H200.out docs[j] (List.getElem_mem _)
          have hle := foundTo_succ docs x j hlt
          have HLE := Lib.hid hle
          have hat := foundTo_at docs x j hlt
          have HAT := Lib.hid hat
          clear hcell hcells hle hat
          go_wp2_with fail
          refine (has_any docs[j] ⟨x.toArray⟩ wr (by omega) (by simp [ByteArray.size]; omega)).mono ?_
          rintro e w5 ⟨rfl, hS5⟩
          simp only [List.toList_toArray]
          have hS35 := hS.trans hS5
          cases hh : hasW (docs[j]).data.toList x with
          | false =>
            have HE : Hid (foundTo docs x (j + 1) = foundTo docs x j) := Lib.hid (by rw [HLE.out, hh]; simp)
            go_wp2_with fail
            exact ⟨⟨j + 1, by omega, by go_num, by rw [HE.out], hS35⟩, by simp [intOf]; omega⟩
          | true =>
            have hat := HAT.out hh
            have HE : Hid (foundTo docs x (j + 1) = foundTo docs x j ++ [j]) := Lib.hid (by rw [HLE.out, hh]; simp)
            obtain ⟨g, cap', e, hcl⟩ := ownsRow_cell HR3.out (j := (foundTo docs x j).length) (u := intV j) (by rw [List.getElem?_map, hat]; rfl)
            simp only [Value.slice.injEq, true_and] at e
            obtain ⟨rfl, rfl⟩ := e
            have hlen := (List.getElem?_eq_some_iff.1 hat).1
            have c2 : w5.cell? ⟨g, (foundTo docs x j).length, none⟩ = some (.int .i64 j) := (hS35.cell _).trans hcl
            obtain ⟨m, hm⟩ : ∃ m, m = (foundTo docs x j).length := ⟨_, rfl⟩
            rw [← hm] at c2 hlen ⊢
            rw [← HN.out] at hlen
            have HM := Lib.hid hm
            clear hm hat hcl
            have hml : m ≤ 48 := by
              have h1 : (foundTo docs x j).length ≤ j := by unfold foundTo; exact Nat.le_trans (List.length_filter_le _ _) (by simp)
              rw [← HM.out] at h1
              omega
            go_wp2_with fail
            exact ⟨⟨j + 1, by omega, by go_num, by rw [HE.out, List.length_append, ← HM.out]; simp, hS35⟩, by simp [intOf]; omega⟩
        · obtain rfl : j = docs.length := by omega
          rw [← HN.out]
          go_wp2_with fail
          go_ret
          exact ⟨rfl, HB3.out.trans (hS.below _)⟩
end Go.Proofs.Ts
/- A word with one change is within the distance 1 of it; with three letters more it is not within 2; nor is a row of zeros. No program, no run. -/
set_option linter.unusedVariables false
set_option linter.unusedSimpArgs false
set_option linter.unusedSectionVars false
namespace Go.Proofs.Ts
open Go Go.Lib

/-- A word with one change: what (k), where (i). -/
def edit (w : List UInt8) (i k : Nat) : List UInt8 :=
  if k = 0 then w.take i ++ (113 :: w.drop i) else if k = 1 then w.take i ++ w.drop (i + 1) else if k = 2 then w.take i ++ (113 :: w.drop (i + 1))
  else w.take i ++ (w.getD (i + 1) 0 :: w.getD i 0 :: w.drop (i + 2))
def numsOf (w : List UInt8) : List Nat := w.map UInt8.toNat
theorem numsOf_at (w : List UInt8) (j : Nat) : (numsOf w).getD j 0 = bt w j := by
  unfold numsOf bt
  rw [List.getD_eq_getElem?_getD, List.getD_eq_getElem?_getD, List.getElem?_map]
  cases w[j]? <;> rfl
theorem numsOf_length (w : List UInt8) : (numsOf w).length = w.length := by simp [numsOf]
theorem drop_cons' (w : List UInt8) (i : Nat) (h : i < w.length) : w.drop i = w.getD i 0 :: w.drop (i + 1) := by
  rw [List.drop_eq_getElem_cons h, List.getD_eq_getElem?_getD, List.getElem?_eq_getElem h]
  rfl
theorem bt_drop (w : List UInt8) (k i : Nat) : bt (w.drop k) i = bt w (k + i) := by
  unfold bt
  rw [List.getD_eq_getElem?_getD, List.getD_eq_getElem?_getD, List.getElem?_drop]
theorem bt_take (w : List UInt8) (k i : Nat) (h : i < k) : bt (w.take k) i = bt w i := by
  unfold bt
  rw [List.getD_eq_getElem?_getD, List.getD_eq_getElem?_getD, List.getElem?_take_of_lt h]

section
variable {w : List UInt8} (hw : ∀ c ∈ w, 97 ≤ c.toNat ∧ c.toNat ≤ 122) (hl : w.length ≤ 40)
include hw hl
theorem near_edit (i k : Nat) (hi : i + 1 < w.length) : accA (nstep (numsOf w) 1) (nends (numsOf w) 1) nstart (edit w i k) = true := by
  have hN := numsOf_length w
  have h128 : ∀ c ∈ w, c.toNat < 128 := fun c hc => by have := hw c hc; omega
  have ht : (w.take i).length = i := by rw [List.length_take]; omega
  have hq : (113 : UInt8).toNat < 128 := by decide
  have hmem : ∀ j, j < w.length → w.getD j 0 ∈ w := fun j hj => by rw [List.getD_eq_getElem?_getD, List.getElem?_eq_getElem hj]; exact List.getElem_mem hj
  obtain ⟨s, hs, hs0, he⟩ := up_diag (word := numsOf w) (far := 1) (d := 0) (by omega) (by omega) (w.take i) (edit w i k |>.drop i) 0 nstart (up_start (by omega)) (fun c hc => h128 c (List.mem_of_mem_take hc))
    (fun j hj => by rw [numsOf_at, bt_take _ _ _ (by omega), Nat.zero_add]) (by omega) (by
      have e : nstart.now.getD 0 0 = 0 := by decide
      omega)
  rw [ht, Nat.zero_add] at hs0
  have hsplit : edit w i k = w.take i ++ (edit w i k).drop i := by
    have : ∀ y, (w.take i ++ y).drop i = y := fun y => by
      have := List.drop_left' (l₁ := w.take i) (l₂ := y) ht
      exact this
    unfold edit
    repeat' split
    all_goals rw [this]
  rw [hsplit, he]
  have hrest : ∀ y, (w.take i ++ y).drop i = y := fun y => List.drop_left' ht
  have hdrop : ∀ (j : Nat) (t : NS), NUp (numsOf w) t → j ≤ w.length → t.now.getD j 0 ≤ 1 → accA (nstep (numsOf w) 1) (nends (numsOf w) 1) t (w.drop j) = true := fun j t h1 h2 h3 =>
    up_end (d := 1) (by omega) (by omega) (w.drop j) j t h1 (fun c hc => h128 c (List.mem_of_mem_drop hc)) (fun x hx => by rw [numsOf_at, bt_drop]) (by rw [List.length_drop]; omega) h3
  unfold edit
  repeat' split
  · rw [hrest]
    have hc1 : cellN (numsOf w) s.now s.was s.last (113 : UInt8).toNat i ≤ 1 := Nat.le_trans (cell_ins _ _ _ _ _ _) (by omega)
    obtain ⟨a, b⟩ := up_step (far := 1) (by omega) hs 113 hq i (by omega) hc1
    unfold accA
    rw [a]
    exact hdrop i _ (up_next (by omega) hs 113 hq) (by omega) (by omega)
  · rw [hrest]
    have := hs.smooth i (by omega)
    exact hdrop (i + 1) s hs (by omega) (by omega)
  · rw [hrest]
    have hc1 : cellN (numsOf w) s.now s.was s.last (113 : UInt8).toNat (i + 1) ≤ 1 := Nat.le_trans (cell_sub _ _ _ _ _ _) (by omega)
    obtain ⟨a, b⟩ := up_step (far := 1) (by omega) hs 113 hq (i + 1) (by omega) hc1
    unfold accA
    rw [a]
    exact hdrop (i + 1) _ (up_next (by omega) hs 113 hq) (by omega) (by omega)
  · rw [hrest]
    have q1 := h128 _ (hmem (i + 1) hi)
    have q0 := h128 _ (hmem i (by omega))
    have hc1 : cellN (numsOf w) s.now s.was s.last (w.getD (i + 1) 0).toNat (i + 1) ≤ 1 := Nat.le_trans (cell_sub _ _ _ _ _ _) (by omega)
    obtain ⟨a, b⟩ := up_step (far := 1) (by omega) hs _ q1 (i + 1) (by omega) hc1
    have hs1 := up_next (by omega) hs _ q1
    have e1 := nnext_asc (numsOf w) s _ q1 hs.part
    have hc2 : cellN (numsOf w) (nnext (numsOf w) s (w.getD (i + 1) 0)).now (nnext (numsOf w) s (w.getD (i + 1) 0)).was (nnext (numsOf w) s (w.getD (i + 1) 0)).last (w.getD i 0).toNat (i + 2) ≤ 1 := by
      rw [e1]
      simp only
      refine Nat.le_trans (cell_swap _ _ _ _ _ (i + 1) (by omega) ?_ ?_) ?_
      · rw [numsOf_at]; rfl
      · rw [numsOf_at]; rfl
      · simp only [Nat.add_sub_cancel]
        omega
    obtain ⟨a2, b2⟩ := up_step (far := 1) (by omega) hs1 _ q0 (i + 2) (by omega) hc2
    unfold accA
    rw [a]
    simp only
    unfold accA
    rw [a2]
    exact hdrop (i + 2) _ (up_next (by omega) hs1 _ q0) (by omega) (by omega)
end

theorem take_succ_bt (v : List UInt8) (j : Nat) (h : j < v.length) : v.take (j + 1) = v.take j ++ [v.getD j 0] := by
  rw [List.take_succ_eq_append_getElem h, List.getD_eq_getElem?_getD, List.getElem?_eq_getElem h]
  rfl
theorem byte_of_bt {v : List UInt8} {j : Nat} {c : UInt8} (h : bt v j = c.toNat) : v.getD j 0 = c := UInt8.toNat_inj.1 h
theorem cnt_one (a b : UInt8) : List.count a [b] = if b = a then 1 else 0 := by
  rw [List.count_singleton]
  by_cases h : b = a <;> simp [h]

/-- Two lengths and two counts of a letter keep words apart. -/
theorem far_count (v u : List UInt8) (hv : v.length ≤ 40) (hu : ∀ c ∈ u, c.toNat < 128) (q : UInt8) (h : v.length + u.count q ≥ u.length + v.count q + 3) : accA (nstep (numsOf v) 2) (nends (numsOf v) 2) nstart u = false := by
  have hN := numsOf_length v
  rw [Bool.eq_false_iff]
  intro ha
  have := far_off (word := numsOf v) (F := fun p j => (j : Int) - p.length + (p.count q : Nat) - ((v.take j).count q : Nat)) (by omega) ?_ ?_ ?_ ?_ (far := 2) (by omega) u [] nstart (low_start _ (by omega) _ ?_) hu ha
  · rw [List.nil_append, hN, List.take_of_length_le (Nat.le_refl _)] at this
    omega
  · intro p c j hj
    simp only [List.length_append, List.length_singleton, List.count_append, cnt_one]
    split <;> omega
  · intro p j hj
    rw [take_succ_bt _ _ (by omega), List.count_append]
    omega
  · intro p c j hj
    rw [take_succ_bt _ _ (by omega), List.count_append, numsOf_at]
    simp only [List.length_append, List.length_singleton, List.count_append, cnt_one]
    by_cases e : bt v j = c.toNat
    · rw [if_pos e, byte_of_bt e]
      split <;> omega
    · rw [if_neg e]
      split <;> split <;> omega
  · intro p a c j h0 hj h1 h2
    obtain ⟨j, rfl⟩ : ∃ j', j = j' + 1 := ⟨j - 1, by omega⟩
    rw [numsOf_at] at h1 h2
    simp only [Nat.add_sub_cancel] at h2 ⊢
    rw [take_succ_bt _ _ (by omega), take_succ_bt _ _ (by omega), byte_of_bt h1, byte_of_bt h2]
    simp only [List.length_append, List.length_singleton, List.count_append, cnt_one]
    omega
  · intro j hj
    simp
    omega
/-- Letters that the word has not keep words apart. -/
theorem far_strange (v u : List UInt8) (hv : v.length ≤ 40) (hu : ∀ c ∈ u, c.toNat < 128) (z : UInt8) (hz : z ∉ v) (h : 3 ≤ u.count z) : accA (nstep (numsOf v) 2) (nends (numsOf v) 2) nstart u = false := by
  have hN := numsOf_length v
  have hne : ∀ j, j < v.length → v.getD j 0 ≠ z := fun j hj e => hz (by rw [← e, List.getD_eq_getElem?_getD, List.getElem?_eq_getElem hj]; exact List.getElem_mem hj)
  rw [Bool.eq_false_iff]
  intro ha
  have := far_off (word := numsOf v) (F := fun p j => ((p.count z : Nat) : Int)) (by omega) ?_ ?_ ?_ ?_ (far := 2) (by omega) u [] nstart (low_start _ (by omega) _ ?_) hu ha
  · rw [List.nil_append] at this
    omega
  · intro p c j hj
    simp only [List.count_append, cnt_one]
    split <;> omega
  · intro p j hj
    omega
  · intro p c j hj
    simp only [List.count_append, cnt_one, numsOf_at]
    by_cases e : bt v j = c.toNat
    · have := hne j (by omega)
      rw [byte_of_bt e] at this
      rw [if_pos e, if_neg this]
      omega
    · rw [if_neg e]
      split <;> omega
  · intro p a c j h0 hj h1 h2
    rw [numsOf_at] at h1 h2
    have e1 := hne j (by omega)
    have e2 := hne (j - 1) (by omega)
    rw [byte_of_bt h1] at e1
    rw [byte_of_bt h2] at e2
    simp only [List.count_append, cnt_one, if_neg e1, if_neg e2]
    omega
  · intro j hj
    simp

section
variable {w : List UInt8} (hw : ∀ c ∈ w, 97 ≤ c.toNat ∧ c.toNat ≤ 122) (hl : w.length ≤ 37)
include hw hl
theorem edit_asc (i k : Nat) (hi : i + 1 < w.length) : ∀ c ∈ edit w i k, 97 ≤ c.toNat ∧ c.toNat ≤ 122 := by
  have hmem : ∀ j, j < w.length → w.getD j 0 ∈ w := fun j hj => by rw [List.getD_eq_getElem?_getD, List.getElem?_eq_getElem hj]; exact List.getElem_mem hj
  have hq : 97 ≤ (113 : UInt8).toNat ∧ (113 : UInt8).toNat ≤ 122 := by decide
  intro c hc
  unfold edit at hc
  repeat' split at hc
  all_goals simp only [List.mem_append, List.mem_cons] at hc
  · rcases hc with h | rfl | h
    · exact hw c (List.mem_of_mem_take h)
    · exact hq
    · exact hw c (List.mem_of_mem_drop h)
  · rcases hc with h | h
    · exact hw c (List.mem_of_mem_take h)
    · exact hw c (List.mem_of_mem_drop h)
  · rcases hc with h | rfl | h
    · exact hw c (List.mem_of_mem_take h)
    · exact hq
    · exact hw c (List.mem_of_mem_drop h)
  · rcases hc with h | rfl | rfl | h
    · exact hw c (List.mem_of_mem_take h)
    · exact hw _ (hmem _ hi)
    · exact hw _ (hmem _ (by omega))
    · exact hw c (List.mem_of_mem_drop h)
theorem far_edit (i k : Nat) (hi : i + 1 < w.length) : accA (nstep (numsOf (w ++ [120, 121, 122])) 2) (nends (numsOf (w ++ [120, 121, 122])) 2) nstart (edit w i k) = false := by
  refine far_count _ _ (by simp; omega) (fun c hc => by have := edit_asc hw hl i k hi c hc; omega) 113 ?_
  have hx : List.count (113 : UInt8) [120, 121, 122] = 0 := by decide
  have e1 : w = w.take i ++ (w.getD i 0 :: w.drop (i + 1)) := by rw [← drop_cons' w i (by omega), List.take_append_drop]
  have e2 : w.drop (i + 1) = w.getD (i + 1) 0 :: w.drop (i + 2) := drop_cons' w (i + 1) hi
  have c1 : w.count 113 = (w.take i).count 113 + ((if w.getD i 0 = 113 then 1 else 0) + (w.drop (i + 1)).count 113) := by
    conv => lhs; rw [e1]
    rw [List.count_append, show w.getD i 0 :: w.drop (i + 1) = [w.getD i 0] ++ w.drop (i + 1) from rfl, List.count_append, cnt_one]
  have c2 : (w.drop (i + 1)).count 113 = (if w.getD (i + 1) 0 = 113 then 1 else 0) + (w.drop (i + 2)).count 113 := by
    rw [e2, show w.getD (i + 1) 0 :: w.drop (i + 2) = [w.getD (i + 1) 0] ++ w.drop (i + 2) from rfl, List.count_append, cnt_one]
  have c0 : (w.drop i).count 113 = (if w.getD i 0 = 113 then 1 else 0) + (w.drop (i + 1)).count 113 := by
    rw [drop_cons' w i (by omega), show w.getD i 0 :: w.drop (i + 1) = [w.getD i 0] ++ w.drop (i + 1) from rfl, List.count_append, cnt_one]
  have l1 : (w.take i).length = i := by rw [List.length_take]; omega
  rw [List.count_append, hx, List.length_append]
  unfold edit
  repeat' split
  · rw [show (113 : UInt8) :: w.drop i = [113] ++ w.drop i from rfl, List.count_append, List.count_append, cnt_one, if_pos rfl, List.length_append, List.length_append, List.length_drop, l1]
    simp only [List.length_cons, List.length_nil]
    omega
  · rw [List.count_append, List.length_append, List.length_drop, l1]
    simp only [List.length_cons, List.length_nil]
    split at c1 <;> omega
  · rw [show (113 : UInt8) :: w.drop (i + 1) = [113] ++ w.drop (i + 1) from rfl, List.count_append, List.count_append, cnt_one, if_pos rfl, List.length_append, List.length_append, List.length_drop, l1]
    simp only [List.length_cons, List.length_nil]
    split at c1 <;> omega
  · rw [show w.getD (i + 1) 0 :: w.getD i 0 :: w.drop (i + 2) = [w.getD (i + 1) 0] ++ ([w.getD i 0] ++ w.drop (i + 2)) from rfl, List.count_append, List.count_append, List.count_append, cnt_one, cnt_one, List.length_append, List.length_append, List.length_append, List.length_drop, l1]
    simp only [List.length_cons, List.length_nil]
    omega
theorem far_zeros : accA (nstep (numsOf (w ++ [120, 121, 122])) 2) (nends (numsOf (w ++ [120, 121, 122])) 2) nstart (List.replicate 14 48) = false := by
  refine far_strange _ _ (by simp; omega) (fun c hc => ?_) 48 (fun h => ?_) (by decide)
  · rw [List.eq_of_mem_replicate hc]; decide
  · rcases List.mem_append.1 h with h | h
    · have := hw _ h
      revert this
      decide
    · revert h
      decide
end
end Go.Proofs.Ts
/- Plain facts for Changed: the words of its document, the code points of a word of small letters. No program, no run. -/
set_option linter.unusedVariables false
set_option linter.unusedSimpArgs false
namespace Go.Proofs.Ts
open Go Go.Lib

theorem dec_cons (c : UInt8) (t : List UInt8) (h : c.toNat < 128) : dec (c :: t) = (c.toNat, 1) := by
  rw [dec_eq _ (by simp)]
  have e : bt (c :: t) 0 = c.toNat := rfl
  rw [e]
  unfold decodeN
  rw [if_pos h]
theorem valid_asc : ∀ (n : Nat) (l : List UInt8), (∀ c ∈ l, c.toNat < 128) → validGoD n l = true
  | 0, l, _ => rfl
  | n + 1, [], _ => by unfold validGoD; rfl
  | n + 1, c :: t, h => by
    unfold validGoD
    have hd : decodeL (c :: t) = (c.toNat, 1) := by
      have := dec_cons c t (h c (by simp))
      unfold dec decodeGo at this
      rw [if_neg (by simp [ByteArray.size])] at this
      exact this
    have := h c (by simp)
    rw [if_neg (by simp), hd, if_neg (by simp only; omega)]
    exact valid_asc n t fun x hx => h x (by simp [hx])
theorem validD_asc {l : List UInt8} (h : ∀ c ∈ l, c.toNat < 128) : validD l = true := valid_asc _ _ h
theorem runesFrom_asc (s : ByteArray) (h : ∀ c ∈ s.data.toList, c.toNat < 128) : ∀ (n i : Nat) (acc : Array Value), s.size - i ≤ n → Conv.runesFrom s n i acc = acc ++ ((s.data.toList.drop i).map fun (c : UInt8) => Value.int .i32 (c.toNat : Int)).toArray
  | 0, i, acc, hn => by
    have : s.data.toList.drop i = [] := List.eq_nil_of_length_eq_zero (by rw [drop_len]; omega)
    rw [this]
    simp [Conv.runesFrom]
  | n + 1, i, acc, hn => by
    unfold Conv.runesFrom
    by_cases hi : i < s.size
    · have hl : i < s.data.toList.length := by have := drop_len s 0; rw [List.drop_zero] at this; omega
      rw [if_pos hi, decode_drop s i hi, List.drop_eq_getElem_cons hl, dec_cons _ _ (h _ (List.getElem_mem hl))]
      simp only
      rw [runesFrom_asc s h n (i + 1) _ (by omega), Array.push_eq_append, Array.append_assoc]
      congr 1
      simp
    · have : s.data.toList.drop i = [] := List.eq_nil_of_length_eq_zero (by rw [drop_len]; omega)
      rw [if_neg hi, this]
      simp
theorem runesR_asc (w : List UInt8) (h : ∀ c ∈ w, c.toNat < 128) : runesR ⟨w.toArray⟩ = numsOf w := by
  unfold runesR numsOf
  rw [runesFrom_asc ⟨w.toArray⟩ (by simpa using h) _ 0 #[] (by omega)]
  simp [List.map_map, Function.comp_def]

theorem fields_run : ∀ (x rest cur : List UInt8), (∀ c ∈ x, isBlank c = false) → fields (x ++ rest) cur = fields rest (cur ++ x)
  | [], rest, cur, _ => by simp
  | c :: x, rest, cur, h => by
    rw [List.cons_append]
    conv => lhs; unfold fields
    rw [if_neg (by rw [h c (by simp)]; simp), fields_run x rest (cur ++ [c]) fun z hz => h z (by simp [hz])]
    simp
theorem fields_two {x y : List UInt8} (hx : ∀ c ∈ x, isBlank c = false) (hy : ∀ c ∈ y, isBlank c = false) (h1 : x ≠ []) (h2 : y ≠ []) : fields (x ++ 32 :: y) [] = [x, y] := by
  rw [fields_run x _ _ hx, List.nil_append]
  unfold fields
  rw [if_pos (by decide), if_neg h1]
  have := fields_run y [] [] hy
  rw [List.append_nil, List.nil_append] at this
  rw [this]
  unfold fields
  rw [if_neg h2]
theorem small_ch {c : UInt8} (h : 97 ≤ c.toNat ∧ c.toNat ≤ 122) : isBlank c = false ∧ low1 c = c := by
  constructor
  · unfold isBlank
    rw [Bool.eq_false_iff]
    intro e
    simp only [Bool.or_eq_true, beq_iff_eq] at e
    rcases e with (rfl | rfl) | rfl <;> revert h <;> decide
  · unfold low1
    rw [if_neg]
    rintro ⟨_, h2⟩
    have := UInt8.le_iff_toNat_le.1 h2
    have e : (90 : UInt8).toNat = 90 := rfl
    omega
def zeros14 : List UInt8 := List.replicate 14 48
/-- The document's words: the zeros, and the word that is asked about. -/
theorem words_changed {u : List UInt8} (hu : ∀ c ∈ u, 97 ≤ c.toNat ∧ c.toNat ≤ 122) (h1 : u ≠ []) (h2 : u.length ≤ 16) : wordsB ⟨(zeros14 ++ 32 :: u).toArray⟩ = [zeros14, u] := by
  unfold wordsB
  have hl : ∀ l : List UInt8, (∀ c ∈ l, low1 c = c) → lowL l = l := fun l h => by
    unfold lowL
    conv => rhs; rw [← List.map_id l]
    exact List.map_congr_left h
  rw [List.toList_toArray, fields_two (fun c hc => by rw [List.eq_of_mem_replicate hc]; decide) (fun c hc => (small_ch (hu c hc)).1) (by decide) h1]
  simp only [List.map_cons, List.map_nil]
  rw [hl zeros14 (fun c hc => by rw [List.eq_of_mem_replicate hc]; decide), hl u fun c hc => (small_ch (hu c hc)).2]
  rw [List.filter_cons, if_pos (by decide), List.filter_cons, if_pos (by simpa using h2)]
  rfl
theorem docs_yes {u : List UInt8} {D : List (List (List UInt8))} (hD : D = [[zeros14, u]]) {acc : List UInt8 → Bool} (h : acc u = true) : docsOf D acc = [0] := by
  subst hD
  unfold docsOf
  simp [h]
theorem docs_no {u : List UInt8} {D : List (List (List UInt8))} (hD : D = [[zeros14, u]]) {acc : List UInt8 → Bool} (h : acc u = false) (hz : acc zeros14 = false) : docsOf D acc = [] := by
  subst hD
  unfold docsOf
  simp [h, hz]
theorem near_acc {a b : List UInt8} {n : Nat} {st : Int} (ha : a.length ≤ 40) (h128 : ∀ c ∈ a, c.toNat < 128) (hn : n ≤ 2) : accOf ⟨6, a, b, n, st⟩ = some (accA (nstep (numsOf a) n) (nends (numsOf a) n) nstart) := by
  have hs : ByteArray.size ⟨a.toArray⟩ = a.length := by simp [ByteArray.size]
  have hb : nearBad ⟨a.toArray⟩ n = none := by
    unfold nearBad
    rw [if_neg (by omega), if_neg (by omega), if_pos (validD_asc (by simpa using h128))]
  have h61 : ¬ (6 : Int) = 1 := by decide
  have h62 : ¬ (6 : Int) = 2 := by decide
  simp only [accOf, if_pos ha, if_neg h61, if_neg h62, hb, and_self, if_true]
  rw [runesR_asc a h128]
  rfl
end Go.Proofs.Ts
/- The walk of pick. -/
set_option linter.unusedVariables false
set_option linter.unusedSimpArgs false
namespace Go.Proofs.Ts
open Go Go.RowKit

/-- Which of n things the raw number c speaks of. -/
def pickN (c : Int) (n : Nat) : Nat := ((if c < 0 then -(c + 1) else c).toNat) % n
theorem pickN_lt (c : Int) {n : Nat} (hn : 0 < n) : pickN c n < n := Nat.mod_lt _ hn
set_option maxRecDepth 100000 in
theorem pick_any (c : Int) (n : Nat) (w : World) (hc : -9223372036854775808 ≤ c ∧ c ≤ 9223372036854775807) (hn : 0 < n ∧ n ≤ 1000000) :
    Calls Tryz.prog 20 #[.int .i64 c, .int .i64 n] w fun e w' => e = .returned (.int .i64 (pickN c n)) ∧ w' = w := by
  have hn0 : ((n : Int) == 0) = false := by rw [beq_eq_false_iff_ne]; omega
  by_cases h : c < 0
  · have hp : Hid ((pickN c n : Nat) = ((-(c + 1)).toNat) % n) := Lib.hid (by unfold pickN; rw [if_pos h])
    go_enter Tryz.func20, Tryz.ntmps20
    go_wp2_with fail
    go_ret
    refine ⟨ret_int ?_, rfl⟩
    rw [hp.out]
    obtain ⟨m, hm⟩ : ∃ m : Nat, -(c + 1) = (m : Int) := ⟨(-(c + 1)).toNat, by omega⟩
    have hc1 : c + 1 = -(m : Int) := by omega
    rw [hm, hc1, Int.neg_tmod, Int.neg_neg]
    simp
    rw [Int.tmod_eq_emod_of_nonneg (by omega)]
  · have hp : Hid ((pickN c n : Nat) = c.toNat % n) := Lib.hid (by unfold pickN; rw [if_neg h])
    go_enter Tryz.func20, Tryz.ntmps20
    go_wp2_with fail
    go_ret
    refine ⟨ret_int ?_, rfl⟩
    rw [hp.out]
    obtain ⟨m, hm⟩ : ∃ m : Nat, c = (m : Int) := ⟨c.toNat, by omega⟩
    rw [hm]
    simp

end Go.Proofs.Ts
/- The walk of Changed. -/
set_option linter.unusedVariables false
set_option linter.unusedSimpArgs false
namespace Go.Proofs.Ts
open Go Go.RowKit

theorem ba_eq {s : ByteArray} {l : List UInt8} (h : s.data.toList = l) : s = ⟨l.toArray⟩ := by
  cases s
  simp only at h
  subst h
  simp
theorem edit_len {x : List UInt8} {i k : Nat} (hi : i + 1 < x.length) : 1 ≤ (edit x i k).length ∧ (edit x i k).length ≤ x.length + 1 := by
  unfold edit
  repeat' split
  all_goals simp
  all_goals omega

set_option maxRecDepth 100000 in
set_option maxHeartbeats 2000000 in
theorem changed_any (x : List UInt8) (k at' : Int) (w : World) (hT : TabsIn w) (hs : x.length ≤ 9223372036854775807) (hk : -9223372036854775808 ≤ k ∧ k ≤ 9223372036854775807) (ha : -9223372036854775808 ≤ at' ∧ at' ≤ 9223372036854775807) :
    Calls Tryz.prog 7 #[.string ⟨x.toArray⟩, .int .i64 k, .int .i64 at'] w fun e w' => e = .returned (.bool true) ∧ Below w.heap.size w w' := by
  have hsz : ByteArray.size ⟨x.toArray⟩ = x.length := by simp [ByteArray.size]
  have HT := Lib.hid hT
  clear hT
  go_enter Tryz.func7, Tryz.ntmps7
  go_wp2_with fail
  refine (fixed_any w).mono ?_
  rintro e w1 ⟨rfl, hb1⟩
  have HB1 := Lib.hid hb1
  clear hb1
  go_wp2_with fail
  go_loopw [8] (fun i wr => ∃ j : Nat, j ≤ x.length ∧ i = .int .i64 (j : Int) ∧ wr = w1 ∧ Hid (∀ c ∈ x.take j, 97 ≤ c.toNat ∧ c.toNat ≤ 122)) (fun i _ => x.length - (intOf i).toNat)
  case atStart => exact ⟨0, Nat.zero_le _, rfl, rfl, Lib.hid (by simp)⟩
  case round =>
    obtain ⟨j, hj, rfl, rfl, HL⟩ := hrel
    by_cases hjl : j < x.length
    · have hjs : j < ByteArray.size ⟨x.toArray⟩ := by omega
      have hq : (ByteArray.mk x.toArray)[j]'hjs = x[j] := rfl
      have hz : (0 : Int) ≤ (j : Int) ∧ (j : Int) < (x.length : Int) := by omega
      have q1 : IntKind.i64.wrap ((j : Int) + 1) = (j : Int) + 1 := IntWalk.i64_in _ (by omega)
      by_cases hlo : x[j].toNat < 97
      · have g1 : decide ((x[j].toNat : Int) < 97) = true := by simp; omega
        go_wp2_with fail
        go_ret
        exact ⟨rfl, HB1.out⟩
      · have g1 : decide ((x[j].toNat : Int) < 97) = false := by simp; omega
        by_cases hhi : 122 < x[j].toNat
        · have g2 : decide ((122 : Int) < (x[j].toNat : Int)) = true := by simp; omega
          go_wp2_with fail
          go_ret
          exact ⟨rfl, HB1.out⟩
        · have g2 : decide ((122 : Int) < (x[j].toNat : Int)) = false := by simp; omega
          go_wp2_with fail
          go_roundw
          case rel =>
            refine ⟨j + 1, by omega, by go_num, trivial, Lib.hid fun c hc => ?_⟩
            rw [List.take_succ_eq_append_getElem hjl, List.mem_append, List.mem_singleton] at hc
            rcases hc with hc | rfl
            · exact HL.out c hc
            · omega
          case measure => (simp [intOf]) <;> omega
    · obtain rfl : j = x.length := by omega
      have hsm : Hid (∀ c ∈ x, 97 ≤ c.toNat ∧ c.toNat ≤ 122) := Lib.hid (by have := HL.out; rwa [List.take_of_length_le (Nat.le_refl _)] at this)
      clear HL
      by_cases h2 : x.length < 2
      · have g1 : decide ((x.length : Int) < 2) = true := by simp; omega
        go_wp2_with fail
        go_ret
        exact ⟨rfl, HB1.out⟩
      · have g1 : decide ((x.length : Int) < 2) = false := by simp; omega
        by_cases h16 : 16 ≤ x.length
        · have g2 : decide ((16 : Int) ≤ (x.length : Int)) = true := by simp; omega
          go_wp2_with fail
          go_ret
          exact ⟨rfl, HB1.out⟩
        · have g2 : decide ((16 : Int) ≤ (x.length : Int)) = false := by simp; omega
          obtain ⟨m, hm⟩ : ∃ m, x.length = m + 1 := ⟨x.length - 1, by omega⟩
          have q1 : IntKind.i64.wrap ((x.length : Int) - 1) = (m : Int) := by rw [IntWalk.i64_in _ (by omega)]; omega
          have hp1 := pick_any at' m wr ha ⟨by omega, by omega⟩
          have hp2 := pick_any k 4 wr hk ⟨by omega, by omega⟩
          have hi := pickN_lt at' (n := m) (by omega)
          have hk4 := pickN_lt k (n := 4) (by omega)
          generalize pickN at' m = i at *
          generalize pickN k 4 = kk at *
          have HP1 := Lib.hid hp1
          have HP2 := Lib.hid hp2
          clear hp1 hp2
          go_upto_region 12 with (go_at_call 20; refine HP1.out.mono ?_; rintro e w2 ⟨rfl, rfl⟩)
          go_upto_block 2 with (go_at_call 20; refine HP2.out.mono ?_; rintro e w2 ⟨rfl, rfl⟩)
          go_cut [10] (fun t wy => t = .string ⟨(edit x i kk).toArray⟩ ∧ Same w2 wy)
          case first =>
            have hz : (0 : Int) ≤ (i : Int) ∧ (i : Int) ≤ (x.length : Int) := by omega
            have q2 : IntKind.i64.wrap ((i : Int) + 1) = (i : Int) + 1 := IntWalk.i64_in _ (by omega)
            have q3 : IntKind.i64.wrap ((i : Int) + 2) = (i : Int) + 2 := IntWalk.i64_in _ (by omega)
            have hz2 : (0 : Int) ≤ (i : Int) + 1 ∧ (i : Int) + 1 ≤ (x.length : Int) := by omega
            have hz3 : (0 : Int) ≤ (i : Int) + 2 ∧ (i : Int) + 2 ≤ (x.length : Int) := by omega
            rcases (by omega : kk = 0 ∨ kk = 1 ∨ kk = 2 ∨ kk = 3) with rfl | rfl | rfl | rfl
            all_goals go_wp2_with fail
            all_goals go_quiet (fail)
            all_goals go_wp2_with fail
            all_goals go_meet
            all_goals refine ⟨congrArg Value.string (ba_eq ?_), Same.drewN _ _⟩
            all_goals simp [edit, ByteArray.data_append, hm]
            · exact List.take_of_length_le (by rw [List.length_drop]; omega)
            · exact List.take_of_length_le (by rw [List.length_drop]; omega)
            · exact List.take_of_length_le (by rw [List.length_drop]; omega)
            · rw [List.take_of_length_le (i := m - (i + 1)) (by rw [List.length_drop]; omega), drop_cons' x i (by omega), drop_cons' x (i + 1) (by omega)]
              simp
          case rest =>
          obtain ⟨rfl, hS⟩ := hcut
          obtain ⟨u, hu⟩ : ∃ u, u = edit x i kk := ⟨_, rfl⟩
          have hul := edit_len (k := kk) (i := i) (x := x) (by omega)
          have hua := edit_asc hsm.out (by omega) i kk (by omega)
          have hnear := near_edit hsm.out (by omega) i kk (by omega)
          have hfar := far_edit hsm.out (by omega) i kk (by omega)
          have hfz := far_zeros hsm.out (by omega)
          rw [← hu] at hul hua hnear hfar ⊢
          have HUA := Lib.hid hua
          have HNEAR := Lib.hid hnear
          have HFAR := Lib.hid hfar
          have HFZ := Lib.hid hfz
          have HBC : Hid (Below w.heap.size w wc) := Lib.hid (HB1.out.trans (hS.below _))
          clear hu hua hnear hfar hfz HP1 HP2 hS HB1
          go_upto_region 22 with fail
          have hdoc : ((ByteArray.mk #[48, 48, 48, 48, 48, 48, 48, 48, 48, 48, 48, 48, 48, 48, 32]) ++ ⟨u.toArray⟩) = ⟨(zeros14 ++ 32 :: u).toArray⟩ := ba_eq (by simp [ByteArray.data_append, zeros14])
          rw [hdoc]
          have hst : StrsIs (wc.alloc (.cells #[.string ⟨(zeros14 ++ 32 :: u).toArray⟩] 9)) (.slice (some ⟨wc.heap.size, 0, none⟩) 1 1) [⟨(zeros14 ++ 32 :: u).toArray⟩] := by
            refine ⟨_, _, rfl, fun i hi => ⟨_, _, rfl, ?_⟩⟩
            obtain rfl : i = 0 := by simpa using hi
            rw [Nat.zero_add, cell_block (heap_alloc_new wc _)]
            rfl
          have hwords : [(ByteArray.mk (zeros14 ++ 32 :: u).toArray)].map wordsB = [[zeros14, u]] := by
            rw [List.map_cons, List.map_nil, words_changed HUA.out (List.length_pos_iff.1 (by omega)) (by omega)]
          have hal : Below wc.heap.size wc (wc.alloc (.cells #[.string ⟨(zeros14 ++ 32 :: u).toArray⟩] 9)) := (Below.refl _ wc).alloc (Nat.le_refl _) _
          generalize wc.alloc (.cells #[.string ⟨(zeros14 ++ 32 :: u).toArray⟩] 9) = w5 at *
          have HB5 : Hid (Below w.heap.size w w5) := Lib.hid (HBC.out.trans (hal.mono HBC.out.size))
          refine (plainBuild_any [⟨(zeros14 ++ 32 :: u).toArray⟩] _ w5 hst (by simp) (fun d hd => by
            obtain rfl := List.mem_singleton.1 hd
            simp [ByteArray.size, zeros14]
            omega)).mono ?_
          rintro e w6 ⟨sb, rfl, hb6, hs6⟩
          rw [hwords] at hs6
          have HB6 : Hid (Below w.heap.size w w6) := Lib.hid (HB5.out.trans (hb6.mono HB5.out.size))
          have HS6 := Lib.hid hs6
          have h56 := hb6.size
          clear hdoc hst hwords hal hb6 hs6 HBC
          unfold ptrV
          go_upto_region 24 with fail
          have hx128 : ∀ c ∈ x, c.toNat < 128 := fun c hc => by have := hsm.out c hc; omega
          have hq1 := ask_any w5.heap.size 6 1 x [] _ sb [[zeros14, u]] w6 h56 HS6.out (by simp) (compile_six (by omega) (HT.out.below HB6.out)) (near_acc (n := 1) (by omega) hx128 (by omega))
          rw [docs_yes rfl HNEAR.out] at hq1
          unfold ptrV strV at hq1
          have HQ1 := Lib.hid hq1
          clear hq1
          go_upto_region 25 with (go_at_call 14; refine HQ1.out.mono ?_; rintro e w7 ⟨o1, rfl, hs7, hb7, hc7, hr7⟩)
          obtain ⟨g1, cap1, rfl⟩ := ownsRow_head (n := 0) hr7
          have hcat : ((ByteArray.mk x.toArray) ++ ⟨#[120, 121, 122]⟩) = ⟨(x ++ [120, 121, 122]).toArray⟩ := ba_eq (by simp [ByteArray.data_append])
          have HB7 : Hid (Below w.heap.size w w7) := Lib.hid (HB6.out.trans (hb7.mono (by have := HB5.out.size; omega)))
          have HS7 := Lib.hid hs7
          have HR7 := Lib.hid hr7
          have h57 := hb7.size
          have hxl : (x ++ [120, 121, 122]).length = x.length + 3 := by simp
          have hq2 := ask_any w5.heap.size 6 2 (x ++ [120, 121, 122]) [] _ sb [[zeros14, u]] w7 (by omega) HS7.out (by simp) (compile_six (by omega) (HT.out.below HB7.out)) (near_acc (n := 2) (by omega) (fun c hc => by
            rcases List.mem_append.1 hc with hc | hc
            · exact hx128 c hc
            · simp only [List.mem_cons, List.not_mem_nil, or_false] at hc
              rcases hc with rfl | rfl | rfl <;> decide) (by omega))
          rw [docs_no rfl HFAR.out HFZ.out] at hq2
          unfold ptrV strV at hq2
          have HQ2 := Lib.hid hq2
          clear hq2 hs7 hb7 hc7 hr7 hxl
          go_upto_region 26 with (go_at_call 14; refine HQ2.out.mono ?_; rintro e w8 ⟨o2, rfl, hs8, hb8, hc8, hr8⟩)
          obtain ⟨oa, oc, rfl⟩ := ownsRow_form hr8
          have hr7' : w8.ownsRow 0 3 1 (.slice (some ⟨g1, 0, none⟩) 1 cap1) 1 [intV 0] := ownsRow_typed HR7.out fun k cs r hk => hc8.2 k cs _ r hk (by decide)
          have a0 : w8.cell? ⟨g1, 0, none⟩ = some (.int .i64 0) := hr7'.cells (g := g1) rfl 0 _ rfl
          have HB8 : Hid (Below w.heap.size w w8) := Lib.hid (HB7.out.trans (hb8.mono (by have := HB5.out.size; omega)))
          clear hs8 hb8 hc8 hr8 hr7'
          go_wp2_with fail
          go_ret
          exact ⟨rfl, HB8.out⟩
end Go.Proofs.Ts
/- What the cards of this seat share: the world of the witness, and how a list of documents is read. -/
set_option linter.unusedVariables false
set_option linter.unusedSimpArgs false
namespace Go.Proofs.YtglafkgakcfahaaGreatDoor.card
open Go Go.ChangeShapes Go.WideShapes Go.ChangeAt Go.RowKit

theorem own : ownKnob Tryz.prog.godebug = none := by kernel_rfl
theorem laidOut : laidOutB Tryz.prog = true := by kernel_rfl
theorem cellsS : Tryz.prog.cellsOf 9 = 1 := by kernel_rfl

def litV : DataW Unit → Value
  | .lit (.int k n) => .int k n
  | _ => .nilIface
def rowV : DataW Unit → List Value
  | .agg l => l.map litV
  | _ => []
def rowsV : DataW Unit → List Value
  | .agg l => l.flatMap rowV
  | _ => []

/-- A world for the witness: the settled one, the listed variables' cells laid. -/
noncomputable def laidWorld (os : Os) : World :=
  let w0 := World.holding Tryz.prog os ⟨#[], #[], []⟩
  let h1 := w0.heap.modify 0 fun
      | .cells _ t frozen => .cells #[.iface 222 (.agg #[typeHandle Tryz.prog 69])] t frozen
      | o => o
  let h2 := h1.modify 4 fun
      | .cells _ t frozen => .cells (rowV Rows.laid_math_bits_deBruijn64tab).toArray t frozen
      | o => o
  let h3 := h2.modify 3 fun
      | .cells _ t frozen => .cells (rowsV Rows.laid_unicode_utf8_acceptRanges).toArray t frozen
      | o => o
  let h4 := h3.modify 2 fun
      | .cells _ t frozen => .cells (rowV Rows.laid_unicode_utf8_first).toArray t frozen
      | o => o
  { w0 with heap := h4 }
theorem laid_met (os : Os) (args : Array Value) : laidMetH Tryz.prog Rows.foundRow.laid ((laidWorld os).forCall (fun _ _ => 0) ⟨#[], args, []⟩).memory :=
  laidMetH_of_parts (laidMet_of_run' 8 (by kernel_rfl) (by kernel_rfl)) (by kernel_rfl)

/-- A slice of strings that can be read is a list of documents. -/
theorem strs_is {W : World} {base : Nat} {spare : Nat → Bool} {held : Bool} {H : Type} {enc : TypeId × Value → H} {a0 : Option Addr} {len cap : Nat} {d : DataW H} {p : List MemPlace} (h : DataW.Trod enc Tryz.prog W base spare held 22 (.slice a0 len cap) d p) :
    ∃ docs : List ByteArray, Ts.StrsIs W (.slice a0 len cap) docs ∧ docs.length ≤ maxLen := by
  obtain ⟨fuel, h⟩ := h
  rcases open_strings Tryz.underlying22 Tryz.underlying9 cellsS h with ⟨hv, _⟩ | ⟨a, len', cap', ss, hv, _, hl, hc, hlen, _, hcell, _⟩
  · simp [Value.cells] at hv
    obtain ⟨rfl, rfl, rfl⟩ := hv
    exact ⟨[], ⟨none, 0, rfl, fun i hi => absurd hi (Nat.not_lt_zero i)⟩, Nat.zero_le _⟩
  · simp [Value.cells] at hv
    obtain ⟨rfl, rfl, rfl⟩ := hv
    have hle : len ≤ ss.length := by rw [hlen]; split <;> omega
    refine ⟨ss.take len, ⟨some a, cap, by rw [List.length_take, Nat.min_eq_left hle], fun i hi => ?_⟩, by rw [List.length_take]; omega⟩
    rw [List.length_take] at hi
    have hc := hcell i (by omega)
    obtain ⟨b, off, spot⟩ := a
    have hs : spot = none := by simpa [Addr.add] using World.cell?_spot (hcell 0 (by omega))
    subst hs
    refine ⟨b, off, rfl, ?_⟩
    have he : (ss.take len)[i]'(by rw [List.length_take]; omega) = ss.getD i ByteArray.empty := by
      rw [List.getElem_take, List.getD_eq_getElem?_getD, List.getElem?_eq_getElem (by omega)]
      rfl
    rw [he, ← hc]
    by_cases h0 : i = 0
    · subst h0; simp [Addr.add]
    · simp [Addr.add, h0]
end Go.Proofs.YtglafkgakcfahaaGreatDoor.card
/- What the cards of this seat share: the tables of utf8 as the laid variables hold them. -/
set_option linter.unusedVariables false
set_option linter.unusedSimpArgs false
namespace Go.Proofs.YtglafkgakcfahaaGreatDoor.card
open Go Go.ChangeShapes Go.WideShapes Go.ChangeAt Go.RowKit

theorem shaped_block {W : World} (hS : W.ShapedOpen Tryz.prog) {g : Nat} {zero : Array Value} {t : TypeId} (hg : g < Tryz.prog.globals.size) (h : ((begin Tryz.prog (fun _ _ => 0) default).world.heap[g]?).bind Obj.row? = some (zero, t)) : ∃ cs, W.heap[g]? = some (.cells cs t (0, 0)) := by
  obtain ⟨cs, h1, _⟩ := hS.1 g zero t hg h
  exact ⟨cs, h1⟩
theorem row_type {P : Program} {g : Nat} {t : TypeId} (h : (((begin P (fun _ _ => 0) default).world.heap[g]?).bind Obj.row?).map (·.2) = some t) : ∃ zero, ((begin P (fun _ _ => 0) default).world.heap[g]?).bind Obj.row? = some (zero, t) := by
  cases e : ((begin P (fun _ _ => 0) default).world.heap[g]?).bind Obj.row? with
  | none => rw [e] at h; cases h
  | some r => rw [e] at h; exact ⟨r.1, by rw [← Option.some.inj h]⟩
theorem accept_data : (Rows.laid_unicode_utf8_acceptRanges : DataW Unit) = Go.Lib.acceptData := by kernel_rfl
set_option maxRecDepth 100000 in
theorem tabs_in {W : World} {l : List (String × DataW Unit)} (hL : laidMetH Tryz.prog l W) (hS : W.ShapedOpen Tryz.prog) (h1 : ("unicode/utf8.first", (Rows.laid_unicode_utf8_first : DataW Unit)) ∈ l.filter fun x => x.2.handleName?.isNone) (h2 : ("unicode/utf8.acceptRanges", (Rows.laid_unicode_utf8_acceptRanges : DataW Unit)) ∈ l.filter fun x => x.2.handleName?.isNone) : Ts.TabsIn W := by
  have hm := (laidMetH_iff.1 hL).1
  obtain ⟨z1, e1⟩ := row_type (P := Tryz.prog) (g := 2) (t := 294) (by kernel_rfl)
  obtain ⟨z2, e2⟩ := row_type (P := Tryz.prog) (g := 3) (t := 297) (by kernel_rfl)
  refine ⟨shaped_block hS (of_decide_eq_true (by kernel_rfl)) e1, shaped_block hS (of_decide_eq_true (by kernel_rfl)) e2, ?_⟩
  have r1 := Go.Lib.laidMet.reads hm h1
  have r2 := Go.Lib.laidMet.reads hm h2
  rw [accept_data] at r2
  rw [show (Rows.laid_unicode_utf8_first : DataW Unit) = Go.Lib.firstData from Pinned.utf8First_eq] at r1
  exact utf8Tabs_of_readsT (ρ := Tryz.lays196_ren) (U8Types.of196 Tryz.lays196) ⟨by kernel_rfl, by kernel_rfl, by kernel_rfl, by kernel_rfl, by kernel_rfl, by kernel_rfl, by kernel_rfl⟩ r1 r2
end Go.Proofs.YtglafkgakcfahaaGreatDoor.card
