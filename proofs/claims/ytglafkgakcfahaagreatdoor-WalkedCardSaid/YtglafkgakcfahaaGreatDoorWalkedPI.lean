/- Lemmas towards the statement Walked of termsearch: walks of the program's functions and plain laws on lists (TsAsk, TsPlainA, TsPlain, TsFixed, TsMatch, TsMatches, TsOrdY, TsLoopF, TsAllA). Conditions: those that each theorem names. -/
import Derived.Test.YtglafkgakcfahaaGreatDoorWalkedPH
import Derived.Test.YtglafkgakcfahaaGreatDoorWalkedPG
import Derived.Test.YtglafkgakcfahaaGreatDoorWalkedPF
import Derived.RangeFuncNested
import Derived.RangeFuncLeaves
/- The walks of plain.Search and of ask. -/
set_option linter.unusedVariables false
set_option linter.unusedSimpArgs false
namespace Go.Proofs.Ts
open Go Go.RowKit

/-- A segment that is asked: beyond block B, with what is known. -/
def Seg (B : Nat) (w : World) (sb : Nat) (D : List (List (List UInt8))) : Prop := B ≤ sb ∧ ∃ kn, SegIs w sb D kn ∧ KnownIs B w kn
theorem Seg.below {B : Nat} {w w' : World} {sb : Nat} {D : List (List (List UInt8))} (h : Seg B w sb D) (hb : Below w.heap.size w w') : Seg B w' sb D := by
  obtain ⟨h1, kn, h2, h3⟩ := h
  obtain ⟨db, R, Λ, ρ, Dd, pv, ps, hat⟩ := h2.at
  exact ⟨h1, kn, (hat.below hb).is, h3.below hb⟩

set_option maxRecDepth 100000 in
set_option maxHeartbeats 2000000 in
theorem plainSearch_any (B : Nat) (q : Asked) (acc : List UInt8 → Bool) (most sb : Nat) (D : List (List (List UInt8))) (w : World)
    (hB : B ≤ w.heap.size) (hseg : Seg B w sb D) (hD : D.length ≤ 1000) (st : Nat) (hst : q.states = st) (hst1 : 1 ≤ st ∧ st ≤ 400) (hmost : most ≤ 2000000) (hcomp : CompileOk q) (hacc : accOf q = some acc) (hfew : Few D acc most) :
    Calls Tryz.prog 17 #[ptrV sb, askV q, .int .i64 st, .int .i64 most] w fun e w' => ∃ ov, e = .returned (.tuple #[ov, .int .i64 0, .int .i64 (-1)]) ∧ Seg B w' sb D ∧ Below B w w' ∧ Cells w w' ∧
      w'.ownsRow 0 3 1 ov (docsOf D acc).length ((docsOf D acc).map intV) := by
  have HS := Lib.hid hseg
  have HFEW := Lib.hid hfew
  clear hseg hfew
  unfold ptrV askV strV
  go_enter Tryz.func17, Tryz.ntmps17
  go_wp2_with fail
  have hal : Below w.heap.size w (w.alloc (.cells #[.int .i64 q.kind, .string ⟨q.a.toArray⟩, .string ⟨q.b.toArray⟩, .int .i64 q.n] 37)) := (Below.refl _ w).alloc (Nat.le_refl _) _
  have HAL := Lib.hid hal
  clear hal
  generalize (w.alloc (.cells #[.int .i64 q.kind, .string ⟨q.a.toArray⟩, .string ⟨q.b.toArray⟩, .int .i64 q.n] 37)) = w2 at *
  obtain ⟨hsb, kn, hs2, hk2⟩ := HS.out.below HAL.out
  have hs := search_any B q acc most sb D kn w2 (Nat.le_trans hB HAL.out.size) hsb hs2 hk2 hD st hst hst1 hmost hcomp hacc HFEW.out
  unfold ptrV askV strV at hs
  refine hs.mono ?_
  clear hs hs2 hk2
  rintro e w3 ⟨ov, kn', rfl, hs3, hk3, hb3, hc3, hrow3⟩
  have HC3 := Lib.hid hc3
  have HS3 : Hid (Seg B w3 sb D) := Lib.hid ⟨hsb, kn', hs3, hk3⟩
  have HB3 := Lib.hid hb3
  have HR3 := Lib.hid hrow3
  clear hs3 hk3 hb3 hrow3
  go_wp2_with fail
  refine (told_nil w3).mono ?_
  rintro e w4 ⟨rfl, hb4⟩
  have HB4 := Lib.hid hb4
  clear hb4
  go_wp2_with fail
  go_ret3
  refine ⟨ov, rfl, HS3.out.below HB4.out, ((HAL.out.mono hB).trans HB3.out).trans (HB4.out.mono (by have := HAL.out.size; have := HB3.out.size; omega)), ((Cells.below HAL.out).trans HC3.out).trans (Cells.below HB4.out), ownsRow_block HR3.out fun k e => HB4.out.block k (HR3.out.lt k e).2⟩

set_option maxRecDepth 100000 in
set_option maxHeartbeats 2000000 in
theorem ask_any (B : Nat) (kind n : Int) (a b : List UInt8) (acc : List UInt8 → Bool) (sb : Nat) (D : List (List (List UInt8))) (w : World)
    (hB : B ≤ w.heap.size) (hseg : Seg B w sb D) (hD : D.length ≤ 1000) (hcomp : CompileOk ⟨kind, a, b, n, 400⟩) (hacc : accOf ⟨kind, a, b, n, 400⟩ = some acc) :
    Calls Tryz.prog 14 #[ptrV sb, .int .i64 kind, strV a, strV b, .int .i64 n] w fun e w' => ∃ ov, e = .returned (.tuple #[ov, .bool true]) ∧ Seg B w' sb D ∧ Below B w w' ∧ Cells w w' ∧
      w'.ownsRow 0 3 1 ov (docsOf D acc).length ((docsOf D acc).map intV) := by
  have HS := Lib.hid hseg
  clear hseg
  unfold ptrV strV
  go_enter Tryz.func14, Tryz.ntmps14
  go_wp2_with fail
  have hs := plainSearch_any B ⟨kind, a, b, n, 400⟩ acc 1048576 sb D w hB HS.out hD 400 rfl (by omega) (by omega) hcomp hacc (Few.great _ _ (by omega))
  unfold ptrV askV strV at hs
  refine hs.mono ?_
  clear hs
  rintro e w3 ⟨ov, rfl, hs3, hb3, hc3, hrow3⟩
  have HC3 := Lib.hid hc3
  have HS3 := Lib.hid hs3
  have HB3 := Lib.hid hb3
  have HR3 := Lib.hid hrow3
  clear hs3 hb3 hrow3
  go_wp2_with fail
  go_ret2
  exact ⟨ov, rfl, HS3.out, HB3.out, HC3.out, HR3.out⟩
end Go.Proofs.Ts
/- append of a whole slice onto nothing; a segment stands where only strings turn. -/
set_option linter.unusedVariables false
set_option linter.unusedSimpArgs false
namespace Go.Proofs.Ts
open Go Go.RowKit

section
variable {P : Program} {w : World}
theorem run_append_none (t ty e : TypeId) (i : TypeInfo) (ht : P.underlying t = some (.slice e)) (hi : P.info? e = some i) (a : Option Addr) (c : Nat) :
    (Builtin.append_ #[t, t] ty #[.slice none 0 0, .slice a 0 c]).run P w = .ok (.slice none 0 0) w := by
  cases a <;> simp [Builtin.append_, run_underlying ht, sizeOf, typeInfo, hi, Builtin.lenOf, Builtin.firstCells, loadCells, loadCellsFrom]
theorem run_append_copy (t ty e : TypeId) (i : TypeInfo) (z : Value) (size bytes : Nat) (ht : P.underlying t = some (.slice e)) (hi : P.info? e = some i) (hz : i.zero = some z)
    (hsize : i.size = size) (hby : i.bytes = bytes) (hzs : z.cells.size = size) (hsz : 0 < size)
    (a : Option Addr) (m c : Nat) (news : List Value) (hl : news.length = m * size) (hnews : ∀ j u, news[j]? = some u → ∃ b, a = some b ∧ w.cell? (b.add j) = some u) (h1 : ∀ u ∈ news, u.oneCell' = true)
    (h63 : m ≤ maxLen) (hbytes : m * bytes ≤ 140737488355328) :
    ∃ v' w', (Builtin.append_ #[t, t] ty #[.slice none 0 0, .slice a m c]).run P w = .ok v' w' ∧ w'.ownsRow 0 e size v' m news ∧ Below w.heap.size w w' ∧ Past w.heap.size v' := by
  cases m with
  | zero =>
    have hn : news = [] := List.eq_nil_of_length_eq_zero (by simpa using hl)
    subst hn
    exact ⟨_, _, run_append_none t ty e i ht hi a c, World.ownsRow_nil _ _ _ _, Below.refl _ _, fun k e => by cases e⟩
  | succ m =>
    obtain ⟨u, hu⟩ : ∃ u, news[0]? = some u := ⟨_, List.getElem?_eq_getElem (by rw [hl]; exact Nat.mul_pos (Nat.succ_pos _) hsz)⟩
    obtain ⟨b, rfl, _⟩ := hnews 0 u hu
    obtain ⟨v', w', hr, h2, h3, h4⟩ := run_append_lies (P := P) t ty e i z size bytes ht hi hz hsize hby hzs hsz (.slice none 0 0) 0 [] (World.ownsRow_nil _ _ _ _) b (m + 1) c news hl
      (fun j u hj => by obtain ⟨b', e', h'⟩ := hnews j u hj; cases e'; exact h') h1 (Nat.succ_pos _) (by omega) (by rw [Nat.zero_add]; exact hbytes)
    rw [Nat.zero_add, List.nil_append] at h2
    refine ⟨v', w', hr, h2, (Below.refl _ w).grown h3 (Nat.le_refl _) (fun k e => by cases e), fun k hk => ?_⟩
    rcases h4 with ⟨h5, _⟩ | ⟨h5, _⟩
    · rw [hk] at h5; cases h5
    · rw [hk] at h5; cases h5; exact Nat.le_refl _
theorem wpList_append_copy {ops : Array Oper} {rest : List Oper} {o : Oper} {act : Act} {Q : Exit → Act → World → Prop} (hgd : o.guard = none) (s x : Operand) (t : TypeId)
    (ho : o.op = .call { callee := .builtin .append, args := #[s, x], argTypes := #[t, t] })
    (e : TypeId) (i : TypeInfo) (z : Value) (size bytes : Nat) (ht : P.underlying t = some (.slice e)) (hi : P.info? e = some i) (hz : i.zero = some z)
    (hsize : i.size = size) (hby : i.bytes = bytes) (hzs : z.cells.size = size) (hsz : 0 < size) (hs : act.eval s = .slice none 0 0)
    (a : Option Addr) (m c : Nat) (news : List Value) (hx : act.eval x = .slice a m c) (hl : news.length = m * size) (hnews : ∀ j u, news[j]? = some u → ∃ b, a = some b ∧ w.cell? (b.add j) = some u) (h1 : ∀ u ∈ news, u.oneCell' = true)
    (h63 : m ≤ maxLen) (hbytes : m * bytes ≤ 140737488355328)
    (h : ∀ v' w', w'.ownsRow 0 e size v' m news → Below w.heap.size w w' → Past w.heap.size v' → wpList P ops Q rest (act.put o.dst v') w') : wpList P ops Q (o :: rest) act w := by
  refine wpList_plain hgd fun K hK => ?_
  obtain ⟨v', w', hr, h2, h3, h4⟩ := run_append_copy (P := P) t o.type e i z size bytes ht hi hz hsize hby hzs hsz a m c news hl hnews h1 h63 hbytes
  unfold Oper.wp execOp
  simp only [ho, resolve, invoke, builtin, Sem.run_bind, Sem.run_pure, Result.andThen_ok, List.map_toArray, List.map_cons, List.map_nil, hs, hx, hr]
  exact hK _ _ (h v' w' h2 h3 h4)
end

section
variable {w w' : World}
theorem RowsIn.strKept {B : Nat} {V : Value} {D : List DS} (h : RowsIn B w V D) (hk : ∀ (k : Nat) cs t r, w.heap[k]? = some (.cells cs t r) → t ≠ 9 → w'.heap[k]? = w.heap[k]?) : RowsIn B w' V D := by
  have go : ∀ {e size n : Nat} {v : Value} {xs : List Value}, e ≠ 9 → w.ownsRow 0 e size v n xs → w'.ownsRow 0 e size v n xs := fun he hr => ownsRow_typed hr fun k cs r hk' => hk _ _ _ _ hk' he
  exact ⟨go (by decide) h.row, h.past, fun i s hi => go (by decide) (h.erow i s hi), h.epast, h.apart, h.apartV⟩
theorem DictIs.strKept {db : Nat} {R : Nat → Prop} {Λ : Nat → List Word} {ρ : Nat → Nat} {D : List DS} (h : DictIs w db R Λ ρ D) (hk : ∀ (k : Nat) cs t r, w.heap[k]? = some (.cells cs t r) → t ≠ 9 → w'.heap[k]? = w.heap[k]?) : DictIs w' db R Λ ρ D := by
  obtain ⟨V, h1, h2⟩ := h.mem
  exact ⟨⟨V, (hk _ _ _ _ h1 (by decide)).trans h1, h2.strKept hk⟩, h.root, h.state⟩
theorem SegIs.strKept {sb : Nat} {D : List (List (List UInt8))} {kn : Value} (h : SegIs w sb D kn) (hk : ∀ (k : Nat) cs t r, w.heap[k]? = some (.cells cs t r) → t ≠ 9 → w'.heap[k]? = w.heap[k]?) : SegIs w' sb D kn := by
  obtain ⟨db, R, Λ, ρ, Dd, pv, ps, h1, h2, h3, h4, h5, h6, h7, h8⟩ := h.ex
  exact ⟨db, R, Λ, ρ, Dd, pv, ps, (hk _ _ _ _ h1 (by decide)).trans h1, h2.strKept hk, h3, h4, h5, h6, ownsRow_typed h7 fun k cs r hk' => hk _ _ _ _ hk' (by decide), fun i v x hv hx => ownsRow_typed (h8 i v x hv hx) fun k cs r hk' => hk _ _ _ _ hk' (by decide)⟩
end
end Go.Proofs.Ts
/- The walk of plain.Build: of few, short documents; the copy is turned behind it. -/
set_option linter.unusedVariables false
set_option linter.unusedSimpArgs false
namespace Go.Proofs.Ts
open Go Go.RowKit

/-- The copy, turned up to k: it lies in a block of its own; the rest of it reads as the documents. -/
def Own (ov : Value) (docs : List ByteArray) (w1 : World) (k : Nat) (w : World) : Prop :=
  Mod (fun b => ov.ownBlock = some b) w1 w ∧ ∀ og, ov.ownBlock = some og → ∃ cur : Array Value, w.heap[og]? = some (.cells cur 9 (0, 0)) ∧ ∀ j (h : j < docs.length), k ≤ j → cur[j]? = some (.string docs[j])
theorem Own.step {ov : Value} {docs : List ByteArray} {w1 w : World} {k og : Nat} {v : Value} (h : Own ov docs w1 k w) (ho : ov.ownBlock = some og) : Own ov docs w1 (k + 1) (w.setCell ⟨og, k, none⟩ v) := by
  obtain ⟨h1, h2⟩ := h
  refine ⟨h1.trans (Mod.setCell w ⟨og, k, none⟩ v fun _ => ho), fun og' ho' => ?_⟩
  obtain rfl : og = og' := Option.some.inj (ho.symm.trans ho')
  obtain ⟨cur, h3, h4⟩ := h2 og ho
  refine ⟨_, heap_setCell_same w og k _ _ _ h3, fun j hj hk => ?_⟩
  rw [Array.getElem?_setIfInBounds_ne (by omega)]
  exact h4 j hj (by omega)
theorem Own.same {ov : Value} {docs : List ByteArray} {w1 w w' : World} {k : Nat} (h : Own ov docs w1 k w) (hs : Same w w') : Own ov docs w1 k w' := by
  obtain ⟨n, rfl⟩ := hs
  exact ⟨h.1.trans (Mod.same (Same.drewN w n)), h.2⟩
theorem ownsRow_strs {w : World} {ov : Value} {docs : List ByteArray} (h : w.ownsRow 0 9 1 ov docs.length (docs.map Value.string)) : StrsIs w ov docs := by
  obtain ⟨a, cap, rfl⟩ := ownsRow_form h
  refine ⟨a, cap, rfl, fun i hi => ?_⟩
  obtain ⟨g, cap', e, hc⟩ := ownsRow_cell h (j := i) (u := .string docs[i]) (by simp [hi])
  simp only [Value.slice.injEq, true_and] at e
  obtain ⟨rfl, rfl⟩ := e
  exact ⟨g, 0, rfl, by rw [Nat.zero_add]; exact hc⟩

set_option maxRecDepth 100000 in
set_option maxHeartbeats 2000000 in
theorem plainBuild_any (docs : List ByteArray) (v : Value) (w : World) (hv : StrsIs w v docs) (h48 : docs.length ≤ 48) (h200 : ∀ d ∈ docs, d.size ≤ 200) :
    Calls Tryz.prog 21 #[v] w fun e w' => ∃ sb, e = .returned (.tuple #[ptrV sb, .int .i64 0, .bool true]) ∧ Below w.heap.size w w' ∧ Seg w.heap.size w' sb (docs.map wordsB) := by
  obtain ⟨a, cap, rfl, hc⟩ := hv
  obtain ⟨i0, hi, hz0, hz1, hz2⟩ := info_parts Tryz.info9
  have HC := Lib.hid hc
  have H200 := Lib.hid h200
  clear hc h200
  go_enter Tryz.func21, Tryz.ntmps21
  go_wp2_with (at_builtin; refine wpList_append_copy rfl _ _ 22 rfl 9 i0 (.string ⟨#[]⟩) 1 16 Tryz.underlying22 hi hz0 hz1 hz2 rfl (by decide) rfl a docs.length cap (docs.map Value.string) rfl (by simp) ?c1 (by simp [Value.oneCell']) (by unfold maxLen; omega) (by omega) ?_)
  case c1 =>
    intro j u hj
    rw [List.getElem?_map] at hj
    obtain ⟨d, hd, rfl⟩ := Option.map_eq_some_iff.1 hj
    obtain ⟨hjl, hd⟩ := List.getElem?_eq_some_iff.1 hd
    obtain ⟨b, off, rfl, hcell⟩ := HC.out j hjl
    refine ⟨_, rfl, ?_⟩
    rw [← hd]
    by_cases h0 : j = 0
    · subst h0; simpa [Addr.add] using hcell
    · simpa [Addr.add, h0] using hcell
  intro ov w1 hrow hb1 hpast
  have hs1 := ownsRow_strs hrow
  obtain ⟨oa, oc, rfl⟩ := ownsRow_form hrow
  have HROW := Lib.hid hrow
  have HB1 := Lib.hid hb1
  have HP := Lib.hid hpast
  clear hrow hb1 hpast hi hz0 hz1 hz2
  go_wp2_with fail
  refine (build_any docs _ w1 hs1 h48 H200.out).mono ?_
  rintro e w2 ⟨sb, rfl, hsb, hb2, hseg2⟩
  have HB2 := Lib.hid hb2
  have HS2 := Lib.hid hseg2
  clear hs1 hb2 hseg2
  unfold ptrV
  go_wp2_with fail
  refine (told_nil w2).mono ?_
  rintro e w3 ⟨rfl, hb3⟩
  have HB3 := Lib.hid hb3
  clear hb3
  go_wp2_with fail
  have hb13 : Below w1.heap.size w1 w3 := HB2.out.trans (HB3.out.mono HB2.out.size)
  have hown : Own (.slice oa docs.length oc) docs w3 0 w3 := ⟨Mod.refl _ _, fun og ho => by
    rcases HROW.out.2 with ⟨h, _⟩ | ⟨g, cap', cur, h, _, hg, _, _, hcs, htake⟩
    · rw [h] at ho; cases ho
    · rw [h] at ho
      cases ho
      refine ⟨cur, (hb13.block _ (lt_of_heap hg)).trans hg, fun j hj _ => ?_⟩
      have h1 : (docs.map Value.string)[j]? = some (.string docs[j]) := by simp [hj]
      rw [← htake] at h1
      rw [List.getElem?_take_of_lt (by simp; omega)] at h1
      simpa using h1⟩
  have HOWN := Lib.hid hown
  have HB13 := Lib.hid hb13
  clear hown hb13
  go_loopw [10, 26] (fun sm i wr => ∃ k : Nat, k ≤ docs.length ∧ i = .int .i64 k ∧ sm = .bool true ∧ Hid (Own (.slice oa docs.length oc) docs w3 k wr)) (fun _ i _ => docs.length - (intOf i).toNat)
  case atStart => exact ⟨0, Nat.zero_le _, rfl, rfl, HOWN⟩
  case round =>
    obtain ⟨k, hk, rfl, rfl, HO⟩ := hrel
    by_cases hlt : k < docs.length
    · obtain ⟨b, off, rfl, hcell⟩ := HC.out k hlt
      obtain ⟨g, cap', e, _⟩ := ownsRow_cell HROW.out (j := k) (u := .string docs[k]) (by simp [hlt])
      simp only [Value.slice.injEq, true_and] at e
      obtain ⟨rfl, rfl⟩ := e
      have hgw : w.heap.size ≤ g := HP.out g rfl
      have hbl := lt_of_cell hcell
      have hs1 := HB1.out.size
      have hs3 := HB13.out.size
      obtain ⟨cur, hcur, hrest⟩ := HO.out.2 g rfl
      have c1 : wr.cell? ⟨b, off + k, none⟩ = some (.string docs[k]) := by
        have h1 := (HB1.out.cell (p := ⟨b, off + k, none⟩) hbl).trans hcell
        have h2 := (HB13.out.cell (p := ⟨b, off + k, none⟩) (by simp only; omega)).trans h1
        exact (HO.out.1.cell (p := ⟨b, off + k, none⟩) (by simp only; omega) (fun h => by have h9 : g = b := Option.some.inj h; omega)).trans h2
      have c2 : wr.cell? ⟨g, k, none⟩ = some (.string docs[k]) := (cell_block hcur).trans (hrest k hlt (Nat.le_refl _))
      have c3 : wr.frozen? ⟨g, k, none⟩ = false := free_block hcur
      have q1 : (docs[k] == docs[k]) = true := by rw [beq_toListBytes]; simp
      clear hcell hrest
      go_wp2_with fail
      go_quiet (fail)
      go_wp2_with fail
      exact ⟨⟨k + 1, by omega, by go_num, rfl, (HO.out.same (Same.drewN _ _)).step rfl⟩, by simp [intOf]; omega⟩
    · obtain rfl : k = docs.length := by omega
      go_wp2_with fail
      go_ret3
      have hs1 := HB1.out.size
      have hs3 := HB13.out.size
      have hmod := HO.out.1
      refine ⟨sb, rfl, (HB1.out.trans (HB13.out.mono hs1)).trans (hmod.toBelow (by omega) fun k h => HP.out k h), by omega, .map none, ?_, .inl rfl⟩
      have hs3' : SegIs w3 sb (docs.map wordsB) (.map none) := by
        obtain ⟨db, R, Λ, ρ, Dd, pv, ps, hat⟩ := HS2.out.at
        exact (hat.below HB3.out).is
      refine hs3'.strKept fun k cs t r h ht => hmod.block k (lt_of_heap h) fun ho => ht ?_
      obtain ⟨cur, hcur⟩ := ownsRow_cells4 HROW.out ho
      have hcur3 := (HB13.out.block _ (lt_of_heap hcur)).trans hcur
      rw [h] at hcur3
      cases hcur3
      rfl
end Go.Proofs.Ts
/- The walk of fixed: a segment of documents of its own answers as it must. -/
set_option linter.unusedVariables false
set_option linter.unusedSimpArgs false
namespace Go.Proofs.Ts
open Go Go.RowKit

def docs4 : List ByteArray := [⟨#[111, 110, 101, 32, 116, 119, 111]⟩, ⟨#[84, 119, 111, 32, 116, 104, 114, 101, 101]⟩, ⟨#[]⟩, ⟨#[116, 104, 114, 101, 101]⟩]
theorem docs4_words : docs4.map wordsB = [[[111, 110, 101], [116, 119, 111]], [[116, 119, 111], [116, 104, 114, 101, 101]], [], [[116, 104, 114, 101, 101]]] := by decide
theorem docs4_two : docsOf (docs4.map wordsB) (fun u => decide (u = [116, 119, 111])) = [0, 1] := by rw [docs4_words]; decide
theorem docs4_t : docsOf (docs4.map wordsB) (fun u => decide ([116] <+: u)) = [0, 1, 3] := by rw [docs4_words]; decide
theorem Few.flat {D : List (List (List UInt8))} (acc : List UInt8 → Bool) {most : Nat} (h : D.flatten.length ≤ most) : Few D acc most := fun T hr hm _ => by
  have h1 : (hits acc T 0).length ≤ T.length := by unfold hits; exact Nat.le_trans (List.length_filter_le _ _) (by simp)
  have h2 : T.length ≤ D.flatten.length := nodup_le T D.flatten (hr.imp fun h e => by subst e; exact List.lt_irrefl _ h) fun x hx => by
    obtain ⟨j, hj⟩ := List.exists_mem_of_ne_nil _ ((hm x).1 hx)
    obtain ⟨ws, h3, h4⟩ := (postsOf_mem _ _ _).1 hj
    exact List.mem_flatten.2 ⟨ws, List.mem_of_getElem? h3, h4⟩
  omega

set_option maxRecDepth 100000 in
set_option maxHeartbeats 2000000 in
theorem fixed_any (w : World) : Calls Tryz.prog 19 #[] w fun e w' => e = .returned (.bool true) ∧ Below w.heap.size w w' := by
  go_enter Tryz.func19, Tryz.ntmps19
  go_wp2_with fail
  have hst : StrsIs (w.alloc (.cells (docs4.map Value.string).toArray 9)) (.slice (some ⟨w.heap.size, 0, none⟩) 4 4) docs4 := by
    refine ⟨_, _, rfl, fun i hi => ⟨_, _, rfl, ?_⟩⟩
    rw [Nat.zero_add, cell_block (heap_alloc_new w _)]
    simp [hi]
  have hal : Below w.heap.size w (w.alloc (.cells (docs4.map Value.string).toArray 9)) := (Below.refl _ w).alloc (Nat.le_refl _) _
  have hW : (w.alloc (.cells #[.string ⟨#[111, 110, 101, 32, 116, 119, 111]⟩, .string ⟨#[84, 119, 111, 32, 116, 104, 114, 101, 101]⟩, .string ⟨#[]⟩, .string ⟨#[116, 104, 114, 101, 101]⟩] 9)) = w.alloc (.cells (docs4.map Value.string).toArray 9) := rfl
  rw [hW]
  clear hW
  generalize w.alloc (.cells (docs4.map Value.string).toArray 9) = w1 at *
  refine (plainBuild_any docs4 _ w1 hst (by decide) (by decide)).mono ?_
  rintro e w2 ⟨sb, rfl, hb2, hs2⟩
  have HAL := Lib.hid hal
  have HB2 := Lib.hid hb2
  have HS2 := Lib.hid hs2
  clear hal hb2 hs2 hst
  unfold ptrV
  go_wp2_with fail
  have hq1 := plainSearch_any w1.heap.size ⟨1, [116, 119, 111], [], 0, 10⟩ (fun u => decide (u = [116, 119, 111])) 10 sb (docs4.map wordsB) w2 HB2.out.size HS2.out (by decide) 10 rfl (by omega) (by omega) (compile_one (by decide)) rfl (Few.flat _ (by rw [docs4_words]; decide))
  rw [docs4_two] at hq1
  unfold ptrV askV strV at hq1
  refine hq1.mono ?_
  clear hq1
  rintro e w3 ⟨o1, rfl, hs3, hb3, hc3, hr3⟩
  obtain ⟨g1, cap1, rfl⟩ := ownsRow_head (n := 1) hr3
  have HS3 := Lib.hid hs3
  have HB3 := Lib.hid hb3
  have HR3 := Lib.hid hr3
  clear hs3 hb3 hc3 hr3
  go_wp2_with fail
  have hq2 := plainSearch_any w1.heap.size ⟨2, [116], [], 0, 10⟩ (fun u => decide ([116] <+: u)) 10 sb (docs4.map wordsB) w3 (Nat.le_trans HB2.out.size HB3.out.size) HS3.out (by decide) 10 rfl (by omega) (by omega) (compile_two (by decide)) rfl (Few.flat _ (by rw [docs4_words]; decide))
  rw [docs4_t] at hq2
  unfold ptrV askV strV at hq2
  refine hq2.mono ?_
  clear hq2
  rintro e w4 ⟨o2, rfl, hs4, hb4, hc4, hr4⟩
  obtain ⟨g2, cap2, rfl⟩ := ownsRow_head (n := 2) hr4
  have hr3' : w4.ownsRow 0 3 1 (.slice (some ⟨g1, 0, none⟩) 2 cap1) 2 [intV 0, intV 1] := ownsRow_typed HR3.out fun k cs r hk => hc4.2 k cs _ r hk (by decide)
  have a0 : w4.cell? ⟨g1, 0, none⟩ = some (.int .i64 0) := hr3'.cells (g := g1) rfl 0 _ rfl
  have a1 : w4.cell? ⟨g1, 1, none⟩ = some (.int .i64 1) := hr3'.cells (g := g1) rfl 1 _ rfl
  have b2 : w4.cell? ⟨g2, 2, none⟩ = some (.int .i64 3) := hr4.cells (g := g2) rfl 2 _ rfl
  have hb : Below w.heap.size w w4 := HAL.out.trans (((HB2.out).trans (HB3.out.trans hb4)).mono HAL.out.size)
  have HB := Lib.hid hb
  clear hs4 hb4 hc4 hr4 hr3' hb
  go_wp2_with fail
  go_ret
  exact ⟨rfl, HB.out⟩
end Go.Proofs.Ts
/- The walks of match, each and Matches. -/
set_option linter.unusedVariables false
set_option linter.unusedSimpArgs false
namespace Go.Proofs.Ts
open Go Go.RowKit

/-- The list of a term's documents, as a segment holds it. -/
def PostAt (w : World) (pv : Value) (i c : Nat) : Prop := ∃ g n cap a cap2, pv = .slice (some ⟨g, 0, none⟩) n cap ∧ i < n ∧ n ≤ 10000 ∧ w.cell? ⟨g, i, none⟩ = some (.slice a c cap2)
theorem Terms.post {w : World} {sb : Nat} {D : List (List (List UInt8))} {pv fv : Value} {l : List (List UInt8 × Nat)} (h : Terms w sb D pv fv l) {j : Nat} {t : List UInt8} {i : Nat} (hj : l[j]? = some (t, i)) : PostAt w pv i (postsOf D t).length := by
  obtain ⟨g, n, cap, a, cap2, h1, h2, h3, h4, _⟩ := h.posts j t i hj
  exact ⟨g, n, cap, a, cap2, h1, h2, h3, h4⟩

theorem Tryz.cellsOfMatch : Tryz.prog.cellsOf 53 = 2 := by kernel_rfl
set_option maxRecDepth 100000 in
set_option maxHeartbeats 1000000 in
theorem match_any (sb : Nat) (pv : Value) (t : List UInt8) (i c : Nat) (w : World) (h2 : w.cell? ⟨sb, 2, none⟩ = some pv) (hp : PostAt w pv i c) :
    Calls Tryz.prog 50 #[ptrV sb, .agg #[strV t, intV i]] w fun e w' => e = .returned (.agg #[strV t, intV c]) ∧ Below w.heap.size w w' := by
  obtain ⟨g, n, cap, a, cap2, rfl, hin, hn, h3⟩ := hp
  unfold ptrV strV intV
  go_enter Tryz.func50, Tryz.ntmps50
  go_wp2_with fail
  have hal : Below w.heap.size w ((w.alloc (.cells #[.string ⟨t.toArray⟩, .int .i64 i] 120)).alloc (.cells #[.string ⟨#[]⟩, .int .i64 0] 53)) := ((Below.refl _ w).alloc (Nat.le_refl _) _).alloc (by simp) _
  have f0 : ((w.alloc (.cells #[.string ⟨t.toArray⟩, .int .i64 i] 120)).alloc (.cells #[.string ⟨#[]⟩, .int .i64 0] 53)).heap[w.heap.size]? = some (.cells #[.string ⟨t.toArray⟩, .int .i64 i] 120 (0, 0)) := by
    rw [Below.heap_alloc _ _ _ (by simp)]
    exact heap_alloc_new w _
  have m0 : ((w.alloc (.cells #[.string ⟨t.toArray⟩, .int .i64 i] 120)).alloc (.cells #[.string ⟨#[]⟩, .int .i64 0] 53)).heap[w.heap.size + 1]? = some (.cells #[.string ⟨#[]⟩, .int .i64 0] 53 (0, 0)) := by
    have := heap_alloc_new (w.alloc (.cells #[.string ⟨t.toArray⟩, .int .i64 i] 120)) (.cells #[.string ⟨#[]⟩, .int .i64 0] 53)
    rw [World.size_alloc] at this
    exact this
  generalize ((w.alloc (.cells #[.string ⟨t.toArray⟩, .int .i64 i] 120)).alloc (.cells #[.string ⟨#[]⟩, .int .i64 0] 53)) = w2 at *
  have c0 : w2.cell? ⟨w.heap.size, 0, none⟩ = some (.string ⟨t.toArray⟩) := cell_block f0
  have c1 : w2.cell? ⟨w.heap.size, 1, none⟩ = some (.int .i64 i) := cell_block f0
  have c2 : w2.cell? ⟨sb, 2, none⟩ = some (.slice (some ⟨g, 0, none⟩) n cap) := (hal.cell (p := ⟨sb, 2, none⟩) (lt_of_cell h2)).trans h2
  have c3 : w2.cell? ⟨g, i, none⟩ = some (.slice a c cap2) := (hal.cell (p := ⟨g, i, none⟩) (lt_of_cell h3)).trans h3
  have hsl := lt_of_cell h2
  have hgl := lt_of_cell h3
  have M0 := Lib.hid m0
  have HAL := Lib.hid hal
  clear h2 h3 hal f0 m0
  refine wp_region_ordX [(0, false), (1, false), (2, false), (3, false), (4, false), (5, false), (6, false), (7, false), (8, false), (9, false), (10, false), (11, false), (12, true)] 1000
    (fun w' => w'.cell? ⟨w.heap.size, 0, none⟩ = some (.string ⟨t.toArray⟩) ∧ w'.cell? ⟨w.heap.size, 1, none⟩ = some (.int .i64 i) ∧ w'.cell? ⟨sb, 2, none⟩ = some (.slice (some ⟨g, 0, none⟩) n cap) ∧ w'.cell? ⟨g, i, none⟩ = some (.slice a c cap2)) (by kernel_rfl) (by kernel_rfl) ⟨c0, c1, c2, c3⟩ ?_
  iterate 12 (
    refine wpOrd_quiet ?_ rfl rfl (fun w' hS => ?_) ?_
    rotate_left
    · obtain ⟨e0, e1, e2, e3⟩ := hS
      go_simp
      first | rfl | done
    simp only [put_lit, List.set_cons_succ, List.set_cons_zero])
  refine wpOrd_loud rfl rfl (by decide) (fun K hK => ?_)
  have n0 : w2.cell? ⟨w.heap.size + 1, 0, none⟩ = some (.string ⟨#[]⟩) := cell_block M0.out
  have n1 : w2.cell? ⟨w.heap.size + 1, 1, none⟩ = some (.int .i64 0) := cell_block M0.out
  have n2 : w2.frozen? ⟨w.heap.size + 1, 0, none⟩ = false := free_block M0.out
  have n3 : w2.frozen? ⟨w.heap.size + 1, 1, none⟩ = false := free_block M0.out
  go_simp
  have hb3 : Below w.heap.size w ((w2.setCell ⟨w.heap.size + 1, 0, none⟩ (.string ⟨t.toArray⟩)).setCell ⟨w.heap.size + 1, 1, none⟩ (.int .i64 c)) := (HAL.out.setCell (p := ⟨w.heap.size + 1, 0, none⟩) (by simp only; omega) _).setCell (p := ⟨w.heap.size + 1, 1, none⟩) (by simp only; omega) _
  have hm3 : ((w2.setCell ⟨w.heap.size + 1, 0, none⟩ (.string ⟨t.toArray⟩)).setCell ⟨w.heap.size + 1, 1, none⟩ (.int .i64 c)).heap[w.heap.size + 1]? = some (.cells #[.string ⟨t.toArray⟩, .int .i64 c] 53 (0, 0)) := by
    have h1 := heap_setCell_same w2 (w.heap.size + 1) 0 _ _ (.string ⟨t.toArray⟩) M0.out
    exact heap_setCell_same _ (w.heap.size + 1) 1 _ _ (.int .i64 c) h1
  have oth : ∀ (b j : Nat) u, b ≠ w.heap.size + 1 → w2.cell? ⟨b, j, none⟩ = some u → ((w2.setCell ⟨w.heap.size + 1, 0, none⟩ (.string ⟨t.toArray⟩)).setCell ⟨w.heap.size + 1, 1, none⟩ (.int .i64 c)).cell? ⟨b, j, none⟩ = some u := fun b j u hb hu => by
    rw [World.cell?_setCell_other _ _ _ _ (fun e => hb (congrArg Addr.block e).symm), World.cell?_setCell_other _ _ _ _ (fun e => hb (congrArg Addr.block e).symm)]
    exact hu
  have e0 := oth _ _ _ (by omega) c0
  have e1 := oth _ _ _ (by omega) c1
  have e2 := oth _ _ _ (by omega) c2
  have e3 := oth _ _ _ (by omega) c3
  refine hK _ _ ⟨e0, e1, e2, e3⟩ ?_
  clear hK K oth n0 n1 n2 n3
  refine wpOrd_nil ?_
  generalize ((w2.setCell ⟨w.heap.size + 1, 0, none⟩ (.string ⟨t.toArray⟩)).setCell ⟨w.heap.size + 1, 1, none⟩ (.int .i64 c)) = W3 at *
  have r0 : W3.cell? ⟨w.heap.size + 1, 0, none⟩ = some (.string ⟨t.toArray⟩) := cell_block hm3
  have r1 : W3.cell? ⟨w.heap.size + 1, 1, none⟩ = some (.int .i64 c) := cell_block hm3
  go_wp2_with fail
  refine bodyPost_ret (results_cell_row rfl _ _ (w.heap.size + 1) _ _ _ _ rfl hm3 Tryz.underlying53 rfl (by kernel_rfl)) rfl ?_
  exact ⟨rfl, hb3.drew⟩

/-- Terms with their numbers turned to matches: terms with how many documents have them. -/
def matchesOf (D : List (List (List UInt8))) (l : List (List UInt8 × Nat)) : List (List UInt8 × Nat) := l.map fun p => (p.1, (postsOf D p.1).length)
theorem matchesOf_succ {D : List (List (List UInt8))} {l : List (List UInt8 × Nat)} {j : Nat} {t : List UInt8} {i : Nat} (h : l[j]? = some (t, i)) : matchesOf D (l.take (j + 1)) = matchesOf D (l.take j) ++ [(t, (postsOf D t).length)] := by
  have hj := (List.getElem?_eq_some_iff.1 h).1
  have he : l[j] = (t, i) := (List.getElem?_eq_some_iff.1 h).2
  unfold matchesOf
  rw [List.take_succ_eq_append_getElem hj, he, List.map_append]
  rfl
theorem Tryz.info53 : (Tryz.prog.info? 53).map (fun i => (i.zero, i.size, i.bytes)) = some (some (.agg #[.string ⟨#[]⟩, .int .i64 0]), 2, 24) := by kernel_rfl

set_option maxRecDepth 100000 in
set_option maxHeartbeats 2000000 in
theorem each_any (D : List (List (List UInt8))) (sb : Nat) (pv fv : Value) (l : List (List UInt8 × Nat)) (w : World) (ht : Terms w sb D pv fv l) (hD : D.length ≤ 1000) :
    Calls Tryz.prog 49 #[fv, .func (.func 50) #[ptrV sb] #[]] w fun e w' => ∃ ov, e = .returned ov ∧ Below w.heap.size w w' ∧
      w'.ownsRow 0 53 2 ov l.length (foundCells (matchesOf D l)) := by
  obtain ⟨fa, fc, rfl⟩ := ht.form
  have hll := ht.few
  obtain ⟨i0, hi, hz0, hz1, hz2⟩ := info_parts Tryz.info53
  have HT := Lib.hid ht
  clear ht
  unfold ptrV
  go_enter Tryz.func49, Tryz.ntmps49
  go_wp2_with fail
  go_loopw [5, 10] (fun ov i wr => ∃ j : Nat, j ≤ l.length ∧ i = .int .i64 j ∧ wr.ownsRow 0 53 2 ov j (foundCells (matchesOf D (l.take j))) ∧ Past w.heap.size ov ∧ Below w.heap.size w wr) (fun _ i _ => l.length - (intOf i).toNat)
  case atStart => exact ⟨0, Nat.zero_le _, rfl, World.ownsRow_nil _ _ _ _, (fun k e => by cases e), Below.refl _ _⟩
  case round =>
    obtain ⟨j, hj, rfl, hrow, hpast, hbel⟩ := hrel
    have HROW := Lib.hid hrow
    have HPAST := Lib.hid hpast
    have HBEL := Lib.hid hbel
    clear hrow hpast hbel
    by_cases hjl : j < l.length
    · obtain ⟨t, i, hti⟩ : ∃ t i, l[j]? = some (t, i) := ⟨_, _, List.getElem?_eq_getElem hjl⟩
      obtain ⟨g, cap, e1, k0, k1⟩ := HT.out.found j t i hti
      simp only [Value.slice.injEq, true_and] at e1
      obtain ⟨rfl, rfl⟩ := e1
      have go : ∀ (b i : Nat) u, w.cell? ⟨b, i, none⟩ = some u → wr.cell? ⟨b, i, none⟩ = some u := fun b i u hu => (HBEL.out.cell (p := ⟨b, i, none⟩) (lt_of_cell hu)).trans hu
      have c0 := go _ _ _ k0
      have c1 := go _ _ _ k1
      have hpost := HT.out.post hti
      have HMS := Lib.hid (matchesOf_succ (D := D) hti)
      obtain ⟨c, hc⟩ : ∃ c, c = (postsOf D t).length := ⟨_, rfl⟩
      have HC := Lib.hid hc
      rw [← hc] at hpost
      have HPOST := Lib.hid hpost
      clear hpost hc hti go
      go_wp2_with fail
      clear k0 k1 c0 c1
      have hb2 : Below w.heap.size w (wr.alloc (.cells #[.string ⟨t.toArray⟩, .int .i64 i] 120)) := HBEL.out.alloc HBEL.out.size _
      have hro2 : (wr.alloc (.cells #[.string ⟨t.toArray⟩, .int .i64 i] 120)).ownsRow 0 53 2 u5 j (foundCells (matchesOf D (l.take j))) := HROW.out.alloc _
      generalize (wr.alloc (.cells #[.string ⟨t.toArray⟩, .int .i64 i] 120)) = w2 at *
      have hpost2 : PostAt w2 pv i c := by
        obtain ⟨g', n, cap', a, cap2, h1, h2, h3, h4⟩ := HPOST.out
        exact ⟨g', n, cap', a, cap2, h1, h2, h3, (hb2.cell (p := ⟨g', i, none⟩) (lt_of_cell h4)).trans h4⟩
      have hm := match_any sb pv t i c w2 ((hb2.cell (p := ⟨sb, 2, none⟩) (lt_of_cell HT.out.seg)).trans HT.out.seg) hpost2
      unfold ptrV strV intV at hm
      refine hm.mono ?_
      clear hm hpost2
      rintro e w3 ⟨rfl, hb3⟩
      have hb13 := hb2.trans (hb3.mono hb2.size)
      have hrow3 : w3.ownsRow 0 53 2 u5 j (foundCells (matchesOf D (l.take j))) := ownsRow_block hro2 fun k e => hb3.block k (hro2.lt k e).2
      have HB13 := Lib.hid hb13
      clear hb2 hro2 hb3 hb13
      have hrow4 : (w3.alloc (.cells #[.string ⟨t.toArray⟩, .int .i64 c] 53)).ownsRow 0 53 2 u5 j (foundCells (matchesOf D (l.take j))) := hrow3.alloc _
      have hnew : ∀ j u, [Value.string ⟨t.toArray⟩, .int .i64 c][j]? = some u → (w3.alloc (.cells #[.string ⟨t.toArray⟩, .int .i64 c] 53)).cell? ((⟨w3.heap.size, 0, none⟩ : Addr).add j) = some u := cell_two_new w3 _ _ _
      clear hrow3
      go_wp2_with (at_builtin; refine wpList_append_lies rfl _ _ 47 rfl 53 i0 (.agg #[.string ⟨#[]⟩, .int .i64 0]) 2 24 Tryz.underlying47 hi hz0 hz1 hz2 rfl (by decide) u5 j (foundCells (matchesOf D (l.take j))) rfl hrow4 ⟨w3.heap.size, 0, none⟩ 1 1 [.string ⟨t.toArray⟩, .int .i64 c] rfl rfl hnew (by simp [Value.oneCell']) (by decide) (by unfold maxLen; omega) (by omega) ?_; intro v4 W4 hrow5 hgrow5 hlies5; simp only [put_lit, List.set_cons_succ, List.set_cons_zero]; have HR5 := Lib.hid hrow5; have HM5 := Lib.hid ((Moves.alloc w3 u5 _).trans (Moves.append hgrow5 hlies5)); clear hrow5 hgrow5 hlies5)
      have hsz3 := HB13.out.size
      refine ⟨⟨j + 1, by omega, by go_num, ?_, HM5.out.past HPAST.out hsz3, HM5.out.below (fun k e => HPAST.out k e) HB13.out hsz3⟩, by simp [intOf]; omega⟩
      rw [HMS.out, foundCells_snoc, ← HC.out]
      exact HR5.out
    · obtain rfl : j = l.length := by omega
      rw [List.take_length] at HROW
      go_wp2_with fail
      go_ret
      exact ⟨u5, rfl, HBEL.out, HROW.out⟩
end Go.Proofs.Ts
/- The walks of Matches and plain.Matches. -/
set_option linter.unusedVariables false
set_option linter.unusedSimpArgs false
namespace Go.Proofs.Ts
open Go Go.RowKit

/-- The terms of documents, in their order. -/
def TermsOf (D : List (List (List UInt8))) (T : List (List UInt8)) : Prop := T.Pairwise (fun a b => a < b) ∧ (∀ x, x ∈ T ↔ postsOf D x ≠ []) ∧ T.length ≤ 10000

/-- A segment that is asked, its terms named. -/
def SegT (B : Nat) (w : World) (sb : Nat) (D : List (List (List UInt8))) (T : List (List UInt8)) : Prop := B ≤ sb ∧ ∃ kn, KnownIs B w kn ∧ ∃ db R Λ ρ Dd pv ps, Λ 0 = T ∧ SegAt w sb D kn db R Λ ρ Dd pv ps
theorem Seg.withTerms {B : Nat} {w : World} {sb : Nat} {D : List (List (List UInt8))} (h : Seg B w sb D) : ∃ T, TermsOf D T ∧ SegT B w sb D T := by
  obtain ⟨h1, kn, h2, h3⟩ := h
  obtain ⟨db, R, Λ, ρ, Dd, pv, ps, hat⟩ := h2.at
  exact ⟨Λ 0, ⟨hat.2.2.1, hat.2.2.2.1, hat.2.2.2.2.1⟩, h1, kn, h3, db, R, Λ, ρ, Dd, pv, ps, rfl, hat⟩
theorem SegT.seg {B : Nat} {w : World} {sb : Nat} {D : List (List (List UInt8))} {T : List (List UInt8)} (h : SegT B w sb D T) : Seg B w sb D := by
  obtain ⟨h1, kn, h3, db, R, Λ, ρ, Dd, pv, ps, _, hat⟩ := h
  exact ⟨h1, kn, hat.is, h3⟩
theorem SegT.below {B : Nat} {w w' : World} {sb : Nat} {D : List (List (List UInt8))} {T : List (List UInt8)} (h : SegT B w sb D T) (hb : Below w.heap.size w w') : SegT B w' sb D T := by
  obtain ⟨h1, kn, h3, db, R, Λ, ρ, Dd, pv, ps, e, hat⟩ := h
  exact ⟨h1, kn, h3.below hb, db, R, Λ, ρ, Dd, pv, ps, e, hat.below hb⟩

set_option maxRecDepth 100000 in
set_option maxHeartbeats 2000000 in
theorem matches_any (B : Nat) (q : Asked) (acc : List UInt8 → Bool) (most sb : Nat) (D : List (List (List UInt8))) (T : List (List UInt8)) (w : World)
    (hB : B ≤ w.heap.size) (hseg : SegT B w sb D T) (hD : D.length ≤ 1000) (st : Nat) (hst : q.states = st) (hst1 : 1 ≤ st ∧ st ≤ 400) (hmost : most ≤ 2000000) (hcomp : CompileOk q) (hacc : accOf q = some acc) (hfew : (hits acc T 0).length ≤ most) :
    Calls Tryz.prog 35 #[ptrV sb, askV q, .int .i64 st, .int .i64 most] w fun e w' => ∃ ov, e = .returned (.tuple #[ov, .nilIface]) ∧ SegT B w' sb D T ∧ Below B w w' ∧ Cells w w' ∧
      w'.ownsRow 0 53 2 ov (hits acc T 0).length (foundCells (matchesOf D (hits acc T 0))) := by
  obtain ⟨hsb, kn, hkn, db, R, Λ, ρ, Dd, pv, ps, rfl, hat⟩ := hseg
  have hmf : ∀ (fn : Fn) (first cap : Array Value) (w : World), (Instr.makeFunc fn first cap).run Tryz.prog w = .ok (.func fn first cap) w := fun _ _ _ _ => rfl
  have HAT := Lib.hid hat
  have HKN := Lib.hid hkn
  clear hat hkn
  unfold ptrV askV strV
  go_enter Tryz.func35, Tryz.ntmps35
  go_wp2_with fail
  have hal : Below w.heap.size w (w.alloc (.cells #[.int .i64 q.kind, .string ⟨q.a.toArray⟩, .string ⟨q.b.toArray⟩, .int .i64 q.n] 37)) := (Below.refl _ w).alloc (Nat.le_refl _) _
  have HAL := Lib.hid hal
  clear hal
  generalize (w.alloc (.cells #[.int .i64 q.kind, .string ⟨q.a.toArray⟩, .string ⟨q.b.toArray⟩, .int .i64 q.n] 37)) = w2 at *
  have hterms := terms_any B q acc most sb D kn db R Λ ρ Dd pv ps w2 (Nat.le_trans hB HAL.out.size) hsb (HAT.out.below HAL.out) (HKN.out.below HAL.out) st hst hst1 hmost hcomp hacc
  unfold ptrV askV strV at hterms
  refine hterms.mono ?_
  clear hterms
  rintro e w3 ⟨fv, er, kn', rfl, hat3, hkn3, hb3, hc3, hres⟩
  rcases hres with ⟨_, rfl, hrow, _⟩ | ⟨hgt, _⟩
  · have HT3 := Lib.hid (hat3.terms hrow)
    have HAT3 := Lib.hid hat3
    have HKN3 := Lib.hid hkn3
    have HB3 := Lib.hid hb3
    have HC3 := Lib.hid hc3
    clear hat3 hkn3 hb3 hc3 hrow
    go_wp2_with fail
    have hun := each_any D sb pv fv _ w3 HT3.out hD
    unfold ptrV at hun
    refine hun.mono ?_
    clear hun
    rintro e w4 ⟨ov, rfl, hb4, hrow4⟩
    have HB4 := Lib.hid hb4
    have HROW4 := Lib.hid hrow4
    clear hb4 hrow4
    go_wp2_with fail
    go_ret2
    exact ⟨ov, rfl, ⟨hsb, kn', HKN3.out.below HB4.out, db, R, Λ, ρ, Dd, pv, ps, rfl, HAT3.out.below HB4.out⟩, ((HAL.out.mono hB).trans HB3.out).trans (HB4.out.mono (by have := HAL.out.size; have := HB3.out.size; omega)), ((Cells.below HAL.out).trans HC3.out).trans (Cells.below HB4.out), HROW4.out⟩
  · omega

set_option maxRecDepth 100000 in
set_option maxHeartbeats 2000000 in
theorem plainMatches_any (B : Nat) (q : Asked) (acc : List UInt8 → Bool) (most sb : Nat) (D : List (List (List UInt8))) (T : List (List UInt8)) (w : World)
    (hB : B ≤ w.heap.size) (hseg : SegT B w sb D T) (hD : D.length ≤ 1000) (st : Nat) (hst : q.states = st) (hst1 : 1 ≤ st ∧ st ≤ 400) (hmost : most ≤ 2000000) (hcomp : CompileOk q) (hacc : accOf q = some acc) (hfew : (hits acc T 0).length ≤ most) :
    Calls Tryz.prog 23 #[ptrV sb, askV q, .int .i64 st, .int .i64 most] w fun e w' => ∃ ov, e = .returned (.tuple #[ov, .int .i64 0, .int .i64 (-1)]) ∧ SegT B w' sb D T ∧ Below B w w' ∧ Cells w w' ∧
      w'.ownsRow 0 53 2 ov (hits acc T 0).length (foundCells (matchesOf D (hits acc T 0))) := by
  have HS := Lib.hid hseg
  clear hseg
  unfold ptrV askV strV
  go_enter Tryz.func23, Tryz.ntmps23
  go_wp2_with fail
  have hal : Below w.heap.size w (w.alloc (.cells #[.int .i64 q.kind, .string ⟨q.a.toArray⟩, .string ⟨q.b.toArray⟩, .int .i64 q.n] 37)) := (Below.refl _ w).alloc (Nat.le_refl _) _
  have HAL := Lib.hid hal
  clear hal
  generalize (w.alloc (.cells #[.int .i64 q.kind, .string ⟨q.a.toArray⟩, .string ⟨q.b.toArray⟩, .int .i64 q.n] 37)) = w2 at *
  have hs := matches_any B q acc most sb D T w2 (Nat.le_trans hB HAL.out.size) (HS.out.below HAL.out) hD st hst hst1 hmost hcomp hacc hfew
  unfold ptrV askV strV at hs
  refine hs.mono ?_
  clear hs
  rintro e w3 ⟨ov, rfl, hs3, hb3, hc3, hrow3⟩
  have HC3 := Lib.hid hc3
  have HS3 := Lib.hid hs3
  have HB3 := Lib.hid hb3
  have HR3 := Lib.hid hrow3
  clear hs3 hb3 hc3 hrow3
  go_wp2_with fail
  refine (told_nil w3).mono ?_
  rintro e w4 ⟨rfl, hb4⟩
  have HB4 := Lib.hid hb4
  clear hb4
  go_wp2_with fail
  go_ret3
  exact ⟨ov, rfl, HS3.out.below HB4.out, ((HAL.out.mono hB).trans HB3.out).trans (HB4.out.mono (by have := HAL.out.size; have := HB3.out.size; omega)), ((Cells.below HAL.out).trans HC3.out).trans (Cells.below HB4.out), ownsRow_block HR3.out fun k e => HB4.out.block k (HR3.out.lt k e).2⟩
end Go.Proofs.Ts
/- A region that draws its order and hands a value to a loop's round (yield): what stands ahead of the yield in one forced order, then the yield, then the rest. No program of its own. -/
set_option linter.unusedSectionVars false
set_option linter.unusedVariables false
set_option linter.unusedSimpArgs false
namespace Go.Proofs.Ts
open Go Go.RowKit
section
variable {P : Program} {ops : Array Oper} {S : World → Prop} {Q : Exit → Act → World → Prop} {n : Nat}

/-- Whatever order is picked, up to operation x, which comes up last of all, with the set L behind it. -/
def anyY (P : Program) (ops : Array Oper) (Q : Exit → Act → World → Prop) (S : World → Prop) (x : Nat) (L : Array Bool) (E : Act → World → Prop) : Nat → Array Bool → Act → World → Prop
  | 0, listed, a, w => listed = L ∧ Region.ready .any ops listed = [x] ∧ E a w
  | m + 1, listed, a, w =>
    x ∉ Region.ready .any ops listed ∧ Region.ready .any ops listed ≠ [] ∧
    ∀ i ∈ Region.ready .any ops listed, wpOp P ops Q i (fun a' w' => S w' ∧ anyY P ops Q S x L E m (listed.setIfInBounds i true) a' w') a w

/-- Does operation x wait for operation i, directly or through others? -/
def reachB (ops : Array Oper) : Nat → Nat → Nat → Bool
  | 0, _, _ => false
  | f + 1, x, i => match ops[x]? with
    | none => false
    | some o => o.after.any fun e => Region.binds .any e && (e.on == i || reachB ops f e.on i)
/-- What is listed has all that it waits for listed. -/
def Shut (ops : Array Oper) (listed : Array Bool) : Prop := ∀ j o, ops[j]? = some o → listed.getD j false = true → ∀ e ∈ o.after, Region.binds .any e = true → listed.getD e.on false = true
theorem reach_listed {listed : Array Bool} (hc : Shut ops listed) {i : Nat} : ∀ (f x : Nat), reachB ops f x i = true → (∀ o, ops[x]? = some o → ∀ e ∈ o.after, Region.binds .any e = true → listed.getD e.on false = true) → listed.getD i false = true
  | 0, x, h, _ => by cases h
  | f + 1, x, h, hx => by
    unfold reachB at h
    split at h
    · cases h
    · rename_i o ho
      obtain ⟨e, he, hb⟩ := Array.any_eq_true'.1 h
      simp only [Bool.and_eq_true, Bool.or_eq_true, beq_iff_eq] at hb
      have hl := hx o ho e he hb.1
      rcases hb.2 with h1 | h1
      · rw [← h1]; exact hl
      · exact reach_listed hc f e.on h1 fun o' ho' => hc e.on o' ho' hl
theorem shut_set {listed : Array Bool} (hc : Shut ops listed) {j : Nat} (hj : j ∈ Region.ready .any ops listed) (hs : listed.size = ops.size) : Shut ops (listed.setIfInBounds j true) := by
  intro k o ho hk e he hb
  obtain ⟨_, oj, hoj, hall⟩ := mem_ready.1 hj
  have up : ∀ m, listed.getD m false = true → (listed.setIfInBounds j true).getD m false = true := fun m hm => by
    by_cases hjm : j = m
    · subst hjm
      have : j < listed.size := by
        rw [hs]
        exact (Array.getElem?_eq_some_iff.1 hoj).1
      simp [Array.getD, this]
    · simp only [Array.getD_eq_getD_getElem?] at hm ⊢
      rw [Array.getElem?_setIfInBounds_ne hjm]
      exact hm
  by_cases hjk : j = k
  · subst hjk
    rw [hoj] at ho
    cases ho
    exact up _ (hall e he hb)
  · refine up _ (hc k o ho ?_ e he hb)
    simp only [Array.getD_eq_getD_getElem?] at hk ⊢
    rw [Array.getElem?_setIfInBounds_ne hjk] at hk
    exact hk

theorem anyY_first {x i : Nat} {L : Array Bool} {E : Act → World → Prop} {oi : Oper} {v : Value} (hi : ops[i]? = some oi) (hsel : Region.noSelect ops = true)
    (hQ : ∀ c a w, Q (.panic c) (a.put oi.dst v) w → Q (.panic c) a w) (hxi : x ≠ i) {f : Nat} (hre : reachB ops f x i = true) :
    ∀ (m : Nat) (listed : Array Bool) (a : Act) (w : World), Shut ops listed → listed.size = ops.size →
      (∀ j oj, ops[j]? = some oj → j ≠ i → listed.getD j true = false → (∀ e ∈ oj.after, Region.binds .any e = true → e.on ≠ i) → oi.apart ops oj = true) →
      i ∈ Region.ready .any ops listed → YieldsIf P ops S oi v a → S w →
      anyY P ops Q S x L E m (listed.setIfInBounds i true) (a.put oi.dst v) w → anyY P ops Q S x L E (m + 1) listed a w := by
  have hno : ∀ listed : Array Bool, Shut ops listed → i ∈ Region.ready .any ops listed → x ∉ Region.ready .any ops listed := fun listed hc hr hx => by
    have h1 := unlisted_of_ready hr
    obtain ⟨_, o, ho, hall⟩ := mem_ready.1 hx
    have h2 := reach_listed hc f x hre fun o' ho' e he hb => by
      rw [ho] at ho'
      cases ho'
      exact hall e he hb
    rw [h1] at h2
    cases h2
  intro m
  induction m with
  | zero =>
    intro listed a w hc _ _ hr hy hS H
    refine ⟨hno listed hc hr, fun h => (by rw [h] at hr; cases hr), fun j hj => ?_⟩
    by_cases hji : j = i
    · subst hji; exact hy.wpOp hi hS ⟨hS, H⟩
    · have hcc := ready_mono hj hji
      rw [H.2.1] at hcc
      obtain rfl : j = x := by simpa using hcc
      exact (hno listed hc hr hj).elim
  | succ m ih =>
    intro listed a w hc hsz hfree hr hy hS H
    refine ⟨hno listed hc hr, fun h => (by rw [h] at hr; cases hr), fun j hj => ?_⟩
    by_cases hji : j = i
    · subst hji; exact hy.wpOp hi hS ⟨hS, H⟩
    · have h1 := H.2.2 j (ready_mono hj hji)
      obtain ⟨hjun, oj, hoj, hall⟩ := mem_ready.1 hj
      have hnot : ∀ e ∈ oj.after, Region.binds .any e = true → e.on ≠ i := fun e he hb heq => by
        have h2 := hall e he hb
        rw [heq, unlisted_of_ready hr] at h2
        cases h2
      have h2 := wpOp_putIf hoj (hfree j oj hoj hji hjun hnot) (fun cs b => Region.noSelect_spec hsel i oi cs b hi) (fun cs b => Region.noSelect_spec hsel j oj cs b hoj) hQ hy h1
      have hfree' : ∀ k ok, ops[k]? = some ok → k ≠ i → (listed.setIfInBounds j true).getD k true = false → (∀ e ∈ ok.after, Region.binds .any e = true → e.on ≠ i) → oi.apart ops ok = true := fun k ok hk hki hun hno => by
        refine hfree k ok hk hki ?_ hno
        by_cases hjk : j = k
        · subst hjk; exact hjun
        · rw [getD_set_ne true hjk] at hun; exact hun
      refine wpOp_mono (fun a' w' h3 => ⟨h3.2.1, ih (listed.setIfInBounds j true) a' w' (shut_set hc hj hsz) (by simpa using hsz) hfree' (ready_mono hr (Ne.symm hji)) h3.1 h3.2.1 ?_⟩) h2
      rw [Array.setIfInBounds_comm _ _ hji]
      exact h3.2.2

/-- The list is an order of all ahead of x. -/
def ordY (ops : Array Oper) (x : Nat) : List (Nat × Bool) → Array Bool → Bool
  | [], listed => Region.ready .any ops listed == [x]
  | (i, true) :: rest, listed => Region.ready .any ops listed == [i] && !(i == x) && ordY ops x rest (listed.setIfInBounds i true)
  | (i, false) :: rest, listed => (Region.ready .any ops listed).contains i && !(i == x) && Region.free .any ops listed i && reachB ops 40 x i && ordY ops x rest (listed.setIfInBounds i true)
/-- What is listed behind it. -/
def endY : List (Nat × Bool) → Array Bool → Array Bool
  | [], listed => listed
  | q :: rest, listed => endY rest (listed.setIfInBounds q.1 true)

theorem anyY_of_ord {lo : List Oper} {x : Nat} {E : Act → World → Prop} (hlen : lo.length ≤ 1000) (hs : Region.noSelect lo.toArray = true) (hp : ∀ c a w, ¬ Q (.panic c) a w) :
    ∀ (l : List (Nat × Bool)) (listed : Array Bool) (a : Act) (w : World), Shut lo.toArray listed → listed.size = lo.length →
    ordY lo.toArray x l listed = true → S w → wpOrd P lo S 1000000 E l a w → anyY P lo.toArray Q S x (endY l listed) E l.length listed a w
  | [], listed, a, w, _, _, hB, _, h => by
    simp only [ordY, beq_iff_eq] at hB
    exact ⟨rfl, hB, h⟩
  | (i, true) :: rest, listed, a, w, hc, hsz, hB, hS, h => by
    simp only [ordY, Bool.and_eq_true, beq_iff_eq, Bool.not_eq_true', beq_eq_false_iff_ne] at hB
    obtain ⟨⟨hr, hix⟩, hB'⟩ := hB
    have hri : i ∈ Region.ready .any lo.toArray listed := by rw [hr]; simp
    have hil : i < lo.length := by
      obtain ⟨_, o, ho, _⟩ := mem_ready.1 hri
      have := (Array.getElem?_eq_some_iff.1 ho).1
      simpa using this
    have ih := anyY_of_ord (x := x) (E := E) hlen hs hp rest (listed.setIfInBounds i true)
    have hc' := shut_set hc hri (by simpa using hsz)
    refine ⟨fun h0 => ?_, fun h0 => (by rw [hr] at h0; cases h0), fun j hj => ?_⟩
    · rw [hr] at h0
      simp at h0
      exact hix h0.symm
    rw [hr] at hj
    obtain rfl : j = i := by simpa using hj
    unfold wpOrd at h
    unfold wpOp
    split at h
    · exact h.elim
    · rename_i o ho
      have ho' : lo.toArray[j]? = some o := by simpa using ho
      simp only [ho']
      split
      · rename_i hw
        rw [if_pos hw] at h
        refine .inl ?_
        refine Oper.wp_mono (K := fun a' w' => (j ≠ 1000000 → S w') ∧ ((j = 1000000 → rest = []) ∧ wpOrd P lo S 1000000 E rest a' w')) (fun a' w' hh => ?_) ?_
        · have hj6 : j ≠ 1000000 := by omega
          exact ⟨hh.1 hj6, ih a' w' hc' (by simpa using hsz) hB' (hh.1 hj6) hh.2.2⟩
        · unfold Oper.wp at h ⊢
          generalize (execOp a.eval o).run P w = r at *
          cases r with
          | ok n w' =>
            cases n <;> simp only [Oper.upon] at h ⊢
            case value => exact h
            case skip => exact h
            case defer => exact h
            case row => exact h
            case enter f args =>
              refine Calls.mono h fun e w'' he => ?_
              cases e with
              | returned v => exact he
              | panicked c => exact he.elim
              | outgrown => obtain ⟨_, _, hx⟩ := he; exact hx.elim
            all_goals exact h
          | halt x w' =>
            cases x <;> simp only [Oper.upon] at h ⊢
            all_goals exact h.elim
      · rename_i hw
        rw [if_neg hw] at h
        exact ⟨hS, ih _ _ hc' (by simpa using hsz) hB' hS h⟩
  | (i, false) :: rest, listed, a, w, hc, hsz, hB, hS, h => by
    simp only [ordY, Bool.and_eq_true, Bool.not_eq_true', beq_eq_false_iff_ne] at hB
    obtain ⟨⟨⟨⟨hr, hix⟩, hf⟩, hre⟩, hB'⟩ := hB
    have hri : i ∈ Region.ready .any lo.toArray listed := by simpa using hr
    have ih := anyY_of_ord (x := x) (E := E) hlen hs hp rest (listed.setIfInBounds i true)
    have hc' := shut_set hc hri (by simpa using hsz)
    unfold wpOrd at h
    split at h
    · exact h.elim
    · rename_i o ho
      obtain ⟨v, hy, hk⟩ := h
      have ho' : lo.toArray[i]? = some o := by simpa using ho
      exact anyY_first ho' hs (fun c a w hq => (hp _ _ _ hq).elim) (Ne.symm hix) hre rest.length listed a w hc (by simpa using hsz) (Region.free_spec ho' hf) hri hy hS (ih _ _ hc' (by simpa using hsz) hB' hS hk)

theorem operIn_wide {o : Oper} {a : Act} {w : World} {K : Act → World → Prop} (hnd : calmB o = true) (h : o.wp P a w K Q) : o.wpIn Fence.wide n P a w K Q := by
  have hd : ∀ c, o.op ≠ .defer c := fun c e => by unfold calmB at hnd; rw [e] at hnd; cases hnd
  refine ⟨fun _ _ => trivial, ?_⟩
  rw [Oper.semAt_eq _ _ _ hd]
  unfold Oper.wp at h
  generalize (execOp a.eval o).run P w = r at *
  cases r with
  | ok x w' =>
    cases x <;> simp only [Oper.upon, Oper.uponIn] at h ⊢
    case value => exact h
    case skip => exact h
    case defer => exact h
    case enter f args => exact ⟨fun hx => (by cases hx), callsIn_wide.2 h⟩
    case row r args =>
      refine ⟨fun hx => (by cases hx), fun c cs _ => ?_⟩
      obtain ⟨v, w'', h1, h2⟩ := h c cs
      exact ⟨v, w'', h1, stepsIn_wide.2 h2⟩
    all_goals exact h.elim
  | halt x w' => cases x <;> simp only [Oper.upon, Oper.uponIn] at h ⊢ <;> exact h
theorem wpOpIn_wide (hno : ¬ LetsOut Q) (hall : (ops.toList.all calmB) = true) {i : Nat} {K : Act → World → Prop} {a : Act} {w : World} (h : wpOp P ops Q i K a w) : wpOpIn Fence.wide n P ops Q i K a w := by
  unfold wpOpIn
  unfold wpOp at h
  cases ho : ops[i]? with
  | none => rw [ho] at h; exact h
  | some o =>
    rw [ho] at h
    simp only at h ⊢
    have hc : calmB o = true := by
      rw [List.all_eq_true] at hall
      exact hall o (by rw [Array.mem_toList_iff]; exact Array.mem_of_getElem? ho)
    split
    · rename_i hw
      rw [if_pos hw] at h
      rcases h with h | ⟨_, h⟩
      · exact operIn_wide hc h
      · exact (hno h).elim
    · rename_i hw
      rw [if_neg hw] at h
      exact ⟨fun _ _ => trivial, h⟩
theorem wpAnyIn_wide (hno : ¬ LetsOut Q) (hall : (ops.toList.all calmB) = true) : ∀ (fuel : Nat) (listed : Array Bool) (a : Act) (w : World), wpAny P .any ops Q fuel listed a w → wpAnyIn Fence.wide n P .any ops Q fuel listed a w
  | 0, _, _, _, h => h
  | fuel + 1, listed, a, w, h => ⟨h.1, fun i hi => wpOpIn_mono (fun a' w' h' => wpAnyIn_wide hno hall fuel _ a' w' h') (wpOpIn_wide hno hall (h.2 i hi))⟩
theorem wpAnyIn_of_anyY (hno : ¬ LetsOut Q) (hall : (ops.toList.all calmB) = true) {x k : Nat} {L : Array Bool} {E : Act → World → Prop} (hE : ∀ a w, E a w → wpOpIn Fence.wide n P ops Q x (wpAnyIn Fence.wide n P .any ops Q k (L.setIfInBounds x true)) a w) :
    ∀ (m : Nat) (listed : Array Bool) (a : Act) (w : World), anyY P ops Q S x L E m listed a w → wpAnyIn Fence.wide n P .any ops Q (m + (k + 1)) listed a w
  | 0, listed, a, w, h => by
    obtain ⟨rfl, hr, he⟩ := h
    rw [Nat.zero_add]
    refine ⟨fun h0 => (by rw [hr] at h0; cases h0), fun i hi => ?_⟩
    rw [hr] at hi
    obtain rfl : i = x := by simpa using hi
    exact hE _ _ he
  | m + 1, listed, a, w, h => by
    rw [show m + 1 + (k + 1) = m + (k + 1) + 1 by omega]
    exact ⟨fun h0 => absurd h0 h.2.1, fun i hi => wpOpIn_mono (fun a' w' h' => wpAnyIn_of_anyY hno hall hE m _ a' w' h'.2) (wpOpIn_wide hno hall (h.2.2 i hi))⟩

/-- What stands ahead of operation x in one order; x as it is; what stands behind it in one order. -/
theorem wpIn_region_yield {id : Nat} {a : Act} {w : World} {lo : List Oper} (l1 : List (Nat × Bool)) (x : Nat) (l2 : List (Nat × Bool)) (S : World → Prop) (hm : P.follows .mixedOrders = true)
    (hs : (Region.noSelect lo.toArray && decide (lo.length ≤ 1000) && (l1.length + (l2.length + 1) == lo.length) && ordY lo.toArray x l1 (Array.replicate lo.length false) && ordB lo.toArray l2 ((endY l1 (Array.replicate lo.length false)).setIfInBounds x true) && lo.all calmB && (l2.all fun q => q.2)) = true) (hS : S w.drew)
    (h : wpOrd P lo S 1000000 (fun a1 w1 => wpOpIn Fence.wide n P lo.toArray (Calm Q) x (fun a2 w2 => wpOrd P lo (fun _ => True) 1000000 (Q .normal) l2 a2 w2) a1 w1) l1 a w.drew) : (Code.region id lo.toArray true).wpIn Fence.wide n P Q a w := by
  simp only [Bool.and_eq_true, beq_iff_eq, decide_eq_true_eq] at hs
  obtain ⟨⟨⟨⟨⟨⟨h1, h2⟩, h3⟩, h4⟩, h5⟩, h6⟩, h7⟩ := hs
  have hno : ¬ LetsOut (Calm Q) := fun ⟨_, _, h⟩ => h
  have hshut : Shut lo.toArray (Array.replicate lo.length false) := fun j o ho hj => by
    exfalso
    simp only [Array.getD_eq_getD_getElem?, Array.getElem?_replicate] at hj
    split at hj <;> simp at hj
  refine wpIn_mono (Q := Calm Q) (wpIn_region_any hm ?_) ?_
  · have hy := anyY_of_ord (Q := Calm Q) (x := x) h2 h1 (fun _ _ _ h => h) l1 (Array.replicate lo.length false) a w.drew hshut (by simp) h4 hS h
    have := wpAnyIn_of_anyY (n := n) (k := l2.length) hno h6 (fun a1 w1 he => wpOpIn_mono (fun a2 w2 hk => wpAnyIn_wide hno h6 _ _ _ _ (wpAny_of_anyX (S := fun _ => True) (x := 1000000) _ _ _ _
      (anyX_of_ord (Q := Q) (Q' := Calm Q) (x := 1000000) h1 (fun _ _ h => h) (fun _ _ _ h => h) l2 _ a2 w2 (fun q hq hf => by rw [List.all_eq_true] at h7; rw [h7 q hq] at hf; cases hf) h5 trivial hk))) he) l1.length _ a w.drew hy
    rw [h3] at this
    simpa using this
  · intro e a w h
    cases e <;> first | exact h | exact h.elim
end
end Go.Proofs.Ts
/- A loop over a function that writes rows of bytes of its own between two rounds. No program of its own. -/
set_option linter.unusedSectionVars false
set_option linter.unusedVariables false
set_option linter.unusedSimpArgs false
namespace Go.Proofs.Ts
open Go Go.RowKit

/-- It stands whatever the function does to memory beyond B. -/
def Stands {β : Type} (B : Nat) (I : β → World → Prop) : Prop := ∀ s A A', I s A → StepsB B A A' → I s A'
/-- It stands where the record of loop l is turned. -/
def StandsP {β : Type} (l : Nat) (I : β → World → Prop) : Prop := ∀ s A r o', I s A → A.heap[l]? = some (.loop r) → I s (A.putObj l o')
theorem StepsB.less {B C : Nat} {w w' : World} (h : StepsB C w w') (hB : B ≤ C) : StepsB B w w' :=
  ⟨h.1, h.2.1, h.2.2.1, h.2.2.2.1, fun k o hk ho => h.2.2.2.2 k o hk (ho.imp (fun x => Nat.lt_of_lt_of_le x hB) id)⟩

/-- The contract of a function that is looped over, called in world w1 with the yield of loop l. -/
def SeqT {α : Type} (F : Fence) (n : Nat) (P : Program) (gf : Nat) (lb : Array Value) (encs : α → Array Value) (Kp : World → World → Prop) (S Sp : List α → Prop) (N : Nat) (w1 : World) (l : Nat) : Prop :=
  ∀ (J Jx : List α → World → Prop), Stands w1.heap.size J →
    (∀ pre x W1, J pre W1 → pre.length < N → YieldAt F (n - 1) P l (encs x) W1 fun e W' => (e = .returned (.bool true) ∧ J (pre ++ [x]) W' ∧ Kp W1 W') ∨ (e = .returned (.bool false) ∧ Jx (pre ++ [x]) W' ∧ Kp W1 W')) → J [] w1 →
    CallsIn F n P gf (#[.func (.yield l) #[] #[]] ++ lb) w1 fun e W' => (∃ v, e = .returned v) ∧ ((∃ xs, S xs ∧ J xs W') ∨ (∃ zs, Sp zs ∧ Jx zs W'))

/-- How a round may be left. -/
def ownPostT {α : Type} (B : Nat) (Kp : World → World → Prop) (I : List α → World → Prop) (Ix : Code → List α → World → Prop) (xs : List α) (W : World) : Exit → Act → World → Prop
  | .normal, _, W' => KeepsFrom B W W' ∧ Kp W W' ∧ I xs W'
  | .ret, _, W' => KeepsFrom B W W' ∧ Kp W W' ∧ Ix .ret xs W'
  | .exit id, _, W' => KeepsFrom B W W' ∧ Kp W W' ∧ Ix (.exit id) xs W'
  | .goto t, _, W' => KeepsFrom B W W' ∧ Kp W W' ∧ Ix (.goto t) xs W'
  | .panic _, _, _ => False
  | .outgrown, _, _ => False

/-- The record of a loop. -/
def recOf (fn : FuncId) (a : Act) (ps : Array Tmp) (assign body : Code) (d : Nat) (st : LoopState) (pe : Option Code) : Loop := { state := st, pending := pe, fn, tmps := a.tmps, params := ps, assign, body, defers := d }

theorem wpIn_rangeFunc_T {α : Type} {F : Fence} {n : Nat} {P : Program} {g : Operand} {ps : Array Tmp} {assign body : Code} {Q : Exit → Act → World → Prop} {a : Act} {w : World} {B l dfr : Nat} {mark : List Deferred} {w1 : FuncId → World}
    (hent : ∀ fn, F.fn fn → (Instr.enterLoop fn a.tmps ps assign body F.round).run P w = .ok (l, mark) (w1 fn) ∧ (w1 fn).heap[l]? = some (.loop (recOf fn a ps assign body dfr .ready none)) ∧ B ≤ (w1 fn).heap.size)
    (hBl : B ≤ l) (h1 : 1 ≤ n) {gf : Nat} {lb : Array Value} (hg : a.eval g = .func (.func gf) #[] lb) (hFg : F.fn gf) (eg : ∀ args w, (callFunc gf args).run P w = .ok (.enter gf args) w)
    {encs : α → Array Value} {Kp : World → World → Prop} {S Sp : List α → Prop} {N : Nat} (hseq : ∀ fn, F.fn fn → SeqT F (n - 1) P gf lb encs Kp S Sp N (w1 fn) l)
    (hKt : ∀ {A A' C : World}, Kp A A' → Kp A' C → Kp A C) (hKb : ∀ (W : World) (r : Loop) (o' : Obj), W.heap[l]? = some (.loop r) → Kp W (W.putObj l o')) (hps : ∀ x, (encs x).size = ps.size)
    (I : List α → World → Prop) (Ix : Code → List α → World → Prop) (hI : Stands B I) (hIp : StandsP l I) (hIxp : ∀ c, StandsP l (Ix c)) (h0 : ∀ fn, F.fn fn → I [] (w1 fn)) (Ax : α → Act → World → Prop) (hAxp : ∀ x a', StandsP l (fun (_ : Unit) W => Ax x a' W))
    (hassign : ∀ (zs : List α) (x : α) (W : World) (K : Act → World → Prop), I zs W → (∀ a' W', KeepsFrom B W W' → Kp W W' → I zs W' → Ax x a' W' → K a' W') →
      assign.wpIn (F.inRound l) (n - 1 - 1) P (Exit.then K (fun _ _ _ => False)) { tmps := (ps.zip (encs x)).foldl (fun t (p, v) => t.setIfInBounds p v) a.tmps, defers := [] } W)
    (hbody : ∀ (zs : List α) (x : α) (a' : Act) (W : World), (∃ r, W.heap[l]? = some (.loop r)) → I zs W → Ax x a' W → zs.length < N → body.wpIn (F.inRound l) (n - 1 - 1) P (ownPostT B Kp I Ix (zs ++ [x]) W) a' W)
    (hdone : ∀ (xs : List α) (W : World), S xs → I xs W → Q .normal { a with defers := mark ++ a.defers } W)
    (hstop : ∀ (c : Code) (zs : List α) (W : World), Sp zs → Ix c zs W → c.wpIn F n P Q { a with defers := mark ++ a.defers } W) :
    (Code.rangeFunc g ps assign body).wpIn F n P Q a w := by
  refine wpIn_rangeFunc fun fn hfn => ?_
  obtain ⟨he, hl1, hBs⟩ := hent fn hfn
  refine ⟨l, mark, w1 fn, { target := .fn (.func gf) lb, args := #[.func (.yield l) #[] #[]] }, w1 fn, gf, #[.func (.yield l) #[] #[]] ++ lb, w1 fn, he, ?_, ?_, ?_, fun _ => h1, ?_⟩
  · simp only [resolve, hg]
    simp [go_sem]
  · intro f' hf'
    simp [Target.leads] at hf'
    subst hf'
    exact hFg
  · simp [invoke, go_sem, eg]
  · refine (hseq fn hfn (fun zs W => I zs W ∧ W.heap[l]? = some (.loop (recOf fn a ps assign body dfr .ready none))) (fun zs W => ∃ c, Ix c zs W ∧ W.heap[l]? = some (.loop (recOf fn a ps assign body dfr .done (some c)))) ?_ ?_ ⟨h0 fn hfn, hl1⟩).mono ?_
    · exact fun s A A' hs hst => ⟨hI s A A' hs.1 (hst.less hBs), hst.2.2.2.2 l _ hs.2 (.inr fun cs r e => by cases e)⟩
    · rintro zs x W ⟨hi, hl⟩ hlen
      have hy := run_yield (P := P) (args := encs x) hl (hps x)
      refine ⟨fn, _, assign, body, hy, roundIn_of_wpIn hfn (hassign zs x W _ hi ?_)⟩
      intro a' Wa hkf hkp hia hax
      have hla := hkf.same l _ hBl hl rfl
      have hlt := (Array.getElem?_eq_some_iff.1 hla).1
      refine ⟨_, run_beginRound hla rfl, ?_⟩
      have hl2 : (Wa.putObj l (.loop { recOf fn a ps assign body dfr .ready none with state := .busy })).heap[l]? = some (.loop { recOf fn a ps assign body dfr .ready none with state := .busy }) := World.putObj_heap_same hlt
      have hw2 : Kp Wa (Wa.putObj l (.loop { recOf fn a ps assign body dfr .ready none with state := .busy })) := hKb _ _ _ hla
      refine wpIn_mono (hbody zs x a' _ ⟨_, hl2⟩ (hIp _ _ _ _ hia hla) (hAxp x a' () _ _ _ hax hla) hlen) ?_
      have fin : ∀ (jump : Option Code) (W3 : World), KeepsFrom B (Wa.putObj l (.loop { recOf fn a ps assign body dfr .ready none with state := .busy })) W3 →
          (Instr.endRound l jump).run P W3 = .ok (.bool jump.isNone) (W3.putObj l (.loop (recOf fn a ps assign body dfr (if jump.isNone then .ready else .done) jump))) ∧
          W3.heap[l]? = some (.loop { recOf fn a ps assign body dfr .ready none with state := .busy }) ∧
          (W3.putObj l (.loop (recOf fn a ps assign body dfr (if jump.isNone then .ready else .done) jump))).heap[l]? = some (.loop (recOf fn a ps assign body dfr (if jump.isNone then .ready else .done) jump)) := fun jump W3 hk3 => by
        have hl3 := hk3.same l _ hBl hl2 rfl
        exact ⟨run_endRound (P := P) jump hl3, hl3, World.putObj_heap_same (Array.getElem?_eq_some_iff.1 hl3).1⟩
      rintro e a3 W3 hp
      cases e with
      | normal =>
        obtain ⟨hk3, hkp3, hi3⟩ := hp
        obtain ⟨hr, hl3, hl4⟩ := fin none W3 hk3
        exact ⟨_, _, hr, .inl ⟨rfl, ⟨hIp _ _ _ _ hi3 hl3, hl4⟩, hKt hkp (hKt (hKt hw2 hkp3) (hKb _ _ _ hl3))⟩⟩
      | ret =>
        obtain ⟨hk3, hkp3, hi3⟩ := hp
        obtain ⟨hr, hl3, hl4⟩ := fin (some .ret) W3 hk3
        exact ⟨_, _, hr, .inr ⟨rfl, ⟨.ret, hIxp _ _ _ _ _ hi3 hl3, hl4⟩, hKt hkp (hKt (hKt hw2 hkp3) (hKb _ _ _ hl3))⟩⟩
      | exit id =>
        obtain ⟨hk3, hkp3, hi3⟩ := hp
        obtain ⟨hr, hl3, hl4⟩ := fin (some (.exit id)) W3 hk3
        exact ⟨_, _, hr, .inr ⟨rfl, ⟨.exit id, hIxp _ _ _ _ _ hi3 hl3, hl4⟩, hKt hkp (hKt (hKt hw2 hkp3) (hKb _ _ _ hl3))⟩⟩
      | goto t =>
        obtain ⟨hk3, hkp3, hi3⟩ := hp
        obtain ⟨hr, hl3, hl4⟩ := fin (some (.goto t)) W3 hk3
        exact ⟨_, _, hr, .inr ⟨rfl, ⟨.goto t, hIxp _ _ _ _ _ hi3 hl3, hl4⟩, hKt hkp (hKt (hKt hw2 hkp3) (hKb _ _ _ hl3))⟩⟩
      | panic ch => exact hp.elim
      | outgrown => exact hp.elim
    · rintro e W2 ⟨⟨v, rfl⟩, (⟨xs, hS, hi, hl⟩ | ⟨zs, hSp, c, hi, hl⟩)⟩
      · exact ⟨none, _, run_endLoop (P := P) hl (by intro h; cases h), hdone xs _ hS (hIp _ _ _ _ hi hl)⟩
      · exact ⟨some c, _, run_endLoop (P := P) hl (by intro h; cases h), hstop c zs _ hSp (hIxp c _ _ _ _ hi hl)⟩

/-- Without a loop variable: nothing is assigned. -/
theorem wpIn_rangeFunc_Ts {α : Type} {F : Fence} {n : Nat} {P : Program} {g : Operand} {ps : Array Tmp} {body : Code} {Q : Exit → Act → World → Prop} {a : Act} {w : World} {B l dfr : Nat} {mark : List Deferred} {w1 : FuncId → World}
    (hent : ∀ fn, F.fn fn → (Instr.enterLoop fn a.tmps ps .skip body F.round).run P w = .ok (l, mark) (w1 fn) ∧ (w1 fn).heap[l]? = some (.loop (recOf fn a ps .skip body dfr .ready none)) ∧ B ≤ (w1 fn).heap.size)
    (hBl : B ≤ l) (h1 : 1 ≤ n) {gf : Nat} {lb : Array Value} (hg : a.eval g = .func (.func gf) #[] lb) (hFg : F.fn gf) (eg : ∀ args w, (callFunc gf args).run P w = .ok (.enter gf args) w)
    {encs : α → Array Value} {Kp : World → World → Prop} {S Sp : List α → Prop} {N : Nat} (hseq : ∀ fn, F.fn fn → SeqT F (n - 1) P gf lb encs Kp S Sp N (w1 fn) l)
    (hKr : ∀ A, Kp A A) (hKt : ∀ {A A' C : World}, Kp A A' → Kp A' C → Kp A C) (hKb : ∀ (W : World) (r : Loop) (o' : Obj), W.heap[l]? = some (.loop r) → Kp W (W.putObj l o')) (hps : ∀ x, (encs x).size = ps.size)
    (I : List α → World → Prop) (Ix : Code → List α → World → Prop) (hI : Stands B I) (hIp : StandsP l I) (hIxp : ∀ c, StandsP l (Ix c)) (h0 : ∀ fn, F.fn fn → I [] (w1 fn))
    (hbody : ∀ (zs : List α) (x : α) (W : World), (∃ r, W.heap[l]? = some (.loop r)) → I zs W → zs.length < N → body.wpIn (F.inRound l) (n - 1 - 1) P (ownPostT B Kp I Ix (zs ++ [x]) W) { tmps := (ps.zip (encs x)).foldl (fun t (p, v) => t.setIfInBounds p v) a.tmps, defers := [] } W)
    (hdone : ∀ (xs : List α) (W : World), S xs → I xs W → Q .normal { a with defers := mark ++ a.defers } W)
    (hstop : ∀ (c : Code) (zs : List α) (W : World), Sp zs → Ix c zs W → c.wpIn F n P Q { a with defers := mark ++ a.defers } W) :
    (Code.rangeFunc g ps .skip body).wpIn F n P Q a w :=
  wpIn_rangeFunc_T hent hBl h1 hg hFg eg hseq (fun h k => hKt h k) hKb hps I Ix hI hIp hIxp h0 (fun x a' _ => a' = { tmps := (ps.zip (encs x)).foldl (fun t (p, v) => t.setIfInBounds p v) a.tmps, defers := [] }) (fun _ _ _ _ _ _ h _ => h)
    (fun zs x W K hi hK => wpIn_skip (hK _ _ (KeepsFrom.refl _ _) (hKr W) hi rfl)) (fun zs x a' W hr hi ha hl => by rw [ha]; exact hbody zs x W hr hi hl) hdone hstop
end Go.Proofs.Ts
/- The walk of what All hands the automaton's walk: a term turned to a match and yielded. -/
set_option linter.unusedVariables false
set_option linter.unusedSimpArgs false
namespace Go.Proofs.Ts
open Go Go.RowKit Go.Shelf
attribute [local go_sem] Oper.semAt_some

theorem YieldAt.depth {n m : Nat} {P : Program} {l : Nat} {args : Array Value} {W : World} {R : Ending → World → Prop} (h : YieldAt Fence.wide n P l args W R) : YieldAt Fence.wide m P l args W R := by
  obtain ⟨fn, tmps, assign, body, hy, hr⟩ := h
  exact ⟨fn, tmps, assign, body, hy, hr.1, fun c cs _ => hr.2 c cs (room_wide _)⟩

theorem wpOpIn_op {F : Fence} {n : Nat} {P : Program} {ops : Array Oper} {Q : Exit → Act → World → Prop} {x : Nat} {K : Act → World → Prop} {a : Act} {w : World} {o : Oper} (ho : ops[x]? = some o) (hw : Region.wanted o (yielded ops a.tmps) = true) (h : o.wpIn F n P a w K Q) : wpOpIn F n P ops Q x K a w := by
  unfold wpOpIn
  rw [ho]
  simp only [hw, if_true]
  exact h

set_option maxRecDepth 100000 in
set_option maxHeartbeats 2000000 in
theorem all11_any (l yb bx sb : Nat) (pv : Value) (t : List UInt8) (i c : Nat) (w : World) (Jt Jf : World → Prop) (hyb : w.heap[yb]? = some (.cells #[.func (.yield l) #[] #[]] 122 (0, 0))) (hbx : w.heap[bx]? = some (.cells #[ptrV sb] 23 (0, 0)))
    (h2 : w.cell? ⟨sb, 2, none⟩ = some pv) (hp : PostAt w pv i c)
    (hY : ∀ W, Below w.heap.size w W → YieldAt Fence.wide 2 Tryz.prog l #[.agg #[strV t, intV c]] W fun e W' => (e = .returned (.bool true) ∧ Jt W') ∨ (e = .returned (.bool false) ∧ Jf W')) :
    Calls Tryz.prog 53 #[strV t, intV i, ptrV yb, ptrV bx] w fun e W' => (e = .returned (.bool true) ∧ Jt W') ∨ (e = .returned (.bool false) ∧ Jf W') := by
  refine (callsIn_wide (n := 3)).1 ?_
  have c0 : w.cell? ⟨yb, 0, none⟩ = some (.func (.yield l) #[] #[]) := cell_block hyb
  have c1 : w.cell? ⟨bx, 0, none⟩ = some (ptrV sb) := cell_block hbx
  have HY := Lib.hid hY
  have HP := Lib.hid hp
  clear hY hp hyb hbx
  unfold ptrV at c1
  refine callsIn_of_wp Tryz.func53 rfl trivial ?_ rfl
  simp only [Tryz.ntmps53, List.size_toArray, List.length_cons, List.length_nil, Nat.reduceAdd, Nat.reduceSub, Array.replicate_succ, Array.replicate_zero, List.push_toArray, List.append_toArray, List.nil_append, List.cons_append]
  unfold ptrV strV intV
  gi_wp2
  refine wpIn_region_yield [(0, false), (1, false), (2, false), (3, false), (4, false), (5, true)] 6 [(7, true)]
    (fun w' => w'.cell? ⟨yb, 0, none⟩ = some (.func (.yield l) #[] #[]) ∧ w'.cell? ⟨bx, 0, none⟩ = some (.pointer (some ⟨sb, 0, none⟩))) (by kernel_rfl) (by kernel_rfl) ⟨c0, c1⟩ ?_
  iterate 5 (
    refine wpOrd_quiet ?_ rfl rfl (fun w' hS => ?_) ?_
    rotate_left
    · obtain ⟨f0, f1⟩ := hS
      go_simp
      first | rfl | done
    simp only [put_lit, List.set_cons_succ, List.set_cons_zero])
  refine wpOrd_loud rfl rfl (by decide) (fun K hK => ?_)
  go_simp
  have hb0 : Below w.heap.size w w.drew := (Same.drew w).below _
  have hpd : PostAt w.drew pv i c := HP.out
  have hm := match_any sb pv t i c w.drew h2 hpd
  unfold ptrV strV intV at hm
  refine hm.mono ?_
  clear hm
  rintro e w3 ⟨rfl, hb3⟩
  have hb : Below w.heap.size w w3 := hb0.trans hb3
  have d0 := (hb.cell (p := ⟨yb, 0, none⟩) (lt_of_cell c0)).trans c0
  have d1 := (hb.cell (p := ⟨bx, 0, none⟩) (lt_of_cell c1)).trans c1
  refine hK _ _ ⟨d0, d1⟩ ?_
  clear hK K
  refine wpOrd_nil ?_
  obtain ⟨fn, tmps, assign, body, hy, hR⟩ := YieldAt.depth (m := 2) (HY.out w3 hb)
  unfold strV intV at hy
  refine wpOpIn_op rfl rfl ⟨fun _ _ => trivial, ?_⟩
  rw [Oper.semAt_eq _ _ _ (fun c e => by cases e)]
  go_simp
  refine hR.mono ?_
  rintro e W4 (⟨rfl, hj⟩ | ⟨rfl, hj⟩)
  · refine wpOrd_loud rfl rfl (by decide) (fun K hK => ?_)
    go_simp
    refine hK _ _ trivial ?_
    clear hK K
    refine wpOrd_nil ?_
    gi_wp2
    go_ret
    exact .inl ⟨rfl, hj⟩
  · refine wpOrd_loud rfl rfl (by decide) (fun K hK => ?_)
    go_simp
    refine hK _ _ trivial ?_
    clear hK K
    refine wpOrd_nil ?_
    gi_wp2
    go_ret
    exact .inr ⟨rfl, hj⟩
end Go.Proofs.Ts
