/- Lemmas towards the statement Found of termsearch: walks of the program's functions and plain laws on lists (TsAsk, TsPlainA, TsPlain, TsFixed, TsFound). Conditions: those that each theorem names. -/
import Derived.Test.YtglafkgakcfahaaGreatDoorFoundPH
/- The walks of plain.Search and of ask. -/
set_option linter.unusedVariables false
set_option linter.unusedSimpArgs false
namespace Go.Proofs.Ts
open Go Go.RowKit

/-- A segment that is asked: beyond block B, with what is known. -/
def Seg (B : Nat) (w : World) (sb : Nat) (D : List (List (List UInt8))) : Prop := B ≤ sb ∧ ∃ kn, SegIs w sb D kn ∧ KnownIs B w kn
theorem Seg.below {B : Nat} {w w' : World} {sb : Nat} {D : List (List (List UInt8))} (h : Seg B w sb D) (hb : Below w.heap.size w w') : Seg B w' sb D := by
  obtain ⟨h1, kn, h2, h3⟩ := h
  obtain ⟨db, R, Λ, ρ, Dd, pv, ps, hat⟩ := h2.at
  exact ⟨h1, kn, (hat.below hb).is, h3.below hb⟩

set_option maxRecDepth 100000 in
set_option maxHeartbeats 2000000 in
theorem plainSearch_any (B : Nat) (q : Asked) (acc : List UInt8 → Bool) (most sb : Nat) (D : List (List (List UInt8))) (w : World)
    (hB : B ≤ w.heap.size) (hseg : Seg B w sb D) (hD : D.length ≤ 1000) (st : Nat) (hst : q.states = st) (hst1 : 1 ≤ st ∧ st ≤ 400) (hmost : most ≤ 2000000) (hcomp : CompileOk q) (hacc : accOf q = some acc) (hfew : Few D acc most) :
    Calls Tryz.prog 17 #[ptrV sb, askV q, .int .i64 st, .int .i64 most] w fun e w' => ∃ ov, e = .returned (.tuple #[ov, .int .i64 0, .int .i64 (-1)]) ∧ Seg B w' sb D ∧ Below B w w' ∧ Cells w w' ∧
      w'.ownsRow 0 3 1 ov (docsOf D acc).length ((docsOf D acc).map intV) := by
  have HS := Lib.hid hseg
  have HFEW := Lib.hid hfew
  clear hseg hfew
  unfold ptrV askV strV
  go_enter Tryz.func17, Tryz.ntmps17
  go_wp2_with fail
  have hal : Below w.heap.size w (w.alloc (.cells #[.int .i64 q.kind, .string ⟨q.a.toArray⟩, .string ⟨q.b.toArray⟩, .int .i64 q.n] 37)) := (Below.refl _ w).alloc (Nat.le_refl _) _
  have HAL := Lib.hid hal
  clear hal
  generalize (w.alloc (.cells #[.int .i64 q.kind, .string ⟨q.a.toArray⟩, .string ⟨q.b.toArray⟩, .int .i64 q.n] 37)) = w2 at *
  obtain ⟨hsb, kn, hs2, hk2⟩ := HS.out.below HAL.out
  have hs := search_any B q acc most sb D kn w2 (Nat.le_trans hB HAL.out.size) hsb hs2 hk2 hD st hst hst1 hmost hcomp hacc HFEW.out
  unfold ptrV askV strV at hs
  refine hs.mono ?_
  clear hs hs2 hk2
  rintro e w3 ⟨ov, kn', rfl, hs3, hk3, hb3, hc3, hrow3⟩
  have HC3 := Lib.hid hc3
  have HS3 : Hid (Seg B w3 sb D) := Lib.hid ⟨hsb, kn', hs3, hk3⟩
  have HB3 := Lib.hid hb3
  have HR3 := Lib.hid hrow3
  clear hs3 hk3 hb3 hrow3
  go_wp2_with fail
  refine (told_nil w3).mono ?_
  rintro e w4 ⟨rfl, hb4⟩
  have HB4 := Lib.hid hb4
  clear hb4
  go_wp2_with fail
  go_ret3
  refine ⟨ov, rfl, HS3.out.below HB4.out, ((HAL.out.mono hB).trans HB3.out).trans (HB4.out.mono (by have := HAL.out.size; have := HB3.out.size; omega)), ((Cells.below HAL.out).trans HC3.out).trans (Cells.below HB4.out), ownsRow_block HR3.out fun k e => HB4.out.block k (HR3.out.lt k e).2⟩

set_option maxRecDepth 100000 in
set_option maxHeartbeats 2000000 in
theorem ask_any (B : Nat) (kind n : Int) (a b : List UInt8) (acc : List UInt8 → Bool) (sb : Nat) (D : List (List (List UInt8))) (w : World)
    (hB : B ≤ w.heap.size) (hseg : Seg B w sb D) (hD : D.length ≤ 1000) (hcomp : CompileOk ⟨kind, a, b, n, 400⟩) (hacc : accOf ⟨kind, a, b, n, 400⟩ = some acc) :
    Calls Tryz.prog 14 #[ptrV sb, .int .i64 kind, strV a, strV b, .int .i64 n] w fun e w' => ∃ ov, e = .returned (.tuple #[ov, .bool true]) ∧ Seg B w' sb D ∧ Below B w w' ∧ Cells w w' ∧
      w'.ownsRow 0 3 1 ov (docsOf D acc).length ((docsOf D acc).map intV) := by
  have HS := Lib.hid hseg
  clear hseg
  unfold ptrV strV
  go_enter Tryz.func14, Tryz.ntmps14
  go_wp2_with fail
  have hs := plainSearch_any B ⟨kind, a, b, n, 400⟩ acc 1048576 sb D w hB HS.out hD 400 rfl (by omega) (by omega) hcomp hacc (Few.great _ _ (by omega))
  unfold ptrV askV strV at hs
  refine hs.mono ?_
  clear hs
  rintro e w3 ⟨ov, rfl, hs3, hb3, hc3, hrow3⟩
  have HC3 := Lib.hid hc3
  have HS3 := Lib.hid hs3
  have HB3 := Lib.hid hb3
  have HR3 := Lib.hid hrow3
  clear hs3 hb3 hrow3
  go_wp2_with fail
  go_ret2
  exact ⟨ov, rfl, HS3.out, HB3.out, HC3.out, HR3.out⟩
end Go.Proofs.Ts
/- append of a whole slice onto nothing; a segment stands where only strings turn. -/
set_option linter.unusedVariables false
set_option linter.unusedSimpArgs false
namespace Go.Proofs.Ts
open Go Go.RowKit

section
variable {P : Program} {w : World}
theorem run_append_none (t ty e : TypeId) (i : TypeInfo) (ht : P.underlying t = some (.slice e)) (hi : P.info? e = some i) (a : Option Addr) (c : Nat) :
    (Builtin.append_ #[t, t] ty #[.slice none 0 0, .slice a 0 c]).run P w = .ok (.slice none 0 0) w := by
  cases a <;> simp [Builtin.append_, run_underlying ht, sizeOf, typeInfo, hi, Builtin.lenOf, Builtin.firstCells, loadCells, loadCellsFrom]
theorem run_append_copy (t ty e : TypeId) (i : TypeInfo) (z : Value) (size bytes : Nat) (ht : P.underlying t = some (.slice e)) (hi : P.info? e = some i) (hz : i.zero = some z)
    (hsize : i.size = size) (hby : i.bytes = bytes) (hzs : z.cells.size = size) (hsz : 0 < size)
    (a : Option Addr) (m c : Nat) (news : List Value) (hl : news.length = m * size) (hnews : ∀ j u, news[j]? = some u → ∃ b, a = some b ∧ w.cell? (b.add j) = some u) (h1 : ∀ u ∈ news, u.oneCell' = true)
    (h63 : m ≤ maxLen) (hbytes : m * bytes ≤ 140737488355328) :
    ∃ v' w', (Builtin.append_ #[t, t] ty #[.slice none 0 0, .slice a m c]).run P w = .ok v' w' ∧ w'.ownsRow 0 e size v' m news ∧ Below w.heap.size w w' ∧ Past w.heap.size v' := by
  cases m with
  | zero =>
    have hn : news = [] := List.eq_nil_of_length_eq_zero (by simpa using hl)
    subst hn
    exact ⟨_, _, run_append_none t ty e i ht hi a c, World.ownsRow_nil _ _ _ _, Below.refl _ _, fun k e => by cases e⟩
  | succ m =>
    obtain ⟨u, hu⟩ : ∃ u, news[0]? = some u := ⟨_, List.getElem?_eq_getElem (by rw [hl]; exact Nat.mul_pos (Nat.succ_pos _) hsz)⟩
    obtain ⟨b, rfl, _⟩ := hnews 0 u hu
    obtain ⟨v', w', hr, h2, h3, h4⟩ := run_append_lies (P := P) t ty e i z size bytes ht hi hz hsize hby hzs hsz (.slice none 0 0) 0 [] (World.ownsRow_nil _ _ _ _) b (m + 1) c news hl
      (fun j u hj => by obtain ⟨b', e', h'⟩ := hnews j u hj; cases e'; exact h') h1 (Nat.succ_pos _) (by omega) (by rw [Nat.zero_add]; exact hbytes)
    rw [Nat.zero_add, List.nil_append] at h2
    refine ⟨v', w', hr, h2, (Below.refl _ w).grown h3 (Nat.le_refl _) (fun k e => by cases e), fun k hk => ?_⟩
    rcases h4 with ⟨h5, _⟩ | ⟨h5, _⟩
    · rw [hk] at h5; cases h5
    · rw [hk] at h5; cases h5; exact Nat.le_refl _
theorem wpList_append_copy {ops : Array Oper} {rest : List Oper} {o : Oper} {act : Act} {Q : Exit → Act → World → Prop} (hgd : o.guard = none) (s x : Operand) (t : TypeId)
    (ho : o.op = .call { callee := .builtin .append, args := #[s, x], argTypes := #[t, t] })
    (e : TypeId) (i : TypeInfo) (z : Value) (size bytes : Nat) (ht : P.underlying t = some (.slice e)) (hi : P.info? e = some i) (hz : i.zero = some z)
    (hsize : i.size = size) (hby : i.bytes = bytes) (hzs : z.cells.size = size) (hsz : 0 < size) (hs : act.eval s = .slice none 0 0)
    (a : Option Addr) (m c : Nat) (news : List Value) (hx : act.eval x = .slice a m c) (hl : news.length = m * size) (hnews : ∀ j u, news[j]? = some u → ∃ b, a = some b ∧ w.cell? (b.add j) = some u) (h1 : ∀ u ∈ news, u.oneCell' = true)
    (h63 : m ≤ maxLen) (hbytes : m * bytes ≤ 140737488355328)
    (h : ∀ v' w', w'.ownsRow 0 e size v' m news → Below w.heap.size w w' → Past w.heap.size v' → wpList P ops Q rest (act.put o.dst v') w') : wpList P ops Q (o :: rest) act w := by
  refine wpList_plain hgd fun K hK => ?_
  obtain ⟨v', w', hr, h2, h3, h4⟩ := run_append_copy (P := P) t o.type e i z size bytes ht hi hz hsize hby hzs hsz a m c news hl hnews h1 h63 hbytes
  unfold Oper.wp execOp
  simp only [ho, resolve, invoke, builtin, Sem.run_bind, Sem.run_pure, Result.andThen_ok, List.map_toArray, List.map_cons, List.map_nil, hs, hx, hr]
  exact hK _ _ (h v' w' h2 h3 h4)
end

section
variable {w w' : World}
theorem RowsIn.strKept {B : Nat} {V : Value} {D : List DS} (h : RowsIn B w V D) (hk : ∀ (k : Nat) cs t r, w.heap[k]? = some (.cells cs t r) → t ≠ 9 → w'.heap[k]? = w.heap[k]?) : RowsIn B w' V D := by
  have go : ∀ {e size n : Nat} {v : Value} {xs : List Value}, e ≠ 9 → w.ownsRow 0 e size v n xs → w'.ownsRow 0 e size v n xs := fun he hr => ownsRow_typed hr fun k cs r hk' => hk _ _ _ _ hk' he
  exact ⟨go (by decide) h.row, h.past, fun i s hi => go (by decide) (h.erow i s hi), h.epast, h.apart, h.apartV⟩
theorem DictIs.strKept {db : Nat} {R : Nat → Prop} {Λ : Nat → List Word} {ρ : Nat → Nat} {D : List DS} (h : DictIs w db R Λ ρ D) (hk : ∀ (k : Nat) cs t r, w.heap[k]? = some (.cells cs t r) → t ≠ 9 → w'.heap[k]? = w.heap[k]?) : DictIs w' db R Λ ρ D := by
  obtain ⟨V, h1, h2⟩ := h.mem
  exact ⟨⟨V, (hk _ _ _ _ h1 (by decide)).trans h1, h2.strKept hk⟩, h.root, h.state⟩
theorem SegIs.strKept {sb : Nat} {D : List (List (List UInt8))} {kn : Value} (h : SegIs w sb D kn) (hk : ∀ (k : Nat) cs t r, w.heap[k]? = some (.cells cs t r) → t ≠ 9 → w'.heap[k]? = w.heap[k]?) : SegIs w' sb D kn := by
  obtain ⟨db, R, Λ, ρ, Dd, pv, ps, h1, h2, h3, h4, h5, h6, h7, h8⟩ := h.ex
  exact ⟨db, R, Λ, ρ, Dd, pv, ps, (hk _ _ _ _ h1 (by decide)).trans h1, h2.strKept hk, h3, h4, h5, h6, ownsRow_typed h7 fun k cs r hk' => hk _ _ _ _ hk' (by decide), fun i v x hv hx => ownsRow_typed (h8 i v x hv hx) fun k cs r hk' => hk _ _ _ _ hk' (by decide)⟩
end
end Go.Proofs.Ts
/- The walk of plain.Build: of few, short documents; the copy is turned behind it. -/
set_option linter.unusedVariables false
set_option linter.unusedSimpArgs false
namespace Go.Proofs.Ts
open Go Go.RowKit

/-- The copy, turned up to k: it lies in a block of its own; the rest of it reads as the documents. -/
def Own (ov : Value) (docs : List ByteArray) (w1 : World) (k : Nat) (w : World) : Prop :=
  Mod (fun b => ov.ownBlock = some b) w1 w ∧ ∀ og, ov.ownBlock = some og → ∃ cur : Array Value, w.heap[og]? = some (.cells cur 9 (0, 0)) ∧ ∀ j (h : j < docs.length), k ≤ j → cur[j]? = some (.string docs[j])
theorem Own.step {ov : Value} {docs : List ByteArray} {w1 w : World} {k og : Nat} {v : Value} (h : Own ov docs w1 k w) (ho : ov.ownBlock = some og) : Own ov docs w1 (k + 1) (w.setCell ⟨og, k, none⟩ v) := by
  obtain ⟨h1, h2⟩ := h
  refine ⟨h1.trans (Mod.setCell w ⟨og, k, none⟩ v fun _ => ho), fun og' ho' => ?_⟩
  obtain rfl : og = og' := Option.some.inj (ho.symm.trans ho')
  obtain ⟨cur, h3, h4⟩ := h2 og ho
  refine ⟨_, heap_setCell_same w og k _ _ _ h3, fun j hj hk => ?_⟩
  rw [Array.getElem?_setIfInBounds_ne (by omega)]
  exact h4 j hj (by omega)
theorem Own.same {ov : Value} {docs : List ByteArray} {w1 w w' : World} {k : Nat} (h : Own ov docs w1 k w) (hs : Same w w') : Own ov docs w1 k w' := by
  obtain ⟨n, rfl⟩ := hs
  exact ⟨h.1.trans (Mod.same (Same.drewN w n)), h.2⟩
theorem ownsRow_strs {w : World} {ov : Value} {docs : List ByteArray} (h : w.ownsRow 0 9 1 ov docs.length (docs.map Value.string)) : StrsIs w ov docs := by
  obtain ⟨a, cap, rfl⟩ := ownsRow_form h
  refine ⟨a, cap, rfl, fun i hi => ?_⟩
  obtain ⟨g, cap', e, hc⟩ := ownsRow_cell h (j := i) (u := .string docs[i]) (by simp [hi])
  simp only [Value.slice.injEq, true_and] at e
  obtain ⟨rfl, rfl⟩ := e
  exact ⟨g, 0, rfl, by rw [Nat.zero_add]; exact hc⟩

set_option maxRecDepth 100000 in
set_option maxHeartbeats 2000000 in
theorem plainBuild_any (docs : List ByteArray) (v : Value) (w : World) (hv : StrsIs w v docs) (h48 : docs.length ≤ 48) (h200 : ∀ d ∈ docs, d.size ≤ 200) :
    Calls Tryz.prog 21 #[v] w fun e w' => ∃ sb, e = .returned (.tuple #[ptrV sb, .int .i64 0, .bool true]) ∧ Below w.heap.size w w' ∧ Seg w.heap.size w' sb (docs.map wordsB) := by
  obtain ⟨a, cap, rfl, hc⟩ := hv
  obtain ⟨i0, hi, hz0, hz1, hz2⟩ := info_parts Tryz.info9
  have HC := Lib.hid hc
  have H200 := Lib.hid h200
  clear hc h200
  go_enter Tryz.func21, Tryz.ntmps21
  go_wp2_with (at_builtin; refine wpList_append_copy rfl _ _ 22 rfl 9 i0 (.string ⟨#[]⟩) 1 16 Tryz.underlying22 hi hz0 hz1 hz2 rfl (by decide) rfl a docs.length cap (docs.map Value.string) rfl (by simp) ?c1 (by simp [Value.oneCell']) (by unfold maxLen; omega) (by omega) ?_)
  case c1 =>
    intro j u hj
    rw [List.getElem?_map] at hj
    obtain ⟨d, hd, rfl⟩ := Option.map_eq_some_iff.1 hj
    obtain ⟨hjl, hd⟩ := List.getElem?_eq_some_iff.1 hd
    obtain ⟨b, off, rfl, hcell⟩ := HC.out j hjl
    refine ⟨_, rfl, ?_⟩
    rw [← hd]
    by_cases h0 : j = 0
    · subst h0; simpa [Addr.add] using hcell
    · simpa [Addr.add, h0] using hcell
  intro ov w1 hrow hb1 hpast
  have hs1 := ownsRow_strs hrow
  obtain ⟨oa, oc, rfl⟩ := ownsRow_form hrow
  have HROW := Lib.hid hrow
  have HB1 := Lib.hid hb1
  have HP := Lib.hid hpast
  clear hrow hb1 hpast hi hz0 hz1 hz2
  go_wp2_with fail
  refine (build_any docs _ w1 hs1 h48 H200.out).mono ?_
  rintro e w2 ⟨sb, rfl, hsb, hb2, hseg2⟩
  have HB2 := Lib.hid hb2
  have HS2 := Lib.hid hseg2
  clear hs1 hb2 hseg2
  unfold ptrV
  go_wp2_with fail
  refine (told_nil w2).mono ?_
  rintro e w3 ⟨rfl, hb3⟩
  have HB3 := Lib.hid hb3
  clear hb3
  go_wp2_with fail
  have hb13 : Below w1.heap.size w1 w3 := HB2.out.trans (HB3.out.mono HB2.out.size)
  have hown : Own (.slice oa docs.length oc) docs w3 0 w3 := ⟨Mod.refl _ _, fun og ho => by
    rcases HROW.out.2 with ⟨h, _⟩ | ⟨g, cap', cur, h, _, hg, _, _, hcs, htake⟩
    · rw [h] at ho; cases ho
    · rw [h] at ho
      cases ho
      refine ⟨cur, (hb13.block _ (lt_of_heap hg)).trans hg, fun j hj _ => ?_⟩
      have h1 : (docs.map Value.string)[j]? = some (.string docs[j]) := by simp [hj]
      rw [← htake] at h1
      rw [List.getElem?_take_of_lt (by simp; omega)] at h1
      simpa using h1⟩
  have HOWN := Lib.hid hown
  have HB13 := Lib.hid hb13
  clear hown hb13
  go_loopw [10, 26] (fun sm i wr => ∃ k : Nat, k ≤ docs.length ∧ i = .int .i64 k ∧ sm = .bool true ∧ Hid (Own (.slice oa docs.length oc) docs w3 k wr)) (fun _ i _ => docs.length - (intOf i).toNat)
  case atStart => exact ⟨0, Nat.zero_le _, rfl, rfl, HOWN⟩
  case round =>
    obtain ⟨k, hk, rfl, rfl, HO⟩ := hrel
    by_cases hlt : k < docs.length
    · obtain ⟨b, off, rfl, hcell⟩ := HC.out k hlt
      obtain ⟨g, cap', e, _⟩ := ownsRow_cell HROW.out (j := k) (u := .string docs[k]) (by simp [hlt])
      simp only [Value.slice.injEq, true_and] at e
      obtain ⟨rfl, rfl⟩ := e
      have hgw : w.heap.size ≤ g := HP.out g rfl
      have hbl := lt_of_cell hcell
      have hs1 := HB1.out.size
      have hs3 := HB13.out.size
      obtain ⟨cur, hcur, hrest⟩ := HO.out.2 g rfl
      have c1 : wr.cell? ⟨b, off + k, none⟩ = some (.string docs[k]) := by
        have h1 := (HB1.out.cell (p := ⟨b, off + k, none⟩) hbl).trans hcell
        have h2 := (HB13.out.cell (p := ⟨b, off + k, none⟩) (by simp only; omega)).trans h1
        exact (HO.out.1.cell (p := ⟨b, off + k, none⟩) (by simp only; omega) (fun h => by have h9 : g = b := Option.some.inj h; omega)).trans h2
      have c2 : wr.cell? ⟨g, k, none⟩ = some (.string docs[k]) := (cell_block hcur).trans (hrest k hlt (Nat.le_refl _))
      have c3 : wr.frozen? ⟨g, k, none⟩ = false := free_block hcur
      have q1 : (docs[k] == docs[k]) = true := by rw [beq_toListBytes]; simp
      clear hcell hrest
      go_wp2_with fail
      go_quiet (fail)
      go_wp2_with fail
      exact ⟨⟨k + 1, by omega, by go_num, rfl, (HO.out.same (Same.drewN _ _)).step rfl⟩, by simp [intOf]; omega⟩
    · obtain rfl : k = docs.length := by omega
      go_wp2_with fail
      go_ret3
      have hs1 := HB1.out.size
      have hs3 := HB13.out.size
      have hmod := HO.out.1
      refine ⟨sb, rfl, (HB1.out.trans (HB13.out.mono hs1)).trans (hmod.toBelow (by omega) fun k h => HP.out k h), by omega, .map none, ?_, .inl rfl⟩
      have hs3' : SegIs w3 sb (docs.map wordsB) (.map none) := by
        obtain ⟨db, R, Λ, ρ, Dd, pv, ps, hat⟩ := HS2.out.at
        exact (hat.below HB3.out).is
      refine hs3'.strKept fun k cs t r h ht => hmod.block k (lt_of_heap h) fun ho => ht ?_
      obtain ⟨cur, hcur⟩ := ownsRow_cells4 HROW.out ho
      have hcur3 := (HB13.out.block _ (lt_of_heap hcur)).trans hcur
      rw [h] at hcur3
      cases hcur3
      rfl
end Go.Proofs.Ts
/- The walk of fixed: a segment of documents of its own answers as it must. -/
set_option linter.unusedVariables false
set_option linter.unusedSimpArgs false
namespace Go.Proofs.Ts
open Go Go.RowKit

def docs4 : List ByteArray := [⟨#[111, 110, 101, 32, 116, 119, 111]⟩, ⟨#[84, 119, 111, 32, 116, 104, 114, 101, 101]⟩, ⟨#[]⟩, ⟨#[116, 104, 114, 101, 101]⟩]
theorem docs4_words : docs4.map wordsB = [[[111, 110, 101], [116, 119, 111]], [[116, 119, 111], [116, 104, 114, 101, 101]], [], [[116, 104, 114, 101, 101]]] := by decide
theorem docs4_two : docsOf (docs4.map wordsB) (fun u => decide (u = [116, 119, 111])) = [0, 1] := by rw [docs4_words]; decide
theorem docs4_t : docsOf (docs4.map wordsB) (fun u => decide ([116] <+: u)) = [0, 1, 3] := by rw [docs4_words]; decide
theorem Few.flat {D : List (List (List UInt8))} (acc : List UInt8 → Bool) {most : Nat} (h : D.flatten.length ≤ most) : Few D acc most := fun T hr hm _ => by
  have h1 : (hits acc T 0).length ≤ T.length := by unfold hits; exact Nat.le_trans (List.length_filter_le _ _) (by simp)
  have h2 : T.length ≤ D.flatten.length := nodup_le T D.flatten (hr.imp fun h e => by subst e; exact List.lt_irrefl _ h) fun x hx => by
    obtain ⟨j, hj⟩ := List.exists_mem_of_ne_nil _ ((hm x).1 hx)
    obtain ⟨ws, h3, h4⟩ := (postsOf_mem _ _ _).1 hj
    exact List.mem_flatten.2 ⟨ws, List.mem_of_getElem? h3, h4⟩
  omega

set_option maxRecDepth 100000 in
set_option maxHeartbeats 2000000 in
theorem fixed_any (w : World) : Calls Tryz.prog 19 #[] w fun e w' => e = .returned (.bool true) ∧ Below w.heap.size w w' := by
  go_enter Tryz.func19, Tryz.ntmps19
  go_wp2_with fail
  have hst : StrsIs (w.alloc (.cells (docs4.map Value.string).toArray 9)) (.slice (some ⟨w.heap.size, 0, none⟩) 4 4) docs4 := by
    refine ⟨_, _, rfl, fun i hi => ⟨_, _, rfl, ?_⟩⟩
    rw [Nat.zero_add, cell_block (heap_alloc_new w _)]
    simp [hi]
  have hal : Below w.heap.size w (w.alloc (.cells (docs4.map Value.string).toArray 9)) := (Below.refl _ w).alloc (Nat.le_refl _) _
  have hW : (w.alloc (.cells #[.string ⟨#[111, 110, 101, 32, 116, 119, 111]⟩, .string ⟨#[84, 119, 111, 32, 116, 104, 114, 101, 101]⟩, .string ⟨#[]⟩, .string ⟨#[116, 104, 114, 101, 101]⟩] 9)) = w.alloc (.cells (docs4.map Value.string).toArray 9) := rfl
  rw [hW]
  clear hW
  generalize w.alloc (.cells (docs4.map Value.string).toArray 9) = w1 at *
  refine (plainBuild_any docs4 _ w1 hst (by decide) (by decide)).mono ?_
  rintro e w2 ⟨sb, rfl, hb2, hs2⟩
  have HAL := Lib.hid hal
  have HB2 := Lib.hid hb2
  have HS2 := Lib.hid hs2
  clear hal hb2 hs2 hst
  unfold ptrV
  go_wp2_with fail
  have hq1 := plainSearch_any w1.heap.size ⟨1, [116, 119, 111], [], 0, 10⟩ (fun u => decide (u = [116, 119, 111])) 10 sb (docs4.map wordsB) w2 HB2.out.size HS2.out (by decide) 10 rfl (by omega) (by omega) (compile_one (by decide)) rfl (Few.flat _ (by rw [docs4_words]; decide))
  rw [docs4_two] at hq1
  unfold ptrV askV strV at hq1
  refine hq1.mono ?_
  clear hq1
  rintro e w3 ⟨o1, rfl, hs3, hb3, hc3, hr3⟩
  obtain ⟨g1, cap1, rfl⟩ := ownsRow_head (n := 1) hr3
  have HS3 := Lib.hid hs3
  have HB3 := Lib.hid hb3
  have HR3 := Lib.hid hr3
  clear hs3 hb3 hc3 hr3
  go_wp2_with fail
  have hq2 := plainSearch_any w1.heap.size ⟨2, [116], [], 0, 10⟩ (fun u => decide ([116] <+: u)) 10 sb (docs4.map wordsB) w3 (Nat.le_trans HB2.out.size HB3.out.size) HS3.out (by decide) 10 rfl (by omega) (by omega) (compile_two (by decide)) rfl (Few.flat _ (by rw [docs4_words]; decide))
  rw [docs4_t] at hq2
  unfold ptrV askV strV at hq2
  refine hq2.mono ?_
  clear hq2
  rintro e w4 ⟨o2, rfl, hs4, hb4, hc4, hr4⟩
  obtain ⟨g2, cap2, rfl⟩ := ownsRow_head (n := 2) hr4
  have hr3' : w4.ownsRow 0 3 1 (.slice (some ⟨g1, 0, none⟩) 2 cap1) 2 [intV 0, intV 1] := ownsRow_typed HR3.out fun k cs r hk => hc4.2 k cs _ r hk (by decide)
  have a0 : w4.cell? ⟨g1, 0, none⟩ = some (.int .i64 0) := hr3'.cells (g := g1) rfl 0 _ rfl
  have a1 : w4.cell? ⟨g1, 1, none⟩ = some (.int .i64 1) := hr3'.cells (g := g1) rfl 1 _ rfl
  have b2 : w4.cell? ⟨g2, 2, none⟩ = some (.int .i64 3) := hr4.cells (g := g2) rfl 2 _ rfl
  have hb : Below w.heap.size w w4 := HAL.out.trans (((HB2.out).trans (HB3.out.trans hb4)).mono HAL.out.size)
  have HB := Lib.hid hb
  clear hs4 hb4 hc4 hr4 hr3' hb
  go_wp2_with fail
  go_ret
  exact ⟨rfl, HB.out⟩
end Go.Proofs.Ts
/- The walks of build and Found. -/
set_option linter.unusedVariables false
set_option linter.unusedSimpArgs false
namespace Go.Proofs.Ts
open Go Go.RowKit

theorem StrsIs.below {w w' : World} {v : Value} {ss : List ByteArray} (h : StrsIs w v ss) (hb : Below w.heap.size w w') : StrsIs w' v ss := by
  obtain ⟨a, cap, rfl, hc⟩ := h
  refine ⟨a, cap, rfl, fun i hi => ?_⟩
  obtain ⟨b, off, e, h1⟩ := hc i hi
  exact ⟨b, off, e, (hb.cell (p := ⟨b, off + i, none⟩) (lt_of_cell h1)).trans h1⟩
theorem Seg.mono {B B' : Nat} {w : World} {sb : Nat} {D : List (List (List UInt8))} (h : Seg B w sb D) (hB : B' ≤ B) : Seg B' w sb D := by
  obtain ⟨h1, kn, h2, h3⟩ := h
  refine ⟨by omega, kn, h2, ?_⟩
  rcases h3 with h3 | ⟨km, m, e, h4, h5⟩
  · exact .inl h3
  · exact .inr ⟨km, m, e, by omega, h5⟩

set_option maxRecDepth 100000 in
set_option maxHeartbeats 2000000 in
theorem keepBuild_any (docs : List ByteArray) (v : Value) (w : World) (hv : StrsIs w v docs) (hl : docs.length ≤ 9223372036854775807) :
    Calls Tryz.prog 12 #[v] w fun e w' => Below w.heap.size w w' ∧
      ((smallW docs = false ∧ e = .returned (.tuple #[.pointer none, .bool true])) ∨ (smallW docs = true ∧ ∃ sb, e = .returned (.tuple #[ptrV sb, .bool true]) ∧ Seg w.heap.size w' sb (docs.map wordsB))) := by
  have HV := Lib.hid hv
  clear hv
  go_enter Tryz.func12, Tryz.ntmps12
  go_wp2_with fail
  refine (fixed_any w).mono ?_
  rintro e w1 ⟨rfl, hb1⟩
  have HB1 := Lib.hid hb1
  clear hb1
  go_wp2_with fail
  refine (small_any v docs w1 (HV.out.below HB1.out) hl).mono ?_
  rintro e w2 ⟨rfl, hs2⟩
  have hb2 : Below w.heap.size w w2 := HB1.out.trans (hs2.below _)
  have HB2 := Lib.hid hb2
  clear hb2 hs2
  cases hsm : smallW docs with
  | false =>
    go_wp2_with fail
    go_ret2
    exact ⟨HB2.out, .inl ⟨hsm, rfl⟩⟩
  | true =>
    have hparts : docs.length ≤ 48 ∧ ∀ d ∈ docs, d.size ≤ 200 := by
      unfold smallW at hsm
      simpa using hsm
    have HP := Lib.hid hparts
    have HSM := Lib.hid hsm
    clear hparts hsm
    go_wp2_with fail
    refine (plainBuild_any docs v w2 (HV.out.below HB2.out) HP.out.1 HP.out.2).mono ?_
    rintro e w3 ⟨sb, rfl, hb3, hs3⟩
    have HB3 := Lib.hid hb3
    have HS3 := Lib.hid hs3
    clear hb3 hs3
    unfold ptrV
    go_wp2_with fail
    go_ret2
    exact ⟨HB2.out.trans (HB3.out.mono HB2.out.size), .inr ⟨HSM.out, sb, rfl, HS3.out.mono HB2.out.size⟩⟩

/-- What has the word is what is found. -/
theorem docsOf_has {docs : List ByteArray} {x : List UInt8} (hx : wordW x = true) : docsOf (docs.map wordsB) (fun u => decide (u = x)) = (List.range docs.length).filter fun d => hasW ((docs.getD d ⟨#[]⟩).data.toList) x := by
  unfold docsOf
  rw [List.length_map]
  apply List.filter_congr
  intro d hd
  rw [List.mem_range] at hd
  unfold wordW at hx
  simp only [Bool.and_eq_true, decide_eq_true_eq, List.all_eq_true] at hx
  obtain ⟨⟨h1, h2⟩, h3⟩ := hx
  have hne : x ≠ [] := List.length_pos_iff.1 h2
  have hb : ∀ c ∈ x, isBlank c = false := fun c hc => by
    have := h1 c hc
    unfold wordCh at this
    simp only [Bool.and_eq_true, Bool.not_eq_true'] at this
    exact this.1
  rw [Bool.eq_iff_iff, hasW_iff _ _ hne hb, List.getD_eq_getElem?_getD, List.getElem?_map, List.getElem?_eq_getElem hd, List.getD_eq_getElem?_getD, List.getElem?_eq_getElem hd]
  simp only [Option.map_some, Option.getD_some, List.any_eq_true, decide_eq_true_eq, exists_eq_right]
  unfold wordsB
  rw [List.mem_filter]
  simp only [decide_eq_true_eq]
  exact ⟨fun h => h.1, fun h => ⟨h, h3⟩⟩
def foundTo (docs : List ByteArray) (x : List UInt8) (i : Nat) : List Nat := (List.range i).filter fun d => hasW ((docs.getD d ⟨#[]⟩).data.toList) x
theorem foundTo_succ (docs : List ByteArray) (x : List UInt8) (i : Nat) (h : i < docs.length) : foundTo docs x (i + 1) = foundTo docs x i ++ (if hasW (docs[i]).data.toList x then [i] else []) := by
  unfold foundTo
  rw [List.range_succ, List.filter_append, List.filter_cons, List.getD_eq_getElem?_getD, List.getElem?_eq_getElem h]
  rfl
theorem foundTo_at (docs : List ByteArray) (x : List UInt8) (i : Nat) (h : i < docs.length) (hh : hasW (docs[i]).data.toList x = true) : (foundTo docs x docs.length)[(foundTo docs x i).length]? = some i := by
  have h1 : foundTo docs x docs.length = foundTo docs x (i + 1) ++ ((List.range' (i + 1) (docs.length - (i + 1))).filter fun d => hasW ((docs.getD d ⟨#[]⟩).data.toList) x) := by
    unfold foundTo
    rw [← List.filter_append]
    congr 1
    rw [List.range_eq_range', List.range_eq_range']
    have h2 := List.range'_append_1 (s := 0) (m := i + 1) (n := docs.length - (i + 1))
    rw [Nat.zero_add, show i + 1 + (docs.length - (i + 1)) = docs.length by omega] at h2
    exact h2.symm
  rw [h1, foundTo_succ docs x i h, if_pos hh]
  simp

set_option maxRecDepth 100000 in
set_option maxHeartbeats 2000000 in
theorem found_any (docs : List ByteArray) (s : ByteArray) (v : Value) (w : World) (hv : StrsIs w v docs) (hl : docs.length ≤ 9223372036854775807) (hs : s.size ≤ 9223372036854775807) :
    Calls Tryz.prog 3 #[v, .string s] w fun e w' => e = .returned (.bool true) ∧ Below w.heap.size w w' := by
  obtain ⟨va, vc, rfl, hc⟩ := id hv
  obtain ⟨x, rfl⟩ : ∃ x : List UInt8, s = ⟨x.toArray⟩ := ⟨s.data.toList, by cases s; simp⟩
  have HV := Lib.hid hv
  clear hv hc
  go_enter Tryz.func3, Tryz.ntmps3
  go_wp2_with fail
  refine (keepBuild_any docs _ w HV.out hl).mono ?_
  rintro e w1 ⟨hb1, hres⟩
  have HB1 := Lib.hid hb1
  clear hb1
  rcases hres with ⟨_, rfl⟩ | ⟨hsm, sb, rfl, hs1⟩
  · go_wp2_with fail
    go_ret
    exact ⟨rfl, HB1.out⟩
  · have hparts : docs.length ≤ 48 ∧ ∀ d ∈ docs, d.size ≤ 200 := by
      unfold smallW at hsm
      simpa using hsm
    obtain ⟨h48, h200⟩ := hparts
    have HS1 := Lib.hid hs1
    have H200 := Lib.hid h200
    clear hs1 hsm h200
    unfold ptrV
    go_wp2_with fail
    refine (word_any _ w1 hs).mono ?_
    rintro e w2 ⟨rfl, hw2⟩
    have hb2 : Below w1.heap.size w1 w2 := hw2.below _
    have HB2 := Lib.hid hb2
    clear hb2 hw2
    simp only [List.toList_toArray]
    cases hw : wordW x with
    | false =>
      go_wp2_with fail
      go_ret
      exact ⟨rfl, HB1.out.trans (HB2.out.mono HB1.out.size)⟩
    | true =>
      have hx16 : x.length ≤ 16 := by
        unfold wordW at hw
        simp only [Bool.and_eq_true, decide_eq_true_eq] at hw
        exact hw.2
      have HW := Lib.hid hw
      clear hw
      go_wp2_with fail
      have hask := ask_any w.heap.size 1 0 x [] (fun u => decide (u = x)) sb (docs.map wordsB) w2 (Nat.le_trans HB1.out.size HB2.out.size) (HS1.out.below HB2.out) (by simp; omega) (compile_one (by omega)) (by simp [accOf]; omega)
      rw [docsOf_has HW.out] at hask
      unfold ptrV strV at hask
      refine hask.mono ?_
      clear hask
      rintro e w3 ⟨ov, rfl, hs3, hb3, hc3, hr3⟩
      have hr3' : w3.ownsRow 0 3 1 ov (foundTo docs x docs.length).length ((foundTo docs x docs.length).map intV) := hr3
      obtain ⟨oa, oc, rfl⟩ := ownsRow_form hr3'
      have hb13 : Below w.heap.size w w3 := HB1.out.trans ((HB2.out.mono HB1.out.size).trans hb3)
      have HB3 := Lib.hid hb13
      have HR3 := Lib.hid hr3'
      have HV3 := Lib.hid (HV.out.below hb13)
      clear hs3 hb3 hc3 hr3 hr3' hb13
      obtain ⟨n, hn⟩ : ∃ n, n = (foundTo docs x docs.length).length := ⟨_, rfl⟩
      have HN := Lib.hid hn
      rw [← hn]
      clear hn
      go_wp2_with fail
      go_loopw [9, 10] (fun k i wr => ∃ j : Nat, j ≤ docs.length ∧ i = .int .i64 j ∧ k = .int .i64 ((foundTo docs x j).length : Nat) ∧ Same w3 wr) (fun _ i _ => docs.length - (intOf i).toNat)
      case atStart => exact ⟨0, Nat.zero_le _, rfl, rfl, Same.refl _⟩
      case round =>
        obtain ⟨j, hj, rfl, rfl, hS⟩ := hrel
        by_cases hlt : j < docs.length
        · obtain ⟨_, _, e, hcells⟩ := HV3.out
          simp only [Value.slice.injEq, true_and] at e
          obtain ⟨rfl, rfl⟩ := e
          obtain ⟨b, off, rfl, hcell⟩ := hcells j hlt
          have c1 := (hS.cell ⟨b, off + j, none⟩).trans hcell
          have hd := H200.out docs[j] (List.getElem_mem _)
          have hle := foundTo_succ docs x j hlt
          have HLE := Lib.hid hle
          have hat := foundTo_at docs x j hlt
          have HAT := Lib.hid hat
          clear hcell hcells hle hat
          go_wp2_with fail
          refine (has_any docs[j] ⟨x.toArray⟩ wr (by omega) (by simp [ByteArray.size]; omega)).mono ?_
          rintro e w5 ⟨rfl, hS5⟩
          simp only [List.toList_toArray]
          have hS35 := hS.trans hS5
          cases hh : hasW (docs[j]).data.toList x with
          | false =>
            have HE : Hid (foundTo docs x (j + 1) = foundTo docs x j) := Lib.hid (by rw [HLE.out, hh]; simp)
            go_wp2_with fail
            exact ⟨⟨j + 1, by omega, by go_num, by rw [HE.out], hS35⟩, by simp [intOf]; omega⟩
          | true =>
            have hat := HAT.out hh
            have HE : Hid (foundTo docs x (j + 1) = foundTo docs x j ++ [j]) := Lib.hid (by rw [HLE.out, hh]; simp)
            obtain ⟨g, cap', e, hcl⟩ := ownsRow_cell HR3.out (j := (foundTo docs x j).length) (u := intV j) (by rw [List.getElem?_map, hat]; rfl)
            simp only [Value.slice.injEq, true_and] at e
            obtain ⟨rfl, rfl⟩ := e
            have hlen := (List.getElem?_eq_some_iff.1 hat).1
            have c2 : w5.cell? ⟨g, (foundTo docs x j).length, none⟩ = some (.int .i64 j) := (hS35.cell _).trans hcl
            obtain ⟨m, hm⟩ : ∃ m, m = (foundTo docs x j).length := ⟨_, rfl⟩
            rw [← hm] at c2 hlen ⊢
            rw [← HN.out] at hlen
            have HM := Lib.hid hm
            clear hm hat hcl
            have hml : m ≤ 48 := by
              have h1 : (foundTo docs x j).length ≤ j := by unfold foundTo; exact Nat.le_trans (List.length_filter_le _ _) (by simp)
              rw [← HM.out] at h1
              omega
            go_wp2_with fail
            exact ⟨⟨j + 1, by omega, by go_num, by rw [HE.out, List.length_append, ← HM.out]; simp, hS35⟩, by simp [intOf]; omega⟩
        · obtain rfl : j = docs.length := by omega
          rw [← HN.out]
          go_wp2_with fail
          go_ret
          exact ⟨rfl, HB3.out.trans (hS.below _)⟩
end Go.Proofs.Ts
