/- Lemmas towards the statement Changed of termsearch: walks of the program's functions and plain laws on lists (TsFrom, TsTerms, TsRowC). Conditions: those that each theorem names. -/
import Derived.Test.YtglafkgakcfahaaGreatDoorChangedPF
import Derived.Test.YtglafkgakcfahaaGreatDoorChangedPA
import Derived.Deep.CutBlock
import Derived.Maps.AppendAt
import Derived.Deep.DeepCutAuto
import Derived.Test.YtglafkgakcfahaaGreatDoorChangedPE
import Derived.Sort.OwnSorted
/- The walk of dict.From, up to the graph of nodes. -/
set_option linter.unusedVariables false
set_option linter.unusedSimpArgs false
set_option linter.unusedSectionVars false
namespace Go.Proofs.Ts
open Go Go.RowKit

/-- The word ahead of number k. -/
def lastW (ts : List ByteArray) (k : Nat) : List UInt8 := if k = 0 then [] else (ts.getD (k - 1) ByteArray.empty).data.toList
def listsOf (ts : List ByteArray) : List Word := ts.map fun t => t.data.toList
/-- How far the beginnings of two words are one, and they part there. -/
def Stop (t u : List UInt8) (p : Nat) : Prop := p ≤ t.length ∧ p ≤ u.length ∧ t.take p = u.take p ∧ (p = t.length ∨ p = u.length ∨ t.getD p 0 ≠ u.getD p 0)
theorem common_succ (t u : ByteArray) (q : Nat) (h1 : q < t.size) (h2 : q < u.size) (h : t[q] = u[q]) (hc : t.data.toList.take q = u.data.toList.take q) : t.data.toList.take (q + 1) = u.data.toList.take (q + 1) := by
  rw [take_succ_str t q h1, take_succ_str u q h2, hc, h]
theorem getD_str' (s : ByteArray) (k : Nat) (h : k < s.size) : s.data.toList.getD k 0 = s[k] := getD_str s k h

theorem start_in (w : World) : StIn w.heap.size (w.heap.size + 1 + 1) w.heap.size (w.heap.size + 1)
    ((((w.alloc (.map #[] 0)).alloc (.map #[] 0)).alloc (.cells #[.map (some w.heap.size), .map (some (w.heap.size + 1))] 188)).alloc (.cells #[.bool false, .slice none 0 0] 192)) (start (w.heap.size + 1 + 1 + 1)) := by
  have only : ∀ b nd, (start (w.heap.size + 1 + 1 + 1)).G b = some nd → b = w.heap.size + 1 + 1 + 1 ∧ nd = ⟨false, [], .slice none 0 0⟩ := fun b nd h => by
    simp only [start, upd] at h
    split at h
    · rename_i e; cases h; exact ⟨e, rfl⟩
    · cases h
  refine ⟨⟨fun b nd h => ?_, fun b nd h => ?_, fun b nd h => ?_, fun b b' nd nd' g hne h h' => ?_⟩, by omega, by omega, by omega, by omega, ?_, ?_, ?_, (fun p hp => by cases hp), (fun p hp => by cases hp), fun b nd h p hp => ?_⟩
  · obtain ⟨rfl, rfl⟩ := only b nd h
    exact ⟨by omega, fun k e => by cases e⟩
  · obtain ⟨rfl, rfl⟩ := only b nd h
    have := heap_alloc_new (((w.alloc (.map #[] 0)).alloc (.map #[] 0)).alloc (.cells #[.map (some w.heap.size), .map (some (w.heap.size + 1))] 188)) (.cells #[.bool false, .slice none 0 0] 192)
    simpa using this
  · obtain ⟨rfl, rfl⟩ := only b nd h
    exact World.ownsRow_nil _ _ _ _
  · obtain ⟨rfl, rfl⟩ := only b nd h
    obtain ⟨rfl, rfl⟩ := only b' nd' h'
    exact absurd rfl hne
  · rw [Below.heap_alloc _ _ _ (by simp <;> omega)]
    have := heap_alloc_new ((w.alloc (.map #[] 0)).alloc (.map #[] 0)) (.cells #[.map (some w.heap.size), .map (some (w.heap.size + 1))] 188)
    simpa using this
  · refine (MapIs.made shapeV w).of_block ?_
    rw [Below.heap_alloc _ _ _ (by simp <;> omega), Below.heap_alloc _ _ _ (by simp <;> omega), Below.heap_alloc _ _ _ (by simp <;> omega)]
  · have := MapIs.made ptrV (w.alloc (.map #[] 0))
    have hs : (w.alloc (.map #[] 0)).heap.size = w.heap.size + 1 := by simp
    rw [hs] at this
    refine this.of_block ?_
    rw [Below.heap_alloc _ _ _ (by simp <;> omega), Below.heap_alloc _ _ _ (by simp <;> omega)]
  · obtain ⟨rfl, rfl⟩ := only b nd h
    cases hp
theorem start_below (w : World) : Below w.heap.size w
    ((((w.alloc (.map #[] 0)).alloc (.map #[] 0)).alloc (.cells #[.map (some w.heap.size), .map (some (w.heap.size + 1))] 188)).alloc (.cells #[.bool false, .slice none 0 0] 192)) :=
  ((((Below.refl _ w).alloc (Nat.le_refl _) _).alloc (by simp) _).alloc (by simp; omega) _).alloc (by simp; omega) _

theorem start_bare (root : Nat) : Bare (start root) root [] [] := by
  intro nd h
  simp only [nodeAt, start, upd, List.length_nil, List.getD_cons_zero, if_true] at h
  cases h
  rfl
theorem start_small (root : Nat) : Small (start root) where
  edges := fun b nd h => by
    simp only [start, upd] at h
    split at h
    · cases h; simp
    · cases h
  ids := fun p hp => by cases hp
  len := by simp [start]
/-- The cells by which one goes down the spine. -/
theorem spine_cells {B bb kb ib : Nat} {w : World} {s : St} {root : Nat} {u : List UInt8} {ns : List Nat} {W : List Word} (h : StIn B bb kb ib w s) (hf : FI s root u ns W) (hsm : Small s) {i : Nat} (hi : i < u.length) :
    ∃ g cap m, w.cell? ⟨nodeAt root ns i, 1, none⟩ = some (.slice (some ⟨g, 0, none⟩) (m + 1) cap) ∧ w.cell? ⟨g, m * 2 + 1, none⟩ = some (.pointer (some ⟨nodeAt root ns (i + 1), 0, none⟩)) ∧ m ≤ 300 := by
  obtain ⟨nd, es, hG, he⟩ := hf.step hi
  obtain ⟨g, cap, e1, _, e3⟩ := h.edgeCells hG (i := es.length) (c := u.getD i 0) (t := nodeAt root ns (i + 1)) (by rw [he]; simp)
  obtain ⟨_, a, cap', f1, f2⟩ := h.nodeCells hG
  have hl : nd.edges.length = es.length + 1 := by rw [he]; simp
  rw [e1, hl] at f1
  simp only [Value.slice.injEq] at f1
  obtain ⟨rfl, _, rfl⟩ := f1
  rw [hl] at f2
  exact ⟨g, cap, es.length, f2, e3, by have := hsm.edges _ nd hG; omega⟩

theorem Tryz.info194 : (Tryz.prog.info? 194).map (fun i => (i.zero, i.size, i.bytes)) = some (some (.agg #[.int .u8 0, .pointer none]), 2, 16) := by kernel_rfl
theorem lastW_len (ts : List ByteArray) (h : ∀ t ∈ ts, 0 < t.size ∧ t.size ≤ 16) (k : Nat) (hk : k ≤ ts.length) : (lastW ts k).length ≤ 16 := by
  unfold lastW
  split
  · simp
  · have hlt : k - 1 < ts.length := by omega
    rw [List.getD_eq_getElem?_getD, List.getElem?_eq_getElem hlt, Option.getD_some]
    have := (h _ (List.getElem_mem hlt)).2
    simpa using this
theorem lastW_lt (ts : List ByteArray) (h : ∀ t ∈ ts, 0 < t.size ∧ t.size ≤ 16) (ha : ts.Pairwise fun a b => a.data.toList < b.data.toList) (k : Nat) (hk : k < ts.length) : lastW ts k < ts[k].data.toList := by
  unfold lastW
  split
  · rename_i h0
    have hp := (h _ (List.getElem_mem hk)).1
    have hne : ts[k].data.toList ≠ [] := by
      intro e
      have hl := congrArg List.length e
      rw [Array.length_toList, List.length_nil] at hl
      have : ts[k].size = ts[k].data.size := rfl
      omega
    cases hh : ts[k].data.toList with
    | nil => exact absurd hh hne
    | cons x r => exact List.nil_lt_cons x r
  · have hlt : k - 1 < ts.length := by omega
    rw [List.getD_eq_getElem?_getD, List.getElem?_eq_getElem hlt, Option.getD_some]
    exact List.pairwise_iff_getElem.1 ha (k - 1) k hlt hk (by omega)
/-- A greater word parts from the one ahead within itself, and upward. -/
theorem stop_lt : ∀ (u t : List UInt8) (p : Nat), u < t → Stop t u p → p < t.length ∧ (p < u.length → u.getD p 0 < t.getD p 0)
  | [], t, p, h, hs => by
    obtain ⟨h1, h2, h3, h4⟩ := hs
    simp at h2
    subst h2
    cases t with
    | nil => exact absurd h (List.lt_irrefl [])
    | cons x r => simp
  | c :: u, [], p, h, hs => absurd h (List.not_lt_nil _)
  | c :: u, d :: t, 0, h, hs => by
    obtain ⟨h1, h2, h3, h4⟩ := hs
    have hne : c ≠ d := by
      rcases h4 with h4 | h4 | h4
      · simp at h4
      · simp at h4
      · simpa using Ne.symm h4
    refine ⟨by simp, fun _ => ?_⟩
    rw [List.cons_lt_cons_iff] at h
    simpa [hne] using h
  | c :: u, d :: t, p + 1, h, hs => by
    obtain ⟨h1, h2, h3, h4⟩ := hs
    simp only [List.take_succ_cons, List.cons.injEq] at h3
    obtain ⟨rfl, h3⟩ := h3
    have hlt : u < t := by
      rw [List.cons_lt_cons_iff] at h
      rcases h with h | h
      · exact absurd h (by simp)
      · exact h.2
    have ih := stop_lt u t p hlt ⟨by simpa using h1, by simpa using h2, h3, by simpa using h4⟩
    simpa using ih
theorem nodeAt_take (root : Nat) (ns : List Nat) (q i : Nat) (h : i ≤ q) : nodeAt root (ns.take q) i = nodeAt root ns i := by
  unfold nodeAt
  cases i with
  | zero => rfl
  | succ i =>
    simp only [List.getD_eq_getElem?_getD, List.getElem?_cons_succ, List.getElem?_take]
    rw [if_pos (by omega)]
/-- What holds of the leaf while the word grows: j letters of t are laid, q of them lay there. -/
def LeafOk (s : St) (t : List UInt8) (root : Nat) (ns : List Nat) (q j : Nat) : Prop :=
  ∀ nd, s.G (nodeAt root ns j) = some nd → (j < t.length → ∀ e ∈ nd.edges, e.1 < t.getD j 0) ∧ (q < j → nd.edges = [] ∧ nd.final = false)
structure GrowRel (H bb kb ib root : Nat) (W : List Word) (t : List UInt8) (ids q : Nat) (w : World) (j : Nat) (s : St) (ns : List Nat) (wr : World) : Prop where
  st : StIn H bb kb ib wr s
  fi : FI s root (t.take j) ns W
  leaf : LeafOk s t root ns q j
  small : Small s
  ids : s.ids.length ≤ ids
  below : Below H w wr
/-- What holds between two words. -/
structure FromRel (H bb kb ib root : Nat) (ts : List ByteArray) (w : World) (k : Nat) (lb : ByteArray) (s : St) (ns : List Nat) (wr : World) : Prop where
  st : StIn H bb kb ib wr s
  fi : FI s root (lastW ts k) ns ((listsOf ts).take k)
  bare : Bare s root (lastW ts k) ns
  small : Small s
  ids : s.ids.length ≤ 20 * k
  below : Below H w wr
  last : lb.data.toList = lastW ts k

theorem Asc.length {es : List (UInt8 × Nat)} (h : Asc es) : es.length ≤ 256 := by
  have h1 : (es.map fun p => p.1.toNat).Nodup := by
    rw [List.Nodup, List.pairwise_map]
    exact h.imp fun hab => by have := UInt8.lt_iff_toNat_lt.1 hab; omega
  have h2 : (es.map fun p => p.1.toNat) ⊆ List.range 256 := fun x hx => by
    obtain ⟨p, _, rfl⟩ := List.mem_map.1 hx
    exact List.mem_range.2 p.1.toNat_lt
  have := h1.length_le_of_subset h2
  simpa using this
theorem nodeAt_last (root : Nat) (ns : List Nat) (m : Nat) : nodeAt root (ns ++ [m]) (ns.length + 1) = m := by
  simp [nodeAt, List.getD_eq_getElem?_getD]
theorem nodeAt_old (root : Nat) (ns : List Nat) (m i : Nat) (h : i ≤ ns.length) : nodeAt root (ns ++ [m]) i = nodeAt root ns i := by
  have := nodeAt_take root (ns ++ [m]) ns.length i h
  simpa using this.symm
theorem GrowRel.step {H bb kb ib root ids q j : Nat} {W : List Word} {t : List UInt8} {w wr W' : World} {s : St} {ns : List Nat} (h : GrowRel H bb kb ib root W t ids q w j s ns wr) (hj : j < t.length) {nd : Nd} {v : Value} (hG : s.G (nodeAt root ns j) = some nd)
    (hin : StIn H bb kb ib W' (growG s (nodeAt root ns j) wr.heap.size (t.getD j 0) nd v)) (hb : Below H wr W') :
    GrowRel H bb kb ib root W t ids q w (j + 1) (growG s (nodeAt root ns j) wr.heap.size (t.getD j 0) nd v) (ns ++ [wr.heap.size]) W' ∧ nodeAt root (ns ++ [wr.heap.size]) (j + 1) = wr.heap.size := by
  have hlen : (t.take j).length = j := by simp; omega
  have hnl : ns.length = j := by rw [h.fi.len, hlen]
  have hna : nodeAt root (ns ++ [wr.heap.size]) (j + 1) = wr.heap.size := by rw [← hnl]; exact nodeAt_last root ns _
  have hm : s.G wr.heap.size = none := by
    cases e : s.G wr.heap.size with
    | none => rfl
    | some x => exact absurd (lt_of_heap (h.st.nodes.node _ x e)) (Nat.lt_irrefl _)
  have hi : get s.ids wr.heap.size = none := by
    cases e : get s.ids wr.heap.size with
    | none => rfl
    | some x => have := h.st.idsIn _ (get_some_mem e); rw [hm] at this; cases this
  have hlf := h.leaf nd hG
  have hne : nodeAt root ns j ≠ wr.heap.size := fun e => by rw [e, hm] at hG; cases hG
  have hG' := hG
  rw [← hlen] at hG'
  have hfi := h.fi.grow (c := t.getD j 0) (v := v) hG' hm hi (hlf.1 hj)
  rw [hlen] at hfi
  have htk : t.take j ++ [t.getD j 0] = t.take (j + 1) := by
    rw [List.getD_eq_getElem?_getD, List.getElem?_eq_getElem hj, Option.getD_some, List.take_append_getElem hj]
  rw [htk] at hfi
  refine ⟨⟨hin, hfi, ?_, ⟨?_, h.small.ids, h.small.len⟩, h.ids, h.below.trans hb⟩, hna⟩
  · intro nd' hn'
    rw [hna] at hn'
    simp only [growG, upd] at hn'
    rw [if_neg (Ne.symm hne), if_pos trivial] at hn'
    cases hn'
    exact ⟨fun _ e he => (by cases he), fun _ => ⟨rfl, rfl⟩⟩
  · intro b x hx
    simp only [growG, upd] at hx
    split at hx
    · cases hx
      obtain ⟨nd0, es, e1, e2⟩ := hfi.step (i := j) (by simp; omega)
      have hasc : Asc (nd.edges ++ [(t.getD j 0, wr.heap.size)]) := by
        refine List.pairwise_append.2 ⟨?_, List.pairwise_singleton _ _, ?_⟩
        · obtain ⟨nd1, g1, g2⟩ := h.fi.leaf
          rw [hlen, hG] at g1
          cases g1
          exact g2
        · intro a ha b hb
          simp at hb
          subst hb
          exact hlf.1 hj a ha
      exact Nat.le_trans hasc.length (by decide)
    · split at hx
      · cases hx; simp
      · exact h.small.edges b x hx
theorem GrowRel.close {H bb kb ib root q : Nat} {ts : List ByteArray} {k : Nat} {w wr : World} {s : St} {ns : List Nat} {t : ByteArray} (h : GrowRel H bb kb ib root ((listsOf ts).take k) t.data.toList (20 * k + 16) q w t.size s ns wr)
    (hk : k < ts.length) (ht : t = ts[k]) (hq : q < t.size) {nd : Nd} (hG : s.G (nodeAt root ns t.size) = some nd) :
    FromRel H bb kb ib root ts w (k + 1) t (closeG s (nodeAt root ns t.size) nd) ns (wr.setCell ⟨nodeAt root ns t.size, 0, none⟩ (.bool true)) := by
  have hts : t.data.toList.length = t.size := by simp
  have htk : t.data.toList.take t.size = t.data.toList := by rw [← hts]; exact List.take_length
  obtain ⟨h1, h2⟩ := (h.leaf nd hG).2 hq
  have hlast : lastW ts (k + 1) = t.data.toList := by
    unfold lastW
    rw [if_neg (by omega), Nat.add_sub_cancel, List.getD_eq_getElem?_getD, List.getElem?_eq_getElem hk, Option.getD_some, ht]
  have hG' := hG
  rw [← hts] at hG'
  have hf := h.fi
  rw [htk] at hf
  have hfc := hf.close hG' h1 h2
  have hW : (listsOf ts).take k ++ [t.data.toList] = (listsOf ts).take (k + 1) := by
    have hk' : k < (listsOf ts).length := by simpa [listsOf] using hk
    rw [← List.take_append_getElem hk']
    simp [listsOf, ht]
  rw [hW] at hfc
  rw [hts] at hfc
  refine ⟨h.st.close hG, by rw [hlast]; exact hfc, ?_, ⟨?_, h.small.ids, h.small.len⟩, by have := h.ids; show s.ids.length ≤ _; omega, h.below.setCell (h.st.nodes.ge _ nd hG).1 _, hlast.symm⟩
  · rw [hlast]
    intro x hx
    rw [hts] at hx
    simp only [closeG, upd, if_true] at hx
    cases hx
    exact h1
  · intro b x hx
    simp only [closeG, upd] at hx
    split at hx
    · cases hx; exact h.small.edges _ nd hG
    · exact h.small.edges b x hx

set_option maxRecDepth 100000 in
set_option maxHeartbeats 4000000 in
theorem from_any (v : Value) (ts : List ByteArray) (w : World) (hv : StrsIs w v ts) (hn : ts.length ≤ 10000) (hsz : ∀ t ∈ ts, 0 < t.size ∧ t.size ≤ 16) (hasc : ts.Pairwise fun a b => a.data.toList < b.data.toList) :
    Calls Tryz.prog 47 #[v] w fun e w' => ∃ db R Λ ρ D, e = .returned (ptrV db) ∧ Below w.heap.size w w' ∧ DictIs w' db R Λ ρ D ∧ Λ 0 = listsOf ts := by
  obtain ⟨a, cap, rfl, hc⟩ := hv
  have hmm := @run_makeMap Tryz.prog
  have HC := Lib.hid hc
  clear hc
  have HSZ := Lib.hid hsz
  have HASC := Lib.hid hasc
  clear hsz hasc
  go_enter Tryz.func47, Tryz.ntmps47
  go_wp2_with fail
  have hst := start_in w
  have hbl := start_below w
  clear hmm
  generalize ((((w.alloc (.map #[] 0)).alloc (.map #[] 0)).alloc (.cells #[.map (some w.heap.size), .map (some (w.heap.size + 1))] 188)).alloc (.cells #[.bool false, .slice none 0 0] 192)) = W0 at *
  generalize w.heap.size + 1 + 1 + 1 = root at *
  generalize w.heap.size + 1 + 1 = bb at *
  generalize w.heap.size + 1 = ib at *
  obtain ⟨kb, hkb⟩ : ∃ kb, kb = w.heap.size := ⟨_, rfl⟩
  have hst' : StIn w.heap.size bb kb ib W0 (start root) := by rw [hkb]; exact hst
  have HST := Lib.hid hst'
  clear hst hst' hkb
  go_loopw [5, 21] (fun last i wr => ∃ (k : Nat) (lb : ByteArray) (s : St) (ns : List Nat), k ≤ ts.length ∧ i = .int .i64 k ∧ last = .string lb ∧ FromRel w.heap.size bb kb ib root ts w k lb s ns wr) (fun _ i _ => ts.length - (intOf i).toNat)
  case atStart =>
    exact ⟨0, ⟨#[]⟩, start root, [], Nat.zero_le _, rfl, rfl, ⟨HST.out, FI.start root, start_bare root, start_small root, Nat.zero_le _, hbl, rfl⟩⟩
  case round =>
    obtain ⟨k, lb, s, ns, hk, rfl, rfl, hR⟩ := hrel
    have HR := Lib.hid hR
    clear hR
    by_cases hlt : k < ts.length
    · obtain ⟨t, ht⟩ : ∃ t, t = ts[k] := ⟨_, rfl⟩
      obtain ⟨b, off, rfl, hcell⟩ := HC.out k hlt
      have hcell' : wr.cell? ⟨b, off + k, none⟩ = some (.string t) := by
        rw [ht]
        exact (HR.out.below.cell (p := ⟨b, off + k, none⟩) (lt_of_cell hcell)).trans hcell
      have htsz : 0 < t.size ∧ t.size ≤ 16 := HSZ.out t (ht ▸ List.getElem_mem hlt)
      have hu16 : (lastW ts k).length ≤ 16 := lastW_len ts HSZ.out k hk
      have hlsz : lb.size ≤ 16 := by have := congrArg List.length HR.out.last; simp at this; omega
      have HT := Lib.hid ht
      clear ht hcell
      go_upto_block 2 with (fail)
      go_cut [8] (fun p wx => ∃ q : Nat, p = .int .i64 q ∧ q ≤ 16 ∧ Hid (Stop t.data.toList lb.data.toList q) ∧ Same wr wx)
      case first =>
        go_wp2_with fail
        go_loopw [8] (fun p wx => ∃ q : Nat, q ≤ t.size ∧ q ≤ lb.size ∧ p = .int .i64 q ∧ Hid (t.data.toList.take q = lb.data.toList.take q) ∧ Same wr wx) (fun p _ => t.size - (intOf p).toNat)
        case atStart => exact ⟨0, Nat.zero_le _, Nat.zero_le _, rfl, rfl, Same.refl _⟩
        case round =>
          obtain ⟨q, hq1, hq2, rfl, HQ, hS⟩ := hrel
          by_cases g1 : q < t.size
          · by_cases g2 : q < lb.size
            · by_cases g3 : t[q] = lb[q]
              · have g3' : (((t[q]).toNat : Int) == ((lb[q]).toNat : Int)) = true := by rw [g3]; simp
                have HS := Lib.hid (common_succ t lb q g1 g2 g3 HQ.out)
                clear g3
                go_wp2_with fail
                go_quiet (fail)
                go_wp2_with fail
                exact ⟨⟨q + 1, by omega, by omega, by go_num, HS, hS.trans (Same.drewN _ _)⟩, by simp [intOf]; omega⟩
              · have g3' : (((t[q]).toNat : Int) == ((lb[q]).toNat : Int)) = false := by
                  rw [beq_eq_false_iff_ne]
                  intro e
                  exact g3 (UInt8.toNat_inj.1 (by omega))
                have HS : Hid (Stop t.data.toList lb.data.toList q) := ⟨by simp; omega, by simp; omega, HQ.out, .inr (.inr (by rw [getD_str' t q g1, getD_str' lb q g2]; exact g3))⟩
                go_wp2_with fail
                go_quiet (fail)
                go_wp2_with fail
                go_meet
                exact ⟨q, rfl, by omega, HS, hS.trans (Same.drewN _ _)⟩
            · have HS : Hid (Stop t.data.toList lb.data.toList q) := ⟨by simp; omega, by simp; omega, HQ.out, .inr (.inl (by simp; omega))⟩
              have g1' : decide ((q : Int) < (t.size : Int)) = true := by simp; omega
              have g2' : decide ((q : Int) < (lb.size : Int)) = false := by simp; omega
              go_wp2_with fail
              go_quiet (fail)
              go_wp2_with fail
              go_meet
              exact ⟨q, rfl, by omega, HS, hS.trans (Same.drewN _ _)⟩
          · have HS : Hid (Stop t.data.toList lb.data.toList q) := ⟨by simp; omega, by simp; omega, HQ.out, .inl (by simp; omega)⟩
            have g1' : decide ((q : Int) < (t.size : Int)) = false := by simp; omega
            go_wp2_with fail
            go_quiet (fail)
            go_wp2_with fail
            go_meet
            exact ⟨q, rfl, by omega, HS, hS.trans (Same.drewN _ _)⟩
      case rest =>
        obtain ⟨q, rfl, hq16, HST, hS⟩ := hcut
        have hqu : q ≤ (lastW ts k).length := by have := HST.out.2.1; rw [HR.out.last] at this; exact this
        go_upto_block 4 with (fail)
        go_cut [9] (fun n wy => n = .pointer (some ⟨nodeAt root ns q, 0, none⟩) ∧ Same wr wy)
        case first =>
          go_wp2_with fail
          go_loopw [9, 48] (fun n i wy => ∃ j : Nat, j ≤ q ∧ i = .int .i64 j ∧ n = .pointer (some ⟨nodeAt root ns j, 0, none⟩) ∧ Same wr wy) (fun _ i _ => q - (intOf i).toNat)
          case atStart => exact ⟨0, Nat.zero_le _, rfl, rfl, hS⟩
          case round =>
            obtain ⟨j, hj, rfl, rfl, hS2⟩ := hrel
            by_cases hjq : j < q
            · obtain ⟨g, cap1, m, d1, d2, d3⟩ := spine_cells (HR.out.st.same hS2) HR.out.fi HR.out.small (i := j) (by omega)
              go_wp2_with fail
              have q1 : IntKind.i64.wrap ((m : Int) + 1 - 1) = (m : Int) := by rw [IntWalk.i64_in _ (by omega)]; omega
              have q2 : (0 : Int) ≤ (m : Int) ∧ (m : Int) < (m : Int) + 1 := by omega
              go_quiet (fail)
              clear q1 q2
              go_wp2_with fail
              exact ⟨⟨j + 1, by omega, by go_num, rfl, hS2.trans (Same.drewN _ _)⟩, by simp [intOf]; omega⟩
            · obtain rfl : j = q := by omega
              go_wp2_with fail
              go_meet
              exact ⟨rfl, hS2⟩
        case rest =>
          obtain ⟨rfl, hS2⟩ := hcut
          go_wp2_with fail
          have hnl := HR.out.fi.len
          refine (settle_any w.heap.size bb kb ib (ns.drop q) s (nodeAt root ns q) _ (HR.out.st.same hS2) (HR.out.fi.way HR.out.bare hqu) HR.out.small (by have := HR.out.ids; rw [List.length_drop]; omega)).mono ?_
          rintro e w2 ⟨rfl, hst2, hb2⟩
          have hlt2 : lb.data.toList < t.data.toList := by rw [HR.out.last, HT.out]; exact lastW_lt ts HSZ.out HASC.out k hlt
          obtain ⟨hqt, hqc⟩ := stop_lt _ _ q hlt2 HST.out
          have hqt' : q < t.size := by simpa using hqt
          obtain ⟨hf2, he2⟩ := HR.out.fi.settle HR.out.bare hqu
          have hsm2 := Small.settleP (ns.drop q) s (nodeAt root ns q) HR.out.small (by have := HR.out.ids; rw [List.length_drop]; omega)
          have hut : (lastW ts k).take q = t.data.toList.take q := by rw [← HR.out.last]; exact HST.out.2.2.1.symm
          have hna : nodeAt root (ns.take q) q = nodeAt root ns q := nodeAt_take root ns q q (Nat.le_refl _)
          have hG0 : GrowRel w.heap.size bb kb ib root ((listsOf ts).take k) t.data.toList (20 * k + 16) q w q (settleP (ns.drop q) s (nodeAt root ns q)) (ns.take q) w2 := by
            refine ⟨hst2, by rw [← hut]; exact hf2, ?_, hsm2.1, by have h1 := hsm2.2; have h2 := HR.out.ids; rw [List.length_drop] at h1; omega, (HR.out.below.trans (hS2.below _)).trans hb2⟩
            intro nd hG
            rw [hna] at hG
            refine ⟨fun _ e he => ?_, fun h => absurd h (Nat.lt_irrefl _)⟩
            obtain ⟨h1, h2⟩ := he2 nd hG e he
            rw [← HR.out.last] at h1 h2
            exact Nat.lt_of_le_of_lt h2 (hqc h1)
          have HG0 := Lib.hid hG0
          have hna' := Lib.hid hna
          clear hG0 hst2 hb2 hf2 he2 hsm2 hut hlt2 hqc hqt hna
          go_wp2_with fail
          go_loopw [9, 11] (fun n i wy => ∃ (j : Nat) (s' : St) (ns' : List Nat), q ≤ j ∧ j ≤ t.size ∧ i = .int .i64 j ∧ n = .pointer (some ⟨nodeAt root ns' j, 0, none⟩) ∧
              GrowRel w.heap.size bb kb ib root ((listsOf ts).take k) t.data.toList (20 * k + 16) q w j s' ns' wy) (fun _ i _ => t.size - (intOf i).toNat)
          case atStart => exact ⟨q, _, ns.take q, Nat.le_refl _, by omega, rfl, by rw [hna'.out], HG0.out⟩
          case round =>
            obtain ⟨j, s', ns', hj1, hj2, rfl, rfl, hR'⟩ := hrel
            have HR' := Lib.hid hR'
            clear hR'
            by_cases hjt : j < t.size
            · have hlen' : (t.data.toList.take j).length = j := by simp; omega
              obtain ⟨nd, hGn, hasc'⟩ := HR'.out.fi.leaf
              rw [hlen'] at hGn
              obtain ⟨_, a1, cap1, hv1, d1⟩ := HR'.out.st.nodeCells hGn
              have hrow := HR'.out.st.nodes.row _ nd hGn
              rw [hv1] at hrow
              have hL := lt_of_cell d1
              have hfr : wr.frozen? ⟨nodeAt root ns' j, 1, none⟩ = false := free_block (HR'.out.st.nodes.node _ nd hGn)
              have hel : nd.edges.length ≤ 300 := HR'.out.small.edges _ nd hGn
              have hcj : t.data.toList.getD j 0 = t[j] := getD_str' t j hjt
              have HCJ := Lib.hid hcj
              clear hcj
              go_wp2_with fail
              refine wp_region_ordX [(0, false), (1, false), (2, false), (3, false), (4, false), (5, false), (6, false), (7, false), (8, false), (9, false), (10, true), (11, true), (12, true), (13, true), (14, true)] 14
                (fun w' => w'.cell? ⟨nodeAt root ns' j, 1, none⟩ = some (.slice a1 nd.edges.length cap1)) (by kernel_rfl) (by kernel_rfl) ?_ ?_
              · rw [← d1]; exact World.cell?_alloc_lt _ _ _ hL
              iterate 10 (
                refine wpOrd_quiet ?_ rfl rfl (fun w' hS => ?_) ?_
                rotate_left
                · go_simp
                  first | rfl | done
                simp only [put_lit, List.set_cons_succ, List.set_cons_zero])
              refine wpOrd_loud rfl rfl (by decide) (fun K hK => ?_)
              go_simp
              have hl2 : ((wr.alloc (.cells #[.bool false, .slice none 0 0] 192)).alloc (.cells #[.int .u8 t[j].toNat, .pointer (some ⟨wr.heap.size, 0, none⟩)] 194)).drew.cell? ⟨nodeAt root ns' j, 1, none⟩ = some (.slice a1 nd.edges.length cap1) := by
                rw [← d1]
                exact (World.cell?_alloc_lt _ _ _ (by simp; omega)).trans (World.cell?_alloc_lt _ _ _ hL)
              have hrow3 : ((wr.alloc (.cells #[.bool false, .slice none 0 0] 192)).alloc (.cells #[.int .u8 t[j].toNat, .pointer (some ⟨wr.heap.size, 0, none⟩)] 194)).drew.ownsRow 0 194 2 (.slice a1 nd.edges.length cap1) nd.edges.length (edgeCells nd.edges) :=
                ((hrow.alloc _).alloc _).drew
              have hM3 : ((wr.alloc (.cells #[.bool false, .slice none 0 0] 192)).alloc (.cells #[.int .u8 t[j].toNat, .pointer (some ⟨wr.heap.size, 0, none⟩)] 194)).drew.heap[wr.heap.size]? = some (.cells #[.bool false, .slice none 0 0] 192 (0, 0)) := heap_alloc2_old _ _ _
              have hmv3 : Moves wr nd.v ((wr.alloc (.cells #[.bool false, .slice none 0 0] 192)).alloc (.cells #[.int .u8 t[j].toNat, .pointer (some ⟨wr.heap.size, 0, none⟩)] 194)).drew nd.v :=
                ((Moves.alloc wr _ _).trans (Moves.alloc _ _ _)).trans (Moves.same _ (Same.drew _))
              have hc3 : ∀ i u, [Value.int .u8 t[j].toNat, .pointer (some ⟨wr.heap.size, 0, none⟩)][i]? = some u → ((wr.alloc (.cells #[.bool false, .slice none 0 0] 192)).alloc (.cells #[.int .u8 t[j].toNat, .pointer (some ⟨wr.heap.size, 0, none⟩)] 194)).drew.cell? ((⟨wr.heap.size + 1, 0, none⟩ : Addr).add i) = some u := by
                have := cell_two_new (wr.alloc (.cells #[.bool false, .slice none 0 0] 192)) (.int .u8 t[j].toNat) (.pointer (some ⟨wr.heap.size, 0, none⟩)) 194
                simpa using this
              have hsz3 : ((wr.alloc (.cells #[.bool false, .slice none 0 0] 192)).alloc (.cells #[.int .u8 t[j].toNat, .pointer (some ⟨wr.heap.size, 0, none⟩)] 194)).drew.heap.size = wr.heap.size + 2 := by simp
              generalize ((wr.alloc (.cells #[.bool false, .slice none 0 0] 192)).alloc (.cells #[.int .u8 t[j].toNat, .pointer (some ⟨wr.heap.size, 0, none⟩)] 194)).drew = W3 at *
              refine hK _ _ hl2 ?_
              clear hK K
              refine wpOrd_loud rfl rfl (by decide) (fun K hK => ?_)
              obtain ⟨i0, hi, hz0, hz1, hz2⟩ := info_parts Tryz.info194
              refine wp_append_lies _ _ 190 rfl 194 i0 (.agg #[.int .u8 0, .pointer none]) 2 16 Tryz.underlying190 hi hz0 hz1 hz2 rfl (by decide) _ _ _ rfl hrow3 ⟨wr.heap.size + 1, 0, none⟩ 1 1 [.int .u8 t[j].toNat, .pointer (some ⟨wr.heap.size, 0, none⟩)] rfl rfl hc3
                (by simp [Value.oneCell']) (by decide) (by unfold maxLen; omega) (by omega) ?_
              intro v4 W4 hrow4 hgrow4 hlies4
              rw [← hv1] at hgrow4 hlies4
              have hvL : nd.v.ownBlock ≠ some (nodeAt root ns' j) := fun e => (HR'.out.st.rowBlock hGn e).2.2.2 _ nd hGn rfl
              have hl4 : W4.cell? ⟨nodeAt root ns' j, 1, none⟩ = some (.slice a1 nd.edges.length cap1) := World.grownBy.cell hgrow4 hl2 (fun e => hvL e.symm)
              have hf4 : W4.frozen? ⟨nodeAt root ns' j, 1, none⟩ = false := by
                have hn := HR'.out.st.nodes.node _ nd hGn
                have h3 := (hmv3.block (lt_of_heap hn) hvL).trans hn
                have h4 := (hgrow4.block _ (lt_of_heap h3) (fun e => hvL e.symm)).trans h3
                exact free_block h4
              have hM4 : W4.heap[wr.heap.size]? = some (.cells #[.bool false, .slice none 0 0] 192 (0, 0)) :=
                (hgrow4.block _ (by omega) (fun e => by have := (HR'.out.st.nodes.row _ nd hGn).lt _ e.symm; omega)).trans hM3
              have hmv4 := hmv3.trans (Moves.append hgrow4 hlies4)
              have hne4 : v4.ownBlock ≠ some wr.heap.size := by
                intro e
                rcases hlies4 with ⟨h, _⟩ | ⟨h, _⟩
                · rw [h] at e
                  have := (HR'.out.st.nodes.row _ nd hGn).lt _ e
                  omega
                · rw [h] at e
                  have := Option.some.inj e
                  omega
              have hrow4' : W4.ownsRow 0 194 2 v4 (nd.edges.length + 1) (edgeCells (nd.edges ++ [(t[j], wr.heap.size)])) := by
                rw [edgeCells_append]
                exact hrow4
              obtain ⟨g4, cap4, rfl⟩ := ownsRow_head hrow4'
              have hin := Lib.hid (HR'.out.st.grow (c := t[j]) hGn hM4 hmv4 hne4 hrow4')
              have hbB : Below w.heap.size wr W4 := hmv4.below (HR'.out.st.nodes.ge _ nd hGn).2 (Below.refl _ _) HR'.out.below.size
              have hLB : w.heap.size ≤ nodeAt root ns' j := (HR'.out.st.nodes.ge _ nd hGn).1
              clear hgrow4 hlies4 hrow4 hrow4' hM4 hmv4 hne4 hM3 hmv3 hrow3 hc3 hl2 hrow d1 hfr
              refine hK _ _ hl4 ?_
              clear hK K
              simp only [put_lit, List.set_cons_succ, List.set_cons_zero]
              refine wpOrd_loud rfl rfl (by decide) (fun K hK => ?_)
              go_simp
              refine hK _ _ hl4 ?_
              clear hK K
              refine wpOrd_loud rfl rfl (by decide) (fun K hK => ?_)
              go_simp
              refine hK _ _ hl4 ?_
              clear hK K
              refine wpOrd_last rfl rfl (fun K hK => ?_)
              go_simp
              refine hK _ _ ?_
              clear hK K
              go_wp2_with fail
              have hgc : t.data.toList.getD j 0 = t[j] := HCJ.out
              have hst3 := HR'.out.step (by simp; omega) hGn (by rw [hgc]; exact hin.out) (hbB.setCell hLB _)
              rw [hgc] at hst3
              exact ⟨⟨j + 1, _, ns' ++ [wr.heap.size], by omega, by omega, by go_num, by rw [hst3.2], hst3.1⟩, by simp [intOf]; omega⟩
            · obtain rfl : j = t.size := by omega
              have hlen' : (t.data.toList.take t.size).length = t.size := by simp
              obtain ⟨nd, hGn, hasc'⟩ := HR'.out.fi.leaf
              rw [hlen'] at hGn
              obtain ⟨d0, a1, cap1, hv1, d1⟩ := HR'.out.st.nodeCells hGn
              have hfr : wr.frozen? ⟨nodeAt root ns' t.size, 0, none⟩ = false := free_block (HR'.out.st.nodes.node _ nd hGn)
              have hcl := Lib.hid (HR'.out.close hlt HT.out hqt' hGn)
              clear hasc'
              go_wp2_with fail
              exact ⟨⟨k + 1, t, _, ns', by omega, by go_num, rfl, hcl.out⟩, by simp [intOf]; omega⟩
    · obtain rfl : k = ts.length := by omega
      go_wp2_with fail
      have hnl := HR.out.fi.len
      have hu16 : (lastW ts ts.length).length ≤ 16 := lastW_len ts HSZ.out ts.length hk
      have hidl := HR.out.ids
      refine (settle_any w.heap.size bb kb ib ns s root wr HR.out.st (HR.out.fi.way HR.out.bare (Nat.zero_le _)) HR.out.small (by omega)).mono ?_
      rintro e w2 ⟨rfl, hst2, hb2⟩
      have hll : (listsOf ts).length = ts.length := by simp [listsOf]
      have hf2 : FI (settleP ns s root) root [] [] (listsOf ts) := by
        have h1 := (HR.out.fi.settle HR.out.bare (Nat.zero_le _)).1
        rw [← hll, List.take_length] at h1
        exact h1
      have hsm2 := Small.settleP ns s root HR.out.small (by omega)
      obtain ⟨Good, ρ, L, g1, g2, g3, g4, g5, g6⟩ := FI.number hf2 hsm2.1 (by omega) hsm2.1.len
      have HG2 := Lib.hid g2
      have HG3 := Lib.hid g3
      have HG4 := Lib.hid g4
      have HST2 := Lib.hid hst2
      clear g2 g3 g4 hst2 hf2
      go_wp2_with fail
      refine (number_any _ w.heap.size bb kb ib w2 HST2.out Good ρ L HG2.out HG3.out HG4.out root g1 g6).mono ?_
      rintro e w3 ⟨rfl, hb3, R, Λ, ρ', D, hdi, hΛ⟩
      go_wp2_with fail
      go_ret
      exact ⟨w2.heap.size, R, Λ, ρ', D, rfl, (HR.out.below.trans hb2).trans (hb3.mono (by have := HR.out.below.size; have := hb2.size; omega)), hdi, hΛ.trans g5⟩
end Go.Proofs.Ts
/- The terms: collected, sorted. -/
set_option linter.unusedVariables false
set_option linter.unusedSimpArgs false
namespace Go.Proofs.Ts
open Go Go.RowKit Go.Sort

theorem nodup_le {α : Type} [DecidableEq α] : ∀ (l l' : List α), l.Nodup → (∀ x ∈ l, x ∈ l') → l.length ≤ l'.length
  | [], l', _, _ => Nat.zero_le _
  | a :: l, l', hn, hs => by
    rw [List.nodup_cons] at hn
    have ha := hs a (by simp)
    have ih := nodup_le l (l'.erase a) hn.2 fun x hx => (List.mem_erase_of_ne (fun e => hn.1 (by rw [← e]; exact hx))).2 (hs x (by simp [hx]))
    rw [List.length_erase_of_mem ha] at ih
    have := List.length_pos_of_mem ha
    simp
    omega

def sortW (ss : List (List UInt8)) : List (List UInt8) := ss.mergeSort fun x y => decide (x ≤ y)
theorem leW_trans (a b c : List UInt8) : decide (a ≤ b) = true → decide (b ≤ c) = true → decide (a ≤ c) = true := by
  simp only [decide_eq_true_eq]
  exact fun h k => List.le_trans h k
theorem leW_total (a b : List UInt8) : (decide (a ≤ b) || decide (b ≤ a)) = true := by
  simp only [Bool.or_eq_true, decide_eq_true_eq]
  exact List.le_total a b
theorem sortW_mem (ss : List (List UInt8)) (x : List UInt8) : x ∈ sortW ss ↔ x ∈ ss := (List.mergeSort_perm ss _).mem_iff
theorem sortW_length (ss : List (List UInt8)) : (sortW ss).length = ss.length := (List.mergeSort_perm ss _).length_eq
theorem sortW_nodup {ss : List (List UInt8)} (h : ss.Nodup) : (sortW ss).Nodup := (List.mergeSort_perm ss _).nodup_iff.2 h
theorem sortW_rise {ss : List (List UInt8)} (h : ss.Nodup) : (sortW ss).Pairwise fun a b => a < b := by
  have h1 := List.pairwise_mergeSort leW_trans leW_total ss
  have h2 := sortW_nodup h
  refine List.Pairwise.imp₂ ?_ h1 h2
  intro a b h3 h4
  rw [decide_eq_true_eq] at h3
  rcases List.le_iff_lt_or_eq.1 h3 with h | h
  · exact h
  · exact absurd h h4

theorem sort_any (v : Value) (ss : List (List UInt8)) (w : World) (hrow : w.ownsRow 0 9 1 v ss.length (ss.map strV)) (hsz : ss.length ≤ 1000000) :
    Calls Tryz.prog 46 #[v] w fun e w' => e = .returned (.tuple #[]) ∧ w'.ownsRow 0 9 1 v ss.length ((sortW ss).map strV) ∧ w.grownBy w' v.ownBlock := by
  have he : strV = encStr := rfl
  rcases hrow.2 with ⟨rfl, hnil⟩ | ⟨g, cap, cur, rfl, hbase, hb, h1, h2, h3, h4⟩
  · have := List.eq_nil_of_length_eq_zero hnil
    subst this
    refine (Tryz.slices_Sort_string_none none 0 w).mono ?_
    rintro e w' ⟨rfl, rfl⟩
    have h0 : sortW [] = [] := by simp [sortW]
    rw [h0]
    exact ⟨rfl, World.ownsRow_nil _ _ _ _, World.grownBy.refl _ _⟩
  · refine (Tryz.slices_Sort_string g 0 cap ss w (holds_of_block hb (by rw [Nat.mul_one] at h4; exact h4)) (Array.getElem?_eq_some_iff.1 hb).1 (by omega)).mono ?_
    rintro e w' ⟨rfl, nn, os, rfl⟩
    exact ⟨rfl, ownsRow_sorted (sortW_length ss) hbase hb h1 h2 h3, grownBy_sorted _⟩

theorem strsIs_row {w : World} {v : Value} {ss : List (List UInt8)} (h : w.ownsRow 0 9 1 v ss.length (ss.map strV)) : StrsIs w v (ss.map fun l => ⟨l.toArray⟩) := by
  obtain ⟨a, cap, rfl⟩ := ownsRow_form h
  refine ⟨a, cap, by simp, fun i hi => ?_⟩
  have hi' : i < ss.length := by simpa using hi
  obtain ⟨m, hm⟩ : ∃ m, ss.length = m + 1 := ⟨ss.length - 1, by omega⟩
  have h' := h
  rw [hm] at h'
  obtain ⟨g, cap', e⟩ := ownsRow_head h'
  cases e
  rw [← hm] at h'
  refine ⟨g, 0, rfl, ?_⟩
  rw [Nat.zero_add, h.cellAt i (by omega), List.getElem?_map, List.getElem?_eq_getElem hi']
  simp [strV]
end Go.Proofs.Ts
/- append onto a row of one's own: where it stays in its block its capacity stays; so what the elder slice owned it owns on. No program of its own. -/
set_option linter.unusedSectionVars false
set_option linter.unusedVariables false
set_option linter.unusedSimpArgs false
namespace Go.Proofs.Ts
open Go Go.RowKit

section
variable {P : Program} {w : World}
/-- The row behind the append, still owned by the elder slice: as long as the new one owns what it owned. -/
def Elder (e size : Nat) (v v' : Value) (n : Nat) (xs : List Value) : Prop := ∀ (W : World) (m : Nat) (ys : List Value), v'.ownBlock = v.ownBlock → W.ownsRow 0 e size v' (n + m) (xs ++ ys) → W.ownsRow 0 e size v n xs
theorem run_append_elder (t ty e : TypeId) (i : TypeInfo) (z : Value) (size bytes : Nat) (ht : P.underlying t = some (.slice e)) (hi : P.info? e = some i) (hz : i.zero = some z)
    (hsize : i.size = size) (hby : i.bytes = bytes) (hzs : z.cells.size = size) (hsz : 0 < size)
    (v : Value) (n : Nat) (xs : List Value) (hown : w.ownsRow 0 e size v n xs)
    (a : Addr) (m c : Nat) (news : List Value) (hl : news.length = m * size) (hnews : ∀ j u, news[j]? = some u → w.cell? (a.add j) = some u) (h1 : ∀ u ∈ news, u.oneCell' = true)
    (hm : 0 < m) (h63 : n + m ≤ maxLen) (hbytes : (n + m) * bytes ≤ 140737488355328) {v' : Value} {w' : World} (hrun : (Builtin.append_ #[t, t] ty #[v, .slice (some a) m c]).run P w = .ok v' w') : Elder e size v v' n xs := by
  subst hsize
  subst hby
  intro W m' ys hb hW
  rcases hown.2 with ⟨rfl, rfl⟩ | ⟨g, cap, cur, rfl, hbg, hg, hnc, hcm, hcs, htake⟩
  · have hx : xs = [] := List.eq_nil_of_length_eq_zero (by simpa using hown.1)
    subst hx
    exact World.ownsRow_nil _ _ _ _
  · by_cases hroom : n + m ≤ cap
    · have hfit : n * i.size + news.length ≤ cur.size := by rw [hl, hcs, ← Nat.add_mul]; exact Nat.mul_le_mul_right _ hroom
      have hr := run_append_room (P := P) w t ty e i ht hi g n cap cur hg a m c news hl hnews h1 hroom hfit
      rw [hrun] at hr
      injection hr with hv hw
      subst hv
      rcases hW.2 with ⟨h0, _⟩ | ⟨g', cap', cur', h0, _, hg', hnc', hcm', hcs', htake'⟩
      · cases h0
      · simp only [Value.slice.injEq, Option.some.injEq, Addr.mk.injEq] at h0
        obtain ⟨⟨rfl, _⟩, _, rfl⟩ := h0
        refine ⟨hown.1, .inr ⟨g, cap, cur', rfl, Nat.zero_le _, hg', hnc, hcm, hcs', ?_⟩⟩
        have h2 := congrArg (List.take (n * i.size)) htake'
        rw [List.take_take, Nat.min_eq_left (Nat.mul_le_mul_right _ (by omega))] at h2
        rw [h2, ← hown.1]
        exact List.take_left
    · have holds : ∀ j u, xs[j]? = some u → w.cell? ((⟨g, 0, none⟩ : Addr).add j) = some u := hown.cells (g := g) rfl
      have hsmall : n + m ≤ 9223372036854775807 := by simp only [maxLen] at h63; omega
      have hr := run_append_grow (P := P) w t ty e i z ht hi hz ⟨g, 0, none⟩ n cap xs hown.1 holds a m c news hl hnews (by omega) (by omega) (growslice_fits (by omega) hbytes)
      rw [hrun] at hr
      injection hr with hv hw
      subst hv
      have h2 := (Array.getElem?_eq_some_iff.1 hg).1
      simp only [Value.ownBlock] at hb
      have := Option.some.inj hb
      omega
end

/-- The append law on the operation alone, with all that is known of the new row. -/
theorem wp_append_elder {P : Program} {w : World} {o : Oper} {a : Act} {K : Act → World → Prop} {Q : Exit → Act → World → Prop} (s x : Operand) (t : TypeId)
    (ho : o.op = .call { callee := .builtin .append, args := #[s, x], argTypes := #[t, t] })
    (e : TypeId) (i : TypeInfo) (z : Value) (size bytes : Nat) (ht : P.underlying t = some (.slice e)) (hi : P.info? e = some i) (hz : i.zero = some z)
    (hsize : i.size = size) (hby : i.bytes = bytes) (hzs : z.cells.size = size) (hsz : 0 < size)
    (v : Value) (n : Nat) (xs : List Value) (hs : a.eval s = v) (hown : w.ownsRow 0 e size v n xs)
    (ad : Addr) (m c : Nat) (news : List Value) (hx : a.eval x = .slice (some ad) m c) (hl : news.length = m * size) (hnews : ∀ j u, news[j]? = some u → w.cell? (ad.add j) = some u) (h1 : ∀ u ∈ news, u.oneCell' = true)
    (hm : 0 < m) (h63 : n + m ≤ maxLen) (hbytes : (n + m) * bytes ≤ 140737488355328)
    (h : ∀ v' w', w'.ownsRow 0 e size v' (n + m) (xs ++ news) → w.grownBy w' v.ownBlock → Lies w w' v v' → Elder e size v v' n xs → K (a.put o.dst v') w') : o.wp P a w K Q := by
  obtain ⟨v', w', hr, h2, h3, h4⟩ := run_append_lies (P := P) t o.type e i z size bytes ht hi hz hsize hby hzs hsz v n xs hown ad m c news hl hnews h1 hm h63 hbytes
  have h5 := run_append_elder (P := P) t o.type e i z size bytes ht hi hz hsize hby hzs hsz v n xs hown ad m c news hl hnews h1 hm h63 hbytes hr
  unfold Oper.wp execOp
  simp only [ho, resolve, invoke, builtin, Sem.run_bind, Sem.run_pure, Result.andThen_ok, List.map_toArray, List.map_cons, List.map_nil, hs, hx, hr]
  exact h v' w' h2 h3 h4 h5
end Go.Proofs.Ts
