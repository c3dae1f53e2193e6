/- Lemmas towards the statement Sorted of termsearch: walks of the program's functions and plain laws on lists (TsNearB). Conditions: those that each theorem names. -/
import Derived.Test.YtglafkgakcfahaaGreatDoorSortedPG
/- The walk of the step of the automaton of nearness. -/
set_option linter.unusedVariables false
set_option linter.unusedSimpArgs false
namespace Go.Proofs.Ts
open Go Go.RowKit

/-- The word's code points, in memory. -/
def WordIn (w : World) (g : Nat) (word : List Nat) : Prop := (∀ j, j < word.length → w.cell? ⟨g, j, none⟩ = some (.int .i32 ((word.getD j 0 : Nat) : Int))) ∧ g < w.heap.size
theorem WordIn.below {w w' : World} {g : Nat} {word : List Nat} (h : WordIn w g word) (hb : Below w.heap.size w w') : WordIn w' g word :=
  ⟨fun j hj => (hb.cell (p := ⟨g, j, none⟩) h.2).trans (h.1 j hj), Nat.lt_of_lt_of_le h.2 hb.size⟩

def p4Of (p : List UInt8) : List Nat := (List.range 4).map (bt p)
theorem p4_set (p : List UInt8) (c : UInt8) (h : p.length ≤ 3) : (p4Of p).set p.length c.toNat = p4Of (p ++ [c]) := by
  refine List.ext_getElem? fun j => ?_
  unfold p4Of
  rw [List.getElem?_set, List.getElem?_map, List.getElem?_map]
  by_cases hj4 : j < 4
  · rw [List.getElem?_range hj4]
    split
    · rename_i e
      subst e
      rw [if_pos (by simp; omega)]
      simp [bt]
    · rename_i e
      simp only [Option.map_some, Option.some.injEq]
      unfold bt
      congr 1
      rw [List.getD_eq_getElem?_getD, List.getD_eq_getElem?_getD]
      by_cases hlt : j < p.length
      · rw [List.getElem?_append_left hlt]
      · rw [List.getElem?_eq_none (by omega), List.getElem?_eq_none (by simp; omega)]
  · have : (List.range 4)[j]? = none := List.getElem?_eq_none (by simp; omega)
    rw [this, if_neg (by omega)]
    rfl
theorem p4_at (p : List UInt8) (j : Nat) (h : j < 4) : (p4Of p).getD j 0 = bt p j := by
  unfold p4Of
  rw [List.getD_eq_getElem?_getD, List.getElem?_map, List.getElem?_range h]
  rfl

/-- Where a step stands: the automaton's block, the state's, the answer's. -/
structure StepAt (w W : World) (g cap : Nat) (word : List Nat) (far : Nat) (now was : List Nat) (last : Int) (p4 : List Nat) (n : Nat) : Prop where
  near : W.heap[w.heap.size]? = some (.cells #[.slice (some ⟨g, 0, none⟩) word.length cap, .int .i64 far] 138 (0, 0))
  st : RBlk W (w.heap.size + 1) now was last p4 n
  out : ∃ cs, W.heap[w.heap.size + 1 + 1]? = some (.cells cs 135 (0, 0)) ∧ cs.size = 88
  below : Below w.heap.size w W
section
variable {w W : World} {g cap : Nat} {word : List Nat} {far : Nat} {now was : List Nat} {last : Int} {p4 : List Nat} {n : Nat}
theorem StepAt.setPart (h : StepAt w W g cap word far now was last p4 n) (j x : Nat) (hj : j < 4) : StepAt w (W.setCell ⟨w.heap.size + 1, 83 + j, none⟩ (.int .u8 (x : Int))) g cap word far now was last (p4.set j x) n :=
  ⟨(Below.heap_setCell _ _ _ _ (by simp)).trans h.near, h.st.setPart j x hj, by rw [Below.heap_setCell _ _ _ _ (by simp)]; exact h.out, h.below.setCell (p := ⟨w.heap.size + 1, 83 + j, none⟩) (by simp) _⟩
theorem StepAt.setNum (h : StepAt w W g cap word far now was last p4 n) (x : Nat) : StepAt w (W.setCell ⟨w.heap.size + 1, 87, none⟩ (.int .i64 (x : Int))) g cap word far now was last p4 x :=
  ⟨(Below.heap_setCell _ _ _ _ (by simp)).trans h.near, h.st.setNum x, by rw [Below.heap_setCell _ _ _ _ (by simp)]; exact h.out, h.below.setCell (p := ⟨w.heap.size + 1, 87, none⟩) (by simp) _⟩
theorem StepAt.grow {W' : World} (h : StepAt w W g cap word far now was last p4 n) (hb : Below W.heap.size W W') : StepAt w W' g cap word far now was last p4 n := by
  obtain ⟨cs, h1, h2⟩ := h.out
  exact ⟨(hb.block _ (lt_of_heap h.near)).trans h.near, h.st.other (hb.block _ h.st.lt), ⟨cs, (hb.block _ (lt_of_heap h1)).trans h1, h2⟩, h.below.trans (hb.mono h.below.size)⟩
end
theorem StepAt.setOther {w W : World} {g cap : Nat} {word : List Nat} {far : Nat} {now was : List Nat} {last : Int} {p4 : List Nat} {n b j : Nat} (h : StepAt w W g cap word far now was last p4 n) (hb : w.heap.size + 3 ≤ b) (v : Value) : StepAt w (W.setCell ⟨b, j, none⟩ v) g cap word far now was last p4 n :=
  ⟨(Below.heap_setCell _ _ _ _ (by simp; omega)).trans h.near, h.st.other (Below.heap_setCell _ _ _ _ (by simp; omega)), by rw [Below.heap_setCell _ _ _ _ (by simp; omega)]; exact h.out, h.below.setCell (p := ⟨b, j, none⟩) (by simp; omega) _⟩
theorem zeroRows_size : Tryz.zeroCells135.size = 88 := by kernel_rfl
theorem getD_set (l : List Nat) (j x k : Nat) (hj : j < l.length) : (l.set j x).getD k 0 = if j = k then x else l.getD k 0 := by
  rw [List.getD_eq_getElem?_getD, List.getElem?_set, List.getD_eq_getElem?_getD]
  split
  · rename_i h; subst h; simp [hj]
  · rfl
theorem results_pair {P : Program} {fn : Func} {p u : Tmp} {ty : TypeId} (h : fn.results = #[.cell p ty, .tmp u]) (tmps : Array Value) (w : World) (g : Nat) (t : TypeId) (cs : Array Value) (fr : Nat × Nat) (d : TypeDesc) (x : Value)
    (hp : tmps.getD p undef = .pointer (some ⟨g, 0, none⟩)) (hx : tmps.getD u undef = x) (hg : w.heap[g]? = some (.cells cs t fr))
    (hu : P.underlying ty = some d) (hd : (match d with | .struct _ | .array _ _ => true | _ => false) = true) (hi : (P.info? ty).map (·.size) = some cs.size) :
    (results fn tmps).run P w = .ok (.tuple #[.agg cs, x]) w := by
  rw [results_cell_tmp h, hp, hx]
  simp [asAddr, run_loadVar_row w g t ty cs fr d hg hu hd hi]
theorem rcells_sz {now was : List Nat} {last : Int} {p4 : List Nat} {n : Nat} (h1 : now.length = 41) (h2 : was.length = 41) (h3 : p4.length = 4) : (Tryz.prog.info? 135).map (·.size) = some (rcells now was last p4 n).toArray.size := by
  rw [rows_size]; simp [rcells, u8s_length, h1, h2, h3]
theorem StepAt.answer {w W : World} {g cap : Nat} {word : List Nat} {far : Nat} {now was : List Nat} {last : Int} {p4 : List Nat} {n : Nat} {cs : Array Value} (h : Below w.heap.size w W) (ho : ∃ cs, W.heap[w.heap.size + 1 + 1]? = some (.cells cs 135 (0, 0)) ∧ cs.size = 88) :
    (W.setRow (w.heap.size + 1 + 1) cs).heap[w.heap.size + 1 + 1]? = some (.cells cs 135 (0, 0)) ∧ Below w.heap.size w (W.setRow (w.heap.size + 1 + 1) cs) := by
  obtain ⟨c0, h1, _⟩ := ho
  refine ⟨setRow_heap _ _ _ _ _ _ h1, h.os, h.tape, h.output, by simp [World.setRow]; exact h.size, fun k hk => ?_⟩
  rw [← h.block k hk]
  exact setRow_other _ _ _ _ (by omega)
theorem wpOrd_row {P : Program} {S : World → Prop} {l : List Oper} {xx : Nat} {Q : Act → World → Prop} {i : Nat} {rest : List (Nat × Bool)} {a : Act} {w : World} {o : Oper} (ty : TypeId) (x : Operand) (b : Nat) (cs : Array Value) (t : TypeId) (r : Nat × Nat) (d : TypeDesc)
    (ho : l[i]? = some o) (hw : Region.wanted o (yielded l.toArray a.tmps) = true) (hop : o.op = .load ty x) (hx : a.eval x = .pointer (some ⟨b, 0, none⟩)) (hS : ∀ w', S w' → w'.heap[b]? = some (.cells cs t r))
    (hu : P.underlying ty = some d) (hd : (match d with | .struct _ | .array _ _ => true | _ => false) = true) (hi : (P.info? ty).map (·.size) = some cs.size) (h : wpOrd P l S xx Q rest (a.put o.dst (.agg cs)) w) : wpOrd P l S xx Q ((i, false) :: rest) a w :=
  wpOrd_quiet _ ho hw (fun w' hs => by
    unfold execOp
    simp only [hop, hx, Instr.loadAt, Instr.sureAddr, Sem.run_bind, Sem.run_pure, Result.andThen_ok, run_loadVar_row w' b t ty cs r d (hS w' hs) hu hd hi]) h
theorem wpOrd_skipU {P : Program} {S : World → Prop} {l : List Oper} {x : Nat} {Q : Act → World → Prop} {i : Nat} {rest : List (Nat × Bool)} {a : Act} {w : World} {o : Oper} (ho : l[i]? = some o) (hw : Region.wanted o (yielded l.toArray a.tmps) = false)
    (h : wpOrd P l S x Q rest (a.put o.dst undef) w) : wpOrd P l S x Q ((i, true) :: rest) a w := by
  unfold wpOrd
  rw [ho]
  simp only [hw, Bool.false_eq_true, if_false]
  exact h
theorem rows88 {s : NS} (h1 : s.now.length = 41) (h2 : s.was.length = 41) : (rowsCells s).length = 88 := by simp [rowsCells, rcells, u8s_length, h1, h2]
theorem rowsCells_eq (s : NS) : rowsCells s = rcells s.now s.was s.last (p4Of s.part) s.part.length := rfl

set_option maxRecDepth 100000 in
set_option maxHeartbeats 4000000 in
theorem nearStep_any (g cap : Nat) (word : List Nat) (far : Nat) (s : NS) (c : UInt8) (w : World) (hT : TabsIn w) (hs : NOk s) (hw : WordIn w g word) (hlen : word.length ≤ 40) (hrunes : ∀ r ∈ word, r ≤ 1114111) (hfar : far ≤ 2) :
    Calls Tryz.prog 216 #[nearV g cap word far, rowsV s, .int .u8 c.toNat] w fun e w' =>
      (∃ t, e = .returned (.tuple #[rowsV t, .bool (nok word far s c)]) ∧ (rowsCells t).length = 88 ∧ (nok word far s c = true → t = nnext word s c)) ∧ Below w.heap.size w w' := by
  unfold nearV
  have HS := Lib.hid hs
  have HT := Lib.hid hT
  have HW := Lib.hid hw
  have hn3 := hs.part
  have hl := hs.last
  clear hs hT hw
  have hnok : nok word far s c = if full (s.part ++ [c]) = false then true
    else if (dec (s.part ++ [c])).1 = 65533 ∧ (dec (s.part ++ [c])).2 < 2 then false
    else decide (leastN word s.now s.was s.last (dec (s.part ++ [c])).1 word.length ≤ far ∨ leastRow s.now < far) := rfl
  have hnn : nnext word s c = if full (s.part ++ [c]) = false then { s with part := s.part ++ [c] } else ⟨rowN word s (dec (s.part ++ [c])).1, s.now, ((dec (s.part ++ [c])).1 : Int), []⟩ := rfl
  have HNOK := Lib.hid hnok
  have HNN := Lib.hid hnn
  generalize nok word far s c = OK at *
  generalize nnext word s c = NX at *
  clear hnok hnn
  go_enter Tryz.func216, Tryz.ntmps216
  unfold rowsV
  go_upto_region 1 with fail
  have hat : StepAt w (((w.alloc (.cells #[.slice (some ⟨g, 0, none⟩) word.length cap, .int .i64 far] 138)).alloc (.cells (rowsCells s).toArray 135)).alloc (.cells Tryz.zeroCells135 135)) g cap word far s.now s.was s.last (p4Of s.part) s.part.length := by
    have h1 := heap_alloc_new w (.cells #[.slice (some ⟨g, 0, none⟩) word.length cap, .int .i64 far] 138)
    have h2 := heap_alloc_new (w.alloc (.cells #[.slice (some ⟨g, 0, none⟩) word.length cap, .int .i64 far] 138)) (.cells (rowsCells s).toArray 135)
    have h3 := heap_alloc_new ((w.alloc (.cells #[.slice (some ⟨g, 0, none⟩) word.length cap, .int .i64 far] 138)).alloc (.cells (rowsCells s).toArray 135)) (.cells Tryz.zeroCells135 135)
    rw [World.size_alloc] at h2
    rw [World.size_alloc, World.size_alloc] at h3
    refine ⟨?_, RBlk.of ?_ HS.out, ⟨_, h3, by kernel_rfl⟩, (((Below.refl _ w).alloc (Nat.le_refl _) _).alloc (by simp) _).alloc (by simp; omega) _⟩
    · rw [Below.heap_alloc _ _ _ (by simp; omega), Below.heap_alloc _ _ _ (by simp)]
      exact h1
    · rw [Below.heap_alloc _ _ _ (by simp)]
      exact h2
  generalize (((w.alloc (.cells #[.slice (some ⟨g, 0, none⟩) word.length cap, .int .i64 far] 138)).alloc (.cells (rowsCells s).toArray 135)).alloc (.cells Tryz.zeroCells135 135)) = W at *
  have c0 := hat.st.cNum
  have c1 := hat.st.cPart s.part.length (by omega)
  have f1 := hat.st.free (83 + s.part.length)
  have f2 := hat.st.free 87
  have z1 : (0 : Int) ≤ (s.part.length : Int) ∧ (s.part.length : Int) < 4 := by omega
  have q1 : IntKind.i64.wrap ((s.part.length : Int) + 1) = (s.part.length : Int) + 1 := IntWalk.i64_in _ (by omega)
  have ne : ¬ 83 + s.part.length = 87 := by omega
  have HAT := Lib.hid hat
  clear hat
  go_upto_region 3 with fail
  have hat1 := (HAT.out.setPart s.part.length c.toNat (by omega)).setNum (s.part.length + 1)
  rw [p4_set s.part c hn3] at hat1
  have ecast : ((s.part.length + 1 : Nat) : Int) = (s.part.length : Int) + 1 := by omega
  rw [ecast] at hat1
  generalize ((W.setCell ⟨w.heap.size + 1, 83 + s.part.length, none⟩ (.int .u8 (c.toNat : Int))).setCell ⟨w.heap.size + 1, 87, none⟩ (.int .i64 ((s.part.length : Int) + 1))) = W1 at *
  clear c0 c1 f1 f2 z1 q1 ne HAT
  have hpl : (s.part ++ [c]).length = s.part.length + 1 := by simp
  have hpe : ∃ p, p = s.part ++ [c] := ⟨_, rfl⟩
  obtain ⟨p, hpe⟩ := hpe
  rw [← hpe] at hat1 hpl HNOK HNN
  have h4 : p.length ≤ 4 := by omega
  have h0 : 0 < p.length := by omega
  rw [← hpl] at hat1
  have ecast2 : (s.part.length : Int) + 1 = ((p.length : Nat) : Int) := by omega
  have HPE := Lib.hid hpe
  clear ecast ecast2 hpl hpe
  have c0 := hat1.st.cNum
  have q2 : (0 : Int) ≤ (p.length : Int) ∧ (p.length : Int) ≤ 4 := by omega
  have HAT := Lib.hid hat1
  have hcells : ∀ j, j < p.length → W1.cell? ⟨w.heap.size + 1, 83 + j, none⟩ = some (.int .u8 (bt p j)) := fun j hj => by rw [hat1.st.cPart j (by omega), p4_at p j (by omega)]
  have HC := Lib.hid hcells
  clear hcells hat1
  have hfp : ∃ F, F = full p := ⟨_, rfl⟩
  obtain ⟨F, hfp⟩ := hfp
  go_upto_if 30 with (go_at_call 217; refine (fullRune_any p (w.heap.size + 1) 83 4 W1 (HT.out.below HAT.out.below) HC.out h0 h4).mono ?_; rintro e w1 ⟨rfl, hb1⟩; rw [← hfp]; have HFP := Lib.hid hfp; clear hfp)
  have hat1 := HAT.out.grow hb1
  have HAT1 := Lib.hid hat1
  have HBLK := Lib.hid hat1.st.blk
  have hsz := rcells_sz (last := s.last) (n := p.length) HS.out.now HS.out.was (show (p4Of p).length = 4 by simp [p4Of])
  have HSZ := Lib.hid hsz
  clear hat1 hb1 hsz c0
  obtain ⟨ocs, hout, hosz⟩ := HAT1.out.out
  have HOUT := Lib.hid hout
  clear hout
  cases F with
  | false =>
    have hok : Hid (OK = true ∧ NX = { s with part := p }) := Lib.hid ⟨by rw [HNOK.out, ← HFP.out, if_pos rfl], by rw [HNN.out, ← HFP.out, if_pos rfl]⟩
    go_wp2_with (first
        | refine wpList_load_row rfl 135 (.tmp 4) rfl (w.heap.size + 1) rfl _ _ (0, 0) _ HBLK.out Tryz.underlying135 rfl HSZ.out ?_
        | refine wpList_store_row rfl 135 (.tmp 6) (.tmp 31) rfl (w.heap.size + 1 + 1) _ rfl rfl _ _ HOUT.out HSZ.out (by rw [hosz]; have := HSZ.out; rw [rows_size] at this; exact Option.some.inj this) (rcells_one _ _ _ _ _) ?_)
    obtain ⟨e1, e2⟩ := StepAt.answer (g := g) (cap := cap) (word := word) (far := far) (now := s.now) (was := s.was) (last := s.last) (p4 := p4Of p) (n := p.length) (cs := (rcells s.now s.was s.last (p4Of p) p.length).toArray) HAT1.out.below HAT1.out.out
    refine bodyPost_ret (results_pair rfl _ _ (w.heap.size + 1 + 1) _ _ (0, 0) _ _ rfl rfl e1 Tryz.underlying135 rfl HSZ.out) rfl ?_
    exact ⟨⟨{ s with part := p }, by rw [hok.out.1]; rfl, rows88 HS.out.now HS.out.was, fun _ => hok.out.2.symm⟩, e2⟩
  | true =>
    have hok : Hid (OK = (if (dec p).1 = 65533 ∧ (dec p).2 < 2 then false else decide (leastN word s.now s.was s.last (dec p).1 word.length ≤ far ∨ leastRow s.now < far)) ∧ NX = ⟨rowN word s (dec p).1, s.now, ((dec p).1 : Int), []⟩) :=
      Lib.hid ⟨by rw [HNOK.out, ← HFP.out, if_neg (by simp)], by rw [HNN.out, ← HFP.out, if_neg (by simp)]⟩
    have c0 := HAT1.out.st.cNum
    have hcells : ∀ j, j < (ByteArray.mk p.toArray).size → w1.cell? ⟨w.heap.size + 1, 83 + j, none⟩ = some (.int .u8 ((ByteArray.mk p.toArray).get! j).toNat) := fun j hj => by
      have hj' : j < p.length := by simpa [ByteArray.size] using hj
      rw [HAT1.out.st.cPart j (by omega), p4_at p j (by omega), get_bt]
    have HC1 := Lib.hid hcells
    have hdl := dec_le p
    clear hcells
    have hdr := Tryz.utf8_DecodeRune ⟨p.toArray⟩ (w.heap.size + 1) 83 4 w1 (HT.out.below HAT1.out.below).tabs HC1.out
    have hps : (ByteArray.mk p.toArray).size = p.length := by simp [ByteArray.size]
    rw [hps] at hdr
    have hde : Lib.decodeGo ⟨p.toArray⟩ = dec p := rfl
    rw [hde] at hdr
    have HDR := Lib.hid hdr
    clear hps hde hdr
    generalize hrz : dec p = rz at *
    obtain ⟨r, z⟩ := rz
    simp only at hdl
    go_upto_region 6 with (go_at_call 218; refine HDR.out.mono ?_; rintro e w2 ⟨rfl, hb2⟩)
    have hat2 := HAT1.out.grow hb2
    have HAT2 := Lib.hid hat2
    clear hat2 hb2 c0 HBLK HOUT
    have hblk := HAT2.out.st.blk
    have HBLK := Lib.hid hblk
    obtain ⟨ocs, hout, hosz⟩ := HAT2.out.out
    have HOUT := Lib.hid hout
    clear hblk hout
    go_cut [45] (fun t45 wy => t45 = .bool (decide (r = 65533 ∧ z < 2)) ∧ wy = w2)
    case first =>
      by_cases hr : r = 65533
      · subst hr
        go_wp2_with fail
        go_meet
        exact ⟨congrArg Value.bool (by rw [Bool.eq_iff_iff]; simp; omega), rfl⟩
      · have g0 : ((r : Int) == 65533) = false := by
          rw [Bool.eq_false_iff]
          intro h
          rw [beq_iff_eq] at h
          exact hr (by omega)
        go_wp2_with fail
        go_meet
        exact ⟨congrArg Value.bool (by rw [decide_eq_false (fun h => hr h.1)]), rfl⟩
    case rest =>
    obtain ⟨rfl, rfl⟩ := hcut
    by_cases herr : r = 65533 ∧ z < 2
    · have hok2 : Hid (OK = false) := Lib.hid (by rw [hok.out.1, if_pos herr])
      rw [decide_eq_true herr]
      clear herr
      go_wp2_with (first
        | refine wpList_load_row rfl 135 (.tmp 4) rfl (w.heap.size + 1) rfl _ _ (0, 0) _ HBLK.out Tryz.underlying135 rfl HSZ.out ?_
        | refine wpList_store_row rfl 135 (.tmp 6) (.tmp 46) rfl (w.heap.size + 1 + 1) _ rfl rfl _ _ HOUT.out HSZ.out (by rw [hosz]; have := HSZ.out; rw [rows_size] at this; exact Option.some.inj this) (rcells_one _ _ _ _ _) ?_)
      obtain ⟨e1, e2⟩ := StepAt.answer (g := g) (cap := cap) (word := word) (far := far) (now := s.now) (was := s.was) (last := s.last) (p4 := p4Of p) (n := p.length) (cs := (rcells s.now s.was s.last (p4Of p) p.length).toArray) HAT2.out.below HAT2.out.out
      refine bodyPost_ret (results_pair rfl _ _ (w.heap.size + 1 + 1) _ _ (0, 0) _ _ rfl rfl e1 Tryz.underlying135 rfl HSZ.out) rfl ?_
      exact ⟨⟨{ s with part := p }, by rw [hok2.out]; rfl, rows88 HS.out.now HS.out.was, fun h => by rw [hok2.out] at h; cases h⟩, e2⟩
    · rw [decide_eq_false herr]
      have hok2 : Hid (OK = decide (leastN word s.now s.was s.last r word.length ≤ far ∨ leastRow s.now < far) ∧ NX = ⟨rowN word s r, s.now, (r : Int), []⟩) := Lib.hid ⟨by rw [hok.out.1, if_neg herr], hok.out.2⟩
      clear hok HNOK HNN HFP
      have hrg := HAT2.out.st.rangeNow
      have HRG := Lib.hid hrg
      have hsz1 : (Tryz.prog.info? 132).map (·.size) = some (u8s s.now).length := by rw [row_size, u8s_length, HS.out.now]
      have HSZ1 := Lib.hid hsz1
      have HBU := Lib.hid (rows_built2 s.now (r : Int) HS.out.now)
      clear hrg hsz1 herr
      have hzi : (Tryz.prog.info? 135).map (·.size) = some (rcells z41 s.now (r : Int) z4 0).toArray.size := rcells_sz z41_len HS.out.now z4_len
      have HZI := Lib.hid hzi
      clear hzi
      go_upto_region 9 with (first
        | refine wpList_load_mid rfl 132 (.tmp 47) rfl (w.heap.size + 1) 0 rfl (u8s s.now) _ HRG.out Tryz.underlying132 rfl HSZ1.out ?_
        | refine wpList_build_is rfl 135 #[(1, .tmp 48), (2, .tmp 49)] rfl (rcells z41 s.now (r : Int) z4 0).toArray (by simp only [List.map_toArray, List.map_cons, List.map_nil, List.toList_toArray]; exact HBU.out) ?_
        | refine wpList_store_row rfl 135 (.tmp 10) (.tmp 50) rfl wc.heap.size _ rfl rfl 135 _ (heap_alloc_new wc _) HZI.out (zeroRows_size.trans (Option.some.inj (rows_size.symm.trans HZI.out))) (rcells_one _ _ _ _ _) ?_)
      rw [World.setRow_alloc_new]
      have hbw : Below wc.heap.size wc (wc.alloc (.cells (rcells z41 s.now (r : Int) z4 0).toArray 135)) := (Below.refl _ wc).alloc (Nat.le_refl _) _
      have hat3 := HAT2.out.grow hbw
      have hR3 : RBlk (wc.alloc (.cells (rcells z41 s.now (r : Int) z4 0).toArray 135)) wc.heap.size z41 s.now (r : Int) z4 0 := ⟨heap_alloc_new wc _, z41_len, HS.out.now, z4_len⟩
      have hb10 : w.heap.size + 3 ≤ wc.heap.size := by have := lt_of_heap HOUT.out; omega
      have hbb := hb10
      generalize (wc.alloc (.cells (rcells z41 s.now (r : Int) z4 0).toArray 135)) = W3 at *
      generalize wc.heap.size = b10 at *
      have c0 := hat3.st.cNow 0 (by omega)
      have c1 := hR3.cNow 0 (by omega)
      have f1 := hR3.free 0
      have hx0 := (getD_le HS.out 0).1
      generalize hx0e : s.now.getD 0 0 = x0 at *
      have y1 : IntKind.u8.wrap ((x0 : Int) + 1) = (x0 : Int) + 1 := IntWalk.u8_in _ (by omega)
      have n0 := cell_block (i := 0) hat3.near
      have n1 := cell_block (i := 1) hat3.near
      have HAT3 := Lib.hid hat3
      have HR3 := Lib.hid hR3
      clear hat3 hR3 hbw
      go_upto_region 11 with fail
      have hm3 : ((min (x0 + 1) 3 : Nat) : Int) = min ((x0 : Int) + 1) 3 := by omega
      have hat4 := HAT3.out.setOther (b := b10) (j := 0) hb10 (.int .u8 (min ((x0 : Int) + 1) 3))
      have hR4 := HR3.out.setNow 0 (min (x0 + 1) 3) (by omega)
      rw [hm3] at hR4
      have hc0 : cellN word s.now s.was s.last r 0 = min (x0 + 1) 3 := by unfold cellN; rw [hx0e]
      have hloop : Hid (StepAt w _ g cap word far s.now s.was s.last (p4Of p) p.length ∧ RBlk _ b10 (z41.set 0 (min (x0 + 1) 3)) s.now (r : Int) z4 0 ∧ (∀ k, k ≤ 0 → (z41.set 0 (min (x0 + 1) 3)).getD k 0 = cellN word s.now s.was s.last r k)) := Lib.hid ⟨hat4, hR4, fun k hk => by
        obtain rfl : k = 0 := by omega
        rw [getD_set _ _ _ _ (by rw [z41_len]; omega), if_pos rfl, hc0]⟩
      have hm3' : Hid (min ((x0 : Int) + 1) 3 = ((leastN word s.now s.was s.last r 0 : Nat) : Int)) := Lib.hid (by unfold leastN; rw [hc0]; omega)
      have n0 := cell_block (i := 0) hat4.near
      clear hat4 hR4 hm3 c0 c1 f1 n1
      generalize W3.setCell ⟨b10, 0, none⟩ (.int .u8 (min ((x0 : Int) + 1) 3)) = W4 at *
      generalize hmv : min ((x0 : Int) + 1) 3 = mv at *
      go_wp2_with fail
      clear n0
      go_loopw [11, 64] (fun l i wr => ∃ (j : Nat) (nx : List Nat), j ≤ word.length ∧ i = .int .i64 (j : Int) ∧ l = .int .u8 ((leastN word s.now s.was s.last r j : Nat) : Int) ∧ Hid (StepAt w wr g cap word far s.now s.was s.last (p4Of p) p.length ∧ RBlk wr b10 nx s.now (r : Int) z4 0 ∧ (∀ k, k ≤ j → nx.getD k 0 = cellN word s.now s.was s.last r k))) (fun _ i _ => word.length - (intOf i).toNat)
      case atStart => exact ⟨0, _, Nat.zero_le _, rfl, by rw [hm3'.out], hloop⟩
      case round =>
        obtain ⟨j, nx, hj, rfl, rfl, HL⟩ := hrel
        clear hloop
        by_cases hjl : j < word.length
        · have hww := HW.out.below HL.out.1.below
          have w0 := hww.1 j hjl
          have k0 := HL.out.1.st.cNow j (by omega)
          have k1 := HL.out.1.st.cNow (j + 1) (by omega)
          have k2 := HL.out.2.1.cNow j (by omega)
          have hcj := HL.out.2.2 j (Nat.le_refl _)
          have bx0 := (getD_le HS.out j).1
          have bx1 := (getD_le HS.out (j + 1)).1
          have bx2 := cellN_le word s.now s.was s.last r j
          have bl := leastN_is word s.now s.was s.last r j
          rw [hcj] at k2
          have hcell : Hid (cellN word s.now s.was s.last r (j + 1) = min (if 0 < j ∧ (word.getD j 0 : Int) = s.last ∧ word.getD (j - 1) 0 = r then min (min (min (s.now.getD j 0 + if word.getD j 0 = r then 0 else 1) (s.now.getD (j + 1) 0 + 1)) (cellN word s.now s.was s.last r j + 1)) (s.was.getD (j - 1) 0 + 1)
            else min (min (s.now.getD j 0 + if word.getD j 0 = r then 0 else 1) (s.now.getD (j + 1) 0 + 1)) (cellN word s.now s.was s.last r j + 1)) 3) := Lib.hid rfl
          have hle2 : Hid (leastN word s.now s.was s.last r (j + 1) = min (leastN word s.now s.was s.last r j) (cellN word s.now s.was s.last r (j + 1))) := Lib.hid rfl
          have bl3 : leastN word s.now s.was s.last r j ≤ 3 := by obtain ⟨i, _, e⟩ := bl; rw [e]; exact cellN_le _ _ _ _ _ _
          have bcn := cellN_le word s.now s.was s.last r (j + 1)
          generalize hC : cellN word s.now s.was s.last r j = C at *
          generalize hCN : cellN word s.now s.was s.last r (j + 1) = CN at *
          generalize hLJ : leastN word s.now s.was s.last r j = LJ at *
          generalize hLN : leastN word s.now s.was s.last r (j + 1) = LN at *
          generalize hX0 : s.now.getD j 0 = X0 at *
          generalize hX1 : s.now.getD (j + 1) 0 = X1 at *
          generalize hWJ : word.getD j 0 = WJ at *
          have z0 : (0 : Int) ≤ (j : Int) ∧ (j : Int) < 41 := by omega
          have z1 : (0 : Int) ≤ (j : Int) + 1 ∧ (j : Int) + 1 < 41 := by omega
          have z2 : (0 : Int) ≤ (j : Int) ∧ (j : Int) < (word.length : Int) := by omega
          have q1 : IntKind.i64.wrap ((j : Int) + 1) = (j : Int) + 1 := IntWalk.i64_in _ (by omega)
          have y1 : IntKind.u8.wrap ((X0 : Int) + 1) = (X0 : Int) + 1 := IntWalk.u8_in _ (by omega)
          have y2 : IntKind.u8.wrap ((X1 : Int) + 1) = (X1 : Int) + 1 := IntWalk.u8_in _ (by omega)
          have y3 : IntKind.u8.wrap ((C : Int) + 1) = (C : Int) + 1 := IntWalk.u8_in _ (by omega)
          clear hww hcj bl
          have bWJ : WJ ≤ 1114111 := by
            rw [← hWJ, List.getD_eq_getElem?_getD, List.getElem?_eq_getElem hjl]
            exact hrunes _ (List.getElem_mem hjl)
          go_upto_if 75 with fail
          have he : ((WJ : Int) == (r : Int)) = decide (WJ = r) := by rw [Bool.eq_iff_iff, beq_iff_eq, decide_eq_true_eq]; omega
          obtain ⟨D0, hD0⟩ : ∃ D0 : Nat, D0 = X0 + if WJ = r then 0 else 1 := ⟨_, rfl⟩
          have HD0 := Lib.hid hD0
          have bD0 : D0 ≤ 4 := by rw [hD0]; split <;> omega
          clear hD0
          go_cut [14] (fun d wy => d = .int .u8 (D0 : Int) ∧ wy = wr)
          case first =>
            by_cases hwr : WJ = r
            · have h := HD0.out
              rw [if_pos hwr] at h
              have HH := Lib.hid h
              have g1 : ((WJ : Int) == (r : Int)) = true := by rw [he, decide_eq_true hwr]
              have g2 : (WJ : Int) = (r : Int) := by omega
              clear he h hwr
              go_wp2_with fail
              go_meet
              exact ⟨by rw [HH.out]; rfl, rfl⟩
            · have h := HD0.out
              rw [if_neg hwr] at h
              have HH := Lib.hid h
              have g1 : ((WJ : Int) == (r : Int)) = false := by rw [he, decide_eq_false hwr]
              have g2 : ¬ (WJ : Int) = (r : Int) := by omega
              clear he h hwr
              go_wp2_with fail
              go_meet
              exact ⟨by rw [HH.out]; rfl, rfl⟩
          case rest =>
          obtain ⟨rfl, rfl⟩ := hcut
          clear he
          go_upto_region 17 with fail
          go_quiet (fail)
          go_upto_region 18 with fail
          obtain ⟨D1, hD1⟩ : ∃ D1 : Nat, D1 = min (min D0 (X1 + 1)) (C + 1) := ⟨_, rfl⟩
          have hmin : (if (C : Int) + 1 < (if (X1 : Int) + 1 < (D0 : Int) then (X1 : Int) + 1 else (D0 : Int)) then (C : Int) + 1 else if (X1 : Int) + 1 < (D0 : Int) then (X1 : Int) + 1 else (D0 : Int)) = (D1 : Int) := by split <;> split <;> omega
          rw [hmin]
          have HD1 := Lib.hid hD1
          have bD1 : D1 ≤ 5 := by omega
          clear hmin hD1 y1 y2 y3 k0 k1 k2 w0
          have hbq : Below wc.heap.size wc (wc.drewN nq) := below_drewNv (Below.refl _ _) _
          have hat5 := HL.out.1.grow hbq
          have hR5 := HL.out.2.1.other (hbq.block _ HL.out.2.1.lt)
          have HNX := Lib.hid HL.out.2.2
          generalize wc.drewN nq = W5 at *
          have HAT5 := Lib.hid hat5
          have HR5 := Lib.hid hR5
          clear hbq hat5 hR5 HL
          have hww := HW.out.below HAT5.out.below
          obtain ⟨COND, hCOND⟩ : ∃ b : Bool, b = decide (0 < j ∧ (WJ : Int) = s.last ∧ word.getD (j - 1) 0 = r) := ⟨_, rfl⟩
          have HCOND := Lib.hid hCOND
          clear hCOND
          go_cut [108] (fun t wy => t = .bool COND ∧ wy = W5)
          case first =>
            have n0 := cell_block (i := 0) HAT5.out.near
            have e5 := HAT5.out.st.cLast
            cases j with
            | zero =>
              have hc : COND = false := by rw [HCOND.out]; simp
              subst hc
              clear HCOND hww
              go_wp2_with fail
              go_meet
              exact ⟨rfl, rfl⟩
            | succ i =>
              have w1 := hww.1 i (by omega)
              by_cases hla : (WJ : Int) = s.last
              · have g1 : ((WJ : Int) == s.last) = true := by rw [beq_iff_eq]; exact hla
                by_cases hwi : word.getD i 0 = r
                · have hc : COND = true := by rw [HCOND.out, decide_eq_true]; exact ⟨by omega, hla, hwi⟩
                  have g2 : (((word.getD i 0 : Nat) : Int) == (r : Int)) = true := by rw [beq_iff_eq]; omega
                  generalize word.getD i 0 = WI at *
                  subst hc
                  clear HCOND hww hla hwi
                  go_wp2_with fail
                  go_meet
                  exact ⟨rfl, rfl⟩
                · have hc : COND = false := by rw [HCOND.out, decide_eq_false]; exact fun h => hwi h.2.2
                  have g2 : (((word.getD i 0 : Nat) : Int) == (r : Int)) = false := by rw [Bool.eq_false_iff]; intro h; rw [beq_iff_eq] at h; omega
                  generalize word.getD i 0 = WI at *
                  subst hc
                  clear HCOND hww hla hwi
                  go_wp2_with fail
                  go_meet
                  exact ⟨rfl, rfl⟩
              · have g1 : ((WJ : Int) == s.last) = false := by rw [Bool.eq_false_iff]; intro h; rw [beq_iff_eq] at h; exact hla h
                have hc : COND = false := by rw [HCOND.out, decide_eq_false]; exact fun h => hla h.2.1
                subst hc
                clear HCOND hww hla
                go_wp2_with fail
                go_meet
                exact ⟨rfl, rfl⟩
          case rest =>
          obtain ⟨rfl, hwc⟩ := hcut
          subst hwc
          go_upto_if 108 with fail
          obtain ⟨D2, hD2⟩ : ∃ D2 : Nat, D2 = if COND = true then min D1 (s.was.getD (j - 1) 0 + 1) else D1 := ⟨_, rfl⟩
          have HD2 := Lib.hid hD2
          have bD2 : D2 ≤ 5 := by rw [hD2]; split <;> omega
          clear hD2
          go_cut [14] (fun d wy => d = .int .u8 (D2 : Int) ∧ wy = wc)
          case first =>
            cases hcd : COND with
            | false =>
              have h := HD2.out
              rw [hcd] at h
              have HH := Lib.hid h
              clear h hww
              go_wp2_with fail
              go_meet
              exact ⟨by rw [HH.out]; rfl, rfl⟩
            | true =>
              have h := HD2.out
              rw [hcd, if_pos rfl] at h
              have h0j : 0 < j := by
                have := HCOND.out
                rw [hcd] at this
                exact (of_decide_eq_true this.symm).1
              obtain ⟨i, rfl⟩ : ∃ i, j = i + 1 := ⟨j - 1, by omega⟩
              have e5 := HAT5.out.st.cWas i (by omega)
              have bwas := (getD_le HS.out i).2
              rw [Nat.add_sub_cancel] at h
              generalize s.was.getD i 0 = WS at *
              have y5 : IntKind.u8.wrap ((WS : Int) + 1) = (WS : Int) + 1 := IntWalk.u8_in _ (by omega)
              have HH := Lib.hid h
              have z5 : (0 : Int) ≤ (i : Int) ∧ (i : Int) < 41 := by omega
              clear h hww HCOND
              go_wp2_with fail
              go_meet
              exact ⟨by rw [HH.out]; congr 1; omega, rfl⟩
          case rest =>
          obtain ⟨rfl, hwc2⟩ := hcut
          subst hwc2
          have k5 := HR5.out.cNow (j + 1) (by omega)
          have f5 := HR5.out.free (j + 1)
          have k6 := HR5.out.setNow (j + 1) CN (by omega)
          have hcn : Hid (CN = min D2 3) := Lib.hid (by
            rw [hcell.out]
            congr 1
            rw [HD2.out, HCOND.out, HD1.out, HD0.out]
            by_cases hc : 0 < j ∧ (WJ : Int) = s.last ∧ word.getD (j - 1) 0 = r
            · rw [if_pos hc, decide_eq_true hc, if_pos rfl]
            · rw [if_neg hc, decide_eq_false hc]; rfl)
          clear hww
          have hmin3 : min (D2 : Int) 3 = (CN : Int) := by have := hcn.out; omega
          have HMIN3 := Lib.hid hmin3
          clear hmin3
          go_upto_region 21 with fail
          rw [HMIN3.out]
          have hat6 := HAT5.out.setOther (b := b10) (j := j + 1) hbb (.int .u8 (CN : Int))
          have k7 := k6.cNow (j + 1) (by omega)
          rw [getD_set _ _ _ _ (by rw [HR5.out.lnow]; omega), if_pos rfl] at k7
          have HR6 := Lib.hid k6
          have HAT6 := Lib.hid hat6
          have LNX := HR5.out.lnow
          clear k5 f5 k6 hat6
          generalize wc.setCell ⟨b10, j + 1, none⟩ (.int .u8 (CN : Int)) = W6 at *
          have hml : min (LJ : Int) (CN : Int) = (LN : Int) := by have := hle2.out; omega
          have HML := Lib.hid hml
          clear hml
          go_wp2_with fail
          go_roundw
          case rel =>
            refine ⟨j + 1, nx.set (j + 1) CN, hjl, by go_num, ?_, Lib.hid ⟨HAT6.out, HR6.out, fun k hk => ?_⟩⟩
            · rw [HML.out, ← hLN]
            · rw [getD_set _ _ _ _ (by rw [LNX]; omega)]
              split
              · rename_i e
                rw [← hCN, e]
              · exact HNX.out k (by omega)
          case measure => (simp [intOf]) <;> omega
        · obtain rfl : j = word.length := by omega
          have n0 := cell_block (i := 0) HL.out.1.near
          have q1 : IntKind.i64.wrap ((word.length : Int) + 1) = (word.length : Int) + 1 := IntWalk.i64_in _ (by omega)
          go_wp2_with fail
          clear n0 q1
          go_loopw [15] (fun i wy => ∃ (k : Nat) (ny : List Nat), word.length + 1 ≤ k ∧ k ≤ 41 ∧ i = .int .i64 (k : Int) ∧ Hid (StepAt w wy g cap word far s.now s.was s.last (p4Of p) p.length ∧ RBlk wy b10 ny s.now (r : Int) z4 0 ∧ (∀ q, q < k → ny.getD q 0 = if q ≤ word.length then cellN word s.now s.was s.last r q else 3))) (fun i _ => 41 - (intOf i).toNat)
          case atStart => exact ⟨word.length + 1, nx, Nat.le_refl _, by omega, by go_num, Lib.hid ⟨HL.out.1, HL.out.2.1, fun q hq => by rw [if_pos (by omega)]; exact HL.out.2.2 q (by omega)⟩⟩
          case round =>
            obtain ⟨k, ny, hk1, hk2, rfl, HY⟩ := hrel
            clear HL
            by_cases hk : k < 41
            · have k5 := HY.out.2.1.cNow k hk
              have f5 := HY.out.2.1.free k
              have z5 : (0 : Int) ≤ (k : Int) ∧ (k : Int) < 41 := by omega
              have q1 : IntKind.i64.wrap ((k : Int) + 1) = (k : Int) + 1 := IntWalk.i64_in _ (by omega)
              go_wp2_with fail
              go_roundw
              case rel =>
                refine ⟨k + 1, ny.set k 3, by omega, by omega, by go_num, Lib.hid ⟨HY.out.1.setOther hbb _, HY.out.2.1.setNow k 3 hk, fun q hq => ?_⟩⟩
                rw [getD_set _ _ _ _ (by rw [HY.out.2.1.lnow]; omega)]
                split
                · rename_i e
                  rw [if_neg (by omega)]
                · exact HY.out.2.2 q (by omega)
              case measure => (simp [intOf]) <;> omega
            · obtain rfl : k = 41 := by omega
              have hny : ny = rowN word s r := by
                refine List.ext_getElem? fun q => ?_
                by_cases hq : q < 41
                · have := HY.out.2.2 q hq
                  rw [← rowN_at word s r q hq, List.getD_eq_getElem?_getD, List.getD_eq_getElem?_getD, List.getElem?_eq_getElem (by rw [HY.out.2.1.lnow]; exact hq), List.getElem?_eq_getElem (by rw [rowN_length]; exact hq)] at this
                  rw [List.getElem?_eq_getElem (by rw [HY.out.2.1.lnow]; exact hq), List.getElem?_eq_getElem (by rw [rowN_length]; exact hq)]
                  exact congrArg some this
                · rw [List.getElem?_eq_none (by rw [HY.out.2.1.lnow]; omega), List.getElem?_eq_none (by rw [rowN_length]; omega)]
              subst hny
              go_upto_region 27 with fail
              have hb4 := HY.out.1.st.blk
              have hb3 := HY.out.1.near
              have hb10' := HY.out.2.1.blk
              have hszn := rcells_sz (last := (r : Int)) (n := 0) (rowN_length word s r) HS.out.now z4_len
              have HSZN := Lib.hid hszn
              have hbe := HY.out.1.below
              obtain ⟨oc, ho1, ho2⟩ := HY.out.1.out
              have HO1 := Lib.hid ho1
              have HBE := Lib.hid hbe
              have hbl3 : leastN word s.now s.was s.last r word.length ≤ 3 := by obtain ⟨i, _, e⟩ := leastN_is word s.now s.was s.last r word.length; rw [e]; exact cellN_le _ _ _ _ _ _
              have hrows : rowsV s = .agg (rowsCells s).toArray := rfl
              have hOK := hok2.out.1
              have hNX := hok2.out.2
              generalize hLF : leastN word s.now s.was s.last r word.length = LF at *
              have HOK := Lib.hid hOK
              have HNX := Lib.hid hNX
              clear hszn hbe ho1 hOK hNX hok2 HY hj
              have y1 : IntKind.i64.wrap (LF : Int) = (LF : Int) := IntWalk.i64_in _ (by omega)
              by_cases hle : LF ≤ far
              · have hok3 : Hid (OK = true) := Lib.hid (by rw [HOK.out, decide_eq_true (Or.inl hle)])
                have g1 : decide ((LF : Int) ≤ (far : Int)) = true := by simp; omega
                refine wp_region_ord [(0, false), (1, false), (2, false), (3, false), (4, false), (5, false), (6, false), (7, false), (10, false), (11, false), (8, true), (9, false), (12, false), (13, false), (14, true), (15, false)]
                  (fun w' => w'.heap[w.heap.size]? = some (.cells #[.slice (some ⟨g, 0, none⟩) word.length cap, .int .i64 far] 138 (0, 0)) ∧ w'.heap[w.heap.size + 1]? = some (.cells (rcells s.now s.was s.last (p4Of p) p.length).toArray 135 (0, 0)) ∧ w'.heap[b10]? = some (.cells (rcells (rowN word s r) s.now (r : Int) z4 0).toArray 135 (0, 0))) (by kernel_rfl) (by kernel_rfl) ⟨hb3, hb4, hb10'⟩ ?_
                refine wpOrd_row 135 (.tmp 10) b10 _ _ (0, 0) _ rfl rfl rfl rfl (fun w' hS => hS.2.2) Tryz.underlying135 rfl HSZN.out ?_
                simp only [put_lit, List.set_cons_succ, List.set_cons_zero]
                iterate 6 (
                  refine wpOrd_quiet ?_ rfl rfl (fun w' hS => ?_) ?_
                  rotate_left
                  · have e1 := cell_block (i := 1) hS.1
                    go_simp
                    first | rfl | done
                  simp only [put_lit, List.set_cons_succ, List.set_cons_zero])
                iterate 3 (
                  refine wpOrd_skip rfl rfl ?_
                  simp only [put_lit, List.set_cons_succ, List.set_cons_zero])
                refine wpOrd_skipU rfl rfl ?_
                simp only [put_lit, List.set_cons_succ, List.set_cons_zero]
                iterate 2 (
                  refine wpOrd_skip rfl rfl ?_
                  simp only [put_lit, List.set_cons_succ, List.set_cons_zero])
                refine wpOrd_quiet ?_ rfl rfl (fun w' hS => ?_) ?_
                rotate_left
                · go_simp
                  first | rfl | done
                simp only [put_lit, List.set_cons_succ, List.set_cons_zero]
                have HO2 : wr.drew.heap[w.heap.size + 1 + 1]? = some (.cells oc 135 (0, 0)) := HO1.out
                refine wpOrd_loud rfl rfl (by decide) (fun K5 hK5 => ?_)
                refine wp_store_row 135 (.tmp 6) (.tmp 142) rfl (w.heap.size + 1 + 1) _ rfl rfl _ _ HO2 HSZN.out (by rw [ho2]; have := HSZN.out; rw [rows_size] at this; exact Option.some.inj this) (rcells_one _ _ _ _ _) ?_
                refine hK5 _ _ ⟨(setRow_other _ _ _ _ (by omega)).trans hb3, (setRow_other _ _ _ _ (by omega)).trans hb4, (setRow_other _ _ _ _ (by omega)).trans hb10'⟩ ?_
                clear hK5 K5
                simp only [put_none]
                refine wpOrd_quiet ?_ rfl rfl (fun w' hS => ?_) ?_
                rotate_left
                · go_simp
                  first | rfl | done
                simp only [put_lit, List.set_cons_succ, List.set_cons_zero]
                refine wpOrd_nil ?_
                go_wp2_with fail
                have e1 : (wr.drew.setRow (w.heap.size + 1 + 1) (rcells (rowN word s r) s.now (r : Int) z4 0).toArray).heap[w.heap.size + 1 + 1]? = _ := setRow_heap _ _ _ _ _ _ HO2
                refine bodyPost_ret (results_pair rfl _ _ (w.heap.size + 1 + 1) _ _ (0, 0) _ _ rfl rfl e1 Tryz.underlying135 rfl HSZN.out) rfl ?_
                refine ⟨⟨⟨rowN word s r, s.now, (r : Int), []⟩, by rw [hok3.out]; rfl, rows88 (rowN_length word s r) HS.out.now, fun _ => HNX.out.symm⟩, HBE.out.os, HBE.out.tape, HBE.out.output, by simp [World.setRow]; exact HBE.out.size, fun k hk => ?_⟩
                rw [← HBE.out.block k hk]
                exact setRow_other _ _ _ _ (by omega)
              · have g1 : decide ((LF : Int) ≤ (far : Int)) = false := by simp; omega
                have hll : leastRow s.now ≤ 3 := Nat.le_trans (foldl_min_le _ _) (getD_le HS.out 0).1
                have hok3 : Hid (OK = decide (leastRow s.now < far)) := Lib.hid (by
                  rw [HOK.out]
                  by_cases h : leastRow s.now < far
                  · rw [decide_eq_true (Or.inr h), decide_eq_true h]
                  · rw [decide_eq_false (fun h' => h'.elim hle h), decide_eq_false h])
                have hl0 : Calls Tryz.prog 213 #[.agg (rcells s.now s.was s.last (p4Of p) p.length).toArray] wr.drew fun e w' => e = .returned (.int .u8 (leastRow s.now : Nat)) ∧ Below wr.drew.heap.size wr.drew w' :=
                  nearLeast_any { s with part := p } wr.drew ⟨HS.out.now, HS.out.was, HS.out.nowle, HS.out.wasle, by simp, HS.out.last⟩
                generalize leastRow s.now = LR at *
                have y2 : IntKind.i64.wrap (LR : Int) = (LR : Int) := IntWalk.i64_in _ (by omega)
                refine wp_region_ord [(0, false), (1, false), (2, false), (3, false), (4, false), (5, false), (6, false), (7, false), (10, false), (11, false), (8, true), (9, false), (12, false), (13, false), (14, true), (15, false)]
                  (fun w' => w'.heap[w.heap.size]? = some (.cells #[.slice (some ⟨g, 0, none⟩) word.length cap, .int .i64 far] 138 (0, 0)) ∧ w'.heap[w.heap.size + 1]? = some (.cells (rcells s.now s.was s.last (p4Of p) p.length).toArray 135 (0, 0)) ∧ w'.heap[b10]? = some (.cells (rcells (rowN word s r) s.now (r : Int) z4 0).toArray 135 (0, 0))) (by kernel_rfl) (by kernel_rfl) ⟨hb3, hb4, hb10'⟩ ?_
                refine wpOrd_row 135 (.tmp 10) b10 _ _ (0, 0) _ rfl rfl rfl rfl (fun w' hS => hS.2.2) Tryz.underlying135 rfl HSZN.out ?_
                simp only [put_lit, List.set_cons_succ, List.set_cons_zero]
                iterate 6 (
                  refine wpOrd_quiet ?_ rfl rfl (fun w' hS => ?_) ?_
                  rotate_left
                  · have e1 := cell_block (i := 1) hS.1
                    go_simp
                    first | rfl | done
                  simp only [put_lit, List.set_cons_succ, List.set_cons_zero])
                refine wpOrd_row 135 (.tmp 4) (w.heap.size + 1) _ _ (0, 0) _ rfl rfl rfl rfl (fun w' hS => hS.2.1) Tryz.underlying135 rfl HSZ.out ?_
                simp only [put_lit, List.set_cons_succ, List.set_cons_zero]
                iterate 2 (
                  refine wpOrd_quiet ?_ rfl rfl (fun w' hS => ?_) ?_
                  rotate_left
                  · have e1 := cell_block (i := 1) hS.1
                    go_simp
                    first | rfl | done
                  simp only [put_lit, List.set_cons_succ, List.set_cons_zero])
                refine wpOrd_loud rfl rfl (by decide) (fun K5 hK5 => ?_)
                go_simp
                refine hl0.mono ?_
                clear hl0
                rintro e w8 ⟨rfl, hb8⟩
                have hb8' : Below wr.heap.size wr w8 := by
                  have h : Below wr.heap.size wr wr.drew := (Below.refl _ _).drew
                  exact h.trans hb8
                have l0 := hb8'.block _ (lt_of_heap hb3)
                have l1 := hb8'.block _ (lt_of_heap hb4)
                have l2 := hb8'.block _ (lt_of_heap hb10')
                have l3 := hb8'.block _ (lt_of_heap HO1.out)
                have HB8 : Hid (Below w.heap.size w w8) := Lib.hid (HBE.out.trans (hb8'.mono HBE.out.size))
                refine hK5 _ _ ⟨l0.trans hb3, l1.trans hb4, l2.trans hb10'⟩ ?_
                clear hK5 K5
                have d0 := l0.trans hb3
                have d1 := l1.trans hb4
                have d2 := l2.trans hb10'
                have HO2 := l3.trans HO1.out
                clear l0 l1 l2 l3 hb8 hb8' hb3 hb4 hb10'
                try simp only [put_lit, List.set_cons_succ, List.set_cons_zero]
                iterate 3 (
                  refine wpOrd_quiet ?_ rfl rfl (fun w' hS => ?_) ?_
                  rotate_left
                  · go_simp
                    first | rfl | done
                  simp only [put_lit, List.set_cons_succ, List.set_cons_zero])
                refine wpOrd_loud rfl rfl (by decide) (fun K5 hK5 => ?_)
                refine wp_store_row 135 (.tmp 6) (.tmp 142) rfl (w.heap.size + 1 + 1) _ rfl rfl _ _ HO2 HSZN.out (by rw [ho2]; have := HSZN.out; rw [rows_size] at this; exact Option.some.inj this) (rcells_one _ _ _ _ _) ?_
                refine hK5 _ _ ⟨(setRow_other _ _ _ _ (by omega)).trans d0, (setRow_other _ _ _ _ (by omega)).trans d1, (setRow_other _ _ _ _ (by omega)).trans d2⟩ ?_
                clear hK5 K5
                simp only [put_none]
                refine wpOrd_quiet ?_ rfl rfl (fun w' hS => ?_) ?_
                rotate_left
                · go_simp
                  first | rfl | done
                simp only [put_lit, List.set_cons_succ, List.set_cons_zero]
                refine wpOrd_nil ?_
                go_wp2_with fail
                have e1 : (w8.setRow (w.heap.size + 1 + 1) (rcells (rowN word s r) s.now (r : Int) z4 0).toArray).heap[w.heap.size + 1 + 1]? = _ := setRow_heap _ _ _ _ _ _ HO2
                refine bodyPost_ret (results_pair rfl _ _ (w.heap.size + 1 + 1) _ _ (0, 0) _ _ rfl rfl e1 Tryz.underlying135 rfl HSZN.out) rfl ?_
                refine ⟨⟨⟨rowN word s r, s.now, (r : Int), []⟩, ?_, rows88 (rowN_length word s r) HS.out.now, fun _ => HNX.out.symm⟩, HB8.out.os, HB8.out.tape, HB8.out.output, by simp [World.setRow]; exact HB8.out.size, fun k hk => ?_⟩
                · rw [hok3.out]
                  have e : decide ((LR : Int) < (far : Int)) = decide (LR < far) := by rw [Bool.eq_iff_iff, decide_eq_true_eq, decide_eq_true_eq]; omega
                  rw [← e]
                  rfl
                · rw [← HB8.out.block k hk]
                  exact setRow_other _ _ _ _ (by omega)
end Go.Proofs.Ts
