/- Lemmas towards the statement Changed of termsearch: walks of the program's functions and plain laws on lists (TsNearA, TsCardT, TsNearC, TsAutA, TsFields, TsIterA, TsIter, TsRange). Conditions: those that each theorem names. -/
import Derived.Test.YtglafkgakcfahaaGreatDoorChangedPA
import Derived.Test.YtglafkgakcfahaaGreatDoorChangedPC
import Derived.Test.YtglafkgakcfahaaGreatDoorShelf
import Derived.Deep.CutBlock
import Derived.Deep.WholeRow
import Derived.Deep.DeepCutAuto
import Derived.Lib.LaidU8T
import Derived.PinnedBridge
import Derived.Shelf.GgClosure.GivesRunes
import Derived.RangeFuncNested
import Derived.RangeFuncBound
import Derived.RangeFuncCalls
import Derived.RangeFuncLeaves
import Derived.Shelf.Abstract
import Derived.Shelf.RegionOpen
import Derived.OwnWalkIn
import Derived.TacticsInMore
import Derived.LoopNIn
import Derived.LoopIn
import Derived.Laws.IdiomStrings
import Derived.Maps.RangeRun
import Derived.Below
/- The walks of the automaton of nearness: its methods. -/
set_option linter.unusedVariables false
set_option linter.unusedSimpArgs false
namespace Go.Proofs.Ts
open Go Go.RowKit

def u8s (l : List Nat) : List Value := l.map fun (x : Nat) => Value.int .u8 (x : Int)
/-- Cells of a state: two rows, the last code point, four bytes, how many of them count. -/
def rcells (now was : List Nat) (last : Int) (p4 : List Nat) (n : Nat) : List Value := u8s now ++ (u8s was ++ ([.int .i32 last] ++ (u8s p4 ++ [.int .i64 (n : Int)])))
def rowsCells (s : NS) : List Value := rcells s.now s.was s.last ((List.range 4).map (bt s.part)) s.part.length
def rowsV (s : NS) : Value := .agg (rowsCells s).toArray
def nearV (g cap : Nat) (word : List Nat) (far : Nat) : Value := .agg #[.slice (some ⟨g, 0, none⟩) word.length cap, .int .i64 far]

theorem u8s_at (l : List Nat) (j : Nat) (h : j < l.length) : (u8s l)[j]? = some (.int .u8 ((l.getD j 0 : Nat) : Int)) := by
  unfold u8s
  rw [List.getElem?_map, List.getD_eq_getElem?_getD, List.getElem?_eq_getElem h]
  rfl
theorem u8s_length (l : List Nat) : (u8s l).length = l.length := by simp [u8s]
/-- A state's block. -/
structure RBlk (w : World) (b : Nat) (now was : List Nat) (last : Int) (p4 : List Nat) (n : Nat) : Prop where
  blk : w.heap[b]? = some (.cells (rcells now was last p4 n).toArray 135 (0, 0))
  lnow : now.length = 41
  lwas : was.length = 41
  lp4 : p4.length = 4
theorem RBlk.of {w : World} {b : Nat} {s : NS} (h : w.heap[b]? = some (.cells (rowsCells s).toArray 135 (0, 0))) (hs : NOk s) : RBlk w b s.now s.was s.last ((List.range 4).map (bt s.part)) s.part.length := ⟨h, hs.now, hs.was, by simp⟩
section
variable {w : World} {b : Nat} {now was : List Nat} {last : Int} {p4 : List Nat} {n : Nat}
theorem RBlk.at (h : RBlk w b now was last p4 n) (j : Nat) : w.cell? ⟨b, j, none⟩ = (rcells now was last p4 n)[j]? := by
  rw [cell_block (i := j) h.blk]
  simp
theorem RBlk.size (h : RBlk w b now was last p4 n) : (rcells now was last p4 n).length = 88 := by
  simp [rcells, u8s_length, h.lnow, h.lwas, h.lp4]
theorem RBlk.cNow (h : RBlk w b now was last p4 n) (j : Nat) (hj : j < 41) : w.cell? ⟨b, j, none⟩ = some (.int .u8 ((now.getD j 0 : Nat) : Int)) := by
  rw [h.at]
  unfold rcells
  rw [List.getElem?_append_left (by rw [u8s_length, h.lnow]; exact hj)]
  exact u8s_at _ _ (by rw [h.lnow]; exact hj)
theorem RBlk.cWas (h : RBlk w b now was last p4 n) (j : Nat) (hj : j < 41) : w.cell? ⟨b, 41 + j, none⟩ = some (.int .u8 ((was.getD j 0 : Nat) : Int)) := by
  rw [h.at]
  unfold rcells
  rw [List.getElem?_append_right (by rw [u8s_length, h.lnow]; omega), u8s_length, h.lnow, Nat.add_sub_cancel_left, List.getElem?_append_left (by rw [u8s_length, h.lwas]; exact hj)]
  exact u8s_at _ _ (by rw [h.lwas]; exact hj)
theorem RBlk.cLast (h : RBlk w b now was last p4 n) : w.cell? ⟨b, 82, none⟩ = some (.int .i32 last) := by
  rw [h.at]
  unfold rcells
  rw [List.getElem?_append_right (by rw [u8s_length, h.lnow]; omega), u8s_length, h.lnow, List.getElem?_append_right (by rw [u8s_length, h.lwas]; omega), u8s_length, h.lwas]
  rfl
theorem RBlk.cPart (h : RBlk w b now was last p4 n) (j : Nat) (hj : j < 4) : w.cell? ⟨b, 83 + j, none⟩ = some (.int .u8 ((p4.getD j 0 : Nat) : Int)) := by
  rw [h.at]
  unfold rcells
  rw [List.getElem?_append_right (by rw [u8s_length, h.lnow]; omega), u8s_length, h.lnow, List.getElem?_append_right (by rw [u8s_length, h.lwas]; omega), u8s_length, h.lwas, List.getElem?_append_right (by simp; omega), List.length_singleton, show 83 + j - 41 - 41 - 1 = j by omega,
    List.getElem?_append_left (by rw [u8s_length, h.lp4]; exact hj)]
  exact u8s_at _ _ (by rw [h.lp4]; exact hj)
theorem RBlk.cNum (h : RBlk w b now was last p4 n) : w.cell? ⟨b, 87, none⟩ = some (.int .i64 (n : Int)) := by
  rw [h.at]
  unfold rcells
  rw [List.getElem?_append_right (by rw [u8s_length, h.lnow]; omega), u8s_length, h.lnow, List.getElem?_append_right (by rw [u8s_length, h.lwas]; omega), u8s_length, h.lwas, List.getElem?_append_right (by simp), List.length_singleton, List.getElem?_append_right (by rw [u8s_length, h.lp4]; omega), u8s_length, h.lp4]
  rfl
theorem RBlk.free (h : RBlk w b now was last p4 n) (j : Nat) : w.frozen? ⟨b, j, none⟩ = false := free_block h.blk
theorem RBlk.lt (h : RBlk w b now was last p4 n) : b < w.heap.size := (Array.getElem?_eq_some_iff.1 h.blk).1
theorem RBlk.other {w' : World} (h : RBlk w b now was last p4 n) (hk : w'.heap[b]? = w.heap[b]?) : RBlk w' b now was last p4 n := ⟨hk.trans h.blk, h.lnow, h.lwas, h.lp4⟩
theorem u8s_set (l : List Nat) (j x : Nat) : (u8s l).set j (.int .u8 (x : Int)) = u8s (l.set j x) := by unfold u8s; rw [List.map_set]
theorem RBlk.setNow (h : RBlk w b now was last p4 n) (j x : Nat) (hj : j < 41) : RBlk (w.setCell ⟨b, j, none⟩ (.int .u8 (x : Int))) b (now.set j x) was last p4 n := by
  refine ⟨?_, by simpa using h.lnow, h.lwas, h.lp4⟩
  rw [heap_setCell_same w b j _ _ _ h.blk]
  congr 2
  unfold rcells
  rw [List.setIfInBounds_toArray, List.set_append_left _ _ (by rw [u8s_length, h.lnow]; exact hj), u8s_set]
theorem RBlk.setWas (h : RBlk w b now was last p4 n) (j x : Nat) (hj : j < 41) : RBlk (w.setCell ⟨b, 41 + j, none⟩ (.int .u8 (x : Int))) b now (was.set j x) last p4 n := by
  refine ⟨?_, h.lnow, by simpa using h.lwas, h.lp4⟩
  rw [heap_setCell_same w b (41 + j) _ _ _ h.blk]
  congr 2
  unfold rcells
  rw [List.setIfInBounds_toArray, List.set_append_right _ _ (by rw [u8s_length, h.lnow]; omega), u8s_length, h.lnow, Nat.add_sub_cancel_left, List.set_append_left _ _ (by rw [u8s_length, h.lwas]; exact hj), u8s_set]
theorem RBlk.setPart (h : RBlk w b now was last p4 n) (j x : Nat) (hj : j < 4) : RBlk (w.setCell ⟨b, 83 + j, none⟩ (.int .u8 (x : Int))) b now was last (p4.set j x) n := by
  refine ⟨?_, h.lnow, h.lwas, by simpa using h.lp4⟩
  rw [heap_setCell_same w b (83 + j) _ _ _ h.blk]
  congr 2
  unfold rcells
  rw [List.setIfInBounds_toArray, List.set_append_right _ _ (by rw [u8s_length, h.lnow]; omega), u8s_length, h.lnow, List.set_append_right _ _ (by rw [u8s_length, h.lwas]; omega), u8s_length, h.lwas, List.set_append_right _ _ (by simp; omega), List.length_singleton, show 83 + j - 41 - 41 - 1 = j by omega,
    List.set_append_left _ _ (by rw [u8s_length, h.lp4]; exact hj), u8s_set]
theorem RBlk.setNum (h : RBlk w b now was last p4 n) (x : Nat) : RBlk (w.setCell ⟨b, 87, none⟩ (.int .i64 (x : Int))) b now was last p4 x := by
  refine ⟨?_, h.lnow, h.lwas, h.lp4⟩
  rw [heap_setCell_same w b 87 _ _ _ h.blk]
  congr 2
  unfold rcells
  rw [List.setIfInBounds_toArray, List.set_append_right _ _ (by rw [u8s_length, h.lnow]; omega), u8s_length, h.lnow, List.set_append_right _ _ (by rw [u8s_length, h.lwas]; omega), u8s_length, h.lwas, List.set_append_right _ _ (by simp), List.length_singleton, List.set_append_right _ _ (by rw [u8s_length, h.lp4]; omega), u8s_length, h.lp4]
  rfl
end
/-- A whole block, loaded. -/
theorem load_whole {P : Program} {w : World} {b n : Nat} {cs : Array Value} {t : TypeId} {r : Nat × Nat} (h : w.heap[b]? = some (.cells cs t r)) (hn : cs.size = n) : (loadCellsFrom ⟨b, 0, none⟩ 0 n #[]).run P w = .ok cs w := by
  subst hn
  have := run_loadCells_list (P := P) w ⟨b, 0, none⟩ cs.toList (fun j v hv => by
    have hadd : (⟨b, 0, none⟩ : Addr).add j = ⟨b, j, none⟩ := by unfold Addr.add; split <;> simp_all
    rw [hadd, cell_of_row _ _ j cs t r h]
    simpa using hv)
  simpa [loadCells] using this
/-- .. and laid. -/
theorem store_whole {P : Program} {w : World} {b : Nat} {old cs : Array Value} {t ty : TypeId} (h : w.heap[b]? = some (.cells old t (0, 0))) (hi : (P.info? ty).map (·.size) = some cs.size) (ho : old.size = cs.size) (h1 : cs.all (·.oneCell') = true) :
    (storeCells ⟨b, 0, none⟩ cs.toList 0).run P w = .ok () (w.setRow b cs) := by
  have := run_storeVar_row (P := P) w b t ty old cs h hi ho h1
  cases hq : P.info? ty with
  | none => simp [hq] at hi
  | some i =>
    have hs : cs.size = i.size := by simp [hq] at hi; omega
    simpa [storeVar, sizeOf, typeInfo, hq, Value.cells, hs] using this
theorem setRow_other (w : World) (b : Nat) (cs : Array Value) (k : Nat) (h : k ≠ b) : (w.setRow b cs).heap[k]? = w.heap[k]? := by
  unfold World.setRow
  simp only [Array.getElem?_modify]
  rw [if_neg (fun e => h e.symm)]
theorem rows_size : (Tryz.prog.info? 135).map (·.size) = some 88 := by kernel_rfl
theorem rcells_one (now was : List Nat) (last : Int) (p4 : List Nat) (n : Nat) : (rcells now was last p4 n).toArray.all (·.oneCell') = true := by
  rw [List.all_toArray, List.all_eq_true]
  intro v hv
  unfold rcells u8s at hv
  simp only [List.mem_append, List.mem_map, List.mem_singleton] at hv
  rcases hv with ⟨x, _, rfl⟩ | ⟨x, _, rfl⟩ | rfl | ⟨x, _, rfl⟩ | rfl <;> rfl

set_option maxRecDepth 100000 in
set_option maxHeartbeats 1000000 in
theorem nearEnds_any (g cap : Nat) (word : List Nat) (far : Nat) (s : NS) (w : World) (hs : NOk s) (hlen : word.length ≤ 40) (hfar : far ≤ 2) :
    Calls Tryz.prog 214 #[nearV g cap word far, rowsV s] w fun e w' => e = .returned (.bool (nends word far s)) ∧ Below w.heap.size w w' := by
  unfold nearV rowsV
  go_enter Tryz.func214, Tryz.ntmps214
  go_wp2_with fail
  have hb1 : (w.alloc (.cells #[.slice (some ⟨g, 0, none⟩) word.length cap, .int .i64 far] 138)).heap[w.heap.size]? = _ := heap_alloc_new w _
  have hb2 := heap_alloc_new (w.alloc (.cells #[.slice (some ⟨g, 0, none⟩) word.length cap, .int .i64 far] 138)) (.cells (rowsCells s).toArray 135)
  rw [World.size_alloc] at hb2
  have hb1' := (Below.heap_alloc (w.alloc (.cells #[.slice (some ⟨g, 0, none⟩) word.length cap, .int .i64 far] 138)) (.cells (rowsCells s).toArray 135) w.heap.size (by simp)).trans hb1
  have hbe : Below w.heap.size w ((w.alloc (.cells #[.slice (some ⟨g, 0, none⟩) word.length cap, .int .i64 far] 138)).alloc (.cells (rowsCells s).toArray 135)) := ((Below.refl _ w).alloc (Nat.le_refl _) _).alloc (by simp) _
  have hr := RBlk.of hb2 hs
  clear hb1 hb2
  generalize (w.alloc (.cells #[.slice (some ⟨g, 0, none⟩) word.length cap, .int .i64 far] 138)).alloc (.cells (rowsCells s).toArray 135) = W at *
  have c0 : W.cell? ⟨w.heap.size, 0, none⟩ = some (.slice (some ⟨g, 0, none⟩) word.length cap) := cell_block hb1'
  have c1 : W.cell? ⟨w.heap.size, 1, none⟩ = some (.int .i64 far) := cell_block hb1'
  have c2 := hr.cNum
  have c3 := hr.cNow word.length (by omega)
  have z1 : (0 : Int) ≤ (word.length : Int) ∧ (word.length : Int) < 41 := by omega
  have hv := hs.nowle
  have hx : s.now.getD word.length 0 ≤ 3 := hs.nowle _ (by rw [List.getD_eq_getElem?_getD, List.getElem?_eq_getElem (by rw [hs.now]; omega)]; exact List.getElem_mem _)
  generalize hxe : s.now.getD word.length 0 = x at *
  have y1 : IntKind.i64.wrap (x : Int) = (x : Int) := IntWalk.i64_in _ (by omega)
  have HBE := Lib.hid hbe
  have hnd : nends word far s = (decide (s.part = []) && decide (x ≤ far)) := by unfold nends; rw [hxe]
  have HND := Lib.hid hnd
  clear hr hb1' hbe hv hxe hnd
  by_cases hp : s.part = []
  · rw [hp] at c2
    simp only [List.length_nil] at c2
    have HP := Lib.hid hp
    clear hp
    go_quiet (fail)
    go_wp2_with fail
    go_ret
    refine ⟨ret_bool ?_, below_drewNv HBE.out _⟩
    rw [HND.out, HP.out]
    simp
  · have hpl : (s.part.length : Int) ≠ 0 := fun e => hp (List.eq_nil_of_length_eq_zero (by omega))
    have hz : ((s.part.length : Int) == 0) = false := by simpa using hpl
    have HP := Lib.hid hp
    clear hp
    go_quiet (fail)
    go_wp2_with fail
    go_ret
    refine ⟨ret_bool ?_, below_drewNv HBE.out _⟩
    rw [HND.out, decide_eq_false HP.out]
    rfl

set_option maxRecDepth 100000 in
set_option maxHeartbeats 1000000 in
theorem nearStart_any (nv : Array Value) (w : World) :
    Calls Tryz.prog 215 #[.agg nv] w fun e w' => e = .returned (rowsV nstart) ∧ Below w.heap.size w w' := by
  unfold rowsV
  have hz : Tryz.zeroCells135.setIfInBounds 82 (.int .i32 (-1)) = (rcells (List.replicate 41 0) (List.replicate 41 0) (-1) (List.replicate 4 0) 0).toArray := by kernel_rfl
  have hst := run_storeCells_new (P := Tryz.prog) ((w.alloc (.cells nv 138)).alloc (.cells Tryz.zeroCells135 135)) 135 Tryz.zeroCells135 (Tryz.zeroCells135.setIfInBounds 82 (.int .i32 (-1))) (by kernel_rfl) (by kernel_rfl) (by rw [hz]; exact rcells_one _ _ _ _ _)
  simp only [World.size_alloc, Array.toList_setIfInBounds] at hst
  have HZ := Lib.hid hz
  clear hz
  go_enter Tryz.func215, Tryz.ntmps215
  go_wp2_with fail
  clear hst
  have hbe : Below w.heap.size w (((w.alloc (.cells nv 138)).alloc (.cells Tryz.zeroCells135 135)).alloc (.cells (Tryz.zeroCells135.setIfInBounds 82 (.int .i32 (-1))) 135)) := (((Below.refl _ w).alloc (Nat.le_refl _) _).alloc (by simp) _).alloc (by simp; omega) _
  have hb3 := heap_alloc_new ((w.alloc (.cells nv 138)).alloc (.cells Tryz.zeroCells135 135)) (.cells (Tryz.zeroCells135.setIfInBounds 82 (.int .i32 (-1))) 135)
  have hb2 := heap_alloc_new (w.alloc (.cells nv 138)) (.cells Tryz.zeroCells135 135)
  rw [World.size_alloc, World.size_alloc, HZ.out] at hb3
  rw [World.size_alloc] at hb2
  have hb2' := (Below.heap_alloc ((w.alloc (.cells nv 138)).alloc (.cells Tryz.zeroCells135 135)) (.cells (Tryz.zeroCells135.setIfInBounds 82 (.int .i32 (-1))) 135) (w.heap.size + 1) (by simp)).trans hb2
  rw [HZ.out] at hb2' hbe ⊢
  have hR : RBlk _ (w.heap.size + 1 + 1) (List.replicate 41 0) (List.replicate 41 0) (-1) (List.replicate 4 0) 0 := ⟨hb3, by simp, by simp, by simp⟩
  have hat : Hid (RBlk _ (w.heap.size + 1 + 1) (List.replicate 41 0) (List.replicate 41 0) (-1) (List.replicate 4 0) 0 ∧ _ ∧ Below w.heap.size w _) := Lib.hid ⟨hR, hb2', hbe⟩
  clear hb3 hb2 hb2' hbe hR
  generalize (((w.alloc (.cells nv 138)).alloc (.cells Tryz.zeroCells135 135)).alloc (.cells (rcells (List.replicate 41 0) (List.replicate 41 0) (-1) (List.replicate 4 0) 0).toArray 135)) = W3 at *
  go_loopw [6] (fun i wr => ∃ (j : Nat) (now was : List Nat), j ≤ 41 ∧ i = .int .i64 (j : Int) ∧ Hid (RBlk wr (w.heap.size + 1 + 1) now was (-1) (List.replicate 4 0) 0 ∧ wr.heap[w.heap.size + 1]? = some (.cells Tryz.zeroCells135 135 (0, 0)) ∧ Below w.heap.size w wr) ∧ Hid (∀ k, k < j → now.getD k 0 = min k 3 ∧ was.getD k 0 = 3)) (fun i _ => 41 - (intOf i).toNat)
  case atStart => exact ⟨0, _, _, by omega, rfl, hat, Lib.hid fun k hk => by omega⟩
  case round =>
    obtain ⟨j, now, was, hj, rfl, HAT, HV⟩ := hrel
    clear hat
    by_cases hj' : j < 41
    · have c0 := HAT.out.1.cNow j hj'
      have c1 := HAT.out.1.cWas j hj'
      have f0 := HAT.out.1.free j
      have f1 := HAT.out.1.free (41 + j)
      have z0 : (0 : Int) ≤ (j : Int) ∧ (j : Int) < 41 := by omega
      go_wp2_with fail
      go_roundw
      case rel =>
        refine ⟨j + 1, now.set j (min j 3), was.set j 3, by omega, by go_num, Lib.hid ⟨?_, ?_, ?_⟩, Lib.hid fun k hk => ?_⟩
        · have h1 := HAT.out.1.setNow j (min j 3) hj'
          have h2 := h1.setWas j 3 hj'
          have e : ((min j 3 : Nat) : Int) = min (j : Int) 3 := by omega
          rw [e] at h2
          exact h2
        · rw [Below.heap_setCell _ _ _ _ (by simp), Below.heap_setCell _ _ _ _ (by simp)]
          exact HAT.out.2.1
        · exact (HAT.out.2.2.setCell (p := ⟨w.heap.size + 1 + 1, j, none⟩) (by simp; omega) _).setCell (p := ⟨w.heap.size + 1 + 1, 41 + j, none⟩) (by simp; omega) _
        · have l1 := HAT.out.1.lnow
          have l2 := HAT.out.1.lwas
          rw [List.getD_eq_getElem?_getD, List.getD_eq_getElem?_getD, List.getElem?_set, List.getElem?_set]
          by_cases hkj : j = k
          · subst hkj
            rw [if_pos rfl, if_pos rfl, if_pos (by omega), if_pos (by omega)]
            exact ⟨rfl, rfl⟩
          · rw [if_neg hkj, if_neg hkj, ← List.getD_eq_getElem?_getD, ← List.getD_eq_getElem?_getD]
            exact HV.out k (by omega)
      case measure => (simp [intOf]) <;> omega
    · obtain rfl : j = 41 := by omega
      have hnow : now = nstart.now := by
        have l1 := HAT.out.1.lnow
        refine List.ext_getElem (by rw [l1]; simp [nstart]) fun k hk hk' => ?_
        have := (HV.out k (by omega)).1
        rw [List.getD_eq_getElem?_getD, List.getElem?_eq_getElem hk] at this
        simp only [Option.getD_some] at this
        rw [this]
        simp [nstart]
      have hwas : was = nstart.was := by
        have l1 := HAT.out.1.lwas
        refine List.ext_getElem (by rw [l1]; simp [nstart]) fun k hk hk' => ?_
        have := (HV.out k (by omega)).2
        rw [List.getD_eq_getElem?_getD, List.getElem?_eq_getElem hk] at this
        simp only [Option.getD_some] at this
        rw [this]
        exact (List.getElem_replicate (n := 41) (a := 3) (by simpa [nstart] using hk')).symm
      have hblk := HAT.out.1.blk
      have hzb := HAT.out.2.1
      have hlt := HAT.out.1.lt
      have HB := Lib.hid HAT.out.2.2
      have HZB := Lib.hid hzb
      subst hnow hwas
      clear HAT HV hzb
      have HBLK := Lib.hid hblk
      clear hblk
      have hsz : (Tryz.prog.info? 135).map (·.size) = some (rcells nstart.now nstart.was (-1) (List.replicate 4 0) 0).toArray.size := by rw [rows_size]; simp [rcells, u8s_length, nstart]
      have HSZ := Lib.hid hsz
      clear hsz
      go_wp2_with (first
        | refine wpList_load_row rfl 135 (.tmp 3) rfl (w.heap.size + 1 + 1) rfl _ _ (0, 0) _ HBLK.out Tryz.underlying135 rfl HSZ.out ?_
        | refine wpList_store_row rfl 135 (.tmp 2) (.tmp 19) rfl (w.heap.size + 1) _ rfl rfl _ _ HZB.out HSZ.out (by simp [rcells, u8s_length, nstart]) (rcells_one _ _ _ _ _) ?_)
      have hfin : (wr.setRow (w.heap.size + 1) (rcells nstart.now nstart.was (-1) (List.replicate 4 0) 0).toArray).heap[w.heap.size + 1]? = _ := setRow_heap _ _ _ _ _ _ HZB.out
      refine bodyPost_ret (results_cell_row rfl _ _ (w.heap.size + 1) _ _ (0, 0) _ rfl hfin Tryz.underlying135 rfl HSZ.out) rfl ?_
      refine ⟨rfl, ⟨HB.out.os, HB.out.tape, HB.out.output, by simp [World.setRow]; exact HB.out.size, fun k hk => ?_⟩⟩
      rw [← HB.out.block k hk]
      exact setRow_other _ _ _ _ (by omega)

theorem row_size : (Tryz.prog.info? 132).map (·.size) = some 41 := by kernel_rfl
theorem RBlk.rangeNow {w : World} {b : Nat} {now was : List Nat} {last : Int} {p4 : List Nat} {n : Nat} (h : RBlk w b now was last p4 n) : w.rangeAt b 0 (u8s now) := fun j v hv => by
  rw [h.at, Nat.zero_add]
  unfold rcells
  rw [List.getElem?_append_left (List.getElem?_eq_some_iff.1 hv).1]
  exact hv
theorem getD_le {s : NS} (hs : NOk s) (j : Nat) : s.now.getD j 0 ≤ 3 ∧ s.was.getD j 0 ≤ 3 := by
  constructor
  · rw [List.getD_eq_getElem?_getD]
    cases h : s.now[j]? with
    | none => simp
    | some x => exact hs.nowle x (List.mem_of_getElem? h)
  · rw [List.getD_eq_getElem?_getD]
    cases h : s.was[j]? with
    | none => simp
    | some x => exact hs.wasle x (List.mem_of_getElem? h)
theorem foldl_min_le (l : List Nat) : ∀ a, l.foldl min a ≤ a := by
  induction l with
  | nil => intro a; exact Nat.le_refl _
  | cons x t ih => intro a; exact Nat.le_trans (ih _) (Nat.min_le_left _ _)

theorem index_row (l : List Nat) (j : Nat) (w : World) (hl : l.length = 41) (hj : j < 41) : (Instr.index 132 (.agg (u8s l).toArray) (.int .i64 (j : Int))).run Tryz.prog w = .ok (.int .u8 ((l.getD j 0 : Nat) : Int)) w := by
  have hv := u8s_at l j (by omega)
  have h1 : (0 : Int) ≤ (j : Int) ∧ (j : Int) < 41 := by omega
  have h2 : (j : Int) < 41 := by omega
  simp [Instr.index, run_underlying Tryz.underlying132, asIntOf, h1, h2, go_sem, Go.part, hv]
  exact fun h => absurd h (by omega)
set_option maxRecDepth 100000 in
set_option maxHeartbeats 1000000 in
theorem nearLeast_any (s : NS) (w : World) (hs : NOk { s with part := [] }) :
    Calls Tryz.prog 213 #[rowsV s] w fun e w' => e = .returned (.int .u8 (leastRow s.now : Nat)) ∧ Below w.heap.size w w' := by
  unfold rowsV
  go_enter Tryz.func213, Tryz.ntmps213
  go_upto_region 1 with fail
  have hb := heap_alloc_new w (.cells (rowsCells s).toArray 135)
  have hbe : Below w.heap.size w (w.alloc (.cells (rowsCells s).toArray 135)) := (Below.refl _ w).alloc (Nat.le_refl _) _
  have hR : RBlk (w.alloc (.cells (rowsCells s).toArray 135)) w.heap.size s.now s.was s.last ((List.range 4).map (bt s.part)) s.part.length := ⟨hb, hs.now, hs.was, by simp⟩
  clear hb
  generalize (w.alloc (.cells (rowsCells s).toArray 135)) = W at *
  have HBE := Lib.hid hbe
  have c0 := hR.cNow 0 (by omega)
  have hrg := hR.rangeNow
  have HRG := Lib.hid hrg
  have hsz : (Tryz.prog.info? 132).map (·.size) = some (u8s s.now).length := by rw [row_size, u8s_length, hs.now]
  have HSZ := Lib.hid hsz
  clear hR hrg hsz hbe
  go_wp2_with (refine wpList_load_mid rfl 132 (.tmp 9) rfl w.heap.size 0 rfl (u8s s.now) _ HRG.out Tryz.underlying132 rfl HSZ.out ?_)
  go_loopw [3, 11] (fun l i wr => ∃ j : Nat, j ≤ 41 ∧ i = .int .i64 (j : Int) ∧ wr = W ∧ ∃ x : Nat, l = .int .u8 (x : Int) ∧ x ≤ 3 ∧ Hid (x = (s.now.take j).foldl min (s.now.getD 0 0))) (fun _ i _ => 41 - (intOf i).toNat)
  case atStart => exact ⟨0, by omega, rfl, rfl, _, rfl, (getD_le hs 0).1, Lib.hid (by simp)⟩
  case round =>
    obtain ⟨j, hj, rfl, rfl, x, rfl, hx, HX⟩ := hrel
    by_cases hj' : j < 41
    · have z0 : (0 : Int) ≤ (j : Int) ∧ (j : Int) < 41 := by omega
      have hy := (getD_le hs j).1
      have hv := index_row s.now j wr hs.now hj'
      generalize hye : s.now.getD j 0 = y at *
      go_wp2_with fail
      go_roundw
      case rel =>
        refine ⟨j + 1, by omega, by go_num, trivial, min x y, by go_num, by omega, Lib.hid ?_⟩
        rw [HX.out, ← hye, List.take_succ_eq_append_getElem (by rw [hs.now]; omega), List.foldl_append, List.foldl_cons, List.foldl_nil, List.getD_eq_getElem?_getD (l := s.now) (i := j), List.getElem?_eq_getElem (by rw [hs.now]; omega)]
        rfl
      case measure => (simp [intOf]) <;> omega
    · obtain rfl : j = 41 := by omega
      have hfin : Hid (x = leastRow s.now) := Lib.hid (by
        unfold leastRow
        rw [HX.out, List.take_of_length_le (by rw [hs.now]; omega)])
      go_wp2_with fail
      go_ret
      exact ⟨by rw [hfin.out]; rfl, HBE.out⟩

/-- The tables of utf8, as the program lays them, and what else the library's code reads. -/
structure TabsIn (w : World) : Prop where
  first : ∃ cs, w.heap[2]? = some (.cells cs 294 (0, 0))
  accept : ∃ cs, w.heap[3]? = some (.cells cs 297 (0, 0))
  tabs : Lib.Utf8Tabs 2 3 w
theorem TabsIn.kept {w w' : World} (h : TabsIn w) (h1 : w'.heap[2]? = w.heap[2]?) (h2 : w'.heap[3]? = w.heap[3]?) : TabsIn w' := by
  have e1 : ∀ j, w'.cell? ⟨2, j, none⟩ = w.cell? ⟨2, j, none⟩ := fun j => World.cell?_of_block (a := ⟨2, j, none⟩) h1
  have e2 : ∀ j, w'.cell? ⟨3, j, none⟩ = w.cell? ⟨3, j, none⟩ := fun j => World.cell?_of_block (a := ⟨3, j, none⟩) h2
  exact ⟨by rw [h1]; exact h.first, by rw [h2]; exact h.accept, fun c hc => (e1 c).trans (h.tabs.1 c hc), fun i hi => ⟨(e2 _).trans (h.tabs.2 i hi).1, (e2 _).trans (h.tabs.2 i hi).2⟩⟩
theorem TabsIn.below {w w' : World} (h : TabsIn w) (hb : Below w.heap.size w w') : TabsIn w' := by
  obtain ⟨c1, h1⟩ := h.first
  obtain ⟨c2, h2⟩ := h.accept
  exact h.kept (hb.block _ (Array.getElem?_eq_some_iff.1 h1).1) (hb.block _ (Array.getElem?_eq_some_iff.1 h2).1)

open Lib in
/-- FullRune, the first byte's entry known. -/
def fullBy (F X1 X2 n : Nat) : Bool := decide (F % 8 ≤ n) || (decide (1 < n) && (decide (X1 < accLo (F / 16)) || decide (accHi (F / 16) < X1)) || (decide (2 < n) && (decide (X2 < 128) || decide (191 < X2))))
theorem full_by (p : List UInt8) (hl : 0 < p.length) : full p = fullBy (Lib.firstT (bt p 0)) (bt p 1) (bt p 2) p.length := by
  unfold full fullBy
  rw [decide_eq_true hl, Bool.true_and]

theorem acc_lt (i : Nat) : Lib.accLo i < 256 ∧ Lib.accHi i < 256 := by
  unfold Lib.accLo Lib.accHi
  repeat' split
  all_goals omega

set_option maxRecDepth 100000 in
set_option maxHeartbeats 4000000 in
theorem fullRune_any (p : List UInt8) (b o cap : Nat) (w : World) (hT : TabsIn w) (hp : ∀ j, j < p.length → w.cell? ⟨b, o + j, none⟩ = some (.int .u8 (bt p j))) (hl : 0 < p.length) (hl4 : p.length ≤ 4) :
    Calls Tryz.prog 217 #[.slice (some ⟨b, o, none⟩) p.length cap] w fun e w' => e = .returned (.bool (full p)) ∧ Below w.heap.size w w' := by
  rw [full_by p hl]
  have x0 := bt_lt p 0
  have x1 := bt_lt p 1
  have x2 := bt_lt p 2
  have c0 := hp 0 hl
  have c1 := hT.tabs.1 (bt p 0) x0
  have hft := Lib.firstT_cases (bt p 0)
  generalize bt p 0 = X0 at *
  generalize Lib.firstT X0 = F at *
  rw [Nat.add_zero] at c0
  generalize hX1 : bt p 1 = X1 at *
  generalize hX2 : bt p 2 = X2 at *
  have c2 : 1 < p.length → w.cell? ⟨b, o + 1, none⟩ = some (.int .u8 (X1 : Nat)) := fun h => by rw [← hX1]; exact hp 1 h
  have c3 : 2 < p.length → w.cell? ⟨b, o + 2, none⟩ = some (.int .u8 (X2 : Nat)) := fun h => by rw [← hX2]; exact hp 2 h
  have hF : F < 256 := by omega
  have b1 : bits .and .u8 (F : Int) 7 = ((F % 8 : Nat) : Int) := and7 ⟨F, hF⟩
  obtain ⟨a0, a1⟩ := hT.tabs.2 (F / 16) (by omega)
  rw [Nat.mul_comm] at a0 a1
  obtain ⟨hlo, hhi⟩ := acc_lt (F / 16)
  have hful : Hid (fullBy F X1 X2 p.length = (decide (F % 8 ≤ p.length) || (decide (1 < p.length) && (decide (X1 < Lib.accLo (F / 16)) || decide (Lib.accHi (F / 16) < X1)) || (decide (2 < p.length) && (decide (X2 < 128) || decide (191 < X2)))))) := Lib.hid rfl
  have HFT := Lib.hid hft
  generalize Lib.accLo (F / 16) = lo at *
  generalize Lib.accHi (F / 16) = hi at *
  generalize fullBy F X1 X2 p.length = RES at *
  clear hp hX1 hX2 hT hft
  generalize p.length = n at *
  have hsz : F % 8 ≤ 4 := by have := HFT.out; omega
  by_cases hfull : F % 8 ≤ n
  · have hres : Hid (RES = true) := Lib.hid (by rw [hful.out, decide_eq_true hfull]; rfl)
    have HC2 := Lib.hid c2
    have HC3 := Lib.hid c3
    have q1 : ((F % 8 : Nat) : Int) ≤ (n : Int) := by omega
    have y1 : IntKind.i64.wrap ((F % 8 : Nat) : Int) = ((F % 8 : Nat) : Int) := IntWalk.i64_in _ (by omega)
    generalize F % 8 = sz at *
    clear c2 c3 a0 a1
    go_enter Tryz.func217, Tryz.ntmps217
    go_wp2_with fail
    go_ret
    exact ⟨ret_bool hres.out.symm, Below.refl _ _⟩
  · have hres : Hid (RES = (decide (1 < n) && (decide (X1 < lo) || decide (hi < X1)) || decide (2 < n) && (decide (X2 < 128) || decide (191 < X2)))) := Lib.hid (by rw [hful.out, decide_eq_false hfull, Bool.false_or])
    have q1 : ¬ ((F % 8 : Nat) : Int) ≤ (n : Int) := by omega
    have y1 : IntKind.i64.wrap ((F % 8 : Nat) : Int) = ((F % 8 : Nat) : Int) := IntWalk.i64_in _ (by omega)
    have hn : n = 1 ∨ n = 2 ∨ n = 3 := by omega
    have HC2 := Lib.hid c2
    have HC3 := Lib.hid c3
    clear hful c2 c3
    generalize F % 8 = sz at *
    go_enter Tryz.func217, Tryz.ntmps217
    go_upto_region 8 with fail
    have hb := heap_alloc_new w (.cells #[.int .u8 lo, .int .u8 hi] 296)
    have hbe : Below w.heap.size w (w.alloc (.cells #[.int .u8 lo, .int .u8 hi] 296)) := (Below.refl _ w).alloc (Nat.le_refl _) _
    have l1 : 1 < n → (w.alloc (.cells #[.int .u8 lo, .int .u8 hi] 296)).cell? ⟨b, o + 1, none⟩ = some (.int .u8 (X1 : Nat)) := fun h => (World.cell?_alloc_lt w _ _ (lt_of_cell (HC2.out h))).trans (HC2.out h)
    have l2 : 2 < n → (w.alloc (.cells #[.int .u8 lo, .int .u8 hi] 296)).cell? ⟨b, o + 2, none⟩ = some (.int .u8 (X2 : Nat)) := fun h => (World.cell?_alloc_lt w _ _ (lt_of_cell (HC3.out h))).trans (HC3.out h)
    generalize (w.alloc (.cells #[.int .u8 lo, .int .u8 hi] 296)) = W at *
    have e0 : W.cell? ⟨w.heap.size, 0, none⟩ = some (.int .u8 lo) := cell_block hb
    have e1 : W.cell? ⟨w.heap.size, 1, none⟩ = some (.int .u8 hi) := cell_block hb
    have HBE := Lib.hid hbe
    clear hb hbe a0 a1 c0 c1
    rcases hn with rfl | rfl | rfl
    · clear l1 l2
      go_wp2_with fail
      go_quiet (fail)
      go_wp2_with fail
      go_ret
      exact ⟨ret_bool (by rw [hres.out]; simp), below_drewNv HBE.out _⟩
    · clear l2
      have d1 := l1 (by omega)
      clear l1
      by_cases hx1 : X1 < lo
      · have g1 : decide ((X1 : Int) < (lo : Int)) = true := by simp; omega
        go_wp2_with fail
        go_quiet (fail)
        go_wp2_with fail
        go_ret
        exact ⟨ret_bool (by rw [hres.out]; simp [hx1]), below_drewNv HBE.out _⟩
      · have g1 : decide ((X1 : Int) < (lo : Int)) = false := by simp; omega
        by_cases hx2 : hi < X1
        · have g2 : decide ((hi : Int) < (X1 : Int)) = true := by simp; omega
          go_wp2_with fail
          go_quiet (fail)
          go_wp2_with fail
          go_ret
          exact ⟨ret_bool (by rw [hres.out]; simp [hx2]), below_drewNv HBE.out _⟩
        · have g2 : decide ((hi : Int) < (X1 : Int)) = false := by simp; omega
          go_wp2_with fail
          go_quiet (fail)
          go_wp2_with fail
          go_ret
          exact ⟨ret_bool (by rw [hres.out]; simp [hx1, hx2] <;> omega), below_drewNv HBE.out _⟩
    · have d1 := l1 (by omega)
      have d2 := l2 (by omega)
      clear l1 l2
      by_cases hx1 : X1 < lo
      · have g1 : decide ((X1 : Int) < (lo : Int)) = true := by simp; omega
        go_wp2_with fail
        go_quiet (fail)
        go_wp2_with fail
        go_ret
        exact ⟨ret_bool (by rw [hres.out]; simp [hx1]), below_drewNv HBE.out _⟩
      · have g1 : decide ((X1 : Int) < (lo : Int)) = false := by simp; omega
        by_cases hx2 : hi < X1
        · have g2 : decide ((hi : Int) < (X1 : Int)) = true := by simp; omega
          go_wp2_with fail
          go_quiet (fail)
          go_wp2_with fail
          go_ret
          exact ⟨ret_bool (by rw [hres.out]; simp [hx2]), below_drewNv HBE.out _⟩
        · have g2 : decide ((hi : Int) < (X1 : Int)) = false := by simp; omega
          have hr2 : Hid (RES = (decide (X2 < 128) || decide (191 < X2))) := Lib.hid (by rw [hres.out]; simp [hx1, hx2])
          by_cases hx3 : X2 < 128
          · have g3 : decide ((X2 : Int) < 128) = true := by simp; omega
            go_wp2_with fail
            go_quiet (fail)
            go_wp2_with fail
            go_ret
            exact ⟨ret_bool (by rw [hr2.out, decide_eq_true hx3]; rfl), below_drewNv HBE.out _⟩
          · have g3 : decide ((X2 : Int) < 128) = false := by simp; omega
            by_cases hx4 : 191 < X2
            · have g4 : decide ((191 : Int) < (X2 : Int)) = true := by simp; omega
              go_wp2_with fail
              go_quiet (fail)
              go_wp2_with fail
              go_ret
              exact ⟨ret_bool (by rw [hr2.out, decide_eq_true hx4, Bool.or_true]), below_drewNv HBE.out _⟩
            · have g4 : decide ((191 : Int) < (X2 : Int)) = false := by simp; omega
              go_wp2_with fail
              go_quiet (fail)
              go_wp2_with fail
              go_ret
              exact ⟨ret_bool (by rw [hr2.out, decide_eq_false hx3, decide_eq_false hx4]; rfl), below_drewNv HBE.out _⟩
end Go.Proofs.Ts
/- What the cards of this seat share: the tables of utf8 as the laid variables hold them. -/
set_option linter.unusedVariables false
set_option linter.unusedSimpArgs false
namespace Go.Proofs.YtglafkgakcfahaaGreatDoor.card
open Go Go.ChangeShapes Go.WideShapes Go.ChangeAt Go.RowKit

theorem shaped_block {W : World} (hS : W.ShapedOpen Tryz.prog) {g : Nat} {zero : Array Value} {t : TypeId} (hg : g < Tryz.prog.globals.size) (h : ((begin Tryz.prog (fun _ _ => 0) default).world.heap[g]?).bind Obj.row? = some (zero, t)) : ∃ cs, W.heap[g]? = some (.cells cs t (0, 0)) := by
  obtain ⟨cs, h1, _⟩ := hS.1 g zero t hg h
  exact ⟨cs, h1⟩
theorem row_type {P : Program} {g : Nat} {t : TypeId} (h : (((begin P (fun _ _ => 0) default).world.heap[g]?).bind Obj.row?).map (·.2) = some t) : ∃ zero, ((begin P (fun _ _ => 0) default).world.heap[g]?).bind Obj.row? = some (zero, t) := by
  cases e : ((begin P (fun _ _ => 0) default).world.heap[g]?).bind Obj.row? with
  | none => rw [e] at h; cases h
  | some r => rw [e] at h; exact ⟨r.1, by rw [← Option.some.inj h]⟩
theorem accept_data : (Rows.laid_unicode_utf8_acceptRanges : DataW Unit) = Go.Lib.acceptData := by kernel_rfl
set_option maxRecDepth 100000 in
theorem tabs_in {W : World} {l : List (String × DataW Unit)} (hL : laidMetH Tryz.prog l W) (hS : W.ShapedOpen Tryz.prog) (h1 : ("unicode/utf8.first", (Rows.laid_unicode_utf8_first : DataW Unit)) ∈ l.filter fun x => x.2.handleName?.isNone) (h2 : ("unicode/utf8.acceptRanges", (Rows.laid_unicode_utf8_acceptRanges : DataW Unit)) ∈ l.filter fun x => x.2.handleName?.isNone) : Ts.TabsIn W := by
  have hm := (laidMetH_iff.1 hL).1
  obtain ⟨z1, e1⟩ := row_type (P := Tryz.prog) (g := 2) (t := 294) (by kernel_rfl)
  obtain ⟨z2, e2⟩ := row_type (P := Tryz.prog) (g := 3) (t := 297) (by kernel_rfl)
  refine ⟨shaped_block hS (of_decide_eq_true (by kernel_rfl)) e1, shaped_block hS (of_decide_eq_true (by kernel_rfl)) e2, ?_⟩
  have r1 := Go.Lib.laidMet.reads hm h1
  have r2 := Go.Lib.laidMet.reads hm h2
  rw [accept_data] at r2
  rw [show (Rows.laid_unicode_utf8_first : DataW Unit) = Go.Lib.firstData from Pinned.utf8First_eq] at r1
  exact utf8Tabs_of_readsT (ρ := Tryz.lays196_ren) (U8Types.of196 Tryz.lays196) ⟨by kernel_rfl, by kernel_rfl, by kernel_rfl, by kernel_rfl, by kernel_rfl, by kernel_rfl, by kernel_rfl⟩ r1 r2
end Go.Proofs.YtglafkgakcfahaaGreatDoor.card
/- A word with one change is within the distance 1 of it; with three letters more it is not within 2; nor is a row of zeros. No program, no run. -/
set_option linter.unusedVariables false
set_option linter.unusedSimpArgs false
set_option linter.unusedSectionVars false
namespace Go.Proofs.Ts
open Go Go.Lib

/-- A word with one change: what (k), where (i). -/
def edit (w : List UInt8) (i k : Nat) : List UInt8 :=
  if k = 0 then w.take i ++ (113 :: w.drop i) else if k = 1 then w.take i ++ w.drop (i + 1) else if k = 2 then w.take i ++ (113 :: w.drop (i + 1))
  else w.take i ++ (w.getD (i + 1) 0 :: w.getD i 0 :: w.drop (i + 2))
def numsOf (w : List UInt8) : List Nat := w.map UInt8.toNat
theorem numsOf_at (w : List UInt8) (j : Nat) : (numsOf w).getD j 0 = bt w j := by
  unfold numsOf bt
  rw [List.getD_eq_getElem?_getD, List.getD_eq_getElem?_getD, List.getElem?_map]
  cases w[j]? <;> rfl
theorem numsOf_length (w : List UInt8) : (numsOf w).length = w.length := by simp [numsOf]
theorem drop_cons' (w : List UInt8) (i : Nat) (h : i < w.length) : w.drop i = w.getD i 0 :: w.drop (i + 1) := by
  rw [List.drop_eq_getElem_cons h, List.getD_eq_getElem?_getD, List.getElem?_eq_getElem h]
  rfl
theorem bt_drop (w : List UInt8) (k i : Nat) : bt (w.drop k) i = bt w (k + i) := by
  unfold bt
  rw [List.getD_eq_getElem?_getD, List.getD_eq_getElem?_getD, List.getElem?_drop]
theorem bt_take (w : List UInt8) (k i : Nat) (h : i < k) : bt (w.take k) i = bt w i := by
  unfold bt
  rw [List.getD_eq_getElem?_getD, List.getD_eq_getElem?_getD, List.getElem?_take_of_lt h]

section
variable {w : List UInt8} (hw : ∀ c ∈ w, 97 ≤ c.toNat ∧ c.toNat ≤ 122) (hl : w.length ≤ 40)
include hw hl
theorem near_edit (i k : Nat) (hi : i + 1 < w.length) : accA (nstep (numsOf w) 1) (nends (numsOf w) 1) nstart (edit w i k) = true := by
  have hN := numsOf_length w
  have h128 : ∀ c ∈ w, c.toNat < 128 := fun c hc => by have := hw c hc; omega
  have ht : (w.take i).length = i := by rw [List.length_take]; omega
  have hq : (113 : UInt8).toNat < 128 := by decide
  have hmem : ∀ j, j < w.length → w.getD j 0 ∈ w := fun j hj => by rw [List.getD_eq_getElem?_getD, List.getElem?_eq_getElem hj]; exact List.getElem_mem hj
  obtain ⟨s, hs, hs0, he⟩ := up_diag (word := numsOf w) (far := 1) (d := 0) (by omega) (by omega) (w.take i) (edit w i k |>.drop i) 0 nstart (up_start (by omega)) (fun c hc => h128 c (List.mem_of_mem_take hc))
    (fun j hj => by rw [numsOf_at, bt_take _ _ _ (by omega), Nat.zero_add]) (by omega) (by
      have e : nstart.now.getD 0 0 = 0 := by decide
      omega)
  rw [ht, Nat.zero_add] at hs0
  have hsplit : edit w i k = w.take i ++ (edit w i k).drop i := by
    have : ∀ y, (w.take i ++ y).drop i = y := fun y => by
      have := List.drop_left' (l₁ := w.take i) (l₂ := y) ht
      exact this
    unfold edit
    repeat' split
    all_goals rw [this]
  rw [hsplit, he]
  have hrest : ∀ y, (w.take i ++ y).drop i = y := fun y => List.drop_left' ht
  have hdrop : ∀ (j : Nat) (t : NS), NUp (numsOf w) t → j ≤ w.length → t.now.getD j 0 ≤ 1 → accA (nstep (numsOf w) 1) (nends (numsOf w) 1) t (w.drop j) = true := fun j t h1 h2 h3 =>
    up_end (d := 1) (by omega) (by omega) (w.drop j) j t h1 (fun c hc => h128 c (List.mem_of_mem_drop hc)) (fun x hx => by rw [numsOf_at, bt_drop]) (by rw [List.length_drop]; omega) h3
  unfold edit
  repeat' split
  · rw [hrest]
    have hc1 : cellN (numsOf w) s.now s.was s.last (113 : UInt8).toNat i ≤ 1 := Nat.le_trans (cell_ins _ _ _ _ _ _) (by omega)
    obtain ⟨a, b⟩ := up_step (far := 1) (by omega) hs 113 hq i (by omega) hc1
    unfold accA
    rw [a]
    exact hdrop i _ (up_next (by omega) hs 113 hq) (by omega) (by omega)
  · rw [hrest]
    have := hs.smooth i (by omega)
    exact hdrop (i + 1) s hs (by omega) (by omega)
  · rw [hrest]
    have hc1 : cellN (numsOf w) s.now s.was s.last (113 : UInt8).toNat (i + 1) ≤ 1 := Nat.le_trans (cell_sub _ _ _ _ _ _) (by omega)
    obtain ⟨a, b⟩ := up_step (far := 1) (by omega) hs 113 hq (i + 1) (by omega) hc1
    unfold accA
    rw [a]
    exact hdrop (i + 1) _ (up_next (by omega) hs 113 hq) (by omega) (by omega)
  · rw [hrest]
    have q1 := h128 _ (hmem (i + 1) hi)
    have q0 := h128 _ (hmem i (by omega))
    have hc1 : cellN (numsOf w) s.now s.was s.last (w.getD (i + 1) 0).toNat (i + 1) ≤ 1 := Nat.le_trans (cell_sub _ _ _ _ _ _) (by omega)
    obtain ⟨a, b⟩ := up_step (far := 1) (by omega) hs _ q1 (i + 1) (by omega) hc1
    have hs1 := up_next (by omega) hs _ q1
    have e1 := nnext_asc (numsOf w) s _ q1 hs.part
    have hc2 : cellN (numsOf w) (nnext (numsOf w) s (w.getD (i + 1) 0)).now (nnext (numsOf w) s (w.getD (i + 1) 0)).was (nnext (numsOf w) s (w.getD (i + 1) 0)).last (w.getD i 0).toNat (i + 2) ≤ 1 := by
      rw [e1]
      simp only
      refine Nat.le_trans (cell_swap _ _ _ _ _ (i + 1) (by omega) ?_ ?_) ?_
      · rw [numsOf_at]; rfl
      · rw [numsOf_at]; rfl
      · simp only [Nat.add_sub_cancel]
        omega
    obtain ⟨a2, b2⟩ := up_step (far := 1) (by omega) hs1 _ q0 (i + 2) (by omega) hc2
    unfold accA
    rw [a]
    simp only
    unfold accA
    rw [a2]
    exact hdrop (i + 2) _ (up_next (by omega) hs1 _ q0) (by omega) (by omega)
end

theorem take_succ_bt (v : List UInt8) (j : Nat) (h : j < v.length) : v.take (j + 1) = v.take j ++ [v.getD j 0] := by
  rw [List.take_succ_eq_append_getElem h, List.getD_eq_getElem?_getD, List.getElem?_eq_getElem h]
  rfl
theorem byte_of_bt {v : List UInt8} {j : Nat} {c : UInt8} (h : bt v j = c.toNat) : v.getD j 0 = c := UInt8.toNat_inj.1 h
theorem cnt_one (a b : UInt8) : List.count a [b] = if b = a then 1 else 0 := by
  rw [List.count_singleton]
  by_cases h : b = a <;> simp [h]

/-- Two lengths and two counts of a letter keep words apart. -/
theorem far_count (v u : List UInt8) (hv : v.length ≤ 40) (hu : ∀ c ∈ u, c.toNat < 128) (q : UInt8) (h : v.length + u.count q ≥ u.length + v.count q + 3) : accA (nstep (numsOf v) 2) (nends (numsOf v) 2) nstart u = false := by
  have hN := numsOf_length v
  rw [Bool.eq_false_iff]
  intro ha
  have := far_off (word := numsOf v) (F := fun p j => (j : Int) - p.length + (p.count q : Nat) - ((v.take j).count q : Nat)) (by omega) ?_ ?_ ?_ ?_ (far := 2) (by omega) u [] nstart (low_start _ (by omega) _ ?_) hu ha
  · rw [List.nil_append, hN, List.take_of_length_le (Nat.le_refl _)] at this
    omega
  · intro p c j hj
    simp only [List.length_append, List.length_singleton, List.count_append, cnt_one]
    split <;> omega
  · intro p j hj
    rw [take_succ_bt _ _ (by omega), List.count_append]
    omega
  · intro p c j hj
    rw [take_succ_bt _ _ (by omega), List.count_append, numsOf_at]
    simp only [List.length_append, List.length_singleton, List.count_append, cnt_one]
    by_cases e : bt v j = c.toNat
    · rw [if_pos e, byte_of_bt e]
      split <;> omega
    · rw [if_neg e]
      split <;> split <;> omega
  · intro p a c j h0 hj h1 h2
    obtain ⟨j, rfl⟩ : ∃ j', j = j' + 1 := ⟨j - 1, by omega⟩
    rw [numsOf_at] at h1 h2
    simp only [Nat.add_sub_cancel] at h2 ⊢
    rw [take_succ_bt _ _ (by omega), take_succ_bt _ _ (by omega), byte_of_bt h1, byte_of_bt h2]
    simp only [List.length_append, List.length_singleton, List.count_append, cnt_one]
    omega
  · intro j hj
    simp
    omega
/-- Letters that the word has not keep words apart. -/
theorem far_strange (v u : List UInt8) (hv : v.length ≤ 40) (hu : ∀ c ∈ u, c.toNat < 128) (z : UInt8) (hz : z ∉ v) (h : 3 ≤ u.count z) : accA (nstep (numsOf v) 2) (nends (numsOf v) 2) nstart u = false := by
  have hN := numsOf_length v
  have hne : ∀ j, j < v.length → v.getD j 0 ≠ z := fun j hj e => hz (by rw [← e, List.getD_eq_getElem?_getD, List.getElem?_eq_getElem hj]; exact List.getElem_mem hj)
  rw [Bool.eq_false_iff]
  intro ha
  have := far_off (word := numsOf v) (F := fun p j => ((p.count z : Nat) : Int)) (by omega) ?_ ?_ ?_ ?_ (far := 2) (by omega) u [] nstart (low_start _ (by omega) _ ?_) hu ha
  · rw [List.nil_append] at this
    omega
  · intro p c j hj
    simp only [List.count_append, cnt_one]
    split <;> omega
  · intro p j hj
    omega
  · intro p c j hj
    simp only [List.count_append, cnt_one, numsOf_at]
    by_cases e : bt v j = c.toNat
    · have := hne j (by omega)
      rw [byte_of_bt e] at this
      rw [if_pos e, if_neg this]
      omega
    · rw [if_neg e]
      split <;> omega
  · intro p a c j h0 hj h1 h2
    rw [numsOf_at] at h1 h2
    have e1 := hne j (by omega)
    have e2 := hne (j - 1) (by omega)
    rw [byte_of_bt h1] at e1
    rw [byte_of_bt h2] at e2
    simp only [List.count_append, cnt_one, if_neg e1, if_neg e2]
    omega
  · intro j hj
    simp

section
variable {w : List UInt8} (hw : ∀ c ∈ w, 97 ≤ c.toNat ∧ c.toNat ≤ 122) (hl : w.length ≤ 37)
include hw hl
theorem edit_asc (i k : Nat) (hi : i + 1 < w.length) : ∀ c ∈ edit w i k, 97 ≤ c.toNat ∧ c.toNat ≤ 122 := by
  have hmem : ∀ j, j < w.length → w.getD j 0 ∈ w := fun j hj => by rw [List.getD_eq_getElem?_getD, List.getElem?_eq_getElem hj]; exact List.getElem_mem hj
  have hq : 97 ≤ (113 : UInt8).toNat ∧ (113 : UInt8).toNat ≤ 122 := by decide
  intro c hc
  unfold edit at hc
  repeat' split at hc
  all_goals simp only [List.mem_append, List.mem_cons] at hc
  · rcases hc with h | rfl | h
    · exact hw c (List.mem_of_mem_take h)
    · exact hq
    · exact hw c (List.mem_of_mem_drop h)
  · rcases hc with h | h
    · exact hw c (List.mem_of_mem_take h)
    · exact hw c (List.mem_of_mem_drop h)
  · rcases hc with h | rfl | h
    · exact hw c (List.mem_of_mem_take h)
    · exact hq
    · exact hw c (List.mem_of_mem_drop h)
  · rcases hc with h | rfl | rfl | h
    · exact hw c (List.mem_of_mem_take h)
    · exact hw _ (hmem _ hi)
    · exact hw _ (hmem _ (by omega))
    · exact hw c (List.mem_of_mem_drop h)
theorem far_edit (i k : Nat) (hi : i + 1 < w.length) : accA (nstep (numsOf (w ++ [120, 121, 122])) 2) (nends (numsOf (w ++ [120, 121, 122])) 2) nstart (edit w i k) = false := by
  refine far_count _ _ (by simp; omega) (fun c hc => by have := edit_asc hw hl i k hi c hc; omega) 113 ?_
  have hx : List.count (113 : UInt8) [120, 121, 122] = 0 := by decide
  have e1 : w = w.take i ++ (w.getD i 0 :: w.drop (i + 1)) := by rw [← drop_cons' w i (by omega), List.take_append_drop]
  have e2 : w.drop (i + 1) = w.getD (i + 1) 0 :: w.drop (i + 2) := drop_cons' w (i + 1) hi
  have c1 : w.count 113 = (w.take i).count 113 + ((if w.getD i 0 = 113 then 1 else 0) + (w.drop (i + 1)).count 113) := by
    conv => lhs; rw [e1]
    rw [List.count_append, show w.getD i 0 :: w.drop (i + 1) = [w.getD i 0] ++ w.drop (i + 1) from rfl, List.count_append, cnt_one]
  have c2 : (w.drop (i + 1)).count 113 = (if w.getD (i + 1) 0 = 113 then 1 else 0) + (w.drop (i + 2)).count 113 := by
    rw [e2, show w.getD (i + 1) 0 :: w.drop (i + 2) = [w.getD (i + 1) 0] ++ w.drop (i + 2) from rfl, List.count_append, cnt_one]
  have c0 : (w.drop i).count 113 = (if w.getD i 0 = 113 then 1 else 0) + (w.drop (i + 1)).count 113 := by
    rw [drop_cons' w i (by omega), show w.getD i 0 :: w.drop (i + 1) = [w.getD i 0] ++ w.drop (i + 1) from rfl, List.count_append, cnt_one]
  have l1 : (w.take i).length = i := by rw [List.length_take]; omega
  rw [List.count_append, hx, List.length_append]
  unfold edit
  repeat' split
  · rw [show (113 : UInt8) :: w.drop i = [113] ++ w.drop i from rfl, List.count_append, List.count_append, cnt_one, if_pos rfl, List.length_append, List.length_append, List.length_drop, l1]
    simp only [List.length_cons, List.length_nil]
    omega
  · rw [List.count_append, List.length_append, List.length_drop, l1]
    simp only [List.length_cons, List.length_nil]
    split at c1 <;> omega
  · rw [show (113 : UInt8) :: w.drop (i + 1) = [113] ++ w.drop (i + 1) from rfl, List.count_append, List.count_append, cnt_one, if_pos rfl, List.length_append, List.length_append, List.length_drop, l1]
    simp only [List.length_cons, List.length_nil]
    split at c1 <;> omega
  · rw [show w.getD (i + 1) 0 :: w.getD i 0 :: w.drop (i + 2) = [w.getD (i + 1) 0] ++ ([w.getD i 0] ++ w.drop (i + 2)) from rfl, List.count_append, List.count_append, List.count_append, cnt_one, cnt_one, List.length_append, List.length_append, List.length_append, List.length_drop, l1]
    simp only [List.length_cons, List.length_nil]
    omega
theorem far_zeros : accA (nstep (numsOf (w ++ [120, 121, 122])) 2) (nends (numsOf (w ++ [120, 121, 122])) 2) nstart (List.replicate 14 48) = false := by
  refine far_strange _ _ (by simp; omega) (fun c hc => ?_) 48 (fun h => ?_) (by decide)
  · rw [List.eq_of_mem_replicate hc]; decide
  · rcases List.mem_append.1 h with h | h
    · have := hw _ h
      revert this
      decide
    · revert h
      decide
end
end Go.Proofs.Ts
/- The automata of one word and of a beginning: their methods. -/
set_option linter.unusedVariables false
set_option linter.unusedSimpArgs false
namespace Go.Proofs.Ts
open Go Go.RowKit

theorem eq_nat (a b : Nat) : ((a : Int) == (b : Int)) = decide (a = b) := by
  rw [Bool.eq_iff_iff, beq_iff_eq, decide_eq_true_eq]
  omega
theorem eq_byte (a b : UInt8) : ((a.toNat : Int) == (b.toNat : Int)) = decide (a = b) := by
  rw [Bool.eq_iff_iff, beq_iff_eq, decide_eq_true_eq]
  constructor
  · intro h; exact UInt8.toNat_inj.1 (by omega)
  · rintro rfl; rfl

theorem exactEnds_any (s : ByteArray) (k : Nat) (w : World) (hs : s.size ≤ 1000000) (hk : k ≤ 1000000) :
    Calls Tryz.prog 238 #[.string s, .int .i64 k] w fun e w' => e = .returned (.bool (decide (k = s.size))) ∧ Same w w' := by
  rw [← eq_nat]
  go_enter Tryz.func238, Tryz.ntmps238
  go_wp2
  go_ret
  exact ⟨rfl, Same.refl _⟩
theorem beginsEnds_any (s : ByteArray) (k : Nat) (w : World) (hs : s.size ≤ 1000000) (hk : k ≤ 1000000) :
    Calls Tryz.prog 210 #[.string s, .int .i64 k] w fun e w' => e = .returned (.bool (decide (k = s.size))) ∧ Same w w' := by
  rw [← eq_nat]
  go_enter Tryz.func210, Tryz.ntmps210
  go_wp2
  go_ret
  exact ⟨rfl, Same.refl _⟩
theorem exactStart_any (s : ByteArray) (w : World) :
    Calls Tryz.prog 239 #[.string s] w fun e w' => e = .returned (.int .i64 0) ∧ Same w w' := by
  go_enter Tryz.func239, Tryz.ntmps239
  go_wp2
  go_ret
  exact ⟨rfl, Same.refl _⟩
theorem beginsStart_any (s : ByteArray) (w : World) :
    Calls Tryz.prog 211 #[.string s] w fun e w' => e = .returned (.int .i64 0) ∧ Same w w' := by
  go_enter Tryz.func211, Tryz.ntmps211
  go_wp2
  go_ret
  exact ⟨rfl, Same.refl _⟩

/-- Does the word go on with the byte? -/
def goesOn (s : ByteArray) (k : Nat) (c : UInt8) : Bool := decide (k < s.size) && decide (s.data.toList.getD k 0 = c)

theorem exactStep_any (s : ByteArray) (k : Nat) (c : UInt8) (w : World) (hs : s.size ≤ 1000000) (hk : k ≤ 1000000) :
    Calls Tryz.prog 240 #[.string s, .int .i64 k, .int .u8 c.toNat] w fun e w' => e = .returned (.tuple #[.int .i64 ((k + 1 : Nat) : Int), .bool (goesOn s k c)]) ∧ Same w w' := by
  have q1 : IntKind.i64.wrap ((k : Int) + 1) = (k : Int) + 1 := IntWalk.i64_in _ (by omega)
  by_cases h : k < s.size
  · have hg : Hid (goesOn s k c = (((s[k]).toNat : Int) == (c.toNat : Int))) := Lib.hid (by
      unfold goesOn
      rw [decide_eq_true h, getD_str s k h, eq_byte]
      rfl)
    have q2 : decide ((k : Int) < (s.size : Int)) = true := by simp; omega
    go_enter Tryz.func240, Tryz.ntmps240
    go_wp2_with fail
    go_quiet (fail)
    go_wp2_with fail
    go_ret2
    exact ⟨by rw [hg.out]; rfl, Same.drewN _ _⟩
  · have hg : Hid (goesOn s k c = false) := Lib.hid (by unfold goesOn; rw [decide_eq_false h]; rfl)
    have q2 : decide ((k : Int) < (s.size : Int)) = false := by simp; omega
    go_enter Tryz.func240, Tryz.ntmps240
    go_wp2_with fail
    go_quiet (fail)
    go_wp2_with fail
    go_ret2
    exact ⟨by rw [hg.out]; rfl, Same.drewN _ _⟩

/-- The state behind the byte, and whether there is one, where a beginning is asked for. -/
def begNext (s : ByteArray) (k : Nat) : Nat := if k = s.size then k else k + 1
def begOk (s : ByteArray) (k : Nat) (c : UInt8) : Bool := decide (k = s.size) || goesOn s k c
theorem beginsStep_any (s : ByteArray) (k : Nat) (c : UInt8) (w : World) (hs : s.size ≤ 1000000) (hk : k ≤ s.size) :
    Calls Tryz.prog 212 #[.string s, .int .i64 k, .int .u8 c.toNat] w fun e w' => e = .returned (.tuple #[.int .i64 (begNext s k : Nat), .bool (begOk s k c)]) ∧ Same w w' := by
  by_cases h : k = s.size
  · have h1 : begOk s k c = true := by simp [begOk, h]
    have h2 : begNext s k = k := by simp [begNext, h]
    rw [h1, h2]
    clear h1 h2
    subst h
    clear hk
    go_enter Tryz.func212, Tryz.ntmps212
    go_wp2_with fail
    go_ret2
    exact ⟨rfl, Same.refl _⟩
  · have hlt : k < s.size := by omega
    have q1 : IntKind.i64.wrap ((k : Int) + 1) = (k : Int) + 1 := IntWalk.i64_in _ (by omega)
    have h1 : begOk s k c = (((s[k]).toNat : Int) == (c.toNat : Int)) := by
      unfold begOk goesOn
      rw [decide_eq_false h, decide_eq_true hlt, getD_str s k hlt, eq_byte]
      rfl
    have h2 : begNext s k = k + 1 := by simp [begNext, h]
    rw [h1, h2]
    clear h1 h2
    have q2 : ((k : Int) == (s.size : Int)) = false := by rw [eq_nat]; simpa using h
    clear h hk
    go_enter Tryz.func212, Tryz.ntmps212
    go_wp2_with fail
    go_quiet (fail)
    go_wp2_with fail
    go_ret2
    exact ⟨rfl, Same.drewN _ _⟩
end Go.Proofs.Ts
/- The pieces of strings.FieldsFunc at 'a byte that is a blank' are the fields between blanks, whatever the bytes. No program, no run. -/
set_option linter.unusedSectionVars false
set_option linter.unusedVariables false
set_option linter.unusedSimpArgs false
namespace Go.Proofs.Ts
open Go

/-- Is the rune a blank? -/
def blankR (x : Nat) : Bool := decide (x < 128) && isBlank (UInt8.ofNat x)

theorem decodeN_high (n b0 b1 b2 b3 : Nat) (h : 128 ≤ b0) : 128 ≤ (Lib.decodeN n b0 b1 b2 b3).1 ∧ (2 ≤ (Lib.decodeN n b0 b1 b2 b3).2 → 128 ≤ b1) ∧ (3 ≤ (Lib.decodeN n b0 b1 b2 b3).2 → 128 ≤ b2) ∧
    (4 ≤ (Lib.decodeN n b0 b1 b2 b3).2 → 128 ≤ b3) ∧ (Lib.decodeN n b0 b1 b2 b3).2 ≤ 4 := by
  unfold Lib.decodeN
  repeat' split
  all_goals (simp only; omega)
theorem decodeN_low (n b0 b1 b2 b3 : Nat) (h : b0 < 128) : Lib.decodeN n b0 b1 b2 b3 = (b0, 1) := by
  unfold Lib.decodeN
  rw [if_pos h]

theorem high_no_blank {c : UInt8} (h : 128 ≤ c.toNat) : isBlank c = false := by
  have n (x : UInt8) (k : UInt8) : (x == k) = decide (x.toNat = k.toNat) := by rw [Bool.eq_iff_iff]; simp [UInt8.toNat_inj]
  simp only [isBlank, n]
  simp
  omega
theorem blankR_byte (c : UInt8) (h : c.toNat < 128) : blankR c.toNat = isBlank c := by simp [blankR, h]

theorem fields_skip : ∀ (u r cur : List UInt8), (∀ c ∈ u, isBlank c = false) → fields (u ++ r) cur = fields r (cur ++ u)
  | [], r, cur, _ => by simp
  | c :: u, r, cur, h => by
    have hc := h c (by simp)
    rw [List.cons_append]
    conv => lhs; unfold fields
    rw [if_neg (by simp [hc]), fields_skip u r (cur ++ [c]) fun x hx => h x (by simp [hx])]
    simp

/-- What a rune at a place says of the bytes there. -/
theorem rune_bytes (s : ByteArray) (pos : Nat) (h : pos < s.size) :
    (blankR (Utf8.decode s pos).1 = true → (Utf8.decode s pos).2 = 1 ∧ isBlank (s.data.toList.getD pos 0) = true) ∧
    (blankR (Utf8.decode s pos).1 = false → ∀ c ∈ (s.data.toList.drop pos).take (Utf8.decode s pos).2, isBlank c = false) := by
  have hd := Lib.decode_N s pos
  by_cases h0 : (s.data.toList.getD pos 0).toNat < 128
  · rw [decodeN_low _ _ _ _ _ h0] at hd
    rw [hd]
    simp only
    rw [blankR_byte _ h0]
    refine ⟨fun hb => ⟨trivial, hb⟩, fun hb c hc => ?_⟩
    have hl : pos < s.data.toList.length := by simpa using h
    rw [List.drop_eq_getElem_cons hl] at hc
    simp only [List.take_succ_cons, List.take_zero, List.mem_singleton] at hc
    subst hc
    rw [List.getD_eq_getElem?_getD, List.getElem?_eq_getElem hl] at hb
    exact hb
  · obtain ⟨h1, h2, h3, h4, h5⟩ := decodeN_high (s.data.toList.length - pos) (s.data.toList.getD pos 0).toNat (s.data.toList.getD (pos + 1) 0).toNat (s.data.toList.getD (pos + 2) 0).toNat (s.data.toList.getD (pos + 3) 0).toNat (by omega)
    rw [← hd] at h1 h2 h3 h4 h5
    refine ⟨fun hb => ?_, fun _ c hc => ?_⟩
    · unfold blankR at hb
      rw [decide_eq_false (by omega)] at hb
      cases hb
    · obtain ⟨j, hj⟩ := List.getElem?_of_mem hc
      rw [List.getElem?_take] at hj
      split at hj
      · rename_i hjk
        rw [List.getElem?_drop] at hj
        apply high_no_blank
        have e : s.data.toList.getD (pos + j) 0 = c := by rw [List.getD_eq_getElem?_getD, hj]; rfl
        rw [← e]
        rcases j with _ | _ | _ | _ | j
        · simpa using (by omega : 128 ≤ (s.data.toList.getD pos 0).toNat)
        · exact h2 (by omega)
        · exact h3 (by omega)
        · exact h4 (by omega)
        · omega
      · cases hj

theorem spans_blank (s : ByteArray) : ∀ (f pos : Nat) (st : Option Nat) (acc : List (Nat × Nat)), s.size ≤ pos + f → pos ≤ s.size → (∀ a, st = some a → a < pos) →
    acc.map (fun p => Lib.pieceU s.data.toList p.1 p.2) ++ fields (s.data.toList.drop pos) (Lib.openPiece s.data.toList st pos) = (Lib.closeSpans s (Lib.spansFromP blankR s f pos st acc)).map (fun p => Lib.pieceU s.data.toList p.1 p.2) := by
  intro f
  have close : ∀ (st : Option Nat) (acc : List (Nat × Nat)), (∀ a, st = some a → a < s.size) →
      acc.map (fun p => Lib.pieceU s.data.toList p.1 p.2) ++ fields [] (Lib.openPiece s.data.toList st s.size) = (Lib.closeSpans s (acc, st)).map (fun p => Lib.pieceU s.data.toList p.1 p.2) := by
    intro st acc hst
    cases st with
    | none => simp [fields, Lib.closeSpans, Lib.openPiece]
    | some a =>
      have := Lib.pieceU_ne s.data.toList a s.size (hst a rfl) (by simp)
      simp [fields, Lib.closeSpans, Lib.openPiece, this]
  induction f with
  | zero =>
    intro pos st acc h hp hst
    obtain rfl : pos = s.size := by omega
    have hd : s.data.toList.drop s.size = [] := List.drop_eq_nil_of_le (by simp)
    rw [hd]
    exact close st acc hst
  | succ f ih =>
    intro pos st acc h hp hst
    by_cases hlt : pos < s.size
    · have hw := Lib.width_pos s pos
      have hwn : pos + (Utf8.decode s pos).2 ≤ s.size := by
        have := Lib.decodeN_le_n' (s.size - pos) (s.get! pos).toNat (s.get! (pos + 1)).toNat (s.get! (pos + 2)).toNat (s.get! (pos + 3)).toNat (by omega)
        rw [← Lib.decode_at] at this
        omega
      obtain ⟨hb1, hb2⟩ := rune_bytes s pos hlt
      have hl : pos < s.data.toList.length := by simpa using hlt
      simp only [Lib.spansFromP, if_pos hlt]
      cases hsp : blankR (Utf8.decode s pos).1 with
      | true =>
        obtain ⟨hk, hb⟩ := hb1 hsp
        have hdr : s.data.toList.drop pos = s.data.toList.getD pos 0 :: s.data.toList.drop (pos + 1) := by
          rw [List.drop_eq_getElem_cons hl, List.getD_eq_getElem?_getD, List.getElem?_eq_getElem hl]
          rfl
        rw [hdr]
        conv => lhs; rhs; unfold fields
        rw [if_pos hb]
        simp only [if_true]
        rw [hk] at hwn ⊢
        cases st with
        | none =>
          have ih := ih (pos + 1) none acc (by omega) hwn (fun a h => by cases h)
          simpa [Lib.openPiece] using ih
        | some a =>
          have hpn := Lib.pieceU_ne s.data.toList a pos (hst a rfl) (by simpa using hp)
          have ih := ih (pos + 1) none (acc ++ [(a, pos)]) (by omega) hwn (fun a h => by cases h)
          simpa [Lib.openPiece, hpn] using ih
      | false =>
        have hnb := hb2 hsp
        have hsplit : s.data.toList.drop pos = (s.data.toList.drop pos).take (Utf8.decode s pos).2 ++ s.data.toList.drop (pos + (Utf8.decode s pos).2) := by
          rw [← List.drop_drop, List.take_append_drop]
        rw [hsplit, fields_skip _ _ _ hnb]
        simp only [Bool.false_eq_true, if_false]
        cases st with
        | none =>
          have ih := ih (pos + (Utf8.decode s pos).2) (some pos) acc (by omega) hwn (fun a h => by cases h; omega)
          have e : ([] : List UInt8) ++ (s.data.toList.drop pos).take (Utf8.decode s pos).2 = Lib.pieceU s.data.toList pos (pos + (Utf8.decode s pos).2) := by
            unfold Lib.pieceU
            rw [List.nil_append, Nat.add_sub_cancel_left]
          simp only [Lib.openPiece] at ih ⊢
          rw [e]
          exact ih
        | some a =>
          have ih := ih (pos + (Utf8.decode s pos).2) (some a) acc (by omega) hwn (fun b h => by cases h; have := hst a rfl; omega)
          simp only [Lib.openPiece] at ih ⊢
          rw [Lib.pieceU_grow _ _ _ _ (Nat.le_of_lt (hst a rfl))]
          exact ih
    · obtain rfl : pos = s.size := by omega
      have hd : s.data.toList.drop s.size = [] := List.drop_eq_nil_of_le (by simp)
      rw [hd, Lib.spansFromP_end _ _ _ _ _ _ hlt]
      exact close st acc hst

/-- The pieces are the fields. -/
theorem goFields_eq (s : ByteArray) : (Lib.goFieldsP blankR s).map (fun b => b.data.toList) = fields s.data.toList [] := by
  have h := spans_blank s s.size 0 none [] (by omega) (Nat.zero_le _) (fun a h => by cases h)
  simp only [List.map_nil, List.nil_append, List.drop_zero, Lib.openPiece] at h
  rw [h]
  unfold Lib.goFieldsP Lib.spansOfP
  rw [List.map_map]
  refine List.map_congr_left fun p _ => ?_
  simp only [Function.comp, Lib.pieceU]
  exact Lib.extract_data s p.1 p.2
theorem fields_count : ∀ (l cur : List UInt8), (fields l cur).length ≤ l.length + 1
  | [], cur => by unfold fields; split <;> simp
  | c :: r, cur => by
    unfold fields
    split
    · split
      · have := fields_count r []; simp; omega
      · have := fields_count r []; simp; omega
    · have := fields_count r (cur ++ [c]); simp; omega
theorem goFields_size (s f : ByteArray) (h : f ∈ Lib.goFieldsP blankR s) : f.size ≤ s.size := by
  unfold Lib.goFieldsP at h
  obtain ⟨x, _, rfl⟩ := List.mem_map.1 h
  rw [ByteArray.size_extract]
  omega
end Go.Proofs.Ts
/- The walk of the predicate that the documents' words are parted by. -/
set_option linter.unusedVariables false
namespace Go.Proofs.Ts
open Go Go.RowKit

theorem blankB_any (c : UInt8) (w : World) :
    Calls Tryz.prog 80 #[.int .u8 c.toNat] w fun e w' => e = .returned (.bool (isBlank c)) ∧ Same w w' := by
  rw [blank_toNat]
  go_enter Tryz.func80, Tryz.ntmps80
  go_wp2
  all_goals
    go_ret
    exact ⟨ret_bool (by simp [*]), Same.refl _⟩

set_option maxRecDepth 100000 in
theorem blankR_any (x : Nat) (hx : x ≤ 1114111) (w : World) :
    Calls Tryz.prog 79 #[.int .i32 x] w fun e w' => e = .returned (.bool (blankR x)) ∧ Same w w' := by
  by_cases h : x < 128
  · obtain ⟨c, hc⟩ : ∃ c : UInt8, c.toNat = x := ⟨UInt8.ofNat x, by simp; omega⟩
    have hb := Lib.hid (blankR_byte c (by omega))
    subst hc
    clear hx
    go_enter Tryz.func79, Tryz.ntmps79
    have q1 : IntKind.u8.wrap (c.toNat : Int) = (c.toNat : Int) := by
      exact IntWalk.u8_in _ (by omega)
    go_wp2_with (go_at_call 80; refine (blankB_any c _).mono ?_; rintro e w1 ⟨rfl, hS1⟩)
    go_ret
    exact ⟨ret_bool hb.out.symm, hS1⟩
  · have hb : Hid (blankR x = false) := by
      refine Lib.hid ?_
      unfold blankR
      rw [decide_eq_false h]
      rfl
    clear hx
    go_enter Tryz.func79, Tryz.ntmps79
    go_wp2
    go_ret
    exact ⟨ret_bool hb.out.symm, Same.refl _⟩

theorem blank_pays (w : World) : PredAtRunes Tryz.prog 79 #[] blankR w :=
  fun W x hx hb => (blankR_any x hx W).mono fun _ _ h => h
end Go.Proofs.Ts
/- The walk of the iterator over a document's words. -/
set_option linter.unusedVariables false
set_option linter.unusedSimpArgs false
namespace Go.Proofs.Ts
open Go Go.RowKit Go.Shelf

/-- A document's words. -/
def wordsB (d : ByteArray) : List (List UInt8) := ((fields d.data.toList []).map lowL).filter fun w => decide (w.length ≤ 16)
/-- .. of the first k fields. -/
def upto (fs : List (List UInt8)) (k : Nat) : List (List UInt8) := ((fs.take k).map lowL).filter fun w => decide (w.length ≤ 16)
theorem upto_yes (fs : List (List UInt8)) (k : Nat) (h : k < fs.length) (h16 : fs[k].length ≤ 16) : upto fs (k + 1) = upto fs k ++ [lowL fs[k]] := by
  unfold upto
  rw [List.take_succ_eq_append_getElem h, List.map_append, List.filter_append]
  simp [lowL, h16]
theorem upto_no (fs : List (List UInt8)) (k : Nat) (h : k < fs.length) (h16 : ¬ fs[k].length ≤ 16) : upto fs (k + 1) = upto fs k := by
  unfold upto
  rw [List.take_succ_eq_append_getElem h, List.map_append, List.filter_append]
  simp [lowL, h16]
theorem upto_all (d : ByteArray) (fs : List (List UInt8)) (h : fs = fields d.data.toList []) : upto fs fs.length = wordsB d := by
  unfold upto wordsB
  rw [List.take_of_length_le (Nat.le_refl _), h]
theorem upto_le (fs : List (List UInt8)) (k : Nat) : (upto fs k).length ≤ (upto fs fs.length).length := by
  unfold upto
  rw [List.take_of_length_le (Nat.le_refl fs.length)]
  conv => rhs; rw [← List.take_append_drop k fs, List.map_append, List.filter_append, List.length_append]
  omega
theorem upto_lt (fs : List (List UInt8)) (k : Nat) (h : k < fs.length) (h16 : fs[k].length ≤ 16) : (upto fs k).length < (upto fs fs.length).length := by
  have h1 := upto_yes fs k h h16
  have h2 := upto_le fs (k + 1)
  rw [h1, List.length_append] at h2
  simp at h2
  omega

/-- What a round of the loop over the words keeps: every row of strings. -/
def KeepStr (w w' : World) : Prop := ∀ (k : Nat) cs r, w.heap[k]? = some (.cells cs 9 r) → w'.heap[k]? = w.heap[k]?
theorem KeepStr.refl (w : World) : KeepStr w w := fun _ _ _ _ => rfl
theorem KeepStr.trans {a b c : World} (h : KeepStr a b) (k : KeepStr b c) : KeepStr a c := fun j cs r hj => (k j cs r ((h j cs r hj).trans hj)).trans (h j cs r hj)
theorem KeepStr.below {a b : World} (h : Below a.heap.size a b) : KeepStr a b := fun j cs r hj => h.block j (Array.getElem?_eq_some_iff.1 hj).1
theorem KeepStr.put {w : World} (W : World) (l : Nat) (o o' : Obj) (_ : w.heap.size ≤ l) (h : W.heap[l]? = some o) (hc : o.isCells = false) (_ : o.isWalk = false) : KeepStr W (W.putObj l o') := by
  intro j cs r hj
  refine (grownBy_putObj' W l o').block j (Array.getElem?_eq_some_iff.1 hj).1 ?_
  intro e
  cases e
  rw [h] at hj
  cases hj
  cases hc
theorem KeepStr.row {w w' : World} {B n : Nat} {v : Value} {xs : List Value} (h : KeepStr w w') (hr : w.ownsRow B 9 1 v n xs) : w'.ownsRow B 9 1 v n xs :=
  ownsRow_block hr fun k hk => by
    rcases hr.2 with ⟨rfl, _⟩ | ⟨g, cap, cur, rfl, _, hg, _⟩
    · cases hk
    · cases hk; exact h _ _ _ hg

/-- Bytes of one's own that may be written. -/
def BRow (w : World) (A : Nat) (l : List UInt8) : Prop := A < w.heap.size ∧ ∀ (j : Nat) (h : j < l.length), w.cell? ⟨A, j, none⟩ = some (.int .u8 l[j].toNat) ∧ w.frozen? ⟨A, j, none⟩ = false
theorem BRow.store {w : World} {A : Nat} {l : List UInt8} (h : BRow w A l) (i : Nat) (hi : i < l.length) (c : UInt8) : BRow (w.setCell ⟨A, i, none⟩ (.int .u8 c.toNat)) A (l.set i c) := by
  refine ⟨by simpa using h.1, fun j hj => ?_⟩
  have hj' : j < l.length := by simpa using hj
  obtain ⟨h1, h2⟩ := h.2 j hj'
  refine ⟨?_, by rw [World.frozen?_setCell]; exact h2⟩
  by_cases e : i = j
  · subst e
    rw [List.getElem_set_self]
    exact World.cell?_setCell_same' _ _ _ (by rw [h1]; rfl)
  · rw [List.getElem_set_ne e]
    rw [World.cell?_setCell_other _ _ _ _ (fun e' => e (congrArg Addr.off e'))]
    exact h1
theorem BRow.later {w w' : World} {A : Nat} {l : List UInt8} (h : BRow w A l) (hb : w'.heap[A]? = w.heap[A]?) : BRow w' A l := by
  refine ⟨?_, fun j hj => ?_⟩
  · have h1 := h.1
    have : w'.heap[A]? ≠ none := by rw [hb]; simp; exact h1
    exact Nat.lt_of_not_le fun hge => this (Array.getElem?_eq_none hge)
  · obtain ⟨h1, h2⟩ := h.2 j hj
    exact ⟨(World.cell?_of_block (a := ⟨A, j, none⟩) hb).trans h1, (World.frozen?_of_block (a := ⟨A, j, none⟩) hb).trans h2⟩
/-- '[]byte(s)' of a string. -/
theorem conv_bytes (s : ByteArray) (w : World) : ∃ cap w1, (convert 9 61 (.string s)).run Tryz.prog w = .ok (.slice (some ⟨w.heap.size, 0, none⟩) s.size cap) w1 ∧ BRow w1 w.heap.size s.data.toList ∧ Below w.heap.size w w1 ∧ w1.heap.size = w.heap.size + 1 := by
  have h := run_bytes_of_string (P := Tryz.prog) w 9 61 5 s Tryz.underlying9 Tryz.underlying61 Tryz.underlying5
  refine ⟨_, _, h, ⟨by simp, fun j hj => ?_⟩, ((Below.refl _ w).drew).alloc (Nat.le_refl _) _, by simp⟩
  have hj' : j < s.data.size := by simpa using hj
  have hw : w.drew.heap.size = w.heap.size := rfl
  constructor
  · have := World.cell?_alloc_mark w.drew (bytesRow s (grownCap w s.size 0 5)) 5 ((bytesRow s (grownCap w s.size 0 5)).size, (bytesRow s (grownCap w s.size 0 5)).size + 1) j
    rw [hw] at this
    rw [this, bytesRow_at s _ j hj']
    rfl
  · have := World.frozen?_alloc_mark w.drew (bytesRow s (grownCap w s.size 0 5)) 5 (bytesRow s (grownCap w s.size 0 5)).size ((bytesRow s (grownCap w s.size 0 5)).size + 1) j
    rw [hw] at this
    rw [this]
    have hsz : j < (bytesRow s (grownCap w s.size 0 5)).size := by
      unfold bytesRow
      rw [Array.size_append, Array.size_map]
      omega
    rw [decide_eq_false (by omega)]
    rfl

/-- An operation that hands over a value, in a fence, in a round or out of one. -/
theorem wpListIn_value {F : Fence} {n : Nat} {P : Program} {ops : Array Oper} {Q : Exit → Act → World → Prop} {rest : List Oper} {o : Oper} {a : Act} {w w1 : World} {v : Value} (hgd : o.guard = none) (hnd : ∀ c, o.op ≠ .defer c)
    (hab : o.about P w a.eval = none) (hr : (execOp a.eval o).run P w = .ok (.value v) w1) (h : wpListIn F n P ops Q rest (a.put o.dst v) w1) : wpListIn F n P ops Q (o :: rest) a w := by
  refine wpListIn_plain hgd fun K hK => ?_
  refine ⟨fun f hf => (by rw [hab] at hf; cases hf), ?_⟩
  rw [Oper.semAt_eq _ _ _ hnd, hr]
  exact hK _ _ h
theorem wpListIn_conv {F : Fence} {n : Nat} {ops : Array Oper} {Q : Exit → Act → World → Prop} {rest : List Oper} {o : Oper} {a : Act} {w : World} (x : Operand) (hgd : o.guard = none) (ho : o.op = .convert 9 61 x) (s : ByteArray) (hx : a.eval x = .string s)
    (h : ∀ cap w1, BRow w1 w.heap.size s.data.toList → Below w.heap.size w w1 → w1.heap.size = w.heap.size + 1 → wpListIn F n Tryz.prog ops Q rest (a.put o.dst (.slice (some ⟨w.heap.size, 0, none⟩) s.size cap)) w1) :
    wpListIn F n Tryz.prog ops Q (o :: rest) a w := by
  obtain ⟨cap, w1, h1, h2, h3, h4⟩ := conv_bytes s w
  refine wpListIn_value hgd (fun c e => by rw [ho] at e; cases e) (by unfold Oper.about; rw [ho]) (v := .slice (some ⟨w.heap.size, 0, none⟩) s.size cap) (w1 := w1) ?_ (h cap w1 h2 h3 h4)
  unfold execOp
  simp only [ho, hx, Sem.run_bind, h1, Result.andThen_ok, Sem.run_pure]

theorem words_any (d : ByteArray) (w : World) :
    Calls Tryz.prog 45 #[.string d] w fun e w' => e = .returned (.func (.func 77) #[] #[.pointer (some ⟨w.heap.size, 0, none⟩)]) ∧ w' = w.alloc (.cells #[.string d] 9) := by
  have hmf : ∀ (fn : Fn) (first cap : Array Value) (w : World), (Instr.makeFunc fn first cap).run Tryz.prog w = .ok (.func fn first cap) w := fun _ _ _ _ => rfl
  go_enter Tryz.func45, Tryz.ntmps45
  go_wp2
  go_ret
  exact ⟨rfl, rfl⟩
end Go.Proofs.Ts
/- A range over a map that is told as a list of pairs. No program of its own. -/
set_option linter.unusedSectionVars false
set_option linter.unusedVariables false
set_option linter.unusedSimpArgs false
namespace Go.Proofs.Ts
open Go Go.RowKit
open Go.ChangeMaps (setBlock)

section
variable {P : Program} {α : Type} [DecidableEq α] {enc : α → Value}

/-- Block r goes over the map in block b, whose pairs are m; the keys ts have come. -/
def IterIs (enc : α → Value) (w : World) (b r : Nat) (m : List (α × Value)) (ts : List α) : Prop :=
  ∃ es clock seen, w.heap[b]? = some (.map es clock) ∧ pairs enc es.toList m ∧ (∀ e ∈ es.toList, e.born < clock) ∧ (es.toList.map (·.born)).Nodup ∧
    w.heap[r]? = some (.mapIter (some b) clock seen clock) ∧ ∀ (i : Nat) e p, es.toList[i]? = some e → m[i]? = some p → (e.born ∈ seen ↔ p.1 ∈ ts)

theorem pairs_at {es : List MapEntry} {m : List (α × Value)} (h : pairs enc es m) (i : Nat) : (∀ e, es[i]? = some e → ∃ p, m[i]? = some p ∧ e.key = enc p.1 ∧ e.val = p.2) ∧ (∀ p, m[i]? = some p → ∃ e, es[i]? = some e ∧ e.key = enc p.1 ∧ e.val = p.2) := by
  have hi : (es.map fun e => (e.key, e.val))[i]? = (m.map fun p => (enc p.1, p.2))[i]? := by rw [h]
  rw [List.getElem?_map, List.getElem?_map] at hi
  constructor
  · intro e he
    rw [he] at hi
    cases hp : m[i]? with
    | none => rw [hp] at hi; cases hi
    | some p =>
      rw [hp] at hi
      simp only [Option.map_some, Option.some.injEq, Prod.mk.injEq] at hi
      exact ⟨p, rfl, hi.1, hi.2⟩
  · intro p hp
    rw [hp] at hi
    cases he : es[i]? with
    | none => rw [he] at hi; cases hi
    | some e =>
      rw [he] at hi
      simp only [Option.map_some, Option.some.injEq, Prod.mk.injEq] at hi
      exact ⟨e, rfl, hi.1, hi.2⟩

theorem range_run {w : World} {b : Nat} {m : List (α × Value)} (h : MapIs enc w b m) {T K E : TypeId} (hT : P.underlying T = some (.map K E)) :
    ∃ w', (Instr.range T (.map (some b))).run P w = .ok (.pointer (some ⟨w.heap.size, 0, none⟩)) w' ∧ IterIs enc w' b w.heap.size m [] ∧ w.grownBy w' none ∧ w'.heap.size = w.heap.size + 1 := by
  obtain ⟨es, clock, hb, hp, hl, hn⟩ := h
  refine ⟨_, run_range_map (P := P) w T K E b es clock hT hb, ⟨es, clock, #[], ?_, hp, hl, hn, heap_alloc_new w _, ?_⟩, ⟨rfl, rfl, rfl, by simp, fun k hk _ => Below.heap_alloc w _ k hk⟩, by simp⟩
  · rw [Below.heap_alloc w _ _ (Array.getElem?_eq_some_iff.1 hb).1]; exact hb
  · intro i e p _ _
    simp

theorem IterIs.kept {w w' : World} {b r : Nat} {m : List (α × Value)} {ts : List α} (h : IterIs enc w b r m ts) (h1 : w'.heap[b]? = w.heap[b]?) (h2 : w'.heap[r]? = w.heap[r]?) : IterIs enc w' b r m ts := by
  obtain ⟨es, clock, seen, a1, a2, a3, a4, a5, a6⟩ := h
  exact ⟨es, clock, seen, h1.trans a1, a2, a3, a4, h2.trans a5, a6⟩
theorem IterIs.map {w : World} {b r : Nat} {m : List (α × Value)} {ts : List α} (h : IterIs enc w b r m ts) : MapIs enc w b m := by
  obtain ⟨es, clock, seen, a1, a2, a3, a4, a5, a6⟩ := h
  exact ⟨es, clock, a1, a2, a3, a4⟩
theorem IterIs.apart {w : World} {b r : Nat} {m : List (α × Value)} {ts : List α} (h : IterIs enc w b r m ts) : b ≠ r ∧ b < w.heap.size ∧ r < w.heap.size := by
  obtain ⟨es, clock, seen, a1, a2, a3, a4, a5, a6⟩ := h
  refine ⟨fun e => ?_, (Array.getElem?_eq_some_iff.1 a1).1, (Array.getElem?_eq_some_iff.1 a5).1⟩
  subst e
  rw [a1] at a5
  cases a5

/-- A step: nothing is left; or one key that has not come yet, and its value. -/
theorem next_run (ty : TypeId) {w : World} {b r : Nat} {m : List (α × Value)} {ts : List α} (h : IterIs enc w b r m ts) (hA : Apart m) :
    ((∀ p ∈ m, p.1 ∈ ts) ∧ (Instr.next (.pointer (some ⟨r, 0, none⟩)) false ty).run P w = .ok (.tuple #[.bool false]) w) ∨
    ∃ k v w', (k, v) ∈ m ∧ k ∉ ts ∧ (Instr.next (.pointer (some ⟨r, 0, none⟩)) false ty).run P w = .ok (.tuple #[.bool true, enc k, v]) w' ∧ IterIs enc w' b r m (ts ++ [k]) ∧
      (Instr.entry (.pointer (some ⟨r, 0, none⟩))).run P w' = .ok (.tuple #[enc k, v]) w' ∧ w.grownBy w' (some r) ∧ w'.heap.size = w.heap.size := by
  have hap := h.apart
  obtain ⟨es, clock, seen, a1, a2, a3, a4, a5, a6⟩ := h
  rcases run_next_at (P := P) w ty r b clock clock seen es clock a5 a1 a3 (Nat.le_refl _) with ⟨h0, hrun⟩ | ⟨e, he, w1, hw1, hrun⟩
  · left
    refine ⟨fun p hp => ?_, hrun⟩
    obtain ⟨i, hi⟩ := List.getElem?_of_mem hp
    obtain ⟨e, he, _, _⟩ := (pairs_at a2 i).2 p hi
    refine (a6 i e p he hi).1 ?_
    apply Classical.byContradiction
    intro hno
    have hm : e ∈ leftOf es seen := by
      unfold leftOf
      rw [Array.mem_filter]
      refine ⟨by rw [← Array.mem_toList_iff]; exact List.mem_of_getElem? he, ?_⟩
      simpa using hno
    have := Array.size_pos_of_mem hm
    omega
  · right
    have hem : e ∈ es ∧ e.born ∉ seen := by
      have := he
      unfold leftOf at this
      simpa using this
    have hem' : e ∈ es.toList := by simpa using hem.1
    obtain ⟨i, hi⟩ := List.getElem?_of_mem hem'
    obtain ⟨⟨k, v⟩, hp, hk, hv⟩ := (pairs_at a2 i).1 e hi
    simp only at hk hv
    have hh : w1.heap = w.heap := by rcases hw1 with rfl | rfl <;> rfl
    have hset : ∀ o : Obj, (setBlock w1 r o).heap[r]? = some o := fun o => by
      unfold setBlock
      simp [hh, hap.2.2]
    have hother : ∀ (o : Obj) j, j ≠ r → (setBlock w1 r o).heap[j]? = w.heap[j]? := fun o j hj => by
      unfold setBlock
      simp [hh, Ne.symm hj]
    refine ⟨k, v, _, List.mem_of_getElem? hp, fun hin => hem.2 ((a6 i e _ hi hp).2 hin), by rw [hrun, hk, hv], ⟨es, clock, seen.push e.born, (hother _ _ hap.1).trans a1, a2, a3, a4, hset _, ?_⟩, ?_, ⟨?_, ?_, ?_, ?_, ?_⟩, ?_⟩
    · intro j e' p' he' hp'
      rw [Array.mem_push, List.mem_append, List.mem_singleton]
      have hk' := a6 j e' p' he' hp'
      constructor
      · rintro (h1 | h1)
        · exact .inl (hk'.1 h1)
        · right
          have : e' = e := by
            have h2 : (es.toList.map (·.born))[j]? = some e.born := by rw [List.getElem?_map, he', ← h1]; rfl
            have h3 : (es.toList.map (·.born))[i]? = some e.born := by rw [List.getElem?_map, hi]; rfl
            have hij : j = i := (List.getElem?_inj (List.getElem?_eq_some_iff.1 h2).1 a4).1 (h2.trans h3.symm)
            subst hij
            rw [hi] at he'
            exact (Option.some.inj he').symm
          subst this
          have hij : j = i := by
            have h2 : (es.toList.map (·.born))[j]? = some e'.born := by rw [List.getElem?_map, he']; rfl
            have h3 : (es.toList.map (·.born))[i]? = some e'.born := by rw [List.getElem?_map, hi]; rfl
            exact (List.getElem?_inj (List.getElem?_eq_some_iff.1 h2).1 a4).1 (h2.trans h3.symm)
          subst hij
          rw [hp] at hp'
          cases hp'
          rfl
      · rintro (h1 | h1)
        · exact .inl (hk'.2 h1)
        · right
          have h2 : (m.map (·.1))[j]? = some k := by rw [List.getElem?_map, hp', ← h1]; rfl
          have h3 : (m.map (·.1))[i]? = some k := by rw [List.getElem?_map, hp]; rfl
          have hij : j = i := (List.getElem?_inj (List.getElem?_eq_some_iff.1 h2).1 hA).1 (h2.trans h3.symm)
          subst hij
          rw [hi] at he'
          rw [Option.some.inj he']
    · have := run_entry_at (P := P) (setBlock w1 r (.mapIter (some b) clock (seen.push e.born) clock)) r b clock seen es clock e (hset _) ((hother _ _ hap.1).trans a1) hem' a4
      rw [this, hk, hv]
    · rcases hw1 with rfl | rfl <;> rfl
    · rcases hw1 with rfl | rfl <;> rfl
    · rcases hw1 with rfl | rfl <;> rfl
    · unfold setBlock; simp [hh]
    · intro j hj hne
      exact hother _ j fun e => hne (by rw [e])
    · unfold setBlock; simp [hh]
end
end Go.Proofs.Ts
