/- Lemmas towards the statement Sorted of termsearch: walks of the program's functions and plain laws on lists (TsPAllB, TsWalkedA, TsSorted). Conditions: those that each theorem names. -/
import Derived.Test.YtglafkgakcfahaaGreatDoorSortedPP
import Derived.Test.YtglafkgakcfahaaGreatDoorSortedPL
/- The walk of plain.All. -/
set_option linter.unusedVariables false
set_option linter.unusedSimpArgs false
namespace Go.Proofs.Ts
open Go Go.RowKit Go.Shelf
attribute [local go_sem] Oper.semAt_some

theorem allHits_length (T : List (List UInt8)) : (allHits T).length = T.length := by
  unfold allHits hits
  rw [List.filter_eq_self.2 (fun _ _ => rfl)]
  simp
/-- How many of n are told, where the walk is left behind so many (0: never). -/
def takeN (left n : Nat) : Nat := if left = 0 then n else min left n
def paF (sb lf bx wb lb ib left : Nat) (m x : Value) : List Value :=
  [.pointer (some ⟨sb, 0, none⟩), .int .i64 left, undef, .pointer (some ⟨lf, 0, none⟩), .slice none 0 0, .int .i64 0, .pointer (some ⟨wb, 0, none⟩), .pointer (some ⟨lb, 0, none⟩), .pointer (some ⟨ib, 0, none⟩), m,
    .pointer (some ⟨sb, 0, none⟩), allFn bx, allFn bx, .bool false, allFn bx, x] ++ List.replicate 17 undef
/-- The world in which the loop begins. -/
def paStart (w : World) (sb left : Nat) : World :=
  ((((w.alloc (.cells #[.int .i64 left] 3)).alloc (.cells #[.pointer (some ⟨sb, 0, none⟩)] 23)).alloc (.cells #[allFn (w.heap.size + 1)] 80)).alloc (.cells #[.slice none 0 0] 47)).alloc (.cells #[.int .i64 0] 3)
theorem paStart_size (w : World) (sb left : Nat) : (paStart w sb left).heap.size = w.heap.size + 1 + 1 + 1 + 1 + 1 := by unfold paStart; simp
theorem paStart_pa (w : World) (sb left : Nat) : PA w sb w.heap.size (w.heap.size + 1) (w.heap.size + 1 + 1) (w.heap.size + 1 + 1 + 1) (w.heap.size + 1 + 1 + 1 + 1) left 0 [] (paStart w sb left) := by
  refine ⟨⟨.slice none 0 0, ?_, World.ownsRow_nil _ _ _ _, (fun k e => by cases e)⟩, ?_, ?_, ?_, ?_, ?_⟩
  · unfold paStart
    rw [Below.heap_alloc _ _ _ (by simp)]
    have := heap_alloc_new (((w.alloc (.cells #[.int .i64 left] 3)).alloc (.cells #[.pointer (some ⟨sb, 0, none⟩)] 23)).alloc (.cells #[allFn (w.heap.size + 1)] 80)) (.cells #[.slice none 0 0] 47)
    simpa using this
  · unfold paStart
    have := heap_alloc_new ((((w.alloc (.cells #[.int .i64 left] 3)).alloc (.cells #[.pointer (some ⟨sb, 0, none⟩)] 23)).alloc (.cells #[allFn (w.heap.size + 1)] 80)).alloc (.cells #[.slice none 0 0] 47)) (.cells #[.int .i64 0] 3)
    simpa using this
  · unfold paStart
    rw [Below.heap_alloc _ _ _ (by simp <;> omega), Below.heap_alloc _ _ _ (by simp <;> omega), Below.heap_alloc _ _ _ (by simp <;> omega), Below.heap_alloc _ _ _ (by simp)]
    exact heap_alloc_new w _
  · unfold paStart
    rw [Below.heap_alloc _ _ _ (by simp <;> omega), Below.heap_alloc _ _ _ (by simp <;> omega), Below.heap_alloc _ _ _ (by simp)]
    have := heap_alloc_new (w.alloc (.cells #[.int .i64 left] 3)) (.cells #[.pointer (some ⟨sb, 0, none⟩)] 23)
    unfold ptrV
    simpa using this
  · unfold paStart
    rw [Below.heap_alloc _ _ _ (by simp <;> omega), Below.heap_alloc _ _ _ (by simp)]
    have := heap_alloc_new ((w.alloc (.cells #[.int .i64 left] 3)).alloc (.cells #[.pointer (some ⟨sb, 0, none⟩)] 23)) (.cells #[allFn (w.heap.size + 1)] 80)
    simpa using this
  · unfold paStart
    exact (((((Below.refl _ w).alloc (Nat.le_refl _) _).alloc (by simp) _).alloc (by simp <;> omega) _).alloc (by simp <;> omega) _).alloc (by simp <;> omega) _

set_option maxRecDepth 100000 in
set_option maxHeartbeats 4000000 in
theorem plainAll_any (sb left : Nat) (D : List (List (List UInt8))) (T : List (List UInt8)) (B : Nat) (w : World) (hseg : SegT B w sb D T) (hleft : left ≤ 1000000) :
    Calls Tryz.prog 24 #[ptrV sb, .int .i64 left] w fun e w' => ∃ ov, e = .returned (.tuple #[ov, .int .i64 T.length]) ∧ Below w.heap.size w w' ∧
      w'.ownsRow 0 53 2 ov (takeN left T.length) (foundCells ((matchesOf D (allHits T)).take (takeN left T.length))) := by
  obtain ⟨hsb, kn, hkn, db, R, Λ, ρ, Dd, pv, ps, rfl, hat⟩ := hseg
  have hmf : ∀ (fn : Fn) (first cap : Array Value) (w : World), (Instr.makeFunc fn first cap).run Tryz.prog w = .ok (.func fn first cap) w := fun _ _ _ _ => rfl
  have hbe : ∀ (cap : Array Value) (W : World), (binOp .eql 80 (.func (.func 51) #[] cap) .nilFunc).run Tryz.prog W = .ok (.bool false) W := fun cap W => by kernel_rfl
  have HAT := Lib.hid hat
  have hlen := hat.2.2.2.2.1
  clear hat hkn
  refine (callsIn_wide (n := 5)).1 ?_
  refine callsIn_of_wp_marks Tryz.func24 rfl trivial ?_ rfl
  simp only [Tryz.ntmps24, List.size_toArray, List.length_cons, List.length_nil, Nat.reduceAdd, Nat.reduceSub, Array.replicate_succ, Array.replicate_zero, List.push_toArray, List.append_toArray, List.nil_append, List.cons_append]
  refine wpIn_wide.2 ?_
  unfold ptrV
  go_wp2_with fail
  have ham := all_make sb (w.alloc (.cells #[.int .i64 left] 3))
  unfold ptrV at ham
  refine ham.mono ?_
  clear ham
  rintro e w' ⟨rfl, rfl⟩
  go_wp2_with fail
  clear hbe hmf
  have hpa := paStart_pa w sb left
  have hsz := paStart_size w sb left
  have hW : (((((w.alloc (.cells #[.int .i64 left] 3)).alloc (.cells #[.pointer (some ⟨sb, 0, none⟩)] 23)).alloc (.cells #[.func (.func 51) #[] #[.pointer (some ⟨w.heap.size + 1, 0, none⟩)]] 80)).alloc (.cells #[.slice none 0 0] 47)).alloc (.cells #[.int .i64 0] 3)) = paStart w sb left := rfl
  rw [hW]
  clear hW
  generalize paStart w sb left = W0 at *
  obtain ⟨bx, hbx⟩ : ∃ bx, bx = w.heap.size + 1 := ⟨_, rfl⟩
  rw [← hbx] at hpa hsz ⊢
  obtain ⟨wb, hwb⟩ : ∃ wb, wb = bx + 1 := ⟨_, rfl⟩
  rw [← hwb] at hpa hsz ⊢
  obtain ⟨lb, hlb⟩ : ∃ lb, lb = wb + 1 := ⟨_, rfl⟩
  rw [← hlb] at hpa hsz ⊢
  obtain ⟨ib, hib⟩ : ∃ ib, ib = lb + 1 := ⟨_, rfl⟩
  rw [← hib] at hpa hsz ⊢
  have HPA := Lib.hid hpa
  have hord : w.heap.size < bx ∧ bx < wb ∧ wb < lb ∧ lb < ib ∧ ib < W0.heap.size := by omega
  clear hpa hsz hbx hwb hlb hib
  obtain ⟨ho1, ho2, ho3, ho4, ho5⟩ := hord
  have hN := allHits_length (Λ 0)
  obtain ⟨ms, hms⟩ : ∃ ms, ms = matchesOf D (allHits (Λ 0)) := ⟨_, rfl⟩
  have hml : ms.length = (Λ 0).length := by rw [hms, matchesOf_length, hN]
  have HMS := Lib.hid hms
  clear hms
  -- the loop's law
  refine wpIn_wide.1 (wpIn_rangeFunc_T (F := Fence.wide) (n := 5) (B := W0.heap.size) (l := W0.heap.size + 1) (dfr := W0.heap.size) (mark := [markD W0.heap.size])
    (w1 := fun fn => (W0.alloc (.deferred (some []))).alloc (.loop _)) (fun fn _ => ⟨run_enterLoop_outer _ _ _ _ _, ?h1, ?h2⟩) (by omega) (by omega) (gf := 51) (lb := #[.pointer (some ⟨bx, 0, none⟩)]) rfl trivial (enters_of Tryz.func51 (by kernel_rfl) rfl)
    (encs := encM) (Kp := KeepA) (S := fun xs => xs = ms) (Sp := fun zs => zs <+: ms) (N := (Λ 0).length) (fun fn _ => ?hseq) (fun h k => h.trans k) (fun W r o' h => KeepA.put h rfl) (fun _ => rfl)
    (fun zs W => PA w sb w.heap.size bx wb lb ib left (if zs = [] then 0 else (Λ 0).length) zs W ∧ W.heap[W0.heap.size]? = some (.deferred (some [])) ∧ zs.length ≤ (Λ 0).length ∧ (left = 0 ∨ zs.length < left))
    (fun c zs W => c = .exit 0 ∧ PA w sb w.heap.size bx wb lb ib left (Λ 0).length zs W ∧ W.heap[W0.heap.size]? = some (.deferred (some [])) ∧ zs.length = left ∧ zs ≠ [])
    ?hI ?hIp ?hIxp (fun fn _ => ?h0) (fun x a' W => ∃ mb, a' = { tmps := (paF sb w.heap.size bx wb lb ib left (.pointer (some ⟨mb, 0, none⟩)) (.agg #[strV x.1, intV x.2])).toArray, defers := [] } ∧ W.heap[mb]? = some (.cells #[strV x.1, intV x.2] 53 (0, 0)) ∧ W0.heap.size ≤ mb)
    ?hAxp ?hassign ?hbody ?hdone ?hstop)
  case h1 =>
    have key : ∀ o : Obj, ((W0.alloc (.deferred (some []))).alloc o).heap[W0.heap.size + 1]? = some o := fun o => by
      have := heap_alloc_new (W0.alloc (.deferred (some []))) o
      rw [World.size_alloc] at this
      exact this
    exact key _
  case h2 => simp <;> omega
  case hseq =>
    have key : ∀ o : Obj, SeqT Fence.wide 4 Tryz.prog 51 #[.pointer (some ⟨bx, 0, none⟩)] encM KeepA (fun xs => xs = ms) (fun zs => zs <+: ms) (Λ 0).length ((W0.alloc (.deferred (some []))).alloc o) (W0.heap.size + 1) := fun o => by
      have hp2 := (HPA.out.alloc (.deferred (some []))).alloc o
      have := all1_seq 4 sb bx (W0.heap.size + 1) D kn db R Λ ρ Dd pv ps _ (HAT.out.below hp2.below) hp2.bxs
      rw [hN, ← HMS.out] at this
      exact this
    exact key _
  case h0 =>
    refine ⟨(HPA.out.alloc _).alloc _, ?_, Nat.zero_le _, by simp; omega⟩
    rw [Below.heap_alloc _ _ _ (by simp)]
    exact heap_alloc_new W0 _
  case hI =>
    exact fun s A A' h hs => ⟨h.1.steps hs (by omega), hs.2.2.2.2 _ _ h.2.1 (.inr fun cs r e => by cases e), h.2.2⟩
  case hIp =>
    exact fun s A r o' h hl => ⟨h.1.put hl (by omega), ((grownBy_putObj' A _ o').block _ (lt_of_heap h.2.1) (fun e => by have := Option.some.inj e; omega)).trans h.2.1, h.2.2⟩
  case hIxp =>
    exact fun c s A r o' h hl => ⟨h.1, h.2.1.put hl (by omega), ((grownBy_putObj' A _ o').block _ (lt_of_heap h.2.2.1) (fun e => by have := Option.some.inj e; omega)).trans h.2.2.1, h.2.2.2⟩
  case hAxp =>
    rintro x a' _ A r o' ⟨mb, h1, h2, h3⟩ hl
    refine ⟨mb, h1, ((grownBy_putObj' A _ o').block _ (lt_of_heap h2) (fun e => ?_)).trans h2, h3⟩
    cases e
    rw [hl] at h2
    cases h2
  case hassign =>
    intro zs x W K hi hK
    unfold encM strV intV
    gi_wp2
    have hWs := lt_of_heap hi.2.1
    refine hK _ _ ⟨by simp, fun k o _ hk _ => (Below.heap_alloc W _ k (lt_of_heap hk)).trans hk⟩ (KeepA.below ((Below.refl _ W).alloc (Nat.le_refl _) _)) ⟨hi.1.alloc _, (Below.heap_alloc W _ _ hWs).trans hi.2.1, hi.2.2⟩ ⟨W.heap.size, rfl, heap_alloc_new W _, by omega⟩
  case hbody =>
    rintro zs x a' W hr ⟨hpa, hdf, hzl, hzleft⟩ ⟨mb, rfl, hmb, hmbl⟩ hlt
    obtain ⟨v, h1, h2, h3⟩ := hpa.lst
    obtain ⟨va, vc, rfl⟩ := ownsRow_form h2
    obtain ⟨i0, hi, hz0, hz1, hz2⟩ := info_parts Tryz.info53
    have l0 : W.cell? ⟨lb, 0, none⟩ = some (.slice va zs.length vc) := cell_block h1
    have l1 : W.frozen? ⟨lb, 0, none⟩ = false := free_block h1
    unfold strV intV at hmb
    have m0 : W.cell? ⟨mb, 0, none⟩ = some (.string ⟨x.1.toArray⟩) := cell_block hmb
    have m1 : W.cell? ⟨mb, 1, none⟩ = some (.int .i64 x.2) := cell_block hmb
    have hrow3 : (W.alloc (.cells #[.string ⟨x.1.toArray⟩, .int .i64 x.2] 53)).ownsRow 0 53 2 (.slice va zs.length vc) zs.length (foundCells zs) := h2.alloc _
    have hnew : ∀ j u, [Value.string ⟨x.1.toArray⟩, .int .i64 x.2][j]? = some u → (W.alloc (.cells #[.string ⟨x.1.toArray⟩, .int .i64 x.2] 53)).cell? ((⟨W.heap.size, 0, none⟩ : Addr).add j) = some u := cell_two_new W _ _ _
    have hWs := lt_of_heap hdf
    have hrl : ∃ k, W.heap[lb]? = some (.cells #[.slice va zs.length vc] 47 (0, 0)) ∧ k = lb := ⟨lb, h1, rfl⟩
    have HH1 := Lib.hid h1
    have HH2 := Lib.hid h2
    have HPA1 := Lib.hid hpa
    have HDF := Lib.hid hdf
    have HR := Lib.hid hr
    have HZ := Lib.hid hzleft
    clear h1 h2 h3 hpa hdf hrl hr hzleft hmb
    simp only [paF, strV, intV, allFn, List.replicate_succ, List.replicate_zero, List.cons_append, List.nil_append]
    by_cases hz0' : zs.length = 0
    · have q1 : (((zs.length : Int) + 1) == 1) = true := by rw [beq_iff_eq]; omega
      have HZ0 := Lib.hid hz0'
      clear hz0'
      gi_wp2_with (refine wpListIn_append_lies rfl _ _ 47 rfl 53 i0 (.agg #[.string ⟨#[]⟩, .int .i64 0]) 2 24 Tryz.underlying47 hi hz0 hz1 hz2 rfl (by decide) (.slice va zs.length vc) zs.length (foundCells zs) rfl hrow3 ⟨W.heap.size, 0, none⟩ 1 1 [.string ⟨x.1.toArray⟩, .int .i64 x.2] rfl rfl hnew (by simp [Value.oneCell']) (by decide) (by unfold maxLen; omega) (by omega) ?_; intro v4 W4 hrow4 hgrow4 hlies4; simp only [put_lit, List.set_cons_succ, List.set_cons_zero]; obtain ⟨g4, cap4, rfl⟩ := ownsRow_head hrow4; have HPU := Lib.hid (HPA1.out.push HH1.out ((Moves.alloc W _ _).trans (Moves.append hgrow4 hlies4)) hrow4 (by omega) (by omega) (by omega)); have hk4 : W4.heap[lb]? = W.heap[lb]? := ((Moves.alloc W (.slice va zs.length vc) _).trans (Moves.append hgrow4 hlies4)).block (lt_of_heap HH1.out) (fun e => by (obtain ⟨cur, hcur⟩ := ownsRow_cells4 HH2.out e; rw [HH1.out] at hcur; cases hcur)); have d0 : W4.cell? ⟨lb, 0, none⟩ = some (.slice va zs.length vc) := (World.cell?_of_block (a := ⟨lb, 0, none⟩) hk4).trans l0; have d1 : W4.frozen? ⟨lb, 0, none⟩ = false := (World.frozen?_of_block (a := ⟨lb, 0, none⟩) hk4).trans l1; have f1 : (W4.setCell ⟨lb, 0, none⟩ (.slice (some ⟨g4, 0, none⟩) (zs.length + 1) cap4)).cell? ⟨wb, 0, none⟩ = some (.func (.func 51) #[] #[.pointer (some ⟨bx, 0, none⟩)]) := cell_block HPU.out.1.wlk; have f2 : (W4.setCell ⟨lb, 0, none⟩ (.slice (some ⟨g4, 0, none⟩) (zs.length + 1) cap4)).cell? ⟨w.heap.size, 0, none⟩ = some (.int .i64 left) := cell_block HPU.out.1.lft; have f3 : (W4.setCell ⟨lb, 0, none⟩ (.slice (some ⟨g4, 0, none⟩) (zs.length + 1) cap4)).cell? ⟨lb, 0, none⟩ = some (.slice (some ⟨g4, 0, none⟩) (zs.length + 1) cap4) := World.cell?_setCell_same' _ _ _ (by rw [d0]; rfl); clear hrow4 hgrow4 hlies4 hk4)
      have hzn : zs = [] := List.eq_nil_of_length_eq_zero HZ0.out
      subst hzn
      have hpu := HPU.out
      rw [if_pos rfl, List.nil_append] at hpu
      have hW2 : Hid (W0.heap.size ≤ (W4.setCell ⟨lb, 0, none⟩ (.slice (some ⟨g4, 0, none⟩) (([] : List (List UInt8 × Nat)).length + 1) cap4)).heap.size) := Lib.hid (by have := hpu.2.1.1; omega)
      obtain ⟨rr, hrr⟩ := HR.out
      have hrr2 := hpu.2.2 _ _ hrr rfl
      have hdf2 := hpu.2.2 _ _ HDF.out rfl
      have hk2 := hpu.2.1
      have hks2 : ∀ (k : Nat) o, W.heap[k]? = some o → o.isCells = false → (W4.setCell ⟨lb, 0, none⟩ (.slice (some ⟨g4, 0, none⟩) (([] : List (List UInt8 × Nat)).length + 1) cap4)).heap[k]? = some o := hpu.2.2
      have hpa2 := hpu.1
      clear hpu HPU
      generalize (W4.setCell ⟨lb, 0, none⟩ (.slice (some ⟨g4, 0, none⟩) (([] : List (List UInt8 × Nat)).length + 1) cap4)) = W2 at *
      have HPA2 := Lib.hid hpa2
      have HK2 := Lib.hid hk2
      have HKS2 := Lib.hid hks2
      have HDF2 := Lib.hid hdf2
      clear hpa2 hk2 hks2 hdf2
      have hsz2 : W0.heap.size ≤ W2.heap.size := hW2.out
      refine wpIn_rangeFunc_Ts (F := Fence.wide.inRound (W0.heap.size + 1)) (n := 5 - 1 - 1) (B := W2.heap.size) (l := W2.heap.size) (dfr := rr.defers) (mark := []) (w1 := fun fn => W2.alloc (.loop _)) (fun fn _ => ⟨run_enterLoop_inner hrr2 _ _ _ _ _, heap_alloc_new W2 _, by simp⟩) (Nat.le_refl _) (by omega) (gf := 51) (lb := #[.pointer (some ⟨bx, 0, none⟩)]) rfl trivial (enters_of Tryz.func51 (by kernel_rfl) rfl)
        (encs := encM) (Kp := KeepA) (S := fun xs => xs = ms) (Sp := fun zs => zs <+: ms) (N := (Λ 0).length) (fun fn _ => ?iseq) KeepA.refl (fun h k => h.trans k) (fun W r o' h => KeepA.put h rfl) (fun _ => rfl)
        (fun zs W' => PA w sb w.heap.size bx wb lb ib left zs.length [x] W' ∧ KeepA W2 W' ∧ (∀ (k : Nat) o, W2.heap[k]? = some o → o.isCells = false → W'.heap[k]? = some o))
        (fun _ _ _ => False) ?iI ?iIp (fun _ _ _ _ _ h _ => h) (fun fn _ => ?i0) ?ibody ?idone (fun _ _ _ _ h => h.elim)
      case iseq =>
        have key : ∀ o : Obj, SeqT Fence.wide (5 - 1 - 1 - 1) Tryz.prog 51 #[.pointer (some ⟨bx, 0, none⟩)] encM KeepA (fun xs => xs = ms) (fun zs => zs <+: ms) (Λ 0).length (W2.alloc o) W2.heap.size := fun o => by
          have hp2 := HPA2.out.alloc o
          have := all1_seq (5 - 1 - 1 - 1) sb bx W2.heap.size D kn db R Λ ρ Dd pv ps _ (HAT.out.below hp2.below) hp2.bxs
          rw [hN, ← HMS.out] at this
          exact this
        exact key _
      case i0 => exact ⟨HPA2.out.alloc _, KeepA.below ((Below.refl _ W2).alloc (Nat.le_refl _) _), fun k o hk _ => (Below.heap_alloc W2 _ k (lt_of_heap hk)).trans hk⟩
      case iI =>
        refine fun s A A' h hs => ⟨h.1.steps hs (by omega), ⟨Nat.le_trans h.2.1.1 hs.2.2.2.1, fun k cs t r hk ht => ?_⟩, fun k o hk hc => hs.2.2.2.2 k o (h.2.2 k o hk hc) (.inl (lt_of_heap hk))⟩
        have h1 := (h.2.1.2 k cs t r hk ht).trans hk
        exact (hs.2.2.2.2 k _ h1 (.inl (lt_of_heap hk))).trans hk.symm
      case iIp =>
        refine fun s A r o' h hl => ⟨h.1.put hl (by omega), h.2.1.trans (KeepA.put hl rfl), fun k o hk hc => ?_⟩
        exact ((grownBy_putObj' A _ o').block _ (lt_of_heap (h.2.2 k o hk hc)) (fun e => by have h1 := Option.some.inj e; have h2 := lt_of_heap hk; omega)).trans (h.2.2 k o hk hc)
      case ibody =>
        rintro zs x2 W' hr2 ⟨hp, hk, hks⟩ hl
        have c0 : W'.cell? ⟨ib, 0, none⟩ = some (.int .i64 zs.length) := cell_block hp.cnt
        have c1 : W'.frozen? ⟨ib, 0, none⟩ = false := free_block hp.cnt
        have hcn := hp.count (by omega) (by omega) (zs.length + 1)
        have HCN := Lib.hid hcn
        have HKS := Lib.hid hks
        have HKA := Lib.hid hk
        clear hcn hp hks hk hr2
        unfold encM strV intV
        gi_wp2
        have e1 : ((zs.length : Int) + 1) = ((zs.length + 1 : Nat) : Int) := by simp
        rw [e1]
        refine ⟨⟨HCN.out.2.1.1, fun k o _ hk hc => HCN.out.2.2 k o hk hc⟩, HCN.out.2.1, ?_, HKA.out.trans HCN.out.2.1, fun k o hk hc => HCN.out.2.2 k o (HKS.out k o hk hc) hc⟩
        rw [List.length_append, List.length_singleton]
        exact HCN.out.1
      case idone =>
        rintro xs W' rfl ⟨hp, hk, hks⟩
        obtain ⟨v5, h1, h2, h3⟩ := hp.lst
        obtain ⟨va5, vc5, rfl⟩ := ownsRow_form h2
        have l5 : W'.cell? ⟨lb, 0, none⟩ = some (.slice va5 1 vc5) := cell_block h1
        have f5 : W'.cell? ⟨w.heap.size, 0, none⟩ = some (.int .i64 left) := cell_block hp.lft
        have hkw : KeepA W W' := HK2.out.trans hk
        have hkf : ∀ (k : Nat) o, W.heap[k]? = some o → o.isCells = false → W'.heap[k]? = some o := fun k o h hc => hks k o (HKS2.out k o h hc) hc
        have hxl : xs.length = (Λ 0).length := hml
        have HKW := Lib.hid hkw
        have HKF := Lib.hid hkf
        have HP5 := Lib.hid hp
        have HXL := Lib.hid hxl
        clear hp hk hks h1 h2 h3 hkw hkf hxl l0 l1 m0 m1 d0 d1 f1 f2 f3 q1 hrr2 hrr hrow3 hnew
        by_cases hle : left = 1
        · have q2 : ((1 : Int) == (left : Int)) = true := by rw [beq_iff_eq]; omega
          have HLE := Lib.hid hle
          clear hle
          gi_wp2
          have h5 := HP5.out
          rw [HXL.out] at h5
          exact ⟨⟨HKW.out.1, fun k o _ h hc => HKF.out k o h hc⟩, HKW.out, rfl, h5, HKF.out _ _ HDF.out rfl, by have := HLE.out; simp; omega, by simp⟩
        · have q2 : ((1 : Int) == (left : Int)) = false := by rw [beq_eq_false_iff_ne]; omega
          gi_wp2
          have h5 := HP5.out
          rw [HXL.out] at h5
          refine ⟨⟨HKW.out.1, fun k o _ h hc => HKF.out k o h hc⟩, HKW.out, by simpa using h5, HKF.out _ _ HDF.out rfl, by simp; omega, ?_⟩
          rcases HZ.out with h | h
          · exact .inl h
          · right
            simp at h ⊢
            omega
    · have q1 : (((zs.length : Int) + 1) == 1) = false := by rw [beq_eq_false_iff_ne]; omega
      have hzn : zs ≠ [] := fun e => hz0' (by rw [e]; rfl)
      by_cases hle : zs.length + 1 = left
      · have q2 : (((zs.length : Int) + 1) == (left : Int)) = true := by rw [beq_iff_eq]; omega
        have HLE := Lib.hid hle
        clear hle
        gi_wp2_with (refine wpListIn_append_lies rfl _ _ 47 rfl 53 i0 (.agg #[.string ⟨#[]⟩, .int .i64 0]) 2 24 Tryz.underlying47 hi hz0 hz1 hz2 rfl (by decide) (.slice va zs.length vc) zs.length (foundCells zs) rfl hrow3 ⟨W.heap.size, 0, none⟩ 1 1 [.string ⟨x.1.toArray⟩, .int .i64 x.2] rfl rfl hnew (by simp [Value.oneCell']) (by decide) (by unfold maxLen; omega) (by omega) ?_; intro v4 W4 hrow4 hgrow4 hlies4; simp only [put_lit, List.set_cons_succ, List.set_cons_zero]; obtain ⟨g4, cap4, rfl⟩ := ownsRow_head hrow4; have HPU := Lib.hid (HPA1.out.push HH1.out ((Moves.alloc W _ _).trans (Moves.append hgrow4 hlies4)) hrow4 (by omega) (by omega) (by omega)); have hk4 : W4.heap[lb]? = W.heap[lb]? := ((Moves.alloc W (.slice va zs.length vc) _).trans (Moves.append hgrow4 hlies4)).block (lt_of_heap HH1.out) (fun e => by (obtain ⟨cur, hcur⟩ := ownsRow_cells4 HH2.out e; rw [HH1.out] at hcur; cases hcur)); have d0 : W4.cell? ⟨lb, 0, none⟩ = some (.slice va zs.length vc) := (World.cell?_of_block (a := ⟨lb, 0, none⟩) hk4).trans l0; have d1 : W4.frozen? ⟨lb, 0, none⟩ = false := (World.frozen?_of_block (a := ⟨lb, 0, none⟩) hk4).trans l1; have f1 : (W4.setCell ⟨lb, 0, none⟩ (.slice (some ⟨g4, 0, none⟩) (zs.length + 1) cap4)).cell? ⟨wb, 0, none⟩ = some (.func (.func 51) #[] #[.pointer (some ⟨bx, 0, none⟩)]) := cell_block HPU.out.1.wlk; have f2 : (W4.setCell ⟨lb, 0, none⟩ (.slice (some ⟨g4, 0, none⟩) (zs.length + 1) cap4)).cell? ⟨w.heap.size, 0, none⟩ = some (.int .i64 left) := cell_block HPU.out.1.lft; have f3 : (W4.setCell ⟨lb, 0, none⟩ (.slice (some ⟨g4, 0, none⟩) (zs.length + 1) cap4)).cell? ⟨lb, 0, none⟩ = some (.slice (some ⟨g4, 0, none⟩) (zs.length + 1) cap4) := World.cell?_setCell_same' _ _ _ (by rw [d0]; rfl); clear hrow4 hgrow4 hlies4 hk4)
        have hpu := HPU.out
        rw [if_neg hzn] at hpu
        exact ⟨⟨hpu.2.1.1, fun k o _ hk hc => hpu.2.2 k o hk hc⟩, hpu.2.1, rfl, hpu.1, hpu.2.2 _ _ HDF.out rfl, by have := HLE.out; simp; omega, by simp⟩
      · have q2 : (((zs.length : Int) + 1) == (left : Int)) = false := by rw [beq_eq_false_iff_ne]; omega
        gi_wp2_with (refine wpListIn_append_lies rfl _ _ 47 rfl 53 i0 (.agg #[.string ⟨#[]⟩, .int .i64 0]) 2 24 Tryz.underlying47 hi hz0 hz1 hz2 rfl (by decide) (.slice va zs.length vc) zs.length (foundCells zs) rfl hrow3 ⟨W.heap.size, 0, none⟩ 1 1 [.string ⟨x.1.toArray⟩, .int .i64 x.2] rfl rfl hnew (by simp [Value.oneCell']) (by decide) (by unfold maxLen; omega) (by omega) ?_; intro v4 W4 hrow4 hgrow4 hlies4; simp only [put_lit, List.set_cons_succ, List.set_cons_zero]; obtain ⟨g4, cap4, rfl⟩ := ownsRow_head hrow4; have HPU := Lib.hid (HPA1.out.push HH1.out ((Moves.alloc W _ _).trans (Moves.append hgrow4 hlies4)) hrow4 (by omega) (by omega) (by omega)); have hk4 : W4.heap[lb]? = W.heap[lb]? := ((Moves.alloc W (.slice va zs.length vc) _).trans (Moves.append hgrow4 hlies4)).block (lt_of_heap HH1.out) (fun e => by (obtain ⟨cur, hcur⟩ := ownsRow_cells4 HH2.out e; rw [HH1.out] at hcur; cases hcur)); have d0 : W4.cell? ⟨lb, 0, none⟩ = some (.slice va zs.length vc) := (World.cell?_of_block (a := ⟨lb, 0, none⟩) hk4).trans l0; have d1 : W4.frozen? ⟨lb, 0, none⟩ = false := (World.frozen?_of_block (a := ⟨lb, 0, none⟩) hk4).trans l1; have f1 : (W4.setCell ⟨lb, 0, none⟩ (.slice (some ⟨g4, 0, none⟩) (zs.length + 1) cap4)).cell? ⟨wb, 0, none⟩ = some (.func (.func 51) #[] #[.pointer (some ⟨bx, 0, none⟩)]) := cell_block HPU.out.1.wlk; have f2 : (W4.setCell ⟨lb, 0, none⟩ (.slice (some ⟨g4, 0, none⟩) (zs.length + 1) cap4)).cell? ⟨w.heap.size, 0, none⟩ = some (.int .i64 left) := cell_block HPU.out.1.lft; have f3 : (W4.setCell ⟨lb, 0, none⟩ (.slice (some ⟨g4, 0, none⟩) (zs.length + 1) cap4)).cell? ⟨lb, 0, none⟩ = some (.slice (some ⟨g4, 0, none⟩) (zs.length + 1) cap4) := World.cell?_setCell_same' _ _ _ (by rw [d0]; rfl); clear hrow4 hgrow4 hlies4 hk4)
        have hpu := HPU.out
        rw [if_neg hzn] at hpu
        have hne : zs ++ [x] ≠ [] := by simp
        refine ⟨⟨hpu.2.1.1, fun k o _ hk hc => hpu.2.2 k o hk hc⟩, hpu.2.1, by rw [if_neg hne]; exact hpu.1, hpu.2.2 _ _ HDF.out rfl, by simp; omega, ?_⟩
        rcases HZ.out with h | h
        · exact .inl h
        · right
          rw [List.length_append, List.length_singleton]
          omega
  case hdone =>
    rintro xs W rfl ⟨hpa, hdf, hzl, hzleft⟩
    have hc : (if xs = [] then 0 else (Λ 0).length) = (Λ 0).length := by
      split
      · rename_i e
        rw [e] at hml
        exact hml
      · rfl
    rw [hc] at hpa
    obtain ⟨v, h1, h2, h3⟩ := hpa.lst
    obtain ⟨va, vc, rfl⟩ := ownsRow_form h2
    have l0 : W.cell? ⟨lb, 0, none⟩ = some (.slice va xs.length vc) := cell_block h1
    have c0 : W.cell? ⟨ib, 0, none⟩ = some (.int .i64 (Λ 0).length) := cell_block hpa.cnt
    have hk : takeN left (Λ 0).length = xs.length := by unfold takeN; split <;> omega
    have H2 := Lib.hid h2
    have HP := Lib.hid hpa
    have HDF := Lib.hid hdf
    have HK := Lib.hid hk
    clear h1 h2 h3 hpa hdf hzleft hml hc hzl hk
    go_wp2_with fail
    go_quiet (fail)
    go_wp2_with fail
    refine leaves_marks (v := .tuple #[.slice va xs.length vc, .int .i64 (Λ 0).length]) (fun w' => results_tmp2 (t := 4) (u := 5) rfl _ _ _) [W0.heap.size] _ (fun d hd => ?_) (by simp) fun w' hm => ?_
    · simp only [List.mem_singleton] at hd
      subst hd
      exact HDF.out
    · refine ⟨_, rfl, ?_, ?_⟩
      · exact HP.out.below.trans ((((Same.drewN W _).below _).trans (hm.toBelow (B := w.heap.size) (by have := HP.out.below.size; simpa using this) (fun k hk => by simp at hk; omega))))
      · rw [HK.out, ← HMS.out, List.take_length]
        refine ownsRow_block H2.out fun k e => ?_
        refine (hm.block k (H2.out.lt k e).2 fun hd => ?_)
        simp only [List.mem_singleton] at hd
        obtain ⟨cur, hcur⟩ := ownsRow_cells4 H2.out e
        rw [hd, HDF.out] at hcur
        cases hcur
  case hstop =>
    rintro c zs W hpre ⟨rfl, hpa, hdf, hzl, hne⟩
    obtain ⟨v, h1, h2, h3⟩ := hpa.lst
    obtain ⟨va, vc, rfl⟩ := ownsRow_form h2
    have l0 : W.cell? ⟨lb, 0, none⟩ = some (.slice va zs.length vc) := cell_block h1
    have c0 : W.cell? ⟨ib, 0, none⟩ = some (.int .i64 (Λ 0).length) := cell_block hpa.cnt
    have hzp : 0 < zs.length := List.length_pos_iff.2 hne
    have hzm := hpre.length_le
    have hk : takeN left (Λ 0).length = zs.length := by unfold takeN; split <;> omega
    have htk : ms.take zs.length = zs := (List.prefix_iff_eq_take.1 hpre).symm
    have H2 := Lib.hid h2
    have HP := Lib.hid hpa
    have HDF := Lib.hid hdf
    have HK := Lib.hid hk
    have HTK := Lib.hid htk
    clear h1 h2 h3 hpa hdf hzl hk htk hpre hne
    refine wpIn_wide.2 ?_
    go_wp2_with fail
    go_quiet (fail)
    go_wp2_with fail
    refine leaves_marks (v := .tuple #[.slice va zs.length vc, .int .i64 (Λ 0).length]) (fun w' => results_tmp2 (t := 4) (u := 5) rfl _ _ _) [W0.heap.size] _ (fun d hd => ?_) (by simp) fun w' hm => ?_
    · simp only [List.mem_singleton] at hd
      subst hd
      exact HDF.out
    · refine ⟨_, rfl, ?_, ?_⟩
      · exact HP.out.below.trans ((((Same.drewN W _).below _).trans (hm.toBelow (B := w.heap.size) (by have := HP.out.below.size; simpa using this) (fun k hk => by simp at hk; omega))))
      · rw [HK.out, ← HMS.out, HTK.out]
        refine ownsRow_block H2.out fun k e => ?_
        refine (hm.block k (H2.out.lt k e).2 fun hd => ?_)
        simp only [List.mem_singleton] at hd
        obtain ⟨cur, hcur⟩ := ownsRow_cells4 H2.out e
        rw [hd, HDF.out] at hcur
        cases hcur
end Go.Proofs.Ts
/- The walks of pick and Walked. -/
set_option linter.unusedVariables false
set_option linter.unusedSimpArgs false
namespace Go.Proofs.Ts
open Go Go.RowKit

theorem match_same (s : ByteArray) (d : Int) (W : World) : (binOp .neq 53 (.agg #[.string s, .int .i64 d]) (.agg #[.string s, .int .i64 d])).run Tryz.prog W = .ok (.bool false) W := by
  simp [go_sem, binOp, Op.equal, Op.maxDepth]
theorem match_guard (x y : Operand) (a b : Array Value) (W : World) : (eqGuard .neq 53 x y (.agg a) (.agg b)).run Tryz.prog W = .ok () W := by
  unfold eqGuard
  simp [Sem.run_bind, run_program]
theorem bytesLess_of (a b : List UInt8) (h : a < b) : Op.bytesLess a b = true := by
  rw [Go.Proofs.bytesLess_eq]
  exact decide_eq_true h
/-- Terms rise. -/
theorem allHits_rise {T : List (List UInt8)} (h : T.Pairwise fun a b => a < b) (D : List (List (List UInt8))) : ∀ (i j : Nat) p q, (matchesOf D (allHits T))[i]? = some p → (matchesOf D (allHits T))[j]? = some q → i < j → p.1 < q.1 := by
  intro i j p q hi hj hij
  have key : ∀ (i : Nat) p, (matchesOf D (allHits T))[i]? = some p → T[i]? = some p.1 := fun i p hp => by
    unfold matchesOf at hp
    rw [List.getElem?_map] at hp
    obtain ⟨q, hq, rfl⟩ := Option.map_eq_some_iff.1 hp
    unfold allHits hits at hq
    rw [List.filter_eq_self.2 (fun _ _ => rfl), List.getElem?_zipIdx] at hq
    obtain ⟨x, hx, rfl⟩ := Option.map_eq_some_iff.1 hq
    exact hx
  have h1 := key i p hi
  have h2 := key j q hj
  obtain ⟨l1, e1⟩ := List.getElem?_eq_some_iff.1 h1
  obtain ⟨l2, e2⟩ := List.getElem?_eq_some_iff.1 h2
  rw [← e1, ← e2]
  exact List.pairwise_iff_getElem.1 h i j l1 l2 hij

/-- Two rising lists of the same words are one. -/
theorem rise_ext : ∀ (a b : List (List UInt8)), a.Pairwise (fun x y => x < y) → b.Pairwise (fun x y => x < y) → (∀ x, x ∈ a ↔ x ∈ b) → a = b
  | [], [], _, _, _ => rfl
  | [], y :: b, _, _, h => by have := (h y).2 (by simp); cases this
  | x :: a, [], _, _, h => by have := (h x).1 (by simp); cases this
  | x :: a, y :: b, ha, hb, h => by
    obtain ⟨ha1, ha2⟩ := List.pairwise_cons.1 ha
    obtain ⟨hb1, hb2⟩ := List.pairwise_cons.1 hb
    have e : x = y := by
      rcases List.mem_cons.1 ((h x).1 (by simp)) with e | h1
      · exact e
      · rcases List.mem_cons.1 ((h y).2 (by simp)) with e | h2
        · exact e.symm
        · exact absurd (List.lt_trans (hb1 x h1) (ha1 y h2)) (List.lt_irrefl _)
    subst e
    have := rise_ext a b ha2 hb2 fun z => by
      constructor
      · intro hz
        rcases List.mem_cons.1 ((h z).1 (by simp [hz])) with e | h1
        · subst e; exact absurd (ha1 z hz) (List.lt_irrefl _)
        · exact h1
      · intro hz
        rcases List.mem_cons.1 ((h z).2 (by simp [hz])) with e | h1
        · subst e; exact absurd (hb1 z hz) (List.lt_irrefl _)
        · exact h1
    rw [this]
def docs1 : List ByteArray := [⟨#[98, 32, 97]⟩]
theorem docs1_words : docs1.map wordsB = [[[98], [97]]] := by decide
theorem docs1_terms {T : List (List UInt8)} (h : TermsOf (docs1.map wordsB) T) : T = [[97], [98]] := by
  refine rise_ext _ _ h.1 (by decide) fun x => ?_
  rw [h.2.1 x, docs1_words]
  constructor
  · intro hx
    obtain ⟨j, hj⟩ := List.exists_mem_of_ne_nil _ hx
    obtain ⟨ws, h1, h2⟩ := (postsOf_mem _ _ _).1 hj
    have h3 := List.mem_of_getElem? h1
    simp at h3
    subst h3
    simp at h2 ⊢
    exact h2.symm
  · intro hx
    have h4 : (0 : Nat) ∈ postsOf [[[98], [97]]] x := (postsOf_mem _ _ _).2 ⟨_, rfl, by simp at hx ⊢; exact hx.symm⟩
    exact List.ne_nil_of_mem h4
theorem allHits_begins (T : List (List UInt8)) : hits (fun u => decide (([] : List UInt8) <+: u)) T 0 = allHits T := by
  have h : (fun u => decide (([] : List UInt8) <+: u)) = fun _ => true := funext fun u => decide_eq_true List.nil_prefix
  unfold allHits
  rw [h]
set_option maxRecDepth 100000 in
set_option maxHeartbeats 16000000 in
theorem walked_any (docs : List ByteArray) (c : Int) (v : Value) (w : World) (hv : StrsIs w v docs) (hl : docs.length ≤ 9223372036854775807) (hc : -9223372036854775808 ≤ c ∧ c ≤ 9223372036854775807) :
    Calls Tryz.prog 9 #[v, .int .i64 c] w fun e w' => e = .returned (.bool true) ∧ Below w.heap.size w w' := by
  obtain ⟨va, vc, rfl, hcells⟩ := id hv
  have HV := Lib.hid hv
  have HC := Lib.hid hc
  clear hv hcells hc
  go_enter Tryz.func9, Tryz.ntmps9
  go_wp2_with fail
  refine (keepBuild_any docs _ w HV.out hl).mono ?_
  rintro e w1 ⟨hb1, hres⟩
  have HB1 := Lib.hid hb1
  clear hb1
  rcases hres with ⟨_, rfl⟩ | ⟨hsm, sb, rfl, hs1⟩
  · go_wp2_with fail
    go_ret
    exact ⟨rfl, HB1.out⟩
  · have hparts : docs.length ≤ 48 ∧ ∀ d ∈ docs, d.size ≤ 200 := by
      unfold smallW at hsm
      simpa using hsm
    obtain ⟨h48, _⟩ := hparts
    obtain ⟨T, hT, hs1'⟩ := hs1.withTerms
    have HS1 := Lib.hid hs1'
    have HT := Lib.hid hT
    have hTl := hT.2.2
    clear hs1 hs1' hsm hT
    unfold ptrV
    go_wp2_with fail
    have hm := plainMatches_any w.heap.size ⟨2, [], [], 0, 1⟩ (fun u => decide (([] : List UInt8) <+: u)) 1048576 sb (docs.map wordsB) T w1 HB1.out.size HS1.out (by simp; omega) 1 rfl (by omega) (by omega) (compile_two (by simp)) (by simp [accOf]) (by rw [allHits_begins, allHits_length]; omega)
    rw [allHits_begins, allHits_length] at hm
    unfold ptrV askV strV at hm
    refine hm.mono ?_
    clear hm
    rintro e w2 ⟨o1, rfl, hs2, hb2, hc2, hr2⟩
    obtain ⟨a1, k1, rfl⟩ := ownsRow_form hr2
    have HS2 := Lib.hid hs2
    have HB2 := Lib.hid hb2
    have HR2 := Lib.hid hr2
    clear hs2 hb2 hc2 hr2
    go_wp2_with fail
    have ha := plainAll_any sb 0 (docs.map wordsB) T w.heap.size w2 HS2.out (by omega)
    unfold ptrV at ha
    refine ha.mono ?_
    clear ha
    rintro e w3 ⟨o2, rfl, hb3, hr3⟩
    have ht0 : takeN 0 T.length = T.length := by simp [takeN]
    rw [ht0] at hr3
    obtain ⟨a2, k2, rfl⟩ := ownsRow_form hr3
    have HB3 := Lib.hid hb3
    have HR3 := Lib.hid hr3
    clear hb3 hr3 ht0
    go_wp2_with fail
    refine (pick_any c 20 w3 HC.out (by omega)).mono ?_
    rintro e w4 ⟨rfl, rfl⟩
    have hpk := pickN_lt c (n := 20) (by omega)
    obtain ⟨pk, hpk'⟩ : ∃ pk, pk = pickN c 20 := ⟨_, rfl⟩
    rw [← hpk'] at hpk ⊢
    clear hpk'
    go_wp2_with fail
    have e1 : (1 + (pk : Int)) = ((1 + pk : Nat) : Int) := by simp
    rw [e1]
    clear e1
    obtain ⟨lf, hlf⟩ : ∃ lf, lf = 1 + pk := ⟨_, rfl⟩
    have hlf1 : 1 ≤ lf ∧ lf ≤ 20 := by omega
    rw [← hlf]
    clear hlf hpk
    have ha := plainAll_any sb lf (docs.map wordsB) T w.heap.size w4 (HS2.out.below HB3.out) (by omega)
    unfold ptrV at ha
    refine ha.mono ?_
    clear ha
    rintro e w5 ⟨o3, rfl, hb5, hr5⟩
    have htk : takeN lf T.length = min lf T.length := by unfold takeN; rw [if_neg (by omega)]
    rw [htk] at hr5
    obtain ⟨k, hk⟩ : ∃ k, k = min lf T.length := ⟨_, rfl⟩
    rw [← hk] at hr5
    obtain ⟨a3, k3, rfl⟩ := ownsRow_form hr5
    have hml : (matchesOf (docs.map wordsB) (allHits T)).length = T.length := by rw [matchesOf_length, allHits_length]
    obtain ⟨ms, hms⟩ : ∃ ms, ms = matchesOf (docs.map wordsB) (allHits T) := ⟨_, rfl⟩
    have hr1 := HR2.out
    have hr3 := HR3.out
    rw [← hms] at hml hr5 hr1 hr3
    rw [← hml, List.take_length] at hr3
    rw [← hml] at hr1 hk
    have hr1' : w5.ownsRow 0 53 2 (.slice a1 ms.length k1) ms.length (foundCells ms) := ownsRow_block (ownsRow_block hr1 fun k e => HB3.out.block k (hr1.lt k e).2) fun k e => hb5.block k (by have := (hr1.lt k e).2; have := HB3.out.size; omega)
    have hr3' : w5.ownsRow 0 53 2 (.slice a2 ms.length k2) ms.length (foundCells ms) := ownsRow_block hr3 fun k e => hb5.block k (hr3.lt k e).2
    have hb : Below w.heap.size w w5 := (HB1.out.trans HB2.out).trans ((HB3.out.mono (by have := HB1.out.size; have := HB2.out.size; omega)).trans (hb5.mono (by have := HB1.out.size; have := HB2.out.size; have := HB3.out.size; omega)))
    have R1 := Lib.hid hr1'
    have R2 := Lib.hid hr3'
    have R3 := Lib.hid hr5
    have HB := Lib.hid hb
    have HMS := Lib.hid hms
    clear hr1 hr3 hr1' hr3' hr5 hb hb5 hms HR2 HR3 htk
    rw [← hml]
    obtain ⟨N, hN⟩ : ∃ N, N = ms.length := ⟨_, rfl⟩
    rw [← hN]
    have HN := Lib.hid hN
    rw [← hN] at hml hk
    have hN1 : N ≤ 10000 := by omega
    clear hN hml
    have hkN : k ≤ N := by omega
    have hk20 : k ≤ 20 := by omega
    have HK := Lib.hid hk
    clear hk
    go_upto_if 53 with fail
    go_cut [12] from 54 to 55 (fun l wx => l = .int .i64 k ∧ Same w5 wx)
    case first =>
      by_cases hgt : N < lf
      · obtain rfl : k = N := by have := HK.out; omega
        clear HK
        go_wp2_with fail
        go_meet
        exact ⟨rfl, Same.refl _⟩
      · obtain rfl : k = lf := by have := HK.out; omega
        clear HK
        go_wp2_with fail
        go_meet
        exact ⟨rfl, Same.refl _⟩
    case rest =>
      obtain ⟨rfl, hS0⟩ := hcut
      go_wp2_with fail
      have hrise := allHits_rise HT.out.1 (docs.map wordsB)
      rw [← HMS.out] at hrise
      have HRISE := Lib.hid hrise
      clear hrise
      go_loopw [15] (fun i wr => ∃ j : Nat, j ≤ N ∧ i = .int .i64 j ∧ Same w5 wr) (fun i _ => N - (intOf i).toNat)
      case atStart => exact ⟨0, Nat.zero_le _, rfl, hS0⟩
      case round =>
        obtain ⟨j, hj, rfl, hS⟩ := hrel
        by_cases hjl : j < N
        · obtain ⟨t, d, htd⟩ : ∃ t d, ms[j]? = some (t, d) := ⟨_, _, List.getElem?_eq_getElem (by rw [← HN.out]; exact hjl)⟩
          obtain ⟨x1, x2⟩ := foundCells_at _ _ _ htd
          obtain ⟨g1, c1, h1, y1⟩ := ownsRow_cell R1.out x1
          obtain ⟨_, _, h2, y2⟩ := ownsRow_cell R1.out x2
          simp only [Value.slice.injEq] at h1 h2
          rw [h1.1] at h2
          simp only [Option.some.injEq, Addr.mk.injEq, and_true, true_and] at h2
          rw [← h2.1] at y2
          obtain ⟨g2, c2, h3, y3⟩ := ownsRow_cell R2.out x1
          obtain ⟨_, _, h4, y4⟩ := ownsRow_cell R2.out x2
          simp only [Value.slice.injEq] at h3 h4
          rw [h3.1] at h4
          simp only [Option.some.injEq, Addr.mk.injEq, and_true, true_and] at h4
          rw [← h4.1] at y4
          have q1 := (hS.cell _).trans y1
          have q2 := (hS.cell _).trans y2
          have q3 := (hS.cell _).trans y3
          have q4 := (hS.cell _).trans y4
          unfold strV at q1 q3
          unfold intV at q2 q4
          have e1 := h1.1
          have e3 := h3.1
          clear h1 h2 h3 h4 y1 y2 y3 y4
          subst e1 e3
          have hms1 := fun W => match_same ⟨t.toArray⟩ (d : Int) W
          have hmg1 := fun x y W => match_guard x y #[.string ⟨t.toArray⟩, .int .i64 d] #[.string ⟨t.toArray⟩, .int .i64 d] W
          by_cases hj0 : 0 < j
          · obtain ⟨t', d', htd'⟩ : ∃ t' d', ms[j - 1]? = some (t', d') := ⟨_, _, List.getElem?_eq_getElem (by rw [← HN.out]; omega)⟩
            obtain ⟨x3, _⟩ := foundCells_at _ _ _ htd'
            obtain ⟨g5, c5, h5, y5⟩ := ownsRow_cell R2.out x3
            simp only [Value.slice.injEq, Option.some.injEq, Addr.mk.injEq, and_true, true_and] at h5
            rw [← h5.1] at y5
            have q5 := (hS.cell _).trans y5
            unfold strV at q5
            have hless := bytesLess_of _ _ (HRISE.out (j - 1) j _ _ htd' htd (by omega))
            have w1' : IntKind.i64.wrap ((j : Int) - 1) = ((j - 1 : Nat) : Int) := by rw [IntWalk.i64_in _ (by omega)]; omega
            clear h5 y5 x3 htd'
            by_cases hjk : j < k
            · obtain ⟨g6, c6, h6, y6⟩ := ownsRow_cell R3.out (j := j * 2) (u := strV t) (foundCells_at _ _ _ (by rw [List.getElem?_take_of_lt hjk]; exact htd)).1
              obtain ⟨_, _, h7, y7⟩ := ownsRow_cell R3.out (j := j * 2 + 1) (u := intV d) (foundCells_at _ _ _ (by rw [List.getElem?_take_of_lt hjk]; exact htd)).2
              simp only [Value.slice.injEq] at h6 h7
              rw [h6.1] at h7
              simp only [Option.some.injEq, Addr.mk.injEq, and_true, true_and] at h7
              rw [← h7.1] at y7
              have q6 := (hS.cell _).trans y6
              have q7 := (hS.cell _).trans y7
              unfold strV at q6
              unfold intV at q7
              have e6 := h6.1
              clear h6 h7 y6 y7
              subst e6
              go_wp2_with fail
              go_quiet (fail)
              go_wp2_with fail
              exact ⟨⟨j + 1, by omega, by go_num, hS.trans (Same.drewN _ _)⟩, by simp [intOf]; omega⟩
            · go_wp2_with fail
              go_quiet (fail)
              go_wp2_with fail
              exact ⟨⟨j + 1, by omega, by go_num, hS.trans (Same.drewN _ _)⟩, by simp [intOf]; omega⟩
          · obtain rfl : j = 0 := by omega
            by_cases hjk : 0 < k
            · obtain ⟨g6, c6, h6, y6⟩ := ownsRow_cell R3.out (j := 0 * 2) (u := strV t) (foundCells_at _ _ _ (by rw [List.getElem?_take_of_lt hjk]; exact htd)).1
              obtain ⟨_, _, h7, y7⟩ := ownsRow_cell R3.out (j := 0 * 2 + 1) (u := intV d) (foundCells_at _ _ _ (by rw [List.getElem?_take_of_lt hjk]; exact htd)).2
              simp only [Value.slice.injEq] at h6 h7
              rw [h6.1] at h7
              simp only [Option.some.injEq, Addr.mk.injEq, and_true, true_and] at h7
              rw [← h7.1] at y7
              have q6 := (hS.cell _).trans y6
              have q7 := (hS.cell _).trans y7
              unfold strV at q6
              unfold intV at q7
              have e6 := h6.1
              clear h6 h7 y6 y7
              subst e6
              simp only [Nat.zero_mul, Nat.zero_add] at q1 q2 q3 q4 q6 q7
              go_wp2_with fail
              go_quiet (fail)
              go_wp2_with fail
              exact ⟨⟨1, by omega, by go_num, hS.trans (Same.drewN _ _)⟩, by simp [intOf]; omega⟩
            · simp only [Nat.zero_mul, Nat.zero_add] at q1 q2 q3 q4
              go_wp2_with fail
              go_quiet (fail)
              go_wp2_with fail
              exact ⟨⟨1, by omega, by go_num, hS.trans (Same.drewN _ _)⟩, by simp [intOf]; omega⟩
        · obtain rfl : j = N := by omega
          have hbw : Below w.heap.size w wr := HB.out.trans (hS.below _)
          have HBW := Lib.hid hbw
          clear hbw HS1 HS2 HB1 HB2 HB3 HRISE R1 R2 R3 HT HMS hlf1 HB HN
          go_wp2_with fail
          have hst : StrsIs (wr.alloc (.cells #[.string ⟨#[98, 32, 97]⟩] 9)) (.slice (some ⟨wr.heap.size, 0, none⟩) 1 1) docs1 := by
            refine ⟨_, _, rfl, fun i hi => ⟨_, _, rfl, ?_⟩⟩
            have hi0 : i = 0 := by simp [docs1] at hi; exact hi
            subst hi0
            rw [cell_block (heap_alloc_new wr _)]
            rfl
          have hal : Below w.heap.size w (wr.alloc (.cells #[.string ⟨#[98, 32, 97]⟩] 9)) := HBW.out.alloc HBW.out.size _
          generalize (wr.alloc (.cells #[.string ⟨#[98, 32, 97]⟩] 9)) = w6 at *
          refine (plainBuild_any docs1 _ w6 hst (by decide) (by decide)).mono ?_
          rintro e w7 ⟨sb2, rfl, hb7, hs7⟩
          obtain ⟨T2, hT2, hs7'⟩ := hs7.withTerms
          have hT2' := docs1_terms hT2
          subst hT2'
          have hb7' : Below w.heap.size w w7 := hal.trans (hb7.mono hal.size)
          have HB7 := Lib.hid hb7'
          have HS7 := Lib.hid hs7'
          clear hst hal hb7 hs7 hb7' hs7' hT2
          unfold ptrV
          go_wp2_with fail
          have ha := plainAll_any sb2 0 (docs1.map wordsB) [[97], [98]] w6.heap.size w7 HS7.out (by omega)
          unfold ptrV at ha
          refine ha.mono ?_
          clear ha
          rintro e w8 ⟨o4, rfl, hb8, hr8⟩
          have hr8' : w8.ownsRow 0 53 2 o4 2 (foundCells ((matchesOf (docs1.map wordsB) (allHits [[97], [98]])).take 2)) := hr8
          obtain ⟨g8, c8, rfl⟩ := ownsRow_head (n := 1) hr8'
          have z0 : w8.cell? ⟨g8, 0, none⟩ = some (.string ⟨#[97]⟩) := hr8'.cells (g := g8) rfl 0 _ rfl
          have hbf : Below w.heap.size w w8 := HB7.out.trans (hb8.mono HB7.out.size)
          have HBF := Lib.hid hbf
          clear hr8 hr8' hb8 hbf
          go_wp2_with fail
          go_ret
          exact ⟨rfl, HBF.out⟩
end Go.Proofs.Ts
/- The walk of Sorted. -/
set_option linter.unusedVariables false
set_option linter.unusedSimpArgs false
namespace Go.Proofs.Ts
open Go Go.RowKit

theorem sug_same (s : ByteArray) (f d : Int) (W : World) : (binOp .neq 59 (.agg #[.string s, .int .i64 f, .int .i64 d]) (.agg #[.string s, .int .i64 f, .int .i64 d])).run Tryz.prog W = .ok (.bool false) W := by
  simp [go_sem, binOp, Op.equal, Op.maxDepth]
theorem sug_guard (x y : Operand) (a b : Array Value) (W : World) : (eqGuard .neq 59 x y (.agg a) (.agg b)).run Tryz.prog W = .ok () W := by
  unfold eqGuard
  simp [Sem.run_bind, run_program]
theorem SugsIs.form {w : World} {v : Value} {l : List Sug} (h : SugsIs w v l) : ∃ a c, v = .slice a l.length c := by
  rcases h with ⟨rfl, rfl⟩ | ⟨g, cap, rfl, _⟩
  · exact ⟨none, 0, rfl⟩
  · exact ⟨_, _, rfl⟩
theorem sugCells_at : ∀ (l : List Sug) (j : Nat) (s : Sug), l[j]? = some s → (sugCells l)[j * 3]? = some (strV s.term) ∧ (sugCells l)[j * 3 + 1]? = some (.int .i64 s.far) ∧ (sugCells l)[j * 3 + 2]? = some (.int .i64 s.docs)
  | [], j, s, h => by simp at h
  | y :: t, 0, s, h => by simp at h; subst h; simp [sugCells, encSug]
  | y :: t, j + 1, s, h => by
    have ih := sugCells_at t j s (by simpa using h)
    have e : sugCells (y :: t) = strV y.term :: .int .i64 y.far :: .int .i64 y.docs :: sugCells t := by simp [sugCells, encSug]
    rw [e, show (j + 1) * 3 = j * 3 + 1 + 1 + 1 by omega, show j * 3 + 1 + 1 + 1 + 1 = (j * 3 + 1) + 1 + 1 + 1 by omega, show j * 3 + 1 + 1 + 1 + 2 = (j * 3 + 2) + 1 + 1 + 1 by omega]
    simpa using ih
theorem SugsIs.at {w : World} {va : Option Addr} {n vc : Nat} {l : List Sug} (h : SugsIs w (.slice va n vc) l) {j : Nat} {s : Sug} (hj : l[j]? = some s) :
    ∃ g, va = some ⟨g, 0, none⟩ ∧ g < w.heap.size ∧ w.cell? ⟨g, j * 3, none⟩ = some (strV s.term) ∧ w.cell? ⟨g, j * 3 + 1, none⟩ = some (.int .i64 s.far) ∧ w.cell? ⟨g, j * 3 + 2, none⟩ = some (.int .i64 s.docs) := by
  rcases h with ⟨_, rfl⟩ | ⟨g, cap, e, hc⟩
  · simp at hj
  · cases e
    obtain ⟨h1, h2, h3⟩ := sugCells_at l j s hj
    exact ⟨g, rfl, lt_of_cell (hc _ _ h1), hc _ _ h1, hc _ _ h2, hc _ _ h3⟩
theorem sugBad_cases {x : List UInt8} {k : Int} (h : sugBad x = some k) : (40 < x.length ∧ k = 2) ∨ (x.length ≤ 40 ∧ k = 8) := by
  unfold sugBad at h
  split at h
  · cases h; exact .inl ⟨by assumption, rfl⟩
  · split at h
    · cases h
    · cases h; exact .inr ⟨by omega, rfl⟩

set_option maxRecDepth 100000 in
set_option maxHeartbeats 16000000 in
theorem sorted_any (docs : List ByteArray) (x : List UInt8) (c : Int) (v : Value) (w : World) (hT : TabsIn w) (hE : ErrIn w) (hv : StrsIs w v docs) (hl : docs.length ≤ 9223372036854775807) (hs : x.length ≤ 9223372036854775807) (hc : -9223372036854775808 ≤ c ∧ c ≤ 9223372036854775807) :
    Calls Tryz.prog 10 #[v, .string ⟨x.toArray⟩, .int .i64 c] w fun e w' => e = .returned (.bool true) ∧ Below w.heap.size w w' := by
  obtain ⟨va, vc, rfl, hcells⟩ := id hv
  have hsz := size_of x
  have HV := Lib.hid hv
  have HC := Lib.hid hc
  have HT := Lib.hid hT
  have HE := Lib.hid hE
  clear hv hcells hc hT hE
  go_enter Tryz.func10, Tryz.ntmps10
  go_wp2_with fail
  refine (keepBuild_any docs _ w HV.out hl).mono ?_
  rintro e w1 ⟨hb1, hres⟩
  have HB1 := Lib.hid hb1
  clear hb1
  rcases hres with ⟨_, rfl⟩ | ⟨hsm, sb, rfl, hs1⟩
  · go_wp2_with fail
    go_ret
    exact ⟨rfl, HB1.out⟩
  obtain ⟨T, hTT, _, kn, _, db, R, Λ, ρ, Dd, pv, ps, hΛ, hseg⟩ := hs1.withTerms
  obtain ⟨D, hD⟩ : ∃ D, D = docs.map wordsB := ⟨_, rfl⟩
  rw [← hD] at hseg
  have HSEG := Lib.hid hseg
  have HRISE : Hid ((Λ 0).Pairwise fun a b => a < b) := Lib.hid (by rw [hΛ]; exact hTT.1)
  have HLEN : Hid ((Λ 0).length ≤ 10000) := Lib.hid (by rw [hΛ]; exact hTT.2.2)
  clear hs1 hsm hTT hΛ hD hseg T
  unfold ptrV
  go_upto_region 5 with (go_at_call 20; refine (pick_any c 20 w1 HC.out (by omega)).mono ?_; rintro e wp ⟨rfl, rfl⟩)
  have hpk := pickN_lt c (n := 20) (by omega)
  obtain ⟨pk, hpk'⟩ : ∃ pk, pk = pickN c 20 := ⟨_, rfl⟩
  rw [← hpk'] at hpk ⊢
  clear hpk'
  have hE1 := HE.out.below HB1.out
  have hT1 := HT.out.below HB1.out
  have HE1 := Lib.hid hE1
  have HT1 := Lib.hid hT1
  clear hE1 hT1
  cases hbad : sugBad x with
  | some k =>
    have hc1 := plainSug_err sb x 2 100000 wp (by omega) HT1.out HE1.out k hbad
    unfold ptrV strV at hc1
    have HC1 := Lib.hid hc1
    clear hc1
    go_upto_region 6 with (go_at_call 25; refine HC1.out.mono ?_; rintro e w2 ⟨rfl, hb2⟩)
    have hc2 := plainSug_err sb x 2 pk w2 (by omega) (HT1.out.below hb2) (HE1.out.below hb2) k hbad
    unfold ptrV strV at hc2
    have HC2 := Lib.hid hc2
    have HB2 := Lib.hid hb2
    clear hc2 hb2
    go_upto_region 7 with (go_at_call 25; refine HC2.out.mono ?_; rintro e w3 ⟨rfl, hb3⟩)
    have HB3 := Lib.hid hb3
    clear hb3
    rcases sugBad_cases hbad with ⟨h40, rfl⟩ | ⟨h40, rfl⟩
    · have g1 : decide ((40 : Int) < (x.length : Int)) = true := by simp; omega
      clear hbad h40
      go_wp2_with fail
      go_ret
      exact ⟨rfl, HB1.out.trans ((HB2.out.trans (HB3.out.mono HB2.out.size)).mono HB1.out.size)⟩
    · have g1 : decide ((40 : Int) < (x.length : Int)) = false := by simp; omega
      clear hbad h40
      go_wp2_with fail
      go_ret
      exact ⟨rfl, HB1.out.trans ((HB2.out.trans (HB3.out.mono HB2.out.size)).mono HB1.out.size)⟩
  | none =>
    have hc1 := plainSug_any sb D kn db R Λ ρ Dd pv ps x 2 100000 wp HSEG.out (by omega) hbad HT1.out
    unfold ptrV strV at hc1
    have HC1 := Lib.hid hc1
    clear hc1
    go_upto_region 6 with (go_at_call 25; refine HC1.out.mono ?_; rintro e w2 ⟨fa, z, rfl, hb2, hz1, hz2, hz3⟩)
    have hzl : z.length ≤ 30000 := by
      rw [hz1.length_eq, List.length_map]
      have h6 := metTo_len (Λ 0) x 3
      have h7 : 3 * (Λ 0).length ≤ 3 * 10000 := Nat.mul_le_mul (by omega) HLEN.out
      have h8 : (metTo (Λ 0) x (2 + 1)).length ≤ 3 * (Λ 0).length := h6
      omega
    rw [List.take_of_length_le (by omega)] at hz3
    have hc2 := plainSug_any sb D kn db R Λ ρ Dd pv ps x 2 pk w2 (HSEG.out.below hb2) (by omega) hbad (HT1.out.below hb2)
    unfold ptrV strV at hc2
    have HC2 := Lib.hid hc2
    have HB2 := Lib.hid hb2
    have HZ := Lib.hid (show _ ∧ _ ∧ _ from ⟨hz1, hz2, hz3⟩)
    clear hc2 hb2 hz1 hz2 hz3
    go_upto_region 7 with (go_at_call 25; refine HC2.out.mono ?_; rintro e w3 ⟨fb, z2, rfl, hb3, hy1, hy2, hy3⟩)
    obtain rfl : z2 = z := srt_one hy2 HZ.out.2.1 (hy1.trans HZ.out.1.symm)
    have hap := (sugs_apart HRISE.out (metTo_ok (Λ 0) x 3) D)
    have hap2 : z2.Pairwise fun s t => s.term ≠ t.term := (hy1.pairwise_iff (fun {a b} h e => h e.symm)).2 hap
    have HPAIR : Hid (∀ (i j : Nat) (s t : Sug), z2[i]? = some s → z2[j]? = some t → i < j → sugLt s t) := Lib.hid fun i j s t h1 h2 h3 => srt_pair hy2 hap2 h1 h2 h3
    have ha3 := HZ.out.2.2.below hb3
    obtain ⟨aa, ac, rfl⟩ := ha3.form
    obtain ⟨ba, bc, rfl⟩ := hy3.form
    have HA := Lib.hid ha3
    have HBS := Lib.hid hy3
    have hbw : Below w.heap.size w w3 := HB1.out.trans ((HB2.out.trans (hb3.mono HB2.out.size)).mono HB1.out.size)
    have HBW := Lib.hid hbw
    rw [List.length_take]
    obtain ⟨N, hN⟩ : ∃ N, N = z2.length := ⟨_, rfl⟩
    have HN := Lib.hid hN
    rw [← hN] at hzl ⊢
    obtain ⟨k, hk⟩ : ∃ k, k = min pk N := ⟨_, rfl⟩
    rw [← hk]
    have HK := Lib.hid hk
    clear hap hap2 hy1 hy2 hy3 ha3 hb3 hbw HZ hN hk HC1 HC2 HB2 HSEG HRISE HLEN HT1 HE1 HT HE HV HC hbad hl hs hsz
    go_wp2_with fail
    go_loopw [14] (fun i wr => ∃ j : Nat, 1 ≤ j ∧ (j ≤ N ∨ j = 1) ∧ i = .int .i64 j ∧ Hid (Below w3.heap.size w3 wr)) (fun i _ => N - (intOf i).toNat)
    case atStart => exact ⟨1, by omega, by omega, rfl, Below.refl _ _⟩
    case round =>
      obtain ⟨j, hj1, hj, rfl, HR⟩ := hrel
      by_cases hjl : j < N
      · have hjz : (j : Int) < (N : Int) := by omega
        obtain ⟨i, hi1, hi2⟩ : ∃ i, j ≤ i + 1 ∧ i + 1 ≤ j := ⟨j - 1, by omega, by omega⟩
        obtain ⟨s, hs⟩ : ∃ s, z2[i]? = some s := ⟨_, List.getElem?_eq_getElem (by rw [← HN.out]; omega)⟩
        obtain ⟨t, ht⟩ : ∃ t, z2[j]? = some t := ⟨_, List.getElem?_eq_getElem (by rw [← HN.out]; omega)⟩
        have hlt := HPAIR.out i j s t hs ht (by omega)
        have hA := HA.out.below HR.out
        obtain ⟨g, rfl, hgl, p0, p1, p2⟩ := hA.at hs
        obtain ⟨g', hg', _, r0, r1, r2⟩ := hA.at ht
        cases hg'
        have hiz : (j : Int) - 1 = (i : Int) := by omega
        have hiN : (i : Int) < (N : Int) := by omega
        unfold strV at p0 r0
        clear hs ht hA
        go_upto_region 13 with fail
        have hal : Below wr.heap.size wr (wr.alloc (.cells #[.string ⟨s.term.toArray⟩, .int .i64 s.far, .int .i64 s.docs] 59)) := (Below.refl _ wr).alloc (Nat.le_refl _) _
        have hbx := heap_alloc_new wr (.cells #[.string ⟨s.term.toArray⟩, .int .i64 s.far, .int .i64 s.docs] 59)
        have HR4 : Hid (Below w3.heap.size w3 (wr.alloc (.cells #[.string ⟨s.term.toArray⟩, .int .i64 s.far, .int .i64 s.docs] 59))) := Lib.hid (HR.out.trans (hal.mono HR.out.size))
        have r0' := (hal.cell (p := ⟨g, j * 3, none⟩) hgl).trans r0
        have r1' := (hal.cell (p := ⟨g, j * 3 + 1, none⟩) hgl).trans r1
        have r2' := (hal.cell (p := ⟨g, j * 3 + 2, none⟩) hgl).trans r2
        obtain ⟨b1, hb1⟩ : ∃ b1, b1 = wr.heap.size := ⟨_, rfl⟩
        rw [← hb1] at hbx ⊢
        clear hal HR p0 p1 p2 r0 r1 r2 hgl hb1
        generalize wr.alloc (.cells #[.string ⟨s.term.toArray⟩, .int .i64 s.far, .int .i64 s.docs] 59) = w4 at *
        go_upto_region 14 with fail
        have hal : Below w4.heap.size w4 (w4.alloc (.cells #[.string ⟨t.term.toArray⟩, .int .i64 t.far, .int .i64 t.docs] 59)) := (Below.refl _ w4).alloc (Nat.le_refl _) _
        have hby := heap_alloc_new w4 (.cells #[.string ⟨t.term.toArray⟩, .int .i64 t.far, .int .i64 t.docs] 59)
        have HR5 : Hid (Below w3.heap.size w3 (w4.alloc (.cells #[.string ⟨t.term.toArray⟩, .int .i64 t.far, .int .i64 t.docs] 59))) := Lib.hid (HR4.out.trans (hal.mono HR4.out.size))
        have hbx' := (hal.block b1 (lt_of_heap hbx)).trans hbx
        obtain ⟨b2, hb2⟩ : ∃ b2, b2 = w4.heap.size := ⟨_, rfl⟩
        rw [← hb2] at hby ⊢
        clear hal HR4 r0' r1' r2' hbx hb2
        generalize w4.alloc (.cells #[.string ⟨t.term.toArray⟩, .int .i64 t.far, .int .i64 t.docs] 59) = w5 at *
        have p0 : w5.cell? ⟨b1, 0, none⟩ = some (.string ⟨s.term.toArray⟩) := cell_block hbx'
        have p1 : w5.cell? ⟨b1, 1, none⟩ = some (.int .i64 s.far) := cell_block hbx'
        have p2 : w5.cell? ⟨b1, 2, none⟩ = some (.int .i64 s.docs) := cell_block hbx'
        have r0 : w5.cell? ⟨b2, 0, none⟩ = some (.string ⟨t.term.toArray⟩) := cell_block hby
        have r1 : w5.cell? ⟨b2, 1, none⟩ = some (.int .i64 t.far) := cell_block hby
        have r2 : w5.cell? ⟨b2, 2, none⟩ = some (.int .i64 t.docs) := cell_block hby
        clear hbx' hby
        obtain ⟨ts, fs, ds⟩ := s
        obtain ⟨tt, ft, dt⟩ := t
        simp only at p0 p1 p2 r0 r1 r2
        have hlt2 : fs < ft ∨ fs = ft ∧ (dt < ds ∨ dt = ds ∧ ts < tt) := hlt
        clear hlt hiz hiN hi1 hi2
        rcases hlt2 with h1 | ⟨rfl, h1 | ⟨rfl, h1⟩⟩
        · have f1 : decide ((ft : Int) < (fs : Int)) = false := by simp; omega
          have f2 : ((fs : Int) == (ft : Int)) = false := by rw [beq_eq_false_iff_ne]; omega
          have f3 : fs ≤ ft := by omega
          clear h1
          go_wp2_with fail
          exact ⟨⟨j + 1, by omega, by omega, by go_num, HR5⟩, by simp [intOf]; omega⟩
        · have f1 : decide ((fs : Int) < (fs : Int)) = false := by simp
          have f2 : decide ((ds : Int) < (dt : Int)) = false := by simp; omega
          have f3 : ((ds : Int) == (dt : Int)) = false := by rw [beq_eq_false_iff_ne]; omega
          have f4 : dt ≤ ds := by omega
          clear h1
          go_wp2_with fail
          exact ⟨⟨j + 1, by omega, by omega, by go_num, HR5⟩, by simp [intOf]; omega⟩
        · have f1 : decide ((fs : Int) < (fs : Int)) = false := by simp
          have f2 : decide ((dt : Int) < (dt : Int)) = false := by simp
          have f3 := bytesLess_of _ _ h1
          clear h1
          go_wp2_with fail
          exact ⟨⟨j + 1, by omega, by omega, by go_num, HR5⟩, by simp [intOf]; omega⟩
      · have hjz : ¬ (j : Int) < (N : Int) := by omega
        clear hj hj1 HPAIR
        go_upto_if 114 with fail
        obtain ⟨bb, hbb⟩ : ∃ bb, bb = decide (N < pk) := ⟨_, rfl⟩
        rw [← hbb]
        have HBB := Lib.hid hbb
        clear hbb
        go_cut [9] from 115 to 116 (fun l wx => l = .int .i64 k ∧ wr = wx)
        case first =>
          cases bb with
          | true =>
            have hgt : N < pk := of_decide_eq_true HBB.out.symm
            obtain rfl : k = N := by have := HK.out; omega
            clear HK HBB hgt
            go_wp2_with fail
            go_meet
            case rel => exact ⟨rfl, rfl⟩
          | false =>
            have hgt : ¬ N < pk := of_decide_eq_false HBB.out.symm
            obtain rfl : k = pk := by have := HK.out; omega
            clear HK HBB hgt
            go_wp2_with fail
            go_meet
            case rel => exact ⟨rfl, rfl⟩
        case rest =>
          obtain ⟨rfl, rfl⟩ := hcut
          go_wp2_with fail
          go_loopw [17] (fun i wx => ∃ m : Nat, m ≤ k ∧ i = .int .i64 m ∧ Same wr wx) (fun i _ => k - (intOf i).toNat)
          case atStart => exact ⟨0, Nat.zero_le _, rfl, Same.refl _⟩
          case round =>
            obtain ⟨m, hm, rfl, hS⟩ := hrel
            by_cases hml : m < k
            · have hmz : (m : Int) < (k : Int) := by omega
              have hkm := HK.out
              have hmN : (m : Int) < (N : Int) := by omega
              obtain ⟨s, hs⟩ : ∃ s, z2[m]? = some s := ⟨_, List.getElem?_eq_getElem (by rw [← HN.out]; omega)⟩
              obtain ⟨g, rfl, _, p0, p1, p2⟩ := (HA.out.below HR.out).at hs
              obtain ⟨g', rfl, _, r0, r1, r2⟩ := (HBS.out.below HR.out).at (j := m) (s := s) (by rw [List.getElem?_take_of_lt (by omega)]; exact hs)
              have p0 := (hS.cell _).trans p0
              have p1 := (hS.cell _).trans p1
              have p2 := (hS.cell _).trans p2
              have r0 := (hS.cell _).trans r0
              have r1 := (hS.cell _).trans r1
              have r2 := (hS.cell _).trans r2
              obtain ⟨ts, fs, ds⟩ := s
              simp only at p0 p1 p2 r0 r1 r2
              unfold strV at p0 r0
              have hms1 := fun W => sug_same ⟨ts.toArray⟩ (fs : Int) (ds : Int) W
              have hmg1 := fun x y W => sug_guard x y #[.string ⟨ts.toArray⟩, .int .i64 fs, .int .i64 ds] #[.string ⟨ts.toArray⟩, .int .i64 fs, .int .i64 ds] W
              clear hs hkm
              go_wp2_with fail
              go_quiet (fail)
              go_wp2_with fail
              exact ⟨⟨m + 1, by omega, by go_num, hS.trans (Same.drewN _ _)⟩, by simp [intOf]; omega⟩
            · have hmz : ¬ (m : Int) < (k : Int) := by omega
              go_wp2_with fail
              go_ret
              exact ⟨rfl, HBW.out.trans ((HR.out.trans (hS.below _)).mono HBW.out.size)⟩
end Go.Proofs.Ts
