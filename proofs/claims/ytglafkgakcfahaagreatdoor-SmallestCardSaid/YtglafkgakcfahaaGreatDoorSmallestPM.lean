/- Lemmas towards the statement Smallest of termsearch: walks of the program's functions and plain laws on lists (TsPartF, TsPartG, TsPartH, TsMachA, TsTabP, TsLeastP, TsKeyS). Conditions: those that each theorem names. -/
import Derived.Test.YtglafkgakcfahaaGreatDoorSmallestPL
import Derived.Test.YtglafkgakcfahaaGreatDoorSmallestPH
import Derived.Test.YtglafkgakcfahaaGreatDoorSmallestPF
import Derived.Laws.Tables
import Derived.Test.YtglafkgakcfahaaGreatDoorSmallestPG
import Derived.Test.YtglafkgakcfahaaGreatDoorSmallestPA
set_option linter.unusedVariables false
set_option linter.unusedSimpArgs false
set_option linter.unusedSectionVars false
namespace Go.Proofs.Ts
open Go Go.RowKit
/-- While what is handed back is put together in a block of its own. -/
structure SeqAt (mb b b5 g3 g4 : Nat) (w : World) (N : PM) (p q c : Part) (W : World) : Prop where
 res : W.heap[b]? = some (.cells z7 278 (0, 0))
 own : W.heap[b5]? = some (.cells c.cells.toArray 278 (0, 0))
 k3 : W.heap[g3]? = some (.cells p.cells.toArray 278 (0, 0))
 k4 : W.heap[g4]? = some (.cells q.cells.toArray 278 (0, 0))
 mach : MachIs W mb N
 mod : Mod (fun j => j = mb) w W
theorem SeqAt.below {mb b b5 g3 g4 : Nat} {w W W' : World} {N : PM} {p q c : Part} (h : SeqAt mb b b5 g3 g4 w N p q c W) (hb : Below W.heap.size W W') : SeqAt mb b b5 g3 g4 w N p q c W' :=
 ⟨(hb.block _ (lt_of_heap h.res)).trans h.res, (hb.block _ (lt_of_heap h.own)).trans h.own, (hb.block _ (lt_of_heap h.k3)).trans h.k3, (hb.block _ (lt_of_heap h.k4)).trans h.k4, h.mach.below hb, h.mod.trans (below_mod hb)⟩
theorem SeqAt.turn {mb b b5 g3 g4 : Nat} {w W W' : World} {N : PM} {p q c c' : Part} (h : SeqAt mb b b5 g3 g4 w N p q c W) (n1 : b ≠ b5) (n2 : g3 ≠ b5) (n3 : g4 ≠ b5) (n4 : mb ≠ b5) (hm : Mod (fun j => j = mb) w W') (ho : ∀ j, j ≠ b5 → W'.heap[j]? = W.heap[j]?) (hown : W'.heap[b5]? = some (.cells c'.cells.toArray 278 (0, 0))) : SeqAt mb b b5 g3 g4 w N p q c' W' :=
 ⟨(ho _ n1).trans h.res, hown, (ho _ n2).trans h.k3, (ho _ n3).trans h.k4, ⟨h.mach.1, (ho _ n4).trans h.mach.2⟩, hm⟩
/-- The places that may be first, or last, are turned. -/
theorem SeqAt.first {mb b b5 g3 g4 : Nat} {w W : World} {N : PM} {p q c : Part} (h : SeqAt mb b b5 g3 g4 w N p q c W) (n0 : w.heap.size ≤ b5) (n1 : b ≠ b5) (n2 : g3 ≠ b5) (n3 : g4 ≠ b5) (n4 : mb ≠ b5) (s : PSet) :
  SeqAt mb b b5 g3 g4 w N p q { c with first := s } (((W.setCell ⟨b5, 0, none⟩ (.int .u64 s.a)).setCell ⟨b5, 1, none⟩ (.int .u64 s.b)).setCell ⟨b5, 2, none⟩ (.int .u64 s.c)) := by
 refine h.turn n1 n2 n3 n4 (((h.mod.past n0 0 _).past n0 1 _).past n0 2 _) (fun j hj => ?_) ?_
 ·rw [Below.heap_setCell _ ⟨b5, 2, none⟩ _ j hj, Below.heap_setCell _ ⟨b5, 1, none⟩ _ j hj, Below.heap_setCell _ ⟨b5, 0, none⟩ _ j hj]
 ·have k := h.own
  rw [Part.cells_eq] at k ⊢
  replace k := heap_setCell_same W b5 0 _ _ (.int .u64 s.a) k
  simp only [List.setIfInBounds_toArray, List.set_cons_zero, List.set_cons_succ] at k
  replace k := heap_setCell_same _ b5 1 _ _ (.int .u64 s.b) k
  simp only [List.setIfInBounds_toArray, List.set_cons_zero, List.set_cons_succ] at k
  replace k := heap_setCell_same _ b5 2 _ _ (.int .u64 s.c) k
  simp only [List.setIfInBounds_toArray, List.set_cons_zero, List.set_cons_succ] at k
  exact k
theorem SeqAt.last {mb b b5 g3 g4 : Nat} {w W : World} {N : PM} {p q c : Part} (h : SeqAt mb b b5 g3 g4 w N p q c W) (n0 : w.heap.size ≤ b5) (n1 : b ≠ b5) (n2 : g3 ≠ b5) (n3 : g4 ≠ b5) (n4 : mb ≠ b5) (s : PSet) :
  SeqAt mb b b5 g3 g4 w N p q { c with last := s } (((W.setCell ⟨b5, 3, none⟩ (.int .u64 s.a)).setCell ⟨b5, 3 + 1, none⟩ (.int .u64 s.b)).setCell ⟨b5, 3 + 2, none⟩ (.int .u64 s.c)) := by
 refine h.turn n1 n2 n3 n4 (((h.mod.past n0 3 _).past n0 (3 + 1) _).past n0 (3 + 2) _) (fun j hj => ?_) ?_
 ·rw [Below.heap_setCell _ ⟨b5, 3 + 2, none⟩ _ j hj, Below.heap_setCell _ ⟨b5, 3 + 1, none⟩ _ j hj, Below.heap_setCell _ ⟨b5, 3, none⟩ _ j hj]
 ·have k := h.own
  rw [Part.cells_eq] at k ⊢
  replace k := heap_setCell_same W b5 3 _ _ (.int .u64 s.a) k
  simp only [List.setIfInBounds_toArray, List.set_cons_zero, List.set_cons_succ] at k
  replace k := heap_setCell_same _ b5 (3 + 1) _ _ (.int .u64 s.b) k
  simp only [List.setIfInBounds_toArray, Nat.reduceAdd, List.set_cons_zero, List.set_cons_succ] at k
  replace k := heap_setCell_same _ b5 (3 + 2) _ _ (.int .u64 s.c) k
  simp only [List.setIfInBounds_toArray, Nat.reduceAdd, List.set_cons_zero, List.set_cons_succ] at k
  exact k
set_option maxRecDepth 100000 in
set_option maxHeartbeats 8000000 in
theorem part_seq (e f : Ast) (ih1 : PartGives e) (ih2 : PartGives f) : PartGives (.seq e f) := by
 intro mb M w hM hT hn
 have hmb := lt_of_heap hM.2
 have hn' : M.n + (e.count + f.count) ≤ 128 := hn
 have hok1 := part_ok e M hM.1 (by omega)
 have hok2 := part_ok f (PM.part e M).1 hok1.mach (by rw [hok1.n]; omega)
 obtain ⟨a1, a2, a3⟩ := asserts_seq (.agg #[e.val, f.val])
 simp only [Asserts, zOne, zTwo, zMany, zMaybe] at a1 a2 a3
 obtain ⟨xt, xv, hx⟩ := e.val_iface
 obtain ⟨yt, yv, hy⟩ := f.val_iface
 obtain ⟨W, hW⟩ : ∃ W, W = (w.alloc (.cells z7 278)).alloc (.cells #[.iface xt xv, .iface yt yv] 331) := ⟨_, rfl⟩
 have h0 : W.heap[w.heap.size]? = some (.cells z7 278 (0, 0)) := by
  rw [hW, Below.heap_alloc _ _ _ (by simp)]
  exact heap_alloc_new w _
 have h1 : W.heap[w.heap.size + 1]? = some (.cells #[.iface xt xv, .iface yt yv] 331 (0, 0)) := by
  rw [hW]
  have := heap_alloc_new (w.alloc (.cells z7 278)) (.cells #[.iface xt xv, .iface yt yv] 331)
  rw [World.size_alloc] at this
  exact this
 have hb : Below w.heap.size w W := by rw [hW]; exact ((Below.refl _ w).alloc (Nat.le_refl _) _).alloc (by simp) _
 have hsz : W.heap.size = w.heap.size + 2 := by rw [hW]; simp
 have hc1 : W.cell? ⟨w.heap.size + 1, 0, none⟩ = some (.iface xt xv) := cell_block h1
 have hc2 : W.cell? ⟨w.heap.size + 1, 1, none⟩ = some (.iface yt yv) := cell_block h1
 obtain ⟨N1, hN1⟩ : ∃ N1, N1 = (PM.part e M).1 := ⟨_, rfl⟩
 obtain ⟨N2, hN2⟩ : ∃ N2, N2 = (PM.part f N1).1 := ⟨_, rfl⟩
 obtain ⟨p, hp⟩ : ∃ p, p = (PM.part e M).2 := ⟨_, rfl⟩
 obtain ⟨q, hq⟩ : ∃ q, q = (PM.part f N1).2 := ⟨_, rfl⟩
 have hval : PM.part (.seq e f) M = (N2.link p.last.elems q.first, p.seq q) := by rw [hN2, hq, hp, hN1]; rfl
 have hcall1 : ∀ W, MachIs W mb M → BitTab W → Calls Tryz.prog 125 #[ptrV mb, e.val] W fun en w' => en = .returned p.val ∧ MachIs w' mb N1 ∧ Mod (fun j => j = mb) W w' := fun W h1 h2 => by rw [hp, hN1]; exact ih1 mb M W h1 h2 (by omega)
 have hcall2 : ∀ W, MachIs W mb N1 → BitTab W → Calls Tryz.prog 125 #[ptrV mb, f.val] W fun en w' => en = .returned q.val ∧ MachIs w' mb N2 ∧ Mod (fun j => j = mb) W w' := fun W h1 h2 => by rw [hq, hN2]; exact ih2 mb N1 W h1 h2 (by rw [hN1, hok1.n]; omega)
 rw [hx] at hcall1
 rw [hy] at hcall2
 rw [hx, hy] at a1 a2 a3
 rw [← hp, ← hN1] at hok1
 rw [← hN1, ← hq, ← hN2] at hok2
 have H := Lib.hid (show _ ∧ _ ∧ _ ∧ _ ∧ _ ∧ _ ∧ _ from ⟨hcall1, hcall2, h0, hb, hM.below hb, hT.below hb, h1⟩)
 have hnn : N2.n ≤ 128 := by rw [hok2.n, hok1.n]; omega
 have HO := Lib.hid (show _ ∧ _ ∧ _ ∧ _ from ⟨hok1, hok2, hnn, (by rw [hok2.n]; omega : N1.n ≤ N2.n)⟩)
 clear hnn
 have HV := Lib.hid hval
 have HW := Lib.hid hW
 have HMT := Lib.hid (show _ ∧ _ from ⟨hM, hT⟩)
 rw [show (Ast.seq e f).val = .iface 331 (.agg #[e.val, f.val]) from rfl, hx, hy]
 unfold ptrV z7 at *
 clear hM hT hn hn' hb hval hp hq hcall1 hcall2 h0 h1 ih1 ih2 hx hy hW hok1 hok2 hN1 hN2
 go_enter Tryz.func125, Tryz.ntmps125
 go_wp2_with fail
 rw [← HW.out]
 refine wp_region_ordV [0, 1, 2, 4, 5, 6] [3, 7, 8, 9] 4 [(10, true), (11, true)] #[true, true, true, false, true, true, true, false, false, false, false, false] #[true, true, true, true, true, true, true, true, true, true, false, false] 11
  (fun W' => W'.cell? ⟨w.heap.size + 1, 0, none⟩ = some (.iface xt xv) ∧ W'.cell? ⟨w.heap.size + 1, 1, none⟩ = some (.iface yt yv)) (by kernel_rfl) (by kernel_rfl) ⟨hc1, hc2⟩ ?_
 simp only [List.map_cons, List.map_nil]
 iterate 6 (
  refine wpOrd_quiet ?_ rfl rfl (fun w' hS => ?_) ?_
  rotate_left
  ·obtain ⟨q0, q1⟩ := hS
   go_simp
   first | rfl | done
  simp only [put_lit, List.set_cons_succ, List.set_cons_zero])
 refine wpOrd_nil ?_
 rintro -
 refine inv4 90 94 12 13 (fun l v1 v2 v3 v4 w' => ∃ g3 g4, TwoW mb W.drew M N1 N2 p q l v1 v2 v3 v4 g3 g4 w') (by unfold puts4; simp only [put_lit, List.set_cons_succ, List.set_cons_zero]) ?_ ?_ ?_ ?_
 ·have := H.out.2.2.2.2.1.below (Same.drew W |>.below _)
  exact ⟨0, 0, ⟨Mod.refl _ _, this, fun h => absurd h (by decide), fun h => absurd h (by decide), fun h => absurd h (by decide), fun h => absurd h (by decide), fun h => absurd h (by decide), fun h => absurd h (by decide)⟩⟩
 ·rintro l v1 v2 v3 v4 w' i ⟨g3, g4, hTW⟩ hi hr
  have hS : ∀ W', Mod (fun j => j = mb) W.drew W' → W'.cell? ⟨w.heap.size + 1, 0, none⟩ = some (.iface xt xv) ∧ W'.cell? ⟨w.heap.size + 1, 1, none⟩ = some (.iface yt yv) := fun W' hm => by
   have hxb := (hm.block (w.heap.size + 1) (by show _ < W.heap.size; omega) (by omega)).trans H.out.2.2.2.2.2.2
   exact ⟨cell_block hxb, cell_block hxb⟩
  have HS := Lib.hid hS
  have hTab : BitTab w' := by
   have h1 : BitTab W.drew := H.out.2.2.2.2.2.1.below (Same.drew W |>.below _)
   exact h1.mod (H.out.2.2.2.2.1.below (Same.drew W |>.below _)) hTW.mod
  have hmb' : mb < W.drew.heap.size := by show mb < W.heap.size; omega
  have HT := Lib.hid (show _ ∧ _ ∧ _ ∧ _ from ⟨hTW, hr, hTab, hmb'⟩)
  clear hTW hS hTab hr hc1 hc2 hmb'
  simp only [List.mem_cons, List.not_mem_nil, or_false] at hi
  unfold puts4
  simp only [put_lit, List.set_cons_succ, List.set_cons_zero]
  rcases hi with rfl | rfl | rfl | rfl
  ·refine wpOp_loudK rfl rfl (fun K hK => ?_)
   have hun := unlisted_of_ready HT.out.2.1
   have hM1 : MachIs w' mb M := by
    have h7 : l.getD 7 false = false := by
     cases h7 : l.getD 7 false with
     | false => rfl
     | true => rw [HT.out.1.ord h7] at hun; cases hun
    have := HT.out.1.mach
    rw [h7, hun] at this
    exact this
   have hcall := H.out.1 w' hM1 HT.out.2.2.1
   clear hun hM1
   go_simp
   refine hcall.mono ?_
   rintro en w'' ⟨rfl, hm2, hmod2⟩
   have hTW2 := HT.out.1.first HT.out.2.2.2 HT.out.2.1 hm2 hmod2
   exact hK.out _ _ ⟨fun _ => HS.out _ hTW2.mod, _, _, _, _, rfl, _, _, hTW2⟩
  ·refine wpOp_loudK rfl rfl (fun K hK => ?_)
   have h3 : l.getD 3 false = true := waitsB_listed (x := 7) (i := 3) (by kernel_rfl) HT.out.2.1
   have hun := unlisted_of_ready HT.out.2.1
   have hM1 : MachIs w' mb N1 := by
    have := HT.out.1.mach
    rw [h3, hun] at this
    exact this
   have hcall := H.out.2.1 w' hM1 HT.out.2.2.1
   have H3 := Lib.hid h3
   clear hun hM1 h3
   go_simp
   refine hcall.mono ?_
   rintro en w'' ⟨rfl, hm2, hmod2⟩
   have hTW2 := HT.out.1.second HT.out.2.2.2 HT.out.2.1 H3.out hm2 hmod2
   exact hK.out _ _ ⟨fun _ => HS.out _ hTW2.mod, _, _, _, _, rfl, _, _, hTW2⟩
  ·refine wpOp_loudK rfl rfl (fun K hK => ?_)
   go_simp
   have hTW2 := HT.out.1.make3 HT.out.2.1
   exact hK.out _ _ ⟨fun _ => HS.out _ hTW2.mod, _, _, _, _, rfl, _, _, hTW2⟩
  ·refine wpOp_loudK rfl rfl (fun K hK => ?_)
   go_simp
   have hTW2 := HT.out.1.make4 HT.out.2.1
   exact hK.out _ _ ⟨fun _ => HS.out _ hTW2.mod, _, _, _, _, rfl, _, _, hTW2⟩
 ·rintro v1 v2 v3 v4 w' ⟨g3, g4, hTW⟩
  have hxb := (hTW.mod.block (w.heap.size + 1) (by show _ < W.heap.size; omega) (by omega)).trans H.out.2.2.2.2.2.2
  have hx0 : w'.cell? ⟨w.heap.size + 1, 0, none⟩ = some (.iface xt xv) := cell_block hxb
  have hx1 : w'.cell? ⟨w.heap.size + 1, 1, none⟩ = some (.iface yt yv) := cell_block hxb
  exact ⟨hx0, hx1⟩
 ·rintro v1 v2 v3 v4 w' ⟨g3, g4, hTW⟩ G HG
  obtain rfl := hTW.r1 (by decide)
  obtain rfl := hTW.r2 (by decide)
  obtain ⟨rfl, hg3, hb3⟩ := hTW.b3 (by decide)
  obtain ⟨rfl, hg4, hb4⟩ := hTW.b4 (by decide)
  have hne := hTW.ne (by decide) (by decide)
  have hMz := hTW.mach
  rw [if_pos (by decide)] at hMz
  have hmod := hTW.mod
  have hgs3 : W.heap.size ≤ g3 := hg3
  have hgs4 : W.heap.size ≤ g4 := hg4
  have hxb := (hmod.block (w.heap.size + 1) (by show _ < W.heap.size; omega) (by omega)).trans H.out.2.2.2.2.2.2
  have hrb := (hmod.block (w.heap.size) (by show _ < W.heap.size; omega) (by omega)).trans H.out.2.2.1
  have hmodw : Mod (fun j => j = mb) w w' := ((below_mod H.out.2.2.2.1).trans (Mod.same (Same.drew W))).trans hmod
  obtain ⟨W3, hW3⟩ : ∃ W3, W3 = set7 w' g3 (.int .u64 p.first.a) (.int .u64 p.first.b) (.int .u64 p.first.c) (.int .u64 p.last.a) (.int .u64 p.last.b) (.int .u64 p.last.c) (.bool p.none) := ⟨_, rfl⟩
  have k3 : W3.heap[g3]? = some (.cells p.cells.toArray 278 (0, 0)) := by rw [hW3]; exact set7_block _ _ _ _ _ _ _ hb3
  have o3 : ∀ j, j ≠ g3 → W3.heap[j]? = w'.heap[j]? := fun j hj => by rw [hW3]; exact set7_other _ _ _ _ _ _ _ _ _ hj
  have m3 : Mod (fun j => j = mb) w W3 := by rw [hW3]; exact set7_mod _ _ _ _ _ _ _ _ _ hmodw (by omega)
  have hb4' := (o3 g4 (Ne.symm hne)).trans hb4
  obtain ⟨W4, hW4⟩ : ∃ W4, W4 = set7 W3 g4 (.int .u64 q.first.a) (.int .u64 q.first.b) (.int .u64 q.first.c) (.int .u64 q.last.a) (.int .u64 q.last.b) (.int .u64 q.last.c) (.bool q.none) := ⟨_, rfl⟩
  have k4 : W4.heap[g4]? = some (.cells q.cells.toArray 278 (0, 0)) := by rw [hW4]; exact set7_block _ _ _ _ _ _ _ hb4'
  have o4 : ∀ j, j ≠ g4 → W4.heap[j]? = W3.heap[j]? := fun j hj => by rw [hW4]; exact set7_other _ _ _ _ _ _ _ _ _ hj
  have m4 : Mod (fun j => j = mb) w W4 := by rw [hW4]; exact set7_mod _ _ _ _ _ _ _ _ _ m3 (by omega)
  have k43 := (o4 g3 hne).trans k3
  have k40 := ((o4 w.heap.size (by omega)).trans (o3 w.heap.size (by omega))).trans hrb
  have k4M : MachIs W4 mb N2 := ⟨hMz.1, ((o4 mb (by omega)).trans (o3 mb (by omega))).trans hMz.2⟩
  have hxb3 := (o3 (w.heap.size + 1) (by omega)).trans hxb
  have HA := Lib.hid (show _ ∧ _ ∧ _ ∧ _ ∧ _ ∧ _ from ⟨k4, k43, k40, k4M, m4, hxb3⟩)
  have HB := Lib.hid (show _ ∧ _ from ⟨hb3, hb4'⟩)
  have HW3 := Lib.hid (show _ ∧ _ from ⟨hW3, hW4⟩)
  clear hTW hMz hmod hxb hrb hmodw k3 o3 m3 hb4 hb4' k4 o4 m4 k43 k40 k4M hxb3 hc1 hc2 hb3 hW3 hW4
  obtain ⟨d0, d1, d2, d3, d4, d5, d6, f0, f1, f2, f3, f4, f5, f6⟩ := (Cells7.of HB.out.1).all
  obtain ⟨i0, i1, i2, i3, i4, i5, i6, j0, j1, j2, j3, j4, j5, j6⟩ := (Cells7.of HB.out.2).all
  have hx0 : W3.cell? ⟨w.heap.size + 1, 0, none⟩ = some (.iface xt xv) := cell_block HA.out.2.2.2.2.2
  have hx1 : W3.cell? ⟨w.heap.size + 1, 1, none⟩ = some (.iface yt yv) := cell_block HA.out.2.2.2.2.2
  have HX := Lib.hid (And.intro hx0 hx1)
  have HY := Lib.hid (And.intro (Cells7.of HA.out.2.1) (Cells7.of HA.out.1))
  clear hx0 hx1
  have s3 := HW3.out.1
  have s4 := HW3.out.2
  unfold set7 at s3 s4
  have HS := Lib.hid (And.intro s3 s4)
  clear s3 s4
  refine HG.out ?_
  unfold puts4
  simp only [put_lit, List.set_cons_succ, List.set_cons_zero]
  rw [Part.val_eq p, Part.val_eq q]
  unfold ptrV
  refine wpOrd_loud rfl rfl (by decide) (fun K hK => ?_)
  have HK := Lib.hid hK
  clear hK
  go_simp
  rw [← HS.out.1]
  refine HK.out _ _ HX.out ?_
  clear HK K
  refine wpOrd_last rfl rfl (fun K hK => ?_)
  have HK := Lib.hid hK
  clear hK
  go_simp
  rw [← HS.out.2]
  refine HK.out _ _ ?_
  clear HK K d0 d1 d2 d3 d4 d5 d6 f0 f1 f2 f3 f4 f5 f6 i0 i1 i2 i3 i4 i5 i6 j0 j1 j2 j3 j4 j5 j6
  obtain ⟨c3, c4⟩ := HY.out
  obtain ⟨x0, x1, x2, x3, x4, x5, x6, x7⟩ := c3
  obtain ⟨y0, y1, y2, y3, y4, y5, y6, y7⟩ := c4
  clear x7 y7
  have htab4 := HMT.out.2.mod HMT.out.1 HA.out.2.2.2.2.1
  have hlink := machLink_any mb N2 p.last q.first W4 HO.out.1.part.l ((HO.out.1.ul.mono HO.out.2.2.2).fits HO.out.2.2.1) HO.out.2.1.part.f HA.out.2.2.2.1 htab4
  have HLK := Lib.hid hlink
  clear hlink htab4
  go_wp2_with fail
  have hlink := HLK.out
  unfold ptrV PSet.val PSet.cells at hlink
  refine hlink.mono ?_
  clear hlink
  rintro en W5 ⟨rfl, hm5, hmod5⟩
  have hres5 := (hmod5.block _ (lt_of_heap HA.out.2.2.1) (by omega)).trans HA.out.2.2.1
  have h35 := (hmod5.block _ (lt_of_heap HA.out.2.1) (by omega)).trans HA.out.2.1
  have h45 := (hmod5.block _ (lt_of_heap HA.out.1) (by omega)).trans HA.out.1
  have hmodw5 := HA.out.2.2.2.2.1.trans hmod5
  have hltr := lt_of_heap hres5
  have hlt3 := lt_of_heap h35
  have hlt4 := lt_of_heap h45
  have hltm := lt_of_heap hm5.2
  obtain ⟨N3, hN3⟩ : ∃ N3, N3 = N2.link p.last.elems q.first := ⟨_, rfl⟩
  rw [← hN3] at hm5
  obtain ⟨c, hc⟩ : ∃ c : Part, c = ⟨p.first, q.last, p.none && q.none⟩ := ⟨_, rfl⟩
  have hsa : SeqAt mb w.heap.size W5.heap.size g3 g4 w N3 p q c (W5.alloc (.cells c.cells.toArray 278)) :=
   ⟨(Below.heap_alloc W5 _ _ hltr).trans hres5, heap_alloc_new W5 _, (Below.heap_alloc W5 _ _ hlt3).trans h35, (Below.heap_alloc W5 _ _ hlt4).trans h45, hm5.below ((Below.refl _ W5).alloc (Nat.le_refl _) _), hmodw5.trans (Mod.alloc _ _ _)⟩
  have hwW5 := hmodw5.size
  obtain ⟨x0, x1, x2, x3, x4, x5, x6, x7⟩ := Cells7.of h35
  obtain ⟨y0, y1, y2, y3, y4, y5, y6, y7⟩ := Cells7.of h45
  have HSA := Lib.hid (show _ ∧ _ ∧ _ from ⟨hsa, hc, hN3⟩)
  have HR5 := Lib.hid hres5
  clear x7 y7 hsa hc hN3 hm5 hmodw5 hmod5 hres5 h35 h45 HLK HY HX
  cases hpn : p.none <;> cases hqn : q.none
  ·-- False False
   rw [hpn] at x6
   rw [hqn] at y6
   have hs0 := HSA.out.1
   rw [HSA.out.2.1, hpn, hqn] at hs0
   simp only [Bool.and_true, Bool.and_false, Bool.true_and, Bool.false_and] at hs0
   have hps : p.seq q = ⟨p.first, q.last, false⟩ := by unfold Part.seq; rw [hpn, hqn]; rfl
   have HPS := Lib.hid hps
   clear hps
   obtain ⟨W9, hW9, hfin⟩ := part_out ⟨p.first, q.last, false⟩ hs0.res hs0.mach hs0.mod (Nat.le_refl _) hmb
   obtain ⟨l0, l1, l2, l3, l4, l5, l6, n0, n1, n2, n3, n4, n5, n6⟩ := (Cells7.of hs0.res).all
   unfold set7 at hW9
   obtain ⟨v0, v1, v2, v3, v4, v5, v6, vf⟩ := Cells7.of hs0.k4
   obtain ⟨u0, u1, u2, u3, u4, u5, u6, uf⟩ := Cells7.of hs0.k3
   rw [hpn, Part.cells_eq] at u6
   rw [hqn, Part.cells_eq] at v6
   clear vf uf v0 v1 v2 v3 v4 v5 u0 u1 u2 u3 u4 u5 hltr hlt3 hlt4 hltm
   rw [Part.cells_eq] at hW9 l0 l1 l2 l3 l4 l5 l6 n0 n1 n2 n3 n4 n5 n6
   have HF := Lib.hid hfin
   have HW9 := Lib.hid hW9
   clear hs0 hfin hW9
   go_wp2_with fail
   rw [← HW9.out]
   refine bodyPost_ret (results_cell_row rfl _ _ w.heap.size _ _ (0, 0) _ rfl HF.out.1 Tryz.underlying278 rfl (by kernel_rfl)) rfl ?_
   rw [HV.out, HPS.out, ← HSA.out.2.2]
   exact ⟨rfl, HF.out.2⟩
  ·-- False True
   rw [hpn] at x6
   rw [hqn] at y6
   have hs0 := HSA.out.1
   rw [HSA.out.2.1, hpn, hqn] at hs0
   simp only [Bool.and_true, Bool.and_false, Bool.true_and, Bool.false_and] at hs0
   have hps : p.seq q = ⟨p.first, q.last.or p.last, false⟩ := by unfold Part.seq; rw [hpn, hqn]; rfl
   have HPS := Lib.hid hps
   clear hps
   have H0 := Lib.hid hs0
   clear hs0
   obtain ⟨v0, v1, v2, v3, v4, v5, v6, vf⟩ := Cells7.of H0.out.k4
   obtain ⟨u0, u1, u2, u3, u4, u5, u6, uf⟩ := Cells7.of H0.out.k3
   obtain ⟨o0, o1, o2, o3, o4, o5, o6, of'⟩ := Cells7.of H0.out.own
   rw [hqn] at v6
   rw [Part.cells_eq] at v3 v4 v5 v6 u3 u4 u5 o3 o4 o5
   clear vf uf of'
   go_wp2_with fail
   have hcall := fun W' => setOr_any q.last p.last W' HO.out.2.1.part.l HO.out.1.part.l
   unfold PSet.val PSet.cells at hcall
   refine (hcall _).mono ?_
   clear hcall
   rintro en W8 ⟨rfl, hb8⟩
   have hs8 := H0.out.below (by rw [Part.cells_eq]; exact hb8)
   have hs9 := hs8.last (by omega) (by omega) (by omega) (by omega) (by omega) (q.last.or p.last)
   obtain ⟨m0, m1, m2, m3, m4, m5, m6, mf0, mf1, mf2, mf3, mf4, mf5, mf6⟩ := (Cells7.of hs8.own).all
   obtain ⟨W9, hW9, hfin⟩ := part_out ⟨p.first, q.last.or p.last, false⟩ hs9.res hs9.mach hs9.mod (Nat.le_refl _) hmb
   obtain ⟨l0, l1, l2, l3, l4, l5, l6, n0, n1, n2, n3, n4, n5, n6⟩ := (Cells7.of hs9.res).all
   unfold set7 at hW9
   have HF := Lib.hid hfin
   have HW9 := Lib.hid hW9
   clear hs8 hs9 hfin hW9 hb8
   go_wp2_with fail
   rw [← HW9.out]
   refine bodyPost_ret (results_cell_row rfl _ _ w.heap.size _ _ (0, 0) _ rfl HF.out.1 Tryz.underlying278 rfl (by kernel_rfl)) rfl ?_
   rw [HV.out, HPS.out, ← HSA.out.2.2]
   exact ⟨rfl, HF.out.2⟩
  ·-- True False
   rw [hpn] at x6
   rw [hqn] at y6
   have hs0 := HSA.out.1
   rw [HSA.out.2.1, hpn, hqn] at hs0
   simp only [Bool.and_true, Bool.and_false, Bool.true_and, Bool.false_and] at hs0
   have hps : p.seq q = ⟨p.first.or q.first, q.last, false⟩ := by unfold Part.seq; rw [hpn, hqn]; rfl
   have HPS := Lib.hid hps
   clear hps
   have H0 := Lib.hid hs0
   clear hs0
   go_wp2_with fail
   have hcall := fun W' => setOr_any p.first q.first W' HO.out.1.part.f HO.out.2.1.part.f
   unfold PSet.val PSet.cells at hcall
   refine (hcall _).mono ?_
   clear hcall
   rintro en W6 ⟨rfl, hb6⟩
   have hs6 := H0.out.below (by rw [Part.cells_eq]; exact hb6)
   have hs7 := hs6.first (by omega) (by omega) (by omega) (by omega) (by omega) (p.first.or q.first)
   obtain ⟨o0, o1, o2, o3, o4, o5, o6, of0, of1, of2, of3, of4, of5, of6⟩ := (Cells7.of hs6.own).all
   obtain ⟨v0, v1, v2, v3, v4, v5, v6, vf⟩ := Cells7.of hs7.k4
   obtain ⟨u0, u1, u2, u3, u4, u5, u6, uf⟩ := Cells7.of hs7.k3
   rw [hqn] at v6
   clear vf uf
   obtain ⟨W9, hW9, hfin⟩ := part_out ⟨p.first.or q.first, q.last, false⟩ hs7.res hs7.mach hs7.mod (Nat.le_refl _) hmb
   obtain ⟨l0, l1, l2, l3, l4, l5, l6, n0, n1, n2, n3, n4, n5, n6⟩ := (Cells7.of hs7.res).all
   unfold set7 at hW9
   have HF := Lib.hid hfin
   have HW9 := Lib.hid hW9
   clear hs6 hs7 hfin hW9 hb6
   go_wp2_with fail
   rw [← HW9.out]
   refine bodyPost_ret (results_cell_row rfl _ _ w.heap.size _ _ (0, 0) _ rfl HF.out.1 Tryz.underlying278 rfl (by kernel_rfl)) rfl ?_
   rw [HV.out, HPS.out, ← HSA.out.2.2]
   exact ⟨rfl, HF.out.2⟩
  ·-- True True
   rw [hpn] at x6
   rw [hqn] at y6
   have hs0 := HSA.out.1
   rw [HSA.out.2.1, hpn, hqn] at hs0
   simp only [Bool.and_true, Bool.and_false, Bool.true_and, Bool.false_and] at hs0
   have hps : p.seq q = ⟨p.first.or q.first, q.last.or p.last, true⟩ := by unfold Part.seq; rw [hpn, hqn]; rfl
   have HPS := Lib.hid hps
   clear hps
   have H0 := Lib.hid hs0
   clear hs0
   go_wp2_with fail
   have hcall := fun W' => setOr_any p.first q.first W' HO.out.1.part.f HO.out.2.1.part.f
   unfold PSet.val PSet.cells at hcall
   refine (hcall _).mono ?_
   clear hcall
   rintro en W6 ⟨rfl, hb6⟩
   have hs6 := H0.out.below (by rw [Part.cells_eq]; exact hb6)
   have hs7 := hs6.first (by omega) (by omega) (by omega) (by omega) (by omega) (p.first.or q.first)
   obtain ⟨o0, o1, o2, o3, o4, o5, o6, of0, of1, of2, of3, of4, of5, of6⟩ := (Cells7.of hs6.own).all
   obtain ⟨v0, v1, v2, v3, v4, v5, v6, vf⟩ := Cells7.of hs7.k4
   obtain ⟨u0, u1, u2, u3, u4, u5, u6, uf⟩ := Cells7.of hs7.k3
   rw [hqn] at v6
   clear vf uf
   have H7 := Lib.hid hs7
   clear hs6 hs7 hb6
   go_wp2_with fail
   have hcall := fun W' => setOr_any q.last p.last W' HO.out.2.1.part.l HO.out.1.part.l
   unfold PSet.val PSet.cells at hcall
   refine (hcall _).mono ?_
   clear hcall
   rintro en W8 ⟨rfl, hb8⟩
   have hs8 := H7.out.below hb8
   have hs9 := hs8.last (by omega) (by omega) (by omega) (by omega) (by omega) (q.last.or p.last)
   obtain ⟨m0, m1, m2, m3, m4, m5, m6, mf0, mf1, mf2, mf3, mf4, mf5, mf6⟩ := (Cells7.of hs8.own).all
   obtain ⟨W9, hW9, hfin⟩ := part_out ⟨p.first.or q.first, q.last.or p.last, true⟩ hs9.res hs9.mach hs9.mod (Nat.le_refl _) hmb
   obtain ⟨l0, l1, l2, l3, l4, l5, l6, n0, n1, n2, n3, n4, n5, n6⟩ := (Cells7.of hs9.res).all
   unfold set7 at hW9
   have HF := Lib.hid hfin
   have HW9 := Lib.hid hW9
   clear hs8 hs9 hfin hW9 hb8
   go_wp2_with fail
   rw [← HW9.out]
   refine bodyPost_ret (results_cell_row rfl _ _ w.heap.size _ _ (0, 0) _ rfl HF.out.1 Tryz.underlying278 rfl (by kernel_rfl)) rfl ?_
   rw [HV.out, HPS.out, ← HSA.out.2.2]
   exact ⟨rfl, HF.out.2⟩
end Go.Proofs.Ts
namespace Go.Proofs.Ts
open Go Go.RowKit
theorem part_any (e : Ast) (he : e.ok) : PartGives e := by
 induction e with
 | empty => exact part_empty
 | huge => exact part_huge
 | one s => exact part_one s he
 | seq a b iha ihb => exact part_seq a b (iha he.1) (ihb he.2)
 | or a b iha ihb => exact part_or a b (iha he.1) (ihb he.2)
 | many a sm ih => exact part_many a sm (ih he)
 | maybe a ih => exact part_maybe a (ih he)
end Go.Proofs.Ts
namespace Go.Proofs.Ts
open Go Go.RowKit
def PM.zero : PM := ⟨List.replicate 256 PSet.zero, List.replicate 129 PSet.zero, PSet.zero, 0⟩
theorem PM.ok_zero : PM.zero.ok where
 la := List.length_replicate
 lf := List.length_replicate
 oa := fun s hs => by
  have h := List.eq_of_mem_replicate (show s ∈ List.replicate 256 PSet.zero from hs)
  rw [h]; exact PSet.ok_zero
 of' := fun s hs => by
  have h := List.eq_of_mem_replicate (show s ∈ List.replicate 129 PSet.zero from hs)
  rw [h]; exact PSet.ok_zero
 ol := PSet.ok_zero
def PM.setLast (M : PM) (s : PSet) : PM := { M with last := s }
def PM.compile (e : Ast) : PM := ((PM.part e .zero).1.putFollow 128 (PM.part e .zero).2.first).setLast (if (PM.part e .zero).2.none then (PM.part e .zero).2.last.on 128 else (PM.part e .zero).2.last)
theorem zero_cells : Tryz.zeroCells276 = PM.zero.cells.toArray := by kernel_rfl
theorem PM.ok_setLast {M : PM} (h : M.ok) {s : PSet} (hs : s.ok) : (M.setLast s).ok := ⟨h.la, h.lf, h.oa, h.of', hs⟩
theorem PM.setLast_one {M : PM} (h : M.ok) (i : Nat) (hi : i < 3) (v : Nat) : M.cells.toArray.setIfInBounds (1155 + i) (.int .u64 v) = (M.setLast (M.last.setw i v)).cells.toArray := by
 simp only [List.setIfInBounds_toArray]
 congr 1
 have h1 := setCells_len M.at'
 have h2 := setCells_len M.follow
 have h3 := h.la
 have h4 := h.lf
 have h5 : M.last.cells.length = 3 := rfl
 have h6 := PSet.setw_cells M.last hi v
 simp only [List.setIfInBounds_toArray] at h6
 unfold PM.cells PM.setLast
 simp only
 rw [List.set_append_right _ _ (by omega), List.set_append_right _ _ (by omega), List.set_append_left _ _ (by omega), show 1155 + i - (setCells M.at').length - (setCells M.follow).length = i by omega]
 have h7 := congrArg Array.toList h6
 simp only at h7
 rw [h7]
theorem PM.setLast_cells {M : PM} (h : M.ok) {s : PSet} :
  ((M.cells.toArray.setIfInBounds 1155 (.int .u64 s.a)).setIfInBounds (1155 + 1) (.int .u64 s.b)).setIfInBounds (1155 + 2) (.int .u64 s.c) = (M.setLast s).cells.toArray := by
 have hx : ∀ (N : PM) i v, (N.setLast (N.last.setw i v)).last = N.last.setw i v := fun _ _ _ => rfl
 simp only [List.setIfInBounds_toArray]
 congr 1
 have h1 := setCells_len M.at'
 have h2 := setCells_len M.follow
 have h3 := h.la
 have h4 := h.lf
 have h5 : M.last.cells.length = 3 := rfl
 unfold PM.cells PM.setLast
 simp only
 rw [List.set_append_right _ _ (by omega), List.set_append_right _ _ (by omega), List.set_append_right _ _ (by omega), List.set_append_right _ _ (by omega), List.set_append_right _ _ (by omega), List.set_append_right _ _ (by omega),
  show 1155 - (setCells M.at').length - (setCells M.follow).length = 0 by omega, show 1155 + 1 - (setCells M.at').length - (setCells M.follow).length = 1 by omega, show 1155 + 2 - (setCells M.at').length - (setCells M.follow).length = 2 by omega]
 rfl
/-- A place may be last. -/
theorem machOnLast_any (mb k : Nat) (M : PM) (w : World) (hM : MachIs w mb M) (hk : k < 192) :
  Calls Tryz.prog 126 #[.pointer (some ⟨mb, 1155, none⟩), .int .i64 k] w fun e w' => e = .returned (.tuple #[]) ∧ MachIs w' mb (M.setLast (M.last.on k)) ∧ Mod (fun j => j = mb) w w' := by
 refine (setOn_any mb 1155 k M.last w hM.1.ol hk hM.lastC).mono ?_
 rintro e w' ⟨rfl, hS⟩
 refine ⟨rfl, ⟨PM.ok_setLast hM.1 (PSet.ok_on hM.1.ol k), ?_⟩, Mod.trans (Mod.setCell (S := fun j => j = mb) w ⟨mb, _, none⟩ _ fun _ => rfl) (Mod.same hS)⟩
 rw [hS.heap, heap_setCell_same w mb (1155 + k / 64) _ _ _ hM.2, PM.setLast_one hM.1 (k / 64) (by omega)]
 rfl
set_option maxRecDepth 100000 in
set_option maxHeartbeats 4000000 in
theorem compileP_any (e : Ast) (he : e.ok) (hn : e.count ≤ 128) (w : World) (hT : BitTab w) :
  Calls Tryz.prog 87 #[e.val] w fun en w' => en = .returned (ptrV w.heap.size) ∧ MachIs w' w.heap.size (PM.compile e) ∧ Below w.heap.size w w' := by
 obtain ⟨W, hW⟩ : ∃ W, W = w.alloc (.cells Tryz.zeroCells276 276) := ⟨_, rfl⟩
 have hb : Below w.heap.size w W := by rw [hW]; exact (Below.refl _ w).alloc (Nat.le_refl _) _
 have hM0 : MachIs W w.heap.size PM.zero := ⟨PM.ok_zero, by rw [hW, ← zero_cells]; exact heap_alloc_new w _⟩
 have hcall := part_any e he w.heap.size PM.zero W hM0 (hT.below hb) (by show 0 + e.count ≤ 128; omega)
 have hok := part_ok e PM.zero PM.ok_zero (by show 0 + e.count ≤ 128; omega)
 obtain ⟨M, hM⟩ : ∃ M, M = (PM.part e .zero).1 := ⟨_, rfl⟩
 obtain ⟨p, hp⟩ : ∃ p, p = (PM.part e .zero).2 := ⟨_, rfl⟩
 have hcp : PM.compile e = (M.putFollow 128 p.first).setLast (if p.none then p.last.on 128 else p.last) := by rw [hM, hp]; rfl
 rw [← hM, ← hp] at hcall hok
 obtain ⟨R, hR⟩ : ∃ R, R = PM.compile e := ⟨_, rfl⟩
 rw [← hR]
 rw [← hR] at hcp
 have H := Lib.hid (show _ ∧ _ ∧ _ ∧ _ from ⟨hcall, hok, hcp, hb⟩)
 have HW := Lib.hid hW
 have hsz : W.heap.size = w.heap.size + 1 := by rw [hW]; simp
 clear hT hb hM0 hcall hok hcp hM hp hR hW
 go_enter Tryz.func87, Tryz.ntmps87
 go_wp2_with fail
 rw [← HW.out]
 refine H.out.1.mono ?_
 rintro en w1 ⟨rfl, hm1, hmod1⟩
 rw [Part.val_eq p]
 have hsz1 := hmod1.size
 obtain ⟨W1, hW1⟩ : ∃ W1, W1 = w1.alloc (.cells p.cells.toArray 278) := ⟨_, rfl⟩
 have hp1 : W1.heap[w1.heap.size]? = some (.cells p.cells.toArray 278 (0, 0)) := by rw [hW1]; exact heap_alloc_new w1 _
 have hb1 : Below w1.heap.size w1 W1 := by rw [hW1]; exact (Below.refl _ w1).alloc (Nat.le_refl _) _
 have hm2 := hm1.below hb1
 have hmod2 : Below w.heap.size w W1 := by
  have h1 : Below w.heap.size W w1 := hmod1.toBelow (by omega) (fun k e => by omega)
  exact (H.out.2.2.2.trans h1).trans (hb1.mono (by omega))
 obtain ⟨x0, x1, x2, x3, x4, x5, x6, x7⟩ := Cells7.of hp1
 have HX := Lib.hid (show _ ∧ _ ∧ _ from ⟨hp1, hm2, hmod2⟩)
 have HW1 := Lib.hid hW1
 rw [Part.cells_eq] at HW1
 clear hp1 hb1 hm1 hmod1 hm2 hmod2 x7 hW1
 go_wp2_with fail
 rw [← HW1.out]
 have f0 : W1.frozen? ⟨w.heap.size, 1152, none⟩ = false := HX.out.2.1.free _
 have f1 : W1.frozen? ⟨w.heap.size, 1152 + 1, none⟩ = false := HX.out.2.1.free _
 have f2 : W1.frozen? ⟨w.heap.size, 1152 + 2, none⟩ = false := HX.out.2.1.free _
 have hfol := HX.out.2.1.followC (k := 128) (s := M.follow.getD 128 PSet.zero) (by
  rw [List.getD_eq_getElem?_getD]
  have hl : 128 < M.follow.length := by rw [HX.out.2.1.1.lf]; decide
  rw [List.getElem?_eq_getElem hl]
  rfl)
 have c0 := (hfol 0 (by decide)).1
 have c1 := (hfol 1 (by decide)).1
 have c2 := (hfol 2 (by decide)).1
 simp only [Nat.reduceMul, Nat.reduceAdd] at c0 c1 c2 f1 f2
 obtain ⟨W2, hW2⟩ : ∃ W2, W2 = (((W1.setCell ⟨w.heap.size, 1152, none⟩ (.int .u64 p.first.a)).setCell ⟨w.heap.size, 1153, none⟩ (.int .u64 p.first.b)).setCell ⟨w.heap.size, 1154, none⟩ (.int .u64 p.first.c)).drew := ⟨_, rfl⟩
 have o2 : ∀ j, j ≠ w.heap.size → W2.heap[j]? = W1.heap[j]? := fun j hj => by
  rw [hW2]
  show (((W1.setCell ⟨w.heap.size, 1152, none⟩ (.int .u64 p.first.a)).setCell ⟨w.heap.size, 1153, none⟩ (.int .u64 p.first.b)).setCell ⟨w.heap.size, 1154, none⟩ (.int .u64 p.first.c)).heap[j]? = _
  rw [Below.heap_setCell _ ⟨w.heap.size, 1154, none⟩ _ j hj, Below.heap_setCell _ ⟨w.heap.size, 1153, none⟩ _ j hj, Below.heap_setCell _ ⟨w.heap.size, 1152, none⟩ _ j hj]
 have k2 : W2.heap[w.heap.size]? = some (.cells (M.putFollow 128 p.first).cells.toArray 276 (0, 0)) := by
  rw [hW2]
  have k1 := heap_setCell_same W1 w.heap.size 1152 _ _ (.int .u64 p.first.a) HX.out.2.1.2
  have k2 := heap_setCell_same _ w.heap.size 1153 _ _ (.int .u64 p.first.b) k1
  have k3 := heap_setCell_same _ w.heap.size 1154 _ _ (.int .u64 p.first.c) k2
  rw [← PM.putFollow_cells HX.out.2.1.1 (show 128 < 129 by decide)]
  exact k3
 have hb2 : Below w.heap.size w W2 := by
  rw [hW2]
  exact (((HX.out.2.2.setCell (p := ⟨_, 1152, none⟩) (Nat.le_refl _) _).setCell (p := ⟨_, 1153, none⟩) (Nat.le_refl _) _).setCell (p := ⟨_, 1154, none⟩) (Nat.le_refl _) _).trans (Same.drew _ |>.below _)
 have hM2 : MachIs W2 w.heap.size (M.putFollow 128 p.first) := ⟨PM.ok_putFollow HX.out.2.1.1 _ H.out.2.1.part.f, k2⟩
 have hp2 := (o2 w1.heap.size (by omega)).trans HX.out.1
 have H2 := Lib.hid (show _ ∧ _ ∧ _ from ⟨hb2, hM2, hp2⟩)
 have HW2 := Lib.hid hW2
 clear hfol hW2 o2 k2 hb2 hM2 hp2
 refine wp_region_ordT [(0, false), (1, false), (2, false), (3, false), (4, false), (5, false), (6, true)] 6
  (fun W' => W'.cell? ⟨w1.heap.size, 0, none⟩ = some (.int .u64 p.first.a) ∧ W'.cell? ⟨w1.heap.size, 1, none⟩ = some (.int .u64 p.first.b) ∧ W'.cell? ⟨w1.heap.size, 2, none⟩ = some (.int .u64 p.first.c)) (by kernel_rfl) (by kernel_rfl) ⟨x0, x1, x2⟩ ?_
 iterate 6 (
  refine wpOrd_quiet ?_ rfl rfl (fun w' hS => ?_) ?_
  rotate_left
  ·obtain ⟨q0, q1, q2⟩ := hS
   go_simp
   first | rfl | done
  simp only [put_lit, List.set_cons_succ, List.set_cons_zero])
 refine wpOrd_last rfl rfl (fun K hK => ?_)
 have HK := Lib.hid hK
 clear hK
 go_simp
 rw [← HW2.out]
 refine HK.out _ _ ?_
 clear HK K c0 c1 c2 f0 f1 f2
 obtain ⟨x0, x1, x2, x3, x4, x5, x6, x7⟩ := Cells7.of H2.out.2.2
 have g0 : W2.frozen? ⟨w.heap.size, 1155, none⟩ = false := H2.out.2.1.free _
 have g1 : W2.frozen? ⟨w.heap.size, 1155 + 1, none⟩ = false := H2.out.2.1.free _
 have g2 : W2.frozen? ⟨w.heap.size, 1155 + 2, none⟩ = false := H2.out.2.1.free _
 have hla := H2.out.2.1.lastC
 have c0 := (hla 0 (by decide)).1
 have c1 := (hla 1 (by decide)).1
 have c2 := (hla 2 (by decide)).1
 simp only [Nat.add_zero] at c0 c1 c2
 obtain ⟨W3, hW3⟩ : ∃ W3, W3 = ((W2.setCell ⟨w.heap.size, 1155, none⟩ (.int .u64 p.last.a)).setCell ⟨w.heap.size, 1155 + 1, none⟩ (.int .u64 p.last.b)).setCell ⟨w.heap.size, 1155 + 2, none⟩ (.int .u64 p.last.c) := ⟨_, rfl⟩
 have k3 : W3.heap[w.heap.size]? = some (.cells ((M.putFollow 128 p.first).setLast p.last).cells.toArray 276 (0, 0)) := by
  rw [hW3]
  have k1 := heap_setCell_same W2 w.heap.size 1155 _ _ (.int .u64 p.last.a) H2.out.2.1.2
  have k2 := heap_setCell_same _ w.heap.size (1155 + 1) _ _ (.int .u64 p.last.b) k1
  have k3 := heap_setCell_same _ w.heap.size (1155 + 2) _ _ (.int .u64 p.last.c) k2
  rw [PM.setLast_cells H2.out.2.1.1] at k3
  exact k3
 have hb3 : Below w.heap.size w W3 := by
  rw [hW3]
  exact ((H2.out.1.setCell (p := ⟨_, 1155, none⟩) (Nat.le_refl _) _).setCell (p := ⟨_, 1155 + 1, none⟩) (Nat.le_refl _) _).setCell (p := ⟨_, 1155 + 2, none⟩) (Nat.le_refl _) _
 have hM3 : MachIs W3 w.heap.size ((M.putFollow 128 p.first).setLast p.last) := ⟨PM.ok_setLast H2.out.2.1.1 H.out.2.1.part.l, k3⟩
 have hp3 : W3.heap[w1.heap.size]? = some (.cells p.cells.toArray 278 (0, 0)) := by
  have hne : w1.heap.size ≠ w.heap.size := by omega
  rw [hW3, Below.heap_setCell _ ⟨w.heap.size, 1155 + 2, none⟩ _ _ hne, Below.heap_setCell _ ⟨w.heap.size, 1155 + 1, none⟩ _ _ hne, Below.heap_setCell _ ⟨w.heap.size, 1155, none⟩ _ _ hne]
  exact H2.out.2.2
 obtain ⟨y0, y1, y2, y3, y4, y5, y6, y7⟩ := Cells7.of hp3
 rw [hW3] at y6
 have H3 := Lib.hid (show _ ∧ _ from ⟨hb3, hM3⟩)
 have HW3 := Lib.hid hW3
 clear hla k3 hb3 hM3 hp3 hW3 y0 y1 y2 y3 y4 y5 y7 x7
 cases hpn : p.none
 all_goals
  rw [hpn] at y6 x6
  go_wp2_with fail
 ·rw [← HW3.out]
  go_ret
  refine ⟨rfl, ?_, H3.out.1⟩
  have := H.out.2.2.1
  rw [hpn] at this
  rw [this]
  exact H3.out.2
 ·have hcall := machOnLast_any w.heap.size 128 ((M.putFollow 128 p.first).setLast p.last) W3 H3.out.2 (by decide)
  rw [HW3.out] at hcall
  refine hcall.mono ?_
  clear hcall
  rintro en w4 ⟨rfl, hm4, hmod4⟩
  rw [← HW3.out] at hmod4
  have hfin : Below w.heap.size w w4 := H3.out.1.trans (hmod4.toBelow H3.out.1.size (fun k e => by omega))
  have HF := Lib.hid (show _ ∧ _ from ⟨hm4, hfin⟩)
  clear hm4 hmod4 hfin y6 x6
  go_wp2_with fail
  go_ret
  refine ⟨rfl, ?_, HF.out.2⟩
  have := H.out.2.2.1
  rw [hpn] at this
  rw [this]
  exact HF.out.1
end Go.Proofs.Ts
namespace Go.Proofs.Ts
open Go Go.RowKit
def PM.fit (M : PM) : Prop := ∀ c, (M.at'.getD c PSet.zero).fits
theorem PSet.fits_and {s t : PSet} (h : t.fits) : (s.and t).fits := fun k hk => by
 rw [PSet.mem_elems, PSet.mem_and, Bool.and_eq_true] at hk
 exact h k ((PSet.mem_elems _ _).2 ⟨hk.1, hk.2.2⟩)
theorem beginSet_ok : beginSet.ok := PSet.ok_on PSet.ok_zero _
theorem beginSet_fits : beginSet.fits := fun k hk => by
 rw [PSet.mem_elems] at hk
 have := hk.2
 unfold beginSet at this
 rw [PSet.mem_on _ _ _ (by decide) hk.1, PSet.mem_zero, Bool.or_false, decide_eq_true_iff] at this
 omega
end Go.Proofs.Ts
namespace Go.Proofs.Ts
open Go Go.RowKit
def PM.atc (M : PM) (c : Nat) : PSet := M.at'.getD c .zero
/-- Of the first c bytes those that are like none ahead of them. -/
def PM.alikeTo (M : PM) : Nat → List (PSet × Nat)
 | 0 => []
 | c + 1 => if (get (M.alikeTo c) (M.atc c)).isSome then M.alikeTo c else M.alikeTo c ++ [(M.atc c, c)]
def PM.kindsTo (M : PM) (c : Nat) : List Nat := (M.alikeTo c).map (·.2)
def PM.kinds (M : PM) : List Nat := M.kindsTo 256
theorem alike_len (M : PM) : ∀ c, (M.alikeTo c).length ≤ c
 | 0 => Nat.le_refl _
 | c + 1 => by
  have ih := alike_len M c
  unfold PM.alikeTo
  split
  ·omega
  ·simp; omega
theorem alike_mem (M : PM) : ∀ c, ∀ p ∈ M.alikeTo c, p.1 = M.atc p.2 ∧ p.2 < c
 | 0, p, h => by cases h
 | c + 1, p, h => by
  have ih := alike_mem M c
  unfold PM.alikeTo at h
  split at h
  ·exact ⟨(ih p h).1, Nat.lt_succ_of_lt (ih p h).2⟩
  ·rcases List.mem_append.1 h with h | h
   ·exact ⟨(ih p h).1, Nat.lt_succ_of_lt (ih p h).2⟩
   ·simp at h; subst h; exact ⟨rfl, Nat.lt_succ_self _⟩
theorem get_appendL {α β : Type} [DecidableEq α] {M M' : List (α × β)} {n : α} {x : β} (h : get M n = some x) : get (M ++ M') n = some x := by
 induction M with
 | nil => cases h
 | cons p r ih =>
  simp only [List.cons_append, get] at h ⊢
  split
  ·rename_i e; rw [if_pos e] at h; exact h
  ·rename_i e; rw [if_neg e] at h; exact ih h
theorem get_lastL {α β : Type} [DecidableEq α] {M : List (α × β)} {n : α} (x : β) (h : get M n = none) : get (M ++ [(n, x)]) n = some x := by
 rw [← length_put_none x h, get_put, if_pos rfl]
/-- Each byte is like one that is kept. -/
theorem alike_has (M : PM) : ∀ c d, d < c → ∃ k, get (M.alikeTo c) (M.atc d) = some k
 | 0, d, h => by omega
 | c + 1, d, h => by
  have ih := alike_has M c
  unfold PM.alikeTo
  split
  ·rename_i hs
   by_cases hd : d = c
   ·subst hd; exact Option.isSome_iff_exists.1 hs
   ·exact ih d (by omega)
  ·rename_i hs
   by_cases hd : d = c
   ·subst hd
    exact ⟨d, get_lastL _ (by simpa using hs)⟩
   ·obtain ⟨k, hk⟩ := ih d (by omega)
    exact ⟨k, get_appendL hk⟩
theorem kinds_has (M : PM) (d : Nat) (h : d < 256) : ∃ k, k ∈ M.kinds ∧ k < 256 ∧ M.atc k = M.atc d := by
 obtain ⟨k, hk⟩ := alike_has M 256 d h
 have hm := get_some_mem hk
 have := alike_mem M 256 _ hm
 exact ⟨k, List.mem_map.2 ⟨_, hm, rfl⟩, this.2, this.1.symm⟩
theorem kinds_lt (M : PM) (c : Nat) {k : Nat} (h : k ∈ M.kindsTo c) : k < c := by
 obtain ⟨p, hp, rfl⟩ := List.mem_map.1 h
 exact (alike_mem M c p hp).2
theorem kinds_len (M : PM) (c : Nat) : (M.kindsTo c).length ≤ c := by unfold PM.kindsTo; rw [List.length_map]; exact alike_len M c
theorem step_like (M : PM) (s : PSet) {c d : Nat} (h : M.atc c = M.atc d) : M.step s c = M.step s d := by
 unfold PM.step
 unfold PM.atc at h
 rw [h]
/-- The sets that can be met. -/
inductive Met2 (M : PM) : PSet → Prop
 | start : Met2 M beginSet
 | step (s : PSet) (c : Nat) : Met2 M s → c < 256 → M.step s c ≠ PSet.zero → Met2 M (M.step s c)
theorem Met2.ok {M : PM} (hM : M.ok) (hF : M.fit) {s : PSet} (h : Met2 M s) : s.ok ∧ s.fits := by
 induction h with
 | start => exact ⟨beginSet_ok, beginSet_fits⟩
 | step s c _ _ _ ih => exact ⟨PM.ok_step hM s c, PSet.fits_and (hF c)⟩
/-- An entry of the table. -/
def TCell (M : PM) (sets : List PSet) (s : PSet) (c : Nat) (z : Int) : Prop := (M.step s c = PSet.zero ∧ z = -1) ∨ (M.step s c ≠ PSet.zero ∧ ∃ id : Nat, z = (id : Int) ∧ sets[id]? = some (M.step s c))
theorem TCell.mono {M : PM} {sets sets' : List PSet} {s : PSet} {c : Nat} {z : Int} (h : TCell M sets s c z) (hp : sets <+: sets') : TCell M sets' s c z := by
 rcases h with h | ⟨h1, id, h2, h3⟩
 ·exact .inl h
 ·exact .inr ⟨h1, id, h2, at_prefix hp h3⟩
structure RowOk (M : PM) (kinds : List Nat) (sets : List PSet) (s : PSet) (r : List Int) : Prop where
 len : r.length = kinds.length
 cell : ∀ (k c : Nat), kinds[k]? = some c → ∃ z : Int, r[k]? = some z ∧ TCell M sets s c z
/-- The table so far: rows of the first sets. -/
structure TabOk (M : PM) (kinds : List Nat) (sets : List PSet) (rows : List (List Int)) : Prop where
 first : sets[0]? = some beginSet
 nodup : sets.Nodup
 reach : ∀ s ∈ sets, Met2 M s
 le : rows.length ≤ sets.length
 row : ∀ (j : Nat) (r : List Int) (s : PSet), rows[j]? = some r → sets[j]? = some s → RowOk M kinds sets s r
theorem TabOk.start (M : PM) (kinds : List Nat) : TabOk M kinds [beginSet] [] where
 first := rfl
 nodup := by simp
 reach := fun s h => by simp at h; subst h; exact .start
 le := by simp
 row := fun j r s h => by simp at h
theorem TabOk.push {M : PM} {kinds : List Nat} {sets : List PSet} {rows : List (List Int)} (h : TabOk M kinds sets rows) {s : PSet} (hs : s ∉ sets) (hr : Met2 M s) : TabOk M kinds (sets ++ [s]) rows where
 first := at_prefix (List.prefix_append _ _) h.first
 nodup := by
  rw [List.nodup_append]
  exact ⟨h.nodup, by simp, fun a ha b hb e => by simp at hb; subst hb; subst e; exact hs ha⟩
 reach := fun t ht => by
  rcases List.mem_append.1 ht with ht | ht
  ·exact h.reach t ht
  ·simp at ht; subst ht; exact hr
 le := by have := h.le; simp; omega
 row := fun j r t hj ht => by
  have hl := (List.getElem?_eq_some_iff.1 hj).1
  have := h.le
  have ht' : sets[j]? = some t := by rw [List.getElem?_append_left (by omega)] at ht; exact ht
  have := h.row j r t hj ht'
  exact ⟨this.len, fun k c hk => by
   obtain ⟨z, h1, h2⟩ := this.cell k c hk
   exact ⟨z, h1, h2.mono (List.prefix_append _ _)⟩⟩
theorem TabOk.row_done {M : PM} {kinds : List Nat} {sets : List PSet} {rows : List (List Int)} (h : TabOk M kinds sets rows) {s : PSet} {r : List Int} (hs : sets[rows.length]? = some s) (hr : RowOk M kinds sets s r) : TabOk M kinds sets (rows ++ [r]) where
 first := h.first
 nodup := h.nodup
 reach := h.reach
 le := by have := (List.getElem?_eq_some_iff.1 hs).1; simp; omega
 row := fun j r' t hj ht => by
  by_cases hl : j < rows.length
  ·rw [List.getElem?_append_left hl] at hj
   exact h.row j r' t hj ht
  ·have := (List.getElem?_eq_some_iff.1 hj).1
   simp at this
   obtain rfl : j = rows.length := by omega
   rw [List.getElem?_concat_length] at hj
   rw [hs] at ht
   cases hj
   cases ht
   exact hr
/-- The whole table holds all that can be met. -/
theorem TabOk.all {M : PM} {sets : List PSet} {rows : List (List Int)} (h : TabOk M M.kinds sets rows) (hall : rows.length = sets.length) {s : PSet} (hs : Met2 M s) : s ∈ sets := by
 induction hs with
 | start => exact List.mem_of_getElem? h.first
 | step s c _ hc hz ih =>
  obtain ⟨j, hj⟩ := List.mem_iff_getElem?.1 ih
  have hl := (List.getElem?_eq_some_iff.1 hj).1
  obtain ⟨r, hr⟩ : ∃ r, rows[j]? = some r := ⟨_, List.getElem?_eq_getElem (by omega)⟩
  have hrow := h.row j r s hr hj
  obtain ⟨k, hk, _, hat⟩ := kinds_has M c hc
  obtain ⟨i, hi⟩ := List.mem_iff_getElem?.1 hk
  obtain ⟨z, _, hcell⟩ := hrow.cell i k hi
  rw [← step_like M s hat] at hz ⊢
  rcases hcell with h1 | ⟨_, id, _, h3⟩
  ·exact absurd h1.1 hz
  ·exact List.mem_of_getElem? h3
/-! ### All places at a byte lie below 128. -/
def PM.small (M : PM) : Prop := ∀ s ∈ M.at', s.under M.n
theorem PM.small_link {M : PM} (h : M.small) (l : List Nat) (t : PSet) : (M.link l t).small := by
 have e : (M.link l t).at' = M.at' := by
  unfold PM.link
  induction l generalizing M with
  | nil => rfl
  | cons k l ih => rw [List.foldl_cons, ih (by exact h)]; rfl
 unfold PM.small
 rw [e, PM.link_n]
 exact h
theorem small_part (e : Ast) : ∀ (M : PM), M.ok → M.n + e.count ≤ 128 → M.small → (PM.part e M).1.small := by
 induction e with
 | empty => exact fun M _ _ h => h
 | huge => exact fun M _ _ h => h
 | one s =>
  intro M hM hn h t ht
  have hn' : M.n + 1 ≤ 128 := hn
  obtain ⟨q, hq, rfl⟩ := List.mem_map.1 ht
  have hm : q.1 ∈ M.at' := by
   obtain ⟨h1, h2, h3⟩ := List.mem_zipIdx hq
   rw [h3]
   exact List.getElem_mem _
  show (if s.has q.2 then q.1.on M.n else q.1).under (M.n + 1)
  split
  ·intro j hj
   rw [PSet.mem_elems] at hj
   have hj2 := hj.2
   rw [PSet.mem_on _ _ _ (by omega) hj.1, Bool.or_eq_true, decide_eq_true_iff] at hj2
   rcases hj2 with h1 | h1
   ·omega
   ·have := h q.1 hm j ((PSet.mem_elems _ _).2 ⟨hj.1, h1⟩)
    omega
  ·exact (h q.1 hm).mono (by omega)
 | or a b iha ihb =>
  intro M hM hn h
  have hn' : M.n + (a.count + b.count) ≤ 128 := hn
  have ha := part_ok a M hM (by omega)
  exact ihb _ ha.mach (by rw [ha.n]; omega) (iha M hM (by omega) h)
 | seq a b iha ihb =>
  intro M hM hn h
  have hn' : M.n + (a.count + b.count) ≤ 128 := hn
  have ha := part_ok a M hM (by omega)
  exact PM.small_link (ihb _ ha.mach (by rw [ha.n]; omega) (iha M hM (by omega) h)) _ _
 | many a sm ih => exact fun M hM hn h => PM.small_link (ih M hM hn h) _ _
 | maybe a ih => exact fun M hM hn h => ih M hM hn h
theorem small_zero : PM.zero.small := fun s hs => by
 have h := List.eq_of_mem_replicate (show s ∈ List.replicate 256 PSet.zero from hs)
 rw [h]
 exact PSet.under_zero _
theorem compile_fit (e : Ast) (hn : e.count ≤ 128) : (PM.compile e).fit := by
 have h := small_part e PM.zero PM.ok_zero (by show 0 + e.count ≤ 128; omega) small_zero
 have hk := part_ok e PM.zero PM.ok_zero (by show 0 + e.count ≤ 128; omega)
 have hnn : (PM.part e PM.zero).1.n ≤ 128 := by rw [hk.n]; show 0 + e.count ≤ 128; omega
 intro c
 show ((PM.part e PM.zero).1.at'.getD c PSet.zero).fits
 rw [List.getD_eq_getElem?_getD]
 cases hc : (PM.part e PM.zero).1.at'[c]? with
 | none => exact (PSet.under_zero 0).fits (by omega)
 | some s => exact (h s (List.mem_of_getElem? hc)).fits hnn
theorem compile_ok (e : Ast) (hn : e.count ≤ 128) : (PM.compile e).ok := by
 have hk := part_ok e PM.zero PM.ok_zero (by show 0 + e.count ≤ 128; omega)
 refine PM.ok_setLast (PM.ok_putFollow hk.mach _ hk.part.f) ?_
 split
 ·exact PSet.ok_on hk.part.l _
 ·exact hk.part.l
end Go.Proofs.Ts
namespace Go.Proofs.Ts
open Go Go.RowKit
/-- What is read from a set of places on. -/
def PM.reads (M : PM) (s : PSet) : List UInt8 → Bool
 | [] => M.ends s
 | c :: t => if M.step s c.toNat = PSet.zero then false else M.reads (M.step s c.toNat) t
def PM.live (M : PM) (s : PSet) : Prop := ∃ t, M.reads s t = true
/-- n tells how many languages are read from sets that can be met, but the empty one. -/
def IsLeast (M : PM) (n : Nat) : Prop := ∃ reps : List PSet, reps.length = n ∧ (∀ s ∈ reps, Met2 M s ∧ M.live s) ∧ reps.Pairwise (fun a b => M.reads a ≠ M.reads b) ∧ ∀ s, Met2 M s → M.live s → ∃ r ∈ reps, M.reads s = M.reads r
/-- Places of the list of sets: which leads where by which kind. -/
def goes (rows : List (List Int)) (i k : Nat) : Option Nat :=
 match rows[i]? with
 | none => none
 | some r => match r[k]? with
  | none => none
  | some z => if 0 ≤ z then some z.toNat else none
theorem goes_some {M : PM} {sets : List PSet} {rows : List (List Int)} {i k c : Nat} {s : PSet} (h : TabOk M M.kinds sets rows) (hall : rows.length = sets.length) (hs : sets[i]? = some s) (hk : M.kinds[k]? = some c) :
  (M.step s c = PSet.zero ∧ goes rows i k = none) ∨ (M.step s c ≠ PSet.zero ∧ ∃ j, goes rows i k = some j ∧ sets[j]? = some (M.step s c)) := by
 have hl := (List.getElem?_eq_some_iff.1 hs).1
 obtain ⟨r, hr⟩ : ∃ r, rows[i]? = some r := ⟨_, List.getElem?_eq_getElem (by omega)⟩
 obtain ⟨z, hz, hc⟩ := (h.row i r s hr hs).cell k c hk
 unfold goes
 rw [hr]
 simp only [hz]
 rcases hc with ⟨h1, rfl⟩ | ⟨h1, id, rfl, h3⟩
 ·exact .inl ⟨h1, by decide⟩
 ·refine .inr ⟨h1, id, ?_, h3⟩
  rw [if_pos (by omega)]
  simp
/-- A byte's kind. -/
theorem byte_kind (M : PM) (c : UInt8) : ∃ (k d : Nat), M.kinds[k]? = some d ∧ ∀ s, M.step s c.toNat = M.step s d := by
 obtain ⟨d, hd, _, hat⟩ := kinds_has M c.toNat c.toNat_lt
 obtain ⟨k, hk⟩ := List.mem_iff_getElem?.1 hd
 exact ⟨k, d, hk, fun s => (step_like M s hat).symm⟩
/-- Live by the table: an end can be come to. -/
inductive Ends2 (M : PM) (sets : List PSet) (rows : List (List Int)) : Nat → Prop
 | here (i : Nat) (s : PSet) : sets[i]? = some s → M.ends s = true → Ends2 M sets rows i
 | on (i k j : Nat) : goes rows i k = some j → Ends2 M sets rows j → Ends2 M sets rows i
theorem live_iff {M : PM} {sets : List PSet} {rows : List (List Int)} (h : TabOk M M.kinds sets rows) (hall : rows.length = sets.length) {i : Nat} {s : PSet} (hs : sets[i]? = some s) : Ends2 M sets rows i ↔ M.live s := by
 constructor
 ·intro he
  induction he generalizing s with
  | here i s' hs' hen =>
   rw [hs] at hs'
   cases hs'
   exact ⟨[], hen⟩
  | on i k j hg _ ih =>
   have hkl : ∃ c, M.kinds[k]? = some c := by
    unfold goes at hg
    split at hg
    ·cases hg
    ·rename_i r hr
     split at hg
     ·cases hg
     ·rename_i z hz
      have := (List.getElem?_eq_some_iff.1 hz).1
      rw [(h.row i r s hr hs).len] at this
      exact ⟨_, List.getElem?_eq_getElem this⟩
   obtain ⟨c, hc⟩ := hkl
   rcases goes_some h hall hs hc with ⟨_, h2⟩ | ⟨h1, j', h2, h3⟩
   ·rw [h2] at hg; cases hg
   ·rw [h2] at hg
    cases hg
    obtain ⟨t, ht⟩ := ih h3
    have hc256 : c < 256 := kinds_lt M 256 (List.mem_of_getElem? hc)
    have e : (UInt8.ofNat c).toNat = c := by simp; omega
    refine ⟨UInt8.ofNat c :: t, ?_⟩
    unfold PM.reads
    rw [e, if_neg h1]
    exact ht
 ·rintro ⟨t, ht⟩
  induction t generalizing i s with
  | nil => exact .here i s hs ht
  | cons c t ih =>
   unfold PM.reads at ht
   split at ht
   ·cases ht
   ·rename_i hz
    obtain ⟨k, d, hk, hd⟩ := byte_kind M c
    rw [hd] at ht hz
    rcases goes_some h hall hs hk with ⟨h1, _⟩ | ⟨_, j, h2, h3⟩
    ·exact absurd h1 hz
    ·exact .on i k j h2 (ih h3 ht)
/-- Blocks: 0 where no end can be come to. -/
def blk (b : List Nat) (i : Nat) : Nat := b.getD i 0
def dest (rows : List (List Int)) (b : List Nat) (i k : Nat) : Nat :=
 match goes rows i k with
 | none => 0
 | some j => blk b j
/-- What is known of blocks at the head of a round. -/
structure BlkOk (M : PM) (sets : List PSet) (rows : List (List Int)) (b : List Nat) : Prop where
 len : b.length = sets.length
 live : ∀ i, i < sets.length → (blk b i ≠ 0 ↔ Ends2 M sets rows i)
 ends : ∀ i j s t, sets[i]? = some s → sets[j]? = some t → blk b i ≠ 0 → blk b i = blk b j → M.ends s = M.ends t
 same : ∀ i j s t, sets[i]? = some s → sets[j]? = some t → blk b i ≠ 0 → M.reads s = M.reads t → blk b i = blk b j
/-- A round splits blocks by where the kinds lead. -/
structure Splits (rows : List (List Int)) (n m : Nat) (b b' : List Nat) : Prop where
 len : b'.length = b.length
 zero : ∀ i, i < b.length → (blk b' i ≠ 0 ↔ blk b i ≠ 0)
 iff : ∀ i j, i < b.length → j < b.length → blk b i ≠ 0 → blk b j ≠ 0 → (blk b' i = blk b' j ↔ blk b i = blk b j ∧ ∀ k, k < m → dest rows b i k = dest rows b j k)
/-! ### Rounds. -/
theorem nodup_len : ∀ (D L : List Nat), D.Nodup → (∀ x ∈ D, x ∈ L) → D.length ≤ L.length
 | [], L, _, _ => Nat.zero_le _
 | a :: D, L, hn, h => by
  have ha := h a List.mem_cons_self
  have hn' := List.nodup_cons.1 hn
  have ih := nodup_len D (L.erase a) hn'.2 fun x hx => by
   have hne : x ≠ a := fun e => hn'.1 (e ▸ hx)
   exact (List.mem_erase_of_ne hne).2 (h x (List.mem_cons_of_mem _ hx))
  rw [List.length_erase_of_mem ha] at ih
  have := List.length_pos_of_mem ha
  simp only [List.length_cons]
  omega
/-- So many blocks there are, but that of the dead. -/
def BCnt (b : List Nat) (n : Nat) : Prop := ∃ l : List Nat, l.Nodup ∧ (∀ x, x ∈ l ↔ ∃ i, i < b.length ∧ blk b i = x ∧ x ≠ 0) ∧ l.length = n
section
variable {M : PM} {sets : List PSet} {rows : List (List Int)} {b b' : List Nat} {n m : Nat}
/-- Where the blocks of the new list come from. -/
theorem coarse_len {l l' : List Nat} (hS : Splits rows n m b b') (hl : l.Nodup) (h : ∀ x, x ∈ l ↔ ∃ i, i < b.length ∧ blk b i = x ∧ x ≠ 0) (h' : ∀ x, x ∈ l' ↔ ∃ i, i < b'.length ∧ blk b' i = x ∧ x ≠ 0) :
  ∃ φ : Nat → Nat, (∀ i, i < b.length → blk b i ≠ 0 → φ (blk b' i) = blk b i) ∧ ∀ x ∈ l, x ∈ l'.map φ := by
 have hφ : ∃ φ : Nat → Nat, ∀ i, i < b.length → blk b i ≠ 0 → φ (blk b' i) = blk b i := by
  refine ⟨fun y => match (List.range b.length).find? (fun i => blk b' i == y && blk b i != 0) with | some i => blk b i | none => 0, fun i hi h0 => ?_⟩
  have hf : ((List.range b.length).find? (fun j => blk b' j == blk b' i && blk b j != 0)).isSome := by
   rw [List.find?_isSome]
   exact ⟨i, List.mem_range.2 hi, by simp [h0]⟩
  obtain ⟨j, hj⟩ := Option.isSome_iff_exists.1 hf
  simp only [hj]
  have hp := List.find?_some hj
  have hm := List.mem_range.1 (List.mem_of_find?_eq_some hj)
  simp only [Bool.and_eq_true, beq_iff_eq, bne_iff_ne] at hp
  exact ((hS.iff j i hm hi hp.2 h0).1 hp.1).1
 obtain ⟨φ, hφ⟩ := hφ
 refine ⟨φ, hφ, fun x hx => ?_⟩
 obtain ⟨i, hi, rfl, h0⟩ := (h x).1 hx
 exact List.mem_map.2 ⟨blk b' i, (h' _).2 ⟨i, by rw [hS.len]; exact hi, rfl, (hS.zero i hi).2 h0⟩, hφ i hi h0⟩
theorem Splits.mono (hS : Splits rows n m b b') {c c' : Nat} (h : BCnt b c) (h' : BCnt b' c') : c ≤ c' := by
 obtain ⟨l, hn, hl, rfl⟩ := h
 obtain ⟨l', hn', hl', rfl⟩ := h'
 obtain ⟨φ, _, hsub⟩ := coarse_len hS hn hl hl'
 have := nodup_len l (l'.map φ) hn hsub
 simpa using this
/-- As many blocks as ahead: none was split. -/
theorem Splits.stable (hS : Splits rows n m b b') {c : Nat} (h : BCnt b c) (h' : BCnt b' c) {i j : Nat} (hi : i < b.length) (hj : j < b.length) (h0 : blk b i ≠ 0) (he : blk b i = blk b j) : blk b' i = blk b' j := by
 obtain ⟨l, hn, hl, rfl⟩ := h
 obtain ⟨l', hn', hl', hlen⟩ := h'
 obtain ⟨φ, hφ, hsub⟩ := coarse_len hS hn hl hl'
 have hj0 : blk b j ≠ 0 := he ▸ h0
 apply Classical.byContradiction
 intro hne
 have hi' : blk b' i ∈ l' := (hl' _).2 ⟨i, by rw [hS.len]; exact hi, rfl, (hS.zero i hi).2 h0⟩
 have hj' : blk b' j ∈ l' := (hl' _).2 ⟨j, by rw [hS.len]; exact hj, rfl, (hS.zero j hj).2 hj0⟩
 have hlt := nodup_len l ((l'.erase (blk b' i)).map φ) hn fun x hx => by
  obtain ⟨y, hy, rfl⟩ := List.mem_map.1 (hsub x hx)
  by_cases e : y = blk b' i
  ·subst e
   rw [hφ i hi h0, he, ← hφ j hj hj0]
   exact List.mem_map.2 ⟨blk b' j, (List.mem_erase_of_ne (Ne.symm hne)).2 hj', rfl⟩
  ·exact List.mem_map.2 ⟨y, (List.mem_erase_of_ne e).2 hy, rfl⟩
 rw [List.length_map, List.length_erase_of_mem hi'] at hlt
 have := List.length_pos_of_mem hi'
 omega
theorem blk_lt {b : List Nat} {i : Nat} (h : blk b i ≠ 0) : i < b.length := by
 rcases Nat.lt_or_ge i b.length with h' | h'
 ·exact h'
 ·unfold blk at h
  rw [List.getD_eq_getElem?_getD, List.getElem?_eq_none h'] at h
  exact absurd rfl h
theorem reads_step {s : PSet} (c : UInt8) (t : List UInt8) : M.reads s (c :: t) = if M.step s c.toNat = PSet.zero then false else M.reads (M.step s c.toNat) t := rfl
/-- Of sets from which the same is read, the same is read behind a byte. -/
theorem same_step {s t : PSet} {c : UInt8} (h : M.reads s = M.reads t) (hs : M.step s c.toNat ≠ PSet.zero) (ht : M.step t c.toNat ≠ PSet.zero) : M.reads (M.step s c.toNat) = M.reads (M.step t c.toNat) := by
 funext x
 have := congrFun h (c :: x)
 rw [reads_step, reads_step, if_neg hs, if_neg ht] at this
 exact this
theorem dead_step {s t : PSet} {c : UInt8} (h : M.reads s = M.reads t) (hs : M.step s c.toNat = PSet.zero) (ht : M.step t c.toNat ≠ PSet.zero) : ¬ M.live (M.step t c.toNat) := by
 rintro ⟨x, hx⟩
 have := congrFun h (c :: x)
 rw [reads_step, reads_step, if_pos hs, if_neg ht, hx] at this
 cases this
theorem kind_byte {k d : Nat} (hk : M.kinds[k]? = some d) : ∃ c : UInt8, c.toNat = d := ⟨UInt8.ofNat d, by
 have := kinds_lt M 256 (List.mem_of_getElem? hk)
 simp; omega⟩
/-- Where the kinds lead from sets from which the same is read. -/
theorem BlkOk.dest_same (h : TabOk M M.kinds sets rows) (hall : rows.length = sets.length) (hb : BlkOk M sets rows b) {i j : Nat} {s t : PSet} (hs : sets[i]? = some s) (ht : sets[j]? = some t) (he : M.reads s = M.reads t) {k : Nat} (hk : k < M.kinds.length) : dest rows b i k = dest rows b j k := by
 obtain ⟨d, hd⟩ : ∃ d, M.kinds[k]? = some d := ⟨_, List.getElem?_eq_getElem hk⟩
 obtain ⟨c, hc⟩ := kind_byte hd
 have dead : ∀ (s t : PSet) (i j x : Nat), sets[i]? = some s → sets[j]? = some t → M.reads s = M.reads t → M.step s c.toNat = PSet.zero → M.step t c.toNat ≠ PSet.zero → sets[x]? = some (M.step t c.toNat) → blk b x = 0 := fun s t i j x _ _ he' hz hz' hx => by
  apply Classical.byContradiction
  intro h0
  exact dead_step he' hz hz' ((live_iff h hall hx).1 ((hb.live x (List.getElem?_eq_some_iff.1 hx).1).1 h0))
 unfold dest
 rcases goes_some h hall hs hd with ⟨a1, a2⟩ | ⟨a1, x, a2, a3⟩ <;> rcases goes_some h hall ht hd with ⟨b1, b2⟩ | ⟨b1, y, b2, b3⟩
 ·rw [a2, b2]
 ·rw [a2, b2]
  rw [← hc] at a1 b1 b3
  exact (dead s t i j y hs ht he a1 b1 b3).symm
 ·rw [a2, b2]
  rw [← hc] at a1 b1 a3
  exact dead t s j i x ht hs he.symm b1 a1 a3
 ·rw [a2, b2]
  rw [← hc] at a1 b1 a3 b3
  have hsame := same_step he a1 b1
  show blk b x = blk b y
  by_cases h0 : blk b x = 0
  ·apply Classical.byContradiction
   intro hne
   have hy0 : blk b y ≠ 0 := fun e => hne (h0.trans e.symm)
   exact hne (hb.same y x _ _ b3 a3 hy0 hsame.symm).symm
  ·exact hb.same x y _ _ a3 b3 h0 hsame
theorem BlkOk.round (h : TabOk M M.kinds sets rows) (hall : rows.length = sets.length) (hb : BlkOk M sets rows b) (hS : Splits rows n M.kinds.length b b') : BlkOk M sets rows b' where
 len := hS.len.trans hb.len
 live := fun i hi => by rw [hS.zero i (by rw [hb.len]; exact hi)]; exact hb.live i hi
 ends := fun i j s t hs ht h0 he => by
  have hi : i < b.length := by rw [hb.len]; exact (List.getElem?_eq_some_iff.1 hs).1
  have hj : j < b.length := by rw [hb.len]; exact (List.getElem?_eq_some_iff.1 ht).1
  have h0' := (hS.zero i hi).1 h0
  have hj0 := (hS.zero j hj).1 (he ▸ h0)
  exact hb.ends i j s t hs ht h0' ((hS.iff i j hi hj h0' hj0).1 he).1
 same := fun i j s t hs ht h0 he => by
  have hi : i < b.length := by rw [hb.len]; exact (List.getElem?_eq_some_iff.1 hs).1
  have hj : j < b.length := by rw [hb.len]; exact (List.getElem?_eq_some_iff.1 ht).1
  have h0' := (hS.zero i hi).1 h0
  have hsame := hb.same i j s t hs ht h0' he
  exact (hS.iff i j hi hj h0' (hsame ▸ h0')).2 ⟨hsame, fun k hk => hb.dest_same h hall hs ht he hk⟩
/-- Blocks that no round splits: of one block is read the same. -/
theorem BlkOk.fine (h : TabOk M M.kinds sets rows) (hall : rows.length = sets.length) (hb : BlkOk M sets rows b) (hst : ∀ i j, i < b.length → j < b.length → blk b i ≠ 0 → blk b i = blk b j → ∀ k, k < M.kinds.length → dest rows b i k = dest rows b j k) :
  ∀ (x : List UInt8) (i j : Nat) (s t : PSet), sets[i]? = some s → sets[j]? = some t → blk b i ≠ 0 → blk b i = blk b j → M.reads s x = M.reads t x
 | [], i, j, s, t, hs, ht, h0, he => hb.ends i j s t hs ht h0 he
 | c :: x, i, j, s, t, hs, ht, h0, he => by
  have hi := blk_lt h0
  have hj := blk_lt (he ▸ h0)
  obtain ⟨k, d, hk, hd⟩ := byte_kind M c
  have hdest := hst i j hi hj h0 he k (List.getElem?_eq_some_iff.1 hk).1
  rw [reads_step, reads_step, hd s, hd t]
  have dead : ∀ y u, sets[y]? = some u → blk b y = 0 → M.reads u x = false := fun y u hy h0' => by
   cases hr : M.reads u x with
   | false => rfl
   | true => exact absurd h0' ((hb.live y (List.getElem?_eq_some_iff.1 hy).1).2 ((live_iff h hall hy).2 ⟨x, hr⟩))
  unfold dest at hdest
  rcases goes_some h hall hs hk with ⟨a1, a2⟩ | ⟨a1, y, a2, a3⟩ <;> rcases goes_some h hall ht hk with ⟨b1, b2⟩ | ⟨b1, z, b2, b3⟩
  ·rw [if_pos a1, if_pos b1]
  ·rw [a2, b2] at hdest
   rw [if_pos a1, if_neg b1]
   exact (dead z _ b3 hdest.symm).symm
  ·rw [a2, b2] at hdest
   rw [if_neg a1, if_pos b1]
   exact dead y _ a3 hdest
  ·rw [a2, b2] at hdest
   rw [if_neg a1, if_neg b1]
   have hd' : blk b y = blk b z := hdest
   by_cases hy0 : blk b y = 0
   ·rw [dead y _ a3 hy0, dead z _ b3 (hd' ▸ hy0)]
   ·exact BlkOk.fine h hall hb hst x y z _ _ a3 b3 hy0 hd'
/-- The count of stable blocks is the least number of states. -/
theorem BlkOk.least (h : TabOk M M.kinds sets rows) (hall : rows.length = sets.length) (hb : BlkOk M sets rows b) (hS : Splits rows n M.kinds.length b b') {c : Nat} (h1 : BCnt b c) (h2 : BCnt b' c) : IsLeast M c := by
 have hfine : ∀ i j s t, sets[i]? = some s → sets[j]? = some t → blk b i ≠ 0 → blk b i = blk b j → M.reads s = M.reads t := fun i j s t hs ht h0 he => by
  funext x
  refine BlkOk.fine h hall hb (fun i j hi hj h0 he => ?_) x i j s t hs ht h0 he
  exact ((hS.iff i j hi hj h0 (he ▸ h0)).1 (hS.stable h1 h2 hi hj h0 he)).2
 obtain ⟨l, hn, hl, rfl⟩ := h1
 have hrep : ∀ x ∈ l, ∃ s, ∃ i, sets[i]? = some s ∧ blk b i = x ∧ x ≠ 0 := fun x hx => by
  obtain ⟨i, hi, h3, h4⟩ := (hl x).1 hx
  exact ⟨_, i, List.getElem?_eq_getElem (by rw [← hb.len]; exact hi), h3, h4⟩
 have hmk : ∀ l' : List Nat, l'.Nodup → (∀ x ∈ l', ∃ s, ∃ i, sets[i]? = some s ∧ blk b i = x ∧ x ≠ 0) →
   ∃ reps : List PSet, reps.length = l'.length ∧ (∀ s ∈ reps, ∃ x ∈ l', ∃ i, sets[i]? = some s ∧ blk b i = x ∧ x ≠ 0) ∧ reps.Pairwise (fun a c => M.reads a ≠ M.reads c) ∧ ∀ x ∈ l', ∃ s ∈ reps, ∃ i, sets[i]? = some s ∧ blk b i = x := by
  intro l'
  induction l' with
  | nil => exact fun _ _ => ⟨[], rfl, fun s hs => (by cases hs), .nil, fun x hx => (by cases hx)⟩
  | cons a l' ih =>
   intro hn' hr
   obtain ⟨hna, hn''⟩ := List.nodup_cons.1 hn'
   obtain ⟨reps, r1, r2, r3, r4⟩ := ih hn'' fun x hx => hr x (List.mem_cons_of_mem _ hx)
   obtain ⟨s, i, hs, hi, h0⟩ := hr a List.mem_cons_self
   refine ⟨s :: reps, by simp [r1], fun t ht => ?_, .cons (fun t ht e => ?_) r3, fun x hx => ?_⟩
   ·rcases List.mem_cons.1 ht with rfl | ht
    ·exact ⟨a, List.mem_cons_self, i, hs, hi, h0⟩
    ·obtain ⟨x, hx, h5⟩ := r2 t ht
     exact ⟨x, List.mem_cons_of_mem _ hx, h5⟩
   ·obtain ⟨x, hx, j, hj, hj', hx0⟩ := r2 t ht
    have := hb.same i j s t hs hj (by rw [hi]; exact h0) e
    rw [hi, hj'] at this
    exact hna (this ▸ hx)
   ·rcases List.mem_cons.1 hx with rfl | hx
    ·exact ⟨s, List.mem_cons_self, i, hs, hi⟩
    ·obtain ⟨t, ht, h5⟩ := r4 x hx
     exact ⟨t, List.mem_cons_of_mem _ ht, h5⟩
 obtain ⟨reps, r1, r2, r3, r4⟩ := hmk l hn hrep
 refine ⟨reps, r1, fun s hs => ?_, r3, fun s hm hlv => ?_⟩
 ·obtain ⟨x, hx, i, hi, hix, h0⟩ := r2 s hs
  exact ⟨h.reach s (List.mem_of_getElem? hi), (live_iff h hall hi).1 ((hb.live i (List.getElem?_eq_some_iff.1 hi).1).1 (by rw [hix]; exact h0))⟩
 ·obtain ⟨i, hi⟩ := List.mem_iff_getElem?.1 (h.all hall hm)
  have hil := (List.getElem?_eq_some_iff.1 hi).1
  have h0 := (hb.live i hil).2 ((live_iff h hall hi).2 hlv)
  obtain ⟨r, hr, j, hj, hjx⟩ := r4 (blk b i) ((hl _).2 ⟨i, by rw [hb.len]; exact hil, rfl, h0⟩)
  exact ⟨r, hr, hfine i j s r hi hj h0 hjx.symm⟩
end
end Go.Proofs.Ts
namespace Go.Proofs.Ts
open Go Go.RowKit
theorem set_law : KeyLaw Tryz.prog 272 PSet.val (fun _ _ => True) where
 now := fun d hd a b => by
  left
  rw [Tryz.underlying272] at hd
  cases hd
  rfl
 und := ⟨_, Tryz.underlying272⟩
 eq := fun w a b _ _ => by
  have h := set_equalIn 9998 a b w
  unfold Op.equal
  simpa [Op.maxDepth] using h
 chk := fun w e a _ => by
  unfold PSet.val PSet.cells
  rw [show (10000 : Nat) = 9999 + 1 from rfl]
  unfold Instr.checkKey
  have hia : ∀ W, (isAgg 249).run Tryz.prog W = .ok false W := fun W => by kernel_rfl
  have hn : ∀ W, (Go.sizeOf 249).run Tryz.prog W = .ok 1 W := fun W => by kernel_rfl
  simp only [Sem.run_bind, run_underlying Tryz.underlying272, Result.andThen_ok, hn]
  simp [go_sem, show List.range' 0 3 = [0, 1, 2] from rfl, Sem.run_bind, hia, hn, Go.part, checkKey_zero Tryz.prog e 9998 249 _ _ Tryz.underlying249 rfl]
 same := fun a => by
  unfold PSet.val PSet.cells
  simp [Instr.sameBits]
theorem int_law : KeyLaw Tryz.prog 3 (fun n : Nat => Value.int .i64 n) (fun _ _ => True) where
 now := fun d hd a b => by
  right
  rw [Tryz.underlying3] at hd
  cases hd
  show (if IntKind.i64 = IntKind.i64 then some (((a : Int)) == (b : Int)) else none) = _
  rw [if_pos rfl]
  congr 1
  rw [Bool.eq_iff_iff]
  simp
  omega
 und := ⟨_, Tryz.underlying3⟩
 eq := fun w a b _ _ => by
  have e : ((a : Int) == (b : Int)) = decide (a = b) := by
   rw [Bool.eq_iff_iff, beq_iff_eq, decide_eq_true_iff]
   omega
  have := run_equalIn_int (P := Tryz.prog) (w := w) 9999 3 .i64 .i64 a b Tryz.underlying3
  rw [e] at this
  unfold Op.equal
  simpa [Op.maxDepth] using this
 chk := fun w e a _ => checkKey_zero _ e 9999 _ _ w Tryz.underlying3 rfl
 same := fun a => by simp [Instr.sameBits]
def signV (s : Nat × Nat) : Value := .agg #[.int .i64 s.1, .int .i64 s.2]
theorem sign_law : KeyLaw Tryz.prog 291 signV (fun _ _ => True) where
 now := fun d hd a b => by
  left
  rw [Tryz.underlying291] at hd
  cases hd
  rfl
 und := ⟨_, Tryz.underlying291⟩
 eq := fun w a b _ _ => by
  obtain ⟨f, s⟩ := a
  obtain ⟨g, t⟩ := b
  unfold signV
  simp [go_sem, Op.equal, Op.maxDepth]
  by_cases h1 : f = g <;> by_cases h2 : s = t <;> simp [h1, h2] <;> omega
 chk := fun w e a _ => by
  unfold signV
  rw [show (10000 : Nat) = 9999 + 1 from rfl]
  unfold Instr.checkKey
  simp [go_sem, checkKey_zero Tryz.prog e 9998 3 _ _ Tryz.underlying3 rfl]
 same := fun a => by
  unfold signV
  simp [Instr.sameBits]
end Go.Proofs.Ts
