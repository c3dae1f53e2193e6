/- Lemmas towards the statement Walked of termsearch: walks of the program's functions and plain laws on lists (TsAllB, TsAppIn, TsPAll, TsPAllB, TsFound, TsWalkedA). Conditions: those that each theorem names. -/
import Derived.Test.YtglafkgakcfahaaGreatDoorWalkedPI
import Derived.Test.YtglafkgakcfahaaGreatDoorWalkedPC
/- The walks of All and of the function that it hands back: its contract as a function that is looped over. -/
set_option linter.unusedVariables false
set_option linter.unusedSimpArgs false
namespace Go.Proofs.Ts
open Go Go.RowKit

theorem all_make (sb : Nat) (w : World) :
    Calls Tryz.prog 36 #[ptrV sb] w fun e w' => e = .returned (.func (.func 51) #[] #[ptrV w.heap.size]) ∧ w' = w.alloc (.cells #[ptrV sb] 23) := by
  have hmf : ∀ (fn : Fn) (first cap : Array Value) (w : World), (Instr.makeFunc fn first cap).run Tryz.prog w = .ok (.func fn first cap) w := fun _ _ _ _ => rfl
  unfold ptrV
  go_enter Tryz.func36, Tryz.ntmps36
  go_wp2
  go_ret
  exact ⟨rfl, rfl⟩

/-- The types whose rows and boxes All's function leans on. -/
def keepsOn (t : TypeId) : Bool := leansOn t || [96, 27, 23, 122].contains t
def KeepA (w w' : World) : Prop := w.heap.size ≤ w'.heap.size ∧ ∀ (k : Nat) cs t r, w.heap[k]? = some (.cells cs t r) → keepsOn t = true → w'.heap[k]? = w.heap[k]?
theorem KeepA.refl (w : World) : KeepA w w := ⟨Nat.le_refl _, fun _ _ _ _ _ _ => rfl⟩
theorem KeepA.trans {a b c : World} (h : KeepA a b) (k : KeepA b c) : KeepA a c := ⟨Nat.le_trans h.1 k.1, fun j cs t r h1 h2 => (k.2 j cs t r ((h.2 j cs t r h1 h2).trans h1) h2).trans (h.2 j cs t r h1 h2)⟩
theorem KeepA.below {w w' : World} (h : Below w.heap.size w w') : KeepA w w' := ⟨h.size, fun k cs t r hk _ => h.block k (lt_of_heap hk)⟩
theorem KeepA.keepT {w w' : World} (h : KeepA w w') : KeepT w w' := ⟨h.1, fun k cs t r hk ht => h.2 k cs t r hk (by unfold keepsOn; rw [ht]; rfl)⟩
theorem KeepA.put {W : World} {k : Nat} {o o' : Obj} (h : W.heap[k]? = some o) (hc : o.isCells = false) : KeepA W (W.putObj k o') := by
  refine ⟨(grownBy_putObj' W k o').size, fun j cs t r hj _ => (grownBy_putObj' W k o').block j (lt_of_heap hj) fun e => ?_⟩
  cases e
  rw [h] at hj
  cases hj
  cases hc
theorem StepsB.below {B : Nat} {w w' : World} (h : Below w.heap.size w w') : StepsB B w w' := ⟨h.os, h.tape, h.output, h.size, fun k o hk _ => (h.block k (lt_of_heap hk)).trans hk⟩
theorem YieldAt.mono {F : Fence} {n : Nat} {P : Program} {l : Nat} {args : Array Value} {W : World} {R R' : Ending → World → Prop} (h : YieldAt F n P l args W R) (hr : ∀ e w, R e w → R' e w) : YieldAt F n P l args W R' := by
  obtain ⟨fn, tmps, assign, body, hy, hR⟩ := h
  exact ⟨fn, tmps, assign, body, hy, hR.mono hr⟩

/-- What All's function finds in memory between two rounds. -/
structure AllAt (nd db sb yb bx l m : Nat) (kn pv : Value) (ps : List Value) (w : World) : Prop where
  seg : w.heap[sb]? = some (segObj nd db pv 0 kn)
  row : w.ownsRow 0 27 1 pv m ps
  bxy : w.heap[yb]? = some (.cells #[.func (.yield l) #[] #[]] 122 (0, 0))
  bxs : w.heap[bx]? = some (.cells #[ptrV sb] 23 (0, 0))
theorem AllAt.keep {nd db sb yb bx l m : Nat} {kn pv : Value} {ps : List Value} {w w' : World} (h : AllAt nd db sb yb bx l m kn pv ps w) (hk : KeepA w w') : AllAt nd db sb yb bx l m kn pv ps w' :=
  ⟨(hk.2 _ _ _ _ h.seg (by decide)).trans h.seg, ownsRow_typed h.row fun k cs r hk' => hk.2 k cs _ r hk' (by decide), (hk.2 _ _ _ _ h.bxy (by decide)).trans h.bxy, (hk.2 _ _ _ _ h.bxs (by decide)).trans h.bxs⟩
theorem AllAt.steps {nd db sb yb bx l m B : Nat} {kn pv : Value} {ps : List Value} {w w' : World} (h : AllAt nd db sb yb bx l m kn pv ps w) (hs : StepsB B w w') : AllAt nd db sb yb bx l m kn pv ps w' := by
  have go : ∀ (k : Nat) cs t r, w.heap[k]? = some (.cells cs t r) → t ≠ 5 → w'.heap[k]? = some (.cells cs t r) := fun k cs t r hk ht => hs.2.2.2.2 k _ hk (.inr fun cs' r' e => by cases e; exact ht rfl)
  exact ⟨go _ _ _ _ h.seg (by decide), ownsRow_typed h.row fun k cs r hk => (go _ _ _ _ hk (by decide)).trans hk.symm, go _ _ _ _ h.bxy (by decide), go _ _ _ _ h.bxs (by decide)⟩

def encM (p : List UInt8 × Nat) : Array Value := #[.agg #[strV p.1, intV p.2]]
def allHits (T : List (List UInt8)) : List (List UInt8 × Nat) := hits (fun _ => true) T 0
theorem matchesOf_snoc (D : List (List (List UInt8))) (ys : List (List UInt8 × Nat)) (p : List UInt8 × Nat) : matchesOf D (ys ++ [p]) = matchesOf D ys ++ [(p.1, (postsOf D p.1).length)] := by simp [matchesOf]
theorem matchesOf_length (D : List (List (List UInt8))) (ys : List (List UInt8 × Nat)) : (matchesOf D ys).length = ys.length := by simp [matchesOf]

set_option maxRecDepth 100000 in
set_option maxHeartbeats 2000000 in
theorem all1_seq (n sb bx l : Nat) (D : List (List (List UInt8))) (kn : Value) (db : Nat) (R : Nat → Prop) (Λ : Nat → List Word) (ρ : Nat → Nat) (Dd : List DS) (pv : Value) (ps : List Value) (w1 : World)
    (hat : SegAt w1 sb D kn db R Λ ρ Dd pv ps) (hbx : w1.heap[bx]? = some (.cells #[ptrV sb] 23 (0, 0))) :
    SeqT Fence.wide n Tryz.prog 51 #[ptrV bx] encM KeepA (fun xs => xs = matchesOf D (allHits (Λ 0))) (fun zs => zs <+: matchesOf D (allHits (Λ 0))) (allHits (Λ 0)).length w1 l := by
  intro J Jx hJ hY hj0
  have hmf : ∀ (fn : Fn) (first cap : Array Value) (w : World), (Instr.makeFunc fn first cap).run Tryz.prog w = .ok (.func fn first cap) w := fun _ _ _ _ => rfl
  have HAT := Lib.hid hat
  have HJ := Lib.hid hJ
  have HY := Lib.hid hY
  have HJ0 := Lib.hid hj0
  have HBX := Lib.hid hbx
  have hbxl := lt_of_heap hbx
  have hsbl := lt_of_heap hat.1
  clear hat hJ hY hj0 hbx
  refine callsIn_wide.2 ?_
  show Calls Tryz.prog 51 #[.func (.yield l) #[] #[], ptrV bx] w1 _
  unfold ptrV
  go_enter Tryz.func51, Tryz.ntmps51
  go_wp2_with fail
  have hbl : Below w1.heap.size w1 (w1.alloc (.cells #[.func (.yield l) #[] #[]] 122)) := (Below.refl _ _).alloc (Nat.le_refl _) _
  have hyb : (w1.alloc (.cells #[.func (.yield l) #[] #[]] 122)).heap[w1.heap.size]? = some (.cells #[.func (.yield l) #[] #[]] 122 (0, 0)) := heap_alloc_new _ _
  have hs2 : (w1.alloc (.cells #[.func (.yield l) #[] #[]] 122)).heap.size = w1.heap.size + 1 := by simp
  generalize (w1.alloc (.cells #[.func (.yield l) #[] #[]] 122)) = w2 at *
  have c1 : w2.cell? ⟨bx, 0, none⟩ = some (.pointer (some ⟨sb, 0, none⟩)) := cell_block ((hbl.block _ hbxl).trans HBX.out)
  have c2 : w2.cell? ⟨sb, 1, none⟩ = some (.pointer (some ⟨db, 0, none⟩)) := cell_block ((hbl.block _ hsbl).trans HAT.out.1)
  have HBL := Lib.hid hbl
  have HYB := Lib.hid hyb
  clear hbl hyb
  refine wp_region_ord [(0, false), (2, false), (3, false), (4, false), (5, false), (6, false), (1, true), (7, true)]
    (fun w' => w'.cell? ⟨bx, 0, none⟩ = some (.pointer (some ⟨sb, 0, none⟩)) ∧ w'.cell? ⟨sb, 1, none⟩ = some (.pointer (some ⟨db, 0, none⟩))) (by kernel_rfl) (by kernel_rfl) ⟨c1, c2⟩ ?_
  iterate 6 (
    refine wpOrd_quiet ?_ rfl rfl (fun w' hS => ?_) ?_
    rotate_left
    · obtain ⟨f0, f1⟩ := hS
      go_simp
      first | rfl | done
    simp only [put_lit, List.set_cons_succ, List.set_cons_zero])
  refine wpOrd_loud rfl rfl (by decide) (fun K hK => ?_)
  go_simp
  refine (over_make _ _ ⟨_, _, rfl⟩).mono ?_
  rintro e w' ⟨rfl, rfl⟩
  have e1 : (w2.drew.alloc (.cells #[.iface 126 (.string ⟨#[]⟩)] 206)).cell? ⟨bx, 0, none⟩ = some (.pointer (some ⟨sb, 0, none⟩)) := (World.cell?_alloc_lt w2.drew _ _ (show bx < w2.drew.heap.size from lt_of_cell c1)).trans c1
  have e2 : (w2.drew.alloc (.cells #[.iface 126 (.string ⟨#[]⟩)] 206)).cell? ⟨sb, 1, none⟩ = some (.pointer (some ⟨db, 0, none⟩)) := (World.cell?_alloc_lt w2.drew _ _ (show sb < w2.drew.heap.size from lt_of_cell c2)).trans c2
  refine hK _ _ ⟨e1, e2⟩ ?_
  clear hK K
  have hbl3 : Below w1.heap.size w1 (w2.drew.alloc (.cells #[.iface 126 (.string ⟨#[]⟩)] 206)) := HBL.out.drew.alloc (by simp; omega) _
  have hab : (w2.drew.alloc (.cells #[.iface 126 (.string ⟨#[]⟩)] 206)).heap[w2.heap.size]? = some (.cells #[.iface 126 (.string ⟨#[]⟩)] 206 (0, 0)) := heap_alloc_new w2.drew _
  have hyb3 : (w2.drew.alloc (.cells #[.iface 126 (.string ⟨#[]⟩)] 206)).heap[w1.heap.size]? = some (.cells #[.func (.yield l) #[] #[]] 122 (0, 0)) := (Below.heap_alloc w2.drew _ _ (by show w1.heap.size < w2.heap.size; omega)).trans HYB.out
  have hd2 : w2.drew.heap.size = w2.heap.size := rfl
  rw [hd2]
  clear c1 c2 e1 e2 hd2
  generalize (w2.drew.alloc (.cells #[.iface 126 (.string ⟨#[]⟩)] 206)) = w3 at *
  have HB3 := Lib.hid hbl3
  refine wpOrd_loud rfl rfl (by decide) (fun K hK => ?_)
  unfold ptrV
  go_simp
  have hsz0 : ByteArray.size ⟨#[]⟩ = 0 := rfl
  have hA := begins_aut ⟨#[]⟩ (by rw [hsz0]; omega)
  have hacc : accA (beStep ⟨#[]⟩) (exEnds ⟨#[]⟩) 0 = fun _ => true := funext fun u => (begins_reads ⟨#[]⟩ u 0 (Nat.zero_le _)).2 (by simp)
  have hpsv : ∀ (i : Nat) t, (Λ 0)[i]? = some t → ∃ v a cap, ps[i]? = some v ∧ v = .slice a (postsOf D t).length cap := fun i t ht => by
    obtain ⟨_, _, _, _, _, _, h7, h8⟩ := HAT.out
    have hil := (List.getElem?_eq_some_iff.1 ht).1
    have hpl : ps.length = (Λ 0).length := by have := h7.1; omega
    have hpi : ps[i]? = some ps[i] := List.getElem?_eq_getElem (by omega)
    obtain ⟨a, cap, e3⟩ := ownsRow_form (h8 i _ _ hpi ht)
    exact ⟨_, a, cap, hpi, e3⟩
  have hdi := (HAT.out.below hbl3)
  have hall : AllAt D.length db sb w1.heap.size bx l (Λ 0).length kn pv ps w3 := ⟨hdi.1, hdi.2.2.2.2.2.2.1, hyb3, (hbl3.block _ hbxl).trans HBX.out⟩
  have hlen := HAT.out.2.2.2.2.1
  have hrun := over_any hA (begins_start ⟨#[]⟩) (Nat.zero_le _) 53 #[.pointer (some ⟨w1.heap.size, 0, none⟩), .pointer (some ⟨bx, 0, none⟩)] (enters_of Tryz.func53 (by kernel_rfl) rfl) w2.heap.size w3 hdi.2.1 (by omega) hab
    (fun ys W => J (matchesOf D ys) W ∧ AllAt D.length db sb w1.heap.size bx l (Λ 0).length kn pv ps W) (fun ys W => Jx (matchesOf D ys) W ∧ AllAt D.length db sb w1.heap.size bx l (Λ 0).length kn pv ps W)
    (fun ys wa wb h hs => ⟨HJ.out _ _ _ h.1 (hs.less (by have := HB3.out.size; omega)), h.2.steps hs⟩)
    (fun ys t i wa h hp => by
      rw [hacc] at hp
      have hin : (allHits (Λ 0))[ys.length]? = some (t, i) := by
        obtain ⟨r, hr⟩ := hp
        have : allHits (Λ 0) = ys ++ [(t, i)] ++ r := hr.symm
        rw [this]
        simp
      have hmem := hits_mem (List.mem_of_getElem? hin)
      have hti : (Λ 0)[i]? = some t := by have := hmem.2.2; simpa using this
      have hyl : ys.length < (allHits (Λ 0)).length := (List.getElem?_eq_some_iff.1 hin).1
      obtain ⟨v, a, cap, hv, rfl⟩ := hpsv i t hti
      obtain ⟨g, cp, e3, e4⟩ := ownsRow_cell h.2.row hv
      have hpost : PostAt wa pv i (postsOf D t).length := ⟨g, _, cp, a, cap, e3, (List.getElem?_eq_some_iff.1 hti).1, hlen, e4⟩
      refine (all11_any l w1.heap.size bx sb pv t i (postsOf D t).length wa (fun W => ∃ Wm, Below wa.heap.size wa Wm ∧ KeepA Wm W ∧ J (matchesOf D ys ++ [(t, (postsOf D t).length)]) W) (fun W => ∃ Wm, Below wa.heap.size wa Wm ∧ KeepA Wm W ∧ Jx (matchesOf D ys ++ [(t, (postsOf D t).length)]) W) h.2.bxy h.2.bxs (cell_block h.2.seg) hpost (fun W hb => ?_)).mono ?_
      · have hjw : J (matchesOf D ys) W := HJ.out _ _ _ h.1 (StepsB.below hb)
        have := HY.out (matchesOf D ys) (t, (postsOf D t).length) W hjw (by rw [matchesOf_length]; exact hyl)
        refine (YieldAt.depth (m := 2) (this.mono ?_))
        rintro e W' (⟨h1, h2, h3⟩ | ⟨h1, h2, h3⟩)
        · exact .inl ⟨h1, W, hb, h3, h2⟩
        · exact .inr ⟨h1, W, hb, h3, h2⟩
      · rintro e W' (⟨h1, Wm, hb, hk, hj⟩ | ⟨h1, Wm, hb, hk, hj⟩)
        · have hka := (KeepA.below hb).trans hk
          exact ⟨hka.keepT, .inl ⟨h1, by rw [matchesOf_snoc]; exact hj, h.2.keep hka⟩⟩
        · have hka := (KeepA.below hb).trans hk
          exact ⟨hka.keepT, .inr ⟨h1, by rw [matchesOf_snoc]; exact hj, h.2.keep hka⟩⟩)
    ⟨HJ.out _ _ _ HJ0.out (StepsB.below hbl3), hall⟩
  rw [hacc, hs2] at hrun
  unfold ptrV at hrun
  refine hrun.mono ?_
  clear hrun
  rintro e W5 ⟨rfl, hk5, hres⟩
  have hkeep : AllAt D.length db sb w1.heap.size bx l (Λ 0).length kn pv ps W5 := by
    rcases hres with h | ⟨zs, _, h⟩
    · exact h.2
    · exact h.2
  have g1 : W5.cell? ⟨bx, 0, none⟩ = some (.pointer (some ⟨sb, 0, none⟩)) := cell_block hkeep.bxs
  have g2 : W5.cell? ⟨sb, 1, none⟩ = some (.pointer (some ⟨db, 0, none⟩)) := cell_block hkeep.seg
  refine hK _ _ ⟨g1, g2⟩ ?_
  clear hK K
  refine wpOrd_nil ?_
  have HRES := Lib.hid hres
  clear hres hkeep hk5 hall hdi hpsv g1 g2
  go_wp2_with fail
  refine bodyPost_end (results_none rfl _ _ _) rfl ?_
  refine ⟨⟨_, rfl⟩, ?_⟩
  rcases HRES.out with h | ⟨zs, hz, h⟩
  · exact .inl ⟨_, rfl, h.1⟩
  · refine .inr ⟨_, ?_, h.1⟩
    obtain ⟨r, hr⟩ := hz
    have hr' : allHits (Λ 0) = zs ++ r := hr.symm
    rw [hr']
    unfold matchesOf
    rw [List.map_append]
    exact List.prefix_append _ _
end Go.Proofs.Ts
/- append onto a row of one's own, in a fence (a round of a loop over a function). No program of its own. -/
set_option linter.unusedSectionVars false
set_option linter.unusedVariables false
set_option linter.unusedSimpArgs false
namespace Go.Proofs.Ts
open Go Go.RowKit
theorem wpListIn_append_lies {F : Fence} {n' : Nat} {P : Program} {w : World} {ops : Array Oper} {rest : List Oper} {o : Oper} {a : Act} {Q : Exit → Act → World → Prop} (hgd : o.guard = none) (s x : Operand) (t : TypeId)
    (ho : o.op = .call { callee := .builtin .append, args := #[s, x], argTypes := #[t, t] })
    (e : TypeId) (i : TypeInfo) (z : Value) (size bytes : Nat) (ht : P.underlying t = some (.slice e)) (hi : P.info? e = some i) (hz : i.zero = some z)
    (hsize : i.size = size) (hby : i.bytes = bytes) (hzs : z.cells.size = size) (hsz : 0 < size)
    (v : Value) (n : Nat) (xs : List Value) (hs : a.eval s = v) (hown : w.ownsRow 0 e size v n xs)
    (ad : Addr) (m c : Nat) (news : List Value) (hx : a.eval x = .slice (some ad) m c) (hl : news.length = m * size) (hnews : ∀ j u, news[j]? = some u → w.cell? (ad.add j) = some u) (h1 : ∀ u ∈ news, u.oneCell' = true)
    (hm : 0 < m) (h63 : n + m ≤ maxLen) (hbytes : (n + m) * bytes ≤ 140737488355328)
    (h : ∀ v' w', w'.ownsRow 0 e size v' (n + m) (xs ++ news) → w.grownBy w' v.ownBlock → Lies w w' v v' → wpListIn F n' P ops Q rest (a.put o.dst v') w') : wpListIn F n' P ops Q (o :: rest) a w := by
  obtain ⟨v', w', hr, h2, h3, h4⟩ := run_append_lies (P := P) t o.type e i z size bytes ht hi hz hsize hby hzs hsz v n xs hown ad m c news hl hnews h1 hm h63 hbytes
  refine wpListIn_value hgd (fun c e => by rw [ho] at e; cases e) (by unfold Oper.about; rw [ho]; simp [resolve, Target.leads]) (v := v') (w1 := w') ?_ (h v' w' h2 h3 h4)
  unfold execOp
  simp only [ho, resolve, invoke, builtin, Sem.run_bind, Sem.run_pure, Result.andThen_ok, List.map_toArray, List.map_cons, List.map_nil, hs, hx, hr]
end Go.Proofs.Ts
/- The walk of plain.All: a loop over a segment's terms, at the first one another loop over them. -/
set_option linter.unusedVariables false
set_option linter.unusedSimpArgs false
namespace Go.Proofs.Ts
open Go Go.RowKit Go.Shelf
attribute [local go_sem] Oper.semAt_some

def allFn (bx : Nat) : Value := .func (.func 51) #[] #[.pointer (some ⟨bx, 0, none⟩)]
/-- The memory of plain.All between two rounds: w: where it began; zs: what has come. -/
structure PA (w : World) (sb lf bx wb lb ib left : Nat) (cnt : Nat) (zs : List (List UInt8 × Nat)) (W : World) : Prop where
  lst : ∃ v, W.heap[lb]? = some (.cells #[v] 47 (0, 0)) ∧ W.ownsRow 0 53 2 v zs.length (foundCells zs) ∧ Past (ib + 1) v
  cnt : W.heap[ib]? = some (.cells #[.int .i64 cnt] 3 (0, 0))
  lft : W.heap[lf]? = some (.cells #[.int .i64 left] 3 (0, 0))
  bxs : W.heap[bx]? = some (.cells #[ptrV sb] 23 (0, 0))
  wlk : W.heap[wb]? = some (.cells #[allFn bx] 80 (0, 0))
  below : Below w.heap.size w W
section
variable {w : World} {sb lf bx wb lb ib left cnt : Nat} {zs : List (List UInt8 × Nat)} {W W' : World}
theorem PA.kept (h : PA w sb lf bx wb lb ib left cnt zs W) (hb : Below w.heap.size w W') (hk : ∀ (k : Nat) cs t r, W.heap[k]? = some (.cells cs t r) → t ≠ 5 → W'.heap[k]? = some (.cells cs t r)) : PA w sb lf bx wb lb ib left cnt zs W' := by
  obtain ⟨v, h1, h2, h3⟩ := h.lst
  exact ⟨⟨v, hk _ _ _ _ h1 (by decide), ownsRow_typed h2 fun k cs r hc => (hk _ _ _ _ hc (by decide)).trans hc.symm, h3⟩, hk _ _ _ _ h.cnt (by decide), hk _ _ _ _ h.lft (by decide), hk _ _ _ _ h.bxs (by decide), hk _ _ _ _ h.wlk (by decide), hb⟩
theorem PA.steps {B : Nat} (h : PA w sb lf bx wb lb ib left cnt zs W) (hs : StepsB B W W') (hB : w.heap.size ≤ B) : PA w sb lf bx wb lb ib left cnt zs W' := by
  refine h.kept ⟨hs.1.trans h.below.os, hs.2.1.trans h.below.tape, hs.2.2.1.trans h.below.output, Nat.le_trans h.below.size hs.2.2.2.1, fun k hk => ?_⟩ fun k cs t r hk ht => hs.2.2.2.2 k _ hk (.inr fun cs' r' e => by cases e; exact ht rfl)
  have hl : k < W.heap.size := Nat.lt_of_lt_of_le hk h.below.size
  rw [hs.2.2.2.2 k W.heap[k] (Array.getElem?_eq_getElem hl) (.inl (by omega)), ← Array.getElem?_eq_getElem hl]
  exact h.below.block k hk
theorem PA.put {l : Nat} {r : Loop} {o' : Obj} (h : PA w sb lf bx wb lb ib left cnt zs W) (hl : W.heap[l]? = some (.loop r)) (hlw : w.heap.size ≤ l) : PA w sb lf bx wb lb ib left cnt zs (W.putObj l o') := by
  have hg := grownBy_putObj' W l o'
  refine h.kept (h.below.grown hg h.below.size fun k e => by cases e; exact hlw) fun k cs t r' hk _ => (hg.block k (lt_of_heap hk) fun e => ?_).trans hk
  cases e
  rw [hl] at hk
  cases hk
theorem PA.alloc (h : PA w sb lf bx wb lb ib left cnt zs W) (o : Obj) : PA w sb lf bx wb lb ib left cnt zs (W.alloc o) :=
  h.kept (h.below.alloc h.below.size _) fun k cs t r hk _ => (Below.heap_alloc W o k (lt_of_heap hk)).trans hk
/-- One more has come. -/
theorem PA.push (h : PA w sb lf bx wb lb ib left cnt zs W) {v v4 : Value} {W4 : World} {x : List UInt8 × Nat} (hv : W.heap[lb]? = some (.cells #[v] 47 (0, 0))) (hm : Moves W v W4 v4) (hr : W4.ownsRow 0 53 2 v4 (zs.length + 1) (foundCells zs ++ [strV x.1, intV x.2]))
    (hlb : w.heap.size ≤ lb) (hib : w.heap.size ≤ ib) (hil : ib < W.heap.size) : PA w sb lf bx wb lb ib left cnt (zs ++ [x]) (W4.setCell ⟨lb, 0, none⟩ v4) ∧ KeepA W (W4.setCell ⟨lb, 0, none⟩ v4) ∧ ∀ (k : Nat) o, W.heap[k]? = some o → o.isCells = false → (W4.setCell ⟨lb, 0, none⟩ v4).heap[k]? = some o := by
  obtain ⟨u, h1, h2, h3⟩ := h.lst
  obtain rfl : u = v := by rw [h1] at hv; cases hv; rfl
  have hmb : ∀ (k : Nat) cs t r, W.heap[k]? = some (.cells cs t r) → t ≠ 53 → W4.heap[k]? = some (.cells cs t r) := fun k cs t r hk ht => (hm.block (lt_of_heap hk) fun e => by
    obtain ⟨cur, hcur⟩ := ownsRow_cells4 h2 e
    rw [hk] at hcur
    cases hcur
    exact ht rfl).trans hk
  have h41 := hmb _ _ _ _ h1 (by decide)
  have ho : ∀ (k : Nat) cs t r, W.heap[k]? = some (.cells cs t r) → t ≠ 53 → k ≠ lb → (W4.setCell ⟨lb, 0, none⟩ v4).heap[k]? = some (.cells cs t r) := fun k cs t r hk ht hne => (Below.heap_setCell W4 _ _ k hne).trans (hmb k cs t r hk ht)
  have hne : ∀ (k : Nat) cs t r, W.heap[k]? = some (.cells cs t r) → t ≠ 47 → k ≠ lb := fun k cs t r hk ht e => by
    rw [e, h1] at hk
    cases hk
    exact ht rfl
  have hp4 : Past (ib + 1) v4 := hm.past h3 (by omega)
  have hl4 : ∀ k, v4.ownBlock = some k → k ≠ lb := fun k e e' => by
    have h5 := (hr.lt k e).2
    obtain ⟨cur, hcur⟩ := ownsRow_cells4 hr e
    rw [e', h41] at hcur
    cases hcur
  refine ⟨⟨⟨v4, heap_setCell_same W4 lb 0 _ _ _ h41, ?_, hp4⟩, ho _ _ _ _ h.cnt (by decide) (hne _ _ _ _ h.cnt (by decide)), ho _ _ _ _ h.lft (by decide) (hne _ _ _ _ h.lft (by decide)), ho _ _ _ _ h.bxs (by decide) (hne _ _ _ _ h.bxs (by decide)), ho _ _ _ _ h.wlk (by decide) (hne _ _ _ _ h.wlk (by decide)), ?_⟩, ⟨by have := hm.size; simpa using this, fun k cs t r hk ht => ?_⟩, fun k o hk hc => ?_⟩
  · rw [foundCells_snoc, List.length_append, List.length_singleton]
    exact ownsRow_block hr fun k e => Below.heap_setCell W4 _ _ k (hl4 k e)
  · exact (hm.below (B := w.heap.size) (fun k e => by have := h3 k e; omega) h.below h.below.size).setCell (p := ⟨lb, 0, none⟩) hlb _
  · have h6 : t ≠ 53 := fun e => by rw [e] at ht; revert ht; decide
    have h7 : t ≠ 47 := fun e => by rw [e] at ht; revert ht; decide
    exact (ho _ _ _ _ hk h6 (hne _ _ _ _ hk h7)).trans hk.symm
  · have hk1 : k ≠ lb := fun e => by
      rw [e, h1] at hk
      cases hk
      cases hc
    rw [Below.heap_setCell W4 _ _ k hk1]
    refine (hm.block (lt_of_heap hk) fun e => ?_).trans hk
    obtain ⟨cur, hcur⟩ := ownsRow_cells4 h2 e
    rw [hk] at hcur
    cases hcur
    cases hc
/-- The count turns. -/
theorem PA.count (h : PA w sb lf bx wb lb ib left cnt zs W) (hib : w.heap.size ≤ ib) (hf : lf ≠ ib) (c : Nat) : PA w sb lf bx wb lb ib left c zs (W.setCell ⟨ib, 0, none⟩ (.int .i64 c)) ∧ KeepA W (W.setCell ⟨ib, 0, none⟩ (.int .i64 c)) ∧ ∀ (k : Nat) o, W.heap[k]? = some o → o.isCells = false → (W.setCell ⟨ib, 0, none⟩ (.int .i64 c)).heap[k]? = some o := by
  obtain ⟨v, h1, h2, h3⟩ := h.lst
  have ho : ∀ (k : Nat) cs t r, W.heap[k]? = some (.cells cs t r) → k ≠ ib → (W.setCell ⟨ib, 0, none⟩ (.int .i64 c)).heap[k]? = some (.cells cs t r) := fun k cs t r hk hne => (Below.heap_setCell W _ _ k hne).trans hk
  have hne : ∀ (k : Nat) cs t r, W.heap[k]? = some (.cells cs t r) → t ≠ 3 → k ≠ ib := fun k cs t r hk ht e => by
    have := h.cnt
    rw [← e, hk] at this
    cases this
    exact ht rfl
  refine ⟨⟨⟨v, ho _ _ _ _ h1 (hne _ _ _ _ h1 (by decide)), ownsRow_typed h2 fun k cs r hk => (ho _ _ _ _ hk (hne _ _ _ _ hk (by decide))).trans hk.symm, h3⟩, heap_setCell_same W ib 0 _ _ _ h.cnt, ho _ _ _ _ h.lft hf, ho _ _ _ _ h.bxs (hne _ _ _ _ h.bxs (by decide)), ho _ _ _ _ h.wlk (hne _ _ _ _ h.wlk (by decide)), h.below.setCell (p := ⟨ib, 0, none⟩) hib _⟩, ⟨by simp, fun k cs t r hk ht => ?_⟩, fun k o hk hc => ?_⟩
  · have h7 : t ≠ 3 := fun e => by rw [e] at ht; revert ht; decide
    exact (ho _ _ _ _ hk (hne _ _ _ _ hk h7)).trans hk.symm
  · refine (Below.heap_setCell W _ _ k fun e => ?_).trans hk
    simp only at e
    have := h.cnt
    rw [← e, hk] at this
    cases this
    cases hc
end
end Go.Proofs.Ts
/- The walk of plain.All. -/
set_option linter.unusedVariables false
set_option linter.unusedSimpArgs false
namespace Go.Proofs.Ts
open Go Go.RowKit Go.Shelf
attribute [local go_sem] Oper.semAt_some

theorem allHits_length (T : List (List UInt8)) : (allHits T).length = T.length := by
  unfold allHits hits
  rw [List.filter_eq_self.2 (fun _ _ => rfl)]
  simp
/-- How many of n are told, where the walk is left behind so many (0: never). -/
def takeN (left n : Nat) : Nat := if left = 0 then n else min left n
def paF (sb lf bx wb lb ib left : Nat) (m x : Value) : List Value :=
  [.pointer (some ⟨sb, 0, none⟩), .int .i64 left, undef, .pointer (some ⟨lf, 0, none⟩), .slice none 0 0, .int .i64 0, .pointer (some ⟨wb, 0, none⟩), .pointer (some ⟨lb, 0, none⟩), .pointer (some ⟨ib, 0, none⟩), m,
    .pointer (some ⟨sb, 0, none⟩), allFn bx, allFn bx, .bool false, allFn bx, x] ++ List.replicate 17 undef
/-- The world in which the loop begins. -/
def paStart (w : World) (sb left : Nat) : World :=
  ((((w.alloc (.cells #[.int .i64 left] 3)).alloc (.cells #[.pointer (some ⟨sb, 0, none⟩)] 23)).alloc (.cells #[allFn (w.heap.size + 1)] 80)).alloc (.cells #[.slice none 0 0] 47)).alloc (.cells #[.int .i64 0] 3)
theorem paStart_size (w : World) (sb left : Nat) : (paStart w sb left).heap.size = w.heap.size + 1 + 1 + 1 + 1 + 1 := by unfold paStart; simp
theorem paStart_pa (w : World) (sb left : Nat) : PA w sb w.heap.size (w.heap.size + 1) (w.heap.size + 1 + 1) (w.heap.size + 1 + 1 + 1) (w.heap.size + 1 + 1 + 1 + 1) left 0 [] (paStart w sb left) := by
  refine ⟨⟨.slice none 0 0, ?_, World.ownsRow_nil _ _ _ _, (fun k e => by cases e)⟩, ?_, ?_, ?_, ?_, ?_⟩
  · unfold paStart
    rw [Below.heap_alloc _ _ _ (by simp)]
    have := heap_alloc_new (((w.alloc (.cells #[.int .i64 left] 3)).alloc (.cells #[.pointer (some ⟨sb, 0, none⟩)] 23)).alloc (.cells #[allFn (w.heap.size + 1)] 80)) (.cells #[.slice none 0 0] 47)
    simpa using this
  · unfold paStart
    have := heap_alloc_new ((((w.alloc (.cells #[.int .i64 left] 3)).alloc (.cells #[.pointer (some ⟨sb, 0, none⟩)] 23)).alloc (.cells #[allFn (w.heap.size + 1)] 80)).alloc (.cells #[.slice none 0 0] 47)) (.cells #[.int .i64 0] 3)
    simpa using this
  · unfold paStart
    rw [Below.heap_alloc _ _ _ (by simp <;> omega), Below.heap_alloc _ _ _ (by simp <;> omega), Below.heap_alloc _ _ _ (by simp <;> omega), Below.heap_alloc _ _ _ (by simp)]
    exact heap_alloc_new w _
  · unfold paStart
    rw [Below.heap_alloc _ _ _ (by simp <;> omega), Below.heap_alloc _ _ _ (by simp <;> omega), Below.heap_alloc _ _ _ (by simp)]
    have := heap_alloc_new (w.alloc (.cells #[.int .i64 left] 3)) (.cells #[.pointer (some ⟨sb, 0, none⟩)] 23)
    unfold ptrV
    simpa using this
  · unfold paStart
    rw [Below.heap_alloc _ _ _ (by simp <;> omega), Below.heap_alloc _ _ _ (by simp)]
    have := heap_alloc_new ((w.alloc (.cells #[.int .i64 left] 3)).alloc (.cells #[.pointer (some ⟨sb, 0, none⟩)] 23)) (.cells #[allFn (w.heap.size + 1)] 80)
    simpa using this
  · unfold paStart
    exact (((((Below.refl _ w).alloc (Nat.le_refl _) _).alloc (by simp) _).alloc (by simp <;> omega) _).alloc (by simp <;> omega) _).alloc (by simp <;> omega) _

set_option maxRecDepth 100000 in
set_option maxHeartbeats 4000000 in
theorem plainAll_any (sb left : Nat) (D : List (List (List UInt8))) (T : List (List UInt8)) (B : Nat) (w : World) (hseg : SegT B w sb D T) (hleft : left ≤ 1000000) :
    Calls Tryz.prog 24 #[ptrV sb, .int .i64 left] w fun e w' => ∃ ov, e = .returned (.tuple #[ov, .int .i64 T.length]) ∧ Below w.heap.size w w' ∧
      w'.ownsRow 0 53 2 ov (takeN left T.length) (foundCells ((matchesOf D (allHits T)).take (takeN left T.length))) := by
  obtain ⟨hsb, kn, hkn, db, R, Λ, ρ, Dd, pv, ps, rfl, hat⟩ := hseg
  have hmf : ∀ (fn : Fn) (first cap : Array Value) (w : World), (Instr.makeFunc fn first cap).run Tryz.prog w = .ok (.func fn first cap) w := fun _ _ _ _ => rfl
  have hbe : ∀ (cap : Array Value) (W : World), (binOp .eql 80 (.func (.func 51) #[] cap) .nilFunc).run Tryz.prog W = .ok (.bool false) W := fun cap W => by kernel_rfl
  have HAT := Lib.hid hat
  have hlen := hat.2.2.2.2.1
  clear hat hkn
  refine (callsIn_wide (n := 5)).1 ?_
  refine callsIn_of_wp_marks Tryz.func24 rfl trivial ?_ rfl
  simp only [Tryz.ntmps24, List.size_toArray, List.length_cons, List.length_nil, Nat.reduceAdd, Nat.reduceSub, Array.replicate_succ, Array.replicate_zero, List.push_toArray, List.append_toArray, List.nil_append, List.cons_append]
  refine wpIn_wide.2 ?_
  unfold ptrV
  go_wp2_with fail
  have ham := all_make sb (w.alloc (.cells #[.int .i64 left] 3))
  unfold ptrV at ham
  refine ham.mono ?_
  clear ham
  rintro e w' ⟨rfl, rfl⟩
  go_wp2_with fail
  clear hbe hmf
  have hpa := paStart_pa w sb left
  have hsz := paStart_size w sb left
  have hW : (((((w.alloc (.cells #[.int .i64 left] 3)).alloc (.cells #[.pointer (some ⟨sb, 0, none⟩)] 23)).alloc (.cells #[.func (.func 51) #[] #[.pointer (some ⟨w.heap.size + 1, 0, none⟩)]] 80)).alloc (.cells #[.slice none 0 0] 47)).alloc (.cells #[.int .i64 0] 3)) = paStart w sb left := rfl
  rw [hW]
  clear hW
  generalize paStart w sb left = W0 at *
  obtain ⟨bx, hbx⟩ : ∃ bx, bx = w.heap.size + 1 := ⟨_, rfl⟩
  rw [← hbx] at hpa hsz ⊢
  obtain ⟨wb, hwb⟩ : ∃ wb, wb = bx + 1 := ⟨_, rfl⟩
  rw [← hwb] at hpa hsz ⊢
  obtain ⟨lb, hlb⟩ : ∃ lb, lb = wb + 1 := ⟨_, rfl⟩
  rw [← hlb] at hpa hsz ⊢
  obtain ⟨ib, hib⟩ : ∃ ib, ib = lb + 1 := ⟨_, rfl⟩
  rw [← hib] at hpa hsz ⊢
  have HPA := Lib.hid hpa
  have hord : w.heap.size < bx ∧ bx < wb ∧ wb < lb ∧ lb < ib ∧ ib < W0.heap.size := by omega
  clear hpa hsz hbx hwb hlb hib
  obtain ⟨ho1, ho2, ho3, ho4, ho5⟩ := hord
  have hN := allHits_length (Λ 0)
  obtain ⟨ms, hms⟩ : ∃ ms, ms = matchesOf D (allHits (Λ 0)) := ⟨_, rfl⟩
  have hml : ms.length = (Λ 0).length := by rw [hms, matchesOf_length, hN]
  have HMS := Lib.hid hms
  clear hms
  -- the loop's law
  refine wpIn_wide.1 (wpIn_rangeFunc_T (F := Fence.wide) (n := 5) (B := W0.heap.size) (l := W0.heap.size + 1) (dfr := W0.heap.size) (mark := [markD W0.heap.size])
    (w1 := fun fn => (W0.alloc (.deferred (some []))).alloc (.loop _)) (fun fn _ => ⟨run_enterLoop_outer _ _ _ _ _, ?h1, ?h2⟩) (by omega) (by omega) (gf := 51) (lb := #[.pointer (some ⟨bx, 0, none⟩)]) rfl trivial (enters_of Tryz.func51 (by kernel_rfl) rfl)
    (encs := encM) (Kp := KeepA) (S := fun xs => xs = ms) (Sp := fun zs => zs <+: ms) (N := (Λ 0).length) (fun fn _ => ?hseq) (fun h k => h.trans k) (fun W r o' h => KeepA.put h rfl) (fun _ => rfl)
    (fun zs W => PA w sb w.heap.size bx wb lb ib left (if zs = [] then 0 else (Λ 0).length) zs W ∧ W.heap[W0.heap.size]? = some (.deferred (some [])) ∧ zs.length ≤ (Λ 0).length ∧ (left = 0 ∨ zs.length < left))
    (fun c zs W => c = .exit 0 ∧ PA w sb w.heap.size bx wb lb ib left (Λ 0).length zs W ∧ W.heap[W0.heap.size]? = some (.deferred (some [])) ∧ zs.length = left ∧ zs ≠ [])
    ?hI ?hIp ?hIxp (fun fn _ => ?h0) (fun x a' W => ∃ mb, a' = { tmps := (paF sb w.heap.size bx wb lb ib left (.pointer (some ⟨mb, 0, none⟩)) (.agg #[strV x.1, intV x.2])).toArray, defers := [] } ∧ W.heap[mb]? = some (.cells #[strV x.1, intV x.2] 53 (0, 0)) ∧ W0.heap.size ≤ mb)
    ?hAxp ?hassign ?hbody ?hdone ?hstop)
  case h1 =>
    have key : ∀ o : Obj, ((W0.alloc (.deferred (some []))).alloc o).heap[W0.heap.size + 1]? = some o := fun o => by
      have := heap_alloc_new (W0.alloc (.deferred (some []))) o
      rw [World.size_alloc] at this
      exact this
    exact key _
  case h2 => simp <;> omega
  case hseq =>
    have key : ∀ o : Obj, SeqT Fence.wide 4 Tryz.prog 51 #[.pointer (some ⟨bx, 0, none⟩)] encM KeepA (fun xs => xs = ms) (fun zs => zs <+: ms) (Λ 0).length ((W0.alloc (.deferred (some []))).alloc o) (W0.heap.size + 1) := fun o => by
      have hp2 := (HPA.out.alloc (.deferred (some []))).alloc o
      have := all1_seq 4 sb bx (W0.heap.size + 1) D kn db R Λ ρ Dd pv ps _ (HAT.out.below hp2.below) hp2.bxs
      rw [hN, ← HMS.out] at this
      exact this
    exact key _
  case h0 =>
    refine ⟨(HPA.out.alloc _).alloc _, ?_, Nat.zero_le _, by simp; omega⟩
    rw [Below.heap_alloc _ _ _ (by simp)]
    exact heap_alloc_new W0 _
  case hI =>
    exact fun s A A' h hs => ⟨h.1.steps hs (by omega), hs.2.2.2.2 _ _ h.2.1 (.inr fun cs r e => by cases e), h.2.2⟩
  case hIp =>
    exact fun s A r o' h hl => ⟨h.1.put hl (by omega), ((grownBy_putObj' A _ o').block _ (lt_of_heap h.2.1) (fun e => by have := Option.some.inj e; omega)).trans h.2.1, h.2.2⟩
  case hIxp =>
    exact fun c s A r o' h hl => ⟨h.1, h.2.1.put hl (by omega), ((grownBy_putObj' A _ o').block _ (lt_of_heap h.2.2.1) (fun e => by have := Option.some.inj e; omega)).trans h.2.2.1, h.2.2.2⟩
  case hAxp =>
    rintro x a' _ A r o' ⟨mb, h1, h2, h3⟩ hl
    refine ⟨mb, h1, ((grownBy_putObj' A _ o').block _ (lt_of_heap h2) (fun e => ?_)).trans h2, h3⟩
    cases e
    rw [hl] at h2
    cases h2
  case hassign =>
    intro zs x W K hi hK
    unfold encM strV intV
    gi_wp2
    have hWs := lt_of_heap hi.2.1
    refine hK _ _ ⟨by simp, fun k o _ hk _ => (Below.heap_alloc W _ k (lt_of_heap hk)).trans hk⟩ (KeepA.below ((Below.refl _ W).alloc (Nat.le_refl _) _)) ⟨hi.1.alloc _, (Below.heap_alloc W _ _ hWs).trans hi.2.1, hi.2.2⟩ ⟨W.heap.size, rfl, heap_alloc_new W _, by omega⟩
  case hbody =>
    rintro zs x a' W hr ⟨hpa, hdf, hzl, hzleft⟩ ⟨mb, rfl, hmb, hmbl⟩ hlt
    obtain ⟨v, h1, h2, h3⟩ := hpa.lst
    obtain ⟨va, vc, rfl⟩ := ownsRow_form h2
    obtain ⟨i0, hi, hz0, hz1, hz2⟩ := info_parts Tryz.info53
    have l0 : W.cell? ⟨lb, 0, none⟩ = some (.slice va zs.length vc) := cell_block h1
    have l1 : W.frozen? ⟨lb, 0, none⟩ = false := free_block h1
    unfold strV intV at hmb
    have m0 : W.cell? ⟨mb, 0, none⟩ = some (.string ⟨x.1.toArray⟩) := cell_block hmb
    have m1 : W.cell? ⟨mb, 1, none⟩ = some (.int .i64 x.2) := cell_block hmb
    have hrow3 : (W.alloc (.cells #[.string ⟨x.1.toArray⟩, .int .i64 x.2] 53)).ownsRow 0 53 2 (.slice va zs.length vc) zs.length (foundCells zs) := h2.alloc _
    have hnew : ∀ j u, [Value.string ⟨x.1.toArray⟩, .int .i64 x.2][j]? = some u → (W.alloc (.cells #[.string ⟨x.1.toArray⟩, .int .i64 x.2] 53)).cell? ((⟨W.heap.size, 0, none⟩ : Addr).add j) = some u := cell_two_new W _ _ _
    have hWs := lt_of_heap hdf
    have hrl : ∃ k, W.heap[lb]? = some (.cells #[.slice va zs.length vc] 47 (0, 0)) ∧ k = lb := ⟨lb, h1, rfl⟩
    have HH1 := Lib.hid h1
    have HH2 := Lib.hid h2
    have HPA1 := Lib.hid hpa
    have HDF := Lib.hid hdf
    have HR := Lib.hid hr
    have HZ := Lib.hid hzleft
    clear h1 h2 h3 hpa hdf hrl hr hzleft hmb
    simp only [paF, strV, intV, allFn, List.replicate_succ, List.replicate_zero, List.cons_append, List.nil_append]
    by_cases hz0' : zs.length = 0
    · have q1 : (((zs.length : Int) + 1) == 1) = true := by rw [beq_iff_eq]; omega
      have HZ0 := Lib.hid hz0'
      clear hz0'
      gi_wp2_with (refine wpListIn_append_lies rfl _ _ 47 rfl 53 i0 (.agg #[.string ⟨#[]⟩, .int .i64 0]) 2 24 Tryz.underlying47 hi hz0 hz1 hz2 rfl (by decide) (.slice va zs.length vc) zs.length (foundCells zs) rfl hrow3 ⟨W.heap.size, 0, none⟩ 1 1 [.string ⟨x.1.toArray⟩, .int .i64 x.2] rfl rfl hnew (by simp [Value.oneCell']) (by decide) (by unfold maxLen; omega) (by omega) ?_; intro v4 W4 hrow4 hgrow4 hlies4; simp only [put_lit, List.set_cons_succ, List.set_cons_zero]; obtain ⟨g4, cap4, rfl⟩ := ownsRow_head hrow4; have HPU := Lib.hid (HPA1.out.push HH1.out ((Moves.alloc W _ _).trans (Moves.append hgrow4 hlies4)) hrow4 (by omega) (by omega) (by omega)); have hk4 : W4.heap[lb]? = W.heap[lb]? := ((Moves.alloc W (.slice va zs.length vc) _).trans (Moves.append hgrow4 hlies4)).block (lt_of_heap HH1.out) (fun e => by (obtain ⟨cur, hcur⟩ := ownsRow_cells4 HH2.out e; rw [HH1.out] at hcur; cases hcur)); have d0 : W4.cell? ⟨lb, 0, none⟩ = some (.slice va zs.length vc) := (World.cell?_of_block (a := ⟨lb, 0, none⟩) hk4).trans l0; have d1 : W4.frozen? ⟨lb, 0, none⟩ = false := (World.frozen?_of_block (a := ⟨lb, 0, none⟩) hk4).trans l1; have f1 : (W4.setCell ⟨lb, 0, none⟩ (.slice (some ⟨g4, 0, none⟩) (zs.length + 1) cap4)).cell? ⟨wb, 0, none⟩ = some (.func (.func 51) #[] #[.pointer (some ⟨bx, 0, none⟩)]) := cell_block HPU.out.1.wlk; have f2 : (W4.setCell ⟨lb, 0, none⟩ (.slice (some ⟨g4, 0, none⟩) (zs.length + 1) cap4)).cell? ⟨w.heap.size, 0, none⟩ = some (.int .i64 left) := cell_block HPU.out.1.lft; have f3 : (W4.setCell ⟨lb, 0, none⟩ (.slice (some ⟨g4, 0, none⟩) (zs.length + 1) cap4)).cell? ⟨lb, 0, none⟩ = some (.slice (some ⟨g4, 0, none⟩) (zs.length + 1) cap4) := World.cell?_setCell_same' _ _ _ (by rw [d0]; rfl); clear hrow4 hgrow4 hlies4 hk4)
      have hzn : zs = [] := List.eq_nil_of_length_eq_zero HZ0.out
      subst hzn
      have hpu := HPU.out
      rw [if_pos rfl, List.nil_append] at hpu
      have hW2 : Hid (W0.heap.size ≤ (W4.setCell ⟨lb, 0, none⟩ (.slice (some ⟨g4, 0, none⟩) (([] : List (List UInt8 × Nat)).length + 1) cap4)).heap.size) := Lib.hid (by have := hpu.2.1.1; omega)
      obtain ⟨rr, hrr⟩ := HR.out
      have hrr2 := hpu.2.2 _ _ hrr rfl
      have hdf2 := hpu.2.2 _ _ HDF.out rfl
      have hk2 := hpu.2.1
      have hks2 : ∀ (k : Nat) o, W.heap[k]? = some o → o.isCells = false → (W4.setCell ⟨lb, 0, none⟩ (.slice (some ⟨g4, 0, none⟩) (([] : List (List UInt8 × Nat)).length + 1) cap4)).heap[k]? = some o := hpu.2.2
      have hpa2 := hpu.1
      clear hpu HPU
      generalize (W4.setCell ⟨lb, 0, none⟩ (.slice (some ⟨g4, 0, none⟩) (([] : List (List UInt8 × Nat)).length + 1) cap4)) = W2 at *
      have HPA2 := Lib.hid hpa2
      have HK2 := Lib.hid hk2
      have HKS2 := Lib.hid hks2
      have HDF2 := Lib.hid hdf2
      clear hpa2 hk2 hks2 hdf2
      have hsz2 : W0.heap.size ≤ W2.heap.size := hW2.out
      refine wpIn_rangeFunc_Ts (F := Fence.wide.inRound (W0.heap.size + 1)) (n := 5 - 1 - 1) (B := W2.heap.size) (l := W2.heap.size) (dfr := rr.defers) (mark := []) (w1 := fun fn => W2.alloc (.loop _)) (fun fn _ => ⟨run_enterLoop_inner hrr2 _ _ _ _ _, heap_alloc_new W2 _, by simp⟩) (Nat.le_refl _) (by omega) (gf := 51) (lb := #[.pointer (some ⟨bx, 0, none⟩)]) rfl trivial (enters_of Tryz.func51 (by kernel_rfl) rfl)
        (encs := encM) (Kp := KeepA) (S := fun xs => xs = ms) (Sp := fun zs => zs <+: ms) (N := (Λ 0).length) (fun fn _ => ?iseq) KeepA.refl (fun h k => h.trans k) (fun W r o' h => KeepA.put h rfl) (fun _ => rfl)
        (fun zs W' => PA w sb w.heap.size bx wb lb ib left zs.length [x] W' ∧ KeepA W2 W' ∧ (∀ (k : Nat) o, W2.heap[k]? = some o → o.isCells = false → W'.heap[k]? = some o))
        (fun _ _ _ => False) ?iI ?iIp (fun _ _ _ _ _ h _ => h) (fun fn _ => ?i0) ?ibody ?idone (fun _ _ _ _ h => h.elim)
      case iseq =>
        have key : ∀ o : Obj, SeqT Fence.wide (5 - 1 - 1 - 1) Tryz.prog 51 #[.pointer (some ⟨bx, 0, none⟩)] encM KeepA (fun xs => xs = ms) (fun zs => zs <+: ms) (Λ 0).length (W2.alloc o) W2.heap.size := fun o => by
          have hp2 := HPA2.out.alloc o
          have := all1_seq (5 - 1 - 1 - 1) sb bx W2.heap.size D kn db R Λ ρ Dd pv ps _ (HAT.out.below hp2.below) hp2.bxs
          rw [hN, ← HMS.out] at this
          exact this
        exact key _
      case i0 => exact ⟨HPA2.out.alloc _, KeepA.below ((Below.refl _ W2).alloc (Nat.le_refl _) _), fun k o hk _ => (Below.heap_alloc W2 _ k (lt_of_heap hk)).trans hk⟩
      case iI =>
        refine fun s A A' h hs => ⟨h.1.steps hs (by omega), ⟨Nat.le_trans h.2.1.1 hs.2.2.2.1, fun k cs t r hk ht => ?_⟩, fun k o hk hc => hs.2.2.2.2 k o (h.2.2 k o hk hc) (.inl (lt_of_heap hk))⟩
        have h1 := (h.2.1.2 k cs t r hk ht).trans hk
        exact (hs.2.2.2.2 k _ h1 (.inl (lt_of_heap hk))).trans hk.symm
      case iIp =>
        refine fun s A r o' h hl => ⟨h.1.put hl (by omega), h.2.1.trans (KeepA.put hl rfl), fun k o hk hc => ?_⟩
        exact ((grownBy_putObj' A _ o').block _ (lt_of_heap (h.2.2 k o hk hc)) (fun e => by have h1 := Option.some.inj e; have h2 := lt_of_heap hk; omega)).trans (h.2.2 k o hk hc)
      case ibody =>
        rintro zs x2 W' hr2 ⟨hp, hk, hks⟩ hl
        have c0 : W'.cell? ⟨ib, 0, none⟩ = some (.int .i64 zs.length) := cell_block hp.cnt
        have c1 : W'.frozen? ⟨ib, 0, none⟩ = false := free_block hp.cnt
        have hcn := hp.count (by omega) (by omega) (zs.length + 1)
        have HCN := Lib.hid hcn
        have HKS := Lib.hid hks
        have HKA := Lib.hid hk
        clear hcn hp hks hk hr2
        unfold encM strV intV
        gi_wp2
        have e1 : ((zs.length : Int) + 1) = ((zs.length + 1 : Nat) : Int) := by simp
        rw [e1]
        refine ⟨⟨HCN.out.2.1.1, fun k o _ hk hc => HCN.out.2.2 k o hk hc⟩, HCN.out.2.1, ?_, HKA.out.trans HCN.out.2.1, fun k o hk hc => HCN.out.2.2 k o (HKS.out k o hk hc) hc⟩
        rw [List.length_append, List.length_singleton]
        exact HCN.out.1
      case idone =>
        rintro xs W' rfl ⟨hp, hk, hks⟩
        obtain ⟨v5, h1, h2, h3⟩ := hp.lst
        obtain ⟨va5, vc5, rfl⟩ := ownsRow_form h2
        have l5 : W'.cell? ⟨lb, 0, none⟩ = some (.slice va5 1 vc5) := cell_block h1
        have f5 : W'.cell? ⟨w.heap.size, 0, none⟩ = some (.int .i64 left) := cell_block hp.lft
        have hkw : KeepA W W' := HK2.out.trans hk
        have hkf : ∀ (k : Nat) o, W.heap[k]? = some o → o.isCells = false → W'.heap[k]? = some o := fun k o h hc => hks k o (HKS2.out k o h hc) hc
        have hxl : xs.length = (Λ 0).length := hml
        have HKW := Lib.hid hkw
        have HKF := Lib.hid hkf
        have HP5 := Lib.hid hp
        have HXL := Lib.hid hxl
        clear hp hk hks h1 h2 h3 hkw hkf hxl l0 l1 m0 m1 d0 d1 f1 f2 f3 q1 hrr2 hrr hrow3 hnew
        by_cases hle : left = 1
        · have q2 : ((1 : Int) == (left : Int)) = true := by rw [beq_iff_eq]; omega
          have HLE := Lib.hid hle
          clear hle
          gi_wp2
          have h5 := HP5.out
          rw [HXL.out] at h5
          exact ⟨⟨HKW.out.1, fun k o _ h hc => HKF.out k o h hc⟩, HKW.out, rfl, h5, HKF.out _ _ HDF.out rfl, by have := HLE.out; simp; omega, by simp⟩
        · have q2 : ((1 : Int) == (left : Int)) = false := by rw [beq_eq_false_iff_ne]; omega
          gi_wp2
          have h5 := HP5.out
          rw [HXL.out] at h5
          refine ⟨⟨HKW.out.1, fun k o _ h hc => HKF.out k o h hc⟩, HKW.out, by simpa using h5, HKF.out _ _ HDF.out rfl, by simp; omega, ?_⟩
          rcases HZ.out with h | h
          · exact .inl h
          · right
            simp at h ⊢
            omega
    · have q1 : (((zs.length : Int) + 1) == 1) = false := by rw [beq_eq_false_iff_ne]; omega
      have hzn : zs ≠ [] := fun e => hz0' (by rw [e]; rfl)
      by_cases hle : zs.length + 1 = left
      · have q2 : (((zs.length : Int) + 1) == (left : Int)) = true := by rw [beq_iff_eq]; omega
        have HLE := Lib.hid hle
        clear hle
        gi_wp2_with (refine wpListIn_append_lies rfl _ _ 47 rfl 53 i0 (.agg #[.string ⟨#[]⟩, .int .i64 0]) 2 24 Tryz.underlying47 hi hz0 hz1 hz2 rfl (by decide) (.slice va zs.length vc) zs.length (foundCells zs) rfl hrow3 ⟨W.heap.size, 0, none⟩ 1 1 [.string ⟨x.1.toArray⟩, .int .i64 x.2] rfl rfl hnew (by simp [Value.oneCell']) (by decide) (by unfold maxLen; omega) (by omega) ?_; intro v4 W4 hrow4 hgrow4 hlies4; simp only [put_lit, List.set_cons_succ, List.set_cons_zero]; obtain ⟨g4, cap4, rfl⟩ := ownsRow_head hrow4; have HPU := Lib.hid (HPA1.out.push HH1.out ((Moves.alloc W _ _).trans (Moves.append hgrow4 hlies4)) hrow4 (by omega) (by omega) (by omega)); have hk4 : W4.heap[lb]? = W.heap[lb]? := ((Moves.alloc W (.slice va zs.length vc) _).trans (Moves.append hgrow4 hlies4)).block (lt_of_heap HH1.out) (fun e => by (obtain ⟨cur, hcur⟩ := ownsRow_cells4 HH2.out e; rw [HH1.out] at hcur; cases hcur)); have d0 : W4.cell? ⟨lb, 0, none⟩ = some (.slice va zs.length vc) := (World.cell?_of_block (a := ⟨lb, 0, none⟩) hk4).trans l0; have d1 : W4.frozen? ⟨lb, 0, none⟩ = false := (World.frozen?_of_block (a := ⟨lb, 0, none⟩) hk4).trans l1; have f1 : (W4.setCell ⟨lb, 0, none⟩ (.slice (some ⟨g4, 0, none⟩) (zs.length + 1) cap4)).cell? ⟨wb, 0, none⟩ = some (.func (.func 51) #[] #[.pointer (some ⟨bx, 0, none⟩)]) := cell_block HPU.out.1.wlk; have f2 : (W4.setCell ⟨lb, 0, none⟩ (.slice (some ⟨g4, 0, none⟩) (zs.length + 1) cap4)).cell? ⟨w.heap.size, 0, none⟩ = some (.int .i64 left) := cell_block HPU.out.1.lft; have f3 : (W4.setCell ⟨lb, 0, none⟩ (.slice (some ⟨g4, 0, none⟩) (zs.length + 1) cap4)).cell? ⟨lb, 0, none⟩ = some (.slice (some ⟨g4, 0, none⟩) (zs.length + 1) cap4) := World.cell?_setCell_same' _ _ _ (by rw [d0]; rfl); clear hrow4 hgrow4 hlies4 hk4)
        have hpu := HPU.out
        rw [if_neg hzn] at hpu
        exact ⟨⟨hpu.2.1.1, fun k o _ hk hc => hpu.2.2 k o hk hc⟩, hpu.2.1, rfl, hpu.1, hpu.2.2 _ _ HDF.out rfl, by have := HLE.out; simp; omega, by simp⟩
      · have q2 : (((zs.length : Int) + 1) == (left : Int)) = false := by rw [beq_eq_false_iff_ne]; omega
        gi_wp2_with (refine wpListIn_append_lies rfl _ _ 47 rfl 53 i0 (.agg #[.string ⟨#[]⟩, .int .i64 0]) 2 24 Tryz.underlying47 hi hz0 hz1 hz2 rfl (by decide) (.slice va zs.length vc) zs.length (foundCells zs) rfl hrow3 ⟨W.heap.size, 0, none⟩ 1 1 [.string ⟨x.1.toArray⟩, .int .i64 x.2] rfl rfl hnew (by simp [Value.oneCell']) (by decide) (by unfold maxLen; omega) (by omega) ?_; intro v4 W4 hrow4 hgrow4 hlies4; simp only [put_lit, List.set_cons_succ, List.set_cons_zero]; obtain ⟨g4, cap4, rfl⟩ := ownsRow_head hrow4; have HPU := Lib.hid (HPA1.out.push HH1.out ((Moves.alloc W _ _).trans (Moves.append hgrow4 hlies4)) hrow4 (by omega) (by omega) (by omega)); have hk4 : W4.heap[lb]? = W.heap[lb]? := ((Moves.alloc W (.slice va zs.length vc) _).trans (Moves.append hgrow4 hlies4)).block (lt_of_heap HH1.out) (fun e => by (obtain ⟨cur, hcur⟩ := ownsRow_cells4 HH2.out e; rw [HH1.out] at hcur; cases hcur)); have d0 : W4.cell? ⟨lb, 0, none⟩ = some (.slice va zs.length vc) := (World.cell?_of_block (a := ⟨lb, 0, none⟩) hk4).trans l0; have d1 : W4.frozen? ⟨lb, 0, none⟩ = false := (World.frozen?_of_block (a := ⟨lb, 0, none⟩) hk4).trans l1; have f1 : (W4.setCell ⟨lb, 0, none⟩ (.slice (some ⟨g4, 0, none⟩) (zs.length + 1) cap4)).cell? ⟨wb, 0, none⟩ = some (.func (.func 51) #[] #[.pointer (some ⟨bx, 0, none⟩)]) := cell_block HPU.out.1.wlk; have f2 : (W4.setCell ⟨lb, 0, none⟩ (.slice (some ⟨g4, 0, none⟩) (zs.length + 1) cap4)).cell? ⟨w.heap.size, 0, none⟩ = some (.int .i64 left) := cell_block HPU.out.1.lft; have f3 : (W4.setCell ⟨lb, 0, none⟩ (.slice (some ⟨g4, 0, none⟩) (zs.length + 1) cap4)).cell? ⟨lb, 0, none⟩ = some (.slice (some ⟨g4, 0, none⟩) (zs.length + 1) cap4) := World.cell?_setCell_same' _ _ _ (by rw [d0]; rfl); clear hrow4 hgrow4 hlies4 hk4)
        have hpu := HPU.out
        rw [if_neg hzn] at hpu
        have hne : zs ++ [x] ≠ [] := by simp
        refine ⟨⟨hpu.2.1.1, fun k o _ hk hc => hpu.2.2 k o hk hc⟩, hpu.2.1, by rw [if_neg hne]; exact hpu.1, hpu.2.2 _ _ HDF.out rfl, by simp; omega, ?_⟩
        rcases HZ.out with h | h
        · exact .inl h
        · right
          rw [List.length_append, List.length_singleton]
          omega
  case hdone =>
    rintro xs W rfl ⟨hpa, hdf, hzl, hzleft⟩
    have hc : (if xs = [] then 0 else (Λ 0).length) = (Λ 0).length := by
      split
      · rename_i e
        rw [e] at hml
        exact hml
      · rfl
    rw [hc] at hpa
    obtain ⟨v, h1, h2, h3⟩ := hpa.lst
    obtain ⟨va, vc, rfl⟩ := ownsRow_form h2
    have l0 : W.cell? ⟨lb, 0, none⟩ = some (.slice va xs.length vc) := cell_block h1
    have c0 : W.cell? ⟨ib, 0, none⟩ = some (.int .i64 (Λ 0).length) := cell_block hpa.cnt
    have hk : takeN left (Λ 0).length = xs.length := by unfold takeN; split <;> omega
    have H2 := Lib.hid h2
    have HP := Lib.hid hpa
    have HDF := Lib.hid hdf
    have HK := Lib.hid hk
    clear h1 h2 h3 hpa hdf hzleft hml hc hzl hk
    go_wp2_with fail
    go_quiet (fail)
    go_wp2_with fail
    refine leaves_marks (v := .tuple #[.slice va xs.length vc, .int .i64 (Λ 0).length]) (fun w' => results_tmp2 (t := 4) (u := 5) rfl _ _ _) [W0.heap.size] _ (fun d hd => ?_) (by simp) fun w' hm => ?_
    · simp only [List.mem_singleton] at hd
      subst hd
      exact HDF.out
    · refine ⟨_, rfl, ?_, ?_⟩
      · exact HP.out.below.trans ((((Same.drewN W _).below _).trans (hm.toBelow (B := w.heap.size) (by have := HP.out.below.size; simpa using this) (fun k hk => by simp at hk; omega))))
      · rw [HK.out, ← HMS.out, List.take_length]
        refine ownsRow_block H2.out fun k e => ?_
        refine (hm.block k (H2.out.lt k e).2 fun hd => ?_)
        simp only [List.mem_singleton] at hd
        obtain ⟨cur, hcur⟩ := ownsRow_cells4 H2.out e
        rw [hd, HDF.out] at hcur
        cases hcur
  case hstop =>
    rintro c zs W hpre ⟨rfl, hpa, hdf, hzl, hne⟩
    obtain ⟨v, h1, h2, h3⟩ := hpa.lst
    obtain ⟨va, vc, rfl⟩ := ownsRow_form h2
    have l0 : W.cell? ⟨lb, 0, none⟩ = some (.slice va zs.length vc) := cell_block h1
    have c0 : W.cell? ⟨ib, 0, none⟩ = some (.int .i64 (Λ 0).length) := cell_block hpa.cnt
    have hzp : 0 < zs.length := List.length_pos_iff.2 hne
    have hzm := hpre.length_le
    have hk : takeN left (Λ 0).length = zs.length := by unfold takeN; split <;> omega
    have htk : ms.take zs.length = zs := (List.prefix_iff_eq_take.1 hpre).symm
    have H2 := Lib.hid h2
    have HP := Lib.hid hpa
    have HDF := Lib.hid hdf
    have HK := Lib.hid hk
    have HTK := Lib.hid htk
    clear h1 h2 h3 hpa hdf hzl hk htk hpre hne
    refine wpIn_wide.2 ?_
    go_wp2_with fail
    go_quiet (fail)
    go_wp2_with fail
    refine leaves_marks (v := .tuple #[.slice va zs.length vc, .int .i64 (Λ 0).length]) (fun w' => results_tmp2 (t := 4) (u := 5) rfl _ _ _) [W0.heap.size] _ (fun d hd => ?_) (by simp) fun w' hm => ?_
    · simp only [List.mem_singleton] at hd
      subst hd
      exact HDF.out
    · refine ⟨_, rfl, ?_, ?_⟩
      · exact HP.out.below.trans ((((Same.drewN W _).below _).trans (hm.toBelow (B := w.heap.size) (by have := HP.out.below.size; simpa using this) (fun k hk => by simp at hk; omega))))
      · rw [HK.out, ← HMS.out, HTK.out]
        refine ownsRow_block H2.out fun k e => ?_
        refine (hm.block k (H2.out.lt k e).2 fun hd => ?_)
        simp only [List.mem_singleton] at hd
        obtain ⟨cur, hcur⟩ := ownsRow_cells4 H2.out e
        rw [hd, HDF.out] at hcur
        cases hcur
end Go.Proofs.Ts
/- The walks of build and Found. -/
set_option linter.unusedVariables false
set_option linter.unusedSimpArgs false
namespace Go.Proofs.Ts
open Go Go.RowKit

theorem StrsIs.below {w w' : World} {v : Value} {ss : List ByteArray} (h : StrsIs w v ss) (hb : Below w.heap.size w w') : StrsIs w' v ss := by
  obtain ⟨a, cap, rfl, hc⟩ := h
  refine ⟨a, cap, rfl, fun i hi => ?_⟩
  obtain ⟨b, off, e, h1⟩ := hc i hi
  exact ⟨b, off, e, (hb.cell (p := ⟨b, off + i, none⟩) (lt_of_cell h1)).trans h1⟩
theorem Seg.mono {B B' : Nat} {w : World} {sb : Nat} {D : List (List (List UInt8))} (h : Seg B w sb D) (hB : B' ≤ B) : Seg B' w sb D := by
  obtain ⟨h1, kn, h2, h3⟩ := h
  refine ⟨by omega, kn, h2, ?_⟩
  rcases h3 with h3 | ⟨km, m, e, h4, h5⟩
  · exact .inl h3
  · exact .inr ⟨km, m, e, by omega, h5⟩

set_option maxRecDepth 100000 in
set_option maxHeartbeats 2000000 in
theorem keepBuild_any (docs : List ByteArray) (v : Value) (w : World) (hv : StrsIs w v docs) (hl : docs.length ≤ 9223372036854775807) :
    Calls Tryz.prog 12 #[v] w fun e w' => Below w.heap.size w w' ∧
      ((smallW docs = false ∧ e = .returned (.tuple #[.pointer none, .bool true])) ∨ (smallW docs = true ∧ ∃ sb, e = .returned (.tuple #[ptrV sb, .bool true]) ∧ Seg w.heap.size w' sb (docs.map wordsB))) := by
  have HV := Lib.hid hv
  clear hv
  go_enter Tryz.func12, Tryz.ntmps12
  go_wp2_with fail
  refine (fixed_any w).mono ?_
  rintro e w1 ⟨rfl, hb1⟩
  have HB1 := Lib.hid hb1
  clear hb1
  go_wp2_with fail
  refine (small_any v docs w1 (HV.out.below HB1.out) hl).mono ?_
  rintro e w2 ⟨rfl, hs2⟩
  have hb2 : Below w.heap.size w w2 := HB1.out.trans (hs2.below _)
  have HB2 := Lib.hid hb2
  clear hb2 hs2
  cases hsm : smallW docs with
  | false =>
    go_wp2_with fail
    go_ret2
    exact ⟨HB2.out, .inl ⟨hsm, rfl⟩⟩
  | true =>
    have hparts : docs.length ≤ 48 ∧ ∀ d ∈ docs, d.size ≤ 200 := by
      unfold smallW at hsm
      simpa using hsm
    have HP := Lib.hid hparts
    have HSM := Lib.hid hsm
    clear hparts hsm
    go_wp2_with fail
    refine (plainBuild_any docs v w2 (HV.out.below HB2.out) HP.out.1 HP.out.2).mono ?_
    rintro e w3 ⟨sb, rfl, hb3, hs3⟩
    have HB3 := Lib.hid hb3
    have HS3 := Lib.hid hs3
    clear hb3 hs3
    unfold ptrV
    go_wp2_with fail
    go_ret2
    exact ⟨HB2.out.trans (HB3.out.mono HB2.out.size), .inr ⟨HSM.out, sb, rfl, HS3.out.mono HB2.out.size⟩⟩

/-- What has the word is what is found. -/
theorem docsOf_has {docs : List ByteArray} {x : List UInt8} (hx : wordW x = true) : docsOf (docs.map wordsB) (fun u => decide (u = x)) = (List.range docs.length).filter fun d => hasW ((docs.getD d ⟨#[]⟩).data.toList) x := by
  unfold docsOf
  rw [List.length_map]
  apply List.filter_congr
  intro d hd
  rw [List.mem_range] at hd
  unfold wordW at hx
  simp only [Bool.and_eq_true, decide_eq_true_eq, List.all_eq_true] at hx
  obtain ⟨⟨h1, h2⟩, h3⟩ := hx
  have hne : x ≠ [] := List.length_pos_iff.1 h2
  have hb : ∀ c ∈ x, isBlank c = false := fun c hc => by
    have := h1 c hc
    unfold wordCh at this
    simp only [Bool.and_eq_true, Bool.not_eq_true'] at this
    exact this.1
  rw [Bool.eq_iff_iff, hasW_iff _ _ hne hb, List.getD_eq_getElem?_getD, List.getElem?_map, List.getElem?_eq_getElem hd, List.getD_eq_getElem?_getD, List.getElem?_eq_getElem hd]
  simp only [Option.map_some, Option.getD_some, List.any_eq_true, decide_eq_true_eq, exists_eq_right]
  unfold wordsB
  rw [List.mem_filter]
  simp only [decide_eq_true_eq]
  exact ⟨fun h => h.1, fun h => ⟨h, h3⟩⟩
def foundTo (docs : List ByteArray) (x : List UInt8) (i : Nat) : List Nat := (List.range i).filter fun d => hasW ((docs.getD d ⟨#[]⟩).data.toList) x
theorem foundTo_succ (docs : List ByteArray) (x : List UInt8) (i : Nat) (h : i < docs.length) : foundTo docs x (i + 1) = foundTo docs x i ++ (if hasW (docs[i]).data.toList x then [i] else []) := by
  unfold foundTo
  rw [List.range_succ, List.filter_append, List.filter_cons, List.getD_eq_getElem?_getD, List.getElem?_eq_getElem h]
  rfl
theorem foundTo_at (docs : List ByteArray) (x : List UInt8) (i : Nat) (h : i < docs.length) (hh : hasW (docs[i]).data.toList x = true) : (foundTo docs x docs.length)[(foundTo docs x i).length]? = some i := by
  have h1 : foundTo docs x docs.length = foundTo docs x (i + 1) ++ ((List.range' (i + 1) (docs.length - (i + 1))).filter fun d => hasW ((docs.getD d ⟨#[]⟩).data.toList) x) := by
    unfold foundTo
    rw [← List.filter_append]
    congr 1
    rw [List.range_eq_range', List.range_eq_range']
    have h2 := List.range'_append_1 (s := 0) (m := i + 1) (n := docs.length - (i + 1))
    rw [Nat.zero_add, show i + 1 + (docs.length - (i + 1)) = docs.length by omega] at h2
    exact h2.symm
  rw [h1, foundTo_succ docs x i h, if_pos hh]
  simp

set_option maxRecDepth 100000 in
set_option maxHeartbeats 2000000 in
theorem found_any (docs : List ByteArray) (s : ByteArray) (v : Value) (w : World) (hv : StrsIs w v docs) (hl : docs.length ≤ 9223372036854775807) (hs : s.size ≤ 9223372036854775807) :
    Calls Tryz.prog 3 #[v, .string s] w fun e w' => e = .returned (.bool true) ∧ Below w.heap.size w w' := by
  obtain ⟨va, vc, rfl, hc⟩ := id hv
  obtain ⟨x, rfl⟩ : ∃ x : List UInt8, s = ⟨x.toArray⟩ := ⟨s.data.toList, by cases s; simp⟩
  have HV := Lib.hid hv
  clear hv hc
  go_enter Tryz.func3, Tryz.ntmps3
  go_wp2_with fail
  refine (keepBuild_any docs _ w HV.out hl).mono ?_
  rintro e w1 ⟨hb1, hres⟩
  have HB1 := Lib.hid hb1
  clear hb1
  rcases hres with ⟨_, rfl⟩ | ⟨hsm, sb, rfl, hs1⟩
  · go_wp2_with fail
    go_ret
    exact ⟨rfl, HB1.out⟩
  · have hparts : docs.length ≤ 48 ∧ ∀ d ∈ docs, d.size ≤ 200 := by
      unfold smallW at hsm
      simpa using hsm
    obtain ⟨h48, h200⟩ := hparts
    have HS1 := Lib.hid hs1
    have H200 := Lib.hid h200
    clear hs1 hsm h200
    unfold ptrV
    go_wp2_with fail
    refine (word_any _ w1 hs).mono ?_
    rintro e w2 ⟨rfl, hw2⟩
    have hb2 : Below w1.heap.size w1 w2 := hw2.below _
    have HB2 := Lib.hid hb2
    clear hb2 hw2
    simp only [List.toList_toArray]
    cases hw : wordW x with
    | false =>
      go_wp2_with fail
      go_ret
      exact ⟨rfl, HB1.out.trans (HB2.out.mono HB1.out.size)⟩
    | true =>
      have hx16 : x.length ≤ 16 := by
        unfold wordW at hw
        simp only [Bool.and_eq_true, decide_eq_true_eq] at hw
        exact hw.2
      have HW := Lib.hid hw
      clear hw
      go_wp2_with fail
      have hask := ask_any w.heap.size 1 0 x [] (fun u => decide (u = x)) sb (docs.map wordsB) w2 (Nat.le_trans HB1.out.size HB2.out.size) (HS1.out.below HB2.out) (by simp; omega) (compile_one (by omega)) (by simp [accOf]; omega)
      rw [docsOf_has HW.out] at hask
      unfold ptrV strV at hask
      refine hask.mono ?_
      clear hask
      rintro e w3 ⟨ov, rfl, hs3, hb3, hc3, hr3⟩
      have hr3' : w3.ownsRow 0 3 1 ov (foundTo docs x docs.length).length ((foundTo docs x docs.length).map intV) := hr3
      obtain ⟨oa, oc, rfl⟩ := ownsRow_form hr3'
      have hb13 : Below w.heap.size w w3 := HB1.out.trans ((HB2.out.mono HB1.out.size).trans hb3)
      have HB3 := Lib.hid hb13
      have HR3 := Lib.hid hr3'
      have HV3 := Lib.hid (HV.out.below hb13)
      clear hs3 hb3 hc3 hr3 hr3' hb13
      obtain ⟨n, hn⟩ : ∃ n, n = (foundTo docs x docs.length).length := ⟨_, rfl⟩
      have HN := Lib.hid hn
      rw [← hn]
      clear hn
      go_wp2_with fail
      go_loopw [9, 10] (fun k i wr => ∃ j : Nat, j ≤ docs.length ∧ i = .int .i64 j ∧ k = .int .i64 ((foundTo docs x j).length : Nat) ∧ Same w3 wr) (fun _ i _ => docs.length - (intOf i).toNat)
      case atStart => exact ⟨0, Nat.zero_le _, rfl, rfl, Same.refl _⟩
      case round =>
        obtain ⟨j, hj, rfl, rfl, hS⟩ := hrel
        by_cases hlt : j < docs.length
        · obtain ⟨_, _, e, hcells⟩ := HV3.out
          simp only [Value.slice.injEq, true_and] at e
          obtain ⟨rfl, rfl⟩ := e
          obtain ⟨b, off, rfl, hcell⟩ := hcells j hlt
          have c1 := (hS.cell ⟨b, off + j, none⟩).trans hcell
          have hd := H200.out docs[j] (List.getElem_mem _)
          have hle := foundTo_succ docs x j hlt
          have HLE := Lib.hid hle
          have hat := foundTo_at docs x j hlt
          have HAT := Lib.hid hat
          clear hcell hcells hle hat
          go_wp2_with fail
          refine (has_any docs[j] ⟨x.toArray⟩ wr (by omega) (by simp [ByteArray.size]; omega)).mono ?_
          rintro e w5 ⟨rfl, hS5⟩
          simp only [List.toList_toArray]
          have hS35 := hS.trans hS5
          cases hh : hasW (docs[j]).data.toList x with
          | false =>
            have HE : Hid (foundTo docs x (j + 1) = foundTo docs x j) := Lib.hid (by rw [HLE.out, hh]; simp)
            go_wp2_with fail
            exact ⟨⟨j + 1, by omega, by go_num, by rw [HE.out], hS35⟩, by simp [intOf]; omega⟩
          | true =>
            have hat := HAT.out hh
            have HE : Hid (foundTo docs x (j + 1) = foundTo docs x j ++ [j]) := Lib.hid (by rw [HLE.out, hh]; simp)
            obtain ⟨g, cap', e, hcl⟩ := ownsRow_cell HR3.out (j := (foundTo docs x j).length) (u := intV j) (by rw [List.getElem?_map, hat]; rfl)
            simp only [Value.slice.injEq, true_and] at e
            obtain ⟨rfl, rfl⟩ := e
            have hlen := (List.getElem?_eq_some_iff.1 hat).1
            have c2 : w5.cell? ⟨g, (foundTo docs x j).length, none⟩ = some (.int .i64 j) := (hS35.cell _).trans hcl
            obtain ⟨m, hm⟩ : ∃ m, m = (foundTo docs x j).length := ⟨_, rfl⟩
            rw [← hm] at c2 hlen ⊢
            rw [← HN.out] at hlen
            have HM := Lib.hid hm
            clear hm hat hcl
            have hml : m ≤ 48 := by
              have h1 : (foundTo docs x j).length ≤ j := by unfold foundTo; exact Nat.le_trans (List.length_filter_le _ _) (by simp)
              rw [← HM.out] at h1
              omega
            go_wp2_with fail
            exact ⟨⟨j + 1, by omega, by go_num, by rw [HE.out, List.length_append, ← HM.out]; simp, hS35⟩, by simp [intOf]; omega⟩
        · obtain rfl : j = docs.length := by omega
          rw [← HN.out]
          go_wp2_with fail
          go_ret
          exact ⟨rfl, HB3.out.trans (hS.below _)⟩
end Go.Proofs.Ts
/- The walks of pick and Walked. -/
set_option linter.unusedVariables false
set_option linter.unusedSimpArgs false
namespace Go.Proofs.Ts
open Go Go.RowKit

/-- Which of n things the raw number c speaks of. -/
def pickN (c : Int) (n : Nat) : Nat := ((if c < 0 then -(c + 1) else c).toNat) % n
theorem pickN_lt (c : Int) {n : Nat} (hn : 0 < n) : pickN c n < n := Nat.mod_lt _ hn
set_option maxRecDepth 100000 in
theorem pick_any (c : Int) (n : Nat) (w : World) (hc : -9223372036854775808 ≤ c ∧ c ≤ 9223372036854775807) (hn : 0 < n ∧ n ≤ 1000000) :
    Calls Tryz.prog 20 #[.int .i64 c, .int .i64 n] w fun e w' => e = .returned (.int .i64 (pickN c n)) ∧ w' = w := by
  have hn0 : ((n : Int) == 0) = false := by rw [beq_eq_false_iff_ne]; omega
  by_cases h : c < 0
  · have hp : Hid ((pickN c n : Nat) = ((-(c + 1)).toNat) % n) := Lib.hid (by unfold pickN; rw [if_pos h])
    go_enter Tryz.func20, Tryz.ntmps20
    go_wp2_with fail
    go_ret
    refine ⟨ret_int ?_, rfl⟩
    rw [hp.out]
    obtain ⟨m, hm⟩ : ∃ m : Nat, -(c + 1) = (m : Int) := ⟨(-(c + 1)).toNat, by omega⟩
    have hc1 : c + 1 = -(m : Int) := by omega
    rw [hm, hc1, Int.neg_tmod, Int.neg_neg]
    simp
    rw [Int.tmod_eq_emod_of_nonneg (by omega)]
  · have hp : Hid ((pickN c n : Nat) = c.toNat % n) := Lib.hid (by unfold pickN; rw [if_neg h])
    go_enter Tryz.func20, Tryz.ntmps20
    go_wp2_with fail
    go_ret
    refine ⟨ret_int ?_, rfl⟩
    rw [hp.out]
    obtain ⟨m, hm⟩ : ∃ m : Nat, c = (m : Int) := ⟨c.toNat, by omega⟩
    rw [hm]
    simp

theorem match_same (s : ByteArray) (d : Int) (W : World) : (binOp .neq 53 (.agg #[.string s, .int .i64 d]) (.agg #[.string s, .int .i64 d])).run Tryz.prog W = .ok (.bool false) W := by
  simp [go_sem, binOp, Op.equal, Op.maxDepth]
theorem match_guard (x y : Operand) (a b : Array Value) (W : World) : (eqGuard .neq 53 x y (.agg a) (.agg b)).run Tryz.prog W = .ok () W := by
  unfold eqGuard
  simp [Sem.run_bind, run_program]
theorem bytesLess_of (a b : List UInt8) (h : a < b) : Op.bytesLess a b = true := by
  rw [Go.Proofs.bytesLess_eq]
  exact decide_eq_true h
/-- Terms rise. -/
theorem allHits_rise {T : List (List UInt8)} (h : T.Pairwise fun a b => a < b) (D : List (List (List UInt8))) : ∀ (i j : Nat) p q, (matchesOf D (allHits T))[i]? = some p → (matchesOf D (allHits T))[j]? = some q → i < j → p.1 < q.1 := by
  intro i j p q hi hj hij
  have key : ∀ (i : Nat) p, (matchesOf D (allHits T))[i]? = some p → T[i]? = some p.1 := fun i p hp => by
    unfold matchesOf at hp
    rw [List.getElem?_map] at hp
    obtain ⟨q, hq, rfl⟩ := Option.map_eq_some_iff.1 hp
    unfold allHits hits at hq
    rw [List.filter_eq_self.2 (fun _ _ => rfl), List.getElem?_zipIdx] at hq
    obtain ⟨x, hx, rfl⟩ := Option.map_eq_some_iff.1 hq
    exact hx
  have h1 := key i p hi
  have h2 := key j q hj
  obtain ⟨l1, e1⟩ := List.getElem?_eq_some_iff.1 h1
  obtain ⟨l2, e2⟩ := List.getElem?_eq_some_iff.1 h2
  rw [← e1, ← e2]
  exact List.pairwise_iff_getElem.1 h i j l1 l2 hij

/-- Two rising lists of the same words are one. -/
theorem rise_ext : ∀ (a b : List (List UInt8)), a.Pairwise (fun x y => x < y) → b.Pairwise (fun x y => x < y) → (∀ x, x ∈ a ↔ x ∈ b) → a = b
  | [], [], _, _, _ => rfl
  | [], y :: b, _, _, h => by have := (h y).2 (by simp); cases this
  | x :: a, [], _, _, h => by have := (h x).1 (by simp); cases this
  | x :: a, y :: b, ha, hb, h => by
    obtain ⟨ha1, ha2⟩ := List.pairwise_cons.1 ha
    obtain ⟨hb1, hb2⟩ := List.pairwise_cons.1 hb
    have e : x = y := by
      rcases List.mem_cons.1 ((h x).1 (by simp)) with e | h1
      · exact e
      · rcases List.mem_cons.1 ((h y).2 (by simp)) with e | h2
        · exact e.symm
        · exact absurd (List.lt_trans (hb1 x h1) (ha1 y h2)) (List.lt_irrefl _)
    subst e
    have := rise_ext a b ha2 hb2 fun z => by
      constructor
      · intro hz
        rcases List.mem_cons.1 ((h z).1 (by simp [hz])) with e | h1
        · subst e; exact absurd (ha1 z hz) (List.lt_irrefl _)
        · exact h1
      · intro hz
        rcases List.mem_cons.1 ((h z).2 (by simp [hz])) with e | h1
        · subst e; exact absurd (hb1 z hz) (List.lt_irrefl _)
        · exact h1
    rw [this]
def docs1 : List ByteArray := [⟨#[98, 32, 97]⟩]
theorem docs1_words : docs1.map wordsB = [[[98], [97]]] := by decide
theorem docs1_terms {T : List (List UInt8)} (h : TermsOf (docs1.map wordsB) T) : T = [[97], [98]] := by
  refine rise_ext _ _ h.1 (by decide) fun x => ?_
  rw [h.2.1 x, docs1_words]
  constructor
  · intro hx
    obtain ⟨j, hj⟩ := List.exists_mem_of_ne_nil _ hx
    obtain ⟨ws, h1, h2⟩ := (postsOf_mem _ _ _).1 hj
    have h3 := List.mem_of_getElem? h1
    simp at h3
    subst h3
    simp at h2 ⊢
    exact h2.symm
  · intro hx
    have h4 : (0 : Nat) ∈ postsOf [[[98], [97]]] x := (postsOf_mem _ _ _).2 ⟨_, rfl, by simp at hx ⊢; exact hx.symm⟩
    exact List.ne_nil_of_mem h4
theorem allHits_begins (T : List (List UInt8)) : hits (fun u => decide (([] : List UInt8) <+: u)) T 0 = allHits T := by
  have h : (fun u => decide (([] : List UInt8) <+: u)) = fun _ => true := funext fun u => decide_eq_true List.nil_prefix
  unfold allHits
  rw [h]
set_option maxRecDepth 100000 in
set_option maxHeartbeats 16000000 in
theorem walked_any (docs : List ByteArray) (c : Int) (v : Value) (w : World) (hv : StrsIs w v docs) (hl : docs.length ≤ 9223372036854775807) (hc : -9223372036854775808 ≤ c ∧ c ≤ 9223372036854775807) :
    Calls Tryz.prog 9 #[v, .int .i64 c] w fun e w' => e = .returned (.bool true) ∧ Below w.heap.size w w' := by
  obtain ⟨va, vc, rfl, hcells⟩ := id hv
  have HV := Lib.hid hv
  have HC := Lib.hid hc
  clear hv hcells hc
  go_enter Tryz.func9, Tryz.ntmps9
  go_wp2_with fail
  refine (keepBuild_any docs _ w HV.out hl).mono ?_
  rintro e w1 ⟨hb1, hres⟩
  have HB1 := Lib.hid hb1
  clear hb1
  rcases hres with ⟨_, rfl⟩ | ⟨hsm, sb, rfl, hs1⟩
  · go_wp2_with fail
    go_ret
    exact ⟨rfl, HB1.out⟩
  · have hparts : docs.length ≤ 48 ∧ ∀ d ∈ docs, d.size ≤ 200 := by
      unfold smallW at hsm
      simpa using hsm
    obtain ⟨h48, _⟩ := hparts
    obtain ⟨T, hT, hs1'⟩ := hs1.withTerms
    have HS1 := Lib.hid hs1'
    have HT := Lib.hid hT
    have hTl := hT.2.2
    clear hs1 hs1' hsm hT
    unfold ptrV
    go_wp2_with fail
    have hm := plainMatches_any w.heap.size ⟨2, [], [], 0, 1⟩ (fun u => decide (([] : List UInt8) <+: u)) 1048576 sb (docs.map wordsB) T w1 HB1.out.size HS1.out (by simp; omega) 1 rfl (by omega) (by omega) (compile_two (by simp)) (by simp [accOf]) (by rw [allHits_begins, allHits_length]; omega)
    rw [allHits_begins, allHits_length] at hm
    unfold ptrV askV strV at hm
    refine hm.mono ?_
    clear hm
    rintro e w2 ⟨o1, rfl, hs2, hb2, hc2, hr2⟩
    obtain ⟨a1, k1, rfl⟩ := ownsRow_form hr2
    have HS2 := Lib.hid hs2
    have HB2 := Lib.hid hb2
    have HR2 := Lib.hid hr2
    clear hs2 hb2 hc2 hr2
    go_wp2_with fail
    have ha := plainAll_any sb 0 (docs.map wordsB) T w.heap.size w2 HS2.out (by omega)
    unfold ptrV at ha
    refine ha.mono ?_
    clear ha
    rintro e w3 ⟨o2, rfl, hb3, hr3⟩
    have ht0 : takeN 0 T.length = T.length := by simp [takeN]
    rw [ht0] at hr3
    obtain ⟨a2, k2, rfl⟩ := ownsRow_form hr3
    have HB3 := Lib.hid hb3
    have HR3 := Lib.hid hr3
    clear hb3 hr3 ht0
    go_wp2_with fail
    refine (pick_any c 20 w3 HC.out (by omega)).mono ?_
    rintro e w4 ⟨rfl, rfl⟩
    have hpk := pickN_lt c (n := 20) (by omega)
    obtain ⟨pk, hpk'⟩ : ∃ pk, pk = pickN c 20 := ⟨_, rfl⟩
    rw [← hpk'] at hpk ⊢
    clear hpk'
    go_wp2_with fail
    have e1 : (1 + (pk : Int)) = ((1 + pk : Nat) : Int) := by simp
    rw [e1]
    clear e1
    obtain ⟨lf, hlf⟩ : ∃ lf, lf = 1 + pk := ⟨_, rfl⟩
    have hlf1 : 1 ≤ lf ∧ lf ≤ 20 := by omega
    rw [← hlf]
    clear hlf hpk
    have ha := plainAll_any sb lf (docs.map wordsB) T w.heap.size w4 (HS2.out.below HB3.out) (by omega)
    unfold ptrV at ha
    refine ha.mono ?_
    clear ha
    rintro e w5 ⟨o3, rfl, hb5, hr5⟩
    have htk : takeN lf T.length = min lf T.length := by unfold takeN; rw [if_neg (by omega)]
    rw [htk] at hr5
    obtain ⟨k, hk⟩ : ∃ k, k = min lf T.length := ⟨_, rfl⟩
    rw [← hk] at hr5
    obtain ⟨a3, k3, rfl⟩ := ownsRow_form hr5
    have hml : (matchesOf (docs.map wordsB) (allHits T)).length = T.length := by rw [matchesOf_length, allHits_length]
    obtain ⟨ms, hms⟩ : ∃ ms, ms = matchesOf (docs.map wordsB) (allHits T) := ⟨_, rfl⟩
    have hr1 := HR2.out
    have hr3 := HR3.out
    rw [← hms] at hml hr5 hr1 hr3
    rw [← hml, List.take_length] at hr3
    rw [← hml] at hr1 hk
    have hr1' : w5.ownsRow 0 53 2 (.slice a1 ms.length k1) ms.length (foundCells ms) := ownsRow_block (ownsRow_block hr1 fun k e => HB3.out.block k (hr1.lt k e).2) fun k e => hb5.block k (by have := (hr1.lt k e).2; have := HB3.out.size; omega)
    have hr3' : w5.ownsRow 0 53 2 (.slice a2 ms.length k2) ms.length (foundCells ms) := ownsRow_block hr3 fun k e => hb5.block k (hr3.lt k e).2
    have hb : Below w.heap.size w w5 := (HB1.out.trans HB2.out).trans ((HB3.out.mono (by have := HB1.out.size; have := HB2.out.size; omega)).trans (hb5.mono (by have := HB1.out.size; have := HB2.out.size; have := HB3.out.size; omega)))
    have R1 := Lib.hid hr1'
    have R2 := Lib.hid hr3'
    have R3 := Lib.hid hr5
    have HB := Lib.hid hb
    have HMS := Lib.hid hms
    clear hr1 hr3 hr1' hr3' hr5 hb hb5 hms HR2 HR3 htk
    rw [← hml]
    obtain ⟨N, hN⟩ : ∃ N, N = ms.length := ⟨_, rfl⟩
    rw [← hN]
    have HN := Lib.hid hN
    rw [← hN] at hml hk
    have hN1 : N ≤ 10000 := by omega
    clear hN hml
    have hkN : k ≤ N := by omega
    have hk20 : k ≤ 20 := by omega
    have HK := Lib.hid hk
    clear hk
    go_upto_if 53 with fail
    go_cut [12] from 54 to 55 (fun l wx => l = .int .i64 k ∧ Same w5 wx)
    case first =>
      by_cases hgt : N < lf
      · obtain rfl : k = N := by have := HK.out; omega
        clear HK
        go_wp2_with fail
        go_meet
        exact ⟨rfl, Same.refl _⟩
      · obtain rfl : k = lf := by have := HK.out; omega
        clear HK
        go_wp2_with fail
        go_meet
        exact ⟨rfl, Same.refl _⟩
    case rest =>
      obtain ⟨rfl, hS0⟩ := hcut
      go_wp2_with fail
      have hrise := allHits_rise HT.out.1 (docs.map wordsB)
      rw [← HMS.out] at hrise
      have HRISE := Lib.hid hrise
      clear hrise
      go_loopw [15] (fun i wr => ∃ j : Nat, j ≤ N ∧ i = .int .i64 j ∧ Same w5 wr) (fun i _ => N - (intOf i).toNat)
      case atStart => exact ⟨0, Nat.zero_le _, rfl, hS0⟩
      case round =>
        obtain ⟨j, hj, rfl, hS⟩ := hrel
        by_cases hjl : j < N
        · obtain ⟨t, d, htd⟩ : ∃ t d, ms[j]? = some (t, d) := ⟨_, _, List.getElem?_eq_getElem (by rw [← HN.out]; exact hjl)⟩
          obtain ⟨x1, x2⟩ := foundCells_at _ _ _ htd
          obtain ⟨g1, c1, h1, y1⟩ := ownsRow_cell R1.out x1
          obtain ⟨_, _, h2, y2⟩ := ownsRow_cell R1.out x2
          simp only [Value.slice.injEq] at h1 h2
          rw [h1.1] at h2
          simp only [Option.some.injEq, Addr.mk.injEq, and_true, true_and] at h2
          rw [← h2.1] at y2
          obtain ⟨g2, c2, h3, y3⟩ := ownsRow_cell R2.out x1
          obtain ⟨_, _, h4, y4⟩ := ownsRow_cell R2.out x2
          simp only [Value.slice.injEq] at h3 h4
          rw [h3.1] at h4
          simp only [Option.some.injEq, Addr.mk.injEq, and_true, true_and] at h4
          rw [← h4.1] at y4
          have q1 := (hS.cell _).trans y1
          have q2 := (hS.cell _).trans y2
          have q3 := (hS.cell _).trans y3
          have q4 := (hS.cell _).trans y4
          unfold strV at q1 q3
          unfold intV at q2 q4
          have e1 := h1.1
          have e3 := h3.1
          clear h1 h2 h3 h4 y1 y2 y3 y4
          subst e1 e3
          have hms1 := fun W => match_same ⟨t.toArray⟩ (d : Int) W
          have hmg1 := fun x y W => match_guard x y #[.string ⟨t.toArray⟩, .int .i64 d] #[.string ⟨t.toArray⟩, .int .i64 d] W
          by_cases hj0 : 0 < j
          · obtain ⟨t', d', htd'⟩ : ∃ t' d', ms[j - 1]? = some (t', d') := ⟨_, _, List.getElem?_eq_getElem (by rw [← HN.out]; omega)⟩
            obtain ⟨x3, _⟩ := foundCells_at _ _ _ htd'
            obtain ⟨g5, c5, h5, y5⟩ := ownsRow_cell R2.out x3
            simp only [Value.slice.injEq, Option.some.injEq, Addr.mk.injEq, and_true, true_and] at h5
            rw [← h5.1] at y5
            have q5 := (hS.cell _).trans y5
            unfold strV at q5
            have hless := bytesLess_of _ _ (HRISE.out (j - 1) j _ _ htd' htd (by omega))
            have w1' : IntKind.i64.wrap ((j : Int) - 1) = ((j - 1 : Nat) : Int) := by rw [IntWalk.i64_in _ (by omega)]; omega
            clear h5 y5 x3 htd'
            by_cases hjk : j < k
            · obtain ⟨g6, c6, h6, y6⟩ := ownsRow_cell R3.out (j := j * 2) (u := strV t) (foundCells_at _ _ _ (by rw [List.getElem?_take_of_lt hjk]; exact htd)).1
              obtain ⟨_, _, h7, y7⟩ := ownsRow_cell R3.out (j := j * 2 + 1) (u := intV d) (foundCells_at _ _ _ (by rw [List.getElem?_take_of_lt hjk]; exact htd)).2
              simp only [Value.slice.injEq] at h6 h7
              rw [h6.1] at h7
              simp only [Option.some.injEq, Addr.mk.injEq, and_true, true_and] at h7
              rw [← h7.1] at y7
              have q6 := (hS.cell _).trans y6
              have q7 := (hS.cell _).trans y7
              unfold strV at q6
              unfold intV at q7
              have e6 := h6.1
              clear h6 h7 y6 y7
              subst e6
              go_wp2_with fail
              go_quiet (fail)
              go_wp2_with fail
              exact ⟨⟨j + 1, by omega, by go_num, hS.trans (Same.drewN _ _)⟩, by simp [intOf]; omega⟩
            · go_wp2_with fail
              go_quiet (fail)
              go_wp2_with fail
              exact ⟨⟨j + 1, by omega, by go_num, hS.trans (Same.drewN _ _)⟩, by simp [intOf]; omega⟩
          · obtain rfl : j = 0 := by omega
            by_cases hjk : 0 < k
            · obtain ⟨g6, c6, h6, y6⟩ := ownsRow_cell R3.out (j := 0 * 2) (u := strV t) (foundCells_at _ _ _ (by rw [List.getElem?_take_of_lt hjk]; exact htd)).1
              obtain ⟨_, _, h7, y7⟩ := ownsRow_cell R3.out (j := 0 * 2 + 1) (u := intV d) (foundCells_at _ _ _ (by rw [List.getElem?_take_of_lt hjk]; exact htd)).2
              simp only [Value.slice.injEq] at h6 h7
              rw [h6.1] at h7
              simp only [Option.some.injEq, Addr.mk.injEq, and_true, true_and] at h7
              rw [← h7.1] at y7
              have q6 := (hS.cell _).trans y6
              have q7 := (hS.cell _).trans y7
              unfold strV at q6
              unfold intV at q7
              have e6 := h6.1
              clear h6 h7 y6 y7
              subst e6
              simp only [Nat.zero_mul, Nat.zero_add] at q1 q2 q3 q4 q6 q7
              go_wp2_with fail
              go_quiet (fail)
              go_wp2_with fail
              exact ⟨⟨1, by omega, by go_num, hS.trans (Same.drewN _ _)⟩, by simp [intOf]; omega⟩
            · simp only [Nat.zero_mul, Nat.zero_add] at q1 q2 q3 q4
              go_wp2_with fail
              go_quiet (fail)
              go_wp2_with fail
              exact ⟨⟨1, by omega, by go_num, hS.trans (Same.drewN _ _)⟩, by simp [intOf]; omega⟩
        · obtain rfl : j = N := by omega
          have hbw : Below w.heap.size w wr := HB.out.trans (hS.below _)
          have HBW := Lib.hid hbw
          clear hbw HS1 HS2 HB1 HB2 HB3 HRISE R1 R2 R3 HT HMS hlf1 HB HN
          go_wp2_with fail
          have hst : StrsIs (wr.alloc (.cells #[.string ⟨#[98, 32, 97]⟩] 9)) (.slice (some ⟨wr.heap.size, 0, none⟩) 1 1) docs1 := by
            refine ⟨_, _, rfl, fun i hi => ⟨_, _, rfl, ?_⟩⟩
            have hi0 : i = 0 := by simp [docs1] at hi; exact hi
            subst hi0
            rw [cell_block (heap_alloc_new wr _)]
            rfl
          have hal : Below w.heap.size w (wr.alloc (.cells #[.string ⟨#[98, 32, 97]⟩] 9)) := HBW.out.alloc HBW.out.size _
          generalize (wr.alloc (.cells #[.string ⟨#[98, 32, 97]⟩] 9)) = w6 at *
          refine (plainBuild_any docs1 _ w6 hst (by decide) (by decide)).mono ?_
          rintro e w7 ⟨sb2, rfl, hb7, hs7⟩
          obtain ⟨T2, hT2, hs7'⟩ := hs7.withTerms
          have hT2' := docs1_terms hT2
          subst hT2'
          have hb7' : Below w.heap.size w w7 := hal.trans (hb7.mono hal.size)
          have HB7 := Lib.hid hb7'
          have HS7 := Lib.hid hs7'
          clear hst hal hb7 hs7 hb7' hs7' hT2
          unfold ptrV
          go_wp2_with fail
          have ha := plainAll_any sb2 0 (docs1.map wordsB) [[97], [98]] w6.heap.size w7 HS7.out (by omega)
          unfold ptrV at ha
          refine ha.mono ?_
          clear ha
          rintro e w8 ⟨o4, rfl, hb8, hr8⟩
          have hr8' : w8.ownsRow 0 53 2 o4 2 (foundCells ((matchesOf (docs1.map wordsB) (allHits [[97], [98]])).take 2)) := hr8
          obtain ⟨g8, c8, rfl⟩ := ownsRow_head (n := 1) hr8'
          have z0 : w8.cell? ⟨g8, 0, none⟩ = some (.string ⟨#[97]⟩) := hr8'.cells (g := g8) rfl 0 _ rfl
          have hbf : Below w.heap.size w w8 := HB7.out.trans (hb8.mono HB7.out.size)
          have HBF := Lib.hid hbf
          clear hr8 hr8' hb8 hbf
          go_wp2_with fail
          go_ret
          exact ⟨rfl, HBF.out⟩
end Go.Proofs.Ts
